/- Programs, plainly: where one goes on, and which places are come to. -/
import Derived.Test.YthamolhikhcilaaDoorL12b
set_option maxRecDepth 100000
set_option linter.unusedVariables false
set_option linter.unusedSimpArgs false
namespace Go.Proofs.YthamolhikhcilaaDoor.K
open Go

/-! ### The table -/
def clsOf (o : Int) : Int := bif opcode_fine.t o then (lineOf o).2.2.1 else -1
def nameOf (o : Int) : ByteArray := bif opcode_fine.t o then (lineOf o).1 else bs []
def opRow (o : Int) : Bool := (((nameOf o).data.toList == (bs [104, 97, 108, 116]).data.toList) || ((nameOf o).data.toList == (bs [102, 97, 105, 108]).data.toList)) == (clsOf o == 5) && ((nameOf o).data.toList == (bs [114, 101, 116]).data.toList) == (o == 23) &&
  ((nameOf o).data.toList == (bs [106, 109, 112]).data.toList) == (o == 18) && (clsOf o == 3) == (decide (42 ≤ o) && decide (o ≤ 45)) && (!(o == 18) || (plcF (o, (0, (0, (0, ()))))).2)
theorem opRow_all : ((List.range 48).all fun o => opRow (o : Int)) = true := by kernel_rfl
theorem opRow_ok (o : Int) (h0 : 0 ≤ o) : opRow o = true := by
  by_cases h : o < 48
  · have h1 : o.toNat ∈ List.range 48 := List.mem_range.2 (by omega)
    have := List.all_eq_true.1 opRow_all _ h1
    rwa [Int.toNat_of_nonneg h0] at this
  · have hf : opcode_fine.t o = false := by
      cases hf : opcode_fine.t o with
      | false => rfl
      | true => have := (opfine_iff.1 hf).2; omega
    have e1 : (o == 23) = false := by simp; omega
    have e2 : (o == 18) = false := by simp; omega
    have e3 : decide (o ≤ 45) = false := by simp; omega
    unfold opRow clsOf nameOf
    rw [hf, e1, e2, e3, Bool.and_false]
    rfl
theorem isG_cls (x : In) : isG x = (clsOf x.1 == 3) := rfl
theorem isG_op {x : In} (h : InOK x) : isG x = (decide (42 ≤ x.1) && decide (x.1 ≤ 45)) := by
  have := opRow_ok x.1 h.o.1
  unfold opRow at this
  simp only [Bool.and_eq_true, beq_iff_eq] at this
  rw [isG_cls]
  exact this.1.2

/-! ### Where it goes on -/
def pairF (a p : Int) : List Int := if p = a then [a] else if a < p then [a, p] else [p, a]
/-- Where one may go on from a place. -/
def nextF (l : List In) (i : Nat) : List Int :=
  bif (l.getD i noIn).1 == 41 then [(i : Int) + 1 + (l.getD i noIn).2.2.2.1] else bif clsOf (l.getD i noIn).1 == 5 then [] else bif (l.getD i noIn).1 == 23 then [] else bif (l.getD i noIn).1 == 18 then [(plcF (l.getD i noIn)).1] else
    bif (plcF (l.getD i noIn)).2 then pairF ((i : Int) + 1) (plcF (l.getD i noIn)).1 else [(i : Int) + 1]
theorem compI_two (x y : Int) : compI [x, y] = if y = x then [x] else [x, y] := by
  unfold compI Lib.compactUpTo Lib.keeps
  by_cases h : y = x
  · subst h; simp [List.range_succ]
  · simp [List.range_succ, h]
theorem comp_pair (a p : Int) : compI (sortB leI [a, p]) = pairF a p := by
  unfold pairF
  simp only [sortB, insB, leI]
  by_cases h : a ≤ p
  · rw [decide_eq_true h, cond_true, compI_two]
    by_cases h2 : p = a
    · simp [h2]
    · rw [if_neg h2, if_neg h2, if_pos (by omega)]
  · rw [decide_eq_false h, cond_false, compI_two, if_neg (by omega), if_neg (by omega), if_neg (by omega)]
theorem next_u {l : List In} (h : PrOK l) (hl : l.length ≤ 1000) {i : Nat} (hi : i < l.length) : prog_next.u l (i : Int) = some (nextF l i) := by
  have hx := h.at i
  have hp := plc_nonneg hx
  unfold prog_next.u prog_next.s nextF
  obtain ⟨x, hX⟩ : ∃ x, l.getD i noIn = x := ⟨_, rfl⟩
  rw [idxOK_nat hi, cond_true, Int.toNat_natCast]
  simp only [hX] at hx hp ⊢
  have w1 : IntKind.wrap .i64 ((i : Int) + 1) = (i : Int) + 1 := wrapN ⟨by omega, by omega⟩
  have w2 : IntKind.wrap .i64 x.2.2.2.1 = x.2.2.2.1 := wrapN ⟨by have := hx.c; omega, by have := hx.c; omega⟩
  have w3 : IntKind.wrap .i64 ((i : Int) + 1 + x.2.2.2.1) = (i : Int) + 1 + x.2.2.2.1 := wrapN ⟨by have := hx.c; omega, by have := hx.c; omega⟩
  have w4 : IntKind.wrap .i64 x.1 = x.1 := wrapN ⟨by have := hx.o; omega, by have := hx.o; omega⟩
  have d1 : ∀ p : Int, decide (List.length [(i : Int) + 1, p] ≤ rowMax) = true := fun p => decide_eq_true (by simp [rowMax])
  have d2 : ∀ p : Int, (decide (0 < List.length (sortB leI [(i : Int) + 1, p])) && decide (List.length (sortB leI [(i : Int) + 1, p]) ≤ rowMax)) = true := fun p => by
    rw [sortB_length]; rfl
  simp only [place_u hx, Option.bind_some, w1, w2, w3, w4, class_u, d1, d2, cond_true, comp_pair]
  rw [show (bif opcode_fine.t x.1 then (lineOf x.1).2.2.1 else -1) = clsOf x.1 from rfl]
  cases (x.1 == 41) <;> cases (clsOf x.1 == 5) <;> cases (x.1 == 23) <;> cases (x.1 == 18) <;> cases (plcF x).2 <;> rfl
theorem next_len (l : List In) (i : Nat) : (nextF l i).length ≤ 2 := by
  unfold nextF pairF
  cases ((l.getD i noIn).1 == 41) <;> cases (clsOf (l.getD i noIn).1 == 5) <;> cases ((l.getD i noIn).1 == 23) <;> cases ((l.getD i noIn).1 == 18) <;> cases (plcF (l.getD i noIn)).2 <;> simp only [cond_true, cond_false] <;> (try split) <;> (try split) <;> simp
theorem refnext_u {l : List In} (h : PrOK l) (hl : l.length ≤ 1000) (hk : okPr l = true) {i : Nat} (hi : i < l.length) : ref12_Next.u l (i : Int) = some (nextF l i) := by
  have hx := h.at i
  have hp := plc_nonneg hx
  unfold ref12_Next.u ref12_Next.s nextF
  obtain ⟨x, hX⟩ : ∃ x, l.getD i noIn = x := ⟨_, rfl⟩
  rw [decide_eq_false (show ¬ ((i : Int) < 0) by omega), cond_false, decide_eq_false (show ¬ ((i : Int) ≥ ((List.length l : Nat) : Int)) by omega), cond_false, reffine_u h, Option.bind_some, hk, Bool.not_true, cond_false, idxOK_nat hi, cond_true, Int.toNat_natCast]
  simp only [hX] at hx hp ⊢
  have w1 : IntKind.wrap .i64 ((i : Int) + 1) = (i : Int) + 1 := wrapN ⟨by omega, by omega⟩
  have w2 : IntKind.wrap .i64 x.2.2.2.1 = x.2.2.2.1 := wrapN ⟨by have := hx.c; omega, by have := hx.c; omega⟩
  have w3 : IntKind.wrap .i64 ((i : Int) + 1 + x.2.2.2.1) = (i : Int) + 1 + x.2.2.2.1 := wrapN ⟨by have := hx.c; omega, by have := hx.c; omega⟩
  have w4 : IntKind.wrap .i64 x.1 = x.1 := wrapN ⟨by have := hx.o; omega, by have := hx.o; omega⟩
  have hof : ref09_Of.u x.1 = some (nameOf x.1, ((bif opcode_fine.t x.1 then lineOf x.1 else (bs [], (bs [], (-1, ())))).2)) := by
    rw [of_u]; unfold nameOf; cases opcode_fine.t x.1 <;> rfl
  have ht := opRow_ok x.1 hx.o.1
  unfold opRow at ht
  simp only [Bool.and_eq_true, beq_iff_eq] at ht
  obtain ⟨⟨⟨⟨t1, t2⟩, t3⟩, t4⟩, _⟩ := ht
  simp only [w1, w2, w3, w4, hof, Option.bind_some, refplace_u hx, ref12_Alting.t]
  rw [t2, t3, ← t1]
  have h41 : x.1 = 41 → ((nameOf x.1).data.toList == (bs [104, 97, 108, 116]).data.toList) = false ∧ ((nameOf x.1).data.toList == (bs [102, 97, 105, 108]).data.toList) = false ∧ (x.1 == 23) = false := by
    intro e; rw [e]; exact ⟨by kernel_rfl, by kernel_rfl, by decide⟩
  cases e41 : (x.1 == 41) with
  | true =>
    obtain ⟨a1, a2, a3⟩ := h41 (by simpa using e41)
    simp only [a1, a2, a3, cond_false, cond_true]
  | false =>
    simp only [cond_false]
    cases ((nameOf x.1).data.toList == (bs [104, 97, 108, 116]).data.toList) with
    | true => rfl
    | false =>
    cases ((nameOf x.1).data.toList == (bs [102, 97, 105, 108]).data.toList) with
    | true => rfl
    | false =>
    cases (x.1 == 23) with
    | true => rfl
    | false =>
    simp only [cond_false, Bool.or_self]
    cases (x.1 == 18) with
    | true => rfl
    | false =>
    simp only [cond_false]
    cases (plcF x).2 with
    | false => rfl
    | true =>
      simp only [Bool.not_true, cond_false, cond_true]
      unfold pairF
      by_cases e : (plcF x).1 = (i : Int) + 1
      · simp [e]
      · rw [if_neg e, show ((plcF x).1 == (i : Int) + 1) = false by simpa using e, cond_false]
        by_cases e2 : (i : Int) + 1 < (plcF x).1
        · simp only [if_pos e2, if_neg (show ¬ ((i : Int) + 1 > (plcF x).1) by omega)]
        · simp only [if_neg e2, if_pos (show (i : Int) + 1 > (plcF x).1 by omega)]

/-- What a program that may be is. -/
theorem check_all {l : List In} (h : PrOK l) (hl : l.length ≤ 64) {v : Int × Int} (hv : v.2 = 0) : ∀ (xs : List In) (a : Nat), l.drop a = xs → ref12_Check.g0 l some xs (a : Int) = some v → ∀ j, a ≤ j → j < l.length → wrF l j (ownF l j j) = 0
  | [], a, hd, hg, j, h1, h2 => by
    have : l.length ≤ a := List.drop_eq_nil_iff.1 hd
    omega
  | x :: xs, a, hd, hg, j, h1, h2 => by
    have ha : a < l.length := by
      rcases Nat.lt_or_ge a l.length with h' | h'
      · exact h'
      · rw [List.drop_eq_nil_of_le h'] at hd; cases hd
    have hd2 : l.drop (a + 1) = xs := by
      have := List.drop_eq_getElem_cons ha
      rw [hd] at this
      cases this; rfl
    simp only [ref12_Check.g0, one_u h hl ha, Option.bind_some] at hg
    cases he : (wrF l a (ownF l a a) != 0) with
    | true =>
      rw [he, cond_true] at hg
      cases hg
      have hv : wrF l a (ownF l a a) = 0 := hv
      rw [hv] at he
      cases he
    | false =>
      rw [he, cond_false] at hg
      rcases Nat.eq_or_lt_of_le h1 with rfl | h3
      · simpa [bne] using he
      · exact check_all h hl hv xs (a + 1) hd2 hg j h3 h2
structure FinePr (l : List In) : Prop where
  pr : PrOK l
  pos : 0 < l.length
  len : l.length ≤ 64
  wr : ∀ j, j < l.length → wrF l j (ownF l j j) = 0
  ok : okPr l = true
theorem finePr_of {l : List In} (h : PrOK l) (hk : okPr l = true) : FinePr l := by
  obtain ⟨v, v1, v2⟩ := check_law h
  have hk0 := hk
  unfold okPr at hk
  rw [v1] at hk
  have hv : v.2 = 0 := by simpa using hk
  unfold ref12_Check.u ref12_Check.w at v2
  cases h0 : (((List.length l : Nat) : Int) == 0) with
  | true => rw [h0, cond_true] at v2; cases v2; cases hv
  | false =>
    rw [h0, cond_false] at v2
    cases h1 : decide (((List.length l : Nat) : Int) > 64) with
    | true => rw [h1, cond_true] at v2; cases v2; cases hv
    | false =>
      have hl : l.length ≤ 64 := by have := of_decide_eq_false h1; omega
      rw [h1, cond_false, dec_len hl (by decide), cond_true] at v2
      exact ⟨h, by simp at h0; rcases l with _ | ⟨x, l⟩ <;> simp_all, hl, fun j hj => check_all h hl hv l 0 rfl v2 j (Nat.zero_le _) hj, hk0⟩
section
variable {l : List In} (h : FinePr l)
include h
theorem FinePr.parts {j : Nat} (hj : j < l.length) : chk (l.getD j noIn) = 0 ∧ (isG (l.getD j noIn) = true → ownF l j j = true) ∧ ((l.getD j noIn).1 = 41 → gdF l j (l.getD j noIn).2.2.2.1.toNat = true) ∧ ledF l (l.getD j noIn) = 0 := by
  have := h.wr j hj
  unfold wrF at this
  cases h1 : (chk (l.getD j noIn) != 0) with
  | true => rw [h1, cond_true] at this; rw [this] at h1; cases h1
  | false =>
    rw [h1, cond_false] at this
    cases h2 : (isG (l.getD j noIn) && !ownF l j j) with
    | true => rw [h2, cond_true] at this; cases this
    | false =>
      rw [h2, cond_false] at this
      cases h3 : (((l.getD j noIn).1 == 41) && !gdF l j (l.getD j noIn).2.2.2.1.toNat) with
      | true => rw [h3, cond_true] at this; cases this
      | false =>
        rw [h3, cond_false] at this
        refine ⟨by simpa [bne] using h1, fun e => ?_, fun e => ?_, this⟩
        · rw [e] at h2; simpa using h2
        · rw [e] at h3; simpa using h3
theorem FinePr.led {j : Nat} (hj : j < l.length) (hp : (plcF (l.getD j noIn)).2 = true) : (plcF (l.getD j noIn)).1 ≤ (l.length : Int) ∧ ((plcF (l.getD j noIn)).1 < (l.length : Int) → isG (l.getD (plcF (l.getD j noIn)).1.toNat noIn) = false) := by
  have := (h.parts hj).2.2.2
  unfold ledF at this
  rw [hp, cond_true] at this
  by_cases h1 : (plcF (l.getD j noIn)).1 > (l.length : Int)
  · rw [decide_eq_true h1, cond_true] at this; cases this
  · rw [decide_eq_false h1, cond_false] at this
    refine ⟨by omega, fun h2 => ?_⟩
    rw [decide_eq_true h2, Bool.true_and] at this
    cases hg : isG (l.getD (plcF (l.getD j noIn)).1.toNat noIn) with
    | false => rfl
    | true => rw [hg, cond_true] at this; cases this
theorem FinePr.guards {j k : Nat} (hj : j < l.length) (ha : (l.getD j noIn).1 = 41) (hk1 : j < k) (hk2 : (k : Int) ≤ (j : Int) + (l.getD j noIn).2.2.2.1) : k < l.length ∧ isG (l.getD k noIn) = true := by
  have := (h.parts hj).2.2.1 ha
  unfold gdF at this
  have h1 := List.all_eq_true.1 this (k - j) (by
    simp only [List.mem_range']
    exact ⟨k - j - 1, by omega, by omega⟩)
  simp only [Bool.and_eq_true, decide_eq_true_eq, show j + (k - j) = k by omega] at h1
  exact h1
/-- Where one goes on is within the program, or behind it; and no guard is come to from what is none. -/
theorem FinePr.next {i : Nat} (hi : i < l.length) {t : Int} (ht : t ∈ nextF l i) : 0 ≤ t ∧ t ≤ (l.length : Int) ∧ (isG (l.getD i noIn) = false → t < (l.length : Int) → isG (l.getD t.toNat noIn) = false) := by
  have hx := h.pr.at i
  have own : ∀ k : Nat, isG (l.getD i noIn) = false → i < k → (∀ q : Nat, i < q → q < k → isG (l.getD q noIn) = true) → ((l.getD i noIn).1 = 41 → (i : Int) + (l.getD i noIn).2.2.2.1 < k) → k < l.length → isG (l.getD k noIn) = false := by
    intro k hg hk hbt hal hkl
    cases hgk : isG (l.getD k noIn) with
    | false => rfl
    | true =>
      exfalso
      obtain ⟨a, h1, h2, h3⟩ := own_iff.1 ((h.parts hkl).2.1 hgk)
      rcases Nat.lt_trichotomy a i with h4 | rfl | h4
      · have := (h.guards (j := a) (k := i) (by omega) h2 h4 (by omega)).2
        rw [hg] at this; cases this
      · have := hal h2; omega
      · have := hbt a h4 h1
        rw [alt_notG h2] at this; cases this
  have one : t = (i : Int) + 1 → (l.getD i noIn).1 ≠ 41 → 0 ≤ t ∧ t ≤ (l.length : Int) ∧ (isG (l.getD i noIn) = false → t < (l.length : Int) → isG (l.getD t.toNat noIn) = false) := by
    rintro rfl h41
    refine ⟨by omega, by omega, fun hg hlt => ?_⟩
    rw [show ((i : Int) + 1).toNat = i + 1 by omega]
    exact own (i + 1) hg (by omega) (fun q h1 h2 => by omega) (fun e => absurd e h41) (by omega)
  have plc : t = (plcF (l.getD i noIn)).1 → (plcF (l.getD i noIn)).2 = true → 0 ≤ t ∧ t ≤ (l.length : Int) ∧ (isG (l.getD i noIn) = false → t < (l.length : Int) → isG (l.getD t.toNat noIn) = false) := by
    rintro rfl h2
    obtain ⟨h3, h4⟩ := h.led hi h2
    exact ⟨(plc_nonneg hx).1, h3, fun _ => h4⟩
  unfold nextF at ht
  cases e41 : ((l.getD i noIn).1 == 41) with
  | true =>
    have e : (l.getD i noIn).1 = 41 := by simpa using e41
    rw [e41, cond_true] at ht
    obtain rfl : t = (i : Int) + 1 + (l.getD i noIn).2.2.2.1 := by simpa using ht
    have hc := hx.c
    obtain ⟨c, hcc⟩ := Int.eq_ofNat_of_zero_le hc.1
    have hend : i + 1 + c ≤ l.length := by
      rcases Nat.eq_zero_or_pos c with rfl | hp
      · omega
      · have := (h.guards (j := i) (k := i + c) hi e (by omega) (by omega)).1
        omega
    rw [hcc] at ht ⊢
    refine ⟨by omega, by omega, fun hg hlt => ?_⟩
    rw [show ((i : Int) + 1 + (c : Int)).toNat = i + 1 + c by omega]
    exact own (i + 1 + c) hg (by omega) (fun q h1 h2 => (h.guards (j := i) (k := q) hi e h1 (by omega)).2) (fun _ => by omega) (by omega)
  | false =>
    have e : (l.getD i noIn).1 ≠ 41 := by simpa using e41
    rw [e41, cond_false] at ht
    cases e5 : (clsOf (l.getD i noIn).1 == 5) with
    | true => rw [e5, cond_true] at ht; cases ht
    | false =>
    rw [e5, cond_false] at ht
    cases e23 : ((l.getD i noIn).1 == 23) with
    | true => rw [e23, cond_true] at ht; cases ht
    | false =>
    rw [e23, cond_false] at ht
    cases e18 : ((l.getD i noIn).1 == 18) with
    | true =>
      rw [e18, cond_true] at ht
      have e' : (l.getD i noIn).1 = 18 := by simpa using e18
      refine plc (by simpa using ht) ?_
      unfold plcF
      rw [e', show opcode_fine.t 18 = true by kernel_rfl, show (bAt (lineOf 18).2.1 0 == 116) = true by kernel_rfl]
      rfl
    | false =>
    rw [e18, cond_false] at ht
    cases e2 : (plcF (l.getD i noIn)).2 with
    | false =>
      rw [e2, cond_false] at ht
      exact one (by simpa using ht) e
    | true =>
      rw [e2, cond_true] at ht
      unfold pairF at ht
      have : t = (i : Int) + 1 ∨ t = (plcF (l.getD i noIn)).1 := by
        split at ht
        · exact .inl (by simpa using ht)
        · split at ht
          · simpa using ht
          · simp at ht; exact ht.symm
      rcases this with h' | h'
      · exact one h' e
      · exact plc h' e2
theorem FinePr.first : isG (l.getD 0 noIn) = false := by
  cases hg : isG (l.getD 0 noIn) with
  | false => rfl
  | true =>
    obtain ⟨a, h1, _⟩ := own_iff.1 ((h.parts h.pos).2.1 hg)
    omega
end
end Go.Proofs.YthamolhikhcilaaDoor.K

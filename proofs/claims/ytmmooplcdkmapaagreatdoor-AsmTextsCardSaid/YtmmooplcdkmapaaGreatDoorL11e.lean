/- Assembly, plainly: a line is read, both ways. -/
import Derived.Test.YtmmooplcdkmapaaGreatDoorL11d
set_option maxRecDepth 100000
set_option linter.unusedVariables false
set_option linter.unusedSimpArgs false
namespace Go.Proofs.YtmmooplcdkmapaaGreatDoor.K
open Go

def dflt (c : Int) : Int := bif c == 110 then 1 else bif c == 115 then 1 else 0
theorem first_step {f : ByteArray} (hs : f.size = 3) {x : In} {d j : Nat} (hj : j < 3) (l : List Int) : asm_first.g0 f x some (d + 1) (j : Int) l = asm_first.g0 f x some d ((j + 1 : Nat) : Int) (l.set j (dflt (bAt f j))) := by
  rw [asm_first.g0, hs, idxOK_nat hj, cond_true, cond_true, cond_true, cond_true, Int.toNat_natCast]
  unfold dflt
  cases h1 : (bAt f j == 110) with
  | true => simp only [cond_true, List.set_set]; rfl
  | false =>
    cases h2 : (bAt f j == 115) with
    | true => simp only [cond_false, cond_true, List.set_set]; rfl
    | false => simp only [cond_false]; rfl
theorem dflt_in (c : Int) : 0 ≤ dflt c ∧ dflt c ≤ 255 := by
  unfold dflt
  cases (c == 110) <;> cases (c == 115) <;> decide
def fillU (f : ByteArray) (x : In) (i : Nat) : In := (x.1, (x.2.1, (if 1 ≤ i then x.2.2.1 else dflt (bAt f 1), (if 2 ≤ i then x.2.2.2.1 else dflt (bAt f 2), ()))))
theorem fillU_ok {f : ByteArray} {x : In} (hx : InOK x) (i : Nat) : InOK (fillU f x i) := by
  have h1 := dflt_in (bAt f 1)
  have h2 := dflt_in (bAt f 2)
  refine ⟨hx.o, hx.a, ?_, ?_⟩
  · show 0 ≤ (if 1 ≤ i then x.2.2.1 else dflt (bAt f 1)) ∧ (if 1 ≤ i then x.2.2.1 else dflt (bAt f 1)) ≤ 255
    split
    · exact hx.b
    · exact h1
  · show 0 ≤ (if 2 ≤ i then x.2.2.2.1 else dflt (bAt f 2)) ∧ (if 2 ≤ i then x.2.2.2.1 else dflt (bAt f 2)) ≤ 255
    split
    · exact hx.c
    · exact h2
theorem first_u {f : ByteArray} (hs : f.size = 3) {x : In} (hx : InOK x) {i : Nat} (hi : i < 3) : asm_first.u x f (i : Int) = some (chk (fillU f x i)) := by
  have hl : List.set (List.set (List.set (List.replicate 3 0) 0 x.2.1) 1 x.2.2.1) 2 x.2.2.2.1 = [x.2.1, x.2.2.1, x.2.2.2.1] := rfl
  have fin : ∀ a b c (i : Int), InOK (x.1, (a, (b, (c, ())))) → asm_first.g0 f x some 0 i [a, b, c] = some (chk (x.1, (a, (b, (c, ()))))) := fun a b c i h => by
    rw [asm_first.g0]
    show (instr_Check.u (x.1, (a, (b, (c, ()))))).bind _ = _
    rw [check_u h]; rfl
  have hok := fillU_ok (f := f) hx i
  unfold asm_first.u asm_first.w
  rw [hl]
  match i, hi, hok with
  | 0, _, hok =>
    show asm_first.g0 f x some 2 ((1 : Nat) : Int) _ = _
    rw [first_step hs (by omega), first_step hs (by omega)]
    exact fin _ _ _ _ hok
  | 1, _, hok =>
    show asm_first.g0 f x some 1 ((2 : Nat) : Int) _ = _
    rw [first_step hs (by omega)]
    exact fin _ _ _ _ hok
  | 2, _, hok =>
    show asm_first.g0 f x some 0 ((3 : Nat) : Int) _ = _
    exact fin _ _ _ _ hok
theorem wr_dflt {c : Int} (hc : c = 45 ∨ c = 114 ∨ c = 116 ∨ c = 99 ∨ c = 98 ∨ c = 112 ∨ c = 107 ∨ c = 109 ∨ c = 110 ∨ c = 103 ∨ c = 115 ∨ c = 105 ∨ c = 106) : wrongR c (dflt c) = 0 := by
  rcases hc with rfl | rfl | rfl | rfl | rfl | rfl | rfl | rfl | rfl | rfl | rfl | rfl | rfl <;> decide
/-- What the first fault is, where there is none ahead. -/
theorem chk_fill {x : In} (hf : opcode_fine.t x.1 = true) {i : Nat} (hi : i < 3) (h0 : 0 < i → wrongR (bAt (lineOf x.1).2.1 0) x.2.1 = 0) (h1 : 1 < i → wrongR (bAt (lineOf x.1).2.1 1) x.2.2.1 = 0) :
    chk (fillU (lineOf x.1).2.1 x i) = wrongR (bAt (lineOf x.1).2.1 i) (List.getD [x.2.1, x.2.2.1, x.2.2.2.1] i 0) := by
  have d1 := wr_dflt (lcase hf 1 (by omega) rfl)
  have d2 := wr_dflt (lcase hf 2 (by omega) rfl)
  have z : ∀ n : Int, (bif n != 0 then n else 0) = n := fun n => by
    by_cases h : n = 0
    · rw [h]; rfl
    · rw [bne_iff_ne.2 h]; rfl
  unfold chk fillU
  rw [hf, cond_true]
  match i, hi, h0, h1 with
  | 0, _, h0, h1 =>
    show (bif wrongR (bAt (lineOf x.1).2.1 0) x.2.1 != 0 then wrongR (bAt (lineOf x.1).2.1 0) x.2.1 else bif wrongR (bAt (lineOf x.1).2.1 1) (dflt (bAt (lineOf x.1).2.1 1)) != 0 then wrongR (bAt (lineOf x.1).2.1 1) (dflt (bAt (lineOf x.1).2.1 1)) else wrongR (bAt (lineOf x.1).2.1 2) (dflt (bAt (lineOf x.1).2.1 2))) = _
    rw [d1, d2]; exact z _
  | 1, _, h0, h1 =>
    show (bif wrongR (bAt (lineOf x.1).2.1 0) x.2.1 != 0 then wrongR (bAt (lineOf x.1).2.1 0) x.2.1 else bif wrongR (bAt (lineOf x.1).2.1 1) x.2.2.1 != 0 then wrongR (bAt (lineOf x.1).2.1 1) x.2.2.1 else wrongR (bAt (lineOf x.1).2.1 2) (dflt (bAt (lineOf x.1).2.1 2))) = _
    rw [h0 (by omega), d2]; exact z _
  | 2, _, h0, h1 =>
    show (bif wrongR (bAt (lineOf x.1).2.1 0) x.2.1 != 0 then wrongR (bAt (lineOf x.1).2.1 0) x.2.1 else bif wrongR (bAt (lineOf x.1).2.1 1) x.2.2.1 != 0 then wrongR (bAt (lineOf x.1).2.1 1) x.2.2.1 else wrongR (bAt (lineOf x.1).2.1 2) x.2.2.2.1) = _
    rw [h0 (by omega), h1 (by omega)]; rfl
theorem w8b {n : Int} (h : 0 ≤ n ∧ n ≤ 255) : IntKind.wrap .u8 n = n := w8 h.1 (by omega)
def doneF (c : Int) (rem : List ByteArray) (n : Int) : Int := bif (c == 103) && (rem.isEmpty && (n == 8)) then 0 else wrongR c n
theorem done_u {o a b d : Int} (hx : InOK (o, (a, (b, (d, ()))))) (hf : opcode_fine.t o = true) {i : Nat} (hi : i < 3) (h0 : 0 < i → wrongR (bAt (lineOf o).2.1 0) a = 0) (h1 : 1 < i → wrongR (bAt (lineOf o).2.1 1) b = 0) (g : In) (rem h2 : List ByteArray) :
    asm_reader_done.u o (i : Int) g (rem, ([a, b, d], ())) h2 = some (doneF (bAt (lineOf o).2.1 i) rem (List.getD [a, b, d] i 0), g, (rem, ([a, b, d], ())), h2, ()) := by
  have hs : (lineOf o).2.1.size = 3 := by
    obtain ⟨_, _, _, e, _⟩ := form3 hf
    rw [size_list, e]; rfl
  have fk := chk_fill (x := (o, (a, (b, (d, ()))))) hf hi h0 h1
  have fu : asm_first.u (o, (a, (b, (d, ())))) (lineOf o).2.1 (i : Int) = some (wrongR (bAt (lineOf o).2.1 i) (List.getD [a, b, d] i 0)) := (first_u hs hx hi).trans (congrArg some fk)
  have hxo := hx.o
  have hxa := hx.a
  have hxb := hx.b
  have hxc := hx.c
  have e0 : ((IntKind.wrap .u8 o, (IntKind.wrap .u8 (List.getD [a, b, d] 0 0), (IntKind.wrap .u8 (List.getD [a, b, d] 1 0), (IntKind.wrap .u8 (List.getD [a, b, d] 2 0), ())))) : In) = (o, (a, (b, (d, ())))) := by
    show ((IntKind.wrap .u8 o, (IntKind.wrap .u8 a, (IntKind.wrap .u8 b, (IntKind.wrap .u8 d, ())))) : In) = _
    rw [w8b hxo, w8b hxa, w8b hxb, w8b hxc]
  unfold asm_reader_done.u asm_reader_done.s doneF
  rw [form_u, hf, cond_true, Option.bind_some, hs, idxOK_nat hi, cond_true, Int.toNat_natCast, Option.bind_some]
  simp only [e0, fu, Option.bind_some]
  cases (bAt (lineOf o).2.1 i == 103) with
  | false => rfl
  | true =>
    cases rem with
    | cons w r => rw [len_ne]; rfl
    | nil =>
      cases (List.getD [a, b, d] i 0 == 8) <;> rfl

/-- One letter's step: what is wrong, what is left, what is held. -/
def stepA (c : Int) (i : Nat) (v : List Int) (rem : List ByteArray) : Int × List ByteArray × List Int :=
  bif c == 45 then (0, rem, v) else bif c == 106 then (0, rem, v) else
  bif (oneF c i v rem).1 != 0 then ((oneF c i v rem).1, [], []) else
  bif (c == 103) && (!rem.isEmpty && decide ((oneF c i v rem).2.2.getD i 0 ≥ 8)) then (8, [], []) else
  bif doneF c (oneF c i v rem).2.1 ((oneF c i v rem).2.2.getD i 0) != 0 then (doneF c (oneF c i v rem).2.1 ((oneF c i v rem).2.2.getD i 0), [], []) else (0, (oneF c i v rem).2)
def zIn : In := (0, (0, (0, (0, ()))))

/-- What a line's state keeps. -/
structure Iv (o : Int) (i : Nat) (v : List Int) : Prop where
  abd : ∃ a b d, v = [a, b, d] ∧ InOK (o, (a, (b, (d, ()))))
  ok : ∀ j, j < i → j < 3 → wrongR (bAt (lineOf o).2.1 j) (v.getD j 0) = 0
  nul : ∀ j, i ≤ j → j < 3 → bAt (lineOf o).2.1 j ≠ 106 → v.getD j 0 = 0
theorem lines_i : (kindsT.all fun l => (bAt l.2.1 0 != 105) && ((bAt l.2.1 2 != 105) && ((bAt l.2.1 1 != 105) || (bAt l.2.1 2 == 106)))) = true := by kernel_rfl
theorem line_i {o : Int} (h : opcode_fine.t o = true) : bAt (lineOf o).2.1 0 ≠ 105 ∧ bAt (lineOf o).2.1 2 ≠ 105 ∧ (bAt (lineOf o).2.1 1 = 105 → bAt (lineOf o).2.1 2 = 106) := by
  have := opfine_iff.1 h
  have hl : o.toNat < kindsT.length := by rw [table_len]; omega
  have hk := List.all_eq_true.1 lines_i (kindsT[o.toNat]) (List.getElem_mem hl)
  have e : lineOf o = kindsT[o.toNat] := by unfold lineOf; rw [List.getD_eq_getElem?_getD, List.getElem?_eq_getElem hl]; rfl
  rw [e]
  simp only [Bool.and_eq_true, Bool.or_eq_true, bne_iff_ne, beq_iff_eq] at hk
  exact ⟨hk.1, hk.2.1, fun h => hk.2.2.resolve_left (fun h' => h' h)⟩
theorem wr_lo {c n : Int} (hc : (c == 45) = false) : wrongR c n = 0 ↔ (ref10_ends.t c).1 ≤ n ∧ n ≤ (ref10_ends.t c).2 := by
  unfold wrongR
  rw [hc, cond_false]
  by_cases h1 : n < (ref10_ends.t c).1
  · rw [decide_eq_true h1]; simp; omega
  · by_cases h2 : n > (ref10_ends.t c).2
    · rw [decide_eq_false h1, decide_eq_true h2]; simp; omega
    · rw [decide_eq_false h1, decide_eq_false h2]; simp; omega
theorem wr_vals {c n : Int} (hc : (c == 45) = false) : wrongR c n = 0 ∨ wrongR c n = 8 := by
  unfold wrongR
  rw [hc, cond_false]
  cases decide (n < (ref10_ends.t c).1) <;> cases decide (n > (ref10_ends.t c).2) <;> simp
end Go.Proofs.YtmmooplcdkmapaaGreatDoor.K

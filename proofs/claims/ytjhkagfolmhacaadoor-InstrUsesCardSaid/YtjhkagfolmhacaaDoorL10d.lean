/- Which registers an instruction asks, and which get a word. -/
import Derived.Test.YtjhkagfolmhacaaDoorL10i
import Derived.Test.YtjhkagfolmhacaaDoorL02
import Derived.KernelRfl
set_option maxRecDepth 100000
set_option linter.unusedVariables false
set_option linter.unusedSimpArgs false
namespace Go.Proofs.YtjhkagfolmhacaaDoor.K
open Go

abbrev Mk := Bool × (Bool × Bool)
/-- Which operands of each opcode are registers that are asked. -/
def marksR : List Mk := [(false, false, false), (false, false, false), (false, true, false), (false, false, false), (false, true, true), (false, true, true), (false, true, true), (false, true, true), (false, true, true), (false, true, true), (false, true, true), (false, true, true), (false, true, true), (false, true, true), (false, true, false), (false, true, false), (false, true, true), (false, true, true), (false, false, false), (true, false, false), (true, false, false), (false, false, false), (false, false, false), (false, false, false), (false, true, false), (true, true, false), (false, false, false), (true, false, false), (false, false, false), (false, false, false), (false, false, true), (true, false, false), (true, false, false), (false, true, false), (false, false, false), (false, true, false), (false, false, false), (false, false, false), (false, false, false), (false, false, false), (false, false, false), (false, false, false), (false, false, true), (false, false, true), (true, false, true), (false, false, true), (false, false, false), (false, false, false)]
/-- .. that get a word. -/
def marksW : List Mk := [(false, false, false), (false, false, false), (true, false, false), (true, false, false), (true, false, false), (true, false, false), (true, false, false), (true, false, false), (true, false, false), (true, false, false), (true, false, false), (true, false, false), (true, false, false), (true, false, false), (true, false, false), (true, false, false), (true, false, false), (true, false, false), (false, false, false), (false, false, false), (false, false, false), (false, false, false), (false, false, false), (false, false, false), (true, false, false), (false, false, false), (false, false, false), (false, false, false), (true, false, false), (true, false, false), (true, false, false), (true, false, false), (false, false, false), (false, false, false), (false, true, false), (false, false, false), (false, false, false), (false, false, false), (false, false, false), (false, false, false), (true, false, false), (true, false, false), (false, true, false), (false, false, false), (false, false, false), (false, false, false), (true, false, false), (true, false, false)]
def regsOf (m : Mk) (x : In) : List Int := (bif m.1 then [x.2.1] else []) ++ ((bif m.2.1 then [x.2.2.1] else []) ++ (bif m.2.2 then [x.2.2.2.1] else []))
def noMk : Mk := (false, false, false)
theorem cases48 {o : Int} (h : 0 ≤ o ∧ o < 48) : o = 0 ∨ o = 1 ∨ o = 2 ∨ o = 3 ∨ o = 4 ∨ o = 5 ∨ o = 6 ∨ o = 7 ∨ o = 8 ∨ o = 9 ∨ o = 10 ∨ o = 11 ∨ o = 12 ∨ o = 13 ∨ o = 14 ∨ o = 15 ∨ o = 16 ∨ o = 17 ∨ o = 18 ∨ o = 19 ∨ o = 20 ∨ o = 21 ∨ o = 22 ∨ o = 23 ∨ o = 24 ∨ o = 25 ∨ o = 26 ∨ o = 27 ∨ o = 28 ∨ o = 29 ∨ o = 30 ∨ o = 31 ∨ o = 32 ∨ o = 33 ∨ o = 34 ∨ o = 35 ∨ o = 36 ∨ o = 37 ∨ o = 38 ∨ o = 39 ∨ o = 40 ∨ o = 41 ∨ o = 42 ∨ o = 43 ∨ o = 44 ∨ o = 45 ∨ o = 46 ∨ o = 47 := by omega

theorem reads_u {o a b c : Int} (ho : 0 ≤ o ∧ o < 48) (hi : InOK (o, (a, (b, (c, ()))))) (hk : chk (o, (a, (b, (c, ())))) = 0) : instr_Reads.u (o, (a, (b, (c, ())))) = (instr_rising.u (regsOf (List.getD marksR o.toNat noMk) (o, (a, (b, (c, ())))))).bind some := by
  unfold instr_Reads.u instr_Reads.s
  rw [check_u hi, hk]
  clear hi hk
  rcases cases48 ho with rfl | rfl | rfl | rfl | rfl | rfl | rfl | rfl | rfl | rfl | rfl | rfl | rfl | rfl | rfl | rfl | rfl | rfl | rfl | rfl | rfl | rfl | rfl | rfl | rfl | rfl | rfl | rfl | rfl | rfl | rfl | rfl | rfl | rfl | rfl | rfl | rfl | rfl | rfl | rfl | rfl | rfl | rfl | rfl | rfl | rfl | rfl | rfl <;> clear ho <;> kernel_rfl
theorem refreads_u {o a b c : Int} (ho : 0 ≤ o ∧ o < 48) (hi : InOK (o, (a, (b, (c, ()))))) (hk : chk (o, (a, (b, (c, ())))) = 0) : ref10_Reads.u (o, (a, (b, (c, ())))) = (ref10_some.u (o, (a, (b, (c, ())))) (List.getD marksR o.toNat noMk).1 (List.getD marksR o.toNat noMk).2.1 (List.getD marksR o.toNat noMk).2.2).bind some := by
  unfold ref10_Reads.u ref10_Reads.s
  rw [refcheck_u hi, hk]
  clear hi hk
  rcases cases48 ho with rfl | rfl | rfl | rfl | rfl | rfl | rfl | rfl | rfl | rfl | rfl | rfl | rfl | rfl | rfl | rfl | rfl | rfl | rfl | rfl | rfl | rfl | rfl | rfl | rfl | rfl | rfl | rfl | rfl | rfl | rfl | rfl | rfl | rfl | rfl | rfl | rfl | rfl | rfl | rfl | rfl | rfl | rfl | rfl | rfl | rfl | rfl | rfl <;> clear ho <;> kernel_rfl
theorem writes_u {o a b c : Int} (ho : 0 ≤ o ∧ o < 48) (hi : InOK (o, (a, (b, (c, ()))))) (hk : chk (o, (a, (b, (c, ())))) = 0) : instr_Writes.u (o, (a, (b, (c, ())))) = (instr_rising.u (regsOf (List.getD marksW o.toNat noMk) (o, (a, (b, (c, ())))))).bind some := by
  unfold instr_Writes.u instr_Writes.s
  rw [check_u hi, hk]
  clear hi hk
  rcases cases48 ho with rfl | rfl | rfl | rfl | rfl | rfl | rfl | rfl | rfl | rfl | rfl | rfl | rfl | rfl | rfl | rfl | rfl | rfl | rfl | rfl | rfl | rfl | rfl | rfl | rfl | rfl | rfl | rfl | rfl | rfl | rfl | rfl | rfl | rfl | rfl | rfl | rfl | rfl | rfl | rfl | rfl | rfl | rfl | rfl | rfl | rfl | rfl | rfl <;> clear ho <;> kernel_rfl
theorem refwrites_u {o a b c : Int} (ho : 0 ≤ o ∧ o < 48) (hi : InOK (o, (a, (b, (c, ()))))) (hk : chk (o, (a, (b, (c, ())))) = 0) : ref10_Writes.u (o, (a, (b, (c, ())))) = (ref10_some.u (o, (a, (b, (c, ())))) (List.getD marksW o.toNat noMk).1 (List.getD marksW o.toNat noMk).2.1 (List.getD marksW o.toNat noMk).2.2).bind some := by
  unfold ref10_Writes.u ref10_Writes.s
  rw [refcheck_u hi, hk]
  clear hi hk
  rcases cases48 ho with rfl | rfl | rfl | rfl | rfl | rfl | rfl | rfl | rfl | rfl | rfl | rfl | rfl | rfl | rfl | rfl | rfl | rfl | rfl | rfl | rfl | rfl | rfl | rfl | rfl | rfl | rfl | rfl | rfl | rfl | rfl | rfl | rfl | rfl | rfl | rfl | rfl | rfl | rfl | rfl | rfl | rfl | rfl | rfl | rfl | rfl | rfl | rfl <;> clear ho <;> kernel_rfl

theorem cases9 {n : Int} (h : 0 ≤ n ∧ n ≤ 8) : n = 0 ∨ n = 1 ∨ n = 2 ∨ n = 3 ∨ n = 4 ∨ n = 5 ∨ n = 6 ∨ n = 7 ∨ n = 8 := by omega
def Fine3 (l : Option (List Int)) : Bool := match l with | some l => decide (l.length ≤ 8) | none => false
theorem rs_none (o a b c : Int)  : instr_rising.u (regsOf (false, false, false) (o, (a, (b, (c, ()))))) = ref10_some.u (o, (a, (b, (c, ())))) false false false ∧ Fine3 (instr_rising.u (regsOf (false, false, false) (o, (a, (b, (c, ())))))) = true := by
  exact ⟨by kernel_rfl, by kernel_rfl⟩
theorem rs_a (o a b c : Int) (ha : 0 ≤ a ∧ a ≤ 8) : instr_rising.u (regsOf (true, false, false) (o, (a, (b, (c, ()))))) = ref10_some.u (o, (a, (b, (c, ())))) true false false ∧ Fine3 (instr_rising.u (regsOf (true, false, false) (o, (a, (b, (c, ())))))) = true := by
  rcases cases9 ha with rfl | rfl | rfl | rfl | rfl | rfl | rfl | rfl | rfl <;> clear ha <;>
  exact ⟨by kernel_rfl, by kernel_rfl⟩
theorem rs_b (o a b c : Int) (hb : 0 ≤ b ∧ b ≤ 8) : instr_rising.u (regsOf (false, true, false) (o, (a, (b, (c, ()))))) = ref10_some.u (o, (a, (b, (c, ())))) false true false ∧ Fine3 (instr_rising.u (regsOf (false, true, false) (o, (a, (b, (c, ())))))) = true := by
  rcases cases9 hb with rfl | rfl | rfl | rfl | rfl | rfl | rfl | rfl | rfl <;> clear hb <;>
  exact ⟨by kernel_rfl, by kernel_rfl⟩
theorem rs_c (o a b c : Int) (hc : 0 ≤ c ∧ c ≤ 8) : instr_rising.u (regsOf (false, false, true) (o, (a, (b, (c, ()))))) = ref10_some.u (o, (a, (b, (c, ())))) false false true ∧ Fine3 (instr_rising.u (regsOf (false, false, true) (o, (a, (b, (c, ())))))) = true := by
  rcases cases9 hc with rfl | rfl | rfl | rfl | rfl | rfl | rfl | rfl | rfl <;> clear hc <;>
  exact ⟨by kernel_rfl, by kernel_rfl⟩
theorem rs_ab (o a b c : Int) (ha : 0 ≤ a ∧ a ≤ 8) (hb : 0 ≤ b ∧ b ≤ 8) : instr_rising.u (regsOf (true, true, false) (o, (a, (b, (c, ()))))) = ref10_some.u (o, (a, (b, (c, ())))) true true false ∧ Fine3 (instr_rising.u (regsOf (true, true, false) (o, (a, (b, (c, ())))))) = true := by
  rcases cases9 ha with rfl | rfl | rfl | rfl | rfl | rfl | rfl | rfl | rfl <;> clear ha <;>
  rcases cases9 hb with rfl | rfl | rfl | rfl | rfl | rfl | rfl | rfl | rfl <;> clear hb <;>
  exact ⟨by kernel_rfl, by kernel_rfl⟩
theorem rs_bc (o a b c : Int) (hb : 0 ≤ b ∧ b ≤ 8) (hc : 0 ≤ c ∧ c ≤ 8) : instr_rising.u (regsOf (false, true, true) (o, (a, (b, (c, ()))))) = ref10_some.u (o, (a, (b, (c, ())))) false true true ∧ Fine3 (instr_rising.u (regsOf (false, true, true) (o, (a, (b, (c, ())))))) = true := by
  rcases cases9 hb with rfl | rfl | rfl | rfl | rfl | rfl | rfl | rfl | rfl <;> clear hb <;>
  rcases cases9 hc with rfl | rfl | rfl | rfl | rfl | rfl | rfl | rfl | rfl <;> clear hc <;>
  exact ⟨by kernel_rfl, by kernel_rfl⟩
theorem rs_ac (o a b c : Int) (ha : 0 ≤ a ∧ a ≤ 8) (hc : 0 ≤ c ∧ c ≤ 8) : instr_rising.u (regsOf (true, false, true) (o, (a, (b, (c, ()))))) = ref10_some.u (o, (a, (b, (c, ())))) true false true ∧ Fine3 (instr_rising.u (regsOf (true, false, true) (o, (a, (b, (c, ())))))) = true := by
  rcases cases9 ha with rfl | rfl | rfl | rfl | rfl | rfl | rfl | rfl | rfl <;> clear ha <;>
  rcases cases9 hc with rfl | rfl | rfl | rfl | rfl | rfl | rfl | rfl | rfl <;> clear hc <;>
  exact ⟨by kernel_rfl, by kernel_rfl⟩

/-- Marked operands are registers, or none. -/
def inR (m : Mk) (x : In) : Prop := (m.1 = true → 0 ≤ x.2.1 ∧ x.2.1 ≤ 8) ∧ (m.2.1 = true → 0 ≤ x.2.2.1 ∧ x.2.2.1 ≤ 8) ∧ (m.2.2 = true → 0 ≤ x.2.2.2.1 ∧ x.2.2.2.1 ≤ 8)
theorem rs_all {m : Mk} (h3 : (m.1 && m.2.1 && m.2.2) = false) {x : In} (h : inR m x) : instr_rising.u (regsOf m x) = ref10_some.u x m.1 m.2.1 m.2.2 ∧ Fine3 (instr_rising.u (regsOf m x)) = true := by
  obtain ⟨o, a, b, c, u⟩ := x
  obtain ⟨ma, mb, mc⟩ := m
  obtain ⟨h1, h2, h4⟩ := h
  cases ma <;> cases mb <;> cases mc
  · exact rs_none o a b c
  · exact rs_c o a b c (h4 rfl)
  · exact rs_b o a b c (h2 rfl)
  · exact rs_bc o a b c (h2 rfl) (h4 rfl)
  · exact rs_a o a b c (h1 rfl)
  · exact rs_ac o a b c (h1 rfl) (h4 rfl)
  · exact rs_ab o a b c (h1 rfl) (h2 rfl)
  · cases h3

/-- A mark stands where the opcode's form says a register. -/
def marked (m : Mk) (l : Ln) : Bool := !(m.1 && m.2.1 && m.2.2) && (!m.1 || bAt l.2.1 0 == 114 || bAt l.2.1 0 == 103) && (!m.2.1 || bAt l.2.1 1 == 114 || bAt l.2.1 1 == 103) && (!m.2.2 || bAt l.2.1 2 == 114 || bAt l.2.1 2 == 103)
theorem marksR_ok : ((List.range 48).all fun i => marked (List.getD marksR i noMk) (List.getD kindsT i noLine)) = true := by kernel_rfl
theorem marksW_ok : ((List.range 48).all fun i => marked (List.getD marksW i noMk) (List.getD kindsT i noLine)) = true := by kernel_rfl
theorem wrong_reg {l n : Int} (hl : (l == 114 || l == 103) = true) (h : wrongR l n = 0) : 0 ≤ n ∧ n ≤ 8 := by
  have hw : ∀ (hi : Int), hi ≤ 8 → (bif decide (n < 0) then (8 : Int) else bif decide (n > hi) then 8 else 0) = 0 → 0 ≤ n ∧ n ≤ 8 := by
    intro hi h8 h
    by_cases h1 : n < 0
    · rw [decide_eq_true h1] at h; cases h
    · rw [decide_eq_false h1, cond_false] at h
      by_cases h2 : n > hi
      · rw [decide_eq_true h2] at h; cases h
      · omega
  simp only [Bool.or_eq_true, beq_iff_eq] at hl
  rcases hl with rfl | rfl
  · rw [wrongR_of (lo := 0) (hi := 7) rfl rfl] at h
    exact hw 7 (by decide) h
  · rw [wrongR_of (lo := 0) (hi := 8) rfl rfl] at h
    exact hw 8 (by decide) h
theorem chk_zero {x : In} (h : chk x = 0) : opcode_fine.t x.1 = true ∧ wrongR (bAt (lineOf x.1).2.1 0) x.2.1 = 0 ∧ wrongR (bAt (lineOf x.1).2.1 1) x.2.2.1 = 0 ∧ wrongR (bAt (lineOf x.1).2.1 2) x.2.2.2.1 = 0 := by
  unfold chk at h
  cases hf : opcode_fine.t x.1 with
  | false => rw [hf] at h; cases h
  | true =>
    rw [hf, cond_true] at h
    by_cases h0 : wrongR (bAt (lineOf x.1).2.1 0) x.2.1 = 0
    · rw [h0] at h
      by_cases h1 : wrongR (bAt (lineOf x.1).2.1 1) x.2.2.1 = 0
      · rw [h1] at h
        exact ⟨rfl, h0, h1, h⟩
      · rw [show ((0 : Int) != 0) = false from rfl, cond_false, bne_iff_ne.2 h1, cond_true] at h; exact absurd h h1
    · rw [bne_iff_ne.2 h0, cond_true] at h; exact absurd h h0
theorem inR_of {m : Mk} {x : In} (hm : marked m (lineOf x.1) = true) (h : chk x = 0) : (m.1 && m.2.1 && m.2.2) = false ∧ inR m x := by
  obtain ⟨_, h0, h1, h2⟩ := chk_zero h
  unfold marked at hm
  simp only [Bool.and_eq_true, Bool.not_eq_true', Bool.or_assoc] at hm
  obtain ⟨⟨⟨q0, q1⟩, q2⟩, q3⟩ := hm
  refine ⟨q0, fun e => wrong_reg ?_ h0, fun e => wrong_reg ?_ h1, fun e => wrong_reg ?_ h2⟩
  · rw [e] at q1; exact q1
  · rw [e] at q2; exact q2
  · rw [e] at q3; exact q3
theorem fine3 {l : Option (List Int)} (h : Fine3 l = true) : ∃ v, l = some v ∧ v.length ≤ 1000000 := by
  cases l with
  | none => cases h
  | some v => exact ⟨v, rfl, Nat.le_trans (of_decide_eq_true h) (by decide)⟩
theorem nochk {x : In} (h : InOK x) (hk : chk x ≠ 0) : instr_Reads.u x = some [] ∧ ref10_Reads.u x = some [] ∧ instr_Writes.u x = some [] ∧ ref10_Writes.u x = some [] := by
  have hb := bne_iff_ne.2 hk
  refine ⟨?_, ?_, ?_, ?_⟩
  · unfold instr_Reads.u instr_Reads.s; rw [check_u h, Option.bind_some, hb]; rfl
  · unfold ref10_Reads.u ref10_Reads.s; rw [refcheck_u h, Option.bind_some, hb]; rfl
  · unfold instr_Writes.u instr_Writes.s; rw [check_u h, Option.bind_some, hb]; rfl
  · unfold ref10_Writes.u ref10_Writes.s; rw [refcheck_u h, Option.bind_some, hb]; rfl
theorem uses_of {x : In} {a b c d : List Int} (h1 : instr_Reads.u x = some a) (h2 : ref10_Reads.u x = some a) (h3 : instr_Writes.u x = some b) (h4 : ref10_Writes.u x = some b) (ha : a.length ≤ 1000000) (hb : b.length ≤ 1000000) : law10_InstrUses.u x = some true := by
  unfold law10_InstrUses.u law10_InstrUses.s
  rw [h1, h2, h3, h4]
  simp only [Option.bind_some, same_u ha, same_u hb, cond_true, alive10]
theorem law_uses {x : In} (h : InOK x) : law10_InstrUses.u x = some true := by
  by_cases hk : chk x = 0
  · have hf := opfine_iff.1 (chk_zero hk).1
    obtain ⟨o, a, b, c, u⟩ := x
    have hl : o.toNat < 48 := by have := hf; simp only at this; omega
    have mr : marked (List.getD marksR o.toNat noMk) (lineOf o) = true := List.all_eq_true.1 marksR_ok _ (List.mem_range.2 hl)
    have mw : marked (List.getD marksW o.toNat noMk) (lineOf o) = true := List.all_eq_true.1 marksW_ok _ (List.mem_range.2 hl)
    obtain ⟨r3, ri⟩ := inR_of (x := (o, (a, (b, (c, u))))) mr hk
    obtain ⟨w3, wi⟩ := inR_of (x := (o, (a, (b, (c, u))))) mw hk
    obtain ⟨re, rf⟩ := rs_all r3 ri
    obtain ⟨we, wf⟩ := rs_all w3 wi
    obtain ⟨v, hv, lv⟩ := fine3 rf
    obtain ⟨z, hz, lz⟩ := fine3 wf
    refine uses_of (a := v) (b := z) (c := []) (d := []) ?_ ?_ ?_ ?_ lv lz
    · rw [reads_u hf h hk, hv]; rfl
    · rw [refreads_u hf h hk, ← re, hv]; rfl
    · rw [writes_u hf h hk, hz]; rfl
    · rw [refwrites_u hf h hk, ← we, hz]; rfl
  · obtain ⟨h1, h2, h3, h4⟩ := nochk h hk
    exact uses_of (c := []) (d := []) h1 h2 h3 h4 (by decide) (by decide)
theorem row_InstrUses (xs : Args [tyIn]) (h : fitsA _ xs) : law10_InstrUses.u xs.1 = some true := law_uses (inOK_of h.1)
end Go.Proofs.YtjhkagfolmhacaaDoor.K

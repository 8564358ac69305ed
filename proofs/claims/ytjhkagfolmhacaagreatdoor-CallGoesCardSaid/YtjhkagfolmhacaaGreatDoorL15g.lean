/- Who is woken goes on: where, and that it may be. -/
import Derived.Test.YtjhkagfolmhacaaGreatDoorL15f
import Derived.Test.YtjhkagfolmhacaaGreatDoorL02
set_option maxRecDepth 100000
set_option linter.unusedVariables false
set_option linter.unusedSimpArgs false
namespace Go.Proofs.YtjhkagfolmhacaaGreatDoor.K
open Go

theorem fine_sets {f : Fr} (h : FrFine f = true) {p : Int} (hp : frame_place.t p = true) {rs : List Int} (hr : rs.all word_Fine.t = true) (bad : Bool) : FrFine (p, (bad, (rs, f.2.2.2))) = true := by
  unfold FrFine at h ⊢
  simp only [Bool.and_eq_true] at h ⊢
  exact ⟨⟨⟨hp, h.1.1.2⟩, hr, h.1.2.2⟩, h.2⟩
theorem regs_all {f : Fr} (h : FrFine f = true) : f.2.2.1.all word_Fine.t = true := by
  unfold FrFine at h
  simp only [Bool.and_eq_true] at h
  exact h.1.2.1
/-- Where it goes on. -/
def onP (x : In) (f : Fr) : Int := bif x.1 == 41 then f.1 + 1 + x.2.2.2.1 else f.1 + 1
structure Went (x : In) (f f' : Fr) : Prop where
  at_ : f'.1 = onP x f
  fine : FrFine f' = true
  ok : FrOK f'
  rest : f'.2.2.2 = f.2.2.2
theorem wake_u {l : List In} {f : Fr} {x : In} (hv : call_asking.u l f = some (x, 0)) (hw : call_waits.t x = true) (hF : FrOK f) (hf : FrFine f = true) (hp0 : 0 ≤ f.1 ∧ f.1 ≤ 64) (hx : InOK x) (hp : frame_place.t (onP x f) = true) (ha : (x.1 == 41) = true → idxOK x.2.1 8 = true) {g : Gd} (hg : GOK g) {n : Int} (hn : word_Fine.t n = true) (bad : Bool) : ∃ f', call_Wake.u l f g n bad = some (f', 0) ∧ Went x f f' := by
  obtain ⟨g1, g2, g3, g4⟩ := hg
  have hi : idxOK g.2.2.2.1 8 = true := idxOK_of g3 (by omega)
  have hno : word_Fine.t g.2.2.2.2.1 = true := fine_iff.2 ⟨by omega, by omega⟩
  have hwr : call_wrong.t g n = false := by
    unfold call_wrong.t
    rw [decide_eq_false (show ¬ (g.2.2.2.2.1 < 0) by omega), decide_eq_false (show ¬ (g.2.2.2.2.1 ≥ 6) by omega), decide_eq_false (show ¬ (g.2.2.2.1 < 0) by omega), decide_eq_false (show ¬ (g.2.2.2.1 ≥ 8) by omega), hn]
    rfl
  have hc := hx.c
  have w1 : IntKind.wrap .i64 (f.1 + 1) = f.1 + 1 := wrapN ⟨by omega, by omega⟩
  have wc : IntKind.wrap .i64 x.2.2.2.1 = x.2.2.2.1 := wrapN ⟨by omega, by omega⟩
  have w2 : IntKind.wrap .i64 (f.1 + 1 + x.2.2.2.1) = f.1 + 1 + x.2.2.2.1 := wrapN ⟨by omega, by omega⟩
  have ra := regs_all hf
  have s1 : (List.set f.2.2.1 (Int.toNat g.2.2.2.1) n).all word_Fine.t = true := all_set _ ra hn
  have s2 : ∀ rs : List Int, rs.all word_Fine.t = true → (List.set rs (Int.toNat x.2.1) g.2.2.2.2.1).all word_Fine.t = true := fun rs h => all_set _ h hno
  have fin : ∀ (rs : List Int) (b : Bool), rs.all word_Fine.t = true → rs.length = 8 → Went x f (onP x f, (b, (rs, f.2.2.2))) := fun rs b h1 h2 => ⟨rfl, fine_sets hf hp h1 b, ⟨h2, hF.m, hF.s⟩, rfl⟩
  have l1 : (List.set f.2.2.1 (Int.toNat g.2.2.2.1) n).length = 8 := by rw [List.length_set]; exact hF.r
  unfold call_Wake.u call_Wake.s
  rw [hv]
  simp only [Option.bind_some, bne_self_eq_false, cond_false, hw, Bool.not_true, hwr, hi, cond_true, w1, wc, w2]
  cases h41 : (x.1 == 41) with
  | true =>
    have hon : onP x f = f.1 + 1 + x.2.2.2.1 := by unfold onP; rw [h41]; rfl
    rw [← hon, ha h41]
    cases (g.1 == 1) <;> cases bad <;> cases (g.1 == 6) <;> simp only [Bool.not_true, Bool.not_false, cond_true, cond_false] <;>
      first
      | exact ⟨_, rfl, fin _ _ (s2 _ s1) (by rw [List.length_set]; exact l1)⟩
      | exact ⟨_, rfl, fin _ _ (s2 _ ra) (by rw [List.length_set]; exact hF.r)⟩
  | false =>
    have hon : onP x f = f.1 + 1 := by unfold onP; rw [h41]; rfl
    rw [← hon]
    cases (g.1 == 1) <;> cases bad <;> cases (g.1 == 6) <;> simp only [Bool.not_true, Bool.not_false, cond_true, cond_false] <;>
      first
      | exact ⟨_, rfl, fin _ _ s1 l1⟩
      | exact ⟨_, rfl, fin _ _ ra hF.r⟩
/-- No deed leads to a place. -/
theorem asks_noplace : ((List.range 48).all fun n => !(asksO ((n : Int), (0, (0, (0, ()))))) || (!(bAt (lineOf (n : Int)).2.1 0 == 116) && !(bAt (lineOf (n : Int)).2.1 1 == 116) && !(bAt (lineOf (n : Int)).2.1 2 == 116) && !((lineOf (n : Int)).2.2.1 == 5) && !(n == 23) && !(n == 18))) = true := by kernel_rfl
theorem next_u {l : List In} (h : PrOK l) {f : Fr} {x : In} (hA : Asked l f x) (hp : 0 ≤ f.1 ∧ f.1 ≤ 64) : prog_Next.u l f.1 = some [onP x f] := by
  have hx := hA.here
  have hi : InOK x := by rw [← hx]; exact h.at _
  have hc : chk x = 0 := by rw [← hx]; exact ok_chk h hA.ok hA.hi
  have hlt := hA.hi
  have hf := (chk_parts hc).1
  have hr := opfine_iff.1 hf
  have tab := List.all_eq_true.1 asks_noplace x.1.toNat (List.mem_range.2 (by omega))
  have e : asksO (((x.1.toNat : Nat) : Int), (0, (0, (0, ())))) = asksO x := by unfold asksO; rw [show ((x.1.toNat : Nat) : Int) = x.1 by omega]
  rw [e, hA.asks, show ((x.1.toNat : Nat) : Int) = x.1 by omega] at tab
  simp only [Bool.not_true, Bool.false_or, Bool.and_eq_true, Bool.not_eq_true'] at tab
  obtain ⟨⟨⟨⟨⟨t0, t1⟩, t2⟩, t3⟩, t4⟩, t5⟩ := tab
  have hpl : (plcF x).2 = false := by
    unfold plcF
    rw [hf, t0, t1, t2]
    rfl
  have w1 : IntKind.wrap .i64 (f.1 + 1) = f.1 + 1 := wrapN ⟨by omega, by omega⟩
  have hcc := hi.c
  have wc : IntKind.wrap .i64 x.2.2.2.1 = x.2.2.2.1 := wrapN ⟨by omega, by omega⟩
  have w2 : IntKind.wrap .i64 (f.1 + 1 + x.2.2.2.1) = f.1 + 1 + x.2.2.2.1 := wrapN ⟨by omega, by omega⟩
  have wo : IntKind.wrap .i64 x.1 = x.1 := wrapN ⟨by omega, by omega⟩
  have n23 : (x.1 == 23) = false := by
    rw [beq_eq_false_iff_ne]; intro e2; rw [e2] at t4; cases t4
  have n18 : (x.1 == 18) = false := by
    rw [beq_eq_false_iff_ne]; intro e2; rw [e2] at t5; cases t5
  have hfine : prog_fine.u l = some true := by
    obtain ⟨v, v1, v2⟩ := check_law h
    have ho := hA.ok
    unfold okPr at ho
    rw [v1] at ho
    unfold prog_fine.u prog_fine.s
    rw [v1, Option.bind_some]
    simpa using ho
  unfold prog_Next.u prog_Next.s prog_next.u prog_next.s
  rw [decide_eq_false (show ¬ (f.1 < 0) by omega), decide_eq_false (show ¬ (f.1 ≥ ((List.length l : Nat) : Int)) by omega), hfine]
  simp only [cond_false, Option.bind_some, Bool.not_true, idxOK_of hp.1 (show f.1 < ((List.length l : Nat) : Int) by omega), cond_true]
  rw [show List.getD l (Int.toNat f.1) ((0, (0, (0, (0, ())))) : In) = x from hx, place_u hi]
  simp only [Option.bind_some, wo, class_u, hf, cond_true, t3, n23, n18, hpl, cond_false, w1, wc, w2]
  unfold onP
  cases (x.1 == 41) <;> rfl
end Go.Proofs.YtjhkagfolmhacaaGreatDoor.K

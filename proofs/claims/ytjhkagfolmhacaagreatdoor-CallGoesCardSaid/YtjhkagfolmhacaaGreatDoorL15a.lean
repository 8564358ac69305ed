/- What a process asks for, plainly: who asks, guards that are the same, instants. -/
import Derived.Test.YtjhkagfolmhacaaGreatDoorZ15
import Derived.Test.YtjhkagfolmhacaaGreatDoorL14c
import Derived.Test.YtjhkagfolmhacaaGreatDoorL10i
import Derived.KernelRfl
set_option maxRecDepth 100000
set_option linter.unusedVariables false
set_option linter.unusedSimpArgs false
namespace Go.Proofs.YtjhkagfolmhacaaGreatDoor.K
open Go

abbrev Gd := Int × (Int × (Int × (Int × (Int × Unit))))
abbrev AskT := Int × (Int × (Int × (Int × (Int × (List Gd × Unit)))))
abbrev tyGd : ETy := .pair (.int .i64) (.pair (.int .i64) (.pair (.int .i64) (.pair (.int .i64) (.pair (.int .i64) .unit))))
theorem eqGd (x : Gd) : eqI tyGd x x = true := eqI_self tyGd x rfl

theorem sameG_go (ys : List Gd) : ∀ (xs : List Gd) (n : Nat), ys.drop n = xs → ref15_SameGuards.g0 ys ys some xs (n : Int) = some true
  | [], n, h => rfl
  | x :: xs, n, h => by
    have hn : n < ys.length := by
      rcases Nat.lt_or_ge n ys.length with h' | h'
      · exact h'
      · rw [List.drop_eq_nil_of_le h'] at h; cases h
    have h1 := List.drop_eq_getElem_cons hn
    rw [h] at h1
    cases h1
    have hx : List.getD ys (Int.toNat (n : Int)) ((0, (0, (0, (0, (0, ()))))) : Gd) = ys[n] := by
      rw [Int.toNat_natCast, List.getD_eq_getElem?_getD, List.getElem?_eq_getElem hn]; rfl
    have hi : idxOK (n : Int) (List.length ys) = true := by rw [idxOK_iff]; omega
    simp only [ref15_SameGuards.g0, hi, cond_true, hx]
    rw [show eqI tyGd ys[n] ys[n] = true from eqGd _]
    simp only [Bool.not_true, cond_false]
    exact sameG_go ys _ (n + 1) rfl
theorem sameG_u {l : List Gd} (h : l.length ≤ 1000000) : ref15_SameGuards.u l l = some true := by
  unfold ref15_SameGuards.u ref15_SameGuards.w
  rw [bne_self_eq_false, cond_false, decide_eq_true (by omega), cond_true]
  exact sameG_go l l 0 rfl
theorem sameA_u {a : AskT} (h : a.2.2.2.2.2.1.length ≤ 1000000) : ref15_Same.u a a = some true := by
  unfold ref15_Same.u ref15_Same.s
  simp only [beq_self_eq_true, cond_true, sameG_u h, Option.bind_some]

theorem later_eq {now r : Int} (h : ref05_Fine.t now = true) (hr : -2147483648 ≤ r ∧ r ≤ 2147483647) : (clock_After.t now r).1 = (ref05_After.t now r).1 := by
  have hn : 0 ≤ now ∧ now ≤ 1099511627776 := by
    unfold ref05_Fine.t at h
    by_cases h0 : now ≥ 0
    · rw [decide_eq_true h0, cond_true] at h
      exact ⟨h0, of_decide_eq_true h⟩
    · rw [decide_eq_false h0] at h; cases h
  have hf : clock_Fine.t now = true := by
    unfold clock_Fine.t clock_held_int.t
    rw [beq_iff_eq]
    simp only
    repeat' split
    all_goals omega
  unfold clock_After.t ref05_After.t
  rw [hf, h]
  simp only [Bool.not_true, cond_false]
  unfold clock_later.t clock_held_int.t ref05_Tick.t
  rw [h]
  simp only [Bool.not_true, cond_false]
  rw [wrapN (x := 1099511627776 - now) ⟨by omega, by omega⟩]
  by_cases h1 : r < 0
  · rw [decide_eq_true h1, cond_true]
    have : (if (if (1099511627776 - now : Int) < r then 1099511627776 - now else r) > 0 then (if (1099511627776 - now : Int) < r then 1099511627776 - now else r) else 0) = 0 := by
      repeat' split
      all_goals omega
    rw [this, wrapN ⟨by omega, by omega⟩]; omega
  · rw [decide_eq_false h1, cond_false, cond_false]
    by_cases h2 : r > 1099511627776 - now
    · rw [decide_eq_true h2, cond_true]
      have : (if (if (1099511627776 - now : Int) < r then 1099511627776 - now else r) > 0 then (if (1099511627776 - now : Int) < r then 1099511627776 - now else r) else 0) = 1099511627776 - now := by
        repeat' split
        all_goals omega
      rw [this, wrapN ⟨by omega, by omega⟩]; show now + (1099511627776 - now) = 1099511627776; omega
    · rw [decide_eq_false h2, cond_false]
      have : (if (if (1099511627776 - now : Int) < r then 1099511627776 - now else r) > 0 then (if (1099511627776 - now : Int) < r then 1099511627776 - now else r) else 0) = r := by
        repeat' split
        all_goals omega
      rw [this]

theorem cfine_eq (now : Int) : clock_Fine.t now = ref05_Fine.t now := by
  unfold clock_Fine.t clock_held_int.t ref05_Fine.t
  by_cases h0 : now ≥ 0
  · rw [decide_eq_true h0, cond_true]
    by_cases h1 : now ≤ 1099511627776
    · rw [decide_eq_true h1, beq_iff_eq]
      simp only
      repeat' split
      all_goals omega
    · rw [decide_eq_false h1, beq_eq_false_iff_ne]
      simp only
      repeat' split
      all_goals omega
  · rw [decide_eq_false h0, cond_false, beq_eq_false_iff_ne]
    simp only
    repeat' split
    all_goals omega

/-- What an instruction's class is, that asks. -/
def asksO (x : In) : Bool := ((lineOf x.1).2.2.1 == 2) || ((lineOf x.1).2.2.1 == 4)
structure Asked (l : List In) (f : Fr) (x : In) : Prop where
  ok : okPr l = true
  fine : FrFine f = true
  lo : 0 ≤ f.1
  hi : f.1.toNat < l.length
  here : l.getD f.1.toNat noIn = x
  asks : asksO x = true
theorem asking {l : List In} (h : PrOK l) {f : Fr} (hF : FrOK f) : ∃ v : In × Int, call_asking.u l f = some v ∧ ref15_at.u l f = some v ∧ (v.2 = 0 → Asked l f v.1) := by
  unfold call_asking.u call_asking.s ref15_at.u ref15_at.s
  obtain ⟨w, w1, w2, _⟩ := step_law h hF
  obtain ⟨v, v1, v2⟩ := check_law h
  have ho : okPr l = (v.2 == 0) := by unfold okPr; rw [v1]
  rw [w1, w2, v1, reffine_u h, ho, frame_fine hF, ref_fine hF]
  simp only [Option.bind_some]
  cases hv : (v.2 == 0) with
  | false =>
    have : (v.2 != 0) = true := by simp only [bne, hv, Bool.not_false]
    rw [this]
    exact ⟨_, rfl, rfl, fun e => (by cases e)⟩
  | true =>
    have hnz : (v.2 != 0) = false := by simp only [bne, hv, Bool.not_true]
    rw [hnz]
    cases hf : FrFine f with
    | false => exact ⟨_, rfl, rfl, fun e => (by cases e)⟩
    | true =>
      simp only [Bool.not_true, cond_false]
      cases h1 : (w.2.1 != 1) with
      | true => exact ⟨_, rfl, rfl, fun e => (by cases e)⟩
      | false =>
        have hw1 : w.2.1 = 1 := by simpa using h1
        unfold interp_Step.u interp_Step.s at w1
        rw [v1, frame_fine hF] at w1
        simp only [Option.bind_some] at w1
        rw [hnz, hf] at w1
        simp only [Bool.not_true, cond_false] at w1
        unfold interp_step.u interp_step.s at w1
        cases hl : (f.1 == ((List.length l : Nat) : Int)) with
        | true => rw [hl] at w1; cases w1; cases hw1
        | false =>
          cases hg : decide (f.1 > ((List.length l : Nat) : Int)) with
          | true => rw [hl, hg] at w1; cases w1; cases hw1
          | false =>
            have p1 := place_range.1 (FrFine_parts hf).1
            have l1 := beq_eq_false_iff_ne.1 hl
            have l2 := of_decide_eq_false hg
            have hlt : f.1.toNat < l.length := by omega
            have hx := h.at f.1.toNat
            have hc := ok_chk h (by rw [ho, hv]) hlt
            have hi := idxOK_of p1.1 (show f.1 < ((List.length l : Nat) : Int) by omega)
            have hw : IntKind.wrap .i64 (l.getD f.1.toNat noIn).1 = (l.getD f.1.toNat noIn).1 := wrapN ⟨by have := hx.o; omega, by have := hx.o; omega⟩
            rw [hl, hg, hi] at w1
            simp only [cond_false, cond_true, hw, class_u] at w1
            obtain ⟨hfi, _⟩ := chk_parts hc
            simp only [hfi, cond_true, Option.bind_some] at w1
            rw [cond_false, hi, cond_true]
            refine ⟨_, rfl, rfl, fun _ => ⟨by rw [ho, hv], hf, p1.1, hlt, rfl, ?_⟩⟩
            show asksO (l.getD f.1.toNat noIn) = true
            unfold asksO
            generalize l.getD f.1.toNat noIn = x at *
            cases c2 : ((lineOf x.1).2.2.1 == 2) with
            | true => rfl
            | false =>
              cases c4 : ((lineOf x.1).2.2.1 == 4) with
              | true => rfl
              | false =>
                exfalso
                rw [c2, c4] at w1
                simp only [cond_false] at w1
                have no : ∀ {z : Fr × Int × Int} {e : Int}, some (f, (3 : Int), e) = some z → z.2.1 = 1 → False := by
                  rintro z e q1 q2; cases q1; cases q2
                cases o2 : (x.1 == 42) with
                | true => rw [o2] at w1; cases w1; cases hw1
                | false =>
                cases o3 : (x.1 == 43) with
                | true => rw [o2, o3] at w1; cases w1; cases hw1
                | false =>
                cases o4 : (x.1 == 44) with
                | true => rw [o2, o3, o4] at w1; cases w1; cases hw1
                | false =>
                cases o5 : (x.1 == 45) with
                | true => rw [o2, o3, o4, o5] at w1; cases w1; cases hw1
                | false =>
                cases o1 : (x.1 == 1) with
                | true => rw [o2, o3, o4, o5, o1] at w1; cases w1; cases hw1
                | false =>
                cases o6 : (x.1 == 26) with
                | true => rw [o2, o3, o4, o5, o1, o6] at w1; simp only [cond_false, cond_true] at w1; exact no w1 hw1
                | false =>
                  rw [o2, o3, o4, o5, o1, o6] at w1
                  simp only [cond_false] at w1
                  cases hd : interp_done.u x f with
                  | none => rw [hd] at w1; cases w1
                  | some z =>
                    rw [hd, Option.bind_some] at w1
                    cases hz : (z.2 != 0) with
                    | true => rw [hz, cond_true] at w1; exact no w1 hw1
                    | false => rw [hz, cond_false] at w1; cases w1; cases hw1
end Go.Proofs.YtjhkagfolmhacaaGreatDoor.K

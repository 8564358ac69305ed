/- A program's step, plainly: the interpreter's step is the reference's. -/
import Derived.Test.YtjhkagfolmhacaaGreatDoorL14b
import Derived.Test.YtjhkagfolmhacaaGreatDoorL13c
import Derived.KernelRfl
set_option maxRecDepth 100000
set_option linter.unusedVariables false
set_option linter.unusedSimpArgs false
namespace Go.Proofs.YtjhkagfolmhacaaGreatDoor.K
open Go

theorem ret_step {f : Fr} (h : FrOK f) (hf : FrFine f = true) : ∃ w, frame_Ret.u f = some w ∧ ref13_Ret.u f = some w ∧ StepOK f w := by
  obtain ⟨w, w1, w2⟩ := frame_ret h
  refine ⟨w, w1, w2, ?_⟩
  obtain ⟨p1, p2, p3⟩ := FrFine_parts hf
  have hw : IntKind.wrap .i64 (f.2.2.2.2.1 - 1) = f.2.2.2.2.1 - 1 := wrapN ⟨by omega, by omega⟩
  unfold frame_Ret.u frame_Ret.s at w1
  rw [frame_fine h, Option.bind_some, hf, Bool.not_true, cond_false] at w1
  by_cases h0 : f.2.2.2.2.1 = 0
  · rw [beq_iff_eq.2 h0, cond_true] at w1
    cases w1
    exact ⟨h, fun e => by cases e⟩
  · rw [beq_eq_false_iff_ne.2 h0, cond_false, hw, idxOK_of (show 0 ≤ f.2.2.2.2.1 - 1 by omega) (show f.2.2.2.2.1 - 1 < ((8 : Nat) : Int) by omega), cond_true, cond_true] at w1
    cases w1
    refine ⟨⟨h.r, h.m, by simpa using h.s⟩, fun _ => ⟨?_, rfl, by simp only; omega, .inl ⟨⟨_, _, (set_getD_self (i := 0)).symm⟩, rfl⟩⟩⟩
    have hz := fun (j : Nat) => @stack_zero f h hf j
    unfold FrFine at hf ⊢
    simp only [Bool.and_eq_true] at hf ⊢
    have ht := hf.2.1
    rw [all_take frame_place.t 0, h.s] at ht
    have hd : (f.2.2.2.2.1 - 1).toNat < f.2.2.2.2.2.1.length := by rw [h.s]; omega
    have pl := all_range.1 ht (f.2.2.2.2.1 - 1).toNat (by omega)
    simp only [show (f.2.2.2.2.1 - 1).toNat < f.2.2.2.2.1.toNat by omega, decide_true, Bool.not_true, Bool.false_or] at pl
    refine ⟨⟨⟨pl, decide_eq_true (by omega), decide_eq_true (by omega)⟩, hf.1.2⟩, ?_, ?_⟩
    · rw [all_take frame_place.t 0, List.length_set, h.s]
      refine all_range.2 fun j hj => ?_
      rw [getD_set hd]
      have := all_range.1 ht j hj
      by_cases hlt : j < (f.2.2.2.2.1 - 1).toNat
      · rw [if_neg (by omega)]
        simp only [show j < f.2.2.2.2.1.toNat by omega, decide_true, Bool.not_true, Bool.false_or] at this
        simp only [this, Bool.or_true]
      · simp only [hlt, decide_false, Bool.not_false, Bool.true_or]
    · rw [all_drop (fun x => x == 0) 0, List.length_set, h.s]
      refine all_range.2 fun j hj => ?_
      by_cases hlt : j < (f.2.2.2.2.1 - 1).toNat
      · simp only [hlt, decide_true, Bool.true_or]
      · rw [getD_set hd]
        by_cases e : (f.2.2.2.2.1 - 1).toNat = j
        · rw [if_pos e]; simp only [beq_self_eq_true, Bool.or_true]
        · rw [if_neg e, hz j (by omega) hj]; simp only [beq_self_eq_true, Bool.or_true]
theorem done_23 {a b c : Int} {f : Fr} (h : FrOK f) (hf : FrFine f = true) (hx : InOK (mkI 23 a b c)) : Same (mkI 23 a b c) f := by
  have h1 : interp_done.u (mkI 23 a b c) f = ((instr_Place.u (mkI 23 a b c)).bind fun y1 => (frame_Ret.u f).bind fun y => some (y.1, y.2)).bind fun y => some (y.1, y.2) := by kernel_rfl
  have h2 : ref14_plain.u (mkI 23 a b c) f = (ref10_Place.u (mkI 23 a b c)).bind fun y1 => (ref13_Ret.u f).bind fun y => some (y.1, y.2) := by kernel_rfl
  obtain ⟨w, w1, w2, w3⟩ := ret_step h hf
  exact ⟨w, by rw [h1, place_u hx, Option.bind_some, w1]; rfl, by rw [h2, refplace_u hx, Option.bind_some, w2]; rfl, w3⟩

/-- Does an instruction take its step alone? -/
def plainO (o : Int) : Bool := (o == 0) || (decide (2 ≤ o) && decide (o ≤ 25))
theorem done_law {x : In} (hx : InOK x) (hc : chk x = 0) {f : Fr} (h : FrOK f) (hf : FrFine f = true) (ho : plainO x.1 = true) : Same x f := by
  obtain ⟨o, a, b, c, u⟩ := x
  cases u
  obtain ⟨_, ca, cb, cc⟩ := chk_parts hc
  simp only at ca cb cc ho
  have hcase : o = 0 ∨ o = 2 ∨ o = 3 ∨ o = 4 ∨ o = 5 ∨ o = 6 ∨ o = 7 ∨ o = 8 ∨ o = 9 ∨ o = 10 ∨ o = 11 ∨ o = 12 ∨ o = 13 ∨ o = 14 ∨ o = 15 ∨ o = 16 ∨ o = 17 ∨ o = 18 ∨ o = 19 ∨ o = 20 ∨ o = 21 ∨ o = 22 ∨ o = 23 ∨ o = 24 ∨ o = 25 := by
    unfold plainO at ho
    simp only [Bool.or_eq_true, Bool.and_eq_true, beq_iff_eq, decide_eq_true_eq] at ho
    omega
  rcases hcase with rfl | rfl | rfl | rfl | rfl | rfl | rfl | rfl | rfl | rfl | rfl | rfl | rfl | rfl | rfl | rfl | rfl | rfl | rfl | rfl | rfl | rfl | rfl | rfl | rfl
  · exact done_0 h hf hx
  · exact done_2 h hf hx (reg_idx cb)
  · exact done_3 h hf hx
  · exact done_4 h hf hx (reg_idx cb) (reg_idx cc)
  · exact done_5 h hf hx (reg_idx cb) (reg_idx cc)
  · exact done_6 h hf hx (reg_idx cb) (reg_idx cc)
  · exact done_7 h hf hx (reg_idx cb) (reg_idx cc)
  · exact done_8 h hf hx (reg_idx cb) (reg_idx cc)
  · exact done_9 h hf hx (reg_idx cb) (reg_idx cc)
  · exact done_10 h hf hx (reg_idx cb) (reg_idx cc)
  · exact done_11 h hf hx (reg_idx cb) (reg_idx cc)
  · exact done_12 h hf hx (reg_idx cb) (reg_idx cc)
  · exact done_13 h hf hx (reg_idx cb) (reg_idx cc)
  · exact done_14 h hf hx (reg_idx cb)
  · exact done_15 h hf hx (reg_idx cb)
  · exact done_16 h hf hx (reg_idx cb) (reg_idx cc)
  · exact done_17 h hf hx (reg_idx cb) (reg_idx cc)
  · exact done_18 h hf hx
  · exact done_19 h hf hx (reg_idx ca)
  · exact done_20 h hf hx (reg_idx ca)
  · exact done_21 h hf hx
  · exact done_22 h hf hx
  · exact done_23 h hf hx
  · exact done_24 h hf hx (reg_idx cb)
  · exact done_25 h hf hx (reg_idx ca) (reg_idx cb)

/-- How the opcodes fall to a step. -/
def sortOK (n : Nat) : Bool :=
  let l := lineOf (n : Int)
  ((l.2.2.1 == 2) || (l.2.2.1 == 4)) || (((l.2.2.1 == 3) == ((((n : Int) == 42) || ((n : Int) == 43)) || (((n : Int) == 44) || ((n : Int) == 45)))) && ((l.1.data.toList == (bs [104, 97, 108, 116]).data.toList) == ((n : Int) == 1)) && ((l.1.data.toList == (bs [102, 97, 105, 108]).data.toList) == ((n : Int) == 26)) &&
    ((l.2.2.1 == 3) || ((n : Int) == 1) || ((n : Int) == 26) || plainO (n : Int)))
theorem sorts_ok : (List.range 48).all sortOK = true := by kernel_rfl
theorem sort_ok {o : Int} (h : opcode_fine.t o = true) : sortOK o.toNat = true := by
  have := opfine_iff.1 h
  exact List.all_eq_true.1 sorts_ok _ (List.mem_range.2 (by omega))

structure SOK (f : Fr) (w : Fr × Int × Int) : Prop where
  ok : FrOK w.1
  one : w.2.1 = 0 → w.2.2 = 0 ∧ One f w.1
  not : w.2.1 ≠ 0 → w.1 = f ∧ (w.2.1 == 3) = (w.2.2 != 0)

theorem step_law {l : List In} (h : PrOK l) {f : Fr} (hF : FrOK f) : ∃ w, interp_Step.u l f = some w ∧ ref14_Step.u l f = some w ∧ SOK f w := by
  unfold interp_Step.u interp_Step.s ref14_Step.u ref14_Step.s
  obtain ⟨v, v1, v2⟩ := check_law h
  have ho : okPr l = (v.2 == 0) := by unfold okPr; rw [v1]
  rw [v1, reffine_u h, ho, frame_fine hF, ref_fine hF]
  simp only [Option.bind_some]
  cases hv : (v.2 == 0) with
  | false =>
    have : (v.2 != 0) = true := by simp only [bne, hv, Bool.not_false]
    rw [this]
    exact ⟨_, rfl, rfl, hF, fun e => (by cases e), fun _ => ⟨rfl, rfl⟩⟩
  | true =>
    have : (v.2 != 0) = false := by simp only [bne, hv, Bool.not_true]
    rw [this]
    cases hf : FrFine f with
    | false => exact ⟨_, rfl, rfl, hF, fun e => (by cases e), fun _ => ⟨rfl, rfl⟩⟩
    | true =>
      simp only [Bool.not_true, cond_false]
      unfold interp_step.u interp_step.s
      cases hl : (f.1 == ((List.length l : Nat) : Int)) with
      | true => exact ⟨_, rfl, rfl, hF, fun e => (by cases e), fun _ => ⟨rfl, rfl⟩⟩
      | false =>
        cases hg : decide (f.1 > ((List.length l : Nat) : Int)) with
        | true => exact ⟨_, rfl, rfl, hF, fun e => (by cases e), fun _ => ⟨rfl, rfl⟩⟩
        | false =>
          have p1 := place_range.1 (FrFine_parts hf).1
          have l1 := beq_eq_false_iff_ne.1 hl
          have l2 := of_decide_eq_false hg
          have hlt : f.1.toNat < l.length := by omega
          have hx := h.at f.1.toNat
          have hc := ok_chk h (by rw [ho, hv]) hlt
          have hw : IntKind.wrap .i64 (l.getD f.1.toNat noIn).1 = (l.getD f.1.toNat noIn).1 := wrapN ⟨by have := hx.o; omega, by have := hx.o; omega⟩
          simp only [cond_false, idxOK_of p1.1 (show f.1 < ((List.length l : Nat) : Int) by omega), cond_true, hw, class_u, of_u]
          generalize hX : l.getD f.1.toNat noIn = x at *
          obtain ⟨hfi, _⟩ := chk_parts hc
          have hs := sort_ok hfi
          have hr := opfine_iff.1 hfi
          simp only [hfi, cond_true, Option.bind_some]
          unfold sortOK at hs
          rw [show ((x.1.toNat : Nat) : Int) = x.1 by omega] at hs
          simp only at hs
          cases c2 : ((lineOf x.1).2.2.1 == 2) with
          | true => exact ⟨_, rfl, rfl, hF, fun e => (by cases e), fun _ => ⟨rfl, rfl⟩⟩
          | false =>
            cases c4 : ((lineOf x.1).2.2.1 == 4) with
            | true => exact ⟨_, rfl, rfl, hF, fun e => (by cases e), fun _ => ⟨rfl, rfl⟩⟩
            | false =>
              rw [c2, c4] at hs
              simp only [Bool.false_or, Bool.and_eq_true] at hs
              obtain ⟨⟨⟨s1, s2⟩, s3⟩, s4⟩ := hs
              have s1 := eq_of_beq s1
              have s2 := eq_of_beq s2
              have s3 := eq_of_beq s3
              rw [s1, s2, s3]
              rw [s1] at s4
              cases e42 : (x.1 == 42) with
              | true => exact ⟨_, rfl, rfl, hF, fun e => (by cases e), fun _ => ⟨rfl, rfl⟩⟩
              | false =>
                cases e43 : (x.1 == 43) with
                | true => exact ⟨_, rfl, rfl, hF, fun e => (by cases e), fun _ => ⟨rfl, rfl⟩⟩
                | false =>
                  cases e44 : (x.1 == 44) with
                  | true => exact ⟨_, rfl, rfl, hF, fun e => (by cases e), fun _ => ⟨rfl, rfl⟩⟩
                  | false =>
                    cases e45 : (x.1 == 45) with
                    | true => exact ⟨_, rfl, rfl, hF, fun e => (by cases e), fun _ => ⟨rfl, rfl⟩⟩
                    | false =>
                      simp only [Bool.or_false, cond_false]
                      cases e1 : (x.1 == 1) with
                      | true => exact ⟨_, rfl, rfl, hF, fun e => (by cases e), fun _ => ⟨rfl, rfl⟩⟩
                      | false =>
                        simp only [cond_false]
                        cases e26 : (x.1 == 26) with
                        | true =>
                          refine ⟨_, rfl, rfl, hF, fun e => (by cases e), fun _ => ⟨rfl, ?_⟩⟩
                          have ha := hx.a
                          simp only
                          rw [wrapN (x := x.2.1) ⟨by omega, by omega⟩, wrapN ⟨by omega, by omega⟩]
                          have : (256 + x.2.1 != 0) = true := bne_iff_ne.2 (by omega)
                          rw [this]; rfl
                        | false =>
                          simp only [cond_false]
                          rw [e42, e43, e44, e45, e1, e26] at s4
                          simp only [Bool.or_false, Bool.false_or] at s4
                          obtain ⟨w, w1, w2, w3⟩ := done_law hx hc hF hf s4
                          rw [w1, w2]
                          simp only [Option.bind_some]
                          cases hz : (w.2 != 0) with
                          | true => exact ⟨_, rfl, rfl, hF, fun e => (by cases e), fun _ => ⟨rfl, hz.symm⟩⟩
                          | false => exact ⟨_, rfl, rfl, w3.ok, fun _ => ⟨rfl, w3.one (by simpa using hz)⟩, fun e => absurd rfl e⟩

end Go.Proofs.YtjhkagfolmhacaaGreatDoor.K

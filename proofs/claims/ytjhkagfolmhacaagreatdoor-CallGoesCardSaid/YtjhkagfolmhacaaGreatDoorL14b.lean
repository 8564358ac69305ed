/- A program's step, plainly: what an instruction does. -/
import Derived.Test.YtjhkagfolmhacaaGreatDoorL14a
import Derived.Test.YtjhkagfolmhacaaGreatDoorL10b
import Derived.KernelRfl
set_option maxRecDepth 100000
set_option linter.unusedVariables false
set_option linter.unusedSimpArgs false
namespace Go.Proofs.YtjhkagfolmhacaaGreatDoor.K
open Go

abbrev mkI (o a b c : Int) : In := (o, (a, (b, (c, ()))))
def Same (x : In) (f : Fr) : Prop := ∃ w, interp_done.u x f = some w ∧ ref14_plain.u x f = some w ∧ StepOK f w

theorem done_sum {o a b c : Int} (i : Int) {f : Fr} (h : FrOK f) (hf : FrFine f = true) (hx : InOK (mkI o a b c)) (hb : idxOK b 8 = true) (hc : idxOK c 8 = true)
    (h1 : interp_done.u (mkI o a b c) f = doneR f (bif idxOK b 8 then bif idxOK c 8 then setR f a (word_Do.u i (reg f b) (reg f c)) else none else none))
    (h2 : ref14_plain.u (mkI o a b c) f = (ref10_Place.u (mkI o a b c)).bind fun _ => bif idxOK b 8 then bif idxOK c 8 then (ref08_Do.u i (reg f b) (reg f c)).bind fun y => (ref14_set.u f a y.1 y.2).bind fun z => some (z.1, z.2) else none else none) : Same (mkI o a b c) f := by
  obtain ⟨v, v1, v2⟩ := do_law i (reg f b) (reg f c)
  obtain ⟨w, w1, w2, w3⟩ := set_law h hf a v
  refine ⟨w, ?_, ?_, w3⟩
  · rw [h1, hb, hc, cond_true, cond_true, v1, w1]
  · rw [h2, refplace_u hx, Option.bind_some, hb, hc, cond_true, cond_true, v2, Option.bind_some, w2]; rfl
theorem done_one {o a b c : Int} (V : Option (Int × Int)) {f : Fr} (h : FrOK f) (hf : FrFine f = true) (hx : InOK (mkI o a b c)) (hb : idxOK b 8 = true) (v : Int × Int) (hv : V = some v)
    (h1 : interp_done.u (mkI o a b c) f = doneR f (bif idxOK b 8 then setR f a V else none))
    (h2 : ref14_plain.u (mkI o a b c) f = (ref10_Place.u (mkI o a b c)).bind fun _ => bif idxOK b 8 then (ref14_set.u f a v.1 v.2).bind fun z => some (z.1, z.2) else none) : Same (mkI o a b c) f := by
  obtain ⟨w, w1, w2, w3⟩ := set_law h hf a v
  refine ⟨w, ?_, ?_, w3⟩
  · rw [h1, hb, cond_true, hv, w1]
  · rw [h2, refplace_u hx, Option.bind_some, hb, cond_true, w2]; rfl

theorem done_0 {a b c : Int} {f : Fr} (h : FrOK f) (hf : FrFine f = true) (hx : InOK (mkI 0 a b c)) : Same (mkI 0 a b c) f := by
  have h1 : interp_done.u (mkI 0 a b c) f = (frame_Go.u f (IntKind.wrap .i64 (f.1 + 1))).bind fun y => some (y.1, y.2) := by kernel_rfl
  have h2 : ref14_plain.u (mkI 0 a b c) f = (ref10_Place.u (mkI 0 a b c)).bind fun _ => (ref13_Go.u f (IntKind.wrap .i64 (f.1 + 1))).bind fun y => some (y.1, y.2) := by kernel_rfl
  obtain ⟨w, w1, w2, w3⟩ := next_law h hf (IntKind.wrap .i64 (f.1 + 1))
  exact ⟨w, by rw [h1, w1]; rfl, by rw [h2, refplace_u hx, Option.bind_some, w2]; rfl, w3⟩
theorem done_2 {a b c : Int} {f : Fr} (h : FrOK f) (hf : FrFine f = true) (hx : InOK (mkI 2 a b c)) (hb : idxOK b 8 = true) : Same (mkI 2 a b c) f :=
  done_one (some (reg f b, 0)) h hf hx hb _ rfl (by kernel_rfl) (by kernel_rfl)
theorem done_3 {a b c : Int} {f : Fr} (h : FrOK f) (hf : FrFine f = true) (hx : InOK (mkI 3 a b c)) : Same (mkI 3 a b c) f := by
  have h1 : interp_done.u (mkI 3 a b c) f = doneR f ((instr_Num.u (mkI 3 a b c)).bind fun y => (frame_Set.u f (IntKind.wrap .i64 a) y).bind fun z => some (z.1, z.2)) := by kernel_rfl
  have h2 : ref14_plain.u (mkI 3 a b c) f = (ref10_Place.u (mkI 3 a b c)).bind fun _ => (ref10_Num.u (mkI 3 a b c)).bind fun y => (ref14_set.u f a y 0).bind fun z => some (z.1, z.2) := by kernel_rfl
  obtain ⟨w, w1, w2, w3⟩ := set_law h hf a (numF (mkI 3 a b c), 0)
  refine ⟨w, ?_, ?_, w3⟩
  · rw [h1, num_u hx, Option.bind_some, ← w1]; rfl
  · rw [h2, refplace_u hx, Option.bind_some, refnum_u hx, Option.bind_some, w2]; rfl
theorem done_14 {a b c : Int} {f : Fr} (h : FrOK f) (hf : FrFine f = true) (hx : InOK (mkI 14 a b c)) (hb : idxOK b 8 = true) : Same (mkI 14 a b c) f :=
  done_one (word_Not.u (reg f b)) h hf hx hb _ (not_u _) (by kernel_rfl) (by kernel_rfl)
theorem done_15 {a b c : Int} {f : Fr} (h : FrOK f) (hf : FrFine f = true) (hx : InOK (mkI 15 a b c)) (hb : idxOK b 8 = true) : Same (mkI 15 a b c) f :=
  done_one (word_Neg.u (reg f b)) h hf hx hb _ (neg_u _) (by kernel_rfl) (by kernel_rfl)
theorem done_24 {a b c : Int} {f : Fr} (h : FrOK f) (hf : FrFine f = true) (hx : InOK (mkI 24 a b c)) (hb : idxOK b 8 = true) : Same (mkI 24 a b c) f := by
  have h1 : interp_done.u (mkI 24 a b c) f = doneR f (bif idxOK b 8 then setR f a (frame_Load.u f (reg f b)) else none) := by kernel_rfl
  have h2 : ref14_plain.u (mkI 24 a b c) f = (ref10_Place.u (mkI 24 a b c)).bind fun _ => bif idxOK b 8 then (ref13_Load.u f (reg f b)).bind fun y => (ref14_set.u f a y.1 y.2).bind fun z => some (z.1, z.2) else none := by kernel_rfl
  obtain ⟨v, v1, v2⟩ := frame_load h (reg f b)
  obtain ⟨w, w1, w2, w3⟩ := set_law h hf a v
  refine ⟨w, ?_, ?_, w3⟩
  · rw [h1, hb, cond_true, v1, w1]
  · rw [h2, refplace_u hx, Option.bind_some, hb, cond_true, v2, Option.bind_some, w2]; rfl
theorem done_25 {a b c : Int} {f : Fr} (h : FrOK f) (hf : FrFine f = true) (hx : InOK (mkI 25 a b c)) (ha : idxOK a 8 = true) (hb : idxOK b 8 = true) : Same (mkI 25 a b c) f := by
  have h1 : interp_done.u (mkI 25 a b c) f = doneR f (bif idxOK a 8 then bif idxOK b 8 then (frame_Store.u f (reg f a) (reg f b)).bind fun y => some (y.1, y.2) else none else none) := by kernel_rfl
  have h2 : ref14_plain.u (mkI 25 a b c) f = (ref10_Place.u (mkI 25 a b c)).bind fun _ => bif idxOK a 8 then bif idxOK b 8 then ((ref13_Store.u f (reg f a) (reg f b)).bind fun y13 => bif (y13.2 != 0) then some (f, y13.2) else (ref13_Go.u y13.1 ((IntKind.wrap .i64 (f.1 + 1)))).bind fun y14 => some (y14.1, y14.2)) else none else none := by kernel_rfl
  obtain ⟨w, w1, w2, w3⟩ := store_law h hf (reg f a) (reg f b)
  refine ⟨w, ?_, ?_, w3⟩
  · rw [h1, ha, hb, cond_true, cond_true, ← w1]; cases frame_Store.u f (reg f a) (reg f b) <;> rfl
  · rw [h2, refplace_u hx, Option.bind_some, ha, hb, cond_true, cond_true, w2]
theorem done_18 {a b c : Int} {f : Fr} (h : FrOK f) (hf : FrFine f = true) (hx : InOK (mkI 18 a b c)) : Same (mkI 18 a b c) f := by
  have h1 : interp_done.u (mkI 18 a b c) f = ((instr_Place.u (mkI 18 a b c)).bind fun y1 => (frame_Go.u f y1.1).bind fun y => some (y.1, y.2)).bind fun y => some (y.1, y.2) := by kernel_rfl
  have h2 : ref14_plain.u (mkI 18 a b c) f = (ref10_Place.u (mkI 18 a b c)).bind fun y1 => (ref13_Go.u f y1.1).bind fun y => some (y.1, y.2) := by kernel_rfl
  obtain ⟨w, w1, w2, w3⟩ := next_law h hf (plcF (mkI 18 a b c)).1
  exact ⟨w, by rw [h1, place_u hx, Option.bind_some, w1]; rfl, by rw [h2, refplace_u hx, Option.bind_some, w2]; rfl, w3⟩
theorem done_19 {a b c : Int} {f : Fr} (h : FrOK f) (hf : FrFine f = true) (hx : InOK (mkI 19 a b c)) (ha : idxOK a 8 = true) : Same (mkI 19 a b c) f := by
  have h1 : interp_done.u (mkI 19 a b c) f = ((instr_Place.u (mkI 19 a b c)).bind fun y1 => bif idxOK a 8 then (bif !(reg f a == 0) then (frame_Go.u f (IntKind.wrap .i64 (f.1 + 1))).bind fun y => some (y.1, y.2) else (frame_Go.u f y1.1).bind fun y => some (y.1, y.2)) else none).bind fun y => some (y.1, y.2) := by kernel_rfl
  have h2 : ref14_plain.u (mkI 19 a b c) f = (ref10_Place.u (mkI 19 a b c)).bind fun y1 => bif idxOK a 8 then (ref14_jump.u f (reg f a == 0) y1.1).bind fun y => some (y.1, y.2) else none := by kernel_rfl
  obtain ⟨w, w1, w2, w3⟩ := jump_law h hf (reg f a == 0) (plcF (mkI 19 a b c)).1
  exact ⟨w, by rw [h1, place_u hx, Option.bind_some, ha, cond_true, w1]; rfl, by rw [h2, refplace_u hx, Option.bind_some, ha, cond_true, w2]; rfl, w3⟩
theorem done_20 {a b c : Int} {f : Fr} (h : FrOK f) (hf : FrFine f = true) (hx : InOK (mkI 20 a b c)) (ha : idxOK a 8 = true) : Same (mkI 20 a b c) f := by
  have h1 : interp_done.u (mkI 20 a b c) f = ((instr_Place.u (mkI 20 a b c)).bind fun y1 => bif idxOK a 8 then (bif !(reg f a != 0) then (frame_Go.u f (IntKind.wrap .i64 (f.1 + 1))).bind fun y => some (y.1, y.2) else (frame_Go.u f y1.1).bind fun y => some (y.1, y.2)) else none).bind fun y => some (y.1, y.2) := by kernel_rfl
  have h2 : ref14_plain.u (mkI 20 a b c) f = (ref10_Place.u (mkI 20 a b c)).bind fun y1 => bif idxOK a 8 then (ref14_jump.u f (reg f a != 0) y1.1).bind fun y => some (y.1, y.2) else none := by kernel_rfl
  obtain ⟨w, w1, w2, w3⟩ := jump_law h hf (reg f a != 0) (plcF (mkI 20 a b c)).1
  exact ⟨w, by rw [h1, place_u hx, Option.bind_some, ha, cond_true, w1]; rfl, by rw [h2, refplace_u hx, Option.bind_some, ha, cond_true, w2]; rfl, w3⟩
theorem done_21 {a b c : Int} {f : Fr} (h : FrOK f) (hf : FrFine f = true) (hx : InOK (mkI 21 a b c)) : Same (mkI 21 a b c) f := by
  have h1 : interp_done.u (mkI 21 a b c) f = ((instr_Place.u (mkI 21 a b c)).bind fun y1 => (bif !f.2.1 then (frame_Go.u f (IntKind.wrap .i64 (f.1 + 1))).bind fun y => some (y.1, y.2) else (frame_Go.u f y1.1).bind fun y => some (y.1, y.2))).bind fun y => some (y.1, y.2) := by kernel_rfl
  have h2 : ref14_plain.u (mkI 21 a b c) f = (ref10_Place.u (mkI 21 a b c)).bind fun y1 => (ref14_jump.u f f.2.1 y1.1).bind fun y => some (y.1, y.2) := by kernel_rfl
  obtain ⟨w, w1, w2, w3⟩ := jump_law h hf f.2.1 (plcF (mkI 21 a b c)).1
  exact ⟨w, by rw [h1, place_u hx, Option.bind_some, w1]; rfl, by rw [h2, refplace_u hx, Option.bind_some, w2]; rfl, w3⟩
theorem done_22 {a b c : Int} {f : Fr} (h : FrOK f) (hf : FrFine f = true) (hx : InOK (mkI 22 a b c)) : Same (mkI 22 a b c) f := by
  have h1 : interp_done.u (mkI 22 a b c) f = ((instr_Place.u (mkI 22 a b c)).bind fun y1 => (frame_Call.u f y1.1).bind fun y => some (y.1, y.2)).bind fun y => some (y.1, y.2) := by kernel_rfl
  have h2 : ref14_plain.u (mkI 22 a b c) f = (ref10_Place.u (mkI 22 a b c)).bind fun y1 => (ref13_Call.u f y1.1).bind fun y => some (y.1, y.2) := by kernel_rfl
  obtain ⟨w, w1, w2, w3⟩ := call_step h hf (plcF (mkI 22 a b c)).1
  exact ⟨w, by rw [h1, place_u hx, Option.bind_some, w1]; rfl, by rw [h2, refplace_u hx, Option.bind_some, w2]; rfl, w3⟩
theorem done_4 {a b c : Int} {f : Fr} (h : FrOK f) (hf : FrFine f = true) (hx : InOK (mkI 4 a b c)) (hb : idxOK b 8 = true) (hc : idxOK c 8 = true) : Same (mkI 4 a b c) f := done_sum 1 h hf hx hb hc (by kernel_rfl) (by kernel_rfl)
theorem done_5 {a b c : Int} {f : Fr} (h : FrOK f) (hf : FrFine f = true) (hx : InOK (mkI 5 a b c)) (hb : idxOK b 8 = true) (hc : idxOK c 8 = true) : Same (mkI 5 a b c) f := done_sum 2 h hf hx hb hc (by kernel_rfl) (by kernel_rfl)
theorem done_6 {a b c : Int} {f : Fr} (h : FrOK f) (hf : FrFine f = true) (hx : InOK (mkI 6 a b c)) (hb : idxOK b 8 = true) (hc : idxOK c 8 = true) : Same (mkI 6 a b c) f := done_sum 3 h hf hx hb hc (by kernel_rfl) (by kernel_rfl)
theorem done_7 {a b c : Int} {f : Fr} (h : FrOK f) (hf : FrFine f = true) (hx : InOK (mkI 7 a b c)) (hb : idxOK b 8 = true) (hc : idxOK c 8 = true) : Same (mkI 7 a b c) f := done_sum 4 h hf hx hb hc (by kernel_rfl) (by kernel_rfl)
theorem done_8 {a b c : Int} {f : Fr} (h : FrOK f) (hf : FrFine f = true) (hx : InOK (mkI 8 a b c)) (hb : idxOK b 8 = true) (hc : idxOK c 8 = true) : Same (mkI 8 a b c) f := done_sum 5 h hf hx hb hc (by kernel_rfl) (by kernel_rfl)
theorem done_9 {a b c : Int} {f : Fr} (h : FrOK f) (hf : FrFine f = true) (hx : InOK (mkI 9 a b c)) (hb : idxOK b 8 = true) (hc : idxOK c 8 = true) : Same (mkI 9 a b c) f := done_sum 6 h hf hx hb hc (by kernel_rfl) (by kernel_rfl)
theorem done_10 {a b c : Int} {f : Fr} (h : FrOK f) (hf : FrFine f = true) (hx : InOK (mkI 10 a b c)) (hb : idxOK b 8 = true) (hc : idxOK c 8 = true) : Same (mkI 10 a b c) f := done_sum 7 h hf hx hb hc (by kernel_rfl) (by kernel_rfl)
theorem done_11 {a b c : Int} {f : Fr} (h : FrOK f) (hf : FrFine f = true) (hx : InOK (mkI 11 a b c)) (hb : idxOK b 8 = true) (hc : idxOK c 8 = true) : Same (mkI 11 a b c) f := done_sum 8 h hf hx hb hc (by kernel_rfl) (by kernel_rfl)
theorem done_12 {a b c : Int} {f : Fr} (h : FrOK f) (hf : FrFine f = true) (hx : InOK (mkI 12 a b c)) (hb : idxOK b 8 = true) (hc : idxOK c 8 = true) : Same (mkI 12 a b c) f := done_sum 9 h hf hx hb hc (by kernel_rfl) (by kernel_rfl)
theorem done_13 {a b c : Int} {f : Fr} (h : FrOK f) (hf : FrFine f = true) (hx : InOK (mkI 13 a b c)) (hb : idxOK b 8 = true) (hc : idxOK c 8 = true) : Same (mkI 13 a b c) f := done_sum 10 h hf hx hb hc (by kernel_rfl) (by kernel_rfl)
theorem done_16 {a b c : Int} {f : Fr} (h : FrOK f) (hf : FrFine f = true) (hx : InOK (mkI 16 a b c)) (hb : idxOK b 8 = true) (hc : idxOK c 8 = true) : Same (mkI 16 a b c) f := done_sum 11 h hf hx hb hc (by kernel_rfl) (by kernel_rfl)
theorem done_17 {a b c : Int} {f : Fr} (h : FrOK f) (hf : FrFine f = true) (hx : InOK (mkI 17 a b c)) (hb : idxOK b 8 = true) (hc : idxOK c 8 = true) : Same (mkI 17 a b c) f := done_sum 12 h hf hx hb hc (by kernel_rfl) (by kernel_rfl)
end Go.Proofs.YtjhkagfolmhacaaGreatDoor.K

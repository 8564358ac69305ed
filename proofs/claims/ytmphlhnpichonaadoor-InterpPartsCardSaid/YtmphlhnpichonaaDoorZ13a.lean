/- What functions of the program come to, plainly. -/
import Derived.Test.YtmphlhnpichonaaDoorZ12
set_option maxRecDepth 100000
set_option linter.unusedVariables false
namespace Go.Proofs.YtmphlhnpichonaaDoor.K
open Go Go.RowKit

/-- becket frame.New -/
noncomputable def frame_New.sp : Spec := (orS 52 (fun {_} => word_Fine.e) noS)
def frame_New.s {Ω : Type} (x0 : Int) (k : (Int × (Bool × ((List Int) × ((List Int) × (Int × ((List Int) × Unit)))))) × Int → Option Ω) : Option Ω :=
  bif (!(word_Fine.t x0)) then
    k ((0, (false, ((List.replicate 8 0), ((List.replicate 16 0), (0, ((List.replicate 8 0), ())))))), 8)
  else
    k ((0, (false, ((List.set (List.replicate 8 0) 0 x0), ((List.replicate 16 0), (0, ((List.replicate 8 0), ())))))), 0)
theorem frame_New.ev {Ω : Type} (fuel : Fuel) (x0 : Int) (k : AV → Option Ω) : evFn C (fun {_} => frame_New.sp) fuel Tryd.f15 (Tryd.f15.body.getD .skip) [(.v (.int .i64) (x0))] k = frame_New.s x0 (fun r => k (tupAV (.pair (.int .i64) (.pair .bool (.pair (.arr 8 (.int .i64)) (.pair (.arr 16 (.int .i64)) (.pair (.int .i64) (.pair (.arr 8 (.int .i64)) .unit)))))) [(.int .i64)] r)) := by kernel_rfl
def frame_New.t (x0 : Int) : (Int × (Bool × ((List Int) × ((List Int) × (Int × ((List Int) × Unit)))))) × Int :=
  bif (!(word_Fine.t x0)) then
    ((0, (false, ((List.replicate 8 0), ((List.replicate 16 0), (0, ((List.replicate 8 0), ())))))), 8)
  else
    ((0, (false, ((List.set (List.replicate 8 0) 0 x0), ((List.replicate 16 0), (0, ((List.replicate 8 0), ())))))), 0)
theorem frame_New.v {Ω : Type} (x0 : Int) (k : (Int × (Bool × ((List Int) × ((List Int) × (Int × ((List Int) × Unit)))))) × Int → Option Ω) : frame_New.s x0 k = k (frame_New.t x0) := by
  delta frame_New.s frame_New.t; exact (cond_tot rfl rfl)
theorem frame_New.c (x0 : Int) : Contract C 15 [(.v (.int .i64) (x0))] (tupAV (.pair (.int .i64) (.pair .bool (.pair (.arr 8 (.int .i64)) (.pair (.arr 16 (.int .i64)) (.pair (.int .i64) (.pair (.arr 8 (.int .i64)) .unit)))))) [(.int .i64)] (frame_New.t x0)) :=
  contract_s (S := fun k => frame_New.s x0 k) C_ok (orS_ok word_Fine.e_ok noS_ok) (by kernel_rfl) (by kernel_rfl) (by kernel_rfl) (frame_New.ev ⟨1, fun _ => []⟩ x0 (dec (.pair (.int .i64) (.pair .bool (.pair (.arr 8 (.int .i64)) (.pair (.arr 16 (.int .i64)) (.pair (.int .i64) (.pair (.arr 8 (.int .i64)) .unit)))))) [(.int .i64)])) (frame_New.v x0 some)
noncomputable def frame_New.e : Ent := argI (.int .i64) fun x0 => endT (tupAV (.pair (.int .i64) (.pair .bool (.pair (.arr 8 (.int .i64)) (.pair (.arr 16 (.int .i64)) (.pair (.int .i64) (.pair (.arr 8 (.int .i64)) .unit)))))) [(.int .i64)] (frame_New.t x0))
theorem frame_New.e_ok : EntOK C 15 (fun {_} => frame_New.e) := entA_ok (argI_ok fun x0 => endT_ok (frame_New.c x0))

/-- becket becketref13.New -/
noncomputable def ref13_New.sp : Spec := (orS 53 (fun {_} => ref08_Fine.e) noS)
def ref13_New.s {Ω : Type} (x0 : Int) (k : (Int × (Bool × ((List Int) × ((List Int) × (Int × ((List Int) × Unit)))))) × Int → Option Ω) : Option Ω :=
  bif (!(ref08_Fine.t x0)) then
    k ((0, (false, ((List.replicate 8 0), ((List.replicate 16 0), (0, ((List.replicate 8 0), ())))))), 8)
  else
    let v1 : (Int × (Bool × ((List Int) × ((List Int) × (Int × ((List Int) × Unit)))))) := (0, (false, ((List.set (List.replicate 8 0) 0 x0), ((List.replicate 16 0), (0, ((List.replicate 8 0), ()))))))
    k (v1, 0)
theorem ref13_New.ev {Ω : Type} (fuel : Fuel) (x0 : Int) (k : AV → Option Ω) : evFn C (fun {_} => ref13_New.sp) fuel Tryd.f16 (Tryd.f16.body.getD .skip) [(.v (.int .i64) (x0))] k = ref13_New.s x0 (fun r => k (tupAV (.pair (.int .i64) (.pair .bool (.pair (.arr 8 (.int .i64)) (.pair (.arr 16 (.int .i64)) (.pair (.int .i64) (.pair (.arr 8 (.int .i64)) .unit)))))) [(.int .i64)] r)) := by kernel_rfl
def ref13_New.t (x0 : Int) : (Int × (Bool × ((List Int) × ((List Int) × (Int × ((List Int) × Unit)))))) × Int :=
  bif (!(ref08_Fine.t x0)) then
    ((0, (false, ((List.replicate 8 0), ((List.replicate 16 0), (0, ((List.replicate 8 0), ())))))), 8)
  else
    let v1 : (Int × (Bool × ((List Int) × ((List Int) × (Int × ((List Int) × Unit)))))) := (0, (false, ((List.set (List.replicate 8 0) 0 x0), ((List.replicate 16 0), (0, ((List.replicate 8 0), ()))))))
    (v1, 0)
theorem ref13_New.v {Ω : Type} (x0 : Int) (k : (Int × (Bool × ((List Int) × ((List Int) × (Int × ((List Int) × Unit)))))) × Int → Option Ω) : ref13_New.s x0 k = k (ref13_New.t x0) := by
  delta ref13_New.s ref13_New.t; exact (cond_tot rfl rfl)
theorem ref13_New.c (x0 : Int) : Contract C 16 [(.v (.int .i64) (x0))] (tupAV (.pair (.int .i64) (.pair .bool (.pair (.arr 8 (.int .i64)) (.pair (.arr 16 (.int .i64)) (.pair (.int .i64) (.pair (.arr 8 (.int .i64)) .unit)))))) [(.int .i64)] (ref13_New.t x0)) :=
  contract_s (S := fun k => ref13_New.s x0 k) C_ok (orS_ok ref08_Fine.e_ok noS_ok) (by kernel_rfl) (by kernel_rfl) (by kernel_rfl) (ref13_New.ev ⟨1, fun _ => []⟩ x0 (dec (.pair (.int .i64) (.pair .bool (.pair (.arr 8 (.int .i64)) (.pair (.arr 16 (.int .i64)) (.pair (.int .i64) (.pair (.arr 8 (.int .i64)) .unit)))))) [(.int .i64)])) (ref13_New.v x0 some)
noncomputable def ref13_New.e : Ent := argI (.int .i64) fun x0 => endT (tupAV (.pair (.int .i64) (.pair .bool (.pair (.arr 8 (.int .i64)) (.pair (.arr 16 (.int .i64)) (.pair (.int .i64) (.pair (.arr 8 (.int .i64)) .unit)))))) [(.int .i64)] (ref13_New.t x0))
theorem ref13_New.e_ok : EntOK C 16 (fun {_} => ref13_New.e) := entA_ok (argI_ok fun x0 => endT_ok (ref13_New.c x0))

/-- becket frame.place -/
noncomputable def frame_place.sp : Spec := noS
def frame_place.s {Ω : Type} (x0 : Int) (k : Bool → Option Ω) : Option Ω :=
  bif (decide (x0 ≥ 0)) then
    k (decide (x0 ≤ 64))
  else
    k false
theorem frame_place.ev {Ω : Type} (fuel : Fuel) (x0 : Int) (k : AV → Option Ω) : evFn C (fun {_} => frame_place.sp) fuel Tryd.f56 (Tryd.f56.body.getD .skip) [(.v (.int .i64) (x0))] k = frame_place.s x0 (fun r => k (tupAV .bool [] r)) := by kernel_rfl
def frame_place.t (x0 : Int) : Bool :=
  bif (decide (x0 ≥ 0)) then
    (decide (x0 ≤ 64))
  else
    false
theorem frame_place.v {Ω : Type} (x0 : Int) (k : Bool → Option Ω) : frame_place.s x0 k = k (frame_place.t x0) := by
  delta frame_place.s frame_place.t; exact (cond_tot rfl rfl)
theorem frame_place.c (x0 : Int) : Contract C 56 [(.v (.int .i64) (x0))] (tupAV .bool [] (frame_place.t x0)) :=
  contract_s (S := fun k => frame_place.s x0 k) C_ok noS_ok (by kernel_rfl) (by kernel_rfl) (by kernel_rfl) (frame_place.ev ⟨1, fun _ => []⟩ x0 (dec .bool [])) (frame_place.v x0 some)
noncomputable def frame_place.e : Ent := argI (.int .i64) fun x0 => endT (tupAV .bool [] (frame_place.t x0))
theorem frame_place.e_ok : EntOK C 56 (fun {_} => frame_place.e) := entA_ok (argI_ok fun x0 => endT_ok (frame_place.c x0))

/-- becket frame.all 1 -/
noncomputable def frame_all_1__word_Fine.sp : Spec := (orS 52 (fun {_} => word_Fine.e) noS)
def frame_all_1__word_Fine.s {Ω : Type} (x0 : Int) (k : Bool → Option Ω) : Option Ω :=
  k (!(word_Fine.t x0))
theorem frame_all_1__word_Fine.ev {Ω : Type} (fuel : Fuel) (x0 : Int) (k : AV → Option Ω) : evFn C (fun {_} => frame_all_1__word_Fine.sp) fuel Tryd.f81 (Tryd.f81.body.getD .skip) [(.v (.int .i64) (x0)), (.vp (.raw .func) (Value.func (.func 52) #[] #[]) [])] k = frame_all_1__word_Fine.s x0 (fun r => k (tupAV .bool [] r)) := by kernel_rfl
def frame_all_1__word_Fine.t (x0 : Int) : Bool :=
  (!(word_Fine.t x0))
theorem frame_all_1__word_Fine.v {Ω : Type} (x0 : Int) (k : Bool → Option Ω) : frame_all_1__word_Fine.s x0 k = k (frame_all_1__word_Fine.t x0) := by
  delta frame_all_1__word_Fine.s frame_all_1__word_Fine.t; exact rfl
theorem frame_all_1__word_Fine.c (x0 : Int) : Contract C 81 [(.v (.int .i64) (x0)), (.vp (.raw .func) (Value.func (.func 52) #[] #[]) [])] (tupAV .bool [] (frame_all_1__word_Fine.t x0)) :=
  contract_s (S := fun k => frame_all_1__word_Fine.s x0 k) C_ok (orS_ok word_Fine.e_ok noS_ok) (by kernel_rfl) (by kernel_rfl) (by kernel_rfl) (frame_all_1__word_Fine.ev ⟨1, fun _ => []⟩ x0 (dec .bool [])) (frame_all_1__word_Fine.v x0 some)
noncomputable def frame_all_1__word_Fine.e : Ent := argI (.int .i64) fun x0 => argQ 52 (endT (tupAV .bool [] (frame_all_1__word_Fine.t x0)))
theorem frame_all_1__word_Fine.e_ok : EntOK C 81 (fun {_} => frame_all_1__word_Fine.e) := entA_ok (argI_ok fun x0 => argQ_ok (endT_ok (frame_all_1__word_Fine.c x0)))

/-- slices.IndexFunc   int,int  -/
noncomputable def slices_IndexFunc_int_int__frame_all_1_word_Fine.sp : Spec := (orS 81 (fun {_} => frame_all_1__word_Fine.e) noS)
def slices_IndexFunc_int_int__frame_all_1_word_Fine.F (fuel : Nat) : Fuel := ⟨fuel, fun r => bif r == 2 then [2, 3, 6] else []⟩
def slices_IndexFunc_int_int__frame_all_1_word_Fine.b0 {Ω : Type} (e2_1 : (List Int)) (e2_2 : Int)   (k : Int → Option Ω) (r2 : Int → Option Ω) (s2 : Int) : Option Ω :=
  bif (decide (s2 < e2_2)) then
    bif (idxOK s2 (List.length e2_1)) then
      bif (frame_all_1__word_Fine.t ((List.getD e2_1 (Int.toNat s2) 0))) then
        k s2
      else
        r2 ((IntKind.wrap .i64 (s2 + 1)))
    else
      none
  else
    k (-1)
def slices_IndexFunc_int_int__frame_all_1_word_Fine.B0 {Ω : Type} (fuel : Nat) (e2_1 : (List Int)) (e2_2 : Int)  (k : Int → Option Ω) (r2 : Int → Option Ω) (s2 : Int) : Option Ω := slices_IndexFunc_int_int__frame_all_1_word_Fine.b0 e2_1 e2_2   k r2 s2
theorem slices_IndexFunc_int_int__frame_all_1_word_Fine.l0 {Ω : Type} (fuel : Nat) (e2_1 : (List Int)) (e2_2 : Int)  (k : AV → Option Ω) : ∀ m, (fun s => loopK (fun env L k => evCode C (fun {_} => slices_IndexFunc_int_int__frame_all_1_word_Fine.sp) (slices_IndexFunc_int_int__frame_all_1_word_Fine.F fuel) (cl (cl (cr (cl (cr (Tryd.f100.body.getD .skip)))))) env L k) [false, false, true, true, false, true, true, false, false, true, true, true, true, true, true, true, true, true, true] 0 (blockK 0 (seqK (fun env L => evCode C (fun {_} => slices_IndexFunc_int_int__frame_all_1_word_Fine.sp) (slices_IndexFunc_int_int__frame_all_1_word_Fine.F fuel) (cr (cr (Tryd.f100.body.getD .skip))) env L (finK C Tryd.f100 k)) (finK C Tryd.f100 k))) m ((fun s2 => [(.v (.slice (.int .i64)) (e2_1)), (.fn 81 [(.vp (.raw .func) (Value.func (.func 52) #[] #[]) [])]), .dead, .dead, (.v (.int .i64) (0)), .dead, .dead, (.v (.int .i64) (e2_2)), (.v (.int .i64) (s2)), .dead, .dead, .dead, .dead, .dead, .dead, .dead, .dead, .dead, .dead]) s) ((fun s2 => []) s)) = iter (slices_IndexFunc_int_int__frame_all_1_word_Fine.B0 fuel e2_1 e2_2  (fun r => k (tupAV (.int .i64) [] r))) m :=
  loopK_iter (envOf := (fun s2 => [(.v (.slice (.int .i64)) (e2_1)), (.fn 81 [(.vp (.raw .func) (Value.func (.func 52) #[] #[]) [])]), .dead, .dead, (.v (.int .i64) (0)), .dead, .dead, (.v (.int .i64) (e2_2)), (.v (.int .i64) (s2)), .dead, .dead, .dead, .dead, .dead, .dead, .dead, .dead, .dead, .dead])) (LOf := (fun s2 => [])) (B := slices_IndexFunc_int_int__frame_all_1_word_Fine.B0 fuel e2_1 e2_2  (fun r => k (tupAV (.int .i64) [] r))) (fun R s => by kernel_rfl)
def slices_IndexFunc_int_int__frame_all_1_word_Fine.sl {Ω : Type} (x0 : (List Int)) (lp0 : (List Int) → Int → Int → Option Ω) (k : Int → Option Ω) : Option Ω :=
  lp0 x0 (((List.length x0 : Nat) : Int)) (0)
def slices_IndexFunc_int_int__frame_all_1_word_Fine.s {Ω : Type} (fuel : Nat) (x0 : (List Int)) (k : Int → Option Ω) : Option Ω := slices_IndexFunc_int_int__frame_all_1_word_Fine.sl x0 (fun e2_1 e2_2 => (iter (slices_IndexFunc_int_int__frame_all_1_word_Fine.B0 fuel e2_1 e2_2  k) fuel)) k
theorem slices_IndexFunc_int_int__frame_all_1_word_Fine.ev {Ω : Type} (fuel : Nat) (x0 : (List Int)) (k : AV → Option Ω) : evFn C (fun {_} => slices_IndexFunc_int_int__frame_all_1_word_Fine.sp) (slices_IndexFunc_int_int__frame_all_1_word_Fine.F fuel) Tryd.f100 (Tryd.f100.body.getD .skip) [(.v (.slice (.int .i64)) (x0)), (.fn 81 [(.vp (.raw .func) (Value.func (.func 52) #[] #[]) [])])] k = slices_IndexFunc_int_int__frame_all_1_word_Fine.s fuel x0 (fun r => k (tupAV (.int .i64) [] r)) := by
  have h0 : evFn C (fun {_} => slices_IndexFunc_int_int__frame_all_1_word_Fine.sp) (slices_IndexFunc_int_int__frame_all_1_word_Fine.F fuel) Tryd.f100 (Tryd.f100.body.getD .skip) [(.v (.slice (.int .i64)) (x0)), (.fn 81 [(.vp (.raw .func) (Value.func (.func 52) #[] #[]) [])])] k = slices_IndexFunc_int_int__frame_all_1_word_Fine.sl x0 (fun e2_1 e2_2 => (fun s => loopK (fun env L k => evCode C (fun {_} => slices_IndexFunc_int_int__frame_all_1_word_Fine.sp) (slices_IndexFunc_int_int__frame_all_1_word_Fine.F fuel) (cl (cl (cr (cl (cr (Tryd.f100.body.getD .skip)))))) env L k) [false, false, true, true, false, true, true, false, false, true, true, true, true, true, true, true, true, true, true] 0 (blockK 0 (seqK (fun env L => evCode C (fun {_} => slices_IndexFunc_int_int__frame_all_1_word_Fine.sp) (slices_IndexFunc_int_int__frame_all_1_word_Fine.F fuel) (cr (cr (Tryd.f100.body.getD .skip))) env L (finK C Tryd.f100 k)) (finK C Tryd.f100 k))) fuel ((fun s2 => [(.v (.slice (.int .i64)) (e2_1)), (.fn 81 [(.vp (.raw .func) (Value.func (.func 52) #[] #[]) [])]), .dead, .dead, (.v (.int .i64) (0)), .dead, .dead, (.v (.int .i64) (e2_2)), (.v (.int .i64) (s2)), .dead, .dead, .dead, .dead, .dead, .dead, .dead, .dead, .dead, .dead]) s) ((fun s2 => []) s))) (fun r => k (tupAV (.int .i64) [] r)) := by kernel_rfl
  have h1 : (fun e2_1 e2_2 => (fun s => loopK (fun env L k => evCode C (fun {_} => slices_IndexFunc_int_int__frame_all_1_word_Fine.sp) (slices_IndexFunc_int_int__frame_all_1_word_Fine.F fuel) (cl (cl (cr (cl (cr (Tryd.f100.body.getD .skip)))))) env L k) [false, false, true, true, false, true, true, false, false, true, true, true, true, true, true, true, true, true, true] 0 (blockK 0 (seqK (fun env L => evCode C (fun {_} => slices_IndexFunc_int_int__frame_all_1_word_Fine.sp) (slices_IndexFunc_int_int__frame_all_1_word_Fine.F fuel) (cr (cr (Tryd.f100.body.getD .skip))) env L (finK C Tryd.f100 k)) (finK C Tryd.f100 k))) fuel ((fun s2 => [(.v (.slice (.int .i64)) (e2_1)), (.fn 81 [(.vp (.raw .func) (Value.func (.func 52) #[] #[]) [])]), .dead, .dead, (.v (.int .i64) (0)), .dead, .dead, (.v (.int .i64) (e2_2)), (.v (.int .i64) (s2)), .dead, .dead, .dead, .dead, .dead, .dead, .dead, .dead, .dead, .dead]) s) ((fun s2 => []) s))) = (fun e2_1 e2_2 => (iter (slices_IndexFunc_int_int__frame_all_1_word_Fine.B0 fuel e2_1 e2_2  (fun r => k (tupAV (.int .i64) [] r))) fuel)) := funext fun e2_1 => funext fun e2_2 => slices_IndexFunc_int_int__frame_all_1_word_Fine.l0 fuel e2_1 e2_2   k fuel
  rw [h1] at h0
  exact h0
def slices_IndexFunc_int_int__frame_all_1_word_Fine.g0 {Ω : Type} (e2_1 : (List Int))  (k : Int → Option Ω) : List Int → Int → Option Ω
  | [], i2 =>
    k (-1)
  | x2 :: xs2, i2 =>
    bif (frame_all_1__word_Fine.t (x2)) then
      k i2
    else
      slices_IndexFunc_int_int__frame_all_1_word_Fine.g0 e2_1  k xs2 (i2 + 1)
theorem slices_IndexFunc_int_int__frame_all_1_word_Fine.h0 {Ω : Type} (e2_1 : (List Int))   (k : Int → Option Ω) (hX : ((List.length e2_1 : Nat) : Int) ≤ 9223372036854775807) : ∀ (m : Nat) (i : Int) (a : Unit), 0 ≤ i → i ≤ ((List.length e2_1 : Nat) : Int) → ((List.length e2_1 : Nat) : Int) < m + i → Le (slices_IndexFunc_int_int__frame_all_1_word_Fine.g0 e2_1  k (List.drop (Int.toNat i) e2_1) i) (iter (slices_IndexFunc_int_int__frame_all_1_word_Fine.B0 BIG e2_1 (((List.length e2_1 : Nat) : Int))  k) m (i)) :=
  iter_list e2_1 0 (fun (i2 : Int) (a2 : Unit) => (i2)) (fun xs i2 a2 => slices_IndexFunc_int_int__frame_all_1_word_Fine.g0 e2_1  k xs i2) (slices_IndexFunc_int_int__frame_all_1_word_Fine.B0 BIG e2_1 (((List.length e2_1 : Nat) : Int))  k)
    (fun i2 a2 r h0 => (Le.fls h0 (Le.refl _)))
    (fun i2 xs2 a2 r h0 h1 hw ih => (Le.tru h0 (Le.tru h1 (Le.cond (Le.refl _) (ih _ hw ())))))
    hX
def slices_IndexFunc_int_int__frame_all_1_word_Fine.w {Ω : Type} (x0 : (List Int)) (k : Int → Option Ω) : Option Ω :=
  bif decide (((List.length x0 : Nat) : Int) ≤ 4611686018427387904) then slices_IndexFunc_int_int__frame_all_1_word_Fine.g0 x0  k x0 0 else none
theorem slices_IndexFunc_int_int__frame_all_1_word_Fine.le {Ω : Type} (x0 : (List Int)) (k : Int → Option Ω) : Le (slices_IndexFunc_int_int__frame_all_1_word_Fine.w x0 k) (slices_IndexFunc_int_int__frame_all_1_word_Fine.s BIG x0 k) := by
  delta slices_IndexFunc_int_int__frame_all_1_word_Fine.w slices_IndexFunc_int_int__frame_all_1_word_Fine.s slices_IndexFunc_int_int__frame_all_1_word_Fine.sl
  exact (Le.gd fun hg => slices_IndexFunc_int_int__frame_all_1_word_Fine.h0 _   k (le_up (of_decide_eq_true hg)) BIG 0 () (by decide) (zero_le_len _) (big_list (of_decide_eq_true hg)))
def slices_IndexFunc_int_int__frame_all_1_word_Fine.u (x0 : (List Int)) : Option (Int) := slices_IndexFunc_int_int__frame_all_1_word_Fine.w x0 some
theorem slices_IndexFunc_int_int__frame_all_1_word_Fine.c (x0 : (List Int)) (r : Int) (h : slices_IndexFunc_int_int__frame_all_1_word_Fine.u x0 = some r) : Contract C 100 [(.v (.slice (.int .i64)) (x0)), (.fn 81 [(.vp (.raw .func) (Value.func (.func 52) #[] #[]) [])])] (tupAV (.int .i64) [] r) :=
  contract_s (S := fun k => slices_IndexFunc_int_int__frame_all_1_word_Fine.s BIG x0 k) C_ok (orS_ok frame_all_1__word_Fine.e_ok noS_ok) (by kernel_rfl) (by kernel_rfl) (by kernel_rfl) (slices_IndexFunc_int_int__frame_all_1_word_Fine.ev BIG x0 (dec (.int .i64) [])) (slices_IndexFunc_int_int__frame_all_1_word_Fine.le x0 some r h)
noncomputable def slices_IndexFunc_int_int__frame_all_1_word_Fine.e : Ent := argI (.slice (.int .i64)) fun x0 => argFq 81 52 (endU (slices_IndexFunc_int_int__frame_all_1_word_Fine.u x0) (tupAV (.int .i64) []))
theorem slices_IndexFunc_int_int__frame_all_1_word_Fine.e_ok : EntOK C 100 (fun {_} => slices_IndexFunc_int_int__frame_all_1_word_Fine.e) := entA_ok (argI_ok fun x0 => argFq_ok (endU_ok fun r h => slices_IndexFunc_int_int__frame_all_1_word_Fine.c x0 r h))

/-- slices.ContainsFunc   int,int  -/
noncomputable def slices_ContainsFunc_int_int__frame_all_1_word_Fine.sp : Spec := (orS 100 (fun {_} => slices_IndexFunc_int_int__frame_all_1_word_Fine.e) noS)
def slices_ContainsFunc_int_int__frame_all_1_word_Fine.s {Ω : Type} (x0 : (List Int)) (k : Bool → Option Ω) : Option Ω :=
  (slices_IndexFunc_int_int__frame_all_1_word_Fine.u x0).bind fun y1 =>
  k (decide (y1 ≥ 0))
theorem slices_ContainsFunc_int_int__frame_all_1_word_Fine.ev {Ω : Type} (fuel : Fuel) (x0 : (List Int)) (k : AV → Option Ω) : evFn C (fun {_} => slices_ContainsFunc_int_int__frame_all_1_word_Fine.sp) fuel Tryd.f80 (Tryd.f80.body.getD .skip) [(.v (.slice (.int .i64)) (x0)), (.fn 81 [(.vp (.raw .func) (Value.func (.func 52) #[] #[]) [])])] k = slices_ContainsFunc_int_int__frame_all_1_word_Fine.s x0 (fun r => k (tupAV .bool [] r)) := by kernel_rfl
def slices_ContainsFunc_int_int__frame_all_1_word_Fine.u (x0 : (List Int)) : Option (Bool) := slices_ContainsFunc_int_int__frame_all_1_word_Fine.s x0 some
theorem slices_ContainsFunc_int_int__frame_all_1_word_Fine.c (x0 : (List Int)) (r : Bool) (h : slices_ContainsFunc_int_int__frame_all_1_word_Fine.u x0 = some r) : Contract C 80 [(.v (.slice (.int .i64)) (x0)), (.fn 81 [(.vp (.raw .func) (Value.func (.func 52) #[] #[]) [])])] (tupAV .bool [] r) :=
  contract_s (S := fun k => slices_ContainsFunc_int_int__frame_all_1_word_Fine.s x0 k) C_ok (orS_ok slices_IndexFunc_int_int__frame_all_1_word_Fine.e_ok noS_ok) (by kernel_rfl) (by kernel_rfl) (by kernel_rfl) (slices_ContainsFunc_int_int__frame_all_1_word_Fine.ev ⟨1, fun _ => []⟩ x0 (dec .bool [])) h
noncomputable def slices_ContainsFunc_int_int__frame_all_1_word_Fine.e : Ent := argI (.slice (.int .i64)) fun x0 => argFq 81 52 (endU (slices_ContainsFunc_int_int__frame_all_1_word_Fine.u x0) (tupAV .bool []))
theorem slices_ContainsFunc_int_int__frame_all_1_word_Fine.e_ok : EntOK C 80 (fun {_} => slices_ContainsFunc_int_int__frame_all_1_word_Fine.e) := entA_ok (argI_ok fun x0 => argFq_ok (endU_ok fun r h => slices_ContainsFunc_int_int__frame_all_1_word_Fine.c x0 r h))

/-- becket frame.all -/
noncomputable def frame_all__word_Fine.sp : Spec := (orS 80 (fun {_} => slices_ContainsFunc_int_int__frame_all_1_word_Fine.e) noS)
def frame_all__word_Fine.s {Ω : Type} (x0 : (List Int)) (k : Bool → Option Ω) : Option Ω :=
  (slices_ContainsFunc_int_int__frame_all_1_word_Fine.u x0).bind fun y1 =>
  k (!y1)
theorem frame_all__word_Fine.ev {Ω : Type} (fuel : Fuel) (x0 : (List Int)) (k : AV → Option Ω) : evFn C (fun {_} => frame_all__word_Fine.sp) fuel Tryd.f57 (Tryd.f57.body.getD .skip) [(.v (.slice (.int .i64)) (x0)), (.fn 52 [])] k = frame_all__word_Fine.s x0 (fun r => k (tupAV .bool [] r)) := by kernel_rfl
def frame_all__word_Fine.u (x0 : (List Int)) : Option (Bool) := frame_all__word_Fine.s x0 some
theorem frame_all__word_Fine.c (x0 : (List Int)) (r : Bool) (h : frame_all__word_Fine.u x0 = some r) : Contract C 57 [(.v (.slice (.int .i64)) (x0)), (.fn 52 [])] (tupAV .bool [] r) :=
  contract_s (S := fun k => frame_all__word_Fine.s x0 k) C_ok (orS_ok slices_ContainsFunc_int_int__frame_all_1_word_Fine.e_ok noS_ok) (by kernel_rfl) (by kernel_rfl) (by kernel_rfl) (frame_all__word_Fine.ev ⟨1, fun _ => []⟩ x0 (dec .bool [])) h
noncomputable def frame_all__word_Fine.e : Ent := argI (.slice (.int .i64)) fun x0 => argF0 52 (endU (frame_all__word_Fine.u x0) (tupAV .bool []))
theorem frame_all__word_Fine.e_ok : EntOK C 57 (fun {_} => frame_all__word_Fine.e) := entA_ok (argI_ok fun x0 => argF0_ok (endU_ok fun r h => frame_all__word_Fine.c x0 r h))

/-- becket frame.all 1 -/
noncomputable def frame_all_1__frame_place.sp : Spec := (orS 56 (fun {_} => frame_place.e) noS)
def frame_all_1__frame_place.s {Ω : Type} (x0 : Int) (k : Bool → Option Ω) : Option Ω :=
  k (!(frame_place.t x0))
theorem frame_all_1__frame_place.ev {Ω : Type} (fuel : Fuel) (x0 : Int) (k : AV → Option Ω) : evFn C (fun {_} => frame_all_1__frame_place.sp) fuel Tryd.f81 (Tryd.f81.body.getD .skip) [(.v (.int .i64) (x0)), (.vp (.raw .func) (Value.func (.func 56) #[] #[]) [])] k = frame_all_1__frame_place.s x0 (fun r => k (tupAV .bool [] r)) := by kernel_rfl
def frame_all_1__frame_place.t (x0 : Int) : Bool :=
  (!(frame_place.t x0))
theorem frame_all_1__frame_place.v {Ω : Type} (x0 : Int) (k : Bool → Option Ω) : frame_all_1__frame_place.s x0 k = k (frame_all_1__frame_place.t x0) := by
  delta frame_all_1__frame_place.s frame_all_1__frame_place.t; exact rfl
theorem frame_all_1__frame_place.c (x0 : Int) : Contract C 81 [(.v (.int .i64) (x0)), (.vp (.raw .func) (Value.func (.func 56) #[] #[]) [])] (tupAV .bool [] (frame_all_1__frame_place.t x0)) :=
  contract_s (S := fun k => frame_all_1__frame_place.s x0 k) C_ok (orS_ok frame_place.e_ok noS_ok) (by kernel_rfl) (by kernel_rfl) (by kernel_rfl) (frame_all_1__frame_place.ev ⟨1, fun _ => []⟩ x0 (dec .bool [])) (frame_all_1__frame_place.v x0 some)
noncomputable def frame_all_1__frame_place.e : Ent := argI (.int .i64) fun x0 => argQ 56 (endT (tupAV .bool [] (frame_all_1__frame_place.t x0)))
theorem frame_all_1__frame_place.e_ok : EntOK C 81 (fun {_} => frame_all_1__frame_place.e) := entA_ok (argI_ok fun x0 => argQ_ok (endT_ok (frame_all_1__frame_place.c x0)))

/-- slices.IndexFunc   int,int  -/
noncomputable def slices_IndexFunc_int_int__frame_all_1_frame_place.sp : Spec := (orS 81 (fun {_} => frame_all_1__frame_place.e) noS)
def slices_IndexFunc_int_int__frame_all_1_frame_place.F (fuel : Nat) : Fuel := ⟨fuel, fun r => bif r == 2 then [2, 3, 6] else []⟩
def slices_IndexFunc_int_int__frame_all_1_frame_place.b0 {Ω : Type} (e2_1 : (List Int)) (e2_2 : Int)   (k : Int → Option Ω) (r2 : Int → Option Ω) (s2 : Int) : Option Ω :=
  bif (decide (s2 < e2_2)) then
    bif (idxOK s2 (List.length e2_1)) then
      bif (frame_all_1__frame_place.t ((List.getD e2_1 (Int.toNat s2) 0))) then
        k s2
      else
        r2 ((IntKind.wrap .i64 (s2 + 1)))
    else
      none
  else
    k (-1)
def slices_IndexFunc_int_int__frame_all_1_frame_place.B0 {Ω : Type} (fuel : Nat) (e2_1 : (List Int)) (e2_2 : Int)  (k : Int → Option Ω) (r2 : Int → Option Ω) (s2 : Int) : Option Ω := slices_IndexFunc_int_int__frame_all_1_frame_place.b0 e2_1 e2_2   k r2 s2
theorem slices_IndexFunc_int_int__frame_all_1_frame_place.l0 {Ω : Type} (fuel : Nat) (e2_1 : (List Int)) (e2_2 : Int)  (k : AV → Option Ω) : ∀ m, (fun s => loopK (fun env L k => evCode C (fun {_} => slices_IndexFunc_int_int__frame_all_1_frame_place.sp) (slices_IndexFunc_int_int__frame_all_1_frame_place.F fuel) (cl (cl (cr (cl (cr (Tryd.f100.body.getD .skip)))))) env L k) [false, false, true, true, false, true, true, false, false, true, true, true, true, true, true, true, true, true, true] 0 (blockK 0 (seqK (fun env L => evCode C (fun {_} => slices_IndexFunc_int_int__frame_all_1_frame_place.sp) (slices_IndexFunc_int_int__frame_all_1_frame_place.F fuel) (cr (cr (Tryd.f100.body.getD .skip))) env L (finK C Tryd.f100 k)) (finK C Tryd.f100 k))) m ((fun s2 => [(.v (.slice (.int .i64)) (e2_1)), (.fn 81 [(.vp (.raw .func) (Value.func (.func 56) #[] #[]) [])]), .dead, .dead, (.v (.int .i64) (0)), .dead, .dead, (.v (.int .i64) (e2_2)), (.v (.int .i64) (s2)), .dead, .dead, .dead, .dead, .dead, .dead, .dead, .dead, .dead, .dead]) s) ((fun s2 => []) s)) = iter (slices_IndexFunc_int_int__frame_all_1_frame_place.B0 fuel e2_1 e2_2  (fun r => k (tupAV (.int .i64) [] r))) m :=
  loopK_iter (envOf := (fun s2 => [(.v (.slice (.int .i64)) (e2_1)), (.fn 81 [(.vp (.raw .func) (Value.func (.func 56) #[] #[]) [])]), .dead, .dead, (.v (.int .i64) (0)), .dead, .dead, (.v (.int .i64) (e2_2)), (.v (.int .i64) (s2)), .dead, .dead, .dead, .dead, .dead, .dead, .dead, .dead, .dead, .dead])) (LOf := (fun s2 => [])) (B := slices_IndexFunc_int_int__frame_all_1_frame_place.B0 fuel e2_1 e2_2  (fun r => k (tupAV (.int .i64) [] r))) (fun R s => by kernel_rfl)
def slices_IndexFunc_int_int__frame_all_1_frame_place.sl {Ω : Type} (x0 : (List Int)) (lp0 : (List Int) → Int → Int → Option Ω) (k : Int → Option Ω) : Option Ω :=
  lp0 x0 (((List.length x0 : Nat) : Int)) (0)
def slices_IndexFunc_int_int__frame_all_1_frame_place.s {Ω : Type} (fuel : Nat) (x0 : (List Int)) (k : Int → Option Ω) : Option Ω := slices_IndexFunc_int_int__frame_all_1_frame_place.sl x0 (fun e2_1 e2_2 => (iter (slices_IndexFunc_int_int__frame_all_1_frame_place.B0 fuel e2_1 e2_2  k) fuel)) k
theorem slices_IndexFunc_int_int__frame_all_1_frame_place.ev {Ω : Type} (fuel : Nat) (x0 : (List Int)) (k : AV → Option Ω) : evFn C (fun {_} => slices_IndexFunc_int_int__frame_all_1_frame_place.sp) (slices_IndexFunc_int_int__frame_all_1_frame_place.F fuel) Tryd.f100 (Tryd.f100.body.getD .skip) [(.v (.slice (.int .i64)) (x0)), (.fn 81 [(.vp (.raw .func) (Value.func (.func 56) #[] #[]) [])])] k = slices_IndexFunc_int_int__frame_all_1_frame_place.s fuel x0 (fun r => k (tupAV (.int .i64) [] r)) := by
  have h0 : evFn C (fun {_} => slices_IndexFunc_int_int__frame_all_1_frame_place.sp) (slices_IndexFunc_int_int__frame_all_1_frame_place.F fuel) Tryd.f100 (Tryd.f100.body.getD .skip) [(.v (.slice (.int .i64)) (x0)), (.fn 81 [(.vp (.raw .func) (Value.func (.func 56) #[] #[]) [])])] k = slices_IndexFunc_int_int__frame_all_1_frame_place.sl x0 (fun e2_1 e2_2 => (fun s => loopK (fun env L k => evCode C (fun {_} => slices_IndexFunc_int_int__frame_all_1_frame_place.sp) (slices_IndexFunc_int_int__frame_all_1_frame_place.F fuel) (cl (cl (cr (cl (cr (Tryd.f100.body.getD .skip)))))) env L k) [false, false, true, true, false, true, true, false, false, true, true, true, true, true, true, true, true, true, true] 0 (blockK 0 (seqK (fun env L => evCode C (fun {_} => slices_IndexFunc_int_int__frame_all_1_frame_place.sp) (slices_IndexFunc_int_int__frame_all_1_frame_place.F fuel) (cr (cr (Tryd.f100.body.getD .skip))) env L (finK C Tryd.f100 k)) (finK C Tryd.f100 k))) fuel ((fun s2 => [(.v (.slice (.int .i64)) (e2_1)), (.fn 81 [(.vp (.raw .func) (Value.func (.func 56) #[] #[]) [])]), .dead, .dead, (.v (.int .i64) (0)), .dead, .dead, (.v (.int .i64) (e2_2)), (.v (.int .i64) (s2)), .dead, .dead, .dead, .dead, .dead, .dead, .dead, .dead, .dead, .dead]) s) ((fun s2 => []) s))) (fun r => k (tupAV (.int .i64) [] r)) := by kernel_rfl
  have h1 : (fun e2_1 e2_2 => (fun s => loopK (fun env L k => evCode C (fun {_} => slices_IndexFunc_int_int__frame_all_1_frame_place.sp) (slices_IndexFunc_int_int__frame_all_1_frame_place.F fuel) (cl (cl (cr (cl (cr (Tryd.f100.body.getD .skip)))))) env L k) [false, false, true, true, false, true, true, false, false, true, true, true, true, true, true, true, true, true, true] 0 (blockK 0 (seqK (fun env L => evCode C (fun {_} => slices_IndexFunc_int_int__frame_all_1_frame_place.sp) (slices_IndexFunc_int_int__frame_all_1_frame_place.F fuel) (cr (cr (Tryd.f100.body.getD .skip))) env L (finK C Tryd.f100 k)) (finK C Tryd.f100 k))) fuel ((fun s2 => [(.v (.slice (.int .i64)) (e2_1)), (.fn 81 [(.vp (.raw .func) (Value.func (.func 56) #[] #[]) [])]), .dead, .dead, (.v (.int .i64) (0)), .dead, .dead, (.v (.int .i64) (e2_2)), (.v (.int .i64) (s2)), .dead, .dead, .dead, .dead, .dead, .dead, .dead, .dead, .dead, .dead]) s) ((fun s2 => []) s))) = (fun e2_1 e2_2 => (iter (slices_IndexFunc_int_int__frame_all_1_frame_place.B0 fuel e2_1 e2_2  (fun r => k (tupAV (.int .i64) [] r))) fuel)) := funext fun e2_1 => funext fun e2_2 => slices_IndexFunc_int_int__frame_all_1_frame_place.l0 fuel e2_1 e2_2   k fuel
  rw [h1] at h0
  exact h0
def slices_IndexFunc_int_int__frame_all_1_frame_place.g0 {Ω : Type} (e2_1 : (List Int))  (k : Int → Option Ω) : List Int → Int → Option Ω
  | [], i2 =>
    k (-1)
  | x2 :: xs2, i2 =>
    bif (frame_all_1__frame_place.t (x2)) then
      k i2
    else
      slices_IndexFunc_int_int__frame_all_1_frame_place.g0 e2_1  k xs2 (i2 + 1)
theorem slices_IndexFunc_int_int__frame_all_1_frame_place.h0 {Ω : Type} (e2_1 : (List Int))   (k : Int → Option Ω) (hX : ((List.length e2_1 : Nat) : Int) ≤ 9223372036854775807) : ∀ (m : Nat) (i : Int) (a : Unit), 0 ≤ i → i ≤ ((List.length e2_1 : Nat) : Int) → ((List.length e2_1 : Nat) : Int) < m + i → Le (slices_IndexFunc_int_int__frame_all_1_frame_place.g0 e2_1  k (List.drop (Int.toNat i) e2_1) i) (iter (slices_IndexFunc_int_int__frame_all_1_frame_place.B0 BIG e2_1 (((List.length e2_1 : Nat) : Int))  k) m (i)) :=
  iter_list e2_1 0 (fun (i2 : Int) (a2 : Unit) => (i2)) (fun xs i2 a2 => slices_IndexFunc_int_int__frame_all_1_frame_place.g0 e2_1  k xs i2) (slices_IndexFunc_int_int__frame_all_1_frame_place.B0 BIG e2_1 (((List.length e2_1 : Nat) : Int))  k)
    (fun i2 a2 r h0 => (Le.fls h0 (Le.refl _)))
    (fun i2 xs2 a2 r h0 h1 hw ih => (Le.tru h0 (Le.tru h1 (Le.cond (Le.refl _) (ih _ hw ())))))
    hX
def slices_IndexFunc_int_int__frame_all_1_frame_place.w {Ω : Type} (x0 : (List Int)) (k : Int → Option Ω) : Option Ω :=
  bif decide (((List.length x0 : Nat) : Int) ≤ 4611686018427387904) then slices_IndexFunc_int_int__frame_all_1_frame_place.g0 x0  k x0 0 else none
theorem slices_IndexFunc_int_int__frame_all_1_frame_place.le {Ω : Type} (x0 : (List Int)) (k : Int → Option Ω) : Le (slices_IndexFunc_int_int__frame_all_1_frame_place.w x0 k) (slices_IndexFunc_int_int__frame_all_1_frame_place.s BIG x0 k) := by
  delta slices_IndexFunc_int_int__frame_all_1_frame_place.w slices_IndexFunc_int_int__frame_all_1_frame_place.s slices_IndexFunc_int_int__frame_all_1_frame_place.sl
  exact (Le.gd fun hg => slices_IndexFunc_int_int__frame_all_1_frame_place.h0 _   k (le_up (of_decide_eq_true hg)) BIG 0 () (by decide) (zero_le_len _) (big_list (of_decide_eq_true hg)))
def slices_IndexFunc_int_int__frame_all_1_frame_place.u (x0 : (List Int)) : Option (Int) := slices_IndexFunc_int_int__frame_all_1_frame_place.w x0 some
theorem slices_IndexFunc_int_int__frame_all_1_frame_place.c (x0 : (List Int)) (r : Int) (h : slices_IndexFunc_int_int__frame_all_1_frame_place.u x0 = some r) : Contract C 100 [(.v (.slice (.int .i64)) (x0)), (.fn 81 [(.vp (.raw .func) (Value.func (.func 56) #[] #[]) [])])] (tupAV (.int .i64) [] r) :=
  contract_s (S := fun k => slices_IndexFunc_int_int__frame_all_1_frame_place.s BIG x0 k) C_ok (orS_ok frame_all_1__frame_place.e_ok noS_ok) (by kernel_rfl) (by kernel_rfl) (by kernel_rfl) (slices_IndexFunc_int_int__frame_all_1_frame_place.ev BIG x0 (dec (.int .i64) [])) (slices_IndexFunc_int_int__frame_all_1_frame_place.le x0 some r h)
noncomputable def slices_IndexFunc_int_int__frame_all_1_frame_place.e : Ent := argI (.slice (.int .i64)) fun x0 => argFq 81 56 (endU (slices_IndexFunc_int_int__frame_all_1_frame_place.u x0) (tupAV (.int .i64) []))
theorem slices_IndexFunc_int_int__frame_all_1_frame_place.e_ok : EntOK C 100 (fun {_} => slices_IndexFunc_int_int__frame_all_1_frame_place.e) := entA_ok (argI_ok fun x0 => argFq_ok (endU_ok fun r h => slices_IndexFunc_int_int__frame_all_1_frame_place.c x0 r h))

/-- slices.ContainsFunc   int,int  -/
noncomputable def slices_ContainsFunc_int_int__frame_all_1_frame_place.sp : Spec := (orS 100 (fun {_} => slices_IndexFunc_int_int__frame_all_1_frame_place.e) noS)
def slices_ContainsFunc_int_int__frame_all_1_frame_place.s {Ω : Type} (x0 : (List Int)) (k : Bool → Option Ω) : Option Ω :=
  (slices_IndexFunc_int_int__frame_all_1_frame_place.u x0).bind fun y1 =>
  k (decide (y1 ≥ 0))
theorem slices_ContainsFunc_int_int__frame_all_1_frame_place.ev {Ω : Type} (fuel : Fuel) (x0 : (List Int)) (k : AV → Option Ω) : evFn C (fun {_} => slices_ContainsFunc_int_int__frame_all_1_frame_place.sp) fuel Tryd.f80 (Tryd.f80.body.getD .skip) [(.v (.slice (.int .i64)) (x0)), (.fn 81 [(.vp (.raw .func) (Value.func (.func 56) #[] #[]) [])])] k = slices_ContainsFunc_int_int__frame_all_1_frame_place.s x0 (fun r => k (tupAV .bool [] r)) := by kernel_rfl
def slices_ContainsFunc_int_int__frame_all_1_frame_place.u (x0 : (List Int)) : Option (Bool) := slices_ContainsFunc_int_int__frame_all_1_frame_place.s x0 some
theorem slices_ContainsFunc_int_int__frame_all_1_frame_place.c (x0 : (List Int)) (r : Bool) (h : slices_ContainsFunc_int_int__frame_all_1_frame_place.u x0 = some r) : Contract C 80 [(.v (.slice (.int .i64)) (x0)), (.fn 81 [(.vp (.raw .func) (Value.func (.func 56) #[] #[]) [])])] (tupAV .bool [] r) :=
  contract_s (S := fun k => slices_ContainsFunc_int_int__frame_all_1_frame_place.s x0 k) C_ok (orS_ok slices_IndexFunc_int_int__frame_all_1_frame_place.e_ok noS_ok) (by kernel_rfl) (by kernel_rfl) (by kernel_rfl) (slices_ContainsFunc_int_int__frame_all_1_frame_place.ev ⟨1, fun _ => []⟩ x0 (dec .bool [])) h
noncomputable def slices_ContainsFunc_int_int__frame_all_1_frame_place.e : Ent := argI (.slice (.int .i64)) fun x0 => argFq 81 56 (endU (slices_ContainsFunc_int_int__frame_all_1_frame_place.u x0) (tupAV .bool []))
theorem slices_ContainsFunc_int_int__frame_all_1_frame_place.e_ok : EntOK C 80 (fun {_} => slices_ContainsFunc_int_int__frame_all_1_frame_place.e) := entA_ok (argI_ok fun x0 => argFq_ok (endU_ok fun r h => slices_ContainsFunc_int_int__frame_all_1_frame_place.c x0 r h))

/-- becket frame.all -/
noncomputable def frame_all__frame_place.sp : Spec := (orS 80 (fun {_} => slices_ContainsFunc_int_int__frame_all_1_frame_place.e) noS)
def frame_all__frame_place.s {Ω : Type} (x0 : (List Int)) (k : Bool → Option Ω) : Option Ω :=
  (slices_ContainsFunc_int_int__frame_all_1_frame_place.u x0).bind fun y1 =>
  k (!y1)
theorem frame_all__frame_place.ev {Ω : Type} (fuel : Fuel) (x0 : (List Int)) (k : AV → Option Ω) : evFn C (fun {_} => frame_all__frame_place.sp) fuel Tryd.f57 (Tryd.f57.body.getD .skip) [(.v (.slice (.int .i64)) (x0)), (.fn 56 [])] k = frame_all__frame_place.s x0 (fun r => k (tupAV .bool [] r)) := by kernel_rfl
def frame_all__frame_place.u (x0 : (List Int)) : Option (Bool) := frame_all__frame_place.s x0 some
theorem frame_all__frame_place.c (x0 : (List Int)) (r : Bool) (h : frame_all__frame_place.u x0 = some r) : Contract C 57 [(.v (.slice (.int .i64)) (x0)), (.fn 56 [])] (tupAV .bool [] r) :=
  contract_s (S := fun k => frame_all__frame_place.s x0 k) C_ok (orS_ok slices_ContainsFunc_int_int__frame_all_1_frame_place.e_ok noS_ok) (by kernel_rfl) (by kernel_rfl) (by kernel_rfl) (frame_all__frame_place.ev ⟨1, fun _ => []⟩ x0 (dec .bool [])) h
noncomputable def frame_all__frame_place.e : Ent := argI (.slice (.int .i64)) fun x0 => argF0 56 (endU (frame_all__frame_place.u x0) (tupAV .bool []))
theorem frame_all__frame_place.e_ok : EntOK C 57 (fun {_} => frame_all__frame_place.e) := entA_ok (argI_ok fun x0 => argF0_ok (endU_ok fun r h => frame_all__frame_place.c x0 r h))

/-- becket frame.Fine 1 -/
noncomputable def frame_Fine_1.sp : Spec := noS
def frame_Fine_1.s {Ω : Type} (x0 : Int) (k : Bool → Option Ω) : Option Ω :=
  k (x0 == 0)
theorem frame_Fine_1.ev {Ω : Type} (fuel : Fuel) (x0 : Int) (k : AV → Option Ω) : evFn C (fun {_} => frame_Fine_1.sp) fuel Tryd.f58 (Tryd.f58.body.getD .skip) [(.v (.int .i64) (x0))] k = frame_Fine_1.s x0 (fun r => k (tupAV .bool [] r)) := by kernel_rfl
def frame_Fine_1.t (x0 : Int) : Bool :=
  (x0 == 0)
theorem frame_Fine_1.v {Ω : Type} (x0 : Int) (k : Bool → Option Ω) : frame_Fine_1.s x0 k = k (frame_Fine_1.t x0) := by
  delta frame_Fine_1.s frame_Fine_1.t; exact rfl
theorem frame_Fine_1.c (x0 : Int) : Contract C 58 [(.v (.int .i64) (x0))] (tupAV .bool [] (frame_Fine_1.t x0)) :=
  contract_s (S := fun k => frame_Fine_1.s x0 k) C_ok noS_ok (by kernel_rfl) (by kernel_rfl) (by kernel_rfl) (frame_Fine_1.ev ⟨1, fun _ => []⟩ x0 (dec .bool [])) (frame_Fine_1.v x0 some)
noncomputable def frame_Fine_1.e : Ent := argI (.int .i64) fun x0 => endT (tupAV .bool [] (frame_Fine_1.t x0))
theorem frame_Fine_1.e_ok : EntOK C 58 (fun {_} => frame_Fine_1.e) := entA_ok (argI_ok fun x0 => endT_ok (frame_Fine_1.c x0))

/-- becket frame.all 1 -/
noncomputable def frame_all_1__frame_Fine_1.sp : Spec := (orS 58 (fun {_} => frame_Fine_1.e) noS)
def frame_all_1__frame_Fine_1.s {Ω : Type} (x0 : Int) (k : Bool → Option Ω) : Option Ω :=
  k (!(frame_Fine_1.t x0))
theorem frame_all_1__frame_Fine_1.ev {Ω : Type} (fuel : Fuel) (x0 : Int) (k : AV → Option Ω) : evFn C (fun {_} => frame_all_1__frame_Fine_1.sp) fuel Tryd.f81 (Tryd.f81.body.getD .skip) [(.v (.int .i64) (x0)), (.vp (.raw .func) (Value.func (.func 58) #[] #[]) [])] k = frame_all_1__frame_Fine_1.s x0 (fun r => k (tupAV .bool [] r)) := by kernel_rfl
def frame_all_1__frame_Fine_1.t (x0 : Int) : Bool :=
  (!(frame_Fine_1.t x0))
theorem frame_all_1__frame_Fine_1.v {Ω : Type} (x0 : Int) (k : Bool → Option Ω) : frame_all_1__frame_Fine_1.s x0 k = k (frame_all_1__frame_Fine_1.t x0) := by
  delta frame_all_1__frame_Fine_1.s frame_all_1__frame_Fine_1.t; exact rfl
theorem frame_all_1__frame_Fine_1.c (x0 : Int) : Contract C 81 [(.v (.int .i64) (x0)), (.vp (.raw .func) (Value.func (.func 58) #[] #[]) [])] (tupAV .bool [] (frame_all_1__frame_Fine_1.t x0)) :=
  contract_s (S := fun k => frame_all_1__frame_Fine_1.s x0 k) C_ok (orS_ok frame_Fine_1.e_ok noS_ok) (by kernel_rfl) (by kernel_rfl) (by kernel_rfl) (frame_all_1__frame_Fine_1.ev ⟨1, fun _ => []⟩ x0 (dec .bool [])) (frame_all_1__frame_Fine_1.v x0 some)
noncomputable def frame_all_1__frame_Fine_1.e : Ent := argI (.int .i64) fun x0 => argQ 58 (endT (tupAV .bool [] (frame_all_1__frame_Fine_1.t x0)))
theorem frame_all_1__frame_Fine_1.e_ok : EntOK C 81 (fun {_} => frame_all_1__frame_Fine_1.e) := entA_ok (argI_ok fun x0 => argQ_ok (endT_ok (frame_all_1__frame_Fine_1.c x0)))

/-- slices.IndexFunc   int,int  -/
noncomputable def slices_IndexFunc_int_int__frame_all_1_frame_Fine_1.sp : Spec := (orS 81 (fun {_} => frame_all_1__frame_Fine_1.e) noS)
def slices_IndexFunc_int_int__frame_all_1_frame_Fine_1.F (fuel : Nat) : Fuel := ⟨fuel, fun r => bif r == 2 then [2, 3, 6] else []⟩
def slices_IndexFunc_int_int__frame_all_1_frame_Fine_1.b0 {Ω : Type} (e2_1 : (List Int)) (e2_2 : Int)   (k : Int → Option Ω) (r2 : Int → Option Ω) (s2 : Int) : Option Ω :=
  bif (decide (s2 < e2_2)) then
    bif (idxOK s2 (List.length e2_1)) then
      bif (frame_all_1__frame_Fine_1.t ((List.getD e2_1 (Int.toNat s2) 0))) then
        k s2
      else
        r2 ((IntKind.wrap .i64 (s2 + 1)))
    else
      none
  else
    k (-1)
def slices_IndexFunc_int_int__frame_all_1_frame_Fine_1.B0 {Ω : Type} (fuel : Nat) (e2_1 : (List Int)) (e2_2 : Int)  (k : Int → Option Ω) (r2 : Int → Option Ω) (s2 : Int) : Option Ω := slices_IndexFunc_int_int__frame_all_1_frame_Fine_1.b0 e2_1 e2_2   k r2 s2
theorem slices_IndexFunc_int_int__frame_all_1_frame_Fine_1.l0 {Ω : Type} (fuel : Nat) (e2_1 : (List Int)) (e2_2 : Int)  (k : AV → Option Ω) : ∀ m, (fun s => loopK (fun env L k => evCode C (fun {_} => slices_IndexFunc_int_int__frame_all_1_frame_Fine_1.sp) (slices_IndexFunc_int_int__frame_all_1_frame_Fine_1.F fuel) (cl (cl (cr (cl (cr (Tryd.f100.body.getD .skip)))))) env L k) [false, false, true, true, false, true, true, false, false, true, true, true, true, true, true, true, true, true, true] 0 (blockK 0 (seqK (fun env L => evCode C (fun {_} => slices_IndexFunc_int_int__frame_all_1_frame_Fine_1.sp) (slices_IndexFunc_int_int__frame_all_1_frame_Fine_1.F fuel) (cr (cr (Tryd.f100.body.getD .skip))) env L (finK C Tryd.f100 k)) (finK C Tryd.f100 k))) m ((fun s2 => [(.v (.slice (.int .i64)) (e2_1)), (.fn 81 [(.vp (.raw .func) (Value.func (.func 58) #[] #[]) [])]), .dead, .dead, (.v (.int .i64) (0)), .dead, .dead, (.v (.int .i64) (e2_2)), (.v (.int .i64) (s2)), .dead, .dead, .dead, .dead, .dead, .dead, .dead, .dead, .dead, .dead]) s) ((fun s2 => []) s)) = iter (slices_IndexFunc_int_int__frame_all_1_frame_Fine_1.B0 fuel e2_1 e2_2  (fun r => k (tupAV (.int .i64) [] r))) m :=
  loopK_iter (envOf := (fun s2 => [(.v (.slice (.int .i64)) (e2_1)), (.fn 81 [(.vp (.raw .func) (Value.func (.func 58) #[] #[]) [])]), .dead, .dead, (.v (.int .i64) (0)), .dead, .dead, (.v (.int .i64) (e2_2)), (.v (.int .i64) (s2)), .dead, .dead, .dead, .dead, .dead, .dead, .dead, .dead, .dead, .dead])) (LOf := (fun s2 => [])) (B := slices_IndexFunc_int_int__frame_all_1_frame_Fine_1.B0 fuel e2_1 e2_2  (fun r => k (tupAV (.int .i64) [] r))) (fun R s => by kernel_rfl)
def slices_IndexFunc_int_int__frame_all_1_frame_Fine_1.sl {Ω : Type} (x0 : (List Int)) (lp0 : (List Int) → Int → Int → Option Ω) (k : Int → Option Ω) : Option Ω :=
  lp0 x0 (((List.length x0 : Nat) : Int)) (0)
def slices_IndexFunc_int_int__frame_all_1_frame_Fine_1.s {Ω : Type} (fuel : Nat) (x0 : (List Int)) (k : Int → Option Ω) : Option Ω := slices_IndexFunc_int_int__frame_all_1_frame_Fine_1.sl x0 (fun e2_1 e2_2 => (iter (slices_IndexFunc_int_int__frame_all_1_frame_Fine_1.B0 fuel e2_1 e2_2  k) fuel)) k
theorem slices_IndexFunc_int_int__frame_all_1_frame_Fine_1.ev {Ω : Type} (fuel : Nat) (x0 : (List Int)) (k : AV → Option Ω) : evFn C (fun {_} => slices_IndexFunc_int_int__frame_all_1_frame_Fine_1.sp) (slices_IndexFunc_int_int__frame_all_1_frame_Fine_1.F fuel) Tryd.f100 (Tryd.f100.body.getD .skip) [(.v (.slice (.int .i64)) (x0)), (.fn 81 [(.vp (.raw .func) (Value.func (.func 58) #[] #[]) [])])] k = slices_IndexFunc_int_int__frame_all_1_frame_Fine_1.s fuel x0 (fun r => k (tupAV (.int .i64) [] r)) := by
  have h0 : evFn C (fun {_} => slices_IndexFunc_int_int__frame_all_1_frame_Fine_1.sp) (slices_IndexFunc_int_int__frame_all_1_frame_Fine_1.F fuel) Tryd.f100 (Tryd.f100.body.getD .skip) [(.v (.slice (.int .i64)) (x0)), (.fn 81 [(.vp (.raw .func) (Value.func (.func 58) #[] #[]) [])])] k = slices_IndexFunc_int_int__frame_all_1_frame_Fine_1.sl x0 (fun e2_1 e2_2 => (fun s => loopK (fun env L k => evCode C (fun {_} => slices_IndexFunc_int_int__frame_all_1_frame_Fine_1.sp) (slices_IndexFunc_int_int__frame_all_1_frame_Fine_1.F fuel) (cl (cl (cr (cl (cr (Tryd.f100.body.getD .skip)))))) env L k) [false, false, true, true, false, true, true, false, false, true, true, true, true, true, true, true, true, true, true] 0 (blockK 0 (seqK (fun env L => evCode C (fun {_} => slices_IndexFunc_int_int__frame_all_1_frame_Fine_1.sp) (slices_IndexFunc_int_int__frame_all_1_frame_Fine_1.F fuel) (cr (cr (Tryd.f100.body.getD .skip))) env L (finK C Tryd.f100 k)) (finK C Tryd.f100 k))) fuel ((fun s2 => [(.v (.slice (.int .i64)) (e2_1)), (.fn 81 [(.vp (.raw .func) (Value.func (.func 58) #[] #[]) [])]), .dead, .dead, (.v (.int .i64) (0)), .dead, .dead, (.v (.int .i64) (e2_2)), (.v (.int .i64) (s2)), .dead, .dead, .dead, .dead, .dead, .dead, .dead, .dead, .dead, .dead]) s) ((fun s2 => []) s))) (fun r => k (tupAV (.int .i64) [] r)) := by kernel_rfl
  have h1 : (fun e2_1 e2_2 => (fun s => loopK (fun env L k => evCode C (fun {_} => slices_IndexFunc_int_int__frame_all_1_frame_Fine_1.sp) (slices_IndexFunc_int_int__frame_all_1_frame_Fine_1.F fuel) (cl (cl (cr (cl (cr (Tryd.f100.body.getD .skip)))))) env L k) [false, false, true, true, false, true, true, false, false, true, true, true, true, true, true, true, true, true, true] 0 (blockK 0 (seqK (fun env L => evCode C (fun {_} => slices_IndexFunc_int_int__frame_all_1_frame_Fine_1.sp) (slices_IndexFunc_int_int__frame_all_1_frame_Fine_1.F fuel) (cr (cr (Tryd.f100.body.getD .skip))) env L (finK C Tryd.f100 k)) (finK C Tryd.f100 k))) fuel ((fun s2 => [(.v (.slice (.int .i64)) (e2_1)), (.fn 81 [(.vp (.raw .func) (Value.func (.func 58) #[] #[]) [])]), .dead, .dead, (.v (.int .i64) (0)), .dead, .dead, (.v (.int .i64) (e2_2)), (.v (.int .i64) (s2)), .dead, .dead, .dead, .dead, .dead, .dead, .dead, .dead, .dead, .dead]) s) ((fun s2 => []) s))) = (fun e2_1 e2_2 => (iter (slices_IndexFunc_int_int__frame_all_1_frame_Fine_1.B0 fuel e2_1 e2_2  (fun r => k (tupAV (.int .i64) [] r))) fuel)) := funext fun e2_1 => funext fun e2_2 => slices_IndexFunc_int_int__frame_all_1_frame_Fine_1.l0 fuel e2_1 e2_2   k fuel
  rw [h1] at h0
  exact h0
def slices_IndexFunc_int_int__frame_all_1_frame_Fine_1.g0 {Ω : Type} (e2_1 : (List Int))  (k : Int → Option Ω) : List Int → Int → Option Ω
  | [], i2 =>
    k (-1)
  | x2 :: xs2, i2 =>
    bif (frame_all_1__frame_Fine_1.t (x2)) then
      k i2
    else
      slices_IndexFunc_int_int__frame_all_1_frame_Fine_1.g0 e2_1  k xs2 (i2 + 1)
theorem slices_IndexFunc_int_int__frame_all_1_frame_Fine_1.h0 {Ω : Type} (e2_1 : (List Int))   (k : Int → Option Ω) (hX : ((List.length e2_1 : Nat) : Int) ≤ 9223372036854775807) : ∀ (m : Nat) (i : Int) (a : Unit), 0 ≤ i → i ≤ ((List.length e2_1 : Nat) : Int) → ((List.length e2_1 : Nat) : Int) < m + i → Le (slices_IndexFunc_int_int__frame_all_1_frame_Fine_1.g0 e2_1  k (List.drop (Int.toNat i) e2_1) i) (iter (slices_IndexFunc_int_int__frame_all_1_frame_Fine_1.B0 BIG e2_1 (((List.length e2_1 : Nat) : Int))  k) m (i)) :=
  iter_list e2_1 0 (fun (i2 : Int) (a2 : Unit) => (i2)) (fun xs i2 a2 => slices_IndexFunc_int_int__frame_all_1_frame_Fine_1.g0 e2_1  k xs i2) (slices_IndexFunc_int_int__frame_all_1_frame_Fine_1.B0 BIG e2_1 (((List.length e2_1 : Nat) : Int))  k)
    (fun i2 a2 r h0 => (Le.fls h0 (Le.refl _)))
    (fun i2 xs2 a2 r h0 h1 hw ih => (Le.tru h0 (Le.tru h1 (Le.cond (Le.refl _) (ih _ hw ())))))
    hX
def slices_IndexFunc_int_int__frame_all_1_frame_Fine_1.w {Ω : Type} (x0 : (List Int)) (k : Int → Option Ω) : Option Ω :=
  bif decide (((List.length x0 : Nat) : Int) ≤ 4611686018427387904) then slices_IndexFunc_int_int__frame_all_1_frame_Fine_1.g0 x0  k x0 0 else none
theorem slices_IndexFunc_int_int__frame_all_1_frame_Fine_1.le {Ω : Type} (x0 : (List Int)) (k : Int → Option Ω) : Le (slices_IndexFunc_int_int__frame_all_1_frame_Fine_1.w x0 k) (slices_IndexFunc_int_int__frame_all_1_frame_Fine_1.s BIG x0 k) := by
  delta slices_IndexFunc_int_int__frame_all_1_frame_Fine_1.w slices_IndexFunc_int_int__frame_all_1_frame_Fine_1.s slices_IndexFunc_int_int__frame_all_1_frame_Fine_1.sl
  exact (Le.gd fun hg => slices_IndexFunc_int_int__frame_all_1_frame_Fine_1.h0 _   k (le_up (of_decide_eq_true hg)) BIG 0 () (by decide) (zero_le_len _) (big_list (of_decide_eq_true hg)))
def slices_IndexFunc_int_int__frame_all_1_frame_Fine_1.u (x0 : (List Int)) : Option (Int) := slices_IndexFunc_int_int__frame_all_1_frame_Fine_1.w x0 some
theorem slices_IndexFunc_int_int__frame_all_1_frame_Fine_1.c (x0 : (List Int)) (r : Int) (h : slices_IndexFunc_int_int__frame_all_1_frame_Fine_1.u x0 = some r) : Contract C 100 [(.v (.slice (.int .i64)) (x0)), (.fn 81 [(.vp (.raw .func) (Value.func (.func 58) #[] #[]) [])])] (tupAV (.int .i64) [] r) :=
  contract_s (S := fun k => slices_IndexFunc_int_int__frame_all_1_frame_Fine_1.s BIG x0 k) C_ok (orS_ok frame_all_1__frame_Fine_1.e_ok noS_ok) (by kernel_rfl) (by kernel_rfl) (by kernel_rfl) (slices_IndexFunc_int_int__frame_all_1_frame_Fine_1.ev BIG x0 (dec (.int .i64) [])) (slices_IndexFunc_int_int__frame_all_1_frame_Fine_1.le x0 some r h)
noncomputable def slices_IndexFunc_int_int__frame_all_1_frame_Fine_1.e : Ent := argI (.slice (.int .i64)) fun x0 => argFq 81 58 (endU (slices_IndexFunc_int_int__frame_all_1_frame_Fine_1.u x0) (tupAV (.int .i64) []))
theorem slices_IndexFunc_int_int__frame_all_1_frame_Fine_1.e_ok : EntOK C 100 (fun {_} => slices_IndexFunc_int_int__frame_all_1_frame_Fine_1.e) := entA_ok (argI_ok fun x0 => argFq_ok (endU_ok fun r h => slices_IndexFunc_int_int__frame_all_1_frame_Fine_1.c x0 r h))

/-- slices.ContainsFunc   int,int  -/
noncomputable def slices_ContainsFunc_int_int__frame_all_1_frame_Fine_1.sp : Spec := (orS 100 (fun {_} => slices_IndexFunc_int_int__frame_all_1_frame_Fine_1.e) noS)
def slices_ContainsFunc_int_int__frame_all_1_frame_Fine_1.s {Ω : Type} (x0 : (List Int)) (k : Bool → Option Ω) : Option Ω :=
  (slices_IndexFunc_int_int__frame_all_1_frame_Fine_1.u x0).bind fun y1 =>
  k (decide (y1 ≥ 0))
theorem slices_ContainsFunc_int_int__frame_all_1_frame_Fine_1.ev {Ω : Type} (fuel : Fuel) (x0 : (List Int)) (k : AV → Option Ω) : evFn C (fun {_} => slices_ContainsFunc_int_int__frame_all_1_frame_Fine_1.sp) fuel Tryd.f80 (Tryd.f80.body.getD .skip) [(.v (.slice (.int .i64)) (x0)), (.fn 81 [(.vp (.raw .func) (Value.func (.func 58) #[] #[]) [])])] k = slices_ContainsFunc_int_int__frame_all_1_frame_Fine_1.s x0 (fun r => k (tupAV .bool [] r)) := by kernel_rfl
def slices_ContainsFunc_int_int__frame_all_1_frame_Fine_1.u (x0 : (List Int)) : Option (Bool) := slices_ContainsFunc_int_int__frame_all_1_frame_Fine_1.s x0 some
theorem slices_ContainsFunc_int_int__frame_all_1_frame_Fine_1.c (x0 : (List Int)) (r : Bool) (h : slices_ContainsFunc_int_int__frame_all_1_frame_Fine_1.u x0 = some r) : Contract C 80 [(.v (.slice (.int .i64)) (x0)), (.fn 81 [(.vp (.raw .func) (Value.func (.func 58) #[] #[]) [])])] (tupAV .bool [] r) :=
  contract_s (S := fun k => slices_ContainsFunc_int_int__frame_all_1_frame_Fine_1.s x0 k) C_ok (orS_ok slices_IndexFunc_int_int__frame_all_1_frame_Fine_1.e_ok noS_ok) (by kernel_rfl) (by kernel_rfl) (by kernel_rfl) (slices_ContainsFunc_int_int__frame_all_1_frame_Fine_1.ev ⟨1, fun _ => []⟩ x0 (dec .bool [])) h
noncomputable def slices_ContainsFunc_int_int__frame_all_1_frame_Fine_1.e : Ent := argI (.slice (.int .i64)) fun x0 => argFq 81 58 (endU (slices_ContainsFunc_int_int__frame_all_1_frame_Fine_1.u x0) (tupAV .bool []))
theorem slices_ContainsFunc_int_int__frame_all_1_frame_Fine_1.e_ok : EntOK C 80 (fun {_} => slices_ContainsFunc_int_int__frame_all_1_frame_Fine_1.e) := entA_ok (argI_ok fun x0 => argFq_ok (endU_ok fun r h => slices_ContainsFunc_int_int__frame_all_1_frame_Fine_1.c x0 r h))

/-- becket frame.all -/
noncomputable def frame_all__frame_Fine_1.sp : Spec := (orS 80 (fun {_} => slices_ContainsFunc_int_int__frame_all_1_frame_Fine_1.e) noS)
def frame_all__frame_Fine_1.s {Ω : Type} (x0 : (List Int)) (k : Bool → Option Ω) : Option Ω :=
  (slices_ContainsFunc_int_int__frame_all_1_frame_Fine_1.u x0).bind fun y1 =>
  k (!y1)
theorem frame_all__frame_Fine_1.ev {Ω : Type} (fuel : Fuel) (x0 : (List Int)) (k : AV → Option Ω) : evFn C (fun {_} => frame_all__frame_Fine_1.sp) fuel Tryd.f57 (Tryd.f57.body.getD .skip) [(.v (.slice (.int .i64)) (x0)), (.fn 58 [])] k = frame_all__frame_Fine_1.s x0 (fun r => k (tupAV .bool [] r)) := by kernel_rfl
def frame_all__frame_Fine_1.u (x0 : (List Int)) : Option (Bool) := frame_all__frame_Fine_1.s x0 some
theorem frame_all__frame_Fine_1.c (x0 : (List Int)) (r : Bool) (h : frame_all__frame_Fine_1.u x0 = some r) : Contract C 57 [(.v (.slice (.int .i64)) (x0)), (.fn 58 [])] (tupAV .bool [] r) :=
  contract_s (S := fun k => frame_all__frame_Fine_1.s x0 k) C_ok (orS_ok slices_ContainsFunc_int_int__frame_all_1_frame_Fine_1.e_ok noS_ok) (by kernel_rfl) (by kernel_rfl) (by kernel_rfl) (frame_all__frame_Fine_1.ev ⟨1, fun _ => []⟩ x0 (dec .bool [])) h
noncomputable def frame_all__frame_Fine_1.e : Ent := argI (.slice (.int .i64)) fun x0 => argF0 58 (endU (frame_all__frame_Fine_1.u x0) (tupAV .bool []))
theorem frame_all__frame_Fine_1.e_ok : EntOK C 57 (fun {_} => frame_all__frame_Fine_1.e) := entA_ok (argI_ok fun x0 => argF0_ok (endU_ok fun r h => frame_all__frame_Fine_1.c x0 r h))

/-- becket frame.Fine -/
noncomputable def frame_Fine.sp : Spec := (orS 57 (fun {_} => (orEnt (fun bs => isSig 1 [58] bs) (fun {_} => frame_all__frame_Fine_1.e) (fun {_} => (orEnt (fun bs => isSig 1 [56] bs) (fun {_} => frame_all__frame_place.e) (fun {_} => frame_all__word_Fine.e))))) (orS 56 (fun {_} => frame_place.e) noS))
def frame_Fine.s {Ω : Type} (x0 : (Int × (Bool × ((List Int) × ((List Int) × (Int × ((List Int) × Unit))))))) (k : Bool → Option Ω) : Option Ω :=
  bif (!(frame_place.t x0.1)) then
    k false
  else
    bif (decide (x0.2.2.2.2.1 < 0)) then
      k false
    else
      bif (decide (x0.2.2.2.2.1 > 8)) then
        k false
      else
        bif (subC none none 8) then
          (frame_all__word_Fine.u (((List.drop (subLo none) x0.2.2.1).take (subHi none 8 - subLo none)))).bind fun y1 =>
          bif (!y1) then
            k false
          else
            bif (subC none none 16) then
              (frame_all__word_Fine.u (((List.drop (subLo none) x0.2.2.2.1).take (subHi none 16 - subLo none)))).bind fun y2 =>
              bif (!y2) then
                k false
              else
                bif (subC none (some (x0.2.2.2.2.1)) 8) then
                  (frame_all__frame_place.u (((List.drop (subLo none) x0.2.2.2.2.2.1).take (subHi (some (x0.2.2.2.2.1)) 8 - subLo none)))).bind fun y3 =>
                  bif y3 then
                    bif (subC (some (x0.2.2.2.2.1)) none 8) then
                      (frame_all__frame_Fine_1.u (((List.drop (subLo (some (x0.2.2.2.2.1))) x0.2.2.2.2.2.1).take (subHi none 8 - subLo (some (x0.2.2.2.2.1)))))).bind fun y4 =>
                      k y4
                    else
                      none
                  else
                    k false
                else
                  none
            else
              none
        else
          none
theorem frame_Fine.ev {Ω : Type} (fuel : Fuel) (x0 : (Int × (Bool × ((List Int) × ((List Int) × (Int × ((List Int) × Unit))))))) (k : AV → Option Ω) : evFn C (fun {_} => frame_Fine.sp) fuel Tryd.f17 (Tryd.f17.body.getD .skip) [(.v (.pair (.int .i64) (.pair .bool (.pair (.arr 8 (.int .i64)) (.pair (.arr 16 (.int .i64)) (.pair (.int .i64) (.pair (.arr 8 (.int .i64)) .unit)))))) (x0))] k = frame_Fine.s x0 (fun r => k (tupAV .bool [] r)) := by kernel_rfl
def frame_Fine.u (x0 : (Int × (Bool × ((List Int) × ((List Int) × (Int × ((List Int) × Unit))))))) : Option (Bool) := frame_Fine.s x0 some
theorem frame_Fine.c (x0 : (Int × (Bool × ((List Int) × ((List Int) × (Int × ((List Int) × Unit))))))) (r : Bool) (h : frame_Fine.u x0 = some r) : Contract C 17 [(.v (.pair (.int .i64) (.pair .bool (.pair (.arr 8 (.int .i64)) (.pair (.arr 16 (.int .i64)) (.pair (.int .i64) (.pair (.arr 8 (.int .i64)) .unit)))))) (x0))] (tupAV .bool [] r) :=
  contract_s (S := fun k => frame_Fine.s x0 k) C_ok (orS_ok (orEnt_ok frame_all__frame_Fine_1.e_ok (orEnt_ok frame_all__frame_place.e_ok frame_all__word_Fine.e_ok)) (orS_ok frame_place.e_ok noS_ok)) (by kernel_rfl) (by kernel_rfl) (by kernel_rfl) (frame_Fine.ev ⟨1, fun _ => []⟩ x0 (dec .bool [])) h
noncomputable def frame_Fine.e : Ent := argI (.pair (.int .i64) (.pair .bool (.pair (.arr 8 (.int .i64)) (.pair (.arr 16 (.int .i64)) (.pair (.int .i64) (.pair (.arr 8 (.int .i64)) .unit)))))) fun x0 => endU (frame_Fine.u x0) (tupAV .bool [])
theorem frame_Fine.e_ok : EntOK C 17 (fun {_} => frame_Fine.e) := entA_ok (argI_ok fun x0 => endU_ok fun r h => frame_Fine.c x0 r h)

/-- becket becketref13.Place -/
noncomputable def ref13_Place.sp : Spec := noS
def ref13_Place.s {Ω : Type} (x0 : Int) (k : Bool → Option Ω) : Option Ω :=
  bif (decide (x0 ≥ 0)) then
    k (decide (x0 ≤ 64))
  else
    k false
theorem ref13_Place.ev {Ω : Type} (fuel : Fuel) (x0 : Int) (k : AV → Option Ω) : evFn C (fun {_} => ref13_Place.sp) fuel Tryd.f59 (Tryd.f59.body.getD .skip) [(.v (.int .i64) (x0))] k = ref13_Place.s x0 (fun r => k (tupAV .bool [] r)) := by kernel_rfl
def ref13_Place.t (x0 : Int) : Bool :=
  bif (decide (x0 ≥ 0)) then
    (decide (x0 ≤ 64))
  else
    false
theorem ref13_Place.v {Ω : Type} (x0 : Int) (k : Bool → Option Ω) : ref13_Place.s x0 k = k (ref13_Place.t x0) := by
  delta ref13_Place.s ref13_Place.t; exact (cond_tot rfl rfl)
theorem ref13_Place.c (x0 : Int) : Contract C 59 [(.v (.int .i64) (x0))] (tupAV .bool [] (ref13_Place.t x0)) :=
  contract_s (S := fun k => ref13_Place.s x0 k) C_ok noS_ok (by kernel_rfl) (by kernel_rfl) (by kernel_rfl) (ref13_Place.ev ⟨1, fun _ => []⟩ x0 (dec .bool [])) (ref13_Place.v x0 some)
noncomputable def ref13_Place.e : Ent := argI (.int .i64) fun x0 => endT (tupAV .bool [] (ref13_Place.t x0))
theorem ref13_Place.e_ok : EntOK C 59 (fun {_} => ref13_Place.e) := entA_ok (argI_ok fun x0 => endT_ok (ref13_Place.c x0))

/-- becket becketref13.Fine -/
noncomputable def ref13_Fine.sp : Spec := (orS 59 (fun {_} => ref13_Place.e) (orS 53 (fun {_} => ref08_Fine.e) noS))
def ref13_Fine.F (fuel : Nat) : Fuel := ⟨fuel, fun r => bif r == 9 then [0, 3, 5, 6, 7, 8, 9, 10, 11, 12, 13, 14, 15, 16, 17, 18, 19, 20, 21, 22, 23, 24, 25, 26, 27, 28, 29, 30, 31, 32, 33, 34, 35, 36, 37, 38, 39, 40, 41, 42, 43, 44, 45, 46, 47, 48, 49, 50, 51, 52, 53, 54, 55] else bif r == 4 then [0, 5, 6, 7, 8, 9, 10, 11, 12, 13, 14, 15, 16, 17, 18] else []⟩
def ref13_Fine.b0 {Ω : Type} (e4_1 : (Int × (Bool × ((List Int) × ((List Int) × (Int × ((List Int) × Unit)))))))   (k : Bool → Option Ω) (r9 : Int → Option Ω) (s9 : Int) : Option Ω :=
  bif (decide (s9 < 16)) then
    bif (idxOK s9 16) then
      bif (!(ref08_Fine.t ((List.getD e4_1.2.2.2.1 (Int.toNat s9) 0)))) then
        k false
      else
        r9 ((IntKind.wrap .i64 (s9 + 1)))
    else
      none
  else
    k true
def ref13_Fine.B0 {Ω : Type} (fuel : Nat) (e4_1 : (Int × (Bool × ((List Int) × ((List Int) × (Int × ((List Int) × Unit)))))))  (k : Bool → Option Ω) (r9 : Int → Option Ω) (s9 : Int) : Option Ω := ref13_Fine.b0 e4_1   k r9 s9
def ref13_Fine.b1 {Ω : Type} (e4_1 : (Int × (Bool × ((List Int) × ((List Int) × (Int × ((List Int) × Unit)))))))  (lp0 : (Int × (Bool × ((List Int) × ((List Int) × (Int × ((List Int) × Unit)))))) → Int → Option Ω) (k : Bool → Option Ω) (r4 : Int → Option Ω) (s4 : Int) : Option Ω :=
  bif (decide (s4 < 8)) then
    bif (idxOK s4 8) then
      bif (!(ref08_Fine.t ((List.getD e4_1.2.2.1 (Int.toNat s4) 0)))) then
        k false
      else
        bif (decide (s4 < e4_1.2.2.2.2.1)) then
          bif (idxOK s4 8) then
            bif (!(ref13_Place.t ((List.getD e4_1.2.2.2.2.2.1 (Int.toNat s4) 0)))) then
              k false
            else
              bif (decide (s4 ≥ e4_1.2.2.2.2.1)) then
                bif (idxOK s4 8) then
                  bif ((List.getD e4_1.2.2.2.2.2.1 (Int.toNat s4) 0) != 0) then
                    k false
                  else
                    r4 ((IntKind.wrap .i64 (s4 + 1)))
                else
                  none
              else
                r4 ((IntKind.wrap .i64 (s4 + 1)))
          else
            none
        else
          bif (decide (s4 ≥ e4_1.2.2.2.2.1)) then
            bif (idxOK s4 8) then
              bif ((List.getD e4_1.2.2.2.2.2.1 (Int.toNat s4) 0) != 0) then
                k false
              else
                r4 ((IntKind.wrap .i64 (s4 + 1)))
            else
              none
          else
            r4 ((IntKind.wrap .i64 (s4 + 1)))
    else
      none
  else
    lp0 e4_1 (0)
def ref13_Fine.B1 {Ω : Type} (fuel : Nat) (e4_1 : (Int × (Bool × ((List Int) × ((List Int) × (Int × ((List Int) × Unit)))))))  (k : Bool → Option Ω) (r4 : Int → Option Ω) (s4 : Int) : Option Ω := ref13_Fine.b1 e4_1  (fun e4_1 => (iter (ref13_Fine.B0 fuel e4_1  k) fuel)) k r4 s4
theorem ref13_Fine.l0 {Ω : Type} (fuel : Nat) (e4_1 : (Int × (Bool × ((List Int) × ((List Int) × (Int × ((List Int) × Unit)))))))  (k : AV → Option Ω) : ∀ m, (fun s => loopK (fun env L k => evCode C (fun {_} => ref13_Fine.sp) (ref13_Fine.F fuel) (cl (cl (cr (cl (cr (cr (cr (Tryd.f18.body.getD .skip)))))))) env L k) [true, false, false, true, false, true, true, true, true, true, true, true, true, true, true, true, true, true, true, true, true, true, true, true, true, true, true, true, true, true, true, true, true, true, true, true, true, true, true, true, true, true, true, true, true, true, true, true, true, true, true, true, true, true, true, true, true, true, true, true, true, true, true, true, true, true] 1 (blockK 2 (seqK (fun env L => evCode C (fun {_} => ref13_Fine.sp) (ref13_Fine.F fuel) (cr (cr (cr (cr (Tryd.f18.body.getD .skip))))) env L (finK C Tryd.f18 k)) (finK C Tryd.f18 k))) m ((fun s9 => [.dead, (.ref 0 []), (.v .bool (false)), .dead, (.v (.int .i64) (s9)), .dead, .dead, .dead, .dead, .dead, .dead, .dead, .dead, .dead, .dead, .dead, .dead, .dead, .dead, .dead, .dead, .dead, .dead, .dead, .dead, .dead, .dead, .dead, .dead, .dead, .dead, .dead, .dead, .dead, .dead, .dead, .dead, .dead, .dead, .dead, .dead, .dead, .dead, .dead, .dead, .dead, .dead, .dead, .dead, .dead, .dead, .dead, .dead, .dead, .dead, .dead, .dead, .dead, .dead, .dead, .dead, .dead, .dead, .dead, .dead, .dead]) s) ((fun s9 => [(.box (.pair (.int .i64) (.pair .bool (.pair (.arr 8 (.int .i64)) (.pair (.arr 16 (.int .i64)) (.pair (.int .i64) (.pair (.arr 8 (.int .i64)) .unit)))))) e4_1 false)]) s)) = iter (ref13_Fine.B0 fuel e4_1  (fun r => k (tupAV .bool [] r))) m :=
  loopK_iter (envOf := (fun s9 => [.dead, (.ref 0 []), (.v .bool (false)), .dead, (.v (.int .i64) (s9)), .dead, .dead, .dead, .dead, .dead, .dead, .dead, .dead, .dead, .dead, .dead, .dead, .dead, .dead, .dead, .dead, .dead, .dead, .dead, .dead, .dead, .dead, .dead, .dead, .dead, .dead, .dead, .dead, .dead, .dead, .dead, .dead, .dead, .dead, .dead, .dead, .dead, .dead, .dead, .dead, .dead, .dead, .dead, .dead, .dead, .dead, .dead, .dead, .dead, .dead, .dead, .dead, .dead, .dead, .dead, .dead, .dead, .dead, .dead, .dead, .dead])) (LOf := (fun s9 => [(.box (.pair (.int .i64) (.pair .bool (.pair (.arr 8 (.int .i64)) (.pair (.arr 16 (.int .i64)) (.pair (.int .i64) (.pair (.arr 8 (.int .i64)) .unit)))))) e4_1 false)])) (B := ref13_Fine.B0 fuel e4_1  (fun r => k (tupAV .bool [] r))) (fun R s => by kernel_rfl)
theorem ref13_Fine.l1 {Ω : Type} (fuel : Nat) (e4_1 : (Int × (Bool × ((List Int) × ((List Int) × (Int × ((List Int) × Unit)))))))  (k : AV → Option Ω) : ∀ m, (fun s => loopK (fun env L k => evCode C (fun {_} => ref13_Fine.sp) (ref13_Fine.F fuel) (cl (cl (cr (cl (cr (cr (Tryd.f18.body.getD .skip))))))) env L k) [true, false, false, false, true, true, true, true, true, true, true, true, true, true, true, true, true, true, true, true, true, true, true, true, true, true, true, true, true, true, true, true, true, true, true, true, true, true, true, true, true, true, true, true, true, true, true, true, true, true, true, true, true, true, true, true, true, true, true, true, true, true, true, true, true, true] 1 (blockK 0 (seqK (fun env L => evCode C (fun {_} => ref13_Fine.sp) (ref13_Fine.F fuel) (cr (cr (cr (Tryd.f18.body.getD .skip)))) env L (finK C Tryd.f18 k)) (finK C Tryd.f18 k))) m ((fun s4 => [.dead, (.ref 0 []), (.v .bool (false)), (.v (.int .i64) (s4)), .dead, .dead, .dead, .dead, .dead, .dead, .dead, .dead, .dead, .dead, .dead, .dead, .dead, .dead, .dead, .dead, .dead, .dead, .dead, .dead, .dead, .dead, .dead, .dead, .dead, .dead, .dead, .dead, .dead, .dead, .dead, .dead, .dead, .dead, .dead, .dead, .dead, .dead, .dead, .dead, .dead, .dead, .dead, .dead, .dead, .dead, .dead, .dead, .dead, .dead, .dead, .dead, .dead, .dead, .dead, .dead, .dead, .dead, .dead, .dead, .dead, .dead]) s) ((fun s4 => [(.box (.pair (.int .i64) (.pair .bool (.pair (.arr 8 (.int .i64)) (.pair (.arr 16 (.int .i64)) (.pair (.int .i64) (.pair (.arr 8 (.int .i64)) .unit)))))) e4_1 false)]) s)) = iter (ref13_Fine.B1 fuel e4_1  (fun r => k (tupAV .bool [] r))) m :=
  loopK_iter (envOf := (fun s4 => [.dead, (.ref 0 []), (.v .bool (false)), (.v (.int .i64) (s4)), .dead, .dead, .dead, .dead, .dead, .dead, .dead, .dead, .dead, .dead, .dead, .dead, .dead, .dead, .dead, .dead, .dead, .dead, .dead, .dead, .dead, .dead, .dead, .dead, .dead, .dead, .dead, .dead, .dead, .dead, .dead, .dead, .dead, .dead, .dead, .dead, .dead, .dead, .dead, .dead, .dead, .dead, .dead, .dead, .dead, .dead, .dead, .dead, .dead, .dead, .dead, .dead, .dead, .dead, .dead, .dead, .dead, .dead, .dead, .dead, .dead, .dead])) (LOf := (fun s4 => [(.box (.pair (.int .i64) (.pair .bool (.pair (.arr 8 (.int .i64)) (.pair (.arr 16 (.int .i64)) (.pair (.int .i64) (.pair (.arr 8 (.int .i64)) .unit)))))) e4_1 false)])) (B := ref13_Fine.B1 fuel e4_1  (fun r => k (tupAV .bool [] r))) (fun R s => by
    have h0 : evCode C (fun {_} => ref13_Fine.sp) (ref13_Fine.F fuel) (cl (cl (cr (cl (cr (cr (Tryd.f18.body.getD .skip))))))) ((fun s4 => [.dead, (.ref 0 []), (.v .bool (false)), (.v (.int .i64) (s4)), .dead, .dead, .dead, .dead, .dead, .dead, .dead, .dead, .dead, .dead, .dead, .dead, .dead, .dead, .dead, .dead, .dead, .dead, .dead, .dead, .dead, .dead, .dead, .dead, .dead, .dead, .dead, .dead, .dead, .dead, .dead, .dead, .dead, .dead, .dead, .dead, .dead, .dead, .dead, .dead, .dead, .dead, .dead, .dead, .dead, .dead, .dead, .dead, .dead, .dead, .dead, .dead, .dead, .dead, .dead, .dead, .dead, .dead, .dead, .dead, .dead, .dead]) s) ((fun s4 => [(.box (.pair (.int .i64) (.pair .bool (.pair (.arr 8 (.int .i64)) (.pair (.arr 16 (.int .i64)) (.pair (.int .i64) (.pair (.arr 8 (.int .i64)) .unit)))))) e4_1 false)]) s) (loopC R [true, false, false, false, true, true, true, true, true, true, true, true, true, true, true, true, true, true, true, true, true, true, true, true, true, true, true, true, true, true, true, true, true, true, true, true, true, true, true, true, true, true, true, true, true, true, true, true, true, true, true, true, true, true, true, true, true, true, true, true, true, true, true, true, true, true] 1 (blockK 0 (seqK (fun env L => evCode C (fun {_} => ref13_Fine.sp) (ref13_Fine.F fuel) (cr (cr (cr (Tryd.f18.body.getD .skip)))) env L (finK C Tryd.f18 k)) (finK C Tryd.f18 k)))) = ref13_Fine.b1 e4_1  (fun e4_1 => (fun s => loopK (fun env L k => evCode C (fun {_} => ref13_Fine.sp) (ref13_Fine.F fuel) (cl (cl (cr (cl (cr (cr (cr (Tryd.f18.body.getD .skip)))))))) env L k) [true, false, false, true, false, true, true, true, true, true, true, true, true, true, true, true, true, true, true, true, true, true, true, true, true, true, true, true, true, true, true, true, true, true, true, true, true, true, true, true, true, true, true, true, true, true, true, true, true, true, true, true, true, true, true, true, true, true, true, true, true, true, true, true, true, true] 1 (blockK 2 (seqK (fun env L => evCode C (fun {_} => ref13_Fine.sp) (ref13_Fine.F fuel) (cr (cr (cr (cr (Tryd.f18.body.getD .skip))))) env L (finK C Tryd.f18 k)) (finK C Tryd.f18 k))) fuel ((fun s9 => [.dead, (.ref 0 []), (.v .bool (false)), .dead, (.v (.int .i64) (s9)), .dead, .dead, .dead, .dead, .dead, .dead, .dead, .dead, .dead, .dead, .dead, .dead, .dead, .dead, .dead, .dead, .dead, .dead, .dead, .dead, .dead, .dead, .dead, .dead, .dead, .dead, .dead, .dead, .dead, .dead, .dead, .dead, .dead, .dead, .dead, .dead, .dead, .dead, .dead, .dead, .dead, .dead, .dead, .dead, .dead, .dead, .dead, .dead, .dead, .dead, .dead, .dead, .dead, .dead, .dead, .dead, .dead, .dead, .dead, .dead, .dead]) s) ((fun s9 => [(.box (.pair (.int .i64) (.pair .bool (.pair (.arr 8 (.int .i64)) (.pair (.arr 16 (.int .i64)) (.pair (.int .i64) (.pair (.arr 8 (.int .i64)) .unit)))))) e4_1 false)]) s))) (fun r => k (tupAV .bool [] r)) (fun s => R ((fun s4 => [.dead, (.ref 0 []), (.v .bool (false)), (.v (.int .i64) (s4)), .dead, .dead, .dead, .dead, .dead, .dead, .dead, .dead, .dead, .dead, .dead, .dead, .dead, .dead, .dead, .dead, .dead, .dead, .dead, .dead, .dead, .dead, .dead, .dead, .dead, .dead, .dead, .dead, .dead, .dead, .dead, .dead, .dead, .dead, .dead, .dead, .dead, .dead, .dead, .dead, .dead, .dead, .dead, .dead, .dead, .dead, .dead, .dead, .dead, .dead, .dead, .dead, .dead, .dead, .dead, .dead, .dead, .dead, .dead, .dead, .dead, .dead]) s) ((fun s4 => [(.box (.pair (.int .i64) (.pair .bool (.pair (.arr 8 (.int .i64)) (.pair (.arr 16 (.int .i64)) (.pair (.int .i64) (.pair (.arr 8 (.int .i64)) .unit)))))) e4_1 false)]) s)) s := by kernel_rfl
    have h1 : (fun e4_1 => (fun s => loopK (fun env L k => evCode C (fun {_} => ref13_Fine.sp) (ref13_Fine.F fuel) (cl (cl (cr (cl (cr (cr (cr (Tryd.f18.body.getD .skip)))))))) env L k) [true, false, false, true, false, true, true, true, true, true, true, true, true, true, true, true, true, true, true, true, true, true, true, true, true, true, true, true, true, true, true, true, true, true, true, true, true, true, true, true, true, true, true, true, true, true, true, true, true, true, true, true, true, true, true, true, true, true, true, true, true, true, true, true, true, true] 1 (blockK 2 (seqK (fun env L => evCode C (fun {_} => ref13_Fine.sp) (ref13_Fine.F fuel) (cr (cr (cr (cr (Tryd.f18.body.getD .skip))))) env L (finK C Tryd.f18 k)) (finK C Tryd.f18 k))) fuel ((fun s9 => [.dead, (.ref 0 []), (.v .bool (false)), .dead, (.v (.int .i64) (s9)), .dead, .dead, .dead, .dead, .dead, .dead, .dead, .dead, .dead, .dead, .dead, .dead, .dead, .dead, .dead, .dead, .dead, .dead, .dead, .dead, .dead, .dead, .dead, .dead, .dead, .dead, .dead, .dead, .dead, .dead, .dead, .dead, .dead, .dead, .dead, .dead, .dead, .dead, .dead, .dead, .dead, .dead, .dead, .dead, .dead, .dead, .dead, .dead, .dead, .dead, .dead, .dead, .dead, .dead, .dead, .dead, .dead, .dead, .dead, .dead, .dead]) s) ((fun s9 => [(.box (.pair (.int .i64) (.pair .bool (.pair (.arr 8 (.int .i64)) (.pair (.arr 16 (.int .i64)) (.pair (.int .i64) (.pair (.arr 8 (.int .i64)) .unit)))))) e4_1 false)]) s))) = (fun e4_1 => (iter (ref13_Fine.B0 fuel e4_1  (fun r => k (tupAV .bool [] r))) fuel)) := funext fun e4_1 => ref13_Fine.l0 fuel e4_1   k fuel
    rw [h1] at h0
    exact h0)
def ref13_Fine.sl {Ω : Type} (x0 : (Int × (Bool × ((List Int) × ((List Int) × (Int × ((List Int) × Unit))))))) (lp1 : (Int × (Bool × ((List Int) × ((List Int) × (Int × ((List Int) × Unit)))))) → Int → Option Ω) (k : Bool → Option Ω) : Option Ω :=
  bif (!(ref13_Place.t x0.1)) then
    k false
  else
    bif (decide (x0.2.2.2.2.1 < 0)) then
      k false
    else
      bif (decide (x0.2.2.2.2.1 > 8)) then
        k false
      else
        lp1 x0 (0)
def ref13_Fine.s {Ω : Type} (fuel : Nat) (x0 : (Int × (Bool × ((List Int) × ((List Int) × (Int × ((List Int) × Unit))))))) (k : Bool → Option Ω) : Option Ω := ref13_Fine.sl x0 (fun e4_1 => (iter (ref13_Fine.B1 fuel e4_1  k) fuel)) k
theorem ref13_Fine.ev {Ω : Type} (fuel : Nat) (x0 : (Int × (Bool × ((List Int) × ((List Int) × (Int × ((List Int) × Unit))))))) (k : AV → Option Ω) : evFn C (fun {_} => ref13_Fine.sp) (ref13_Fine.F fuel) Tryd.f18 (Tryd.f18.body.getD .skip) [(.v (.pair (.int .i64) (.pair .bool (.pair (.arr 8 (.int .i64)) (.pair (.arr 16 (.int .i64)) (.pair (.int .i64) (.pair (.arr 8 (.int .i64)) .unit)))))) (x0))] k = ref13_Fine.s fuel x0 (fun r => k (tupAV .bool [] r)) := by
  have h0 : evFn C (fun {_} => ref13_Fine.sp) (ref13_Fine.F fuel) Tryd.f18 (Tryd.f18.body.getD .skip) [(.v (.pair (.int .i64) (.pair .bool (.pair (.arr 8 (.int .i64)) (.pair (.arr 16 (.int .i64)) (.pair (.int .i64) (.pair (.arr 8 (.int .i64)) .unit)))))) (x0))] k = ref13_Fine.sl x0 (fun e4_1 => (fun s => loopK (fun env L k => evCode C (fun {_} => ref13_Fine.sp) (ref13_Fine.F fuel) (cl (cl (cr (cl (cr (cr (Tryd.f18.body.getD .skip))))))) env L k) [true, false, false, false, true, true, true, true, true, true, true, true, true, true, true, true, true, true, true, true, true, true, true, true, true, true, true, true, true, true, true, true, true, true, true, true, true, true, true, true, true, true, true, true, true, true, true, true, true, true, true, true, true, true, true, true, true, true, true, true, true, true, true, true, true, true] 1 (blockK 0 (seqK (fun env L => evCode C (fun {_} => ref13_Fine.sp) (ref13_Fine.F fuel) (cr (cr (cr (Tryd.f18.body.getD .skip)))) env L (finK C Tryd.f18 k)) (finK C Tryd.f18 k))) fuel ((fun s4 => [.dead, (.ref 0 []), (.v .bool (false)), (.v (.int .i64) (s4)), .dead, .dead, .dead, .dead, .dead, .dead, .dead, .dead, .dead, .dead, .dead, .dead, .dead, .dead, .dead, .dead, .dead, .dead, .dead, .dead, .dead, .dead, .dead, .dead, .dead, .dead, .dead, .dead, .dead, .dead, .dead, .dead, .dead, .dead, .dead, .dead, .dead, .dead, .dead, .dead, .dead, .dead, .dead, .dead, .dead, .dead, .dead, .dead, .dead, .dead, .dead, .dead, .dead, .dead, .dead, .dead, .dead, .dead, .dead, .dead, .dead, .dead]) s) ((fun s4 => [(.box (.pair (.int .i64) (.pair .bool (.pair (.arr 8 (.int .i64)) (.pair (.arr 16 (.int .i64)) (.pair (.int .i64) (.pair (.arr 8 (.int .i64)) .unit)))))) e4_1 false)]) s))) (fun r => k (tupAV .bool [] r)) := by kernel_rfl
  have h2 : (fun e4_1 => (fun s => loopK (fun env L k => evCode C (fun {_} => ref13_Fine.sp) (ref13_Fine.F fuel) (cl (cl (cr (cl (cr (cr (Tryd.f18.body.getD .skip))))))) env L k) [true, false, false, false, true, true, true, true, true, true, true, true, true, true, true, true, true, true, true, true, true, true, true, true, true, true, true, true, true, true, true, true, true, true, true, true, true, true, true, true, true, true, true, true, true, true, true, true, true, true, true, true, true, true, true, true, true, true, true, true, true, true, true, true, true, true] 1 (blockK 0 (seqK (fun env L => evCode C (fun {_} => ref13_Fine.sp) (ref13_Fine.F fuel) (cr (cr (cr (Tryd.f18.body.getD .skip)))) env L (finK C Tryd.f18 k)) (finK C Tryd.f18 k))) fuel ((fun s4 => [.dead, (.ref 0 []), (.v .bool (false)), (.v (.int .i64) (s4)), .dead, .dead, .dead, .dead, .dead, .dead, .dead, .dead, .dead, .dead, .dead, .dead, .dead, .dead, .dead, .dead, .dead, .dead, .dead, .dead, .dead, .dead, .dead, .dead, .dead, .dead, .dead, .dead, .dead, .dead, .dead, .dead, .dead, .dead, .dead, .dead, .dead, .dead, .dead, .dead, .dead, .dead, .dead, .dead, .dead, .dead, .dead, .dead, .dead, .dead, .dead, .dead, .dead, .dead, .dead, .dead, .dead, .dead, .dead, .dead, .dead, .dead]) s) ((fun s4 => [(.box (.pair (.int .i64) (.pair .bool (.pair (.arr 8 (.int .i64)) (.pair (.arr 16 (.int .i64)) (.pair (.int .i64) (.pair (.arr 8 (.int .i64)) .unit)))))) e4_1 false)]) s))) = (fun e4_1 => (iter (ref13_Fine.B1 fuel e4_1  (fun r => k (tupAV .bool [] r))) fuel)) := funext fun e4_1 => ref13_Fine.l1 fuel e4_1   k fuel
  rw [h2] at h0
  exact h0
def ref13_Fine.g0 {Ω : Type} (e4_1 : (Int × (Bool × ((List Int) × ((List Int) × (Int × ((List Int) × Unit)))))))  (k : Bool → Option Ω) : Nat → Int → Option Ω
  | 0, i9 =>
    k true
  | d9 + 1, i9 =>
    bif (idxOK i9 16) then
      bif (!(ref08_Fine.t ((List.getD e4_1.2.2.2.1 (Int.toNat i9) 0)))) then
        k false
      else
        ref13_Fine.g0 e4_1  k d9 (i9 + 1)
    else
      none
theorem ref13_Fine.h0 {Ω : Type} (e4_1 : (Int × (Bool × ((List Int) × ((List Int) × (Int × ((List Int) × Unit)))))))   (k : Bool → Option Ω) (hN : (16 : Int) ≤ 9223372036854775807) : ∀ (m : Nat) (i : Int) (a : Unit), -9223372036854775808 ≤ i → Int.toNat ((16 : Int) - i) < m → Le (ref13_Fine.g0 e4_1  k (Int.toNat ((16 : Int) - i)) i) (iter (ref13_Fine.B0 BIG e4_1  k) m (i)) :=
  iter_count (16 : Int) (fun i9 => (decide (i9 < 16))) (fun i => rfl) (fun (i9 : Int) (a9 : Unit) => (i9)) (fun xs i9 a9 => ref13_Fine.g0 e4_1  k xs i9) (ref13_Fine.B0 BIG e4_1  k)
    (fun i9 a9 r h0 => (Le.fls h0 (Le.refl _)))
    (fun i9 d9 a9 r h0 hw ih => (Le.tru h0 (Le.cond (Le.cond (Le.refl _) (ih _ hw ())) Le.nil)))
    hN
def ref13_Fine.g1 {Ω : Type} (e4_1 : (Int × (Bool × ((List Int) × ((List Int) × (Int × ((List Int) × Unit)))))))  (k : Bool → Option Ω) : Nat → Int → Option Ω
  | 0, i4 =>
    ref13_Fine.g0 e4_1  k ((Int.toNat ((16 : Int) - 0))) 0
  | d4 + 1, i4 =>
    bif (idxOK i4 8) then
      bif (!(ref08_Fine.t ((List.getD e4_1.2.2.1 (Int.toNat i4) 0)))) then
        k false
      else
        bif (decide (i4 < e4_1.2.2.2.2.1)) then
          bif (idxOK i4 8) then
            bif (!(ref13_Place.t ((List.getD e4_1.2.2.2.2.2.1 (Int.toNat i4) 0)))) then
              k false
            else
              bif (decide (i4 ≥ e4_1.2.2.2.2.1)) then
                bif (idxOK i4 8) then
                  bif ((List.getD e4_1.2.2.2.2.2.1 (Int.toNat i4) 0) != 0) then
                    k false
                  else
                    ref13_Fine.g1 e4_1  k d4 (i4 + 1)
                else
                  none
              else
                ref13_Fine.g1 e4_1  k d4 (i4 + 1)
          else
            none
        else
          bif (decide (i4 ≥ e4_1.2.2.2.2.1)) then
            bif (idxOK i4 8) then
              bif ((List.getD e4_1.2.2.2.2.2.1 (Int.toNat i4) 0) != 0) then
                k false
              else
                ref13_Fine.g1 e4_1  k d4 (i4 + 1)
            else
              none
          else
            ref13_Fine.g1 e4_1  k d4 (i4 + 1)
    else
      none
theorem ref13_Fine.h1 {Ω : Type} (e4_1 : (Int × (Bool × ((List Int) × ((List Int) × (Int × ((List Int) × Unit)))))))   (k : Bool → Option Ω) (hN : (8 : Int) ≤ 9223372036854775807) : ∀ (m : Nat) (i : Int) (a : Unit), -9223372036854775808 ≤ i → Int.toNat ((8 : Int) - i) < m → Le (ref13_Fine.g1 e4_1  k (Int.toNat ((8 : Int) - i)) i) (iter (ref13_Fine.B1 BIG e4_1  k) m (i)) :=
  iter_count (8 : Int) (fun i4 => (decide (i4 < 8))) (fun i => rfl) (fun (i4 : Int) (a4 : Unit) => (i4)) (fun xs i4 a4 => ref13_Fine.g1 e4_1  k xs i4) (ref13_Fine.B1 BIG e4_1  k)
    (fun i4 a4 r h0 => (Le.fls h0 (ref13_Fine.h0 _   k (by decide) BIG 0 () (by decide) (by decide))))
    (fun i4 d4 a4 r h0 hw ih => (Le.tru h0 (Le.cond (Le.cond (Le.refl _) (Le.cond (Le.cond (Le.cond (Le.refl _) (Le.cond (Le.cond (Le.cond (Le.refl _) (ih _ hw ())) Le.nil) (ih _ hw ()))) Le.nil) (Le.cond (Le.cond (Le.cond (Le.refl _) (ih _ hw ())) Le.nil) (ih _ hw ())))) Le.nil)))
    hN
def ref13_Fine.w {Ω : Type} (x0 : (Int × (Bool × ((List Int) × ((List Int) × (Int × ((List Int) × Unit))))))) (k : Bool → Option Ω) : Option Ω :=
  bif (!(ref13_Place.t x0.1)) then
    k false
  else
    bif (decide (x0.2.2.2.2.1 < 0)) then
      k false
    else
      bif (decide (x0.2.2.2.2.1 > 8)) then
        k false
      else
        ref13_Fine.g1 x0  k ((Int.toNat ((8 : Int) - 0))) 0
theorem ref13_Fine.le {Ω : Type} (x0 : (Int × (Bool × ((List Int) × ((List Int) × (Int × ((List Int) × Unit))))))) (k : Bool → Option Ω) : Le (ref13_Fine.w x0 k) (ref13_Fine.s BIG x0 k) := by
  delta ref13_Fine.w ref13_Fine.s ref13_Fine.sl
  exact (Le.cond (Le.refl _) (Le.cond (Le.refl _) (Le.cond (Le.refl _) (ref13_Fine.h1 _   k (by decide) BIG 0 () (by decide) (by decide)))))
def ref13_Fine.u (x0 : (Int × (Bool × ((List Int) × ((List Int) × (Int × ((List Int) × Unit))))))) : Option (Bool) := ref13_Fine.w x0 some
theorem ref13_Fine.c (x0 : (Int × (Bool × ((List Int) × ((List Int) × (Int × ((List Int) × Unit))))))) (r : Bool) (h : ref13_Fine.u x0 = some r) : Contract C 18 [(.v (.pair (.int .i64) (.pair .bool (.pair (.arr 8 (.int .i64)) (.pair (.arr 16 (.int .i64)) (.pair (.int .i64) (.pair (.arr 8 (.int .i64)) .unit)))))) (x0))] (tupAV .bool [] r) :=
  contract_s (S := fun k => ref13_Fine.s BIG x0 k) C_ok (orS_ok ref13_Place.e_ok (orS_ok ref08_Fine.e_ok noS_ok)) (by kernel_rfl) (by kernel_rfl) (by kernel_rfl) (ref13_Fine.ev BIG x0 (dec .bool [])) (ref13_Fine.le x0 some r h)
noncomputable def ref13_Fine.e : Ent := argI (.pair (.int .i64) (.pair .bool (.pair (.arr 8 (.int .i64)) (.pair (.arr 16 (.int .i64)) (.pair (.int .i64) (.pair (.arr 8 (.int .i64)) .unit)))))) fun x0 => endU (ref13_Fine.u x0) (tupAV .bool [])
theorem ref13_Fine.e_ok : EntOK C 18 (fun {_} => ref13_Fine.e) := entA_ok (argI_ok fun x0 => endU_ok fun r h => ref13_Fine.c x0 r h)

/-- becket frame.row -/
noncomputable def frame_row.sp : Spec := (orS 61 (fun {_} => strings_Join.e) (orS 46 (fun {_} => word_Text.e) noS))
def frame_row.F (fuel : Nat) : Fuel := ⟨fuel, fun r => bif r == 3 then [0, 1, 2, 3, 6, 9, 10, 11] else []⟩
def frame_row.b0 {Ω : Type} (e3_1 : (List Int)) (e3_2 : Int)   (k : ByteArray → Option Ω) (r3 : Int × (List ByteArray) → Option Ω) (s3 : Int × (List ByteArray)) : Option Ω :=
  bif (decide (s3.1 < e3_2)) then
    bif (idxOK s3.1 (List.length e3_1)) then
      (word_Text.u ((List.getD e3_1 (Int.toNat s3.1) 0))).bind fun y1 =>
      bif (decide (List.length s3.2 + List.length [y1.1] ≤ rowMax)) then
        r3 ((IntKind.wrap .i64 (s3.1 + 1)), (s3.2 ++ [y1.1]))
      else
        none
    else
      none
  else
    (strings_Join.u s3.2 (bs [32])).bind fun y2 =>
    k y2
def frame_row.B0 {Ω : Type} (fuel : Nat) (e3_1 : (List Int)) (e3_2 : Int)  (k : ByteArray → Option Ω) (r3 : Int × (List ByteArray) → Option Ω) (s3 : Int × (List ByteArray)) : Option Ω := frame_row.b0 e3_1 e3_2   k r3 s3
theorem frame_row.l0 {Ω : Type} (fuel : Nat) (e3_1 : (List Int)) (e3_2 : Int)  (k : AV → Option Ω) : ∀ m, (fun s => loopK (fun env L k => evCode CP (fun {_} => frame_row.sp) (frame_row.F fuel) (cl (cl (cr (cl (cr (cr (Tryd.f60.body.getD .skip))))))) env L k) [true, true, true, true, false, false, true, true, true, true, true, true, false, false, false, true, true, true, true, true, true, true, true, true, true, true, true, true, true, true] 1 (blockK 0 (seqK (fun env L => evCode CP (fun {_} => frame_row.sp) (frame_row.F fuel) (cr (cr (cr (Tryd.f60.body.getD .skip)))) env L (finK CP Tryd.f60 k)) (finK CP Tryd.f60 k))) m ((fun s3 => [.dead, .dead, .dead, .dead, (.v .str (bs [])), (.rs 0), .dead, .dead, .dead, .dead, .dead, .dead, (.v (.slice (.int .i64)) (e3_1)), (.v (.int .i64) (e3_2)), (.v (.int .i64) (s3.1)), .dead, .dead, .dead, .dead, .dead, .dead, .dead, .dead, .dead, .dead, .dead, .dead, .dead, .dead, .dead]) s) ((fun s3 => [(.row 9 .str s3.2 false)]) s)) = iter (frame_row.B0 fuel e3_1 e3_2  (fun r => k (tupAV .str [] r))) m :=
  loopK_iter (envOf := (fun s3 => [.dead, .dead, .dead, .dead, (.v .str (bs [])), (.rs 0), .dead, .dead, .dead, .dead, .dead, .dead, (.v (.slice (.int .i64)) (e3_1)), (.v (.int .i64) (e3_2)), (.v (.int .i64) (s3.1)), .dead, .dead, .dead, .dead, .dead, .dead, .dead, .dead, .dead, .dead, .dead, .dead, .dead, .dead, .dead])) (LOf := (fun s3 => [(.row 9 .str s3.2 false)])) (B := frame_row.B0 fuel e3_1 e3_2  (fun r => k (tupAV .str [] r))) (fun R s => by kernel_rfl)
def frame_row.sl {Ω : Type} (x0 : ByteArray) (x1 : (List Int)) (lp0 : (List Int) → Int → Int × (List ByteArray) → Option Ω) (k : ByteArray → Option Ω) : Option Ω :=
  lp0 x1 (((List.length x1 : Nat) : Int)) (0, [x0])
def frame_row.s {Ω : Type} (fuel : Nat) (x0 : ByteArray) (x1 : (List Int)) (k : ByteArray → Option Ω) : Option Ω := frame_row.sl x0 x1 (fun e3_1 e3_2 => (iter (frame_row.B0 fuel e3_1 e3_2  k) fuel)) k
theorem frame_row.ev {Ω : Type} (fuel : Nat) (x0 : ByteArray) (x1 : (List Int)) (k : AV → Option Ω) : evFn CP (fun {_} => frame_row.sp) (frame_row.F fuel) Tryd.f60 (Tryd.f60.body.getD .skip) [(.v .str (x0)), (.v (.slice (.int .i64)) (x1))] k = frame_row.s fuel x0 x1 (fun r => k (tupAV .str [] r)) := by
  have h0 : evFn CP (fun {_} => frame_row.sp) (frame_row.F fuel) Tryd.f60 (Tryd.f60.body.getD .skip) [(.v .str (x0)), (.v (.slice (.int .i64)) (x1))] k = frame_row.sl x0 x1 (fun e3_1 e3_2 => (fun s => loopK (fun env L k => evCode CP (fun {_} => frame_row.sp) (frame_row.F fuel) (cl (cl (cr (cl (cr (cr (Tryd.f60.body.getD .skip))))))) env L k) [true, true, true, true, false, false, true, true, true, true, true, true, false, false, false, true, true, true, true, true, true, true, true, true, true, true, true, true, true, true] 1 (blockK 0 (seqK (fun env L => evCode CP (fun {_} => frame_row.sp) (frame_row.F fuel) (cr (cr (cr (Tryd.f60.body.getD .skip)))) env L (finK CP Tryd.f60 k)) (finK CP Tryd.f60 k))) fuel ((fun s3 => [.dead, .dead, .dead, .dead, (.v .str (bs [])), (.rs 0), .dead, .dead, .dead, .dead, .dead, .dead, (.v (.slice (.int .i64)) (e3_1)), (.v (.int .i64) (e3_2)), (.v (.int .i64) (s3.1)), .dead, .dead, .dead, .dead, .dead, .dead, .dead, .dead, .dead, .dead, .dead, .dead, .dead, .dead, .dead]) s) ((fun s3 => [(.row 9 .str s3.2 false)]) s))) (fun r => k (tupAV .str [] r)) := by kernel_rfl
  have h1 : (fun e3_1 e3_2 => (fun s => loopK (fun env L k => evCode CP (fun {_} => frame_row.sp) (frame_row.F fuel) (cl (cl (cr (cl (cr (cr (Tryd.f60.body.getD .skip))))))) env L k) [true, true, true, true, false, false, true, true, true, true, true, true, false, false, false, true, true, true, true, true, true, true, true, true, true, true, true, true, true, true] 1 (blockK 0 (seqK (fun env L => evCode CP (fun {_} => frame_row.sp) (frame_row.F fuel) (cr (cr (cr (Tryd.f60.body.getD .skip)))) env L (finK CP Tryd.f60 k)) (finK CP Tryd.f60 k))) fuel ((fun s3 => [.dead, .dead, .dead, .dead, (.v .str (bs [])), (.rs 0), .dead, .dead, .dead, .dead, .dead, .dead, (.v (.slice (.int .i64)) (e3_1)), (.v (.int .i64) (e3_2)), (.v (.int .i64) (s3.1)), .dead, .dead, .dead, .dead, .dead, .dead, .dead, .dead, .dead, .dead, .dead, .dead, .dead, .dead, .dead]) s) ((fun s3 => [(.row 9 .str s3.2 false)]) s))) = (fun e3_1 e3_2 => (iter (frame_row.B0 fuel e3_1 e3_2  (fun r => k (tupAV .str [] r))) fuel)) := funext fun e3_1 => funext fun e3_2 => frame_row.l0 fuel e3_1 e3_2   k fuel
  rw [h1] at h0
  exact h0
def frame_row.g0 {Ω : Type} (e3_1 : (List Int))  (k : ByteArray → Option Ω) : List Int → (List ByteArray) → Option Ω
  | [], a3_1 =>
    (strings_Join.u a3_1 (bs [32])).bind fun y2 =>
    k y2
  | x3 :: xs3, a3_1 =>
    (word_Text.u (x3)).bind fun y1 =>
    bif (decide (List.length a3_1 + List.length [y1.1] ≤ rowMax)) then
      frame_row.g0 e3_1  k xs3 (a3_1 ++ [y1.1])
    else
      none
theorem frame_row.h0 {Ω : Type} (e3_1 : (List Int))   (k : ByteArray → Option Ω) (hX : ((List.length e3_1 : Nat) : Int) ≤ 9223372036854775807) : ∀ (m : Nat) (i : Int) (a : (List ByteArray)), 0 ≤ i → i ≤ ((List.length e3_1 : Nat) : Int) → ((List.length e3_1 : Nat) : Int) < m + i → Le (frame_row.g0 e3_1  k (List.drop (Int.toNat i) e3_1) a) (iter (frame_row.B0 BIG e3_1 (((List.length e3_1 : Nat) : Int))  k) m (i, a)) :=
  iter_list e3_1 0 (fun (i3 : Int) (a3 : (List ByteArray)) => (i3, a3)) (fun xs i3 a3 => frame_row.g0 e3_1  k xs a3) (frame_row.B0 BIG e3_1 (((List.length e3_1 : Nat) : Int))  k)
    (fun i3 a3 r h0 => (Le.fls h0 (Le.bnd fun y2 => (Le.refl _))))
    (fun i3 xs3 a3 r h0 h1 hw ih => (Le.tru h0 (Le.tru h1 (Le.bnd fun y1 => (Le.cond (ih _ hw ((a3 ++ [y1.1]))) Le.nil)))))
    hX
def frame_row.w {Ω : Type} (x0 : ByteArray) (x1 : (List Int)) (k : ByteArray → Option Ω) : Option Ω :=
  bif decide (((List.length x1 : Nat) : Int) ≤ 4611686018427387904) then frame_row.g0 x1  k x1 ([x0]) else none
theorem frame_row.le {Ω : Type} (x0 : ByteArray) (x1 : (List Int)) (k : ByteArray → Option Ω) : Le (frame_row.w x0 x1 k) (frame_row.s BIG x0 x1 k) := by
  delta frame_row.w frame_row.s frame_row.sl
  exact (Le.gd fun hg => frame_row.h0 _   k (le_up (of_decide_eq_true hg)) BIG 0 ([x0]) (by decide) (zero_le_len _) (big_list (of_decide_eq_true hg)))
def frame_row.u (x0 : ByteArray) (x1 : (List Int)) : Option (ByteArray) := frame_row.w x0 x1 some
theorem frame_row.c (x0 : ByteArray) (x1 : (List Int)) (r : ByteArray) (h : frame_row.u x0 x1 = some r) : Contract CP 60 [(.v .str (x0)), (.v (.slice (.int .i64)) (x1))] (tupAV .str [] r) :=
  contract_s (S := fun k => frame_row.s BIG x0 x1 k) CP_ok (orS_ok (strings_Join.e_ok.mono le_C_CP) (orS_ok word_Text.e_ok noS_ok)) (by kernel_rfl) (by kernel_rfl) (by kernel_rfl) (frame_row.ev BIG x0 x1 (dec .str [])) (frame_row.le x0 x1 some r h)
noncomputable def frame_row.e : Ent := argI .str fun x0 => argI (.slice (.int .i64)) fun x1 => endU (frame_row.u x0 x1) (tupAV .str [])
theorem frame_row.e_ok : EntOK CP 60 (fun {_} => frame_row.e) := entA_ok (argI_ok fun x0 => argI_ok fun x1 => endU_ok fun r h => frame_row.c x0 x1 r h)

end Go.Proofs.YtmphlhnpichonaaDoor.K

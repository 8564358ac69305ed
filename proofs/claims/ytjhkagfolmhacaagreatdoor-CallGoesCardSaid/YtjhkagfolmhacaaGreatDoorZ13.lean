/- What functions of the program come to, plainly. -/
import Derived.Test.YtjhkagfolmhacaaGreatDoorZ12
set_option maxRecDepth 100000
set_option linter.unusedVariables false
namespace Go.Proofs.YtjhkagfolmhacaaGreatDoor.K
open Go Go.RowKit

/-- becket frame.place -/
noncomputable def frame_place.sp : Spec := noS
def frame_place.s {Ω : Type} (x0 : Int) (k : Bool → Option Ω) : Option Ω :=
  bif (decide (x0 ≥ 0)) then
    k (decide (x0 ≤ 64))
  else
    k false
theorem frame_place.ev {Ω : Type} (fuel : Fuel) (x0 : Int) (k : AV → Option Ω) : evFn C frame_place.sp fuel Tryz.f36 (Tryz.f36.body.getD .skip) [(.v (.int .i64) (x0))] k = frame_place.s x0 (fun r => k (tupAV .bool [] r)) := by kernel_rfl
def frame_place.t (x0 : Int) : Bool :=
  bif (decide (x0 ≥ 0)) then
    (decide (x0 ≤ 64))
  else
    false
theorem frame_place.v {Ω : Type} (x0 : Int) (k : Bool → Option Ω) : frame_place.s x0 k = k (frame_place.t x0) := by
  delta frame_place.s frame_place.t; exact (cond_tot rfl rfl)
theorem frame_place.c (x0 : Int) : Contract C 36 [(.v (.int .i64) (x0))] (tupAV .bool [] (frame_place.t x0)) :=
  contract_s (S := fun k => frame_place.s x0 k) C_ok noS_ok (by kernel_rfl) (by kernel_rfl) (by kernel_rfl) (frame_place.ev ⟨1, fun _ => []⟩ x0 (dec .bool [])) (frame_place.v x0 some)
noncomputable def frame_place.e : Ent := argI (.int .i64) fun x0 => endT (tupAV .bool [] (frame_place.t x0))
theorem frame_place.e_ok : EntOK C 36 (fun {_} => frame_place.e) := entA_ok (argI_ok fun x0 => endT_ok (frame_place.c x0))

/-- becket frame.all 1 -/
noncomputable def frame_all_1__word_Fine.sp : Spec := (orS 38 (fun {_} => word_Fine.e) noS)
def frame_all_1__word_Fine.s {Ω : Type} (x0 : Int) (k : Bool → Option Ω) : Option Ω :=
  k (!(word_Fine.t x0))
theorem frame_all_1__word_Fine.ev {Ω : Type} (fuel : Fuel) (x0 : Int) (k : AV → Option Ω) : evFn C frame_all_1__word_Fine.sp fuel Tryz.f61 (Tryz.f61.body.getD .skip) [(.v (.int .i64) (x0)), (.vp (.raw .func) (Value.func (.func 38) #[] #[]) [])] k = frame_all_1__word_Fine.s x0 (fun r => k (tupAV .bool [] r)) := by kernel_rfl
def frame_all_1__word_Fine.t (x0 : Int) : Bool :=
  (!(word_Fine.t x0))
theorem frame_all_1__word_Fine.v {Ω : Type} (x0 : Int) (k : Bool → Option Ω) : frame_all_1__word_Fine.s x0 k = k (frame_all_1__word_Fine.t x0) := by
  delta frame_all_1__word_Fine.s frame_all_1__word_Fine.t; exact rfl
theorem frame_all_1__word_Fine.c (x0 : Int) : Contract C 61 [(.v (.int .i64) (x0)), (.vp (.raw .func) (Value.func (.func 38) #[] #[]) [])] (tupAV .bool [] (frame_all_1__word_Fine.t x0)) :=
  contract_s (S := fun k => frame_all_1__word_Fine.s x0 k) C_ok (orS_ok word_Fine.e_ok noS_ok) (by kernel_rfl) (by kernel_rfl) (by kernel_rfl) (frame_all_1__word_Fine.ev ⟨1, fun _ => []⟩ x0 (dec .bool [])) (frame_all_1__word_Fine.v x0 some)
noncomputable def frame_all_1__word_Fine.e : Ent := argI (.int .i64) fun x0 => argQ 38 (endT (tupAV .bool [] (frame_all_1__word_Fine.t x0)))
theorem frame_all_1__word_Fine.e_ok : EntOK C 61 (fun {_} => frame_all_1__word_Fine.e) := entA_ok (argI_ok fun x0 => argQ_ok (endT_ok (frame_all_1__word_Fine.c x0)))

/-- slices.IndexFunc   int,int  -/
noncomputable def slices_IndexFunc_int_int__frame_all_1_word_Fine.sp : Spec := (orS 61 (fun {_} => frame_all_1__word_Fine.e) noS)
def slices_IndexFunc_int_int__frame_all_1_word_Fine.F (fuel : Nat) : Fuel := ⟨fuel, fun r => bif r == 2 then [2, 3, 4, 5, 6, 9, 10, 11, 12, 13, 14, 15, 16, 17, 18] else []⟩
def slices_IndexFunc_int_int__frame_all_1_word_Fine.E0 (e2_1 : (List Int)) (e2_2 : Int) (s2 : Int) : List AV := [(.v (.slice (.int .i64)) (e2_1)), (.fn 61 [(.vp (.raw .func) (Value.func (.func 38) #[] #[]) [])]), .dead, .dead, .dead, .dead, .dead, (.v (.int .i64) (e2_2)), (.v (.int .i64) (s2)), .dead, .dead, .dead, .dead, .dead, .dead, .dead, .dead, .dead, .dead]
def slices_IndexFunc_int_int__frame_all_1_word_Fine.H0 (e2_1 : (List Int)) (e2_2 : Int) (s2 : Int) : Heap := []
noncomputable def slices_IndexFunc_int_int__frame_all_1_word_Fine.M0 {Ω : Type} (fuel : Nat) (e2_1 : (List Int)) (e2_2 : Int)  (k : AV → Option Ω) (m : Nat) (s : Int) : Option Ω := loopK (fun env L k => evCode C slices_IndexFunc_int_int__frame_all_1_word_Fine.sp (slices_IndexFunc_int_int__frame_all_1_word_Fine.F fuel) (cl (cl (cr (cl (cr (Tryz.f75.body.getD .skip)))))) env L k) [false, false, true, true, true, true, true, false, false, true, true, true, true, true, true, true, true, true, true] 0 (blockK 0 (seqK (fun env L => evCode C slices_IndexFunc_int_int__frame_all_1_word_Fine.sp (slices_IndexFunc_int_int__frame_all_1_word_Fine.F fuel) (cr (cr (Tryz.f75.body.getD .skip))) env L (finK C Tryz.f75 k)) (finK C Tryz.f75 k))) m ((slices_IndexFunc_int_int__frame_all_1_word_Fine.E0 e2_1 e2_2) s) ((slices_IndexFunc_int_int__frame_all_1_word_Fine.H0 e2_1 e2_2) s)
def slices_IndexFunc_int_int__frame_all_1_word_Fine.b0 {Ω : Type} (e2_1 : (List Int)) (e2_2 : Int)   (k : Int → Option Ω) (r2 : Int → Option Ω) (s2 : Int) : Option Ω :=
  bif (decide (s2 < e2_2)) then
    bif (idxOK s2 (List.length e2_1)) then
      bif (frame_all_1__word_Fine.t ((List.getD e2_1 (Int.toNat s2) 0))) then
        k s2
      else
        r2 ((IntKind.wrap .i64 (s2 + 1)))
    else
      none
  else
    k (-1)
def slices_IndexFunc_int_int__frame_all_1_word_Fine.B0 {Ω : Type} (fuel : Nat) (e2_1 : (List Int)) (e2_2 : Int)  (k : Int → Option Ω) (r2 : Int → Option Ω) (s2 : Int) : Option Ω := slices_IndexFunc_int_int__frame_all_1_word_Fine.b0 e2_1 e2_2   k r2 s2
theorem slices_IndexFunc_int_int__frame_all_1_word_Fine.l0 {Ω : Type} (fuel : Nat) (e2_1 : (List Int)) (e2_2 : Int)  (k : AV → Option Ω) : ∀ m, (slices_IndexFunc_int_int__frame_all_1_word_Fine.M0 fuel e2_1 e2_2  k m) = iter (slices_IndexFunc_int_int__frame_all_1_word_Fine.B0 fuel e2_1 e2_2  (fun r => k (tupAV (.int .i64) [] r))) m :=
  loopK_iter (envOf := (slices_IndexFunc_int_int__frame_all_1_word_Fine.E0 e2_1 e2_2)) (LOf := (slices_IndexFunc_int_int__frame_all_1_word_Fine.H0 e2_1 e2_2)) (B := slices_IndexFunc_int_int__frame_all_1_word_Fine.B0 fuel e2_1 e2_2  (fun r => k (tupAV (.int .i64) [] r))) (fun R s => by kernel_rfl)
def slices_IndexFunc_int_int__frame_all_1_word_Fine.sl {Ω : Type} (x0 : (List Int)) (lp0 : (List Int) → Int → Int → Option Ω) (k : Int → Option Ω) : Option Ω :=
  lp0 x0 (((List.length x0 : Nat) : Int)) (0)
def slices_IndexFunc_int_int__frame_all_1_word_Fine.s {Ω : Type} (fuel : Nat) (x0 : (List Int)) (k : Int → Option Ω) : Option Ω := slices_IndexFunc_int_int__frame_all_1_word_Fine.sl x0 (fun e2_1 e2_2 => (iter (slices_IndexFunc_int_int__frame_all_1_word_Fine.B0 fuel e2_1 e2_2  k) fuel)) k
theorem slices_IndexFunc_int_int__frame_all_1_word_Fine.ev {Ω : Type} (fuel : Nat) (x0 : (List Int)) (k : AV → Option Ω) : evFn C slices_IndexFunc_int_int__frame_all_1_word_Fine.sp (slices_IndexFunc_int_int__frame_all_1_word_Fine.F fuel) Tryz.f75 (Tryz.f75.body.getD .skip) [(.v (.slice (.int .i64)) (x0)), (.fn 61 [(.vp (.raw .func) (Value.func (.func 38) #[] #[]) [])])] k = slices_IndexFunc_int_int__frame_all_1_word_Fine.s fuel x0 (fun r => k (tupAV (.int .i64) [] r)) := by
  have h0 : evFn C slices_IndexFunc_int_int__frame_all_1_word_Fine.sp (slices_IndexFunc_int_int__frame_all_1_word_Fine.F fuel) Tryz.f75 (Tryz.f75.body.getD .skip) [(.v (.slice (.int .i64)) (x0)), (.fn 61 [(.vp (.raw .func) (Value.func (.func 38) #[] #[]) [])])] k = slices_IndexFunc_int_int__frame_all_1_word_Fine.sl x0 (fun e2_1 e2_2 => (slices_IndexFunc_int_int__frame_all_1_word_Fine.M0 fuel e2_1 e2_2  k fuel)) (fun r => k (tupAV (.int .i64) [] r)) := by kernel_rfl
  have h1 : (fun e2_1 e2_2 => (slices_IndexFunc_int_int__frame_all_1_word_Fine.M0 fuel e2_1 e2_2  k fuel)) = (fun e2_1 e2_2 => (iter (slices_IndexFunc_int_int__frame_all_1_word_Fine.B0 fuel e2_1 e2_2  (fun r => k (tupAV (.int .i64) [] r))) fuel)) := funext fun e2_1 => funext fun e2_2 => slices_IndexFunc_int_int__frame_all_1_word_Fine.l0 fuel e2_1 e2_2   k fuel
  rw [h1] at h0
  exact h0
def slices_IndexFunc_int_int__frame_all_1_word_Fine.g0 {Ω : Type} (e2_1 : (List Int))  (k : Int → Option Ω) : List Int → Int → Option Ω
  | [], i2 =>
    k (-1)
  | x2 :: xs2, i2 =>
    bif (frame_all_1__word_Fine.t (x2)) then
      k i2
    else
      slices_IndexFunc_int_int__frame_all_1_word_Fine.g0 e2_1  k xs2 (i2 + 1)
theorem slices_IndexFunc_int_int__frame_all_1_word_Fine.h0 {Ω : Type} (e2_1 : (List Int))   (k : Int → Option Ω) (hX : ((List.length e2_1 : Nat) : Int) ≤ 9223372036854775807) : ∀ (m : Nat) (i : Int) (a : Unit), 0 ≤ i → i ≤ ((List.length e2_1 : Nat) : Int) → ((List.length e2_1 : Nat) : Int) < m + i → Le (slices_IndexFunc_int_int__frame_all_1_word_Fine.g0 e2_1  k (List.drop (Int.toNat i) e2_1) i) (iter (slices_IndexFunc_int_int__frame_all_1_word_Fine.B0 BIG e2_1 (((List.length e2_1 : Nat) : Int))  k) m (i)) :=
  iter_list e2_1 0 (fun (i2 : Int) (a2 : Unit) => (i2)) (fun xs i2 a2 => slices_IndexFunc_int_int__frame_all_1_word_Fine.g0 e2_1  k xs i2) (slices_IndexFunc_int_int__frame_all_1_word_Fine.B0 BIG e2_1 (((List.length e2_1 : Nat) : Int))  k)
    (fun i2 a2 r h0 => (Le.fls h0 (Le.refl _)))
    (fun i2 xs2 a2 r h0 h1 hw ih => (Le.tru h0 (Le.tru h1 (Le.cond (Le.refl _) (ih _ hw ())))))
    hX
def slices_IndexFunc_int_int__frame_all_1_word_Fine.w {Ω : Type} (x0 : (List Int)) (k : Int → Option Ω) : Option Ω :=
  bif decide (((List.length x0 : Nat) : Int) ≤ 4611686018427387904) then slices_IndexFunc_int_int__frame_all_1_word_Fine.g0 x0  k x0 0 else none
theorem slices_IndexFunc_int_int__frame_all_1_word_Fine.le {Ω : Type} (x0 : (List Int)) (k : Int → Option Ω) : Le (slices_IndexFunc_int_int__frame_all_1_word_Fine.w x0 k) (slices_IndexFunc_int_int__frame_all_1_word_Fine.s BIG x0 k) := by
  delta slices_IndexFunc_int_int__frame_all_1_word_Fine.w slices_IndexFunc_int_int__frame_all_1_word_Fine.s slices_IndexFunc_int_int__frame_all_1_word_Fine.sl
  exact (Le.gd fun hg => slices_IndexFunc_int_int__frame_all_1_word_Fine.h0 _   k (le_up (of_decide_eq_true hg)) BIG 0 () (by decide) (zero_le_len _) (big_list (of_decide_eq_true hg)))
def slices_IndexFunc_int_int__frame_all_1_word_Fine.u (x0 : (List Int)) : Option (Int) := slices_IndexFunc_int_int__frame_all_1_word_Fine.w x0 some
theorem slices_IndexFunc_int_int__frame_all_1_word_Fine.c (x0 : (List Int)) (r : Int) (h : slices_IndexFunc_int_int__frame_all_1_word_Fine.u x0 = some r) : Contract C 75 [(.v (.slice (.int .i64)) (x0)), (.fn 61 [(.vp (.raw .func) (Value.func (.func 38) #[] #[]) [])])] (tupAV (.int .i64) [] r) :=
  contract_s (S := fun k => slices_IndexFunc_int_int__frame_all_1_word_Fine.s BIG x0 k) C_ok (orS_ok frame_all_1__word_Fine.e_ok noS_ok) (by kernel_rfl) (by kernel_rfl) (by kernel_rfl) (slices_IndexFunc_int_int__frame_all_1_word_Fine.ev BIG x0 (dec (.int .i64) [])) (slices_IndexFunc_int_int__frame_all_1_word_Fine.le x0 some r h)
noncomputable def slices_IndexFunc_int_int__frame_all_1_word_Fine.e : Ent := argI (.slice (.int .i64)) fun x0 => argFq 61 38 (endU (slices_IndexFunc_int_int__frame_all_1_word_Fine.u x0) (tupAV (.int .i64) []))
theorem slices_IndexFunc_int_int__frame_all_1_word_Fine.e_ok : EntOK C 75 (fun {_} => slices_IndexFunc_int_int__frame_all_1_word_Fine.e) := entA_ok (argI_ok fun x0 => argFq_ok (endU_ok fun r h => slices_IndexFunc_int_int__frame_all_1_word_Fine.c x0 r h))

/-- slices.ContainsFunc   int,int  -/
noncomputable def slices_ContainsFunc_int_int__frame_all_1_word_Fine.sp : Spec := (orS 75 (fun {_} => slices_IndexFunc_int_int__frame_all_1_word_Fine.e) noS)
def slices_ContainsFunc_int_int__frame_all_1_word_Fine.s {Ω : Type} (x0 : (List Int)) (k : Bool → Option Ω) : Option Ω :=
  (slices_IndexFunc_int_int__frame_all_1_word_Fine.u x0).bind fun y1 =>
  k (decide (y1 ≥ 0))
theorem slices_ContainsFunc_int_int__frame_all_1_word_Fine.ev {Ω : Type} (fuel : Fuel) (x0 : (List Int)) (k : AV → Option Ω) : evFn C slices_ContainsFunc_int_int__frame_all_1_word_Fine.sp fuel Tryz.f60 (Tryz.f60.body.getD .skip) [(.v (.slice (.int .i64)) (x0)), (.fn 61 [(.vp (.raw .func) (Value.func (.func 38) #[] #[]) [])])] k = slices_ContainsFunc_int_int__frame_all_1_word_Fine.s x0 (fun r => k (tupAV .bool [] r)) := by kernel_rfl
def slices_ContainsFunc_int_int__frame_all_1_word_Fine.u (x0 : (List Int)) : Option (Bool) := slices_ContainsFunc_int_int__frame_all_1_word_Fine.s x0 some
theorem slices_ContainsFunc_int_int__frame_all_1_word_Fine.c (x0 : (List Int)) (r : Bool) (h : slices_ContainsFunc_int_int__frame_all_1_word_Fine.u x0 = some r) : Contract C 60 [(.v (.slice (.int .i64)) (x0)), (.fn 61 [(.vp (.raw .func) (Value.func (.func 38) #[] #[]) [])])] (tupAV .bool [] r) :=
  contract_s (S := fun k => slices_ContainsFunc_int_int__frame_all_1_word_Fine.s x0 k) C_ok (orS_ok slices_IndexFunc_int_int__frame_all_1_word_Fine.e_ok noS_ok) (by kernel_rfl) (by kernel_rfl) (by kernel_rfl) (slices_ContainsFunc_int_int__frame_all_1_word_Fine.ev ⟨1, fun _ => []⟩ x0 (dec .bool [])) h
noncomputable def slices_ContainsFunc_int_int__frame_all_1_word_Fine.e : Ent := argI (.slice (.int .i64)) fun x0 => argFq 61 38 (endU (slices_ContainsFunc_int_int__frame_all_1_word_Fine.u x0) (tupAV .bool []))
theorem slices_ContainsFunc_int_int__frame_all_1_word_Fine.e_ok : EntOK C 60 (fun {_} => slices_ContainsFunc_int_int__frame_all_1_word_Fine.e) := entA_ok (argI_ok fun x0 => argFq_ok (endU_ok fun r h => slices_ContainsFunc_int_int__frame_all_1_word_Fine.c x0 r h))

/-- becket frame.all -/
noncomputable def frame_all__word_Fine.sp : Spec := (orS 60 (fun {_} => slices_ContainsFunc_int_int__frame_all_1_word_Fine.e) noS)
def frame_all__word_Fine.s {Ω : Type} (x0 : (List Int)) (k : Bool → Option Ω) : Option Ω :=
  (slices_ContainsFunc_int_int__frame_all_1_word_Fine.u x0).bind fun y1 =>
  k (!y1)
theorem frame_all__word_Fine.ev {Ω : Type} (fuel : Fuel) (x0 : (List Int)) (k : AV → Option Ω) : evFn C frame_all__word_Fine.sp fuel Tryz.f37 (Tryz.f37.body.getD .skip) [(.v (.slice (.int .i64)) (x0)), (.fn 38 [])] k = frame_all__word_Fine.s x0 (fun r => k (tupAV .bool [] r)) := by kernel_rfl
def frame_all__word_Fine.u (x0 : (List Int)) : Option (Bool) := frame_all__word_Fine.s x0 some
theorem frame_all__word_Fine.c (x0 : (List Int)) (r : Bool) (h : frame_all__word_Fine.u x0 = some r) : Contract C 37 [(.v (.slice (.int .i64)) (x0)), (.fn 38 [])] (tupAV .bool [] r) :=
  contract_s (S := fun k => frame_all__word_Fine.s x0 k) C_ok (orS_ok slices_ContainsFunc_int_int__frame_all_1_word_Fine.e_ok noS_ok) (by kernel_rfl) (by kernel_rfl) (by kernel_rfl) (frame_all__word_Fine.ev ⟨1, fun _ => []⟩ x0 (dec .bool [])) h
noncomputable def frame_all__word_Fine.e : Ent := argI (.slice (.int .i64)) fun x0 => argF0 38 (endU (frame_all__word_Fine.u x0) (tupAV .bool []))
theorem frame_all__word_Fine.e_ok : EntOK C 37 (fun {_} => frame_all__word_Fine.e) := entA_ok (argI_ok fun x0 => argF0_ok (endU_ok fun r h => frame_all__word_Fine.c x0 r h))

/-- becket frame.all 1 -/
noncomputable def frame_all_1__frame_place.sp : Spec := (orS 36 (fun {_} => frame_place.e) noS)
def frame_all_1__frame_place.s {Ω : Type} (x0 : Int) (k : Bool → Option Ω) : Option Ω :=
  k (!(frame_place.t x0))
theorem frame_all_1__frame_place.ev {Ω : Type} (fuel : Fuel) (x0 : Int) (k : AV → Option Ω) : evFn C frame_all_1__frame_place.sp fuel Tryz.f61 (Tryz.f61.body.getD .skip) [(.v (.int .i64) (x0)), (.vp (.raw .func) (Value.func (.func 36) #[] #[]) [])] k = frame_all_1__frame_place.s x0 (fun r => k (tupAV .bool [] r)) := by kernel_rfl
def frame_all_1__frame_place.t (x0 : Int) : Bool :=
  (!(frame_place.t x0))
theorem frame_all_1__frame_place.v {Ω : Type} (x0 : Int) (k : Bool → Option Ω) : frame_all_1__frame_place.s x0 k = k (frame_all_1__frame_place.t x0) := by
  delta frame_all_1__frame_place.s frame_all_1__frame_place.t; exact rfl
theorem frame_all_1__frame_place.c (x0 : Int) : Contract C 61 [(.v (.int .i64) (x0)), (.vp (.raw .func) (Value.func (.func 36) #[] #[]) [])] (tupAV .bool [] (frame_all_1__frame_place.t x0)) :=
  contract_s (S := fun k => frame_all_1__frame_place.s x0 k) C_ok (orS_ok frame_place.e_ok noS_ok) (by kernel_rfl) (by kernel_rfl) (by kernel_rfl) (frame_all_1__frame_place.ev ⟨1, fun _ => []⟩ x0 (dec .bool [])) (frame_all_1__frame_place.v x0 some)
noncomputable def frame_all_1__frame_place.e : Ent := argI (.int .i64) fun x0 => argQ 36 (endT (tupAV .bool [] (frame_all_1__frame_place.t x0)))
theorem frame_all_1__frame_place.e_ok : EntOK C 61 (fun {_} => frame_all_1__frame_place.e) := entA_ok (argI_ok fun x0 => argQ_ok (endT_ok (frame_all_1__frame_place.c x0)))

/-- slices.IndexFunc   int,int  -/
noncomputable def slices_IndexFunc_int_int__frame_all_1_frame_place.sp : Spec := (orS 61 (fun {_} => frame_all_1__frame_place.e) noS)
def slices_IndexFunc_int_int__frame_all_1_frame_place.F (fuel : Nat) : Fuel := ⟨fuel, fun r => bif r == 2 then [2, 3, 4, 5, 6, 9, 10, 11, 12, 13, 14, 15, 16, 17, 18] else []⟩
def slices_IndexFunc_int_int__frame_all_1_frame_place.E0 (e2_1 : (List Int)) (e2_2 : Int) (s2 : Int) : List AV := [(.v (.slice (.int .i64)) (e2_1)), (.fn 61 [(.vp (.raw .func) (Value.func (.func 36) #[] #[]) [])]), .dead, .dead, .dead, .dead, .dead, (.v (.int .i64) (e2_2)), (.v (.int .i64) (s2)), .dead, .dead, .dead, .dead, .dead, .dead, .dead, .dead, .dead, .dead]
def slices_IndexFunc_int_int__frame_all_1_frame_place.H0 (e2_1 : (List Int)) (e2_2 : Int) (s2 : Int) : Heap := []
noncomputable def slices_IndexFunc_int_int__frame_all_1_frame_place.M0 {Ω : Type} (fuel : Nat) (e2_1 : (List Int)) (e2_2 : Int)  (k : AV → Option Ω) (m : Nat) (s : Int) : Option Ω := loopK (fun env L k => evCode C slices_IndexFunc_int_int__frame_all_1_frame_place.sp (slices_IndexFunc_int_int__frame_all_1_frame_place.F fuel) (cl (cl (cr (cl (cr (Tryz.f75.body.getD .skip)))))) env L k) [false, false, true, true, true, true, true, false, false, true, true, true, true, true, true, true, true, true, true] 0 (blockK 0 (seqK (fun env L => evCode C slices_IndexFunc_int_int__frame_all_1_frame_place.sp (slices_IndexFunc_int_int__frame_all_1_frame_place.F fuel) (cr (cr (Tryz.f75.body.getD .skip))) env L (finK C Tryz.f75 k)) (finK C Tryz.f75 k))) m ((slices_IndexFunc_int_int__frame_all_1_frame_place.E0 e2_1 e2_2) s) ((slices_IndexFunc_int_int__frame_all_1_frame_place.H0 e2_1 e2_2) s)
def slices_IndexFunc_int_int__frame_all_1_frame_place.b0 {Ω : Type} (e2_1 : (List Int)) (e2_2 : Int)   (k : Int → Option Ω) (r2 : Int → Option Ω) (s2 : Int) : Option Ω :=
  bif (decide (s2 < e2_2)) then
    bif (idxOK s2 (List.length e2_1)) then
      bif (frame_all_1__frame_place.t ((List.getD e2_1 (Int.toNat s2) 0))) then
        k s2
      else
        r2 ((IntKind.wrap .i64 (s2 + 1)))
    else
      none
  else
    k (-1)
def slices_IndexFunc_int_int__frame_all_1_frame_place.B0 {Ω : Type} (fuel : Nat) (e2_1 : (List Int)) (e2_2 : Int)  (k : Int → Option Ω) (r2 : Int → Option Ω) (s2 : Int) : Option Ω := slices_IndexFunc_int_int__frame_all_1_frame_place.b0 e2_1 e2_2   k r2 s2
theorem slices_IndexFunc_int_int__frame_all_1_frame_place.l0 {Ω : Type} (fuel : Nat) (e2_1 : (List Int)) (e2_2 : Int)  (k : AV → Option Ω) : ∀ m, (slices_IndexFunc_int_int__frame_all_1_frame_place.M0 fuel e2_1 e2_2  k m) = iter (slices_IndexFunc_int_int__frame_all_1_frame_place.B0 fuel e2_1 e2_2  (fun r => k (tupAV (.int .i64) [] r))) m :=
  loopK_iter (envOf := (slices_IndexFunc_int_int__frame_all_1_frame_place.E0 e2_1 e2_2)) (LOf := (slices_IndexFunc_int_int__frame_all_1_frame_place.H0 e2_1 e2_2)) (B := slices_IndexFunc_int_int__frame_all_1_frame_place.B0 fuel e2_1 e2_2  (fun r => k (tupAV (.int .i64) [] r))) (fun R s => by kernel_rfl)
def slices_IndexFunc_int_int__frame_all_1_frame_place.sl {Ω : Type} (x0 : (List Int)) (lp0 : (List Int) → Int → Int → Option Ω) (k : Int → Option Ω) : Option Ω :=
  lp0 x0 (((List.length x0 : Nat) : Int)) (0)
def slices_IndexFunc_int_int__frame_all_1_frame_place.s {Ω : Type} (fuel : Nat) (x0 : (List Int)) (k : Int → Option Ω) : Option Ω := slices_IndexFunc_int_int__frame_all_1_frame_place.sl x0 (fun e2_1 e2_2 => (iter (slices_IndexFunc_int_int__frame_all_1_frame_place.B0 fuel e2_1 e2_2  k) fuel)) k
theorem slices_IndexFunc_int_int__frame_all_1_frame_place.ev {Ω : Type} (fuel : Nat) (x0 : (List Int)) (k : AV → Option Ω) : evFn C slices_IndexFunc_int_int__frame_all_1_frame_place.sp (slices_IndexFunc_int_int__frame_all_1_frame_place.F fuel) Tryz.f75 (Tryz.f75.body.getD .skip) [(.v (.slice (.int .i64)) (x0)), (.fn 61 [(.vp (.raw .func) (Value.func (.func 36) #[] #[]) [])])] k = slices_IndexFunc_int_int__frame_all_1_frame_place.s fuel x0 (fun r => k (tupAV (.int .i64) [] r)) := by
  have h0 : evFn C slices_IndexFunc_int_int__frame_all_1_frame_place.sp (slices_IndexFunc_int_int__frame_all_1_frame_place.F fuel) Tryz.f75 (Tryz.f75.body.getD .skip) [(.v (.slice (.int .i64)) (x0)), (.fn 61 [(.vp (.raw .func) (Value.func (.func 36) #[] #[]) [])])] k = slices_IndexFunc_int_int__frame_all_1_frame_place.sl x0 (fun e2_1 e2_2 => (slices_IndexFunc_int_int__frame_all_1_frame_place.M0 fuel e2_1 e2_2  k fuel)) (fun r => k (tupAV (.int .i64) [] r)) := by kernel_rfl
  have h1 : (fun e2_1 e2_2 => (slices_IndexFunc_int_int__frame_all_1_frame_place.M0 fuel e2_1 e2_2  k fuel)) = (fun e2_1 e2_2 => (iter (slices_IndexFunc_int_int__frame_all_1_frame_place.B0 fuel e2_1 e2_2  (fun r => k (tupAV (.int .i64) [] r))) fuel)) := funext fun e2_1 => funext fun e2_2 => slices_IndexFunc_int_int__frame_all_1_frame_place.l0 fuel e2_1 e2_2   k fuel
  rw [h1] at h0
  exact h0
def slices_IndexFunc_int_int__frame_all_1_frame_place.g0 {Ω : Type} (e2_1 : (List Int))  (k : Int → Option Ω) : List Int → Int → Option Ω
  | [], i2 =>
    k (-1)
  | x2 :: xs2, i2 =>
    bif (frame_all_1__frame_place.t (x2)) then
      k i2
    else
      slices_IndexFunc_int_int__frame_all_1_frame_place.g0 e2_1  k xs2 (i2 + 1)
theorem slices_IndexFunc_int_int__frame_all_1_frame_place.h0 {Ω : Type} (e2_1 : (List Int))   (k : Int → Option Ω) (hX : ((List.length e2_1 : Nat) : Int) ≤ 9223372036854775807) : ∀ (m : Nat) (i : Int) (a : Unit), 0 ≤ i → i ≤ ((List.length e2_1 : Nat) : Int) → ((List.length e2_1 : Nat) : Int) < m + i → Le (slices_IndexFunc_int_int__frame_all_1_frame_place.g0 e2_1  k (List.drop (Int.toNat i) e2_1) i) (iter (slices_IndexFunc_int_int__frame_all_1_frame_place.B0 BIG e2_1 (((List.length e2_1 : Nat) : Int))  k) m (i)) :=
  iter_list e2_1 0 (fun (i2 : Int) (a2 : Unit) => (i2)) (fun xs i2 a2 => slices_IndexFunc_int_int__frame_all_1_frame_place.g0 e2_1  k xs i2) (slices_IndexFunc_int_int__frame_all_1_frame_place.B0 BIG e2_1 (((List.length e2_1 : Nat) : Int))  k)
    (fun i2 a2 r h0 => (Le.fls h0 (Le.refl _)))
    (fun i2 xs2 a2 r h0 h1 hw ih => (Le.tru h0 (Le.tru h1 (Le.cond (Le.refl _) (ih _ hw ())))))
    hX
def slices_IndexFunc_int_int__frame_all_1_frame_place.w {Ω : Type} (x0 : (List Int)) (k : Int → Option Ω) : Option Ω :=
  bif decide (((List.length x0 : Nat) : Int) ≤ 4611686018427387904) then slices_IndexFunc_int_int__frame_all_1_frame_place.g0 x0  k x0 0 else none
theorem slices_IndexFunc_int_int__frame_all_1_frame_place.le {Ω : Type} (x0 : (List Int)) (k : Int → Option Ω) : Le (slices_IndexFunc_int_int__frame_all_1_frame_place.w x0 k) (slices_IndexFunc_int_int__frame_all_1_frame_place.s BIG x0 k) := by
  delta slices_IndexFunc_int_int__frame_all_1_frame_place.w slices_IndexFunc_int_int__frame_all_1_frame_place.s slices_IndexFunc_int_int__frame_all_1_frame_place.sl
  exact (Le.gd fun hg => slices_IndexFunc_int_int__frame_all_1_frame_place.h0 _   k (le_up (of_decide_eq_true hg)) BIG 0 () (by decide) (zero_le_len _) (big_list (of_decide_eq_true hg)))
def slices_IndexFunc_int_int__frame_all_1_frame_place.u (x0 : (List Int)) : Option (Int) := slices_IndexFunc_int_int__frame_all_1_frame_place.w x0 some
theorem slices_IndexFunc_int_int__frame_all_1_frame_place.c (x0 : (List Int)) (r : Int) (h : slices_IndexFunc_int_int__frame_all_1_frame_place.u x0 = some r) : Contract C 75 [(.v (.slice (.int .i64)) (x0)), (.fn 61 [(.vp (.raw .func) (Value.func (.func 36) #[] #[]) [])])] (tupAV (.int .i64) [] r) :=
  contract_s (S := fun k => slices_IndexFunc_int_int__frame_all_1_frame_place.s BIG x0 k) C_ok (orS_ok frame_all_1__frame_place.e_ok noS_ok) (by kernel_rfl) (by kernel_rfl) (by kernel_rfl) (slices_IndexFunc_int_int__frame_all_1_frame_place.ev BIG x0 (dec (.int .i64) [])) (slices_IndexFunc_int_int__frame_all_1_frame_place.le x0 some r h)
noncomputable def slices_IndexFunc_int_int__frame_all_1_frame_place.e : Ent := argI (.slice (.int .i64)) fun x0 => argFq 61 36 (endU (slices_IndexFunc_int_int__frame_all_1_frame_place.u x0) (tupAV (.int .i64) []))
theorem slices_IndexFunc_int_int__frame_all_1_frame_place.e_ok : EntOK C 75 (fun {_} => slices_IndexFunc_int_int__frame_all_1_frame_place.e) := entA_ok (argI_ok fun x0 => argFq_ok (endU_ok fun r h => slices_IndexFunc_int_int__frame_all_1_frame_place.c x0 r h))

/-- slices.ContainsFunc   int,int  -/
noncomputable def slices_ContainsFunc_int_int__frame_all_1_frame_place.sp : Spec := (orS 75 (fun {_} => slices_IndexFunc_int_int__frame_all_1_frame_place.e) noS)
def slices_ContainsFunc_int_int__frame_all_1_frame_place.s {Ω : Type} (x0 : (List Int)) (k : Bool → Option Ω) : Option Ω :=
  (slices_IndexFunc_int_int__frame_all_1_frame_place.u x0).bind fun y1 =>
  k (decide (y1 ≥ 0))
theorem slices_ContainsFunc_int_int__frame_all_1_frame_place.ev {Ω : Type} (fuel : Fuel) (x0 : (List Int)) (k : AV → Option Ω) : evFn C slices_ContainsFunc_int_int__frame_all_1_frame_place.sp fuel Tryz.f60 (Tryz.f60.body.getD .skip) [(.v (.slice (.int .i64)) (x0)), (.fn 61 [(.vp (.raw .func) (Value.func (.func 36) #[] #[]) [])])] k = slices_ContainsFunc_int_int__frame_all_1_frame_place.s x0 (fun r => k (tupAV .bool [] r)) := by kernel_rfl
def slices_ContainsFunc_int_int__frame_all_1_frame_place.u (x0 : (List Int)) : Option (Bool) := slices_ContainsFunc_int_int__frame_all_1_frame_place.s x0 some
theorem slices_ContainsFunc_int_int__frame_all_1_frame_place.c (x0 : (List Int)) (r : Bool) (h : slices_ContainsFunc_int_int__frame_all_1_frame_place.u x0 = some r) : Contract C 60 [(.v (.slice (.int .i64)) (x0)), (.fn 61 [(.vp (.raw .func) (Value.func (.func 36) #[] #[]) [])])] (tupAV .bool [] r) :=
  contract_s (S := fun k => slices_ContainsFunc_int_int__frame_all_1_frame_place.s x0 k) C_ok (orS_ok slices_IndexFunc_int_int__frame_all_1_frame_place.e_ok noS_ok) (by kernel_rfl) (by kernel_rfl) (by kernel_rfl) (slices_ContainsFunc_int_int__frame_all_1_frame_place.ev ⟨1, fun _ => []⟩ x0 (dec .bool [])) h
noncomputable def slices_ContainsFunc_int_int__frame_all_1_frame_place.e : Ent := argI (.slice (.int .i64)) fun x0 => argFq 61 36 (endU (slices_ContainsFunc_int_int__frame_all_1_frame_place.u x0) (tupAV .bool []))
theorem slices_ContainsFunc_int_int__frame_all_1_frame_place.e_ok : EntOK C 60 (fun {_} => slices_ContainsFunc_int_int__frame_all_1_frame_place.e) := entA_ok (argI_ok fun x0 => argFq_ok (endU_ok fun r h => slices_ContainsFunc_int_int__frame_all_1_frame_place.c x0 r h))

/-- becket frame.all -/
noncomputable def frame_all__frame_place.sp : Spec := (orS 60 (fun {_} => slices_ContainsFunc_int_int__frame_all_1_frame_place.e) noS)
def frame_all__frame_place.s {Ω : Type} (x0 : (List Int)) (k : Bool → Option Ω) : Option Ω :=
  (slices_ContainsFunc_int_int__frame_all_1_frame_place.u x0).bind fun y1 =>
  k (!y1)
theorem frame_all__frame_place.ev {Ω : Type} (fuel : Fuel) (x0 : (List Int)) (k : AV → Option Ω) : evFn C frame_all__frame_place.sp fuel Tryz.f37 (Tryz.f37.body.getD .skip) [(.v (.slice (.int .i64)) (x0)), (.fn 36 [])] k = frame_all__frame_place.s x0 (fun r => k (tupAV .bool [] r)) := by kernel_rfl
def frame_all__frame_place.u (x0 : (List Int)) : Option (Bool) := frame_all__frame_place.s x0 some
theorem frame_all__frame_place.c (x0 : (List Int)) (r : Bool) (h : frame_all__frame_place.u x0 = some r) : Contract C 37 [(.v (.slice (.int .i64)) (x0)), (.fn 36 [])] (tupAV .bool [] r) :=
  contract_s (S := fun k => frame_all__frame_place.s x0 k) C_ok (orS_ok slices_ContainsFunc_int_int__frame_all_1_frame_place.e_ok noS_ok) (by kernel_rfl) (by kernel_rfl) (by kernel_rfl) (frame_all__frame_place.ev ⟨1, fun _ => []⟩ x0 (dec .bool [])) h
noncomputable def frame_all__frame_place.e : Ent := argI (.slice (.int .i64)) fun x0 => argF0 36 (endU (frame_all__frame_place.u x0) (tupAV .bool []))
theorem frame_all__frame_place.e_ok : EntOK C 37 (fun {_} => frame_all__frame_place.e) := entA_ok (argI_ok fun x0 => argF0_ok (endU_ok fun r h => frame_all__frame_place.c x0 r h))

/-- becket frame.Fine 1 -/
noncomputable def frame_Fine_1.sp : Spec := noS
def frame_Fine_1.s {Ω : Type} (x0 : Int) (k : Bool → Option Ω) : Option Ω :=
  k (x0 == 0)
theorem frame_Fine_1.ev {Ω : Type} (fuel : Fuel) (x0 : Int) (k : AV → Option Ω) : evFn C frame_Fine_1.sp fuel Tryz.f39 (Tryz.f39.body.getD .skip) [(.v (.int .i64) (x0))] k = frame_Fine_1.s x0 (fun r => k (tupAV .bool [] r)) := by kernel_rfl
def frame_Fine_1.t (x0 : Int) : Bool :=
  (x0 == 0)
theorem frame_Fine_1.v {Ω : Type} (x0 : Int) (k : Bool → Option Ω) : frame_Fine_1.s x0 k = k (frame_Fine_1.t x0) := by
  delta frame_Fine_1.s frame_Fine_1.t; exact rfl
theorem frame_Fine_1.c (x0 : Int) : Contract C 39 [(.v (.int .i64) (x0))] (tupAV .bool [] (frame_Fine_1.t x0)) :=
  contract_s (S := fun k => frame_Fine_1.s x0 k) C_ok noS_ok (by kernel_rfl) (by kernel_rfl) (by kernel_rfl) (frame_Fine_1.ev ⟨1, fun _ => []⟩ x0 (dec .bool [])) (frame_Fine_1.v x0 some)
noncomputable def frame_Fine_1.e : Ent := argI (.int .i64) fun x0 => endT (tupAV .bool [] (frame_Fine_1.t x0))
theorem frame_Fine_1.e_ok : EntOK C 39 (fun {_} => frame_Fine_1.e) := entA_ok (argI_ok fun x0 => endT_ok (frame_Fine_1.c x0))

/-- becket frame.all 1 -/
noncomputable def frame_all_1__frame_Fine_1.sp : Spec := (orS 39 (fun {_} => frame_Fine_1.e) noS)
def frame_all_1__frame_Fine_1.s {Ω : Type} (x0 : Int) (k : Bool → Option Ω) : Option Ω :=
  k (!(frame_Fine_1.t x0))
theorem frame_all_1__frame_Fine_1.ev {Ω : Type} (fuel : Fuel) (x0 : Int) (k : AV → Option Ω) : evFn C frame_all_1__frame_Fine_1.sp fuel Tryz.f61 (Tryz.f61.body.getD .skip) [(.v (.int .i64) (x0)), (.vp (.raw .func) (Value.func (.func 39) #[] #[]) [])] k = frame_all_1__frame_Fine_1.s x0 (fun r => k (tupAV .bool [] r)) := by kernel_rfl
def frame_all_1__frame_Fine_1.t (x0 : Int) : Bool :=
  (!(frame_Fine_1.t x0))
theorem frame_all_1__frame_Fine_1.v {Ω : Type} (x0 : Int) (k : Bool → Option Ω) : frame_all_1__frame_Fine_1.s x0 k = k (frame_all_1__frame_Fine_1.t x0) := by
  delta frame_all_1__frame_Fine_1.s frame_all_1__frame_Fine_1.t; exact rfl
theorem frame_all_1__frame_Fine_1.c (x0 : Int) : Contract C 61 [(.v (.int .i64) (x0)), (.vp (.raw .func) (Value.func (.func 39) #[] #[]) [])] (tupAV .bool [] (frame_all_1__frame_Fine_1.t x0)) :=
  contract_s (S := fun k => frame_all_1__frame_Fine_1.s x0 k) C_ok (orS_ok frame_Fine_1.e_ok noS_ok) (by kernel_rfl) (by kernel_rfl) (by kernel_rfl) (frame_all_1__frame_Fine_1.ev ⟨1, fun _ => []⟩ x0 (dec .bool [])) (frame_all_1__frame_Fine_1.v x0 some)
noncomputable def frame_all_1__frame_Fine_1.e : Ent := argI (.int .i64) fun x0 => argQ 39 (endT (tupAV .bool [] (frame_all_1__frame_Fine_1.t x0)))
theorem frame_all_1__frame_Fine_1.e_ok : EntOK C 61 (fun {_} => frame_all_1__frame_Fine_1.e) := entA_ok (argI_ok fun x0 => argQ_ok (endT_ok (frame_all_1__frame_Fine_1.c x0)))

/-- slices.IndexFunc   int,int  -/
noncomputable def slices_IndexFunc_int_int__frame_all_1_frame_Fine_1.sp : Spec := (orS 61 (fun {_} => frame_all_1__frame_Fine_1.e) noS)
def slices_IndexFunc_int_int__frame_all_1_frame_Fine_1.F (fuel : Nat) : Fuel := ⟨fuel, fun r => bif r == 2 then [2, 3, 4, 5, 6, 9, 10, 11, 12, 13, 14, 15, 16, 17, 18] else []⟩
def slices_IndexFunc_int_int__frame_all_1_frame_Fine_1.E0 (e2_1 : (List Int)) (e2_2 : Int) (s2 : Int) : List AV := [(.v (.slice (.int .i64)) (e2_1)), (.fn 61 [(.vp (.raw .func) (Value.func (.func 39) #[] #[]) [])]), .dead, .dead, .dead, .dead, .dead, (.v (.int .i64) (e2_2)), (.v (.int .i64) (s2)), .dead, .dead, .dead, .dead, .dead, .dead, .dead, .dead, .dead, .dead]
def slices_IndexFunc_int_int__frame_all_1_frame_Fine_1.H0 (e2_1 : (List Int)) (e2_2 : Int) (s2 : Int) : Heap := []
noncomputable def slices_IndexFunc_int_int__frame_all_1_frame_Fine_1.M0 {Ω : Type} (fuel : Nat) (e2_1 : (List Int)) (e2_2 : Int)  (k : AV → Option Ω) (m : Nat) (s : Int) : Option Ω := loopK (fun env L k => evCode C slices_IndexFunc_int_int__frame_all_1_frame_Fine_1.sp (slices_IndexFunc_int_int__frame_all_1_frame_Fine_1.F fuel) (cl (cl (cr (cl (cr (Tryz.f75.body.getD .skip)))))) env L k) [false, false, true, true, true, true, true, false, false, true, true, true, true, true, true, true, true, true, true] 0 (blockK 0 (seqK (fun env L => evCode C slices_IndexFunc_int_int__frame_all_1_frame_Fine_1.sp (slices_IndexFunc_int_int__frame_all_1_frame_Fine_1.F fuel) (cr (cr (Tryz.f75.body.getD .skip))) env L (finK C Tryz.f75 k)) (finK C Tryz.f75 k))) m ((slices_IndexFunc_int_int__frame_all_1_frame_Fine_1.E0 e2_1 e2_2) s) ((slices_IndexFunc_int_int__frame_all_1_frame_Fine_1.H0 e2_1 e2_2) s)
def slices_IndexFunc_int_int__frame_all_1_frame_Fine_1.b0 {Ω : Type} (e2_1 : (List Int)) (e2_2 : Int)   (k : Int → Option Ω) (r2 : Int → Option Ω) (s2 : Int) : Option Ω :=
  bif (decide (s2 < e2_2)) then
    bif (idxOK s2 (List.length e2_1)) then
      bif (frame_all_1__frame_Fine_1.t ((List.getD e2_1 (Int.toNat s2) 0))) then
        k s2
      else
        r2 ((IntKind.wrap .i64 (s2 + 1)))
    else
      none
  else
    k (-1)
def slices_IndexFunc_int_int__frame_all_1_frame_Fine_1.B0 {Ω : Type} (fuel : Nat) (e2_1 : (List Int)) (e2_2 : Int)  (k : Int → Option Ω) (r2 : Int → Option Ω) (s2 : Int) : Option Ω := slices_IndexFunc_int_int__frame_all_1_frame_Fine_1.b0 e2_1 e2_2   k r2 s2
theorem slices_IndexFunc_int_int__frame_all_1_frame_Fine_1.l0 {Ω : Type} (fuel : Nat) (e2_1 : (List Int)) (e2_2 : Int)  (k : AV → Option Ω) : ∀ m, (slices_IndexFunc_int_int__frame_all_1_frame_Fine_1.M0 fuel e2_1 e2_2  k m) = iter (slices_IndexFunc_int_int__frame_all_1_frame_Fine_1.B0 fuel e2_1 e2_2  (fun r => k (tupAV (.int .i64) [] r))) m :=
  loopK_iter (envOf := (slices_IndexFunc_int_int__frame_all_1_frame_Fine_1.E0 e2_1 e2_2)) (LOf := (slices_IndexFunc_int_int__frame_all_1_frame_Fine_1.H0 e2_1 e2_2)) (B := slices_IndexFunc_int_int__frame_all_1_frame_Fine_1.B0 fuel e2_1 e2_2  (fun r => k (tupAV (.int .i64) [] r))) (fun R s => by kernel_rfl)
def slices_IndexFunc_int_int__frame_all_1_frame_Fine_1.sl {Ω : Type} (x0 : (List Int)) (lp0 : (List Int) → Int → Int → Option Ω) (k : Int → Option Ω) : Option Ω :=
  lp0 x0 (((List.length x0 : Nat) : Int)) (0)
def slices_IndexFunc_int_int__frame_all_1_frame_Fine_1.s {Ω : Type} (fuel : Nat) (x0 : (List Int)) (k : Int → Option Ω) : Option Ω := slices_IndexFunc_int_int__frame_all_1_frame_Fine_1.sl x0 (fun e2_1 e2_2 => (iter (slices_IndexFunc_int_int__frame_all_1_frame_Fine_1.B0 fuel e2_1 e2_2  k) fuel)) k
theorem slices_IndexFunc_int_int__frame_all_1_frame_Fine_1.ev {Ω : Type} (fuel : Nat) (x0 : (List Int)) (k : AV → Option Ω) : evFn C slices_IndexFunc_int_int__frame_all_1_frame_Fine_1.sp (slices_IndexFunc_int_int__frame_all_1_frame_Fine_1.F fuel) Tryz.f75 (Tryz.f75.body.getD .skip) [(.v (.slice (.int .i64)) (x0)), (.fn 61 [(.vp (.raw .func) (Value.func (.func 39) #[] #[]) [])])] k = slices_IndexFunc_int_int__frame_all_1_frame_Fine_1.s fuel x0 (fun r => k (tupAV (.int .i64) [] r)) := by
  have h0 : evFn C slices_IndexFunc_int_int__frame_all_1_frame_Fine_1.sp (slices_IndexFunc_int_int__frame_all_1_frame_Fine_1.F fuel) Tryz.f75 (Tryz.f75.body.getD .skip) [(.v (.slice (.int .i64)) (x0)), (.fn 61 [(.vp (.raw .func) (Value.func (.func 39) #[] #[]) [])])] k = slices_IndexFunc_int_int__frame_all_1_frame_Fine_1.sl x0 (fun e2_1 e2_2 => (slices_IndexFunc_int_int__frame_all_1_frame_Fine_1.M0 fuel e2_1 e2_2  k fuel)) (fun r => k (tupAV (.int .i64) [] r)) := by kernel_rfl
  have h1 : (fun e2_1 e2_2 => (slices_IndexFunc_int_int__frame_all_1_frame_Fine_1.M0 fuel e2_1 e2_2  k fuel)) = (fun e2_1 e2_2 => (iter (slices_IndexFunc_int_int__frame_all_1_frame_Fine_1.B0 fuel e2_1 e2_2  (fun r => k (tupAV (.int .i64) [] r))) fuel)) := funext fun e2_1 => funext fun e2_2 => slices_IndexFunc_int_int__frame_all_1_frame_Fine_1.l0 fuel e2_1 e2_2   k fuel
  rw [h1] at h0
  exact h0
def slices_IndexFunc_int_int__frame_all_1_frame_Fine_1.g0 {Ω : Type} (e2_1 : (List Int))  (k : Int → Option Ω) : List Int → Int → Option Ω
  | [], i2 =>
    k (-1)
  | x2 :: xs2, i2 =>
    bif (frame_all_1__frame_Fine_1.t (x2)) then
      k i2
    else
      slices_IndexFunc_int_int__frame_all_1_frame_Fine_1.g0 e2_1  k xs2 (i2 + 1)
theorem slices_IndexFunc_int_int__frame_all_1_frame_Fine_1.h0 {Ω : Type} (e2_1 : (List Int))   (k : Int → Option Ω) (hX : ((List.length e2_1 : Nat) : Int) ≤ 9223372036854775807) : ∀ (m : Nat) (i : Int) (a : Unit), 0 ≤ i → i ≤ ((List.length e2_1 : Nat) : Int) → ((List.length e2_1 : Nat) : Int) < m + i → Le (slices_IndexFunc_int_int__frame_all_1_frame_Fine_1.g0 e2_1  k (List.drop (Int.toNat i) e2_1) i) (iter (slices_IndexFunc_int_int__frame_all_1_frame_Fine_1.B0 BIG e2_1 (((List.length e2_1 : Nat) : Int))  k) m (i)) :=
  iter_list e2_1 0 (fun (i2 : Int) (a2 : Unit) => (i2)) (fun xs i2 a2 => slices_IndexFunc_int_int__frame_all_1_frame_Fine_1.g0 e2_1  k xs i2) (slices_IndexFunc_int_int__frame_all_1_frame_Fine_1.B0 BIG e2_1 (((List.length e2_1 : Nat) : Int))  k)
    (fun i2 a2 r h0 => (Le.fls h0 (Le.refl _)))
    (fun i2 xs2 a2 r h0 h1 hw ih => (Le.tru h0 (Le.tru h1 (Le.cond (Le.refl _) (ih _ hw ())))))
    hX
def slices_IndexFunc_int_int__frame_all_1_frame_Fine_1.w {Ω : Type} (x0 : (List Int)) (k : Int → Option Ω) : Option Ω :=
  bif decide (((List.length x0 : Nat) : Int) ≤ 4611686018427387904) then slices_IndexFunc_int_int__frame_all_1_frame_Fine_1.g0 x0  k x0 0 else none
theorem slices_IndexFunc_int_int__frame_all_1_frame_Fine_1.le {Ω : Type} (x0 : (List Int)) (k : Int → Option Ω) : Le (slices_IndexFunc_int_int__frame_all_1_frame_Fine_1.w x0 k) (slices_IndexFunc_int_int__frame_all_1_frame_Fine_1.s BIG x0 k) := by
  delta slices_IndexFunc_int_int__frame_all_1_frame_Fine_1.w slices_IndexFunc_int_int__frame_all_1_frame_Fine_1.s slices_IndexFunc_int_int__frame_all_1_frame_Fine_1.sl
  exact (Le.gd fun hg => slices_IndexFunc_int_int__frame_all_1_frame_Fine_1.h0 _   k (le_up (of_decide_eq_true hg)) BIG 0 () (by decide) (zero_le_len _) (big_list (of_decide_eq_true hg)))
def slices_IndexFunc_int_int__frame_all_1_frame_Fine_1.u (x0 : (List Int)) : Option (Int) := slices_IndexFunc_int_int__frame_all_1_frame_Fine_1.w x0 some
theorem slices_IndexFunc_int_int__frame_all_1_frame_Fine_1.c (x0 : (List Int)) (r : Int) (h : slices_IndexFunc_int_int__frame_all_1_frame_Fine_1.u x0 = some r) : Contract C 75 [(.v (.slice (.int .i64)) (x0)), (.fn 61 [(.vp (.raw .func) (Value.func (.func 39) #[] #[]) [])])] (tupAV (.int .i64) [] r) :=
  contract_s (S := fun k => slices_IndexFunc_int_int__frame_all_1_frame_Fine_1.s BIG x0 k) C_ok (orS_ok frame_all_1__frame_Fine_1.e_ok noS_ok) (by kernel_rfl) (by kernel_rfl) (by kernel_rfl) (slices_IndexFunc_int_int__frame_all_1_frame_Fine_1.ev BIG x0 (dec (.int .i64) [])) (slices_IndexFunc_int_int__frame_all_1_frame_Fine_1.le x0 some r h)
noncomputable def slices_IndexFunc_int_int__frame_all_1_frame_Fine_1.e : Ent := argI (.slice (.int .i64)) fun x0 => argFq 61 39 (endU (slices_IndexFunc_int_int__frame_all_1_frame_Fine_1.u x0) (tupAV (.int .i64) []))
theorem slices_IndexFunc_int_int__frame_all_1_frame_Fine_1.e_ok : EntOK C 75 (fun {_} => slices_IndexFunc_int_int__frame_all_1_frame_Fine_1.e) := entA_ok (argI_ok fun x0 => argFq_ok (endU_ok fun r h => slices_IndexFunc_int_int__frame_all_1_frame_Fine_1.c x0 r h))

/-- slices.ContainsFunc   int,int  -/
noncomputable def slices_ContainsFunc_int_int__frame_all_1_frame_Fine_1.sp : Spec := (orS 75 (fun {_} => slices_IndexFunc_int_int__frame_all_1_frame_Fine_1.e) noS)
def slices_ContainsFunc_int_int__frame_all_1_frame_Fine_1.s {Ω : Type} (x0 : (List Int)) (k : Bool → Option Ω) : Option Ω :=
  (slices_IndexFunc_int_int__frame_all_1_frame_Fine_1.u x0).bind fun y1 =>
  k (decide (y1 ≥ 0))
theorem slices_ContainsFunc_int_int__frame_all_1_frame_Fine_1.ev {Ω : Type} (fuel : Fuel) (x0 : (List Int)) (k : AV → Option Ω) : evFn C slices_ContainsFunc_int_int__frame_all_1_frame_Fine_1.sp fuel Tryz.f60 (Tryz.f60.body.getD .skip) [(.v (.slice (.int .i64)) (x0)), (.fn 61 [(.vp (.raw .func) (Value.func (.func 39) #[] #[]) [])])] k = slices_ContainsFunc_int_int__frame_all_1_frame_Fine_1.s x0 (fun r => k (tupAV .bool [] r)) := by kernel_rfl
def slices_ContainsFunc_int_int__frame_all_1_frame_Fine_1.u (x0 : (List Int)) : Option (Bool) := slices_ContainsFunc_int_int__frame_all_1_frame_Fine_1.s x0 some
theorem slices_ContainsFunc_int_int__frame_all_1_frame_Fine_1.c (x0 : (List Int)) (r : Bool) (h : slices_ContainsFunc_int_int__frame_all_1_frame_Fine_1.u x0 = some r) : Contract C 60 [(.v (.slice (.int .i64)) (x0)), (.fn 61 [(.vp (.raw .func) (Value.func (.func 39) #[] #[]) [])])] (tupAV .bool [] r) :=
  contract_s (S := fun k => slices_ContainsFunc_int_int__frame_all_1_frame_Fine_1.s x0 k) C_ok (orS_ok slices_IndexFunc_int_int__frame_all_1_frame_Fine_1.e_ok noS_ok) (by kernel_rfl) (by kernel_rfl) (by kernel_rfl) (slices_ContainsFunc_int_int__frame_all_1_frame_Fine_1.ev ⟨1, fun _ => []⟩ x0 (dec .bool [])) h
noncomputable def slices_ContainsFunc_int_int__frame_all_1_frame_Fine_1.e : Ent := argI (.slice (.int .i64)) fun x0 => argFq 61 39 (endU (slices_ContainsFunc_int_int__frame_all_1_frame_Fine_1.u x0) (tupAV .bool []))
theorem slices_ContainsFunc_int_int__frame_all_1_frame_Fine_1.e_ok : EntOK C 60 (fun {_} => slices_ContainsFunc_int_int__frame_all_1_frame_Fine_1.e) := entA_ok (argI_ok fun x0 => argFq_ok (endU_ok fun r h => slices_ContainsFunc_int_int__frame_all_1_frame_Fine_1.c x0 r h))

/-- becket frame.all -/
noncomputable def frame_all__frame_Fine_1.sp : Spec := (orS 60 (fun {_} => slices_ContainsFunc_int_int__frame_all_1_frame_Fine_1.e) noS)
def frame_all__frame_Fine_1.s {Ω : Type} (x0 : (List Int)) (k : Bool → Option Ω) : Option Ω :=
  (slices_ContainsFunc_int_int__frame_all_1_frame_Fine_1.u x0).bind fun y1 =>
  k (!y1)
theorem frame_all__frame_Fine_1.ev {Ω : Type} (fuel : Fuel) (x0 : (List Int)) (k : AV → Option Ω) : evFn C frame_all__frame_Fine_1.sp fuel Tryz.f37 (Tryz.f37.body.getD .skip) [(.v (.slice (.int .i64)) (x0)), (.fn 39 [])] k = frame_all__frame_Fine_1.s x0 (fun r => k (tupAV .bool [] r)) := by kernel_rfl
def frame_all__frame_Fine_1.u (x0 : (List Int)) : Option (Bool) := frame_all__frame_Fine_1.s x0 some
theorem frame_all__frame_Fine_1.c (x0 : (List Int)) (r : Bool) (h : frame_all__frame_Fine_1.u x0 = some r) : Contract C 37 [(.v (.slice (.int .i64)) (x0)), (.fn 39 [])] (tupAV .bool [] r) :=
  contract_s (S := fun k => frame_all__frame_Fine_1.s x0 k) C_ok (orS_ok slices_ContainsFunc_int_int__frame_all_1_frame_Fine_1.e_ok noS_ok) (by kernel_rfl) (by kernel_rfl) (by kernel_rfl) (frame_all__frame_Fine_1.ev ⟨1, fun _ => []⟩ x0 (dec .bool [])) h
noncomputable def frame_all__frame_Fine_1.e : Ent := argI (.slice (.int .i64)) fun x0 => argF0 39 (endU (frame_all__frame_Fine_1.u x0) (tupAV .bool []))
theorem frame_all__frame_Fine_1.e_ok : EntOK C 37 (fun {_} => frame_all__frame_Fine_1.e) := entA_ok (argI_ok fun x0 => argF0_ok (endU_ok fun r h => frame_all__frame_Fine_1.c x0 r h))

/-- becket frame.Fine -/
noncomputable def frame_Fine.sp : Spec := (orS 37 (fun {_} => (orEnt (fun bs => isSig 1 [39] bs) (fun {_} => frame_all__frame_Fine_1.e) (fun {_} => (orEnt (fun bs => isSig 1 [38] bs) (fun {_} => frame_all__word_Fine.e) (fun {_} => frame_all__frame_place.e))))) (orS 36 (fun {_} => frame_place.e) noS))
def frame_Fine.s {Ω : Type} (x0 : T_s25) (k : Bool → Option Ω) : Option Ω :=
  bif (!(frame_place.t x0.1)) then
    k false
  else
    bif (decide (x0.2.2.2.2.1 < 0)) then
      k false
    else
      bif (decide (x0.2.2.2.2.1 > 8)) then
        k false
      else
        bif (subC none none 8) then
          (frame_all__word_Fine.u (((List.drop (subLo none) x0.2.2.1).take (subHi none 8 - subLo none)))).bind fun y1 =>
          bif (!y1) then
            k false
          else
            bif (subC none none 16) then
              (frame_all__word_Fine.u (((List.drop (subLo none) x0.2.2.2.1).take (subHi none 16 - subLo none)))).bind fun y2 =>
              bif (!y2) then
                k false
              else
                bif (subC none (some (x0.2.2.2.2.1)) 8) then
                  (frame_all__frame_place.u (((List.drop (subLo none) x0.2.2.2.2.2.1).take (subHi (some (x0.2.2.2.2.1)) 8 - subLo none)))).bind fun y3 =>
                  bif y3 then
                    bif (subC (some (x0.2.2.2.2.1)) none 8) then
                      (frame_all__frame_Fine_1.u (((List.drop (subLo (some (x0.2.2.2.2.1))) x0.2.2.2.2.2.1).take (subHi none 8 - subLo (some (x0.2.2.2.2.1)))))).bind fun y4 =>
                      k y4
                    else
                      none
                  else
                    k false
                else
                  none
            else
              none
        else
          none
theorem frame_Fine.ev {Ω : Type} (fuel : Fuel) (x0 : T_s25) (k : AV → Option Ω) : evFn C frame_Fine.sp fuel Tryz.f15 (Tryz.f15.body.getD .skip) [(.v E_s25 (x0))] k = frame_Fine.s x0 (fun r => k (tupAV .bool [] r)) := by kernel_rfl
def frame_Fine.u (x0 : T_s25) : Option (Bool) := frame_Fine.s x0 some
theorem frame_Fine.c (x0 : T_s25) (r : Bool) (h : frame_Fine.u x0 = some r) : Contract C 15 [(.v E_s25 (x0))] (tupAV .bool [] r) :=
  contract_s (S := fun k => frame_Fine.s x0 k) C_ok (orS_ok (orEnt_ok frame_all__frame_Fine_1.e_ok (orEnt_ok frame_all__word_Fine.e_ok frame_all__frame_place.e_ok)) (orS_ok frame_place.e_ok noS_ok)) (by kernel_rfl) (by kernel_rfl) (by kernel_rfl) (frame_Fine.ev ⟨1, fun _ => []⟩ x0 (dec .bool [])) h
noncomputable def frame_Fine.e : Ent := argI E_s25 fun x0 => endU (frame_Fine.u x0) (tupAV .bool [])
theorem frame_Fine.e_ok : EntOK C 15 (fun {_} => frame_Fine.e) := entA_ok (argI_ok fun x0 => endU_ok fun r h => frame_Fine.c x0 r h)

/-- becket frame.New -/
noncomputable def frame_New.sp : Spec := (orS 38 (fun {_} => word_Fine.e) noS)
def frame_New.s {Ω : Type} (x0 : Int) (k : T_s25 × Int → Option Ω) : Option Ω :=
  bif (!(word_Fine.t x0)) then
    k ((0, (false, ((List.replicate 8 0), ((List.replicate 16 0), (0, ((List.replicate 8 0), ())))))), 8)
  else
    k ((0, (false, ((List.set (List.replicate 8 0) 0 x0), ((List.replicate 16 0), (0, ((List.replicate 8 0), ())))))), 0)
theorem frame_New.ev {Ω : Type} (fuel : Fuel) (x0 : Int) (k : AV → Option Ω) : evFn C frame_New.sp fuel Tryz.f16 (Tryz.f16.body.getD .skip) [(.v (.int .i64) (x0))] k = frame_New.s x0 (fun r => k (tupAV E_s25 [(.int .i64)] r)) := by kernel_rfl
def frame_New.t (x0 : Int) : T_s25 × Int :=
  bif (!(word_Fine.t x0)) then
    ((0, (false, ((List.replicate 8 0), ((List.replicate 16 0), (0, ((List.replicate 8 0), ())))))), 8)
  else
    ((0, (false, ((List.set (List.replicate 8 0) 0 x0), ((List.replicate 16 0), (0, ((List.replicate 8 0), ())))))), 0)
theorem frame_New.v {Ω : Type} (x0 : Int) (k : T_s25 × Int → Option Ω) : frame_New.s x0 k = k (frame_New.t x0) := by
  delta frame_New.s frame_New.t; exact (cond_tot rfl rfl)
theorem frame_New.c (x0 : Int) : Contract C 16 [(.v (.int .i64) (x0))] (tupAV E_s25 [(.int .i64)] (frame_New.t x0)) :=
  contract_s (S := fun k => frame_New.s x0 k) C_ok (orS_ok word_Fine.e_ok noS_ok) (by kernel_rfl) (by kernel_rfl) (by kernel_rfl) (frame_New.ev ⟨1, fun _ => []⟩ x0 (dec E_s25 [(.int .i64)])) (frame_New.v x0 some)
noncomputable def frame_New.e : Ent := argI (.int .i64) fun x0 => endT (tupAV E_s25 [(.int .i64)] (frame_New.t x0))
theorem frame_New.e_ok : EntOK C 16 (fun {_} => frame_New.e) := entA_ok (argI_ok fun x0 => endT_ok (frame_New.c x0))

/-- becket frame.at -/
noncomputable def frame_at.sp : Spec := (orS 38 (fun {_} => word_Fine.e) (orS 15 (fun {_} => frame_Fine.e) noS))
def frame_at.s {Ω : Type} (x0 : T_s25) (x1 : Int) (x2 : Int) (x3 : Int) (k : Int → Option Ω) : Option Ω :=
  (frame_Fine.u x0).bind fun y1 =>
  bif (!y1) then
    k 1
  else
    bif (decide (x1 < 0)) then
      k 8
    else
      bif (decide (x1 ≥ x2)) then
        k 8
      else
        bif (!(word_Fine.t x3)) then
          k 8
        else
          k 0
theorem frame_at.ev {Ω : Type} (fuel : Fuel) (x0 : T_s25) (x1 : Int) (x2 : Int) (x3 : Int) (k : AV → Option Ω) : evFn C frame_at.sp fuel Tryz.f55 (Tryz.f55.body.getD .skip) [(.v E_s25 (x0)), (.v (.int .i64) (x1)), (.v (.int .i64) (x2)), (.v (.int .i64) (x3))] k = frame_at.s x0 x1 x2 x3 (fun r => k (tupAV (.int .i64) [] r)) := by kernel_rfl
def frame_at.u (x0 : T_s25) (x1 : Int) (x2 : Int) (x3 : Int) : Option (Int) := frame_at.s x0 x1 x2 x3 some
theorem frame_at.c (x0 : T_s25) (x1 : Int) (x2 : Int) (x3 : Int) (r : Int) (h : frame_at.u x0 x1 x2 x3 = some r) : Contract C 55 [(.v E_s25 (x0)), (.v (.int .i64) (x1)), (.v (.int .i64) (x2)), (.v (.int .i64) (x3))] (tupAV (.int .i64) [] r) :=
  contract_s (S := fun k => frame_at.s x0 x1 x2 x3 k) C_ok (orS_ok word_Fine.e_ok (orS_ok frame_Fine.e_ok noS_ok)) (by kernel_rfl) (by kernel_rfl) (by kernel_rfl) (frame_at.ev ⟨1, fun _ => []⟩ x0 x1 x2 x3 (dec (.int .i64) [])) h
noncomputable def frame_at.e : Ent := argI E_s25 fun x0 => argI (.int .i64) fun x1 => argI (.int .i64) fun x2 => argI (.int .i64) fun x3 => endU (frame_at.u x0 x1 x2 x3) (tupAV (.int .i64) [])
theorem frame_at.e_ok : EntOK C 55 (fun {_} => frame_at.e) := entA_ok (argI_ok fun x0 => argI_ok fun x1 => argI_ok fun x2 => argI_ok fun x3 => endU_ok fun r h => frame_at.c x0 x1 x2 x3 r h)

/-- becket frame.Set -/
noncomputable def frame_Set.sp : Spec := (orS 55 (fun {_} => frame_at.e) noS)
def frame_Set.s {Ω : Type} (x0 : T_s25) (x1 : Int) (x2 : Int) (k : T_s25 × Int → Option Ω) : Option Ω :=
  (frame_at.u x0 x1 8 x2).bind fun y1 =>
  bif (y1 == 0) then
    bif (idxOK x1 8) then
      k ((x0.1, (x0.2.1, ((List.set x0.2.2.1 (Int.toNat x1) x2), x0.2.2.2))), y1)
    else
      none
  else
    k (x0, y1)
theorem frame_Set.ev {Ω : Type} (fuel : Fuel) (x0 : T_s25) (x1 : Int) (x2 : Int) (k : AV → Option Ω) : evFn C frame_Set.sp fuel Tryz.f30 (Tryz.f30.body.getD .skip) [(.v E_s25 (x0)), (.v (.int .i64) (x1)), (.v (.int .i64) (x2))] k = frame_Set.s x0 x1 x2 (fun r => k (tupAV E_s25 [(.int .i64)] r)) := by kernel_rfl
def frame_Set.u (x0 : T_s25) (x1 : Int) (x2 : Int) : Option (T_s25 × Int) := frame_Set.s x0 x1 x2 some
theorem frame_Set.c (x0 : T_s25) (x1 : Int) (x2 : Int) (r : T_s25 × Int) (h : frame_Set.u x0 x1 x2 = some r) : Contract C 30 [(.v E_s25 (x0)), (.v (.int .i64) (x1)), (.v (.int .i64) (x2))] (tupAV E_s25 [(.int .i64)] r) :=
  contract_s (S := fun k => frame_Set.s x0 x1 x2 k) C_ok (orS_ok frame_at.e_ok noS_ok) (by kernel_rfl) (by kernel_rfl) (by kernel_rfl) (frame_Set.ev ⟨1, fun _ => []⟩ x0 x1 x2 (dec E_s25 [(.int .i64)])) h
noncomputable def frame_Set.e : Ent := argI E_s25 fun x0 => argI (.int .i64) fun x1 => argI (.int .i64) fun x2 => endU (frame_Set.u x0 x1 x2) (tupAV E_s25 [(.int .i64)])
theorem frame_Set.e_ok : EntOK C 30 (fun {_} => frame_Set.e) := entA_ok (argI_ok fun x0 => argI_ok fun x1 => argI_ok fun x2 => endU_ok fun r h => frame_Set.c x0 x1 x2 r h)

/-- becket frame.Go -/
noncomputable def frame_Go.sp : Spec := (orS 36 (fun {_} => frame_place.e) (orS 15 (fun {_} => frame_Fine.e) noS))
def frame_Go.s {Ω : Type} (x0 : T_s25) (x1 : Int) (k : T_s25 × Int → Option Ω) : Option Ω :=
  (frame_Fine.u x0).bind fun y1 =>
  bif (!y1) then
    k (x0, 1)
  else
    bif (!(frame_place.t x1)) then
      k (x0, 8)
    else
      k ((x1, x0.2), 0)
theorem frame_Go.ev {Ω : Type} (fuel : Fuel) (x0 : T_s25) (x1 : Int) (k : AV → Option Ω) : evFn C frame_Go.sp fuel Tryz.f31 (Tryz.f31.body.getD .skip) [(.v E_s25 (x0)), (.v (.int .i64) (x1))] k = frame_Go.s x0 x1 (fun r => k (tupAV E_s25 [(.int .i64)] r)) := by kernel_rfl
def frame_Go.u (x0 : T_s25) (x1 : Int) : Option (T_s25 × Int) := frame_Go.s x0 x1 some
theorem frame_Go.c (x0 : T_s25) (x1 : Int) (r : T_s25 × Int) (h : frame_Go.u x0 x1 = some r) : Contract C 31 [(.v E_s25 (x0)), (.v (.int .i64) (x1))] (tupAV E_s25 [(.int .i64)] r) :=
  contract_s (S := fun k => frame_Go.s x0 x1 k) C_ok (orS_ok frame_place.e_ok (orS_ok frame_Fine.e_ok noS_ok)) (by kernel_rfl) (by kernel_rfl) (by kernel_rfl) (frame_Go.ev ⟨1, fun _ => []⟩ x0 x1 (dec E_s25 [(.int .i64)])) h
noncomputable def frame_Go.e : Ent := argI E_s25 fun x0 => argI (.int .i64) fun x1 => endU (frame_Go.u x0 x1) (tupAV E_s25 [(.int .i64)])
theorem frame_Go.e_ok : EntOK C 31 (fun {_} => frame_Go.e) := entA_ok (argI_ok fun x0 => argI_ok fun x1 => endU_ok fun r h => frame_Go.c x0 x1 r h)

/-- becket becketref13.Place -/
noncomputable def ref13_Place.sp : Spec := noS
def ref13_Place.s {Ω : Type} (x0 : Int) (k : Bool → Option Ω) : Option Ω :=
  bif (decide (x0 ≥ 0)) then
    k (decide (x0 ≤ 64))
  else
    k false
theorem ref13_Place.ev {Ω : Type} (fuel : Fuel) (x0 : Int) (k : AV → Option Ω) : evFn C ref13_Place.sp fuel Tryz.f66 (Tryz.f66.body.getD .skip) [(.v (.int .i64) (x0))] k = ref13_Place.s x0 (fun r => k (tupAV .bool [] r)) := by kernel_rfl
def ref13_Place.t (x0 : Int) : Bool :=
  bif (decide (x0 ≥ 0)) then
    (decide (x0 ≤ 64))
  else
    false
theorem ref13_Place.v {Ω : Type} (x0 : Int) (k : Bool → Option Ω) : ref13_Place.s x0 k = k (ref13_Place.t x0) := by
  delta ref13_Place.s ref13_Place.t; exact (cond_tot rfl rfl)
theorem ref13_Place.c (x0 : Int) : Contract C 66 [(.v (.int .i64) (x0))] (tupAV .bool [] (ref13_Place.t x0)) :=
  contract_s (S := fun k => ref13_Place.s x0 k) C_ok noS_ok (by kernel_rfl) (by kernel_rfl) (by kernel_rfl) (ref13_Place.ev ⟨1, fun _ => []⟩ x0 (dec .bool [])) (ref13_Place.v x0 some)
noncomputable def ref13_Place.e : Ent := argI (.int .i64) fun x0 => endT (tupAV .bool [] (ref13_Place.t x0))
theorem ref13_Place.e_ok : EntOK C 66 (fun {_} => ref13_Place.e) := entA_ok (argI_ok fun x0 => endT_ok (ref13_Place.c x0))

/-- becket becketref13.Fine -/
noncomputable def ref13_Fine.sp : Spec := (orS 66 (fun {_} => ref13_Place.e) (orS 32 (fun {_} => ref08_Fine.e) noS))
def ref13_Fine.F (fuel : Nat) : Fuel := ⟨fuel, fun r => bif r == 9 then [0, 2, 3, 5, 6, 7, 8, 9, 10, 11, 12, 13, 14, 15, 16, 17, 18, 19, 20, 21, 22, 23, 24, 25, 26, 27, 28, 29, 30, 31, 32, 33, 34, 35, 36, 37, 38, 39, 40, 41, 42, 43, 44, 45, 46, 47, 48, 49, 50, 51, 52, 53, 54, 55, 56, 57, 58, 59, 60, 61, 62, 63, 64, 65] else bif r == 4 then [0, 2, 4, 5, 6, 7, 8, 9, 10, 11, 12, 13, 14, 15, 16, 17, 18, 19, 20, 21, 22, 23, 24, 25, 26, 27, 28, 29, 30, 31, 32, 33, 34, 35, 36, 37, 38, 39, 40, 41, 42, 43, 44, 45, 46, 47, 48, 49, 50, 51, 52, 53, 54, 55, 56, 57, 58, 59, 60, 61, 62, 63, 64, 65] else []⟩
def ref13_Fine.E0 (e4_1 : T_s25) (s9 : Int) : List AV := [.dead, (.ref 0 []), .dead, .dead, (.v (.int .i64) (s9)), .dead, .dead, .dead, .dead, .dead, .dead, .dead, .dead, .dead, .dead, .dead, .dead, .dead, .dead, .dead, .dead, .dead, .dead, .dead, .dead, .dead, .dead, .dead, .dead, .dead, .dead, .dead, .dead, .dead, .dead, .dead, .dead, .dead, .dead, .dead, .dead, .dead, .dead, .dead, .dead, .dead, .dead, .dead, .dead, .dead, .dead, .dead, .dead, .dead, .dead, .dead, .dead, .dead, .dead, .dead, .dead, .dead, .dead, .dead, .dead, .dead]
def ref13_Fine.H0 (e4_1 : T_s25) (s9 : Int) : Heap := [(.box E_s25 e4_1 false)]
noncomputable def ref13_Fine.M0 {Ω : Type} (fuel : Nat) (e4_1 : T_s25)  (k : AV → Option Ω) (m : Nat) (s : Int) : Option Ω := loopK (fun env L k => evCode C ref13_Fine.sp (ref13_Fine.F fuel) (cl (cl (cr (cl (cr (cr (cr (Tryz.f51.body.getD .skip)))))))) env L k) [true, false, true, true, false, true, true, true, true, true, true, true, true, true, true, true, true, true, true, true, true, true, true, true, true, true, true, true, true, true, true, true, true, true, true, true, true, true, true, true, true, true, true, true, true, true, true, true, true, true, true, true, true, true, true, true, true, true, true, true, true, true, true, true, true, true] 1 (blockK 2 (seqK (fun env L => evCode C ref13_Fine.sp (ref13_Fine.F fuel) (cr (cr (cr (cr (Tryz.f51.body.getD .skip))))) env L (finK C Tryz.f51 k)) (finK C Tryz.f51 k))) m ((ref13_Fine.E0 e4_1) s) ((ref13_Fine.H0 e4_1) s)
def ref13_Fine.E1 (e4_1 : T_s25) (s4 : Int) : List AV := [.dead, (.ref 0 []), .dead, (.v (.int .i64) (s4)), .dead, .dead, .dead, .dead, .dead, .dead, .dead, .dead, .dead, .dead, .dead, .dead, .dead, .dead, .dead, .dead, .dead, .dead, .dead, .dead, .dead, .dead, .dead, .dead, .dead, .dead, .dead, .dead, .dead, .dead, .dead, .dead, .dead, .dead, .dead, .dead, .dead, .dead, .dead, .dead, .dead, .dead, .dead, .dead, .dead, .dead, .dead, .dead, .dead, .dead, .dead, .dead, .dead, .dead, .dead, .dead, .dead, .dead, .dead, .dead, .dead, .dead]
def ref13_Fine.H1 (e4_1 : T_s25) (s4 : Int) : Heap := [(.box E_s25 e4_1 false)]
noncomputable def ref13_Fine.M1 {Ω : Type} (fuel : Nat) (e4_1 : T_s25)  (k : AV → Option Ω) (m : Nat) (s : Int) : Option Ω := loopK (fun env L k => evCode C ref13_Fine.sp (ref13_Fine.F fuel) (cl (cl (cr (cl (cr (cr (Tryz.f51.body.getD .skip))))))) env L k) [true, false, true, false, true, true, true, true, true, true, true, true, true, true, true, true, true, true, true, true, true, true, true, true, true, true, true, true, true, true, true, true, true, true, true, true, true, true, true, true, true, true, true, true, true, true, true, true, true, true, true, true, true, true, true, true, true, true, true, true, true, true, true, true, true, true] 1 (blockK 0 (seqK (fun env L => evCode C ref13_Fine.sp (ref13_Fine.F fuel) (cr (cr (cr (Tryz.f51.body.getD .skip)))) env L (finK C Tryz.f51 k)) (finK C Tryz.f51 k))) m ((ref13_Fine.E1 e4_1) s) ((ref13_Fine.H1 e4_1) s)
def ref13_Fine.b0 {Ω : Type} (e4_1 : T_s25)   (k : Bool → Option Ω) (r9 : Int → Option Ω) (s9 : Int) : Option Ω :=
  bif (decide (s9 < 16)) then
    bif (idxOK s9 16) then
      bif (!(ref08_Fine.t ((List.getD e4_1.2.2.2.1 (Int.toNat s9) 0)))) then
        k false
      else
        r9 ((IntKind.wrap .i64 (s9 + 1)))
    else
      none
  else
    k true
def ref13_Fine.B0 {Ω : Type} (fuel : Nat) (e4_1 : T_s25)  (k : Bool → Option Ω) (r9 : Int → Option Ω) (s9 : Int) : Option Ω := ref13_Fine.b0 e4_1   k r9 s9
def ref13_Fine.b1 {Ω : Type} (e4_1 : T_s25)  (lp0 : T_s25 → Int → Option Ω) (k : Bool → Option Ω) (r4 : Int → Option Ω) (s4 : Int) : Option Ω :=
  bif (decide (s4 < 8)) then
    bif (idxOK s4 8) then
      bif (!(ref08_Fine.t ((List.getD e4_1.2.2.1 (Int.toNat s4) 0)))) then
        k false
      else
        bif (decide (s4 < e4_1.2.2.2.2.1)) then
          bif (idxOK s4 8) then
            bif (!(ref13_Place.t ((List.getD e4_1.2.2.2.2.2.1 (Int.toNat s4) 0)))) then
              k false
            else
              bif (decide (s4 ≥ e4_1.2.2.2.2.1)) then
                bif (idxOK s4 8) then
                  bif ((List.getD e4_1.2.2.2.2.2.1 (Int.toNat s4) 0) != 0) then
                    k false
                  else
                    r4 ((IntKind.wrap .i64 (s4 + 1)))
                else
                  none
              else
                r4 ((IntKind.wrap .i64 (s4 + 1)))
          else
            none
        else
          bif (decide (s4 ≥ e4_1.2.2.2.2.1)) then
            bif (idxOK s4 8) then
              bif ((List.getD e4_1.2.2.2.2.2.1 (Int.toNat s4) 0) != 0) then
                k false
              else
                r4 ((IntKind.wrap .i64 (s4 + 1)))
            else
              none
          else
            r4 ((IntKind.wrap .i64 (s4 + 1)))
    else
      none
  else
    lp0 e4_1 (0)
def ref13_Fine.B1 {Ω : Type} (fuel : Nat) (e4_1 : T_s25)  (k : Bool → Option Ω) (r4 : Int → Option Ω) (s4 : Int) : Option Ω := ref13_Fine.b1 e4_1  (fun e4_1 => (iter (ref13_Fine.B0 fuel e4_1  k) fuel)) k r4 s4
theorem ref13_Fine.l0 {Ω : Type} (fuel : Nat) (e4_1 : T_s25)  (k : AV → Option Ω) : ∀ m, (ref13_Fine.M0 fuel e4_1  k m) = iter (ref13_Fine.B0 fuel e4_1  (fun r => k (tupAV .bool [] r))) m :=
  loopK_iter (envOf := (ref13_Fine.E0 e4_1)) (LOf := (ref13_Fine.H0 e4_1)) (B := ref13_Fine.B0 fuel e4_1  (fun r => k (tupAV .bool [] r))) (fun R s => by kernel_rfl)
theorem ref13_Fine.l1 {Ω : Type} (fuel : Nat) (e4_1 : T_s25)  (k : AV → Option Ω) : ∀ m, (ref13_Fine.M1 fuel e4_1  k m) = iter (ref13_Fine.B1 fuel e4_1  (fun r => k (tupAV .bool [] r))) m :=
  loopK_iter (envOf := (ref13_Fine.E1 e4_1)) (LOf := (ref13_Fine.H1 e4_1)) (B := ref13_Fine.B1 fuel e4_1  (fun r => k (tupAV .bool [] r))) (fun R s => by
    have h0 : evCode C ref13_Fine.sp (ref13_Fine.F fuel) (cl (cl (cr (cl (cr (cr (Tryz.f51.body.getD .skip))))))) ((ref13_Fine.E1 e4_1) s) ((ref13_Fine.H1 e4_1) s) (loopC R [true, false, true, false, true, true, true, true, true, true, true, true, true, true, true, true, true, true, true, true, true, true, true, true, true, true, true, true, true, true, true, true, true, true, true, true, true, true, true, true, true, true, true, true, true, true, true, true, true, true, true, true, true, true, true, true, true, true, true, true, true, true, true, true, true, true] 1 (blockK 0 (seqK (fun env L => evCode C ref13_Fine.sp (ref13_Fine.F fuel) (cr (cr (cr (Tryz.f51.body.getD .skip)))) env L (finK C Tryz.f51 k)) (finK C Tryz.f51 k)))) = ref13_Fine.b1 e4_1  (fun e4_1 => (ref13_Fine.M0 fuel e4_1  k fuel)) (fun r => k (tupAV .bool [] r)) (fun s => R ((ref13_Fine.E1 e4_1) s) ((ref13_Fine.H1 e4_1) s)) s := by kernel_rfl
    have h1 : (fun e4_1 => (ref13_Fine.M0 fuel e4_1  k fuel)) = (fun e4_1 => (iter (ref13_Fine.B0 fuel e4_1  (fun r => k (tupAV .bool [] r))) fuel)) := funext fun e4_1 => ref13_Fine.l0 fuel e4_1   k fuel
    rw [h1] at h0
    exact h0)
def ref13_Fine.sl {Ω : Type} (x0 : T_s25) (lp1 : T_s25 → Int → Option Ω) (k : Bool → Option Ω) : Option Ω :=
  bif (!(ref13_Place.t x0.1)) then
    k false
  else
    bif (decide (x0.2.2.2.2.1 < 0)) then
      k false
    else
      bif (decide (x0.2.2.2.2.1 > 8)) then
        k false
      else
        lp1 x0 (0)
def ref13_Fine.s {Ω : Type} (fuel : Nat) (x0 : T_s25) (k : Bool → Option Ω) : Option Ω := ref13_Fine.sl x0 (fun e4_1 => (iter (ref13_Fine.B1 fuel e4_1  k) fuel)) k
theorem ref13_Fine.ev {Ω : Type} (fuel : Nat) (x0 : T_s25) (k : AV → Option Ω) : evFn C ref13_Fine.sp (ref13_Fine.F fuel) Tryz.f51 (Tryz.f51.body.getD .skip) [(.v E_s25 (x0))] k = ref13_Fine.s fuel x0 (fun r => k (tupAV .bool [] r)) := by
  have h0 : evFn C ref13_Fine.sp (ref13_Fine.F fuel) Tryz.f51 (Tryz.f51.body.getD .skip) [(.v E_s25 (x0))] k = ref13_Fine.sl x0 (fun e4_1 => (ref13_Fine.M1 fuel e4_1  k fuel)) (fun r => k (tupAV .bool [] r)) := by kernel_rfl
  have h2 : (fun e4_1 => (ref13_Fine.M1 fuel e4_1  k fuel)) = (fun e4_1 => (iter (ref13_Fine.B1 fuel e4_1  (fun r => k (tupAV .bool [] r))) fuel)) := funext fun e4_1 => ref13_Fine.l1 fuel e4_1   k fuel
  rw [h2] at h0
  exact h0
def ref13_Fine.g0 {Ω : Type} (e4_1 : T_s25)  (k : Bool → Option Ω) : Nat → Int → Option Ω
  | 0, i9 =>
    k true
  | d9 + 1, i9 =>
    bif (idxOK i9 16) then
      bif (!(ref08_Fine.t ((List.getD e4_1.2.2.2.1 (Int.toNat i9) 0)))) then
        k false
      else
        ref13_Fine.g0 e4_1  k d9 (i9 + 1)
    else
      none
theorem ref13_Fine.h0 {Ω : Type} (e4_1 : T_s25)   (k : Bool → Option Ω) (hN : (16 : Int) ≤ 9223372036854775807) : ∀ (m : Nat) (i : Int) (a : Unit), -9223372036854775808 ≤ i → Int.toNat ((16 : Int) - i) < m → Le (ref13_Fine.g0 e4_1  k (Int.toNat ((16 : Int) - i)) i) (iter (ref13_Fine.B0 BIG e4_1  k) m (i)) :=
  iter_count (16 : Int) (fun i9 => (decide (i9 < 16))) (fun i => rfl) (fun (i9 : Int) (a9 : Unit) => (i9)) (fun xs i9 a9 => ref13_Fine.g0 e4_1  k xs i9) (ref13_Fine.B0 BIG e4_1  k)
    (fun i9 a9 r h0 => (Le.fls h0 (Le.refl _)))
    (fun i9 d9 a9 r h0 hw ih => (Le.tru h0 (Le.cond (Le.cond (Le.refl _) (ih _ hw ())) Le.nil)))
    hN
def ref13_Fine.g1 {Ω : Type} (e4_1 : T_s25)  (k : Bool → Option Ω) : Nat → Int → Option Ω
  | 0, i4 =>
    ref13_Fine.g0 e4_1  k ((Int.toNat ((16 : Int) - 0))) 0
  | d4 + 1, i4 =>
    bif (idxOK i4 8) then
      bif (!(ref08_Fine.t ((List.getD e4_1.2.2.1 (Int.toNat i4) 0)))) then
        k false
      else
        bif (decide (i4 < e4_1.2.2.2.2.1)) then
          bif (idxOK i4 8) then
            bif (!(ref13_Place.t ((List.getD e4_1.2.2.2.2.2.1 (Int.toNat i4) 0)))) then
              k false
            else
              bif (decide (i4 ≥ e4_1.2.2.2.2.1)) then
                bif (idxOK i4 8) then
                  bif ((List.getD e4_1.2.2.2.2.2.1 (Int.toNat i4) 0) != 0) then
                    k false
                  else
                    ref13_Fine.g1 e4_1  k d4 (i4 + 1)
                else
                  none
              else
                ref13_Fine.g1 e4_1  k d4 (i4 + 1)
          else
            none
        else
          bif (decide (i4 ≥ e4_1.2.2.2.2.1)) then
            bif (idxOK i4 8) then
              bif ((List.getD e4_1.2.2.2.2.2.1 (Int.toNat i4) 0) != 0) then
                k false
              else
                ref13_Fine.g1 e4_1  k d4 (i4 + 1)
            else
              none
          else
            ref13_Fine.g1 e4_1  k d4 (i4 + 1)
    else
      none
theorem ref13_Fine.h1 {Ω : Type} (e4_1 : T_s25)   (k : Bool → Option Ω) (hN : (8 : Int) ≤ 9223372036854775807) : ∀ (m : Nat) (i : Int) (a : Unit), -9223372036854775808 ≤ i → Int.toNat ((8 : Int) - i) < m → Le (ref13_Fine.g1 e4_1  k (Int.toNat ((8 : Int) - i)) i) (iter (ref13_Fine.B1 BIG e4_1  k) m (i)) :=
  iter_count (8 : Int) (fun i4 => (decide (i4 < 8))) (fun i => rfl) (fun (i4 : Int) (a4 : Unit) => (i4)) (fun xs i4 a4 => ref13_Fine.g1 e4_1  k xs i4) (ref13_Fine.B1 BIG e4_1  k)
    (fun i4 a4 r h0 => (Le.fls h0 (ref13_Fine.h0 _   k (by decide) BIG 0 () (by decide) (by decide))))
    (fun i4 d4 a4 r h0 hw ih => (Le.tru h0 (Le.cond (Le.cond (Le.refl _) (Le.cond (Le.cond (Le.cond (Le.refl _) (Le.cond (Le.cond (Le.cond (Le.refl _) (ih _ hw ())) Le.nil) (ih _ hw ()))) Le.nil) (Le.cond (Le.cond (Le.cond (Le.refl _) (ih _ hw ())) Le.nil) (ih _ hw ())))) Le.nil)))
    hN
def ref13_Fine.w {Ω : Type} (x0 : T_s25) (k : Bool → Option Ω) : Option Ω :=
  bif (!(ref13_Place.t x0.1)) then
    k false
  else
    bif (decide (x0.2.2.2.2.1 < 0)) then
      k false
    else
      bif (decide (x0.2.2.2.2.1 > 8)) then
        k false
      else
        ref13_Fine.g1 x0  k ((Int.toNat ((8 : Int) - 0))) 0
theorem ref13_Fine.le {Ω : Type} (x0 : T_s25) (k : Bool → Option Ω) : Le (ref13_Fine.w x0 k) (ref13_Fine.s BIG x0 k) := by
  delta ref13_Fine.w ref13_Fine.s ref13_Fine.sl
  exact (Le.cond (Le.refl _) (Le.cond (Le.refl _) (Le.cond (Le.refl _) (ref13_Fine.h1 _   k (by decide) BIG 0 () (by decide) (by decide)))))
def ref13_Fine.u (x0 : T_s25) : Option (Bool) := ref13_Fine.w x0 some
theorem ref13_Fine.c (x0 : T_s25) (r : Bool) (h : ref13_Fine.u x0 = some r) : Contract C 51 [(.v E_s25 (x0))] (tupAV .bool [] r) :=
  contract_s (S := fun k => ref13_Fine.s BIG x0 k) C_ok (orS_ok ref13_Place.e_ok (orS_ok ref08_Fine.e_ok noS_ok)) (by kernel_rfl) (by kernel_rfl) (by kernel_rfl) (ref13_Fine.ev BIG x0 (dec .bool [])) (ref13_Fine.le x0 some r h)
noncomputable def ref13_Fine.e : Ent := argI E_s25 fun x0 => endU (ref13_Fine.u x0) (tupAV .bool [])
theorem ref13_Fine.e_ok : EntOK C 51 (fun {_} => ref13_Fine.e) := entA_ok (argI_ok fun x0 => endU_ok fun r h => ref13_Fine.c x0 r h)

/-- becket becketref13.Go -/
noncomputable def ref13_Go.sp : Spec := (orS 66 (fun {_} => ref13_Place.e) (orS 51 (fun {_} => ref13_Fine.e) noS))
def ref13_Go.s {Ω : Type} (x0 : T_s25) (x1 : Int) (k : T_s25 × Int → Option Ω) : Option Ω :=
  (ref13_Fine.u x0).bind fun y1 =>
  bif (!y1) then
    k (x0, 1)
  else
    bif (!(ref13_Place.t x1)) then
      k (x0, 8)
    else
      k ((x1, x0.2), 0)
theorem ref13_Go.ev {Ω : Type} (fuel : Fuel) (x0 : T_s25) (x1 : Int) (k : AV → Option Ω) : evFn C ref13_Go.sp fuel Tryz.f84 (Tryz.f84.body.getD .skip) [(.v E_s25 (x0)), (.v (.int .i64) (x1))] k = ref13_Go.s x0 x1 (fun r => k (tupAV E_s25 [(.int .i64)] r)) := by kernel_rfl
def ref13_Go.u (x0 : T_s25) (x1 : Int) : Option (T_s25 × Int) := ref13_Go.s x0 x1 some
theorem ref13_Go.c (x0 : T_s25) (x1 : Int) (r : T_s25 × Int) (h : ref13_Go.u x0 x1 = some r) : Contract C 84 [(.v E_s25 (x0)), (.v (.int .i64) (x1))] (tupAV E_s25 [(.int .i64)] r) :=
  contract_s (S := fun k => ref13_Go.s x0 x1 k) C_ok (orS_ok ref13_Place.e_ok (orS_ok ref13_Fine.e_ok noS_ok)) (by kernel_rfl) (by kernel_rfl) (by kernel_rfl) (ref13_Go.ev ⟨1, fun _ => []⟩ x0 x1 (dec E_s25 [(.int .i64)])) h
noncomputable def ref13_Go.e : Ent := argI E_s25 fun x0 => argI (.int .i64) fun x1 => endU (ref13_Go.u x0 x1) (tupAV E_s25 [(.int .i64)])
theorem ref13_Go.e_ok : EntOK C 84 (fun {_} => ref13_Go.e) := entA_ok (argI_ok fun x0 => argI_ok fun x1 => endU_ok fun r h => ref13_Go.c x0 x1 r h)

/-- becket becketref13.Load -/
noncomputable def ref13_Load.sp : Spec := (orS 51 (fun {_} => ref13_Fine.e) noS)
def ref13_Load.s {Ω : Type} (x0 : T_s25) (x1 : Int) (k : Int × Int → Option Ω) : Option Ω :=
  (ref13_Fine.u x0).bind fun y1 =>
  bif (!y1) then
    k (0, 1)
  else
    bif (decide (x1 < 0)) then
      k (0, 8)
    else
      bif (decide (x1 > 15)) then
        k (0, 8)
      else
        bif (idxOK x1 16) then
          k ((List.getD x0.2.2.2.1 (Int.toNat x1) 0), 0)
        else
          none
theorem ref13_Load.ev {Ω : Type} (fuel : Fuel) (x0 : T_s25) (x1 : Int) (k : AV → Option Ω) : evFn C ref13_Load.sp fuel Tryz.f89 (Tryz.f89.body.getD .skip) [(.v E_s25 (x0)), (.v (.int .i64) (x1))] k = ref13_Load.s x0 x1 (fun r => k (tupAV (.int .i64) [(.int .i64)] r)) := by kernel_rfl
def ref13_Load.u (x0 : T_s25) (x1 : Int) : Option (Int × Int) := ref13_Load.s x0 x1 some
theorem ref13_Load.c (x0 : T_s25) (x1 : Int) (r : Int × Int) (h : ref13_Load.u x0 x1 = some r) : Contract C 89 [(.v E_s25 (x0)), (.v (.int .i64) (x1))] (tupAV (.int .i64) [(.int .i64)] r) :=
  contract_s (S := fun k => ref13_Load.s x0 x1 k) C_ok (orS_ok ref13_Fine.e_ok noS_ok) (by kernel_rfl) (by kernel_rfl) (by kernel_rfl) (ref13_Load.ev ⟨1, fun _ => []⟩ x0 x1 (dec (.int .i64) [(.int .i64)])) h
noncomputable def ref13_Load.e : Ent := argI E_s25 fun x0 => argI (.int .i64) fun x1 => endU (ref13_Load.u x0 x1) (tupAV (.int .i64) [(.int .i64)])
theorem ref13_Load.e_ok : EntOK C 89 (fun {_} => ref13_Load.e) := entA_ok (argI_ok fun x0 => argI_ok fun x1 => endU_ok fun r h => ref13_Load.c x0 x1 r h)

/-- becket becketref13.Store -/
noncomputable def ref13_Store.sp : Spec := (orS 89 (fun {_} => ref13_Load.e) (orS 32 (fun {_} => ref08_Fine.e) noS))
def ref13_Store.s {Ω : Type} (x0 : T_s25) (x1 : Int) (x2 : Int) (k : T_s25 × Int → Option Ω) : Option Ω :=
  (ref13_Load.u x0 x1).bind fun y1 =>
  bif (y1.2 != 0) then
    k (x0, y1.2)
  else
    bif (!(ref08_Fine.t x2)) then
      k (x0, 8)
    else
      bif (idxOK x1 16) then
        k ((x0.1, (x0.2.1, (x0.2.2.1, ((List.set x0.2.2.2.1 (Int.toNat x1) x2), x0.2.2.2.2)))), 0)
      else
        none
theorem ref13_Store.ev {Ω : Type} (fuel : Fuel) (x0 : T_s25) (x1 : Int) (x2 : Int) (k : AV → Option Ω) : evFn C ref13_Store.sp fuel Tryz.f90 (Tryz.f90.body.getD .skip) [(.v E_s25 (x0)), (.v (.int .i64) (x1)), (.v (.int .i64) (x2))] k = ref13_Store.s x0 x1 x2 (fun r => k (tupAV E_s25 [(.int .i64)] r)) := by kernel_rfl
def ref13_Store.u (x0 : T_s25) (x1 : Int) (x2 : Int) : Option (T_s25 × Int) := ref13_Store.s x0 x1 x2 some
theorem ref13_Store.c (x0 : T_s25) (x1 : Int) (x2 : Int) (r : T_s25 × Int) (h : ref13_Store.u x0 x1 x2 = some r) : Contract C 90 [(.v E_s25 (x0)), (.v (.int .i64) (x1)), (.v (.int .i64) (x2))] (tupAV E_s25 [(.int .i64)] r) :=
  contract_s (S := fun k => ref13_Store.s x0 x1 x2 k) C_ok (orS_ok ref13_Load.e_ok (orS_ok ref08_Fine.e_ok noS_ok)) (by kernel_rfl) (by kernel_rfl) (by kernel_rfl) (ref13_Store.ev ⟨1, fun _ => []⟩ x0 x1 x2 (dec E_s25 [(.int .i64)])) h
noncomputable def ref13_Store.e : Ent := argI E_s25 fun x0 => argI (.int .i64) fun x1 => argI (.int .i64) fun x2 => endU (ref13_Store.u x0 x1 x2) (tupAV E_s25 [(.int .i64)])
theorem ref13_Store.e_ok : EntOK C 90 (fun {_} => ref13_Store.e) := entA_ok (argI_ok fun x0 => argI_ok fun x1 => argI_ok fun x2 => endU_ok fun r h => ref13_Store.c x0 x1 x2 r h)

/-- becket becketref13.Call -/
noncomputable def ref13_Call.sp : Spec := (orS 66 (fun {_} => ref13_Place.e) (orS 51 (fun {_} => ref13_Fine.e) noS))
def ref13_Call.s {Ω : Type} (x0 : T_s25) (x1 : Int) (k : T_s25 × Int → Option Ω) : Option Ω :=
  (ref13_Fine.u x0).bind fun y1 =>
  bif (!y1) then
    k (x0, 1)
  else
    bif (x0.2.2.2.2.1 == 8) then
      k (x0, 19)
    else
      bif (!(ref13_Place.t x1)) then
        k (x0, 8)
      else
        bif (x0.1 == 64) then
          k (x0, 8)
        else
          bif (idxOK x0.2.2.2.2.1 8) then
            let v2 : T_s25 := (x1, (x0.2.1, (x0.2.2.1, (x0.2.2.2.1, ((IntKind.wrap .i64 (x0.2.2.2.2.1 + 1)), ((List.set x0.2.2.2.2.2.1 (Int.toNat x0.2.2.2.2.1) (IntKind.wrap .i64 (x0.1 + 1))), x0.2.2.2.2.2.2))))))
            k (v2, 0)
          else
            none
theorem ref13_Call.ev {Ω : Type} (fuel : Fuel) (x0 : T_s25) (x1 : Int) (k : AV → Option Ω) : evFn C ref13_Call.sp fuel Tryz.f92 (Tryz.f92.body.getD .skip) [(.v E_s25 (x0)), (.v (.int .i64) (x1))] k = ref13_Call.s x0 x1 (fun r => k (tupAV E_s25 [(.int .i64)] r)) := by kernel_rfl
def ref13_Call.u (x0 : T_s25) (x1 : Int) : Option (T_s25 × Int) := ref13_Call.s x0 x1 some
theorem ref13_Call.c (x0 : T_s25) (x1 : Int) (r : T_s25 × Int) (h : ref13_Call.u x0 x1 = some r) : Contract C 92 [(.v E_s25 (x0)), (.v (.int .i64) (x1))] (tupAV E_s25 [(.int .i64)] r) :=
  contract_s (S := fun k => ref13_Call.s x0 x1 k) C_ok (orS_ok ref13_Place.e_ok (orS_ok ref13_Fine.e_ok noS_ok)) (by kernel_rfl) (by kernel_rfl) (by kernel_rfl) (ref13_Call.ev ⟨1, fun _ => []⟩ x0 x1 (dec E_s25 [(.int .i64)])) h
noncomputable def ref13_Call.e : Ent := argI E_s25 fun x0 => argI (.int .i64) fun x1 => endU (ref13_Call.u x0 x1) (tupAV E_s25 [(.int .i64)])
theorem ref13_Call.e_ok : EntOK C 92 (fun {_} => ref13_Call.e) := entA_ok (argI_ok fun x0 => argI_ok fun x1 => endU_ok fun r h => ref13_Call.c x0 x1 r h)

/-- becket becketref13.Ret -/
noncomputable def ref13_Ret.sp : Spec := (orS 51 (fun {_} => ref13_Fine.e) noS)
def ref13_Ret.s {Ω : Type} (x0 : T_s25) (k : T_s25 × Int → Option Ω) : Option Ω :=
  (ref13_Fine.u x0).bind fun y1 =>
  bif (!y1) then
    k (x0, 1)
  else
    bif (x0.2.2.2.2.1 == 0) then
      k (x0, 19)
    else
      bif (idxOK (IntKind.wrap .i64 (x0.2.2.2.2.1 - 1)) 8) then
        bif (idxOK (IntKind.wrap .i64 (x0.2.2.2.2.1 - 1)) 8) then
          let v2 : T_s25 := ((List.getD x0.2.2.2.2.2.1 (Int.toNat (IntKind.wrap .i64 (x0.2.2.2.2.1 - 1))) 0), (x0.2.1, (x0.2.2.1, (x0.2.2.2.1, ((IntKind.wrap .i64 (x0.2.2.2.2.1 - 1)), ((List.set x0.2.2.2.2.2.1 (Int.toNat (IntKind.wrap .i64 (x0.2.2.2.2.1 - 1))) 0), x0.2.2.2.2.2.2))))))
          k (v2, 0)
        else
          none
      else
        none
theorem ref13_Ret.ev {Ω : Type} (fuel : Fuel) (x0 : T_s25) (k : AV → Option Ω) : evFn C ref13_Ret.sp fuel Tryz.f93 (Tryz.f93.body.getD .skip) [(.v E_s25 (x0))] k = ref13_Ret.s x0 (fun r => k (tupAV E_s25 [(.int .i64)] r)) := by kernel_rfl
def ref13_Ret.u (x0 : T_s25) : Option (T_s25 × Int) := ref13_Ret.s x0 some
theorem ref13_Ret.c (x0 : T_s25) (r : T_s25 × Int) (h : ref13_Ret.u x0 = some r) : Contract C 93 [(.v E_s25 (x0))] (tupAV E_s25 [(.int .i64)] r) :=
  contract_s (S := fun k => ref13_Ret.s x0 k) C_ok (orS_ok ref13_Fine.e_ok noS_ok) (by kernel_rfl) (by kernel_rfl) (by kernel_rfl) (ref13_Ret.ev ⟨1, fun _ => []⟩ x0 (dec E_s25 [(.int .i64)])) h
noncomputable def ref13_Ret.e : Ent := argI E_s25 fun x0 => endU (ref13_Ret.u x0) (tupAV E_s25 [(.int .i64)])
theorem ref13_Ret.e_ok : EntOK C 93 (fun {_} => ref13_Ret.e) := entA_ok (argI_ok fun x0 => endU_ok fun r h => ref13_Ret.c x0 r h)

/-- becket becketref13.Get -/
noncomputable def ref13_Get.sp : Spec := (orS 51 (fun {_} => ref13_Fine.e) noS)
def ref13_Get.s {Ω : Type} (x0 : T_s25) (x1 : Int) (k : Int × Int → Option Ω) : Option Ω :=
  (ref13_Fine.u x0).bind fun y1 =>
  bif (!y1) then
    k (0, 1)
  else
    bif (decide (x1 < 0)) then
      k (0, 8)
    else
      bif (decide (x1 > 7)) then
        k (0, 8)
      else
        bif (idxOK x1 8) then
          k ((List.getD x0.2.2.1 (Int.toNat x1) 0), 0)
        else
          none
theorem ref13_Get.ev {Ω : Type} (fuel : Fuel) (x0 : T_s25) (x1 : Int) (k : AV → Option Ω) : evFn C ref13_Get.sp fuel Tryz.f141 (Tryz.f141.body.getD .skip) [(.v E_s25 (x0)), (.v (.int .i64) (x1))] k = ref13_Get.s x0 x1 (fun r => k (tupAV (.int .i64) [(.int .i64)] r)) := by kernel_rfl
def ref13_Get.u (x0 : T_s25) (x1 : Int) : Option (Int × Int) := ref13_Get.s x0 x1 some
theorem ref13_Get.c (x0 : T_s25) (x1 : Int) (r : Int × Int) (h : ref13_Get.u x0 x1 = some r) : Contract C 141 [(.v E_s25 (x0)), (.v (.int .i64) (x1))] (tupAV (.int .i64) [(.int .i64)] r) :=
  contract_s (S := fun k => ref13_Get.s x0 x1 k) C_ok (orS_ok ref13_Fine.e_ok noS_ok) (by kernel_rfl) (by kernel_rfl) (by kernel_rfl) (ref13_Get.ev ⟨1, fun _ => []⟩ x0 x1 (dec (.int .i64) [(.int .i64)])) h
noncomputable def ref13_Get.e : Ent := argI E_s25 fun x0 => argI (.int .i64) fun x1 => endU (ref13_Get.u x0 x1) (tupAV (.int .i64) [(.int .i64)])
theorem ref13_Get.e_ok : EntOK C 141 (fun {_} => ref13_Get.e) := entA_ok (argI_ok fun x0 => argI_ok fun x1 => endU_ok fun r h => ref13_Get.c x0 x1 r h)

/-- becket becketref13.Set -/
noncomputable def ref13_Set.sp : Spec := (orS 141 (fun {_} => ref13_Get.e) (orS 32 (fun {_} => ref08_Fine.e) noS))
def ref13_Set.s {Ω : Type} (x0 : T_s25) (x1 : Int) (x2 : Int) (k : T_s25 × Int → Option Ω) : Option Ω :=
  (ref13_Get.u x0 x1).bind fun y1 =>
  bif (y1.2 != 0) then
    k (x0, y1.2)
  else
    bif (!(ref08_Fine.t x2)) then
      k (x0, 8)
    else
      bif (idxOK x1 8) then
        k ((x0.1, (x0.2.1, ((List.set x0.2.2.1 (Int.toNat x1) x2), x0.2.2.2))), 0)
      else
        none
theorem ref13_Set.ev {Ω : Type} (fuel : Fuel) (x0 : T_s25) (x1 : Int) (x2 : Int) (k : AV → Option Ω) : evFn C ref13_Set.sp fuel Tryz.f118 (Tryz.f118.body.getD .skip) [(.v E_s25 (x0)), (.v (.int .i64) (x1)), (.v (.int .i64) (x2))] k = ref13_Set.s x0 x1 x2 (fun r => k (tupAV E_s25 [(.int .i64)] r)) := by kernel_rfl
def ref13_Set.u (x0 : T_s25) (x1 : Int) (x2 : Int) : Option (T_s25 × Int) := ref13_Set.s x0 x1 x2 some
theorem ref13_Set.c (x0 : T_s25) (x1 : Int) (x2 : Int) (r : T_s25 × Int) (h : ref13_Set.u x0 x1 x2 = some r) : Contract C 118 [(.v E_s25 (x0)), (.v (.int .i64) (x1)), (.v (.int .i64) (x2))] (tupAV E_s25 [(.int .i64)] r) :=
  contract_s (S := fun k => ref13_Set.s x0 x1 x2 k) C_ok (orS_ok ref13_Get.e_ok (orS_ok ref08_Fine.e_ok noS_ok)) (by kernel_rfl) (by kernel_rfl) (by kernel_rfl) (ref13_Set.ev ⟨1, fun _ => []⟩ x0 x1 x2 (dec E_s25 [(.int .i64)])) h
noncomputable def ref13_Set.e : Ent := argI E_s25 fun x0 => argI (.int .i64) fun x1 => argI (.int .i64) fun x2 => endU (ref13_Set.u x0 x1 x2) (tupAV E_s25 [(.int .i64)])
theorem ref13_Set.e_ok : EntOK C 118 (fun {_} => ref13_Set.e) := entA_ok (argI_ok fun x0 => argI_ok fun x1 => argI_ok fun x2 => endU_ok fun r h => ref13_Set.c x0 x1 x2 r h)

/-- becket frame.Call -/
noncomputable def frame_Call.sp : Spec := (orS 36 (fun {_} => frame_place.e) (orS 15 (fun {_} => frame_Fine.e) noS))
def frame_Call.s {Ω : Type} (x0 : T_s25) (x1 : Int) (k : T_s25 × Int → Option Ω) : Option Ω :=
  (frame_Fine.u x0).bind fun y1 =>
  bif (!y1) then
    k (x0, 1)
  else
    bif (x0.2.2.2.2.1 == 8) then
      k (x0, 19)
    else
      bif (!(frame_place.t x1)) then
        k (x0, 8)
      else
        bif (!(frame_place.t ((IntKind.wrap .i64 (x0.1 + 1))))) then
          k (x0, 8)
        else
          bif (idxOK x0.2.2.2.2.1 8) then
            let v2 : T_s25 := (x1, (x0.2.1, (x0.2.2.1, (x0.2.2.2.1, ((IntKind.wrap .i64 (x0.2.2.2.2.1 + 1)), ((List.set x0.2.2.2.2.2.1 (Int.toNat x0.2.2.2.2.1) (IntKind.wrap .i64 (x0.1 + 1))), x0.2.2.2.2.2.2))))))
            k (v2, 0)
          else
            none
theorem frame_Call.ev {Ω : Type} (fuel : Fuel) (x0 : T_s25) (x1 : Int) (k : AV → Option Ω) : evFn C frame_Call.sp fuel Tryz.f132 (Tryz.f132.body.getD .skip) [(.v E_s25 (x0)), (.v (.int .i64) (x1))] k = frame_Call.s x0 x1 (fun r => k (tupAV E_s25 [(.int .i64)] r)) := by kernel_rfl
def frame_Call.u (x0 : T_s25) (x1 : Int) : Option (T_s25 × Int) := frame_Call.s x0 x1 some
theorem frame_Call.c (x0 : T_s25) (x1 : Int) (r : T_s25 × Int) (h : frame_Call.u x0 x1 = some r) : Contract C 132 [(.v E_s25 (x0)), (.v (.int .i64) (x1))] (tupAV E_s25 [(.int .i64)] r) :=
  contract_s (S := fun k => frame_Call.s x0 x1 k) C_ok (orS_ok frame_place.e_ok (orS_ok frame_Fine.e_ok noS_ok)) (by kernel_rfl) (by kernel_rfl) (by kernel_rfl) (frame_Call.ev ⟨1, fun _ => []⟩ x0 x1 (dec E_s25 [(.int .i64)])) h
noncomputable def frame_Call.e : Ent := argI E_s25 fun x0 => argI (.int .i64) fun x1 => endU (frame_Call.u x0 x1) (tupAV E_s25 [(.int .i64)])
theorem frame_Call.e_ok : EntOK C 132 (fun {_} => frame_Call.e) := entA_ok (argI_ok fun x0 => argI_ok fun x1 => endU_ok fun r h => frame_Call.c x0 x1 r h)

/-- becket frame.Ret -/
noncomputable def frame_Ret.sp : Spec := (orS 15 (fun {_} => frame_Fine.e) noS)
def frame_Ret.s {Ω : Type} (x0 : T_s25) (k : T_s25 × Int → Option Ω) : Option Ω :=
  (frame_Fine.u x0).bind fun y1 =>
  bif (!y1) then
    k (x0, 1)
  else
    bif (x0.2.2.2.2.1 == 0) then
      k (x0, 19)
    else
      bif (idxOK (IntKind.wrap .i64 (x0.2.2.2.2.1 - 1)) 8) then
        bif (idxOK (IntKind.wrap .i64 (x0.2.2.2.2.1 - 1)) 8) then
          let v2 : T_s25 := ((List.getD x0.2.2.2.2.2.1 (Int.toNat (IntKind.wrap .i64 (x0.2.2.2.2.1 - 1))) 0), (x0.2.1, (x0.2.2.1, (x0.2.2.2.1, ((IntKind.wrap .i64 (x0.2.2.2.2.1 - 1)), ((List.set x0.2.2.2.2.2.1 (Int.toNat (IntKind.wrap .i64 (x0.2.2.2.2.1 - 1))) 0), x0.2.2.2.2.2.2))))))
          k (v2, 0)
        else
          none
      else
        none
theorem frame_Ret.ev {Ω : Type} (fuel : Fuel) (x0 : T_s25) (k : AV → Option Ω) : evFn C frame_Ret.sp fuel Tryz.f133 (Tryz.f133.body.getD .skip) [(.v E_s25 (x0))] k = frame_Ret.s x0 (fun r => k (tupAV E_s25 [(.int .i64)] r)) := by kernel_rfl
def frame_Ret.u (x0 : T_s25) : Option (T_s25 × Int) := frame_Ret.s x0 some
theorem frame_Ret.c (x0 : T_s25) (r : T_s25 × Int) (h : frame_Ret.u x0 = some r) : Contract C 133 [(.v E_s25 (x0))] (tupAV E_s25 [(.int .i64)] r) :=
  contract_s (S := fun k => frame_Ret.s x0 k) C_ok (orS_ok frame_Fine.e_ok noS_ok) (by kernel_rfl) (by kernel_rfl) (by kernel_rfl) (frame_Ret.ev ⟨1, fun _ => []⟩ x0 (dec E_s25 [(.int .i64)])) h
noncomputable def frame_Ret.e : Ent := argI E_s25 fun x0 => endU (frame_Ret.u x0) (tupAV E_s25 [(.int .i64)])
theorem frame_Ret.e_ok : EntOK C 133 (fun {_} => frame_Ret.e) := entA_ok (argI_ok fun x0 => endU_ok fun r h => frame_Ret.c x0 r h)

/-- becket frame.Store -/
noncomputable def frame_Store.sp : Spec := (orS 55 (fun {_} => frame_at.e) noS)
def frame_Store.s {Ω : Type} (x0 : T_s25) (x1 : Int) (x2 : Int) (k : T_s25 × Int → Option Ω) : Option Ω :=
  (frame_at.u x0 x1 16 x2).bind fun y1 =>
  bif (y1 == 0) then
    bif (idxOK x1 16) then
      k ((x0.1, (x0.2.1, (x0.2.2.1, ((List.set x0.2.2.2.1 (Int.toNat x1) x2), x0.2.2.2.2)))), y1)
    else
      none
  else
    k (x0, y1)
theorem frame_Store.ev {Ω : Type} (fuel : Fuel) (x0 : T_s25) (x1 : Int) (x2 : Int) (k : AV → Option Ω) : evFn C frame_Store.sp fuel Tryz.f134 (Tryz.f134.body.getD .skip) [(.v E_s25 (x0)), (.v (.int .i64) (x1)), (.v (.int .i64) (x2))] k = frame_Store.s x0 x1 x2 (fun r => k (tupAV E_s25 [(.int .i64)] r)) := by kernel_rfl
def frame_Store.u (x0 : T_s25) (x1 : Int) (x2 : Int) : Option (T_s25 × Int) := frame_Store.s x0 x1 x2 some
theorem frame_Store.c (x0 : T_s25) (x1 : Int) (x2 : Int) (r : T_s25 × Int) (h : frame_Store.u x0 x1 x2 = some r) : Contract C 134 [(.v E_s25 (x0)), (.v (.int .i64) (x1)), (.v (.int .i64) (x2))] (tupAV E_s25 [(.int .i64)] r) :=
  contract_s (S := fun k => frame_Store.s x0 x1 x2 k) C_ok (orS_ok frame_at.e_ok noS_ok) (by kernel_rfl) (by kernel_rfl) (by kernel_rfl) (frame_Store.ev ⟨1, fun _ => []⟩ x0 x1 x2 (dec E_s25 [(.int .i64)])) h
noncomputable def frame_Store.e : Ent := argI E_s25 fun x0 => argI (.int .i64) fun x1 => argI (.int .i64) fun x2 => endU (frame_Store.u x0 x1 x2) (tupAV E_s25 [(.int .i64)])
theorem frame_Store.e_ok : EntOK C 134 (fun {_} => frame_Store.e) := entA_ok (argI_ok fun x0 => argI_ok fun x1 => argI_ok fun x2 => endU_ok fun r h => frame_Store.c x0 x1 x2 r h)

/-- becket frame.Load -/
noncomputable def frame_Load.sp : Spec := (orS 55 (fun {_} => frame_at.e) noS)
def frame_Load.s {Ω : Type} (x0 : T_s25) (x1 : Int) (k : Int × Int → Option Ω) : Option Ω :=
  (frame_at.u x0 x1 16 0).bind fun y1 =>
  bif (y1 != 0) then
    k (0, y1)
  else
    bif (idxOK x1 16) then
      k ((List.getD x0.2.2.2.1 (Int.toNat x1) 0), 0)
    else
      none
theorem frame_Load.ev {Ω : Type} (fuel : Fuel) (x0 : T_s25) (x1 : Int) (k : AV → Option Ω) : evFn C frame_Load.sp fuel Tryz.f138 (Tryz.f138.body.getD .skip) [(.v E_s25 (x0)), (.v (.int .i64) (x1))] k = frame_Load.s x0 x1 (fun r => k (tupAV (.int .i64) [(.int .i64)] r)) := by kernel_rfl
def frame_Load.u (x0 : T_s25) (x1 : Int) : Option (Int × Int) := frame_Load.s x0 x1 some
theorem frame_Load.c (x0 : T_s25) (x1 : Int) (r : Int × Int) (h : frame_Load.u x0 x1 = some r) : Contract C 138 [(.v E_s25 (x0)), (.v (.int .i64) (x1))] (tupAV (.int .i64) [(.int .i64)] r) :=
  contract_s (S := fun k => frame_Load.s x0 x1 k) C_ok (orS_ok frame_at.e_ok noS_ok) (by kernel_rfl) (by kernel_rfl) (by kernel_rfl) (frame_Load.ev ⟨1, fun _ => []⟩ x0 x1 (dec (.int .i64) [(.int .i64)])) h
noncomputable def frame_Load.e : Ent := argI E_s25 fun x0 => argI (.int .i64) fun x1 => endU (frame_Load.u x0 x1) (tupAV (.int .i64) [(.int .i64)])
theorem frame_Load.e_ok : EntOK C 138 (fun {_} => frame_Load.e) := entA_ok (argI_ok fun x0 => argI_ok fun x1 => endU_ok fun r h => frame_Load.c x0 x1 r h)

end Go.Proofs.YtjhkagfolmhacaaGreatDoor.K

/- What functions of the program come to, plainly. -/
import Derived.Test.YthamolhikhcilaaDoorZ11s
set_option maxRecDepth 100000
set_option linter.unusedVariables false
namespace Go.Proofs.YthamolhikhcilaaDoor.K
open Go Go.RowKit

/-- becket prog.isGuard -/
noncomputable def prog_isGuard.sp : Spec := (orS 77 (fun {_} => opcode_Class.e) noS)
def prog_isGuard.s {Ω : Type} (x0 : T_s50) (k : Bool → Option Ω) : Option Ω :=
  (opcode_Class.u (IntKind.wrap .i64 x0.1)).bind fun y1 =>
  k (y1 == 3)
theorem prog_isGuard.ev {Ω : Type} (fuel : Fuel) (x0 : T_s50) (k : AV → Option Ω) : evFn CK prog_isGuard.sp fuel Tryd.f70 (Tryd.f70.body.getD .skip) [(.v E_s50 (x0))] k = prog_isGuard.s x0 (fun r => k (tupAV .bool [] r)) := by kernel_rfl
def prog_isGuard.u (x0 : T_s50) : Option (Bool) := prog_isGuard.s x0 some
theorem prog_isGuard.c (x0 : T_s50) (r : Bool) (h : prog_isGuard.u x0 = some r) : Contract CK 70 [(.v E_s50 (x0))] (tupAV .bool [] r) :=
  contract_s (S := fun k => prog_isGuard.s x0 k) CK_ok (orS_ok opcode_Class.e_ok noS_ok) (by kernel_rfl) (by kernel_rfl) (by kernel_rfl) (prog_isGuard.ev ⟨1, fun _ => []⟩ x0 (dec .bool [])) h
noncomputable def prog_isGuard.e : Ent := argI E_s50 fun x0 => endU (prog_isGuard.u x0) (tupAV .bool [])
theorem prog_isGuard.e_ok : EntOK CK 70 (fun {_} => prog_isGuard.e) := entA_ok (argI_ok fun x0 => endU_ok fun r h => prog_isGuard.c x0 r h)

/-- becket prog.guarded 1 -/
noncomputable def prog_guarded_1.sp : Spec := (orS 70 (fun {_} => prog_isGuard.e) noS)
def prog_guarded_1.s {Ω : Type} (x0 : T_s50) (k : Bool → Option Ω) : Option Ω :=
  (prog_isGuard.u x0).bind fun y1 =>
  k (!y1)
theorem prog_guarded_1.ev {Ω : Type} (fuel : Fuel) (x0 : T_s50) (k : AV → Option Ω) : evFn CK prog_guarded_1.sp fuel Tryd.f99 (Tryd.f99.body.getD .skip) [(.v E_s50 (x0))] k = prog_guarded_1.s x0 (fun r => k (tupAV .bool [] r)) := by kernel_rfl
def prog_guarded_1.u (x0 : T_s50) : Option (Bool) := prog_guarded_1.s x0 some
theorem prog_guarded_1.c (x0 : T_s50) (r : Bool) (h : prog_guarded_1.u x0 = some r) : Contract CK 99 [(.v E_s50 (x0))] (tupAV .bool [] r) :=
  contract_s (S := fun k => prog_guarded_1.s x0 k) CK_ok (orS_ok prog_isGuard.e_ok noS_ok) (by kernel_rfl) (by kernel_rfl) (by kernel_rfl) (prog_guarded_1.ev ⟨1, fun _ => []⟩ x0 (dec .bool [])) h
noncomputable def prog_guarded_1.e : Ent := argI E_s50 fun x0 => endU (prog_guarded_1.u x0) (tupAV .bool [])
theorem prog_guarded_1.e_ok : EntOK CK 99 (fun {_} => prog_guarded_1.e) := entA_ok (argI_ok fun x0 => endU_ok fun r h => prog_guarded_1.c x0 r h)

/-- slices.IndexFunc   becket api.Instr,becket api.Instr  -/
noncomputable def slices_IndexFunc_api_Instr_api_Instr__prog_guarded_1.sp : Spec := (orS 99 (fun {_} => prog_guarded_1.e) noS)
def slices_IndexFunc_api_Instr_api_Instr__prog_guarded_1.F (fuel : Nat) : Fuel := ⟨fuel, fun r => bif r == 2 then [2, 3, 4, 5, 6, 9, 10, 11, 12, 13, 14, 15, 16, 17, 18] else []⟩
def slices_IndexFunc_api_Instr_api_Instr__prog_guarded_1.E0 (e2_1 : (List T_s50)) (e2_2 : Int) (s2 : Int) : List AV := [(.v (.slice E_s50) (e2_1)), (.fn 99 []), .dead, .dead, .dead, .dead, .dead, (.v (.int .i64) (e2_2)), (.v (.int .i64) (s2)), .dead, .dead, .dead, .dead, .dead, .dead, .dead, .dead, .dead, .dead]
def slices_IndexFunc_api_Instr_api_Instr__prog_guarded_1.H0 (e2_1 : (List T_s50)) (e2_2 : Int) (s2 : Int) : Heap := []
noncomputable def slices_IndexFunc_api_Instr_api_Instr__prog_guarded_1.M0 {Ω : Type} (fuel : Nat) (e2_1 : (List T_s50)) (e2_2 : Int)  (k : AV → Option Ω) (m : Nat) (s : Int) : Option Ω := loopK (fun env L k => evCode CK slices_IndexFunc_api_Instr_api_Instr__prog_guarded_1.sp (slices_IndexFunc_api_Instr_api_Instr__prog_guarded_1.F fuel) (cl (cl (cr (cl (cr (Tryd.f115.body.getD .skip)))))) env L k) [false, false, true, true, true, true, true, false, false, true, true, true, true, true, true, true, true, true, true] 0 (blockK 0 (seqK (fun env L => evCode CK slices_IndexFunc_api_Instr_api_Instr__prog_guarded_1.sp (slices_IndexFunc_api_Instr_api_Instr__prog_guarded_1.F fuel) (cr (cr (Tryd.f115.body.getD .skip))) env L (finK CK Tryd.f115 k)) (finK CK Tryd.f115 k))) m ((slices_IndexFunc_api_Instr_api_Instr__prog_guarded_1.E0 e2_1 e2_2) s) ((slices_IndexFunc_api_Instr_api_Instr__prog_guarded_1.H0 e2_1 e2_2) s)
def slices_IndexFunc_api_Instr_api_Instr__prog_guarded_1.b0 {Ω : Type} (e2_1 : (List T_s50)) (e2_2 : Int)   (k : Int → Option Ω) (r2 : Int → Option Ω) (s2 : Int) : Option Ω :=
  bif (decide (s2 < e2_2)) then
    bif (idxOK s2 (List.length e2_1)) then
      (prog_guarded_1.u ((List.getD e2_1 (Int.toNat s2) (0, (0, (0, (0, ()))))))).bind fun y1 =>
      bif y1 then
        k s2
      else
        r2 ((IntKind.wrap .i64 (s2 + 1)))
    else
      none
  else
    k (-1)
def slices_IndexFunc_api_Instr_api_Instr__prog_guarded_1.B0 {Ω : Type} (fuel : Nat) (e2_1 : (List T_s50)) (e2_2 : Int)  (k : Int → Option Ω) (r2 : Int → Option Ω) (s2 : Int) : Option Ω := slices_IndexFunc_api_Instr_api_Instr__prog_guarded_1.b0 e2_1 e2_2   k r2 s2
theorem slices_IndexFunc_api_Instr_api_Instr__prog_guarded_1.l0 {Ω : Type} (fuel : Nat) (e2_1 : (List T_s50)) (e2_2 : Int)  (k : AV → Option Ω) : ∀ m, (slices_IndexFunc_api_Instr_api_Instr__prog_guarded_1.M0 fuel e2_1 e2_2  k m) = iter (slices_IndexFunc_api_Instr_api_Instr__prog_guarded_1.B0 fuel e2_1 e2_2  (fun r => k (tupAV (.int .i64) [] r))) m :=
  loopK_iter (envOf := (slices_IndexFunc_api_Instr_api_Instr__prog_guarded_1.E0 e2_1 e2_2)) (LOf := (slices_IndexFunc_api_Instr_api_Instr__prog_guarded_1.H0 e2_1 e2_2)) (B := slices_IndexFunc_api_Instr_api_Instr__prog_guarded_1.B0 fuel e2_1 e2_2  (fun r => k (tupAV (.int .i64) [] r))) (fun R s => by kernel_rfl)
def slices_IndexFunc_api_Instr_api_Instr__prog_guarded_1.sl {Ω : Type} (x0 : (List T_s50)) (lp0 : (List T_s50) → Int → Int → Option Ω) (k : Int → Option Ω) : Option Ω :=
  lp0 x0 (((List.length x0 : Nat) : Int)) (0)
def slices_IndexFunc_api_Instr_api_Instr__prog_guarded_1.s {Ω : Type} (fuel : Nat) (x0 : (List T_s50)) (k : Int → Option Ω) : Option Ω := slices_IndexFunc_api_Instr_api_Instr__prog_guarded_1.sl x0 (fun e2_1 e2_2 => (iter (slices_IndexFunc_api_Instr_api_Instr__prog_guarded_1.B0 fuel e2_1 e2_2  k) fuel)) k
theorem slices_IndexFunc_api_Instr_api_Instr__prog_guarded_1.ev {Ω : Type} (fuel : Nat) (x0 : (List T_s50)) (k : AV → Option Ω) : evFn CK slices_IndexFunc_api_Instr_api_Instr__prog_guarded_1.sp (slices_IndexFunc_api_Instr_api_Instr__prog_guarded_1.F fuel) Tryd.f115 (Tryd.f115.body.getD .skip) [(.v (.slice E_s50) (x0)), (.fn 99 [])] k = slices_IndexFunc_api_Instr_api_Instr__prog_guarded_1.s fuel x0 (fun r => k (tupAV (.int .i64) [] r)) := by
  have h0 : evFn CK slices_IndexFunc_api_Instr_api_Instr__prog_guarded_1.sp (slices_IndexFunc_api_Instr_api_Instr__prog_guarded_1.F fuel) Tryd.f115 (Tryd.f115.body.getD .skip) [(.v (.slice E_s50) (x0)), (.fn 99 [])] k = slices_IndexFunc_api_Instr_api_Instr__prog_guarded_1.sl x0 (fun e2_1 e2_2 => (slices_IndexFunc_api_Instr_api_Instr__prog_guarded_1.M0 fuel e2_1 e2_2  k fuel)) (fun r => k (tupAV (.int .i64) [] r)) := by kernel_rfl
  have h1 : (fun e2_1 e2_2 => (slices_IndexFunc_api_Instr_api_Instr__prog_guarded_1.M0 fuel e2_1 e2_2  k fuel)) = (fun e2_1 e2_2 => (iter (slices_IndexFunc_api_Instr_api_Instr__prog_guarded_1.B0 fuel e2_1 e2_2  (fun r => k (tupAV (.int .i64) [] r))) fuel)) := funext fun e2_1 => funext fun e2_2 => slices_IndexFunc_api_Instr_api_Instr__prog_guarded_1.l0 fuel e2_1 e2_2   k fuel
  rw [h1] at h0
  exact h0
def slices_IndexFunc_api_Instr_api_Instr__prog_guarded_1.g0 {Ω : Type} (e2_1 : (List T_s50))  (k : Int → Option Ω) : List T_s50 → Int → Option Ω
  | [], i2 =>
    k (-1)
  | x2 :: xs2, i2 =>
    (prog_guarded_1.u (x2)).bind fun y1 =>
    bif y1 then
      k i2
    else
      slices_IndexFunc_api_Instr_api_Instr__prog_guarded_1.g0 e2_1  k xs2 (i2 + 1)
theorem slices_IndexFunc_api_Instr_api_Instr__prog_guarded_1.h0 {Ω : Type} (e2_1 : (List T_s50))   (k : Int → Option Ω) (hX : ((List.length e2_1 : Nat) : Int) ≤ 9223372036854775807) : ∀ (m : Nat) (i : Int) (a : Unit), 0 ≤ i → i ≤ ((List.length e2_1 : Nat) : Int) → ((List.length e2_1 : Nat) : Int) < m + i → Le (slices_IndexFunc_api_Instr_api_Instr__prog_guarded_1.g0 e2_1  k (List.drop (Int.toNat i) e2_1) i) (iter (slices_IndexFunc_api_Instr_api_Instr__prog_guarded_1.B0 BIG e2_1 (((List.length e2_1 : Nat) : Int))  k) m (i)) :=
  iter_list e2_1 (0, (0, (0, (0, ())))) (fun (i2 : Int) (a2 : Unit) => (i2)) (fun xs i2 a2 => slices_IndexFunc_api_Instr_api_Instr__prog_guarded_1.g0 e2_1  k xs i2) (slices_IndexFunc_api_Instr_api_Instr__prog_guarded_1.B0 BIG e2_1 (((List.length e2_1 : Nat) : Int))  k)
    (fun i2 a2 r h0 => (Le.fls h0 (Le.refl _)))
    (fun i2 xs2 a2 r h0 h1 hw ih => (Le.tru h0 (Le.tru h1 (Le.bnd fun y1 => (Le.cond (Le.refl _) (ih _ hw ()))))))
    hX
def slices_IndexFunc_api_Instr_api_Instr__prog_guarded_1.w {Ω : Type} (x0 : (List T_s50)) (k : Int → Option Ω) : Option Ω :=
  bif decide (((List.length x0 : Nat) : Int) ≤ 4611686018427387904) then slices_IndexFunc_api_Instr_api_Instr__prog_guarded_1.g0 x0  k x0 0 else none
theorem slices_IndexFunc_api_Instr_api_Instr__prog_guarded_1.le {Ω : Type} (x0 : (List T_s50)) (k : Int → Option Ω) : Le (slices_IndexFunc_api_Instr_api_Instr__prog_guarded_1.w x0 k) (slices_IndexFunc_api_Instr_api_Instr__prog_guarded_1.s BIG x0 k) := by
  delta slices_IndexFunc_api_Instr_api_Instr__prog_guarded_1.w slices_IndexFunc_api_Instr_api_Instr__prog_guarded_1.s slices_IndexFunc_api_Instr_api_Instr__prog_guarded_1.sl
  exact (Le.gd fun hg => slices_IndexFunc_api_Instr_api_Instr__prog_guarded_1.h0 _   k (le_up (of_decide_eq_true hg)) BIG 0 () (by decide) (zero_le_len _) (big_list (of_decide_eq_true hg)))
def slices_IndexFunc_api_Instr_api_Instr__prog_guarded_1.u (x0 : (List T_s50)) : Option (Int) := slices_IndexFunc_api_Instr_api_Instr__prog_guarded_1.w x0 some
theorem slices_IndexFunc_api_Instr_api_Instr__prog_guarded_1.c (x0 : (List T_s50)) (r : Int) (h : slices_IndexFunc_api_Instr_api_Instr__prog_guarded_1.u x0 = some r) : Contract CK 115 [(.v (.slice E_s50) (x0)), (.fn 99 [])] (tupAV (.int .i64) [] r) :=
  contract_s (S := fun k => slices_IndexFunc_api_Instr_api_Instr__prog_guarded_1.s BIG x0 k) CK_ok (orS_ok prog_guarded_1.e_ok noS_ok) (by kernel_rfl) (by kernel_rfl) (by kernel_rfl) (slices_IndexFunc_api_Instr_api_Instr__prog_guarded_1.ev BIG x0 (dec (.int .i64) [])) (slices_IndexFunc_api_Instr_api_Instr__prog_guarded_1.le x0 some r h)
noncomputable def slices_IndexFunc_api_Instr_api_Instr__prog_guarded_1.e : Ent := argI (.slice E_s50) fun x0 => argF0 99 (endU (slices_IndexFunc_api_Instr_api_Instr__prog_guarded_1.u x0) (tupAV (.int .i64) []))
theorem slices_IndexFunc_api_Instr_api_Instr__prog_guarded_1.e_ok : EntOK CK 115 (fun {_} => slices_IndexFunc_api_Instr_api_Instr__prog_guarded_1.e) := entA_ok (argI_ok fun x0 => argF0_ok (endU_ok fun r h => slices_IndexFunc_api_Instr_api_Instr__prog_guarded_1.c x0 r h))

/-- slices.ContainsFunc   becket api.Instr,becket api.Instr  -/
noncomputable def slices_ContainsFunc_api_Instr_api_Instr__prog_guarded_1.sp : Spec := (orS 115 (fun {_} => slices_IndexFunc_api_Instr_api_Instr__prog_guarded_1.e) noS)
def slices_ContainsFunc_api_Instr_api_Instr__prog_guarded_1.s {Ω : Type} (x0 : (List T_s50)) (k : Bool → Option Ω) : Option Ω :=
  (slices_IndexFunc_api_Instr_api_Instr__prog_guarded_1.u x0).bind fun y1 =>
  k (decide (y1 ≥ 0))
theorem slices_ContainsFunc_api_Instr_api_Instr__prog_guarded_1.ev {Ω : Type} (fuel : Fuel) (x0 : (List T_s50)) (k : AV → Option Ω) : evFn CK slices_ContainsFunc_api_Instr_api_Instr__prog_guarded_1.sp fuel Tryd.f98 (Tryd.f98.body.getD .skip) [(.v (.slice E_s50) (x0)), (.fn 99 [])] k = slices_ContainsFunc_api_Instr_api_Instr__prog_guarded_1.s x0 (fun r => k (tupAV .bool [] r)) := by kernel_rfl
def slices_ContainsFunc_api_Instr_api_Instr__prog_guarded_1.u (x0 : (List T_s50)) : Option (Bool) := slices_ContainsFunc_api_Instr_api_Instr__prog_guarded_1.s x0 some
theorem slices_ContainsFunc_api_Instr_api_Instr__prog_guarded_1.c (x0 : (List T_s50)) (r : Bool) (h : slices_ContainsFunc_api_Instr_api_Instr__prog_guarded_1.u x0 = some r) : Contract CK 98 [(.v (.slice E_s50) (x0)), (.fn 99 [])] (tupAV .bool [] r) :=
  contract_s (S := fun k => slices_ContainsFunc_api_Instr_api_Instr__prog_guarded_1.s x0 k) CK_ok (orS_ok slices_IndexFunc_api_Instr_api_Instr__prog_guarded_1.e_ok noS_ok) (by kernel_rfl) (by kernel_rfl) (by kernel_rfl) (slices_ContainsFunc_api_Instr_api_Instr__prog_guarded_1.ev ⟨1, fun _ => []⟩ x0 (dec .bool [])) h
noncomputable def slices_ContainsFunc_api_Instr_api_Instr__prog_guarded_1.e : Ent := argI (.slice E_s50) fun x0 => argF0 99 (endU (slices_ContainsFunc_api_Instr_api_Instr__prog_guarded_1.u x0) (tupAV .bool []))
theorem slices_ContainsFunc_api_Instr_api_Instr__prog_guarded_1.e_ok : EntOK CK 98 (fun {_} => slices_ContainsFunc_api_Instr_api_Instr__prog_guarded_1.e) := entA_ok (argI_ok fun x0 => argF0_ok (endU_ok fun r h => slices_ContainsFunc_api_Instr_api_Instr__prog_guarded_1.c x0 r h))

/-- becket prog.guarded -/
noncomputable def prog_guarded.sp : Spec := (orS 98 (fun {_} => slices_ContainsFunc_api_Instr_api_Instr__prog_guarded_1.e) noS)
def prog_guarded.s {Ω : Type} (x0 : (List T_s50)) (x1 : Int) (k : Bool → Option Ω) : Option Ω :=
  bif (idxOK x1 (List.length x0)) then
    let v1 : Int := (IntKind.wrap .i64 ((IntKind.wrap .i64 (x1 + 1)) + (IntKind.wrap .i64 (List.getD x0 (Int.toNat x1) (0, (0, (0, (0, ()))))).2.2.2.1)))
    bif (decide (v1 ≤ ((List.length x0 : Nat) : Int))) then
      bif (subC (some ((IntKind.wrap .i64 (x1 + 1)))) (some (v1)) (List.length x0)) then
        (slices_ContainsFunc_api_Instr_api_Instr__prog_guarded_1.u ((subL (some ((IntKind.wrap .i64 (x1 + 1)))) (some (v1)) x0))).bind fun y2 =>
        k (!y2)
      else
        none
    else
      k false
  else
    none
theorem prog_guarded.ev {Ω : Type} (fuel : Fuel) (x0 : (List T_s50)) (x1 : Int) (k : AV → Option Ω) : evFn CK prog_guarded.sp fuel Tryd.f71 (Tryd.f71.body.getD .skip) [(.v (.slice E_s50) (x0)), (.v (.int .i64) (x1))] k = prog_guarded.s x0 x1 (fun r => k (tupAV .bool [] r)) := by kernel_rfl
def prog_guarded.u (x0 : (List T_s50)) (x1 : Int) : Option (Bool) := prog_guarded.s x0 x1 some
theorem prog_guarded.c (x0 : (List T_s50)) (x1 : Int) (r : Bool) (h : prog_guarded.u x0 x1 = some r) : Contract CK 71 [(.v (.slice E_s50) (x0)), (.v (.int .i64) (x1))] (tupAV .bool [] r) :=
  contract_s (S := fun k => prog_guarded.s x0 x1 k) CK_ok (orS_ok slices_ContainsFunc_api_Instr_api_Instr__prog_guarded_1.e_ok noS_ok) (by kernel_rfl) (by kernel_rfl) (by kernel_rfl) (prog_guarded.ev ⟨1, fun _ => []⟩ x0 x1 (dec .bool [])) h
noncomputable def prog_guarded.e : Ent := argI (.slice E_s50) fun x0 => argI (.int .i64) fun x1 => endU (prog_guarded.u x0 x1) (tupAV .bool [])
theorem prog_guarded.e_ok : EntOK CK 71 (fun {_} => prog_guarded.e) := entA_ok (argI_ok fun x0 => argI_ok fun x1 => endU_ok fun r h => prog_guarded.c x0 x1 r h)

/-- becket prog.led -/
noncomputable def prog_led.sp : Spec := (orS 76 (fun {_} => instr_Place.e) (orS 70 (fun {_} => prog_isGuard.e) noS))
def prog_led.s {Ω : Type} (x0 : (List T_s50)) (x1 : T_s50) (k : Int → Option Ω) : Option Ω :=
  (instr_Place.u x1).bind fun y1 =>
  bif (!y1.2) then
    k 0
  else
    bif (y1.1 == ((List.length x0 : Nat) : Int)) then
      k 0
    else
      bif (decide (y1.1 > ((List.length x0 : Nat) : Int))) then
        k 8
      else
        bif (idxOK y1.1 (List.length x0)) then
          (prog_isGuard.u ((List.getD x0 (Int.toNat y1.1) (0, (0, (0, (0, ()))))))).bind fun y2 =>
          bif y2 then
            k 3
          else
            k 0
        else
          none
theorem prog_led.ev {Ω : Type} (fuel : Fuel) (x0 : (List T_s50)) (x1 : T_s50) (k : AV → Option Ω) : evFn CK prog_led.sp fuel Tryd.f72 (Tryd.f72.body.getD .skip) [(.v (.slice E_s50) (x0)), (.v E_s50 (x1))] k = prog_led.s x0 x1 (fun r => k (tupAV (.int .i64) [] r)) := by kernel_rfl
def prog_led.u (x0 : (List T_s50)) (x1 : T_s50) : Option (Int) := prog_led.s x0 x1 some
theorem prog_led.c (x0 : (List T_s50)) (x1 : T_s50) (r : Int) (h : prog_led.u x0 x1 = some r) : Contract CK 72 [(.v (.slice E_s50) (x0)), (.v E_s50 (x1))] (tupAV (.int .i64) [] r) :=
  contract_s (S := fun k => prog_led.s x0 x1 k) CK_ok (orS_ok instr_Place.e_ok (orS_ok prog_isGuard.e_ok noS_ok)) (by kernel_rfl) (by kernel_rfl) (by kernel_rfl) (prog_led.ev ⟨1, fun _ => []⟩ x0 x1 (dec (.int .i64) [])) h
noncomputable def prog_led.e : Ent := argI (.slice E_s50) fun x0 => argI E_s50 fun x1 => endU (prog_led.u x0 x1) (tupAV (.int .i64) [])
theorem prog_led.e_ok : EntOK CK 72 (fun {_} => prog_led.e) := entA_ok (argI_ok fun x0 => argI_ok fun x1 => endU_ok fun r h => prog_led.c x0 x1 r h)

/-- becket prog.wrong -/
noncomputable def prog_wrong.sp : Spec := (orS 72 (fun {_} => prog_led.e) (orS 71 (fun {_} => prog_guarded.e) (orS 70 (fun {_} => prog_isGuard.e) (orS 25 (fun {_} => instr_Check.e) noS))))
def prog_wrong.s {Ω : Type} (x0 : (List T_s50)) (x1 : Int) (x2 : Int) (k : Int → Option Ω) : Option Ω :=
  bif (idxOK x1 (List.length x0)) then
    (instr_Check.u ((List.getD x0 (Int.toNat x1) (0, (0, (0, (0, ()))))))).bind fun y1 =>
    bif (y1 != 0) then
      k y1
    else
      (prog_isGuard.u ((List.getD x0 (Int.toNat x1) (0, (0, (0, (0, ()))))))).bind fun y2 =>
      bif y2 then
        bif (x2 == 0) then
          k 3
        else
          bif ((List.getD x0 (Int.toNat x1) (0, (0, (0, (0, ()))))).1 == 41) then
            (prog_guarded.u x0 x1).bind fun y3 =>
            bif (!y3) then
              k 3
            else
              (prog_led.u x0 ((List.getD x0 (Int.toNat x1) (0, (0, (0, (0, ()))))))).bind fun y4 =>
              k y4
          else
            (prog_led.u x0 ((List.getD x0 (Int.toNat x1) (0, (0, (0, (0, ()))))))).bind fun y5 =>
            k y5
      else
        bif ((List.getD x0 (Int.toNat x1) (0, (0, (0, (0, ()))))).1 == 41) then
          (prog_guarded.u x0 x1).bind fun y6 =>
          bif (!y6) then
            k 3
          else
            (prog_led.u x0 ((List.getD x0 (Int.toNat x1) (0, (0, (0, (0, ()))))))).bind fun y7 =>
            k y7
        else
          (prog_led.u x0 ((List.getD x0 (Int.toNat x1) (0, (0, (0, (0, ()))))))).bind fun y8 =>
          k y8
  else
    none
theorem prog_wrong.ev {Ω : Type} (fuel : Fuel) (x0 : (List T_s50)) (x1 : Int) (x2 : Int) (k : AV → Option Ω) : evFn CK prog_wrong.sp fuel Tryd.f33 (Tryd.f33.body.getD .skip) [(.v (.slice E_s50) (x0)), (.v (.int .i64) (x1)), (.v (.int .i64) (x2))] k = prog_wrong.s x0 x1 x2 (fun r => k (tupAV (.int .i64) [] r)) := by kernel_rfl
def prog_wrong.u (x0 : (List T_s50)) (x1 : Int) (x2 : Int) : Option (Int) := prog_wrong.s x0 x1 x2 some
theorem prog_wrong.c (x0 : (List T_s50)) (x1 : Int) (x2 : Int) (r : Int) (h : prog_wrong.u x0 x1 x2 = some r) : Contract CK 33 [(.v (.slice E_s50) (x0)), (.v (.int .i64) (x1)), (.v (.int .i64) (x2))] (tupAV (.int .i64) [] r) :=
  contract_s (S := fun k => prog_wrong.s x0 x1 x2 k) CK_ok (orS_ok prog_led.e_ok (orS_ok prog_guarded.e_ok (orS_ok prog_isGuard.e_ok (orS_ok instr_Check.e_ok noS_ok)))) (by kernel_rfl) (by kernel_rfl) (by kernel_rfl) (prog_wrong.ev ⟨1, fun _ => []⟩ x0 x1 x2 (dec (.int .i64) [])) h
noncomputable def prog_wrong.e : Ent := argI (.slice E_s50) fun x0 => argI (.int .i64) fun x1 => argI (.int .i64) fun x2 => endU (prog_wrong.u x0 x1 x2) (tupAV (.int .i64) [])
theorem prog_wrong.e_ok : EntOK CK 33 (fun {_} => prog_wrong.e) := entA_ok (argI_ok fun x0 => argI_ok fun x1 => argI_ok fun x2 => endU_ok fun r h => prog_wrong.c x0 x1 x2 r h)

/-- becket prog.Check -/
noncomputable def prog_Check.sp : Spec := (orS 33 (fun {_} => prog_wrong.e) noS)
def prog_Check.F (fuel : Nat) : Fuel := ⟨fuel, fun r => bif r == 7 then [1, 2, 3, 5, 6, 7, 8, 9, 10, 11, 12, 13, 14, 15, 19, 20, 21, 22, 23, 24, 25, 26, 27, 28, 29, 30, 31, 32, 33, 34, 35, 36, 37, 38, 39, 40] else []⟩
def prog_Check.E0 (e7_1 : (List T_s50)) (e7_2 : Int) (s7 : Int × Int) : List AV := [(.v (.slice E_s50) (e7_1)), .dead, .dead, .dead, (.v (.int .i64) (s7.1)), .dead, .dead, .dead, .dead, .dead, .dead, .dead, .dead, .dead, .dead, .dead, (.v (.slice E_s50) (e7_1)), (.v (.int .i64) (e7_2)), (.v (.int .i64) (s7.2)), .dead, .dead, .dead, .dead, .dead, .dead, .dead, .dead, .dead, .dead, .dead, .dead, .dead, .dead, .dead, .dead, .dead, .dead, .dead, .dead, .dead, .dead]
def prog_Check.H0 (e7_1 : (List T_s50)) (e7_2 : Int) (s7 : Int × Int) : Heap := []
noncomputable def prog_Check.M0 {Ω : Type} (fuel : Nat) (e7_1 : (List T_s50)) (e7_2 : Int)  (k : AV → Option Ω) (m : Nat) (s : Int × Int) : Option Ω := loopK (fun env L k => evCode CK prog_Check.sp (prog_Check.F fuel) (cl (cl (cr (cl (cr (cr (cr (Tryd.f11.body.getD .skip)))))))) env L k) [false, true, true, true, false, true, true, true, true, true, true, true, true, true, true, true, false, false, false, true, true, true, true, true, true, true, true, true, true, true, true, true, true, true, true, true, true, true, true, true, true] 0 (blockK 1 (seqK (fun env L => evCode CK prog_Check.sp (prog_Check.F fuel) (cr (cr (cr (cr (Tryd.f11.body.getD .skip))))) env L (finK CK Tryd.f11 k)) (finK CK Tryd.f11 k))) m ((prog_Check.E0 e7_1 e7_2) s) ((prog_Check.H0 e7_1 e7_2) s)
def prog_Check.b0 {Ω : Type} (e7_1 : (List T_s50)) (e7_2 : Int)   (k : Int × Int → Option Ω) (r7 : Int × Int → Option Ω) (s7 : Int × Int) : Option Ω :=
  bif (decide (s7.2 < e7_2)) then
    bif (idxOK s7.2 (List.length e7_1)) then
      (prog_wrong.u e7_1 s7.2 s7.1).bind fun y1 =>
      bif (y1 != 0) then
        k (s7.2, y1)
      else
        bif ((List.getD e7_1 (Int.toNat s7.2) (0, (0, (0, (0, ()))))).1 == 41) then
          r7 ((IntKind.wrap .i64 (List.getD e7_1 (Int.toNat s7.2) (0, (0, (0, (0, ()))))).2.2.2.1), (IntKind.wrap .i64 (s7.2 + 1)))
        else
          r7 ((if (0 : Int) > (IntKind.wrap .i64 (s7.1 - 1)) then 0 else (IntKind.wrap .i64 (s7.1 - 1))), (IntKind.wrap .i64 (s7.2 + 1)))
    else
      none
  else
    k (0, 0)
def prog_Check.B0 {Ω : Type} (fuel : Nat) (e7_1 : (List T_s50)) (e7_2 : Int)  (k : Int × Int → Option Ω) (r7 : Int × Int → Option Ω) (s7 : Int × Int) : Option Ω := prog_Check.b0 e7_1 e7_2   k r7 s7
theorem prog_Check.l0 {Ω : Type} (fuel : Nat) (e7_1 : (List T_s50)) (e7_2 : Int)  (k : AV → Option Ω) : ∀ m, (prog_Check.M0 fuel e7_1 e7_2  k m) = iter (prog_Check.B0 fuel e7_1 e7_2  (fun r => k (tupAV (.int .i64) [(.int .i64)] r))) m :=
  loopK_iter (envOf := (prog_Check.E0 e7_1 e7_2)) (LOf := (prog_Check.H0 e7_1 e7_2)) (B := prog_Check.B0 fuel e7_1 e7_2  (fun r => k (tupAV (.int .i64) [(.int .i64)] r))) (fun R s => by kernel_rfl)
def prog_Check.sl {Ω : Type} (x0 : (List T_s50)) (lp0 : (List T_s50) → Int → Int × Int → Option Ω) (k : Int × Int → Option Ω) : Option Ω :=
  bif (((List.length x0 : Nat) : Int) == 0) then
    k (0, 11)
  else
    bif (decide (((List.length x0 : Nat) : Int) > 64)) then
      k (64, 5)
    else
      lp0 x0 (((List.length x0 : Nat) : Int)) (0, 0)
def prog_Check.s {Ω : Type} (fuel : Nat) (x0 : (List T_s50)) (k : Int × Int → Option Ω) : Option Ω := prog_Check.sl x0 (fun e7_1 e7_2 => (iter (prog_Check.B0 fuel e7_1 e7_2  k) fuel)) k
theorem prog_Check.ev {Ω : Type} (fuel : Nat) (x0 : (List T_s50)) (k : AV → Option Ω) : evFn CK prog_Check.sp (prog_Check.F fuel) Tryd.f11 (Tryd.f11.body.getD .skip) [(.v (.slice E_s50) (x0))] k = prog_Check.s fuel x0 (fun r => k (tupAV (.int .i64) [(.int .i64)] r)) := by
  have h0 : evFn CK prog_Check.sp (prog_Check.F fuel) Tryd.f11 (Tryd.f11.body.getD .skip) [(.v (.slice E_s50) (x0))] k = prog_Check.sl x0 (fun e7_1 e7_2 => (prog_Check.M0 fuel e7_1 e7_2  k fuel)) (fun r => k (tupAV (.int .i64) [(.int .i64)] r)) := by kernel_rfl
  have h1 : (fun e7_1 e7_2 => (prog_Check.M0 fuel e7_1 e7_2  k fuel)) = (fun e7_1 e7_2 => (iter (prog_Check.B0 fuel e7_1 e7_2  (fun r => k (tupAV (.int .i64) [(.int .i64)] r))) fuel)) := funext fun e7_1 => funext fun e7_2 => prog_Check.l0 fuel e7_1 e7_2   k fuel
  rw [h1] at h0
  exact h0
def prog_Check.g0 {Ω : Type} (e7_1 : (List T_s50))  (k : Int × Int → Option Ω) : List T_s50 → Int → Int → Option Ω
  | [], a7_0, i7 =>
    k (0, 0)
  | x7 :: xs7, a7_0, i7 =>
    (prog_wrong.u e7_1 i7 a7_0).bind fun y1 =>
    bif (y1 != 0) then
      k (i7, y1)
    else
      bif (x7.1 == 41) then
        prog_Check.g0 e7_1  k xs7 (IntKind.wrap .i64 x7.2.2.2.1) (i7 + 1)
      else
        prog_Check.g0 e7_1  k xs7 ((if (0 : Int) > (IntKind.wrap .i64 (a7_0 - 1)) then 0 else (IntKind.wrap .i64 (a7_0 - 1)))) (i7 + 1)
theorem prog_Check.h0 {Ω : Type} (e7_1 : (List T_s50))   (k : Int × Int → Option Ω) (hX : ((List.length e7_1 : Nat) : Int) ≤ 9223372036854775807) : ∀ (m : Nat) (i : Int) (a : Int), 0 ≤ i → i ≤ ((List.length e7_1 : Nat) : Int) → ((List.length e7_1 : Nat) : Int) < m + i → Le (prog_Check.g0 e7_1  k (List.drop (Int.toNat i) e7_1) a i) (iter (prog_Check.B0 BIG e7_1 (((List.length e7_1 : Nat) : Int))  k) m (a, i)) :=
  iter_list e7_1 (0, (0, (0, (0, ())))) (fun (i7 : Int) (a7 : Int) => (a7, i7)) (fun xs i7 a7 => prog_Check.g0 e7_1  k xs a7 i7) (prog_Check.B0 BIG e7_1 (((List.length e7_1 : Nat) : Int))  k)
    (fun i7 a7 r h0 => (Le.fls h0 (Le.refl _)))
    (fun i7 xs7 a7 r h0 h1 hw ih => (Le.tru h0 (Le.tru h1 (Le.bnd fun y1 => (Le.cond (Le.refl _) (Le.cond (ih _ hw ((IntKind.wrap .i64 (List.getD e7_1 (Int.toNat i7) (0, (0, (0, (0, ()))))).2.2.2.1))) (ih _ hw ((if (0 : Int) > (IntKind.wrap .i64 (a7 - 1)) then 0 else (IntKind.wrap .i64 (a7 - 1)))))))))))
    hX
def prog_Check.w {Ω : Type} (x0 : (List T_s50)) (k : Int × Int → Option Ω) : Option Ω :=
  bif (((List.length x0 : Nat) : Int) == 0) then
    k (0, 11)
  else
    bif (decide (((List.length x0 : Nat) : Int) > 64)) then
      k (64, 5)
    else
      bif decide (((List.length x0 : Nat) : Int) ≤ 4611686018427387904) then prog_Check.g0 x0  k x0 0 0 else none
theorem prog_Check.le {Ω : Type} (x0 : (List T_s50)) (k : Int × Int → Option Ω) : Le (prog_Check.w x0 k) (prog_Check.s BIG x0 k) := by
  delta prog_Check.w prog_Check.s prog_Check.sl
  exact (Le.cond (Le.refl _) (Le.cond (Le.refl _) (Le.gd fun hg => prog_Check.h0 _   k (le_up (of_decide_eq_true hg)) BIG 0 (0) (by decide) (zero_le_len _) (big_list (of_decide_eq_true hg)))))
def prog_Check.u (x0 : (List T_s50)) : Option (Int × Int) := prog_Check.w x0 some
theorem prog_Check.c (x0 : (List T_s50)) (r : Int × Int) (h : prog_Check.u x0 = some r) : Contract CK 11 [(.v (.slice E_s50) (x0))] (tupAV (.int .i64) [(.int .i64)] r) :=
  contract_s (S := fun k => prog_Check.s BIG x0 k) CK_ok (orS_ok prog_wrong.e_ok noS_ok) (by kernel_rfl) (by kernel_rfl) (by kernel_rfl) (prog_Check.ev BIG x0 (dec (.int .i64) [(.int .i64)])) (prog_Check.le x0 some r h)
noncomputable def prog_Check.e : Ent := argI (.slice E_s50) fun x0 => endU (prog_Check.u x0) (tupAV (.int .i64) [(.int .i64)])
theorem prog_Check.e_ok : EntOK CK 11 (fun {_} => prog_Check.e) := entA_ok (argI_ok fun x0 => endU_ok fun r h => prog_Check.c x0 r h)

/-- becket becketref12.Guards -/
noncomputable def ref12_Guards.sp : Spec := (orS 44 (fun {_} => ref09_Of.e) noS)
def ref12_Guards.s {Ω : Type} (x0 : T_s50) (k : Bool → Option Ω) : Option Ω :=
  (ref09_Of.u (IntKind.wrap .i64 x0.1)).bind fun y1 =>
  k (y1.2.2.1 == 3)
theorem ref12_Guards.ev {Ω : Type} (fuel : Fuel) (x0 : T_s50) (k : AV → Option Ω) : evFn C ref12_Guards.sp fuel Tryd.f73 (Tryd.f73.body.getD .skip) [(.v E_s50 (x0))] k = ref12_Guards.s x0 (fun r => k (tupAV .bool [] r)) := by kernel_rfl
def ref12_Guards.u (x0 : T_s50) : Option (Bool) := ref12_Guards.s x0 some
theorem ref12_Guards.c (x0 : T_s50) (r : Bool) (h : ref12_Guards.u x0 = some r) : Contract C 73 [(.v E_s50 (x0))] (tupAV .bool [] r) :=
  contract_s (S := fun k => ref12_Guards.s x0 k) C_ok (orS_ok ref09_Of.e_ok noS_ok) (by kernel_rfl) (by kernel_rfl) (by kernel_rfl) (ref12_Guards.ev ⟨1, fun _ => []⟩ x0 (dec .bool [])) h
noncomputable def ref12_Guards.e : Ent := argI E_s50 fun x0 => endU (ref12_Guards.u x0) (tupAV .bool [])
theorem ref12_Guards.e_ok : EntOK C 73 (fun {_} => ref12_Guards.e) := entA_ok (argI_ok fun x0 => endU_ok fun r h => ref12_Guards.c x0 r h)

/-- becket becketref12.Alting -/
noncomputable def ref12_Alting.sp : Spec := noS
def ref12_Alting.s {Ω : Type} (x0 : T_s50) (k : Bool → Option Ω) : Option Ω :=
  k (x0.1 == 41)
theorem ref12_Alting.ev {Ω : Type} (fuel : Fuel) (x0 : T_s50) (k : AV → Option Ω) : evFn C ref12_Alting.sp fuel Tryd.f37 (Tryd.f37.body.getD .skip) [(.v E_s50 (x0))] k = ref12_Alting.s x0 (fun r => k (tupAV .bool [] r)) := by kernel_rfl
def ref12_Alting.t (x0 : T_s50) : Bool :=
  (x0.1 == 41)
theorem ref12_Alting.v {Ω : Type} (x0 : T_s50) (k : Bool → Option Ω) : ref12_Alting.s x0 k = k (ref12_Alting.t x0) := by
  delta ref12_Alting.s ref12_Alting.t; exact rfl
theorem ref12_Alting.c (x0 : T_s50) : Contract C 37 [(.v E_s50 (x0))] (tupAV .bool [] (ref12_Alting.t x0)) :=
  contract_s (S := fun k => ref12_Alting.s x0 k) C_ok noS_ok (by kernel_rfl) (by kernel_rfl) (by kernel_rfl) (ref12_Alting.ev ⟨1, fun _ => []⟩ x0 (dec .bool [])) (ref12_Alting.v x0 some)
noncomputable def ref12_Alting.e : Ent := argI E_s50 fun x0 => endT (tupAV .bool [] (ref12_Alting.t x0))
theorem ref12_Alting.e_ok : EntOK C 37 (fun {_} => ref12_Alting.e) := entA_ok (argI_ok fun x0 => endT_ok (ref12_Alting.c x0))

/-- becket becketref12.owned -/
noncomputable def ref12_owned.sp : Spec := (orS 37 (fun {_} => ref12_Alting.e) noS)
def ref12_owned.F (fuel : Nat) : Fuel := ⟨fuel, fun r => bif r == 2 then [2, 3, 4, 6, 7, 8, 9, 10, 11, 12, 13, 14, 15, 16, 17, 18, 19, 20, 21, 22, 23, 24, 25, 26, 27] else []⟩
def ref12_owned.E0 (e2_1 : (List T_s50)) (e2_2 : Int) (s2 : Int) : List AV := [(.v (.slice E_s50) (e2_1)), (.v (.int .i64) (e2_2)), .dead, .dead, .dead, (.v (.int .i64) (s2)), .dead, .dead, .dead, .dead, .dead, .dead, .dead, .dead, .dead, .dead, .dead, .dead, .dead, .dead, .dead, .dead, .dead, .dead, .dead, .dead, .dead, .dead]
def ref12_owned.H0 (e2_1 : (List T_s50)) (e2_2 : Int) (s2 : Int) : Heap := []
noncomputable def ref12_owned.M0 {Ω : Type} (fuel : Nat) (e2_1 : (List T_s50)) (e2_2 : Int)  (k : AV → Option Ω) (m : Nat) (s : Int) : Option Ω := loopK (fun env L k => evCode C ref12_owned.sp (ref12_owned.F fuel) (cl (cl (cr (cl (cr (Tryd.f74.body.getD .skip)))))) env L k) [false, false, true, true, true, false, true, true, true, true, true, true, true, true, true, true, true, true, true, true, true, true, true, true, true, true, true, true] 0 (blockK 0 (seqK (fun env L => evCode C ref12_owned.sp (ref12_owned.F fuel) (cr (cr (Tryd.f74.body.getD .skip))) env L (finK C Tryd.f74 k)) (finK C Tryd.f74 k))) m ((ref12_owned.E0 e2_1 e2_2) s) ((ref12_owned.H0 e2_1 e2_2) s)
def ref12_owned.b0 {Ω : Type} (e2_1 : (List T_s50)) (e2_2 : Int)   (k : Bool → Option Ω) (r2 : Int → Option Ω) (s2 : Int) : Option Ω :=
  bif (decide (s2 < e2_2)) then
    bif (idxOK s2 (List.length e2_1)) then
      bif (ref12_Alting.t ((List.getD e2_1 (Int.toNat s2) (0, (0, (0, (0, ()))))))) then
        bif (idxOK s2 (List.length e2_1)) then
          let v1 : Int := (IntKind.wrap .i64 (s2 + (IntKind.wrap .i64 (List.getD e2_1 (Int.toNat s2) (0, (0, (0, (0, ()))))).2.2.2.1)))
          bif (decide (e2_2 ≤ v1)) then
            k true
          else
            r2 ((IntKind.wrap .i64 (s2 + 1)))
        else
          none
      else
        r2 ((IntKind.wrap .i64 (s2 + 1)))
    else
      none
  else
    k false
def ref12_owned.B0 {Ω : Type} (fuel : Nat) (e2_1 : (List T_s50)) (e2_2 : Int)  (k : Bool → Option Ω) (r2 : Int → Option Ω) (s2 : Int) : Option Ω := ref12_owned.b0 e2_1 e2_2   k r2 s2
theorem ref12_owned.l0 {Ω : Type} (fuel : Nat) (e2_1 : (List T_s50)) (e2_2 : Int)  (k : AV → Option Ω) : ∀ m, (ref12_owned.M0 fuel e2_1 e2_2  k m) = iter (ref12_owned.B0 fuel e2_1 e2_2  (fun r => k (tupAV .bool [] r))) m :=
  loopK_iter (envOf := (ref12_owned.E0 e2_1 e2_2)) (LOf := (ref12_owned.H0 e2_1 e2_2)) (B := ref12_owned.B0 fuel e2_1 e2_2  (fun r => k (tupAV .bool [] r))) (fun R s => by kernel_rfl)
def ref12_owned.sl {Ω : Type} (x0 : (List T_s50)) (x1 : Int) (lp0 : (List T_s50) → Int → Int → Option Ω) (k : Bool → Option Ω) : Option Ω :=
  lp0 x0 x1 (0)
def ref12_owned.s {Ω : Type} (fuel : Nat) (x0 : (List T_s50)) (x1 : Int) (k : Bool → Option Ω) : Option Ω := ref12_owned.sl x0 x1 (fun e2_1 e2_2 => (iter (ref12_owned.B0 fuel e2_1 e2_2  k) fuel)) k
theorem ref12_owned.ev {Ω : Type} (fuel : Nat) (x0 : (List T_s50)) (x1 : Int) (k : AV → Option Ω) : evFn C ref12_owned.sp (ref12_owned.F fuel) Tryd.f74 (Tryd.f74.body.getD .skip) [(.v (.slice E_s50) (x0)), (.v (.int .i64) (x1))] k = ref12_owned.s fuel x0 x1 (fun r => k (tupAV .bool [] r)) := by
  have h0 : evFn C ref12_owned.sp (ref12_owned.F fuel) Tryd.f74 (Tryd.f74.body.getD .skip) [(.v (.slice E_s50) (x0)), (.v (.int .i64) (x1))] k = ref12_owned.sl x0 x1 (fun e2_1 e2_2 => (ref12_owned.M0 fuel e2_1 e2_2  k fuel)) (fun r => k (tupAV .bool [] r)) := by kernel_rfl
  have h1 : (fun e2_1 e2_2 => (ref12_owned.M0 fuel e2_1 e2_2  k fuel)) = (fun e2_1 e2_2 => (iter (ref12_owned.B0 fuel e2_1 e2_2  (fun r => k (tupAV .bool [] r))) fuel)) := funext fun e2_1 => funext fun e2_2 => ref12_owned.l0 fuel e2_1 e2_2   k fuel
  rw [h1] at h0
  exact h0
def ref12_owned.g0 {Ω : Type} (e2_1 : (List T_s50)) (e2_2 : Int)  (k : Bool → Option Ω) : Nat → Int → Option Ω
  | 0, i2 =>
    k false
  | d2 + 1, i2 =>
    bif (idxOK i2 (List.length e2_1)) then
      bif (ref12_Alting.t ((List.getD e2_1 (Int.toNat i2) (0, (0, (0, (0, ()))))))) then
        bif (idxOK i2 (List.length e2_1)) then
          let v1 : Int := (IntKind.wrap .i64 (i2 + (IntKind.wrap .i64 (List.getD e2_1 (Int.toNat i2) (0, (0, (0, (0, ()))))).2.2.2.1)))
          bif (decide (e2_2 ≤ v1)) then
            k true
          else
            ref12_owned.g0 e2_1 e2_2  k d2 (i2 + 1)
        else
          none
      else
        ref12_owned.g0 e2_1 e2_2  k d2 (i2 + 1)
    else
      none
theorem ref12_owned.h0 {Ω : Type} (e2_1 : (List T_s50)) (e2_2 : Int)   (k : Bool → Option Ω) (hN : (e2_2 : Int) ≤ 9223372036854775807) : ∀ (m : Nat) (i : Int) (a : Unit), -9223372036854775808 ≤ i → Int.toNat ((e2_2 : Int) - i) < m → Le (ref12_owned.g0 e2_1 e2_2  k (Int.toNat ((e2_2 : Int) - i)) i) (iter (ref12_owned.B0 BIG e2_1 e2_2  k) m (i)) :=
  iter_count (e2_2 : Int) (fun i2 => (decide (i2 < e2_2))) (fun i => rfl) (fun (i2 : Int) (a2 : Unit) => (i2)) (fun xs i2 a2 => ref12_owned.g0 e2_1 e2_2  k xs i2) (ref12_owned.B0 BIG e2_1 e2_2  k)
    (fun i2 a2 r h0 => (Le.fls h0 (Le.refl _)))
    (fun i2 d2 a2 r h0 hw ih => (Le.tru h0 (Le.cond (Le.cond (Le.cond (let v1 : Int := (IntKind.wrap .i64 (i2 + (IntKind.wrap .i64 (List.getD e2_1 (Int.toNat i2) (0, (0, (0, (0, ()))))).2.2.2.1))); (Le.cond (Le.refl _) (ih _ hw ()))) Le.nil) (ih _ hw ())) Le.nil)))
    hN
def ref12_owned.w {Ω : Type} (x0 : (List T_s50)) (x1 : Int) (k : Bool → Option Ω) : Option Ω :=
  bif (decide (x1 ≤ 4611686018427387904)) then ref12_owned.g0 x0 x1  k ((Int.toNat (x1 - 0))) 0 else none
theorem ref12_owned.le {Ω : Type} (x0 : (List T_s50)) (x1 : Int) (k : Bool → Option Ω) : Le (ref12_owned.w x0 x1 k) (ref12_owned.s BIG x0 x1 k) := by
  delta ref12_owned.w ref12_owned.s ref12_owned.sl
  exact (Le.gd fun hg => ref12_owned.h0 _ _   k (cnt_up hg) BIG 0 () (by decide) (cnt_big hg (by decide)))
def ref12_owned.u (x0 : (List T_s50)) (x1 : Int) : Option (Bool) := ref12_owned.w x0 x1 some
theorem ref12_owned.c (x0 : (List T_s50)) (x1 : Int) (r : Bool) (h : ref12_owned.u x0 x1 = some r) : Contract C 74 [(.v (.slice E_s50) (x0)), (.v (.int .i64) (x1))] (tupAV .bool [] r) :=
  contract_s (S := fun k => ref12_owned.s BIG x0 x1 k) C_ok (orS_ok ref12_Alting.e_ok noS_ok) (by kernel_rfl) (by kernel_rfl) (by kernel_rfl) (ref12_owned.ev BIG x0 x1 (dec .bool [])) (ref12_owned.le x0 x1 some r h)
noncomputable def ref12_owned.e : Ent := argI (.slice E_s50) fun x0 => argI (.int .i64) fun x1 => endU (ref12_owned.u x0 x1) (tupAV .bool [])
theorem ref12_owned.e_ok : EntOK C 74 (fun {_} => ref12_owned.e) := entA_ok (argI_ok fun x0 => argI_ok fun x1 => endU_ok fun r h => ref12_owned.c x0 x1 r h)

/-- becket becketref12.one -/
noncomputable def ref12_one.sp : Spec := (orS 74 (fun {_} => ref12_owned.e) (orS 73 (fun {_} => ref12_Guards.e) (orS 54 (fun {_} => ref10_Check.e) (orS 45 (fun {_} => ref10_Place.e) (orS 37 (fun {_} => ref12_Alting.e) noS)))))
def ref12_one.F (fuel : Nat) : Fuel := ⟨fuel, fun r => bif r == 9 then [2, 3, 4, 6, 8, 9, 10, 11, 12, 13, 14, 15, 16, 17, 18, 19, 20, 21, 22, 23, 24, 25, 26, 27, 28, 29, 30, 31, 32, 33, 34, 35, 36, 37, 38, 39, 40, 41, 42, 43, 44, 45, 46, 47, 48, 49, 50, 51, 52, 53, 54, 55, 56, 57, 58, 59, 60, 61, 62, 63, 64, 65, 66, 67, 68, 69, 70, 71, 72, 73, 74, 75, 76, 77] else []⟩
def ref12_one.E0 (e9_1 : (List T_s50)) (e9_2 : Int) (e9_3 : T_s50) (s9 : Int) : List AV := [(.v (.slice E_s50) (e9_1)), (.v (.int .i64) (e9_2)), .dead, .dead, .dead, (.ref 0 []), .dead, (.v (.int .i64) (s9)), .dead, .dead, .dead, .dead, .dead, .dead, .dead, .dead, .dead, .dead, .dead, .dead, .dead, .dead, .dead, .dead, .dead, .dead, .dead, .dead, .dead, .dead, .dead, .dead, .dead, .dead, .dead, .dead, .dead, .dead, .dead, .dead, .dead, .dead, .dead, .dead, .dead, .dead, .dead, .dead, .dead, .dead, .dead, .dead, .dead, .dead, .dead, .dead, .dead, .dead, .dead, .dead, .dead, .dead, .dead, .dead, .dead, .dead, .dead, .dead, .dead, .dead, .dead, .dead, .dead, .dead, .dead, .dead, .dead, .dead]
def ref12_one.H0 (e9_1 : (List T_s50)) (e9_2 : Int) (e9_3 : T_s50) (s9 : Int) : Heap := [(.box E_s50 e9_3 false)]
noncomputable def ref12_one.M0 {Ω : Type} (fuel : Nat) (e9_1 : (List T_s50)) (e9_2 : Int) (e9_3 : T_s50)  (k : AV → Option Ω) (m : Nat) (s : Int) : Option Ω := loopK (fun env L k => evCode C ref12_one.sp (ref12_one.F fuel) (cl (cl (cr (cl (cr (cl (cr (cr (cr (cr (Tryd.f34.body.getD .skip))))))))))) env L k) [false, false, true, true, true, false, true, false, true, true, true, true, true, true, true, true, true, true, true, true, true, true, true, true, true, true, true, true, true, true, true, true, true, true, true, true, true, true, true, true, true, true, true, true, true, true, true, true, true, true, true, true, true, true, true, true, true, true, true, true, true, true, true, true, true, true, true, true, true, true, true, true, true, true, true, true, true, true] 1 (blockK 0 (seqK (fun env L => evCode C ref12_one.sp (ref12_one.F fuel) (cr (cr (cr (cr (cr (Tryd.f34.body.getD .skip)))))) env L (finK C Tryd.f34 k)) (finK C Tryd.f34 k))) m ((ref12_one.E0 e9_1 e9_2 e9_3) s) ((ref12_one.H0 e9_1 e9_2 e9_3) s)
def ref12_one.b0 {Ω : Type} (e9_1 : (List T_s50)) (e9_2 : Int) (e9_3 : T_s50)   (k : Int → Option Ω) (r9 : Int → Option Ω) (s9 : Int) : Option Ω :=
  bif (decide (s9 ≤ (IntKind.wrap .i64 e9_3.2.2.2.1))) then
    bif (decide ((IntKind.wrap .i64 (e9_2 + s9)) ≥ ((List.length e9_1 : Nat) : Int))) then
      k 3
    else
      bif (idxOK (IntKind.wrap .i64 (e9_2 + s9)) (List.length e9_1)) then
        (ref12_Guards.u ((List.getD e9_1 (Int.toNat (IntKind.wrap .i64 (e9_2 + s9))) (0, (0, (0, (0, ()))))))).bind fun y4 =>
        bif (!y4) then
          k 3
        else
          r9 ((IntKind.wrap .i64 (s9 + 1)))
      else
        none
  else
    (ref10_Place.u e9_3).bind fun y5 =>
    bif y5.2 then
      bif (decide (y5.1 > ((List.length e9_1 : Nat) : Int))) then
        k 8
      else
        bif y5.2 then
          bif (decide (y5.1 < ((List.length e9_1 : Nat) : Int))) then
            bif (idxOK y5.1 (List.length e9_1)) then
              (ref12_Guards.u ((List.getD e9_1 (Int.toNat y5.1) (0, (0, (0, (0, ()))))))).bind fun y6 =>
              bif y6 then
                k 3
              else
                k 0
            else
              none
          else
            k 0
        else
          k 0
    else
      bif y5.2 then
        bif (decide (y5.1 < ((List.length e9_1 : Nat) : Int))) then
          bif (idxOK y5.1 (List.length e9_1)) then
            (ref12_Guards.u ((List.getD e9_1 (Int.toNat y5.1) (0, (0, (0, (0, ()))))))).bind fun y7 =>
            bif y7 then
              k 3
            else
              k 0
          else
            none
        else
          k 0
      else
        k 0
def ref12_one.B0 {Ω : Type} (fuel : Nat) (e9_1 : (List T_s50)) (e9_2 : Int) (e9_3 : T_s50)  (k : Int → Option Ω) (r9 : Int → Option Ω) (s9 : Int) : Option Ω := ref12_one.b0 e9_1 e9_2 e9_3   k r9 s9
theorem ref12_one.l0 {Ω : Type} (fuel : Nat) (e9_1 : (List T_s50)) (e9_2 : Int) (e9_3 : T_s50)  (k : AV → Option Ω) : ∀ m, (ref12_one.M0 fuel e9_1 e9_2 e9_3  k m) = iter (ref12_one.B0 fuel e9_1 e9_2 e9_3  (fun r => k (tupAV (.int .i64) [] r))) m :=
  loopK_iter (envOf := (ref12_one.E0 e9_1 e9_2 e9_3)) (LOf := (ref12_one.H0 e9_1 e9_2 e9_3)) (B := ref12_one.B0 fuel e9_1 e9_2 e9_3  (fun r => k (tupAV (.int .i64) [] r))) (fun R s => by kernel_rfl)
def ref12_one.sl {Ω : Type} (x0 : (List T_s50)) (x1 : Int) (lp0 : (List T_s50) → Int → T_s50 → Int → Option Ω) (k : Int → Option Ω) : Option Ω :=
  bif (idxOK x1 (List.length x0)) then
    (ref10_Check.u ((List.getD x0 (Int.toNat x1) (0, (0, (0, (0, ()))))))).bind fun y1 =>
    bif (y1 != 0) then
      k y1
    else
      (ref12_Guards.u ((List.getD x0 (Int.toNat x1) (0, (0, (0, (0, ()))))))).bind fun y2 =>
      bif y2 then
        (ref12_owned.u x0 x1).bind fun y3 =>
        bif (!y3) then
          k 3
        else
          bif (ref12_Alting.t ((List.getD x0 (Int.toNat x1) (0, (0, (0, (0, ()))))))) then
            lp0 x0 x1 ((List.getD x0 (Int.toNat x1) (0, (0, (0, (0, ())))))) (1)
          else
            (ref10_Place.u ((List.getD x0 (Int.toNat x1) (0, (0, (0, (0, ()))))))).bind fun y8 =>
            bif y8.2 then
              bif (decide (y8.1 > ((List.length x0 : Nat) : Int))) then
                k 8
              else
                bif y8.2 then
                  bif (decide (y8.1 < ((List.length x0 : Nat) : Int))) then
                    bif (idxOK y8.1 (List.length x0)) then
                      (ref12_Guards.u ((List.getD x0 (Int.toNat y8.1) (0, (0, (0, (0, ()))))))).bind fun y9 =>
                      bif y9 then
                        k 3
                      else
                        k 0
                    else
                      none
                  else
                    k 0
                else
                  k 0
            else
              bif y8.2 then
                bif (decide (y8.1 < ((List.length x0 : Nat) : Int))) then
                  bif (idxOK y8.1 (List.length x0)) then
                    (ref12_Guards.u ((List.getD x0 (Int.toNat y8.1) (0, (0, (0, (0, ()))))))).bind fun y10 =>
                    bif y10 then
                      k 3
                    else
                      k 0
                  else
                    none
                else
                  k 0
              else
                k 0
      else
        bif (ref12_Alting.t ((List.getD x0 (Int.toNat x1) (0, (0, (0, (0, ()))))))) then
          lp0 x0 x1 ((List.getD x0 (Int.toNat x1) (0, (0, (0, (0, ())))))) (1)
        else
          (ref10_Place.u ((List.getD x0 (Int.toNat x1) (0, (0, (0, (0, ()))))))).bind fun y15 =>
          bif y15.2 then
            bif (decide (y15.1 > ((List.length x0 : Nat) : Int))) then
              k 8
            else
              bif y15.2 then
                bif (decide (y15.1 < ((List.length x0 : Nat) : Int))) then
                  bif (idxOK y15.1 (List.length x0)) then
                    (ref12_Guards.u ((List.getD x0 (Int.toNat y15.1) (0, (0, (0, (0, ()))))))).bind fun y16 =>
                    bif y16 then
                      k 3
                    else
                      k 0
                  else
                    none
                else
                  k 0
              else
                k 0
          else
            bif y15.2 then
              bif (decide (y15.1 < ((List.length x0 : Nat) : Int))) then
                bif (idxOK y15.1 (List.length x0)) then
                  (ref12_Guards.u ((List.getD x0 (Int.toNat y15.1) (0, (0, (0, (0, ()))))))).bind fun y17 =>
                  bif y17 then
                    k 3
                  else
                    k 0
                else
                  none
              else
                k 0
            else
              k 0
  else
    none
def ref12_one.s {Ω : Type} (fuel : Nat) (x0 : (List T_s50)) (x1 : Int) (k : Int → Option Ω) : Option Ω := ref12_one.sl x0 x1 (fun e9_1 e9_2 e9_3 => (iter (ref12_one.B0 fuel e9_1 e9_2 e9_3  k) fuel)) k
theorem ref12_one.ev {Ω : Type} (fuel : Nat) (x0 : (List T_s50)) (x1 : Int) (k : AV → Option Ω) : evFn C ref12_one.sp (ref12_one.F fuel) Tryd.f34 (Tryd.f34.body.getD .skip) [(.v (.slice E_s50) (x0)), (.v (.int .i64) (x1))] k = ref12_one.s fuel x0 x1 (fun r => k (tupAV (.int .i64) [] r)) := by
  have h0 : evFn C ref12_one.sp (ref12_one.F fuel) Tryd.f34 (Tryd.f34.body.getD .skip) [(.v (.slice E_s50) (x0)), (.v (.int .i64) (x1))] k = ref12_one.sl x0 x1 (fun e9_1 e9_2 e9_3 => (ref12_one.M0 fuel e9_1 e9_2 e9_3  k fuel)) (fun r => k (tupAV (.int .i64) [] r)) := by kernel_rfl
  have h1 : (fun e9_1 e9_2 e9_3 => (ref12_one.M0 fuel e9_1 e9_2 e9_3  k fuel)) = (fun e9_1 e9_2 e9_3 => (iter (ref12_one.B0 fuel e9_1 e9_2 e9_3  (fun r => k (tupAV (.int .i64) [] r))) fuel)) := funext fun e9_1 => funext fun e9_2 => funext fun e9_3 => ref12_one.l0 fuel e9_1 e9_2 e9_3   k fuel
  rw [h1] at h0
  exact h0
def ref12_one.g0 {Ω : Type} (e9_1 : (List T_s50)) (e9_2 : Int) (e9_3 : T_s50)  (k : Int → Option Ω) : Nat → Int → Option Ω
  | 0, i9 =>
    (ref10_Place.u e9_3).bind fun y5 =>
    bif y5.2 then
      bif (decide (y5.1 > ((List.length e9_1 : Nat) : Int))) then
        k 8
      else
        bif y5.2 then
          bif (decide (y5.1 < ((List.length e9_1 : Nat) : Int))) then
            bif (idxOK y5.1 (List.length e9_1)) then
              (ref12_Guards.u ((List.getD e9_1 (Int.toNat y5.1) (0, (0, (0, (0, ()))))))).bind fun y6 =>
              bif y6 then
                k 3
              else
                k 0
            else
              none
          else
            k 0
        else
          k 0
    else
      bif y5.2 then
        bif (decide (y5.1 < ((List.length e9_1 : Nat) : Int))) then
          bif (idxOK y5.1 (List.length e9_1)) then
            (ref12_Guards.u ((List.getD e9_1 (Int.toNat y5.1) (0, (0, (0, (0, ()))))))).bind fun y7 =>
            bif y7 then
              k 3
            else
              k 0
          else
            none
        else
          k 0
      else
        k 0
  | d9 + 1, i9 =>
    bif (decide ((IntKind.wrap .i64 (e9_2 + i9)) ≥ ((List.length e9_1 : Nat) : Int))) then
      k 3
    else
      bif (idxOK (IntKind.wrap .i64 (e9_2 + i9)) (List.length e9_1)) then
        (ref12_Guards.u ((List.getD e9_1 (Int.toNat (IntKind.wrap .i64 (e9_2 + i9))) (0, (0, (0, (0, ()))))))).bind fun y4 =>
        bif (!y4) then
          k 3
        else
          ref12_one.g0 e9_1 e9_2 e9_3  k d9 (i9 + 1)
      else
        none
theorem ref12_one.h0 {Ω : Type} (e9_1 : (List T_s50)) (e9_2 : Int) (e9_3 : T_s50)   (k : Int → Option Ω) (hN : (((IntKind.wrap .i64 e9_3.2.2.2.1) : Int) + 1) ≤ 9223372036854775807) : ∀ (m : Nat) (i : Int) (a : Unit), -9223372036854775808 ≤ i → Int.toNat ((((IntKind.wrap .i64 e9_3.2.2.2.1) : Int) + 1) - i) < m → Le (ref12_one.g0 e9_1 e9_2 e9_3  k (Int.toNat ((((IntKind.wrap .i64 e9_3.2.2.2.1) : Int) + 1) - i)) i) (iter (ref12_one.B0 BIG e9_1 e9_2 e9_3  k) m (i)) :=
  iter_count (((IntKind.wrap .i64 e9_3.2.2.2.1) : Int) + 1) (fun i9 => (decide (i9 ≤ (IntKind.wrap .i64 e9_3.2.2.2.1)))) (fun i => le_lt1 i _) (fun (i9 : Int) (a9 : Unit) => (i9)) (fun xs i9 a9 => ref12_one.g0 e9_1 e9_2 e9_3  k xs i9) (ref12_one.B0 BIG e9_1 e9_2 e9_3  k)
    (fun i9 a9 r h0 => (Le.fls h0 (Le.bnd fun y5 => (Le.cond (Le.cond (Le.refl _) (Le.cond (Le.cond (Le.cond (Le.bnd fun y6 => (Le.cond (Le.refl _) (Le.refl _))) Le.nil) (Le.refl _)) (Le.refl _))) (Le.cond (Le.cond (Le.cond (Le.bnd fun y7 => (Le.cond (Le.refl _) (Le.refl _))) Le.nil) (Le.refl _)) (Le.refl _))))))
    (fun i9 d9 a9 r h0 hw ih => (Le.tru h0 (Le.cond (Le.refl _) (Le.cond (Le.bnd fun y4 => (Le.cond (Le.refl _) (ih _ hw ()))) Le.nil))))
    hN
def ref12_one.w {Ω : Type} (x0 : (List T_s50)) (x1 : Int) (k : Int → Option Ω) : Option Ω :=
  bif (idxOK x1 (List.length x0)) then
    (ref10_Check.u ((List.getD x0 (Int.toNat x1) (0, (0, (0, (0, ()))))))).bind fun y1 =>
    bif (y1 != 0) then
      k y1
    else
      (ref12_Guards.u ((List.getD x0 (Int.toNat x1) (0, (0, (0, (0, ()))))))).bind fun y2 =>
      bif y2 then
        (ref12_owned.u x0 x1).bind fun y3 =>
        bif (!y3) then
          k 3
        else
          bif (ref12_Alting.t ((List.getD x0 (Int.toNat x1) (0, (0, (0, (0, ()))))))) then
            bif (decide ((IntKind.wrap .i64 ((List.getD x0 (Int.toNat x1) (0, (0, (0, (0, ())))))).2.2.2.1) ≤ 4611686018427387904)) then ref12_one.g0 x0 x1 ((List.getD x0 (Int.toNat x1) (0, (0, (0, (0, ()))))))  k ((Int.toNat (((IntKind.wrap .i64 ((List.getD x0 (Int.toNat x1) (0, (0, (0, (0, ())))))).2.2.2.1) + 1) - 1))) 1 else none
          else
            (ref10_Place.u ((List.getD x0 (Int.toNat x1) (0, (0, (0, (0, ()))))))).bind fun y8 =>
            bif y8.2 then
              bif (decide (y8.1 > ((List.length x0 : Nat) : Int))) then
                k 8
              else
                bif y8.2 then
                  bif (decide (y8.1 < ((List.length x0 : Nat) : Int))) then
                    bif (idxOK y8.1 (List.length x0)) then
                      (ref12_Guards.u ((List.getD x0 (Int.toNat y8.1) (0, (0, (0, (0, ()))))))).bind fun y9 =>
                      bif y9 then
                        k 3
                      else
                        k 0
                    else
                      none
                  else
                    k 0
                else
                  k 0
            else
              bif y8.2 then
                bif (decide (y8.1 < ((List.length x0 : Nat) : Int))) then
                  bif (idxOK y8.1 (List.length x0)) then
                    (ref12_Guards.u ((List.getD x0 (Int.toNat y8.1) (0, (0, (0, (0, ()))))))).bind fun y10 =>
                    bif y10 then
                      k 3
                    else
                      k 0
                  else
                    none
                else
                  k 0
              else
                k 0
      else
        bif (ref12_Alting.t ((List.getD x0 (Int.toNat x1) (0, (0, (0, (0, ()))))))) then
          bif (decide ((IntKind.wrap .i64 ((List.getD x0 (Int.toNat x1) (0, (0, (0, (0, ())))))).2.2.2.1) ≤ 4611686018427387904)) then ref12_one.g0 x0 x1 ((List.getD x0 (Int.toNat x1) (0, (0, (0, (0, ()))))))  k ((Int.toNat (((IntKind.wrap .i64 ((List.getD x0 (Int.toNat x1) (0, (0, (0, (0, ())))))).2.2.2.1) + 1) - 1))) 1 else none
        else
          (ref10_Place.u ((List.getD x0 (Int.toNat x1) (0, (0, (0, (0, ()))))))).bind fun y15 =>
          bif y15.2 then
            bif (decide (y15.1 > ((List.length x0 : Nat) : Int))) then
              k 8
            else
              bif y15.2 then
                bif (decide (y15.1 < ((List.length x0 : Nat) : Int))) then
                  bif (idxOK y15.1 (List.length x0)) then
                    (ref12_Guards.u ((List.getD x0 (Int.toNat y15.1) (0, (0, (0, (0, ()))))))).bind fun y16 =>
                    bif y16 then
                      k 3
                    else
                      k 0
                  else
                    none
                else
                  k 0
              else
                k 0
          else
            bif y15.2 then
              bif (decide (y15.1 < ((List.length x0 : Nat) : Int))) then
                bif (idxOK y15.1 (List.length x0)) then
                  (ref12_Guards.u ((List.getD x0 (Int.toNat y15.1) (0, (0, (0, (0, ()))))))).bind fun y17 =>
                  bif y17 then
                    k 3
                  else
                    k 0
                else
                  none
              else
                k 0
            else
              k 0
  else
    none
theorem ref12_one.le {Ω : Type} (x0 : (List T_s50)) (x1 : Int) (k : Int → Option Ω) : Le (ref12_one.w x0 x1 k) (ref12_one.s BIG x0 x1 k) := by
  delta ref12_one.w ref12_one.s ref12_one.sl
  exact (Le.cond (Le.bnd fun y1 => (Le.cond (Le.refl _) (Le.bnd fun y2 => (Le.cond (Le.bnd fun y3 => (Le.cond (Le.refl _) (Le.cond (Le.gd fun hg => ref12_one.h0 _ _ _   k (cnt_up1 hg) BIG 1 () (by decide) (cnt_big1 hg (by decide))) (Le.bnd fun y8 => (Le.cond (Le.cond (Le.refl _) (Le.cond (Le.cond (Le.cond (Le.bnd fun y9 => (Le.cond (Le.refl _) (Le.refl _))) Le.nil) (Le.refl _)) (Le.refl _))) (Le.cond (Le.cond (Le.cond (Le.bnd fun y10 => (Le.cond (Le.refl _) (Le.refl _))) Le.nil) (Le.refl _)) (Le.refl _))))))) (Le.cond (Le.gd fun hg => ref12_one.h0 _ _ _   k (cnt_up1 hg) BIG 1 () (by decide) (cnt_big1 hg (by decide))) (Le.bnd fun y15 => (Le.cond (Le.cond (Le.refl _) (Le.cond (Le.cond (Le.cond (Le.bnd fun y16 => (Le.cond (Le.refl _) (Le.refl _))) Le.nil) (Le.refl _)) (Le.refl _))) (Le.cond (Le.cond (Le.cond (Le.bnd fun y17 => (Le.cond (Le.refl _) (Le.refl _))) Le.nil) (Le.refl _)) (Le.refl _))))))))) Le.nil)
def ref12_one.u (x0 : (List T_s50)) (x1 : Int) : Option (Int) := ref12_one.w x0 x1 some
theorem ref12_one.c (x0 : (List T_s50)) (x1 : Int) (r : Int) (h : ref12_one.u x0 x1 = some r) : Contract C 34 [(.v (.slice E_s50) (x0)), (.v (.int .i64) (x1))] (tupAV (.int .i64) [] r) :=
  contract_s (S := fun k => ref12_one.s BIG x0 x1 k) C_ok (orS_ok ref12_owned.e_ok (orS_ok ref12_Guards.e_ok (orS_ok ref10_Check.e_ok (orS_ok ref10_Place.e_ok (orS_ok ref12_Alting.e_ok noS_ok))))) (by kernel_rfl) (by kernel_rfl) (by kernel_rfl) (ref12_one.ev BIG x0 x1 (dec (.int .i64) [])) (ref12_one.le x0 x1 some r h)
noncomputable def ref12_one.e : Ent := argI (.slice E_s50) fun x0 => argI (.int .i64) fun x1 => endU (ref12_one.u x0 x1) (tupAV (.int .i64) [])
theorem ref12_one.e_ok : EntOK C 34 (fun {_} => ref12_one.e) := entA_ok (argI_ok fun x0 => argI_ok fun x1 => endU_ok fun r h => ref12_one.c x0 x1 r h)

/-- becket becketref12.Check -/
noncomputable def ref12_Check.sp : Spec := (orS 34 (fun {_} => ref12_one.e) noS)
def ref12_Check.F (fuel : Nat) : Fuel := ⟨fuel, fun r => bif r == 6 then [1, 2, 3, 5, 6, 7, 8, 9, 10, 11, 12, 13, 14, 15, 16, 17, 18, 19, 20, 21, 22, 23, 24] else []⟩
def ref12_Check.E0 (e6_1 : (List T_s50)) (s6 : Int) : List AV := [(.v (.slice E_s50) (e6_1)), .dead, .dead, .dead, (.v (.int .i64) (s6)), .dead, .dead, .dead, .dead, .dead, .dead, .dead, .dead, .dead, .dead, .dead, .dead, .dead, .dead, .dead, .dead, .dead, .dead, .dead, .dead]
def ref12_Check.H0 (e6_1 : (List T_s50)) (s6 : Int) : Heap := []
noncomputable def ref12_Check.M0 {Ω : Type} (fuel : Nat) (e6_1 : (List T_s50))  (k : AV → Option Ω) (m : Nat) (s : Int) : Option Ω := loopK (fun env L k => evCode C ref12_Check.sp (ref12_Check.F fuel) (cl (cl (cr (cl (cr (cr (cr (Tryd.f12.body.getD .skip)))))))) env L k) [false, true, true, true, false, true, true, true, true, true, true, true, true, true, true, true, true, true, true, true, true, true, true, true, true] 0 (blockK 0 (seqK (fun env L => evCode C ref12_Check.sp (ref12_Check.F fuel) (cr (cr (cr (cr (Tryd.f12.body.getD .skip))))) env L (finK C Tryd.f12 k)) (finK C Tryd.f12 k))) m ((ref12_Check.E0 e6_1) s) ((ref12_Check.H0 e6_1) s)
def ref12_Check.b0 {Ω : Type} (e6_1 : (List T_s50))   (k : Int × Int → Option Ω) (r6 : Int → Option Ω) (s6 : Int) : Option Ω :=
  bif (decide (s6 < ((List.length e6_1 : Nat) : Int))) then
    (ref12_one.u e6_1 s6).bind fun y1 =>
    bif (y1 != 0) then
      k (s6, y1)
    else
      r6 ((IntKind.wrap .i64 (s6 + 1)))
  else
    k (0, 0)
def ref12_Check.B0 {Ω : Type} (fuel : Nat) (e6_1 : (List T_s50))  (k : Int × Int → Option Ω) (r6 : Int → Option Ω) (s6 : Int) : Option Ω := ref12_Check.b0 e6_1   k r6 s6
theorem ref12_Check.l0 {Ω : Type} (fuel : Nat) (e6_1 : (List T_s50))  (k : AV → Option Ω) : ∀ m, (ref12_Check.M0 fuel e6_1  k m) = iter (ref12_Check.B0 fuel e6_1  (fun r => k (tupAV (.int .i64) [(.int .i64)] r))) m :=
  loopK_iter (envOf := (ref12_Check.E0 e6_1)) (LOf := (ref12_Check.H0 e6_1)) (B := ref12_Check.B0 fuel e6_1  (fun r => k (tupAV (.int .i64) [(.int .i64)] r))) (fun R s => by kernel_rfl)
def ref12_Check.sl {Ω : Type} (x0 : (List T_s50)) (lp0 : (List T_s50) → Int → Option Ω) (k : Int × Int → Option Ω) : Option Ω :=
  bif (((List.length x0 : Nat) : Int) == 0) then
    k (0, 11)
  else
    bif (decide (((List.length x0 : Nat) : Int) > 64)) then
      k (64, 5)
    else
      lp0 x0 (0)
def ref12_Check.s {Ω : Type} (fuel : Nat) (x0 : (List T_s50)) (k : Int × Int → Option Ω) : Option Ω := ref12_Check.sl x0 (fun e6_1 => (iter (ref12_Check.B0 fuel e6_1  k) fuel)) k
theorem ref12_Check.ev {Ω : Type} (fuel : Nat) (x0 : (List T_s50)) (k : AV → Option Ω) : evFn C ref12_Check.sp (ref12_Check.F fuel) Tryd.f12 (Tryd.f12.body.getD .skip) [(.v (.slice E_s50) (x0))] k = ref12_Check.s fuel x0 (fun r => k (tupAV (.int .i64) [(.int .i64)] r)) := by
  have h0 : evFn C ref12_Check.sp (ref12_Check.F fuel) Tryd.f12 (Tryd.f12.body.getD .skip) [(.v (.slice E_s50) (x0))] k = ref12_Check.sl x0 (fun e6_1 => (ref12_Check.M0 fuel e6_1  k fuel)) (fun r => k (tupAV (.int .i64) [(.int .i64)] r)) := by kernel_rfl
  have h1 : (fun e6_1 => (ref12_Check.M0 fuel e6_1  k fuel)) = (fun e6_1 => (iter (ref12_Check.B0 fuel e6_1  (fun r => k (tupAV (.int .i64) [(.int .i64)] r))) fuel)) := funext fun e6_1 => ref12_Check.l0 fuel e6_1   k fuel
  rw [h1] at h0
  exact h0
def ref12_Check.g0 {Ω : Type} (e6_1 : (List T_s50))  (k : Int × Int → Option Ω) : List T_s50 → Int → Option Ω
  | [], i6 =>
    k (0, 0)
  | x6 :: xs6, i6 =>
    (ref12_one.u e6_1 i6).bind fun y1 =>
    bif (y1 != 0) then
      k (i6, y1)
    else
      ref12_Check.g0 e6_1  k xs6 (i6 + 1)
theorem ref12_Check.h0 {Ω : Type} (e6_1 : (List T_s50))   (k : Int × Int → Option Ω) (hX : ((List.length e6_1 : Nat) : Int) ≤ 9223372036854775807) : ∀ (m : Nat) (i : Int) (a : Unit), 0 ≤ i → i ≤ ((List.length e6_1 : Nat) : Int) → ((List.length e6_1 : Nat) : Int) < m + i → Le (ref12_Check.g0 e6_1  k (List.drop (Int.toNat i) e6_1) i) (iter (ref12_Check.B0 BIG e6_1  k) m (i)) :=
  iter_list e6_1 (0, (0, (0, (0, ())))) (fun (i6 : Int) (a6 : Unit) => (i6)) (fun xs i6 a6 => ref12_Check.g0 e6_1  k xs i6) (ref12_Check.B0 BIG e6_1  k)
    (fun i6 a6 r h0 => (Le.fls h0 (Le.refl _)))
    (fun i6 xs6 a6 r h0 h1 hw ih => (Le.tru h0 (Le.bnd fun y1 => (Le.cond (Le.refl _) (ih _ hw ())))))
    hX
def ref12_Check.w {Ω : Type} (x0 : (List T_s50)) (k : Int × Int → Option Ω) : Option Ω :=
  bif (((List.length x0 : Nat) : Int) == 0) then
    k (0, 11)
  else
    bif (decide (((List.length x0 : Nat) : Int) > 64)) then
      k (64, 5)
    else
      bif decide (((List.length x0 : Nat) : Int) ≤ 4611686018427387904) then ref12_Check.g0 x0  k x0 0 else none
theorem ref12_Check.le {Ω : Type} (x0 : (List T_s50)) (k : Int × Int → Option Ω) : Le (ref12_Check.w x0 k) (ref12_Check.s BIG x0 k) := by
  delta ref12_Check.w ref12_Check.s ref12_Check.sl
  exact (Le.cond (Le.refl _) (Le.cond (Le.refl _) (Le.gd fun hg => ref12_Check.h0 _   k (le_up (of_decide_eq_true hg)) BIG 0 () (by decide) (zero_le_len _) (big_list (of_decide_eq_true hg)))))
def ref12_Check.u (x0 : (List T_s50)) : Option (Int × Int) := ref12_Check.w x0 some
theorem ref12_Check.c (x0 : (List T_s50)) (r : Int × Int) (h : ref12_Check.u x0 = some r) : Contract C 12 [(.v (.slice E_s50) (x0))] (tupAV (.int .i64) [(.int .i64)] r) :=
  contract_s (S := fun k => ref12_Check.s BIG x0 k) C_ok (orS_ok ref12_one.e_ok noS_ok) (by kernel_rfl) (by kernel_rfl) (by kernel_rfl) (ref12_Check.ev BIG x0 (dec (.int .i64) [(.int .i64)])) (ref12_Check.le x0 some r h)
noncomputable def ref12_Check.e : Ent := argI (.slice E_s50) fun x0 => endU (ref12_Check.u x0) (tupAV (.int .i64) [(.int .i64)])
theorem ref12_Check.e_ok : EntOK C 12 (fun {_} => ref12_Check.e) := entA_ok (argI_ok fun x0 => endU_ok fun r h => ref12_Check.c x0 r h)

/-- becket prog.fine -/
noncomputable def prog_fine.sp : Spec := (orS 11 (fun {_} => prog_Check.e) noS)
def prog_fine.s {Ω : Type} (x0 : (List T_s50)) (k : Bool → Option Ω) : Option Ω :=
  (prog_Check.u x0).bind fun y1 =>
  k (y1.2 == 0)
theorem prog_fine.ev {Ω : Type} (fuel : Fuel) (x0 : (List T_s50)) (k : AV → Option Ω) : evFn CK prog_fine.sp fuel Tryd.f35 (Tryd.f35.body.getD .skip) [(.v (.slice E_s50) (x0))] k = prog_fine.s x0 (fun r => k (tupAV .bool [] r)) := by kernel_rfl
def prog_fine.u (x0 : (List T_s50)) : Option (Bool) := prog_fine.s x0 some
theorem prog_fine.c (x0 : (List T_s50)) (r : Bool) (h : prog_fine.u x0 = some r) : Contract CK 35 [(.v (.slice E_s50) (x0))] (tupAV .bool [] r) :=
  contract_s (S := fun k => prog_fine.s x0 k) CK_ok (orS_ok prog_Check.e_ok noS_ok) (by kernel_rfl) (by kernel_rfl) (by kernel_rfl) (prog_fine.ev ⟨1, fun _ => []⟩ x0 (dec .bool [])) h
noncomputable def prog_fine.e : Ent := argI (.slice E_s50) fun x0 => endU (prog_fine.u x0) (tupAV .bool [])
theorem prog_fine.e_ok : EntOK CK 35 (fun {_} => prog_fine.e) := entA_ok (argI_ok fun x0 => endU_ok fun r h => prog_fine.c x0 r h)

/-- becket prog.Alts -/
noncomputable def prog_Alts.sp : Spec := (orS 35 (fun {_} => prog_fine.e) noS)
def prog_Alts.F (fuel : Nat) : Fuel := ⟨fuel, fun r => bif r == 5 then [0, 1, 2, 4, 5, 6, 7, 8, 12, 13, 14, 15, 16, 17, 18, 19, 20, 21, 22, 23, 24, 25, 26, 27, 28] else []⟩
def prog_Alts.E0 (e5_1 : (List T_s50)) (e5_2 : Int) (s5 : Int × (List T_s34)) : List AV := [.dead, .dead, .dead, (.rs 1), .dead, .dead, .dead, .dead, .dead, (.v (.slice E_s50) (e5_1)), (.v (.int .i64) (e5_2)), (.v (.int .i64) (s5.1)), .dead, .dead, .dead, .dead, .dead, .dead, .dead, .dead, .dead, .dead, .dead, .dead, .dead, .dead, .dead, .dead, .dead]
def prog_Alts.H0 (e5_1 : (List T_s50)) (e5_2 : Int) (s5 : Int × (List T_s34)) : Heap := [(.row 36 E_s34 [] false), (.row 36 E_s34 s5.2 false)]
noncomputable def prog_Alts.M0 {Ω : Type} (fuel : Nat) (e5_1 : (List T_s50)) (e5_2 : Int)  (k : AV → Option Ω) (m : Nat) (s : Int × (List T_s34)) : Option Ω := loopK (fun env L k => evCode CK prog_Alts.sp (prog_Alts.F fuel) (cl (cl (cr (cl (cr (cr (cr (Tryd.f13.body.getD .skip)))))))) env L k) [true, true, true, false, true, true, true, true, true, false, false, false, true, true, true, true, true, true, true, true, true, true, true, true, true, true, true, true, true] 2 (blockK 0 (seqK (fun env L => evCode CK prog_Alts.sp (prog_Alts.F fuel) (cr (cr (cr (cr (Tryd.f13.body.getD .skip))))) env L (finK CK Tryd.f13 k)) (finK CK Tryd.f13 k))) m ((prog_Alts.E0 e5_1 e5_2) s) ((prog_Alts.H0 e5_1 e5_2) s)
def prog_Alts.b0 {Ω : Type} (e5_1 : (List T_s50)) (e5_2 : Int)   (k : (List T_s34) → Option Ω) (r5 : Int × (List T_s34) → Option Ω) (s5 : Int × (List T_s34)) : Option Ω :=
  bif (decide (s5.1 < e5_2)) then
    bif (idxOK s5.1 (List.length e5_1)) then
      bif ((List.getD e5_1 (Int.toNat s5.1) (0, (0, (0, (0, ()))))).1 == 41) then
        bif (decide (List.length s5.2 + List.length [(s5.1, ((IntKind.wrap .i64 (List.getD e5_1 (Int.toNat s5.1) (0, (0, (0, (0, ()))))).2.2.2.1), ()))] ≤ rowMax)) then
          r5 ((IntKind.wrap .i64 (s5.1 + 1)), (s5.2 ++ [(s5.1, ((IntKind.wrap .i64 (List.getD e5_1 (Int.toNat s5.1) (0, (0, (0, (0, ()))))).2.2.2.1), ()))]))
        else
          none
      else
        r5 ((IntKind.wrap .i64 (s5.1 + 1)), s5.2)
    else
      none
  else
    k s5.2
def prog_Alts.B0 {Ω : Type} (fuel : Nat) (e5_1 : (List T_s50)) (e5_2 : Int)  (k : (List T_s34) → Option Ω) (r5 : Int × (List T_s34) → Option Ω) (s5 : Int × (List T_s34)) : Option Ω := prog_Alts.b0 e5_1 e5_2   k r5 s5
theorem prog_Alts.l0 {Ω : Type} (fuel : Nat) (e5_1 : (List T_s50)) (e5_2 : Int)  (k : AV → Option Ω) : ∀ m, (prog_Alts.M0 fuel e5_1 e5_2  k m) = iter (prog_Alts.B0 fuel e5_1 e5_2  (fun r => k (tupAV (.slice E_s34) [] r))) m :=
  loopK_iter (envOf := (prog_Alts.E0 e5_1 e5_2)) (LOf := (prog_Alts.H0 e5_1 e5_2)) (B := prog_Alts.B0 fuel e5_1 e5_2  (fun r => k (tupAV (.slice E_s34) [] r))) (fun R s => by kernel_rfl)
def prog_Alts.sl {Ω : Type} (x0 : (List T_s50)) (lp0 : (List T_s50) → Int → Int × (List T_s34) → Option Ω) (k : (List T_s34) → Option Ω) : Option Ω :=
  (prog_fine.u x0).bind fun y1 =>
  bif (!y1) then
    k []
  else
    lp0 x0 (((List.length x0 : Nat) : Int)) (0, [])
def prog_Alts.s {Ω : Type} (fuel : Nat) (x0 : (List T_s50)) (k : (List T_s34) → Option Ω) : Option Ω := prog_Alts.sl x0 (fun e5_1 e5_2 => (iter (prog_Alts.B0 fuel e5_1 e5_2  k) fuel)) k
theorem prog_Alts.ev {Ω : Type} (fuel : Nat) (x0 : (List T_s50)) (k : AV → Option Ω) : evFn CK prog_Alts.sp (prog_Alts.F fuel) Tryd.f13 (Tryd.f13.body.getD .skip) [(.v (.slice E_s50) (x0))] k = prog_Alts.s fuel x0 (fun r => k (tupAV (.slice E_s34) [] r)) := by
  have h0 : evFn CK prog_Alts.sp (prog_Alts.F fuel) Tryd.f13 (Tryd.f13.body.getD .skip) [(.v (.slice E_s50) (x0))] k = prog_Alts.sl x0 (fun e5_1 e5_2 => (prog_Alts.M0 fuel e5_1 e5_2  k fuel)) (fun r => k (tupAV (.slice E_s34) [] r)) := by kernel_rfl
  have h1 : (fun e5_1 e5_2 => (prog_Alts.M0 fuel e5_1 e5_2  k fuel)) = (fun e5_1 e5_2 => (iter (prog_Alts.B0 fuel e5_1 e5_2  (fun r => k (tupAV (.slice E_s34) [] r))) fuel)) := funext fun e5_1 => funext fun e5_2 => prog_Alts.l0 fuel e5_1 e5_2   k fuel
  rw [h1] at h0
  exact h0
def prog_Alts.g0 {Ω : Type} (e5_1 : (List T_s50))  (k : (List T_s34) → Option Ω) : List T_s50 → Int → (List T_s34) → Option Ω
  | [], i5, a5_1 =>
    k a5_1
  | x5 :: xs5, i5, a5_1 =>
    bif (x5.1 == 41) then
      bif (decide (List.length a5_1 + List.length [(i5, ((IntKind.wrap .i64 x5.2.2.2.1), ()))] ≤ rowMax)) then
        prog_Alts.g0 e5_1  k xs5 (i5 + 1) ((a5_1 ++ [(i5, ((IntKind.wrap .i64 x5.2.2.2.1), ()))]))
      else
        none
    else
      prog_Alts.g0 e5_1  k xs5 (i5 + 1) a5_1
theorem prog_Alts.h0 {Ω : Type} (e5_1 : (List T_s50))   (k : (List T_s34) → Option Ω) (hX : ((List.length e5_1 : Nat) : Int) ≤ 9223372036854775807) : ∀ (m : Nat) (i : Int) (a : (List T_s34)), 0 ≤ i → i ≤ ((List.length e5_1 : Nat) : Int) → ((List.length e5_1 : Nat) : Int) < m + i → Le (prog_Alts.g0 e5_1  k (List.drop (Int.toNat i) e5_1) i a) (iter (prog_Alts.B0 BIG e5_1 (((List.length e5_1 : Nat) : Int))  k) m (i, a)) :=
  iter_list e5_1 (0, (0, (0, (0, ())))) (fun (i5 : Int) (a5 : (List T_s34)) => (i5, a5)) (fun xs i5 a5 => prog_Alts.g0 e5_1  k xs i5 a5) (prog_Alts.B0 BIG e5_1 (((List.length e5_1 : Nat) : Int))  k)
    (fun i5 a5 r h0 => (Le.fls h0 (Le.refl _)))
    (fun i5 xs5 a5 r h0 h1 hw ih => (Le.tru h0 (Le.tru h1 (Le.cond (Le.cond (ih _ hw ((a5 ++ [(i5, ((IntKind.wrap .i64 (List.getD e5_1 (Int.toNat i5) (0, (0, (0, (0, ()))))).2.2.2.1), ()))]))) Le.nil) (ih _ hw (a5))))))
    hX
def prog_Alts.w {Ω : Type} (x0 : (List T_s50)) (k : (List T_s34) → Option Ω) : Option Ω :=
  (prog_fine.u x0).bind fun y1 =>
  bif (!y1) then
    k []
  else
    bif decide (((List.length x0 : Nat) : Int) ≤ 4611686018427387904) then prog_Alts.g0 x0  k x0 0 ([]) else none
theorem prog_Alts.le {Ω : Type} (x0 : (List T_s50)) (k : (List T_s34) → Option Ω) : Le (prog_Alts.w x0 k) (prog_Alts.s BIG x0 k) := by
  delta prog_Alts.w prog_Alts.s prog_Alts.sl
  exact (Le.bnd fun y1 => (Le.cond (Le.refl _) (Le.gd fun hg => prog_Alts.h0 _   k (le_up (of_decide_eq_true hg)) BIG 0 ([]) (by decide) (zero_le_len _) (big_list (of_decide_eq_true hg)))))
def prog_Alts.u (x0 : (List T_s50)) : Option ((List T_s34)) := prog_Alts.w x0 some
theorem prog_Alts.c (x0 : (List T_s50)) (r : (List T_s34)) (h : prog_Alts.u x0 = some r) : Contract CK 13 [(.v (.slice E_s50) (x0))] (tupAV (.slice E_s34) [] r) :=
  contract_s (S := fun k => prog_Alts.s BIG x0 k) CK_ok (orS_ok prog_fine.e_ok noS_ok) (by kernel_rfl) (by kernel_rfl) (by kernel_rfl) (prog_Alts.ev BIG x0 (dec (.slice E_s34) [])) (prog_Alts.le x0 some r h)
noncomputable def prog_Alts.e : Ent := argI (.slice E_s50) fun x0 => endU (prog_Alts.u x0) (tupAV (.slice E_s34) [])
theorem prog_Alts.e_ok : EntOK CK 13 (fun {_} => prog_Alts.e) := entA_ok (argI_ok fun x0 => endU_ok fun r h => prog_Alts.c x0 r h)

/-- becket becketref12.Fine -/
noncomputable def ref12_Fine.sp : Spec := (orS 12 (fun {_} => ref12_Check.e) noS)
def ref12_Fine.s {Ω : Type} (x0 : (List T_s50)) (k : Bool → Option Ω) : Option Ω :=
  (ref12_Check.u x0).bind fun y1 =>
  k (y1.2 == 0)
theorem ref12_Fine.ev {Ω : Type} (fuel : Fuel) (x0 : (List T_s50)) (k : AV → Option Ω) : evFn C ref12_Fine.sp fuel Tryd.f36 (Tryd.f36.body.getD .skip) [(.v (.slice E_s50) (x0))] k = ref12_Fine.s x0 (fun r => k (tupAV .bool [] r)) := by kernel_rfl
def ref12_Fine.u (x0 : (List T_s50)) : Option (Bool) := ref12_Fine.s x0 some
theorem ref12_Fine.c (x0 : (List T_s50)) (r : Bool) (h : ref12_Fine.u x0 = some r) : Contract C 36 [(.v (.slice E_s50) (x0))] (tupAV .bool [] r) :=
  contract_s (S := fun k => ref12_Fine.s x0 k) C_ok (orS_ok ref12_Check.e_ok noS_ok) (by kernel_rfl) (by kernel_rfl) (by kernel_rfl) (ref12_Fine.ev ⟨1, fun _ => []⟩ x0 (dec .bool [])) h
noncomputable def ref12_Fine.e : Ent := argI (.slice E_s50) fun x0 => endU (ref12_Fine.u x0) (tupAV .bool [])
theorem ref12_Fine.e_ok : EntOK C 36 (fun {_} => ref12_Fine.e) := entA_ok (argI_ok fun x0 => endU_ok fun r h => ref12_Fine.c x0 r h)

/-- becket becketref12.Alts -/
noncomputable def ref12_Alts.sp : Spec := (orS 37 (fun {_} => ref12_Alting.e) (orS 36 (fun {_} => ref12_Fine.e) noS))
def ref12_Alts.F (fuel : Nat) : Fuel := ⟨fuel, fun r => bif r == 5 then [1, 2, 5, 6, 7, 8, 9, 10, 11, 12, 13, 14, 15, 16, 17, 18, 19, 20, 21, 22, 23, 24, 25, 26, 27, 28, 29, 30] else []⟩
def ref12_Alts.E0 (e5_1 : (List T_s50)) (s5 : Int × (List T_s34)) : List AV := [(.v (.slice E_s50) (e5_1)), .dead, .dead, (.rs 1), (.v (.int .i64) (s5.1)), .dead, .dead, .dead, .dead, .dead, .dead, .dead, .dead, .dead, .dead, .dead, .dead, .dead, .dead, .dead, .dead, .dead, .dead, .dead, .dead, .dead, .dead, .dead, .dead, .dead, .dead]
def ref12_Alts.H0 (e5_1 : (List T_s50)) (s5 : Int × (List T_s34)) : Heap := [(.row 35 E_s34 [] false), (.row 35 E_s34 s5.2 false)]
noncomputable def ref12_Alts.M0 {Ω : Type} (fuel : Nat) (e5_1 : (List T_s50))  (k : AV → Option Ω) (m : Nat) (s : Int × (List T_s34)) : Option Ω := loopK (fun env L k => evCode C ref12_Alts.sp (ref12_Alts.F fuel) (cl (cl (cr (cl (cr (cr (cr (Tryd.f14.body.getD .skip)))))))) env L k) [false, true, true, false, false, true, true, true, true, true, true, true, true, true, true, true, true, true, true, true, true, true, true, true, true, true, true, true, true, true, true] 2 (blockK 0 (seqK (fun env L => evCode C ref12_Alts.sp (ref12_Alts.F fuel) (cr (cr (cr (cr (Tryd.f14.body.getD .skip))))) env L (finK C Tryd.f14 k)) (finK C Tryd.f14 k))) m ((ref12_Alts.E0 e5_1) s) ((ref12_Alts.H0 e5_1) s)
def ref12_Alts.b0 {Ω : Type} (e5_1 : (List T_s50))   (k : (List T_s34) → Option Ω) (r5 : Int × (List T_s34) → Option Ω) (s5 : Int × (List T_s34)) : Option Ω :=
  bif (decide (s5.1 < ((List.length e5_1 : Nat) : Int))) then
    bif (idxOK s5.1 (List.length e5_1)) then
      bif (ref12_Alting.t ((List.getD e5_1 (Int.toNat s5.1) (0, (0, (0, (0, ()))))))) then
        bif (idxOK s5.1 (List.length e5_1)) then
          bif (decide (List.length s5.2 + List.length [(s5.1, ((IntKind.wrap .i64 (List.getD e5_1 (Int.toNat s5.1) (0, (0, (0, (0, ()))))).2.2.2.1), ()))] ≤ rowMax)) then
            r5 ((IntKind.wrap .i64 (s5.1 + 1)), (s5.2 ++ [(s5.1, ((IntKind.wrap .i64 (List.getD e5_1 (Int.toNat s5.1) (0, (0, (0, (0, ()))))).2.2.2.1), ()))]))
          else
            none
        else
          none
      else
        r5 ((IntKind.wrap .i64 (s5.1 + 1)), s5.2)
    else
      none
  else
    k s5.2
def ref12_Alts.B0 {Ω : Type} (fuel : Nat) (e5_1 : (List T_s50))  (k : (List T_s34) → Option Ω) (r5 : Int × (List T_s34) → Option Ω) (s5 : Int × (List T_s34)) : Option Ω := ref12_Alts.b0 e5_1   k r5 s5
theorem ref12_Alts.l0 {Ω : Type} (fuel : Nat) (e5_1 : (List T_s50))  (k : AV → Option Ω) : ∀ m, (ref12_Alts.M0 fuel e5_1  k m) = iter (ref12_Alts.B0 fuel e5_1  (fun r => k (tupAV (.slice E_s34) [] r))) m :=
  loopK_iter (envOf := (ref12_Alts.E0 e5_1)) (LOf := (ref12_Alts.H0 e5_1)) (B := ref12_Alts.B0 fuel e5_1  (fun r => k (tupAV (.slice E_s34) [] r))) (fun R s => by kernel_rfl)
def ref12_Alts.sl {Ω : Type} (x0 : (List T_s50)) (lp0 : (List T_s50) → Int × (List T_s34) → Option Ω) (k : (List T_s34) → Option Ω) : Option Ω :=
  (ref12_Fine.u x0).bind fun y1 =>
  bif (!y1) then
    k []
  else
    lp0 x0 (0, [])
def ref12_Alts.s {Ω : Type} (fuel : Nat) (x0 : (List T_s50)) (k : (List T_s34) → Option Ω) : Option Ω := ref12_Alts.sl x0 (fun e5_1 => (iter (ref12_Alts.B0 fuel e5_1  k) fuel)) k
theorem ref12_Alts.ev {Ω : Type} (fuel : Nat) (x0 : (List T_s50)) (k : AV → Option Ω) : evFn C ref12_Alts.sp (ref12_Alts.F fuel) Tryd.f14 (Tryd.f14.body.getD .skip) [(.v (.slice E_s50) (x0))] k = ref12_Alts.s fuel x0 (fun r => k (tupAV (.slice E_s34) [] r)) := by
  have h0 : evFn C ref12_Alts.sp (ref12_Alts.F fuel) Tryd.f14 (Tryd.f14.body.getD .skip) [(.v (.slice E_s50) (x0))] k = ref12_Alts.sl x0 (fun e5_1 => (ref12_Alts.M0 fuel e5_1  k fuel)) (fun r => k (tupAV (.slice E_s34) [] r)) := by kernel_rfl
  have h1 : (fun e5_1 => (ref12_Alts.M0 fuel e5_1  k fuel)) = (fun e5_1 => (iter (ref12_Alts.B0 fuel e5_1  (fun r => k (tupAV (.slice E_s34) [] r))) fuel)) := funext fun e5_1 => ref12_Alts.l0 fuel e5_1   k fuel
  rw [h1] at h0
  exact h0
def ref12_Alts.g0 {Ω : Type} (e5_1 : (List T_s50))  (k : (List T_s34) → Option Ω) : List T_s50 → Int → (List T_s34) → Option Ω
  | [], i5, a5_1 =>
    k a5_1
  | x5 :: xs5, i5, a5_1 =>
    bif (ref12_Alting.t (x5)) then
      bif (decide (List.length a5_1 + List.length [(i5, ((IntKind.wrap .i64 x5.2.2.2.1), ()))] ≤ rowMax)) then
        ref12_Alts.g0 e5_1  k xs5 (i5 + 1) ((a5_1 ++ [(i5, ((IntKind.wrap .i64 x5.2.2.2.1), ()))]))
      else
        none
    else
      ref12_Alts.g0 e5_1  k xs5 (i5 + 1) a5_1
theorem ref12_Alts.h0 {Ω : Type} (e5_1 : (List T_s50))   (k : (List T_s34) → Option Ω) (hX : ((List.length e5_1 : Nat) : Int) ≤ 9223372036854775807) : ∀ (m : Nat) (i : Int) (a : (List T_s34)), 0 ≤ i → i ≤ ((List.length e5_1 : Nat) : Int) → ((List.length e5_1 : Nat) : Int) < m + i → Le (ref12_Alts.g0 e5_1  k (List.drop (Int.toNat i) e5_1) i a) (iter (ref12_Alts.B0 BIG e5_1  k) m (i, a)) :=
  iter_list e5_1 (0, (0, (0, (0, ())))) (fun (i5 : Int) (a5 : (List T_s34)) => (i5, a5)) (fun xs i5 a5 => ref12_Alts.g0 e5_1  k xs i5 a5) (ref12_Alts.B0 BIG e5_1  k)
    (fun i5 a5 r h0 => (Le.fls h0 (Le.refl _)))
    (fun i5 xs5 a5 r h0 h1 hw ih => (Le.tru h0 (Le.tru h1 (Le.cond (Le.tru h1 (Le.cond (ih _ hw ((a5 ++ [(i5, ((IntKind.wrap .i64 (List.getD e5_1 (Int.toNat i5) (0, (0, (0, (0, ()))))).2.2.2.1), ()))]))) Le.nil)) (ih _ hw (a5))))))
    hX
def ref12_Alts.w {Ω : Type} (x0 : (List T_s50)) (k : (List T_s34) → Option Ω) : Option Ω :=
  (ref12_Fine.u x0).bind fun y1 =>
  bif (!y1) then
    k []
  else
    bif decide (((List.length x0 : Nat) : Int) ≤ 4611686018427387904) then ref12_Alts.g0 x0  k x0 0 ([]) else none
theorem ref12_Alts.le {Ω : Type} (x0 : (List T_s50)) (k : (List T_s34) → Option Ω) : Le (ref12_Alts.w x0 k) (ref12_Alts.s BIG x0 k) := by
  delta ref12_Alts.w ref12_Alts.s ref12_Alts.sl
  exact (Le.bnd fun y1 => (Le.cond (Le.refl _) (Le.gd fun hg => ref12_Alts.h0 _   k (le_up (of_decide_eq_true hg)) BIG 0 ([]) (by decide) (zero_le_len _) (big_list (of_decide_eq_true hg)))))
def ref12_Alts.u (x0 : (List T_s50)) : Option ((List T_s34)) := ref12_Alts.w x0 some
theorem ref12_Alts.c (x0 : (List T_s50)) (r : (List T_s34)) (h : ref12_Alts.u x0 = some r) : Contract C 14 [(.v (.slice E_s50) (x0))] (tupAV (.slice E_s34) [] r) :=
  contract_s (S := fun k => ref12_Alts.s BIG x0 k) C_ok (orS_ok ref12_Alting.e_ok (orS_ok ref12_Fine.e_ok noS_ok)) (by kernel_rfl) (by kernel_rfl) (by kernel_rfl) (ref12_Alts.ev BIG x0 (dec (.slice E_s34) [])) (ref12_Alts.le x0 some r h)
noncomputable def ref12_Alts.e : Ent := argI (.slice E_s50) fun x0 => endU (ref12_Alts.u x0) (tupAV (.slice E_s34) [])
theorem ref12_Alts.e_ok : EntOK C 14 (fun {_} => ref12_Alts.e) := entA_ok (argI_ok fun x0 => endU_ok fun r h => ref12_Alts.c x0 r h)

/-- becket prog.Bytes -/
noncomputable def prog_Bytes.sp : Spec := (fxS 41 (fun {_} => strings_Builder_String.fx) (orS 40 (fun {_} => instr_Bytes.e) (fxS 39 (fun {_} => strings_Builder_WriteString.fx) (fxS 38 (fun {_} => strings_Builder_WriteByte.fx) (orS 35 (fun {_} => prog_fine.e) noS)))))
def prog_Bytes.F (fuel : Nat) : Fuel := ⟨fuel, fun r => bif r == 6 then [0, 1, 2, 4, 5, 6, 7, 8, 9, 10, 11, 12, 16, 17, 18, 19, 20, 21, 22, 23] else []⟩
def prog_Bytes.E0 (e6_1 : (List T_s50)) (e6_2 : Int) (s6 : Int × ByteArray) : List AV := [.dead, .dead, .dead, (.ref 0 []), .dead, .dead, .dead, .dead, .dead, .dead, .dead, .dead, .dead, (.v (.slice E_s50) (e6_1)), (.v (.int .i64) (e6_2)), (.v (.int .i64) (s6.1)), .dead, .dead, .dead, .dead, .dead, .dead, .dead, .dead]
def prog_Bytes.H0 (e6_1 : (List T_s50)) (e6_2 : Int) (s6 : Int × ByteArray) : Heap := [(.obj (.bld 72 5 s6.2))]
noncomputable def prog_Bytes.M0 {Ω : Type} (fuel : Nat) (e6_1 : (List T_s50)) (e6_2 : Int)  (k : AV → Option Ω) (m : Nat) (s : Int × ByteArray) : Option Ω := loopK (fun env L k => evCode CK prog_Bytes.sp (prog_Bytes.F fuel) (cl (cl (cr (cl (cr (cr (cr (cr (Tryd.f15.body.getD .skip))))))))) env L k) [true, true, true, false, true, true, true, true, true, true, true, true, true, false, false, false, true, true, true, true, true, true, true, true] 1 (blockK 0 (seqK (fun env L => evCode CK prog_Bytes.sp (prog_Bytes.F fuel) (cr (cr (cr (cr (cr (Tryd.f15.body.getD .skip)))))) env L (finK CK Tryd.f15 k)) (finK CK Tryd.f15 k))) m ((prog_Bytes.E0 e6_1 e6_2) s) ((prog_Bytes.H0 e6_1 e6_2) s)
def prog_Bytes.b0 {Ω : Type} (e6_1 : (List T_s50)) (e6_2 : Int)   (k : ByteArray → Option Ω) (r6 : Int × ByteArray → Option Ω) (s6 : Int × ByteArray) : Option Ω :=
  bif (decide (s6.1 < e6_2)) then
    bif (idxOK s6.1 (List.length e6_1)) then
      bif (decide (ByteArray.size s6.2 + ByteArray.size (instr_Bytes.t ((List.getD e6_1 (Int.toNat s6.1) (0, (0, (0, (0, ()))))))) ≤ rowMax)) then
        r6 ((IntKind.wrap .i64 (s6.1 + 1)), (s6.2 ++ (instr_Bytes.t ((List.getD e6_1 (Int.toNat s6.1) (0, (0, (0, (0, ())))))))))
      else
        none
    else
      none
  else
    k s6.2
def prog_Bytes.B0 {Ω : Type} (fuel : Nat) (e6_1 : (List T_s50)) (e6_2 : Int)  (k : ByteArray → Option Ω) (r6 : Int × ByteArray → Option Ω) (s6 : Int × ByteArray) : Option Ω := prog_Bytes.b0 e6_1 e6_2   k r6 s6
theorem prog_Bytes.l0 {Ω : Type} (fuel : Nat) (e6_1 : (List T_s50)) (e6_2 : Int)  (k : AV → Option Ω) : ∀ m, (prog_Bytes.M0 fuel e6_1 e6_2  k m) = iter (prog_Bytes.B0 fuel e6_1 e6_2  (fun r => k (tupAV .str [] r))) m :=
  loopK_iter (envOf := (prog_Bytes.E0 e6_1 e6_2)) (LOf := (prog_Bytes.H0 e6_1 e6_2)) (B := prog_Bytes.B0 fuel e6_1 e6_2  (fun r => k (tupAV .str [] r))) (fun R s => by kernel_rfl)
def prog_Bytes.sl {Ω : Type} (x0 : (List T_s50)) (lp0 : (List T_s50) → Int → Int × ByteArray → Option Ω) (k : ByteArray → Option Ω) : Option Ω :=
  (prog_fine.u x0).bind fun y1 =>
  bif (!y1) then
    k (bs [])
  else
    bif ((decide ((0 : Int) ≤ (IntKind.wrap .u8 ((List.length x0 : Nat) : Int))) && decide ((IntKind.wrap .u8 ((List.length x0 : Nat) : Int)) < 256)) && decide (ByteArray.size (bs []) ≤ rowMax)) then
      lp0 x0 (((List.length x0 : Nat) : Int)) (0, (ByteArray.push (bs []) (UInt8.ofNat (Int.toNat (IntKind.wrap .u8 ((List.length x0 : Nat) : Int))))))
    else
      none
def prog_Bytes.s {Ω : Type} (fuel : Nat) (x0 : (List T_s50)) (k : ByteArray → Option Ω) : Option Ω := prog_Bytes.sl x0 (fun e6_1 e6_2 => (iter (prog_Bytes.B0 fuel e6_1 e6_2  k) fuel)) k
theorem prog_Bytes.ev {Ω : Type} (fuel : Nat) (x0 : (List T_s50)) (k : AV → Option Ω) : evFn CK prog_Bytes.sp (prog_Bytes.F fuel) Tryd.f15 (Tryd.f15.body.getD .skip) [(.v (.slice E_s50) (x0))] k = prog_Bytes.s fuel x0 (fun r => k (tupAV .str [] r)) := by
  have h0 : evFn CK prog_Bytes.sp (prog_Bytes.F fuel) Tryd.f15 (Tryd.f15.body.getD .skip) [(.v (.slice E_s50) (x0))] k = prog_Bytes.sl x0 (fun e6_1 e6_2 => (prog_Bytes.M0 fuel e6_1 e6_2  k fuel)) (fun r => k (tupAV .str [] r)) := by kernel_rfl
  have h1 : (fun e6_1 e6_2 => (prog_Bytes.M0 fuel e6_1 e6_2  k fuel)) = (fun e6_1 e6_2 => (iter (prog_Bytes.B0 fuel e6_1 e6_2  (fun r => k (tupAV .str [] r))) fuel)) := funext fun e6_1 => funext fun e6_2 => prog_Bytes.l0 fuel e6_1 e6_2   k fuel
  rw [h1] at h0
  exact h0
def prog_Bytes.g0 {Ω : Type} (e6_1 : (List T_s50))  (k : ByteArray → Option Ω) : List T_s50 → ByteArray → Option Ω
  | [], a6_1 =>
    k a6_1
  | x6 :: xs6, a6_1 =>
    bif (decide (ByteArray.size a6_1 + ByteArray.size (instr_Bytes.t (x6)) ≤ rowMax)) then
      prog_Bytes.g0 e6_1  k xs6 ((a6_1 ++ (instr_Bytes.t (x6))))
    else
      none
theorem prog_Bytes.h0 {Ω : Type} (e6_1 : (List T_s50))   (k : ByteArray → Option Ω) (hX : ((List.length e6_1 : Nat) : Int) ≤ 9223372036854775807) : ∀ (m : Nat) (i : Int) (a : ByteArray), 0 ≤ i → i ≤ ((List.length e6_1 : Nat) : Int) → ((List.length e6_1 : Nat) : Int) < m + i → Le (prog_Bytes.g0 e6_1  k (List.drop (Int.toNat i) e6_1) a) (iter (prog_Bytes.B0 BIG e6_1 (((List.length e6_1 : Nat) : Int))  k) m (i, a)) :=
  iter_list e6_1 (0, (0, (0, (0, ())))) (fun (i6 : Int) (a6 : ByteArray) => (i6, a6)) (fun xs i6 a6 => prog_Bytes.g0 e6_1  k xs a6) (prog_Bytes.B0 BIG e6_1 (((List.length e6_1 : Nat) : Int))  k)
    (fun i6 a6 r h0 => (Le.fls h0 (Le.refl _)))
    (fun i6 xs6 a6 r h0 h1 hw ih => (Le.tru h0 (Le.tru h1 (Le.cond (ih _ hw ((a6 ++ (instr_Bytes.t ((List.getD e6_1 (Int.toNat i6) (0, (0, (0, (0, ())))))))))) Le.nil))))
    hX
def prog_Bytes.w {Ω : Type} (x0 : (List T_s50)) (k : ByteArray → Option Ω) : Option Ω :=
  (prog_fine.u x0).bind fun y1 =>
  bif (!y1) then
    k (bs [])
  else
    bif ((decide ((0 : Int) ≤ (IntKind.wrap .u8 ((List.length x0 : Nat) : Int))) && decide ((IntKind.wrap .u8 ((List.length x0 : Nat) : Int)) < 256)) && decide (ByteArray.size (bs []) ≤ rowMax)) then
      bif decide (((List.length x0 : Nat) : Int) ≤ 4611686018427387904) then prog_Bytes.g0 x0  k x0 ((ByteArray.push (bs []) (UInt8.ofNat (Int.toNat (IntKind.wrap .u8 ((List.length x0 : Nat) : Int)))))) else none
    else
      none
theorem prog_Bytes.le {Ω : Type} (x0 : (List T_s50)) (k : ByteArray → Option Ω) : Le (prog_Bytes.w x0 k) (prog_Bytes.s BIG x0 k) := by
  delta prog_Bytes.w prog_Bytes.s prog_Bytes.sl
  exact (Le.bnd fun y1 => (Le.cond (Le.refl _) (Le.cond (Le.gd fun hg => prog_Bytes.h0 _   k (le_up (of_decide_eq_true hg)) BIG 0 ((ByteArray.push (bs []) (UInt8.ofNat (Int.toNat (IntKind.wrap .u8 ((List.length x0 : Nat) : Int)))))) (by decide) (zero_le_len _) (big_list (of_decide_eq_true hg))) Le.nil)))
def prog_Bytes.u (x0 : (List T_s50)) : Option (ByteArray) := prog_Bytes.w x0 some
theorem prog_Bytes.c (x0 : (List T_s50)) (r : ByteArray) (h : prog_Bytes.u x0 = some r) : Contract CK 15 [(.v (.slice E_s50) (x0))] (tupAV .str [] r) :=
  contract_s (S := fun k => prog_Bytes.s BIG x0 k) CK_ok (fxS_ok (FxOK.mono le_C_CK strings_Builder_String.fx_ok) (orS_ok (instr_Bytes.e_ok.mono le_C_CK) (fxS_ok (FxOK.mono le_C_CK strings_Builder_WriteString.fx_ok) (fxS_ok (FxOK.mono le_C_CK strings_Builder_WriteByte.fx_ok) (orS_ok prog_fine.e_ok noS_ok))))) (by kernel_rfl) (by kernel_rfl) (by kernel_rfl) (prog_Bytes.ev BIG x0 (dec .str [])) (prog_Bytes.le x0 some r h)
noncomputable def prog_Bytes.e : Ent := argI (.slice E_s50) fun x0 => endU (prog_Bytes.u x0) (tupAV .str [])
theorem prog_Bytes.e_ok : EntOK CK 15 (fun {_} => prog_Bytes.e) := entA_ok (argI_ok fun x0 => endU_ok fun r h => prog_Bytes.c x0 r h)

end Go.Proofs.YthamolhikhcilaaDoor.K

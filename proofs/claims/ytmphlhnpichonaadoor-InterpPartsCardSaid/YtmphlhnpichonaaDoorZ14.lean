/- What functions of the program come to, plainly. -/
import Derived.Test.YtmphlhnpichonaaDoorZ14a
set_option maxRecDepth 100000
set_option linter.unusedVariables false
namespace Go.Proofs.YtmphlhnpichonaaDoor.K
open Go Go.RowKit

/-- becket becketref14.Step -/
noncomputable def ref14_Step.sp : Spec := (orS 68 (fun {_} => ref14_plain.e) (orS 67 (fun {_} => ref09_Of.e) (orS 66 (fun {_} => ref12_Fine.e) (orS 18 (fun {_} => ref13_Fine.e) noS))))
def ref14_Step.s {Ω : Type} (x0 : (List (Int × (Int × (Int × (Int × Unit)))))) (x1 : (Int × (Bool × ((List Int) × ((List Int) × (Int × ((List Int) × Unit))))))) (k : (Int × (Bool × ((List Int) × ((List Int) × (Int × ((List Int) × Unit)))))) × Int × Int → Option Ω) : Option Ω :=
  (ref12_Fine.u x0).bind fun y1 =>
  bif (!y1) then
    k (x1, 3, 1)
  else
    (ref13_Fine.u x1).bind fun y2 =>
    bif (!y2) then
      k (x1, 3, 1)
    else
      bif (x1.1 == ((List.length x0 : Nat) : Int)) then
        k (x1, 2, 0)
      else
        bif (decide (x1.1 > ((List.length x0 : Nat) : Int))) then
          k (x1, 3, 18)
        else
          bif (idxOK x1.1 (List.length x0)) then
            (ref09_Of.u ((IntKind.wrap .i64 (List.getD x0 (Int.toNat x1.1) (0, (0, (0, (0, ()))))).1))).bind fun y3 =>
            bif (y3.2.2.1 == 2) then
              k (x1, 1, 0)
            else
              bif (y3.2.2.1 == 4) then
                k (x1, 1, 0)
              else
                bif (y3.2.2.1 == 3) then
                  k (x1, 3, 18)
                else
                  bif ((y3.1).data.toList == ((bs [104, 97, 108, 116])).data.toList) then
                    k (x1, 2, 0)
                  else
                    bif ((y3.1).data.toList == ((bs [102, 97, 105, 108])).data.toList) then
                      let v4 : Int := (IntKind.wrap .i64 (256 + (IntKind.wrap .i64 (List.getD x0 (Int.toNat x1.1) (0, (0, (0, (0, ()))))).2.1)))
                      k (x1, 3, v4)
                    else
                      (ref14_plain.u ((List.getD x0 (Int.toNat x1.1) (0, (0, (0, (0, ())))))) x1).bind fun y5 =>
                      bif (y5.2 != 0) then
                        k (x1, 3, y5.2)
                      else
                        k (y5.1, 0, 0)
          else
            none
theorem ref14_Step.ev {Ω : Type} (fuel : Fuel) (x0 : (List (Int × (Int × (Int × (Int × Unit)))))) (x1 : (Int × (Bool × ((List Int) × ((List Int) × (Int × ((List Int) × Unit))))))) (k : AV → Option Ω) : evFn C (fun {_} => ref14_Step.sp) fuel Tryd.f38 (Tryd.f38.body.getD .skip) [(.v (.slice (.pair (.int .u8) (.pair (.int .u8) (.pair (.int .u8) (.pair (.int .u8) .unit))))) (x0)), (.v (.pair (.int .i64) (.pair .bool (.pair (.arr 8 (.int .i64)) (.pair (.arr 16 (.int .i64)) (.pair (.int .i64) (.pair (.arr 8 (.int .i64)) .unit)))))) (x1))] k = ref14_Step.s x0 x1 (fun r => k (tupAV (.pair (.int .i64) (.pair .bool (.pair (.arr 8 (.int .i64)) (.pair (.arr 16 (.int .i64)) (.pair (.int .i64) (.pair (.arr 8 (.int .i64)) .unit)))))) [(.int .i64), (.int .i64)] r)) := by kernel_rfl
def ref14_Step.u (x0 : (List (Int × (Int × (Int × (Int × Unit)))))) (x1 : (Int × (Bool × ((List Int) × ((List Int) × (Int × ((List Int) × Unit))))))) : Option ((Int × (Bool × ((List Int) × ((List Int) × (Int × ((List Int) × Unit)))))) × Int × Int) := ref14_Step.s x0 x1 some
theorem ref14_Step.c (x0 : (List (Int × (Int × (Int × (Int × Unit)))))) (x1 : (Int × (Bool × ((List Int) × ((List Int) × (Int × ((List Int) × Unit))))))) (r : (Int × (Bool × ((List Int) × ((List Int) × (Int × ((List Int) × Unit)))))) × Int × Int) (h : ref14_Step.u x0 x1 = some r) : Contract C 38 [(.v (.slice (.pair (.int .u8) (.pair (.int .u8) (.pair (.int .u8) (.pair (.int .u8) .unit))))) (x0)), (.v (.pair (.int .i64) (.pair .bool (.pair (.arr 8 (.int .i64)) (.pair (.arr 16 (.int .i64)) (.pair (.int .i64) (.pair (.arr 8 (.int .i64)) .unit)))))) (x1))] (tupAV (.pair (.int .i64) (.pair .bool (.pair (.arr 8 (.int .i64)) (.pair (.arr 16 (.int .i64)) (.pair (.int .i64) (.pair (.arr 8 (.int .i64)) .unit)))))) [(.int .i64), (.int .i64)] r) :=
  contract_s (S := fun k => ref14_Step.s x0 x1 k) C_ok (orS_ok ref14_plain.e_ok (orS_ok ref09_Of.e_ok (orS_ok ref12_Fine.e_ok (orS_ok ref13_Fine.e_ok noS_ok)))) (by kernel_rfl) (by kernel_rfl) (by kernel_rfl) (ref14_Step.ev ⟨1, fun _ => []⟩ x0 x1 (dec (.pair (.int .i64) (.pair .bool (.pair (.arr 8 (.int .i64)) (.pair (.arr 16 (.int .i64)) (.pair (.int .i64) (.pair (.arr 8 (.int .i64)) .unit)))))) [(.int .i64), (.int .i64)])) h
noncomputable def ref14_Step.e : Ent := argI (.slice (.pair (.int .u8) (.pair (.int .u8) (.pair (.int .u8) (.pair (.int .u8) .unit))))) fun x0 => argI (.pair (.int .i64) (.pair .bool (.pair (.arr 8 (.int .i64)) (.pair (.arr 16 (.int .i64)) (.pair (.int .i64) (.pair (.arr 8 (.int .i64)) .unit)))))) fun x1 => endU (ref14_Step.u x0 x1) (tupAV (.pair (.int .i64) (.pair .bool (.pair (.arr 8 (.int .i64)) (.pair (.arr 16 (.int .i64)) (.pair (.int .i64) (.pair (.arr 8 (.int .i64)) .unit)))))) [(.int .i64), (.int .i64)])
theorem ref14_Step.e_ok : EntOK C 38 (fun {_} => ref14_Step.e) := entA_ok (argI_ok fun x0 => argI_ok fun x1 => endU_ok fun r h => ref14_Step.c x0 x1 r h)

/-- becket becketlaw14.InterpSteps -/
noncomputable def law14_InterpSteps.sp : Spec := (orS 38 (fun {_} => ref14_Step.e) (orS 37 (fun {_} => interp_Step.e) (orS 36 (fun {_} => law14_alive.e) noS)))
def law14_InterpSteps.s {Ω : Type} (x0 : (List (Int × (Int × (Int × (Int × Unit)))))) (x1 : (Int × (Bool × ((List Int) × ((List Int) × (Int × ((List Int) × Unit))))))) (k : Bool → Option Ω) : Option Ω :=
  bif (decide (((List.length x0 : Nat) : Int) > 70)) then
    law14_alive.u.bind fun y1 =>
    k y1
  else
    (interp_Step.u x0 x1).bind fun y2 =>
    (ref14_Step.u x0 x1).bind fun y3 =>
    let v4 : Bool := (eqI (.pair (.int .i64) (.pair .bool (.pair (.arr 8 (.int .i64)) (.pair (.arr 16 (.int .i64)) (.pair (.int .i64) (.pair (.arr 8 (.int .i64)) .unit)))))) y2.1 y3.1)
    bif v4 then
      bif (y2.2.1 == y3.2.1) then
        bif (y2.2.2 == y3.2.2) then
          law14_alive.u.bind fun y5 =>
          k y5
        else
          k false
      else
        k false
    else
      k false
theorem law14_InterpSteps.ev {Ω : Type} (fuel : Fuel) (x0 : (List (Int × (Int × (Int × (Int × Unit)))))) (x1 : (Int × (Bool × ((List Int) × ((List Int) × (Int × ((List Int) × Unit))))))) (k : AV → Option Ω) : evFn CKM (fun {_} => law14_InterpSteps.sp) fuel Tryd.f7 (Tryd.f7.body.getD .skip) [(.v (.slice (.pair (.int .u8) (.pair (.int .u8) (.pair (.int .u8) (.pair (.int .u8) .unit))))) (x0)), (.v (.pair (.int .i64) (.pair .bool (.pair (.arr 8 (.int .i64)) (.pair (.arr 16 (.int .i64)) (.pair (.int .i64) (.pair (.arr 8 (.int .i64)) .unit)))))) (x1))] k = law14_InterpSteps.s x0 x1 (fun r => k (tupAV .bool [] r)) := by kernel_rfl
def law14_InterpSteps.u (x0 : (List (Int × (Int × (Int × (Int × Unit)))))) (x1 : (Int × (Bool × ((List Int) × ((List Int) × (Int × ((List Int) × Unit))))))) : Option (Bool) := law14_InterpSteps.s x0 x1 some
theorem law14_InterpSteps.c (x0 : (List (Int × (Int × (Int × (Int × Unit)))))) (x1 : (Int × (Bool × ((List Int) × ((List Int) × (Int × ((List Int) × Unit))))))) (r : Bool) (h : law14_InterpSteps.u x0 x1 = some r) : Contract CKM 7 [(.v (.slice (.pair (.int .u8) (.pair (.int .u8) (.pair (.int .u8) (.pair (.int .u8) .unit))))) (x0)), (.v (.pair (.int .i64) (.pair .bool (.pair (.arr 8 (.int .i64)) (.pair (.arr 16 (.int .i64)) (.pair (.int .i64) (.pair (.arr 8 (.int .i64)) .unit)))))) (x1))] (tupAV .bool [] r) :=
  contract_s (S := fun k => law14_InterpSteps.s x0 x1 k) CKM_ok (orS_ok (ref14_Step.e_ok.mono le_C_CKM) (orS_ok interp_Step.e_ok (orS_ok law14_alive.e_ok noS_ok))) (by kernel_rfl) (by kernel_rfl) (by kernel_rfl) (law14_InterpSteps.ev ⟨1, fun _ => []⟩ x0 x1 (dec .bool [])) h
noncomputable def law14_InterpSteps.e : Ent := argI (.slice (.pair (.int .u8) (.pair (.int .u8) (.pair (.int .u8) (.pair (.int .u8) .unit))))) fun x0 => argI (.pair (.int .i64) (.pair .bool (.pair (.arr 8 (.int .i64)) (.pair (.arr 16 (.int .i64)) (.pair (.int .i64) (.pair (.arr 8 (.int .i64)) .unit)))))) fun x1 => endU (law14_InterpSteps.u x0 x1) (tupAV .bool [])
theorem law14_InterpSteps.e_ok : EntOK CKM 7 (fun {_} => law14_InterpSteps.e) := entA_ok (argI_ok fun x0 => argI_ok fun x1 => endU_ok fun r h => law14_InterpSteps.c x0 x1 r h)

/-- becket becketref14.Run -/
noncomputable def ref14_Run.sp : Spec := (orS 38 (fun {_} => ref14_Step.e) noS)
def ref14_Run.F (fuel : Nat) : Fuel := ⟨fuel, fun r => bif r == 2 then [1, 3, 5] else []⟩
def ref14_Run.b0 {Ω : Type} (e2_1 : (List (Int × (Int × (Int × (Int × Unit)))))) (e2_2 : Int) (e2_3 : (List Int)) (e2_4 : (List Int))   (k : (Int × (Bool × ((List Int) × ((List Int) × (Int × ((List Int) × Unit)))))) × Int × Int × Int → Option Ω) (r2 : Int × (Int × (Bool × ((List Int) × ((List Int) × (Int × ((List Int) × Unit)))))) → Option Ω) (s2 : Int × (Int × (Bool × ((List Int) × ((List Int) × (Int × ((List Int) × Unit))))))) : Option Ω :=
  bif (decide (s2.1 < e2_2)) then
    bif (decide (s2.1 < 10000)) then
      (ref14_Step.u e2_1 s2.2).bind fun y1 =>
      bif (y1.2.1 != 0) then
        k (y1.1, y1.2.1, y1.2.2, s2.1)
      else
        r2 ((IntKind.wrap .i64 (s2.1 + 1)), y1.1)
    else
      k (s2.2, 0, 0, s2.1)
  else
    k (s2.2, 0, 0, s2.1)
def ref14_Run.B0 {Ω : Type} (fuel : Nat) (e2_1 : (List (Int × (Int × (Int × (Int × Unit)))))) (e2_2 : Int) (e2_3 : (List Int)) (e2_4 : (List Int))  (k : (Int × (Bool × ((List Int) × ((List Int) × (Int × ((List Int) × Unit)))))) × Int × Int × Int → Option Ω) (r2 : Int × (Int × (Bool × ((List Int) × ((List Int) × (Int × ((List Int) × Unit)))))) → Option Ω) (s2 : Int × (Int × (Bool × ((List Int) × ((List Int) × (Int × ((List Int) × Unit))))))) : Option Ω := ref14_Run.b0 e2_1 e2_2 e2_3 e2_4   k r2 s2
theorem ref14_Run.l0 {Ω : Type} (fuel : Nat) (e2_1 : (List (Int × (Int × (Int × (Int × Unit)))))) (e2_2 : Int) (e2_3 : (List Int)) (e2_4 : (List Int))  (k : AV → Option Ω) : ∀ m, (fun s => loopK (fun env L k => evCode C (fun {_} => ref14_Run.sp) (ref14_Run.F fuel) (cl (cl (cl (cr (cr (Tryd.f40.body.getD .skip)))))) env L k) [false, true, false, true, false, true, false, false, false, false, false, true, true, true, true, true, true, true, true, true, true, true, true, true, true, true, true, true, true, true, true, true, true, true, true, true, true, true, true] 2 (blockK 0 (seqK (fun env L => evCode C (fun {_} => ref14_Run.sp) (ref14_Run.F fuel) (cr (cr (cr (Tryd.f40.body.getD .skip)))) env L (finK C Tryd.f40 k)) (finK C Tryd.f40 k))) m ((fun s2 => [(.v (.slice (.pair (.int .u8) (.pair (.int .u8) (.pair (.int .u8) (.pair (.int .u8) .unit))))) (e2_1)), .dead, (.v (.int .i64) (e2_2)), .dead, (.ref 0 []), .dead, (.ref 1 []), (.v (.int .i64) (0)), (.v (.int .i64) (0)), (.v (.int .i64) (0)), (.v (.int .i64) (s2.1)), .dead, .dead, .dead, .dead, .dead, .dead, .dead, .dead, .dead, .dead, .dead, .dead, .dead, .dead, .dead, .dead, .dead, .dead, .dead, .dead, .dead, .dead, .dead, .dead, .dead, .dead, .dead, .dead]) s) ((fun s2 => [(.box (.pair (.int .i64) (.pair .bool (.pair (.arr 8 (.int .i64)) (.pair (.arr 16 (.int .i64)) (.pair (.int .i64) (.pair (.arr 8 (.int .i64)) .unit)))))) s2.2 false), (.box (.pair (.int .i64) (.pair .bool (.pair (.arr 8 (.int .i64)) (.pair (.arr 16 (.int .i64)) (.pair (.int .i64) (.pair (.arr 8 (.int .i64)) .unit)))))) (0, (false, (e2_3, (e2_4, (0, (e2_3, ())))))) false)]) s)) = iter (ref14_Run.B0 fuel e2_1 e2_2 e2_3 e2_4  (fun r => k (tupAV (.pair (.int .i64) (.pair .bool (.pair (.arr 8 (.int .i64)) (.pair (.arr 16 (.int .i64)) (.pair (.int .i64) (.pair (.arr 8 (.int .i64)) .unit)))))) [(.int .i64), (.int .i64), (.int .i64)] r))) m :=
  loopK_iter (envOf := (fun s2 => [(.v (.slice (.pair (.int .u8) (.pair (.int .u8) (.pair (.int .u8) (.pair (.int .u8) .unit))))) (e2_1)), .dead, (.v (.int .i64) (e2_2)), .dead, (.ref 0 []), .dead, (.ref 1 []), (.v (.int .i64) (0)), (.v (.int .i64) (0)), (.v (.int .i64) (0)), (.v (.int .i64) (s2.1)), .dead, .dead, .dead, .dead, .dead, .dead, .dead, .dead, .dead, .dead, .dead, .dead, .dead, .dead, .dead, .dead, .dead, .dead, .dead, .dead, .dead, .dead, .dead, .dead, .dead, .dead, .dead, .dead])) (LOf := (fun s2 => [(.box (.pair (.int .i64) (.pair .bool (.pair (.arr 8 (.int .i64)) (.pair (.arr 16 (.int .i64)) (.pair (.int .i64) (.pair (.arr 8 (.int .i64)) .unit)))))) s2.2 false), (.box (.pair (.int .i64) (.pair .bool (.pair (.arr 8 (.int .i64)) (.pair (.arr 16 (.int .i64)) (.pair (.int .i64) (.pair (.arr 8 (.int .i64)) .unit)))))) (0, (false, (e2_3, (e2_4, (0, (e2_3, ())))))) false)])) (B := ref14_Run.B0 fuel e2_1 e2_2 e2_3 e2_4  (fun r => k (tupAV (.pair (.int .i64) (.pair .bool (.pair (.arr 8 (.int .i64)) (.pair (.arr 16 (.int .i64)) (.pair (.int .i64) (.pair (.arr 8 (.int .i64)) .unit)))))) [(.int .i64), (.int .i64), (.int .i64)] r))) (fun R s => by kernel_rfl)
def ref14_Run.sl {Ω : Type} (x0 : (List (Int × (Int × (Int × (Int × Unit)))))) (x1 : (Int × (Bool × ((List Int) × ((List Int) × (Int × ((List Int) × Unit))))))) (x2 : Int) (lp0 : (List (Int × (Int × (Int × (Int × Unit))))) → Int → (List Int) → (List Int) → Int × (Int × (Bool × ((List Int) × ((List Int) × (Int × ((List Int) × Unit)))))) → Option Ω) (k : (Int × (Bool × ((List Int) × ((List Int) × (Int × ((List Int) × Unit)))))) × Int × Int × Int → Option Ω) : Option Ω :=
  lp0 x0 x2 (List.replicate 8 0) (List.replicate 16 0) (0, x1)
def ref14_Run.s {Ω : Type} (fuel : Nat) (x0 : (List (Int × (Int × (Int × (Int × Unit)))))) (x1 : (Int × (Bool × ((List Int) × ((List Int) × (Int × ((List Int) × Unit))))))) (x2 : Int) (k : (Int × (Bool × ((List Int) × ((List Int) × (Int × ((List Int) × Unit)))))) × Int × Int × Int → Option Ω) : Option Ω := ref14_Run.sl x0 x1 x2 (fun e2_1 e2_2 e2_3 e2_4 => (iter (ref14_Run.B0 fuel e2_1 e2_2 e2_3 e2_4  k) fuel)) k
theorem ref14_Run.ev {Ω : Type} (fuel : Nat) (x0 : (List (Int × (Int × (Int × (Int × Unit)))))) (x1 : (Int × (Bool × ((List Int) × ((List Int) × (Int × ((List Int) × Unit))))))) (x2 : Int) (k : AV → Option Ω) : evFn C (fun {_} => ref14_Run.sp) (ref14_Run.F fuel) Tryd.f40 (Tryd.f40.body.getD .skip) [(.v (.slice (.pair (.int .u8) (.pair (.int .u8) (.pair (.int .u8) (.pair (.int .u8) .unit))))) (x0)), (.v (.pair (.int .i64) (.pair .bool (.pair (.arr 8 (.int .i64)) (.pair (.arr 16 (.int .i64)) (.pair (.int .i64) (.pair (.arr 8 (.int .i64)) .unit)))))) (x1)), (.v (.int .i64) (x2))] k = ref14_Run.s fuel x0 x1 x2 (fun r => k (tupAV (.pair (.int .i64) (.pair .bool (.pair (.arr 8 (.int .i64)) (.pair (.arr 16 (.int .i64)) (.pair (.int .i64) (.pair (.arr 8 (.int .i64)) .unit)))))) [(.int .i64), (.int .i64), (.int .i64)] r)) := by
  have h0 : evFn C (fun {_} => ref14_Run.sp) (ref14_Run.F fuel) Tryd.f40 (Tryd.f40.body.getD .skip) [(.v (.slice (.pair (.int .u8) (.pair (.int .u8) (.pair (.int .u8) (.pair (.int .u8) .unit))))) (x0)), (.v (.pair (.int .i64) (.pair .bool (.pair (.arr 8 (.int .i64)) (.pair (.arr 16 (.int .i64)) (.pair (.int .i64) (.pair (.arr 8 (.int .i64)) .unit)))))) (x1)), (.v (.int .i64) (x2))] k = ref14_Run.sl x0 x1 x2 (fun e2_1 e2_2 e2_3 e2_4 => (fun s => loopK (fun env L k => evCode C (fun {_} => ref14_Run.sp) (ref14_Run.F fuel) (cl (cl (cl (cr (cr (Tryd.f40.body.getD .skip)))))) env L k) [false, true, false, true, false, true, false, false, false, false, false, true, true, true, true, true, true, true, true, true, true, true, true, true, true, true, true, true, true, true, true, true, true, true, true, true, true, true, true] 2 (blockK 0 (seqK (fun env L => evCode C (fun {_} => ref14_Run.sp) (ref14_Run.F fuel) (cr (cr (cr (Tryd.f40.body.getD .skip)))) env L (finK C Tryd.f40 k)) (finK C Tryd.f40 k))) fuel ((fun s2 => [(.v (.slice (.pair (.int .u8) (.pair (.int .u8) (.pair (.int .u8) (.pair (.int .u8) .unit))))) (e2_1)), .dead, (.v (.int .i64) (e2_2)), .dead, (.ref 0 []), .dead, (.ref 1 []), (.v (.int .i64) (0)), (.v (.int .i64) (0)), (.v (.int .i64) (0)), (.v (.int .i64) (s2.1)), .dead, .dead, .dead, .dead, .dead, .dead, .dead, .dead, .dead, .dead, .dead, .dead, .dead, .dead, .dead, .dead, .dead, .dead, .dead, .dead, .dead, .dead, .dead, .dead, .dead, .dead, .dead, .dead]) s) ((fun s2 => [(.box (.pair (.int .i64) (.pair .bool (.pair (.arr 8 (.int .i64)) (.pair (.arr 16 (.int .i64)) (.pair (.int .i64) (.pair (.arr 8 (.int .i64)) .unit)))))) s2.2 false), (.box (.pair (.int .i64) (.pair .bool (.pair (.arr 8 (.int .i64)) (.pair (.arr 16 (.int .i64)) (.pair (.int .i64) (.pair (.arr 8 (.int .i64)) .unit)))))) (0, (false, (e2_3, (e2_4, (0, (e2_3, ())))))) false)]) s))) (fun r => k (tupAV (.pair (.int .i64) (.pair .bool (.pair (.arr 8 (.int .i64)) (.pair (.arr 16 (.int .i64)) (.pair (.int .i64) (.pair (.arr 8 (.int .i64)) .unit)))))) [(.int .i64), (.int .i64), (.int .i64)] r)) := by kernel_rfl
  have h1 : (fun e2_1 e2_2 e2_3 e2_4 => (fun s => loopK (fun env L k => evCode C (fun {_} => ref14_Run.sp) (ref14_Run.F fuel) (cl (cl (cl (cr (cr (Tryd.f40.body.getD .skip)))))) env L k) [false, true, false, true, false, true, false, false, false, false, false, true, true, true, true, true, true, true, true, true, true, true, true, true, true, true, true, true, true, true, true, true, true, true, true, true, true, true, true] 2 (blockK 0 (seqK (fun env L => evCode C (fun {_} => ref14_Run.sp) (ref14_Run.F fuel) (cr (cr (cr (Tryd.f40.body.getD .skip)))) env L (finK C Tryd.f40 k)) (finK C Tryd.f40 k))) fuel ((fun s2 => [(.v (.slice (.pair (.int .u8) (.pair (.int .u8) (.pair (.int .u8) (.pair (.int .u8) .unit))))) (e2_1)), .dead, (.v (.int .i64) (e2_2)), .dead, (.ref 0 []), .dead, (.ref 1 []), (.v (.int .i64) (0)), (.v (.int .i64) (0)), (.v (.int .i64) (0)), (.v (.int .i64) (s2.1)), .dead, .dead, .dead, .dead, .dead, .dead, .dead, .dead, .dead, .dead, .dead, .dead, .dead, .dead, .dead, .dead, .dead, .dead, .dead, .dead, .dead, .dead, .dead, .dead, .dead, .dead, .dead, .dead]) s) ((fun s2 => [(.box (.pair (.int .i64) (.pair .bool (.pair (.arr 8 (.int .i64)) (.pair (.arr 16 (.int .i64)) (.pair (.int .i64) (.pair (.arr 8 (.int .i64)) .unit)))))) s2.2 false), (.box (.pair (.int .i64) (.pair .bool (.pair (.arr 8 (.int .i64)) (.pair (.arr 16 (.int .i64)) (.pair (.int .i64) (.pair (.arr 8 (.int .i64)) .unit)))))) (0, (false, (e2_3, (e2_4, (0, (e2_3, ())))))) false)]) s))) = (fun e2_1 e2_2 e2_3 e2_4 => (iter (ref14_Run.B0 fuel e2_1 e2_2 e2_3 e2_4  (fun r => k (tupAV (.pair (.int .i64) (.pair .bool (.pair (.arr 8 (.int .i64)) (.pair (.arr 16 (.int .i64)) (.pair (.int .i64) (.pair (.arr 8 (.int .i64)) .unit)))))) [(.int .i64), (.int .i64), (.int .i64)] r))) fuel)) := funext fun e2_1 => funext fun e2_2 => funext fun e2_3 => funext fun e2_4 => ref14_Run.l0 fuel e2_1 e2_2 e2_3 e2_4   k fuel
  rw [h1] at h0
  exact h0
def ref14_Run.g0 {Ω : Type} (e2_1 : (List (Int × (Int × (Int × (Int × Unit)))))) (e2_2 : Int) (e2_3 : (List Int)) (e2_4 : (List Int))  (k : (Int × (Bool × ((List Int) × ((List Int) × (Int × ((List Int) × Unit)))))) × Int × Int × Int → Option Ω) : Nat → Int → (Int × (Bool × ((List Int) × ((List Int) × (Int × ((List Int) × Unit)))))) → Option Ω
  | 0, i2, a2_1 =>
    k (a2_1, 0, 0, i2)
  | d2 + 1, i2, a2_1 =>
    bif (decide (i2 < 10000)) then
      (ref14_Step.u e2_1 a2_1).bind fun y1 =>
      bif (y1.2.1 != 0) then
        k (y1.1, y1.2.1, y1.2.2, i2)
      else
        ref14_Run.g0 e2_1 e2_2 e2_3 e2_4  k d2 (i2 + 1) y1.1
    else
      k (a2_1, 0, 0, i2)
theorem ref14_Run.h0 {Ω : Type} (e2_1 : (List (Int × (Int × (Int × (Int × Unit)))))) (e2_2 : Int) (e2_3 : (List Int)) (e2_4 : (List Int))   (k : (Int × (Bool × ((List Int) × ((List Int) × (Int × ((List Int) × Unit)))))) × Int × Int × Int → Option Ω) (hN : (e2_2 : Int) ≤ 9223372036854775807) : ∀ (m : Nat) (i : Int) (a : (Int × (Bool × ((List Int) × ((List Int) × (Int × ((List Int) × Unit))))))), -9223372036854775808 ≤ i → Int.toNat ((e2_2 : Int) - i) < m → Le (ref14_Run.g0 e2_1 e2_2 e2_3 e2_4  k (Int.toNat ((e2_2 : Int) - i)) i a) (iter (ref14_Run.B0 BIG e2_1 e2_2 e2_3 e2_4  k) m (i, a)) :=
  iter_count (e2_2 : Int) (fun i2 => (decide (i2 < e2_2))) (fun i => rfl) (fun (i2 : Int) (a2 : (Int × (Bool × ((List Int) × ((List Int) × (Int × ((List Int) × Unit))))))) => (i2, a2)) (fun xs i2 a2 => ref14_Run.g0 e2_1 e2_2 e2_3 e2_4  k xs i2 a2) (ref14_Run.B0 BIG e2_1 e2_2 e2_3 e2_4  k)
    (fun i2 a2 r h0 => (Le.fls h0 (Le.refl _)))
    (fun i2 d2 a2 r h0 hw ih => (Le.tru h0 (Le.cond (Le.bnd fun y1 => (Le.cond (Le.refl _) (ih _ hw (y1.1)))) (Le.refl _))))
    hN
def ref14_Run.w {Ω : Type} (x0 : (List (Int × (Int × (Int × (Int × Unit)))))) (x1 : (Int × (Bool × ((List Int) × ((List Int) × (Int × ((List Int) × Unit))))))) (x2 : Int) (k : (Int × (Bool × ((List Int) × ((List Int) × (Int × ((List Int) × Unit)))))) × Int × Int × Int → Option Ω) : Option Ω :=
  bif (decide (x2 ≤ 4611686018427387904)) then ref14_Run.g0 x0 x2 (List.replicate 8 0) (List.replicate 16 0)  k ((Int.toNat (x2 - 0))) 0 x1 else none
theorem ref14_Run.le {Ω : Type} (x0 : (List (Int × (Int × (Int × (Int × Unit)))))) (x1 : (Int × (Bool × ((List Int) × ((List Int) × (Int × ((List Int) × Unit))))))) (x2 : Int) (k : (Int × (Bool × ((List Int) × ((List Int) × (Int × ((List Int) × Unit)))))) × Int × Int × Int → Option Ω) : Le (ref14_Run.w x0 x1 x2 k) (ref14_Run.s BIG x0 x1 x2 k) := by
  delta ref14_Run.w ref14_Run.s ref14_Run.sl
  exact (Le.gd fun hg => ref14_Run.h0 _ _ _ _   k (cnt_up hg) BIG 0 (x1) (by decide) (cnt_big hg (by decide)))
def ref14_Run.u (x0 : (List (Int × (Int × (Int × (Int × Unit)))))) (x1 : (Int × (Bool × ((List Int) × ((List Int) × (Int × ((List Int) × Unit))))))) (x2 : Int) : Option ((Int × (Bool × ((List Int) × ((List Int) × (Int × ((List Int) × Unit)))))) × Int × Int × Int) := ref14_Run.w x0 x1 x2 some
theorem ref14_Run.c (x0 : (List (Int × (Int × (Int × (Int × Unit)))))) (x1 : (Int × (Bool × ((List Int) × ((List Int) × (Int × ((List Int) × Unit))))))) (x2 : Int) (r : (Int × (Bool × ((List Int) × ((List Int) × (Int × ((List Int) × Unit)))))) × Int × Int × Int) (h : ref14_Run.u x0 x1 x2 = some r) : Contract C 40 [(.v (.slice (.pair (.int .u8) (.pair (.int .u8) (.pair (.int .u8) (.pair (.int .u8) .unit))))) (x0)), (.v (.pair (.int .i64) (.pair .bool (.pair (.arr 8 (.int .i64)) (.pair (.arr 16 (.int .i64)) (.pair (.int .i64) (.pair (.arr 8 (.int .i64)) .unit)))))) (x1)), (.v (.int .i64) (x2))] (tupAV (.pair (.int .i64) (.pair .bool (.pair (.arr 8 (.int .i64)) (.pair (.arr 16 (.int .i64)) (.pair (.int .i64) (.pair (.arr 8 (.int .i64)) .unit)))))) [(.int .i64), (.int .i64), (.int .i64)] r) :=
  contract_s (S := fun k => ref14_Run.s BIG x0 x1 x2 k) C_ok (orS_ok ref14_Step.e_ok noS_ok) (by kernel_rfl) (by kernel_rfl) (by kernel_rfl) (ref14_Run.ev BIG x0 x1 x2 (dec (.pair (.int .i64) (.pair .bool (.pair (.arr 8 (.int .i64)) (.pair (.arr 16 (.int .i64)) (.pair (.int .i64) (.pair (.arr 8 (.int .i64)) .unit)))))) [(.int .i64), (.int .i64), (.int .i64)])) (ref14_Run.le x0 x1 x2 some r h)
noncomputable def ref14_Run.e : Ent := argI (.slice (.pair (.int .u8) (.pair (.int .u8) (.pair (.int .u8) (.pair (.int .u8) .unit))))) fun x0 => argI (.pair (.int .i64) (.pair .bool (.pair (.arr 8 (.int .i64)) (.pair (.arr 16 (.int .i64)) (.pair (.int .i64) (.pair (.arr 8 (.int .i64)) .unit)))))) fun x1 => argI (.int .i64) fun x2 => endU (ref14_Run.u x0 x1 x2) (tupAV (.pair (.int .i64) (.pair .bool (.pair (.arr 8 (.int .i64)) (.pair (.arr 16 (.int .i64)) (.pair (.int .i64) (.pair (.arr 8 (.int .i64)) .unit)))))) [(.int .i64), (.int .i64), (.int .i64)])
theorem ref14_Run.e_ok : EntOK C 40 (fun {_} => ref14_Run.e) := entA_ok (argI_ok fun x0 => argI_ok fun x1 => argI_ok fun x2 => endU_ok fun r h => ref14_Run.c x0 x1 x2 r h)

/-- becket becketlaw14.InterpRuns -/
noncomputable def law14_InterpRuns.sp : Spec := (orS 40 (fun {_} => ref14_Run.e) (orS 39 (fun {_} => interp_Run.e) (orS 36 (fun {_} => law14_alive.e) noS)))
def law14_InterpRuns.s {Ω : Type} (x0 : (List (Int × (Int × (Int × (Int × Unit)))))) (x1 : (Int × (Bool × ((List Int) × ((List Int) × (Int × ((List Int) × Unit))))))) (x2 : Int) (k : Bool → Option Ω) : Option Ω :=
  bif (decide (((List.length x0 : Nat) : Int) > 70)) then
    law14_alive.u.bind fun y1 =>
    k y1
  else
    bif (decide (x2 > 300)) then
      law14_alive.u.bind fun y2 =>
      k y2
    else
      (interp_Run.u x0 x1 x2).bind fun y3 =>
      (ref14_Run.u x0 x1 x2).bind fun y4 =>
      let v5 : Bool := (eqI (.pair (.int .i64) (.pair .bool (.pair (.arr 8 (.int .i64)) (.pair (.arr 16 (.int .i64)) (.pair (.int .i64) (.pair (.arr 8 (.int .i64)) .unit)))))) y3.1 y4.1)
      bif v5 then
        bif (y3.2.1 == y4.2.1) then
          bif (y3.2.2.1 == y4.2.2.1) then
            bif (y3.2.2.2 == y4.2.2.2) then
              law14_alive.u.bind fun y6 =>
              k y6
            else
              k false
          else
            k false
        else
          k false
      else
        k false
theorem law14_InterpRuns.ev {Ω : Type} (fuel : Fuel) (x0 : (List (Int × (Int × (Int × (Int × Unit)))))) (x1 : (Int × (Bool × ((List Int) × ((List Int) × (Int × ((List Int) × Unit))))))) (x2 : Int) (k : AV → Option Ω) : evFn CKM (fun {_} => law14_InterpRuns.sp) fuel Tryd.f8 (Tryd.f8.body.getD .skip) [(.v (.slice (.pair (.int .u8) (.pair (.int .u8) (.pair (.int .u8) (.pair (.int .u8) .unit))))) (x0)), (.v (.pair (.int .i64) (.pair .bool (.pair (.arr 8 (.int .i64)) (.pair (.arr 16 (.int .i64)) (.pair (.int .i64) (.pair (.arr 8 (.int .i64)) .unit)))))) (x1)), (.v (.int .i64) (x2))] k = law14_InterpRuns.s x0 x1 x2 (fun r => k (tupAV .bool [] r)) := by kernel_rfl
def law14_InterpRuns.u (x0 : (List (Int × (Int × (Int × (Int × Unit)))))) (x1 : (Int × (Bool × ((List Int) × ((List Int) × (Int × ((List Int) × Unit))))))) (x2 : Int) : Option (Bool) := law14_InterpRuns.s x0 x1 x2 some
theorem law14_InterpRuns.c (x0 : (List (Int × (Int × (Int × (Int × Unit)))))) (x1 : (Int × (Bool × ((List Int) × ((List Int) × (Int × ((List Int) × Unit))))))) (x2 : Int) (r : Bool) (h : law14_InterpRuns.u x0 x1 x2 = some r) : Contract CKM 8 [(.v (.slice (.pair (.int .u8) (.pair (.int .u8) (.pair (.int .u8) (.pair (.int .u8) .unit))))) (x0)), (.v (.pair (.int .i64) (.pair .bool (.pair (.arr 8 (.int .i64)) (.pair (.arr 16 (.int .i64)) (.pair (.int .i64) (.pair (.arr 8 (.int .i64)) .unit)))))) (x1)), (.v (.int .i64) (x2))] (tupAV .bool [] r) :=
  contract_s (S := fun k => law14_InterpRuns.s x0 x1 x2 k) CKM_ok (orS_ok (ref14_Run.e_ok.mono le_C_CKM) (orS_ok interp_Run.e_ok (orS_ok law14_alive.e_ok noS_ok))) (by kernel_rfl) (by kernel_rfl) (by kernel_rfl) (law14_InterpRuns.ev ⟨1, fun _ => []⟩ x0 x1 x2 (dec .bool [])) h
noncomputable def law14_InterpRuns.e : Ent := argI (.slice (.pair (.int .u8) (.pair (.int .u8) (.pair (.int .u8) (.pair (.int .u8) .unit))))) fun x0 => argI (.pair (.int .i64) (.pair .bool (.pair (.arr 8 (.int .i64)) (.pair (.arr 16 (.int .i64)) (.pair (.int .i64) (.pair (.arr 8 (.int .i64)) .unit)))))) fun x1 => argI (.int .i64) fun x2 => endU (law14_InterpRuns.u x0 x1 x2) (tupAV .bool [])
theorem law14_InterpRuns.e_ok : EntOK CKM 8 (fun {_} => law14_InterpRuns.e) := entA_ok (argI_ok fun x0 => argI_ok fun x1 => argI_ok fun x2 => endU_ok fun r h => law14_InterpRuns.c x0 x1 x2 r h)

/-- becket becketlaw14.InterpOne -/
noncomputable def law14_InterpOne.sp : Spec := (orS 37 (fun {_} => interp_Step.e) (orS 36 (fun {_} => law14_alive.e) (orS 17 (fun {_} => frame_Fine.e) noS)))
def law14_InterpOne.F (fuel : Nat) : Fuel := ⟨fuel, fun r => bif r == 15 then [0, 1, 2, 3, 7, 10, 12, 13, 14, 15, 16, 17, 18, 19, 20, 21, 22, 23, 24, 25, 26, 27, 28, 29, 30, 31, 32, 33, 34, 35, 36, 37, 38, 39, 40, 41, 42, 43, 44, 45, 46, 47, 48, 49, 50, 51, 52, 53] else bif r == 9 then [0, 1, 2, 3, 7, 12, 13, 14, 15, 16, 17, 18, 19, 20, 21, 22, 23, 24, 25, 26, 27, 28, 29, 30, 31, 32, 33, 34, 35, 36, 37, 38] else []⟩
def law14_InterpOne.b0 {Ω : Type} (e9_1 : Int) (e9_2 : (Int × (Bool × ((List Int) × ((List Int) × (Int × ((List Int) × Unit))))))) (e9_3 : (Int × (Bool × ((List Int) × ((List Int) × (Int × ((List Int) × Unit)))))))   (k : Bool → Option Ω) (r15 : Int × Int → Option Ω) (s15 : Int × Int) : Option Ω :=
  bif (decide (s15.2 < 16)) then
    bif (idxOK s15.2 16) then
      bif (idxOK s15.2 16) then
        let v5 : Bool := ((List.getD e9_3.2.2.2.1 (Int.toNat s15.2) 0) != (List.getD e9_2.2.2.2.1 (Int.toNat s15.2) 0))
        bif v5 then
          r15 ((IntKind.wrap .i64 (s15.1 + 1)), (IntKind.wrap .i64 (s15.2 + 1)))
        else
          r15 (s15.1, (IntKind.wrap .i64 (s15.2 + 1)))
      else
        none
    else
      none
  else
    bif (e9_1 == 0) then
      bif (decide (s15.1 ≤ 1)) then
        bif (eqI .bool e9_3.2.1 e9_2.2.1) then
          (frame_Fine.u e9_3).bind fun y6 =>
          bif y6 then
            bif (decide ((IntKind.wrap .i64 (e9_3.2.2.2.2.1 - e9_2.2.2.2.2.1)) ≤ 1)) then
              bif (decide ((IntKind.wrap .i64 (e9_2.2.2.2.2.1 - e9_3.2.2.2.2.1)) ≤ 1)) then
                law14_alive.u.bind fun y7 =>
                k y7
              else
                k false
            else
              k false
          else
            k false
        else
          k false
      else
        k false
    else
      k false
def law14_InterpOne.B0 {Ω : Type} (fuel : Nat) (e9_1 : Int) (e9_2 : (Int × (Bool × ((List Int) × ((List Int) × (Int × ((List Int) × Unit))))))) (e9_3 : (Int × (Bool × ((List Int) × ((List Int) × (Int × ((List Int) × Unit)))))))  (k : Bool → Option Ω) (r15 : Int × Int → Option Ω) (s15 : Int × Int) : Option Ω := law14_InterpOne.b0 e9_1 e9_2 e9_3   k r15 s15
def law14_InterpOne.b1 {Ω : Type} (e9_1 : Int) (e9_2 : (Int × (Bool × ((List Int) × ((List Int) × (Int × ((List Int) × Unit))))))) (e9_3 : (Int × (Bool × ((List Int) × ((List Int) × (Int × ((List Int) × Unit)))))))  (lp0 : Int → (Int × (Bool × ((List Int) × ((List Int) × (Int × ((List Int) × Unit)))))) → (Int × (Bool × ((List Int) × ((List Int) × (Int × ((List Int) × Unit)))))) → Int × Int → Option Ω) (k : Bool → Option Ω) (r9 : Int × Int → Option Ω) (s9 : Int × Int) : Option Ω :=
  bif (decide (s9.2 < 8)) then
    bif (idxOK s9.2 8) then
      bif (idxOK s9.2 8) then
        bif ((List.getD e9_3.2.2.1 (Int.toNat s9.2) 0) != (List.getD e9_2.2.2.1 (Int.toNat s9.2) 0)) then
          r9 ((IntKind.wrap .i64 (s9.1 + 1)), (IntKind.wrap .i64 (s9.2 + 1)))
        else
          r9 (s9.1, (IntKind.wrap .i64 (s9.2 + 1)))
      else
        none
    else
      none
  else
    lp0 e9_1 e9_2 e9_3 (s9.1, 0)
def law14_InterpOne.B1 {Ω : Type} (fuel : Nat) (e9_1 : Int) (e9_2 : (Int × (Bool × ((List Int) × ((List Int) × (Int × ((List Int) × Unit))))))) (e9_3 : (Int × (Bool × ((List Int) × ((List Int) × (Int × ((List Int) × Unit)))))))  (k : Bool → Option Ω) (r9 : Int × Int → Option Ω) (s9 : Int × Int) : Option Ω := law14_InterpOne.b1 e9_1 e9_2 e9_3  (fun e9_1 e9_2 e9_3 => (iter (law14_InterpOne.B0 fuel e9_1 e9_2 e9_3  k) fuel)) k r9 s9
theorem law14_InterpOne.l0 {Ω : Type} (fuel : Nat) (e9_1 : Int) (e9_2 : (Int × (Bool × ((List Int) × ((List Int) × (Int × ((List Int) × Unit))))))) (e9_3 : (Int × (Bool × ((List Int) × ((List Int) × (Int × ((List Int) × Unit)))))))  (k : AV → Option Ω) : ∀ m, (fun s => loopK (fun env L k => evCode CKM (fun {_} => law14_InterpOne.sp) (law14_InterpOne.F fuel) (cl (cl (cr (cl (cr (cr (cr (cr (cr (cr (cr (Tryd.f9.body.getD .skip)))))))))))) env L k) [true, true, true, true, false, false, false, true, false, false, true, true, true, true, true, true, true, true, true, true, true, true, true, true, true, true, true, true, true, true, true, true, true, true, true, true, true, true, true, true, true, true, true, true, true, true, true, true, true, true, true, true, true, true, false, true, true, true, true, true, true, true, true, true, true, true, true, true, true, true, true, true, true, true, true, true, true, true, true, true, true, true, true, true, true, true, true, true, true, true, true, true, true, true, true, true, true, true, true, true, true, true, true, true, true] 3 (blockK 2 (seqK (fun env L => evCode CKM (fun {_} => law14_InterpOne.sp) (law14_InterpOne.F fuel) (cr (cr (cr (cr (cr (cr (cr (cr (Tryd.f9.body.getD .skip))))))))) env L (finK CKM Tryd.f9 k)) (finK CKM Tryd.f9 k))) m ((fun s15 => [.dead, .dead, .dead, .dead, (.v .bool (false)), (.ref 1 []), (.ref 2 []), .dead, (.v (.int .i64) (e9_1)), (.v (.int .i64) (s15.1)), .dead, .dead, .dead, .dead, .dead, .dead, .dead, .dead, .dead, .dead, .dead, .dead, .dead, .dead, .dead, .dead, .dead, .dead, .dead, .dead, .dead, .dead, .dead, .dead, .dead, .dead, .dead, .dead, .dead, .dead, .dead, .dead, .dead, .dead, .dead, .dead, .dead, .dead, .dead, .dead, .dead, .dead, .dead, .dead, (.v (.int .i64) (s15.2)), .dead, .dead, .dead, .dead, .dead, .dead, .dead, .dead, .dead, .dead, .dead, .dead, .dead, .dead, .dead, .dead, .dead, .dead, .dead, .dead, .dead, .dead, .dead, .dead, .dead, .dead, .dead, .dead, .dead, .dead, .dead, .dead, .dead, .dead, .dead, .dead, .dead, .dead, .dead, .dead, .dead, .dead, .dead, .dead, .dead, .dead, .dead, .dead, .dead, .dead]) s) ((fun s15 => [(.box (.pair (.int .i64) (.pair .bool (.pair (.arr 8 (.int .i64)) (.pair (.arr 16 (.int .i64)) (.pair (.int .i64) (.pair (.arr 8 (.int .i64)) .unit)))))) e9_2 false), (.box (.pair (.int .i64) (.pair .bool (.pair (.arr 8 (.int .i64)) (.pair (.arr 16 (.int .i64)) (.pair (.int .i64) (.pair (.arr 8 (.int .i64)) .unit)))))) e9_2 false), (.box (.pair (.int .i64) (.pair .bool (.pair (.arr 8 (.int .i64)) (.pair (.arr 16 (.int .i64)) (.pair (.int .i64) (.pair (.arr 8 (.int .i64)) .unit)))))) e9_3 false)]) s)) = iter (law14_InterpOne.B0 fuel e9_1 e9_2 e9_3  (fun r => k (tupAV .bool [] r))) m :=
  loopK_iter (envOf := (fun s15 => [.dead, .dead, .dead, .dead, (.v .bool (false)), (.ref 1 []), (.ref 2 []), .dead, (.v (.int .i64) (e9_1)), (.v (.int .i64) (s15.1)), .dead, .dead, .dead, .dead, .dead, .dead, .dead, .dead, .dead, .dead, .dead, .dead, .dead, .dead, .dead, .dead, .dead, .dead, .dead, .dead, .dead, .dead, .dead, .dead, .dead, .dead, .dead, .dead, .dead, .dead, .dead, .dead, .dead, .dead, .dead, .dead, .dead, .dead, .dead, .dead, .dead, .dead, .dead, .dead, (.v (.int .i64) (s15.2)), .dead, .dead, .dead, .dead, .dead, .dead, .dead, .dead, .dead, .dead, .dead, .dead, .dead, .dead, .dead, .dead, .dead, .dead, .dead, .dead, .dead, .dead, .dead, .dead, .dead, .dead, .dead, .dead, .dead, .dead, .dead, .dead, .dead, .dead, .dead, .dead, .dead, .dead, .dead, .dead, .dead, .dead, .dead, .dead, .dead, .dead, .dead, .dead, .dead, .dead])) (LOf := (fun s15 => [(.box (.pair (.int .i64) (.pair .bool (.pair (.arr 8 (.int .i64)) (.pair (.arr 16 (.int .i64)) (.pair (.int .i64) (.pair (.arr 8 (.int .i64)) .unit)))))) e9_2 false), (.box (.pair (.int .i64) (.pair .bool (.pair (.arr 8 (.int .i64)) (.pair (.arr 16 (.int .i64)) (.pair (.int .i64) (.pair (.arr 8 (.int .i64)) .unit)))))) e9_2 false), (.box (.pair (.int .i64) (.pair .bool (.pair (.arr 8 (.int .i64)) (.pair (.arr 16 (.int .i64)) (.pair (.int .i64) (.pair (.arr 8 (.int .i64)) .unit)))))) e9_3 false)])) (B := law14_InterpOne.B0 fuel e9_1 e9_2 e9_3  (fun r => k (tupAV .bool [] r))) (fun R s => by kernel_rfl)
theorem law14_InterpOne.l1 {Ω : Type} (fuel : Nat) (e9_1 : Int) (e9_2 : (Int × (Bool × ((List Int) × ((List Int) × (Int × ((List Int) × Unit))))))) (e9_3 : (Int × (Bool × ((List Int) × ((List Int) × (Int × ((List Int) × Unit)))))))  (k : AV → Option Ω) : ∀ m, (fun s => loopK (fun env L k => evCode CKM (fun {_} => law14_InterpOne.sp) (law14_InterpOne.F fuel) (cl (cl (cr (cl (cr (cr (cr (cr (cr (cr (Tryd.f9.body.getD .skip))))))))))) env L k) [true, true, true, true, false, false, false, true, false, false, true, true, true, true, true, true, true, true, true, true, true, true, true, true, true, true, true, true, true, true, true, true, true, true, true, true, true, true, true, false, true, true, true, true, true, true, true, true, true, true, true, true, true, true, true, true, true, true, true, true, true, true, true, true, true, true, true, true, true, true, true, true, true, true, true, true, true, true, true, true, true, true, true, true, true, true, true, true, true, true, true, true, true, true, true, true, true, true, true, true, true, true, true, true, true] 3 (blockK 0 (seqK (fun env L => evCode CKM (fun {_} => law14_InterpOne.sp) (law14_InterpOne.F fuel) (cr (cr (cr (cr (cr (cr (cr (Tryd.f9.body.getD .skip)))))))) env L (finK CKM Tryd.f9 k)) (finK CKM Tryd.f9 k))) m ((fun s9 => [.dead, .dead, .dead, .dead, (.v .bool (false)), (.ref 1 []), (.ref 2 []), .dead, (.v (.int .i64) (e9_1)), (.v (.int .i64) (s9.1)), .dead, .dead, .dead, .dead, .dead, .dead, .dead, .dead, .dead, .dead, .dead, .dead, .dead, .dead, .dead, .dead, .dead, .dead, .dead, .dead, .dead, .dead, .dead, .dead, .dead, .dead, .dead, .dead, .dead, (.v (.int .i64) (s9.2)), .dead, .dead, .dead, .dead, .dead, .dead, .dead, .dead, .dead, .dead, .dead, .dead, .dead, .dead, .dead, .dead, .dead, .dead, .dead, .dead, .dead, .dead, .dead, .dead, .dead, .dead, .dead, .dead, .dead, .dead, .dead, .dead, .dead, .dead, .dead, .dead, .dead, .dead, .dead, .dead, .dead, .dead, .dead, .dead, .dead, .dead, .dead, .dead, .dead, .dead, .dead, .dead, .dead, .dead, .dead, .dead, .dead, .dead, .dead, .dead, .dead, .dead, .dead, .dead, .dead]) s) ((fun s9 => [(.box (.pair (.int .i64) (.pair .bool (.pair (.arr 8 (.int .i64)) (.pair (.arr 16 (.int .i64)) (.pair (.int .i64) (.pair (.arr 8 (.int .i64)) .unit)))))) e9_2 false), (.box (.pair (.int .i64) (.pair .bool (.pair (.arr 8 (.int .i64)) (.pair (.arr 16 (.int .i64)) (.pair (.int .i64) (.pair (.arr 8 (.int .i64)) .unit)))))) e9_2 false), (.box (.pair (.int .i64) (.pair .bool (.pair (.arr 8 (.int .i64)) (.pair (.arr 16 (.int .i64)) (.pair (.int .i64) (.pair (.arr 8 (.int .i64)) .unit)))))) e9_3 false)]) s)) = iter (law14_InterpOne.B1 fuel e9_1 e9_2 e9_3  (fun r => k (tupAV .bool [] r))) m :=
  loopK_iter (envOf := (fun s9 => [.dead, .dead, .dead, .dead, (.v .bool (false)), (.ref 1 []), (.ref 2 []), .dead, (.v (.int .i64) (e9_1)), (.v (.int .i64) (s9.1)), .dead, .dead, .dead, .dead, .dead, .dead, .dead, .dead, .dead, .dead, .dead, .dead, .dead, .dead, .dead, .dead, .dead, .dead, .dead, .dead, .dead, .dead, .dead, .dead, .dead, .dead, .dead, .dead, .dead, (.v (.int .i64) (s9.2)), .dead, .dead, .dead, .dead, .dead, .dead, .dead, .dead, .dead, .dead, .dead, .dead, .dead, .dead, .dead, .dead, .dead, .dead, .dead, .dead, .dead, .dead, .dead, .dead, .dead, .dead, .dead, .dead, .dead, .dead, .dead, .dead, .dead, .dead, .dead, .dead, .dead, .dead, .dead, .dead, .dead, .dead, .dead, .dead, .dead, .dead, .dead, .dead, .dead, .dead, .dead, .dead, .dead, .dead, .dead, .dead, .dead, .dead, .dead, .dead, .dead, .dead, .dead, .dead, .dead])) (LOf := (fun s9 => [(.box (.pair (.int .i64) (.pair .bool (.pair (.arr 8 (.int .i64)) (.pair (.arr 16 (.int .i64)) (.pair (.int .i64) (.pair (.arr 8 (.int .i64)) .unit)))))) e9_2 false), (.box (.pair (.int .i64) (.pair .bool (.pair (.arr 8 (.int .i64)) (.pair (.arr 16 (.int .i64)) (.pair (.int .i64) (.pair (.arr 8 (.int .i64)) .unit)))))) e9_2 false), (.box (.pair (.int .i64) (.pair .bool (.pair (.arr 8 (.int .i64)) (.pair (.arr 16 (.int .i64)) (.pair (.int .i64) (.pair (.arr 8 (.int .i64)) .unit)))))) e9_3 false)])) (B := law14_InterpOne.B1 fuel e9_1 e9_2 e9_3  (fun r => k (tupAV .bool [] r))) (fun R s => by
    have h0 : evCode CKM (fun {_} => law14_InterpOne.sp) (law14_InterpOne.F fuel) (cl (cl (cr (cl (cr (cr (cr (cr (cr (cr (Tryd.f9.body.getD .skip))))))))))) ((fun s9 => [.dead, .dead, .dead, .dead, (.v .bool (false)), (.ref 1 []), (.ref 2 []), .dead, (.v (.int .i64) (e9_1)), (.v (.int .i64) (s9.1)), .dead, .dead, .dead, .dead, .dead, .dead, .dead, .dead, .dead, .dead, .dead, .dead, .dead, .dead, .dead, .dead, .dead, .dead, .dead, .dead, .dead, .dead, .dead, .dead, .dead, .dead, .dead, .dead, .dead, (.v (.int .i64) (s9.2)), .dead, .dead, .dead, .dead, .dead, .dead, .dead, .dead, .dead, .dead, .dead, .dead, .dead, .dead, .dead, .dead, .dead, .dead, .dead, .dead, .dead, .dead, .dead, .dead, .dead, .dead, .dead, .dead, .dead, .dead, .dead, .dead, .dead, .dead, .dead, .dead, .dead, .dead, .dead, .dead, .dead, .dead, .dead, .dead, .dead, .dead, .dead, .dead, .dead, .dead, .dead, .dead, .dead, .dead, .dead, .dead, .dead, .dead, .dead, .dead, .dead, .dead, .dead, .dead, .dead]) s) ((fun s9 => [(.box (.pair (.int .i64) (.pair .bool (.pair (.arr 8 (.int .i64)) (.pair (.arr 16 (.int .i64)) (.pair (.int .i64) (.pair (.arr 8 (.int .i64)) .unit)))))) e9_2 false), (.box (.pair (.int .i64) (.pair .bool (.pair (.arr 8 (.int .i64)) (.pair (.arr 16 (.int .i64)) (.pair (.int .i64) (.pair (.arr 8 (.int .i64)) .unit)))))) e9_2 false), (.box (.pair (.int .i64) (.pair .bool (.pair (.arr 8 (.int .i64)) (.pair (.arr 16 (.int .i64)) (.pair (.int .i64) (.pair (.arr 8 (.int .i64)) .unit)))))) e9_3 false)]) s) (loopC R [true, true, true, true, false, false, false, true, false, false, true, true, true, true, true, true, true, true, true, true, true, true, true, true, true, true, true, true, true, true, true, true, true, true, true, true, true, true, true, false, true, true, true, true, true, true, true, true, true, true, true, true, true, true, true, true, true, true, true, true, true, true, true, true, true, true, true, true, true, true, true, true, true, true, true, true, true, true, true, true, true, true, true, true, true, true, true, true, true, true, true, true, true, true, true, true, true, true, true, true, true, true, true, true, true] 3 (blockK 0 (seqK (fun env L => evCode CKM (fun {_} => law14_InterpOne.sp) (law14_InterpOne.F fuel) (cr (cr (cr (cr (cr (cr (cr (Tryd.f9.body.getD .skip)))))))) env L (finK CKM Tryd.f9 k)) (finK CKM Tryd.f9 k)))) = law14_InterpOne.b1 e9_1 e9_2 e9_3  (fun e9_1 e9_2 e9_3 => (fun s => loopK (fun env L k => evCode CKM (fun {_} => law14_InterpOne.sp) (law14_InterpOne.F fuel) (cl (cl (cr (cl (cr (cr (cr (cr (cr (cr (cr (Tryd.f9.body.getD .skip)))))))))))) env L k) [true, true, true, true, false, false, false, true, false, false, true, true, true, true, true, true, true, true, true, true, true, true, true, true, true, true, true, true, true, true, true, true, true, true, true, true, true, true, true, true, true, true, true, true, true, true, true, true, true, true, true, true, true, true, false, true, true, true, true, true, true, true, true, true, true, true, true, true, true, true, true, true, true, true, true, true, true, true, true, true, true, true, true, true, true, true, true, true, true, true, true, true, true, true, true, true, true, true, true, true, true, true, true, true, true] 3 (blockK 2 (seqK (fun env L => evCode CKM (fun {_} => law14_InterpOne.sp) (law14_InterpOne.F fuel) (cr (cr (cr (cr (cr (cr (cr (cr (Tryd.f9.body.getD .skip))))))))) env L (finK CKM Tryd.f9 k)) (finK CKM Tryd.f9 k))) fuel ((fun s15 => [.dead, .dead, .dead, .dead, (.v .bool (false)), (.ref 1 []), (.ref 2 []), .dead, (.v (.int .i64) (e9_1)), (.v (.int .i64) (s15.1)), .dead, .dead, .dead, .dead, .dead, .dead, .dead, .dead, .dead, .dead, .dead, .dead, .dead, .dead, .dead, .dead, .dead, .dead, .dead, .dead, .dead, .dead, .dead, .dead, .dead, .dead, .dead, .dead, .dead, .dead, .dead, .dead, .dead, .dead, .dead, .dead, .dead, .dead, .dead, .dead, .dead, .dead, .dead, .dead, (.v (.int .i64) (s15.2)), .dead, .dead, .dead, .dead, .dead, .dead, .dead, .dead, .dead, .dead, .dead, .dead, .dead, .dead, .dead, .dead, .dead, .dead, .dead, .dead, .dead, .dead, .dead, .dead, .dead, .dead, .dead, .dead, .dead, .dead, .dead, .dead, .dead, .dead, .dead, .dead, .dead, .dead, .dead, .dead, .dead, .dead, .dead, .dead, .dead, .dead, .dead, .dead, .dead, .dead]) s) ((fun s15 => [(.box (.pair (.int .i64) (.pair .bool (.pair (.arr 8 (.int .i64)) (.pair (.arr 16 (.int .i64)) (.pair (.int .i64) (.pair (.arr 8 (.int .i64)) .unit)))))) e9_2 false), (.box (.pair (.int .i64) (.pair .bool (.pair (.arr 8 (.int .i64)) (.pair (.arr 16 (.int .i64)) (.pair (.int .i64) (.pair (.arr 8 (.int .i64)) .unit)))))) e9_2 false), (.box (.pair (.int .i64) (.pair .bool (.pair (.arr 8 (.int .i64)) (.pair (.arr 16 (.int .i64)) (.pair (.int .i64) (.pair (.arr 8 (.int .i64)) .unit)))))) e9_3 false)]) s))) (fun r => k (tupAV .bool [] r)) (fun s => R ((fun s9 => [.dead, .dead, .dead, .dead, (.v .bool (false)), (.ref 1 []), (.ref 2 []), .dead, (.v (.int .i64) (e9_1)), (.v (.int .i64) (s9.1)), .dead, .dead, .dead, .dead, .dead, .dead, .dead, .dead, .dead, .dead, .dead, .dead, .dead, .dead, .dead, .dead, .dead, .dead, .dead, .dead, .dead, .dead, .dead, .dead, .dead, .dead, .dead, .dead, .dead, (.v (.int .i64) (s9.2)), .dead, .dead, .dead, .dead, .dead, .dead, .dead, .dead, .dead, .dead, .dead, .dead, .dead, .dead, .dead, .dead, .dead, .dead, .dead, .dead, .dead, .dead, .dead, .dead, .dead, .dead, .dead, .dead, .dead, .dead, .dead, .dead, .dead, .dead, .dead, .dead, .dead, .dead, .dead, .dead, .dead, .dead, .dead, .dead, .dead, .dead, .dead, .dead, .dead, .dead, .dead, .dead, .dead, .dead, .dead, .dead, .dead, .dead, .dead, .dead, .dead, .dead, .dead, .dead, .dead]) s) ((fun s9 => [(.box (.pair (.int .i64) (.pair .bool (.pair (.arr 8 (.int .i64)) (.pair (.arr 16 (.int .i64)) (.pair (.int .i64) (.pair (.arr 8 (.int .i64)) .unit)))))) e9_2 false), (.box (.pair (.int .i64) (.pair .bool (.pair (.arr 8 (.int .i64)) (.pair (.arr 16 (.int .i64)) (.pair (.int .i64) (.pair (.arr 8 (.int .i64)) .unit)))))) e9_2 false), (.box (.pair (.int .i64) (.pair .bool (.pair (.arr 8 (.int .i64)) (.pair (.arr 16 (.int .i64)) (.pair (.int .i64) (.pair (.arr 8 (.int .i64)) .unit)))))) e9_3 false)]) s)) s := by kernel_rfl
    have h1 : (fun e9_1 e9_2 e9_3 => (fun s => loopK (fun env L k => evCode CKM (fun {_} => law14_InterpOne.sp) (law14_InterpOne.F fuel) (cl (cl (cr (cl (cr (cr (cr (cr (cr (cr (cr (Tryd.f9.body.getD .skip)))))))))))) env L k) [true, true, true, true, false, false, false, true, false, false, true, true, true, true, true, true, true, true, true, true, true, true, true, true, true, true, true, true, true, true, true, true, true, true, true, true, true, true, true, true, true, true, true, true, true, true, true, true, true, true, true, true, true, true, false, true, true, true, true, true, true, true, true, true, true, true, true, true, true, true, true, true, true, true, true, true, true, true, true, true, true, true, true, true, true, true, true, true, true, true, true, true, true, true, true, true, true, true, true, true, true, true, true, true, true] 3 (blockK 2 (seqK (fun env L => evCode CKM (fun {_} => law14_InterpOne.sp) (law14_InterpOne.F fuel) (cr (cr (cr (cr (cr (cr (cr (cr (Tryd.f9.body.getD .skip))))))))) env L (finK CKM Tryd.f9 k)) (finK CKM Tryd.f9 k))) fuel ((fun s15 => [.dead, .dead, .dead, .dead, (.v .bool (false)), (.ref 1 []), (.ref 2 []), .dead, (.v (.int .i64) (e9_1)), (.v (.int .i64) (s15.1)), .dead, .dead, .dead, .dead, .dead, .dead, .dead, .dead, .dead, .dead, .dead, .dead, .dead, .dead, .dead, .dead, .dead, .dead, .dead, .dead, .dead, .dead, .dead, .dead, .dead, .dead, .dead, .dead, .dead, .dead, .dead, .dead, .dead, .dead, .dead, .dead, .dead, .dead, .dead, .dead, .dead, .dead, .dead, .dead, (.v (.int .i64) (s15.2)), .dead, .dead, .dead, .dead, .dead, .dead, .dead, .dead, .dead, .dead, .dead, .dead, .dead, .dead, .dead, .dead, .dead, .dead, .dead, .dead, .dead, .dead, .dead, .dead, .dead, .dead, .dead, .dead, .dead, .dead, .dead, .dead, .dead, .dead, .dead, .dead, .dead, .dead, .dead, .dead, .dead, .dead, .dead, .dead, .dead, .dead, .dead, .dead, .dead, .dead]) s) ((fun s15 => [(.box (.pair (.int .i64) (.pair .bool (.pair (.arr 8 (.int .i64)) (.pair (.arr 16 (.int .i64)) (.pair (.int .i64) (.pair (.arr 8 (.int .i64)) .unit)))))) e9_2 false), (.box (.pair (.int .i64) (.pair .bool (.pair (.arr 8 (.int .i64)) (.pair (.arr 16 (.int .i64)) (.pair (.int .i64) (.pair (.arr 8 (.int .i64)) .unit)))))) e9_2 false), (.box (.pair (.int .i64) (.pair .bool (.pair (.arr 8 (.int .i64)) (.pair (.arr 16 (.int .i64)) (.pair (.int .i64) (.pair (.arr 8 (.int .i64)) .unit)))))) e9_3 false)]) s))) = (fun e9_1 e9_2 e9_3 => (iter (law14_InterpOne.B0 fuel e9_1 e9_2 e9_3  (fun r => k (tupAV .bool [] r))) fuel)) := funext fun e9_1 => funext fun e9_2 => funext fun e9_3 => law14_InterpOne.l0 fuel e9_1 e9_2 e9_3   k fuel
    rw [h1] at h0
    exact h0)
def law14_InterpOne.sl {Ω : Type} (x0 : (List (Int × (Int × (Int × (Int × Unit)))))) (x1 : (Int × (Bool × ((List Int) × ((List Int) × (Int × ((List Int) × Unit))))))) (lp1 : Int → (Int × (Bool × ((List Int) × ((List Int) × (Int × ((List Int) × Unit)))))) → (Int × (Bool × ((List Int) × ((List Int) × (Int × ((List Int) × Unit)))))) → Int × Int → Option Ω) (k : Bool → Option Ω) : Option Ω :=
  bif (decide (((List.length x0 : Nat) : Int) > 70)) then
    law14_alive.u.bind fun y1 =>
    k y1
  else
    (interp_Step.u x0 x1).bind fun y2 =>
    bif (y2.2.1 != 0) then
      let v3 : Bool := (eqI (.pair (.int .i64) (.pair .bool (.pair (.arr 8 (.int .i64)) (.pair (.arr 16 (.int .i64)) (.pair (.int .i64) (.pair (.arr 8 (.int .i64)) .unit)))))) y2.1 x1)
      bif v3 then
        bif (eqI .bool (y2.2.1 == 3) (y2.2.2 != 0)) then
          law14_alive.u.bind fun y4 =>
          k y4
        else
          k false
      else
        k false
    else
      lp1 y2.2.2 x1 y2.1 (0, 0)
def law14_InterpOne.s {Ω : Type} (fuel : Nat) (x0 : (List (Int × (Int × (Int × (Int × Unit)))))) (x1 : (Int × (Bool × ((List Int) × ((List Int) × (Int × ((List Int) × Unit))))))) (k : Bool → Option Ω) : Option Ω := law14_InterpOne.sl x0 x1 (fun e9_1 e9_2 e9_3 => (iter (law14_InterpOne.B1 fuel e9_1 e9_2 e9_3  k) fuel)) k
theorem law14_InterpOne.ev {Ω : Type} (fuel : Nat) (x0 : (List (Int × (Int × (Int × (Int × Unit)))))) (x1 : (Int × (Bool × ((List Int) × ((List Int) × (Int × ((List Int) × Unit))))))) (k : AV → Option Ω) : evFn CKM (fun {_} => law14_InterpOne.sp) (law14_InterpOne.F fuel) Tryd.f9 (Tryd.f9.body.getD .skip) [(.v (.slice (.pair (.int .u8) (.pair (.int .u8) (.pair (.int .u8) (.pair (.int .u8) .unit))))) (x0)), (.v (.pair (.int .i64) (.pair .bool (.pair (.arr 8 (.int .i64)) (.pair (.arr 16 (.int .i64)) (.pair (.int .i64) (.pair (.arr 8 (.int .i64)) .unit)))))) (x1))] k = law14_InterpOne.s fuel x0 x1 (fun r => k (tupAV .bool [] r)) := by
  have h0 : evFn CKM (fun {_} => law14_InterpOne.sp) (law14_InterpOne.F fuel) Tryd.f9 (Tryd.f9.body.getD .skip) [(.v (.slice (.pair (.int .u8) (.pair (.int .u8) (.pair (.int .u8) (.pair (.int .u8) .unit))))) (x0)), (.v (.pair (.int .i64) (.pair .bool (.pair (.arr 8 (.int .i64)) (.pair (.arr 16 (.int .i64)) (.pair (.int .i64) (.pair (.arr 8 (.int .i64)) .unit)))))) (x1))] k = law14_InterpOne.sl x0 x1 (fun e9_1 e9_2 e9_3 => (fun s => loopK (fun env L k => evCode CKM (fun {_} => law14_InterpOne.sp) (law14_InterpOne.F fuel) (cl (cl (cr (cl (cr (cr (cr (cr (cr (cr (Tryd.f9.body.getD .skip))))))))))) env L k) [true, true, true, true, false, false, false, true, false, false, true, true, true, true, true, true, true, true, true, true, true, true, true, true, true, true, true, true, true, true, true, true, true, true, true, true, true, true, true, false, true, true, true, true, true, true, true, true, true, true, true, true, true, true, true, true, true, true, true, true, true, true, true, true, true, true, true, true, true, true, true, true, true, true, true, true, true, true, true, true, true, true, true, true, true, true, true, true, true, true, true, true, true, true, true, true, true, true, true, true, true, true, true, true, true] 3 (blockK 0 (seqK (fun env L => evCode CKM (fun {_} => law14_InterpOne.sp) (law14_InterpOne.F fuel) (cr (cr (cr (cr (cr (cr (cr (Tryd.f9.body.getD .skip)))))))) env L (finK CKM Tryd.f9 k)) (finK CKM Tryd.f9 k))) fuel ((fun s9 => [.dead, .dead, .dead, .dead, (.v .bool (false)), (.ref 1 []), (.ref 2 []), .dead, (.v (.int .i64) (e9_1)), (.v (.int .i64) (s9.1)), .dead, .dead, .dead, .dead, .dead, .dead, .dead, .dead, .dead, .dead, .dead, .dead, .dead, .dead, .dead, .dead, .dead, .dead, .dead, .dead, .dead, .dead, .dead, .dead, .dead, .dead, .dead, .dead, .dead, (.v (.int .i64) (s9.2)), .dead, .dead, .dead, .dead, .dead, .dead, .dead, .dead, .dead, .dead, .dead, .dead, .dead, .dead, .dead, .dead, .dead, .dead, .dead, .dead, .dead, .dead, .dead, .dead, .dead, .dead, .dead, .dead, .dead, .dead, .dead, .dead, .dead, .dead, .dead, .dead, .dead, .dead, .dead, .dead, .dead, .dead, .dead, .dead, .dead, .dead, .dead, .dead, .dead, .dead, .dead, .dead, .dead, .dead, .dead, .dead, .dead, .dead, .dead, .dead, .dead, .dead, .dead, .dead, .dead]) s) ((fun s9 => [(.box (.pair (.int .i64) (.pair .bool (.pair (.arr 8 (.int .i64)) (.pair (.arr 16 (.int .i64)) (.pair (.int .i64) (.pair (.arr 8 (.int .i64)) .unit)))))) e9_2 false), (.box (.pair (.int .i64) (.pair .bool (.pair (.arr 8 (.int .i64)) (.pair (.arr 16 (.int .i64)) (.pair (.int .i64) (.pair (.arr 8 (.int .i64)) .unit)))))) e9_2 false), (.box (.pair (.int .i64) (.pair .bool (.pair (.arr 8 (.int .i64)) (.pair (.arr 16 (.int .i64)) (.pair (.int .i64) (.pair (.arr 8 (.int .i64)) .unit)))))) e9_3 false)]) s))) (fun r => k (tupAV .bool [] r)) := by kernel_rfl
  have h2 : (fun e9_1 e9_2 e9_3 => (fun s => loopK (fun env L k => evCode CKM (fun {_} => law14_InterpOne.sp) (law14_InterpOne.F fuel) (cl (cl (cr (cl (cr (cr (cr (cr (cr (cr (Tryd.f9.body.getD .skip))))))))))) env L k) [true, true, true, true, false, false, false, true, false, false, true, true, true, true, true, true, true, true, true, true, true, true, true, true, true, true, true, true, true, true, true, true, true, true, true, true, true, true, true, false, true, true, true, true, true, true, true, true, true, true, true, true, true, true, true, true, true, true, true, true, true, true, true, true, true, true, true, true, true, true, true, true, true, true, true, true, true, true, true, true, true, true, true, true, true, true, true, true, true, true, true, true, true, true, true, true, true, true, true, true, true, true, true, true, true] 3 (blockK 0 (seqK (fun env L => evCode CKM (fun {_} => law14_InterpOne.sp) (law14_InterpOne.F fuel) (cr (cr (cr (cr (cr (cr (cr (Tryd.f9.body.getD .skip)))))))) env L (finK CKM Tryd.f9 k)) (finK CKM Tryd.f9 k))) fuel ((fun s9 => [.dead, .dead, .dead, .dead, (.v .bool (false)), (.ref 1 []), (.ref 2 []), .dead, (.v (.int .i64) (e9_1)), (.v (.int .i64) (s9.1)), .dead, .dead, .dead, .dead, .dead, .dead, .dead, .dead, .dead, .dead, .dead, .dead, .dead, .dead, .dead, .dead, .dead, .dead, .dead, .dead, .dead, .dead, .dead, .dead, .dead, .dead, .dead, .dead, .dead, (.v (.int .i64) (s9.2)), .dead, .dead, .dead, .dead, .dead, .dead, .dead, .dead, .dead, .dead, .dead, .dead, .dead, .dead, .dead, .dead, .dead, .dead, .dead, .dead, .dead, .dead, .dead, .dead, .dead, .dead, .dead, .dead, .dead, .dead, .dead, .dead, .dead, .dead, .dead, .dead, .dead, .dead, .dead, .dead, .dead, .dead, .dead, .dead, .dead, .dead, .dead, .dead, .dead, .dead, .dead, .dead, .dead, .dead, .dead, .dead, .dead, .dead, .dead, .dead, .dead, .dead, .dead, .dead, .dead]) s) ((fun s9 => [(.box (.pair (.int .i64) (.pair .bool (.pair (.arr 8 (.int .i64)) (.pair (.arr 16 (.int .i64)) (.pair (.int .i64) (.pair (.arr 8 (.int .i64)) .unit)))))) e9_2 false), (.box (.pair (.int .i64) (.pair .bool (.pair (.arr 8 (.int .i64)) (.pair (.arr 16 (.int .i64)) (.pair (.int .i64) (.pair (.arr 8 (.int .i64)) .unit)))))) e9_2 false), (.box (.pair (.int .i64) (.pair .bool (.pair (.arr 8 (.int .i64)) (.pair (.arr 16 (.int .i64)) (.pair (.int .i64) (.pair (.arr 8 (.int .i64)) .unit)))))) e9_3 false)]) s))) = (fun e9_1 e9_2 e9_3 => (iter (law14_InterpOne.B1 fuel e9_1 e9_2 e9_3  (fun r => k (tupAV .bool [] r))) fuel)) := funext fun e9_1 => funext fun e9_2 => funext fun e9_3 => law14_InterpOne.l1 fuel e9_1 e9_2 e9_3   k fuel
  rw [h2] at h0
  exact h0
def law14_InterpOne.g0 {Ω : Type} (e9_1 : Int) (e9_2 : (Int × (Bool × ((List Int) × ((List Int) × (Int × ((List Int) × Unit))))))) (e9_3 : (Int × (Bool × ((List Int) × ((List Int) × (Int × ((List Int) × Unit)))))))  (k : Bool → Option Ω) : Nat → Int → Int → Option Ω
  | 0, a15_0, i15 =>
    bif (e9_1 == 0) then
      bif (decide (a15_0 ≤ 1)) then
        bif (eqI .bool e9_3.2.1 e9_2.2.1) then
          (frame_Fine.u e9_3).bind fun y6 =>
          bif y6 then
            bif (decide ((IntKind.wrap .i64 (e9_3.2.2.2.2.1 - e9_2.2.2.2.2.1)) ≤ 1)) then
              bif (decide ((IntKind.wrap .i64 (e9_2.2.2.2.2.1 - e9_3.2.2.2.2.1)) ≤ 1)) then
                law14_alive.u.bind fun y7 =>
                k y7
              else
                k false
            else
              k false
          else
            k false
        else
          k false
      else
        k false
    else
      k false
  | d15 + 1, a15_0, i15 =>
    bif (idxOK i15 16) then
      bif (idxOK i15 16) then
        let v5 : Bool := ((List.getD e9_3.2.2.2.1 (Int.toNat i15) 0) != (List.getD e9_2.2.2.2.1 (Int.toNat i15) 0))
        bif v5 then
          law14_InterpOne.g0 e9_1 e9_2 e9_3  k d15 ((IntKind.wrap .i64 (a15_0 + 1))) (i15 + 1)
        else
          law14_InterpOne.g0 e9_1 e9_2 e9_3  k d15 a15_0 (i15 + 1)
      else
        none
    else
      none
theorem law14_InterpOne.h0 {Ω : Type} (e9_1 : Int) (e9_2 : (Int × (Bool × ((List Int) × ((List Int) × (Int × ((List Int) × Unit))))))) (e9_3 : (Int × (Bool × ((List Int) × ((List Int) × (Int × ((List Int) × Unit)))))))   (k : Bool → Option Ω) (hN : (16 : Int) ≤ 9223372036854775807) : ∀ (m : Nat) (i : Int) (a : Int), -9223372036854775808 ≤ i → Int.toNat ((16 : Int) - i) < m → Le (law14_InterpOne.g0 e9_1 e9_2 e9_3  k (Int.toNat ((16 : Int) - i)) a i) (iter (law14_InterpOne.B0 BIG e9_1 e9_2 e9_3  k) m (a, i)) :=
  iter_count (16 : Int) (fun i15 => (decide (i15 < 16))) (fun i => rfl) (fun (i15 : Int) (a15 : Int) => (a15, i15)) (fun xs i15 a15 => law14_InterpOne.g0 e9_1 e9_2 e9_3  k xs a15 i15) (law14_InterpOne.B0 BIG e9_1 e9_2 e9_3  k)
    (fun i15 a15 r h0 => (Le.fls h0 (Le.cond (Le.cond (Le.cond (Le.bnd fun y6 => (Le.cond (Le.cond (Le.cond (Le.bnd fun y7 => (Le.refl _)) (Le.refl _)) (Le.refl _)) (Le.refl _))) (Le.refl _)) (Le.refl _)) (Le.refl _))))
    (fun i15 d15 a15 r h0 hw ih => (Le.tru h0 (Le.cond (Le.cond (let v5 : Bool := ((List.getD e9_3.2.2.2.1 (Int.toNat i15) 0) != (List.getD e9_2.2.2.2.1 (Int.toNat i15) 0)); (Le.cond (ih _ hw ((IntKind.wrap .i64 (a15 + 1)))) (ih _ hw (a15)))) Le.nil) Le.nil)))
    hN
def law14_InterpOne.g1 {Ω : Type} (e9_1 : Int) (e9_2 : (Int × (Bool × ((List Int) × ((List Int) × (Int × ((List Int) × Unit))))))) (e9_3 : (Int × (Bool × ((List Int) × ((List Int) × (Int × ((List Int) × Unit)))))))  (k : Bool → Option Ω) : Nat → Int → Int → Option Ω
  | 0, a9_0, i9 =>
    law14_InterpOne.g0 e9_1 e9_2 e9_3  k ((Int.toNat ((16 : Int) - 0))) a9_0 0
  | d9 + 1, a9_0, i9 =>
    bif (idxOK i9 8) then
      bif (idxOK i9 8) then
        bif ((List.getD e9_3.2.2.1 (Int.toNat i9) 0) != (List.getD e9_2.2.2.1 (Int.toNat i9) 0)) then
          law14_InterpOne.g1 e9_1 e9_2 e9_3  k d9 ((IntKind.wrap .i64 (a9_0 + 1))) (i9 + 1)
        else
          law14_InterpOne.g1 e9_1 e9_2 e9_3  k d9 a9_0 (i9 + 1)
      else
        none
    else
      none
theorem law14_InterpOne.h1 {Ω : Type} (e9_1 : Int) (e9_2 : (Int × (Bool × ((List Int) × ((List Int) × (Int × ((List Int) × Unit))))))) (e9_3 : (Int × (Bool × ((List Int) × ((List Int) × (Int × ((List Int) × Unit)))))))   (k : Bool → Option Ω) (hN : (8 : Int) ≤ 9223372036854775807) : ∀ (m : Nat) (i : Int) (a : Int), -9223372036854775808 ≤ i → Int.toNat ((8 : Int) - i) < m → Le (law14_InterpOne.g1 e9_1 e9_2 e9_3  k (Int.toNat ((8 : Int) - i)) a i) (iter (law14_InterpOne.B1 BIG e9_1 e9_2 e9_3  k) m (a, i)) :=
  iter_count (8 : Int) (fun i9 => (decide (i9 < 8))) (fun i => rfl) (fun (i9 : Int) (a9 : Int) => (a9, i9)) (fun xs i9 a9 => law14_InterpOne.g1 e9_1 e9_2 e9_3  k xs a9 i9) (law14_InterpOne.B1 BIG e9_1 e9_2 e9_3  k)
    (fun i9 a9 r h0 => (Le.fls h0 (law14_InterpOne.h0 _ _ _   k (by decide) BIG 0 (a9) (by decide) (by decide))))
    (fun i9 d9 a9 r h0 hw ih => (Le.tru h0 (Le.cond (Le.cond (Le.cond (ih _ hw ((IntKind.wrap .i64 (a9 + 1)))) (ih _ hw (a9))) Le.nil) Le.nil)))
    hN
def law14_InterpOne.w {Ω : Type} (x0 : (List (Int × (Int × (Int × (Int × Unit)))))) (x1 : (Int × (Bool × ((List Int) × ((List Int) × (Int × ((List Int) × Unit))))))) (k : Bool → Option Ω) : Option Ω :=
  bif (decide (((List.length x0 : Nat) : Int) > 70)) then
    law14_alive.u.bind fun y1 =>
    k y1
  else
    (interp_Step.u x0 x1).bind fun y2 =>
    bif (y2.2.1 != 0) then
      let v3 : Bool := (eqI (.pair (.int .i64) (.pair .bool (.pair (.arr 8 (.int .i64)) (.pair (.arr 16 (.int .i64)) (.pair (.int .i64) (.pair (.arr 8 (.int .i64)) .unit)))))) y2.1 x1)
      bif v3 then
        bif (eqI .bool (y2.2.1 == 3) (y2.2.2 != 0)) then
          law14_alive.u.bind fun y4 =>
          k y4
        else
          k false
      else
        k false
    else
      law14_InterpOne.g1 y2.2.2 x1 y2.1  k ((Int.toNat ((8 : Int) - 0))) 0 0
theorem law14_InterpOne.le {Ω : Type} (x0 : (List (Int × (Int × (Int × (Int × Unit)))))) (x1 : (Int × (Bool × ((List Int) × ((List Int) × (Int × ((List Int) × Unit))))))) (k : Bool → Option Ω) : Le (law14_InterpOne.w x0 x1 k) (law14_InterpOne.s BIG x0 x1 k) := by
  delta law14_InterpOne.w law14_InterpOne.s law14_InterpOne.sl
  exact (Le.cond (Le.bnd fun y1 => (Le.refl _)) (Le.bnd fun y2 => (Le.cond (let v3 : Bool := (eqI (.pair (.int .i64) (.pair .bool (.pair (.arr 8 (.int .i64)) (.pair (.arr 16 (.int .i64)) (.pair (.int .i64) (.pair (.arr 8 (.int .i64)) .unit)))))) y2.1 x1); (Le.cond (Le.cond (Le.bnd fun y4 => (Le.refl _)) (Le.refl _)) (Le.refl _))) (law14_InterpOne.h1 _ _ _   k (by decide) BIG 0 (0) (by decide) (by decide)))))
def law14_InterpOne.u (x0 : (List (Int × (Int × (Int × (Int × Unit)))))) (x1 : (Int × (Bool × ((List Int) × ((List Int) × (Int × ((List Int) × Unit))))))) : Option (Bool) := law14_InterpOne.w x0 x1 some
theorem law14_InterpOne.c (x0 : (List (Int × (Int × (Int × (Int × Unit)))))) (x1 : (Int × (Bool × ((List Int) × ((List Int) × (Int × ((List Int) × Unit))))))) (r : Bool) (h : law14_InterpOne.u x0 x1 = some r) : Contract CKM 9 [(.v (.slice (.pair (.int .u8) (.pair (.int .u8) (.pair (.int .u8) (.pair (.int .u8) .unit))))) (x0)), (.v (.pair (.int .i64) (.pair .bool (.pair (.arr 8 (.int .i64)) (.pair (.arr 16 (.int .i64)) (.pair (.int .i64) (.pair (.arr 8 (.int .i64)) .unit)))))) (x1))] (tupAV .bool [] r) :=
  contract_s (S := fun k => law14_InterpOne.s BIG x0 x1 k) CKM_ok (orS_ok interp_Step.e_ok (orS_ok law14_alive.e_ok (orS_ok (frame_Fine.e_ok.mono le_C_CKM) noS_ok))) (by kernel_rfl) (by kernel_rfl) (by kernel_rfl) (law14_InterpOne.ev BIG x0 x1 (dec .bool [])) (law14_InterpOne.le x0 x1 some r h)
noncomputable def law14_InterpOne.e : Ent := argI (.slice (.pair (.int .u8) (.pair (.int .u8) (.pair (.int .u8) (.pair (.int .u8) .unit))))) fun x0 => argI (.pair (.int .i64) (.pair .bool (.pair (.arr 8 (.int .i64)) (.pair (.arr 16 (.int .i64)) (.pair (.int .i64) (.pair (.arr 8 (.int .i64)) .unit)))))) fun x1 => endU (law14_InterpOne.u x0 x1) (tupAV .bool [])
theorem law14_InterpOne.e_ok : EntOK CKM 9 (fun {_} => law14_InterpOne.e) := entA_ok (argI_ok fun x0 => argI_ok fun x1 => endU_ok fun r h => law14_InterpOne.c x0 x1 r h)

/-- becket becketlaw14.InterpParts -/
noncomputable def law14_InterpParts.sp : Spec := (orS 39 (fun {_} => interp_Run.e) (orS 36 (fun {_} => law14_alive.e) noS))
def law14_InterpParts.s {Ω : Type} (x0 : (List (Int × (Int × (Int × (Int × Unit)))))) (x1 : (Int × (Bool × ((List Int) × ((List Int) × (Int × ((List Int) × Unit))))))) (x2 : (List Int)) (k : Bool → Option Ω) : Option Ω :=
  let v1 : Int := (if (200 : Int) < (IntKind.wrap .i64 (List.getD x2 0 0)) then 200 else (IntKind.wrap .i64 (List.getD x2 0 0)))
  let v2 : Int := (if (200 : Int) < (IntKind.wrap .i64 (List.getD x2 1 0)) then 200 else (IntKind.wrap .i64 (List.getD x2 1 0)))
  bif (decide (((List.length x0 : Nat) : Int) > 70)) then
    law14_alive.u.bind fun y3 =>
    k y3
  else
    (interp_Run.u x0 x1 v1).bind fun y4 =>
    (interp_Run.u x0 y4.1 v2).bind fun y5 =>
    (interp_Run.u x0 x1 ((IntKind.wrap .i64 (v1 + v2)))).bind fun y6 =>
    bif (decide (y4.2.2.2 < v1)) then
      bif (y6.2.2.2 == y4.2.2.2) then
        let v7 : Bool := (eqI (.pair (.int .i64) (.pair .bool (.pair (.arr 8 (.int .i64)) (.pair (.arr 16 (.int .i64)) (.pair (.int .i64) (.pair (.arr 8 (.int .i64)) .unit)))))) y6.1 y4.1)
        bif v7 then
          bif (y6.2.1 == y4.2.1) then
            bif (y6.2.2.1 == y4.2.2.1) then
              law14_alive.u.bind fun y8 =>
              k y8
            else
              k false
          else
            k false
        else
          k false
      else
        k false
    else
      let v9 : Bool := (eqI (.pair (.int .i64) (.pair .bool (.pair (.arr 8 (.int .i64)) (.pair (.arr 16 (.int .i64)) (.pair (.int .i64) (.pair (.arr 8 (.int .i64)) .unit)))))) y6.1 y5.1)
      bif v9 then
        bif (y6.2.1 == y5.2.1) then
          bif (y6.2.2.1 == y5.2.2.1) then
            bif (y6.2.2.2 == (IntKind.wrap .i64 (y4.2.2.2 + y5.2.2.2))) then
              law14_alive.u.bind fun y10 =>
              k y10
            else
              k false
          else
            k false
        else
          k false
      else
        k false
theorem law14_InterpParts.ev {Ω : Type} (fuel : Fuel) (x0 : (List (Int × (Int × (Int × (Int × Unit)))))) (x1 : (Int × (Bool × ((List Int) × ((List Int) × (Int × ((List Int) × Unit))))))) (x2 : (List Int)) (k : AV → Option Ω) : evFn CKM (fun {_} => law14_InterpParts.sp) fuel Tryd.f10 (Tryd.f10.body.getD .skip) [(.v (.slice (.pair (.int .u8) (.pair (.int .u8) (.pair (.int .u8) (.pair (.int .u8) .unit))))) (x0)), (.v (.pair (.int .i64) (.pair .bool (.pair (.arr 8 (.int .i64)) (.pair (.arr 16 (.int .i64)) (.pair (.int .i64) (.pair (.arr 8 (.int .i64)) .unit)))))) (x1)), (.v (.arr 2 (.int .u8)) (x2))] k = law14_InterpParts.s x0 x1 x2 (fun r => k (tupAV .bool [] r)) := by kernel_rfl
def law14_InterpParts.u (x0 : (List (Int × (Int × (Int × (Int × Unit)))))) (x1 : (Int × (Bool × ((List Int) × ((List Int) × (Int × ((List Int) × Unit))))))) (x2 : (List Int)) : Option (Bool) := law14_InterpParts.s x0 x1 x2 some
theorem law14_InterpParts.c (x0 : (List (Int × (Int × (Int × (Int × Unit)))))) (x1 : (Int × (Bool × ((List Int) × ((List Int) × (Int × ((List Int) × Unit))))))) (x2 : (List Int)) (r : Bool) (h : law14_InterpParts.u x0 x1 x2 = some r) : Contract CKM 10 [(.v (.slice (.pair (.int .u8) (.pair (.int .u8) (.pair (.int .u8) (.pair (.int .u8) .unit))))) (x0)), (.v (.pair (.int .i64) (.pair .bool (.pair (.arr 8 (.int .i64)) (.pair (.arr 16 (.int .i64)) (.pair (.int .i64) (.pair (.arr 8 (.int .i64)) .unit)))))) (x1)), (.v (.arr 2 (.int .u8)) (x2))] (tupAV .bool [] r) :=
  contract_s (S := fun k => law14_InterpParts.s x0 x1 x2 k) CKM_ok (orS_ok interp_Run.e_ok (orS_ok law14_alive.e_ok noS_ok)) (by kernel_rfl) (by kernel_rfl) (by kernel_rfl) (law14_InterpParts.ev ⟨1, fun _ => []⟩ x0 x1 x2 (dec .bool [])) h
noncomputable def law14_InterpParts.e : Ent := argI (.slice (.pair (.int .u8) (.pair (.int .u8) (.pair (.int .u8) (.pair (.int .u8) .unit))))) fun x0 => argI (.pair (.int .i64) (.pair .bool (.pair (.arr 8 (.int .i64)) (.pair (.arr 16 (.int .i64)) (.pair (.int .i64) (.pair (.arr 8 (.int .i64)) .unit)))))) fun x1 => argI (.arr 2 (.int .u8)) fun x2 => endU (law14_InterpParts.u x0 x1 x2) (tupAV .bool [])
theorem law14_InterpParts.e_ok : EntOK CKM 10 (fun {_} => law14_InterpParts.e) := entA_ok (argI_ok fun x0 => argI_ok fun x1 => argI_ok fun x2 => endU_ok fun r h => law14_InterpParts.c x0 x1 x2 r h)

end Go.Proofs.YtmphlhnpichonaaDoor.K

/- What functions of the program come to, plainly. -/
import Derived.Test.YtjhkagfolmhacaaGreatDoorZ13
set_option maxRecDepth 100000
set_option linter.unusedVariables false
namespace Go.Proofs.YtjhkagfolmhacaaGreatDoor.K
open Go Go.RowKit

/-- becket interp.led -/
noncomputable def interp_led.sp : Spec := (orS 133 (fun {_} => frame_Ret.e) (orS 132 (fun {_} => frame_Call.e) (orS 56 (fun {_} => instr_Place.e) (orS 31 (fun {_} => frame_Go.e) noS))))
def interp_led.s {Ω : Type} (x0 : T_s54) (x1 : T_s25) (k : T_s25 × Int → Option Ω) : Option Ω :=
  (instr_Place.u x0).bind fun y1 =>
  bif (x0.1 == 22) then
    (frame_Call.u x1 y1.1).bind fun y2 =>
    k (y2.1, y2.2)
  else
    bif (x0.1 == 23) then
      (frame_Ret.u x1).bind fun y3 =>
      k (y3.1, y3.2)
    else
      bif (x0.1 == 19) then
        bif (idxOK x0.2.1 8) then
          bif (!((List.getD x1.2.2.1 (Int.toNat x0.2.1) 0) == 0)) then
            (frame_Go.u x1 ((IntKind.wrap .i64 (x1.1 + 1)))).bind fun y4 =>
            k (y4.1, y4.2)
          else
            (frame_Go.u x1 y1.1).bind fun y5 =>
            k (y5.1, y5.2)
        else
          none
      else
        bif (x0.1 == 20) then
          bif (idxOK x0.2.1 8) then
            bif (!((List.getD x1.2.2.1 (Int.toNat x0.2.1) 0) != 0)) then
              (frame_Go.u x1 ((IntKind.wrap .i64 (x1.1 + 1)))).bind fun y6 =>
              k (y6.1, y6.2)
            else
              (frame_Go.u x1 y1.1).bind fun y7 =>
              k (y7.1, y7.2)
          else
            none
        else
          bif (x0.1 == 21) then
            bif (!x1.2.1) then
              (frame_Go.u x1 ((IntKind.wrap .i64 (x1.1 + 1)))).bind fun y8 =>
              k (y8.1, y8.2)
            else
              (frame_Go.u x1 y1.1).bind fun y9 =>
              k (y9.1, y9.2)
          else
            (frame_Go.u x1 y1.1).bind fun y10 =>
            k (y10.1, y10.2)
theorem interp_led.ev {Ω : Type} (fuel : Fuel) (x0 : T_s54) (x1 : T_s25) (k : AV → Option Ω) : evFn CK interp_led.sp fuel Tryz.f111 (Tryz.f111.body.getD .skip) [(.v E_s54 (x0)), (.v E_s25 (x1))] k = interp_led.s x0 x1 (fun r => k (tupAV E_s25 [(.int .i64)] r)) := by kernel_rfl
def interp_led.u (x0 : T_s54) (x1 : T_s25) : Option (T_s25 × Int) := interp_led.s x0 x1 some
theorem interp_led.c (x0 : T_s54) (x1 : T_s25) (r : T_s25 × Int) (h : interp_led.u x0 x1 = some r) : Contract CK 111 [(.v E_s54 (x0)), (.v E_s25 (x1))] (tupAV E_s25 [(.int .i64)] r) :=
  contract_s (S := fun k => interp_led.s x0 x1 k) CK_ok (orS_ok (frame_Ret.e_ok.mono le_C_CK) (orS_ok (frame_Call.e_ok.mono le_C_CK) (orS_ok instr_Place.e_ok (orS_ok (frame_Go.e_ok.mono le_C_CK) noS_ok)))) (by kernel_rfl) (by kernel_rfl) (by kernel_rfl) (interp_led.ev ⟨1, fun _ => []⟩ x0 x1 (dec E_s25 [(.int .i64)])) h
noncomputable def interp_led.e : Ent := argI E_s54 fun x0 => argI E_s25 fun x1 => endU (interp_led.u x0 x1) (tupAV E_s25 [(.int .i64)])
theorem interp_led.e_ok : EntOK CK 111 (fun {_} => interp_led.e) := entA_ok (argI_ok fun x0 => argI_ok fun x1 => endU_ok fun r h => interp_led.c x0 x1 r h)

/-- becket interp.reckoned -/
noncomputable def interp_reckoned.sp : Spec := (orS 139 (fun {_} => word_Do.e) (orS 138 (fun {_} => frame_Load.e) (orS 137 (fun {_} => word_Neg.e) (orS 136 (fun {_} => word_Not.e) (orS 135 (fun {_} => instr_Num.e) (orS 134 (fun {_} => frame_Store.e) (orS 30 (fun {_} => frame_Set.e) noS)))))))
def interp_reckoned.s {Ω : Type} (x0 : T_s54) (x1 : T_s25) (k : T_s25 × Int → Option Ω) : Option Ω :=
  bif (x0.1 == 0) then
    k (x1, 0)
  else
    bif (x0.1 == 25) then
      bif (idxOK x0.2.1 8) then
        bif (idxOK x0.2.2.1 8) then
          (frame_Store.u x1 ((List.getD x1.2.2.1 (Int.toNat x0.2.1) 0)) ((List.getD x1.2.2.1 (Int.toNat x0.2.2.1) 0))).bind fun y1 =>
          k (y1.1, y1.2)
        else
          none
      else
        none
    else
      bif (x0.1 == 2) then
        bif (idxOK x0.2.2.1 8) then
          (frame_Set.u x1 (IntKind.wrap .i64 x0.2.1) ((List.getD x1.2.2.1 (Int.toNat x0.2.2.1) 0))).bind fun y2 =>
          k (y2.1, y2.2)
        else
          none
      else
        bif (x0.1 == 3) then
          (instr_Num.u x0).bind fun y3 =>
          (frame_Set.u x1 (IntKind.wrap .i64 x0.2.1) y3).bind fun y4 =>
          k (y4.1, y4.2)
        else
          bif (x0.1 == 14) then
            bif (idxOK x0.2.2.1 8) then
              (word_Not.u ((List.getD x1.2.2.1 (Int.toNat x0.2.2.1) 0))).bind fun y5 =>
              bif (y5.2 != 0) then
                k (x1, y5.2)
              else
                (frame_Set.u x1 (IntKind.wrap .i64 x0.2.1) y5.1).bind fun y6 =>
                k (y6.1, y6.2)
            else
              none
          else
            bif (x0.1 == 15) then
              bif (idxOK x0.2.2.1 8) then
                (word_Neg.u ((List.getD x1.2.2.1 (Int.toNat x0.2.2.1) 0))).bind fun y7 =>
                bif (y7.2 != 0) then
                  k (x1, y7.2)
                else
                  (frame_Set.u x1 (IntKind.wrap .i64 x0.2.1) y7.1).bind fun y8 =>
                  k (y8.1, y8.2)
              else
                none
            else
              bif (x0.1 == 24) then
                bif (idxOK x0.2.2.1 8) then
                  (frame_Load.u x1 ((List.getD x1.2.2.1 (Int.toNat x0.2.2.1) 0))).bind fun y9 =>
                  bif (y9.2 != 0) then
                    k (x1, y9.2)
                  else
                    (frame_Set.u x1 (IntKind.wrap .i64 x0.2.1) y9.1).bind fun y10 =>
                    k (y10.1, y10.2)
                else
                  none
              else
                bif (x0.1 == 16) then
                  bif (idxOK x0.2.2.1 8) then
                    bif (idxOK x0.2.2.2.1 8) then
                      (word_Do.u 11 ((List.getD x1.2.2.1 (Int.toNat x0.2.2.1) 0)) ((List.getD x1.2.2.1 (Int.toNat x0.2.2.2.1) 0))).bind fun y11 =>
                      bif (y11.2 != 0) then
                        k (x1, y11.2)
                      else
                        (frame_Set.u x1 (IntKind.wrap .i64 x0.2.1) y11.1).bind fun y12 =>
                        k (y12.1, y12.2)
                    else
                      none
                  else
                    none
                else
                  bif (x0.1 == 17) then
                    bif (idxOK x0.2.2.1 8) then
                      bif (idxOK x0.2.2.2.1 8) then
                        (word_Do.u 12 ((List.getD x1.2.2.1 (Int.toNat x0.2.2.1) 0)) ((List.getD x1.2.2.1 (Int.toNat x0.2.2.2.1) 0))).bind fun y13 =>
                        bif (y13.2 != 0) then
                          k (x1, y13.2)
                        else
                          (frame_Set.u x1 (IntKind.wrap .i64 x0.2.1) y13.1).bind fun y14 =>
                          k (y14.1, y14.2)
                      else
                        none
                    else
                      none
                  else
                    bif (idxOK x0.2.2.1 8) then
                      bif (idxOK x0.2.2.2.1 8) then
                        (word_Do.u ((IntKind.wrap .i64 ((IntKind.wrap .i64 (1 + (IntKind.wrap .i64 x0.1))) - 4))) ((List.getD x1.2.2.1 (Int.toNat x0.2.2.1) 0)) ((List.getD x1.2.2.1 (Int.toNat x0.2.2.2.1) 0))).bind fun y15 =>
                        bif (y15.2 != 0) then
                          k (x1, y15.2)
                        else
                          (frame_Set.u x1 (IntKind.wrap .i64 x0.2.1) y15.1).bind fun y16 =>
                          k (y16.1, y16.2)
                      else
                        none
                    else
                      none
theorem interp_reckoned.ev {Ω : Type} (fuel : Fuel) (x0 : T_s54) (x1 : T_s25) (k : AV → Option Ω) : evFn CKM interp_reckoned.sp fuel Tryz.f112 (Tryz.f112.body.getD .skip) [(.v E_s54 (x0)), (.v E_s25 (x1))] k = interp_reckoned.s x0 x1 (fun r => k (tupAV E_s25 [(.int .i64)] r)) := by kernel_rfl
def interp_reckoned.u (x0 : T_s54) (x1 : T_s25) : Option (T_s25 × Int) := interp_reckoned.s x0 x1 some
theorem interp_reckoned.c (x0 : T_s54) (x1 : T_s25) (r : T_s25 × Int) (h : interp_reckoned.u x0 x1 = some r) : Contract CKM 112 [(.v E_s54 (x0)), (.v E_s25 (x1))] (tupAV E_s25 [(.int .i64)] r) :=
  contract_s (S := fun k => interp_reckoned.s x0 x1 k) CKM_ok (orS_ok (word_Do.e_ok.mono le_C_CKM) (orS_ok (frame_Load.e_ok.mono le_C_CKM) (orS_ok (word_Neg.e_ok.mono le_C_CKM) (orS_ok (word_Not.e_ok.mono le_C_CKM) (orS_ok instr_Num.e_ok (orS_ok (frame_Store.e_ok.mono le_C_CKM) (orS_ok (frame_Set.e_ok.mono le_C_CKM) noS_ok))))))) (by kernel_rfl) (by kernel_rfl) (by kernel_rfl) (interp_reckoned.ev ⟨1, fun _ => []⟩ x0 x1 (dec E_s25 [(.int .i64)])) h
noncomputable def interp_reckoned.e : Ent := argI E_s54 fun x0 => argI E_s25 fun x1 => endU (interp_reckoned.u x0 x1) (tupAV E_s25 [(.int .i64)])
theorem interp_reckoned.e_ok : EntOK CKM 112 (fun {_} => interp_reckoned.e) := entA_ok (argI_ok fun x0 => argI_ok fun x1 => endU_ok fun r h => interp_reckoned.c x0 x1 r h)

/-- becket interp.done -/
noncomputable def interp_done.sp : Spec := (orS 112 (fun {_} => interp_reckoned.e) (orS 111 (fun {_} => interp_led.e) (orS 57 (fun {_} => opcode_Class.e) (orS 31 (fun {_} => frame_Go.e) noS))))
def interp_done.s {Ω : Type} (x0 : T_s54) (x1 : T_s25) (k : T_s25 × Int → Option Ω) : Option Ω :=
  (opcode_Class.u (IntKind.wrap .i64 x0.1)).bind fun y1 =>
  bif (y1 == 1) then
    (interp_led.u x0 x1).bind fun y2 =>
    k (y2.1, y2.2)
  else
    (interp_reckoned.u x0 x1).bind fun y3 =>
    bif (y3.2 != 0) then
      k (x1, y3.2)
    else
      (frame_Go.u y3.1 ((IntKind.wrap .i64 (x1.1 + 1)))).bind fun y4 =>
      k (y4.1, y4.2)
theorem interp_done.ev {Ω : Type} (fuel : Fuel) (x0 : T_s54) (x1 : T_s25) (k : AV → Option Ω) : evFn CKM interp_done.sp fuel Tryz.f80 (Tryz.f80.body.getD .skip) [(.v E_s54 (x0)), (.v E_s25 (x1))] k = interp_done.s x0 x1 (fun r => k (tupAV E_s25 [(.int .i64)] r)) := by kernel_rfl
def interp_done.u (x0 : T_s54) (x1 : T_s25) : Option (T_s25 × Int) := interp_done.s x0 x1 some
theorem interp_done.c (x0 : T_s54) (x1 : T_s25) (r : T_s25 × Int) (h : interp_done.u x0 x1 = some r) : Contract CKM 80 [(.v E_s54 (x0)), (.v E_s25 (x1))] (tupAV E_s25 [(.int .i64)] r) :=
  contract_s (S := fun k => interp_done.s x0 x1 k) CKM_ok (orS_ok interp_reckoned.e_ok (orS_ok (interp_led.e_ok.mono le_CK_CKM) (orS_ok (opcode_Class.e_ok.mono le_CK_CKM) (orS_ok (frame_Go.e_ok.mono le_C_CKM) noS_ok)))) (by kernel_rfl) (by kernel_rfl) (by kernel_rfl) (interp_done.ev ⟨1, fun _ => []⟩ x0 x1 (dec E_s25 [(.int .i64)])) h
noncomputable def interp_done.e : Ent := argI E_s54 fun x0 => argI E_s25 fun x1 => endU (interp_done.u x0 x1) (tupAV E_s25 [(.int .i64)])
theorem interp_done.e_ok : EntOK CKM 80 (fun {_} => interp_done.e) := entA_ok (argI_ok fun x0 => argI_ok fun x1 => endU_ok fun r h => interp_done.c x0 x1 r h)

/-- becket interp.step -/
noncomputable def interp_step.sp : Spec := (orS 80 (fun {_} => interp_done.e) (orS 57 (fun {_} => opcode_Class.e) noS))
def interp_step.s {Ω : Type} (x0 : (List T_s54)) (x1 : T_s25) (k : T_s25 × Int × Int → Option Ω) : Option Ω :=
  bif (x1.1 == ((List.length x0 : Nat) : Int)) then
    k (x1, 2, 0)
  else
    bif (decide (x1.1 > ((List.length x0 : Nat) : Int))) then
      k (x1, 3, 18)
    else
      bif (idxOK x1.1 (List.length x0)) then
        (opcode_Class.u ((IntKind.wrap .i64 (List.getD x0 (Int.toNat x1.1) (0, (0, (0, (0, ()))))).1))).bind fun y1 =>
        bif (y1 == 2) then
          k (x1, 1, 0)
        else
          bif (y1 == 4) then
            k (x1, 1, 0)
          else
            bif ((List.getD x0 (Int.toNat x1.1) (0, (0, (0, (0, ()))))).1 == 42) then
              k (x1, 3, 18)
            else
              bif ((List.getD x0 (Int.toNat x1.1) (0, (0, (0, (0, ()))))).1 == 43) then
                k (x1, 3, 18)
              else
                bif ((List.getD x0 (Int.toNat x1.1) (0, (0, (0, (0, ()))))).1 == 44) then
                  k (x1, 3, 18)
                else
                  bif ((List.getD x0 (Int.toNat x1.1) (0, (0, (0, (0, ()))))).1 == 45) then
                    k (x1, 3, 18)
                  else
                    bif ((List.getD x0 (Int.toNat x1.1) (0, (0, (0, (0, ()))))).1 == 1) then
                      k (x1, 2, 0)
                    else
                      bif ((List.getD x0 (Int.toNat x1.1) (0, (0, (0, (0, ()))))).1 == 26) then
                        let v2 : Int := (IntKind.wrap .i64 (256 + (IntKind.wrap .i64 (List.getD x0 (Int.toNat x1.1) (0, (0, (0, (0, ()))))).2.1)))
                        k (x1, 3, v2)
                      else
                        (interp_done.u ((List.getD x0 (Int.toNat x1.1) (0, (0, (0, (0, ())))))) x1).bind fun y3 =>
                        bif (y3.2 != 0) then
                          k (x1, 3, y3.2)
                        else
                          k (y3.1, 0, 0)
      else
        none
theorem interp_step.ev {Ω : Type} (fuel : Fuel) (x0 : (List T_s54)) (x1 : T_s25) (k : AV → Option Ω) : evFn CKM interp_step.sp fuel Tryz.f63 (Tryz.f63.body.getD .skip) [(.v (.slice E_s54) (x0)), (.v E_s25 (x1))] k = interp_step.s x0 x1 (fun r => k (tupAV E_s25 [(.int .i64), (.int .i64)] r)) := by kernel_rfl
def interp_step.u (x0 : (List T_s54)) (x1 : T_s25) : Option (T_s25 × Int × Int) := interp_step.s x0 x1 some
theorem interp_step.c (x0 : (List T_s54)) (x1 : T_s25) (r : T_s25 × Int × Int) (h : interp_step.u x0 x1 = some r) : Contract CKM 63 [(.v (.slice E_s54) (x0)), (.v E_s25 (x1))] (tupAV E_s25 [(.int .i64), (.int .i64)] r) :=
  contract_s (S := fun k => interp_step.s x0 x1 k) CKM_ok (orS_ok interp_done.e_ok (orS_ok (opcode_Class.e_ok.mono le_CK_CKM) noS_ok)) (by kernel_rfl) (by kernel_rfl) (by kernel_rfl) (interp_step.ev ⟨1, fun _ => []⟩ x0 x1 (dec E_s25 [(.int .i64), (.int .i64)])) h
noncomputable def interp_step.e : Ent := argI (.slice E_s54) fun x0 => argI E_s25 fun x1 => endU (interp_step.u x0 x1) (tupAV E_s25 [(.int .i64), (.int .i64)])
theorem interp_step.e_ok : EntOK CKM 63 (fun {_} => interp_step.e) := entA_ok (argI_ok fun x0 => argI_ok fun x1 => endU_ok fun r h => interp_step.c x0 x1 r h)

/-- becket interp.Step -/
noncomputable def interp_Step.sp : Spec := (orS 63 (fun {_} => interp_step.e) (orS 41 (fun {_} => prog_Check.e) (orS 15 (fun {_} => frame_Fine.e) noS)))
def interp_Step.s {Ω : Type} (x0 : (List T_s54)) (x1 : T_s25) (k : T_s25 × Int × Int → Option Ω) : Option Ω :=
  (prog_Check.u x0).bind fun y1 =>
  bif (y1.2 != 0) then
    k (x1, 3, 1)
  else
    (frame_Fine.u x1).bind fun y2 =>
    bif (!y2) then
      k (x1, 3, 1)
    else
      (interp_step.u x0 x1).bind fun y3 =>
      k (y3.1, y3.2.1, y3.2.2)
theorem interp_Step.ev {Ω : Type} (fuel : Fuel) (x0 : (List T_s54)) (x1 : T_s25) (k : AV → Option Ω) : evFn CKM interp_Step.sp fuel Tryz.f42 (Tryz.f42.body.getD .skip) [(.v (.slice E_s54) (x0)), (.v E_s25 (x1))] k = interp_Step.s x0 x1 (fun r => k (tupAV E_s25 [(.int .i64), (.int .i64)] r)) := by kernel_rfl
def interp_Step.u (x0 : (List T_s54)) (x1 : T_s25) : Option (T_s25 × Int × Int) := interp_Step.s x0 x1 some
theorem interp_Step.c (x0 : (List T_s54)) (x1 : T_s25) (r : T_s25 × Int × Int) (h : interp_Step.u x0 x1 = some r) : Contract CKM 42 [(.v (.slice E_s54) (x0)), (.v E_s25 (x1))] (tupAV E_s25 [(.int .i64), (.int .i64)] r) :=
  contract_s (S := fun k => interp_Step.s x0 x1 k) CKM_ok (orS_ok interp_step.e_ok (orS_ok (prog_Check.e_ok.mono le_CK_CKM) (orS_ok (frame_Fine.e_ok.mono le_C_CKM) noS_ok))) (by kernel_rfl) (by kernel_rfl) (by kernel_rfl) (interp_Step.ev ⟨1, fun _ => []⟩ x0 x1 (dec E_s25 [(.int .i64), (.int .i64)])) h
noncomputable def interp_Step.e : Ent := argI (.slice E_s54) fun x0 => argI E_s25 fun x1 => endU (interp_Step.u x0 x1) (tupAV E_s25 [(.int .i64), (.int .i64)])
theorem interp_Step.e_ok : EntOK CKM 42 (fun {_} => interp_Step.e) := entA_ok (argI_ok fun x0 => argI_ok fun x1 => endU_ok fun r h => interp_Step.c x0 x1 r h)

/-- becket becketref14.set -/
noncomputable def ref14_set.sp : Spec := (orS 118 (fun {_} => ref13_Set.e) (orS 84 (fun {_} => ref13_Go.e) noS))
def ref14_set.s {Ω : Type} (x0 : T_s25) (x1 : Int) (x2 : Int) (x3 : Int) (k : T_s25 × Int → Option Ω) : Option Ω :=
  bif (x3 != 0) then
    k (x0, x3)
  else
    (ref13_Set.u x0 (IntKind.wrap .i64 x1) x2).bind fun y1 =>
    bif (y1.2 != 0) then
      k (x0, y1.2)
    else
      (ref13_Go.u y1.1 ((IntKind.wrap .i64 (x0.1 + 1)))).bind fun y2 =>
      k (y2.1, y2.2)
theorem ref14_set.ev {Ω : Type} (fuel : Fuel) (x0 : T_s25) (x1 : Int) (x2 : Int) (x3 : Int) (k : AV → Option Ω) : evFn C ref14_set.sp fuel Tryz.f85 (Tryz.f85.body.getD .skip) [(.v E_s25 (x0)), (.v (.int .u8) (x1)), (.v (.int .i64) (x2)), (.v (.int .i64) (x3))] k = ref14_set.s x0 x1 x2 x3 (fun r => k (tupAV E_s25 [(.int .i64)] r)) := by kernel_rfl
def ref14_set.u (x0 : T_s25) (x1 : Int) (x2 : Int) (x3 : Int) : Option (T_s25 × Int) := ref14_set.s x0 x1 x2 x3 some
theorem ref14_set.c (x0 : T_s25) (x1 : Int) (x2 : Int) (x3 : Int) (r : T_s25 × Int) (h : ref14_set.u x0 x1 x2 x3 = some r) : Contract C 85 [(.v E_s25 (x0)), (.v (.int .u8) (x1)), (.v (.int .i64) (x2)), (.v (.int .i64) (x3))] (tupAV E_s25 [(.int .i64)] r) :=
  contract_s (S := fun k => ref14_set.s x0 x1 x2 x3 k) C_ok (orS_ok ref13_Set.e_ok (orS_ok ref13_Go.e_ok noS_ok)) (by kernel_rfl) (by kernel_rfl) (by kernel_rfl) (ref14_set.ev ⟨1, fun _ => []⟩ x0 x1 x2 x3 (dec E_s25 [(.int .i64)])) h
noncomputable def ref14_set.e : Ent := argI E_s25 fun x0 => argI (.int .u8) fun x1 => argI (.int .i64) fun x2 => argI (.int .i64) fun x3 => endU (ref14_set.u x0 x1 x2 x3) (tupAV E_s25 [(.int .i64)])
theorem ref14_set.e_ok : EntOK C 85 (fun {_} => ref14_set.e) := entA_ok (argI_ok fun x0 => argI_ok fun x1 => argI_ok fun x2 => argI_ok fun x3 => endU_ok fun r h => ref14_set.c x0 x1 x2 x3 r h)

/-- becket becketref14.jump -/
noncomputable def ref14_jump.sp : Spec := (orS 84 (fun {_} => ref13_Go.e) noS)
def ref14_jump.s {Ω : Type} (x0 : T_s25) (x1 : Bool) (x2 : Int) (k : T_s25 × Int → Option Ω) : Option Ω :=
  bif x1 then
    (ref13_Go.u x0 x2).bind fun y1 =>
    k (y1.1, y1.2)
  else
    (ref13_Go.u x0 ((IntKind.wrap .i64 (x0.1 + 1)))).bind fun y2 =>
    k (y2.1, y2.2)
theorem ref14_jump.ev {Ω : Type} (fuel : Fuel) (x0 : T_s25) (x1 : Bool) (x2 : Int) (k : AV → Option Ω) : evFn C ref14_jump.sp fuel Tryz.f91 (Tryz.f91.body.getD .skip) [(.v E_s25 (x0)), (.v .bool (x1)), (.v (.int .i64) (x2))] k = ref14_jump.s x0 x1 x2 (fun r => k (tupAV E_s25 [(.int .i64)] r)) := by kernel_rfl
def ref14_jump.u (x0 : T_s25) (x1 : Bool) (x2 : Int) : Option (T_s25 × Int) := ref14_jump.s x0 x1 x2 some
theorem ref14_jump.c (x0 : T_s25) (x1 : Bool) (x2 : Int) (r : T_s25 × Int) (h : ref14_jump.u x0 x1 x2 = some r) : Contract C 91 [(.v E_s25 (x0)), (.v .bool (x1)), (.v (.int .i64) (x2))] (tupAV E_s25 [(.int .i64)] r) :=
  contract_s (S := fun k => ref14_jump.s x0 x1 x2 k) C_ok (orS_ok ref13_Go.e_ok noS_ok) (by kernel_rfl) (by kernel_rfl) (by kernel_rfl) (ref14_jump.ev ⟨1, fun _ => []⟩ x0 x1 x2 (dec E_s25 [(.int .i64)])) h
noncomputable def ref14_jump.e : Ent := argI E_s25 fun x0 => argI .bool fun x1 => argI (.int .i64) fun x2 => endU (ref14_jump.u x0 x1 x2) (tupAV E_s25 [(.int .i64)])
theorem ref14_jump.e_ok : EntOK C 91 (fun {_} => ref14_jump.e) := entA_ok (argI_ok fun x0 => argI_ok fun x1 => argI_ok fun x2 => endU_ok fun r h => ref14_jump.c x0 x1 x2 r h)

/-- becket becketref14.sums -/
noncomputable def ref14_sums.sp : Spec := noS
def ref14_sums.s {Ω : Type}  (k : (List ByteArray) → Option Ω) : Option Ω :=
  k [(bs []), (bs [97, 100, 100]), (bs [115, 117, 98]), (bs [109, 117, 108]), (bs [100, 105, 118]), (bs [114, 101, 109]), (bs [97, 110, 100]), (bs [111, 114]), (bs [120, 111, 114]), (bs [115, 104, 108]), (bs [115, 104, 114]), (bs [108, 116]), (bs [101, 113])]
theorem ref14_sums.ev {Ω : Type} (fuel : Fuel)  (k : AV → Option Ω) : evFn C ref14_sums.sp fuel Tryz.f94 (Tryz.f94.body.getD .skip) [] k = ref14_sums.s  (fun r => k (tupAV (.slice .str) [] r)) := by kernel_rfl
def ref14_sums.t  : (List ByteArray) :=
  [(bs []), (bs [97, 100, 100]), (bs [115, 117, 98]), (bs [109, 117, 108]), (bs [100, 105, 118]), (bs [114, 101, 109]), (bs [97, 110, 100]), (bs [111, 114]), (bs [120, 111, 114]), (bs [115, 104, 108]), (bs [115, 104, 114]), (bs [108, 116]), (bs [101, 113])]
theorem ref14_sums.v {Ω : Type}  (k : (List ByteArray) → Option Ω) : ref14_sums.s  k = k (ref14_sums.t ) := by
  delta ref14_sums.s ref14_sums.t; exact rfl
theorem ref14_sums.c  : Contract C 94 [] (tupAV (.slice .str) [] (ref14_sums.t )) :=
  contract_s (S := fun k => ref14_sums.s  k) C_ok noS_ok (by kernel_rfl) (by kernel_rfl) (by kernel_rfl) (ref14_sums.ev ⟨1, fun _ => []⟩  (dec (.slice .str) [])) (ref14_sums.v  some)
noncomputable def ref14_sums.e : Ent := endT (tupAV (.slice .str) [] (ref14_sums.t ))
theorem ref14_sums.e_ok : EntOK C 94 (fun {_} => ref14_sums.e) := entA_ok (endT_ok (ref14_sums.c ))

/-- becket becketref14.plain -/
noncomputable def ref14_plain.sp : Spec := (orS 95 (fun {_} => ref08_Do.e) (orS 94 (fun {_} => ref14_sums.e) (orS 93 (fun {_} => ref13_Ret.e) (orS 92 (fun {_} => ref13_Call.e) (orS 91 (fun {_} => ref14_jump.e) (orS 90 (fun {_} => ref13_Store.e) (orS 89 (fun {_} => ref13_Load.e) (orS 88 (fun {_} => ref08_Neg.e) (orS 87 (fun {_} => ref08_Not.e) (orS 86 (fun {_} => ref10_Num.e) (orS 85 (fun {_} => ref14_set.e) (orS 84 (fun {_} => ref13_Go.e) (orS 83 (fun {_} => ref10_Place.e) (orS 25 (fun {_} => ref09_Of.e) noS))))))))))))))
def ref14_plain.F (fuel : Nat) : Fuel := ⟨fuel, fun r => bif r == 38 then [0, 1, 5, 7, 8, 9, 10, 11, 12, 13, 14, 15, 16, 19, 20, 21, 22, 23, 24, 25, 26, 27, 28, 29, 30, 31, 32, 33, 34, 35, 36, 37, 38, 39, 40, 41, 42, 43, 44, 45, 46, 47, 48, 49, 50, 51, 52, 53, 54, 55, 56, 57, 58, 59, 60, 61, 62, 63, 64, 65, 66, 67, 68, 69, 70, 71, 72, 73, 74, 75, 76, 77, 78, 79, 80, 81, 82, 83, 84, 85, 86, 87, 88, 89, 90, 91, 92, 93, 94, 95, 96, 97, 98, 99, 100, 101, 102, 103, 104, 105, 106, 107, 108, 109, 110, 111, 112, 113, 114, 115, 116, 117, 118, 119, 120, 121, 122, 123, 124, 125, 126, 127, 128, 129, 130, 131, 132, 133, 134, 135, 136, 137, 138, 139, 140, 141, 142, 143, 144, 145, 146, 147, 148, 149, 150, 151, 152, 153, 154, 155, 156, 157, 158, 159, 160, 161, 162, 163, 164, 165, 166, 167, 168, 169, 170, 171, 172, 173, 174, 175, 176, 177, 178, 179, 180, 181, 182, 183, 184, 185, 186, 187, 188, 189, 190, 191, 192, 193, 194, 195, 196, 197, 198, 199, 200, 201, 202, 203, 204, 205, 206, 207, 208, 209, 210, 211, 212, 213, 214, 215, 216, 217, 218, 219, 220, 221, 222, 223, 224, 225, 226, 227, 228, 229, 230, 231, 232, 233, 234, 235, 236, 237, 238, 239, 240, 241] else []⟩
def ref14_plain.E0 (e38_1 : ByteArray) (e38_2 : (List ByteArray)) (e38_3 : T_s54) (e38_4 : T_s25) (e38_5 : (List Int)) (e38_6 : (List Int)) (s38 : Int) : List AV := [.dead, .dead, (.ref 0 []), (.ref 1 []), (.ref 2 []), .dead, (.v .str (e38_1)), .dead, .dead, .dead, .dead, .dead, .dead, .dead, .dead, .dead, .dead, (.v (.slice .str) (e38_2)), (.v (.int .i64) (s38)), .dead, .dead, .dead, .dead, .dead, .dead, .dead, .dead, .dead, .dead, .dead, .dead, .dead, .dead, .dead, .dead, .dead, .dead, .dead, .dead, .dead, .dead, .dead, .dead, .dead, .dead, .dead, .dead, .dead, .dead, .dead, .dead, .dead, .dead, .dead, .dead, .dead, .dead, .dead, .dead, .dead, .dead, .dead, .dead, .dead, .dead, .dead, .dead, .dead, .dead, .dead, .dead, .dead, .dead, .dead, .dead, .dead, .dead, .dead, .dead, .dead, .dead, .dead, .dead, .dead, .dead, .dead, .dead, .dead, .dead, .dead, .dead, .dead, .dead, .dead, .dead, .dead, .dead, .dead, .dead, .dead, .dead, .dead, .dead, .dead, .dead, .dead, .dead, .dead, .dead, .dead, .dead, .dead, .dead, .dead, .dead, .dead, .dead, .dead, .dead, .dead, .dead, .dead, .dead, .dead, .dead, .dead, .dead, .dead, .dead, .dead, .dead, .dead, .dead, .dead, .dead, .dead, .dead, .dead, .dead, .dead, .dead, .dead, .dead, .dead, .dead, .dead, .dead, .dead, .dead, .dead, .dead, .dead, .dead, .dead, .dead, .dead, .dead, .dead, .dead, .dead, .dead, .dead, .dead, .dead, .dead, .dead, .dead, .dead, .dead, .dead, .dead, .dead, .dead, .dead, .dead, .dead, .dead, .dead, .dead, .dead, .dead, .dead, .dead, .dead, .dead, .dead, .dead, .dead, .dead, .dead, .dead, .dead, .dead, .dead, .dead, .dead, .dead, .dead, .dead, .dead, .dead, .dead, .dead, .dead, .dead, .dead, .dead, .dead, .dead, .dead, .dead, .dead, .dead, .dead, .dead, .dead, .dead, .dead, .dead, .dead, .dead, .dead, .dead, .dead, .dead, .dead, .dead, .dead, .dead, .dead, .dead, .dead, .dead, .dead, .dead, .dead, .dead, .dead, .dead, .dead, .dead, .dead]
def ref14_plain.H0 (e38_1 : ByteArray) (e38_2 : (List ByteArray)) (e38_3 : T_s54) (e38_4 : T_s25) (e38_5 : (List Int)) (e38_6 : (List Int)) (s38 : Int) : Heap := [(.box E_s54 e38_3 false), (.box E_s25 e38_4 false), (.box E_s25 (0, (false, (e38_5, (e38_6, (0, (e38_5, ())))))) false)]
noncomputable def ref14_plain.M0 {Ω : Type} (fuel : Nat) (e38_1 : ByteArray) (e38_2 : (List ByteArray)) (e38_3 : T_s54) (e38_4 : T_s25) (e38_5 : (List Int)) (e38_6 : (List Int))  (k : AV → Option Ω) (m : Nat) (s : Int) : Option Ω := loopK (fun env L k => evCode C ref14_plain.sp (ref14_plain.F fuel) (cl (cl (cr (cl (cr (cr (cr (cr (cr (Tryz.f67.body.getD .skip)))))))))) env L k) [true, true, false, false, false, true, false, true, true, true, true, true, true, true, true, true, true, false, false, true, true, true, true, true, true, true, true, true, true, true, true, true, true, true, true, true, true, true, true, true, true, true, true, true, true, true, true, true, true, true, true, true, true, true, true, true, true, true, true, true, true, true, true, true, true, true, true, true, true, true, true, true, true, true, true, true, true, true, true, true, true, true, true, true, true, true, true, true, true, true, true, true, true, true, true, true, true, true, true, true, true, true, true, true, true, true, true, true, true, true, true, true, true, true, true, true, true, true, true, true, true, true, true, true, true, true, true, true, true, true, true, true, true, true, true, true, true, true, true, true, true, true, true, true, true, true, true, true, true, true, true, true, true, true, true, true, true, true, true, true, true, true, true, true, true, true, true, true, true, true, true, true, true, true, true, true, true, true, true, true, true, true, true, true, true, true, true, true, true, true, true, true, true, true, true, true, true, true, true, true, true, true, true, true, true, true, true, true, true, true, true, true, true, true, true, true, true, true, true, true, true, true, true, true, true, true, true, true, true, true, true, true, true, true, true, true, true, true, true, true, true, true] 3 (blockK 1 (seqK (fun env L => evCode C ref14_plain.sp (ref14_plain.F fuel) (cr (cr (cr (cr (cr (cr (Tryz.f67.body.getD .skip))))))) env L (finK C Tryz.f67 k)) (finK C Tryz.f67 k))) m ((ref14_plain.E0 e38_1 e38_2 e38_3 e38_4 e38_5 e38_6) s) ((ref14_plain.H0 e38_1 e38_2 e38_3 e38_4 e38_5 e38_6) s)
def ref14_plain.b0 {Ω : Type} (e38_1 : ByteArray) (e38_2 : (List ByteArray)) (e38_3 : T_s54) (e38_4 : T_s25) (e38_5 : (List Int)) (e38_6 : (List Int))   (k : T_s25 × Int → Option Ω) (r38 : Int → Option Ω) (s38 : Int) : Option Ω :=
  bif (decide (s38 < ((List.length e38_2 : Nat) : Int))) then
    bif (idxOK s38 (List.length e38_2)) then
      bif (((List.getD e38_2 (Int.toNat s38) (bs []))).data.toList == (e38_1).data.toList) then
        bif (idxOK e38_3.2.2.1 8) then
          bif (idxOK e38_3.2.2.2.1 8) then
            (ref08_Do.u s38 ((List.getD e38_4.2.2.1 (Int.toNat e38_3.2.2.1) 0)) ((List.getD e38_4.2.2.1 (Int.toNat e38_3.2.2.2.1) 0))).bind fun y21 =>
            (ref14_set.u e38_4 e38_3.2.1 y21.1 y21.2).bind fun y22 =>
            k (y22.1, y22.2)
          else
            none
        else
          none
      else
        r38 ((IntKind.wrap .i64 (s38 + 1)))
    else
      none
  else
    k (e38_4, 18)
def ref14_plain.B0 {Ω : Type} (fuel : Nat) (e38_1 : ByteArray) (e38_2 : (List ByteArray)) (e38_3 : T_s54) (e38_4 : T_s25) (e38_5 : (List Int)) (e38_6 : (List Int))  (k : T_s25 × Int → Option Ω) (r38 : Int → Option Ω) (s38 : Int) : Option Ω := ref14_plain.b0 e38_1 e38_2 e38_3 e38_4 e38_5 e38_6   k r38 s38
theorem ref14_plain.l0 {Ω : Type} (fuel : Nat) (e38_1 : ByteArray) (e38_2 : (List ByteArray)) (e38_3 : T_s54) (e38_4 : T_s25) (e38_5 : (List Int)) (e38_6 : (List Int))  (k : AV → Option Ω) : ∀ m, (ref14_plain.M0 fuel e38_1 e38_2 e38_3 e38_4 e38_5 e38_6  k m) = iter (ref14_plain.B0 fuel e38_1 e38_2 e38_3 e38_4 e38_5 e38_6  (fun r => k (tupAV E_s25 [(.int .i64)] r))) m :=
  loopK_iter (envOf := (ref14_plain.E0 e38_1 e38_2 e38_3 e38_4 e38_5 e38_6)) (LOf := (ref14_plain.H0 e38_1 e38_2 e38_3 e38_4 e38_5 e38_6)) (B := ref14_plain.B0 fuel e38_1 e38_2 e38_3 e38_4 e38_5 e38_6  (fun r => k (tupAV E_s25 [(.int .i64)] r))) (fun R s => by kernel_rfl)
def ref14_plain.sl {Ω : Type} (x0 : T_s54) (x1 : T_s25) (lp0 : ByteArray → (List ByteArray) → T_s54 → T_s25 → (List Int) → (List Int) → Int → Option Ω) (k : T_s25 × Int → Option Ω) : Option Ω :=
  (ref09_Of.u (IntKind.wrap .i64 x0.1)).bind fun y1 =>
  (ref10_Place.u x0).bind fun y2 =>
  bif ((y1.1).data.toList == ((bs [110, 111, 112])).data.toList) then
    (ref13_Go.u x1 ((IntKind.wrap .i64 (x1.1 + 1)))).bind fun y3 =>
    k (y3.1, y3.2)
  else
    bif ((y1.1).data.toList == ((bs [109, 111, 118])).data.toList) then
      bif (idxOK x0.2.2.1 8) then
        (ref14_set.u x1 x0.2.1 ((List.getD x1.2.2.1 (Int.toNat x0.2.2.1) 0)) 0).bind fun y4 =>
        k (y4.1, y4.2)
      else
        none
    else
      bif ((y1.1).data.toList == ((bs [115, 101, 116])).data.toList) then
        (ref10_Num.u x0).bind fun y5 =>
        (ref14_set.u x1 x0.2.1 y5 0).bind fun y6 =>
        k (y6.1, y6.2)
      else
        bif ((y1.1).data.toList == ((bs [110, 111, 116])).data.toList) then
          bif (idxOK x0.2.2.1 8) then
            let v7 : Int × Int := (ref08_Not.t ((List.getD x1.2.2.1 (Int.toNat x0.2.2.1) 0)))
            (ref14_set.u x1 x0.2.1 v7.1 v7.2).bind fun y8 =>
            k (y8.1, y8.2)
          else
            none
        else
          bif ((y1.1).data.toList == ((bs [110, 101, 103])).data.toList) then
            bif (idxOK x0.2.2.1 8) then
              let v9 : Int × Int := (ref08_Neg.t ((List.getD x1.2.2.1 (Int.toNat x0.2.2.1) 0)))
              (ref14_set.u x1 x0.2.1 v9.1 v9.2).bind fun y10 =>
              k (y10.1, y10.2)
            else
              none
          else
            bif ((y1.1).data.toList == ((bs [108, 111, 97, 100])).data.toList) then
              bif (idxOK x0.2.2.1 8) then
                (ref13_Load.u x1 ((List.getD x1.2.2.1 (Int.toNat x0.2.2.1) 0))).bind fun y11 =>
                (ref14_set.u x1 x0.2.1 y11.1 y11.2).bind fun y12 =>
                k (y12.1, y12.2)
              else
                none
            else
              bif ((y1.1).data.toList == ((bs [115, 116, 111, 114, 101])).data.toList) then
                bif (idxOK x0.2.1 8) then
                  bif (idxOK x0.2.2.1 8) then
                    (ref13_Store.u x1 ((List.getD x1.2.2.1 (Int.toNat x0.2.1) 0)) ((List.getD x1.2.2.1 (Int.toNat x0.2.2.1) 0))).bind fun y13 =>
                    bif (y13.2 != 0) then
                      k (x1, y13.2)
                    else
                      (ref13_Go.u y13.1 ((IntKind.wrap .i64 (x1.1 + 1)))).bind fun y14 =>
                      k (y14.1, y14.2)
                  else
                    none
                else
                  none
              else
                bif ((y1.1).data.toList == ((bs [106, 109, 112])).data.toList) then
                  (ref13_Go.u x1 y2.1).bind fun y15 =>
                  k (y15.1, y15.2)
                else
                  bif ((y1.1).data.toList == ((bs [106, 122])).data.toList) then
                    bif (idxOK x0.2.1 8) then
                      (ref14_jump.u x1 (((List.getD x1.2.2.1 (Int.toNat x0.2.1) 0) == 0)) y2.1).bind fun y16 =>
                      k (y16.1, y16.2)
                    else
                      none
                  else
                    bif ((y1.1).data.toList == ((bs [106, 110, 122])).data.toList) then
                      bif (idxOK x0.2.1 8) then
                        (ref14_jump.u x1 (((List.getD x1.2.2.1 (Int.toNat x0.2.1) 0) != 0)) y2.1).bind fun y17 =>
                        k (y17.1, y17.2)
                      else
                        none
                    else
                      bif ((y1.1).data.toList == ((bs [106, 98, 97, 100])).data.toList) then
                        (ref14_jump.u x1 x1.2.1 y2.1).bind fun y18 =>
                        k (y18.1, y18.2)
                      else
                        bif ((y1.1).data.toList == ((bs [99, 97, 108, 108])).data.toList) then
                          (ref13_Call.u x1 y2.1).bind fun y19 =>
                          k (y19.1, y19.2)
                        else
                          bif ((y1.1).data.toList == ((bs [114, 101, 116])).data.toList) then
                            (ref13_Ret.u x1).bind fun y20 =>
                            k (y20.1, y20.2)
                          else
                            lp0 y1.1 ref14_sums.t x0 x1 (List.replicate 8 0) (List.replicate 16 0) (1)
def ref14_plain.s {Ω : Type} (fuel : Nat) (x0 : T_s54) (x1 : T_s25) (k : T_s25 × Int → Option Ω) : Option Ω := ref14_plain.sl x0 x1 (fun e38_1 e38_2 e38_3 e38_4 e38_5 e38_6 => (iter (ref14_plain.B0 fuel e38_1 e38_2 e38_3 e38_4 e38_5 e38_6  k) fuel)) k
theorem ref14_plain.ev {Ω : Type} (fuel : Nat) (x0 : T_s54) (x1 : T_s25) (k : AV → Option Ω) : evFn C ref14_plain.sp (ref14_plain.F fuel) Tryz.f67 (Tryz.f67.body.getD .skip) [(.v E_s54 (x0)), (.v E_s25 (x1))] k = ref14_plain.s fuel x0 x1 (fun r => k (tupAV E_s25 [(.int .i64)] r)) := by
  have h0 : evFn C ref14_plain.sp (ref14_plain.F fuel) Tryz.f67 (Tryz.f67.body.getD .skip) [(.v E_s54 (x0)), (.v E_s25 (x1))] k = ref14_plain.sl x0 x1 (fun e38_1 e38_2 e38_3 e38_4 e38_5 e38_6 => (ref14_plain.M0 fuel e38_1 e38_2 e38_3 e38_4 e38_5 e38_6  k fuel)) (fun r => k (tupAV E_s25 [(.int .i64)] r)) := by kernel_rfl
  have h1 : (fun e38_1 e38_2 e38_3 e38_4 e38_5 e38_6 => (ref14_plain.M0 fuel e38_1 e38_2 e38_3 e38_4 e38_5 e38_6  k fuel)) = (fun e38_1 e38_2 e38_3 e38_4 e38_5 e38_6 => (iter (ref14_plain.B0 fuel e38_1 e38_2 e38_3 e38_4 e38_5 e38_6  (fun r => k (tupAV E_s25 [(.int .i64)] r))) fuel)) := funext fun e38_1 => funext fun e38_2 => funext fun e38_3 => funext fun e38_4 => funext fun e38_5 => funext fun e38_6 => ref14_plain.l0 fuel e38_1 e38_2 e38_3 e38_4 e38_5 e38_6   k fuel
  rw [h1] at h0
  exact h0
def ref14_plain.g0 {Ω : Type} (e38_1 : ByteArray) (e38_2 : (List ByteArray)) (e38_3 : T_s54) (e38_4 : T_s25) (e38_5 : (List Int)) (e38_6 : (List Int))  (k : T_s25 × Int → Option Ω) : Nat → Int → Option Ω
  | 0, i38 =>
    k (e38_4, 18)
  | d38 + 1, i38 =>
    bif (idxOK i38 (List.length e38_2)) then
      bif (((List.getD e38_2 (Int.toNat i38) (bs []))).data.toList == (e38_1).data.toList) then
        bif (idxOK e38_3.2.2.1 8) then
          bif (idxOK e38_3.2.2.2.1 8) then
            (ref08_Do.u i38 ((List.getD e38_4.2.2.1 (Int.toNat e38_3.2.2.1) 0)) ((List.getD e38_4.2.2.1 (Int.toNat e38_3.2.2.2.1) 0))).bind fun y21 =>
            (ref14_set.u e38_4 e38_3.2.1 y21.1 y21.2).bind fun y22 =>
            k (y22.1, y22.2)
          else
            none
        else
          none
      else
        ref14_plain.g0 e38_1 e38_2 e38_3 e38_4 e38_5 e38_6  k d38 (i38 + 1)
    else
      none
theorem ref14_plain.h0 {Ω : Type} (e38_1 : ByteArray) (e38_2 : (List ByteArray)) (e38_3 : T_s54) (e38_4 : T_s25) (e38_5 : (List Int)) (e38_6 : (List Int))   (k : T_s25 × Int → Option Ω) (hN : (((List.length e38_2 : Nat) : Int) : Int) ≤ 9223372036854775807) : ∀ (m : Nat) (i : Int) (a : Unit), -9223372036854775808 ≤ i → Int.toNat ((((List.length e38_2 : Nat) : Int) : Int) - i) < m → Le (ref14_plain.g0 e38_1 e38_2 e38_3 e38_4 e38_5 e38_6  k (Int.toNat ((((List.length e38_2 : Nat) : Int) : Int) - i)) i) (iter (ref14_plain.B0 BIG e38_1 e38_2 e38_3 e38_4 e38_5 e38_6  k) m (i)) :=
  iter_count (((List.length e38_2 : Nat) : Int) : Int) (fun i38 => (decide (i38 < ((List.length e38_2 : Nat) : Int)))) (fun i => rfl) (fun (i38 : Int) (a38 : Unit) => (i38)) (fun xs i38 a38 => ref14_plain.g0 e38_1 e38_2 e38_3 e38_4 e38_5 e38_6  k xs i38) (ref14_plain.B0 BIG e38_1 e38_2 e38_3 e38_4 e38_5 e38_6  k)
    (fun i38 a38 r h0 => (Le.fls h0 (Le.refl _)))
    (fun i38 d38 a38 r h0 hw ih => (Le.tru h0 (Le.cond (Le.cond (Le.cond (Le.cond (Le.bnd fun y21 => (Le.bnd fun y22 => (Le.refl _))) Le.nil) Le.nil) (ih _ hw ())) Le.nil)))
    hN
def ref14_plain.w {Ω : Type} (x0 : T_s54) (x1 : T_s25) (k : T_s25 × Int → Option Ω) : Option Ω :=
  (ref09_Of.u (IntKind.wrap .i64 x0.1)).bind fun y1 =>
  (ref10_Place.u x0).bind fun y2 =>
  bif ((y1.1).data.toList == ((bs [110, 111, 112])).data.toList) then
    (ref13_Go.u x1 ((IntKind.wrap .i64 (x1.1 + 1)))).bind fun y3 =>
    k (y3.1, y3.2)
  else
    bif ((y1.1).data.toList == ((bs [109, 111, 118])).data.toList) then
      bif (idxOK x0.2.2.1 8) then
        (ref14_set.u x1 x0.2.1 ((List.getD x1.2.2.1 (Int.toNat x0.2.2.1) 0)) 0).bind fun y4 =>
        k (y4.1, y4.2)
      else
        none
    else
      bif ((y1.1).data.toList == ((bs [115, 101, 116])).data.toList) then
        (ref10_Num.u x0).bind fun y5 =>
        (ref14_set.u x1 x0.2.1 y5 0).bind fun y6 =>
        k (y6.1, y6.2)
      else
        bif ((y1.1).data.toList == ((bs [110, 111, 116])).data.toList) then
          bif (idxOK x0.2.2.1 8) then
            let v7 : Int × Int := (ref08_Not.t ((List.getD x1.2.2.1 (Int.toNat x0.2.2.1) 0)))
            (ref14_set.u x1 x0.2.1 v7.1 v7.2).bind fun y8 =>
            k (y8.1, y8.2)
          else
            none
        else
          bif ((y1.1).data.toList == ((bs [110, 101, 103])).data.toList) then
            bif (idxOK x0.2.2.1 8) then
              let v9 : Int × Int := (ref08_Neg.t ((List.getD x1.2.2.1 (Int.toNat x0.2.2.1) 0)))
              (ref14_set.u x1 x0.2.1 v9.1 v9.2).bind fun y10 =>
              k (y10.1, y10.2)
            else
              none
          else
            bif ((y1.1).data.toList == ((bs [108, 111, 97, 100])).data.toList) then
              bif (idxOK x0.2.2.1 8) then
                (ref13_Load.u x1 ((List.getD x1.2.2.1 (Int.toNat x0.2.2.1) 0))).bind fun y11 =>
                (ref14_set.u x1 x0.2.1 y11.1 y11.2).bind fun y12 =>
                k (y12.1, y12.2)
              else
                none
            else
              bif ((y1.1).data.toList == ((bs [115, 116, 111, 114, 101])).data.toList) then
                bif (idxOK x0.2.1 8) then
                  bif (idxOK x0.2.2.1 8) then
                    (ref13_Store.u x1 ((List.getD x1.2.2.1 (Int.toNat x0.2.1) 0)) ((List.getD x1.2.2.1 (Int.toNat x0.2.2.1) 0))).bind fun y13 =>
                    bif (y13.2 != 0) then
                      k (x1, y13.2)
                    else
                      (ref13_Go.u y13.1 ((IntKind.wrap .i64 (x1.1 + 1)))).bind fun y14 =>
                      k (y14.1, y14.2)
                  else
                    none
                else
                  none
              else
                bif ((y1.1).data.toList == ((bs [106, 109, 112])).data.toList) then
                  (ref13_Go.u x1 y2.1).bind fun y15 =>
                  k (y15.1, y15.2)
                else
                  bif ((y1.1).data.toList == ((bs [106, 122])).data.toList) then
                    bif (idxOK x0.2.1 8) then
                      (ref14_jump.u x1 (((List.getD x1.2.2.1 (Int.toNat x0.2.1) 0) == 0)) y2.1).bind fun y16 =>
                      k (y16.1, y16.2)
                    else
                      none
                  else
                    bif ((y1.1).data.toList == ((bs [106, 110, 122])).data.toList) then
                      bif (idxOK x0.2.1 8) then
                        (ref14_jump.u x1 (((List.getD x1.2.2.1 (Int.toNat x0.2.1) 0) != 0)) y2.1).bind fun y17 =>
                        k (y17.1, y17.2)
                      else
                        none
                    else
                      bif ((y1.1).data.toList == ((bs [106, 98, 97, 100])).data.toList) then
                        (ref14_jump.u x1 x1.2.1 y2.1).bind fun y18 =>
                        k (y18.1, y18.2)
                      else
                        bif ((y1.1).data.toList == ((bs [99, 97, 108, 108])).data.toList) then
                          (ref13_Call.u x1 y2.1).bind fun y19 =>
                          k (y19.1, y19.2)
                        else
                          bif ((y1.1).data.toList == ((bs [114, 101, 116])).data.toList) then
                            (ref13_Ret.u x1).bind fun y20 =>
                            k (y20.1, y20.2)
                          else
                            bif (decide (((List.length ref14_sums.t : Nat) : Int) ≤ 4611686018427387904)) then ref14_plain.g0 y1.1 ref14_sums.t x0 x1 (List.replicate 8 0) (List.replicate 16 0)  k ((Int.toNat (((List.length ref14_sums.t : Nat) : Int) - 1))) 1 else none
theorem ref14_plain.le {Ω : Type} (x0 : T_s54) (x1 : T_s25) (k : T_s25 × Int → Option Ω) : Le (ref14_plain.w x0 x1 k) (ref14_plain.s BIG x0 x1 k) := by
  delta ref14_plain.w ref14_plain.s ref14_plain.sl
  exact (Le.bnd fun y1 => (Le.bnd fun y2 => (Le.cond (Le.bnd fun y3 => (Le.refl _)) (Le.cond (Le.cond (Le.bnd fun y4 => (Le.refl _)) Le.nil) (Le.cond (Le.bnd fun y5 => (Le.bnd fun y6 => (Le.refl _))) (Le.cond (Le.cond (let v7 : Int × Int := (ref08_Not.t ((List.getD x1.2.2.1 (Int.toNat x0.2.2.1) 0))); (Le.bnd fun y8 => (Le.refl _))) Le.nil) (Le.cond (Le.cond (let v9 : Int × Int := (ref08_Neg.t ((List.getD x1.2.2.1 (Int.toNat x0.2.2.1) 0))); (Le.bnd fun y10 => (Le.refl _))) Le.nil) (Le.cond (Le.cond (Le.bnd fun y11 => (Le.bnd fun y12 => (Le.refl _))) Le.nil) (Le.cond (Le.cond (Le.cond (Le.bnd fun y13 => (Le.cond (Le.refl _) (Le.bnd fun y14 => (Le.refl _)))) Le.nil) Le.nil) (Le.cond (Le.bnd fun y15 => (Le.refl _)) (Le.cond (Le.cond (Le.bnd fun y16 => (Le.refl _)) Le.nil) (Le.cond (Le.cond (Le.bnd fun y17 => (Le.refl _)) Le.nil) (Le.cond (Le.bnd fun y18 => (Le.refl _)) (Le.cond (Le.bnd fun y19 => (Le.refl _)) (Le.cond (Le.bnd fun y20 => (Le.refl _)) (Le.gd fun hg => ref14_plain.h0 _ _ _ _ _ _   k (cnt_up hg) BIG 1 () (by decide) (cnt_big hg (by decide))))))))))))))))))
def ref14_plain.u (x0 : T_s54) (x1 : T_s25) : Option (T_s25 × Int) := ref14_plain.w x0 x1 some
theorem ref14_plain.c (x0 : T_s54) (x1 : T_s25) (r : T_s25 × Int) (h : ref14_plain.u x0 x1 = some r) : Contract C 67 [(.v E_s54 (x0)), (.v E_s25 (x1))] (tupAV E_s25 [(.int .i64)] r) :=
  contract_s (S := fun k => ref14_plain.s BIG x0 x1 k) C_ok (orS_ok ref08_Do.e_ok (orS_ok ref14_sums.e_ok (orS_ok ref13_Ret.e_ok (orS_ok ref13_Call.e_ok (orS_ok ref14_jump.e_ok (orS_ok ref13_Store.e_ok (orS_ok ref13_Load.e_ok (orS_ok ref08_Neg.e_ok (orS_ok ref08_Not.e_ok (orS_ok ref10_Num.e_ok (orS_ok ref14_set.e_ok (orS_ok ref13_Go.e_ok (orS_ok ref10_Place.e_ok (orS_ok ref09_Of.e_ok noS_ok)))))))))))))) (by kernel_rfl) (by kernel_rfl) (by kernel_rfl) (ref14_plain.ev BIG x0 x1 (dec E_s25 [(.int .i64)])) (ref14_plain.le x0 x1 some r h)
noncomputable def ref14_plain.e : Ent := argI E_s54 fun x0 => argI E_s25 fun x1 => endU (ref14_plain.u x0 x1) (tupAV E_s25 [(.int .i64)])
theorem ref14_plain.e_ok : EntOK C 67 (fun {_} => ref14_plain.e) := entA_ok (argI_ok fun x0 => argI_ok fun x1 => endU_ok fun r h => ref14_plain.c x0 x1 r h)

/-- becket becketref14.Step -/
noncomputable def ref14_Step.sp : Spec := (orS 67 (fun {_} => ref14_plain.e) (orS 51 (fun {_} => ref13_Fine.e) (orS 50 (fun {_} => ref12_Fine.e) (orS 25 (fun {_} => ref09_Of.e) noS))))
def ref14_Step.s {Ω : Type} (x0 : (List T_s54)) (x1 : T_s25) (k : T_s25 × Int × Int → Option Ω) : Option Ω :=
  (ref12_Fine.u x0).bind fun y1 =>
  bif (!y1) then
    k (x1, 3, 1)
  else
    (ref13_Fine.u x1).bind fun y2 =>
    bif (!y2) then
      k (x1, 3, 1)
    else
      bif (x1.1 == ((List.length x0 : Nat) : Int)) then
        k (x1, 2, 0)
      else
        bif (decide (x1.1 > ((List.length x0 : Nat) : Int))) then
          k (x1, 3, 18)
        else
          bif (idxOK x1.1 (List.length x0)) then
            (ref09_Of.u ((IntKind.wrap .i64 (List.getD x0 (Int.toNat x1.1) (0, (0, (0, (0, ()))))).1))).bind fun y3 =>
            bif (y3.2.2.1 == 2) then
              k (x1, 1, 0)
            else
              bif (y3.2.2.1 == 4) then
                k (x1, 1, 0)
              else
                bif (y3.2.2.1 == 3) then
                  k (x1, 3, 18)
                else
                  bif ((y3.1).data.toList == ((bs [104, 97, 108, 116])).data.toList) then
                    k (x1, 2, 0)
                  else
                    bif ((y3.1).data.toList == ((bs [102, 97, 105, 108])).data.toList) then
                      let v4 : Int := (IntKind.wrap .i64 (256 + (IntKind.wrap .i64 (List.getD x0 (Int.toNat x1.1) (0, (0, (0, (0, ()))))).2.1)))
                      k (x1, 3, v4)
                    else
                      (ref14_plain.u ((List.getD x0 (Int.toNat x1.1) (0, (0, (0, (0, ())))))) x1).bind fun y5 =>
                      bif (y5.2 != 0) then
                        k (x1, 3, y5.2)
                      else
                        k (y5.1, 0, 0)
          else
            none
theorem ref14_Step.ev {Ω : Type} (fuel : Fuel) (x0 : (List T_s54)) (x1 : T_s25) (k : AV → Option Ω) : evFn C ref14_Step.sp fuel Tryz.f52 (Tryz.f52.body.getD .skip) [(.v (.slice E_s54) (x0)), (.v E_s25 (x1))] k = ref14_Step.s x0 x1 (fun r => k (tupAV E_s25 [(.int .i64), (.int .i64)] r)) := by kernel_rfl
def ref14_Step.u (x0 : (List T_s54)) (x1 : T_s25) : Option (T_s25 × Int × Int) := ref14_Step.s x0 x1 some
theorem ref14_Step.c (x0 : (List T_s54)) (x1 : T_s25) (r : T_s25 × Int × Int) (h : ref14_Step.u x0 x1 = some r) : Contract C 52 [(.v (.slice E_s54) (x0)), (.v E_s25 (x1))] (tupAV E_s25 [(.int .i64), (.int .i64)] r) :=
  contract_s (S := fun k => ref14_Step.s x0 x1 k) C_ok (orS_ok ref14_plain.e_ok (orS_ok ref13_Fine.e_ok (orS_ok ref12_Fine.e_ok (orS_ok ref09_Of.e_ok noS_ok)))) (by kernel_rfl) (by kernel_rfl) (by kernel_rfl) (ref14_Step.ev ⟨1, fun _ => []⟩ x0 x1 (dec E_s25 [(.int .i64), (.int .i64)])) h
noncomputable def ref14_Step.e : Ent := argI (.slice E_s54) fun x0 => argI E_s25 fun x1 => endU (ref14_Step.u x0 x1) (tupAV E_s25 [(.int .i64), (.int .i64)])
theorem ref14_Step.e_ok : EntOK C 52 (fun {_} => ref14_Step.e) := entA_ok (argI_ok fun x0 => argI_ok fun x1 => endU_ok fun r h => ref14_Step.c x0 x1 r h)

end Go.Proofs.YtjhkagfolmhacaaGreatDoor.K

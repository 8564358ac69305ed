/- What functions of the program come to, plainly. -/
import Derived.Test.YtmphlhnpichonaaDoorZ13b
set_option maxRecDepth 100000
set_option linter.unusedVariables false
namespace Go.Proofs.YtmphlhnpichonaaDoor.K
open Go Go.RowKit

/-- becket becketref13.Set -/
noncomputable def ref13_Set.sp : Spec := (orS 53 (fun {_} => ref08_Fine.e) (orS 29 (fun {_} => ref13_Get.e) noS))
def ref13_Set.s {Ω : Type} (x0 : (Int × (Bool × ((List Int) × ((List Int) × (Int × ((List Int) × Unit))))))) (x1 : Int) (x2 : Int) (k : (Int × (Bool × ((List Int) × ((List Int) × (Int × ((List Int) × Unit)))))) × Int → Option Ω) : Option Ω :=
  (ref13_Get.u x0 x1).bind fun y1 =>
  bif (y1.2 != 0) then
    k (x0, y1.2)
  else
    bif (!(ref08_Fine.t x2)) then
      k (x0, 8)
    else
      bif (idxOK x1 8) then
        k ((x0.1, (x0.2.1, ((List.set x0.2.2.1 (Int.toNat x1) x2), x0.2.2.2))), 0)
      else
        none
theorem ref13_Set.ev {Ω : Type} (fuel : Fuel) (x0 : (Int × (Bool × ((List Int) × ((List Int) × (Int × ((List Int) × Unit))))))) (x1 : Int) (x2 : Int) (k : AV → Option Ω) : evFn C (fun {_} => ref13_Set.sp) fuel Tryd.f33 (Tryd.f33.body.getD .skip) [(.v (.pair (.int .i64) (.pair .bool (.pair (.arr 8 (.int .i64)) (.pair (.arr 16 (.int .i64)) (.pair (.int .i64) (.pair (.arr 8 (.int .i64)) .unit)))))) (x0)), (.v (.int .i64) (x1)), (.v (.int .i64) (x2))] k = ref13_Set.s x0 x1 x2 (fun r => k (tupAV (.pair (.int .i64) (.pair .bool (.pair (.arr 8 (.int .i64)) (.pair (.arr 16 (.int .i64)) (.pair (.int .i64) (.pair (.arr 8 (.int .i64)) .unit)))))) [(.int .i64)] r)) := by kernel_rfl
def ref13_Set.u (x0 : (Int × (Bool × ((List Int) × ((List Int) × (Int × ((List Int) × Unit))))))) (x1 : Int) (x2 : Int) : Option ((Int × (Bool × ((List Int) × ((List Int) × (Int × ((List Int) × Unit)))))) × Int) := ref13_Set.s x0 x1 x2 some
theorem ref13_Set.c (x0 : (Int × (Bool × ((List Int) × ((List Int) × (Int × ((List Int) × Unit))))))) (x1 : Int) (x2 : Int) (r : (Int × (Bool × ((List Int) × ((List Int) × (Int × ((List Int) × Unit)))))) × Int) (h : ref13_Set.u x0 x1 x2 = some r) : Contract C 33 [(.v (.pair (.int .i64) (.pair .bool (.pair (.arr 8 (.int .i64)) (.pair (.arr 16 (.int .i64)) (.pair (.int .i64) (.pair (.arr 8 (.int .i64)) .unit)))))) (x0)), (.v (.int .i64) (x1)), (.v (.int .i64) (x2))] (tupAV (.pair (.int .i64) (.pair .bool (.pair (.arr 8 (.int .i64)) (.pair (.arr 16 (.int .i64)) (.pair (.int .i64) (.pair (.arr 8 (.int .i64)) .unit)))))) [(.int .i64)] r) :=
  contract_s (S := fun k => ref13_Set.s x0 x1 x2 k) C_ok (orS_ok ref08_Fine.e_ok (orS_ok ref13_Get.e_ok noS_ok)) (by kernel_rfl) (by kernel_rfl) (by kernel_rfl) (ref13_Set.ev ⟨1, fun _ => []⟩ x0 x1 x2 (dec (.pair (.int .i64) (.pair .bool (.pair (.arr 8 (.int .i64)) (.pair (.arr 16 (.int .i64)) (.pair (.int .i64) (.pair (.arr 8 (.int .i64)) .unit)))))) [(.int .i64)])) h
noncomputable def ref13_Set.e : Ent := argI (.pair (.int .i64) (.pair .bool (.pair (.arr 8 (.int .i64)) (.pair (.arr 16 (.int .i64)) (.pair (.int .i64) (.pair (.arr 8 (.int .i64)) .unit)))))) fun x0 => argI (.int .i64) fun x1 => argI (.int .i64) fun x2 => endU (ref13_Set.u x0 x1 x2) (tupAV (.pair (.int .i64) (.pair .bool (.pair (.arr 8 (.int .i64)) (.pair (.arr 16 (.int .i64)) (.pair (.int .i64) (.pair (.arr 8 (.int .i64)) .unit)))))) [(.int .i64)])
theorem ref13_Set.e_ok : EntOK C 33 (fun {_} => ref13_Set.e) := entA_ok (argI_ok fun x0 => argI_ok fun x1 => argI_ok fun x2 => endU_ok fun r h => ref13_Set.c x0 x1 x2 r h)

/-- becket becketref13.Store -/
noncomputable def ref13_Store.sp : Spec := (orS 53 (fun {_} => ref08_Fine.e) (orS 31 (fun {_} => ref13_Load.e) noS))
def ref13_Store.s {Ω : Type} (x0 : (Int × (Bool × ((List Int) × ((List Int) × (Int × ((List Int) × Unit))))))) (x1 : Int) (x2 : Int) (k : (Int × (Bool × ((List Int) × ((List Int) × (Int × ((List Int) × Unit)))))) × Int → Option Ω) : Option Ω :=
  (ref13_Load.u x0 x1).bind fun y1 =>
  bif (y1.2 != 0) then
    k (x0, y1.2)
  else
    bif (!(ref08_Fine.t x2)) then
      k (x0, 8)
    else
      bif (idxOK x1 16) then
        k ((x0.1, (x0.2.1, (x0.2.2.1, ((List.set x0.2.2.2.1 (Int.toNat x1) x2), x0.2.2.2.2)))), 0)
      else
        none
theorem ref13_Store.ev {Ω : Type} (fuel : Fuel) (x0 : (Int × (Bool × ((List Int) × ((List Int) × (Int × ((List Int) × Unit))))))) (x1 : Int) (x2 : Int) (k : AV → Option Ω) : evFn C (fun {_} => ref13_Store.sp) fuel Tryd.f35 (Tryd.f35.body.getD .skip) [(.v (.pair (.int .i64) (.pair .bool (.pair (.arr 8 (.int .i64)) (.pair (.arr 16 (.int .i64)) (.pair (.int .i64) (.pair (.arr 8 (.int .i64)) .unit)))))) (x0)), (.v (.int .i64) (x1)), (.v (.int .i64) (x2))] k = ref13_Store.s x0 x1 x2 (fun r => k (tupAV (.pair (.int .i64) (.pair .bool (.pair (.arr 8 (.int .i64)) (.pair (.arr 16 (.int .i64)) (.pair (.int .i64) (.pair (.arr 8 (.int .i64)) .unit)))))) [(.int .i64)] r)) := by kernel_rfl
def ref13_Store.u (x0 : (Int × (Bool × ((List Int) × ((List Int) × (Int × ((List Int) × Unit))))))) (x1 : Int) (x2 : Int) : Option ((Int × (Bool × ((List Int) × ((List Int) × (Int × ((List Int) × Unit)))))) × Int) := ref13_Store.s x0 x1 x2 some
theorem ref13_Store.c (x0 : (Int × (Bool × ((List Int) × ((List Int) × (Int × ((List Int) × Unit))))))) (x1 : Int) (x2 : Int) (r : (Int × (Bool × ((List Int) × ((List Int) × (Int × ((List Int) × Unit)))))) × Int) (h : ref13_Store.u x0 x1 x2 = some r) : Contract C 35 [(.v (.pair (.int .i64) (.pair .bool (.pair (.arr 8 (.int .i64)) (.pair (.arr 16 (.int .i64)) (.pair (.int .i64) (.pair (.arr 8 (.int .i64)) .unit)))))) (x0)), (.v (.int .i64) (x1)), (.v (.int .i64) (x2))] (tupAV (.pair (.int .i64) (.pair .bool (.pair (.arr 8 (.int .i64)) (.pair (.arr 16 (.int .i64)) (.pair (.int .i64) (.pair (.arr 8 (.int .i64)) .unit)))))) [(.int .i64)] r) :=
  contract_s (S := fun k => ref13_Store.s x0 x1 x2 k) C_ok (orS_ok ref08_Fine.e_ok (orS_ok ref13_Load.e_ok noS_ok)) (by kernel_rfl) (by kernel_rfl) (by kernel_rfl) (ref13_Store.ev ⟨1, fun _ => []⟩ x0 x1 x2 (dec (.pair (.int .i64) (.pair .bool (.pair (.arr 8 (.int .i64)) (.pair (.arr 16 (.int .i64)) (.pair (.int .i64) (.pair (.arr 8 (.int .i64)) .unit)))))) [(.int .i64)])) h
noncomputable def ref13_Store.e : Ent := argI (.pair (.int .i64) (.pair .bool (.pair (.arr 8 (.int .i64)) (.pair (.arr 16 (.int .i64)) (.pair (.int .i64) (.pair (.arr 8 (.int .i64)) .unit)))))) fun x0 => argI (.int .i64) fun x1 => argI (.int .i64) fun x2 => endU (ref13_Store.u x0 x1 x2) (tupAV (.pair (.int .i64) (.pair .bool (.pair (.arr 8 (.int .i64)) (.pair (.arr 16 (.int .i64)) (.pair (.int .i64) (.pair (.arr 8 (.int .i64)) .unit)))))) [(.int .i64)])
theorem ref13_Store.e_ok : EntOK C 35 (fun {_} => ref13_Store.e) := entA_ok (argI_ok fun x0 => argI_ok fun x1 => argI_ok fun x2 => endU_ok fun r h => ref13_Store.c x0 x1 x2 r h)

/-- becket becketlaw13.FrameKeeps -/
noncomputable def law13_FrameKeeps.sp : Spec := (orS 35 (fun {_} => ref13_Store.e) (orS 34 (fun {_} => frame_Store.e) (orS 33 (fun {_} => ref13_Set.e) (orS 32 (fun {_} => frame_Set.e) (orS 31 (fun {_} => ref13_Load.e) (orS 30 (fun {_} => frame_Load.e) (orS 29 (fun {_} => ref13_Get.e) (orS 28 (fun {_} => frame_Get.e) (orS 21 (fun {_} => law13_alive.e) noS)))))))))
def law13_FrameKeeps.s {Ω : Type} (x0 : (Int × (Bool × ((List Int) × ((List Int) × (Int × ((List Int) × Unit))))))) (x1 : Int) (x2 : Int) (k : Bool → Option Ω) : Option Ω :=
  (frame_Get.u x0 x1).bind fun y1 =>
  (ref13_Get.u x0 x1).bind fun y2 =>
  (frame_Load.u x0 x1).bind fun y3 =>
  (ref13_Load.u x0 x1).bind fun y4 =>
  (frame_Set.u x0 x1 x2).bind fun y5 =>
  (ref13_Set.u x0 x1 x2).bind fun y6 =>
  (frame_Store.u x0 x1 x2).bind fun y7 =>
  (ref13_Store.u x0 x1 x2).bind fun y8 =>
  bif (y1.1 == y2.1) then
    bif (y1.2 == y2.2) then
      bif (y3.1 == y4.1) then
        bif (y3.2 == y4.2) then
          let v9 : Bool := (eqI (.pair (.int .i64) (.pair .bool (.pair (.arr 8 (.int .i64)) (.pair (.arr 16 (.int .i64)) (.pair (.int .i64) (.pair (.arr 8 (.int .i64)) .unit)))))) y5.1 y6.1)
          bif v9 then
            bif (y5.2 == y6.2) then
              let v10 : Bool := (eqI (.pair (.int .i64) (.pair .bool (.pair (.arr 8 (.int .i64)) (.pair (.arr 16 (.int .i64)) (.pair (.int .i64) (.pair (.arr 8 (.int .i64)) .unit)))))) y7.1 y8.1)
              bif v10 then
                bif (y7.2 == y8.2) then
                  law13_alive.u.bind fun y11 =>
                  k y11
                else
                  k false
              else
                k false
            else
              k false
          else
            k false
        else
          k false
      else
        k false
    else
      k false
  else
    k false
theorem law13_FrameKeeps.ev {Ω : Type} (fuel : Fuel) (x0 : (Int × (Bool × ((List Int) × ((List Int) × (Int × ((List Int) × Unit))))))) (x1 : Int) (x2 : Int) (k : AV → Option Ω) : evFn CP (fun {_} => law13_FrameKeeps.sp) fuel Tryd.f5 (Tryd.f5.body.getD .skip) [(.v (.pair (.int .i64) (.pair .bool (.pair (.arr 8 (.int .i64)) (.pair (.arr 16 (.int .i64)) (.pair (.int .i64) (.pair (.arr 8 (.int .i64)) .unit)))))) (x0)), (.v (.int .i64) (x1)), (.v (.int .i64) (x2))] k = law13_FrameKeeps.s x0 x1 x2 (fun r => k (tupAV .bool [] r)) := by kernel_rfl
def law13_FrameKeeps.u (x0 : (Int × (Bool × ((List Int) × ((List Int) × (Int × ((List Int) × Unit))))))) (x1 : Int) (x2 : Int) : Option (Bool) := law13_FrameKeeps.s x0 x1 x2 some
theorem law13_FrameKeeps.c (x0 : (Int × (Bool × ((List Int) × ((List Int) × (Int × ((List Int) × Unit))))))) (x1 : Int) (x2 : Int) (r : Bool) (h : law13_FrameKeeps.u x0 x1 x2 = some r) : Contract CP 5 [(.v (.pair (.int .i64) (.pair .bool (.pair (.arr 8 (.int .i64)) (.pair (.arr 16 (.int .i64)) (.pair (.int .i64) (.pair (.arr 8 (.int .i64)) .unit)))))) (x0)), (.v (.int .i64) (x1)), (.v (.int .i64) (x2))] (tupAV .bool [] r) :=
  contract_s (S := fun k => law13_FrameKeeps.s x0 x1 x2 k) CP_ok (orS_ok (ref13_Store.e_ok.mono le_C_CP) (orS_ok (frame_Store.e_ok.mono le_C_CP) (orS_ok (ref13_Set.e_ok.mono le_C_CP) (orS_ok (frame_Set.e_ok.mono le_C_CP) (orS_ok (ref13_Load.e_ok.mono le_C_CP) (orS_ok (frame_Load.e_ok.mono le_C_CP) (orS_ok (ref13_Get.e_ok.mono le_C_CP) (orS_ok (frame_Get.e_ok.mono le_C_CP) (orS_ok law13_alive.e_ok noS_ok))))))))) (by kernel_rfl) (by kernel_rfl) (by kernel_rfl) (law13_FrameKeeps.ev ⟨1, fun _ => []⟩ x0 x1 x2 (dec .bool [])) h
noncomputable def law13_FrameKeeps.e : Ent := argI (.pair (.int .i64) (.pair .bool (.pair (.arr 8 (.int .i64)) (.pair (.arr 16 (.int .i64)) (.pair (.int .i64) (.pair (.arr 8 (.int .i64)) .unit)))))) fun x0 => argI (.int .i64) fun x1 => argI (.int .i64) fun x2 => endU (law13_FrameKeeps.u x0 x1 x2) (tupAV .bool [])
theorem law13_FrameKeeps.e_ok : EntOK CP 5 (fun {_} => law13_FrameKeeps.e) := entA_ok (argI_ok fun x0 => argI_ok fun x1 => argI_ok fun x2 => endU_ok fun r h => law13_FrameKeeps.c x0 x1 x2 r h)

/-- becket becketlaw13.FrameStays -/
noncomputable def law13_FrameStays.sp : Spec := (orS 34 (fun {_} => frame_Store.e) (orS 32 (fun {_} => frame_Set.e) (orS 30 (fun {_} => frame_Load.e) (orS 28 (fun {_} => frame_Get.e) (orS 26 (fun {_} => frame_Ret.e) (orS 24 (fun {_} => frame_Call.e) (orS 22 (fun {_} => frame_Go.e) (orS 21 (fun {_} => law13_alive.e) (orS 17 (fun {_} => frame_Fine.e) noS)))))))))
def law13_FrameStays.s {Ω : Type} (x0 : (Int × (Bool × ((List Int) × ((List Int) × (Int × ((List Int) × Unit))))))) (x1 : Int) (x2 : Int) (k : Bool → Option Ω) : Option Ω :=
  (frame_Fine.u x0).bind fun y1 =>
  bif (!y1) then
    (frame_Set.u x0 ((IntKind.wrap .i64 (Int.tmod x1 8))) (IntKind.wrap .i64 x2)).bind fun y2 =>
    bif (y2.2 == 1) then
      law13_alive.u.bind fun y3 =>
      k y3
    else
      k false
  else
    (frame_Set.u x0 ((IntKind.wrap .i64 (Int.tmod x1 8))) (IntKind.wrap .i64 x2)).bind fun y4 =>
    (frame_Store.u y4.1 ((IntKind.wrap .i64 (Int.tmod x1 16))) (IntKind.wrap .i64 x2)).bind fun y5 =>
    (frame_Get.u y5.1 ((IntKind.wrap .i64 (Int.tmod x1 8)))).bind fun y6 =>
    (frame_Load.u y5.1 ((IntKind.wrap .i64 (Int.tmod x1 16)))).bind fun y7 =>
    bif (y4.2 != 0) then
      k false
    else
      bif (y5.2 != 0) then
        k false
      else
        bif (y6.2 != 0) then
          k false
        else
          bif (y7.2 != 0) then
            k false
          else
            bif (y6.1 != (IntKind.wrap .i64 x2)) then
              k false
            else
              bif (y7.1 != (IntKind.wrap .i64 x2)) then
                k false
              else
                (frame_Fine.u y5.1).bind fun y8 =>
                bif (!y8) then
                  k false
                else
                  bif (idxOK (IntKind.wrap .i64 (Int.tmod x1 8)) 8) then
                    bif (idxOK (IntKind.wrap .i64 (Int.tmod x1 8)) 8) then
                      bif (idxOK (IntKind.wrap .i64 (Int.tmod x1 16)) 16) then
                        bif (idxOK (IntKind.wrap .i64 (Int.tmod x1 16)) 16) then
                          let v9 : (Int × (Bool × ((List Int) × ((List Int) × (Int × ((List Int) × Unit)))))) := (y5.1.1, (y5.1.2.1, ((List.set y5.1.2.2.1 (Int.toNat (IntKind.wrap .i64 (Int.tmod x1 8))) (List.getD x0.2.2.1 (Int.toNat (IntKind.wrap .i64 (Int.tmod x1 8))) 0)), ((List.set y5.1.2.2.2.1 (Int.toNat (IntKind.wrap .i64 (Int.tmod x1 16))) (List.getD x0.2.2.2.1 (Int.toNat (IntKind.wrap .i64 (Int.tmod x1 16))) 0)), y5.1.2.2.2.2))))
                          let v10 : Bool := (!(eqI (.pair (.int .i64) (.pair .bool (.pair (.arr 8 (.int .i64)) (.pair (.arr 16 (.int .i64)) (.pair (.int .i64) (.pair (.arr 8 (.int .i64)) .unit)))))) v9 x0))
                          bif v10 then
                            k false
                          else
                            (frame_Call.u x0 ((IntKind.wrap .i64 (Int.tmod x1 16)))).bind fun y11 =>
                            bif (y11.2 != 0) then
                              bif (eqI .bool (y11.2 == 19) (x0.2.2.2.2.1 == 8)) then
                                let v12 : Bool := (eqI (.pair (.int .i64) (.pair .bool (.pair (.arr 8 (.int .i64)) (.pair (.arr 16 (.int .i64)) (.pair (.int .i64) (.pair (.arr 8 (.int .i64)) .unit)))))) y11.1 x0)
                                bif v12 then
                                  law13_alive.u.bind fun y13 =>
                                  k y13
                                else
                                  k false
                              else
                                k false
                            else
                              (frame_Ret.u y11.1).bind fun y14 =>
                              (frame_Go.u x0 ((IntKind.wrap .i64 (x0.1 + 1)))).bind fun y15 =>
                              (frame_Fine.u y11.1).bind fun y16 =>
                              bif y16 then
                                bif (y11.1.1 == (IntKind.wrap .i64 (Int.tmod x1 16))) then
                                  bif (y14.2 == 0) then
                                    bif (y15.2 == 0) then
                                      let v17 : Bool := (eqI (.pair (.int .i64) (.pair .bool (.pair (.arr 8 (.int .i64)) (.pair (.arr 16 (.int .i64)) (.pair (.int .i64) (.pair (.arr 8 (.int .i64)) .unit)))))) y14.1 y15.1)
                                      bif v17 then
                                        law13_alive.u.bind fun y18 =>
                                        k y18
                                      else
                                        k false
                                    else
                                      k false
                                  else
                                    k false
                                else
                                  k false
                              else
                                k false
                        else
                          none
                      else
                        none
                    else
                      none
                  else
                    none
theorem law13_FrameStays.ev {Ω : Type} (fuel : Fuel) (x0 : (Int × (Bool × ((List Int) × ((List Int) × (Int × ((List Int) × Unit))))))) (x1 : Int) (x2 : Int) (k : AV → Option Ω) : evFn CP (fun {_} => law13_FrameStays.sp) fuel Tryd.f6 (Tryd.f6.body.getD .skip) [(.v (.pair (.int .i64) (.pair .bool (.pair (.arr 8 (.int .i64)) (.pair (.arr 16 (.int .i64)) (.pair (.int .i64) (.pair (.arr 8 (.int .i64)) .unit)))))) (x0)), (.v (.int .u8) (x1)), (.v (.int .i32) (x2))] k = law13_FrameStays.s x0 x1 x2 (fun r => k (tupAV .bool [] r)) := by kernel_rfl
def law13_FrameStays.u (x0 : (Int × (Bool × ((List Int) × ((List Int) × (Int × ((List Int) × Unit))))))) (x1 : Int) (x2 : Int) : Option (Bool) := law13_FrameStays.s x0 x1 x2 some
theorem law13_FrameStays.c (x0 : (Int × (Bool × ((List Int) × ((List Int) × (Int × ((List Int) × Unit))))))) (x1 : Int) (x2 : Int) (r : Bool) (h : law13_FrameStays.u x0 x1 x2 = some r) : Contract CP 6 [(.v (.pair (.int .i64) (.pair .bool (.pair (.arr 8 (.int .i64)) (.pair (.arr 16 (.int .i64)) (.pair (.int .i64) (.pair (.arr 8 (.int .i64)) .unit)))))) (x0)), (.v (.int .u8) (x1)), (.v (.int .i32) (x2))] (tupAV .bool [] r) :=
  contract_s (S := fun k => law13_FrameStays.s x0 x1 x2 k) CP_ok (orS_ok (frame_Store.e_ok.mono le_C_CP) (orS_ok (frame_Set.e_ok.mono le_C_CP) (orS_ok (frame_Load.e_ok.mono le_C_CP) (orS_ok (frame_Get.e_ok.mono le_C_CP) (orS_ok (frame_Ret.e_ok.mono le_C_CP) (orS_ok (frame_Call.e_ok.mono le_C_CP) (orS_ok (frame_Go.e_ok.mono le_C_CP) (orS_ok law13_alive.e_ok (orS_ok (frame_Fine.e_ok.mono le_C_CP) noS_ok))))))))) (by kernel_rfl) (by kernel_rfl) (by kernel_rfl) (law13_FrameStays.ev ⟨1, fun _ => []⟩ x0 x1 x2 (dec .bool [])) h
noncomputable def law13_FrameStays.e : Ent := argI (.pair (.int .i64) (.pair .bool (.pair (.arr 8 (.int .i64)) (.pair (.arr 16 (.int .i64)) (.pair (.int .i64) (.pair (.arr 8 (.int .i64)) .unit)))))) fun x0 => argI (.int .u8) fun x1 => argI (.int .i32) fun x2 => endU (law13_FrameStays.u x0 x1 x2) (tupAV .bool [])
theorem law13_FrameStays.e_ok : EntOK CP 6 (fun {_} => law13_FrameStays.e) := entA_ok (argI_ok fun x0 => argI_ok fun x1 => argI_ok fun x2 => endU_ok fun r h => law13_FrameStays.c x0 x1 x2 r h)

/-- slices.IndexFunc   int,int  -/
noncomputable def slices_IndexFunc_int_int__frame_all_1.sp : Spec := noS
def slices_IndexFunc_int_int__frame_all_1.F (fuel : Nat) : Fuel := ⟨fuel, fun r => bif r == 2 then [2, 3, 6] else []⟩
def slices_IndexFunc_int_int__frame_all_1.b0 {Ω : Type} (e2_1 : (List Int)) (e2_2 : Value) (e2_3 : Int)   (k : Int → Option Ω) (r2 : Unit → Option Ω) (s2 : Unit) : Option Ω :=
  bif (decide ((0 : Int) < e2_3)) then
    bif (idxOK 0 (List.length e2_1)) then
      none
    else
      none
  else
    k (-1)
def slices_IndexFunc_int_int__frame_all_1.B0 {Ω : Type} (fuel : Nat) (e2_1 : (List Int)) (e2_2 : Value) (e2_3 : Int)  (k : Int → Option Ω) (r2 : Unit → Option Ω) (s2 : Unit) : Option Ω := slices_IndexFunc_int_int__frame_all_1.b0 e2_1 e2_2 e2_3   k r2 s2
theorem slices_IndexFunc_int_int__frame_all_1.l0 {Ω : Type} (fuel : Nat) (e2_1 : (List Int)) (e2_2 : Value) (e2_3 : Int)  (k : AV → Option Ω) : ∀ m, (fun s => loopK (fun env L k => evCode C (fun {_} => slices_IndexFunc_int_int__frame_all_1.sp) (slices_IndexFunc_int_int__frame_all_1.F fuel) (cl (cl (cr (cl (cr (Tryd.f100.body.getD .skip)))))) env L k) [false, false, true, true, false, true, true, false, false, true, true, true, true, true, true, true, true, true, true] 0 (blockK 0 (seqK (fun env L => evCode C (fun {_} => slices_IndexFunc_int_int__frame_all_1.sp) (slices_IndexFunc_int_int__frame_all_1.F fuel) (cr (cr (Tryd.f100.body.getD .skip))) env L (finK C Tryd.f100 k)) (finK C Tryd.f100 k))) m ((fun s2 => [(.v (.slice (.int .i64)) (e2_1)), (.fn 81 [(.vp (.raw .func) e2_2 [])]), .dead, .dead, (.v (.int .i64) (0)), .dead, .dead, (.v (.int .i64) (e2_3)), (.v (.int .i64) (0)), .dead, .dead, .dead, .dead, .dead, .dead, .dead, .dead, .dead, .dead]) s) ((fun s2 => []) s)) = iter (slices_IndexFunc_int_int__frame_all_1.B0 fuel e2_1 e2_2 e2_3  (fun r => k (tupAV (.int .i64) [] r))) m :=
  loopK_iter (envOf := (fun s2 => [(.v (.slice (.int .i64)) (e2_1)), (.fn 81 [(.vp (.raw .func) e2_2 [])]), .dead, .dead, (.v (.int .i64) (0)), .dead, .dead, (.v (.int .i64) (e2_3)), (.v (.int .i64) (0)), .dead, .dead, .dead, .dead, .dead, .dead, .dead, .dead, .dead, .dead])) (LOf := (fun s2 => [])) (B := slices_IndexFunc_int_int__frame_all_1.B0 fuel e2_1 e2_2 e2_3  (fun r => k (tupAV (.int .i64) [] r))) (fun R s => by kernel_rfl)
def slices_IndexFunc_int_int__frame_all_1.sl {Ω : Type} (x0 : (List Int)) (c1_0 : Value) (lp0 : (List Int) → Value → Int → Unit → Option Ω) (k : Int → Option Ω) : Option Ω :=
  lp0 x0 c1_0 (((List.length x0 : Nat) : Int)) ()
def slices_IndexFunc_int_int__frame_all_1.s {Ω : Type} (fuel : Nat) (x0 : (List Int)) (c1_0 : Value) (k : Int → Option Ω) : Option Ω := slices_IndexFunc_int_int__frame_all_1.sl x0 c1_0 (fun e2_1 e2_2 e2_3 => (iter (slices_IndexFunc_int_int__frame_all_1.B0 fuel e2_1 e2_2 e2_3  k) fuel)) k
theorem slices_IndexFunc_int_int__frame_all_1.ev {Ω : Type} (fuel : Nat) (x0 : (List Int)) (c1_0 : Value) (k : AV → Option Ω) : evFn C (fun {_} => slices_IndexFunc_int_int__frame_all_1.sp) (slices_IndexFunc_int_int__frame_all_1.F fuel) Tryd.f100 (Tryd.f100.body.getD .skip) [(.v (.slice (.int .i64)) (x0)), (.fn 81 [(.vp (.raw .func) c1_0 [])])] k = slices_IndexFunc_int_int__frame_all_1.s fuel x0 c1_0 (fun r => k (tupAV (.int .i64) [] r)) := by
  have h0 : evFn C (fun {_} => slices_IndexFunc_int_int__frame_all_1.sp) (slices_IndexFunc_int_int__frame_all_1.F fuel) Tryd.f100 (Tryd.f100.body.getD .skip) [(.v (.slice (.int .i64)) (x0)), (.fn 81 [(.vp (.raw .func) c1_0 [])])] k = slices_IndexFunc_int_int__frame_all_1.sl x0 c1_0 (fun e2_1 e2_2 e2_3 => (fun s => loopK (fun env L k => evCode C (fun {_} => slices_IndexFunc_int_int__frame_all_1.sp) (slices_IndexFunc_int_int__frame_all_1.F fuel) (cl (cl (cr (cl (cr (Tryd.f100.body.getD .skip)))))) env L k) [false, false, true, true, false, true, true, false, false, true, true, true, true, true, true, true, true, true, true] 0 (blockK 0 (seqK (fun env L => evCode C (fun {_} => slices_IndexFunc_int_int__frame_all_1.sp) (slices_IndexFunc_int_int__frame_all_1.F fuel) (cr (cr (Tryd.f100.body.getD .skip))) env L (finK C Tryd.f100 k)) (finK C Tryd.f100 k))) fuel ((fun s2 => [(.v (.slice (.int .i64)) (e2_1)), (.fn 81 [(.vp (.raw .func) e2_2 [])]), .dead, .dead, (.v (.int .i64) (0)), .dead, .dead, (.v (.int .i64) (e2_3)), (.v (.int .i64) (0)), .dead, .dead, .dead, .dead, .dead, .dead, .dead, .dead, .dead, .dead]) s) ((fun s2 => []) s))) (fun r => k (tupAV (.int .i64) [] r)) := by kernel_rfl
  have h1 : (fun e2_1 e2_2 e2_3 => (fun s => loopK (fun env L k => evCode C (fun {_} => slices_IndexFunc_int_int__frame_all_1.sp) (slices_IndexFunc_int_int__frame_all_1.F fuel) (cl (cl (cr (cl (cr (Tryd.f100.body.getD .skip)))))) env L k) [false, false, true, true, false, true, true, false, false, true, true, true, true, true, true, true, true, true, true] 0 (blockK 0 (seqK (fun env L => evCode C (fun {_} => slices_IndexFunc_int_int__frame_all_1.sp) (slices_IndexFunc_int_int__frame_all_1.F fuel) (cr (cr (Tryd.f100.body.getD .skip))) env L (finK C Tryd.f100 k)) (finK C Tryd.f100 k))) fuel ((fun s2 => [(.v (.slice (.int .i64)) (e2_1)), (.fn 81 [(.vp (.raw .func) e2_2 [])]), .dead, .dead, (.v (.int .i64) (0)), .dead, .dead, (.v (.int .i64) (e2_3)), (.v (.int .i64) (0)), .dead, .dead, .dead, .dead, .dead, .dead, .dead, .dead, .dead, .dead]) s) ((fun s2 => []) s))) = (fun e2_1 e2_2 e2_3 => (iter (slices_IndexFunc_int_int__frame_all_1.B0 fuel e2_1 e2_2 e2_3  (fun r => k (tupAV (.int .i64) [] r))) fuel)) := funext fun e2_1 => funext fun e2_2 => funext fun e2_3 => slices_IndexFunc_int_int__frame_all_1.l0 fuel e2_1 e2_2 e2_3   k fuel
  rw [h1] at h0
  exact h0
def slices_IndexFunc_int_int__frame_all_1.gb0 {Ω : Type} (e2_1 : (List Int)) (e2_2 : Value) (e2_3 : Int)  (k : Int → Option Ω) (r2 : Unit → Option Ω) (s2 : Unit) : Option Ω :=
  bif (decide ((0 : Int) < e2_3)) then
    bif (idxOK 0 (List.length e2_1)) then
      none
    else
      none
  else
    k (-1)
def slices_IndexFunc_int_int__frame_all_1.g0 {Ω : Type} (e2_1 : (List Int)) (e2_2 : Value) (e2_3 : Int)  (k : Int → Option Ω) (s : Unit) : Option Ω := iter (slices_IndexFunc_int_int__frame_all_1.gb0 e2_1 e2_2 e2_3  k) BIG s
theorem slices_IndexFunc_int_int__frame_all_1.h0 {Ω : Type} (e2_1 : (List Int)) (e2_2 : Value) (e2_3 : Int)   (k : Int → Option Ω) (s : Unit) : Le (slices_IndexFunc_int_int__frame_all_1.g0 e2_1 e2_2 e2_3  k s) (iter (slices_IndexFunc_int_int__frame_all_1.B0 BIG e2_1 e2_2 e2_3  k) BIG s) :=
  iter_le (B := slices_IndexFunc_int_int__frame_all_1.gb0 e2_1 e2_2 e2_3  k) (B' := (slices_IndexFunc_int_int__frame_all_1.B0 BIG e2_1 e2_2 e2_3  k)) (fun r2 r2' s2 ih => (Le.cond (Le.cond Le.nil Le.nil) (Le.refl _))) BIG s
def slices_IndexFunc_int_int__frame_all_1.w {Ω : Type} (x0 : (List Int)) (c1_0 : Value) (k : Int → Option Ω) : Option Ω :=
  slices_IndexFunc_int_int__frame_all_1.g0 x0 c1_0 (((List.length x0 : Nat) : Int))  k ()
theorem slices_IndexFunc_int_int__frame_all_1.le {Ω : Type} (x0 : (List Int)) (c1_0 : Value) (k : Int → Option Ω) : Le (slices_IndexFunc_int_int__frame_all_1.w x0 c1_0 k) (slices_IndexFunc_int_int__frame_all_1.s BIG x0 c1_0 k) := by
  delta slices_IndexFunc_int_int__frame_all_1.w slices_IndexFunc_int_int__frame_all_1.s slices_IndexFunc_int_int__frame_all_1.sl
  exact (slices_IndexFunc_int_int__frame_all_1.h0 _ _ _   k _)
def slices_IndexFunc_int_int__frame_all_1.u (x0 : (List Int)) (c1_0 : Value) : Option (Int) := slices_IndexFunc_int_int__frame_all_1.w x0 c1_0 some
theorem slices_IndexFunc_int_int__frame_all_1.c (x0 : (List Int)) (c1_0 : Value) (r : Int) (h : slices_IndexFunc_int_int__frame_all_1.u x0 c1_0 = some r) : Contract C 100 [(.v (.slice (.int .i64)) (x0)), (.fn 81 [(.vp (.raw .func) c1_0 [])])] (tupAV (.int .i64) [] r) :=
  contract_s (S := fun k => slices_IndexFunc_int_int__frame_all_1.s BIG x0 c1_0 k) C_ok noS_ok (by kernel_rfl) (by kernel_rfl) (by kernel_rfl) (slices_IndexFunc_int_int__frame_all_1.ev BIG x0 c1_0 (dec (.int .i64) [])) (slices_IndexFunc_int_int__frame_all_1.le x0 c1_0 some r h)
noncomputable def slices_IndexFunc_int_int__frame_all_1.e : Ent := argI (.slice (.int .i64)) fun x0 => argF1 81 (.raw .func) fun c1_0 => endU (slices_IndexFunc_int_int__frame_all_1.u x0 c1_0) (tupAV (.int .i64) [])
theorem slices_IndexFunc_int_int__frame_all_1.e_ok : EntOK C 100 (fun {_} => slices_IndexFunc_int_int__frame_all_1.e) := entA_ok (argI_ok fun x0 => argF1_ok fun c1_0 => endU_ok fun r h => slices_IndexFunc_int_int__frame_all_1.c x0 c1_0 r h)

/-- slices.ContainsFunc   int,int  -/
noncomputable def slices_ContainsFunc_int_int__frame_all_1.sp : Spec := (orS 100 (fun {_} => slices_IndexFunc_int_int__frame_all_1.e) noS)
def slices_ContainsFunc_int_int__frame_all_1.s {Ω : Type} (x0 : (List Int)) (c1_0 : Value) (k : Bool → Option Ω) : Option Ω :=
  (slices_IndexFunc_int_int__frame_all_1.u x0 c1_0).bind fun y1 =>
  k (decide (y1 ≥ 0))
theorem slices_ContainsFunc_int_int__frame_all_1.ev {Ω : Type} (fuel : Fuel) (x0 : (List Int)) (c1_0 : Value) (k : AV → Option Ω) : evFn C (fun {_} => slices_ContainsFunc_int_int__frame_all_1.sp) fuel Tryd.f80 (Tryd.f80.body.getD .skip) [(.v (.slice (.int .i64)) (x0)), (.fn 81 [(.vp (.raw .func) c1_0 [])])] k = slices_ContainsFunc_int_int__frame_all_1.s x0 c1_0 (fun r => k (tupAV .bool [] r)) := by kernel_rfl
def slices_ContainsFunc_int_int__frame_all_1.u (x0 : (List Int)) (c1_0 : Value) : Option (Bool) := slices_ContainsFunc_int_int__frame_all_1.s x0 c1_0 some
theorem slices_ContainsFunc_int_int__frame_all_1.c (x0 : (List Int)) (c1_0 : Value) (r : Bool) (h : slices_ContainsFunc_int_int__frame_all_1.u x0 c1_0 = some r) : Contract C 80 [(.v (.slice (.int .i64)) (x0)), (.fn 81 [(.vp (.raw .func) c1_0 [])])] (tupAV .bool [] r) :=
  contract_s (S := fun k => slices_ContainsFunc_int_int__frame_all_1.s x0 c1_0 k) C_ok (orS_ok slices_IndexFunc_int_int__frame_all_1.e_ok noS_ok) (by kernel_rfl) (by kernel_rfl) (by kernel_rfl) (slices_ContainsFunc_int_int__frame_all_1.ev ⟨1, fun _ => []⟩ x0 c1_0 (dec .bool [])) h
noncomputable def slices_ContainsFunc_int_int__frame_all_1.e : Ent := argI (.slice (.int .i64)) fun x0 => argF1 81 (.raw .func) fun c1_0 => endU (slices_ContainsFunc_int_int__frame_all_1.u x0 c1_0) (tupAV .bool [])
theorem slices_ContainsFunc_int_int__frame_all_1.e_ok : EntOK C 80 (fun {_} => slices_ContainsFunc_int_int__frame_all_1.e) := entA_ok (argI_ok fun x0 => argF1_ok fun c1_0 => endU_ok fun r h => slices_ContainsFunc_int_int__frame_all_1.c x0 c1_0 r h)

/-- becket frame.all -/
noncomputable def frame_all.sp : Spec := (orS 80 (fun {_} => slices_ContainsFunc_int_int__frame_all_1.e) noS)
def frame_all.s {Ω : Type} (x0 : (List Int)) (x1 : Value) (k : Bool → Option Ω) : Option Ω :=
  (slices_ContainsFunc_int_int__frame_all_1.u x0 x1).bind fun y1 =>
  k (!y1)
theorem frame_all.ev {Ω : Type} (fuel : Fuel) (x0 : (List Int)) (x1 : Value) (k : AV → Option Ω) : evFn C (fun {_} => frame_all.sp) fuel Tryd.f57 (Tryd.f57.body.getD .skip) [(.v (.slice (.int .i64)) (x0)), (.v (.raw .func) (x1))] k = frame_all.s x0 x1 (fun r => k (tupAV .bool [] r)) := by kernel_rfl
def frame_all.u (x0 : (List Int)) (x1 : Value) : Option (Bool) := frame_all.s x0 x1 some
theorem frame_all.c (x0 : (List Int)) (x1 : Value) (r : Bool) (h : frame_all.u x0 x1 = some r) : Contract C 57 [(.v (.slice (.int .i64)) (x0)), (.v (.raw .func) (x1))] (tupAV .bool [] r) :=
  contract_s (S := fun k => frame_all.s x0 x1 k) C_ok (orS_ok slices_ContainsFunc_int_int__frame_all_1.e_ok noS_ok) (by kernel_rfl) (by kernel_rfl) (by kernel_rfl) (frame_all.ev ⟨1, fun _ => []⟩ x0 x1 (dec .bool [])) h
noncomputable def frame_all.e : Ent := argI (.slice (.int .i64)) fun x0 => argI (.raw .func) fun x1 => endU (frame_all.u x0 x1) (tupAV .bool [])
theorem frame_all.e_ok : EntOK C 57 (fun {_} => frame_all.e) := entA_ok (argI_ok fun x0 => argI_ok fun x1 => endU_ok fun r h => frame_all.c x0 x1 r h)

end Go.Proofs.YtmphlhnpichonaaDoor.K

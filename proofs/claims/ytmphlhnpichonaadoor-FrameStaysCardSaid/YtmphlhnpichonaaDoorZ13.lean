/- What functions of the program come to, plainly. -/
import Derived.Test.YtmphlhnpichonaaDoorZ13b
set_option maxRecDepth 100000
set_option linter.unusedVariables false
namespace Go.Proofs.YtmphlhnpichonaaDoor.K
open Go Go.RowKit

/-- becket becketlaw13.FrameGoes -/
noncomputable def law13_FrameGoes.sp : Spec := (orS 27 (fun {_} => ref13_Ret.e) (orS 26 (fun {_} => frame_Ret.e) (orS 25 (fun {_} => ref13_Call.e) (orS 24 (fun {_} => frame_Call.e) (orS 23 (fun {_} => ref13_Go.e) (orS 22 (fun {_} => frame_Go.e) (orS 21 (fun {_} => law13_alive.e) noS)))))))
def law13_FrameGoes.s {Ω : Type} (x0 : (Int × (Bool × ((List Int) × ((List Int) × (Int × ((List Int) × Unit))))))) (x1 : Int) (k : Bool → Option Ω) : Option Ω :=
  (frame_Go.u x0 x1).bind fun y1 =>
  (ref13_Go.u x0 x1).bind fun y2 =>
  (frame_Call.u x0 x1).bind fun y3 =>
  (ref13_Call.u x0 x1).bind fun y4 =>
  (frame_Ret.u x0).bind fun y5 =>
  (ref13_Ret.u x0).bind fun y6 =>
  let v7 : Bool := (eqI (.pair (.int .i64) (.pair .bool (.pair (.arr 8 (.int .i64)) (.pair (.arr 16 (.int .i64)) (.pair (.int .i64) (.pair (.arr 8 (.int .i64)) .unit)))))) y1.1 y2.1)
  bif v7 then
    bif (y1.2 == y2.2) then
      let v8 : Bool := (eqI (.pair (.int .i64) (.pair .bool (.pair (.arr 8 (.int .i64)) (.pair (.arr 16 (.int .i64)) (.pair (.int .i64) (.pair (.arr 8 (.int .i64)) .unit)))))) y3.1 y4.1)
      bif v8 then
        bif (y3.2 == y4.2) then
          let v9 : Bool := (eqI (.pair (.int .i64) (.pair .bool (.pair (.arr 8 (.int .i64)) (.pair (.arr 16 (.int .i64)) (.pair (.int .i64) (.pair (.arr 8 (.int .i64)) .unit)))))) y5.1 y6.1)
          bif v9 then
            bif (y5.2 == y6.2) then
              law13_alive.u.bind fun y10 =>
              k y10
            else
              k false
          else
            k false
        else
          k false
      else
        k false
    else
      k false
  else
    k false
theorem law13_FrameGoes.ev {Ω : Type} (fuel : Fuel) (x0 : (Int × (Bool × ((List Int) × ((List Int) × (Int × ((List Int) × Unit))))))) (x1 : Int) (k : AV → Option Ω) : evFn CP (fun {_} => law13_FrameGoes.sp) fuel Tryd.f4 (Tryd.f4.body.getD .skip) [(.v (.pair (.int .i64) (.pair .bool (.pair (.arr 8 (.int .i64)) (.pair (.arr 16 (.int .i64)) (.pair (.int .i64) (.pair (.arr 8 (.int .i64)) .unit)))))) (x0)), (.v (.int .i64) (x1))] k = law13_FrameGoes.s x0 x1 (fun r => k (tupAV .bool [] r)) := by kernel_rfl
def law13_FrameGoes.u (x0 : (Int × (Bool × ((List Int) × ((List Int) × (Int × ((List Int) × Unit))))))) (x1 : Int) : Option (Bool) := law13_FrameGoes.s x0 x1 some
theorem law13_FrameGoes.c (x0 : (Int × (Bool × ((List Int) × ((List Int) × (Int × ((List Int) × Unit))))))) (x1 : Int) (r : Bool) (h : law13_FrameGoes.u x0 x1 = some r) : Contract CP 4 [(.v (.pair (.int .i64) (.pair .bool (.pair (.arr 8 (.int .i64)) (.pair (.arr 16 (.int .i64)) (.pair (.int .i64) (.pair (.arr 8 (.int .i64)) .unit)))))) (x0)), (.v (.int .i64) (x1))] (tupAV .bool [] r) :=
  contract_s (S := fun k => law13_FrameGoes.s x0 x1 k) CP_ok (orS_ok (ref13_Ret.e_ok.mono le_C_CP) (orS_ok (frame_Ret.e_ok.mono le_C_CP) (orS_ok (ref13_Call.e_ok.mono le_C_CP) (orS_ok (frame_Call.e_ok.mono le_C_CP) (orS_ok (ref13_Go.e_ok.mono le_C_CP) (orS_ok (frame_Go.e_ok.mono le_C_CP) (orS_ok law13_alive.e_ok noS_ok))))))) (by kernel_rfl) (by kernel_rfl) (by kernel_rfl) (law13_FrameGoes.ev ⟨1, fun _ => []⟩ x0 x1 (dec .bool [])) h
noncomputable def law13_FrameGoes.e : Ent := argI (.pair (.int .i64) (.pair .bool (.pair (.arr 8 (.int .i64)) (.pair (.arr 16 (.int .i64)) (.pair (.int .i64) (.pair (.arr 8 (.int .i64)) .unit)))))) fun x0 => argI (.int .i64) fun x1 => endU (law13_FrameGoes.u x0 x1) (tupAV .bool [])
theorem law13_FrameGoes.e_ok : EntOK CP 4 (fun {_} => law13_FrameGoes.e) := entA_ok (argI_ok fun x0 => argI_ok fun x1 => endU_ok fun r h => law13_FrameGoes.c x0 x1 r h)

/-- becket frame.Get -/
noncomputable def frame_Get.sp : Spec := (orS 63 (fun {_} => frame_at.e) noS)
def frame_Get.s {Ω : Type} (x0 : (Int × (Bool × ((List Int) × ((List Int) × (Int × ((List Int) × Unit))))))) (x1 : Int) (k : Int × Int → Option Ω) : Option Ω :=
  (frame_at.u x0 x1 8 0).bind fun y1 =>
  bif (y1 != 0) then
    k (0, y1)
  else
    bif (idxOK x1 8) then
      k ((List.getD x0.2.2.1 (Int.toNat x1) 0), 0)
    else
      none
theorem frame_Get.ev {Ω : Type} (fuel : Fuel) (x0 : (Int × (Bool × ((List Int) × ((List Int) × (Int × ((List Int) × Unit))))))) (x1 : Int) (k : AV → Option Ω) : evFn C (fun {_} => frame_Get.sp) fuel Tryd.f28 (Tryd.f28.body.getD .skip) [(.v (.pair (.int .i64) (.pair .bool (.pair (.arr 8 (.int .i64)) (.pair (.arr 16 (.int .i64)) (.pair (.int .i64) (.pair (.arr 8 (.int .i64)) .unit)))))) (x0)), (.v (.int .i64) (x1))] k = frame_Get.s x0 x1 (fun r => k (tupAV (.int .i64) [(.int .i64)] r)) := by kernel_rfl
def frame_Get.u (x0 : (Int × (Bool × ((List Int) × ((List Int) × (Int × ((List Int) × Unit))))))) (x1 : Int) : Option (Int × Int) := frame_Get.s x0 x1 some
theorem frame_Get.c (x0 : (Int × (Bool × ((List Int) × ((List Int) × (Int × ((List Int) × Unit))))))) (x1 : Int) (r : Int × Int) (h : frame_Get.u x0 x1 = some r) : Contract C 28 [(.v (.pair (.int .i64) (.pair .bool (.pair (.arr 8 (.int .i64)) (.pair (.arr 16 (.int .i64)) (.pair (.int .i64) (.pair (.arr 8 (.int .i64)) .unit)))))) (x0)), (.v (.int .i64) (x1))] (tupAV (.int .i64) [(.int .i64)] r) :=
  contract_s (S := fun k => frame_Get.s x0 x1 k) C_ok (orS_ok frame_at.e_ok noS_ok) (by kernel_rfl) (by kernel_rfl) (by kernel_rfl) (frame_Get.ev ⟨1, fun _ => []⟩ x0 x1 (dec (.int .i64) [(.int .i64)])) h
noncomputable def frame_Get.e : Ent := argI (.pair (.int .i64) (.pair .bool (.pair (.arr 8 (.int .i64)) (.pair (.arr 16 (.int .i64)) (.pair (.int .i64) (.pair (.arr 8 (.int .i64)) .unit)))))) fun x0 => argI (.int .i64) fun x1 => endU (frame_Get.u x0 x1) (tupAV (.int .i64) [(.int .i64)])
theorem frame_Get.e_ok : EntOK C 28 (fun {_} => frame_Get.e) := entA_ok (argI_ok fun x0 => argI_ok fun x1 => endU_ok fun r h => frame_Get.c x0 x1 r h)

/-- becket becketref13.Get -/
noncomputable def ref13_Get.sp : Spec := (orS 18 (fun {_} => ref13_Fine.e) noS)
def ref13_Get.s {Ω : Type} (x0 : (Int × (Bool × ((List Int) × ((List Int) × (Int × ((List Int) × Unit))))))) (x1 : Int) (k : Int × Int → Option Ω) : Option Ω :=
  (ref13_Fine.u x0).bind fun y1 =>
  bif (!y1) then
    k (0, 1)
  else
    bif (decide (x1 < 0)) then
      k (0, 8)
    else
      bif (decide (x1 > 7)) then
        k (0, 8)
      else
        bif (idxOK x1 8) then
          k ((List.getD x0.2.2.1 (Int.toNat x1) 0), 0)
        else
          none
theorem ref13_Get.ev {Ω : Type} (fuel : Fuel) (x0 : (Int × (Bool × ((List Int) × ((List Int) × (Int × ((List Int) × Unit))))))) (x1 : Int) (k : AV → Option Ω) : evFn C (fun {_} => ref13_Get.sp) fuel Tryd.f29 (Tryd.f29.body.getD .skip) [(.v (.pair (.int .i64) (.pair .bool (.pair (.arr 8 (.int .i64)) (.pair (.arr 16 (.int .i64)) (.pair (.int .i64) (.pair (.arr 8 (.int .i64)) .unit)))))) (x0)), (.v (.int .i64) (x1))] k = ref13_Get.s x0 x1 (fun r => k (tupAV (.int .i64) [(.int .i64)] r)) := by kernel_rfl
def ref13_Get.u (x0 : (Int × (Bool × ((List Int) × ((List Int) × (Int × ((List Int) × Unit))))))) (x1 : Int) : Option (Int × Int) := ref13_Get.s x0 x1 some
theorem ref13_Get.c (x0 : (Int × (Bool × ((List Int) × ((List Int) × (Int × ((List Int) × Unit))))))) (x1 : Int) (r : Int × Int) (h : ref13_Get.u x0 x1 = some r) : Contract C 29 [(.v (.pair (.int .i64) (.pair .bool (.pair (.arr 8 (.int .i64)) (.pair (.arr 16 (.int .i64)) (.pair (.int .i64) (.pair (.arr 8 (.int .i64)) .unit)))))) (x0)), (.v (.int .i64) (x1))] (tupAV (.int .i64) [(.int .i64)] r) :=
  contract_s (S := fun k => ref13_Get.s x0 x1 k) C_ok (orS_ok ref13_Fine.e_ok noS_ok) (by kernel_rfl) (by kernel_rfl) (by kernel_rfl) (ref13_Get.ev ⟨1, fun _ => []⟩ x0 x1 (dec (.int .i64) [(.int .i64)])) h
noncomputable def ref13_Get.e : Ent := argI (.pair (.int .i64) (.pair .bool (.pair (.arr 8 (.int .i64)) (.pair (.arr 16 (.int .i64)) (.pair (.int .i64) (.pair (.arr 8 (.int .i64)) .unit)))))) fun x0 => argI (.int .i64) fun x1 => endU (ref13_Get.u x0 x1) (tupAV (.int .i64) [(.int .i64)])
theorem ref13_Get.e_ok : EntOK C 29 (fun {_} => ref13_Get.e) := entA_ok (argI_ok fun x0 => argI_ok fun x1 => endU_ok fun r h => ref13_Get.c x0 x1 r h)

/-- becket becketref13.Load -/
noncomputable def ref13_Load.sp : Spec := (orS 18 (fun {_} => ref13_Fine.e) noS)
def ref13_Load.s {Ω : Type} (x0 : (Int × (Bool × ((List Int) × ((List Int) × (Int × ((List Int) × Unit))))))) (x1 : Int) (k : Int × Int → Option Ω) : Option Ω :=
  (ref13_Fine.u x0).bind fun y1 =>
  bif (!y1) then
    k (0, 1)
  else
    bif (decide (x1 < 0)) then
      k (0, 8)
    else
      bif (decide (x1 > 15)) then
        k (0, 8)
      else
        bif (idxOK x1 16) then
          k ((List.getD x0.2.2.2.1 (Int.toNat x1) 0), 0)
        else
          none
theorem ref13_Load.ev {Ω : Type} (fuel : Fuel) (x0 : (Int × (Bool × ((List Int) × ((List Int) × (Int × ((List Int) × Unit))))))) (x1 : Int) (k : AV → Option Ω) : evFn C (fun {_} => ref13_Load.sp) fuel Tryd.f31 (Tryd.f31.body.getD .skip) [(.v (.pair (.int .i64) (.pair .bool (.pair (.arr 8 (.int .i64)) (.pair (.arr 16 (.int .i64)) (.pair (.int .i64) (.pair (.arr 8 (.int .i64)) .unit)))))) (x0)), (.v (.int .i64) (x1))] k = ref13_Load.s x0 x1 (fun r => k (tupAV (.int .i64) [(.int .i64)] r)) := by kernel_rfl
def ref13_Load.u (x0 : (Int × (Bool × ((List Int) × ((List Int) × (Int × ((List Int) × Unit))))))) (x1 : Int) : Option (Int × Int) := ref13_Load.s x0 x1 some
theorem ref13_Load.c (x0 : (Int × (Bool × ((List Int) × ((List Int) × (Int × ((List Int) × Unit))))))) (x1 : Int) (r : Int × Int) (h : ref13_Load.u x0 x1 = some r) : Contract C 31 [(.v (.pair (.int .i64) (.pair .bool (.pair (.arr 8 (.int .i64)) (.pair (.arr 16 (.int .i64)) (.pair (.int .i64) (.pair (.arr 8 (.int .i64)) .unit)))))) (x0)), (.v (.int .i64) (x1))] (tupAV (.int .i64) [(.int .i64)] r) :=
  contract_s (S := fun k => ref13_Load.s x0 x1 k) C_ok (orS_ok ref13_Fine.e_ok noS_ok) (by kernel_rfl) (by kernel_rfl) (by kernel_rfl) (ref13_Load.ev ⟨1, fun _ => []⟩ x0 x1 (dec (.int .i64) [(.int .i64)])) h
noncomputable def ref13_Load.e : Ent := argI (.pair (.int .i64) (.pair .bool (.pair (.arr 8 (.int .i64)) (.pair (.arr 16 (.int .i64)) (.pair (.int .i64) (.pair (.arr 8 (.int .i64)) .unit)))))) fun x0 => argI (.int .i64) fun x1 => endU (ref13_Load.u x0 x1) (tupAV (.int .i64) [(.int .i64)])
theorem ref13_Load.e_ok : EntOK C 31 (fun {_} => ref13_Load.e) := entA_ok (argI_ok fun x0 => argI_ok fun x1 => endU_ok fun r h => ref13_Load.c x0 x1 r h)

/-- becket frame.Set -/
noncomputable def frame_Set.sp : Spec := (orS 63 (fun {_} => frame_at.e) noS)
def frame_Set.s {Ω : Type} (x0 : (Int × (Bool × ((List Int) × ((List Int) × (Int × ((List Int) × Unit))))))) (x1 : Int) (x2 : Int) (k : (Int × (Bool × ((List Int) × ((List Int) × (Int × ((List Int) × Unit)))))) × Int → Option Ω) : Option Ω :=
  (frame_at.u x0 x1 8 x2).bind fun y1 =>
  bif (y1 == 0) then
    bif (idxOK x1 8) then
      k ((x0.1, (x0.2.1, ((List.set x0.2.2.1 (Int.toNat x1) x2), x0.2.2.2))), y1)
    else
      none
  else
    k (x0, y1)
theorem frame_Set.ev {Ω : Type} (fuel : Fuel) (x0 : (Int × (Bool × ((List Int) × ((List Int) × (Int × ((List Int) × Unit))))))) (x1 : Int) (x2 : Int) (k : AV → Option Ω) : evFn C (fun {_} => frame_Set.sp) fuel Tryd.f32 (Tryd.f32.body.getD .skip) [(.v (.pair (.int .i64) (.pair .bool (.pair (.arr 8 (.int .i64)) (.pair (.arr 16 (.int .i64)) (.pair (.int .i64) (.pair (.arr 8 (.int .i64)) .unit)))))) (x0)), (.v (.int .i64) (x1)), (.v (.int .i64) (x2))] k = frame_Set.s x0 x1 x2 (fun r => k (tupAV (.pair (.int .i64) (.pair .bool (.pair (.arr 8 (.int .i64)) (.pair (.arr 16 (.int .i64)) (.pair (.int .i64) (.pair (.arr 8 (.int .i64)) .unit)))))) [(.int .i64)] r)) := by kernel_rfl
def frame_Set.u (x0 : (Int × (Bool × ((List Int) × ((List Int) × (Int × ((List Int) × Unit))))))) (x1 : Int) (x2 : Int) : Option ((Int × (Bool × ((List Int) × ((List Int) × (Int × ((List Int) × Unit)))))) × Int) := frame_Set.s x0 x1 x2 some
theorem frame_Set.c (x0 : (Int × (Bool × ((List Int) × ((List Int) × (Int × ((List Int) × Unit))))))) (x1 : Int) (x2 : Int) (r : (Int × (Bool × ((List Int) × ((List Int) × (Int × ((List Int) × Unit)))))) × Int) (h : frame_Set.u x0 x1 x2 = some r) : Contract C 32 [(.v (.pair (.int .i64) (.pair .bool (.pair (.arr 8 (.int .i64)) (.pair (.arr 16 (.int .i64)) (.pair (.int .i64) (.pair (.arr 8 (.int .i64)) .unit)))))) (x0)), (.v (.int .i64) (x1)), (.v (.int .i64) (x2))] (tupAV (.pair (.int .i64) (.pair .bool (.pair (.arr 8 (.int .i64)) (.pair (.arr 16 (.int .i64)) (.pair (.int .i64) (.pair (.arr 8 (.int .i64)) .unit)))))) [(.int .i64)] r) :=
  contract_s (S := fun k => frame_Set.s x0 x1 x2 k) C_ok (orS_ok frame_at.e_ok noS_ok) (by kernel_rfl) (by kernel_rfl) (by kernel_rfl) (frame_Set.ev ⟨1, fun _ => []⟩ x0 x1 x2 (dec (.pair (.int .i64) (.pair .bool (.pair (.arr 8 (.int .i64)) (.pair (.arr 16 (.int .i64)) (.pair (.int .i64) (.pair (.arr 8 (.int .i64)) .unit)))))) [(.int .i64)])) h
noncomputable def frame_Set.e : Ent := argI (.pair (.int .i64) (.pair .bool (.pair (.arr 8 (.int .i64)) (.pair (.arr 16 (.int .i64)) (.pair (.int .i64) (.pair (.arr 8 (.int .i64)) .unit)))))) fun x0 => argI (.int .i64) fun x1 => argI (.int .i64) fun x2 => endU (frame_Set.u x0 x1 x2) (tupAV (.pair (.int .i64) (.pair .bool (.pair (.arr 8 (.int .i64)) (.pair (.arr 16 (.int .i64)) (.pair (.int .i64) (.pair (.arr 8 (.int .i64)) .unit)))))) [(.int .i64)])
theorem frame_Set.e_ok : EntOK C 32 (fun {_} => frame_Set.e) := entA_ok (argI_ok fun x0 => argI_ok fun x1 => argI_ok fun x2 => endU_ok fun r h => frame_Set.c x0 x1 x2 r h)

/-- becket becketref13.Set -/
noncomputable def ref13_Set.sp : Spec := (orS 53 (fun {_} => ref08_Fine.e) (orS 29 (fun {_} => ref13_Get.e) noS))
def ref13_Set.s {Ω : Type} (x0 : (Int × (Bool × ((List Int) × ((List Int) × (Int × ((List Int) × Unit))))))) (x1 : Int) (x2 : Int) (k : (Int × (Bool × ((List Int) × ((List Int) × (Int × ((List Int) × Unit)))))) × Int → Option Ω) : Option Ω :=
  (ref13_Get.u x0 x1).bind fun y1 =>
  bif (y1.2 != 0) then
    k (x0, y1.2)
  else
    bif (!(ref08_Fine.t x2)) then
      k (x0, 8)
    else
      bif (idxOK x1 8) then
        k ((x0.1, (x0.2.1, ((List.set x0.2.2.1 (Int.toNat x1) x2), x0.2.2.2))), 0)
      else
        none
theorem ref13_Set.ev {Ω : Type} (fuel : Fuel) (x0 : (Int × (Bool × ((List Int) × ((List Int) × (Int × ((List Int) × Unit))))))) (x1 : Int) (x2 : Int) (k : AV → Option Ω) : evFn C (fun {_} => ref13_Set.sp) fuel Tryd.f33 (Tryd.f33.body.getD .skip) [(.v (.pair (.int .i64) (.pair .bool (.pair (.arr 8 (.int .i64)) (.pair (.arr 16 (.int .i64)) (.pair (.int .i64) (.pair (.arr 8 (.int .i64)) .unit)))))) (x0)), (.v (.int .i64) (x1)), (.v (.int .i64) (x2))] k = ref13_Set.s x0 x1 x2 (fun r => k (tupAV (.pair (.int .i64) (.pair .bool (.pair (.arr 8 (.int .i64)) (.pair (.arr 16 (.int .i64)) (.pair (.int .i64) (.pair (.arr 8 (.int .i64)) .unit)))))) [(.int .i64)] r)) := by kernel_rfl
def ref13_Set.u (x0 : (Int × (Bool × ((List Int) × ((List Int) × (Int × ((List Int) × Unit))))))) (x1 : Int) (x2 : Int) : Option ((Int × (Bool × ((List Int) × ((List Int) × (Int × ((List Int) × Unit)))))) × Int) := ref13_Set.s x0 x1 x2 some
theorem ref13_Set.c (x0 : (Int × (Bool × ((List Int) × ((List Int) × (Int × ((List Int) × Unit))))))) (x1 : Int) (x2 : Int) (r : (Int × (Bool × ((List Int) × ((List Int) × (Int × ((List Int) × Unit)))))) × Int) (h : ref13_Set.u x0 x1 x2 = some r) : Contract C 33 [(.v (.pair (.int .i64) (.pair .bool (.pair (.arr 8 (.int .i64)) (.pair (.arr 16 (.int .i64)) (.pair (.int .i64) (.pair (.arr 8 (.int .i64)) .unit)))))) (x0)), (.v (.int .i64) (x1)), (.v (.int .i64) (x2))] (tupAV (.pair (.int .i64) (.pair .bool (.pair (.arr 8 (.int .i64)) (.pair (.arr 16 (.int .i64)) (.pair (.int .i64) (.pair (.arr 8 (.int .i64)) .unit)))))) [(.int .i64)] r) :=
  contract_s (S := fun k => ref13_Set.s x0 x1 x2 k) C_ok (orS_ok ref08_Fine.e_ok (orS_ok ref13_Get.e_ok noS_ok)) (by kernel_rfl) (by kernel_rfl) (by kernel_rfl) (ref13_Set.ev ⟨1, fun _ => []⟩ x0 x1 x2 (dec (.pair (.int .i64) (.pair .bool (.pair (.arr 8 (.int .i64)) (.pair (.arr 16 (.int .i64)) (.pair (.int .i64) (.pair (.arr 8 (.int .i64)) .unit)))))) [(.int .i64)])) h
noncomputable def ref13_Set.e : Ent := argI (.pair (.int .i64) (.pair .bool (.pair (.arr 8 (.int .i64)) (.pair (.arr 16 (.int .i64)) (.pair (.int .i64) (.pair (.arr 8 (.int .i64)) .unit)))))) fun x0 => argI (.int .i64) fun x1 => argI (.int .i64) fun x2 => endU (ref13_Set.u x0 x1 x2) (tupAV (.pair (.int .i64) (.pair .bool (.pair (.arr 8 (.int .i64)) (.pair (.arr 16 (.int .i64)) (.pair (.int .i64) (.pair (.arr 8 (.int .i64)) .unit)))))) [(.int .i64)])
theorem ref13_Set.e_ok : EntOK C 33 (fun {_} => ref13_Set.e) := entA_ok (argI_ok fun x0 => argI_ok fun x1 => argI_ok fun x2 => endU_ok fun r h => ref13_Set.c x0 x1 x2 r h)

/-- becket becketref13.Store -/
noncomputable def ref13_Store.sp : Spec := (orS 53 (fun {_} => ref08_Fine.e) (orS 31 (fun {_} => ref13_Load.e) noS))
def ref13_Store.s {Ω : Type} (x0 : (Int × (Bool × ((List Int) × ((List Int) × (Int × ((List Int) × Unit))))))) (x1 : Int) (x2 : Int) (k : (Int × (Bool × ((List Int) × ((List Int) × (Int × ((List Int) × Unit)))))) × Int → Option Ω) : Option Ω :=
  (ref13_Load.u x0 x1).bind fun y1 =>
  bif (y1.2 != 0) then
    k (x0, y1.2)
  else
    bif (!(ref08_Fine.t x2)) then
      k (x0, 8)
    else
      bif (idxOK x1 16) then
        k ((x0.1, (x0.2.1, (x0.2.2.1, ((List.set x0.2.2.2.1 (Int.toNat x1) x2), x0.2.2.2.2)))), 0)
      else
        none
theorem ref13_Store.ev {Ω : Type} (fuel : Fuel) (x0 : (Int × (Bool × ((List Int) × ((List Int) × (Int × ((List Int) × Unit))))))) (x1 : Int) (x2 : Int) (k : AV → Option Ω) : evFn C (fun {_} => ref13_Store.sp) fuel Tryd.f35 (Tryd.f35.body.getD .skip) [(.v (.pair (.int .i64) (.pair .bool (.pair (.arr 8 (.int .i64)) (.pair (.arr 16 (.int .i64)) (.pair (.int .i64) (.pair (.arr 8 (.int .i64)) .unit)))))) (x0)), (.v (.int .i64) (x1)), (.v (.int .i64) (x2))] k = ref13_Store.s x0 x1 x2 (fun r => k (tupAV (.pair (.int .i64) (.pair .bool (.pair (.arr 8 (.int .i64)) (.pair (.arr 16 (.int .i64)) (.pair (.int .i64) (.pair (.arr 8 (.int .i64)) .unit)))))) [(.int .i64)] r)) := by kernel_rfl
def ref13_Store.u (x0 : (Int × (Bool × ((List Int) × ((List Int) × (Int × ((List Int) × Unit))))))) (x1 : Int) (x2 : Int) : Option ((Int × (Bool × ((List Int) × ((List Int) × (Int × ((List Int) × Unit)))))) × Int) := ref13_Store.s x0 x1 x2 some
theorem ref13_Store.c (x0 : (Int × (Bool × ((List Int) × ((List Int) × (Int × ((List Int) × Unit))))))) (x1 : Int) (x2 : Int) (r : (Int × (Bool × ((List Int) × ((List Int) × (Int × ((List Int) × Unit)))))) × Int) (h : ref13_Store.u x0 x1 x2 = some r) : Contract C 35 [(.v (.pair (.int .i64) (.pair .bool (.pair (.arr 8 (.int .i64)) (.pair (.arr 16 (.int .i64)) (.pair (.int .i64) (.pair (.arr 8 (.int .i64)) .unit)))))) (x0)), (.v (.int .i64) (x1)), (.v (.int .i64) (x2))] (tupAV (.pair (.int .i64) (.pair .bool (.pair (.arr 8 (.int .i64)) (.pair (.arr 16 (.int .i64)) (.pair (.int .i64) (.pair (.arr 8 (.int .i64)) .unit)))))) [(.int .i64)] r) :=
  contract_s (S := fun k => ref13_Store.s x0 x1 x2 k) C_ok (orS_ok ref08_Fine.e_ok (orS_ok ref13_Load.e_ok noS_ok)) (by kernel_rfl) (by kernel_rfl) (by kernel_rfl) (ref13_Store.ev ⟨1, fun _ => []⟩ x0 x1 x2 (dec (.pair (.int .i64) (.pair .bool (.pair (.arr 8 (.int .i64)) (.pair (.arr 16 (.int .i64)) (.pair (.int .i64) (.pair (.arr 8 (.int .i64)) .unit)))))) [(.int .i64)])) h
noncomputable def ref13_Store.e : Ent := argI (.pair (.int .i64) (.pair .bool (.pair (.arr 8 (.int .i64)) (.pair (.arr 16 (.int .i64)) (.pair (.int .i64) (.pair (.arr 8 (.int .i64)) .unit)))))) fun x0 => argI (.int .i64) fun x1 => argI (.int .i64) fun x2 => endU (ref13_Store.u x0 x1 x2) (tupAV (.pair (.int .i64) (.pair .bool (.pair (.arr 8 (.int .i64)) (.pair (.arr 16 (.int .i64)) (.pair (.int .i64) (.pair (.arr 8 (.int .i64)) .unit)))))) [(.int .i64)])
theorem ref13_Store.e_ok : EntOK C 35 (fun {_} => ref13_Store.e) := entA_ok (argI_ok fun x0 => argI_ok fun x1 => argI_ok fun x2 => endU_ok fun r h => ref13_Store.c x0 x1 x2 r h)

/-- becket becketlaw13.FrameKeeps -/
noncomputable def law13_FrameKeeps.sp : Spec := (orS 35 (fun {_} => ref13_Store.e) (orS 34 (fun {_} => frame_Store.e) (orS 33 (fun {_} => ref13_Set.e) (orS 32 (fun {_} => frame_Set.e) (orS 31 (fun {_} => ref13_Load.e) (orS 30 (fun {_} => frame_Load.e) (orS 29 (fun {_} => ref13_Get.e) (orS 28 (fun {_} => frame_Get.e) (orS 21 (fun {_} => law13_alive.e) noS)))))))))
def law13_FrameKeeps.s {Ω : Type} (x0 : (Int × (Bool × ((List Int) × ((List Int) × (Int × ((List Int) × Unit))))))) (x1 : Int) (x2 : Int) (k : Bool → Option Ω) : Option Ω :=
  (frame_Get.u x0 x1).bind fun y1 =>
  (ref13_Get.u x0 x1).bind fun y2 =>
  (frame_Load.u x0 x1).bind fun y3 =>
  (ref13_Load.u x0 x1).bind fun y4 =>
  (frame_Set.u x0 x1 x2).bind fun y5 =>
  (ref13_Set.u x0 x1 x2).bind fun y6 =>
  (frame_Store.u x0 x1 x2).bind fun y7 =>
  (ref13_Store.u x0 x1 x2).bind fun y8 =>
  bif (y1.1 == y2.1) then
    bif (y1.2 == y2.2) then
      bif (y3.1 == y4.1) then
        bif (y3.2 == y4.2) then
          let v9 : Bool := (eqI (.pair (.int .i64) (.pair .bool (.pair (.arr 8 (.int .i64)) (.pair (.arr 16 (.int .i64)) (.pair (.int .i64) (.pair (.arr 8 (.int .i64)) .unit)))))) y5.1 y6.1)
          bif v9 then
            bif (y5.2 == y6.2) then
              let v10 : Bool := (eqI (.pair (.int .i64) (.pair .bool (.pair (.arr 8 (.int .i64)) (.pair (.arr 16 (.int .i64)) (.pair (.int .i64) (.pair (.arr 8 (.int .i64)) .unit)))))) y7.1 y8.1)
              bif v10 then
                bif (y7.2 == y8.2) then
                  law13_alive.u.bind fun y11 =>
                  k y11
                else
                  k false
              else
                k false
            else
              k false
          else
            k false
        else
          k false
      else
        k false
    else
      k false
  else
    k false
theorem law13_FrameKeeps.ev {Ω : Type} (fuel : Fuel) (x0 : (Int × (Bool × ((List Int) × ((List Int) × (Int × ((List Int) × Unit))))))) (x1 : Int) (x2 : Int) (k : AV → Option Ω) : evFn CP (fun {_} => law13_FrameKeeps.sp) fuel Tryd.f5 (Tryd.f5.body.getD .skip) [(.v (.pair (.int .i64) (.pair .bool (.pair (.arr 8 (.int .i64)) (.pair (.arr 16 (.int .i64)) (.pair (.int .i64) (.pair (.arr 8 (.int .i64)) .unit)))))) (x0)), (.v (.int .i64) (x1)), (.v (.int .i64) (x2))] k = law13_FrameKeeps.s x0 x1 x2 (fun r => k (tupAV .bool [] r)) := by kernel_rfl
def law13_FrameKeeps.u (x0 : (Int × (Bool × ((List Int) × ((List Int) × (Int × ((List Int) × Unit))))))) (x1 : Int) (x2 : Int) : Option (Bool) := law13_FrameKeeps.s x0 x1 x2 some
theorem law13_FrameKeeps.c (x0 : (Int × (Bool × ((List Int) × ((List Int) × (Int × ((List Int) × Unit))))))) (x1 : Int) (x2 : Int) (r : Bool) (h : law13_FrameKeeps.u x0 x1 x2 = some r) : Contract CP 5 [(.v (.pair (.int .i64) (.pair .bool (.pair (.arr 8 (.int .i64)) (.pair (.arr 16 (.int .i64)) (.pair (.int .i64) (.pair (.arr 8 (.int .i64)) .unit)))))) (x0)), (.v (.int .i64) (x1)), (.v (.int .i64) (x2))] (tupAV .bool [] r) :=
  contract_s (S := fun k => law13_FrameKeeps.s x0 x1 x2 k) CP_ok (orS_ok (ref13_Store.e_ok.mono le_C_CP) (orS_ok (frame_Store.e_ok.mono le_C_CP) (orS_ok (ref13_Set.e_ok.mono le_C_CP) (orS_ok (frame_Set.e_ok.mono le_C_CP) (orS_ok (ref13_Load.e_ok.mono le_C_CP) (orS_ok (frame_Load.e_ok.mono le_C_CP) (orS_ok (ref13_Get.e_ok.mono le_C_CP) (orS_ok (frame_Get.e_ok.mono le_C_CP) (orS_ok law13_alive.e_ok noS_ok))))))))) (by kernel_rfl) (by kernel_rfl) (by kernel_rfl) (law13_FrameKeeps.ev ⟨1, fun _ => []⟩ x0 x1 x2 (dec .bool [])) h
noncomputable def law13_FrameKeeps.e : Ent := argI (.pair (.int .i64) (.pair .bool (.pair (.arr 8 (.int .i64)) (.pair (.arr 16 (.int .i64)) (.pair (.int .i64) (.pair (.arr 8 (.int .i64)) .unit)))))) fun x0 => argI (.int .i64) fun x1 => argI (.int .i64) fun x2 => endU (law13_FrameKeeps.u x0 x1 x2) (tupAV .bool [])
theorem law13_FrameKeeps.e_ok : EntOK CP 5 (fun {_} => law13_FrameKeeps.e) := entA_ok (argI_ok fun x0 => argI_ok fun x1 => argI_ok fun x2 => endU_ok fun r h => law13_FrameKeeps.c x0 x1 x2 r h)

/-- becket becketlaw13.FrameStays -/
noncomputable def law13_FrameStays.sp : Spec := (orS 34 (fun {_} => frame_Store.e) (orS 32 (fun {_} => frame_Set.e) (orS 30 (fun {_} => frame_Load.e) (orS 28 (fun {_} => frame_Get.e) (orS 26 (fun {_} => frame_Ret.e) (orS 24 (fun {_} => frame_Call.e) (orS 22 (fun {_} => frame_Go.e) (orS 21 (fun {_} => law13_alive.e) (orS 17 (fun {_} => frame_Fine.e) noS)))))))))
def law13_FrameStays.s {Ω : Type} (x0 : (Int × (Bool × ((List Int) × ((List Int) × (Int × ((List Int) × Unit))))))) (x1 : Int) (x2 : Int) (k : Bool → Option Ω) : Option Ω :=
  (frame_Fine.u x0).bind fun y1 =>
  bif (!y1) then
    (frame_Set.u x0 ((IntKind.wrap .i64 (Int.tmod x1 8))) (IntKind.wrap .i64 x2)).bind fun y2 =>
    bif (y2.2 == 1) then
      law13_alive.u.bind fun y3 =>
      k y3
    else
      k false
  else
    (frame_Set.u x0 ((IntKind.wrap .i64 (Int.tmod x1 8))) (IntKind.wrap .i64 x2)).bind fun y4 =>
    (frame_Store.u y4.1 ((IntKind.wrap .i64 (Int.tmod x1 16))) (IntKind.wrap .i64 x2)).bind fun y5 =>
    (frame_Get.u y5.1 ((IntKind.wrap .i64 (Int.tmod x1 8)))).bind fun y6 =>
    (frame_Load.u y5.1 ((IntKind.wrap .i64 (Int.tmod x1 16)))).bind fun y7 =>
    bif (y4.2 != 0) then
      k false
    else
      bif (y5.2 != 0) then
        k false
      else
        bif (y6.2 != 0) then
          k false
        else
          bif (y7.2 != 0) then
            k false
          else
            bif (y6.1 != (IntKind.wrap .i64 x2)) then
              k false
            else
              bif (y7.1 != (IntKind.wrap .i64 x2)) then
                k false
              else
                (frame_Fine.u y5.1).bind fun y8 =>
                bif (!y8) then
                  k false
                else
                  bif (idxOK (IntKind.wrap .i64 (Int.tmod x1 8)) 8) then
                    bif (idxOK (IntKind.wrap .i64 (Int.tmod x1 8)) 8) then
                      bif (idxOK (IntKind.wrap .i64 (Int.tmod x1 16)) 16) then
                        bif (idxOK (IntKind.wrap .i64 (Int.tmod x1 16)) 16) then
                          let v9 : (Int × (Bool × ((List Int) × ((List Int) × (Int × ((List Int) × Unit)))))) := (y5.1.1, (y5.1.2.1, ((List.set y5.1.2.2.1 (Int.toNat (IntKind.wrap .i64 (Int.tmod x1 8))) (List.getD x0.2.2.1 (Int.toNat (IntKind.wrap .i64 (Int.tmod x1 8))) 0)), ((List.set y5.1.2.2.2.1 (Int.toNat (IntKind.wrap .i64 (Int.tmod x1 16))) (List.getD x0.2.2.2.1 (Int.toNat (IntKind.wrap .i64 (Int.tmod x1 16))) 0)), y5.1.2.2.2.2))))
                          let v10 : Bool := (!(eqI (.pair (.int .i64) (.pair .bool (.pair (.arr 8 (.int .i64)) (.pair (.arr 16 (.int .i64)) (.pair (.int .i64) (.pair (.arr 8 (.int .i64)) .unit)))))) v9 x0))
                          bif v10 then
                            k false
                          else
                            (frame_Call.u x0 ((IntKind.wrap .i64 (Int.tmod x1 16)))).bind fun y11 =>
                            bif (y11.2 != 0) then
                              bif (eqI .bool (y11.2 == 19) (x0.2.2.2.2.1 == 8)) then
                                let v12 : Bool := (eqI (.pair (.int .i64) (.pair .bool (.pair (.arr 8 (.int .i64)) (.pair (.arr 16 (.int .i64)) (.pair (.int .i64) (.pair (.arr 8 (.int .i64)) .unit)))))) y11.1 x0)
                                bif v12 then
                                  law13_alive.u.bind fun y13 =>
                                  k y13
                                else
                                  k false
                              else
                                k false
                            else
                              (frame_Ret.u y11.1).bind fun y14 =>
                              (frame_Go.u x0 ((IntKind.wrap .i64 (x0.1 + 1)))).bind fun y15 =>
                              (frame_Fine.u y11.1).bind fun y16 =>
                              bif y16 then
                                bif (y11.1.1 == (IntKind.wrap .i64 (Int.tmod x1 16))) then
                                  bif (y14.2 == 0) then
                                    bif (y15.2 == 0) then
                                      let v17 : Bool := (eqI (.pair (.int .i64) (.pair .bool (.pair (.arr 8 (.int .i64)) (.pair (.arr 16 (.int .i64)) (.pair (.int .i64) (.pair (.arr 8 (.int .i64)) .unit)))))) y14.1 y15.1)
                                      bif v17 then
                                        law13_alive.u.bind fun y18 =>
                                        k y18
                                      else
                                        k false
                                    else
                                      k false
                                  else
                                    k false
                                else
                                  k false
                              else
                                k false
                        else
                          none
                      else
                        none
                    else
                      none
                  else
                    none
theorem law13_FrameStays.ev {Ω : Type} (fuel : Fuel) (x0 : (Int × (Bool × ((List Int) × ((List Int) × (Int × ((List Int) × Unit))))))) (x1 : Int) (x2 : Int) (k : AV → Option Ω) : evFn CP (fun {_} => law13_FrameStays.sp) fuel Tryd.f6 (Tryd.f6.body.getD .skip) [(.v (.pair (.int .i64) (.pair .bool (.pair (.arr 8 (.int .i64)) (.pair (.arr 16 (.int .i64)) (.pair (.int .i64) (.pair (.arr 8 (.int .i64)) .unit)))))) (x0)), (.v (.int .u8) (x1)), (.v (.int .i32) (x2))] k = law13_FrameStays.s x0 x1 x2 (fun r => k (tupAV .bool [] r)) := by kernel_rfl
def law13_FrameStays.u (x0 : (Int × (Bool × ((List Int) × ((List Int) × (Int × ((List Int) × Unit))))))) (x1 : Int) (x2 : Int) : Option (Bool) := law13_FrameStays.s x0 x1 x2 some
theorem law13_FrameStays.c (x0 : (Int × (Bool × ((List Int) × ((List Int) × (Int × ((List Int) × Unit))))))) (x1 : Int) (x2 : Int) (r : Bool) (h : law13_FrameStays.u x0 x1 x2 = some r) : Contract CP 6 [(.v (.pair (.int .i64) (.pair .bool (.pair (.arr 8 (.int .i64)) (.pair (.arr 16 (.int .i64)) (.pair (.int .i64) (.pair (.arr 8 (.int .i64)) .unit)))))) (x0)), (.v (.int .u8) (x1)), (.v (.int .i32) (x2))] (tupAV .bool [] r) :=
  contract_s (S := fun k => law13_FrameStays.s x0 x1 x2 k) CP_ok (orS_ok (frame_Store.e_ok.mono le_C_CP) (orS_ok (frame_Set.e_ok.mono le_C_CP) (orS_ok (frame_Load.e_ok.mono le_C_CP) (orS_ok (frame_Get.e_ok.mono le_C_CP) (orS_ok (frame_Ret.e_ok.mono le_C_CP) (orS_ok (frame_Call.e_ok.mono le_C_CP) (orS_ok (frame_Go.e_ok.mono le_C_CP) (orS_ok law13_alive.e_ok (orS_ok (frame_Fine.e_ok.mono le_C_CP) noS_ok))))))))) (by kernel_rfl) (by kernel_rfl) (by kernel_rfl) (law13_FrameStays.ev ⟨1, fun _ => []⟩ x0 x1 x2 (dec .bool [])) h
noncomputable def law13_FrameStays.e : Ent := argI (.pair (.int .i64) (.pair .bool (.pair (.arr 8 (.int .i64)) (.pair (.arr 16 (.int .i64)) (.pair (.int .i64) (.pair (.arr 8 (.int .i64)) .unit)))))) fun x0 => argI (.int .u8) fun x1 => argI (.int .i32) fun x2 => endU (law13_FrameStays.u x0 x1 x2) (tupAV .bool [])
theorem law13_FrameStays.e_ok : EntOK CP 6 (fun {_} => law13_FrameStays.e) := entA_ok (argI_ok fun x0 => argI_ok fun x1 => argI_ok fun x2 => endU_ok fun r h => law13_FrameStays.c x0 x1 x2 r h)

end Go.Proofs.YtmphlhnpichonaaDoor.K

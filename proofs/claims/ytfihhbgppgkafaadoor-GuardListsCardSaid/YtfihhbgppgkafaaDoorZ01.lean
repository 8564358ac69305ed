/- What functions of the program come to, plainly. -/
import Derived.Test.YtfihhbgppgkafaaDoorPl
set_option maxRecDepth 100000
set_option linter.unusedVariables false
namespace Go.Proofs.YtfihhbgppgkafaaDoor.K
open Go Go.RowKit

/-- becket handle.within -/
noncomputable def handle_within.sp : Spec := noS
def handle_within.s {Ω : Type} (x0 : Int) (x1 : Int) (x2 : Int) (k : Bool → Option Ω) : Option Ω :=
  bif (decide (x0 ≥ x1)) then
    k (decide (x0 ≤ x2))
  else
    k false
theorem handle_within.ev {Ω : Type} (fuel : Fuel) (x0 : Int) (x1 : Int) (x2 : Int) (k : AV → Option Ω) : evFn C handle_within.sp fuel Tryd.f83 (Tryd.f83.body.getD .skip) [(.v (.int .i64) (x0)), (.v (.int .i64) (x1)), (.v (.int .i64) (x2))] k = handle_within.s x0 x1 x2 (fun r => k (tupAV .bool [] r)) := by kernel_rfl
def handle_within.t (x0 : Int) (x1 : Int) (x2 : Int) : Bool :=
  bif (decide (x0 ≥ x1)) then
    (decide (x0 ≤ x2))
  else
    false
theorem handle_within.v {Ω : Type} (x0 : Int) (x1 : Int) (x2 : Int) (k : Bool → Option Ω) : handle_within.s x0 x1 x2 k = k (handle_within.t x0 x1 x2) := by
  delta handle_within.s handle_within.t; exact (cond_tot rfl rfl)
theorem handle_within.c (x0 : Int) (x1 : Int) (x2 : Int) : Contract C 83 [(.v (.int .i64) (x0)), (.v (.int .i64) (x1)), (.v (.int .i64) (x2))] (tupAV .bool [] (handle_within.t x0 x1 x2)) :=
  contract_s (S := fun k => handle_within.s x0 x1 x2 k) C_ok noS_ok (by kernel_rfl) (by kernel_rfl) (by kernel_rfl) (handle_within.ev ⟨1, fun _ => []⟩ x0 x1 x2 (dec .bool [])) (handle_within.v x0 x1 x2 some)
noncomputable def handle_within.e : Ent := argI (.int .i64) fun x0 => argI (.int .i64) fun x1 => argI (.int .i64) fun x2 => endT (tupAV .bool [] (handle_within.t x0 x1 x2))
theorem handle_within.e_ok : EntOK C 83 (fun {_} => handle_within.e) := entA_ok (argI_ok fun x0 => argI_ok fun x1 => argI_ok fun x2 => endT_ok (handle_within.c x0 x1 x2))

/-- becket handle.Make -/
noncomputable def handle_Make.sp : Spec := (orS 83 (fun {_} => handle_within.e) noS)
def handle_Make.s {Ω : Type} (x0 : Int) (x1 : Int) (k : Int × Int → Option Ω) : Option Ω :=
  bif (!(handle_within.t x0 0 4095)) then
    k (0, 8)
  else
    bif (!(handle_within.t x1 1 65535)) then
      k (0, 8)
    else
      k ((IntKind.wrap .i64 ((IntKind.wrap .i64 (x1 * 4096)) + x0)), 0)
theorem handle_Make.ev {Ω : Type} (fuel : Fuel) (x0 : Int) (x1 : Int) (k : AV → Option Ω) : evFn C handle_Make.sp fuel Tryd.f38 (Tryd.f38.body.getD .skip) [(.v (.int .i64) (x0)), (.v (.int .i64) (x1))] k = handle_Make.s x0 x1 (fun r => k (tupAV (.int .i64) [(.int .i64)] r)) := by kernel_rfl
def handle_Make.t (x0 : Int) (x1 : Int) : Int × Int :=
  bif (!(handle_within.t x0 0 4095)) then
    (0, 8)
  else
    bif (!(handle_within.t x1 1 65535)) then
      (0, 8)
    else
      ((IntKind.wrap .i64 ((IntKind.wrap .i64 (x1 * 4096)) + x0)), 0)
theorem handle_Make.v {Ω : Type} (x0 : Int) (x1 : Int) (k : Int × Int → Option Ω) : handle_Make.s x0 x1 k = k (handle_Make.t x0 x1) := by
  delta handle_Make.s handle_Make.t; exact (cond_tot rfl (cond_tot rfl rfl))
theorem handle_Make.c (x0 : Int) (x1 : Int) : Contract C 38 [(.v (.int .i64) (x0)), (.v (.int .i64) (x1))] (tupAV (.int .i64) [(.int .i64)] (handle_Make.t x0 x1)) :=
  contract_s (S := fun k => handle_Make.s x0 x1 k) C_ok (orS_ok handle_within.e_ok noS_ok) (by kernel_rfl) (by kernel_rfl) (by kernel_rfl) (handle_Make.ev ⟨1, fun _ => []⟩ x0 x1 (dec (.int .i64) [(.int .i64)])) (handle_Make.v x0 x1 some)
noncomputable def handle_Make.e : Ent := argI (.int .i64) fun x0 => argI (.int .i64) fun x1 => endT (tupAV (.int .i64) [(.int .i64)] (handle_Make.t x0 x1))
theorem handle_Make.e_ok : EntOK C 38 (fun {_} => handle_Make.e) := entA_ok (argI_ok fun x0 => argI_ok fun x1 => endT_ok (handle_Make.c x0 x1))

/-- becket becketref01.Make -/
noncomputable def ref01_Make.sp : Spec := noS
def ref01_Make.s {Ω : Type} (x0 : Int) (x1 : Int) (k : Int × Int → Option Ω) : Option Ω :=
  bif (decide (x0 < 0)) then
    k (0, 8)
  else
    bif (decide (x0 > 4095)) then
      k (0, 8)
    else
      bif (decide (x1 < 1)) then
        k (0, 8)
      else
        bif (decide (x1 > 65535)) then
          k (0, 8)
        else
          k ((IntKind.wrap .i64 ((IntKind.wrap .i64 (4096 * x1)) + x0)), 0)
theorem ref01_Make.ev {Ω : Type} (fuel : Fuel) (x0 : Int) (x1 : Int) (k : AV → Option Ω) : evFn C ref01_Make.sp fuel Tryd.f39 (Tryd.f39.body.getD .skip) [(.v (.int .i64) (x0)), (.v (.int .i64) (x1))] k = ref01_Make.s x0 x1 (fun r => k (tupAV (.int .i64) [(.int .i64)] r)) := by kernel_rfl
def ref01_Make.t (x0 : Int) (x1 : Int) : Int × Int :=
  bif (decide (x0 < 0)) then
    (0, 8)
  else
    bif (decide (x0 > 4095)) then
      (0, 8)
    else
      bif (decide (x1 < 1)) then
        (0, 8)
      else
        bif (decide (x1 > 65535)) then
          (0, 8)
        else
          ((IntKind.wrap .i64 ((IntKind.wrap .i64 (4096 * x1)) + x0)), 0)
theorem ref01_Make.v {Ω : Type} (x0 : Int) (x1 : Int) (k : Int × Int → Option Ω) : ref01_Make.s x0 x1 k = k (ref01_Make.t x0 x1) := by
  delta ref01_Make.s ref01_Make.t; exact (cond_tot rfl (cond_tot rfl (cond_tot rfl (cond_tot rfl rfl))))
theorem ref01_Make.c (x0 : Int) (x1 : Int) : Contract C 39 [(.v (.int .i64) (x0)), (.v (.int .i64) (x1))] (tupAV (.int .i64) [(.int .i64)] (ref01_Make.t x0 x1)) :=
  contract_s (S := fun k => ref01_Make.s x0 x1 k) C_ok noS_ok (by kernel_rfl) (by kernel_rfl) (by kernel_rfl) (ref01_Make.ev ⟨1, fun _ => []⟩ x0 x1 (dec (.int .i64) [(.int .i64)])) (ref01_Make.v x0 x1 some)
noncomputable def ref01_Make.e : Ent := argI (.int .i64) fun x0 => argI (.int .i64) fun x1 => endT (tupAV (.int .i64) [(.int .i64)] (ref01_Make.t x0 x1))
theorem ref01_Make.e_ok : EntOK C 39 (fun {_} => ref01_Make.e) := entA_ok (argI_ok fun x0 => argI_ok fun x1 => endT_ok (ref01_Make.c x0 x1))

/-- becket handle.Fine -/
noncomputable def handle_Fine.sp : Spec := (orS 83 (fun {_} => handle_within.e) noS)
def handle_Fine.s {Ω : Type} (x0 : Int) (k : Bool → Option Ω) : Option Ω :=
  k (handle_within.t x0 4096 268435455)
theorem handle_Fine.ev {Ω : Type} (fuel : Fuel) (x0 : Int) (k : AV → Option Ω) : evFn C handle_Fine.sp fuel Tryd.f45 (Tryd.f45.body.getD .skip) [(.v (.int .i64) (x0))] k = handle_Fine.s x0 (fun r => k (tupAV .bool [] r)) := by kernel_rfl
def handle_Fine.t (x0 : Int) : Bool :=
  (handle_within.t x0 4096 268435455)
theorem handle_Fine.v {Ω : Type} (x0 : Int) (k : Bool → Option Ω) : handle_Fine.s x0 k = k (handle_Fine.t x0) := by
  delta handle_Fine.s handle_Fine.t; exact rfl
theorem handle_Fine.c (x0 : Int) : Contract C 45 [(.v (.int .i64) (x0))] (tupAV .bool [] (handle_Fine.t x0)) :=
  contract_s (S := fun k => handle_Fine.s x0 k) C_ok (orS_ok handle_within.e_ok noS_ok) (by kernel_rfl) (by kernel_rfl) (by kernel_rfl) (handle_Fine.ev ⟨1, fun _ => []⟩ x0 (dec .bool [])) (handle_Fine.v x0 some)
noncomputable def handle_Fine.e : Ent := argI (.int .i64) fun x0 => endT (tupAV .bool [] (handle_Fine.t x0))
theorem handle_Fine.e_ok : EntOK C 45 (fun {_} => handle_Fine.e) := entA_ok (argI_ok fun x0 => endT_ok (handle_Fine.c x0))

/-- becket handle.Slot -/
noncomputable def handle_Slot.sp : Spec := (orS 45 (fun {_} => handle_Fine.e) noS)
def handle_Slot.s {Ω : Type} (x0 : Int) (k : Int → Option Ω) : Option Ω :=
  bif (!(handle_Fine.t x0)) then
    k (-1)
  else
    k (Int.tmod x0 4096)
theorem handle_Slot.ev {Ω : Type} (fuel : Fuel) (x0 : Int) (k : AV → Option Ω) : evFn C handle_Slot.sp fuel Tryd.f47 (Tryd.f47.body.getD .skip) [(.v (.int .i64) (x0))] k = handle_Slot.s x0 (fun r => k (tupAV (.int .i64) [] r)) := by kernel_rfl
def handle_Slot.t (x0 : Int) : Int :=
  bif (!(handle_Fine.t x0)) then
    (-1)
  else
    (Int.tmod x0 4096)
theorem handle_Slot.v {Ω : Type} (x0 : Int) (k : Int → Option Ω) : handle_Slot.s x0 k = k (handle_Slot.t x0) := by
  delta handle_Slot.s handle_Slot.t; exact (cond_tot rfl rfl)
theorem handle_Slot.c (x0 : Int) : Contract C 47 [(.v (.int .i64) (x0))] (tupAV (.int .i64) [] (handle_Slot.t x0)) :=
  contract_s (S := fun k => handle_Slot.s x0 k) C_ok (orS_ok handle_Fine.e_ok noS_ok) (by kernel_rfl) (by kernel_rfl) (by kernel_rfl) (handle_Slot.ev ⟨1, fun _ => []⟩ x0 (dec (.int .i64) [])) (handle_Slot.v x0 some)
noncomputable def handle_Slot.e : Ent := argI (.int .i64) fun x0 => endT (tupAV (.int .i64) [] (handle_Slot.t x0))
theorem handle_Slot.e_ok : EntOK C 47 (fun {_} => handle_Slot.e) := entA_ok (argI_ok fun x0 => endT_ok (handle_Slot.c x0))

/-- becket handle.Gen -/
noncomputable def handle_Gen.sp : Spec := (orS 45 (fun {_} => handle_Fine.e) noS)
def handle_Gen.s {Ω : Type} (x0 : Int) (k : Int → Option Ω) : Option Ω :=
  bif (!(handle_Fine.t x0)) then
    k 0
  else
    k (IntKind.wrap .i64 (Int.tdiv x0 4096))
theorem handle_Gen.ev {Ω : Type} (fuel : Fuel) (x0 : Int) (k : AV → Option Ω) : evFn C handle_Gen.sp fuel Tryd.f49 (Tryd.f49.body.getD .skip) [(.v (.int .i64) (x0))] k = handle_Gen.s x0 (fun r => k (tupAV (.int .i64) [] r)) := by kernel_rfl
def handle_Gen.t (x0 : Int) : Int :=
  bif (!(handle_Fine.t x0)) then
    0
  else
    (IntKind.wrap .i64 (Int.tdiv x0 4096))
theorem handle_Gen.v {Ω : Type} (x0 : Int) (k : Int → Option Ω) : handle_Gen.s x0 k = k (handle_Gen.t x0) := by
  delta handle_Gen.s handle_Gen.t; exact (cond_tot rfl rfl)
theorem handle_Gen.c (x0 : Int) : Contract C 49 [(.v (.int .i64) (x0))] (tupAV (.int .i64) [] (handle_Gen.t x0)) :=
  contract_s (S := fun k => handle_Gen.s x0 k) C_ok (orS_ok handle_Fine.e_ok noS_ok) (by kernel_rfl) (by kernel_rfl) (by kernel_rfl) (handle_Gen.ev ⟨1, fun _ => []⟩ x0 (dec (.int .i64) [])) (handle_Gen.v x0 some)
noncomputable def handle_Gen.e : Ent := argI (.int .i64) fun x0 => endT (tupAV (.int .i64) [] (handle_Gen.t x0))
theorem handle_Gen.e_ok : EntOK C 49 (fun {_} => handle_Gen.e) := entA_ok (argI_ok fun x0 => endT_ok (handle_Gen.c x0))

/-- becket handle.Text -/
noncomputable def handle_Text.sp : Spec := (orS 84 (fun {_} => strconv_Itoa.e) (orS 49 (fun {_} => handle_Gen.e) (orS 47 (fun {_} => handle_Slot.e) (orS 45 (fun {_} => handle_Fine.e) noS))))
def handle_Text.s {Ω : Type} (x0 : Int) (k : ByteArray × Int → Option Ω) : Option Ω :=
  bif (!(handle_Fine.t x0)) then
    k ((bs []), 8)
  else
    (strconv_Itoa.u (handle_Slot.t x0)).bind fun y1 =>
    bif (decide ((y1).size + ((bs [46])).size ≤ catMax)) then
      (strconv_Itoa.u (handle_Gen.t x0)).bind fun y2 =>
      bif (decide (((y1 ++ (bs [46]))).size + (y2).size ≤ catMax)) then
        k (((y1 ++ (bs [46])) ++ y2), 0)
      else
        none
    else
      none
theorem handle_Text.ev {Ω : Type} (fuel : Fuel) (x0 : Int) (k : AV → Option Ω) : evFn CP handle_Text.sp fuel Tryd.f43 (Tryd.f43.body.getD .skip) [(.v (.int .i64) (x0))] k = handle_Text.s x0 (fun r => k (tupAV .str [(.int .i64)] r)) := by kernel_rfl
def handle_Text.u (x0 : Int) : Option (ByteArray × Int) := handle_Text.s x0 some
theorem handle_Text.c (x0 : Int) (r : ByteArray × Int) (h : handle_Text.u x0 = some r) : Contract CP 43 [(.v (.int .i64) (x0))] (tupAV .str [(.int .i64)] r) :=
  contract_s (S := fun k => handle_Text.s x0 k) CP_ok (orS_ok strconv_Itoa.e_ok (orS_ok (handle_Gen.e_ok.mono le_C_CP) (orS_ok (handle_Slot.e_ok.mono le_C_CP) (orS_ok (handle_Fine.e_ok.mono le_C_CP) noS_ok)))) (by kernel_rfl) (by kernel_rfl) (by kernel_rfl) (handle_Text.ev ⟨1, fun _ => []⟩ x0 (dec .str [(.int .i64)])) h
noncomputable def handle_Text.e : Ent := argI (.int .i64) fun x0 => endU (handle_Text.u x0) (tupAV .str [(.int .i64)])
theorem handle_Text.e_ok : EntOK CP 43 (fun {_} => handle_Text.e) := entA_ok (argI_ok fun x0 => endU_ok fun r h => handle_Text.c x0 r h)

/-- becket handle.Next -/
noncomputable def handle_Next.sp : Spec := (orS 49 (fun {_} => handle_Gen.e) (orS 45 (fun {_} => handle_Fine.e) noS))
def handle_Next.s {Ω : Type} (x0 : Int) (k : Int × Int → Option Ω) : Option Ω :=
  bif (!(handle_Fine.t x0)) then
    k (0, 8)
  else
    bif ((handle_Gen.t x0) == 65535) then
      k (0, 14)
    else
      k ((IntKind.wrap .i64 (x0 + 4096)), 0)
theorem handle_Next.ev {Ω : Type} (fuel : Fuel) (x0 : Int) (k : AV → Option Ω) : evFn C handle_Next.sp fuel Tryd.f41 (Tryd.f41.body.getD .skip) [(.v (.int .i64) (x0))] k = handle_Next.s x0 (fun r => k (tupAV (.int .i64) [(.int .i64)] r)) := by kernel_rfl
def handle_Next.t (x0 : Int) : Int × Int :=
  bif (!(handle_Fine.t x0)) then
    (0, 8)
  else
    bif ((handle_Gen.t x0) == 65535) then
      (0, 14)
    else
      ((IntKind.wrap .i64 (x0 + 4096)), 0)
theorem handle_Next.v {Ω : Type} (x0 : Int) (k : Int × Int → Option Ω) : handle_Next.s x0 k = k (handle_Next.t x0) := by
  delta handle_Next.s handle_Next.t; exact (cond_tot rfl (cond_tot rfl rfl))
theorem handle_Next.c (x0 : Int) : Contract C 41 [(.v (.int .i64) (x0))] (tupAV (.int .i64) [(.int .i64)] (handle_Next.t x0)) :=
  contract_s (S := fun k => handle_Next.s x0 k) C_ok (orS_ok handle_Gen.e_ok (orS_ok handle_Fine.e_ok noS_ok)) (by kernel_rfl) (by kernel_rfl) (by kernel_rfl) (handle_Next.ev ⟨1, fun _ => []⟩ x0 (dec (.int .i64) [(.int .i64)])) (handle_Next.v x0 some)
noncomputable def handle_Next.e : Ent := argI (.int .i64) fun x0 => endT (tupAV (.int .i64) [(.int .i64)] (handle_Next.t x0))
theorem handle_Next.e_ok : EntOK C 41 (fun {_} => handle_Next.e) := entA_ok (argI_ok fun x0 => endT_ok (handle_Next.c x0))

/-- internal stringslite.Index -/
noncomputable def internal_stringslite_Index.sp : Spec := (orS 108 (fun {_} => internal_stringslite_IndexByte.e) noS)
def internal_stringslite_Index.s {Ω : Type} (x0 : ByteArray) (x1 : ByteArray) (k : Int → Option Ω) : Option Ω :=
  bif (((x1).size : Int) == 0) then
    k 0
  else
    bif ((x1).data.toList == (x0).data.toList) then
      k 0
    else
      bif (((x1).size : Int) == 1) then
        bif (idxOK 0 (x1).size) then
          k (internal_stringslite_IndexByte.t x0 (bAt x1 0))
        else
          none
      else
        bif (decide (((x1).size : Int) ≥ ((x0).size : Int))) then
          k (-1)
        else
          none
theorem internal_stringslite_Index.ev {Ω : Type} (fuel : Fuel) (x0 : ByteArray) (x1 : ByteArray) (k : AV → Option Ω) : evFn C internal_stringslite_Index.sp fuel Tryd.f130 (Tryd.f130.body.getD .skip) [(.v .str (x0)), (.v .str (x1))] k = internal_stringslite_Index.s x0 x1 (fun r => k (tupAV (.int .i64) [] r)) := by kernel_rfl
def internal_stringslite_Index.u (x0 : ByteArray) (x1 : ByteArray) : Option (Int) := internal_stringslite_Index.s x0 x1 some
theorem internal_stringslite_Index.c (x0 : ByteArray) (x1 : ByteArray) (r : Int) (h : internal_stringslite_Index.u x0 x1 = some r) : Contract C 130 [(.v .str (x0)), (.v .str (x1))] (tupAV (.int .i64) [] r) :=
  contract_s (S := fun k => internal_stringslite_Index.s x0 x1 k) C_ok (orS_ok internal_stringslite_IndexByte.e_ok noS_ok) (by kernel_rfl) (by kernel_rfl) (by kernel_rfl) (internal_stringslite_Index.ev ⟨1, fun _ => []⟩ x0 x1 (dec (.int .i64) [])) h
noncomputable def internal_stringslite_Index.e : Ent := argI .str fun x0 => argI .str fun x1 => endU (internal_stringslite_Index.u x0 x1) (tupAV (.int .i64) [])
theorem internal_stringslite_Index.e_ok : EntOK C 130 (fun {_} => internal_stringslite_Index.e) := entA_ok (argI_ok fun x0 => argI_ok fun x1 => endU_ok fun r h => internal_stringslite_Index.c x0 x1 r h)

/-- internal stringslite.Cut -/
noncomputable def internal_stringslite_Cut.sp : Spec := (orS 130 (fun {_} => internal_stringslite_Index.e) noS)
def internal_stringslite_Cut.s {Ω : Type} (x0 : ByteArray) (x1 : ByteArray) (k : ByteArray × ByteArray × Bool → Option Ω) : Option Ω :=
  (internal_stringslite_Index.u x0 x1).bind fun y1 =>
  bif (decide (y1 ≥ 0)) then
    bif (subC none (some (y1)) (x0).size) then
      bif (subC (some ((IntKind.wrap .i64 (y1 + ((x1).size : Int))))) none (x0).size) then
        k ((subS none (some (y1)) x0), (subS (some ((IntKind.wrap .i64 (y1 + ((x1).size : Int))))) none x0), true)
      else
        none
    else
      none
  else
    k (x0, (bs []), false)
theorem internal_stringslite_Cut.ev {Ω : Type} (fuel : Fuel) (x0 : ByteArray) (x1 : ByteArray) (k : AV → Option Ω) : evFn C internal_stringslite_Cut.sp fuel Tryd.f114 (Tryd.f114.body.getD .skip) [(.v .str (x0)), (.v .str (x1))] k = internal_stringslite_Cut.s x0 x1 (fun r => k (tupAV .str [.str, .bool] r)) := by kernel_rfl
def internal_stringslite_Cut.u (x0 : ByteArray) (x1 : ByteArray) : Option (ByteArray × ByteArray × Bool) := internal_stringslite_Cut.s x0 x1 some
theorem internal_stringslite_Cut.c (x0 : ByteArray) (x1 : ByteArray) (r : ByteArray × ByteArray × Bool) (h : internal_stringslite_Cut.u x0 x1 = some r) : Contract C 114 [(.v .str (x0)), (.v .str (x1))] (tupAV .str [.str, .bool] r) :=
  contract_s (S := fun k => internal_stringslite_Cut.s x0 x1 k) C_ok (orS_ok internal_stringslite_Index.e_ok noS_ok) (by kernel_rfl) (by kernel_rfl) (by kernel_rfl) (internal_stringslite_Cut.ev ⟨1, fun _ => []⟩ x0 x1 (dec .str [.str, .bool])) h
noncomputable def internal_stringslite_Cut.e : Ent := argI .str fun x0 => argI .str fun x1 => endU (internal_stringslite_Cut.u x0 x1) (tupAV .str [.str, .bool])
theorem internal_stringslite_Cut.e_ok : EntOK C 114 (fun {_} => internal_stringslite_Cut.e) := entA_ok (argI_ok fun x0 => argI_ok fun x1 => endU_ok fun r h => internal_stringslite_Cut.c x0 x1 r h)

/-- strings.Cut -/
noncomputable def strings_Cut.sp : Spec := (orS 114 (fun {_} => internal_stringslite_Cut.e) noS)
def strings_Cut.s {Ω : Type} (x0 : ByteArray) (x1 : ByteArray) (k : ByteArray × ByteArray × Bool → Option Ω) : Option Ω :=
  (internal_stringslite_Cut.u x0 x1).bind fun y1 =>
  k (y1.1, y1.2.1, y1.2.2)
theorem strings_Cut.ev {Ω : Type} (fuel : Fuel) (x0 : ByteArray) (x1 : ByteArray) (k : AV → Option Ω) : evFn C strings_Cut.sp fuel Tryd.f86 (Tryd.f86.body.getD .skip) [(.v .str (x0)), (.v .str (x1))] k = strings_Cut.s x0 x1 (fun r => k (tupAV .str [.str, .bool] r)) := by kernel_rfl
def strings_Cut.u (x0 : ByteArray) (x1 : ByteArray) : Option (ByteArray × ByteArray × Bool) := strings_Cut.s x0 x1 some
theorem strings_Cut.c (x0 : ByteArray) (x1 : ByteArray) (r : ByteArray × ByteArray × Bool) (h : strings_Cut.u x0 x1 = some r) : Contract C 86 [(.v .str (x0)), (.v .str (x1))] (tupAV .str [.str, .bool] r) :=
  contract_s (S := fun k => strings_Cut.s x0 x1 k) C_ok (orS_ok internal_stringslite_Cut.e_ok noS_ok) (by kernel_rfl) (by kernel_rfl) (by kernel_rfl) (strings_Cut.ev ⟨1, fun _ => []⟩ x0 x1 (dec .str [.str, .bool])) h
noncomputable def strings_Cut.e : Ent := argI .str fun x0 => argI .str fun x1 => endU (strings_Cut.u x0 x1) (tupAV .str [.str, .bool])
theorem strings_Cut.e_ok : EntOK C 86 (fun {_} => strings_Cut.e) := entA_ok (argI_ok fun x0 => argI_ok fun x1 => endU_ok fun r h => strings_Cut.c x0 x1 r h)

/-- becket handle.number -/
noncomputable def handle_number.sp : Spec := (orS 115 (fun {_} => strconv_Atoi.e) noS)
def handle_number.s {Ω : Type} (x0 : ByteArray) (k : Int → Option Ω) : Option Ω :=
  bif (decide (((x0).size : Int) > 9)) then
    k (-1)
  else
    (strconv_Atoi.u x0).bind fun y1 =>
    k y1.1
theorem handle_number.ev {Ω : Type} (fuel : Fuel) (x0 : ByteArray) (k : AV → Option Ω) : evFn C handle_number.sp fuel Tryd.f88 (Tryd.f88.body.getD .skip) [(.v .str (x0))] k = handle_number.s x0 (fun r => k (tupAV (.int .i64) [] r)) := by kernel_rfl
def handle_number.u (x0 : ByteArray) : Option (Int) := handle_number.s x0 some
theorem handle_number.c (x0 : ByteArray) (r : Int) (h : handle_number.u x0 = some r) : Contract C 88 [(.v .str (x0))] (tupAV (.int .i64) [] r) :=
  contract_s (S := fun k => handle_number.s x0 k) C_ok (orS_ok strconv_Atoi.e_ok noS_ok) (by kernel_rfl) (by kernel_rfl) (by kernel_rfl) (handle_number.ev ⟨1, fun _ => []⟩ x0 (dec (.int .i64) [])) h
noncomputable def handle_number.e : Ent := argI .str fun x0 => endU (handle_number.u x0) (tupAV (.int .i64) [])
theorem handle_number.e_ok : EntOK C 88 (fun {_} => handle_number.e) := entA_ok (argI_ok fun x0 => endU_ok fun r h => handle_number.c x0 r h)

/-- becket handle.Parse -/
noncomputable def handle_Parse.sp : Spec := (orS 88 (fun {_} => handle_number.e) (orS 87 (fun {_} => handle_plain.e) (orS 86 (fun {_} => strings_Cut.e) (orS 38 (fun {_} => handle_Make.e) noS))))
def handle_Parse.s {Ω : Type} (x0 : ByteArray) (k : Int × Int → Option Ω) : Option Ω :=
  (strings_Cut.u x0 (bs [46])).bind fun y1 =>
  bif (!y1.2.2) then
    k (0, 3)
  else
    bif (!(handle_plain.t y1.1)) then
      k (0, 3)
    else
      bif (!(handle_plain.t y1.2.1)) then
        k (0, 3)
      else
        (handle_number.u y1.1).bind fun y2 =>
        (handle_number.u y1.2.1).bind fun y3 =>
        let v4 : Int × Int := (handle_Make.t y2 y3)
        k (v4.1, v4.2)
theorem handle_Parse.ev {Ω : Type} (fuel : Fuel) (x0 : ByteArray) (k : AV → Option Ω) : evFn C handle_Parse.sp fuel Tryd.f51 (Tryd.f51.body.getD .skip) [(.v .str (x0))] k = handle_Parse.s x0 (fun r => k (tupAV (.int .i64) [(.int .i64)] r)) := by kernel_rfl
def handle_Parse.u (x0 : ByteArray) : Option (Int × Int) := handle_Parse.s x0 some
theorem handle_Parse.c (x0 : ByteArray) (r : Int × Int) (h : handle_Parse.u x0 = some r) : Contract C 51 [(.v .str (x0))] (tupAV (.int .i64) [(.int .i64)] r) :=
  contract_s (S := fun k => handle_Parse.s x0 k) C_ok (orS_ok handle_number.e_ok (orS_ok handle_plain.e_ok (orS_ok strings_Cut.e_ok (orS_ok handle_Make.e_ok noS_ok)))) (by kernel_rfl) (by kernel_rfl) (by kernel_rfl) (handle_Parse.ev ⟨1, fun _ => []⟩ x0 (dec (.int .i64) [(.int .i64)])) h
noncomputable def handle_Parse.e : Ent := argI .str fun x0 => endU (handle_Parse.u x0) (tupAV (.int .i64) [(.int .i64)])
theorem handle_Parse.e_ok : EntOK C 51 (fun {_} => handle_Parse.e) := entA_ok (argI_ok fun x0 => endU_ok fun r h => handle_Parse.c x0 r h)

/-- becket becketlaw01.alive -/
noncomputable def law01_alive.sp : Spec := (orS 51 (fun {_} => handle_Parse.e) (orS 49 (fun {_} => handle_Gen.e) (orS 47 (fun {_} => handle_Slot.e) (orS 45 (fun {_} => handle_Fine.e) (orS 43 (fun {_} => handle_Text.e) (orS 41 (fun {_} => handle_Next.e) (orS 38 (fun {_} => handle_Make.e) noS)))))))
def law01_alive.s {Ω : Type}  (k : Bool → Option Ω) : Option Ω :=
  let v1 : Int × Int := (handle_Make.t 5 2)
  (handle_Text.u v1.1).bind fun y2 =>
  let v3 : Int × Int := (handle_Next.t v1.1)
  (handle_Parse.u (bs [53, 46, 51])).bind fun y4 =>
  bif (v1.1 == 8197) then
    bif (v1.2 == 0) then
      bif ((y2.1).data.toList == ((bs [53, 46, 50])).data.toList) then
        bif (y2.2 == 0) then
          bif (v3.1 == y4.1) then
            bif (v3.2 == 0) then
              bif (y4.2 == 0) then
                bif ((handle_Slot.t v1.1) == 5) then
                  bif ((handle_Gen.t v1.1) == 2) then
                    bif (handle_Fine.t v1.1) then
                      k (!(handle_Fine.t 0))
                    else
                      k false
                  else
                    k false
                else
                  k false
              else
                k false
            else
              k false
          else
            k false
        else
          k false
      else
        k false
    else
      k false
  else
    k false
theorem law01_alive.ev {Ω : Type} (fuel : Fuel)  (k : AV → Option Ω) : evFn CP law01_alive.sp fuel Tryd.f40 (Tryd.f40.body.getD .skip) [] k = law01_alive.s  (fun r => k (tupAV .bool [] r)) := by kernel_rfl
def law01_alive.u  : Option (Bool) := law01_alive.s  some
theorem law01_alive.c  (r : Bool) (h : law01_alive.u  = some r) : Contract CP 40 [] (tupAV .bool [] r) :=
  contract_s (S := fun k => law01_alive.s  k) CP_ok (orS_ok (handle_Parse.e_ok.mono le_C_CP) (orS_ok (handle_Gen.e_ok.mono le_C_CP) (orS_ok (handle_Slot.e_ok.mono le_C_CP) (orS_ok (handle_Fine.e_ok.mono le_C_CP) (orS_ok handle_Text.e_ok (orS_ok (handle_Next.e_ok.mono le_C_CP) (orS_ok (handle_Make.e_ok.mono le_C_CP) noS_ok))))))) (by kernel_rfl) (by kernel_rfl) (by kernel_rfl) (law01_alive.ev ⟨1, fun _ => []⟩  (dec .bool [])) h
noncomputable def law01_alive.e : Ent := endU (law01_alive.u ) (tupAV .bool [])
theorem law01_alive.e_ok : EntOK CP 40 (fun {_} => law01_alive.e) := entA_ok (endU_ok fun r h => law01_alive.c  r h)

/-- becket becketlaw01.HandleMakes -/
noncomputable def law01_HandleMakes.sp : Spec := (orS 40 (fun {_} => law01_alive.e) (orS 39 (fun {_} => ref01_Make.e) (orS 38 (fun {_} => handle_Make.e) noS)))
def law01_HandleMakes.s {Ω : Type} (x0 : Int) (x1 : Int) (k : Bool → Option Ω) : Option Ω :=
  let v1 : Int × Int := (handle_Make.t x0 x1)
  let v2 : Int × Int := (ref01_Make.t x0 x1)
  bif (v1.1 == v2.1) then
    bif (v1.2 == v2.2) then
      law01_alive.u.bind fun y3 =>
      k y3
    else
      k false
  else
    k false
theorem law01_HandleMakes.ev {Ω : Type} (fuel : Fuel) (x0 : Int) (x1 : Int) (k : AV → Option Ω) : evFn CP law01_HandleMakes.sp fuel Tryd.f9 (Tryd.f9.body.getD .skip) [(.v (.int .i64) (x0)), (.v (.int .i64) (x1))] k = law01_HandleMakes.s x0 x1 (fun r => k (tupAV .bool [] r)) := by kernel_rfl
def law01_HandleMakes.u (x0 : Int) (x1 : Int) : Option (Bool) := law01_HandleMakes.s x0 x1 some
theorem law01_HandleMakes.c (x0 : Int) (x1 : Int) (r : Bool) (h : law01_HandleMakes.u x0 x1 = some r) : Contract CP 9 [(.v (.int .i64) (x0)), (.v (.int .i64) (x1))] (tupAV .bool [] r) :=
  contract_s (S := fun k => law01_HandleMakes.s x0 x1 k) CP_ok (orS_ok law01_alive.e_ok (orS_ok (ref01_Make.e_ok.mono le_C_CP) (orS_ok (handle_Make.e_ok.mono le_C_CP) noS_ok))) (by kernel_rfl) (by kernel_rfl) (by kernel_rfl) (law01_HandleMakes.ev ⟨1, fun _ => []⟩ x0 x1 (dec .bool [])) h
noncomputable def law01_HandleMakes.e : Ent := argI (.int .i64) fun x0 => argI (.int .i64) fun x1 => endU (law01_HandleMakes.u x0 x1) (tupAV .bool [])
theorem law01_HandleMakes.e_ok : EntOK CP 9 (fun {_} => law01_HandleMakes.e) := entA_ok (argI_ok fun x0 => argI_ok fun x1 => endU_ok fun r h => law01_HandleMakes.c x0 x1 r h)

/-- becket becketref01.Fine -/
noncomputable def ref01_Fine.sp : Spec := noS
def ref01_Fine.s {Ω : Type} (x0 : Int) (k : Bool → Option Ω) : Option Ω :=
  bif (decide (x0 ≥ 4096)) then
    k (decide (x0 ≤ 268435455))
  else
    k false
theorem ref01_Fine.ev {Ω : Type} (fuel : Fuel) (x0 : Int) (k : AV → Option Ω) : evFn C ref01_Fine.sp fuel Tryd.f46 (Tryd.f46.body.getD .skip) [(.v (.int .i64) (x0))] k = ref01_Fine.s x0 (fun r => k (tupAV .bool [] r)) := by kernel_rfl
def ref01_Fine.t (x0 : Int) : Bool :=
  bif (decide (x0 ≥ 4096)) then
    (decide (x0 ≤ 268435455))
  else
    false
theorem ref01_Fine.v {Ω : Type} (x0 : Int) (k : Bool → Option Ω) : ref01_Fine.s x0 k = k (ref01_Fine.t x0) := by
  delta ref01_Fine.s ref01_Fine.t; exact (cond_tot rfl rfl)
theorem ref01_Fine.c (x0 : Int) : Contract C 46 [(.v (.int .i64) (x0))] (tupAV .bool [] (ref01_Fine.t x0)) :=
  contract_s (S := fun k => ref01_Fine.s x0 k) C_ok noS_ok (by kernel_rfl) (by kernel_rfl) (by kernel_rfl) (ref01_Fine.ev ⟨1, fun _ => []⟩ x0 (dec .bool [])) (ref01_Fine.v x0 some)
noncomputable def ref01_Fine.e : Ent := argI (.int .i64) fun x0 => endT (tupAV .bool [] (ref01_Fine.t x0))
theorem ref01_Fine.e_ok : EntOK C 46 (fun {_} => ref01_Fine.e) := entA_ok (argI_ok fun x0 => endT_ok (ref01_Fine.c x0))

/-- becket becketref01.Gen -/
noncomputable def ref01_Gen.sp : Spec := (orS 46 (fun {_} => ref01_Fine.e) noS)
def ref01_Gen.s {Ω : Type} (x0 : Int) (k : Int → Option Ω) : Option Ω :=
  bif (!(ref01_Fine.t x0)) then
    k 0
  else
    k (IntKind.wrap .i64 (Int.tdiv x0 4096))
theorem ref01_Gen.ev {Ω : Type} (fuel : Fuel) (x0 : Int) (k : AV → Option Ω) : evFn C ref01_Gen.sp fuel Tryd.f50 (Tryd.f50.body.getD .skip) [(.v (.int .i64) (x0))] k = ref01_Gen.s x0 (fun r => k (tupAV (.int .i64) [] r)) := by kernel_rfl
def ref01_Gen.t (x0 : Int) : Int :=
  bif (!(ref01_Fine.t x0)) then
    0
  else
    (IntKind.wrap .i64 (Int.tdiv x0 4096))
theorem ref01_Gen.v {Ω : Type} (x0 : Int) (k : Int → Option Ω) : ref01_Gen.s x0 k = k (ref01_Gen.t x0) := by
  delta ref01_Gen.s ref01_Gen.t; exact (cond_tot rfl rfl)
theorem ref01_Gen.c (x0 : Int) : Contract C 50 [(.v (.int .i64) (x0))] (tupAV (.int .i64) [] (ref01_Gen.t x0)) :=
  contract_s (S := fun k => ref01_Gen.s x0 k) C_ok (orS_ok ref01_Fine.e_ok noS_ok) (by kernel_rfl) (by kernel_rfl) (by kernel_rfl) (ref01_Gen.ev ⟨1, fun _ => []⟩ x0 (dec (.int .i64) [])) (ref01_Gen.v x0 some)
noncomputable def ref01_Gen.e : Ent := argI (.int .i64) fun x0 => endT (tupAV (.int .i64) [] (ref01_Gen.t x0))
theorem ref01_Gen.e_ok : EntOK C 50 (fun {_} => ref01_Gen.e) := entA_ok (argI_ok fun x0 => endT_ok (ref01_Gen.c x0))

/-- becket becketref01.Slot -/
noncomputable def ref01_Slot.sp : Spec := (orS 46 (fun {_} => ref01_Fine.e) noS)
def ref01_Slot.s {Ω : Type} (x0 : Int) (k : Int → Option Ω) : Option Ω :=
  bif (!(ref01_Fine.t x0)) then
    k (-1)
  else
    let v1 : Int := (IntKind.wrap .i64 (x0 - (IntKind.wrap .i64 (4096 * (IntKind.wrap .i64 (Int.tdiv x0 4096))))))
    k v1
theorem ref01_Slot.ev {Ω : Type} (fuel : Fuel) (x0 : Int) (k : AV → Option Ω) : evFn C ref01_Slot.sp fuel Tryd.f48 (Tryd.f48.body.getD .skip) [(.v (.int .i64) (x0))] k = ref01_Slot.s x0 (fun r => k (tupAV (.int .i64) [] r)) := by kernel_rfl
def ref01_Slot.t (x0 : Int) : Int :=
  bif (!(ref01_Fine.t x0)) then
    (-1)
  else
    let v1 : Int := (IntKind.wrap .i64 (x0 - (IntKind.wrap .i64 (4096 * (IntKind.wrap .i64 (Int.tdiv x0 4096))))))
    v1
theorem ref01_Slot.v {Ω : Type} (x0 : Int) (k : Int → Option Ω) : ref01_Slot.s x0 k = k (ref01_Slot.t x0) := by
  delta ref01_Slot.s ref01_Slot.t; exact (cond_tot rfl rfl)
theorem ref01_Slot.c (x0 : Int) : Contract C 48 [(.v (.int .i64) (x0))] (tupAV (.int .i64) [] (ref01_Slot.t x0)) :=
  contract_s (S := fun k => ref01_Slot.s x0 k) C_ok (orS_ok ref01_Fine.e_ok noS_ok) (by kernel_rfl) (by kernel_rfl) (by kernel_rfl) (ref01_Slot.ev ⟨1, fun _ => []⟩ x0 (dec (.int .i64) [])) (ref01_Slot.v x0 some)
noncomputable def ref01_Slot.e : Ent := argI (.int .i64) fun x0 => endT (tupAV (.int .i64) [] (ref01_Slot.t x0))
theorem ref01_Slot.e_ok : EntOK C 48 (fun {_} => ref01_Slot.e) := entA_ok (argI_ok fun x0 => endT_ok (ref01_Slot.c x0))

/-- becket becketref01.Next -/
noncomputable def ref01_Next.sp : Spec := (orS 50 (fun {_} => ref01_Gen.e) (orS 48 (fun {_} => ref01_Slot.e) (orS 46 (fun {_} => ref01_Fine.e) (orS 39 (fun {_} => ref01_Make.e) noS))))
def ref01_Next.s {Ω : Type} (x0 : Int) (k : Int × Int → Option Ω) : Option Ω :=
  bif (!(ref01_Fine.t x0)) then
    k (0, 8)
  else
    bif ((ref01_Gen.t x0) == 65535) then
      k (0, 14)
    else
      let v1 : Int × Int := (ref01_Make.t (ref01_Slot.t x0) ((IntKind.wrap .i64 ((ref01_Gen.t x0) + 1))))
      k (v1.1, v1.2)
theorem ref01_Next.ev {Ω : Type} (fuel : Fuel) (x0 : Int) (k : AV → Option Ω) : evFn C ref01_Next.sp fuel Tryd.f42 (Tryd.f42.body.getD .skip) [(.v (.int .i64) (x0))] k = ref01_Next.s x0 (fun r => k (tupAV (.int .i64) [(.int .i64)] r)) := by kernel_rfl
def ref01_Next.t (x0 : Int) : Int × Int :=
  bif (!(ref01_Fine.t x0)) then
    (0, 8)
  else
    bif ((ref01_Gen.t x0) == 65535) then
      (0, 14)
    else
      let v1 : Int × Int := (ref01_Make.t (ref01_Slot.t x0) ((IntKind.wrap .i64 ((ref01_Gen.t x0) + 1))))
      (v1.1, v1.2)
theorem ref01_Next.v {Ω : Type} (x0 : Int) (k : Int × Int → Option Ω) : ref01_Next.s x0 k = k (ref01_Next.t x0) := by
  delta ref01_Next.s ref01_Next.t; exact (cond_tot rfl (cond_tot rfl rfl))
theorem ref01_Next.c (x0 : Int) : Contract C 42 [(.v (.int .i64) (x0))] (tupAV (.int .i64) [(.int .i64)] (ref01_Next.t x0)) :=
  contract_s (S := fun k => ref01_Next.s x0 k) C_ok (orS_ok ref01_Gen.e_ok (orS_ok ref01_Slot.e_ok (orS_ok ref01_Fine.e_ok (orS_ok ref01_Make.e_ok noS_ok)))) (by kernel_rfl) (by kernel_rfl) (by kernel_rfl) (ref01_Next.ev ⟨1, fun _ => []⟩ x0 (dec (.int .i64) [(.int .i64)])) (ref01_Next.v x0 some)
noncomputable def ref01_Next.e : Ent := argI (.int .i64) fun x0 => endT (tupAV (.int .i64) [(.int .i64)] (ref01_Next.t x0))
theorem ref01_Next.e_ok : EntOK C 42 (fun {_} => ref01_Next.e) := entA_ok (argI_ok fun x0 => endT_ok (ref01_Next.c x0))

/-- becket becketref01.Digits -/
noncomputable def ref01_Digits.sp : Spec := noS
def ref01_Digits.F (fuel : Nat) : Fuel := ⟨fuel, fun r => bif r == 2 then [1, 2, 4, 5, 6, 7, 8, 9, 10, 11, 12, 13, 14, 15, 16, 17, 18, 19, 20, 21, 22] else []⟩
def ref01_Digits.E0  (s2 : Int × ByteArray) : List AV := [(.v (.int .i64) (s2.1)), .dead, .dead, (.v .str (s2.2)), .dead, .dead, .dead, .dead, .dead, .dead, .dead, .dead, .dead, .dead, .dead, .dead, .dead, .dead, .dead, .dead, .dead, .dead, .dead]
def ref01_Digits.H0  (s2 : Int × ByteArray) : Heap := []
noncomputable def ref01_Digits.M0 {Ω : Type} (fuel : Nat)   (k : AV → Option Ω) (m : Nat) (s : Int × ByteArray) : Option Ω := loopK (fun env L k => evCode C ref01_Digits.sp (ref01_Digits.F fuel) (cl (cl (cl (cr (cr (Tryd.f85.body.getD .skip)))))) env L k) [false, true, true, false, true, true, true, true, true, true, true, true, true, true, true, true, true, true, true, true, true, true, true] 0 (blockK 0 (seqK (fun env L => evCode C ref01_Digits.sp (ref01_Digits.F fuel) (cr (cr (cr (Tryd.f85.body.getD .skip)))) env L (finK C Tryd.f85 k)) (finK C Tryd.f85 k))) m ((ref01_Digits.E0 ) s) ((ref01_Digits.H0 ) s)
def ref01_Digits.b0 {Ω : Type}    (k : ByteArray → Option Ω) (r2 : Int × ByteArray → Option Ω) (s2 : Int × ByteArray) : Option Ω :=
  bif (decide (s2.1 > 9)) then
    bif (decide (((ofBytes [(IntKind.wrap .u8 (IntKind.wrap .i64 (48 + (Int.tmod s2.1 10))))])).size + (s2.2).size ≤ catMax)) then
      r2 ((IntKind.wrap .i64 (Int.tdiv s2.1 10)), ((ofBytes [(IntKind.wrap .u8 (IntKind.wrap .i64 (48 + (Int.tmod s2.1 10))))]) ++ s2.2))
    else
      none
  else
    bif (decide (((ofBytes [(IntKind.wrap .u8 (IntKind.wrap .i64 (48 + s2.1)))])).size + (s2.2).size ≤ catMax)) then
      k ((ofBytes [(IntKind.wrap .u8 (IntKind.wrap .i64 (48 + s2.1)))]) ++ s2.2)
    else
      none
def ref01_Digits.B0 {Ω : Type} (fuel : Nat)   (k : ByteArray → Option Ω) (r2 : Int × ByteArray → Option Ω) (s2 : Int × ByteArray) : Option Ω := ref01_Digits.b0    k r2 s2
theorem ref01_Digits.l0 {Ω : Type} (fuel : Nat)   (k : AV → Option Ω) : ∀ m, (ref01_Digits.M0 fuel   k m) = iter (ref01_Digits.B0 fuel   (fun r => k (tupAV .str [] r))) m :=
  loopK_iter (envOf := (ref01_Digits.E0 )) (LOf := (ref01_Digits.H0 )) (B := ref01_Digits.B0 fuel   (fun r => k (tupAV .str [] r))) (fun R s => by kernel_rfl)
def ref01_Digits.sl {Ω : Type} (x0 : Int) (lp0 : Int × ByteArray → Option Ω) (k : ByteArray → Option Ω) : Option Ω :=
  lp0 (x0, (bs []))
def ref01_Digits.s {Ω : Type} (fuel : Nat) (x0 : Int) (k : ByteArray → Option Ω) : Option Ω := ref01_Digits.sl x0 (iter (ref01_Digits.B0 fuel   k) fuel) k
theorem ref01_Digits.ev {Ω : Type} (fuel : Nat) (x0 : Int) (k : AV → Option Ω) : evFn C ref01_Digits.sp (ref01_Digits.F fuel) Tryd.f85 (Tryd.f85.body.getD .skip) [(.v (.int .i64) (x0))] k = ref01_Digits.s fuel x0 (fun r => k (tupAV .str [] r)) := by
  have h0 : evFn C ref01_Digits.sp (ref01_Digits.F fuel) Tryd.f85 (Tryd.f85.body.getD .skip) [(.v (.int .i64) (x0))] k = ref01_Digits.sl x0 (ref01_Digits.M0 fuel   k fuel) (fun r => k (tupAV .str [] r)) := by kernel_rfl
  have h1 : (ref01_Digits.M0 fuel   k fuel) = (iter (ref01_Digits.B0 fuel   (fun r => k (tupAV .str [] r))) fuel) := ref01_Digits.l0 fuel    k fuel
  rw [h1] at h0
  exact h0
def ref01_Digits.gb0 {Ω : Type}   (k : ByteArray → Option Ω) (r2 : Int × ByteArray → Option Ω) (s2 : Int × ByteArray) : Option Ω :=
  bif (decide (s2.1 > 9)) then
    bif (decide (((ofBytes [(IntKind.wrap .u8 (IntKind.wrap .i64 (48 + (Int.tmod s2.1 10))))])).size + (s2.2).size ≤ catMax)) then
      r2 ((IntKind.wrap .i64 (Int.tdiv s2.1 10)), ((ofBytes [(IntKind.wrap .u8 (IntKind.wrap .i64 (48 + (Int.tmod s2.1 10))))]) ++ s2.2))
    else
      none
  else
    bif (decide (((ofBytes [(IntKind.wrap .u8 (IntKind.wrap .i64 (48 + s2.1)))])).size + (s2.2).size ≤ catMax)) then
      k ((ofBytes [(IntKind.wrap .u8 (IntKind.wrap .i64 (48 + s2.1)))]) ++ s2.2)
    else
      none
def ref01_Digits.g0 {Ω : Type}   (k : ByteArray → Option Ω) (s : Int × ByteArray) : Option Ω := iter (ref01_Digits.gb0   k) BIG s
theorem ref01_Digits.h0 {Ω : Type}    (k : ByteArray → Option Ω) (s : Int × ByteArray) : Le (ref01_Digits.g0   k s) (iter (ref01_Digits.B0 BIG   k) BIG s) :=
  iter_le (B := ref01_Digits.gb0   k) (B' := (ref01_Digits.B0 BIG   k)) (fun r2 r2' s2 ih => (Le.cond (Le.cond (ih _) Le.nil) (Le.cond (Le.refl _) Le.nil))) BIG s
def ref01_Digits.w {Ω : Type} (x0 : Int) (k : ByteArray → Option Ω) : Option Ω :=
  ref01_Digits.g0   k (x0, (bs []))
theorem ref01_Digits.le {Ω : Type} (x0 : Int) (k : ByteArray → Option Ω) : Le (ref01_Digits.w x0 k) (ref01_Digits.s BIG x0 k) := by
  delta ref01_Digits.w ref01_Digits.s ref01_Digits.sl
  exact (ref01_Digits.h0    k _)
def ref01_Digits.u (x0 : Int) : Option (ByteArray) := ref01_Digits.w x0 some
theorem ref01_Digits.c (x0 : Int) (r : ByteArray) (h : ref01_Digits.u x0 = some r) : Contract C 85 [(.v (.int .i64) (x0))] (tupAV .str [] r) :=
  contract_s (S := fun k => ref01_Digits.s BIG x0 k) C_ok noS_ok (by kernel_rfl) (by kernel_rfl) (by kernel_rfl) (ref01_Digits.ev BIG x0 (dec .str [])) (ref01_Digits.le x0 some r h)
noncomputable def ref01_Digits.e : Ent := argI (.int .i64) fun x0 => endU (ref01_Digits.u x0) (tupAV .str [])
theorem ref01_Digits.e_ok : EntOK C 85 (fun {_} => ref01_Digits.e) := entA_ok (argI_ok fun x0 => endU_ok fun r h => ref01_Digits.c x0 r h)

/-- becket becketref01.Text -/
noncomputable def ref01_Text.sp : Spec := (orS 85 (fun {_} => ref01_Digits.e) (orS 50 (fun {_} => ref01_Gen.e) (orS 48 (fun {_} => ref01_Slot.e) (orS 46 (fun {_} => ref01_Fine.e) noS))))
def ref01_Text.s {Ω : Type} (x0 : Int) (k : ByteArray × Int → Option Ω) : Option Ω :=
  bif (!(ref01_Fine.t x0)) then
    k ((bs []), 8)
  else
    (ref01_Digits.u (ref01_Slot.t x0)).bind fun y1 =>
    bif (decide ((y1).size + ((bs [46])).size ≤ catMax)) then
      (ref01_Digits.u (ref01_Gen.t x0)).bind fun y2 =>
      bif (decide (((y1 ++ (bs [46]))).size + (y2).size ≤ catMax)) then
        k (((y1 ++ (bs [46])) ++ y2), 0)
      else
        none
    else
      none
theorem ref01_Text.ev {Ω : Type} (fuel : Fuel) (x0 : Int) (k : AV → Option Ω) : evFn C ref01_Text.sp fuel Tryd.f44 (Tryd.f44.body.getD .skip) [(.v (.int .i64) (x0))] k = ref01_Text.s x0 (fun r => k (tupAV .str [(.int .i64)] r)) := by kernel_rfl
def ref01_Text.u (x0 : Int) : Option (ByteArray × Int) := ref01_Text.s x0 some
theorem ref01_Text.c (x0 : Int) (r : ByteArray × Int) (h : ref01_Text.u x0 = some r) : Contract C 44 [(.v (.int .i64) (x0))] (tupAV .str [(.int .i64)] r) :=
  contract_s (S := fun k => ref01_Text.s x0 k) C_ok (orS_ok ref01_Digits.e_ok (orS_ok ref01_Gen.e_ok (orS_ok ref01_Slot.e_ok (orS_ok ref01_Fine.e_ok noS_ok)))) (by kernel_rfl) (by kernel_rfl) (by kernel_rfl) (ref01_Text.ev ⟨1, fun _ => []⟩ x0 (dec .str [(.int .i64)])) h
noncomputable def ref01_Text.e : Ent := argI (.int .i64) fun x0 => endU (ref01_Text.u x0) (tupAV .str [(.int .i64)])
theorem ref01_Text.e_ok : EntOK C 44 (fun {_} => ref01_Text.e) := entA_ok (argI_ok fun x0 => endU_ok fun r h => ref01_Text.c x0 r h)

/-- becket becketlaw01.HandleParts -/
noncomputable def law01_HandleParts.sp : Spec := (orS 50 (fun {_} => ref01_Gen.e) (orS 49 (fun {_} => handle_Gen.e) (orS 48 (fun {_} => ref01_Slot.e) (orS 47 (fun {_} => handle_Slot.e) (orS 46 (fun {_} => ref01_Fine.e) (orS 45 (fun {_} => handle_Fine.e) (orS 44 (fun {_} => ref01_Text.e) (orS 43 (fun {_} => handle_Text.e) (orS 42 (fun {_} => ref01_Next.e) (orS 41 (fun {_} => handle_Next.e) (orS 40 (fun {_} => law01_alive.e) noS)))))))))))
def law01_HandleParts.s {Ω : Type} (x0 : Int) (k : Bool → Option Ω) : Option Ω :=
  let v1 : Int × Int := (handle_Next.t x0)
  let v2 : Int × Int := (ref01_Next.t x0)
  (handle_Text.u x0).bind fun y3 =>
  (ref01_Text.u x0).bind fun y4 =>
  bif (eqI .bool (handle_Fine.t x0) (ref01_Fine.t x0)) then
    bif ((handle_Slot.t x0) == (ref01_Slot.t x0)) then
      bif ((handle_Gen.t x0) == (ref01_Gen.t x0)) then
        bif (v1.1 == v2.1) then
          bif (v1.2 == v2.2) then
            bif ((y3.1).data.toList == (y4.1).data.toList) then
              bif (y3.2 == y4.2) then
                law01_alive.u.bind fun y5 =>
                k y5
              else
                k false
            else
              k false
          else
            k false
        else
          k false
      else
        k false
    else
      k false
  else
    k false
theorem law01_HandleParts.ev {Ω : Type} (fuel : Fuel) (x0 : Int) (k : AV → Option Ω) : evFn CP law01_HandleParts.sp fuel Tryd.f10 (Tryd.f10.body.getD .skip) [(.v (.int .i64) (x0))] k = law01_HandleParts.s x0 (fun r => k (tupAV .bool [] r)) := by kernel_rfl
def law01_HandleParts.u (x0 : Int) : Option (Bool) := law01_HandleParts.s x0 some
theorem law01_HandleParts.c (x0 : Int) (r : Bool) (h : law01_HandleParts.u x0 = some r) : Contract CP 10 [(.v (.int .i64) (x0))] (tupAV .bool [] r) :=
  contract_s (S := fun k => law01_HandleParts.s x0 k) CP_ok (orS_ok (ref01_Gen.e_ok.mono le_C_CP) (orS_ok (handle_Gen.e_ok.mono le_C_CP) (orS_ok (ref01_Slot.e_ok.mono le_C_CP) (orS_ok (handle_Slot.e_ok.mono le_C_CP) (orS_ok (ref01_Fine.e_ok.mono le_C_CP) (orS_ok (handle_Fine.e_ok.mono le_C_CP) (orS_ok (ref01_Text.e_ok.mono le_C_CP) (orS_ok handle_Text.e_ok (orS_ok (ref01_Next.e_ok.mono le_C_CP) (orS_ok (handle_Next.e_ok.mono le_C_CP) (orS_ok law01_alive.e_ok noS_ok))))))))))) (by kernel_rfl) (by kernel_rfl) (by kernel_rfl) (law01_HandleParts.ev ⟨1, fun _ => []⟩ x0 (dec .bool [])) h
noncomputable def law01_HandleParts.e : Ent := argI (.int .i64) fun x0 => endU (law01_HandleParts.u x0) (tupAV .bool [])
theorem law01_HandleParts.e_ok : EntOK CP 10 (fun {_} => law01_HandleParts.e) := entA_ok (argI_ok fun x0 => endU_ok fun r h => law01_HandleParts.c x0 r h)

/-- becket becketref01.Plain -/
noncomputable def ref01_Plain.sp : Spec := noS
def ref01_Plain.F (fuel : Nat) : Fuel := ⟨fuel, fun r => bif r == 5 then [1, 2, 3, 6, 7, 8, 9, 10, 11, 12, 13, 14, 15, 16, 17, 18, 19, 20, 21, 22, 23, 24, 25, 26, 27, 28, 29, 30, 31, 32, 33, 34, 35, 36, 37, 38, 39, 40, 41, 42, 43] else []⟩
def ref01_Plain.E0 (e5_1 : ByteArray) (s5 : Int × Int) : List AV := [(.v .str (e5_1)), .dead, .dead, .dead, (.v (.int .i64) (s5.1)), (.v (.int .i64) (s5.2)), .dead, .dead, .dead, .dead, .dead, .dead, .dead, .dead, .dead, .dead, .dead, .dead, .dead, .dead, .dead, .dead, .dead, .dead, .dead, .dead, .dead, .dead, .dead, .dead, .dead, .dead, .dead, .dead, .dead, .dead, .dead, .dead, .dead, .dead, .dead, .dead, .dead, .dead]
def ref01_Plain.H0 (e5_1 : ByteArray) (s5 : Int × Int) : Heap := []
noncomputable def ref01_Plain.M0 {Ω : Type} (fuel : Nat) (e5_1 : ByteArray)  (k : AV → Option Ω) (m : Nat) (s : Int × Int) : Option Ω := loopK (fun env L k => evCode C ref01_Plain.sp (ref01_Plain.F fuel) (cl (cl (cr (cl (cr (cr (cr (Tryd.f89.body.getD .skip)))))))) env L k) [false, true, true, true, false, false, true, true, true, true, true, true, true, true, true, true, true, true, true, true, true, true, true, true, true, true, true, true, true, true, true, true, true, true, true, true, true, true, true, true, true, true, true, true] 0 (blockK 0 (seqK (fun env L => evCode C ref01_Plain.sp (ref01_Plain.F fuel) (cr (cr (cr (cr (Tryd.f89.body.getD .skip))))) env L (finK C Tryd.f89 k)) (finK C Tryd.f89 k))) m ((ref01_Plain.E0 e5_1) s) ((ref01_Plain.H0 e5_1) s)
def ref01_Plain.b0 {Ω : Type} (e5_1 : ByteArray)   (k : Int × Bool → Option Ω) (r5 : Int × Int → Option Ω) (s5 : Int × Int) : Option Ω :=
  bif (decide (s5.2 < ((e5_1).size : Int))) then
    bif (idxOK s5.2 (e5_1).size) then
      bif (decide ((bAt e5_1 (Int.toNat s5.2)) < 48)) then
        k (0, false)
      else
        bif (idxOK s5.2 (e5_1).size) then
          bif (decide ((bAt e5_1 (Int.toNat s5.2)) > 57)) then
            k (0, false)
          else
            bif (idxOK s5.2 (e5_1).size) then
              let v1 : Int := (IntKind.wrap .i64 ((IntKind.wrap .i64 (10 * s5.1)) + (IntKind.wrap .i64 (IntKind.wrap .u8 ((bAt e5_1 (Int.toNat s5.2)) - 48)))))
              r5 ((if (1000000000 : Int) < v1 then 1000000000 else v1), (IntKind.wrap .i64 (s5.2 + 1)))
            else
              none
        else
          none
    else
      none
  else
    k (s5.1, true)
def ref01_Plain.B0 {Ω : Type} (fuel : Nat) (e5_1 : ByteArray)  (k : Int × Bool → Option Ω) (r5 : Int × Int → Option Ω) (s5 : Int × Int) : Option Ω := ref01_Plain.b0 e5_1   k r5 s5
theorem ref01_Plain.l0 {Ω : Type} (fuel : Nat) (e5_1 : ByteArray)  (k : AV → Option Ω) : ∀ m, (ref01_Plain.M0 fuel e5_1  k m) = iter (ref01_Plain.B0 fuel e5_1  (fun r => k (tupAV (.int .i64) [.bool] r))) m :=
  loopK_iter (envOf := (ref01_Plain.E0 e5_1)) (LOf := (ref01_Plain.H0 e5_1)) (B := ref01_Plain.B0 fuel e5_1  (fun r => k (tupAV (.int .i64) [.bool] r))) (fun R s => by kernel_rfl)
def ref01_Plain.sl {Ω : Type} (x0 : ByteArray) (lp0 : ByteArray → Int × Int → Option Ω) (k : Int × Bool → Option Ω) : Option Ω :=
  bif ((x0).data.toList == ((bs [])).data.toList) then
    k (0, false)
  else
    bif (idxOK 0 (x0).size) then
      bif ((bAt x0 0) == 48) then
        bif (decide (((x0).size : Int) > 1)) then
          k (0, false)
        else
          lp0 x0 (0, 0)
      else
        lp0 x0 (0, 0)
    else
      none
def ref01_Plain.s {Ω : Type} (fuel : Nat) (x0 : ByteArray) (k : Int × Bool → Option Ω) : Option Ω := ref01_Plain.sl x0 (fun e5_1 => (iter (ref01_Plain.B0 fuel e5_1  k) fuel)) k
theorem ref01_Plain.ev {Ω : Type} (fuel : Nat) (x0 : ByteArray) (k : AV → Option Ω) : evFn C ref01_Plain.sp (ref01_Plain.F fuel) Tryd.f89 (Tryd.f89.body.getD .skip) [(.v .str (x0))] k = ref01_Plain.s fuel x0 (fun r => k (tupAV (.int .i64) [.bool] r)) := by
  have h0 : evFn C ref01_Plain.sp (ref01_Plain.F fuel) Tryd.f89 (Tryd.f89.body.getD .skip) [(.v .str (x0))] k = ref01_Plain.sl x0 (fun e5_1 => (ref01_Plain.M0 fuel e5_1  k fuel)) (fun r => k (tupAV (.int .i64) [.bool] r)) := by kernel_rfl
  have h1 : (fun e5_1 => (ref01_Plain.M0 fuel e5_1  k fuel)) = (fun e5_1 => (iter (ref01_Plain.B0 fuel e5_1  (fun r => k (tupAV (.int .i64) [.bool] r))) fuel)) := funext fun e5_1 => ref01_Plain.l0 fuel e5_1   k fuel
  rw [h1] at h0
  exact h0
def ref01_Plain.g0 {Ω : Type} (e5_1 : ByteArray)  (k : Int × Bool → Option Ω) : Nat → Int → Int → Option Ω
  | 0, a5_0, i5 =>
    k (a5_0, true)
  | d5 + 1, a5_0, i5 =>
    bif (idxOK i5 (e5_1).size) then
      bif (decide ((bAt e5_1 (Int.toNat i5)) < 48)) then
        k (0, false)
      else
        bif (idxOK i5 (e5_1).size) then
          bif (decide ((bAt e5_1 (Int.toNat i5)) > 57)) then
            k (0, false)
          else
            bif (idxOK i5 (e5_1).size) then
              let v1 : Int := (IntKind.wrap .i64 ((IntKind.wrap .i64 (10 * a5_0)) + (IntKind.wrap .i64 (IntKind.wrap .u8 ((bAt e5_1 (Int.toNat i5)) - 48)))))
              ref01_Plain.g0 e5_1  k d5 ((if (1000000000 : Int) < v1 then 1000000000 else v1)) (i5 + 1)
            else
              none
        else
          none
    else
      none
theorem ref01_Plain.h0 {Ω : Type} (e5_1 : ByteArray)   (k : Int × Bool → Option Ω) (hN : (((e5_1).size : Int) : Int) ≤ 9223372036854775807) : ∀ (m : Nat) (i : Int) (a : Int), -9223372036854775808 ≤ i → Int.toNat ((((e5_1).size : Int) : Int) - i) < m → Le (ref01_Plain.g0 e5_1  k (Int.toNat ((((e5_1).size : Int) : Int) - i)) a i) (iter (ref01_Plain.B0 BIG e5_1  k) m (a, i)) :=
  iter_count (((e5_1).size : Int) : Int) (fun i5 => (decide (i5 < ((e5_1).size : Int)))) (fun i => rfl) (fun (i5 : Int) (a5 : Int) => (a5, i5)) (fun xs i5 a5 => ref01_Plain.g0 e5_1  k xs a5 i5) (ref01_Plain.B0 BIG e5_1  k)
    (fun i5 a5 r h0 => (Le.fls h0 (Le.refl _)))
    (fun i5 d5 a5 r h0 hw ih => (Le.tru h0 (Le.cond (Le.cond (Le.refl _) (Le.cond (Le.cond (Le.refl _) (Le.cond (let v1 : Int := (IntKind.wrap .i64 ((IntKind.wrap .i64 (10 * a5)) + (IntKind.wrap .i64 (IntKind.wrap .u8 ((bAt e5_1 (Int.toNat i5)) - 48))))); (ih _ hw ((if (1000000000 : Int) < v1 then 1000000000 else v1)))) Le.nil)) Le.nil)) Le.nil)))
    hN
def ref01_Plain.w {Ω : Type} (x0 : ByteArray) (k : Int × Bool → Option Ω) : Option Ω :=
  bif ((x0).data.toList == ((bs [])).data.toList) then
    k (0, false)
  else
    bif (idxOK 0 (x0).size) then
      bif ((bAt x0 0) == 48) then
        bif (decide (((x0).size : Int) > 1)) then
          k (0, false)
        else
          bif (decide (((x0).size : Int) ≤ 4611686018427387904)) then ref01_Plain.g0 x0  k ((Int.toNat (((x0).size : Int) - 0))) 0 0 else none
      else
        bif (decide (((x0).size : Int) ≤ 4611686018427387904)) then ref01_Plain.g0 x0  k ((Int.toNat (((x0).size : Int) - 0))) 0 0 else none
    else
      none
theorem ref01_Plain.le {Ω : Type} (x0 : ByteArray) (k : Int × Bool → Option Ω) : Le (ref01_Plain.w x0 k) (ref01_Plain.s BIG x0 k) := by
  delta ref01_Plain.w ref01_Plain.s ref01_Plain.sl
  exact (Le.cond (Le.refl _) (Le.cond (Le.cond (Le.cond (Le.refl _) (Le.gd fun hg => ref01_Plain.h0 _   k (cnt_up hg) BIG 0 (0) (by decide) (cnt_big hg (by decide)))) (Le.gd fun hg => ref01_Plain.h0 _   k (cnt_up hg) BIG 0 (0) (by decide) (cnt_big hg (by decide)))) Le.nil))
def ref01_Plain.u (x0 : ByteArray) : Option (Int × Bool) := ref01_Plain.w x0 some
theorem ref01_Plain.c (x0 : ByteArray) (r : Int × Bool) (h : ref01_Plain.u x0 = some r) : Contract C 89 [(.v .str (x0))] (tupAV (.int .i64) [.bool] r) :=
  contract_s (S := fun k => ref01_Plain.s BIG x0 k) C_ok noS_ok (by kernel_rfl) (by kernel_rfl) (by kernel_rfl) (ref01_Plain.ev BIG x0 (dec (.int .i64) [.bool])) (ref01_Plain.le x0 some r h)
noncomputable def ref01_Plain.e : Ent := argI .str fun x0 => endU (ref01_Plain.u x0) (tupAV (.int .i64) [.bool])
theorem ref01_Plain.e_ok : EntOK C 89 (fun {_} => ref01_Plain.e) := entA_ok (argI_ok fun x0 => endU_ok fun r h => ref01_Plain.c x0 r h)

/-- becket becketref01.Parse -/
noncomputable def ref01_Parse.sp : Spec := (orS 89 (fun {_} => ref01_Plain.e) (orS 39 (fun {_} => ref01_Make.e) noS))
def ref01_Parse.F (fuel : Nat) : Fuel := ⟨fuel, fun r => bif r == 2 then [1, 2, 3, 5, 6, 7, 8, 9, 10, 11, 12, 13, 14, 15, 16, 17, 18, 19, 20, 21, 22, 23, 24, 25, 26, 27, 28, 29, 30, 31, 32, 33, 34, 35, 36, 37, 38, 39, 40, 41, 42, 43, 44, 45, 46, 47, 48, 49, 50] else []⟩
def ref01_Parse.E0 (e2_1 : ByteArray) (s2 : Int) : List AV := [(.v .str (e2_1)), .dead, .dead, .dead, (.v (.int .i64) (s2)), .dead, .dead, .dead, .dead, .dead, .dead, .dead, .dead, .dead, .dead, .dead, .dead, .dead, .dead, .dead, .dead, .dead, .dead, .dead, .dead, .dead, .dead, .dead, .dead, .dead, .dead, .dead, .dead, .dead, .dead, .dead, .dead, .dead, .dead, .dead, .dead, .dead, .dead, .dead, .dead, .dead, .dead, .dead, .dead, .dead, .dead]
def ref01_Parse.H0 (e2_1 : ByteArray) (s2 : Int) : Heap := []
noncomputable def ref01_Parse.M0 {Ω : Type} (fuel : Nat) (e2_1 : ByteArray)  (k : AV → Option Ω) (m : Nat) (s : Int) : Option Ω := loopK (fun env L k => evCode C ref01_Parse.sp (ref01_Parse.F fuel) (cl (cl (cl (cr (cr (Tryd.f52.body.getD .skip)))))) env L k) [false, true, true, true, false, true, true, true, true, true, true, true, true, true, true, true, true, true, true, true, true, true, true, true, true, true, true, true, true, true, true, true, true, true, true, true, true, true, true, true, true, true, true, true, true, true, true, true, true, true, true] 0 (blockK 0 (seqK (fun env L => evCode C ref01_Parse.sp (ref01_Parse.F fuel) (cr (cr (cr (Tryd.f52.body.getD .skip)))) env L (finK C Tryd.f52 k)) (finK C Tryd.f52 k))) m ((ref01_Parse.E0 e2_1) s) ((ref01_Parse.H0 e2_1) s)
def ref01_Parse.b0 {Ω : Type} (e2_1 : ByteArray)   (k : Int × Int → Option Ω) (r2 : Int → Option Ω) (s2 : Int) : Option Ω :=
  bif (decide (s2 < ((e2_1).size : Int))) then
    bif (idxOK s2 (e2_1).size) then
      bif ((bAt e2_1 (Int.toNat s2)) != 46) then
        r2 ((IntKind.wrap .i64 (s2 + 1)))
      else
        bif (s2 == ((e2_1).size : Int)) then
          k (0, 3)
        else
          bif (subC none (some (s2)) (e2_1).size) then
            (ref01_Plain.u ((subS none (some (s2)) e2_1))).bind fun y1 =>
            bif (subC (some ((IntKind.wrap .i64 (s2 + 1)))) none (e2_1).size) then
              (ref01_Plain.u ((subS (some ((IntKind.wrap .i64 (s2 + 1)))) none e2_1))).bind fun y2 =>
              bif (!y1.2) then
                k (0, 3)
              else
                bif (!y2.2) then
                  k (0, 3)
                else
                  let v3 : Int × Int := (ref01_Make.t y1.1 y2.1)
                  k (v3.1, v3.2)
            else
              none
          else
            none
    else
      none
  else
    bif (s2 == ((e2_1).size : Int)) then
      k (0, 3)
    else
      bif (subC none (some (s2)) (e2_1).size) then
        (ref01_Plain.u ((subS none (some (s2)) e2_1))).bind fun y4 =>
        bif (subC (some ((IntKind.wrap .i64 (s2 + 1)))) none (e2_1).size) then
          (ref01_Plain.u ((subS (some ((IntKind.wrap .i64 (s2 + 1)))) none e2_1))).bind fun y5 =>
          bif (!y4.2) then
            k (0, 3)
          else
            bif (!y5.2) then
              k (0, 3)
            else
              let v6 : Int × Int := (ref01_Make.t y4.1 y5.1)
              k (v6.1, v6.2)
        else
          none
      else
        none
def ref01_Parse.B0 {Ω : Type} (fuel : Nat) (e2_1 : ByteArray)  (k : Int × Int → Option Ω) (r2 : Int → Option Ω) (s2 : Int) : Option Ω := ref01_Parse.b0 e2_1   k r2 s2
theorem ref01_Parse.l0 {Ω : Type} (fuel : Nat) (e2_1 : ByteArray)  (k : AV → Option Ω) : ∀ m, (ref01_Parse.M0 fuel e2_1  k m) = iter (ref01_Parse.B0 fuel e2_1  (fun r => k (tupAV (.int .i64) [(.int .i64)] r))) m :=
  loopK_iter (envOf := (ref01_Parse.E0 e2_1)) (LOf := (ref01_Parse.H0 e2_1)) (B := ref01_Parse.B0 fuel e2_1  (fun r => k (tupAV (.int .i64) [(.int .i64)] r))) (fun R s => by kernel_rfl)
def ref01_Parse.sl {Ω : Type} (x0 : ByteArray) (lp0 : ByteArray → Int → Option Ω) (k : Int × Int → Option Ω) : Option Ω :=
  lp0 x0 (0)
def ref01_Parse.s {Ω : Type} (fuel : Nat) (x0 : ByteArray) (k : Int × Int → Option Ω) : Option Ω := ref01_Parse.sl x0 (fun e2_1 => (iter (ref01_Parse.B0 fuel e2_1  k) fuel)) k
theorem ref01_Parse.ev {Ω : Type} (fuel : Nat) (x0 : ByteArray) (k : AV → Option Ω) : evFn C ref01_Parse.sp (ref01_Parse.F fuel) Tryd.f52 (Tryd.f52.body.getD .skip) [(.v .str (x0))] k = ref01_Parse.s fuel x0 (fun r => k (tupAV (.int .i64) [(.int .i64)] r)) := by
  have h0 : evFn C ref01_Parse.sp (ref01_Parse.F fuel) Tryd.f52 (Tryd.f52.body.getD .skip) [(.v .str (x0))] k = ref01_Parse.sl x0 (fun e2_1 => (ref01_Parse.M0 fuel e2_1  k fuel)) (fun r => k (tupAV (.int .i64) [(.int .i64)] r)) := by kernel_rfl
  have h1 : (fun e2_1 => (ref01_Parse.M0 fuel e2_1  k fuel)) = (fun e2_1 => (iter (ref01_Parse.B0 fuel e2_1  (fun r => k (tupAV (.int .i64) [(.int .i64)] r))) fuel)) := funext fun e2_1 => ref01_Parse.l0 fuel e2_1   k fuel
  rw [h1] at h0
  exact h0
def ref01_Parse.g0 {Ω : Type} (e2_1 : ByteArray)  (k : Int × Int → Option Ω) : Nat → Int → Option Ω
  | 0, i2 =>
    bif (i2 == ((e2_1).size : Int)) then
      k (0, 3)
    else
      bif (subC none (some (i2)) (e2_1).size) then
        (ref01_Plain.u ((subS none (some (i2)) e2_1))).bind fun y4 =>
        bif (subC (some ((IntKind.wrap .i64 (i2 + 1)))) none (e2_1).size) then
          (ref01_Plain.u ((subS (some ((IntKind.wrap .i64 (i2 + 1)))) none e2_1))).bind fun y5 =>
          bif (!y4.2) then
            k (0, 3)
          else
            bif (!y5.2) then
              k (0, 3)
            else
              let v6 : Int × Int := (ref01_Make.t y4.1 y5.1)
              k (v6.1, v6.2)
        else
          none
      else
        none
  | d2 + 1, i2 =>
    bif (idxOK i2 (e2_1).size) then
      bif ((bAt e2_1 (Int.toNat i2)) != 46) then
        ref01_Parse.g0 e2_1  k d2 (i2 + 1)
      else
        bif (i2 == ((e2_1).size : Int)) then
          k (0, 3)
        else
          bif (subC none (some (i2)) (e2_1).size) then
            (ref01_Plain.u ((subS none (some (i2)) e2_1))).bind fun y1 =>
            bif (subC (some ((IntKind.wrap .i64 (i2 + 1)))) none (e2_1).size) then
              (ref01_Plain.u ((subS (some ((IntKind.wrap .i64 (i2 + 1)))) none e2_1))).bind fun y2 =>
              bif (!y1.2) then
                k (0, 3)
              else
                bif (!y2.2) then
                  k (0, 3)
                else
                  let v3 : Int × Int := (ref01_Make.t y1.1 y2.1)
                  k (v3.1, v3.2)
            else
              none
          else
            none
    else
      none
theorem ref01_Parse.h0 {Ω : Type} (e2_1 : ByteArray)   (k : Int × Int → Option Ω) (hN : (((e2_1).size : Int) : Int) ≤ 9223372036854775807) : ∀ (m : Nat) (i : Int) (a : Unit), -9223372036854775808 ≤ i → Int.toNat ((((e2_1).size : Int) : Int) - i) < m → Le (ref01_Parse.g0 e2_1  k (Int.toNat ((((e2_1).size : Int) : Int) - i)) i) (iter (ref01_Parse.B0 BIG e2_1  k) m (i)) :=
  iter_count (((e2_1).size : Int) : Int) (fun i2 => (decide (i2 < ((e2_1).size : Int)))) (fun i => rfl) (fun (i2 : Int) (a2 : Unit) => (i2)) (fun xs i2 a2 => ref01_Parse.g0 e2_1  k xs i2) (ref01_Parse.B0 BIG e2_1  k)
    (fun i2 a2 r h0 => (Le.fls h0 (Le.cond (Le.refl _) (Le.cond (Le.bnd fun y4 => (Le.cond (Le.bnd fun y5 => (Le.cond (Le.refl _) (Le.cond (Le.refl _) (let v6 : Int × Int := (ref01_Make.t y4.1 y5.1); (Le.refl _))))) Le.nil)) Le.nil))))
    (fun i2 d2 a2 r h0 hw ih => (Le.tru h0 (Le.cond (Le.cond (ih _ hw ()) (Le.cond (Le.refl _) (Le.cond (Le.bnd fun y1 => (Le.cond (Le.bnd fun y2 => (Le.cond (Le.refl _) (Le.cond (Le.refl _) (let v3 : Int × Int := (ref01_Make.t y1.1 y2.1); (Le.refl _))))) Le.nil)) Le.nil))) Le.nil)))
    hN
def ref01_Parse.w {Ω : Type} (x0 : ByteArray) (k : Int × Int → Option Ω) : Option Ω :=
  bif (decide (((x0).size : Int) ≤ 4611686018427387904)) then ref01_Parse.g0 x0  k ((Int.toNat (((x0).size : Int) - 0))) 0 else none
theorem ref01_Parse.le {Ω : Type} (x0 : ByteArray) (k : Int × Int → Option Ω) : Le (ref01_Parse.w x0 k) (ref01_Parse.s BIG x0 k) := by
  delta ref01_Parse.w ref01_Parse.s ref01_Parse.sl
  exact (Le.gd fun hg => ref01_Parse.h0 _   k (cnt_up hg) BIG 0 () (by decide) (cnt_big hg (by decide)))
def ref01_Parse.u (x0 : ByteArray) : Option (Int × Int) := ref01_Parse.w x0 some
theorem ref01_Parse.c (x0 : ByteArray) (r : Int × Int) (h : ref01_Parse.u x0 = some r) : Contract C 52 [(.v .str (x0))] (tupAV (.int .i64) [(.int .i64)] r) :=
  contract_s (S := fun k => ref01_Parse.s BIG x0 k) C_ok (orS_ok ref01_Plain.e_ok (orS_ok ref01_Make.e_ok noS_ok)) (by kernel_rfl) (by kernel_rfl) (by kernel_rfl) (ref01_Parse.ev BIG x0 (dec (.int .i64) [(.int .i64)])) (ref01_Parse.le x0 some r h)
noncomputable def ref01_Parse.e : Ent := argI .str fun x0 => endU (ref01_Parse.u x0) (tupAV (.int .i64) [(.int .i64)])
theorem ref01_Parse.e_ok : EntOK C 52 (fun {_} => ref01_Parse.e) := entA_ok (argI_ok fun x0 => endU_ok fun r h => ref01_Parse.c x0 r h)

/-- becket becketlaw01.HandleReads -/
noncomputable def law01_HandleReads.sp : Spec := (orS 52 (fun {_} => ref01_Parse.e) (orS 51 (fun {_} => handle_Parse.e) (orS 40 (fun {_} => law01_alive.e) noS)))
def law01_HandleReads.s {Ω : Type} (x0 : ByteArray) (k : Bool → Option Ω) : Option Ω :=
  bif (decide (((x0).size : Int) > 200)) then
    law01_alive.u.bind fun y1 =>
    k y1
  else
    (handle_Parse.u x0).bind fun y2 =>
    (ref01_Parse.u x0).bind fun y3 =>
    bif (y2.1 == y3.1) then
      bif (y2.2 == y3.2) then
        law01_alive.u.bind fun y4 =>
        k y4
      else
        k false
    else
      k false
theorem law01_HandleReads.ev {Ω : Type} (fuel : Fuel) (x0 : ByteArray) (k : AV → Option Ω) : evFn CP law01_HandleReads.sp fuel Tryd.f11 (Tryd.f11.body.getD .skip) [(.v .str (x0))] k = law01_HandleReads.s x0 (fun r => k (tupAV .bool [] r)) := by kernel_rfl
def law01_HandleReads.u (x0 : ByteArray) : Option (Bool) := law01_HandleReads.s x0 some
theorem law01_HandleReads.c (x0 : ByteArray) (r : Bool) (h : law01_HandleReads.u x0 = some r) : Contract CP 11 [(.v .str (x0))] (tupAV .bool [] r) :=
  contract_s (S := fun k => law01_HandleReads.s x0 k) CP_ok (orS_ok (ref01_Parse.e_ok.mono le_C_CP) (orS_ok (handle_Parse.e_ok.mono le_C_CP) (orS_ok law01_alive.e_ok noS_ok))) (by kernel_rfl) (by kernel_rfl) (by kernel_rfl) (law01_HandleReads.ev ⟨1, fun _ => []⟩ x0 (dec .bool [])) h
noncomputable def law01_HandleReads.e : Ent := argI .str fun x0 => endU (law01_HandleReads.u x0) (tupAV .bool [])
theorem law01_HandleReads.e_ok : EntOK CP 11 (fun {_} => law01_HandleReads.e) := entA_ok (argI_ok fun x0 => endU_ok fun r h => law01_HandleReads.c x0 r h)

/-- becket becketlaw01.HandleBack -/
noncomputable def law01_HandleBack.sp : Spec := (orS 51 (fun {_} => handle_Parse.e) (orS 49 (fun {_} => handle_Gen.e) (orS 47 (fun {_} => handle_Slot.e) (orS 43 (fun {_} => handle_Text.e) (orS 40 (fun {_} => law01_alive.e) (orS 38 (fun {_} => handle_Make.e) noS))))))
def law01_HandleBack.s {Ω : Type} (x0 : (List Int)) (x1 : (List Int)) (k : Bool → Option Ω) : Option Ω :=
  let v1 : Int := (if ((IntKind.wrap .i64 (List.getD x0 1 0)) : Int) > 1 then (IntKind.wrap .i64 (List.getD x0 1 0)) else 1)
  let v2 : Int × Int := (handle_Make.t ((IntKind.wrap .i64 (Int.tmod (List.getD x0 0 0) 4096))) v1)
  let v3 : Int := (if ((IntKind.wrap .i64 (List.getD x1 1 0)) : Int) > 1 then (IntKind.wrap .i64 (List.getD x1 1 0)) else 1)
  let v4 : Int × Int := (handle_Make.t ((IntKind.wrap .i64 (Int.tmod (List.getD x1 0 0) 4096))) v3)
  (handle_Text.u v2.1).bind fun y5 =>
  (handle_Parse.u y5.1).bind fun y6 =>
  let v7 : Int × Int := (handle_Make.t (handle_Slot.t v2.1) (handle_Gen.t v2.1))
  bif (v2.2 != 0) then
    k false
  else
    bif (v4.2 != 0) then
      k false
    else
      bif (y5.2 != 0) then
        k false
      else
        bif (y6.2 != 0) then
          k false
        else
          bif (v7.2 != 0) then
            k false
          else
            bif (y6.1 != v2.1) then
              k false
            else
              bif (v7.1 != v2.1) then
                k false
              else
                bif ((handle_Slot.t v2.1) == (handle_Slot.t v4.1)) then
                  bif (eqI .bool (v2.1 == v4.1) ((handle_Gen.t v2.1) == (handle_Gen.t v4.1))) then
                    bif ((handle_Slot.t v2.1) == (IntKind.wrap .i64 (Int.tmod (List.getD x0 0 0) 4096))) then
                      let v8 : Int := (if ((IntKind.wrap .i64 (List.getD x1 1 0)) : Int) > 1 then (IntKind.wrap .i64 (List.getD x1 1 0)) else 1)
                      bif ((handle_Gen.t v4.1) == v8) then
                        law01_alive.u.bind fun y9 =>
                        k y9
                      else
                        k false
                    else
                      k false
                  else
                    k false
                else
                  bif (eqI .bool (v2.1 == v4.1) false) then
                    bif ((handle_Slot.t v2.1) == (IntKind.wrap .i64 (Int.tmod (List.getD x0 0 0) 4096))) then
                      let v10 : Int := (if ((IntKind.wrap .i64 (List.getD x1 1 0)) : Int) > 1 then (IntKind.wrap .i64 (List.getD x1 1 0)) else 1)
                      bif ((handle_Gen.t v4.1) == v10) then
                        law01_alive.u.bind fun y11 =>
                        k y11
                      else
                        k false
                    else
                      k false
                  else
                    k false
theorem law01_HandleBack.ev {Ω : Type} (fuel : Fuel) (x0 : (List Int)) (x1 : (List Int)) (k : AV → Option Ω) : evFn CP law01_HandleBack.sp fuel Tryd.f12 (Tryd.f12.body.getD .skip) [(.v (.arr 2 (.int .u16)) (x0)), (.v (.arr 2 (.int .u16)) (x1))] k = law01_HandleBack.s x0 x1 (fun r => k (tupAV .bool [] r)) := by kernel_rfl
def law01_HandleBack.u (x0 : (List Int)) (x1 : (List Int)) : Option (Bool) := law01_HandleBack.s x0 x1 some
theorem law01_HandleBack.c (x0 : (List Int)) (x1 : (List Int)) (r : Bool) (h : law01_HandleBack.u x0 x1 = some r) : Contract CP 12 [(.v (.arr 2 (.int .u16)) (x0)), (.v (.arr 2 (.int .u16)) (x1))] (tupAV .bool [] r) :=
  contract_s (S := fun k => law01_HandleBack.s x0 x1 k) CP_ok (orS_ok (handle_Parse.e_ok.mono le_C_CP) (orS_ok (handle_Gen.e_ok.mono le_C_CP) (orS_ok (handle_Slot.e_ok.mono le_C_CP) (orS_ok handle_Text.e_ok (orS_ok law01_alive.e_ok (orS_ok (handle_Make.e_ok.mono le_C_CP) noS_ok)))))) (by kernel_rfl) (by kernel_rfl) (by kernel_rfl) (law01_HandleBack.ev ⟨1, fun _ => []⟩ x0 x1 (dec .bool [])) h
noncomputable def law01_HandleBack.e : Ent := argI (.arr 2 (.int .u16)) fun x0 => argI (.arr 2 (.int .u16)) fun x1 => endU (law01_HandleBack.u x0 x1) (tupAV .bool [])
theorem law01_HandleBack.e_ok : EntOK CP 12 (fun {_} => law01_HandleBack.e) := entA_ok (argI_ok fun x0 => argI_ok fun x1 => endU_ok fun r h => law01_HandleBack.c x0 x1 r h)

end Go.Proofs.YtfihhbgppgkafaaDoor.K

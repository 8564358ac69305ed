/- What functions of the program come to, plainly. -/
import Derived.Test.YtjhkagfolmhacaaGreatDoorZ08
set_option maxRecDepth 100000
set_option linter.unusedVariables false
namespace Go.Proofs.YtjhkagfolmhacaaGreatDoor.K
open Go Go.RowKit

/-- becket becketref09.Table -/
noncomputable def ref09_Table.sp : Spec := noS
def ref09_Table.s {Ω : Type}  (k : (List T_s69) → Option Ω) : Option Ω :=
  k [((bs [110, 111, 112]), ((bs [45, 45, 45]), (0, ()))), ((bs [104, 97, 108, 116]), ((bs [45, 45, 45]), (5, ()))), ((bs [109, 111, 118]), ((bs [114, 114, 45]), (0, ()))), ((bs [115, 101, 116]), ((bs [114, 105, 106]), (0, ()))), ((bs [97, 100, 100]), ((bs [114, 114, 114]), (0, ()))), ((bs [115, 117, 98]), ((bs [114, 114, 114]), (0, ()))), ((bs [109, 117, 108]), ((bs [114, 114, 114]), (0, ()))), ((bs [100, 105, 118]), ((bs [114, 114, 114]), (0, ()))), ((bs [114, 101, 109]), ((bs [114, 114, 114]), (0, ()))), ((bs [97, 110, 100]), ((bs [114, 114, 114]), (0, ()))), ((bs [111, 114]), ((bs [114, 114, 114]), (0, ()))), ((bs [120, 111, 114]), ((bs [114, 114, 114]), (0, ()))), ((bs [115, 104, 108]), ((bs [114, 114, 114]), (0, ()))), ((bs [115, 104, 114]), ((bs [114, 114, 114]), (0, ()))), ((bs [110, 111, 116]), ((bs [114, 114, 45]), (0, ()))), ((bs [110, 101, 103]), ((bs [114, 114, 45]), (0, ()))), ((bs [108, 116]), ((bs [114, 114, 114]), (0, ()))), ((bs [101, 113]), ((bs [114, 114, 114]), (0, ()))), ((bs [106, 109, 112]), ((bs [116, 45, 45]), (1, ()))), ((bs [106, 122]), ((bs [114, 116, 45]), (1, ()))), ((bs [106, 110, 122]), ((bs [114, 116, 45]), (1, ()))), ((bs [106, 98, 97, 100]), ((bs [116, 45, 45]), (1, ()))), ((bs [99, 97, 108, 108]), ((bs [116, 45, 45]), (1, ()))), ((bs [114, 101, 116]), ((bs [45, 45, 45]), (1, ()))), ((bs [108, 111, 97, 100]), ((bs [114, 114, 45]), (0, ()))), ((bs [115, 116, 111, 114, 101]), ((bs [114, 114, 45]), (0, ()))), ((bs [102, 97, 105, 108]), ((bs [115, 45, 45]), (5, ()))), ((bs [101, 109, 105, 116]), ((bs [114, 45, 45]), (4, ()))), ((bs [110, 111, 119]), ((bs [114, 45, 45]), (4, ()))), ((bs [109, 101]), ((bs [114, 45, 45]), (4, ()))), ((bs [115, 112, 97, 119, 110]), ((bs [114, 112, 114]), (4, ()))), ((bs [106, 111, 105, 110]), ((bs [114, 45, 45]), (2, ()))), ((bs [115, 108, 101, 101, 112]), ((bs [114, 45, 45]), (2, ()))), ((bs [115, 101, 110, 100]), ((bs [99, 114, 45]), (2, ()))), ((bs [114, 101, 99, 118]), ((bs [99, 114, 45]), (2, ()))), ((bs [112, 111, 105, 115, 111, 110]), ((bs [99, 114, 45]), (4, ()))), ((bs [101, 110, 114, 111, 108]), ((bs [98, 45, 45]), (4, ()))), ((bs [114, 101, 115, 105, 103, 110]), ((bs [98, 45, 45]), (4, ()))), ((bs [115, 121, 110, 99]), ((bs [98, 45, 45]), (2, ()))), ((bs [102, 97, 108, 108]), ((bs [107, 45, 45]), (2, ()))), ((bs [102, 108, 117, 115, 104]), ((bs [114, 107, 45]), (4, ()))), ((bs [97, 108, 116]), ((bs [114, 109, 110]), (2, ()))), ((bs [103, 105, 110]), ((bs [99, 114, 103]), (3, ()))), ((bs [103, 98, 97, 114]), ((bs [98, 45, 103]), (3, ()))), ((bs [103, 116, 105, 109, 101]), ((bs [114, 45, 103]), (3, ()))), ((bs [103, 115, 107, 105, 112]), ((bs [45, 45, 103]), (3, ()))), ((bs [112, 104, 97, 115, 101]), ((bs [114, 98, 45]), (4, ()))), ((bs [115, 105, 122, 101]), ((bs [114, 98, 45]), (4, ())))]
theorem ref09_Table.ev {Ω : Type} (fuel : Fuel)  (k : AV → Option Ω) : evFn C ref09_Table.sp fuel Tryz.f53 (Tryz.f53.body.getD .skip) [] k = ref09_Table.s  (fun r => k (tupAV (.slice E_s69) [] r)) := by kernel_rfl
def ref09_Table.t  : (List T_s69) :=
  [((bs [110, 111, 112]), ((bs [45, 45, 45]), (0, ()))), ((bs [104, 97, 108, 116]), ((bs [45, 45, 45]), (5, ()))), ((bs [109, 111, 118]), ((bs [114, 114, 45]), (0, ()))), ((bs [115, 101, 116]), ((bs [114, 105, 106]), (0, ()))), ((bs [97, 100, 100]), ((bs [114, 114, 114]), (0, ()))), ((bs [115, 117, 98]), ((bs [114, 114, 114]), (0, ()))), ((bs [109, 117, 108]), ((bs [114, 114, 114]), (0, ()))), ((bs [100, 105, 118]), ((bs [114, 114, 114]), (0, ()))), ((bs [114, 101, 109]), ((bs [114, 114, 114]), (0, ()))), ((bs [97, 110, 100]), ((bs [114, 114, 114]), (0, ()))), ((bs [111, 114]), ((bs [114, 114, 114]), (0, ()))), ((bs [120, 111, 114]), ((bs [114, 114, 114]), (0, ()))), ((bs [115, 104, 108]), ((bs [114, 114, 114]), (0, ()))), ((bs [115, 104, 114]), ((bs [114, 114, 114]), (0, ()))), ((bs [110, 111, 116]), ((bs [114, 114, 45]), (0, ()))), ((bs [110, 101, 103]), ((bs [114, 114, 45]), (0, ()))), ((bs [108, 116]), ((bs [114, 114, 114]), (0, ()))), ((bs [101, 113]), ((bs [114, 114, 114]), (0, ()))), ((bs [106, 109, 112]), ((bs [116, 45, 45]), (1, ()))), ((bs [106, 122]), ((bs [114, 116, 45]), (1, ()))), ((bs [106, 110, 122]), ((bs [114, 116, 45]), (1, ()))), ((bs [106, 98, 97, 100]), ((bs [116, 45, 45]), (1, ()))), ((bs [99, 97, 108, 108]), ((bs [116, 45, 45]), (1, ()))), ((bs [114, 101, 116]), ((bs [45, 45, 45]), (1, ()))), ((bs [108, 111, 97, 100]), ((bs [114, 114, 45]), (0, ()))), ((bs [115, 116, 111, 114, 101]), ((bs [114, 114, 45]), (0, ()))), ((bs [102, 97, 105, 108]), ((bs [115, 45, 45]), (5, ()))), ((bs [101, 109, 105, 116]), ((bs [114, 45, 45]), (4, ()))), ((bs [110, 111, 119]), ((bs [114, 45, 45]), (4, ()))), ((bs [109, 101]), ((bs [114, 45, 45]), (4, ()))), ((bs [115, 112, 97, 119, 110]), ((bs [114, 112, 114]), (4, ()))), ((bs [106, 111, 105, 110]), ((bs [114, 45, 45]), (2, ()))), ((bs [115, 108, 101, 101, 112]), ((bs [114, 45, 45]), (2, ()))), ((bs [115, 101, 110, 100]), ((bs [99, 114, 45]), (2, ()))), ((bs [114, 101, 99, 118]), ((bs [99, 114, 45]), (2, ()))), ((bs [112, 111, 105, 115, 111, 110]), ((bs [99, 114, 45]), (4, ()))), ((bs [101, 110, 114, 111, 108]), ((bs [98, 45, 45]), (4, ()))), ((bs [114, 101, 115, 105, 103, 110]), ((bs [98, 45, 45]), (4, ()))), ((bs [115, 121, 110, 99]), ((bs [98, 45, 45]), (2, ()))), ((bs [102, 97, 108, 108]), ((bs [107, 45, 45]), (2, ()))), ((bs [102, 108, 117, 115, 104]), ((bs [114, 107, 45]), (4, ()))), ((bs [97, 108, 116]), ((bs [114, 109, 110]), (2, ()))), ((bs [103, 105, 110]), ((bs [99, 114, 103]), (3, ()))), ((bs [103, 98, 97, 114]), ((bs [98, 45, 103]), (3, ()))), ((bs [103, 116, 105, 109, 101]), ((bs [114, 45, 103]), (3, ()))), ((bs [103, 115, 107, 105, 112]), ((bs [45, 45, 103]), (3, ()))), ((bs [112, 104, 97, 115, 101]), ((bs [114, 98, 45]), (4, ()))), ((bs [115, 105, 122, 101]), ((bs [114, 98, 45]), (4, ())))]
theorem ref09_Table.v {Ω : Type}  (k : (List T_s69) → Option Ω) : ref09_Table.s  k = k (ref09_Table.t ) := by
  delta ref09_Table.s ref09_Table.t; exact rfl
theorem ref09_Table.c  : Contract C 53 [] (tupAV (.slice E_s69) [] (ref09_Table.t )) :=
  contract_s (S := fun k => ref09_Table.s  k) C_ok noS_ok (by kernel_rfl) (by kernel_rfl) (by kernel_rfl) (ref09_Table.ev ⟨1, fun _ => []⟩  (dec (.slice E_s69) [])) (ref09_Table.v  some)
noncomputable def ref09_Table.e : Ent := endT (tupAV (.slice E_s69) [] (ref09_Table.t ))
theorem ref09_Table.e_ok : EntOK C 53 (fun {_} => ref09_Table.e) := entA_ok (endT_ok (ref09_Table.c ))

/-- becket becketref09.Of -/
noncomputable def ref09_Of.sp : Spec := (orS 53 (fun {_} => ref09_Table.e) noS)
def ref09_Of.s {Ω : Type} (x0 : Int) (k : T_s69 → Option Ω) : Option Ω :=
  bif (decide (x0 < 0)) then
    k ((bs []), ((bs []), ((-1), ())))
  else
    bif (decide (x0 ≥ ((List.length ref09_Table.t : Nat) : Int))) then
      k ((bs []), ((bs []), ((-1), ())))
    else
      bif (idxOK x0 (List.length ref09_Table.t)) then
        k (List.getD ref09_Table.t (Int.toNat x0) ((bs []), ((bs []), (0, ()))))
      else
        none
theorem ref09_Of.ev {Ω : Type} (fuel : Fuel) (x0 : Int) (k : AV → Option Ω) : evFn C ref09_Of.sp fuel Tryz.f25 (Tryz.f25.body.getD .skip) [(.v (.int .i64) (x0))] k = ref09_Of.s x0 (fun r => k (tupAV E_s69 [] r)) := by kernel_rfl
def ref09_Of.u (x0 : Int) : Option (T_s69) := ref09_Of.s x0 some
theorem ref09_Of.c (x0 : Int) (r : T_s69) (h : ref09_Of.u x0 = some r) : Contract C 25 [(.v (.int .i64) (x0))] (tupAV E_s69 [] r) :=
  contract_s (S := fun k => ref09_Of.s x0 k) C_ok (orS_ok ref09_Table.e_ok noS_ok) (by kernel_rfl) (by kernel_rfl) (by kernel_rfl) (ref09_Of.ev ⟨1, fun _ => []⟩ x0 (dec E_s69 [])) h
noncomputable def ref09_Of.e : Ent := argI (.int .i64) fun x0 => endU (ref09_Of.u x0) (tupAV E_s69 [])
theorem ref09_Of.e_ok : EntOK C 25 (fun {_} => ref09_Of.e) := entA_ok (argI_ok fun x0 => endU_ok fun r h => ref09_Of.c x0 r h)

/-- becket opcode.fine -/
noncomputable def opcode_fine.sp : Spec := noS
def opcode_fine.s {Ω : Type} (x0 : Int) (k : Bool → Option Ω) : Option Ω :=
  bif (decide (x0 ≥ 0)) then
    k (decide (x0 < 48))
  else
    k false
theorem opcode_fine.ev {Ω : Type} (fuel : Fuel) (x0 : Int) (k : AV → Option Ω) : evFn C opcode_fine.sp fuel Tryz.f72 (Tryz.f72.body.getD .skip) [(.v (.int .i64) (x0))] k = opcode_fine.s x0 (fun r => k (tupAV .bool [] r)) := by kernel_rfl
def opcode_fine.t (x0 : Int) : Bool :=
  bif (decide (x0 ≥ 0)) then
    (decide (x0 < 48))
  else
    false
theorem opcode_fine.v {Ω : Type} (x0 : Int) (k : Bool → Option Ω) : opcode_fine.s x0 k = k (opcode_fine.t x0) := by
  delta opcode_fine.s opcode_fine.t; exact (cond_tot rfl rfl)
theorem opcode_fine.c (x0 : Int) : Contract C 72 [(.v (.int .i64) (x0))] (tupAV .bool [] (opcode_fine.t x0)) :=
  contract_s (S := fun k => opcode_fine.s x0 k) C_ok noS_ok (by kernel_rfl) (by kernel_rfl) (by kernel_rfl) (opcode_fine.ev ⟨1, fun _ => []⟩ x0 (dec .bool [])) (opcode_fine.v x0 some)
noncomputable def opcode_fine.e : Ent := argI (.int .i64) fun x0 => endT (tupAV .bool [] (opcode_fine.t x0))
theorem opcode_fine.e_ok : EntOK C 72 (fun {_} => opcode_fine.e) := entA_ok (argI_ok fun x0 => endT_ok (opcode_fine.c x0))

/-- becket opcode.Class -/
noncomputable def opcode_Class.sp : Spec := (orS 72 (fun {_} => opcode_fine.e) noS)
def opcode_Class.s {Ω : Type} (x0 : Int) (k : Int → Option Ω) : Option Ω :=
  bif (!(opcode_fine.t x0)) then
    k (-1)
  else
    bif (idxOK x0 48) then
      k (List.getD kindsT (Int.toNat x0) ((bs []), ((bs []), (0, ())))).2.2.1
    else
      none
theorem opcode_Class.ev {Ω : Type} (fuel : Fuel) (x0 : Int) (k : AV → Option Ω) : evFn CK opcode_Class.sp fuel Tryz.f57 (Tryz.f57.body.getD .skip) [(.v (.int .i64) (x0))] k = opcode_Class.s x0 (fun r => k (tupAV (.int .i64) [] r)) := by kernel_rfl
def opcode_Class.u (x0 : Int) : Option (Int) := opcode_Class.s x0 some
theorem opcode_Class.c (x0 : Int) (r : Int) (h : opcode_Class.u x0 = some r) : Contract CK 57 [(.v (.int .i64) (x0))] (tupAV (.int .i64) [] r) :=
  contract_s (S := fun k => opcode_Class.s x0 k) CK_ok (orS_ok (opcode_fine.e_ok.mono le_C_CK) noS_ok) (by kernel_rfl) (by kernel_rfl) (by kernel_rfl) (opcode_Class.ev ⟨1, fun _ => []⟩ x0 (dec (.int .i64) [])) h
noncomputable def opcode_Class.e : Ent := argI (.int .i64) fun x0 => endU (opcode_Class.u x0) (tupAV (.int .i64) [])
theorem opcode_Class.e_ok : EntOK CK 57 (fun {_} => opcode_Class.e) := entA_ok (argI_ok fun x0 => endU_ok fun r h => opcode_Class.c x0 r h)

/-- becket opcode.Form -/
noncomputable def opcode_Form.sp : Spec := (orS 72 (fun {_} => opcode_fine.e) noS)
def opcode_Form.s {Ω : Type} (x0 : Int) (k : ByteArray → Option Ω) : Option Ω :=
  bif (!(opcode_fine.t x0)) then
    k (bs [])
  else
    bif (idxOK x0 48) then
      k (List.getD kindsT (Int.toNat x0) ((bs []), ((bs []), (0, ())))).2.1
    else
      none
theorem opcode_Form.ev {Ω : Type} (fuel : Fuel) (x0 : Int) (k : AV → Option Ω) : evFn CK opcode_Form.sp fuel Tryz.f70 (Tryz.f70.body.getD .skip) [(.v (.int .i64) (x0))] k = opcode_Form.s x0 (fun r => k (tupAV .str [] r)) := by kernel_rfl
def opcode_Form.u (x0 : Int) : Option (ByteArray) := opcode_Form.s x0 some
theorem opcode_Form.c (x0 : Int) (r : ByteArray) (h : opcode_Form.u x0 = some r) : Contract CK 70 [(.v (.int .i64) (x0))] (tupAV .str [] r) :=
  contract_s (S := fun k => opcode_Form.s x0 k) CK_ok (orS_ok (opcode_fine.e_ok.mono le_C_CK) noS_ok) (by kernel_rfl) (by kernel_rfl) (by kernel_rfl) (opcode_Form.ev ⟨1, fun _ => []⟩ x0 (dec .str [])) h
noncomputable def opcode_Form.e : Ent := argI (.int .i64) fun x0 => endU (opcode_Form.u x0) (tupAV .str [])
theorem opcode_Form.e_ok : EntOK CK 70 (fun {_} => opcode_Form.e) := entA_ok (argI_ok fun x0 => endU_ok fun r h => opcode_Form.c x0 r h)

end Go.Proofs.YtjhkagfolmhacaaGreatDoor.K

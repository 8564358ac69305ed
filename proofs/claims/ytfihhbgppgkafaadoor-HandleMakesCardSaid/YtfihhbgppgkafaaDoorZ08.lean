/- What functions of the program come to, plainly. -/
import Derived.Test.YtfihhbgppgkafaaDoorZ05
set_option maxRecDepth 100000
set_option linter.unusedVariables false
namespace Go.Proofs.YtfihhbgppgkafaaDoor.K
open Go Go.RowKit

/-- becket becketref08.Fine -/
noncomputable def ref08_Fine.sp : Spec := noS
def ref08_Fine.s {Ω : Type} (x0 : Int) (k : Bool → Option Ω) : Option Ω :=
  bif (decide (x0 ≥ (-2147483648))) then
    k (decide (x0 ≤ 2147483647))
  else
    k false
theorem ref08_Fine.ev {Ω : Type} (fuel : Fuel) (x0 : Int) (k : AV → Option Ω) : evFn C ref08_Fine.sp fuel Tryd.f69 (Tryd.f69.body.getD .skip) [(.v (.int .i64) (x0))] k = ref08_Fine.s x0 (fun r => k (tupAV .bool [] r)) := by kernel_rfl
def ref08_Fine.t (x0 : Int) : Bool :=
  bif (decide (x0 ≥ (-2147483648))) then
    (decide (x0 ≤ 2147483647))
  else
    false
theorem ref08_Fine.v {Ω : Type} (x0 : Int) (k : Bool → Option Ω) : ref08_Fine.s x0 k = k (ref08_Fine.t x0) := by
  delta ref08_Fine.s ref08_Fine.t; exact (cond_tot rfl rfl)
theorem ref08_Fine.c (x0 : Int) : Contract C 69 [(.v (.int .i64) (x0))] (tupAV .bool [] (ref08_Fine.t x0)) :=
  contract_s (S := fun k => ref08_Fine.s x0 k) C_ok noS_ok (by kernel_rfl) (by kernel_rfl) (by kernel_rfl) (ref08_Fine.ev ⟨1, fun _ => []⟩ x0 (dec .bool [])) (ref08_Fine.v x0 some)
noncomputable def ref08_Fine.e : Ent := argI (.int .i64) fun x0 => endT (tupAV .bool [] (ref08_Fine.t x0))
theorem ref08_Fine.e_ok : EntOK C 69 (fun {_} => ref08_Fine.e) := entA_ok (argI_ok fun x0 => endT_ok (ref08_Fine.c x0))

/-- becket word.Fine -/
noncomputable def word_Fine.sp : Spec := noS
def word_Fine.s {Ω : Type} (x0 : Int) (k : Bool → Option Ω) : Option Ω :=
  bif (decide (x0 ≥ (-2147483648))) then
    k (decide (x0 ≤ 2147483647))
  else
    k false
theorem word_Fine.ev {Ω : Type} (fuel : Fuel) (x0 : Int) (k : AV → Option Ω) : evFn C word_Fine.sp fuel Tryd.f104 (Tryd.f104.body.getD .skip) [(.v (.int .i64) (x0))] k = word_Fine.s x0 (fun r => k (tupAV .bool [] r)) := by kernel_rfl
def word_Fine.t (x0 : Int) : Bool :=
  bif (decide (x0 ≥ (-2147483648))) then
    (decide (x0 ≤ 2147483647))
  else
    false
theorem word_Fine.v {Ω : Type} (x0 : Int) (k : Bool → Option Ω) : word_Fine.s x0 k = k (word_Fine.t x0) := by
  delta word_Fine.s word_Fine.t; exact (cond_tot rfl rfl)
theorem word_Fine.c (x0 : Int) : Contract C 104 [(.v (.int .i64) (x0))] (tupAV .bool [] (word_Fine.t x0)) :=
  contract_s (S := fun k => word_Fine.s x0 k) C_ok noS_ok (by kernel_rfl) (by kernel_rfl) (by kernel_rfl) (word_Fine.ev ⟨1, fun _ => []⟩ x0 (dec .bool [])) (word_Fine.v x0 some)
noncomputable def word_Fine.e : Ent := argI (.int .i64) fun x0 => endT (tupAV .bool [] (word_Fine.t x0))
theorem word_Fine.e_ok : EntOK C 104 (fun {_} => word_Fine.e) := entA_ok (argI_ok fun x0 => endT_ok (word_Fine.c x0))

/-- becket word.Text -/
noncomputable def word_Text.sp : Spec := (orS 104 (fun {_} => word_Fine.e) (orS 84 (fun {_} => strconv_Itoa.e) noS))
def word_Text.s {Ω : Type} (x0 : Int) (k : ByteArray × Int → Option Ω) : Option Ω :=
  bif (!(word_Fine.t x0)) then
    k ((bs []), 8)
  else
    (strconv_Itoa.u x0).bind fun y1 =>
    k (y1, 0)
theorem word_Text.ev {Ω : Type} (fuel : Fuel) (x0 : Int) (k : AV → Option Ω) : evFn CP word_Text.sp fuel Tryd.f101 (Tryd.f101.body.getD .skip) [(.v (.int .i64) (x0))] k = word_Text.s x0 (fun r => k (tupAV .str [(.int .i64)] r)) := by kernel_rfl
def word_Text.u (x0 : Int) : Option (ByteArray × Int) := word_Text.s x0 some
theorem word_Text.c (x0 : Int) (r : ByteArray × Int) (h : word_Text.u x0 = some r) : Contract CP 101 [(.v (.int .i64) (x0))] (tupAV .str [(.int .i64)] r) :=
  contract_s (S := fun k => word_Text.s x0 k) CP_ok (orS_ok (word_Fine.e_ok.mono le_C_CP) (orS_ok strconv_Itoa.e_ok noS_ok)) (by kernel_rfl) (by kernel_rfl) (by kernel_rfl) (word_Text.ev ⟨1, fun _ => []⟩ x0 (dec .str [(.int .i64)])) h
noncomputable def word_Text.e : Ent := argI (.int .i64) fun x0 => endU (word_Text.u x0) (tupAV .str [(.int .i64)])
theorem word_Text.e_ok : EntOK CP 101 (fun {_} => word_Text.e) := entA_ok (argI_ok fun x0 => endU_ok fun r h => word_Text.c x0 r h)

end Go.Proofs.YtfihhbgppgkafaaDoor.K

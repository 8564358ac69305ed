/- What functions of the program come to, plainly. -/
import Derived.Test.YtfihhbgppgkafaaDoorZ02
set_option maxRecDepth 100000
set_option linter.unusedVariables false
namespace Go.Proofs.YtfihhbgppgkafaaDoor.K
open Go Go.RowKit

/-- becket becketref05.Fine -/
noncomputable def ref05_Fine.sp : Spec := noS
def ref05_Fine.s {Ω : Type} (x0 : Int) (k : Bool → Option Ω) : Option Ω :=
  bif (decide (x0 ≥ 0)) then
    k (decide (x0 ≤ 1099511627776))
  else
    k false
theorem ref05_Fine.ev {Ω : Type} (fuel : Fuel) (x0 : Int) (k : AV → Option Ω) : evFn C ref05_Fine.sp fuel Tryd.f68 (Tryd.f68.body.getD .skip) [(.v (.int .i64) (x0))] k = ref05_Fine.s x0 (fun r => k (tupAV .bool [] r)) := by kernel_rfl
def ref05_Fine.t (x0 : Int) : Bool :=
  bif (decide (x0 ≥ 0)) then
    (decide (x0 ≤ 1099511627776))
  else
    false
theorem ref05_Fine.v {Ω : Type} (x0 : Int) (k : Bool → Option Ω) : ref05_Fine.s x0 k = k (ref05_Fine.t x0) := by
  delta ref05_Fine.s ref05_Fine.t; exact (cond_tot rfl rfl)
theorem ref05_Fine.c (x0 : Int) : Contract C 68 [(.v (.int .i64) (x0))] (tupAV .bool [] (ref05_Fine.t x0)) :=
  contract_s (S := fun k => ref05_Fine.s x0 k) C_ok noS_ok (by kernel_rfl) (by kernel_rfl) (by kernel_rfl) (ref05_Fine.ev ⟨1, fun _ => []⟩ x0 (dec .bool [])) (ref05_Fine.v x0 some)
noncomputable def ref05_Fine.e : Ent := argI (.int .i64) fun x0 => endT (tupAV .bool [] (ref05_Fine.t x0))
theorem ref05_Fine.e_ok : EntOK C 68 (fun {_} => ref05_Fine.e) := entA_ok (argI_ok fun x0 => endT_ok (ref05_Fine.c x0))

/-- becket clock.held int  -/
noncomputable def clock_held_int.sp : Spec := noS
def clock_held_int.s {Ω : Type} (x0 : Int) (x1 : Int) (x2 : Int) (k : Int → Option Ω) : Option Ω :=
  let v1 : Int := (if ((if (x2 : Int) < x0 then x2 else x0) : Int) > x1 then (if (x2 : Int) < x0 then x2 else x0) else x1)
  k v1
theorem clock_held_int.ev {Ω : Type} (fuel : Fuel) (x0 : Int) (x1 : Int) (x2 : Int) (k : AV → Option Ω) : evFn C clock_held_int.sp fuel Tryd.f127 (Tryd.f127.body.getD .skip) [(.v (.int .i64) (x0)), (.v (.int .i64) (x1)), (.v (.int .i64) (x2))] k = clock_held_int.s x0 x1 x2 (fun r => k (tupAV (.int .i64) [] r)) := by kernel_rfl
def clock_held_int.t (x0 : Int) (x1 : Int) (x2 : Int) : Int :=
  let v1 : Int := (if ((if (x2 : Int) < x0 then x2 else x0) : Int) > x1 then (if (x2 : Int) < x0 then x2 else x0) else x1)
  v1
theorem clock_held_int.v {Ω : Type} (x0 : Int) (x1 : Int) (x2 : Int) (k : Int → Option Ω) : clock_held_int.s x0 x1 x2 k = k (clock_held_int.t x0 x1 x2) := by
  delta clock_held_int.s clock_held_int.t; exact rfl
theorem clock_held_int.c (x0 : Int) (x1 : Int) (x2 : Int) : Contract C 127 [(.v (.int .i64) (x0)), (.v (.int .i64) (x1)), (.v (.int .i64) (x2))] (tupAV (.int .i64) [] (clock_held_int.t x0 x1 x2)) :=
  contract_s (S := fun k => clock_held_int.s x0 x1 x2 k) C_ok noS_ok (by kernel_rfl) (by kernel_rfl) (by kernel_rfl) (clock_held_int.ev ⟨1, fun _ => []⟩ x0 x1 x2 (dec (.int .i64) [])) (clock_held_int.v x0 x1 x2 some)
noncomputable def clock_held_int.e : Ent := argI (.int .i64) fun x0 => argI (.int .i64) fun x1 => argI (.int .i64) fun x2 => endT (tupAV (.int .i64) [] (clock_held_int.t x0 x1 x2))
theorem clock_held_int.e_ok : EntOK C 127 (fun {_} => clock_held_int.e) := entA_ok (argI_ok fun x0 => argI_ok fun x1 => argI_ok fun x2 => endT_ok (clock_held_int.c x0 x1 x2))

/-- becket clock.Fine -/
noncomputable def clock_Fine.sp : Spec := (orS 127 (fun {_} => clock_held_int.e) noS)
def clock_Fine.s {Ω : Type} (x0 : Int) (k : Bool → Option Ω) : Option Ω :=
  k ((clock_held_int.t x0 0 1099511627776) == x0)
theorem clock_Fine.ev {Ω : Type} (fuel : Fuel) (x0 : Int) (k : AV → Option Ω) : evFn C clock_Fine.sp fuel Tryd.f105 (Tryd.f105.body.getD .skip) [(.v (.int .i64) (x0))] k = clock_Fine.s x0 (fun r => k (tupAV .bool [] r)) := by kernel_rfl
def clock_Fine.t (x0 : Int) : Bool :=
  ((clock_held_int.t x0 0 1099511627776) == x0)
theorem clock_Fine.v {Ω : Type} (x0 : Int) (k : Bool → Option Ω) : clock_Fine.s x0 k = k (clock_Fine.t x0) := by
  delta clock_Fine.s clock_Fine.t; exact rfl
theorem clock_Fine.c (x0 : Int) : Contract C 105 [(.v (.int .i64) (x0))] (tupAV .bool [] (clock_Fine.t x0)) :=
  contract_s (S := fun k => clock_Fine.s x0 k) C_ok (orS_ok clock_held_int.e_ok noS_ok) (by kernel_rfl) (by kernel_rfl) (by kernel_rfl) (clock_Fine.ev ⟨1, fun _ => []⟩ x0 (dec .bool [])) (clock_Fine.v x0 some)
noncomputable def clock_Fine.e : Ent := argI (.int .i64) fun x0 => endT (tupAV .bool [] (clock_Fine.t x0))
theorem clock_Fine.e_ok : EntOK C 105 (fun {_} => clock_Fine.e) := entA_ok (argI_ok fun x0 => endT_ok (clock_Fine.c x0))

end Go.Proofs.YtfihhbgppgkafaaDoor.K

/- What functions of the program come to, plainly. -/
import Derived.Test.YtjhkagfolmhacaaGreatDoorZ02
set_option maxRecDepth 100000
set_option linter.unusedVariables false
namespace Go.Proofs.YtjhkagfolmhacaaGreatDoor.K
open Go Go.RowKit

/-- becket clock.held int  -/
noncomputable def clock_held_int.sp : Spec := noS
def clock_held_int.s {Ω : Type} (x0 : Int) (x1 : Int) (x2 : Int) (k : Int → Option Ω) : Option Ω :=
  let v1 : Int := (if ((if (x2 : Int) < x0 then x2 else x0) : Int) > x1 then (if (x2 : Int) < x0 then x2 else x0) else x1)
  k v1
theorem clock_held_int.ev {Ω : Type} (fuel : Fuel) (x0 : Int) (x1 : Int) (x2 : Int) (k : AV → Option Ω) : evFn C clock_held_int.sp fuel Tryz.f40 (Tryz.f40.body.getD .skip) [(.v (.int .i64) (x0)), (.v (.int .i64) (x1)), (.v (.int .i64) (x2))] k = clock_held_int.s x0 x1 x2 (fun r => k (tupAV (.int .i64) [] r)) := by kernel_rfl
def clock_held_int.t (x0 : Int) (x1 : Int) (x2 : Int) : Int :=
  let v1 : Int := (if ((if (x2 : Int) < x0 then x2 else x0) : Int) > x1 then (if (x2 : Int) < x0 then x2 else x0) else x1)
  v1
theorem clock_held_int.v {Ω : Type} (x0 : Int) (x1 : Int) (x2 : Int) (k : Int → Option Ω) : clock_held_int.s x0 x1 x2 k = k (clock_held_int.t x0 x1 x2) := by
  delta clock_held_int.s clock_held_int.t; exact rfl
theorem clock_held_int.c (x0 : Int) (x1 : Int) (x2 : Int) : Contract C 40 [(.v (.int .i64) (x0)), (.v (.int .i64) (x1)), (.v (.int .i64) (x2))] (tupAV (.int .i64) [] (clock_held_int.t x0 x1 x2)) :=
  contract_s (S := fun k => clock_held_int.s x0 x1 x2 k) C_ok noS_ok (by kernel_rfl) (by kernel_rfl) (by kernel_rfl) (clock_held_int.ev ⟨1, fun _ => []⟩ x0 x1 x2 (dec (.int .i64) [])) (clock_held_int.v x0 x1 x2 some)
noncomputable def clock_held_int.e : Ent := argI (.int .i64) fun x0 => argI (.int .i64) fun x1 => argI (.int .i64) fun x2 => endT (tupAV (.int .i64) [] (clock_held_int.t x0 x1 x2))
theorem clock_held_int.e_ok : EntOK C 40 (fun {_} => clock_held_int.e) := entA_ok (argI_ok fun x0 => argI_ok fun x1 => argI_ok fun x2 => endT_ok (clock_held_int.c x0 x1 x2))

/-- becket clock.Fine -/
noncomputable def clock_Fine.sp : Spec := (orS 40 (fun {_} => clock_held_int.e) noS)
def clock_Fine.s {Ω : Type} (x0 : Int) (k : Bool → Option Ω) : Option Ω :=
  k ((clock_held_int.t x0 0 1099511627776) == x0)
theorem clock_Fine.ev {Ω : Type} (fuel : Fuel) (x0 : Int) (k : AV → Option Ω) : evFn C clock_Fine.sp fuel Tryz.f17 (Tryz.f17.body.getD .skip) [(.v (.int .i64) (x0))] k = clock_Fine.s x0 (fun r => k (tupAV .bool [] r)) := by kernel_rfl
def clock_Fine.t (x0 : Int) : Bool :=
  ((clock_held_int.t x0 0 1099511627776) == x0)
theorem clock_Fine.v {Ω : Type} (x0 : Int) (k : Bool → Option Ω) : clock_Fine.s x0 k = k (clock_Fine.t x0) := by
  delta clock_Fine.s clock_Fine.t; exact rfl
theorem clock_Fine.c (x0 : Int) : Contract C 17 [(.v (.int .i64) (x0))] (tupAV .bool [] (clock_Fine.t x0)) :=
  contract_s (S := fun k => clock_Fine.s x0 k) C_ok (orS_ok clock_held_int.e_ok noS_ok) (by kernel_rfl) (by kernel_rfl) (by kernel_rfl) (clock_Fine.ev ⟨1, fun _ => []⟩ x0 (dec .bool [])) (clock_Fine.v x0 some)
noncomputable def clock_Fine.e : Ent := argI (.int .i64) fun x0 => endT (tupAV .bool [] (clock_Fine.t x0))
theorem clock_Fine.e_ok : EntOK C 17 (fun {_} => clock_Fine.e) := entA_ok (argI_ok fun x0 => endT_ok (clock_Fine.c x0))

/-- becket becketref05.Fine -/
noncomputable def ref05_Fine.sp : Spec := noS
def ref05_Fine.s {Ω : Type} (x0 : Int) (k : Bool → Option Ω) : Option Ω :=
  bif (decide (x0 ≥ 0)) then
    k (decide (x0 ≤ 1099511627776))
  else
    k false
theorem ref05_Fine.ev {Ω : Type} (fuel : Fuel) (x0 : Int) (k : AV → Option Ω) : evFn C ref05_Fine.sp fuel Tryz.f24 (Tryz.f24.body.getD .skip) [(.v (.int .i64) (x0))] k = ref05_Fine.s x0 (fun r => k (tupAV .bool [] r)) := by kernel_rfl
def ref05_Fine.t (x0 : Int) : Bool :=
  bif (decide (x0 ≥ 0)) then
    (decide (x0 ≤ 1099511627776))
  else
    false
theorem ref05_Fine.v {Ω : Type} (x0 : Int) (k : Bool → Option Ω) : ref05_Fine.s x0 k = k (ref05_Fine.t x0) := by
  delta ref05_Fine.s ref05_Fine.t; exact (cond_tot rfl rfl)
theorem ref05_Fine.c (x0 : Int) : Contract C 24 [(.v (.int .i64) (x0))] (tupAV .bool [] (ref05_Fine.t x0)) :=
  contract_s (S := fun k => ref05_Fine.s x0 k) C_ok noS_ok (by kernel_rfl) (by kernel_rfl) (by kernel_rfl) (ref05_Fine.ev ⟨1, fun _ => []⟩ x0 (dec .bool [])) (ref05_Fine.v x0 some)
noncomputable def ref05_Fine.e : Ent := argI (.int .i64) fun x0 => endT (tupAV .bool [] (ref05_Fine.t x0))
theorem ref05_Fine.e_ok : EntOK C 24 (fun {_} => ref05_Fine.e) := entA_ok (argI_ok fun x0 => endT_ok (ref05_Fine.c x0))

/-- becket becketref05.Tick -/
noncomputable def ref05_Tick.sp : Spec := (orS 24 (fun {_} => ref05_Fine.e) noS)
def ref05_Tick.s {Ω : Type} (x0 : Int) (x1 : Int) (k : Int × Int → Option Ω) : Option Ω :=
  bif (!(ref05_Fine.t x0)) then
    k (0, 8)
  else
    bif (decide (x1 < 0)) then
      k (0, 1)
    else
      bif (decide (x1 > (IntKind.wrap .i64 (1099511627776 - x0)))) then
        k (1099511627776, 0)
      else
        k ((IntKind.wrap .i64 (x0 + x1)), 0)
theorem ref05_Tick.ev {Ω : Type} (fuel : Fuel) (x0 : Int) (x1 : Int) (k : AV → Option Ω) : evFn C ref05_Tick.sp fuel Tryz.f68 (Tryz.f68.body.getD .skip) [(.v (.int .i64) (x0)), (.v (.int .i64) (x1))] k = ref05_Tick.s x0 x1 (fun r => k (tupAV (.int .i64) [(.int .i64)] r)) := by kernel_rfl
def ref05_Tick.t (x0 : Int) (x1 : Int) : Int × Int :=
  bif (!(ref05_Fine.t x0)) then
    (0, 8)
  else
    bif (decide (x1 < 0)) then
      (0, 1)
    else
      bif (decide (x1 > (IntKind.wrap .i64 (1099511627776 - x0)))) then
        (1099511627776, 0)
      else
        ((IntKind.wrap .i64 (x0 + x1)), 0)
theorem ref05_Tick.v {Ω : Type} (x0 : Int) (x1 : Int) (k : Int × Int → Option Ω) : ref05_Tick.s x0 x1 k = k (ref05_Tick.t x0 x1) := by
  delta ref05_Tick.s ref05_Tick.t; exact (cond_tot rfl (cond_tot rfl (cond_tot rfl rfl)))
theorem ref05_Tick.c (x0 : Int) (x1 : Int) : Contract C 68 [(.v (.int .i64) (x0)), (.v (.int .i64) (x1))] (tupAV (.int .i64) [(.int .i64)] (ref05_Tick.t x0 x1)) :=
  contract_s (S := fun k => ref05_Tick.s x0 x1 k) C_ok (orS_ok ref05_Fine.e_ok noS_ok) (by kernel_rfl) (by kernel_rfl) (by kernel_rfl) (ref05_Tick.ev ⟨1, fun _ => []⟩ x0 x1 (dec (.int .i64) [(.int .i64)])) (ref05_Tick.v x0 x1 some)
noncomputable def ref05_Tick.e : Ent := argI (.int .i64) fun x0 => argI (.int .i64) fun x1 => endT (tupAV (.int .i64) [(.int .i64)] (ref05_Tick.t x0 x1))
theorem ref05_Tick.e_ok : EntOK C 68 (fun {_} => ref05_Tick.e) := entA_ok (argI_ok fun x0 => argI_ok fun x1 => endT_ok (ref05_Tick.c x0 x1))

/-- becket becketref05.After -/
noncomputable def ref05_After.sp : Spec := (orS 68 (fun {_} => ref05_Tick.e) (orS 24 (fun {_} => ref05_Fine.e) noS))
def ref05_After.s {Ω : Type} (x0 : Int) (x1 : Int) (k : Int × Int → Option Ω) : Option Ω :=
  bif (!(ref05_Fine.t x0)) then
    k (0, 8)
  else
    bif (decide (x1 < 0)) then
      k (x0, 0)
    else
      let v1 : Int × Int := (ref05_Tick.t x0 x1)
      k (v1.1, v1.2)
theorem ref05_After.ev {Ω : Type} (fuel : Fuel) (x0 : Int) (x1 : Int) (k : AV → Option Ω) : evFn C ref05_After.sp fuel Tryz.f54 (Tryz.f54.body.getD .skip) [(.v (.int .i64) (x0)), (.v (.int .i64) (x1))] k = ref05_After.s x0 x1 (fun r => k (tupAV (.int .i64) [(.int .i64)] r)) := by kernel_rfl
def ref05_After.t (x0 : Int) (x1 : Int) : Int × Int :=
  bif (!(ref05_Fine.t x0)) then
    (0, 8)
  else
    bif (decide (x1 < 0)) then
      (x0, 0)
    else
      let v1 : Int × Int := (ref05_Tick.t x0 x1)
      (v1.1, v1.2)
theorem ref05_After.v {Ω : Type} (x0 : Int) (x1 : Int) (k : Int × Int → Option Ω) : ref05_After.s x0 x1 k = k (ref05_After.t x0 x1) := by
  delta ref05_After.s ref05_After.t; exact (cond_tot rfl (cond_tot rfl rfl))
theorem ref05_After.c (x0 : Int) (x1 : Int) : Contract C 54 [(.v (.int .i64) (x0)), (.v (.int .i64) (x1))] (tupAV (.int .i64) [(.int .i64)] (ref05_After.t x0 x1)) :=
  contract_s (S := fun k => ref05_After.s x0 x1 k) C_ok (orS_ok ref05_Tick.e_ok (orS_ok ref05_Fine.e_ok noS_ok)) (by kernel_rfl) (by kernel_rfl) (by kernel_rfl) (ref05_After.ev ⟨1, fun _ => []⟩ x0 x1 (dec (.int .i64) [(.int .i64)])) (ref05_After.v x0 x1 some)
noncomputable def ref05_After.e : Ent := argI (.int .i64) fun x0 => argI (.int .i64) fun x1 => endT (tupAV (.int .i64) [(.int .i64)] (ref05_After.t x0 x1))
theorem ref05_After.e_ok : EntOK C 54 (fun {_} => ref05_After.e) := entA_ok (argI_ok fun x0 => argI_ok fun x1 => endT_ok (ref05_After.c x0 x1))

/-- becket clock.later -/
noncomputable def clock_later.sp : Spec := (orS 40 (fun {_} => clock_held_int.e) noS)
def clock_later.s {Ω : Type} (x0 : Int) (x1 : Int) (k : Int → Option Ω) : Option Ω :=
  let v1 : Int := (IntKind.wrap .i64 (x0 + (clock_held_int.t x1 0 ((IntKind.wrap .i64 (1099511627776 - x0))))))
  k v1
theorem clock_later.ev {Ω : Type} (fuel : Fuel) (x0 : Int) (x1 : Int) (k : AV → Option Ω) : evFn C clock_later.sp fuel Tryz.f81 (Tryz.f81.body.getD .skip) [(.v (.int .i64) (x0)), (.v (.int .i64) (x1))] k = clock_later.s x0 x1 (fun r => k (tupAV (.int .i64) [] r)) := by kernel_rfl
def clock_later.t (x0 : Int) (x1 : Int) : Int :=
  let v1 : Int := (IntKind.wrap .i64 (x0 + (clock_held_int.t x1 0 ((IntKind.wrap .i64 (1099511627776 - x0))))))
  v1
theorem clock_later.v {Ω : Type} (x0 : Int) (x1 : Int) (k : Int → Option Ω) : clock_later.s x0 x1 k = k (clock_later.t x0 x1) := by
  delta clock_later.s clock_later.t; exact rfl
theorem clock_later.c (x0 : Int) (x1 : Int) : Contract C 81 [(.v (.int .i64) (x0)), (.v (.int .i64) (x1))] (tupAV (.int .i64) [] (clock_later.t x0 x1)) :=
  contract_s (S := fun k => clock_later.s x0 x1 k) C_ok (orS_ok clock_held_int.e_ok noS_ok) (by kernel_rfl) (by kernel_rfl) (by kernel_rfl) (clock_later.ev ⟨1, fun _ => []⟩ x0 x1 (dec (.int .i64) [])) (clock_later.v x0 x1 some)
noncomputable def clock_later.e : Ent := argI (.int .i64) fun x0 => argI (.int .i64) fun x1 => endT (tupAV (.int .i64) [] (clock_later.t x0 x1))
theorem clock_later.e_ok : EntOK C 81 (fun {_} => clock_later.e) := entA_ok (argI_ok fun x0 => argI_ok fun x1 => endT_ok (clock_later.c x0 x1))

/-- becket clock.After -/
noncomputable def clock_After.sp : Spec := (orS 81 (fun {_} => clock_later.e) (orS 17 (fun {_} => clock_Fine.e) noS))
def clock_After.s {Ω : Type} (x0 : Int) (x1 : Int) (k : Int × Int → Option Ω) : Option Ω :=
  bif (!(clock_Fine.t x0)) then
    k (0, 8)
  else
    k ((clock_later.t x0 x1), 0)
theorem clock_After.ev {Ω : Type} (fuel : Fuel) (x0 : Int) (x1 : Int) (k : AV → Option Ω) : evFn C clock_After.sp fuel Tryz.f64 (Tryz.f64.body.getD .skip) [(.v (.int .i64) (x0)), (.v (.int .i64) (x1))] k = clock_After.s x0 x1 (fun r => k (tupAV (.int .i64) [(.int .i64)] r)) := by kernel_rfl
def clock_After.t (x0 : Int) (x1 : Int) : Int × Int :=
  bif (!(clock_Fine.t x0)) then
    (0, 8)
  else
    ((clock_later.t x0 x1), 0)
theorem clock_After.v {Ω : Type} (x0 : Int) (x1 : Int) (k : Int × Int → Option Ω) : clock_After.s x0 x1 k = k (clock_After.t x0 x1) := by
  delta clock_After.s clock_After.t; exact (cond_tot rfl rfl)
theorem clock_After.c (x0 : Int) (x1 : Int) : Contract C 64 [(.v (.int .i64) (x0)), (.v (.int .i64) (x1))] (tupAV (.int .i64) [(.int .i64)] (clock_After.t x0 x1)) :=
  contract_s (S := fun k => clock_After.s x0 x1 k) C_ok (orS_ok clock_later.e_ok (orS_ok clock_Fine.e_ok noS_ok)) (by kernel_rfl) (by kernel_rfl) (by kernel_rfl) (clock_After.ev ⟨1, fun _ => []⟩ x0 x1 (dec (.int .i64) [(.int .i64)])) (clock_After.v x0 x1 some)
noncomputable def clock_After.e : Ent := argI (.int .i64) fun x0 => argI (.int .i64) fun x1 => endT (tupAV (.int .i64) [(.int .i64)] (clock_After.t x0 x1))
theorem clock_After.e_ok : EntOK C 64 (fun {_} => clock_After.e) := entA_ok (argI_ok fun x0 => argI_ok fun x1 => endT_ok (clock_After.c x0 x1))

end Go.Proofs.YtjhkagfolmhacaaGreatDoor.K

/- What functions of the program come to. -/
import Derived.Test.YtmphlhnpichonaaDoorQ5
set_option maxRecDepth 100000
set_option linter.unusedVariables false
namespace Go.Proofs.YtmphlhnpichonaaDoor.K
open Go Go.RowKit

/-- becket becketlaw08.WordReads -/
def s12 {Ω : Type} (x0 : ByteArray) (k : Bool → Option Ω) : Option Ω :=
  bif (decide (((x0).size : Int) > 200)) then
    bif (p43 ) then
      k t43
    else
      none
  else
    bif (p44 (x0)) then
      bif (p45 (x0)) then
        bif ((t44 (x0)).1 == (t45 (x0)).1) then
          bif ((t44 (x0)).2 == (t45 (x0)).2) then
            bif (p43 ) then
              k t43
            else
              none
          else
            k false
        else
          k false
      else
        none
    else
      none
def t12 (x0 : ByteArray) : Bool :=
  bif (decide (((x0).size : Int) > 200)) then
    bif (p43 ) then
      t43
    else
      false
  else
    bif (p44 (x0)) then
      bif (p45 (x0)) then
        bif ((t44 (x0)).1 == (t45 (x0)).1) then
          bif ((t44 (x0)).2 == (t45 (x0)).2) then
            bif (p43 ) then
              t43
            else
              false
          else
            false
        else
          false
      else
        false
    else
      false
def p12 (x0 : ByteArray) : Bool :=
  bif (decide (((x0).size : Int) > 200)) then
    bif (p43 ) then
      true
    else
      false
  else
    bif (p44 (x0)) then
      bif (p45 (x0)) then
        bif ((t44 (x0)).1 == (t45 (x0)).1) then
          bif ((t44 (x0)).2 == (t45 (x0)).2) then
            bif (p43 ) then
              true
            else
              false
          else
            true
        else
          true
      else
        false
    else
      false
theorem v12 {Ω : Type} (x0 : ByteArray) (k : Bool → Option Ω) : s12 x0 k = bif p12 x0 then k (t12 x0) else none := by
  delta s12 t12 p12; exact (cond_pre (cond_pre rfl rfl) (cond_pre (cond_pre (cond_pre (cond_pre (cond_pre rfl rfl) rfl) rfl) rfl) rfl))
noncomputable def sp12 : Spec := (orS 45 (fun {_} => e45) (orS 44 (fun {_} => e44) (orS 43 (fun {_} => e43) noS)))
theorem ev12 {Ω : Type} (fuel : Fuel) (x0 : ByteArray) (k : AV → Option Ω) : evFn C1 (fun {_} => sp12) fuel Tryd.f12 (Tryd.f12.body.getD .skip) [.v .str x0] k = s12 x0 (fun r => k (.v .bool r)) := by kernel_rfl
theorem c12 (x0 : ByteArray) (hp : p12 x0 = true) : Contract C1 12 [.v .str x0] (.v .bool (t12 x0)) :=
  contract_of (spec := fun {_} => sp12) (fuel := ⟨1, fun _ => []⟩) C1_ok (orS_ok (e45_ok.mono C_le) (orS_ok (e44_ok.mono C_le) (orS_ok e43_ok noS_ok))) (by kernel_rfl) (by kernel_rfl) (by kernel_rfl) (by rw [ev12, v12]; rw [hp]; rfl)
noncomputable def e12 : Ent := fun {_} => ent1 .str (fun x0 => p12 x0) (fun x0 => .v .bool (t12 x0))
theorem e12_ok : EntOK C1 12 (fun {_} => e12) := ent1_ok fun x0 h => c12 x0 h

end Go.Proofs.YtmphlhnpichonaaDoor.K

/- What functions of the program come to, plainly. -/
import Derived.Test.YtmmooplcdkmapaaDoorRd
set_option maxRecDepth 100000
set_option linter.unusedVariables false
namespace Go.Proofs.YtmmooplcdkmapaaDoor.K
open Go Go.RowKit

def law11_alive.s {Ω : Type}  (k : Bool → Option Ω) : Option Ω :=
  (asm_Text.u ((42, (0, (1, (2, ())))))).bind fun y1 =>
  (asm_Parse.u (bs [32, 115, 101, 116, 32, 32, 114, 50, 32, 45, 50])).bind fun y2 =>
  (asm_Parse.u (bs [106, 122, 32, 114, 49])).bind fun y3 =>
  (asm_Read.u (bs [110, 111, 112, 10, 10, 104, 97, 108, 116])).bind fun y4 =>
  (asm_Read.u (bs [110, 111, 112, 10, 119, 104, 97, 116, 10])).bind fun y5 =>
  let v6 : Bool := ((y1.1).data.toList == ((bs [103, 105, 110, 32, 99, 48, 32, 114, 49, 32, 105, 102, 32, 114, 50])).data.toList)
  bif v6 then
    bif (y1.2 == 0) then
      bif (eqI E_s22 y2.1 (3, (2, (255, (254, ()))))) then
        bif (y2.2 == 0) then
          bif (y3.2 == 4) then
            bif (((List.length y4.1 : Nat) : Int) == 2) then
              bif (idxOK 1 (List.length y4.1)) then
                bif ((List.getD y4.1 1 (0, (0, (0, (0, ()))))).1 == 1) then
                  bif (y4.2.1 == 0) then
                    bif (y4.2.2 == 0) then
                      bif (y5.2.1 == 2) then
                        k (y5.2.2 == 6)
                      else
                        k false
                    else
                      k false
                  else
                    k false
                else
                  k false
              else
                none
            else
              k false
          else
            k false
        else
          k false
      else
        k false
    else
      k false
  else
    k false
def law11_alive.u  : Option (Bool) := law11_alive.s  some
noncomputable def law11_alive.n : En CKMP := mkE CKMP_ok (es := [asm_Text.n, asm_Parse.n, asm_Read.n]) (ms := []) (fuel := ⟨1, fun _ => []⟩) 8 Tryd.f8 [] .bool [] (fun x {Ω} k => law11_alive.s  k) (fun x Ω k => Le.of (by kernel_rfl)) (by kernel_rfl) (by kernel_rfl)

def law11_AsmTells.s {Ω : Type} (x0 : T_s22) (k : Bool → Option Ω) : Option Ω :=
  (asm_Text.u x0).bind fun y1 =>
  (ref11_Text.u x0).bind fun y2 =>
  bif ((y1.1).data.toList == (y2.1).data.toList) then
    bif (y1.2 == y2.2) then
      law11_alive.u.bind fun y3 =>
      k y3
    else
      k false
  else
    k false
def law11_AsmTells.u (x0 : T_s22) : Option (Bool) := law11_AsmTells.s x0 some
noncomputable def law11_AsmTells.n : En CKMP := mkE CKMP_ok (es := [asm_Text.n, ref11_Text.n, law11_alive.n]) (ms := []) (fuel := ⟨1, fun _ => []⟩) 3 Tryd.f3 [.ai E_s22] .bool [] (fun x {Ω} k => law11_AsmTells.s x.1 k) (fun x Ω k => Le.of (by kernel_rfl)) (by kernel_rfl) (by kernel_rfl)

def law11_AsmParses.s {Ω : Type} (x0 : ByteArray) (k : Bool → Option Ω) : Option Ω :=
  bif (decide (((x0).size : Int) > 300)) then
    law11_alive.u.bind fun y1 =>
    k y1
  else
    (asm_Parse.u x0).bind fun y2 =>
    (ref11_Parse.u x0).bind fun y3 =>
    bif (eqI E_s22 y2.1 y3.1) then
      bif (y2.2 == y3.2) then
        law11_alive.u.bind fun y4 =>
        k y4
      else
        k false
    else
      k false
def law11_AsmParses.u (x0 : ByteArray) : Option (Bool) := law11_AsmParses.s x0 some
noncomputable def law11_AsmParses.n : En CKMP := mkE CKMP_ok (es := [law11_alive.n, asm_Parse.n, ref11_Parse.n]) (ms := []) (fuel := ⟨1, fun _ => []⟩) 4 Tryd.f4 [.ai .str] .bool [] (fun x {Ω} k => law11_AsmParses.s x.1 k) (fun x Ω k => Le.of (by kernel_rfl)) (by kernel_rfl) (by kernel_rfl)

def law11_AsmBack.s {Ω : Type} (x0 : T_s22) (x1 : ByteArray) (k : Bool → Option Ω) : Option Ω :=
  bif (decide (((x1).size : Int) > 1000)) then
    law11_alive.u.bind fun y1 =>
    k y1
  else
    (asm_Text.u x0).bind fun y2 =>
    bif (y2.2 == 0) then
      (asm_Parse.u y2.1).bind fun y3 =>
      bif (y3.2 != 0) then
        k false
      else
        bif (!(eqI E_s22 y3.1 x0)) then
          k false
        else
          (asm_Read.u x1).bind fun y4 =>
          bif (y4.2.2 != 0) then
            bif (((List.length y4.1 : Nat) : Int) == 0) then
              law11_alive.u.bind fun y5 =>
              k y5
            else
              k false
          else
            (asm_Print.u y4.1).bind fun y6 =>
            (asm_Read.u y6.1).bind fun y7 =>
            bif (y6.2 == 0) then
              bif (y7.2.2 == 0) then
                bif (y7.2.1 == 0) then
                  (ref11_Same.u y7.1 y4.1).bind fun y8 =>
                  bif y8 then
                    law11_alive.u.bind fun y9 =>
                    k y9
                  else
                    k false
                else
                  k false
              else
                k false
            else
              k false
    else
      (asm_Read.u x1).bind fun y10 =>
      bif (y10.2.2 != 0) then
        bif (((List.length y10.1 : Nat) : Int) == 0) then
          law11_alive.u.bind fun y11 =>
          k y11
        else
          k false
      else
        (asm_Print.u y10.1).bind fun y12 =>
        (asm_Read.u y12.1).bind fun y13 =>
        bif (y12.2 == 0) then
          bif (y13.2.2 == 0) then
            bif (y13.2.1 == 0) then
              (ref11_Same.u y13.1 y10.1).bind fun y14 =>
              bif y14 then
                law11_alive.u.bind fun y15 =>
                k y15
              else
                k false
            else
              k false
          else
            k false
        else
          k false
def law11_AsmBack.u (x0 : T_s22) (x1 : ByteArray) : Option (Bool) := law11_AsmBack.s x0 x1 some
noncomputable def law11_AsmBack.n : En CKMP := mkE CKMP_ok (es := [asm_Text.n, law11_alive.n, asm_Parse.n, asm_Read.n, asm_Print.n, ref11_Same.n]) (ms := []) (fuel := ⟨1, fun _ => []⟩) 5 Tryd.f5 [.ai E_s22, .ai .str] .bool [] (fun x {Ω} k => law11_AsmBack.s x.1 x.2.1 k) (fun x Ω k => Le.of (by kernel_rfl)) (by kernel_rfl) (by kernel_rfl)

end Go.Proofs.YtmmooplcdkmapaaDoor.K

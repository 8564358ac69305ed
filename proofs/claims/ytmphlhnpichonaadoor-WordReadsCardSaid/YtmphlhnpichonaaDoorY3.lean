/- What functions of the program come to. -/
import Derived.Test.YtmphlhnpichonaaDoorQ2
import Derived.Test.YtmphlhnpichonaaDoorP8c
set_option maxRecDepth 100000
set_option linter.unusedVariables false
namespace Go.Proofs.YtmphlhnpichonaaDoor.K
open Go Go.RowKit

/-- becket becketref08.Text -/
def s51 {Ω : Type} (x0 : Int) (k : ByteArray × Int → Option Ω) : Option Ω :=
  bif (!(t53 (x0))) then
    k ((bs []), 8)
  else
    bif (decide (x0 < 0)) then
      bif (p79 ((IntKind.wrap .i64 (0 - x0)))) then
        bif (decide (((bs [45])).size + ((t79 ((IntKind.wrap .i64 (0 - x0))))).size ≤ catMax)) then
          k (((bs [45]) ++ (t79 ((IntKind.wrap .i64 (0 - x0))))), 0)
        else
          none
      else
        none
    else
      bif (p79 (x0)) then
        k ((t79 (x0)), 0)
      else
        none
def t51 (x0 : Int) : ByteArray × Int :=
  bif (!(t53 (x0))) then
    ((bs []), 8)
  else
    bif (decide (x0 < 0)) then
      bif (p79 ((IntKind.wrap .i64 (0 - x0)))) then
        bif (decide (((bs [45])).size + ((t79 ((IntKind.wrap .i64 (0 - x0))))).size ≤ catMax)) then
          (((bs [45]) ++ (t79 ((IntKind.wrap .i64 (0 - x0))))), 0)
        else
          ((bs []), 0)
      else
        ((bs []), 0)
    else
      bif (p79 (x0)) then
        ((t79 (x0)), 0)
      else
        ((bs []), 0)
def p51 (x0 : Int) : Bool :=
  bif (!(t53 (x0))) then
    true
  else
    bif (decide (x0 < 0)) then
      bif (p79 ((IntKind.wrap .i64 (0 - x0)))) then
        bif (decide (((bs [45])).size + ((t79 ((IntKind.wrap .i64 (0 - x0))))).size ≤ catMax)) then
          true
        else
          false
      else
        false
    else
      bif (p79 (x0)) then
        true
      else
        false
theorem v51 {Ω : Type} (x0 : Int) (k : ByteArray × Int → Option Ω) : s51 x0 k = bif p51 x0 then k (t51 x0) else none := by
  delta s51 t51 p51; exact (cond_pre rfl (cond_pre (cond_pre (cond_pre rfl rfl) rfl) (cond_pre rfl rfl)))
noncomputable def sp51 : Spec := (orS 79 (fun {_} => e79) (orS 53 (fun {_} => e53) noS))
theorem ev51 {Ω : Type} (fuel : Fuel) (x0 : Int) (k : AV → Option Ω) : evFn C (fun {_} => sp51) fuel Tryd.f51 (Tryd.f51.body.getD .skip) [.v (.int .i64) x0] k = s51 x0 (fun r => k (.tup [.v .str r.1, .v (.int .i64) r.2])) := by kernel_rfl
theorem c51 (x0 : Int) (hp : p51 x0 = true) : Contract C 51 [.v (.int .i64) x0] (.tup [.v .str (t51 x0).1, .v (.int .i64) (t51 x0).2]) :=
  contract_of (spec := fun {_} => sp51) (fuel := ⟨1, fun _ => []⟩) C_ok (orS_ok e79_ok (orS_ok e53_ok noS_ok)) (by kernel_rfl) (by kernel_rfl) (by kernel_rfl) (by rw [ev51, v51]; rw [hp]; rfl)
noncomputable def e51 : Ent := fun {_} => ent1 (.int .i64) (fun x0 => p51 x0) (fun x0 => .tup [.v .str (t51 x0).1, .v (.int .i64) (t51 x0).2])
theorem e51_ok : EntOK C 51 (fun {_} => e51) := ent1_ok fun x0 h => c51 x0 h

/-- becket becketlaw08.WordOne -/
def s14 {Ω : Type} (x0 : Int) (k : Bool → Option Ω) : Option Ω :=
  bif (p47 (x0)) then
    bif (p49 (x0)) then
      bif (p46 (x0)) then
        bif (p51 (x0)) then
          bif (eqI .bool (t52 (x0)) (t53 (x0))) then
            bif ((t54 (x0)) == (t55 (x0))) then
              bif ((t47 (x0)).1 == (t48 (x0)).1) then
                bif ((t47 (x0)).2 == (t48 (x0)).2) then
                  bif ((t49 (x0)).1 == (t50 (x0)).1) then
                    bif ((t49 (x0)).2 == (t50 (x0)).2) then
                      bif (((t46 (x0)).1).data.toList == ((t51 (x0)).1).data.toList) then
                        bif ((t46 (x0)).2 == (t51 (x0)).2) then
                          bif (p43 ) then
                            k t43
                          else
                            none
                        else
                          k false
                      else
                        k false
                    else
                      k false
                  else
                    k false
                else
                  k false
              else
                k false
            else
              k false
          else
            k false
        else
          none
      else
        none
    else
      none
  else
    none
def t14 (x0 : Int) : Bool :=
  bif (p47 (x0)) then
    bif (p49 (x0)) then
      bif (p46 (x0)) then
        bif (p51 (x0)) then
          bif (eqI .bool (t52 (x0)) (t53 (x0))) then
            bif ((t54 (x0)) == (t55 (x0))) then
              bif ((t47 (x0)).1 == (t48 (x0)).1) then
                bif ((t47 (x0)).2 == (t48 (x0)).2) then
                  bif ((t49 (x0)).1 == (t50 (x0)).1) then
                    bif ((t49 (x0)).2 == (t50 (x0)).2) then
                      bif (((t46 (x0)).1).data.toList == ((t51 (x0)).1).data.toList) then
                        bif ((t46 (x0)).2 == (t51 (x0)).2) then
                          bif (p43 ) then
                            t43
                          else
                            false
                        else
                          false
                      else
                        false
                    else
                      false
                  else
                    false
                else
                  false
              else
                false
            else
              false
          else
            false
        else
          false
      else
        false
    else
      false
  else
    false
def p14 (x0 : Int) : Bool :=
  bif (p47 (x0)) then
    bif (p49 (x0)) then
      bif (p46 (x0)) then
        bif (p51 (x0)) then
          bif (eqI .bool (t52 (x0)) (t53 (x0))) then
            bif ((t54 (x0)) == (t55 (x0))) then
              bif ((t47 (x0)).1 == (t48 (x0)).1) then
                bif ((t47 (x0)).2 == (t48 (x0)).2) then
                  bif ((t49 (x0)).1 == (t50 (x0)).1) then
                    bif ((t49 (x0)).2 == (t50 (x0)).2) then
                      bif (((t46 (x0)).1).data.toList == ((t51 (x0)).1).data.toList) then
                        bif ((t46 (x0)).2 == (t51 (x0)).2) then
                          bif (p43 ) then
                            true
                          else
                            false
                        else
                          true
                      else
                        true
                    else
                      true
                  else
                    true
                else
                  true
              else
                true
            else
              true
          else
            true
        else
          false
      else
        false
    else
      false
  else
    false
theorem v14 {Ω : Type} (x0 : Int) (k : Bool → Option Ω) : s14 x0 k = bif p14 x0 then k (t14 x0) else none := by
  delta s14 t14 p14; exact (cond_pre (cond_pre (cond_pre (cond_pre (cond_pre (cond_pre (cond_pre (cond_pre (cond_pre (cond_pre (cond_pre (cond_pre (cond_pre rfl rfl) rfl) rfl) rfl) rfl) rfl) rfl) rfl) rfl) rfl) rfl) rfl) rfl)
noncomputable def sp14 : Spec := (orS 55 (fun {_} => e55) (orS 54 (fun {_} => e54) (orS 53 (fun {_} => e53) (orS 52 (fun {_} => e52) (orS 51 (fun {_} => e51) (orS 50 (fun {_} => e50) (orS 49 (fun {_} => e49) (orS 48 (fun {_} => e48) (orS 47 (fun {_} => e47) (orS 46 (fun {_} => e46) (orS 43 (fun {_} => e43) noS)))))))))))
theorem ev14 {Ω : Type} (fuel : Fuel) (x0 : Int) (k : AV → Option Ω) : evFn C1 (fun {_} => sp14) fuel Tryd.f14 (Tryd.f14.body.getD .skip) [.v (.int .i64) x0] k = s14 x0 (fun r => k (.v .bool r)) := by kernel_rfl
theorem c14 (x0 : Int) (hp : p14 x0 = true) : Contract C1 14 [.v (.int .i64) x0] (.v .bool (t14 x0)) :=
  contract_of (spec := fun {_} => sp14) (fuel := ⟨1, fun _ => []⟩) C1_ok (orS_ok (e55_ok.mono C_le) (orS_ok (e54_ok.mono C_le) (orS_ok (e53_ok.mono C_le) (orS_ok (e52_ok.mono C_le) (orS_ok (e51_ok.mono C_le) (orS_ok (e50_ok.mono C_le) (orS_ok (e49_ok.mono C_le) (orS_ok (e48_ok.mono C_le) (orS_ok (e47_ok.mono C_le) (orS_ok e46_ok (orS_ok e43_ok noS_ok))))))))))) (by kernel_rfl) (by kernel_rfl) (by kernel_rfl) (by rw [ev14, v14]; rw [hp]; rfl)
noncomputable def e14 : Ent := fun {_} => ent1 (.int .i64) (fun x0 => p14 x0) (fun x0 => .v .bool (t14 x0))
theorem e14_ok : EntOK C1 14 (fun {_} => e14) := ent1_ok fun x0 h => c14 x0 h

end Go.Proofs.YtmphlhnpichonaaDoor.K

/- What functions of the program come to. -/
import Derived.Test.YtmphlhnpichonaaDoorH2
set_option maxRecDepth 100000
set_option linter.unusedVariables false
namespace Go.Proofs.YtmphlhnpichonaaDoor.K
open Go Go.RowKit

/-- becket becketref08.Do -/
def s42 {Ω : Type} (x0 : Int) (x1 : Int) (x2 : Int) (k : Int × Int → Option Ω) : Option Ω :=
  bif (decide (x0 < 1)) then
    k (0, 1)
  else
    bif (decide (x0 > 12)) then
      k (0, 1)
    else
      bif (!(t53 (x1))) then
        k (0, 8)
      else
        bif (!(t53 (x2))) then
          k (0, 8)
        else
          bif (x0 == 4) then
            bif (x2 == 0) then
              k (0, 16)
            else
              bif (x0 == 1) then
                k ((t55 ((IntKind.wrap .i64 (x1 + x2)))), 0)
              else
                bif (x0 == 2) then
                  k ((t55 ((IntKind.wrap .i64 (x1 - x2)))), 0)
                else
                  bif (x0 == 3) then
                    k ((t55 ((IntKind.wrap .i64 (x1 * x2)))), 0)
                  else
                    bif (x0 == 4) then
                      bif (!(x2 == 0)) then
                        k ((t55 ((IntKind.wrap .i64 (Int.tdiv x1 x2)))), 0)
                      else
                        none
                    else
                      bif (x0 == 5) then
                        bif (!(x2 == 0)) then
                          k ((IntKind.wrap .i64 (x1 - (IntKind.wrap .i64 (x2 * (IntKind.wrap .i64 (Int.tdiv x1 x2)))))), 0)
                        else
                          none
                      else
                        bif (x0 == 9) then
                          bif (p70 (x1) ((Int.tmod (t71 (x2)) 32)) (false)) then
                            k ((t70 (x1) ((Int.tmod (t71 (x2)) 32)) (false)), 0)
                          else
                            none
                        else
                          bif (x0 == 10) then
                            bif (p70 (x1) ((Int.tmod (t71 (x2)) 32)) (true)) then
                              k ((t70 (x1) ((Int.tmod (t71 (x2)) 32)) (true)), 0)
                            else
                              none
                          else
                            bif (x0 == 11) then
                              k ((t72 ((decide (x1 < x2)))), 0)
                            else
                              bif (x0 == 12) then
                                k ((t72 ((x1 == x2))), 0)
                              else
                                k ((t73 (x0) (x1) (x2)), 0)
          else
            bif (x0 == 5) then
              bif (x2 == 0) then
                k (0, 16)
              else
                bif (x0 == 1) then
                  k ((t55 ((IntKind.wrap .i64 (x1 + x2)))), 0)
                else
                  bif (x0 == 2) then
                    k ((t55 ((IntKind.wrap .i64 (x1 - x2)))), 0)
                  else
                    bif (x0 == 3) then
                      k ((t55 ((IntKind.wrap .i64 (x1 * x2)))), 0)
                    else
                      bif (x0 == 4) then
                        bif (!(x2 == 0)) then
                          k ((t55 ((IntKind.wrap .i64 (Int.tdiv x1 x2)))), 0)
                        else
                          none
                      else
                        bif (x0 == 5) then
                          bif (!(x2 == 0)) then
                            k ((IntKind.wrap .i64 (x1 - (IntKind.wrap .i64 (x2 * (IntKind.wrap .i64 (Int.tdiv x1 x2)))))), 0)
                          else
                            none
                        else
                          bif (x0 == 9) then
                            bif (p70 (x1) ((Int.tmod (t71 (x2)) 32)) (false)) then
                              k ((t70 (x1) ((Int.tmod (t71 (x2)) 32)) (false)), 0)
                            else
                              none
                          else
                            bif (x0 == 10) then
                              bif (p70 (x1) ((Int.tmod (t71 (x2)) 32)) (true)) then
                                k ((t70 (x1) ((Int.tmod (t71 (x2)) 32)) (true)), 0)
                              else
                                none
                            else
                              bif (x0 == 11) then
                                k ((t72 ((decide (x1 < x2)))), 0)
                              else
                                bif (x0 == 12) then
                                  k ((t72 ((x1 == x2))), 0)
                                else
                                  k ((t73 (x0) (x1) (x2)), 0)
            else
              bif (x0 == 1) then
                k ((t55 ((IntKind.wrap .i64 (x1 + x2)))), 0)
              else
                bif (x0 == 2) then
                  k ((t55 ((IntKind.wrap .i64 (x1 - x2)))), 0)
                else
                  bif (x0 == 3) then
                    k ((t55 ((IntKind.wrap .i64 (x1 * x2)))), 0)
                  else
                    bif (x0 == 4) then
                      bif (!(x2 == 0)) then
                        k ((t55 ((IntKind.wrap .i64 (Int.tdiv x1 x2)))), 0)
                      else
                        none
                    else
                      bif (x0 == 5) then
                        bif (!(x2 == 0)) then
                          k ((IntKind.wrap .i64 (x1 - (IntKind.wrap .i64 (x2 * (IntKind.wrap .i64 (Int.tdiv x1 x2)))))), 0)
                        else
                          none
                      else
                        bif (x0 == 9) then
                          bif (p70 (x1) ((Int.tmod (t71 (x2)) 32)) (false)) then
                            k ((t70 (x1) ((Int.tmod (t71 (x2)) 32)) (false)), 0)
                          else
                            none
                        else
                          bif (x0 == 10) then
                            bif (p70 (x1) ((Int.tmod (t71 (x2)) 32)) (true)) then
                              k ((t70 (x1) ((Int.tmod (t71 (x2)) 32)) (true)), 0)
                            else
                              none
                          else
                            bif (x0 == 11) then
                              k ((t72 ((decide (x1 < x2)))), 0)
                            else
                              bif (x0 == 12) then
                                k ((t72 ((x1 == x2))), 0)
                              else
                                k ((t73 (x0) (x1) (x2)), 0)
def t42 (x0 : Int) (x1 : Int) (x2 : Int) : Int × Int :=
  bif (decide (x0 < 1)) then
    (0, 1)
  else
    bif (decide (x0 > 12)) then
      (0, 1)
    else
      bif (!(t53 (x1))) then
        (0, 8)
      else
        bif (!(t53 (x2))) then
          (0, 8)
        else
          bif (x0 == 4) then
            bif (x2 == 0) then
              (0, 16)
            else
              bif (x0 == 1) then
                ((t55 ((IntKind.wrap .i64 (x1 + x2)))), 0)
              else
                bif (x0 == 2) then
                  ((t55 ((IntKind.wrap .i64 (x1 - x2)))), 0)
                else
                  bif (x0 == 3) then
                    ((t55 ((IntKind.wrap .i64 (x1 * x2)))), 0)
                  else
                    bif (x0 == 4) then
                      bif (!(x2 == 0)) then
                        ((t55 ((IntKind.wrap .i64 (Int.tdiv x1 x2)))), 0)
                      else
                        (0, 0)
                    else
                      bif (x0 == 5) then
                        bif (!(x2 == 0)) then
                          ((IntKind.wrap .i64 (x1 - (IntKind.wrap .i64 (x2 * (IntKind.wrap .i64 (Int.tdiv x1 x2)))))), 0)
                        else
                          (0, 0)
                      else
                        bif (x0 == 9) then
                          bif (p70 (x1) ((Int.tmod (t71 (x2)) 32)) (false)) then
                            ((t70 (x1) ((Int.tmod (t71 (x2)) 32)) (false)), 0)
                          else
                            (0, 0)
                        else
                          bif (x0 == 10) then
                            bif (p70 (x1) ((Int.tmod (t71 (x2)) 32)) (true)) then
                              ((t70 (x1) ((Int.tmod (t71 (x2)) 32)) (true)), 0)
                            else
                              (0, 0)
                          else
                            bif (x0 == 11) then
                              ((t72 ((decide (x1 < x2)))), 0)
                            else
                              bif (x0 == 12) then
                                ((t72 ((x1 == x2))), 0)
                              else
                                ((t73 (x0) (x1) (x2)), 0)
          else
            bif (x0 == 5) then
              bif (x2 == 0) then
                (0, 16)
              else
                bif (x0 == 1) then
                  ((t55 ((IntKind.wrap .i64 (x1 + x2)))), 0)
                else
                  bif (x0 == 2) then
                    ((t55 ((IntKind.wrap .i64 (x1 - x2)))), 0)
                  else
                    bif (x0 == 3) then
                      ((t55 ((IntKind.wrap .i64 (x1 * x2)))), 0)
                    else
                      bif (x0 == 4) then
                        bif (!(x2 == 0)) then
                          ((t55 ((IntKind.wrap .i64 (Int.tdiv x1 x2)))), 0)
                        else
                          (0, 0)
                      else
                        bif (x0 == 5) then
                          bif (!(x2 == 0)) then
                            ((IntKind.wrap .i64 (x1 - (IntKind.wrap .i64 (x2 * (IntKind.wrap .i64 (Int.tdiv x1 x2)))))), 0)
                          else
                            (0, 0)
                        else
                          bif (x0 == 9) then
                            bif (p70 (x1) ((Int.tmod (t71 (x2)) 32)) (false)) then
                              ((t70 (x1) ((Int.tmod (t71 (x2)) 32)) (false)), 0)
                            else
                              (0, 0)
                          else
                            bif (x0 == 10) then
                              bif (p70 (x1) ((Int.tmod (t71 (x2)) 32)) (true)) then
                                ((t70 (x1) ((Int.tmod (t71 (x2)) 32)) (true)), 0)
                              else
                                (0, 0)
                            else
                              bif (x0 == 11) then
                                ((t72 ((decide (x1 < x2)))), 0)
                              else
                                bif (x0 == 12) then
                                  ((t72 ((x1 == x2))), 0)
                                else
                                  ((t73 (x0) (x1) (x2)), 0)
            else
              bif (x0 == 1) then
                ((t55 ((IntKind.wrap .i64 (x1 + x2)))), 0)
              else
                bif (x0 == 2) then
                  ((t55 ((IntKind.wrap .i64 (x1 - x2)))), 0)
                else
                  bif (x0 == 3) then
                    ((t55 ((IntKind.wrap .i64 (x1 * x2)))), 0)
                  else
                    bif (x0 == 4) then
                      bif (!(x2 == 0)) then
                        ((t55 ((IntKind.wrap .i64 (Int.tdiv x1 x2)))), 0)
                      else
                        (0, 0)
                    else
                      bif (x0 == 5) then
                        bif (!(x2 == 0)) then
                          ((IntKind.wrap .i64 (x1 - (IntKind.wrap .i64 (x2 * (IntKind.wrap .i64 (Int.tdiv x1 x2)))))), 0)
                        else
                          (0, 0)
                      else
                        bif (x0 == 9) then
                          bif (p70 (x1) ((Int.tmod (t71 (x2)) 32)) (false)) then
                            ((t70 (x1) ((Int.tmod (t71 (x2)) 32)) (false)), 0)
                          else
                            (0, 0)
                        else
                          bif (x0 == 10) then
                            bif (p70 (x1) ((Int.tmod (t71 (x2)) 32)) (true)) then
                              ((t70 (x1) ((Int.tmod (t71 (x2)) 32)) (true)), 0)
                            else
                              (0, 0)
                          else
                            bif (x0 == 11) then
                              ((t72 ((decide (x1 < x2)))), 0)
                            else
                              bif (x0 == 12) then
                                ((t72 ((x1 == x2))), 0)
                              else
                                ((t73 (x0) (x1) (x2)), 0)
def p42 (x0 : Int) (x1 : Int) (x2 : Int) : Bool :=
  bif (decide (x0 < 1)) then
    true
  else
    bif (decide (x0 > 12)) then
      true
    else
      bif (!(t53 (x1))) then
        true
      else
        bif (!(t53 (x2))) then
          true
        else
          bif (x0 == 4) then
            bif (x2 == 0) then
              true
            else
              bif (x0 == 1) then
                true
              else
                bif (x0 == 2) then
                  true
                else
                  bif (x0 == 3) then
                    true
                  else
                    bif (x0 == 4) then
                      bif (!(x2 == 0)) then
                        true
                      else
                        false
                    else
                      bif (x0 == 5) then
                        bif (!(x2 == 0)) then
                          true
                        else
                          false
                      else
                        bif (x0 == 9) then
                          bif (p70 (x1) ((Int.tmod (t71 (x2)) 32)) (false)) then
                            true
                          else
                            false
                        else
                          bif (x0 == 10) then
                            bif (p70 (x1) ((Int.tmod (t71 (x2)) 32)) (true)) then
                              true
                            else
                              false
                          else
                            bif (x0 == 11) then
                              true
                            else
                              bif (x0 == 12) then
                                true
                              else
                                true
          else
            bif (x0 == 5) then
              bif (x2 == 0) then
                true
              else
                bif (x0 == 1) then
                  true
                else
                  bif (x0 == 2) then
                    true
                  else
                    bif (x0 == 3) then
                      true
                    else
                      bif (x0 == 4) then
                        bif (!(x2 == 0)) then
                          true
                        else
                          false
                      else
                        bif (x0 == 5) then
                          bif (!(x2 == 0)) then
                            true
                          else
                            false
                        else
                          bif (x0 == 9) then
                            bif (p70 (x1) ((Int.tmod (t71 (x2)) 32)) (false)) then
                              true
                            else
                              false
                          else
                            bif (x0 == 10) then
                              bif (p70 (x1) ((Int.tmod (t71 (x2)) 32)) (true)) then
                                true
                              else
                                false
                            else
                              bif (x0 == 11) then
                                true
                              else
                                bif (x0 == 12) then
                                  true
                                else
                                  true
            else
              bif (x0 == 1) then
                true
              else
                bif (x0 == 2) then
                  true
                else
                  bif (x0 == 3) then
                    true
                  else
                    bif (x0 == 4) then
                      bif (!(x2 == 0)) then
                        true
                      else
                        false
                    else
                      bif (x0 == 5) then
                        bif (!(x2 == 0)) then
                          true
                        else
                          false
                      else
                        bif (x0 == 9) then
                          bif (p70 (x1) ((Int.tmod (t71 (x2)) 32)) (false)) then
                            true
                          else
                            false
                        else
                          bif (x0 == 10) then
                            bif (p70 (x1) ((Int.tmod (t71 (x2)) 32)) (true)) then
                              true
                            else
                              false
                          else
                            bif (x0 == 11) then
                              true
                            else
                              bif (x0 == 12) then
                                true
                              else
                                true
theorem v42 {Ω : Type} (x0 : Int) (x1 : Int) (x2 : Int) (k : Int × Int → Option Ω) : s42 x0 x1 x2 k = bif p42 x0 x1 x2 then k (t42 x0 x1 x2) else none := by
  delta s42 t42 p42; exact (cond_pre rfl (cond_pre rfl (cond_pre rfl (cond_pre rfl (cond_pre (cond_pre rfl (cond_pre rfl (cond_pre rfl (cond_pre rfl (cond_pre (cond_pre rfl rfl) (cond_pre (cond_pre rfl rfl) (cond_pre (cond_pre rfl rfl) (cond_pre (cond_pre rfl rfl) (cond_pre rfl (cond_pre rfl rfl)))))))))) (cond_pre (cond_pre rfl (cond_pre rfl (cond_pre rfl (cond_pre rfl (cond_pre (cond_pre rfl rfl) (cond_pre (cond_pre rfl rfl) (cond_pre (cond_pre rfl rfl) (cond_pre (cond_pre rfl rfl) (cond_pre rfl (cond_pre rfl rfl)))))))))) (cond_pre rfl (cond_pre rfl (cond_pre rfl (cond_pre (cond_pre rfl rfl) (cond_pre (cond_pre rfl rfl) (cond_pre (cond_pre rfl rfl) (cond_pre (cond_pre rfl rfl) (cond_pre rfl (cond_pre rfl rfl)))))))))))))))
noncomputable def sp42 : Spec := (orS 73 (fun {_} => e73) (orS 72 (fun {_} => e72) (orS 71 (fun {_} => e71) (orS 70 (fun {_} => e70) (orS 55 (fun {_} => e55) (orS 53 (fun {_} => e53) noS))))))
theorem ev42 {Ω : Type} (fuel : Fuel) (x0 : Int) (x1 : Int) (x2 : Int) (k : AV → Option Ω) : evFn C (fun {_} => sp42) fuel Tryd.f42 (Tryd.f42.body.getD .skip) [.v (.int .i64) x0, .v (.int .i64) x1, .v (.int .i64) x2] k = s42 x0 x1 x2 (fun r => k (.tup [.v (.int .i64) r.1, .v (.int .i64) r.2])) := by kernel_rfl
theorem c42 (x0 : Int) (x1 : Int) (x2 : Int) (hp : p42 x0 x1 x2 = true) : Contract C 42 [.v (.int .i64) x0, .v (.int .i64) x1, .v (.int .i64) x2] (.tup [.v (.int .i64) (t42 x0 x1 x2).1, .v (.int .i64) (t42 x0 x1 x2).2]) :=
  contract_of (spec := fun {_} => sp42) (fuel := ⟨1, fun _ => []⟩) C_ok (orS_ok e73_ok (orS_ok e72_ok (orS_ok e71_ok (orS_ok e70_ok (orS_ok e55_ok (orS_ok e53_ok noS_ok)))))) (by kernel_rfl) (by kernel_rfl) (by kernel_rfl) (by rw [ev42, v42]; rw [hp]; rfl)
noncomputable def e42 : Ent := fun {_} => ent3 (.int .i64) (.int .i64) (.int .i64) (fun x0 x1 x2 => p42 x0 x1 x2) (fun x0 x1 x2 => .tup [.v (.int .i64) (t42 x0 x1 x2).1, .v (.int .i64) (t42 x0 x1 x2).2])
theorem e42_ok : EntOK C 42 (fun {_} => e42) := ent3_ok fun x0 x1 x2 h => c42 x0 x1 x2 h

/-- becket word.Parse -/
def s44 {Ω : Type} (x0 : ByteArray) (k : Int × Int → Option Ω) : Option Ω :=
  bif (p74 (x0) ((bs [45]))) then
    bif (p75 ((t74 (x0) ((bs [45]))).1)) then
      bif (!(t75 ((t74 (x0) ((bs [45]))).1))) then
        k (0, 3)
      else
        bif (t74 (x0) ((bs [45]))).2 then
          bif (((t74 (x0) ((bs [45]))).1).data.toList == ((bs [48])).data.toList) then
            k (0, 3)
          else
            bif (decide ((((t74 (x0) ((bs [45]))).1).size : Int) ≤ 10)) then
              bif (p76 ((t74 (x0) ((bs [45]))).1)) then
                bif (t74 (x0) ((bs [45]))).2 then
                  bif (!(t52 ((IntKind.wrap .i64 (0 - (t76 ((t74 (x0) ((bs [45]))).1)).1))))) then
                    k (0, 8)
                  else
                    k ((IntKind.wrap .i64 (0 - (t76 ((t74 (x0) ((bs [45]))).1)).1)), 0)
                else
                  bif (!(t52 ((t76 ((t74 (x0) ((bs [45]))).1)).1))) then
                    k (0, 8)
                  else
                    k ((t76 ((t74 (x0) ((bs [45]))).1)).1, 0)
              else
                none
            else
              bif (t74 (x0) ((bs [45]))).2 then
                bif (!(t52 ((-2147483649)))) then
                  k (0, 8)
                else
                  k ((-2147483649), 0)
              else
                bif (!(t52 (2147483649))) then
                  k (0, 8)
                else
                  k (2147483649, 0)
        else
          bif (decide ((((t74 (x0) ((bs [45]))).1).size : Int) ≤ 10)) then
            bif (p76 ((t74 (x0) ((bs [45]))).1)) then
              bif (t74 (x0) ((bs [45]))).2 then
                bif (!(t52 ((IntKind.wrap .i64 (0 - (t76 ((t74 (x0) ((bs [45]))).1)).1))))) then
                  k (0, 8)
                else
                  k ((IntKind.wrap .i64 (0 - (t76 ((t74 (x0) ((bs [45]))).1)).1)), 0)
              else
                bif (!(t52 ((t76 ((t74 (x0) ((bs [45]))).1)).1))) then
                  k (0, 8)
                else
                  k ((t76 ((t74 (x0) ((bs [45]))).1)).1, 0)
            else
              none
          else
            bif (t74 (x0) ((bs [45]))).2 then
              bif (!(t52 ((-2147483649)))) then
                k (0, 8)
              else
                k ((-2147483649), 0)
            else
              bif (!(t52 (2147483649))) then
                k (0, 8)
              else
                k (2147483649, 0)
    else
      none
  else
    none
def t44 (x0 : ByteArray) : Int × Int :=
  bif (p74 (x0) ((bs [45]))) then
    bif (p75 ((t74 (x0) ((bs [45]))).1)) then
      bif (!(t75 ((t74 (x0) ((bs [45]))).1))) then
        (0, 3)
      else
        bif (t74 (x0) ((bs [45]))).2 then
          bif (((t74 (x0) ((bs [45]))).1).data.toList == ((bs [48])).data.toList) then
            (0, 3)
          else
            bif (decide ((((t74 (x0) ((bs [45]))).1).size : Int) ≤ 10)) then
              bif (p76 ((t74 (x0) ((bs [45]))).1)) then
                bif (t74 (x0) ((bs [45]))).2 then
                  bif (!(t52 ((IntKind.wrap .i64 (0 - (t76 ((t74 (x0) ((bs [45]))).1)).1))))) then
                    (0, 8)
                  else
                    ((IntKind.wrap .i64 (0 - (t76 ((t74 (x0) ((bs [45]))).1)).1)), 0)
                else
                  bif (!(t52 ((t76 ((t74 (x0) ((bs [45]))).1)).1))) then
                    (0, 8)
                  else
                    ((t76 ((t74 (x0) ((bs [45]))).1)).1, 0)
              else
                (0, 0)
            else
              bif (t74 (x0) ((bs [45]))).2 then
                bif (!(t52 ((-2147483649)))) then
                  (0, 8)
                else
                  ((-2147483649), 0)
              else
                bif (!(t52 (2147483649))) then
                  (0, 8)
                else
                  (2147483649, 0)
        else
          bif (decide ((((t74 (x0) ((bs [45]))).1).size : Int) ≤ 10)) then
            bif (p76 ((t74 (x0) ((bs [45]))).1)) then
              bif (t74 (x0) ((bs [45]))).2 then
                bif (!(t52 ((IntKind.wrap .i64 (0 - (t76 ((t74 (x0) ((bs [45]))).1)).1))))) then
                  (0, 8)
                else
                  ((IntKind.wrap .i64 (0 - (t76 ((t74 (x0) ((bs [45]))).1)).1)), 0)
              else
                bif (!(t52 ((t76 ((t74 (x0) ((bs [45]))).1)).1))) then
                  (0, 8)
                else
                  ((t76 ((t74 (x0) ((bs [45]))).1)).1, 0)
            else
              (0, 0)
          else
            bif (t74 (x0) ((bs [45]))).2 then
              bif (!(t52 ((-2147483649)))) then
                (0, 8)
              else
                ((-2147483649), 0)
            else
              bif (!(t52 (2147483649))) then
                (0, 8)
              else
                (2147483649, 0)
    else
      (0, 0)
  else
    (0, 0)
def p44 (x0 : ByteArray) : Bool :=
  bif (p74 (x0) ((bs [45]))) then
    bif (p75 ((t74 (x0) ((bs [45]))).1)) then
      bif (!(t75 ((t74 (x0) ((bs [45]))).1))) then
        true
      else
        bif (t74 (x0) ((bs [45]))).2 then
          bif (((t74 (x0) ((bs [45]))).1).data.toList == ((bs [48])).data.toList) then
            true
          else
            bif (decide ((((t74 (x0) ((bs [45]))).1).size : Int) ≤ 10)) then
              bif (p76 ((t74 (x0) ((bs [45]))).1)) then
                bif (t74 (x0) ((bs [45]))).2 then
                  bif (!(t52 ((IntKind.wrap .i64 (0 - (t76 ((t74 (x0) ((bs [45]))).1)).1))))) then
                    true
                  else
                    true
                else
                  bif (!(t52 ((t76 ((t74 (x0) ((bs [45]))).1)).1))) then
                    true
                  else
                    true
              else
                false
            else
              bif (t74 (x0) ((bs [45]))).2 then
                bif (!(t52 ((-2147483649)))) then
                  true
                else
                  true
              else
                bif (!(t52 (2147483649))) then
                  true
                else
                  true
        else
          bif (decide ((((t74 (x0) ((bs [45]))).1).size : Int) ≤ 10)) then
            bif (p76 ((t74 (x0) ((bs [45]))).1)) then
              bif (t74 (x0) ((bs [45]))).2 then
                bif (!(t52 ((IntKind.wrap .i64 (0 - (t76 ((t74 (x0) ((bs [45]))).1)).1))))) then
                  true
                else
                  true
              else
                bif (!(t52 ((t76 ((t74 (x0) ((bs [45]))).1)).1))) then
                  true
                else
                  true
            else
              false
          else
            bif (t74 (x0) ((bs [45]))).2 then
              bif (!(t52 ((-2147483649)))) then
                true
              else
                true
            else
              bif (!(t52 (2147483649))) then
                true
              else
                true
    else
      false
  else
    false
theorem v44 {Ω : Type} (x0 : ByteArray) (k : Int × Int → Option Ω) : s44 x0 k = bif p44 x0 then k (t44 x0) else none := by
  delta s44 t44 p44; exact (cond_pre (cond_pre (cond_pre rfl (cond_pre (cond_pre rfl (cond_pre (cond_pre (cond_pre (cond_pre rfl rfl) (cond_pre rfl rfl)) rfl) (cond_pre (cond_pre rfl rfl) (cond_pre rfl rfl)))) (cond_pre (cond_pre (cond_pre (cond_pre rfl rfl) (cond_pre rfl rfl)) rfl) (cond_pre (cond_pre rfl rfl) (cond_pre rfl rfl))))) rfl) rfl)
noncomputable def sp44 : Spec := (orS 76 (fun {_} => e76) (orS 75 (fun {_} => e75) (orS 74 (fun {_} => e74) (orS 52 (fun {_} => e52) noS))))
theorem ev44 {Ω : Type} (fuel : Fuel) (x0 : ByteArray) (k : AV → Option Ω) : evFn C (fun {_} => sp44) fuel Tryd.f44 (Tryd.f44.body.getD .skip) [.v .str x0] k = s44 x0 (fun r => k (.tup [.v (.int .i64) r.1, .v (.int .i64) r.2])) := by kernel_rfl
theorem c44 (x0 : ByteArray) (hp : p44 x0 = true) : Contract C 44 [.v .str x0] (.tup [.v (.int .i64) (t44 x0).1, .v (.int .i64) (t44 x0).2]) :=
  contract_of (spec := fun {_} => sp44) (fuel := ⟨1, fun _ => []⟩) C_ok (orS_ok e76_ok (orS_ok e75_ok (orS_ok e74_ok (orS_ok e52_ok noS_ok)))) (by kernel_rfl) (by kernel_rfl) (by kernel_rfl) (by rw [ev44, v44]; rw [hp]; rfl)
noncomputable def e44 : Ent := fun {_} => ent1 .str (fun x0 => p44 x0) (fun x0 => .tup [.v (.int .i64) (t44 x0).1, .v (.int .i64) (t44 x0).2])
theorem e44_ok : EntOK C 44 (fun {_} => e44) := ent1_ok fun x0 h => c44 x0 h

/-- becket becketlaw08.alive -/
def s43 {Ω : Type}  (k : Bool → Option Ω) : Option Ω :=
  bif (p41 (1) (2147483647) (1)) then
    bif (p41 (4) ((-7)) (2)) then
      bif (p41 (10) ((-8)) (1)) then
        bif (p41 (5) (1) (0)) then
          bif (p46 ((-12))) then
            bif (p44 ((bs [45, 49, 50]))) then
              bif ((t41 (1) (2147483647) (1)).1 == (-2147483648)) then
                bif ((t41 (1) (2147483647) (1)).2 == 0) then
                  bif ((t41 (4) ((-7)) (2)).1 == (-3)) then
                    bif ((t41 (4) ((-7)) (2)).2 == 0) then
                      bif ((t41 (10) ((-8)) (1)).1 == (-4)) then
                        bif ((t41 (10) ((-8)) (1)).2 == 0) then
                          bif ((t41 (5) (1) (0)).2 == 16) then
                            bif (((t46 ((-12))).1).data.toList == ((bs [45, 49, 50])).data.toList) then
                              bif ((t46 ((-12))).2 == 0) then
                                bif ((t44 ((bs [45, 49, 50]))).1 == (-12)) then
                                  bif ((t44 ((bs [45, 49, 50]))).2 == 0) then
                                    k (bif (t52 ((t41 (1) (2147483647) (1)).1)) then true else false)
                                  else
                                    k false
                                else
                                  k false
                              else
                                k false
                            else
                              k false
                          else
                            k false
                        else
                          k false
                      else
                        k false
                    else
                      k false
                  else
                    k false
                else
                  k false
              else
                k false
            else
              none
          else
            none
        else
          none
      else
        none
    else
      none
  else
    none
def t43  : Bool :=
  bif (p41 (1) (2147483647) (1)) then
    bif (p41 (4) ((-7)) (2)) then
      bif (p41 (10) ((-8)) (1)) then
        bif (p41 (5) (1) (0)) then
          bif (p46 ((-12))) then
            bif (p44 ((bs [45, 49, 50]))) then
              bif ((t41 (1) (2147483647) (1)).1 == (-2147483648)) then
                bif ((t41 (1) (2147483647) (1)).2 == 0) then
                  bif ((t41 (4) ((-7)) (2)).1 == (-3)) then
                    bif ((t41 (4) ((-7)) (2)).2 == 0) then
                      bif ((t41 (10) ((-8)) (1)).1 == (-4)) then
                        bif ((t41 (10) ((-8)) (1)).2 == 0) then
                          bif ((t41 (5) (1) (0)).2 == 16) then
                            bif (((t46 ((-12))).1).data.toList == ((bs [45, 49, 50])).data.toList) then
                              bif ((t46 ((-12))).2 == 0) then
                                bif ((t44 ((bs [45, 49, 50]))).1 == (-12)) then
                                  bif ((t44 ((bs [45, 49, 50]))).2 == 0) then
                                    (bif (t52 ((t41 (1) (2147483647) (1)).1)) then true else false)
                                  else
                                    false
                                else
                                  false
                              else
                                false
                            else
                              false
                          else
                            false
                        else
                          false
                      else
                        false
                    else
                      false
                  else
                    false
                else
                  false
              else
                false
            else
              false
          else
            false
        else
          false
      else
        false
    else
      false
  else
    false
def p43  : Bool :=
  bif (p41 (1) (2147483647) (1)) then
    bif (p41 (4) ((-7)) (2)) then
      bif (p41 (10) ((-8)) (1)) then
        bif (p41 (5) (1) (0)) then
          bif (p46 ((-12))) then
            bif (p44 ((bs [45, 49, 50]))) then
              bif ((t41 (1) (2147483647) (1)).1 == (-2147483648)) then
                bif ((t41 (1) (2147483647) (1)).2 == 0) then
                  bif ((t41 (4) ((-7)) (2)).1 == (-3)) then
                    bif ((t41 (4) ((-7)) (2)).2 == 0) then
                      bif ((t41 (10) ((-8)) (1)).1 == (-4)) then
                        bif ((t41 (10) ((-8)) (1)).2 == 0) then
                          bif ((t41 (5) (1) (0)).2 == 16) then
                            bif (((t46 ((-12))).1).data.toList == ((bs [45, 49, 50])).data.toList) then
                              bif ((t46 ((-12))).2 == 0) then
                                bif ((t44 ((bs [45, 49, 50]))).1 == (-12)) then
                                  bif ((t44 ((bs [45, 49, 50]))).2 == 0) then
                                    true
                                  else
                                    true
                                else
                                  true
                              else
                                true
                            else
                              true
                          else
                            true
                        else
                          true
                      else
                        true
                    else
                      true
                  else
                    true
                else
                  true
              else
                true
            else
              false
          else
            false
        else
          false
      else
        false
    else
      false
  else
    false
theorem v43 {Ω : Type}  (k : Bool → Option Ω) : s43  k = bif p43  then k (t43 ) else none := by
  delta s43 t43 p43; exact (cond_pre (cond_pre (cond_pre (cond_pre (cond_pre (cond_pre (cond_pre (cond_pre (cond_pre (cond_pre (cond_pre (cond_pre (cond_pre (cond_pre (cond_pre (cond_pre (cond_pre rfl rfl) rfl) rfl) rfl) rfl) rfl) rfl) rfl) rfl) rfl) rfl) rfl) rfl) rfl) rfl) rfl) rfl)
noncomputable def sp43 : Spec := (orS 52 (fun {_} => e52) (orS 46 (fun {_} => e46) (orS 44 (fun {_} => e44) (orS 41 (fun {_} => e41) noS))))
theorem ev43 {Ω : Type} (fuel : Fuel)  (k : AV → Option Ω) : evFn C1 (fun {_} => sp43) fuel Tryd.f43 (Tryd.f43.body.getD .skip) [] k = s43  (fun r => k (.v .bool r)) := by kernel_rfl
theorem c43  (hp : p43  = true) : Contract C1 43 [] (.v .bool (t43 )) :=
  contract_of (spec := fun {_} => sp43) (fuel := ⟨1, fun _ => []⟩) C1_ok (orS_ok (e52_ok.mono C_le) (orS_ok e46_ok (orS_ok (e44_ok.mono C_le) (orS_ok (e41_ok.mono C_le) noS_ok)))) (by kernel_rfl) (by kernel_rfl) (by kernel_rfl) (by rw [ev43, v43]; rw [hp]; rfl)
noncomputable def e43 : Ent := fun {_} => ent0  (p43 ) (.v .bool (t43 ))
theorem e43_ok : EntOK C1 43 (fun {_} => e43) := ent0_ok fun h => c43 h

/-- becket becketlaw08.WordDoes -/
def s11 {Ω : Type} (x0 : Int) (x1 : Int) (x2 : Int) (k : Bool → Option Ω) : Option Ω :=
  bif (p41 (x0) (x1) (x2)) then
    bif (p42 (x0) (x1) (x2)) then
      bif ((t41 (x0) (x1) (x2)).1 == (t42 (x0) (x1) (x2)).1) then
        bif ((t41 (x0) (x1) (x2)).2 == (t42 (x0) (x1) (x2)).2) then
          bif (p43 ) then
            k t43
          else
            none
        else
          k false
      else
        k false
    else
      none
  else
    none
def t11 (x0 : Int) (x1 : Int) (x2 : Int) : Bool :=
  bif (p41 (x0) (x1) (x2)) then
    bif (p42 (x0) (x1) (x2)) then
      bif ((t41 (x0) (x1) (x2)).1 == (t42 (x0) (x1) (x2)).1) then
        bif ((t41 (x0) (x1) (x2)).2 == (t42 (x0) (x1) (x2)).2) then
          bif (p43 ) then
            t43
          else
            false
        else
          false
      else
        false
    else
      false
  else
    false
def p11 (x0 : Int) (x1 : Int) (x2 : Int) : Bool :=
  bif (p41 (x0) (x1) (x2)) then
    bif (p42 (x0) (x1) (x2)) then
      bif ((t41 (x0) (x1) (x2)).1 == (t42 (x0) (x1) (x2)).1) then
        bif ((t41 (x0) (x1) (x2)).2 == (t42 (x0) (x1) (x2)).2) then
          bif (p43 ) then
            true
          else
            false
        else
          true
      else
        true
    else
      false
  else
    false
theorem v11 {Ω : Type} (x0 : Int) (x1 : Int) (x2 : Int) (k : Bool → Option Ω) : s11 x0 x1 x2 k = bif p11 x0 x1 x2 then k (t11 x0 x1 x2) else none := by
  delta s11 t11 p11; exact (cond_pre (cond_pre (cond_pre (cond_pre (cond_pre rfl rfl) rfl) rfl) rfl) rfl)
noncomputable def sp11 : Spec := (orS 43 (fun {_} => e43) (orS 42 (fun {_} => e42) (orS 41 (fun {_} => e41) noS)))
theorem ev11 {Ω : Type} (fuel : Fuel) (x0 : Int) (x1 : Int) (x2 : Int) (k : AV → Option Ω) : evFn C1 (fun {_} => sp11) fuel Tryd.f11 (Tryd.f11.body.getD .skip) [.v (.int .i64) x0, .v (.int .i64) x1, .v (.int .i64) x2] k = s11 x0 x1 x2 (fun r => k (.v .bool r)) := by kernel_rfl
theorem c11 (x0 : Int) (x1 : Int) (x2 : Int) (hp : p11 x0 x1 x2 = true) : Contract C1 11 [.v (.int .i64) x0, .v (.int .i64) x1, .v (.int .i64) x2] (.v .bool (t11 x0 x1 x2)) :=
  contract_of (spec := fun {_} => sp11) (fuel := ⟨1, fun _ => []⟩) C1_ok (orS_ok e43_ok (orS_ok (e42_ok.mono C_le) (orS_ok (e41_ok.mono C_le) noS_ok))) (by kernel_rfl) (by kernel_rfl) (by kernel_rfl) (by rw [ev11, v11]; rw [hp]; rfl)
noncomputable def e11 : Ent := fun {_} => ent3 (.int .i64) (.int .i64) (.int .i64) (fun x0 x1 x2 => p11 x0 x1 x2) (fun x0 x1 x2 => .v .bool (t11 x0 x1 x2))
theorem e11_ok : EntOK C1 11 (fun {_} => e11) := ent3_ok fun x0 x1 x2 h => c11 x0 x1 x2 h

end Go.Proofs.YtmphlhnpichonaaDoor.K

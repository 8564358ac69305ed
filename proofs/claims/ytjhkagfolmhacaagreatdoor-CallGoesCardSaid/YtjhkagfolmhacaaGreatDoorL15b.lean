/- What a process asks for, plainly: deeds that wait for nothing, and for one thing. -/
import Derived.Test.YtjhkagfolmhacaaGreatDoorL15a
set_option maxRecDepth 100000
set_option linter.unusedVariables false
set_option linter.unusedSimpArgs false
namespace Go.Proofs.YtjhkagfolmhacaaGreatDoor.K
open Go

/-- What is behind the question who asks. -/
def ofB (x0 : List In) (x1 : Fr) (x2 : Int) (y1 : In × Int) : Option (AskT × Int) :=
    bif (y1.2 != 0) then
      some ((0, (0, (0, (0, (0, ([], ())))))), y1.2)
    else
      bif (y1.1.1 == 41) then
        (call_asker_some.u ((y1.1, (x1, (x2, ())))) x0).bind fun y2 =>
        let v3 : AskT := ((IntKind.wrap .i64 y1.1.1), ((IntKind.wrap .i64 y1.1.2.1), (0, (0, ((IntKind.wrap .i64 y1.1.2.2.1), (y2, ()))))))
        some (v3, 0)
      else
        bif (call_waits.t y1.1) then
          (call_asker_one.u ((y1.1, (x1, (x2, ()))))).bind fun y4 =>
          some (((IntKind.wrap .i64 y1.1.1), ((-1), (0, (0, (0, ([y4], ())))))), 0)
        else
          bif (y1.1.1 == 27) then
            bif (idxOK y1.1.2.1 8) then
              let v5 : AskT := ((IntKind.wrap .i64 y1.1.1), ((-1), (0, ((List.getD x1.2.2.1 (Int.toNat y1.1.2.1) 0), (0, ([], ()))))))
              some (v5, 0)
            else
              none
          else
            bif (y1.1.1 == 28) then
              some (((IntKind.wrap .i64 y1.1.1), ((IntKind.wrap .i64 y1.1.2.1), (0, (0, (0, ([], ())))))), 0)
            else
              bif (y1.1.1 == 29) then
                some (((IntKind.wrap .i64 y1.1.1), ((IntKind.wrap .i64 y1.1.2.1), (0, (0, (0, ([], ())))))), 0)
              else
                bif (y1.1.1 == 30) then
                  bif (idxOK y1.1.2.2.2.1 8) then
                    let v6 : AskT := ((IntKind.wrap .i64 y1.1.1), ((IntKind.wrap .i64 y1.1.2.1), ((IntKind.wrap .i64 y1.1.2.2.1), ((List.getD x1.2.2.1 (Int.toNat y1.1.2.2.2.1) 0), (0, ([], ()))))))
                    some (v6, 0)
                  else
                    none
                else
                  bif (y1.1.1 == 35) then
                    bif (idxOK y1.1.2.2.1 8) then
                      let v7 : AskT := ((IntKind.wrap .i64 y1.1.1), ((-1), ((IntKind.wrap .i64 y1.1.2.1), ((List.getD x1.2.2.1 (Int.toNat y1.1.2.2.1) 0), (0, ([], ()))))))
                      some (v7, 0)
                    else
                      none
                  else
                    bif (y1.1.1 == 40) then
                      let v8 : AskT := ((IntKind.wrap .i64 y1.1.1), ((IntKind.wrap .i64 y1.1.2.1), ((IntKind.wrap .i64 y1.1.2.2.1), (0, (0, ([], ()))))))
                      some (v8, 0)
                    else
                      bif (y1.1.1 == 46) then
                        let v9 : AskT := ((IntKind.wrap .i64 y1.1.1), ((IntKind.wrap .i64 y1.1.2.1), ((IntKind.wrap .i64 y1.1.2.2.1), (0, (0, ([], ()))))))
                        some (v9, 0)
                      else
                        bif (y1.1.1 == 47) then
                          let v10 : AskT := ((IntKind.wrap .i64 y1.1.1), ((IntKind.wrap .i64 y1.1.2.1), ((IntKind.wrap .i64 y1.1.2.2.1), (0, (0, ([], ()))))))
                          some (v10, 0)
                        else
                          some (((IntKind.wrap .i64 y1.1.1), ((-1), ((IntKind.wrap .i64 y1.1.2.1), (0, (0, ([], ())))))), 0)
def refB (x0 : List In) (x1 : Fr) (x2 : Int) (y1 : In × Int) : Option (AskT × Int) :=
    bif (y1.2 != 0) then
      some ((0, (0, (0, (0, (0, ([], ())))))), y1.2)
    else
      (ref09_Of.u (IntKind.wrap .i64 y1.1.1)).bind fun y2 =>
      bif ((y2.1).data.toList == ((bs [101, 109, 105, 116])).data.toList) then
        bif (idxOK y1.1.2.1 8) then
          bif (ref15_Waits.t y2.1) then
            (ref15_guards.u x0 x1 x2).bind fun y3 =>
            let v4 : AskT := ((IntKind.wrap .i64 y1.1.1), ((-1), (0, ((List.getD x1.2.2.1 (Int.toNat y1.1.2.1) 0), (0, (y3, ()))))))
            some (v4, 0)
          else
            let v5 : AskT := ((IntKind.wrap .i64 y1.1.1), ((-1), (0, ((List.getD x1.2.2.1 (Int.toNat y1.1.2.1) 0), (0, ([], ()))))))
            some (v5, 0)
        else
          none
      else
        bif ((y2.1).data.toList == ((bs [110, 111, 119])).data.toList) then
          bif (ref15_Waits.t y2.1) then
            (ref15_guards.u x0 x1 x2).bind fun y6 =>
            some (((IntKind.wrap .i64 y1.1.1), ((IntKind.wrap .i64 y1.1.2.1), (0, (0, (0, (y6, ())))))), 0)
          else
            some (((IntKind.wrap .i64 y1.1.1), ((IntKind.wrap .i64 y1.1.2.1), (0, (0, (0, ([], ())))))), 0)
        else
          bif ((y2.1).data.toList == ((bs [109, 101])).data.toList) then
            bif (ref15_Waits.t y2.1) then
              (ref15_guards.u x0 x1 x2).bind fun y7 =>
              some (((IntKind.wrap .i64 y1.1.1), ((IntKind.wrap .i64 y1.1.2.1), (0, (0, (0, (y7, ())))))), 0)
            else
              some (((IntKind.wrap .i64 y1.1.1), ((IntKind.wrap .i64 y1.1.2.1), (0, (0, (0, ([], ())))))), 0)
          else
            bif ((y2.1).data.toList == ((bs [115, 112, 97, 119, 110])).data.toList) then
              bif (idxOK y1.1.2.2.2.1 8) then
                bif (ref15_Waits.t y2.1) then
                  (ref15_guards.u x0 x1 x2).bind fun y8 =>
                  let v9 : AskT := ((IntKind.wrap .i64 y1.1.1), ((IntKind.wrap .i64 y1.1.2.1), ((IntKind.wrap .i64 y1.1.2.2.1), ((List.getD x1.2.2.1 (Int.toNat y1.1.2.2.2.1) 0), (0, (y8, ()))))))
                  some (v9, 0)
                else
                  let v10 : AskT := ((IntKind.wrap .i64 y1.1.1), ((IntKind.wrap .i64 y1.1.2.1), ((IntKind.wrap .i64 y1.1.2.2.1), ((List.getD x1.2.2.1 (Int.toNat y1.1.2.2.2.1) 0), (0, ([], ()))))))
                  some (v10, 0)
              else
                none
            else
              bif ((y2.1).data.toList == ((bs [112, 111, 105, 115, 111, 110])).data.toList) then
                bif (idxOK y1.1.2.2.1 8) then
                  bif (ref15_Waits.t y2.1) then
                    (ref15_guards.u x0 x1 x2).bind fun y11 =>
                    let v12 : AskT := ((IntKind.wrap .i64 y1.1.1), ((-1), ((IntKind.wrap .i64 y1.1.2.1), ((List.getD x1.2.2.1 (Int.toNat y1.1.2.2.1) 0), (0, (y11, ()))))))
                    some (v12, 0)
                  else
                    let v13 : AskT := ((IntKind.wrap .i64 y1.1.1), ((-1), ((IntKind.wrap .i64 y1.1.2.1), ((List.getD x1.2.2.1 (Int.toNat y1.1.2.2.1) 0), (0, ([], ()))))))
                    some (v13, 0)
                else
                  none
              else
                bif ((y2.1).data.toList == ((bs [101, 110, 114, 111, 108])).data.toList) then
                  bif (ref15_Waits.t y2.1) then
                    (ref15_guards.u x0 x1 x2).bind fun y14 =>
                    some (((IntKind.wrap .i64 y1.1.1), ((-1), ((IntKind.wrap .i64 y1.1.2.1), (0, (0, (y14, ())))))), 0)
                  else
                    some (((IntKind.wrap .i64 y1.1.1), ((-1), ((IntKind.wrap .i64 y1.1.2.1), (0, (0, ([], ())))))), 0)
                else
                  bif ((y2.1).data.toList == ((bs [114, 101, 115, 105, 103, 110])).data.toList) then
                    bif (ref15_Waits.t y2.1) then
                      (ref15_guards.u x0 x1 x2).bind fun y15 =>
                      some (((IntKind.wrap .i64 y1.1.1), ((-1), ((IntKind.wrap .i64 y1.1.2.1), (0, (0, (y15, ())))))), 0)
                    else
                      some (((IntKind.wrap .i64 y1.1.1), ((-1), ((IntKind.wrap .i64 y1.1.2.1), (0, (0, ([], ())))))), 0)
                  else
                    bif ((y2.1).data.toList == ((bs [102, 97, 108, 108])).data.toList) then
                      bif (ref15_Waits.t y2.1) then
                        (ref15_guards.u x0 x1 x2).bind fun y16 =>
                        some (((IntKind.wrap .i64 y1.1.1), ((-1), ((IntKind.wrap .i64 y1.1.2.1), (0, (0, (y16, ())))))), 0)
                      else
                        some (((IntKind.wrap .i64 y1.1.1), ((-1), ((IntKind.wrap .i64 y1.1.2.1), (0, (0, ([], ())))))), 0)
                    else
                      bif ((y2.1).data.toList == ((bs [102, 108, 117, 115, 104])).data.toList) then
                        bif (ref15_Waits.t y2.1) then
                          (ref15_guards.u x0 x1 x2).bind fun y17 =>
                          let v18 : AskT := ((IntKind.wrap .i64 y1.1.1), ((IntKind.wrap .i64 y1.1.2.1), ((IntKind.wrap .i64 y1.1.2.2.1), (0, (0, (y17, ()))))))
                          some (v18, 0)
                        else
                          let v19 : AskT := ((IntKind.wrap .i64 y1.1.1), ((IntKind.wrap .i64 y1.1.2.1), ((IntKind.wrap .i64 y1.1.2.2.1), (0, (0, ([], ()))))))
                          some (v19, 0)
                      else
                        bif ((y2.1).data.toList == ((bs [112, 104, 97, 115, 101])).data.toList) then
                          bif (ref15_Waits.t y2.1) then
                            (ref15_guards.u x0 x1 x2).bind fun y20 =>
                            let v21 : AskT := ((IntKind.wrap .i64 y1.1.1), ((IntKind.wrap .i64 y1.1.2.1), ((IntKind.wrap .i64 y1.1.2.2.1), (0, (0, (y20, ()))))))
                            some (v21, 0)
                          else
                            let v22 : AskT := ((IntKind.wrap .i64 y1.1.1), ((IntKind.wrap .i64 y1.1.2.1), ((IntKind.wrap .i64 y1.1.2.2.1), (0, (0, ([], ()))))))
                            some (v22, 0)
                        else
                          bif ((y2.1).data.toList == ((bs [115, 105, 122, 101])).data.toList) then
                            bif (ref15_Waits.t y2.1) then
                              (ref15_guards.u x0 x1 x2).bind fun y23 =>
                              let v24 : AskT := ((IntKind.wrap .i64 y1.1.1), ((IntKind.wrap .i64 y1.1.2.1), ((IntKind.wrap .i64 y1.1.2.2.1), (0, (0, (y23, ()))))))
                              some (v24, 0)
                            else
                              let v25 : AskT := ((IntKind.wrap .i64 y1.1.1), ((IntKind.wrap .i64 y1.1.2.1), ((IntKind.wrap .i64 y1.1.2.2.1), (0, (0, ([], ()))))))
                              some (v25, 0)
                          else
                            bif ((y2.1).data.toList == ((bs [97, 108, 116])).data.toList) then
                              bif (ref15_Waits.t y2.1) then
                                (ref15_guards.u x0 x1 x2).bind fun y26 =>
                                let v27 : AskT := ((IntKind.wrap .i64 y1.1.1), ((IntKind.wrap .i64 y1.1.2.1), (0, (0, ((IntKind.wrap .i64 y1.1.2.2.1), (y26, ()))))))
                                some (v27, 0)
                              else
                                let v28 : AskT := ((IntKind.wrap .i64 y1.1.1), ((IntKind.wrap .i64 y1.1.2.1), (0, (0, ((IntKind.wrap .i64 y1.1.2.2.1), ([], ()))))))
                                some (v28, 0)
                            else
                              bif (ref15_Waits.t y2.1) then
                                (ref15_guards.u x0 x1 x2).bind fun y29 =>
                                some (((IntKind.wrap .i64 y1.1.1), ((-1), (0, (0, (0, (y29, ())))))), 0)
                              else
                                some (((IntKind.wrap .i64 y1.1.1), ((-1), (0, (0, (0, ([], ())))))), 0)
theorem callof_u {l : List In} {f : Fr} {now : Int} {v : In × Int} (hn : ref05_Fine.t now = true) (hv : call_asking.u l f = some v) : call_Of.u l f now = ofB l f now v := by
  unfold call_Of.u call_Of.s
  rw [cfine_eq, hn, hv]
  rfl
theorem refof_u {l : List In} {f : Fr} {now : Int} {v : In × Int} (hn : ref05_Fine.t now = true) (hv : ref15_at.u l f = some v) : ref15_Of.u l f now = refB l f now v := by
  unfold ref15_Of.u ref15_Of.s
  rw [hn, hv]
  rfl
theorem tmod_idx {n : Int} (h : 0 ≤ n) : idxOK (Int.tmod n 8) 8 = true := by
  have h1 := Int.tmod_nonneg 8 h
  have h2 := Int.tmod_lt_of_pos n (show (0 : Int) < 8 by decide)
  exact idxOK_of h1 h2
theorem tmod_id {n : Int} (h : idxOK n 8 = true) : Int.tmod n 8 = n := by
  obtain ⟨h0, h1⟩ := idxOK_iff.1 h
  exact Int.tmod_eq_of_lt h0 h1
theorem reg_at {x : In} (h : chk x = 0) : (bAt (lineOf x.1).2.1 0 == 114 → idxOK x.2.1 8 = true) ∧ (bAt (lineOf x.1).2.1 1 == 114 → idxOK x.2.2.1 8 = true) ∧ (bAt (lineOf x.1).2.1 2 == 114 → idxOK x.2.2.2.1 8 = true) := by
  obtain ⟨_, h0, h1, h2⟩ := chk_parts h
  refine ⟨fun e => reg_idx ?_, fun e => reg_idx ?_, fun e => reg_idx ?_⟩
  · rw [← beq_iff_eq.1 e]; exact h0
  · rw [← beq_iff_eq.1 e]; exact h1
  · rw [← beq_iff_eq.1 e]; exact h2


theorem of_27 (l : List In) (f : Fr) (now a b c : Int) : ofB l f now ((27, (a, (b, (c, ())))), 0) = bif idxOK a 8 then some ((((IntKind.wrap .i64 27), (-1, (0, ((List.getD f.2.2.1 (Int.toNat a) 0), (0, ([], ())))))), 0) : AskT × Int) else none := by kernel_rfl
theorem ref_27 (l : List In) (f : Fr) (now a b c : Int) : refB l f now ((27, (a, (b, (c, ())))), 0) = bif idxOK a 8 then some ((((IntKind.wrap .i64 27), (-1, (0, ((List.getD f.2.2.1 (Int.toNat a) 0), (0, ([], ())))))), 0) : AskT × Int) else none := by kernel_rfl
theorem of_28 (l : List In) (f : Fr) (now a b c : Int) : ofB l f now ((28, (a, (b, (c, ())))), 0) = some ((((IntKind.wrap .i64 28), ((IntKind.wrap .i64 a), (0, (0, (0, ([], ())))))), 0) : AskT × Int) := by kernel_rfl
theorem ref_28 (l : List In) (f : Fr) (now a b c : Int) : refB l f now ((28, (a, (b, (c, ())))), 0) = some ((((IntKind.wrap .i64 28), ((IntKind.wrap .i64 a), (0, (0, (0, ([], ())))))), 0) : AskT × Int) := by kernel_rfl
theorem of_29 (l : List In) (f : Fr) (now a b c : Int) : ofB l f now ((29, (a, (b, (c, ())))), 0) = some ((((IntKind.wrap .i64 29), ((IntKind.wrap .i64 a), (0, (0, (0, ([], ())))))), 0) : AskT × Int) := by kernel_rfl
theorem ref_29 (l : List In) (f : Fr) (now a b c : Int) : refB l f now ((29, (a, (b, (c, ())))), 0) = some ((((IntKind.wrap .i64 29), ((IntKind.wrap .i64 a), (0, (0, (0, ([], ())))))), 0) : AskT × Int) := by kernel_rfl
theorem of_30 (l : List In) (f : Fr) (now a b c : Int) : ofB l f now ((30, (a, (b, (c, ())))), 0) = bif idxOK c 8 then some ((((IntKind.wrap .i64 30), ((IntKind.wrap .i64 a), ((IntKind.wrap .i64 b), ((List.getD f.2.2.1 (Int.toNat c) 0), (0, ([], ())))))), 0) : AskT × Int) else none := by kernel_rfl
theorem ref_30 (l : List In) (f : Fr) (now a b c : Int) : refB l f now ((30, (a, (b, (c, ())))), 0) = bif idxOK c 8 then some ((((IntKind.wrap .i64 30), ((IntKind.wrap .i64 a), ((IntKind.wrap .i64 b), ((List.getD f.2.2.1 (Int.toNat c) 0), (0, ([], ())))))), 0) : AskT × Int) else none := by kernel_rfl
theorem of_35 (l : List In) (f : Fr) (now a b c : Int) : ofB l f now ((35, (a, (b, (c, ())))), 0) = bif idxOK b 8 then some ((((IntKind.wrap .i64 35), (-1, ((IntKind.wrap .i64 a), ((List.getD f.2.2.1 (Int.toNat b) 0), (0, ([], ())))))), 0) : AskT × Int) else none := by kernel_rfl
theorem ref_35 (l : List In) (f : Fr) (now a b c : Int) : refB l f now ((35, (a, (b, (c, ())))), 0) = bif idxOK b 8 then some ((((IntKind.wrap .i64 35), (-1, ((IntKind.wrap .i64 a), ((List.getD f.2.2.1 (Int.toNat b) 0), (0, ([], ())))))), 0) : AskT × Int) else none := by kernel_rfl
theorem of_36 (l : List In) (f : Fr) (now a b c : Int) : ofB l f now ((36, (a, (b, (c, ())))), 0) = some ((((IntKind.wrap .i64 36), (-1, ((IntKind.wrap .i64 a), (0, (0, ([], ())))))), 0) : AskT × Int) := by kernel_rfl
theorem ref_36 (l : List In) (f : Fr) (now a b c : Int) : refB l f now ((36, (a, (b, (c, ())))), 0) = some ((((IntKind.wrap .i64 36), (-1, ((IntKind.wrap .i64 a), (0, (0, ([], ())))))), 0) : AskT × Int) := by kernel_rfl
theorem of_37 (l : List In) (f : Fr) (now a b c : Int) : ofB l f now ((37, (a, (b, (c, ())))), 0) = some ((((IntKind.wrap .i64 37), (-1, ((IntKind.wrap .i64 a), (0, (0, ([], ())))))), 0) : AskT × Int) := by kernel_rfl
theorem ref_37 (l : List In) (f : Fr) (now a b c : Int) : refB l f now ((37, (a, (b, (c, ())))), 0) = some ((((IntKind.wrap .i64 37), (-1, ((IntKind.wrap .i64 a), (0, (0, ([], ())))))), 0) : AskT × Int) := by kernel_rfl
theorem of_39 (l : List In) (f : Fr) (now a b c : Int) : ofB l f now ((39, (a, (b, (c, ())))), 0) = some ((((IntKind.wrap .i64 39), (-1, ((IntKind.wrap .i64 a), (0, (0, ([], ())))))), 0) : AskT × Int) := by kernel_rfl
theorem ref_39 (l : List In) (f : Fr) (now a b c : Int) : refB l f now ((39, (a, (b, (c, ())))), 0) = some ((((IntKind.wrap .i64 39), (-1, ((IntKind.wrap .i64 a), (0, (0, ([], ())))))), 0) : AskT × Int) := by kernel_rfl
theorem of_40 (l : List In) (f : Fr) (now a b c : Int) : ofB l f now ((40, (a, (b, (c, ())))), 0) = some ((((IntKind.wrap .i64 40), ((IntKind.wrap .i64 a), ((IntKind.wrap .i64 b), (0, (0, ([], ())))))), 0) : AskT × Int) := by kernel_rfl
theorem ref_40 (l : List In) (f : Fr) (now a b c : Int) : refB l f now ((40, (a, (b, (c, ())))), 0) = some ((((IntKind.wrap .i64 40), ((IntKind.wrap .i64 a), ((IntKind.wrap .i64 b), (0, (0, ([], ())))))), 0) : AskT × Int) := by kernel_rfl
theorem of_46 (l : List In) (f : Fr) (now a b c : Int) : ofB l f now ((46, (a, (b, (c, ())))), 0) = some ((((IntKind.wrap .i64 46), ((IntKind.wrap .i64 a), ((IntKind.wrap .i64 b), (0, (0, ([], ())))))), 0) : AskT × Int) := by kernel_rfl
theorem ref_46 (l : List In) (f : Fr) (now a b c : Int) : refB l f now ((46, (a, (b, (c, ())))), 0) = some ((((IntKind.wrap .i64 46), ((IntKind.wrap .i64 a), ((IntKind.wrap .i64 b), (0, (0, ([], ())))))), 0) : AskT × Int) := by kernel_rfl
theorem of_47 (l : List In) (f : Fr) (now a b c : Int) : ofB l f now ((47, (a, (b, (c, ())))), 0) = some ((((IntKind.wrap .i64 47), ((IntKind.wrap .i64 a), ((IntKind.wrap .i64 b), (0, (0, ([], ())))))), 0) : AskT × Int) := by kernel_rfl
theorem ref_47 (l : List In) (f : Fr) (now a b c : Int) : refB l f now ((47, (a, (b, (c, ())))), 0) = some ((((IntKind.wrap .i64 47), ((IntKind.wrap .i64 a), ((IntKind.wrap .i64 b), (0, (0, ([], ())))))), 0) : AskT × Int) := by kernel_rfl
theorem one_31 (f : Fr) (now a b c : Int) : call_asker_one.u ((31, (a, (b, (c, ())))), (f, (now, ()))) = (bif idxOK a 8 then some (6, (0, ((List.getD f.2.2.1 (Int.toNat a) 0), ((IntKind.wrap .i64 a), (0, ()))))) else none : Option Gd) := by kernel_rfl
theorem one_33 (f : Fr) (now a b c : Int) : call_asker_one.u ((33, (a, (b, (c, ())))), (f, (now, ()))) = (bif idxOK b 8 then some (2, ((IntKind.wrap .i64 a), ((List.getD f.2.2.1 (Int.toNat b) 0), (0, (0, ()))))) else none : Option Gd) := by kernel_rfl
theorem one_34 (f : Fr) (now a b c : Int) : call_asker_one.u ((34, (a, (b, (c, ())))), (f, (now, ()))) = (some (1, ((IntKind.wrap .i64 a), (0, ((IntKind.wrap .i64 b), (0, ()))))) : Option Gd) := by kernel_rfl
theorem one_38 (f : Fr) (now a b c : Int) : call_asker_one.u ((38, (a, (b, (c, ())))), (f, (now, ()))) = (some (3, ((IntKind.wrap .i64 a), (0, (0, (0, ()))))) : Option Gd) := by kernel_rfl
theorem dead_u {y : In} {f : Fr} {now n : Int} (hn : ref05_Fine.t now = true) (hr : ∀ k, -2147483648 ≤ List.getD f.2.2.1 k 0 ∧ List.getD f.2.2.1 k 0 ≤ 2147483647) (ha : idxOK n 8 = true) : call_asker_deadline.u (y, (f, (now, ()))) n = some (ref05_After.t now (List.getD f.2.2.1 (Int.toNat n) 0)).1 := by
  unfold call_asker_deadline.u call_asker_deadline.s
  rw [ha, cond_true]
  show some (clock_After.t now (List.getD f.2.2.1 (Int.toNat n) 0)).1 = _
  rw [later_eq hn (hr _)]
theorem one_32 (f : Fr) (now a b c : Int) : call_asker_one.u ((32, (a, (b, (c, ())))), (f, (now, ()))) = (call_asker_deadline.u ((32, (a, (b, (c, ())))), (f, (now, ()))) a).bind fun y => some ((4, (0, (y, (0, (0, ()))))) : Gd) := by kernel_rfl
theorem one_44 (f : Fr) (now a b c : Int) : call_asker_one.u ((44, (a, (b, (c, ())))), (f, (now, ()))) = (call_asker_deadline.u ((44, (a, (b, (c, ())))), (f, (now, ()))) a).bind fun y => some ((4, (0, (y, (0, (0, ()))))) : Gd) := by kernel_rfl
theorem one_42 (f : Fr) (now a b c : Int) : call_asker_one.u ((42, (a, (b, (c, ())))), (f, (now, ()))) = some ((1, (IntKind.wrap .i64 a, (0, (IntKind.wrap .i64 b, (0, ()))))) : Gd) := by kernel_rfl
theorem one_43 (f : Fr) (now a b c : Int) : call_asker_one.u ((43, (a, (b, (c, ())))), (f, (now, ()))) = some ((3, (IntKind.wrap .i64 a, (0, (0, (0, ()))))) : Gd) := by kernel_rfl
theorem one_45 (f : Fr) (now a b c : Int) : call_asker_one.u ((45, (a, (b, (c, ())))), (f, (now, ()))) = some ((5, (0, (0, (0, (0, ()))))) : Gd) := by kernel_rfl
theorem ofw_31 (l : List In) (f : Fr) (now a b c : Int) : ofB l f now ((31, (a, (b, (c, ())))), 0) = (call_asker_one.u ((31, (a, (b, (c, ())))), (f, (now, ())))).bind fun y => some ((((IntKind.wrap .i64 31), (-1, (0, (0, (0, ([y], ())))))), 0) : AskT × Int) := by kernel_rfl
theorem refw_31 (l : List In) (f : Fr) (now a b c : Int) : refB l f now ((31, (a, (b, (c, ())))), 0) = (ref15_guards.u l f now).bind fun y => some ((((IntKind.wrap .i64 31), (-1, (0, (0, (0, (y, ())))))), 0) : AskT × Int) := by kernel_rfl
theorem gds_31 {l : List In} {f : Fr} {now a b c : Int} (h0 : idxOK f.1 (List.length l) = true) (hx : List.getD l (Int.toNat f.1) noIn = (31, (a, (b, (c, ()))))) (ha : 0 ≤ a) (hb : 0 ≤ b) : ref15_guards.u l f now = some [((6, (0, ((List.getD f.2.2.1 (Int.toNat (Int.tmod a 8)) 0), ((IntKind.wrap .i64 a), (0, ()))))) : Gd)] := by
  unfold ref15_guards.u ref15_guards.w
  rw [h0, cond_true, hx]
  simp only [tmod_idx ha, tmod_idx hb, cond_true]
  kernel_rfl
theorem ofw_32 (l : List In) (f : Fr) (now a b c : Int) : ofB l f now ((32, (a, (b, (c, ())))), 0) = (call_asker_one.u ((32, (a, (b, (c, ())))), (f, (now, ())))).bind fun y => some ((((IntKind.wrap .i64 32), (-1, (0, (0, (0, ([y], ())))))), 0) : AskT × Int) := by kernel_rfl
theorem refw_32 (l : List In) (f : Fr) (now a b c : Int) : refB l f now ((32, (a, (b, (c, ())))), 0) = (ref15_guards.u l f now).bind fun y => some ((((IntKind.wrap .i64 32), (-1, (0, (0, (0, (y, ())))))), 0) : AskT × Int) := by kernel_rfl
theorem gds_32 {l : List In} {f : Fr} {now a b c : Int} (h0 : idxOK f.1 (List.length l) = true) (hx : List.getD l (Int.toNat f.1) noIn = (32, (a, (b, (c, ()))))) (ha : 0 ≤ a) (hb : 0 ≤ b) : ref15_guards.u l f now = some [((4, (0, ((ref05_After.t now (List.getD f.2.2.1 (Int.toNat (Int.tmod a 8)) 0)).1, (0, (0, ()))))) : Gd)] := by
  unfold ref15_guards.u ref15_guards.w
  rw [h0, cond_true, hx]
  simp only [tmod_idx ha, tmod_idx hb, cond_true]
  kernel_rfl
theorem ofw_33 (l : List In) (f : Fr) (now a b c : Int) : ofB l f now ((33, (a, (b, (c, ())))), 0) = (call_asker_one.u ((33, (a, (b, (c, ())))), (f, (now, ())))).bind fun y => some ((((IntKind.wrap .i64 33), (-1, (0, (0, (0, ([y], ())))))), 0) : AskT × Int) := by kernel_rfl
theorem refw_33 (l : List In) (f : Fr) (now a b c : Int) : refB l f now ((33, (a, (b, (c, ())))), 0) = (ref15_guards.u l f now).bind fun y => some ((((IntKind.wrap .i64 33), (-1, (0, (0, (0, (y, ())))))), 0) : AskT × Int) := by kernel_rfl
theorem gds_33 {l : List In} {f : Fr} {now a b c : Int} (h0 : idxOK f.1 (List.length l) = true) (hx : List.getD l (Int.toNat f.1) noIn = (33, (a, (b, (c, ()))))) (ha : 0 ≤ a) (hb : 0 ≤ b) : ref15_guards.u l f now = some [((2, ((IntKind.wrap .i64 a), ((List.getD f.2.2.1 (Int.toNat (Int.tmod b 8)) 0), (0, (0, ()))))) : Gd)] := by
  unfold ref15_guards.u ref15_guards.w
  rw [h0, cond_true, hx]
  simp only [tmod_idx ha, tmod_idx hb, cond_true]
  kernel_rfl
theorem ofw_34 (l : List In) (f : Fr) (now a b c : Int) : ofB l f now ((34, (a, (b, (c, ())))), 0) = (call_asker_one.u ((34, (a, (b, (c, ())))), (f, (now, ())))).bind fun y => some ((((IntKind.wrap .i64 34), (-1, (0, (0, (0, ([y], ())))))), 0) : AskT × Int) := by kernel_rfl
theorem refw_34 (l : List In) (f : Fr) (now a b c : Int) : refB l f now ((34, (a, (b, (c, ())))), 0) = (ref15_guards.u l f now).bind fun y => some ((((IntKind.wrap .i64 34), (-1, (0, (0, (0, (y, ())))))), 0) : AskT × Int) := by kernel_rfl
theorem gds_34 {l : List In} {f : Fr} {now a b c : Int} (h0 : idxOK f.1 (List.length l) = true) (hx : List.getD l (Int.toNat f.1) noIn = (34, (a, (b, (c, ()))))) (ha : 0 ≤ a) (hb : 0 ≤ b) : ref15_guards.u l f now = some [((1, ((IntKind.wrap .i64 a), (0, ((IntKind.wrap .i64 b), (0, ()))))) : Gd)] := by
  unfold ref15_guards.u ref15_guards.w
  rw [h0, cond_true, hx]
  simp only [tmod_idx ha, tmod_idx hb, cond_true]
  kernel_rfl
theorem ofw_38 (l : List In) (f : Fr) (now a b c : Int) : ofB l f now ((38, (a, (b, (c, ())))), 0) = (call_asker_one.u ((38, (a, (b, (c, ())))), (f, (now, ())))).bind fun y => some ((((IntKind.wrap .i64 38), (-1, (0, (0, (0, ([y], ())))))), 0) : AskT × Int) := by kernel_rfl
theorem refw_38 (l : List In) (f : Fr) (now a b c : Int) : refB l f now ((38, (a, (b, (c, ())))), 0) = (ref15_guards.u l f now).bind fun y => some ((((IntKind.wrap .i64 38), (-1, (0, (0, (0, (y, ())))))), 0) : AskT × Int) := by kernel_rfl
theorem gds_38 {l : List In} {f : Fr} {now a b c : Int} (h0 : idxOK f.1 (List.length l) = true) (hx : List.getD l (Int.toNat f.1) noIn = (38, (a, (b, (c, ()))))) (ha : 0 ≤ a) (hb : 0 ≤ b) : ref15_guards.u l f now = some [((3, ((IntKind.wrap .i64 a), (0, (0, (0, ()))))) : Gd)] := by
  unfold ref15_guards.u ref15_guards.w
  rw [h0, cond_true, hx]
  simp only [tmod_idx ha, tmod_idx hb, cond_true]
  kernel_rfl
theorem of_41 (l : List In) (f : Fr) (now a b c : Int) : ofB l f now ((41, (a, (b, (c, ())))), 0) = (call_asker_some.u ((41, (a, (b, (c, ())))), (f, (now, ()))) l).bind fun y => some ((((IntKind.wrap .i64 41), ((IntKind.wrap .i64 a), (0, (0, ((IntKind.wrap .i64 b), (y, ())))))), 0) : AskT × Int) := by kernel_rfl
theorem ref_41 (l : List In) (f : Fr) (now a b c : Int) : refB l f now ((41, (a, (b, (c, ())))), 0) = (ref15_guards.u l f now).bind fun y => some ((((IntKind.wrap .i64 41), ((IntKind.wrap .i64 a), (0, (0, ((IntKind.wrap .i64 b), (y, ())))))), 0) : AskT × Int) := by kernel_rfl
end Go.Proofs.YtjhkagfolmhacaaGreatDoor.K

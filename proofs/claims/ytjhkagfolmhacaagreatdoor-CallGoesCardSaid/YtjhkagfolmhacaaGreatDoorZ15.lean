/- What functions of the program come to, plainly. -/
import Derived.Test.YtjhkagfolmhacaaGreatDoorZ15a
set_option maxRecDepth 100000
set_option linter.unusedVariables false
namespace Go.Proofs.YtjhkagfolmhacaaGreatDoor.K
open Go Go.RowKit

/-- becket becketref15.Answer -/
noncomputable def ref15_Answer.sp : Spec := (orS 32 (fun {_} => ref08_Fine.e) (orS 26 (fun {_} => ref15_Waits.e) (orS 25 (fun {_} => ref09_Of.e) (orS 23 (fun {_} => ref15_at.e) (orS 8 (fun {_} => ref15_Of.e) noS)))))
def ref15_Answer.s {Ω : Type} (x0 : (List T_s54)) (x1 : T_s25) (x2 : Int) (k : T_s25 × Int → Option Ω) : Option Ω :=
  (ref15_at.u x0 x1).bind fun y1 =>
  bif (y1.2 != 0) then
    k (x1, y1.2)
  else
    (ref09_Of.u (IntKind.wrap .i64 y1.1.1)).bind fun y2 =>
    bif (ref15_Waits.t y2.1) then
      k (x1, 13)
    else
      (ref15_Of.u x0 x1 0).bind fun y3 =>
      bif (decide (y3.1.2.1 ≥ 0)) then
        bif (!(ref08_Fine.t x2)) then
          k (x1, 8)
        else
          bif (idxOK y3.1.2.1 8) then
            let v4 : T_s25 := ((IntKind.wrap .i64 (x1.1 + 1)), (false, ((List.set x1.2.2.1 (Int.toNat y3.1.2.1) x2), x1.2.2.2)))
            k (v4, 0)
          else
            none
      else
        k (((IntKind.wrap .i64 (x1.1 + 1)), (false, x1.2.2)), 0)
theorem ref15_Answer.ev {Ω : Type} (fuel : Fuel) (x0 : (List T_s54)) (x1 : T_s25) (x2 : Int) (k : AV → Option Ω) : evFn C ref15_Answer.sp fuel Tryz.f11 (Tryz.f11.body.getD .skip) [(.v (.slice E_s54) (x0)), (.v E_s25 (x1)), (.v (.int .i64) (x2))] k = ref15_Answer.s x0 x1 x2 (fun r => k (tupAV E_s25 [(.int .i64)] r)) := by kernel_rfl
def ref15_Answer.u (x0 : (List T_s54)) (x1 : T_s25) (x2 : Int) : Option (T_s25 × Int) := ref15_Answer.s x0 x1 x2 some
theorem ref15_Answer.c (x0 : (List T_s54)) (x1 : T_s25) (x2 : Int) (r : T_s25 × Int) (h : ref15_Answer.u x0 x1 x2 = some r) : Contract C 11 [(.v (.slice E_s54) (x0)), (.v E_s25 (x1)), (.v (.int .i64) (x2))] (tupAV E_s25 [(.int .i64)] r) :=
  contract_s (S := fun k => ref15_Answer.s x0 x1 x2 k) C_ok (orS_ok ref08_Fine.e_ok (orS_ok ref15_Waits.e_ok (orS_ok ref09_Of.e_ok (orS_ok ref15_at.e_ok (orS_ok ref15_Of.e_ok noS_ok))))) (by kernel_rfl) (by kernel_rfl) (by kernel_rfl) (ref15_Answer.ev ⟨1, fun _ => []⟩ x0 x1 x2 (dec E_s25 [(.int .i64)])) h
noncomputable def ref15_Answer.e : Ent := argI (.slice E_s54) fun x0 => argI E_s25 fun x1 => argI (.int .i64) fun x2 => endU (ref15_Answer.u x0 x1 x2) (tupAV E_s25 [(.int .i64)])
theorem ref15_Answer.e_ok : EntOK C 11 (fun {_} => ref15_Answer.e) := entA_ok (argI_ok fun x0 => argI_ok fun x1 => argI_ok fun x2 => endU_ok fun r h => ref15_Answer.c x0 x1 x2 r h)

/-- becket becketlaw15.CallAnswers -/
noncomputable def law15_CallAnswers.sp : Spec := (orS 11 (fun {_} => ref15_Answer.e) (orS 10 (fun {_} => call_Answer.e) (orS 6 (fun {_} => law15_alive.e) noS)))
def law15_CallAnswers.s {Ω : Type} (x0 : (List T_s54)) (x1 : T_s25) (x2 : Int) (k : Bool → Option Ω) : Option Ω :=
  bif (decide (((List.length x0 : Nat) : Int) > 70)) then
    law15_alive.u.bind fun y1 =>
    k y1
  else
    (call_Answer.u x0 x1 x2).bind fun y2 =>
    (ref15_Answer.u x0 x1 x2).bind fun y3 =>
    bif (eqI E_s25 y2.1 y3.1) then
      bif (y2.2 == y3.2) then
        law15_alive.u.bind fun y4 =>
        k y4
      else
        k false
    else
      k false
theorem law15_CallAnswers.ev {Ω : Type} (fuel : Fuel) (x0 : (List T_s54)) (x1 : T_s25) (x2 : Int) (k : AV → Option Ω) : evFn CKM law15_CallAnswers.sp fuel Tryz.f4 (Tryz.f4.body.getD .skip) [(.v (.slice E_s54) (x0)), (.v E_s25 (x1)), (.v (.int .i64) (x2))] k = law15_CallAnswers.s x0 x1 x2 (fun r => k (tupAV .bool [] r)) := by kernel_rfl
def law15_CallAnswers.u (x0 : (List T_s54)) (x1 : T_s25) (x2 : Int) : Option (Bool) := law15_CallAnswers.s x0 x1 x2 some
theorem law15_CallAnswers.c (x0 : (List T_s54)) (x1 : T_s25) (x2 : Int) (r : Bool) (h : law15_CallAnswers.u x0 x1 x2 = some r) : Contract CKM 4 [(.v (.slice E_s54) (x0)), (.v E_s25 (x1)), (.v (.int .i64) (x2))] (tupAV .bool [] r) :=
  contract_s (S := fun k => law15_CallAnswers.s x0 x1 x2 k) CKM_ok (orS_ok (ref15_Answer.e_ok.mono le_C_CKM) (orS_ok call_Answer.e_ok (orS_ok law15_alive.e_ok noS_ok))) (by kernel_rfl) (by kernel_rfl) (by kernel_rfl) (law15_CallAnswers.ev ⟨1, fun _ => []⟩ x0 x1 x2 (dec .bool [])) h
noncomputable def law15_CallAnswers.e : Ent := argI (.slice E_s54) fun x0 => argI E_s25 fun x1 => argI (.int .i64) fun x2 => endU (law15_CallAnswers.u x0 x1 x2) (tupAV .bool [])
theorem law15_CallAnswers.e_ok : EntOK CKM 4 (fun {_} => law15_CallAnswers.e) := entA_ok (argI_ok fun x0 => argI_ok fun x1 => argI_ok fun x2 => endU_ok fun r h => law15_CallAnswers.c x0 x1 x2 r h)

/-- becket becketlaw15.CallGoes -/
noncomputable def law15_CallGoes.sp : Spec := (orS 15 (fun {_} => frame_Fine.e) (orS 14 (fun {_} => prog_Next.e) (orS 13 (fun {_} => ref02_Same.e) (orS 12 (fun {_} => call_Wake.e) (orS 10 (fun {_} => call_Answer.e) (orS 7 (fun {_} => call_Of.e) (orS 6 (fun {_} => law15_alive.e) noS)))))))
def law15_CallGoes.F (fuel : Nat) : Fuel := ⟨fuel, fun r => bif r == 9 then [1, 3, 4, 5, 6, 7, 12, 13, 14, 15, 16, 17, 18, 19, 20, 21, 22, 23, 24, 25, 26, 27, 28, 29, 30, 31, 32, 33, 34, 35, 36, 37, 38, 39, 40, 41, 42, 43, 44, 48, 49, 50, 51, 52, 53, 54, 55, 56, 57, 58, 59, 60, 61, 62, 63, 64, 65, 66, 67, 68, 69, 70, 71, 72, 73, 74, 75, 76, 77, 78, 79, 80, 81, 82, 83, 84, 85, 86, 87, 88, 89, 90, 91, 92, 93, 94, 95, 96, 97, 98, 99, 100, 101, 102, 103, 104, 105, 106, 107, 108, 109, 110, 111, 112, 113, 114, 115, 116, 117, 118, 119, 120, 121, 122, 123, 124, 125, 126, 127, 128, 129, 130, 131, 132, 133, 134, 135, 136, 137, 138, 139, 140, 141, 142, 143, 144, 145] else []⟩
def law15_CallGoes.E0 (e9_1 : (List T_s54)) (e9_2 : Int) (e9_3 : Int) (e9_4 : Bool) (e9_5 : (List T_s44)) (e9_6 : Int) (e9_7 : T_s46) (e9_8 : T_s25) (e9_9 : T_s29) (s9 : Int) : List AV := [(.v (.slice E_s54) (e9_1)), .dead, (.v (.int .u8) (e9_2)), .dead, .dead, .dead, .dead, .dead, (.v (.int .i32) (e9_3)), (.v .bool (e9_4)), (.ref 2 []), (.ref 3 []), .dead, .dead, .dead, .dead, .dead, .dead, .dead, .dead, .dead, .dead, .dead, .dead, .dead, .dead, .dead, .dead, .dead, .dead, .dead, .dead, .dead, .dead, .dead, .dead, .dead, .dead, .dead, .dead, .dead, .dead, .dead, .dead, .dead, (.v (.slice E_s44) (e9_5)), (.v (.int .i64) (e9_6)), (.v (.int .i64) (s9)), .dead, .dead, .dead, .dead, .dead, .dead, .dead, .dead, .dead, .dead, .dead, .dead, .dead, .dead, .dead, .dead, .dead, .dead, .dead, .dead, .dead, .dead, .dead, .dead, .dead, .dead, .dead, .dead, .dead, .dead, .dead, .dead, .dead, .dead, .dead, .dead, .dead, .dead, .dead, .dead, .dead, .dead, .dead, .dead, .dead, .dead, .dead, .dead, .dead, .dead, .dead, .dead, .dead, .dead, .dead, .dead, .dead, .dead, .dead, .dead, .dead, .dead, .dead, .dead, .dead, .dead, .dead, .dead, .dead, .dead, .dead, .dead, .dead, .dead, .dead, .dead, .dead, .dead, .dead, .dead, .dead, .dead, .dead, .dead, .dead, .dead, .dead, .dead, .dead, .dead, .dead, .dead, .dead, .dead, .dead, .dead, .dead, .dead]
def law15_CallGoes.H0 (e9_1 : (List T_s54)) (e9_2 : Int) (e9_3 : Int) (e9_4 : Bool) (e9_5 : (List T_s44)) (e9_6 : Int) (e9_7 : T_s46) (e9_8 : T_s25) (e9_9 : T_s29) (s9 : Int) : Heap := [(.box E_s46 e9_7 false), (.box E_s25 e9_8 false), (.box E_s25 e9_8 false), (.box E_s29 e9_9 false)]
noncomputable def law15_CallGoes.M0 {Ω : Type} (fuel : Nat) (e9_1 : (List T_s54)) (e9_2 : Int) (e9_3 : Int) (e9_4 : Bool) (e9_5 : (List T_s44)) (e9_6 : Int) (e9_7 : T_s46) (e9_8 : T_s25) (e9_9 : T_s29)  (k : AV → Option Ω) (m : Nat) (s : Int) : Option Ω := loopK (fun env L k => evCode CKM law15_CallGoes.sp (law15_CallGoes.F fuel) (cl (cl (cr (cl (cr (cr (cr (cr (cr (cr (Tryz.f5.body.getD .skip))))))))))) env L k) [false, true, false, true, true, true, true, true, false, false, false, false, true, true, true, true, true, true, true, true, true, true, true, true, true, true, true, true, true, true, true, true, true, true, true, true, true, true, true, true, true, true, true, true, true, false, false, false, true, true, true, true, true, true, true, true, true, true, true, true, true, true, true, true, true, true, true, true, true, true, true, true, true, true, true, true, true, true, true, true, true, true, true, true, true, true, true, true, true, true, true, true, true, true, true, true, true, true, true, true, true, true, true, true, true, true, true, true, true, true, true, true, true, true, true, true, true, true, true, true, true, true, true, true, true, true, true, true, true, true, true, true, true, true, true, true, true, true, true, true, true, true, true, true, true, true] 4 (blockK 0 (seqK (fun env L => evCode CKM law15_CallGoes.sp (law15_CallGoes.F fuel) (cr (cr (cr (cr (cr (cr (cr (Tryz.f5.body.getD .skip)))))))) env L (finK CKM Tryz.f5 k)) (finK CKM Tryz.f5 k))) m ((law15_CallGoes.E0 e9_1 e9_2 e9_3 e9_4 e9_5 e9_6 e9_7 e9_8 e9_9) s) ((law15_CallGoes.H0 e9_1 e9_2 e9_3 e9_4 e9_5 e9_6 e9_7 e9_8 e9_9) s)
def law15_CallGoes.b0 {Ω : Type} (e9_1 : (List T_s54)) (e9_2 : Int) (e9_3 : Int) (e9_4 : Bool) (e9_5 : (List T_s44)) (e9_6 : Int) (e9_7 : T_s46) (e9_8 : T_s25) (e9_9 : T_s29)   (k : Bool → Option Ω) (r9 : Int → Option Ω) (s9 : Int) : Option Ω :=
  bif (decide (s9 < e9_6)) then
    bif (idxOK s9 (List.length e9_5)) then
      bif (decide (s9 > 0)) then
        bif (idxOK (IntKind.wrap .i64 (s9 - 1)) (List.length e9_9.2.2.2.2.2.1)) then
          let v4 : Int := (List.getD e9_9.2.2.2.2.2.1 (Int.toNat (IntKind.wrap .i64 (s9 - 1))) (0, (0, (0, (0, (0, ())))))).2.2.2.2.1
          bif (decide ((List.getD e9_5 (Int.toNat s9) (0, (0, (0, (0, (0, ())))))).2.2.2.2.1 ≤ v4)) then
            k false
          else
            r9 ((IntKind.wrap .i64 (s9 + 1)))
        else
          none
      else
        r9 ((IntKind.wrap .i64 (s9 + 1)))
    else
      none
  else
    (call_Answer.u e9_1 e9_8 (IntKind.wrap .i64 e9_3)).bind fun y5 =>
    bif (decide (((List.length e9_9.2.2.2.2.2.1 : Nat) : Int) > 0)) then
      bif (!(((List.length e9_9.2.2.2.2.2.1 : Nat) : Int) == 0)) then
        bif (idxOK (Int.tmod (IntKind.wrap .i64 e9_2) ((List.length e9_9.2.2.2.2.2.1 : Nat) : Int)) (List.length e9_9.2.2.2.2.2.1)) then
          let v6 : T_s44 := (List.getD e9_9.2.2.2.2.2.1 (Int.toNat (Int.tmod (IntKind.wrap .i64 e9_2) ((List.length e9_9.2.2.2.2.2.1 : Nat) : Int))) (0, (0, (0, (0, (0, ()))))))
          (call_Wake.u e9_1 e9_8 v6 (IntKind.wrap .i64 e9_3) e9_4).bind fun y7 =>
          bif (y7.2 == 0) then
            (prog_Next.u e9_1 e9_8.1).bind fun y8 =>
            (ref02_Same.u ([y7.1.1]) y8).bind fun y9 =>
            bif y9 then
              bif (eqI (.arr 16 (.int .i64)) y7.1.2.2.2.1 e9_8.2.2.2.1) then
                bif (y7.1.2.2.2.2.1 == e9_8.2.2.2.2.1) then
                  bif (eqI (.arr 8 (.int .i64)) y7.1.2.2.2.2.2.1 e9_8.2.2.2.2.2.1) then
                    (frame_Fine.u y7.1).bind fun y10 =>
                    bif y10 then
                      law15_alive.u.bind fun y11 =>
                      k y11
                    else
                      k false
                  else
                    k false
                else
                  k false
              else
                k false
            else
              k false
          else
            k false
        else
          none
      else
        none
    else
      bif (y5.2 != 0) then
        bif (e9_9.1 == 41) then
          law15_alive.u.bind fun y12 =>
          k y12
        else
          k false
      else
        bif (y5.2 == 0) then
          (prog_Next.u e9_1 e9_8.1).bind fun y13 =>
          (ref02_Same.u ([y5.1.1]) y13).bind fun y14 =>
          bif y14 then
            bif (eqI (.arr 16 (.int .i64)) y5.1.2.2.2.1 e9_8.2.2.2.1) then
              bif (y5.1.2.2.2.2.1 == e9_8.2.2.2.2.1) then
                bif (eqI (.arr 8 (.int .i64)) y5.1.2.2.2.2.2.1 e9_8.2.2.2.2.2.1) then
                  (frame_Fine.u y5.1).bind fun y15 =>
                  bif y15 then
                    law15_alive.u.bind fun y16 =>
                    k y16
                  else
                    k false
                else
                  k false
              else
                k false
            else
              k false
          else
            k false
        else
          k false
def law15_CallGoes.B0 {Ω : Type} (fuel : Nat) (e9_1 : (List T_s54)) (e9_2 : Int) (e9_3 : Int) (e9_4 : Bool) (e9_5 : (List T_s44)) (e9_6 : Int) (e9_7 : T_s46) (e9_8 : T_s25) (e9_9 : T_s29)  (k : Bool → Option Ω) (r9 : Int → Option Ω) (s9 : Int) : Option Ω := law15_CallGoes.b0 e9_1 e9_2 e9_3 e9_4 e9_5 e9_6 e9_7 e9_8 e9_9   k r9 s9
theorem law15_CallGoes.l0 {Ω : Type} (fuel : Nat) (e9_1 : (List T_s54)) (e9_2 : Int) (e9_3 : Int) (e9_4 : Bool) (e9_5 : (List T_s44)) (e9_6 : Int) (e9_7 : T_s46) (e9_8 : T_s25) (e9_9 : T_s29)  (k : AV → Option Ω) : ∀ m, (law15_CallGoes.M0 fuel e9_1 e9_2 e9_3 e9_4 e9_5 e9_6 e9_7 e9_8 e9_9  k m) = iter (law15_CallGoes.B0 fuel e9_1 e9_2 e9_3 e9_4 e9_5 e9_6 e9_7 e9_8 e9_9  (fun r => k (tupAV .bool [] r))) m :=
  loopK_iter (envOf := (law15_CallGoes.E0 e9_1 e9_2 e9_3 e9_4 e9_5 e9_6 e9_7 e9_8 e9_9)) (LOf := (law15_CallGoes.H0 e9_1 e9_2 e9_3 e9_4 e9_5 e9_6 e9_7 e9_8 e9_9)) (B := law15_CallGoes.B0 fuel e9_1 e9_2 e9_3 e9_4 e9_5 e9_6 e9_7 e9_8 e9_9  (fun r => k (tupAV .bool [] r))) (fun R s => by kernel_rfl)
def law15_CallGoes.sl {Ω : Type} (x0 : (List T_s54)) (x1 : T_s46) (x2 : Int) (lp0 : (List T_s54) → Int → Int → Bool → (List T_s44) → Int → T_s46 → T_s25 → T_s29 → Int → Option Ω) (k : Bool → Option Ω) : Option Ω :=
  bif (decide (((List.length x0 : Nat) : Int) > 70)) then
    law15_alive.u.bind fun y1 =>
    k y1
  else
    (call_Of.u x0 x1.1 0).bind fun y2 =>
    bif (y2.2 != 0) then
      bif (((List.length y2.1.2.2.2.2.2.1 : Nat) : Int) == 0) then
        law15_alive.u.bind fun y3 =>
        k y3
      else
        k false
    else
      lp0 x0 x2 (IntKind.wrap .i32 x1.2.2.1) x1.2.2.2.1 y2.1.2.2.2.2.2.1 (((List.length y2.1.2.2.2.2.2.1 : Nat) : Int)) x1 x1.1 y2.1 (0)
def law15_CallGoes.s {Ω : Type} (fuel : Nat) (x0 : (List T_s54)) (x1 : T_s46) (x2 : Int) (k : Bool → Option Ω) : Option Ω := law15_CallGoes.sl x0 x1 x2 (fun e9_1 e9_2 e9_3 e9_4 e9_5 e9_6 e9_7 e9_8 e9_9 => (iter (law15_CallGoes.B0 fuel e9_1 e9_2 e9_3 e9_4 e9_5 e9_6 e9_7 e9_8 e9_9  k) fuel)) k
theorem law15_CallGoes.ev {Ω : Type} (fuel : Nat) (x0 : (List T_s54)) (x1 : T_s46) (x2 : Int) (k : AV → Option Ω) : evFn CKM law15_CallGoes.sp (law15_CallGoes.F fuel) Tryz.f5 (Tryz.f5.body.getD .skip) [(.v (.slice E_s54) (x0)), (.v E_s46 (x1)), (.v (.int .u8) (x2))] k = law15_CallGoes.s fuel x0 x1 x2 (fun r => k (tupAV .bool [] r)) := by
  have h0 : evFn CKM law15_CallGoes.sp (law15_CallGoes.F fuel) Tryz.f5 (Tryz.f5.body.getD .skip) [(.v (.slice E_s54) (x0)), (.v E_s46 (x1)), (.v (.int .u8) (x2))] k = law15_CallGoes.sl x0 x1 x2 (fun e9_1 e9_2 e9_3 e9_4 e9_5 e9_6 e9_7 e9_8 e9_9 => (law15_CallGoes.M0 fuel e9_1 e9_2 e9_3 e9_4 e9_5 e9_6 e9_7 e9_8 e9_9  k fuel)) (fun r => k (tupAV .bool [] r)) := by kernel_rfl
  have h1 : (fun e9_1 e9_2 e9_3 e9_4 e9_5 e9_6 e9_7 e9_8 e9_9 => (law15_CallGoes.M0 fuel e9_1 e9_2 e9_3 e9_4 e9_5 e9_6 e9_7 e9_8 e9_9  k fuel)) = (fun e9_1 e9_2 e9_3 e9_4 e9_5 e9_6 e9_7 e9_8 e9_9 => (iter (law15_CallGoes.B0 fuel e9_1 e9_2 e9_3 e9_4 e9_5 e9_6 e9_7 e9_8 e9_9  (fun r => k (tupAV .bool [] r))) fuel)) := funext fun e9_1 => funext fun e9_2 => funext fun e9_3 => funext fun e9_4 => funext fun e9_5 => funext fun e9_6 => funext fun e9_7 => funext fun e9_8 => funext fun e9_9 => law15_CallGoes.l0 fuel e9_1 e9_2 e9_3 e9_4 e9_5 e9_6 e9_7 e9_8 e9_9   k fuel
  rw [h1] at h0
  exact h0
def law15_CallGoes.g0 {Ω : Type} (e9_1 : (List T_s54)) (e9_2 : Int) (e9_3 : Int) (e9_4 : Bool) (e9_5 : (List T_s44)) (e9_7 : T_s46) (e9_8 : T_s25) (e9_9 : T_s29)  (k : Bool → Option Ω) : List T_s44 → Int → Option Ω
  | [], i9 =>
    (call_Answer.u e9_1 e9_8 (IntKind.wrap .i64 e9_3)).bind fun y5 =>
    bif (decide (((List.length e9_9.2.2.2.2.2.1 : Nat) : Int) > 0)) then
      bif (!(((List.length e9_9.2.2.2.2.2.1 : Nat) : Int) == 0)) then
        bif (idxOK (Int.tmod (IntKind.wrap .i64 e9_2) ((List.length e9_9.2.2.2.2.2.1 : Nat) : Int)) (List.length e9_9.2.2.2.2.2.1)) then
          let v6 : T_s44 := (List.getD e9_9.2.2.2.2.2.1 (Int.toNat (Int.tmod (IntKind.wrap .i64 e9_2) ((List.length e9_9.2.2.2.2.2.1 : Nat) : Int))) (0, (0, (0, (0, (0, ()))))))
          (call_Wake.u e9_1 e9_8 v6 (IntKind.wrap .i64 e9_3) e9_4).bind fun y7 =>
          bif (y7.2 == 0) then
            (prog_Next.u e9_1 e9_8.1).bind fun y8 =>
            (ref02_Same.u ([y7.1.1]) y8).bind fun y9 =>
            bif y9 then
              bif (eqI (.arr 16 (.int .i64)) y7.1.2.2.2.1 e9_8.2.2.2.1) then
                bif (y7.1.2.2.2.2.1 == e9_8.2.2.2.2.1) then
                  bif (eqI (.arr 8 (.int .i64)) y7.1.2.2.2.2.2.1 e9_8.2.2.2.2.2.1) then
                    (frame_Fine.u y7.1).bind fun y10 =>
                    bif y10 then
                      law15_alive.u.bind fun y11 =>
                      k y11
                    else
                      k false
                  else
                    k false
                else
                  k false
              else
                k false
            else
              k false
          else
            k false
        else
          none
      else
        none
    else
      bif (y5.2 != 0) then
        bif (e9_9.1 == 41) then
          law15_alive.u.bind fun y12 =>
          k y12
        else
          k false
      else
        bif (y5.2 == 0) then
          (prog_Next.u e9_1 e9_8.1).bind fun y13 =>
          (ref02_Same.u ([y5.1.1]) y13).bind fun y14 =>
          bif y14 then
            bif (eqI (.arr 16 (.int .i64)) y5.1.2.2.2.1 e9_8.2.2.2.1) then
              bif (y5.1.2.2.2.2.1 == e9_8.2.2.2.2.1) then
                bif (eqI (.arr 8 (.int .i64)) y5.1.2.2.2.2.2.1 e9_8.2.2.2.2.2.1) then
                  (frame_Fine.u y5.1).bind fun y15 =>
                  bif y15 then
                    law15_alive.u.bind fun y16 =>
                    k y16
                  else
                    k false
                else
                  k false
              else
                k false
            else
              k false
          else
            k false
        else
          k false
  | x9 :: xs9, i9 =>
    bif (decide (i9 > 0)) then
      bif (idxOK (IntKind.wrap .i64 (i9 - 1)) (List.length e9_9.2.2.2.2.2.1)) then
        let v4 : Int := (List.getD e9_9.2.2.2.2.2.1 (Int.toNat (IntKind.wrap .i64 (i9 - 1))) (0, (0, (0, (0, (0, ())))))).2.2.2.2.1
        bif (decide (x9.2.2.2.2.1 ≤ v4)) then
          k false
        else
          law15_CallGoes.g0 e9_1 e9_2 e9_3 e9_4 e9_5 e9_7 e9_8 e9_9  k xs9 (i9 + 1)
      else
        none
    else
      law15_CallGoes.g0 e9_1 e9_2 e9_3 e9_4 e9_5 e9_7 e9_8 e9_9  k xs9 (i9 + 1)
theorem law15_CallGoes.h0 {Ω : Type} (e9_1 : (List T_s54)) (e9_2 : Int) (e9_3 : Int) (e9_4 : Bool) (e9_5 : (List T_s44)) (e9_7 : T_s46) (e9_8 : T_s25) (e9_9 : T_s29)   (k : Bool → Option Ω) (hX : ((List.length e9_5 : Nat) : Int) ≤ 9223372036854775807) : ∀ (m : Nat) (i : Int) (a : Unit), 0 ≤ i → i ≤ ((List.length e9_5 : Nat) : Int) → ((List.length e9_5 : Nat) : Int) < m + i → Le (law15_CallGoes.g0 e9_1 e9_2 e9_3 e9_4 e9_5 e9_7 e9_8 e9_9  k (List.drop (Int.toNat i) e9_5) i) (iter (law15_CallGoes.B0 BIG e9_1 e9_2 e9_3 e9_4 e9_5 (((List.length e9_5 : Nat) : Int)) e9_7 e9_8 e9_9  k) m (i)) :=
  iter_list e9_5 (0, (0, (0, (0, (0, ()))))) (fun (i9 : Int) (a9 : Unit) => (i9)) (fun xs i9 a9 => law15_CallGoes.g0 e9_1 e9_2 e9_3 e9_4 e9_5 e9_7 e9_8 e9_9  k xs i9) (law15_CallGoes.B0 BIG e9_1 e9_2 e9_3 e9_4 e9_5 (((List.length e9_5 : Nat) : Int)) e9_7 e9_8 e9_9  k)
    (fun i9 a9 r h0 => (Le.fls h0 (Le.bnd fun y5 => (Le.cond (Le.cond (Le.cond (let v6 : T_s44 := (List.getD e9_9.2.2.2.2.2.1 (Int.toNat (Int.tmod (IntKind.wrap .i64 e9_2) ((List.length e9_9.2.2.2.2.2.1 : Nat) : Int))) (0, (0, (0, (0, (0, ())))))); (Le.bnd fun y7 => (Le.cond (Le.bnd fun y8 => (Le.bnd fun y9 => (Le.cond (Le.cond (Le.cond (Le.cond (Le.bnd fun y10 => (Le.cond (Le.bnd fun y11 => (Le.refl _)) (Le.refl _))) (Le.refl _)) (Le.refl _)) (Le.refl _)) (Le.refl _)))) (Le.refl _)))) Le.nil) Le.nil) (Le.cond (Le.cond (Le.bnd fun y12 => (Le.refl _)) (Le.refl _)) (Le.cond (Le.bnd fun y13 => (Le.bnd fun y14 => (Le.cond (Le.cond (Le.cond (Le.cond (Le.bnd fun y15 => (Le.cond (Le.bnd fun y16 => (Le.refl _)) (Le.refl _))) (Le.refl _)) (Le.refl _)) (Le.refl _)) (Le.refl _)))) (Le.refl _)))))))
    (fun i9 xs9 a9 r h0 h1 hw ih => (Le.tru h0 (Le.tru h1 (Le.cond (Le.cond (let v4 : Int := (List.getD e9_9.2.2.2.2.2.1 (Int.toNat (IntKind.wrap .i64 (i9 - 1))) (0, (0, (0, (0, (0, ())))))).2.2.2.2.1; (Le.cond (Le.refl _) (ih _ hw ()))) Le.nil) (ih _ hw ())))))
    hX
def law15_CallGoes.w {Ω : Type} (x0 : (List T_s54)) (x1 : T_s46) (x2 : Int) (k : Bool → Option Ω) : Option Ω :=
  bif (decide (((List.length x0 : Nat) : Int) > 70)) then
    law15_alive.u.bind fun y1 =>
    k y1
  else
    (call_Of.u x0 x1.1 0).bind fun y2 =>
    bif (y2.2 != 0) then
      bif (((List.length y2.1.2.2.2.2.2.1 : Nat) : Int) == 0) then
        law15_alive.u.bind fun y3 =>
        k y3
      else
        k false
    else
      bif decide (((List.length y2.1.2.2.2.2.2.1 : Nat) : Int) ≤ 4611686018427387904) then law15_CallGoes.g0 x0 x2 (IntKind.wrap .i32 x1.2.2.1) x1.2.2.2.1 y2.1.2.2.2.2.2.1 x1 x1.1 y2.1  k y2.1.2.2.2.2.2.1 0 else none
theorem law15_CallGoes.le {Ω : Type} (x0 : (List T_s54)) (x1 : T_s46) (x2 : Int) (k : Bool → Option Ω) : Le (law15_CallGoes.w x0 x1 x2 k) (law15_CallGoes.s BIG x0 x1 x2 k) := by
  delta law15_CallGoes.w law15_CallGoes.s law15_CallGoes.sl
  exact (Le.cond (Le.bnd fun y1 => (Le.refl _)) (Le.bnd fun y2 => (Le.cond (Le.cond (Le.bnd fun y3 => (Le.refl _)) (Le.refl _)) (Le.gd fun hg => law15_CallGoes.h0 _ _ _ _ _ _ _ _   k (le_up (of_decide_eq_true hg)) BIG 0 () (by decide) (zero_le_len _) (big_list (of_decide_eq_true hg))))))
def law15_CallGoes.u (x0 : (List T_s54)) (x1 : T_s46) (x2 : Int) : Option (Bool) := law15_CallGoes.w x0 x1 x2 some
theorem law15_CallGoes.c (x0 : (List T_s54)) (x1 : T_s46) (x2 : Int) (r : Bool) (h : law15_CallGoes.u x0 x1 x2 = some r) : Contract CKM 5 [(.v (.slice E_s54) (x0)), (.v E_s46 (x1)), (.v (.int .u8) (x2))] (tupAV .bool [] r) :=
  contract_s (S := fun k => law15_CallGoes.s BIG x0 x1 x2 k) CKM_ok (orS_ok (frame_Fine.e_ok.mono le_C_CKM) (orS_ok (prog_Next.e_ok.mono le_CK_CKM) (orS_ok (ref02_Same.e_ok.mono le_C_CKM) (orS_ok call_Wake.e_ok (orS_ok call_Answer.e_ok (orS_ok call_Of.e_ok (orS_ok law15_alive.e_ok noS_ok))))))) (by kernel_rfl) (by kernel_rfl) (by kernel_rfl) (law15_CallGoes.ev BIG x0 x1 x2 (dec .bool [])) (law15_CallGoes.le x0 x1 x2 some r h)
noncomputable def law15_CallGoes.e : Ent := argI (.slice E_s54) fun x0 => argI E_s46 fun x1 => argI (.int .u8) fun x2 => endU (law15_CallGoes.u x0 x1 x2) (tupAV .bool [])
theorem law15_CallGoes.e_ok : EntOK CKM 5 (fun {_} => law15_CallGoes.e) := entA_ok (argI_ok fun x0 => argI_ok fun x1 => argI_ok fun x2 => endU_ok fun r h => law15_CallGoes.c x0 x1 x2 r h)

/-- (becket call.asker).value -/
noncomputable def call_asker_value.sp : Spec := noS
def call_asker_value.s {Ω : Type} (x0 : T_s60) (k : T_s29 → Option Ω) : Option Ω :=
  bif (idxOK x0.1.2.1 8) then
    k (0, ((-1), (0, ((List.getD x0.2.1.2.2.1 (Int.toNat x0.1.2.1) 0), (0, ([], ()))))))
  else
    none
theorem call_asker_value.ev {Ω : Type} (fuel : Fuel) (x0 : T_s60) (k : AV → Option Ω) : evFn C call_asker_value.sp fuel Tryz.f44 (Tryz.f44.body.getD .skip) [(.v E_s60 (x0))] k = call_asker_value.s x0 (fun r => k (tupAV E_s29 [] r)) := by kernel_rfl
def call_asker_value.u (x0 : T_s60) : Option (T_s29) := call_asker_value.s x0 some
theorem call_asker_value.c (x0 : T_s60) (r : T_s29) (h : call_asker_value.u x0 = some r) : Contract C 44 [(.v E_s60 (x0))] (tupAV E_s29 [] r) :=
  contract_s (S := fun k => call_asker_value.s x0 k) C_ok noS_ok (by kernel_rfl) (by kernel_rfl) (by kernel_rfl) (call_asker_value.ev ⟨1, fun _ => []⟩ x0 (dec E_s29 [])) h
noncomputable def call_asker_value.e : Ent := argI E_s60 fun x0 => endU (call_asker_value.u x0) (tupAV E_s29 [])
theorem call_asker_value.e_ok : EntOK C 44 (fun {_} => call_asker_value.e) := entA_ok (argI_ok fun x0 => endU_ok fun r h => call_asker_value.c x0 r h)

/-- (becket call.asker).told -/
noncomputable def call_asker_told.sp : Spec := noS
def call_asker_told.s {Ω : Type} (x0 : T_s60) (k : T_s29 → Option Ω) : Option Ω :=
  k (0, ((IntKind.wrap .i64 x0.1.2.1), (0, (0, (0, ([], ()))))))
theorem call_asker_told.ev {Ω : Type} (fuel : Fuel) (x0 : T_s60) (k : AV → Option Ω) : evFn C call_asker_told.sp fuel Tryz.f45 (Tryz.f45.body.getD .skip) [(.v E_s60 (x0))] k = call_asker_told.s x0 (fun r => k (tupAV E_s29 [] r)) := by kernel_rfl
def call_asker_told.t (x0 : T_s60) : T_s29 :=
  (0, ((IntKind.wrap .i64 x0.1.2.1), (0, (0, (0, ([], ()))))))
theorem call_asker_told.v {Ω : Type} (x0 : T_s60) (k : T_s29 → Option Ω) : call_asker_told.s x0 k = k (call_asker_told.t x0) := by
  delta call_asker_told.s call_asker_told.t; exact rfl
theorem call_asker_told.c (x0 : T_s60) : Contract C 45 [(.v E_s60 (x0))] (tupAV E_s29 [] (call_asker_told.t x0)) :=
  contract_s (S := fun k => call_asker_told.s x0 k) C_ok noS_ok (by kernel_rfl) (by kernel_rfl) (by kernel_rfl) (call_asker_told.ev ⟨1, fun _ => []⟩ x0 (dec E_s29 [])) (call_asker_told.v x0 some)
noncomputable def call_asker_told.e : Ent := argI E_s60 fun x0 => endT (tupAV E_s29 [] (call_asker_told.t x0))
theorem call_asker_told.e_ok : EntOK C 45 (fun {_} => call_asker_told.e) := entA_ok (argI_ok fun x0 => endT_ok (call_asker_told.c x0))

/-- (becket call.asker).spawn -/
noncomputable def call_asker_spawn.sp : Spec := noS
def call_asker_spawn.s {Ω : Type} (x0 : T_s60) (k : T_s29 → Option Ω) : Option Ω :=
  bif (idxOK x0.1.2.2.2.1 8) then
    k (0, ((IntKind.wrap .i64 x0.1.2.1), ((IntKind.wrap .i64 x0.1.2.2.1), ((List.getD x0.2.1.2.2.1 (Int.toNat x0.1.2.2.2.1) 0), (0, ([], ()))))))
  else
    none
theorem call_asker_spawn.ev {Ω : Type} (fuel : Fuel) (x0 : T_s60) (k : AV → Option Ω) : evFn C call_asker_spawn.sp fuel Tryz.f46 (Tryz.f46.body.getD .skip) [(.v E_s60 (x0))] k = call_asker_spawn.s x0 (fun r => k (tupAV E_s29 [] r)) := by kernel_rfl
def call_asker_spawn.u (x0 : T_s60) : Option (T_s29) := call_asker_spawn.s x0 some
theorem call_asker_spawn.c (x0 : T_s60) (r : T_s29) (h : call_asker_spawn.u x0 = some r) : Contract C 46 [(.v E_s60 (x0))] (tupAV E_s29 [] r) :=
  contract_s (S := fun k => call_asker_spawn.s x0 k) C_ok noS_ok (by kernel_rfl) (by kernel_rfl) (by kernel_rfl) (call_asker_spawn.ev ⟨1, fun _ => []⟩ x0 (dec E_s29 [])) h
noncomputable def call_asker_spawn.e : Ent := argI E_s60 fun x0 => endU (call_asker_spawn.u x0) (tupAV E_s29 [])
theorem call_asker_spawn.e_ok : EntOK C 46 (fun {_} => call_asker_spawn.e) := entA_ok (argI_ok fun x0 => endU_ok fun r h => call_asker_spawn.c x0 r h)

/-- (becket call.asker).poison -/
noncomputable def call_asker_poison.sp : Spec := noS
def call_asker_poison.s {Ω : Type} (x0 : T_s60) (k : T_s29 → Option Ω) : Option Ω :=
  bif (idxOK x0.1.2.2.1 8) then
    k (0, ((-1), ((IntKind.wrap .i64 x0.1.2.1), ((List.getD x0.2.1.2.2.1 (Int.toNat x0.1.2.2.1) 0), (0, ([], ()))))))
  else
    none
theorem call_asker_poison.ev {Ω : Type} (fuel : Fuel) (x0 : T_s60) (k : AV → Option Ω) : evFn C call_asker_poison.sp fuel Tryz.f47 (Tryz.f47.body.getD .skip) [(.v E_s60 (x0))] k = call_asker_poison.s x0 (fun r => k (tupAV E_s29 [] r)) := by kernel_rfl
def call_asker_poison.u (x0 : T_s60) : Option (T_s29) := call_asker_poison.s x0 some
theorem call_asker_poison.c (x0 : T_s60) (r : T_s29) (h : call_asker_poison.u x0 = some r) : Contract C 47 [(.v E_s60 (x0))] (tupAV E_s29 [] r) :=
  contract_s (S := fun k => call_asker_poison.s x0 k) C_ok noS_ok (by kernel_rfl) (by kernel_rfl) (by kernel_rfl) (call_asker_poison.ev ⟨1, fun _ => []⟩ x0 (dec E_s29 [])) h
noncomputable def call_asker_poison.e : Ent := argI E_s60 fun x0 => endU (call_asker_poison.u x0) (tupAV E_s29 [])
theorem call_asker_poison.e_ok : EntOK C 47 (fun {_} => call_asker_poison.e) := entA_ok (argI_ok fun x0 => endU_ok fun r h => call_asker_poison.c x0 r h)

/-- (becket call.asker).both -/
noncomputable def call_asker_both.sp : Spec := noS
def call_asker_both.s {Ω : Type} (x0 : T_s60) (k : T_s29 → Option Ω) : Option Ω :=
  k (0, ((IntKind.wrap .i64 x0.1.2.1), ((IntKind.wrap .i64 x0.1.2.2.1), (0, (0, ([], ()))))))
theorem call_asker_both.ev {Ω : Type} (fuel : Fuel) (x0 : T_s60) (k : AV → Option Ω) : evFn C call_asker_both.sp fuel Tryz.f48 (Tryz.f48.body.getD .skip) [(.v E_s60 (x0))] k = call_asker_both.s x0 (fun r => k (tupAV E_s29 [] r)) := by kernel_rfl
def call_asker_both.t (x0 : T_s60) : T_s29 :=
  (0, ((IntKind.wrap .i64 x0.1.2.1), ((IntKind.wrap .i64 x0.1.2.2.1), (0, (0, ([], ()))))))
theorem call_asker_both.v {Ω : Type} (x0 : T_s60) (k : T_s29 → Option Ω) : call_asker_both.s x0 k = k (call_asker_both.t x0) := by
  delta call_asker_both.s call_asker_both.t; exact rfl
theorem call_asker_both.c (x0 : T_s60) : Contract C 48 [(.v E_s60 (x0))] (tupAV E_s29 [] (call_asker_both.t x0)) :=
  contract_s (S := fun k => call_asker_both.s x0 k) C_ok noS_ok (by kernel_rfl) (by kernel_rfl) (by kernel_rfl) (call_asker_both.ev ⟨1, fun _ => []⟩ x0 (dec E_s29 [])) (call_asker_both.v x0 some)
noncomputable def call_asker_both.e : Ent := argI E_s60 fun x0 => endT (tupAV E_s29 [] (call_asker_both.t x0))
theorem call_asker_both.e_ok : EntOK C 48 (fun {_} => call_asker_both.e) := entA_ok (argI_ok fun x0 => endT_ok (call_asker_both.c x0))

/-- (becket call.asker).object -/
noncomputable def call_asker_object.sp : Spec := noS
def call_asker_object.s {Ω : Type} (x0 : T_s60) (k : T_s29 → Option Ω) : Option Ω :=
  k (0, ((-1), ((IntKind.wrap .i64 x0.1.2.1), (0, (0, ([], ()))))))
theorem call_asker_object.ev {Ω : Type} (fuel : Fuel) (x0 : T_s60) (k : AV → Option Ω) : evFn C call_asker_object.sp fuel Tryz.f49 (Tryz.f49.body.getD .skip) [(.v E_s60 (x0))] k = call_asker_object.s x0 (fun r => k (tupAV E_s29 [] r)) := by kernel_rfl
def call_asker_object.t (x0 : T_s60) : T_s29 :=
  (0, ((-1), ((IntKind.wrap .i64 x0.1.2.1), (0, (0, ([], ()))))))
theorem call_asker_object.v {Ω : Type} (x0 : T_s60) (k : T_s29 → Option Ω) : call_asker_object.s x0 k = k (call_asker_object.t x0) := by
  delta call_asker_object.s call_asker_object.t; exact rfl
theorem call_asker_object.c (x0 : T_s60) : Contract C 49 [(.v E_s60 (x0))] (tupAV E_s29 [] (call_asker_object.t x0)) :=
  contract_s (S := fun k => call_asker_object.s x0 k) C_ok noS_ok (by kernel_rfl) (by kernel_rfl) (by kernel_rfl) (call_asker_object.ev ⟨1, fun _ => []⟩ x0 (dec E_s29 [])) (call_asker_object.v x0 some)
noncomputable def call_asker_object.e : Ent := argI E_s60 fun x0 => endT (tupAV E_s29 [] (call_asker_object.t x0))
theorem call_asker_object.e_ok : EntOK C 49 (fun {_} => call_asker_object.e) := entA_ok (argI_ok fun x0 => endT_ok (call_asker_object.c x0))

end Go.Proofs.YtjhkagfolmhacaaGreatDoor.K

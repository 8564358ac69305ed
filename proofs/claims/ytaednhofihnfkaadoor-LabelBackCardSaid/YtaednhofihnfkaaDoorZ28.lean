/- What functions of the program come to, plainly. -/
import Derived.Test.YtaednhofihnfkaaDoorZ28a
set_option maxRecDepth 100000
set_option linter.unusedVariables false
namespace Go.Proofs.YtaednhofihnfkaaDoor.K
open Go Go.RowKit

/-- becket becketref28.Parse -/
noncomputable def ref28_Parse.sp : Spec := (orS 55 (fun {_} => ref01_Plain.e) (orS 47 (fun {_} => ref28_Marks.e) (orS 46 (fun {_} => ref28_Names.e) (orS 22 (fun {_} => ref28_Check.e) noS))))
def ref28_Parse.F (fuel : Nat) : Fuel := ⟨fuel, fun r => bif r == 23 then [0, 1, 3, 4, 6, 8, 9, 11, 12, 13, 14, 15, 16, 17, 18, 19, 20, 21, 22, 23, 24, 25, 26, 27, 28, 29, 30, 31, 32, 33, 34, 35, 36, 37, 38, 39, 40, 41, 42, 43, 44, 45, 46, 47, 48, 49, 50, 51, 52, 53, 54, 55, 56, 57, 58, 59, 60, 61, 62, 63, 64, 65, 66, 67, 68, 69, 70, 71, 72, 73, 74, 75, 76, 77, 78, 79, 80, 81, 82, 83, 84, 85, 86, 87, 88, 89, 90, 91, 92, 93, 94, 95, 96, 97, 98, 99, 100, 101, 102, 103, 104, 105, 106, 107, 108, 109, 110, 111, 112, 113, 114, 115, 116, 117, 118, 119, 120, 121, 122, 123, 124, 125, 126, 127, 128, 129, 130, 131, 132, 133, 134, 135] else bif r == 6 then [1, 3, 7, 8, 9, 10, 11, 12, 13, 14, 15, 16, 17, 18, 19, 20, 21, 22, 23, 24, 25, 26, 27, 28, 29, 30, 31, 32, 33, 34, 35, 36, 37, 38, 39, 40, 41, 42, 43, 44, 45, 46, 47, 48, 49, 50, 51, 52, 53, 54, 55, 56, 57, 58, 59, 60, 61, 62, 63, 64, 65, 66, 67, 68, 69, 70, 71, 72, 73, 74, 75, 76, 77, 78, 79, 80, 81, 82, 83, 84, 85, 86, 87, 88, 89, 90, 91, 92, 93, 94, 95, 96, 97, 98, 99, 100, 101, 102, 103, 104, 105, 106, 107, 108, 109, 110, 111, 112, 113, 114, 115, 116, 117, 118, 119, 120, 121, 122, 123, 124, 125, 126, 127, 128, 129, 130, 131, 132, 133, 134, 135] else bif r == 2 then [1, 3, 5, 6, 7, 8, 9, 10, 11, 12, 13, 14, 15, 16, 17, 18, 19, 20, 21, 22, 23, 24, 25, 26, 27, 28, 29, 30, 31, 32, 33, 34, 35, 36, 37, 38, 39, 40, 41, 42, 43, 44, 45, 46, 47, 48, 49, 50, 51, 52, 53, 54, 55, 56, 57, 58, 59, 60, 61, 62, 63, 64, 65, 66, 67, 68, 69, 70, 71, 72, 73, 74, 75, 76, 77, 78, 79, 80, 81, 82, 83, 84, 85, 86, 87, 88, 89, 90, 91, 92, 93, 94, 95, 96, 97, 98, 99, 100, 101, 102, 103, 104, 105, 106, 107, 108, 109, 110, 111, 112, 113, 114, 115, 116, 117, 118, 119, 120, 121, 122, 123, 124, 125, 126, 127, 128, 129, 130, 131, 132, 133, 134, 135] else []⟩
def ref28_Parse.E0 (e23_1 : ByteArray) (e23_2 : T_s22) (s23 : Int) : List AV := [.dead, .dead, (.ref 0 []), .dead, .dead, (.ref 1 []), .dead, (.v .str (e23_1)), .dead, .dead, (.v (.int .i64) (s23)), .dead, .dead, .dead, .dead, .dead, .dead, .dead, .dead, .dead, .dead, .dead, .dead, .dead, .dead, .dead, .dead, .dead, .dead, .dead, .dead, .dead, .dead, .dead, .dead, .dead, .dead, .dead, .dead, .dead, .dead, .dead, .dead, .dead, .dead, .dead, .dead, .dead, .dead, .dead, .dead, .dead, .dead, .dead, .dead, .dead, .dead, .dead, .dead, .dead, .dead, .dead, .dead, .dead, .dead, .dead, .dead, .dead, .dead, .dead, .dead, .dead, .dead, .dead, .dead, .dead, .dead, .dead, .dead, .dead, .dead, .dead, .dead, .dead, .dead, .dead, .dead, .dead, .dead, .dead, .dead, .dead, .dead, .dead, .dead, .dead, .dead, .dead, .dead, .dead, .dead, .dead, .dead, .dead, .dead, .dead, .dead, .dead, .dead, .dead, .dead, .dead, .dead, .dead, .dead, .dead, .dead, .dead, .dead, .dead, .dead, .dead, .dead, .dead, .dead, .dead, .dead, .dead, .dead, .dead, .dead, .dead, .dead, .dead, .dead, .dead]
def ref28_Parse.H0 (e23_1 : ByteArray) (e23_2 : T_s22) (s23 : Int) : Heap := [(.box E_s22 (0, (0, (0, (0, ())))) false), (.box E_s22 e23_2 false)]
noncomputable def ref28_Parse.M0 {Ω : Type} (fuel : Nat) (e23_1 : ByteArray) (e23_2 : T_s22)  (k : AV → Option Ω) (m : Nat) (s : Int) : Option Ω := loopK (fun env L k => evCode C ref28_Parse.sp (ref28_Parse.F fuel) (cl (cl (cl (cr (cr (cr (cl (cr (cr (cr (cr (cr (cr (cr (cr (Tryd.f25.body.getD .skip)))))))))))))))) env L k) [true, true, false, true, true, false, true, false, true, true, false, true, true, true, true, true, true, true, true, true, true, true, true, true, true, true, true, true, true, true, true, true, true, true, true, true, true, true, true, true, true, true, true, true, true, true, true, true, true, true, true, true, true, true, true, true, true, true, true, true, true, true, true, true, true, true, true, true, true, true, true, true, true, true, true, true, true, true, true, true, true, true, true, true, true, true, true, true, true, true, true, true, true, true, true, true, true, true, true, true, true, true, true, true, true, true, true, true, true, true, true, true, true, true, true, true, true, true, true, true, true, true, true, true, true, true, true, true, true, true, true, true, true, true, true, true] [] 2 (blockK 4 (seqK (fun env L => evCode C ref28_Parse.sp (ref28_Parse.F fuel) (cr (cr (cr (cr (cl (cr (cr (cr (cr (cr (cr (cr (cr (Tryd.f25.body.getD .skip)))))))))))))) env L (seqK (fun env L => evCode C ref28_Parse.sp (ref28_Parse.F fuel) (cr (cr (cr (cr (cr (cr (cr (cr (cr (Tryd.f25.body.getD .skip)))))))))) env L (finK C Tryd.f25 k)) (finK C Tryd.f25 k))) (seqK (fun env L => evCode C ref28_Parse.sp (ref28_Parse.F fuel) (cr (cr (cr (cr (cr (cr (cr (cr (cr (Tryd.f25.body.getD .skip)))))))))) env L (finK C Tryd.f25 k)) (finK C Tryd.f25 k)))) m ((ref28_Parse.E0 e23_1 e23_2) s) ((ref28_Parse.H0 e23_1 e23_2) s)
def ref28_Parse.E1 (e2_1 : ByteArray) (e6_1 : Int) (s6 : Int × T_s22) : List AV := [(.v .str (e2_1)), .dead, (.ref 0 []), .dead, (.v (.int .i64) (e6_1)), (.ref 1 []), (.v (.int .i64) (s6.1)), .dead, .dead, .dead, .dead, .dead, .dead, .dead, .dead, .dead, .dead, .dead, .dead, .dead, .dead, .dead, .dead, .dead, .dead, .dead, .dead, .dead, .dead, .dead, .dead, .dead, .dead, .dead, .dead, .dead, .dead, .dead, .dead, .dead, .dead, .dead, .dead, .dead, .dead, .dead, .dead, .dead, .dead, .dead, .dead, .dead, .dead, .dead, .dead, .dead, .dead, .dead, .dead, .dead, .dead, .dead, .dead, .dead, .dead, .dead, .dead, .dead, .dead, .dead, .dead, .dead, .dead, .dead, .dead, .dead, .dead, .dead, .dead, .dead, .dead, .dead, .dead, .dead, .dead, .dead, .dead, .dead, .dead, .dead, .dead, .dead, .dead, .dead, .dead, .dead, .dead, .dead, .dead, .dead, .dead, .dead, .dead, .dead, .dead, .dead, .dead, .dead, .dead, .dead, .dead, .dead, .dead, .dead, .dead, .dead, .dead, .dead, .dead, .dead, .dead, .dead, .dead, .dead, .dead, .dead, .dead, .dead, .dead, .dead, .dead, .dead, .dead, .dead, .dead, .dead]
def ref28_Parse.H1 (e2_1 : ByteArray) (e6_1 : Int) (s6 : Int × T_s22) : Heap := [(.box E_s22 (0, (0, (0, (0, ())))) false), (.box E_s22 s6.2 false)]
noncomputable def ref28_Parse.M1 {Ω : Type} (fuel : Nat) (e2_1 : ByteArray) (e6_1 : Int)  (k : AV → Option Ω) (m : Nat) (s : Int × T_s22) : Option Ω := loopK (fun env L k => evCode C ref28_Parse.sp (ref28_Parse.F fuel) (cl (cl (cr (cl (cr (cr (cr (cr (Tryd.f25.body.getD .skip))))))))) env L k) [false, true, false, true, false, false, false, true, true, true, true, true, true, true, true, true, true, true, true, true, true, true, true, true, true, true, true, true, true, true, true, true, true, true, true, true, true, true, true, true, true, true, true, true, true, true, true, true, true, true, true, true, true, true, true, true, true, true, true, true, true, true, true, true, true, true, true, true, true, true, true, true, true, true, true, true, true, true, true, true, true, true, true, true, true, true, true, true, true, true, true, true, true, true, true, true, true, true, true, true, true, true, true, true, true, true, true, true, true, true, true, true, true, true, true, true, true, true, true, true, true, true, true, true, true, true, true, true, true, true, true, true, true, true, true, true] [] 2 (blockK 2 (seqK (fun env L => evCode C ref28_Parse.sp (ref28_Parse.F fuel) (cr (cr (cr (cr (cr (Tryd.f25.body.getD .skip)))))) env L (finK C Tryd.f25 k)) (finK C Tryd.f25 k))) m ((ref28_Parse.E1 e2_1 e6_1) s) ((ref28_Parse.H1 e2_1 e6_1) s)
def ref28_Parse.E2 (e2_1 : ByteArray) (s2 : Int) : List AV := [(.v .str (e2_1)), .dead, (.ref 0 []), .dead, (.v (.int .i64) (s2)), .dead, .dead, .dead, .dead, .dead, .dead, .dead, .dead, .dead, .dead, .dead, .dead, .dead, .dead, .dead, .dead, .dead, .dead, .dead, .dead, .dead, .dead, .dead, .dead, .dead, .dead, .dead, .dead, .dead, .dead, .dead, .dead, .dead, .dead, .dead, .dead, .dead, .dead, .dead, .dead, .dead, .dead, .dead, .dead, .dead, .dead, .dead, .dead, .dead, .dead, .dead, .dead, .dead, .dead, .dead, .dead, .dead, .dead, .dead, .dead, .dead, .dead, .dead, .dead, .dead, .dead, .dead, .dead, .dead, .dead, .dead, .dead, .dead, .dead, .dead, .dead, .dead, .dead, .dead, .dead, .dead, .dead, .dead, .dead, .dead, .dead, .dead, .dead, .dead, .dead, .dead, .dead, .dead, .dead, .dead, .dead, .dead, .dead, .dead, .dead, .dead, .dead, .dead, .dead, .dead, .dead, .dead, .dead, .dead, .dead, .dead, .dead, .dead, .dead, .dead, .dead, .dead, .dead, .dead, .dead, .dead, .dead, .dead, .dead, .dead, .dead, .dead, .dead, .dead, .dead, .dead]
def ref28_Parse.H2 (e2_1 : ByteArray) (s2 : Int) : Heap := [(.box E_s22 (0, (0, (0, (0, ())))) false)]
noncomputable def ref28_Parse.M2 {Ω : Type} (fuel : Nat) (e2_1 : ByteArray)  (k : AV → Option Ω) (m : Nat) (s : Int) : Option Ω := loopK (fun env L k => evCode C ref28_Parse.sp (ref28_Parse.F fuel) (cl (cl (cl (cr (cr (Tryd.f25.body.getD .skip)))))) env L k) [false, true, false, true, false, true, true, true, true, true, true, true, true, true, true, true, true, true, true, true, true, true, true, true, true, true, true, true, true, true, true, true, true, true, true, true, true, true, true, true, true, true, true, true, true, true, true, true, true, true, true, true, true, true, true, true, true, true, true, true, true, true, true, true, true, true, true, true, true, true, true, true, true, true, true, true, true, true, true, true, true, true, true, true, true, true, true, true, true, true, true, true, true, true, true, true, true, true, true, true, true, true, true, true, true, true, true, true, true, true, true, true, true, true, true, true, true, true, true, true, true, true, true, true, true, true, true, true, true, true, true, true, true, true, true, true] [] 1 (blockK 0 (seqK (fun env L => evCode C ref28_Parse.sp (ref28_Parse.F fuel) (cr (cr (cr (Tryd.f25.body.getD .skip)))) env L (finK C Tryd.f25 k)) (finK C Tryd.f25 k))) m ((ref28_Parse.E2 e2_1) s) ((ref28_Parse.H2 e2_1) s)
def ref28_Parse.b0 {Ω : Type} (e23_1 : ByteArray) (e23_2 : T_s22)   (k : T_s22 × Int → Option Ω) (r23 : Int → Option Ω) (s23 : Int) : Option Ω :=
  bif (decide (s23 < ((e23_1).size : Int))) then
    bif (idxOK s23 (e23_1).size) then
      bif ((bAt e23_1 (Int.toNat s23)) != 46) then
        r23 ((IntKind.wrap .i64 (s23 + 1)))
      else
        bif (s23 == ((e23_1).size : Int)) then
          k ((0, (0, (0, (0, ())))), 3)
        else
          bif (subC none (some (s23)) (e23_1).size) then
            (ref01_Plain.u ((subS none (some (s23)) e23_1))).bind fun y4 =>
            bif (subC (some ((IntKind.wrap .i64 (s23 + 1)))) none (e23_1).size) then
              (ref01_Plain.u ((subS (some ((IntKind.wrap .i64 (s23 + 1)))) none e23_1))).bind fun y5 =>
              bif (!y4.2) then
                k ((0, (0, (0, (0, ())))), 3)
              else
                bif (!y5.2) then
                  k ((0, (0, (0, (0, ())))), 3)
                else
                  bif ((ref28_Check.t ((e23_2.1, (e23_2.2.1, (y4.1, (y5.1, e23_2.2.2.2.2)))))) != 0) then
                    k ((0, (0, (0, (0, ())))), (ref28_Check.t ((e23_2.1, (e23_2.2.1, (y4.1, (y5.1, e23_2.2.2.2.2)))))))
                  else
                    k ((e23_2.1, (e23_2.2.1, (y4.1, (y5.1, e23_2.2.2.2.2)))), 0)
            else
              none
          else
            none
    else
      none
  else
    bif (s23 == ((e23_1).size : Int)) then
      k ((0, (0, (0, (0, ())))), 3)
    else
      bif (subC none (some (s23)) (e23_1).size) then
        (ref01_Plain.u ((subS none (some (s23)) e23_1))).bind fun y6 =>
        bif (subC (some ((IntKind.wrap .i64 (s23 + 1)))) none (e23_1).size) then
          (ref01_Plain.u ((subS (some ((IntKind.wrap .i64 (s23 + 1)))) none e23_1))).bind fun y7 =>
          bif (!y6.2) then
            k ((0, (0, (0, (0, ())))), 3)
          else
            bif (!y7.2) then
              k ((0, (0, (0, (0, ())))), 3)
            else
              bif ((ref28_Check.t ((e23_2.1, (e23_2.2.1, (y6.1, (y7.1, e23_2.2.2.2.2)))))) != 0) then
                k ((0, (0, (0, (0, ())))), (ref28_Check.t ((e23_2.1, (e23_2.2.1, (y6.1, (y7.1, e23_2.2.2.2.2)))))))
              else
                k ((e23_2.1, (e23_2.2.1, (y6.1, (y7.1, e23_2.2.2.2.2)))), 0)
        else
          none
      else
        none
def ref28_Parse.B0 {Ω : Type} (fuel : Nat) (e23_1 : ByteArray) (e23_2 : T_s22)  (k : T_s22 × Int → Option Ω) (r23 : Int → Option Ω) (s23 : Int) : Option Ω := ref28_Parse.b0 e23_1 e23_2   k r23 s23
def ref28_Parse.b1 {Ω : Type} (e2_1 : ByteArray) (e6_1 : Int)  (lp0 : ByteArray → T_s22 → Int → Option Ω) (k : T_s22 × Int → Option Ω) (r6 : Int × T_s22 → Option Ω) (s6 : Int × T_s22) : Option Ω :=
  bif (decide (s6.1 < 8)) then
    bif (subC none (some (e6_1)) (e2_1).size) then
      bif (idxOK s6.1 (List.length ref28_Names.t)) then
        let v1 : Bool := (((subS none (some (e6_1)) e2_1)).data.toList == ((List.getD ref28_Names.t (Int.toNat s6.1) (bs []))).data.toList)
        bif v1 then
          r6 ((IntKind.wrap .i64 (s6.1 + 1)), ((IntKind.wrap .i64 (s6.1 + 1)), s6.2.2))
        else
          r6 ((IntKind.wrap .i64 (s6.1 + 1)), s6.2)
      else
        none
    else
      none
  else
    bif (s6.2.1 == 0) then
      k ((0, (0, (0, (0, ())))), 12)
    else
      bif (e6_1 == ((e2_1).size : Int)) then
        k ((0, (0, (0, (0, ())))), 3)
      else
        bif (subC (some ((IntKind.wrap .i64 (e6_1 + 1)))) none (e2_1).size) then
          bif (decide (s6.2.1 ≤ 4)) then
            bif (decide ((((subS (some ((IntKind.wrap .i64 (e6_1 + 1)))) none e2_1)).size : Int) < 1)) then
              k ((0, (0, (0, (0, ())))), 3)
            else
              bif (subC none (some (1)) ((subS (some ((IntKind.wrap .i64 (e6_1 + 1)))) none e2_1)).size) then
                bif (idxOK (IntKind.wrap .i64 (s6.2.1 - 1)) (List.length ref28_Marks.t)) then
                  let v2 : Bool := (!(((subS none (some (1)) (subS (some ((IntKind.wrap .i64 (e6_1 + 1)))) none e2_1))).data.toList == ((List.getD ref28_Marks.t (Int.toNat (IntKind.wrap .i64 (s6.2.1 - 1))) (bs []))).data.toList))
                  bif v2 then
                    k ((0, (0, (0, (0, ())))), 3)
                  else
                    bif (subC (some (1)) none ((subS (some ((IntKind.wrap .i64 (e6_1 + 1)))) none e2_1)).size) then
                      (ref01_Plain.u ((subS (some (1)) none (subS (some ((IntKind.wrap .i64 (e6_1 + 1)))) none e2_1)))).bind fun y3 =>
                      bif (!y3.2) then
                        k ((0, (0, (0, (0, ())))), 3)
                      else
                        bif ((ref28_Check.t ((s6.2.1, (y3.1, s6.2.2.2)))) != 0) then
                          k ((0, (0, (0, (0, ())))), (ref28_Check.t ((s6.2.1, (y3.1, s6.2.2.2)))))
                        else
                          k ((s6.2.1, (y3.1, s6.2.2.2)), 0)
                    else
                      none
                else
                  none
              else
                none
          else
            lp0 ((subS (some ((IntKind.wrap .i64 (e6_1 + 1)))) none e2_1)) s6.2 (0)
        else
          none
def ref28_Parse.B1 {Ω : Type} (fuel : Nat) (e2_1 : ByteArray) (e6_1 : Int)  (k : T_s22 × Int → Option Ω) (r6 : Int × T_s22 → Option Ω) (s6 : Int × T_s22) : Option Ω := ref28_Parse.b1 e2_1 e6_1  (fun e23_1 e23_2 => (iter (ref28_Parse.B0 fuel e23_1 e23_2  k) fuel)) k r6 s6
def ref28_Parse.b2 {Ω : Type} (e2_1 : ByteArray)  (lp1 : ByteArray → Int → Int × T_s22 → Option Ω) (k : T_s22 × Int → Option Ω) (r2 : Int → Option Ω) (s2 : Int) : Option Ω :=
  bif (decide (s2 < ((e2_1).size : Int))) then
    bif (idxOK s2 (e2_1).size) then
      bif ((bAt e2_1 (Int.toNat s2)) != 32) then
        r2 ((IntKind.wrap .i64 (s2 + 1)))
      else
        lp1 e2_1 s2 (0, (0, (0, (0, (0, ())))))
    else
      none
  else
    lp1 e2_1 s2 (0, (0, (0, (0, (0, ())))))
def ref28_Parse.B2 {Ω : Type} (fuel : Nat) (e2_1 : ByteArray)  (k : T_s22 × Int → Option Ω) (r2 : Int → Option Ω) (s2 : Int) : Option Ω := ref28_Parse.b2 e2_1  (fun e2_1 e6_1 => (iter (ref28_Parse.B1 fuel e2_1 e6_1  k) fuel)) k r2 s2
theorem ref28_Parse.l0 {Ω : Type} (fuel : Nat) (e23_1 : ByteArray) (e23_2 : T_s22)  (k : AV → Option Ω) : ∀ m, (ref28_Parse.M0 fuel e23_1 e23_2  k m) = iter (ref28_Parse.B0 fuel e23_1 e23_2  (fun r => k (tupAV E_s22 [(.int .i64)] r))) m :=
  loopK_iter (envOf := (ref28_Parse.E0 e23_1 e23_2)) (LOf := (ref28_Parse.H0 e23_1 e23_2)) (B := ref28_Parse.B0 fuel e23_1 e23_2  (fun r => k (tupAV E_s22 [(.int .i64)] r))) (fun R s => by kernel_rfl)
theorem ref28_Parse.l1 {Ω : Type} (fuel : Nat) (e2_1 : ByteArray) (e6_1 : Int)  (k : AV → Option Ω) : ∀ m, (ref28_Parse.M1 fuel e2_1 e6_1  k m) = iter (ref28_Parse.B1 fuel e2_1 e6_1  (fun r => k (tupAV E_s22 [(.int .i64)] r))) m :=
  loopK_iter (envOf := (ref28_Parse.E1 e2_1 e6_1)) (LOf := (ref28_Parse.H1 e2_1 e6_1)) (B := ref28_Parse.B1 fuel e2_1 e6_1  (fun r => k (tupAV E_s22 [(.int .i64)] r))) (fun R s => by
    have h0 : evCode C ref28_Parse.sp (ref28_Parse.F fuel) (cl (cl (cr (cl (cr (cr (cr (cr (Tryd.f25.body.getD .skip))))))))) ((ref28_Parse.E1 e2_1 e6_1) s) ((ref28_Parse.H1 e2_1 e6_1) s) (loopC R [false, true, false, true, false, false, false, true, true, true, true, true, true, true, true, true, true, true, true, true, true, true, true, true, true, true, true, true, true, true, true, true, true, true, true, true, true, true, true, true, true, true, true, true, true, true, true, true, true, true, true, true, true, true, true, true, true, true, true, true, true, true, true, true, true, true, true, true, true, true, true, true, true, true, true, true, true, true, true, true, true, true, true, true, true, true, true, true, true, true, true, true, true, true, true, true, true, true, true, true, true, true, true, true, true, true, true, true, true, true, true, true, true, true, true, true, true, true, true, true, true, true, true, true, true, true, true, true, true, true, true, true, true, true, true, true] [] 2 (blockK 2 (seqK (fun env L => evCode C ref28_Parse.sp (ref28_Parse.F fuel) (cr (cr (cr (cr (cr (Tryd.f25.body.getD .skip)))))) env L (finK C Tryd.f25 k)) (finK C Tryd.f25 k)))) = ref28_Parse.b1 e2_1 e6_1  (fun e23_1 e23_2 => (ref28_Parse.M0 fuel e23_1 e23_2  k fuel)) (fun r => k (tupAV E_s22 [(.int .i64)] r)) (fun s => R ((ref28_Parse.E1 e2_1 e6_1) s) ((ref28_Parse.H1 e2_1 e6_1) s)) s := by kernel_rfl
    have h1 : (fun e23_1 e23_2 => (ref28_Parse.M0 fuel e23_1 e23_2  k fuel)) = (fun e23_1 e23_2 => (iter (ref28_Parse.B0 fuel e23_1 e23_2  (fun r => k (tupAV E_s22 [(.int .i64)] r))) fuel)) := funext fun e23_1 => funext fun e23_2 => ref28_Parse.l0 fuel e23_1 e23_2   k fuel
    rw [h1] at h0
    exact h0)
theorem ref28_Parse.l2 {Ω : Type} (fuel : Nat) (e2_1 : ByteArray)  (k : AV → Option Ω) : ∀ m, (ref28_Parse.M2 fuel e2_1  k m) = iter (ref28_Parse.B2 fuel e2_1  (fun r => k (tupAV E_s22 [(.int .i64)] r))) m :=
  loopK_iter (envOf := (ref28_Parse.E2 e2_1)) (LOf := (ref28_Parse.H2 e2_1)) (B := ref28_Parse.B2 fuel e2_1  (fun r => k (tupAV E_s22 [(.int .i64)] r))) (fun R s => by
    have h0 : evCode C ref28_Parse.sp (ref28_Parse.F fuel) (cl (cl (cl (cr (cr (Tryd.f25.body.getD .skip)))))) ((ref28_Parse.E2 e2_1) s) ((ref28_Parse.H2 e2_1) s) (loopC R [false, true, false, true, false, true, true, true, true, true, true, true, true, true, true, true, true, true, true, true, true, true, true, true, true, true, true, true, true, true, true, true, true, true, true, true, true, true, true, true, true, true, true, true, true, true, true, true, true, true, true, true, true, true, true, true, true, true, true, true, true, true, true, true, true, true, true, true, true, true, true, true, true, true, true, true, true, true, true, true, true, true, true, true, true, true, true, true, true, true, true, true, true, true, true, true, true, true, true, true, true, true, true, true, true, true, true, true, true, true, true, true, true, true, true, true, true, true, true, true, true, true, true, true, true, true, true, true, true, true, true, true, true, true, true, true] [] 1 (blockK 0 (seqK (fun env L => evCode C ref28_Parse.sp (ref28_Parse.F fuel) (cr (cr (cr (Tryd.f25.body.getD .skip)))) env L (finK C Tryd.f25 k)) (finK C Tryd.f25 k)))) = ref28_Parse.b2 e2_1  (fun e2_1 e6_1 => (ref28_Parse.M1 fuel e2_1 e6_1  k fuel)) (fun r => k (tupAV E_s22 [(.int .i64)] r)) (fun s => R ((ref28_Parse.E2 e2_1) s) ((ref28_Parse.H2 e2_1) s)) s := by kernel_rfl
    have h2 : (fun e2_1 e6_1 => (ref28_Parse.M1 fuel e2_1 e6_1  k fuel)) = (fun e2_1 e6_1 => (iter (ref28_Parse.B1 fuel e2_1 e6_1  (fun r => k (tupAV E_s22 [(.int .i64)] r))) fuel)) := funext fun e2_1 => funext fun e6_1 => ref28_Parse.l1 fuel e2_1 e6_1   k fuel
    rw [h2] at h0
    exact h0)
def ref28_Parse.sl {Ω : Type} (x0 : ByteArray) (lp2 : ByteArray → Int → Option Ω) (k : T_s22 × Int → Option Ω) : Option Ω :=
  lp2 x0 (0)
def ref28_Parse.s {Ω : Type} (fuel : Nat) (x0 : ByteArray) (k : T_s22 × Int → Option Ω) : Option Ω := ref28_Parse.sl x0 (fun e2_1 => (iter (ref28_Parse.B2 fuel e2_1  k) fuel)) k
theorem ref28_Parse.ev {Ω : Type} (fuel : Nat) (x0 : ByteArray) (k : AV → Option Ω) : evFn C ref28_Parse.sp (ref28_Parse.F fuel) Tryd.f25 (Tryd.f25.body.getD .skip) [(.v .str (x0))] k = ref28_Parse.s fuel x0 (fun r => k (tupAV E_s22 [(.int .i64)] r)) := by
  have h0 : evFn C ref28_Parse.sp (ref28_Parse.F fuel) Tryd.f25 (Tryd.f25.body.getD .skip) [(.v .str (x0))] k = ref28_Parse.sl x0 (fun e2_1 => (ref28_Parse.M2 fuel e2_1  k fuel)) (fun r => k (tupAV E_s22 [(.int .i64)] r)) := by kernel_rfl
  have h3 : (fun e2_1 => (ref28_Parse.M2 fuel e2_1  k fuel)) = (fun e2_1 => (iter (ref28_Parse.B2 fuel e2_1  (fun r => k (tupAV E_s22 [(.int .i64)] r))) fuel)) := funext fun e2_1 => ref28_Parse.l2 fuel e2_1   k fuel
  rw [h3] at h0
  exact h0
def ref28_Parse.g0 {Ω : Type} (e23_1 : ByteArray) (e23_2 : T_s22)  (k : T_s22 × Int → Option Ω) : Nat → Int → Option Ω
  | 0, i23 =>
    bif (i23 == ((e23_1).size : Int)) then
      k ((0, (0, (0, (0, ())))), 3)
    else
      bif (subC none (some (i23)) (e23_1).size) then
        (ref01_Plain.u ((subS none (some (i23)) e23_1))).bind fun y6 =>
        bif (subC (some ((IntKind.wrap .i64 (i23 + 1)))) none (e23_1).size) then
          (ref01_Plain.u ((subS (some ((IntKind.wrap .i64 (i23 + 1)))) none e23_1))).bind fun y7 =>
          bif (!y6.2) then
            k ((0, (0, (0, (0, ())))), 3)
          else
            bif (!y7.2) then
              k ((0, (0, (0, (0, ())))), 3)
            else
              bif ((ref28_Check.t ((e23_2.1, (e23_2.2.1, (y6.1, (y7.1, e23_2.2.2.2.2)))))) != 0) then
                k ((0, (0, (0, (0, ())))), (ref28_Check.t ((e23_2.1, (e23_2.2.1, (y6.1, (y7.1, e23_2.2.2.2.2)))))))
              else
                k ((e23_2.1, (e23_2.2.1, (y6.1, (y7.1, e23_2.2.2.2.2)))), 0)
        else
          none
      else
        none
  | d23 + 1, i23 =>
    bif (idxOK i23 (e23_1).size) then
      bif ((bAt e23_1 (Int.toNat i23)) != 46) then
        ref28_Parse.g0 e23_1 e23_2  k d23 (i23 + 1)
      else
        bif (i23 == ((e23_1).size : Int)) then
          k ((0, (0, (0, (0, ())))), 3)
        else
          bif (subC none (some (i23)) (e23_1).size) then
            (ref01_Plain.u ((subS none (some (i23)) e23_1))).bind fun y4 =>
            bif (subC (some ((IntKind.wrap .i64 (i23 + 1)))) none (e23_1).size) then
              (ref01_Plain.u ((subS (some ((IntKind.wrap .i64 (i23 + 1)))) none e23_1))).bind fun y5 =>
              bif (!y4.2) then
                k ((0, (0, (0, (0, ())))), 3)
              else
                bif (!y5.2) then
                  k ((0, (0, (0, (0, ())))), 3)
                else
                  bif ((ref28_Check.t ((e23_2.1, (e23_2.2.1, (y4.1, (y5.1, e23_2.2.2.2.2)))))) != 0) then
                    k ((0, (0, (0, (0, ())))), (ref28_Check.t ((e23_2.1, (e23_2.2.1, (y4.1, (y5.1, e23_2.2.2.2.2)))))))
                  else
                    k ((e23_2.1, (e23_2.2.1, (y4.1, (y5.1, e23_2.2.2.2.2)))), 0)
            else
              none
          else
            none
    else
      none
theorem ref28_Parse.h0 {Ω : Type} (e23_1 : ByteArray) (e23_2 : T_s22)   (k : T_s22 × Int → Option Ω) (hN : (((e23_1).size : Int) : Int) ≤ 9223372036854775807) : ∀ (m : Nat) (i : Int) (a : Unit), -9223372036854775808 ≤ i → Int.toNat ((((e23_1).size : Int) : Int) - i) < m → Le (ref28_Parse.g0 e23_1 e23_2  k (Int.toNat ((((e23_1).size : Int) : Int) - i)) i) (iter (ref28_Parse.B0 BIG e23_1 e23_2  k) m (i)) :=
  iter_count (((e23_1).size : Int) : Int) (fun i23 => (decide (i23 < ((e23_1).size : Int)))) (fun i => rfl) (fun (i23 : Int) (a23 : Unit) => (i23)) (fun xs i23 a23 => ref28_Parse.g0 e23_1 e23_2  k xs i23) (ref28_Parse.B0 BIG e23_1 e23_2  k)
    (fun i23 a23 r h0 => (Le.fls h0 (Le.cond (Le.refl _) (Le.cond (Le.bnd fun y6 => (Le.cond (Le.bnd fun y7 => (Le.cond (Le.refl _) (Le.cond (Le.refl _) (Le.cond (Le.refl _) (Le.refl _))))) Le.nil)) Le.nil))))
    (fun i23 d23 a23 r h0 hw ih => (Le.tru h0 (Le.cond (Le.cond (ih _ hw ()) (Le.cond (Le.refl _) (Le.cond (Le.bnd fun y4 => (Le.cond (Le.bnd fun y5 => (Le.cond (Le.refl _) (Le.cond (Le.refl _) (Le.cond (Le.refl _) (Le.refl _))))) Le.nil)) Le.nil))) Le.nil)))
    hN
def ref28_Parse.g1 {Ω : Type} (e2_1 : ByteArray) (e6_1 : Int)  (k : T_s22 × Int → Option Ω) : Nat → Int → T_s22 → Option Ω
  | 0, i6, a6_1 =>
    bif (a6_1.1 == 0) then
      k ((0, (0, (0, (0, ())))), 12)
    else
      bif (e6_1 == ((e2_1).size : Int)) then
        k ((0, (0, (0, (0, ())))), 3)
      else
        bif (subC (some ((IntKind.wrap .i64 (e6_1 + 1)))) none (e2_1).size) then
          bif (decide (a6_1.1 ≤ 4)) then
            bif (decide ((((subS (some ((IntKind.wrap .i64 (e6_1 + 1)))) none e2_1)).size : Int) < 1)) then
              k ((0, (0, (0, (0, ())))), 3)
            else
              bif (subC none (some (1)) ((subS (some ((IntKind.wrap .i64 (e6_1 + 1)))) none e2_1)).size) then
                bif (idxOK (IntKind.wrap .i64 (a6_1.1 - 1)) (List.length ref28_Marks.t)) then
                  let v2 : Bool := (!(((subS none (some (1)) (subS (some ((IntKind.wrap .i64 (e6_1 + 1)))) none e2_1))).data.toList == ((List.getD ref28_Marks.t (Int.toNat (IntKind.wrap .i64 (a6_1.1 - 1))) (bs []))).data.toList))
                  bif v2 then
                    k ((0, (0, (0, (0, ())))), 3)
                  else
                    bif (subC (some (1)) none ((subS (some ((IntKind.wrap .i64 (e6_1 + 1)))) none e2_1)).size) then
                      (ref01_Plain.u ((subS (some (1)) none (subS (some ((IntKind.wrap .i64 (e6_1 + 1)))) none e2_1)))).bind fun y3 =>
                      bif (!y3.2) then
                        k ((0, (0, (0, (0, ())))), 3)
                      else
                        bif ((ref28_Check.t ((a6_1.1, (y3.1, a6_1.2.2)))) != 0) then
                          k ((0, (0, (0, (0, ())))), (ref28_Check.t ((a6_1.1, (y3.1, a6_1.2.2)))))
                        else
                          k ((a6_1.1, (y3.1, a6_1.2.2)), 0)
                    else
                      none
                else
                  none
              else
                none
          else
            bif (decide (((((subS (some ((IntKind.wrap .i64 (e6_1 + 1)))) none e2_1))).size : Int) ≤ 4611686018427387904)) then ref28_Parse.g0 ((subS (some ((IntKind.wrap .i64 (e6_1 + 1)))) none e2_1)) a6_1  k ((Int.toNat (((((subS (some ((IntKind.wrap .i64 (e6_1 + 1)))) none e2_1))).size : Int) - 0))) 0 else none
        else
          none
  | d6 + 1, i6, a6_1 =>
    bif (subC none (some (e6_1)) (e2_1).size) then
      bif (idxOK i6 (List.length ref28_Names.t)) then
        let v1 : Bool := (((subS none (some (e6_1)) e2_1)).data.toList == ((List.getD ref28_Names.t (Int.toNat i6) (bs []))).data.toList)
        bif v1 then
          ref28_Parse.g1 e2_1 e6_1  k d6 (i6 + 1) (((IntKind.wrap .i64 (i6 + 1)), a6_1.2))
        else
          ref28_Parse.g1 e2_1 e6_1  k d6 (i6 + 1) a6_1
      else
        none
    else
      none
theorem ref28_Parse.h1 {Ω : Type} (e2_1 : ByteArray) (e6_1 : Int)   (k : T_s22 × Int → Option Ω) (hN : (8 : Int) ≤ 9223372036854775807) : ∀ (m : Nat) (i : Int) (a : T_s22), -9223372036854775808 ≤ i → Int.toNat ((8 : Int) - i) < m → Le (ref28_Parse.g1 e2_1 e6_1  k (Int.toNat ((8 : Int) - i)) i a) (iter (ref28_Parse.B1 BIG e2_1 e6_1  k) m (i, a)) :=
  iter_count (8 : Int) (fun i6 => (decide (i6 < 8))) (fun i => rfl) (fun (i6 : Int) (a6 : T_s22) => (i6, a6)) (fun xs i6 a6 => ref28_Parse.g1 e2_1 e6_1  k xs i6 a6) (ref28_Parse.B1 BIG e2_1 e6_1  k)
    (fun i6 a6 r h0 => (Le.fls h0 (Le.cond (Le.refl _) (Le.cond (Le.refl _) (Le.cond (Le.cond (Le.cond (Le.refl _) (Le.cond (Le.cond (let v2 : Bool := (!(((subS none (some (1)) (subS (some ((IntKind.wrap .i64 (e6_1 + 1)))) none e2_1))).data.toList == ((List.getD ref28_Marks.t (Int.toNat (IntKind.wrap .i64 (a6.1 - 1))) (bs []))).data.toList)); (Le.cond (Le.refl _) (Le.cond (Le.bnd fun y3 => (Le.cond (Le.refl _) (Le.cond (Le.refl _) (Le.refl _)))) Le.nil))) Le.nil) Le.nil)) (Le.gd fun hg => ref28_Parse.h0 _ _   k (cnt_up hg) BIG 0 () (by decide) (cnt_big hg (by decide)))) Le.nil)))))
    (fun i6 d6 a6 r h0 hw ih => (Le.tru h0 (Le.cond (Le.cond (let v1 : Bool := (((subS none (some (e6_1)) e2_1)).data.toList == ((List.getD ref28_Names.t (Int.toNat i6) (bs []))).data.toList); (Le.cond (ih _ hw (((IntKind.wrap .i64 (i6 + 1)), a6.2))) (ih _ hw (a6)))) Le.nil) Le.nil)))
    hN
def ref28_Parse.g2 {Ω : Type} (e2_1 : ByteArray)  (k : T_s22 × Int → Option Ω) : Nat → Int → Option Ω
  | 0, i2 =>
    ref28_Parse.g1 e2_1 i2  k ((Int.toNat ((8 : Int) - 0))) 0 ((0, (0, (0, (0, ())))))
  | d2 + 1, i2 =>
    bif (idxOK i2 (e2_1).size) then
      bif ((bAt e2_1 (Int.toNat i2)) != 32) then
        ref28_Parse.g2 e2_1  k d2 (i2 + 1)
      else
        ref28_Parse.g1 e2_1 i2  k ((Int.toNat ((8 : Int) - 0))) 0 ((0, (0, (0, (0, ())))))
    else
      none
theorem ref28_Parse.h2 {Ω : Type} (e2_1 : ByteArray)   (k : T_s22 × Int → Option Ω) (hN : (((e2_1).size : Int) : Int) ≤ 9223372036854775807) : ∀ (m : Nat) (i : Int) (a : Unit), -9223372036854775808 ≤ i → Int.toNat ((((e2_1).size : Int) : Int) - i) < m → Le (ref28_Parse.g2 e2_1  k (Int.toNat ((((e2_1).size : Int) : Int) - i)) i) (iter (ref28_Parse.B2 BIG e2_1  k) m (i)) :=
  iter_count (((e2_1).size : Int) : Int) (fun i2 => (decide (i2 < ((e2_1).size : Int)))) (fun i => rfl) (fun (i2 : Int) (a2 : Unit) => (i2)) (fun xs i2 a2 => ref28_Parse.g2 e2_1  k xs i2) (ref28_Parse.B2 BIG e2_1  k)
    (fun i2 a2 r h0 => (Le.fls h0 (ref28_Parse.h1 _ _   k (by decide) BIG 0 ((0, (0, (0, (0, ()))))) (by decide) (by decide))))
    (fun i2 d2 a2 r h0 hw ih => (Le.tru h0 (Le.cond (Le.cond (ih _ hw ()) (ref28_Parse.h1 _ _   k (by decide) BIG 0 ((0, (0, (0, (0, ()))))) (by decide) (by decide))) Le.nil)))
    hN
def ref28_Parse.w {Ω : Type} (x0 : ByteArray) (k : T_s22 × Int → Option Ω) : Option Ω :=
  bif (decide (((x0).size : Int) ≤ 4611686018427387904)) then ref28_Parse.g2 x0  k ((Int.toNat (((x0).size : Int) - 0))) 0 else none
theorem ref28_Parse.le {Ω : Type} (x0 : ByteArray) (k : T_s22 × Int → Option Ω) : Le (ref28_Parse.w x0 k) (ref28_Parse.s BIG x0 k) := by
  delta ref28_Parse.w ref28_Parse.s ref28_Parse.sl
  exact (Le.gd fun hg => ref28_Parse.h2 _   k (cnt_up hg) BIG 0 () (by decide) (cnt_big hg (by decide)))
def ref28_Parse.u (x0 : ByteArray) : Option (T_s22 × Int) := ref28_Parse.w x0 some
theorem ref28_Parse.c (x0 : ByteArray) (r : T_s22 × Int) (h : ref28_Parse.u x0 = some r) : Contract C 25 [(.v .str (x0))] (tupAV E_s22 [(.int .i64)] r) :=
  contract_s (S := fun k => ref28_Parse.s BIG x0 k) C_ok (orS_ok ref01_Plain.e_ok (orS_ok ref28_Marks.e_ok (orS_ok ref28_Names.e_ok (orS_ok ref28_Check.e_ok noS_ok)))) (by kernel_rfl) (by kernel_rfl) (by kernel_rfl) (ref28_Parse.ev BIG x0 (dec E_s22 [(.int .i64)])) (ref28_Parse.le x0 some r h)
noncomputable def ref28_Parse.e : Ent := argI .str fun x0 => endU (ref28_Parse.u x0) (tupAV E_s22 [(.int .i64)])
theorem ref28_Parse.e_ok : EntOK C 25 (fun {_} => ref28_Parse.e) := entA_ok (argI_ok fun x0 => endU_ok fun r h => ref28_Parse.c x0 r h)

/-- becket becketlaw28.EventReads -/
noncomputable def law28_EventReads.sp : Spec := (orS 25 (fun {_} => ref28_Parse.e) (orS 24 (fun {_} => event_Parse.e) (orS 23 (fun {_} => law28_alive.e) noS)))
def law28_EventReads.s {Ω : Type} (x0 : ByteArray) (k : Bool → Option Ω) : Option Ω :=
  bif (decide (((x0).size : Int) > 200)) then
    law28_alive.u.bind fun y1 =>
    k y1
  else
    (event_Parse.u x0).bind fun y2 =>
    (ref28_Parse.u x0).bind fun y3 =>
    bif (eqI E_s22 y2.1 y3.1) then
      bif (y2.2 == y3.2) then
        law28_alive.u.bind fun y4 =>
        k y4
      else
        k false
    else
      k false
theorem law28_EventReads.ev {Ω : Type} (fuel : Fuel) (x0 : ByteArray) (k : AV → Option Ω) : evFn CMP law28_EventReads.sp fuel Tryd.f6 (Tryd.f6.body.getD .skip) [(.v .str (x0))] k = law28_EventReads.s x0 (fun r => k (tupAV .bool [] r)) := by kernel_rfl
def law28_EventReads.u (x0 : ByteArray) : Option (Bool) := law28_EventReads.s x0 some
theorem law28_EventReads.c (x0 : ByteArray) (r : Bool) (h : law28_EventReads.u x0 = some r) : Contract CMP 6 [(.v .str (x0))] (tupAV .bool [] r) :=
  contract_s (S := fun k => law28_EventReads.s x0 k) CMP_ok (orS_ok (ref28_Parse.e_ok.mono le_C_CMP) (orS_ok (event_Parse.e_ok.mono le_CM_CMP) (orS_ok law28_alive.e_ok noS_ok))) (by kernel_rfl) (by kernel_rfl) (by kernel_rfl) (law28_EventReads.ev ⟨1, fun _ => []⟩ x0 (dec .bool [])) h
noncomputable def law28_EventReads.e : Ent := argI .str fun x0 => endU (law28_EventReads.u x0) (tupAV .bool [])
theorem law28_EventReads.e_ok : EntOK CMP 6 (fun {_} => law28_EventReads.e) := entA_ok (argI_ok fun x0 => endU_ok fun r h => law28_EventReads.c x0 r h)

/-- becket becketlaw28.To -/
noncomputable def law28_To.sp : Spec := noS
def law28_To.F (fuel : Nat) : Fuel := ⟨fuel, fun r => bif r == 3 then [0, 1, 2, 4, 5, 9, 10, 11, 12, 13, 14, 15, 16, 17] else []⟩
def law28_To.E0 (e3_1 : (List T_s22)) (e3_2 : Int) (s3 : Int × (List T_s22)) : List AV := [.dead, .dead, .dead, (.rs 1), .dead, .dead, (.v (.slice E_s22) (e3_1)), (.v (.int .i64) (e3_2)), (.v (.int .i64) (s3.1)), .dead, .dead, .dead, .dead, .dead, .dead, .dead, .dead, .dead]
def law28_To.H0 (e3_1 : (List T_s22)) (e3_2 : Int) (s3 : Int × (List T_s22)) : Heap := [(.row 29 E_s22 [] false), (.row 29 E_s22 s3.2 false)]
noncomputable def law28_To.M0 {Ω : Type} (fuel : Nat) (e3_1 : (List T_s22)) (e3_2 : Int)  (k : AV → Option Ω) (m : Nat) (s : Int × (List T_s22)) : Option Ω := loopK (fun env L k => evCode C law28_To.sp (law28_To.F fuel) (cl (cl (cr (cl (cr (cr (Tryd.f29.body.getD .skip))))))) env L k) [true, true, true, false, true, true, false, false, false, true, true, true, true, true, true, true, true, true] [] 2 (blockK 0 (seqK (fun env L => evCode C law28_To.sp (law28_To.F fuel) (cr (cr (cr (Tryd.f29.body.getD .skip)))) env L (finK C Tryd.f29 k)) (finK C Tryd.f29 k))) m ((law28_To.E0 e3_1 e3_2) s) ((law28_To.H0 e3_1 e3_2) s)
def law28_To.b0 {Ω : Type} (e3_1 : (List T_s22)) (e3_2 : Int)   (k : (List T_s22) → Option Ω) (r3 : Int × (List T_s22) → Option Ω) (s3 : Int × (List T_s22)) : Option Ω :=
  bif (decide (s3.1 < e3_2)) then
    bif (idxOK s3.1 (List.length e3_1)) then
      bif (decide (List.length s3.2 + List.length [(List.getD e3_1 (Int.toNat s3.1) (0, (0, (0, (0, ())))))] ≤ rowMax)) then
        r3 ((IntKind.wrap .i64 (s3.1 + 1)), (s3.2 ++ [(List.getD e3_1 (Int.toNat s3.1) (0, (0, (0, (0, ())))))]))
      else
        none
    else
      none
  else
    k s3.2
def law28_To.B0 {Ω : Type} (fuel : Nat) (e3_1 : (List T_s22)) (e3_2 : Int)  (k : (List T_s22) → Option Ω) (r3 : Int × (List T_s22) → Option Ω) (s3 : Int × (List T_s22)) : Option Ω := law28_To.b0 e3_1 e3_2   k r3 s3
theorem law28_To.l0 {Ω : Type} (fuel : Nat) (e3_1 : (List T_s22)) (e3_2 : Int)  (k : AV → Option Ω) : ∀ m, (law28_To.M0 fuel e3_1 e3_2  k m) = iter (law28_To.B0 fuel e3_1 e3_2  (fun r => k (tupAV (.slice E_s22) [] r))) m :=
  loopK_iter (envOf := (law28_To.E0 e3_1 e3_2)) (LOf := (law28_To.H0 e3_1 e3_2)) (B := law28_To.B0 fuel e3_1 e3_2  (fun r => k (tupAV (.slice E_s22) [] r))) (fun R s => by kernel_rfl)
def law28_To.sl {Ω : Type} (x0 : (List T_s22)) (lp0 : (List T_s22) → Int → Int × (List T_s22) → Option Ω) (k : (List T_s22) → Option Ω) : Option Ω :=
  lp0 x0 (((List.length x0 : Nat) : Int)) (0, [])
def law28_To.s {Ω : Type} (fuel : Nat) (x0 : (List T_s22)) (k : (List T_s22) → Option Ω) : Option Ω := law28_To.sl x0 (fun e3_1 e3_2 => (iter (law28_To.B0 fuel e3_1 e3_2  k) fuel)) k
theorem law28_To.ev {Ω : Type} (fuel : Nat) (x0 : (List T_s22)) (k : AV → Option Ω) : evFn C law28_To.sp (law28_To.F fuel) Tryd.f29 (Tryd.f29.body.getD .skip) [(.v (.slice E_s22) (x0))] k = law28_To.s fuel x0 (fun r => k (tupAV (.slice E_s22) [] r)) := by
  have h0 : evFn C law28_To.sp (law28_To.F fuel) Tryd.f29 (Tryd.f29.body.getD .skip) [(.v (.slice E_s22) (x0))] k = law28_To.sl x0 (fun e3_1 e3_2 => (law28_To.M0 fuel e3_1 e3_2  k fuel)) (fun r => k (tupAV (.slice E_s22) [] r)) := by kernel_rfl
  have h1 : (fun e3_1 e3_2 => (law28_To.M0 fuel e3_1 e3_2  k fuel)) = (fun e3_1 e3_2 => (iter (law28_To.B0 fuel e3_1 e3_2  (fun r => k (tupAV (.slice E_s22) [] r))) fuel)) := funext fun e3_1 => funext fun e3_2 => law28_To.l0 fuel e3_1 e3_2   k fuel
  rw [h1] at h0
  exact h0
def law28_To.g0 {Ω : Type} (e3_1 : (List T_s22))  (k : (List T_s22) → Option Ω) : List T_s22 → (List T_s22) → Option Ω
  | [], a3_1 =>
    k a3_1
  | x3 :: xs3, a3_1 =>
    bif (decide (List.length a3_1 + List.length [x3] ≤ rowMax)) then
      law28_To.g0 e3_1  k xs3 (a3_1 ++ [x3])
    else
      none
theorem law28_To.h0 {Ω : Type} (e3_1 : (List T_s22))   (k : (List T_s22) → Option Ω) (hX : ((List.length e3_1 : Nat) : Int) ≤ 9223372036854775807) : ∀ (m : Nat) (i : Int) (a : (List T_s22)), 0 ≤ i → i ≤ ((List.length e3_1 : Nat) : Int) → ((List.length e3_1 : Nat) : Int) < m + i → Le (law28_To.g0 e3_1  k (List.drop (Int.toNat i) e3_1) a) (iter (law28_To.B0 BIG e3_1 (((List.length e3_1 : Nat) : Int))  k) m (i, a)) :=
  iter_list e3_1 (0, (0, (0, (0, ())))) (fun (i3 : Int) (a3 : (List T_s22)) => (i3, a3)) (fun xs i3 a3 => law28_To.g0 e3_1  k xs a3) (law28_To.B0 BIG e3_1 (((List.length e3_1 : Nat) : Int))  k)
    (fun i3 a3 r h0 => (Le.fls h0 (Le.refl _)))
    (fun i3 xs3 a3 r h0 h1 hw ih => (Le.tru h0 (Le.tru h1 (Le.cond (ih _ hw ((a3 ++ [(List.getD e3_1 (Int.toNat i3) (0, (0, (0, (0, ())))))]))) Le.nil))))
    hX
def law28_To.w {Ω : Type} (x0 : (List T_s22)) (k : (List T_s22) → Option Ω) : Option Ω :=
  bif decide (((List.length x0 : Nat) : Int) ≤ 4611686018427387904) then law28_To.g0 x0  k x0 ([]) else none
theorem law28_To.le {Ω : Type} (x0 : (List T_s22)) (k : (List T_s22) → Option Ω) : Le (law28_To.w x0 k) (law28_To.s BIG x0 k) := by
  delta law28_To.w law28_To.s law28_To.sl
  exact (Le.gd fun hg => law28_To.h0 _   k (le_up (of_decide_eq_true hg)) BIG 0 ([]) (by decide) (zero_le_len _) (big_list (of_decide_eq_true hg)))
def law28_To.u (x0 : (List T_s22)) : Option ((List T_s22)) := law28_To.w x0 some
theorem law28_To.c (x0 : (List T_s22)) (r : (List T_s22)) (h : law28_To.u x0 = some r) : Contract C 29 [(.v (.slice E_s22) (x0))] (tupAV (.slice E_s22) [] r) :=
  contract_s (S := fun k => law28_To.s BIG x0 k) C_ok noS_ok (by kernel_rfl) (by kernel_rfl) (by kernel_rfl) (law28_To.ev BIG x0 (dec (.slice E_s22) [])) (law28_To.le x0 some r h)
noncomputable def law28_To.e : Ent := argI (.slice E_s22) fun x0 => endU (law28_To.u x0) (tupAV (.slice E_s22) [])
theorem law28_To.e_ok : EntOK C 29 (fun {_} => law28_To.e) := entA_ok (argI_ok fun x0 => endU_ok fun r h => law28_To.c x0 r h)

/-- becket becketlaw28.Back -/
noncomputable def law28_Back.sp : Spec := noS
def law28_Back.F (fuel : Nat) : Fuel := ⟨fuel, fun r => bif r == 3 then [0, 1, 2, 4, 5, 9, 10, 11, 12, 13, 14, 15, 16, 17] else []⟩
def law28_Back.E0 (e3_1 : (List T_s22)) (e3_2 : Int) (s3 : Int × (List T_s22)) : List AV := [.dead, .dead, .dead, (.rs 1), .dead, .dead, (.v (.slice E_s22) (e3_1)), (.v (.int .i64) (e3_2)), (.v (.int .i64) (s3.1)), .dead, .dead, .dead, .dead, .dead, .dead, .dead, .dead, .dead]
def law28_Back.H0 (e3_1 : (List T_s22)) (e3_2 : Int) (s3 : Int × (List T_s22)) : Heap := [(.row 23 E_s22 [] false), (.row 23 E_s22 s3.2 false)]
noncomputable def law28_Back.M0 {Ω : Type} (fuel : Nat) (e3_1 : (List T_s22)) (e3_2 : Int)  (k : AV → Option Ω) (m : Nat) (s : Int × (List T_s22)) : Option Ω := loopK (fun env L k => evCode C law28_Back.sp (law28_Back.F fuel) (cl (cl (cr (cl (cr (cr (Tryd.f27.body.getD .skip))))))) env L k) [true, true, true, false, true, true, false, false, false, true, true, true, true, true, true, true, true, true] [] 2 (blockK 0 (seqK (fun env L => evCode C law28_Back.sp (law28_Back.F fuel) (cr (cr (cr (Tryd.f27.body.getD .skip)))) env L (finK C Tryd.f27 k)) (finK C Tryd.f27 k))) m ((law28_Back.E0 e3_1 e3_2) s) ((law28_Back.H0 e3_1 e3_2) s)
def law28_Back.b0 {Ω : Type} (e3_1 : (List T_s22)) (e3_2 : Int)   (k : (List T_s22) → Option Ω) (r3 : Int × (List T_s22) → Option Ω) (s3 : Int × (List T_s22)) : Option Ω :=
  bif (decide (s3.1 < e3_2)) then
    bif (idxOK s3.1 (List.length e3_1)) then
      bif (decide (List.length s3.2 + List.length [(List.getD e3_1 (Int.toNat s3.1) (0, (0, (0, (0, ())))))] ≤ rowMax)) then
        r3 ((IntKind.wrap .i64 (s3.1 + 1)), (s3.2 ++ [(List.getD e3_1 (Int.toNat s3.1) (0, (0, (0, (0, ())))))]))
      else
        none
    else
      none
  else
    k s3.2
def law28_Back.B0 {Ω : Type} (fuel : Nat) (e3_1 : (List T_s22)) (e3_2 : Int)  (k : (List T_s22) → Option Ω) (r3 : Int × (List T_s22) → Option Ω) (s3 : Int × (List T_s22)) : Option Ω := law28_Back.b0 e3_1 e3_2   k r3 s3
theorem law28_Back.l0 {Ω : Type} (fuel : Nat) (e3_1 : (List T_s22)) (e3_2 : Int)  (k : AV → Option Ω) : ∀ m, (law28_Back.M0 fuel e3_1 e3_2  k m) = iter (law28_Back.B0 fuel e3_1 e3_2  (fun r => k (tupAV (.slice E_s22) [] r))) m :=
  loopK_iter (envOf := (law28_Back.E0 e3_1 e3_2)) (LOf := (law28_Back.H0 e3_1 e3_2)) (B := law28_Back.B0 fuel e3_1 e3_2  (fun r => k (tupAV (.slice E_s22) [] r))) (fun R s => by kernel_rfl)
def law28_Back.sl {Ω : Type} (x0 : (List T_s22)) (lp0 : (List T_s22) → Int → Int × (List T_s22) → Option Ω) (k : (List T_s22) → Option Ω) : Option Ω :=
  lp0 x0 (((List.length x0 : Nat) : Int)) (0, [])
def law28_Back.s {Ω : Type} (fuel : Nat) (x0 : (List T_s22)) (k : (List T_s22) → Option Ω) : Option Ω := law28_Back.sl x0 (fun e3_1 e3_2 => (iter (law28_Back.B0 fuel e3_1 e3_2  k) fuel)) k
theorem law28_Back.ev {Ω : Type} (fuel : Nat) (x0 : (List T_s22)) (k : AV → Option Ω) : evFn C law28_Back.sp (law28_Back.F fuel) Tryd.f27 (Tryd.f27.body.getD .skip) [(.v (.slice E_s22) (x0))] k = law28_Back.s fuel x0 (fun r => k (tupAV (.slice E_s22) [] r)) := by
  have h0 : evFn C law28_Back.sp (law28_Back.F fuel) Tryd.f27 (Tryd.f27.body.getD .skip) [(.v (.slice E_s22) (x0))] k = law28_Back.sl x0 (fun e3_1 e3_2 => (law28_Back.M0 fuel e3_1 e3_2  k fuel)) (fun r => k (tupAV (.slice E_s22) [] r)) := by kernel_rfl
  have h1 : (fun e3_1 e3_2 => (law28_Back.M0 fuel e3_1 e3_2  k fuel)) = (fun e3_1 e3_2 => (iter (law28_Back.B0 fuel e3_1 e3_2  (fun r => k (tupAV (.slice E_s22) [] r))) fuel)) := funext fun e3_1 => funext fun e3_2 => law28_Back.l0 fuel e3_1 e3_2   k fuel
  rw [h1] at h0
  exact h0
def law28_Back.g0 {Ω : Type} (e3_1 : (List T_s22))  (k : (List T_s22) → Option Ω) : List T_s22 → (List T_s22) → Option Ω
  | [], a3_1 =>
    k a3_1
  | x3 :: xs3, a3_1 =>
    bif (decide (List.length a3_1 + List.length [x3] ≤ rowMax)) then
      law28_Back.g0 e3_1  k xs3 (a3_1 ++ [x3])
    else
      none
theorem law28_Back.h0 {Ω : Type} (e3_1 : (List T_s22))   (k : (List T_s22) → Option Ω) (hX : ((List.length e3_1 : Nat) : Int) ≤ 9223372036854775807) : ∀ (m : Nat) (i : Int) (a : (List T_s22)), 0 ≤ i → i ≤ ((List.length e3_1 : Nat) : Int) → ((List.length e3_1 : Nat) : Int) < m + i → Le (law28_Back.g0 e3_1  k (List.drop (Int.toNat i) e3_1) a) (iter (law28_Back.B0 BIG e3_1 (((List.length e3_1 : Nat) : Int))  k) m (i, a)) :=
  iter_list e3_1 (0, (0, (0, (0, ())))) (fun (i3 : Int) (a3 : (List T_s22)) => (i3, a3)) (fun xs i3 a3 => law28_Back.g0 e3_1  k xs a3) (law28_Back.B0 BIG e3_1 (((List.length e3_1 : Nat) : Int))  k)
    (fun i3 a3 r h0 => (Le.fls h0 (Le.refl _)))
    (fun i3 xs3 a3 r h0 h1 hw ih => (Le.tru h0 (Le.tru h1 (Le.cond (ih _ hw ((a3 ++ [(List.getD e3_1 (Int.toNat i3) (0, (0, (0, (0, ())))))]))) Le.nil))))
    hX
def law28_Back.w {Ω : Type} (x0 : (List T_s22)) (k : (List T_s22) → Option Ω) : Option Ω :=
  bif decide (((List.length x0 : Nat) : Int) ≤ 4611686018427387904) then law28_Back.g0 x0  k x0 ([]) else none
theorem law28_Back.le {Ω : Type} (x0 : (List T_s22)) (k : (List T_s22) → Option Ω) : Le (law28_Back.w x0 k) (law28_Back.s BIG x0 k) := by
  delta law28_Back.w law28_Back.s law28_Back.sl
  exact (Le.gd fun hg => law28_Back.h0 _   k (le_up (of_decide_eq_true hg)) BIG 0 ([]) (by decide) (zero_le_len _) (big_list (of_decide_eq_true hg)))
def law28_Back.u (x0 : (List T_s22)) : Option ((List T_s22)) := law28_Back.w x0 some
theorem law28_Back.c (x0 : (List T_s22)) (r : (List T_s22)) (h : law28_Back.u x0 = some r) : Contract C 27 [(.v (.slice E_s22) (x0))] (tupAV (.slice E_s22) [] r) :=
  contract_s (S := fun k => law28_Back.s BIG x0 k) C_ok noS_ok (by kernel_rfl) (by kernel_rfl) (by kernel_rfl) (law28_Back.ev BIG x0 (dec (.slice E_s22) [])) (law28_Back.le x0 some r h)
noncomputable def law28_Back.e : Ent := argI (.slice E_s22) fun x0 => endU (law28_Back.u x0) (tupAV (.slice E_s22) [])
theorem law28_Back.e_ok : EntOK C 27 (fun {_} => law28_Back.e) := entA_ok (argI_ok fun x0 => endU_ok fun r h => law28_Back.c x0 r h)

/-- becket becketref28.Less -/
noncomputable def ref28_Less.sp : Spec := noS
def ref28_Less.s {Ω : Type} (x0 : T_s22) (x1 : T_s22) (k : Bool → Option Ω) : Option Ω :=
  bif (x0.1 != x1.1) then
    k (decide (x0.1 < x1.1))
  else
    bif (x0.2.1 != x1.2.1) then
      k (decide (x0.2.1 < x1.2.1))
    else
      bif (x0.2.2.1 != x1.2.2.1) then
        k (decide (x0.2.2.1 < x1.2.2.1))
      else
        k (decide (x0.2.2.2.1 < x1.2.2.2.1))
theorem ref28_Less.ev {Ω : Type} (fuel : Fuel) (x0 : T_s22) (x1 : T_s22) (k : AV → Option Ω) : evFn C ref28_Less.sp fuel Tryd.f32 (Tryd.f32.body.getD .skip) [(.v E_s22 (x0)), (.v E_s22 (x1))] k = ref28_Less.s x0 x1 (fun r => k (tupAV .bool [] r)) := by kernel_rfl
def ref28_Less.t (x0 : T_s22) (x1 : T_s22) : Bool :=
  bif (x0.1 != x1.1) then
    (decide (x0.1 < x1.1))
  else
    bif (x0.2.1 != x1.2.1) then
      (decide (x0.2.1 < x1.2.1))
    else
      bif (x0.2.2.1 != x1.2.2.1) then
        (decide (x0.2.2.1 < x1.2.2.1))
      else
        (decide (x0.2.2.2.1 < x1.2.2.2.1))
theorem ref28_Less.v {Ω : Type} (x0 : T_s22) (x1 : T_s22) (k : Bool → Option Ω) : ref28_Less.s x0 x1 k = k (ref28_Less.t x0 x1) := by
  delta ref28_Less.s ref28_Less.t; exact (cond_tot rfl (cond_tot rfl (cond_tot rfl rfl)))
theorem ref28_Less.c (x0 : T_s22) (x1 : T_s22) : Contract C 32 [(.v E_s22 (x0)), (.v E_s22 (x1))] (tupAV .bool [] (ref28_Less.t x0 x1)) :=
  contract_s (S := fun k => ref28_Less.s x0 x1 k) C_ok noS_ok (by kernel_rfl) (by kernel_rfl) (by kernel_rfl) (ref28_Less.ev ⟨1, fun _ => []⟩ x0 x1 (dec .bool [])) (ref28_Less.v x0 x1 some)
noncomputable def ref28_Less.e : Ent := argI E_s22 fun x0 => argI E_s22 fun x1 => endT (tupAV .bool [] (ref28_Less.t x0 x1))
theorem ref28_Less.e_ok : EntOK C 32 (fun {_} => ref28_Less.e) := entA_ok (argI_ok fun x0 => argI_ok fun x1 => endT_ok (ref28_Less.c x0 x1))

/-- becket becketref28.Sort -/
noncomputable def ref28_Sort.sp : Spec := (orS 32 (fun {_} => ref28_Less.e) noS)
def ref28_Sort.F (fuel : Nat) : Fuel := ⟨fuel, fun r => bif r == 6 then [1, 2, 6, 7, 8, 9, 10, 11, 12, 13, 14, 15, 16, 17, 18, 19, 20, 21, 22, 23, 24, 25, 26, 27, 28, 29, 30, 31, 32, 33, 34, 35, 36, 37, 38, 39, 40, 41, 42, 43, 44, 45, 46, 47, 48] else bif r == 3 then [1, 2, 5, 6, 7, 8, 9, 10, 11, 12, 13, 14, 15, 16, 17, 18, 19, 20, 21, 22, 23, 24, 25, 26, 27, 28, 29, 30, 31, 32, 33, 34, 35, 36, 37, 38, 39, 40, 41, 42, 43, 44, 45, 46, 47, 48, 1000003] else []⟩
def ref28_Sort.E0 (e3_1 : (List T_s22)) (e6_1 : (List T_s22)) (e6_2 : Int) (s6 : Int) : List AV := [(.v (.slice E_s22) (e3_1)), .dead, .dead, (.v (.slice E_s22) (e6_1)), (.v (.int .i64) (e6_2)), (.v (.int .i64) (s6)), .dead, .dead, .dead, .dead, .dead, .dead, .dead, .dead, .dead, .dead, .dead, .dead, .dead, .dead, .dead, .dead, .dead, .dead, .dead, .dead, .dead, .dead, .dead, .dead, .dead, .dead, .dead, .dead, .dead, .dead, .dead, .dead, .dead, .dead, .dead, .dead, .dead, .dead, .dead, .dead, .dead, .dead, .dead]
def ref28_Sort.H0 (e3_1 : (List T_s22)) (e6_1 : (List T_s22)) (e6_2 : Int) (s6 : Int) : Heap := [(.row 23 E_s22 [] false), (.row 23 E_s22 [] true)]
noncomputable def ref28_Sort.M0 {Ω : Type} (fuel : Nat) (e3_1 : (List T_s22)) (e6_1 : (List T_s22)) (e6_2 : Int) (R3 : List AV → Heap → Option Ω) (k : AV → Option Ω) (m : Nat) (s : Int) : Option Ω := loopK (fun env L k => evCode C ref28_Sort.sp (ref28_Sort.F fuel) (cl (cl (cl (cr (cl (cl (cr (cl (cl (cr (cl (cr (cr (Tryd.f30.body.getD .skip)))))))))))))) env L k) [false, true, true, false, false, false, true, true, true, true, true, true, true, true, true, true, true, true, true, true, true, true, true, true, true, true, true, true, true, true, true, true, true, true, true, true, true, true, true, true, true, true, true, true, true, true, true, true, true] [] 2 (blockK 2 (seqK (fun env L => evCode C ref28_Sort.sp (ref28_Sort.F fuel) (cr (cr (cl (cl (cr (cl (cl (cr (cl (cr (cr (Tryd.f30.body.getD .skip)))))))))))) env L (blockK 1 (seqK (fun env L => evCode C ref28_Sort.sp (ref28_Sort.F fuel) (cr (cr (cl (cl (cr (cl (cr (cr (Tryd.f30.body.getD .skip))))))))) env L (loopC R3 [false, true, true, false, false, true, true, true, true, true, true, true, true, true, true, true, true, true, true, true, true, true, true, true, true, true, true, true, true, true, true, true, true, true, true, true, true, true, true, true, true, true, true, true, true, true, true, true, true] [3] 2 (blockK 0 (seqK (fun env L => evCode C ref28_Sort.sp (ref28_Sort.F fuel) (cr (cr (cr (Tryd.f30.body.getD .skip)))) env L (finK C Tryd.f30 k)) (finK C Tryd.f30 k))))) (loopC R3 [false, true, true, false, false, true, true, true, true, true, true, true, true, true, true, true, true, true, true, true, true, true, true, true, true, true, true, true, true, true, true, true, true, true, true, true, true, true, true, true, true, true, true, true, true, true, true, true, true] [3] 2 (blockK 0 (seqK (fun env L => evCode C ref28_Sort.sp (ref28_Sort.F fuel) (cr (cr (cr (Tryd.f30.body.getD .skip)))) env L (finK C Tryd.f30 k)) (finK C Tryd.f30 k))))))) (blockK 1 (seqK (fun env L => evCode C ref28_Sort.sp (ref28_Sort.F fuel) (cr (cr (cl (cl (cr (cl (cr (cr (Tryd.f30.body.getD .skip))))))))) env L (loopC R3 [false, true, true, false, false, true, true, true, true, true, true, true, true, true, true, true, true, true, true, true, true, true, true, true, true, true, true, true, true, true, true, true, true, true, true, true, true, true, true, true, true, true, true, true, true, true, true, true, true] [3] 2 (blockK 0 (seqK (fun env L => evCode C ref28_Sort.sp (ref28_Sort.F fuel) (cr (cr (cr (Tryd.f30.body.getD .skip)))) env L (finK C Tryd.f30 k)) (finK C Tryd.f30 k))))) (loopC R3 [false, true, true, false, false, true, true, true, true, true, true, true, true, true, true, true, true, true, true, true, true, true, true, true, true, true, true, true, true, true, true, true, true, true, true, true, true, true, true, true, true, true, true, true, true, true, true, true, true] [3] 2 (blockK 0 (seqK (fun env L => evCode C ref28_Sort.sp (ref28_Sort.F fuel) (cr (cr (cr (Tryd.f30.body.getD .skip)))) env L (finK C Tryd.f30 k)) (finK C Tryd.f30 k)))))))) m ((ref28_Sort.E0 e3_1 e6_1 e6_2) s) ((ref28_Sort.H0 e3_1 e6_1 e6_2) s)
def ref28_Sort.E1 (e3_1 : (List T_s22)) (s3 : (List T_s22) × Int) : List AV := [(.v (.slice E_s22) (e3_1)), .dead, .dead, (.v (.slice E_s22) (s3.1)), (.v (.int .i64) (s3.2)), .dead, .dead, .dead, .dead, .dead, .dead, .dead, .dead, .dead, .dead, .dead, .dead, .dead, .dead, .dead, .dead, .dead, .dead, .dead, .dead, .dead, .dead, .dead, .dead, .dead, .dead, .dead, .dead, .dead, .dead, .dead, .dead, .dead, .dead, .dead, .dead, .dead, .dead, .dead, .dead, .dead, .dead, .dead, .dead]
def ref28_Sort.H1 (e3_1 : (List T_s22)) (s3 : (List T_s22) × Int) : Heap := [(.row 23 E_s22 [] false), (.row 23 E_s22 [] true)]
noncomputable def ref28_Sort.M1 {Ω : Type} (fuel : Nat) (e3_1 : (List T_s22))  (k : AV → Option Ω) (m : Nat) (s : (List T_s22) × Int) : Option Ω := loopK (fun env L k => evCode C ref28_Sort.sp (ref28_Sort.F fuel) (cl (cl (cr (cl (cr (cr (Tryd.f30.body.getD .skip))))))) env L k) [false, true, true, false, false, true, true, true, true, true, true, true, true, true, true, true, true, true, true, true, true, true, true, true, true, true, true, true, true, true, true, true, true, true, true, true, true, true, true, true, true, true, true, true, true, true, true, true, true] [3] 2 (blockK 0 (seqK (fun env L => evCode C ref28_Sort.sp (ref28_Sort.F fuel) (cr (cr (cr (Tryd.f30.body.getD .skip)))) env L (finK C Tryd.f30 k)) (finK C Tryd.f30 k))) m ((ref28_Sort.E1 e3_1) s) ((ref28_Sort.H1 e3_1) s)
def ref28_Sort.b0 {Ω : Type} (e3_1 : (List T_s22)) (e6_1 : (List T_s22)) (e6_2 : Int) (r3 : (List T_s22) × Int → Option Ω)  (k : (List T_s22) → Option Ω) (r6 : Int → Option Ω) (s6 : Int) : Option Ω :=
  bif (decide (s6 < ((List.length e6_1 : Nat) : Int))) then
    bif (idxOK e6_2 (List.length e3_1)) then
      bif (idxOK s6 (List.length e6_1)) then
        let v1 : Bool := (ref28_Less.t ((List.getD e3_1 (Int.toNat e6_2) (0, (0, (0, (0, ())))))) ((List.getD e6_1 (Int.toNat s6) (0, (0, (0, (0, ())))))))
        bif (!v1) then
          r6 ((IntKind.wrap .i64 (s6 + 1)))
        else
          bif (subC none (some (s6)) (List.length e6_1)) then
            bif (decide (List.length (subL none (some (s6)) e6_1) ≤ rowMax)) then
              bif (idxOK e6_2 (List.length e3_1)) then
                bif (decide (List.length (subL none (some (s6)) e6_1) + List.length [(List.getD e3_1 (Int.toNat e6_2) (0, (0, (0, (0, ())))))] ≤ rowMax)) then
                  bif (subC (some (s6)) none (List.length e6_1)) then
                    bif (decide (List.length ((subL none (some (s6)) e6_1) ++ [(List.getD e3_1 (Int.toNat e6_2) (0, (0, (0, (0, ())))))]) + List.length (subL (some (s6)) none e6_1) ≤ rowMax)) then
                      r3 ((((subL none (some (s6)) e6_1) ++ [(List.getD e3_1 (Int.toNat e6_2) (0, (0, (0, (0, ())))))]) ++ (subL (some (s6)) none e6_1)), (IntKind.wrap .i64 (e6_2 + 1)))
                    else
                      none
                  else
                    none
                else
                  none
              else
                none
            else
              none
          else
            none
      else
        none
    else
      none
  else
    bif (subC none (some (s6)) (List.length e6_1)) then
      bif (decide (List.length (subL none (some (s6)) e6_1) ≤ rowMax)) then
        bif (idxOK e6_2 (List.length e3_1)) then
          bif (decide (List.length (subL none (some (s6)) e6_1) + List.length [(List.getD e3_1 (Int.toNat e6_2) (0, (0, (0, (0, ())))))] ≤ rowMax)) then
            bif (subC (some (s6)) none (List.length e6_1)) then
              bif (decide (List.length ((subL none (some (s6)) e6_1) ++ [(List.getD e3_1 (Int.toNat e6_2) (0, (0, (0, (0, ())))))]) + List.length (subL (some (s6)) none e6_1) ≤ rowMax)) then
                r3 ((((subL none (some (s6)) e6_1) ++ [(List.getD e3_1 (Int.toNat e6_2) (0, (0, (0, (0, ())))))]) ++ (subL (some (s6)) none e6_1)), (IntKind.wrap .i64 (e6_2 + 1)))
              else
                none
            else
              none
          else
            none
        else
          none
      else
        none
    else
      none
def ref28_Sort.B0 {Ω : Type} (fuel : Nat) (e3_1 : (List T_s22)) (e6_1 : (List T_s22)) (e6_2 : Int) (r3 : (List T_s22) × Int → Option Ω) (k : (List T_s22) → Option Ω) (r6 : Int → Option Ω) (s6 : Int) : Option Ω := ref28_Sort.b0 e3_1 e6_1 e6_2 r3  k r6 s6
def ref28_Sort.b1 {Ω : Type} (e3_1 : (List T_s22))  (lp0 : (List T_s22) → (List T_s22) → Int → Int → Option Ω) (k : (List T_s22) → Option Ω) (r3 : (List T_s22) × Int → Option Ω) (s3 : (List T_s22) × Int) : Option Ω :=
  bif (decide (s3.2 < ((List.length e3_1 : Nat) : Int))) then
    lp0 e3_1 s3.1 s3.2 (0)
  else
    k s3.1
def ref28_Sort.B1 {Ω : Type} (fuel : Nat) (e3_1 : (List T_s22))  (k : (List T_s22) → Option Ω) (r3 : (List T_s22) × Int → Option Ω) (s3 : (List T_s22) × Int) : Option Ω := ref28_Sort.b1 e3_1  (fun e3_1 e6_1 e6_2 => (iter (ref28_Sort.B0 fuel e3_1 e6_1 e6_2 r3 k) fuel)) k r3 s3
theorem ref28_Sort.l0 {Ω : Type} (fuel : Nat) (e3_1 : (List T_s22)) (e6_1 : (List T_s22)) (e6_2 : Int) (R3 : List AV → Heap → Option Ω) (k : AV → Option Ω) : ∀ m, (ref28_Sort.M0 fuel e3_1 e6_1 e6_2 R3 k m) = iter (ref28_Sort.B0 fuel e3_1 e6_1 e6_2 (fun s3 => R3 ((ref28_Sort.E1 e3_1) s3) ((ref28_Sort.H1 e3_1) s3)) (fun r => k (tupAV (.slice E_s22) [] r))) m :=
  loopK_iter (envOf := (ref28_Sort.E0 e3_1 e6_1 e6_2)) (LOf := (ref28_Sort.H0 e3_1 e6_1 e6_2)) (B := ref28_Sort.B0 fuel e3_1 e6_1 e6_2 (fun s3 => R3 ((ref28_Sort.E1 e3_1) s3) ((ref28_Sort.H1 e3_1) s3)) (fun r => k (tupAV (.slice E_s22) [] r))) (fun R s => by kernel_rfl)
theorem ref28_Sort.l1 {Ω : Type} (fuel : Nat) (e3_1 : (List T_s22))  (k : AV → Option Ω) : ∀ m, (ref28_Sort.M1 fuel e3_1  k m) = iter (ref28_Sort.B1 fuel e3_1  (fun r => k (tupAV (.slice E_s22) [] r))) m :=
  loopK_iter (envOf := (ref28_Sort.E1 e3_1)) (LOf := (ref28_Sort.H1 e3_1)) (B := ref28_Sort.B1 fuel e3_1  (fun r => k (tupAV (.slice E_s22) [] r))) (fun R s => by
    have h0 : evCode C ref28_Sort.sp (ref28_Sort.F fuel) (cl (cl (cr (cl (cr (cr (Tryd.f30.body.getD .skip))))))) ((ref28_Sort.E1 e3_1) s) ((ref28_Sort.H1 e3_1) s) (loopC R [false, true, true, false, false, true, true, true, true, true, true, true, true, true, true, true, true, true, true, true, true, true, true, true, true, true, true, true, true, true, true, true, true, true, true, true, true, true, true, true, true, true, true, true, true, true, true, true, true] [3] 2 (blockK 0 (seqK (fun env L => evCode C ref28_Sort.sp (ref28_Sort.F fuel) (cr (cr (cr (Tryd.f30.body.getD .skip)))) env L (finK C Tryd.f30 k)) (finK C Tryd.f30 k)))) = ref28_Sort.b1 e3_1  (fun e3_1 e6_1 e6_2 => (ref28_Sort.M0 fuel e3_1 e6_1 e6_2 R k fuel)) (fun r => k (tupAV (.slice E_s22) [] r)) (fun s => R ((ref28_Sort.E1 e3_1) s) ((ref28_Sort.H1 e3_1) s)) s := by kernel_rfl
    have h1 : (fun e3_1 e6_1 e6_2 => (ref28_Sort.M0 fuel e3_1 e6_1 e6_2 R k fuel)) = (fun e3_1 e6_1 e6_2 => (iter (ref28_Sort.B0 fuel e3_1 e6_1 e6_2 (fun s3 => R ((ref28_Sort.E1 e3_1) s3) ((ref28_Sort.H1 e3_1) s3)) (fun r => k (tupAV (.slice E_s22) [] r))) fuel)) := funext fun e3_1 => funext fun e6_1 => funext fun e6_2 => ref28_Sort.l0 fuel e3_1 e6_1 e6_2  R k fuel
    rw [h1] at h0
    exact h0)
def ref28_Sort.sl {Ω : Type} (x0 : (List T_s22)) (lp1 : (List T_s22) → (List T_s22) × Int → Option Ω) (k : (List T_s22) → Option Ω) : Option Ω :=
  lp1 x0 ([], 0)
def ref28_Sort.s {Ω : Type} (fuel : Nat) (x0 : (List T_s22)) (k : (List T_s22) → Option Ω) : Option Ω := ref28_Sort.sl x0 (fun e3_1 => (iter (ref28_Sort.B1 fuel e3_1  k) fuel)) k
theorem ref28_Sort.ev {Ω : Type} (fuel : Nat) (x0 : (List T_s22)) (k : AV → Option Ω) : evFn C ref28_Sort.sp (ref28_Sort.F fuel) Tryd.f30 (Tryd.f30.body.getD .skip) [(.v (.slice E_s22) (x0))] k = ref28_Sort.s fuel x0 (fun r => k (tupAV (.slice E_s22) [] r)) := by
  have h0 : evFn C ref28_Sort.sp (ref28_Sort.F fuel) Tryd.f30 (Tryd.f30.body.getD .skip) [(.v (.slice E_s22) (x0))] k = ref28_Sort.sl x0 (fun e3_1 => (ref28_Sort.M1 fuel e3_1  k fuel)) (fun r => k (tupAV (.slice E_s22) [] r)) := by kernel_rfl
  have h2 : (fun e3_1 => (ref28_Sort.M1 fuel e3_1  k fuel)) = (fun e3_1 => (iter (ref28_Sort.B1 fuel e3_1  (fun r => k (tupAV (.slice E_s22) [] r))) fuel)) := funext fun e3_1 => ref28_Sort.l1 fuel e3_1   k fuel
  rw [h2] at h0
  exact h0
def ref28_Sort.g0 {Ω : Type} (e3_1 : (List T_s22)) (e6_1 : (List T_s22)) (e6_2 : Int) (r3 : (List T_s22) × Int → Option Ω) (k : (List T_s22) → Option Ω) : List T_s22 → Int → Option Ω
  | [], i6 =>
    bif (subC none (some (i6)) (List.length e6_1)) then
      bif (decide (List.length (subL none (some (i6)) e6_1) ≤ rowMax)) then
        bif (idxOK e6_2 (List.length e3_1)) then
          bif (decide (List.length (subL none (some (i6)) e6_1) + List.length [(List.getD e3_1 (Int.toNat e6_2) (0, (0, (0, (0, ())))))] ≤ rowMax)) then
            bif (subC (some (i6)) none (List.length e6_1)) then
              bif (decide (List.length ((subL none (some (i6)) e6_1) ++ [(List.getD e3_1 (Int.toNat e6_2) (0, (0, (0, (0, ())))))]) + List.length (subL (some (i6)) none e6_1) ≤ rowMax)) then
                r3 ((((subL none (some (i6)) e6_1) ++ [(List.getD e3_1 (Int.toNat e6_2) (0, (0, (0, (0, ())))))]) ++ (subL (some (i6)) none e6_1)), (e6_2 + 1))
              else
                none
            else
              none
          else
            none
        else
          none
      else
        none
    else
      none
  | x6 :: xs6, i6 =>
    bif (idxOK e6_2 (List.length e3_1)) then
      let v1 : Bool := (ref28_Less.t ((List.getD e3_1 (Int.toNat e6_2) (0, (0, (0, (0, ())))))) (x6))
      bif (!v1) then
        ref28_Sort.g0 e3_1 e6_1 e6_2 r3 k xs6 (i6 + 1)
      else
        bif (subC none (some (i6)) (List.length e6_1)) then
          bif (decide (List.length (subL none (some (i6)) e6_1) ≤ rowMax)) then
            bif (idxOK e6_2 (List.length e3_1)) then
              bif (decide (List.length (subL none (some (i6)) e6_1) + List.length [(List.getD e3_1 (Int.toNat e6_2) (0, (0, (0, (0, ())))))] ≤ rowMax)) then
                bif (subC (some (i6)) none (List.length e6_1)) then
                  bif (decide (List.length ((subL none (some (i6)) e6_1) ++ [(List.getD e3_1 (Int.toNat e6_2) (0, (0, (0, (0, ())))))]) + List.length (subL (some (i6)) none e6_1) ≤ rowMax)) then
                    r3 ((((subL none (some (i6)) e6_1) ++ [(List.getD e3_1 (Int.toNat e6_2) (0, (0, (0, (0, ())))))]) ++ (subL (some (i6)) none e6_1)), (e6_2 + 1))
                  else
                    none
                else
                  none
              else
                none
            else
              none
          else
            none
        else
          none
    else
      none
theorem ref28_Sort.h0 {Ω : Type} (e3_1 : (List T_s22)) (e6_1 : (List T_s22)) (e6_2 : Int) (r3 : (List T_s22) × Int → Option Ω) (r3' : (List T_s22) × Int → Option Ω) (hr3 : ∀ q : (List T_s22), Le (r3 (q, (e6_2 + 1))) (r3' (q, (IntKind.wrap .i64 (e6_2 + 1))))) (k : (List T_s22) → Option Ω) (hX : ((List.length e6_1 : Nat) : Int) ≤ 9223372036854775807) : ∀ (m : Nat) (i : Int) (a : Unit), 0 ≤ i → i ≤ ((List.length e6_1 : Nat) : Int) → ((List.length e6_1 : Nat) : Int) < m + i → Le (ref28_Sort.g0 e3_1 e6_1 e6_2 r3 k (List.drop (Int.toNat i) e6_1) i) (iter (ref28_Sort.B0 BIG e3_1 e6_1 e6_2 r3' k) m (i)) :=
  iter_list e6_1 (0, (0, (0, (0, ())))) (fun (i6 : Int) (a6 : Unit) => (i6)) (fun xs i6 a6 => ref28_Sort.g0 e3_1 e6_1 e6_2 r3 k xs i6) (ref28_Sort.B0 BIG e3_1 e6_1 e6_2 r3' k)
    (fun i6 a6 r h0 => (Le.fls h0 (Le.cond (Le.cond (Le.cond (Le.cond (Le.cond (Le.cond (hr3 ((((subL none (some (i6)) e6_1) ++ [(List.getD e3_1 (Int.toNat e6_2) (0, (0, (0, (0, ())))))]) ++ (subL (some (i6)) none e6_1)))) Le.nil) Le.nil) Le.nil) Le.nil) Le.nil) Le.nil)))
    (fun i6 xs6 a6 r h0 h1 hw ih => (Le.tru h0 (Le.cond (Le.tru h1 (let v1 : Bool := (ref28_Less.t ((List.getD e3_1 (Int.toNat e6_2) (0, (0, (0, (0, ())))))) ((List.getD e6_1 (Int.toNat i6) (0, (0, (0, (0, ()))))))); (Le.cond (ih _ hw ()) (Le.cond (Le.cond (Le.cond (Le.cond (Le.cond (Le.cond (hr3 ((((subL none (some (i6)) e6_1) ++ [(List.getD e3_1 (Int.toNat e6_2) (0, (0, (0, (0, ())))))]) ++ (subL (some (i6)) none e6_1)))) Le.nil) Le.nil) Le.nil) Le.nil) Le.nil) Le.nil)))) Le.nil)))
    hX
def ref28_Sort.g1 {Ω : Type} (e3_1 : (List T_s22))  (k : (List T_s22) → Option Ω) : List T_s22 → (List T_s22) → Int → Option Ω
  | [], a3_0, i3 =>
    k a3_0
  | x3 :: xs3, a3_0, i3 =>
    bif decide (((List.length a3_0 : Nat) : Int) ≤ 4611686018427387904) then ref28_Sort.g0 e3_1 a3_0 i3 (fun q => ref28_Sort.g1 e3_1  k xs3 q.1 q.2) k a3_0 0 else none
theorem ref28_Sort.h1 {Ω : Type} (e3_1 : (List T_s22))   (k : (List T_s22) → Option Ω) (hX : ((List.length e3_1 : Nat) : Int) ≤ 9223372036854775807) : ∀ (m : Nat) (i : Int) (a : (List T_s22)), 0 ≤ i → i ≤ ((List.length e3_1 : Nat) : Int) → ((List.length e3_1 : Nat) : Int) < m + i → Le (ref28_Sort.g1 e3_1  k (List.drop (Int.toNat i) e3_1) a i) (iter (ref28_Sort.B1 BIG e3_1  k) m (a, i)) :=
  iter_list e3_1 (0, (0, (0, (0, ())))) (fun (i3 : Int) (a3 : (List T_s22)) => (a3, i3)) (fun xs i3 a3 => ref28_Sort.g1 e3_1  k xs a3 i3) (ref28_Sort.B1 BIG e3_1  k)
    (fun i3 a3 r h0 => (Le.fls h0 (Le.refl _)))
    (fun i3 xs3 a3 r h0 h1 hw ih => (Le.tru h0 (Le.gd fun hg => ref28_Sort.h0 _ _ _ _ _ (fun q => ih _ hw q) k (le_up (of_decide_eq_true hg)) BIG 0 () (by decide) (zero_le_len _) (big_list (of_decide_eq_true hg)))))
    hX
def ref28_Sort.w {Ω : Type} (x0 : (List T_s22)) (k : (List T_s22) → Option Ω) : Option Ω :=
  bif decide (((List.length x0 : Nat) : Int) ≤ 4611686018427387904) then ref28_Sort.g1 x0  k x0 ([]) 0 else none
theorem ref28_Sort.le {Ω : Type} (x0 : (List T_s22)) (k : (List T_s22) → Option Ω) : Le (ref28_Sort.w x0 k) (ref28_Sort.s BIG x0 k) := by
  delta ref28_Sort.w ref28_Sort.s ref28_Sort.sl
  exact (Le.gd fun hg => ref28_Sort.h1 _   k (le_up (of_decide_eq_true hg)) BIG 0 ([]) (by decide) (zero_le_len _) (big_list (of_decide_eq_true hg)))
def ref28_Sort.u (x0 : (List T_s22)) : Option ((List T_s22)) := ref28_Sort.w x0 some
theorem ref28_Sort.c (x0 : (List T_s22)) (r : (List T_s22)) (h : ref28_Sort.u x0 = some r) : Contract C 30 [(.v (.slice E_s22) (x0))] (tupAV (.slice E_s22) [] r) :=
  contract_s (S := fun k => ref28_Sort.s BIG x0 k) C_ok (orS_ok ref28_Less.e_ok noS_ok) (by kernel_rfl) (by kernel_rfl) (by kernel_rfl) (ref28_Sort.ev BIG x0 (dec (.slice E_s22) [])) (ref28_Sort.le x0 some r h)
noncomputable def ref28_Sort.e : Ent := argI (.slice E_s22) fun x0 => endU (ref28_Sort.u x0) (tupAV (.slice E_s22) [])
theorem ref28_Sort.e_ok : EntOK C 30 (fun {_} => ref28_Sort.e) := entA_ok (argI_ok fun x0 => endU_ok fun r h => ref28_Sort.c x0 r h)

/-- becket becketref28.Same -/
noncomputable def ref28_Same.sp : Spec := noS
def ref28_Same.F (fuel : Nat) : Fuel := ⟨fuel, fun r => bif r == 4 then [2, 3, 4, 6, 7, 8, 9, 10, 11, 12, 13, 14, 15, 16, 17, 18, 19, 20, 21, 22, 23, 24, 25] else []⟩
def ref28_Same.E0 (e4_1 : (List T_s22)) (e4_2 : (List T_s22)) (s4 : Int) : List AV := [(.v (.slice E_s22) (e4_1)), (.v (.slice E_s22) (e4_2)), .dead, .dead, .dead, (.v (.int .i64) (s4)), .dead, .dead, .dead, .dead, .dead, .dead, .dead, .dead, .dead, .dead, .dead, .dead, .dead, .dead, .dead, .dead, .dead, .dead, .dead, .dead]
def ref28_Same.H0 (e4_1 : (List T_s22)) (e4_2 : (List T_s22)) (s4 : Int) : Heap := []
noncomputable def ref28_Same.M0 {Ω : Type} (fuel : Nat) (e4_1 : (List T_s22)) (e4_2 : (List T_s22))  (k : AV → Option Ω) (m : Nat) (s : Int) : Option Ω := loopK (fun env L k => evCode C ref28_Same.sp (ref28_Same.F fuel) (cl (cl (cr (cl (cr (cr (Tryd.f26.body.getD .skip))))))) env L k) [false, false, true, true, true, false, true, true, true, true, true, true, true, true, true, true, true, true, true, true, true, true, true, true, true, true] [] 0 (blockK 0 (seqK (fun env L => evCode C ref28_Same.sp (ref28_Same.F fuel) (cr (cr (cr (Tryd.f26.body.getD .skip)))) env L (finK C Tryd.f26 k)) (finK C Tryd.f26 k))) m ((ref28_Same.E0 e4_1 e4_2) s) ((ref28_Same.H0 e4_1 e4_2) s)
def ref28_Same.b0 {Ω : Type} (e4_1 : (List T_s22)) (e4_2 : (List T_s22))   (k : Bool → Option Ω) (r4 : Int → Option Ω) (s4 : Int) : Option Ω :=
  bif (decide (s4 < ((List.length e4_1 : Nat) : Int))) then
    bif (idxOK s4 (List.length e4_1)) then
      bif (idxOK s4 (List.length e4_2)) then
        let v1 : Bool := (!(eqI E_s22 (List.getD e4_1 (Int.toNat s4) (0, (0, (0, (0, ()))))) (List.getD e4_2 (Int.toNat s4) (0, (0, (0, (0, ())))))))
        bif v1 then
          k false
        else
          r4 ((IntKind.wrap .i64 (s4 + 1)))
      else
        none
    else
      none
  else
    k true
def ref28_Same.B0 {Ω : Type} (fuel : Nat) (e4_1 : (List T_s22)) (e4_2 : (List T_s22))  (k : Bool → Option Ω) (r4 : Int → Option Ω) (s4 : Int) : Option Ω := ref28_Same.b0 e4_1 e4_2   k r4 s4
theorem ref28_Same.l0 {Ω : Type} (fuel : Nat) (e4_1 : (List T_s22)) (e4_2 : (List T_s22))  (k : AV → Option Ω) : ∀ m, (ref28_Same.M0 fuel e4_1 e4_2  k m) = iter (ref28_Same.B0 fuel e4_1 e4_2  (fun r => k (tupAV .bool [] r))) m :=
  loopK_iter (envOf := (ref28_Same.E0 e4_1 e4_2)) (LOf := (ref28_Same.H0 e4_1 e4_2)) (B := ref28_Same.B0 fuel e4_1 e4_2  (fun r => k (tupAV .bool [] r))) (fun R s => by kernel_rfl)
def ref28_Same.sl {Ω : Type} (x0 : (List T_s22)) (x1 : (List T_s22)) (lp0 : (List T_s22) → (List T_s22) → Int → Option Ω) (k : Bool → Option Ω) : Option Ω :=
  bif (((List.length x0 : Nat) : Int) != ((List.length x1 : Nat) : Int)) then
    k false
  else
    lp0 x0 x1 (0)
def ref28_Same.s {Ω : Type} (fuel : Nat) (x0 : (List T_s22)) (x1 : (List T_s22)) (k : Bool → Option Ω) : Option Ω := ref28_Same.sl x0 x1 (fun e4_1 e4_2 => (iter (ref28_Same.B0 fuel e4_1 e4_2  k) fuel)) k
theorem ref28_Same.ev {Ω : Type} (fuel : Nat) (x0 : (List T_s22)) (x1 : (List T_s22)) (k : AV → Option Ω) : evFn C ref28_Same.sp (ref28_Same.F fuel) Tryd.f26 (Tryd.f26.body.getD .skip) [(.v (.slice E_s22) (x0)), (.v (.slice E_s22) (x1))] k = ref28_Same.s fuel x0 x1 (fun r => k (tupAV .bool [] r)) := by
  have h0 : evFn C ref28_Same.sp (ref28_Same.F fuel) Tryd.f26 (Tryd.f26.body.getD .skip) [(.v (.slice E_s22) (x0)), (.v (.slice E_s22) (x1))] k = ref28_Same.sl x0 x1 (fun e4_1 e4_2 => (ref28_Same.M0 fuel e4_1 e4_2  k fuel)) (fun r => k (tupAV .bool [] r)) := by kernel_rfl
  have h1 : (fun e4_1 e4_2 => (ref28_Same.M0 fuel e4_1 e4_2  k fuel)) = (fun e4_1 e4_2 => (iter (ref28_Same.B0 fuel e4_1 e4_2  (fun r => k (tupAV .bool [] r))) fuel)) := funext fun e4_1 => funext fun e4_2 => ref28_Same.l0 fuel e4_1 e4_2   k fuel
  rw [h1] at h0
  exact h0
def ref28_Same.g0 {Ω : Type} (e4_1 : (List T_s22)) (e4_2 : (List T_s22))  (k : Bool → Option Ω) : List T_s22 → Int → Option Ω
  | [], i4 =>
    k true
  | x4 :: xs4, i4 =>
    bif (idxOK i4 (List.length e4_2)) then
      let v1 : Bool := (!(eqI E_s22 x4 (List.getD e4_2 (Int.toNat i4) (0, (0, (0, (0, ())))))))
      bif v1 then
        k false
      else
        ref28_Same.g0 e4_1 e4_2  k xs4 (i4 + 1)
    else
      none
theorem ref28_Same.h0 {Ω : Type} (e4_1 : (List T_s22)) (e4_2 : (List T_s22))   (k : Bool → Option Ω) (hX : ((List.length e4_1 : Nat) : Int) ≤ 9223372036854775807) : ∀ (m : Nat) (i : Int) (a : Unit), 0 ≤ i → i ≤ ((List.length e4_1 : Nat) : Int) → ((List.length e4_1 : Nat) : Int) < m + i → Le (ref28_Same.g0 e4_1 e4_2  k (List.drop (Int.toNat i) e4_1) i) (iter (ref28_Same.B0 BIG e4_1 e4_2  k) m (i)) :=
  iter_list e4_1 (0, (0, (0, (0, ())))) (fun (i4 : Int) (a4 : Unit) => (i4)) (fun xs i4 a4 => ref28_Same.g0 e4_1 e4_2  k xs i4) (ref28_Same.B0 BIG e4_1 e4_2  k)
    (fun i4 a4 r h0 => (Le.fls h0 (Le.refl _)))
    (fun i4 xs4 a4 r h0 h1 hw ih => (Le.tru h0 (Le.tru h1 (Le.cond (let v1 : Bool := (!(eqI E_s22 (List.getD e4_1 (Int.toNat i4) (0, (0, (0, (0, ()))))) (List.getD e4_2 (Int.toNat i4) (0, (0, (0, (0, ()))))))); (Le.cond (Le.refl _) (ih _ hw ()))) Le.nil))))
    hX
def ref28_Same.w {Ω : Type} (x0 : (List T_s22)) (x1 : (List T_s22)) (k : Bool → Option Ω) : Option Ω :=
  bif (((List.length x0 : Nat) : Int) != ((List.length x1 : Nat) : Int)) then
    k false
  else
    bif decide (((List.length x0 : Nat) : Int) ≤ 4611686018427387904) then ref28_Same.g0 x0 x1  k x0 0 else none
theorem ref28_Same.le {Ω : Type} (x0 : (List T_s22)) (x1 : (List T_s22)) (k : Bool → Option Ω) : Le (ref28_Same.w x0 x1 k) (ref28_Same.s BIG x0 x1 k) := by
  delta ref28_Same.w ref28_Same.s ref28_Same.sl
  exact (Le.cond (Le.refl _) (Le.gd fun hg => ref28_Same.h0 _ _   k (le_up (of_decide_eq_true hg)) BIG 0 () (by decide) (zero_le_len _) (big_list (of_decide_eq_true hg))))
def ref28_Same.u (x0 : (List T_s22)) (x1 : (List T_s22)) : Option (Bool) := ref28_Same.w x0 x1 some
theorem ref28_Same.c (x0 : (List T_s22)) (x1 : (List T_s22)) (r : Bool) (h : ref28_Same.u x0 x1 = some r) : Contract C 26 [(.v (.slice E_s22) (x0)), (.v (.slice E_s22) (x1))] (tupAV .bool [] r) :=
  contract_s (S := fun k => ref28_Same.s BIG x0 x1 k) C_ok noS_ok (by kernel_rfl) (by kernel_rfl) (by kernel_rfl) (ref28_Same.ev BIG x0 x1 (dec .bool [])) (ref28_Same.le x0 x1 some r h)
noncomputable def ref28_Same.e : Ent := argI (.slice E_s22) fun x0 => argI (.slice E_s22) fun x1 => endU (ref28_Same.u x0 x1) (tupAV .bool [])
theorem ref28_Same.e_ok : EntOK C 26 (fun {_} => ref28_Same.e) := by
  refine entA_ok ?_
  refine argI_ok fun x0 => ?_
  refine argI_ok fun x1 => ?_
  refine endU_ok fun r h => ?_
  exact ref28_Same.c x0 x1 r h

/-- becket becketlaw28.EventOrder -/
noncomputable def law28_EventOrder.sp : Spec := (orS 32 (fun {_} => ref28_Less.e) (orS 31 (fun {_} => event_Less.e) (orS 30 (fun {_} => ref28_Sort.e) (orS 29 (fun {_} => law28_To.e) (orS 28 (fun {_} => event_Sort.e) (orS 27 (fun {_} => law28_Back.e) (orS 26 (fun {_} => ref28_Same.e) (orS 24 (fun {_} => event_Parse.e) (orS 23 (fun {_} => law28_alive.e) (orS 19 (fun {_} => event_Text.e) noS))))))))))
def law28_EventOrder.s {Ω : Type} (x0 : (List T_s22)) (x1 : T_s22) (x2 : T_s22) (k : Bool → Option Ω) : Option Ω :=
  bif (decide (((List.length x0 : Nat) : Int) > 60)) then
    law28_alive.u.bind fun y1 =>
    k y1
  else
    (law28_To.u x0).bind fun y2 =>
    (event_Sort.u y2).bind fun y3 =>
    (law28_Back.u y3).bind fun y4 =>
    (ref28_Sort.u x0).bind fun y5 =>
    (ref28_Same.u y4 y5).bind fun y6 =>
    bif (!y6) then
      k false
    else
      (event_Less.u x1 x2).bind fun y7 =>
      bif (!(eqI .bool y7 (ref28_Less.t x1 x2))) then
        k false
      else
        (event_Less.u x1 x2).bind fun y8 =>
        bif (!y8) then
          (event_Less.u x2 x1).bind fun y9 =>
          bif (!(eqI .bool (eqI E_s22 x1 x2) (!y9))) then
            k false
          else
            (event_Text.u x1).bind fun y10 =>
            bif (y10.2 != 0) then
              law28_alive.u.bind fun y11 =>
              k y11
            else
              (event_Parse.u y10.1).bind fun y12 =>
              bif (eqI E_s22 y12.1 x1) then
                bif (y12.2 == 0) then
                  law28_alive.u.bind fun y13 =>
                  k y13
                else
                  k false
              else
                k false
        else
          bif (!(eqI .bool (eqI E_s22 x1 x2) false)) then
            k false
          else
            (event_Text.u x1).bind fun y14 =>
            bif (y14.2 != 0) then
              law28_alive.u.bind fun y15 =>
              k y15
            else
              (event_Parse.u y14.1).bind fun y16 =>
              bif (eqI E_s22 y16.1 x1) then
                bif (y16.2 == 0) then
                  law28_alive.u.bind fun y17 =>
                  k y17
                else
                  k false
              else
                k false
theorem law28_EventOrder.ev {Ω : Type} (fuel : Fuel) (x0 : (List T_s22)) (x1 : T_s22) (x2 : T_s22) (k : AV → Option Ω) : evFn CMP law28_EventOrder.sp fuel Tryd.f7 (Tryd.f7.body.getD .skip) [(.v (.slice E_s22) (x0)), (.v E_s22 (x1)), (.v E_s22 (x2))] k = law28_EventOrder.s x0 x1 x2 (fun r => k (tupAV .bool [] r)) := by kernel_rfl
def law28_EventOrder.u (x0 : (List T_s22)) (x1 : T_s22) (x2 : T_s22) : Option (Bool) := law28_EventOrder.s x0 x1 x2 some
theorem law28_EventOrder.c (x0 : (List T_s22)) (x1 : T_s22) (x2 : T_s22) (r : Bool) (h : law28_EventOrder.u x0 x1 x2 = some r) : Contract CMP 7 [(.v (.slice E_s22) (x0)), (.v E_s22 (x1)), (.v E_s22 (x2))] (tupAV .bool [] r) :=
  contract_s (S := fun k => law28_EventOrder.s x0 x1 x2 k) CMP_ok (orS_ok (ref28_Less.e_ok.mono le_C_CMP) (orS_ok (event_Less.e_ok.mono le_C_CMP) (orS_ok (ref28_Sort.e_ok.mono le_C_CMP) (orS_ok (law28_To.e_ok.mono le_C_CMP) (orS_ok (event_Sort.e_ok.mono le_C_CMP) (orS_ok (law28_Back.e_ok.mono le_C_CMP) (orS_ok (ref28_Same.e_ok.mono le_C_CMP) (orS_ok (event_Parse.e_ok.mono le_CM_CMP) (orS_ok law28_alive.e_ok (orS_ok event_Text.e_ok noS_ok)))))))))) (by kernel_rfl) (by kernel_rfl) (by kernel_rfl) (law28_EventOrder.ev ⟨1, fun _ => []⟩ x0 x1 x2 (dec .bool [])) h
noncomputable def law28_EventOrder.e : Ent := argI (.slice E_s22) fun x0 => argI E_s22 fun x1 => argI E_s22 fun x2 => endU (law28_EventOrder.u x0 x1 x2) (tupAV .bool [])
theorem law28_EventOrder.e_ok : EntOK CMP 7 (fun {_} => law28_EventOrder.e) := by
  refine entA_ok ?_
  refine argI_ok fun x0 => ?_
  refine argI_ok fun x1 => ?_
  refine argI_ok fun x2 => ?_
  refine endU_ok fun r h => ?_
  exact law28_EventOrder.c x0 x1 x2 r h

end Go.Proofs.YtaednhofihnfkaaDoor.K

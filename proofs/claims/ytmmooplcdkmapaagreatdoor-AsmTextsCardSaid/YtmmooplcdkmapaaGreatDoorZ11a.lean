/- What functions of the program come to, plainly. -/
import Derived.Test.YtmmooplcdkmapaaGreatDoorZ11aa
set_option maxRecDepth 100000
set_option linter.unusedVariables false
namespace Go.Proofs.YtmmooplcdkmapaaGreatDoor.K
open Go Go.RowKit

def ref11_Text.F (fuel : Nat) : Fuel := ⟨fuel, fun r => bif r == 8 then mL 0 105 40564819207303340847894502571549 else []⟩
noncomputable def ref11_Text.V {Ω : Type} (fuel c : Nat) (env : List AV) (L : Heap) (k : Kont Ω) : Option Ω := evCode CKMP (spE (C := CKMP) [ref10_Check.n, ref09_Of.n, ref10_Bytes.n, ref08_Text.n, ref10_Num.n, ref01_Digits.n] []) (ref11_Text.F fuel) (pCo c Tryz.f14) env L k
def ref11_Text.E0 (e8_1 : (List Int)) (e8_2 : T_s36) (e8_3 : T_s73) (s8 : ByteArray × Int) : List AV := (dZ 1 ((.ref 0 []) :: dZ 3 ((.ref 1 []) :: (.v (.slice (.int .i64)) (e8_1)) :: (.v .str (s8.1)) :: (.v (.int .i64) (s8.2)) :: dZ 96 ([]))))
def ref11_Text.H0 (e8_1 : (List Int)) (e8_2 : T_s36) (e8_3 : T_s73) (s8 : ByteArray × Int) : Heap := [(.box E_s36 e8_2 false), (.box E_s73 e8_3 false)]
noncomputable def ref11_Text.M0 {Ω : Type} (fuel : Nat) (e8_1 : (List Int)) (e8_2 : T_s36) (e8_3 : T_s73)  (k : AV → Option Ω) (m : Nat) (s : ByteArray × Int) : Option Ω := loopK (ref11_Text.V fuel 607) (mB 105 40564819207303340847894502571549) [] 2 (blockK 0 (sqK (ref11_Text.V fuel 127) (finK CKMP Tryz.f14 k))) m ((ref11_Text.E0 e8_1 e8_2 e8_3) s) ((ref11_Text.H0 e8_1 e8_2 e8_3) s)
def ref11_Text.b0 {Ω : Type} (e8_1 : (List Int)) (e8_2 : T_s36) (e8_3 : T_s73)   (k : ByteArray × Int → Option Ω) (r8 : ByteArray × Int → Option Ω) (s8 : ByteArray × Int) : Option Ω :=
 bif (decide (s8.2 < 3)) then
  bif (idxOK s8.2 (e8_3.2.1).size) then
   bif (idxOK (IntKind.wrap .i64 (s8.2 + 1)) (List.length e8_1)) then
    bif ((bAt e8_3.2.1 (Int.toNat s8.2)) == 45) then
     r8 (s8.1, (IntKind.wrap .i64 (s8.2 + 1)))
    else
     bif ((bAt e8_3.2.1 (Int.toNat s8.2)) == 106) then
      r8 (s8.1, (IntKind.wrap .i64 (s8.2 + 1)))
     else
      bif ((bAt e8_3.2.1 (Int.toNat s8.2)) == 103) then
       bif ((List.getD e8_1 (Int.toNat (IntKind.wrap .i64 (s8.2 + 1))) 0) == 8) then
        r8 (s8.1, (IntKind.wrap .i64 (s8.2 + 1)))
       else
        bif (decide ((s8.1).size + ((bs [32])).size ≤ catMax)) then
         bif ((bAt e8_3.2.1 (Int.toNat s8.2)) == 105) then
          (ref10_Num.u e8_2).bind fun y3 =>
          (ref08_Text.u y3).bind fun y4 =>
          bif (decide (((s8.1 ++ (bs [32]))).size + (y4.1).size ≤ catMax)) then
           r8 (((s8.1 ++ (bs [32])) ++ y4.1), (IntKind.wrap .i64 (s8.2 + 1)))
          else
           none
         else
          bif ((bAt e8_3.2.1 (Int.toNat s8.2)) == 116) then
           (ref01_Digits.u ((List.getD e8_1 (Int.toNat (IntKind.wrap .i64 (s8.2 + 1))) 0))).bind fun y5 =>
           bif (decide (((bs [64])).size + (y5).size ≤ catMax)) then
            bif (decide (((s8.1 ++ (bs [32]))).size + (((bs [64]) ++ y5)).size ≤ catMax)) then
             r8 (((s8.1 ++ (bs [32])) ++ ((bs [64]) ++ y5)), (IntKind.wrap .i64 (s8.2 + 1)))
            else
             none
           else
            none
          else
           bif ((bAt e8_3.2.1 (Int.toNat s8.2)) == 109) then
            bif (idxOK (List.getD e8_1 (Int.toNat (IntKind.wrap .i64 (s8.2 + 1))) 0) (List.length [(bs [112, 114, 105]), (bs [102, 97, 105, 114]), (bs [97, 110, 121])])) then
             let v6 : ByteArray := (List.getD [(bs [112, 114, 105]), (bs [102, 97, 105, 114]), (bs [97, 110, 121])] (Int.toNat (List.getD e8_1 (Int.toNat (IntKind.wrap .i64 (s8.2 + 1))) 0)) (bs []))
             bif (decide (((s8.1 ++ (bs [32]))).size + (v6).size ≤ catMax)) then
              r8 (((s8.1 ++ (bs [32])) ++ v6), (IntKind.wrap .i64 (s8.2 + 1)))
             else
              none
            else
             none
           else
            bif ((bAt e8_3.2.1 (Int.toNat s8.2)) == 110) then
             (ref01_Digits.u ((List.getD e8_1 (Int.toNat (IntKind.wrap .i64 (s8.2 + 1))) 0))).bind fun y7 =>
             bif (decide (((s8.1 ++ (bs [32]))).size + (y7).size ≤ catMax)) then
              r8 (((s8.1 ++ (bs [32])) ++ y7), (IntKind.wrap .i64 (s8.2 + 1)))
             else
              none
            else
             bif ((bAt e8_3.2.1 (Int.toNat s8.2)) == 115) then
              (ref01_Digits.u ((List.getD e8_1 (Int.toNat (IntKind.wrap .i64 (s8.2 + 1))) 0))).bind fun y8 =>
              bif (decide (((s8.1 ++ (bs [32]))).size + (y8).size ≤ catMax)) then
               r8 (((s8.1 ++ (bs [32])) ++ y8), (IntKind.wrap .i64 (s8.2 + 1)))
              else
               none
             else
              bif ((bAt e8_3.2.1 (Int.toNat s8.2)) == 103) then
               (ref01_Digits.u ((List.getD e8_1 (Int.toNat (IntKind.wrap .i64 (s8.2 + 1))) 0))).bind fun y9 =>
               bif (decide (((bs [105, 102, 32, 114])).size + (y9).size ≤ catMax)) then
                bif (decide (((s8.1 ++ (bs [32]))).size + (((bs [105, 102, 32, 114]) ++ y9)).size ≤ catMax)) then
                 r8 (((s8.1 ++ (bs [32])) ++ ((bs [105, 102, 32, 114]) ++ y9)), (IntKind.wrap .i64 (s8.2 + 1)))
                else
                 none
               else
                none
              else
               (ref01_Digits.u ((List.getD e8_1 (Int.toNat (IntKind.wrap .i64 (s8.2 + 1))) 0))).bind fun y10 =>
               bif (decide (((ofBytes [(bAt e8_3.2.1 (Int.toNat s8.2))])).size + (y10).size ≤ catMax)) then
                bif (decide (((s8.1 ++ (bs [32]))).size + (((ofBytes [(bAt e8_3.2.1 (Int.toNat s8.2))]) ++ y10)).size ≤ catMax)) then
                 r8 (((s8.1 ++ (bs [32])) ++ ((ofBytes [(bAt e8_3.2.1 (Int.toNat s8.2))]) ++ y10)), (IntKind.wrap .i64 (s8.2 + 1)))
                else
                 none
               else
                none
        else
         none
      else
       bif (decide ((s8.1).size + ((bs [32])).size ≤ catMax)) then
        bif ((bAt e8_3.2.1 (Int.toNat s8.2)) == 105) then
         (ref10_Num.u e8_2).bind fun y11 =>
         (ref08_Text.u y11).bind fun y12 =>
         bif (decide (((s8.1 ++ (bs [32]))).size + (y12.1).size ≤ catMax)) then
          r8 (((s8.1 ++ (bs [32])) ++ y12.1), (IntKind.wrap .i64 (s8.2 + 1)))
         else
          none
        else
         bif ((bAt e8_3.2.1 (Int.toNat s8.2)) == 116) then
          (ref01_Digits.u ((List.getD e8_1 (Int.toNat (IntKind.wrap .i64 (s8.2 + 1))) 0))).bind fun y13 =>
          bif (decide (((bs [64])).size + (y13).size ≤ catMax)) then
           bif (decide (((s8.1 ++ (bs [32]))).size + (((bs [64]) ++ y13)).size ≤ catMax)) then
            r8 (((s8.1 ++ (bs [32])) ++ ((bs [64]) ++ y13)), (IntKind.wrap .i64 (s8.2 + 1)))
           else
            none
          else
           none
         else
          bif ((bAt e8_3.2.1 (Int.toNat s8.2)) == 109) then
           bif (idxOK (List.getD e8_1 (Int.toNat (IntKind.wrap .i64 (s8.2 + 1))) 0) (List.length [(bs [112, 114, 105]), (bs [102, 97, 105, 114]), (bs [97, 110, 121])])) then
            let v14 : ByteArray := (List.getD [(bs [112, 114, 105]), (bs [102, 97, 105, 114]), (bs [97, 110, 121])] (Int.toNat (List.getD e8_1 (Int.toNat (IntKind.wrap .i64 (s8.2 + 1))) 0)) (bs []))
            bif (decide (((s8.1 ++ (bs [32]))).size + (v14).size ≤ catMax)) then
             r8 (((s8.1 ++ (bs [32])) ++ v14), (IntKind.wrap .i64 (s8.2 + 1)))
            else
             none
           else
            none
          else
           bif ((bAt e8_3.2.1 (Int.toNat s8.2)) == 110) then
            (ref01_Digits.u ((List.getD e8_1 (Int.toNat (IntKind.wrap .i64 (s8.2 + 1))) 0))).bind fun y15 =>
            bif (decide (((s8.1 ++ (bs [32]))).size + (y15).size ≤ catMax)) then
             r8 (((s8.1 ++ (bs [32])) ++ y15), (IntKind.wrap .i64 (s8.2 + 1)))
            else
             none
           else
            bif ((bAt e8_3.2.1 (Int.toNat s8.2)) == 115) then
             (ref01_Digits.u ((List.getD e8_1 (Int.toNat (IntKind.wrap .i64 (s8.2 + 1))) 0))).bind fun y16 =>
             bif (decide (((s8.1 ++ (bs [32]))).size + (y16).size ≤ catMax)) then
              r8 (((s8.1 ++ (bs [32])) ++ y16), (IntKind.wrap .i64 (s8.2 + 1)))
             else
              none
            else
             bif ((bAt e8_3.2.1 (Int.toNat s8.2)) == 103) then
              (ref01_Digits.u ((List.getD e8_1 (Int.toNat (IntKind.wrap .i64 (s8.2 + 1))) 0))).bind fun y17 =>
              bif (decide (((bs [105, 102, 32, 114])).size + (y17).size ≤ catMax)) then
               bif (decide (((s8.1 ++ (bs [32]))).size + (((bs [105, 102, 32, 114]) ++ y17)).size ≤ catMax)) then
                r8 (((s8.1 ++ (bs [32])) ++ ((bs [105, 102, 32, 114]) ++ y17)), (IntKind.wrap .i64 (s8.2 + 1)))
               else
                none
              else
               none
             else
              (ref01_Digits.u ((List.getD e8_1 (Int.toNat (IntKind.wrap .i64 (s8.2 + 1))) 0))).bind fun y18 =>
              bif (decide (((ofBytes [(bAt e8_3.2.1 (Int.toNat s8.2))])).size + (y18).size ≤ catMax)) then
               bif (decide (((s8.1 ++ (bs [32]))).size + (((ofBytes [(bAt e8_3.2.1 (Int.toNat s8.2))]) ++ y18)).size ≤ catMax)) then
                r8 (((s8.1 ++ (bs [32])) ++ ((ofBytes [(bAt e8_3.2.1 (Int.toNat s8.2))]) ++ y18)), (IntKind.wrap .i64 (s8.2 + 1)))
               else
                none
              else
               none
       else
        none
   else
    none
  else
   none
 else
  k (s8.1, 0)
theorem ref11_Text.l0 {Ω : Type} (fuel : Nat) (e8_1 : (List Int)) (e8_2 : T_s36) (e8_3 : T_s73)  (k : AV → Option Ω) : ∀ m, (ref11_Text.M0 fuel e8_1 e8_2 e8_3  k m) = iter (ref11_Text.b0 e8_1 e8_2 e8_3  (fun r => k (tupAV .str [(.int .i64)] r))) m :=
 loopK_iter (envOf := (ref11_Text.E0 e8_1 e8_2 e8_3)) (LOf := (ref11_Text.H0 e8_1 e8_2 e8_3)) (B := ref11_Text.b0 e8_1 e8_2 e8_3  (fun r => k (tupAV .str [(.int .i64)] r))) (fun R s => by kernel_rfl)
def ref11_Text.sl {Ω : Type} (x0 : T_s36) (lp0 : (List Int) → T_s36 → T_s73 → ByteArray × Int → Option Ω) (k : ByteArray × Int → Option Ω) : Option Ω :=
 (ref10_Check.u x0).bind fun y1 =>
 bif (y1 != 0) then
  k ((bs []), y1)
 else
  (ref09_Of.u (IntKind.wrap .i64 x0.1)).bind fun y2 =>
  lp0 (ref10_Bytes.t x0) x0 y2 (y2.1, 0)
def ref11_Text.g0 {Ω : Type} (e8_1 : (List Int)) (e8_2 : T_s36) (e8_3 : T_s73)  (k : ByteArray × Int → Option Ω) : Nat → ByteArray → Int → Option Ω
  | 0, a8_0, i8 =>
  k (a8_0, 0)
  | d8 + 1, a8_0, i8 =>
  bif (idxOK i8 (e8_3.2.1).size) then
   bif (idxOK (IntKind.wrap .i64 (i8 + 1)) (List.length e8_1)) then
    bif ((bAt e8_3.2.1 (Int.toNat i8)) == 45) then
     ref11_Text.g0 e8_1 e8_2 e8_3  k d8 a8_0 (i8 + 1)
    else
     bif ((bAt e8_3.2.1 (Int.toNat i8)) == 106) then
      ref11_Text.g0 e8_1 e8_2 e8_3  k d8 a8_0 (i8 + 1)
     else
      bif ((bAt e8_3.2.1 (Int.toNat i8)) == 103) then
       bif ((List.getD e8_1 (Int.toNat (IntKind.wrap .i64 (i8 + 1))) 0) == 8) then
        ref11_Text.g0 e8_1 e8_2 e8_3  k d8 a8_0 (i8 + 1)
       else
        bif (decide ((a8_0).size + ((bs [32])).size ≤ catMax)) then
         bif ((bAt e8_3.2.1 (Int.toNat i8)) == 105) then
          (ref10_Num.u e8_2).bind fun y3 =>
          (ref08_Text.u y3).bind fun y4 =>
          bif (decide (((a8_0 ++ (bs [32]))).size + (y4.1).size ≤ catMax)) then
           ref11_Text.g0 e8_1 e8_2 e8_3  k d8 (((a8_0 ++ (bs [32])) ++ y4.1)) (i8 + 1)
          else
           none
         else
          bif ((bAt e8_3.2.1 (Int.toNat i8)) == 116) then
           (ref01_Digits.u ((List.getD e8_1 (Int.toNat (IntKind.wrap .i64 (i8 + 1))) 0))).bind fun y5 =>
           bif (decide (((bs [64])).size + (y5).size ≤ catMax)) then
            bif (decide (((a8_0 ++ (bs [32]))).size + (((bs [64]) ++ y5)).size ≤ catMax)) then
             ref11_Text.g0 e8_1 e8_2 e8_3  k d8 (((a8_0 ++ (bs [32])) ++ ((bs [64]) ++ y5))) (i8 + 1)
            else
             none
           else
            none
          else
           bif ((bAt e8_3.2.1 (Int.toNat i8)) == 109) then
            bif (idxOK (List.getD e8_1 (Int.toNat (IntKind.wrap .i64 (i8 + 1))) 0) (List.length [(bs [112, 114, 105]), (bs [102, 97, 105, 114]), (bs [97, 110, 121])])) then
             let v6 : ByteArray := (List.getD [(bs [112, 114, 105]), (bs [102, 97, 105, 114]), (bs [97, 110, 121])] (Int.toNat (List.getD e8_1 (Int.toNat (IntKind.wrap .i64 (i8 + 1))) 0)) (bs []))
             bif (decide (((a8_0 ++ (bs [32]))).size + (v6).size ≤ catMax)) then
              ref11_Text.g0 e8_1 e8_2 e8_3  k d8 (((a8_0 ++ (bs [32])) ++ v6)) (i8 + 1)
             else
              none
            else
             none
           else
            bif ((bAt e8_3.2.1 (Int.toNat i8)) == 110) then
             (ref01_Digits.u ((List.getD e8_1 (Int.toNat (IntKind.wrap .i64 (i8 + 1))) 0))).bind fun y7 =>
             bif (decide (((a8_0 ++ (bs [32]))).size + (y7).size ≤ catMax)) then
              ref11_Text.g0 e8_1 e8_2 e8_3  k d8 (((a8_0 ++ (bs [32])) ++ y7)) (i8 + 1)
             else
              none
            else
             bif ((bAt e8_3.2.1 (Int.toNat i8)) == 115) then
              (ref01_Digits.u ((List.getD e8_1 (Int.toNat (IntKind.wrap .i64 (i8 + 1))) 0))).bind fun y8 =>
              bif (decide (((a8_0 ++ (bs [32]))).size + (y8).size ≤ catMax)) then
               ref11_Text.g0 e8_1 e8_2 e8_3  k d8 (((a8_0 ++ (bs [32])) ++ y8)) (i8 + 1)
              else
               none
             else
              bif ((bAt e8_3.2.1 (Int.toNat i8)) == 103) then
               (ref01_Digits.u ((List.getD e8_1 (Int.toNat (IntKind.wrap .i64 (i8 + 1))) 0))).bind fun y9 =>
               bif (decide (((bs [105, 102, 32, 114])).size + (y9).size ≤ catMax)) then
                bif (decide (((a8_0 ++ (bs [32]))).size + (((bs [105, 102, 32, 114]) ++ y9)).size ≤ catMax)) then
                 ref11_Text.g0 e8_1 e8_2 e8_3  k d8 (((a8_0 ++ (bs [32])) ++ ((bs [105, 102, 32, 114]) ++ y9))) (i8 + 1)
                else
                 none
               else
                none
              else
               (ref01_Digits.u ((List.getD e8_1 (Int.toNat (IntKind.wrap .i64 (i8 + 1))) 0))).bind fun y10 =>
               bif (decide (((ofBytes [(bAt e8_3.2.1 (Int.toNat i8))])).size + (y10).size ≤ catMax)) then
                bif (decide (((a8_0 ++ (bs [32]))).size + (((ofBytes [(bAt e8_3.2.1 (Int.toNat i8))]) ++ y10)).size ≤ catMax)) then
                 ref11_Text.g0 e8_1 e8_2 e8_3  k d8 (((a8_0 ++ (bs [32])) ++ ((ofBytes [(bAt e8_3.2.1 (Int.toNat i8))]) ++ y10))) (i8 + 1)
                else
                 none
               else
                none
        else
         none
      else
       bif (decide ((a8_0).size + ((bs [32])).size ≤ catMax)) then
        bif ((bAt e8_3.2.1 (Int.toNat i8)) == 105) then
         (ref10_Num.u e8_2).bind fun y11 =>
         (ref08_Text.u y11).bind fun y12 =>
         bif (decide (((a8_0 ++ (bs [32]))).size + (y12.1).size ≤ catMax)) then
          ref11_Text.g0 e8_1 e8_2 e8_3  k d8 (((a8_0 ++ (bs [32])) ++ y12.1)) (i8 + 1)
         else
          none
        else
         bif ((bAt e8_3.2.1 (Int.toNat i8)) == 116) then
          (ref01_Digits.u ((List.getD e8_1 (Int.toNat (IntKind.wrap .i64 (i8 + 1))) 0))).bind fun y13 =>
          bif (decide (((bs [64])).size + (y13).size ≤ catMax)) then
           bif (decide (((a8_0 ++ (bs [32]))).size + (((bs [64]) ++ y13)).size ≤ catMax)) then
            ref11_Text.g0 e8_1 e8_2 e8_3  k d8 (((a8_0 ++ (bs [32])) ++ ((bs [64]) ++ y13))) (i8 + 1)
           else
            none
          else
           none
         else
          bif ((bAt e8_3.2.1 (Int.toNat i8)) == 109) then
           bif (idxOK (List.getD e8_1 (Int.toNat (IntKind.wrap .i64 (i8 + 1))) 0) (List.length [(bs [112, 114, 105]), (bs [102, 97, 105, 114]), (bs [97, 110, 121])])) then
            let v14 : ByteArray := (List.getD [(bs [112, 114, 105]), (bs [102, 97, 105, 114]), (bs [97, 110, 121])] (Int.toNat (List.getD e8_1 (Int.toNat (IntKind.wrap .i64 (i8 + 1))) 0)) (bs []))
            bif (decide (((a8_0 ++ (bs [32]))).size + (v14).size ≤ catMax)) then
             ref11_Text.g0 e8_1 e8_2 e8_3  k d8 (((a8_0 ++ (bs [32])) ++ v14)) (i8 + 1)
            else
             none
           else
            none
          else
           bif ((bAt e8_3.2.1 (Int.toNat i8)) == 110) then
            (ref01_Digits.u ((List.getD e8_1 (Int.toNat (IntKind.wrap .i64 (i8 + 1))) 0))).bind fun y15 =>
            bif (decide (((a8_0 ++ (bs [32]))).size + (y15).size ≤ catMax)) then
             ref11_Text.g0 e8_1 e8_2 e8_3  k d8 (((a8_0 ++ (bs [32])) ++ y15)) (i8 + 1)
            else
             none
           else
            bif ((bAt e8_3.2.1 (Int.toNat i8)) == 115) then
             (ref01_Digits.u ((List.getD e8_1 (Int.toNat (IntKind.wrap .i64 (i8 + 1))) 0))).bind fun y16 =>
             bif (decide (((a8_0 ++ (bs [32]))).size + (y16).size ≤ catMax)) then
              ref11_Text.g0 e8_1 e8_2 e8_3  k d8 (((a8_0 ++ (bs [32])) ++ y16)) (i8 + 1)
             else
              none
            else
             bif ((bAt e8_3.2.1 (Int.toNat i8)) == 103) then
              (ref01_Digits.u ((List.getD e8_1 (Int.toNat (IntKind.wrap .i64 (i8 + 1))) 0))).bind fun y17 =>
              bif (decide (((bs [105, 102, 32, 114])).size + (y17).size ≤ catMax)) then
               bif (decide (((a8_0 ++ (bs [32]))).size + (((bs [105, 102, 32, 114]) ++ y17)).size ≤ catMax)) then
                ref11_Text.g0 e8_1 e8_2 e8_3  k d8 (((a8_0 ++ (bs [32])) ++ ((bs [105, 102, 32, 114]) ++ y17))) (i8 + 1)
               else
                none
              else
               none
             else
              (ref01_Digits.u ((List.getD e8_1 (Int.toNat (IntKind.wrap .i64 (i8 + 1))) 0))).bind fun y18 =>
              bif (decide (((ofBytes [(bAt e8_3.2.1 (Int.toNat i8))])).size + (y18).size ≤ catMax)) then
               bif (decide (((a8_0 ++ (bs [32]))).size + (((ofBytes [(bAt e8_3.2.1 (Int.toNat i8))]) ++ y18)).size ≤ catMax)) then
                ref11_Text.g0 e8_1 e8_2 e8_3  k d8 (((a8_0 ++ (bs [32])) ++ ((ofBytes [(bAt e8_3.2.1 (Int.toNat i8))]) ++ y18))) (i8 + 1)
               else
                none
              else
               none
       else
        none
   else
    none
  else
   none
theorem ref11_Text.h0 {Ω : Type} (e8_1 : (List Int)) (e8_2 : T_s36) (e8_3 : T_s73)   (k : ByteArray × Int → Option Ω) (hN : (3 : Int) ≤ 9223372036854775807) : ∀ (m : Nat) (i : Int) (a : ByteArray), -9223372036854775808 ≤ i → Int.toNat ((3 : Int) - i) < m → Le (ref11_Text.g0 e8_1 e8_2 e8_3  k (Int.toNat ((3 : Int) - i)) a i) (iter (ref11_Text.b0 e8_1 e8_2 e8_3  k) m (a, i)) :=
  iter_count (3 : Int) (fun i8 => (decide (i8 < 3))) (fun i => rfl) (fun (i8 : Int) (a8 : ByteArray) => (a8, i8)) (fun xs i8 a8 => ref11_Text.g0 e8_1 e8_2 e8_3  k xs a8 i8) (ref11_Text.b0 e8_1 e8_2 e8_3  k)
    (fun i8 a8 r h0 => (Le.fls h0 (Le.refl _)))
    (fun i8 d8 a8 r h0 hw ih => (Le.tru h0 (Le.cond (Le.cond (Le.cond (ih _ hw (a8)) (Le.cond (ih _ hw (a8)) (Le.cond (Le.cond (ih _ hw (a8)) (Le.cond (Le.cond (Le.bnd fun y3 => (Le.bnd fun y4 => (Le.cond (ih _ hw (((a8 ++ (bs [32])) ++ y4.1))) Le.nil))) (Le.cond (Le.bnd fun y5 => (Le.cond (Le.cond (ih _ hw (((a8 ++ (bs [32])) ++ ((bs [64]) ++ y5)))) Le.nil) Le.nil)) (Le.cond (Le.cond (let v6 : ByteArray := (List.getD [(bs [112, 114, 105]), (bs [102, 97, 105, 114]), (bs [97, 110, 121])] (Int.toNat (List.getD e8_1 (Int.toNat (IntKind.wrap .i64 (i8 + 1))) 0)) (bs [])); (Le.cond (ih _ hw (((a8 ++ (bs [32])) ++ v6))) Le.nil)) Le.nil) (Le.cond (Le.bnd fun y7 => (Le.cond (ih _ hw (((a8 ++ (bs [32])) ++ y7))) Le.nil)) (Le.cond (Le.bnd fun y8 => (Le.cond (ih _ hw (((a8 ++ (bs [32])) ++ y8))) Le.nil)) (Le.cond (Le.bnd fun y9 => (Le.cond (Le.cond (ih _ hw (((a8 ++ (bs [32])) ++ ((bs [105, 102, 32, 114]) ++ y9)))) Le.nil) Le.nil)) (Le.bnd fun y10 => (Le.cond (Le.cond (ih _ hw (((a8 ++ (bs [32])) ++ ((ofBytes [(bAt e8_3.2.1 (Int.toNat i8))]) ++ y10)))) Le.nil) Le.nil)))))))) Le.nil)) (Le.cond (Le.cond (Le.bnd fun y11 => (Le.bnd fun y12 => (Le.cond (ih _ hw (((a8 ++ (bs [32])) ++ y12.1))) Le.nil))) (Le.cond (Le.bnd fun y13 => (Le.cond (Le.cond (ih _ hw (((a8 ++ (bs [32])) ++ ((bs [64]) ++ y13)))) Le.nil) Le.nil)) (Le.cond (Le.cond (let v14 : ByteArray := (List.getD [(bs [112, 114, 105]), (bs [102, 97, 105, 114]), (bs [97, 110, 121])] (Int.toNat (List.getD e8_1 (Int.toNat (IntKind.wrap .i64 (i8 + 1))) 0)) (bs [])); (Le.cond (ih _ hw (((a8 ++ (bs [32])) ++ v14))) Le.nil)) Le.nil) (Le.cond (Le.bnd fun y15 => (Le.cond (ih _ hw (((a8 ++ (bs [32])) ++ y15))) Le.nil)) (Le.cond (Le.bnd fun y16 => (Le.cond (ih _ hw (((a8 ++ (bs [32])) ++ y16))) Le.nil)) (Le.cond (Le.bnd fun y17 => (Le.cond (Le.cond (ih _ hw (((a8 ++ (bs [32])) ++ ((bs [105, 102, 32, 114]) ++ y17)))) Le.nil) Le.nil)) (Le.bnd fun y18 => (Le.cond (Le.cond (ih _ hw (((a8 ++ (bs [32])) ++ ((ofBytes [(bAt e8_3.2.1 (Int.toNat i8))]) ++ y18)))) Le.nil) Le.nil)))))))) Le.nil)))) Le.nil) Le.nil)))
    hN
def ref11_Text.w {Ω : Type} (x0 : T_s36) (k : ByteArray × Int → Option Ω) : Option Ω :=
 (ref10_Check.u x0).bind fun y1 =>
 bif (y1 != 0) then
  k ((bs []), y1)
 else
  (ref09_Of.u (IntKind.wrap .i64 x0.1)).bind fun y2 =>
  ref11_Text.g0 (ref10_Bytes.t x0) x0 y2  k ((Int.toNat ((3 : Int) - 0))) y2.1 0
theorem ref11_Text.ev {Ω : Type} (fuel : Nat) (x0 : T_s36) (k : AV → Option Ω) : evFn CKMP (spE (C := CKMP) [ref10_Check.n, ref09_Of.n, ref10_Bytes.n, ref08_Text.n, ref10_Num.n, ref01_Digits.n] []) (ref11_Text.F fuel) Tryz.f14 (Tryz.f14.body.getD .skip) [(.v E_s36 (x0))] k = ref11_Text.sl x0 (fun e8_1 e8_2 e8_3 => (ref11_Text.M0 fuel e8_1 e8_2 e8_3  k fuel)) (fun r => k (tupAV .str [(.int .i64)] r)) := by kernel_rfl
theorem ref11_Text.le {Ω : Type} (x0 : T_s36) (k : AV → Option Ω) : Le (ref11_Text.w x0 (fun r => k (tupAV .str [(.int .i64)] r))) (ref11_Text.sl x0 (fun e8_1 e8_2 e8_3 => (ref11_Text.M0 BIG e8_1 e8_2 e8_3  k BIG)) (fun r => k (tupAV .str [(.int .i64)] r))) := by
 have h1 := funext fun (e8_1 : (List Int)) => funext fun (e8_2 : T_s36) => funext fun (e8_3 : T_s73) => ref11_Text.l0 BIG e8_1 e8_2 e8_3   k BIG
 rw [h1]
 delta ref11_Text.w ref11_Text.sl
 exact (Le.bnd fun y1 => (Le.cond (Le.refl _) (Le.bnd fun y2 => (ref11_Text.h0 _ _ _   _ (by decide) BIG 0 (y2.1) (by decide) (by decide)))))
def ref11_Text.u (x0 : T_s36) : Option (ByteArray × Int) := ref11_Text.w x0 some
noncomputable def ref11_Text.n : En CKMP := mkE CKMP_ok (es := [ref10_Check.n, ref09_Of.n, ref10_Bytes.n, ref08_Text.n, ref10_Num.n, ref01_Digits.n]) (ms := []) (fuel := (ref11_Text.F BIG)) 14 Tryz.f14 [.ai E_s36] .str [(.int .i64)] (fun x {Ω} k => ref11_Text.w x.1 k) (fun x Ω k => leV (ref11_Text.ev BIG x.1 k) (ref11_Text.le x.1 k)) (by kernel_rfl) (by kernel_rfl)

def ref11_Words.F (fuel : Nat) : Fuel := ⟨fuel, fun r => bif r == 4 then mL 0 35 34359738310 else []⟩
noncomputable def ref11_Words.V {Ω : Type} (fuel c : Nat) (env : List AV) (L : Heap) (k : Kont Ω) : Option Ω := evCode CKMP (spE (C := CKMP) [] []) (ref11_Words.F fuel) (pCo c Tryz.f35) env L k
def ref11_Words.E0 (e4_1 : ByteArray) (s4 : Int × Int × (List ByteArray)) : List AV := ((.v .str (e4_1)) :: dZ 2 ((.rs 1) :: (.v (.int .i64) (s4.1)) :: (.v (.int .i64) (s4.2.1)) :: dZ 29 ([])))
def ref11_Words.H0 (e4_1 : ByteArray) (s4 : Int × Int × (List ByteArray)) : Heap := [(.row 9 .str [] false), (.row 9 .str s4.2.2 false)]
noncomputable def ref11_Words.M0 {Ω : Type} (fuel : Nat) (e4_1 : ByteArray)  (k : AV → Option Ω) (m : Nat) (s : Int × Int × (List ByteArray)) : Option Ω := loopK (ref11_Words.V fuel 151) (mB 35 34359738310) [] 2 (blockK 0 (sqK (ref11_Words.V fuel 31) (finK CKMP Tryz.f35 k))) m ((ref11_Words.E0 e4_1) s) ((ref11_Words.H0 e4_1) s)
def ref11_Words.b0 {Ω : Type} (e4_1 : ByteArray)   (k : (List ByteArray) → Option Ω) (r4 : Int × Int × (List ByteArray) → Option Ω) (s4 : Int × Int × (List ByteArray)) : Option Ω :=
 bif (decide (s4.2.1 ≤ ((e4_1).size : Int))) then
  bif (s4.2.1 == ((e4_1).size : Int)) then
   bif (decide (s4.2.1 > s4.1)) then
    bif (subC (some (s4.1)) (some (s4.2.1)) (e4_1).size) then
     bif (decide (List.length s4.2.2 + List.length [(subS (some (s4.1)) (some (s4.2.1)) e4_1)] ≤ rowMax)) then
      r4 ((IntKind.wrap .i64 (s4.2.1 + 1)), (IntKind.wrap .i64 (s4.2.1 + 1)), (s4.2.2 ++ [(subS (some (s4.1)) (some (s4.2.1)) e4_1)]))
     else
      none
    else
     none
   else
    r4 ((IntKind.wrap .i64 (s4.2.1 + 1)), (IntKind.wrap .i64 (s4.2.1 + 1)), s4.2.2)
  else
   bif (idxOK s4.2.1 (e4_1).size) then
    bif ((bAt e4_1 (Int.toNat s4.2.1)) == 32) then
     bif (decide (s4.2.1 > s4.1)) then
      bif (subC (some (s4.1)) (some (s4.2.1)) (e4_1).size) then
       bif (decide (List.length s4.2.2 + List.length [(subS (some (s4.1)) (some (s4.2.1)) e4_1)] ≤ rowMax)) then
        r4 ((IntKind.wrap .i64 (s4.2.1 + 1)), (IntKind.wrap .i64 (s4.2.1 + 1)), (s4.2.2 ++ [(subS (some (s4.1)) (some (s4.2.1)) e4_1)]))
       else
        none
      else
       none
     else
      r4 ((IntKind.wrap .i64 (s4.2.1 + 1)), (IntKind.wrap .i64 (s4.2.1 + 1)), s4.2.2)
    else
     r4 (s4.1, (IntKind.wrap .i64 (s4.2.1 + 1)), s4.2.2)
   else
    none
 else
  k s4.2.2
theorem ref11_Words.l0 {Ω : Type} (fuel : Nat) (e4_1 : ByteArray)  (k : AV → Option Ω) : ∀ m, (ref11_Words.M0 fuel e4_1  k m) = iter (ref11_Words.b0 e4_1  (fun r => k (tupAV (.slice .str) [] r))) m :=
 loopK_iter (envOf := (ref11_Words.E0 e4_1)) (LOf := (ref11_Words.H0 e4_1)) (B := ref11_Words.b0 e4_1  (fun r => k (tupAV (.slice .str) [] r))) (fun R s => by kernel_rfl)
def ref11_Words.sl {Ω : Type} (x0 : ByteArray) (lp0 : ByteArray → Int × Int × (List ByteArray) → Option Ω) (k : (List ByteArray) → Option Ω) : Option Ω :=
 lp0 x0 (0, 0, [])
def ref11_Words.g0 {Ω : Type} (e4_1 : ByteArray)  (k : (List ByteArray) → Option Ω) : Nat → Int → Int → (List ByteArray) → Option Ω
  | 0, a4_0, i4, a4_2 =>
  k a4_2
  | d4 + 1, a4_0, i4, a4_2 =>
  bif (i4 == ((e4_1).size : Int)) then
   bif (decide (i4 > a4_0)) then
    bif (subC (some (a4_0)) (some (i4)) (e4_1).size) then
     bif (decide (List.length a4_2 + List.length [(subS (some (a4_0)) (some (i4)) e4_1)] ≤ rowMax)) then
      ref11_Words.g0 e4_1  k d4 ((IntKind.wrap .i64 (i4 + 1))) (i4 + 1) ((a4_2 ++ [(subS (some (a4_0)) (some (i4)) e4_1)]))
     else
      none
    else
     none
   else
    ref11_Words.g0 e4_1  k d4 ((IntKind.wrap .i64 (i4 + 1))) (i4 + 1) a4_2
  else
   bif (idxOK i4 (e4_1).size) then
    bif ((bAt e4_1 (Int.toNat i4)) == 32) then
     bif (decide (i4 > a4_0)) then
      bif (subC (some (a4_0)) (some (i4)) (e4_1).size) then
       bif (decide (List.length a4_2 + List.length [(subS (some (a4_0)) (some (i4)) e4_1)] ≤ rowMax)) then
        ref11_Words.g0 e4_1  k d4 ((IntKind.wrap .i64 (i4 + 1))) (i4 + 1) ((a4_2 ++ [(subS (some (a4_0)) (some (i4)) e4_1)]))
       else
        none
      else
       none
     else
      ref11_Words.g0 e4_1  k d4 ((IntKind.wrap .i64 (i4 + 1))) (i4 + 1) a4_2
    else
     ref11_Words.g0 e4_1  k d4 a4_0 (i4 + 1) a4_2
   else
    none
theorem ref11_Words.h0 {Ω : Type} (e4_1 : ByteArray)   (k : (List ByteArray) → Option Ω) (hN : ((((e4_1).size : Int) : Int) + 1) ≤ 9223372036854775807) : ∀ (m : Nat) (i : Int) (a : Int × (List ByteArray)), -9223372036854775808 ≤ i → Int.toNat (((((e4_1).size : Int) : Int) + 1) - i) < m → Le (ref11_Words.g0 e4_1  k (Int.toNat (((((e4_1).size : Int) : Int) + 1) - i)) a.1 i a.2) (iter (ref11_Words.b0 e4_1  k) m (a.1, i, a.2)) :=
  iter_count ((((e4_1).size : Int) : Int) + 1) (fun i4 => (decide (i4 ≤ ((e4_1).size : Int)))) (fun i => le_lt1 i _) (fun (i4 : Int) (a4 : Int × (List ByteArray)) => (a4.1, i4, a4.2)) (fun xs i4 a4 => ref11_Words.g0 e4_1  k xs a4.1 i4 a4.2) (ref11_Words.b0 e4_1  k)
    (fun i4 a4 r h0 => (Le.fls h0 (Le.refl _)))
    (fun i4 d4 a4 r h0 hw ih => (Le.tru h0 (Le.cond (Le.cond (Le.cond (Le.cond (ih _ hw ((IntKind.wrap .i64 (i4 + 1)), (a4.2 ++ [(subS (some (a4.1)) (some (i4)) e4_1)]))) Le.nil) Le.nil) (ih _ hw ((IntKind.wrap .i64 (i4 + 1)), a4.2))) (Le.cond (Le.cond (Le.cond (Le.cond (Le.cond (ih _ hw ((IntKind.wrap .i64 (i4 + 1)), (a4.2 ++ [(subS (some (a4.1)) (some (i4)) e4_1)]))) Le.nil) Le.nil) (ih _ hw ((IntKind.wrap .i64 (i4 + 1)), a4.2))) (ih _ hw (a4.1, a4.2))) Le.nil))))
    hN
def ref11_Words.w {Ω : Type} (x0 : ByteArray) (k : (List ByteArray) → Option Ω) : Option Ω :=
 bif (decide (((x0).size : Int) ≤ 4611686018427387904)) then ref11_Words.g0 x0  k ((Int.toNat ((((x0).size : Int) + 1) - 0))) 0 0 ([]) else none
theorem ref11_Words.ev {Ω : Type} (fuel : Nat) (x0 : ByteArray) (k : AV → Option Ω) : evFn CKMP (spE (C := CKMP) [] []) (ref11_Words.F fuel) Tryz.f35 (Tryz.f35.body.getD .skip) [(.v .str (x0))] k = ref11_Words.sl x0 (fun e4_1 => (ref11_Words.M0 fuel e4_1  k fuel)) (fun r => k (tupAV (.slice .str) [] r)) := by kernel_rfl
theorem ref11_Words.le {Ω : Type} (x0 : ByteArray) (k : AV → Option Ω) : Le (ref11_Words.w x0 (fun r => k (tupAV (.slice .str) [] r))) (ref11_Words.sl x0 (fun e4_1 => (ref11_Words.M0 BIG e4_1  k BIG)) (fun r => k (tupAV (.slice .str) [] r))) := by
 have h1 := funext fun (e4_1 : ByteArray) => ref11_Words.l0 BIG e4_1   k BIG
 rw [h1]
 delta ref11_Words.w ref11_Words.sl
 exact (Le.gd fun hg => ref11_Words.h0 _   _ (cnt_up1 hg) BIG 0 (0, []) (by decide) (cnt_big1 hg (by decide)))
def ref11_Words.u (x0 : ByteArray) : Option ((List ByteArray)) := ref11_Words.w x0 some
noncomputable def ref11_Words.n : En CKMP := mkE CKMP_ok (es := []) (ms := []) (fuel := (ref11_Words.F BIG)) 35 Tryz.f35 [.ai .str] (.slice .str) [] (fun x {Ω} k => ref11_Words.w x.1 k) (fun x Ω k => leV (ref11_Words.ev BIG x.1 k) (ref11_Words.le x.1 k)) (by kernel_rfl) (by kernel_rfl)

def ref11_pair.s {Ω : Type} (x0 : ByteArray) (k : Int × Int → Option Ω) : Option Ω :=
  (ref08_Parse.u x0).bind fun y1 =>
  bif (y1.2 != 0) then
    k (0, y1.2)
  else
    bif (decide (y1.1 < (-32768))) then
      k (0, 8)
    else
      bif (decide (y1.1 > 32767)) then
        k (0, 8)
      else
        bif (decide (y1.1 < 0)) then
          k ((IntKind.wrap .i64 (y1.1 + 65536)), 0)
        else
          k (y1.1, 0)
def ref11_pair.u (x0 : ByteArray) : Option (Int × Int) := ref11_pair.s x0 some
noncomputable def ref11_pair.n : En CKMP := mkE CKMP_ok (es := [ref08_Parse.n]) (ms := []) (fuel := ⟨1, fun _ => []⟩) 37 Tryz.f37 [.ai .str] (.int .i64) [(.int .i64)] (fun x {Ω} k => ref11_pair.s x.1 k) (fun x Ω k => Le.of (by kernel_rfl)) (by kernel_rfl) (by kernel_rfl)

def ref11_marked.s {Ω : Type} (x0 : ByteArray) (x1 : ByteArray) (k : Int × Int → Option Ω) : Option Ω :=
  bif (decide (((x0).size : Int) < ((x1).size : Int))) then
    k (0, 3)
  else
    bif (subC none (some (((x1).size : Int))) (x0).size) then
      bif (!(((subS none (some (((x1).size : Int))) x0)).data.toList == (x1).data.toList)) then
        k (0, 3)
      else
        bif (subC (some (((x1).size : Int))) none (x0).size) then
          (ref01_Plain.u ((subS (some (((x1).size : Int))) none x0))).bind fun y1 =>
          bif (!y1.2) then
            k (0, 3)
          else
            k (y1.1, 0)
        else
          none
    else
      none
def ref11_marked.u (x0 : ByteArray) (x1 : ByteArray) : Option (Int × Int) := ref11_marked.s x0 x1 some
noncomputable def ref11_marked.n : En CKMP := mkE CKMP_ok (es := [ref01_Plain.n]) (ms := []) (fuel := ⟨1, fun _ => []⟩) 59 Tryz.f59 [.ai .str, .ai .str] (.int .i64) [(.int .i64)] (fun x {Ω} k => ref11_marked.s x.1 x.2.1 k) (fun x Ω k => Le.of (by kernel_rfl)) (by kernel_rfl) (by kernel_rfl)

def ref11_value.F (fuel : Nat) : Fuel := ⟨fuel, fun r => bif r == 4 then mL 0 47 140737488355261 else []⟩
noncomputable def ref11_value.V {Ω : Type} (fuel c : Nat) (env : List AV) (L : Heap) (k : Kont Ω) : Option Ω := evCode CKMP (spE (C := CKMP) [ref11_marked.n] []) (ref11_value.F fuel) (pCo c Tryz.f38) env L k
def ref11_value.E0 (e4_1 : ByteArray) (s4 : Int) : List AV := (dZ 1 ((.v .str (e4_1)) :: dZ 4 ((.v (.int .i64) (s4)) :: dZ 40 ([]))))
def ref11_value.H0 (e4_1 : ByteArray) (s4 : Int) : Heap := []
noncomputable def ref11_value.M0 {Ω : Type} (fuel : Nat) (e4_1 : ByteArray)  (k : AV → Option Ω) (m : Nat) (s : Int) : Option Ω := loopK (ref11_value.V fuel 1173) (mB 47 140737488355261) [] 0 (blockK 1 (sqK (ref11_value.V fuel 213) (blockK 0 (sqK (ref11_value.V fuel 7) (finK CKMP Tryz.f38 k))))) m ((ref11_value.E0 e4_1) s) ((ref11_value.H0 e4_1) s)
def ref11_value.b0 {Ω : Type} (e4_1 : ByteArray)   (k : Int × Int → Option Ω) (r4 : Int → Option Ω) (s4 : Int) : Option Ω :=
 bif (decide (s4 < 3)) then
  bif (idxOK s4 (List.length [(bs [112, 114, 105]), (bs [102, 97, 105, 114]), (bs [97, 110, 121])])) then
   let v1 : ByteArray := (List.getD [(bs [112, 114, 105]), (bs [102, 97, 105, 114]), (bs [97, 110, 121])] (Int.toNat s4) (bs []))
   bif ((e4_1).data.toList == (v1).data.toList) then
    k (s4, 0)
   else
    r4 ((IntKind.wrap .i64 (s4 + 1)))
  else
   none
 else
  k (0, 3)
theorem ref11_value.l0 {Ω : Type} (fuel : Nat) (e4_1 : ByteArray)  (k : AV → Option Ω) : ∀ m, (ref11_value.M0 fuel e4_1  k m) = iter (ref11_value.b0 e4_1  (fun r => k (tupAV (.int .i64) [(.int .i64)] r))) m :=
 loopK_iter (envOf := (ref11_value.E0 e4_1)) (LOf := (ref11_value.H0 e4_1)) (B := ref11_value.b0 e4_1  (fun r => k (tupAV (.int .i64) [(.int .i64)] r))) (fun R s => by kernel_rfl)
def ref11_value.sl {Ω : Type} (x0 : Int) (x1 : ByteArray) (lp0 : ByteArray → Int → Option Ω) (k : Int × Int → Option Ω) : Option Ω :=
 bif (x0 == 109) then
  lp0 x1 (0)
 else
  bif (x0 == 116) then
   (ref11_marked.u x1 (bs [64])).bind fun y2 =>
   k (y2.1, y2.2)
  else
   bif (x0 == 110) then
    (ref11_marked.u x1 (bs [])).bind fun y3 =>
    k (y3.1, y3.2)
   else
    bif (x0 == 115) then
     (ref11_marked.u x1 (bs [])).bind fun y4 =>
     k (y4.1, y4.2)
    else
     bif (x0 == 103) then
      (ref11_marked.u x1 (bs [114])).bind fun y5 =>
      k (y5.1, y5.2)
     else
      (ref11_marked.u x1 (ofBytes [x0])).bind fun y6 =>
      k (y6.1, y6.2)
def ref11_value.g0 {Ω : Type} (e4_1 : ByteArray)  (k : Int × Int → Option Ω) : Nat → Int → Option Ω
  | 0, i4 =>
  k (0, 3)
  | d4 + 1, i4 =>
  bif (idxOK i4 (List.length [(bs [112, 114, 105]), (bs [102, 97, 105, 114]), (bs [97, 110, 121])])) then
   let v1 : ByteArray := (List.getD [(bs [112, 114, 105]), (bs [102, 97, 105, 114]), (bs [97, 110, 121])] (Int.toNat i4) (bs []))
   bif ((e4_1).data.toList == (v1).data.toList) then
    k (i4, 0)
   else
    ref11_value.g0 e4_1  k d4 (i4 + 1)
  else
   none
theorem ref11_value.h0 {Ω : Type} (e4_1 : ByteArray)   (k : Int × Int → Option Ω) (hN : (3 : Int) ≤ 9223372036854775807) : ∀ (m : Nat) (i : Int) (a : Unit), -9223372036854775808 ≤ i → Int.toNat ((3 : Int) - i) < m → Le (ref11_value.g0 e4_1  k (Int.toNat ((3 : Int) - i)) i) (iter (ref11_value.b0 e4_1  k) m (i)) :=
  iter_count (3 : Int) (fun i4 => (decide (i4 < 3))) (fun i => rfl) (fun (i4 : Int) (a4 : Unit) => (i4)) (fun xs i4 a4 => ref11_value.g0 e4_1  k xs i4) (ref11_value.b0 e4_1  k)
    (fun i4 a4 r h0 => (Le.fls h0 (Le.refl _)))
    (fun i4 d4 a4 r h0 hw ih => (Le.tru h0 (Le.cond (let v1 : ByteArray := (List.getD [(bs [112, 114, 105]), (bs [102, 97, 105, 114]), (bs [97, 110, 121])] (Int.toNat i4) (bs [])); (Le.cond (Le.refl _) (ih _ hw ()))) Le.nil)))
    hN
def ref11_value.w {Ω : Type} (x0 : Int) (x1 : ByteArray) (k : Int × Int → Option Ω) : Option Ω :=
 bif (x0 == 109) then
  ref11_value.g0 x1  k ((Int.toNat ((3 : Int) - 0))) 0
 else
  bif (x0 == 116) then
   (ref11_marked.u x1 (bs [64])).bind fun y2 =>
   k (y2.1, y2.2)
  else
   bif (x0 == 110) then
    (ref11_marked.u x1 (bs [])).bind fun y3 =>
    k (y3.1, y3.2)
   else
    bif (x0 == 115) then
     (ref11_marked.u x1 (bs [])).bind fun y4 =>
     k (y4.1, y4.2)
    else
     bif (x0 == 103) then
      (ref11_marked.u x1 (bs [114])).bind fun y5 =>
      k (y5.1, y5.2)
     else
      (ref11_marked.u x1 (ofBytes [x0])).bind fun y6 =>
      k (y6.1, y6.2)
theorem ref11_value.ev {Ω : Type} (fuel : Nat) (x0 : Int) (x1 : ByteArray) (k : AV → Option Ω) : evFn CKMP (spE (C := CKMP) [ref11_marked.n] []) (ref11_value.F fuel) Tryz.f38 (Tryz.f38.body.getD .skip) [(.v (.int .u8) (x0)), (.v .str (x1))] k = ref11_value.sl x0 x1 (fun e4_1 => (ref11_value.M0 fuel e4_1  k fuel)) (fun r => k (tupAV (.int .i64) [(.int .i64)] r)) := by kernel_rfl
theorem ref11_value.le {Ω : Type} (x0 : Int) (x1 : ByteArray) (k : AV → Option Ω) : Le (ref11_value.w x0 x1 (fun r => k (tupAV (.int .i64) [(.int .i64)] r))) (ref11_value.sl x0 x1 (fun e4_1 => (ref11_value.M0 BIG e4_1  k BIG)) (fun r => k (tupAV (.int .i64) [(.int .i64)] r))) := by
 have h1 := funext fun (e4_1 : ByteArray) => ref11_value.l0 BIG e4_1   k BIG
 rw [h1]
 delta ref11_value.w ref11_value.sl
 exact (Le.cond (ref11_value.h0 _   _ (by decide) BIG 0 () (by decide) (by decide)) (Le.cond (Le.bnd fun y2 => (Le.refl _)) (Le.cond (Le.bnd fun y3 => (Le.refl _)) (Le.cond (Le.bnd fun y4 => (Le.refl _)) (Le.cond (Le.bnd fun y5 => (Le.refl _)) (Le.bnd fun y6 => (Le.refl _)))))))
def ref11_value.u (x0 : Int) (x1 : ByteArray) : Option (Int × Int) := ref11_value.w x0 x1 some
noncomputable def ref11_value.n : En CKMP := mkE CKMP_ok (es := [ref11_marked.n]) (ms := []) (fuel := (ref11_value.F BIG)) 38 Tryz.f38 [.ai (.int .u8), .ai .str] (.int .i64) [(.int .i64)] (fun x {Ω} k => ref11_value.w x.1 x.2.1 k) (fun x Ω k => leV (ref11_value.ev BIG x.1 x.2.1 k) (ref11_value.le x.1 x.2.1 k)) (by kernel_rfl) (by kernel_rfl)

def ref11_ends.s {Ω : Type} (x0 : Int) (k : Int × Int → Option Ω) : Option Ω :=
  bif (x0 == 116) then
    k (0, 64)
  else
    bif (x0 == 107) then
      k (0, 3)
    else
      bif (x0 == 109) then
        k (0, 2)
      else
        bif (x0 == 110) then
          k (1, 6)
        else
          bif (x0 == 115) then
            k (1, 255)
          else
            k (0, 7)
def ref11_ends.t (x0 : Int) : Int × Int :=
  bif (x0 == 116) then
    (0, 64)
  else
    bif (x0 == 107) then
      (0, 3)
    else
      bif (x0 == 109) then
        (0, 2)
      else
        bif (x0 == 110) then
          (1, 6)
        else
          bif (x0 == 115) then
            (1, 255)
          else
            (0, 7)
theorem ref11_ends.v {Ω : Type} (x0 : Int) (k : Int × Int → Option Ω) : ref11_ends.s x0 k = k (ref11_ends.t x0) := by
  delta ref11_ends.s ref11_ends.t; exact (cond_tot rfl (cond_tot rfl (cond_tot rfl (cond_tot rfl (cond_tot rfl rfl)))))
noncomputable def ref11_ends.n : En CKMP := mkT CKMP_ok (es := []) (ms := []) (fuel := ⟨1, fun _ => []⟩) 39 Tryz.f39 [.ai (.int .u8)] (.int .i64) [(.int .i64)] (fun x {Ω} k => ref11_ends.s x.1 k) (fun x => ref11_ends.t x.1) (fun x Ω k => by kernel_rfl) (fun x => ref11_ends.v x.1 some) (by kernel_rfl) (by kernel_rfl)

def ref11_Parse.F (fuel : Nat) : Fuel := ⟨fuel, fun r => bif r == 11 then mL 0 145 44601490397061246283071436545296723011958859 else []⟩
noncomputable def ref11_Parse.V {Ω : Type} (fuel c : Nat) (env : List AV) (L : Heap) (k : Kont Ω) : Option Ω := evCode CKMP (spE (C := CKMP) [ref09_Of.n, ref11_Words.n, ref09_Find.n, ref11_pair.n, ref11_value.n, ref11_ends.n] []) (ref11_Parse.F fuel) (pCo c Tryz.f16) env L k
def ref11_Parse.E0 (e11_1 : (List ByteArray)) (e11_2 : Int) (e11_3 : ByteArray) (s11 : Int × Int × (List Int)) : List AV := (dZ 2 ((.ref 0 []) :: dZ 1 ((.v (.slice .str) (e11_1)) :: (.v (.int .i64) (e11_2)) :: dZ 1 ((.v .str (e11_3)) :: (.ref 1 []) :: (.v (.int .i64) (s11.1)) :: (.v (.int .i64) (s11.2.1)) :: dZ 134 ([])))))
def ref11_Parse.H0 (e11_1 : (List ByteArray)) (e11_2 : Int) (e11_3 : ByteArray) (s11 : Int × Int × (List Int)) : Heap := [(.box E_s36 (0, (0, (0, (0, ())))) false), (.box (.arr 3 (.int .i64)) s11.2.2 false)]
noncomputable def ref11_Parse.M0 {Ω : Type} (fuel : Nat) (e11_1 : (List ByteArray)) (e11_2 : Int) (e11_3 : ByteArray)  (k : AV → Option Ω) (m : Nat) (s : Int × Int × (List Int)) : Option Ω := loopK (ref11_Parse.V fuel 4863) (mB 145 44601490397061246283071436545296723011958859) [] 2 (blockK 0 (sqK (ref11_Parse.V fuel 1023) (finK CKMP Tryz.f16 k))) m ((ref11_Parse.E0 e11_1 e11_2 e11_3) s) ((ref11_Parse.H0 e11_1 e11_2 e11_3) s)
def ref11_Parse.b0 {Ω : Type} (e11_1 : (List ByteArray)) (e11_2 : Int) (e11_3 : ByteArray)   (k : T_s36 × Int → Option Ω) (r11 : Int × Int × (List Int) → Option Ω) (s11 : Int × Int × (List Int)) : Option Ω :=
 bif (decide (s11.2.1 < 3)) then
  bif (idxOK s11.2.1 (e11_3).size) then
   bif ((bAt e11_3 (Int.toNat s11.2.1)) == 45) then
    r11 (s11.1, (IntKind.wrap .i64 (s11.2.1 + 1)), s11.2.2)
   else
    bif ((bAt e11_3 (Int.toNat s11.2.1)) == 106) then
     r11 (s11.1, (IntKind.wrap .i64 (s11.2.1 + 1)), s11.2.2)
    else
     bif ((bAt e11_3 (Int.toNat s11.2.1)) == 103) then
      bif (s11.1 == ((List.length e11_1 : Nat) : Int)) then
       bif (idxOK s11.2.1 3) then
        r11 (s11.1, (IntKind.wrap .i64 (s11.2.1 + 1)), (List.set s11.2.2 (Int.toNat s11.2.1) 8))
       else
        none
      else
       bif (idxOK s11.1 (List.length e11_1)) then
        let v4 : Bool := (!(((List.getD e11_1 (Int.toNat s11.1) (bs []))).data.toList == ((bs [105, 102])).data.toList))
        bif v4 then
         k ((0, (0, (0, (0, ())))), 3)
        else
         bif ((IntKind.wrap .i64 (s11.1 + 1)) == ((List.length e11_1 : Nat) : Int)) then
          k ((0, (0, (0, (0, ())))), 4)
         else
          bif ((bAt e11_3 (Int.toNat s11.2.1)) == 105) then
           bif (idxOK (IntKind.wrap .i64 (s11.1 + 1)) (List.length e11_1)) then
            (ref11_pair.u ((List.getD e11_1 (Int.toNat (IntKind.wrap .i64 (s11.1 + 1))) (bs [])))).bind fun y5 =>
            bif (y5.2 != 0) then
             k ((0, (0, (0, (0, ())))), y5.2)
            else
             bif (idxOK s11.2.1 3) then
              bif (idxOK (IntKind.wrap .i64 (s11.2.1 + 1)) 3) then
               r11 ((IntKind.wrap .i64 ((IntKind.wrap .i64 (s11.1 + 1)) + 1)), (IntKind.wrap .i64 (s11.2.1 + 1)), (List.set (List.set s11.2.2 (Int.toNat s11.2.1) (IntKind.wrap .i64 (Int.tdiv y5.1 256))) (Int.toNat (IntKind.wrap .i64 (s11.2.1 + 1))) (Int.tmod y5.1 256)))
              else
               none
             else
              none
           else
            none
          else
           bif (idxOK (IntKind.wrap .i64 (s11.1 + 1)) (List.length e11_1)) then
            (ref11_value.u ((bAt e11_3 (Int.toNat s11.2.1))) ((List.getD e11_1 (Int.toNat (IntKind.wrap .i64 (s11.1 + 1))) (bs [])))).bind fun y6 =>
            bif (y6.2 != 0) then
             k ((0, (0, (0, (0, ())))), y6.2)
            else
             let v7 : Int × Int := (ref11_ends.t ((bAt e11_3 (Int.toNat s11.2.1))))
             bif (decide (y6.1 < v7.1)) then
              k ((0, (0, (0, (0, ())))), 8)
             else
              bif (decide (y6.1 > v7.2)) then
               k ((0, (0, (0, (0, ())))), 8)
              else
               bif (idxOK s11.2.1 3) then
                r11 ((IntKind.wrap .i64 ((IntKind.wrap .i64 (s11.1 + 1)) + 1)), (IntKind.wrap .i64 (s11.2.1 + 1)), (List.set s11.2.2 (Int.toNat s11.2.1) y6.1))
               else
                none
           else
            none
       else
        none
     else
      bif (s11.1 == ((List.length e11_1 : Nat) : Int)) then
       k ((0, (0, (0, (0, ())))), 4)
      else
       bif ((bAt e11_3 (Int.toNat s11.2.1)) == 105) then
        bif (idxOK s11.1 (List.length e11_1)) then
         (ref11_pair.u ((List.getD e11_1 (Int.toNat s11.1) (bs [])))).bind fun y8 =>
         bif (y8.2 != 0) then
          k ((0, (0, (0, (0, ())))), y8.2)
         else
          bif (idxOK s11.2.1 3) then
           bif (idxOK (IntKind.wrap .i64 (s11.2.1 + 1)) 3) then
            r11 ((IntKind.wrap .i64 (s11.1 + 1)), (IntKind.wrap .i64 (s11.2.1 + 1)), (List.set (List.set s11.2.2 (Int.toNat s11.2.1) (IntKind.wrap .i64 (Int.tdiv y8.1 256))) (Int.toNat (IntKind.wrap .i64 (s11.2.1 + 1))) (Int.tmod y8.1 256)))
           else
            none
          else
           none
        else
         none
       else
        bif (idxOK s11.1 (List.length e11_1)) then
         (ref11_value.u ((bAt e11_3 (Int.toNat s11.2.1))) ((List.getD e11_1 (Int.toNat s11.1) (bs [])))).bind fun y9 =>
         bif (y9.2 != 0) then
          k ((0, (0, (0, (0, ())))), y9.2)
         else
          let v10 : Int × Int := (ref11_ends.t ((bAt e11_3 (Int.toNat s11.2.1))))
          bif (decide (y9.1 < v10.1)) then
           k ((0, (0, (0, (0, ())))), 8)
          else
           bif (decide (y9.1 > v10.2)) then
            k ((0, (0, (0, (0, ())))), 8)
           else
            bif (idxOK s11.2.1 3) then
             r11 ((IntKind.wrap .i64 (s11.1 + 1)), (IntKind.wrap .i64 (s11.2.1 + 1)), (List.set s11.2.2 (Int.toNat s11.2.1) y9.1))
            else
             none
        else
         none
  else
   none
 else
  bif (decide (s11.1 < ((List.length e11_1 : Nat) : Int))) then
   k ((0, (0, (0, (0, ())))), 5)
  else
   k (((IntKind.wrap .u8 e11_2), ((IntKind.wrap .u8 (List.getD s11.2.2 0 0)), ((IntKind.wrap .u8 (List.getD s11.2.2 1 0)), ((IntKind.wrap .u8 (List.getD s11.2.2 2 0)), ())))), 0)
theorem ref11_Parse.l0 {Ω : Type} (fuel : Nat) (e11_1 : (List ByteArray)) (e11_2 : Int) (e11_3 : ByteArray)  (k : AV → Option Ω) : ∀ m, (ref11_Parse.M0 fuel e11_1 e11_2 e11_3  k m) = iter (ref11_Parse.b0 e11_1 e11_2 e11_3  (fun r => k (tupAV E_s36 [(.int .i64)] r))) m :=
 loopK_iter (envOf := (ref11_Parse.E0 e11_1 e11_2 e11_3)) (LOf := (ref11_Parse.H0 e11_1 e11_2 e11_3)) (B := ref11_Parse.b0 e11_1 e11_2 e11_3  (fun r => k (tupAV E_s36 [(.int .i64)] r))) (fun R s => by kernel_rfl)
def ref11_Parse.sl {Ω : Type} (x0 : ByteArray) (lp0 : (List ByteArray) → Int → ByteArray → Int × Int × (List Int) → Option Ω) (k : T_s36 × Int → Option Ω) : Option Ω :=
 (ref11_Words.u x0).bind fun y1 =>
 bif (((List.length y1 : Nat) : Int) == 0) then
  k ((0, (0, (0, (0, ())))), 11)
 else
  bif (idxOK 0 (List.length y1)) then
   (ref09_Find.u ((List.getD y1 0 (bs [])))).bind fun y2 =>
   bif (!y2.2) then
    k ((0, (0, (0, (0, ())))), 6)
   else
    (ref09_Of.u y2.1).bind fun y3 =>
    lp0 y1 y2.1 y3.2.1 (1, 0, (List.replicate 3 0))
  else
   none
def ref11_Parse.g0 {Ω : Type} (e11_1 : (List ByteArray)) (e11_2 : Int) (e11_3 : ByteArray)  (k : T_s36 × Int → Option Ω) : Nat → Int → Int → (List Int) → Option Ω
  | 0, a11_0, i11, a11_2 =>
  bif (decide (a11_0 < ((List.length e11_1 : Nat) : Int))) then
   k ((0, (0, (0, (0, ())))), 5)
  else
   k (((IntKind.wrap .u8 e11_2), ((IntKind.wrap .u8 (List.getD a11_2 0 0)), ((IntKind.wrap .u8 (List.getD a11_2 1 0)), ((IntKind.wrap .u8 (List.getD a11_2 2 0)), ())))), 0)
  | d11 + 1, a11_0, i11, a11_2 =>
  bif (idxOK i11 (e11_3).size) then
   bif ((bAt e11_3 (Int.toNat i11)) == 45) then
    ref11_Parse.g0 e11_1 e11_2 e11_3  k d11 a11_0 (i11 + 1) a11_2
   else
    bif ((bAt e11_3 (Int.toNat i11)) == 106) then
     ref11_Parse.g0 e11_1 e11_2 e11_3  k d11 a11_0 (i11 + 1) a11_2
    else
     bif ((bAt e11_3 (Int.toNat i11)) == 103) then
      bif (a11_0 == ((List.length e11_1 : Nat) : Int)) then
       bif (idxOK i11 3) then
        ref11_Parse.g0 e11_1 e11_2 e11_3  k d11 a11_0 (i11 + 1) ((List.set a11_2 (Int.toNat i11) 8))
       else
        none
      else
       bif (idxOK a11_0 (List.length e11_1)) then
        let v4 : Bool := (!(((List.getD e11_1 (Int.toNat a11_0) (bs []))).data.toList == ((bs [105, 102])).data.toList))
        bif v4 then
         k ((0, (0, (0, (0, ())))), 3)
        else
         bif ((IntKind.wrap .i64 (a11_0 + 1)) == ((List.length e11_1 : Nat) : Int)) then
          k ((0, (0, (0, (0, ())))), 4)
         else
          bif ((bAt e11_3 (Int.toNat i11)) == 105) then
           bif (idxOK (IntKind.wrap .i64 (a11_0 + 1)) (List.length e11_1)) then
            (ref11_pair.u ((List.getD e11_1 (Int.toNat (IntKind.wrap .i64 (a11_0 + 1))) (bs [])))).bind fun y5 =>
            bif (y5.2 != 0) then
             k ((0, (0, (0, (0, ())))), y5.2)
            else
             bif (idxOK i11 3) then
              bif (idxOK (IntKind.wrap .i64 (i11 + 1)) 3) then
               ref11_Parse.g0 e11_1 e11_2 e11_3  k d11 ((IntKind.wrap .i64 ((IntKind.wrap .i64 (a11_0 + 1)) + 1))) (i11 + 1) ((List.set (List.set a11_2 (Int.toNat i11) (IntKind.wrap .i64 (Int.tdiv y5.1 256))) (Int.toNat (IntKind.wrap .i64 (i11 + 1))) (Int.tmod y5.1 256)))
              else
               none
             else
              none
           else
            none
          else
           bif (idxOK (IntKind.wrap .i64 (a11_0 + 1)) (List.length e11_1)) then
            (ref11_value.u ((bAt e11_3 (Int.toNat i11))) ((List.getD e11_1 (Int.toNat (IntKind.wrap .i64 (a11_0 + 1))) (bs [])))).bind fun y6 =>
            bif (y6.2 != 0) then
             k ((0, (0, (0, (0, ())))), y6.2)
            else
             let v7 : Int × Int := (ref11_ends.t ((bAt e11_3 (Int.toNat i11))))
             bif (decide (y6.1 < v7.1)) then
              k ((0, (0, (0, (0, ())))), 8)
             else
              bif (decide (y6.1 > v7.2)) then
               k ((0, (0, (0, (0, ())))), 8)
              else
               bif (idxOK i11 3) then
                ref11_Parse.g0 e11_1 e11_2 e11_3  k d11 ((IntKind.wrap .i64 ((IntKind.wrap .i64 (a11_0 + 1)) + 1))) (i11 + 1) ((List.set a11_2 (Int.toNat i11) y6.1))
               else
                none
           else
            none
       else
        none
     else
      bif (a11_0 == ((List.length e11_1 : Nat) : Int)) then
       k ((0, (0, (0, (0, ())))), 4)
      else
       bif ((bAt e11_3 (Int.toNat i11)) == 105) then
        bif (idxOK a11_0 (List.length e11_1)) then
         (ref11_pair.u ((List.getD e11_1 (Int.toNat a11_0) (bs [])))).bind fun y8 =>
         bif (y8.2 != 0) then
          k ((0, (0, (0, (0, ())))), y8.2)
         else
          bif (idxOK i11 3) then
           bif (idxOK (IntKind.wrap .i64 (i11 + 1)) 3) then
            ref11_Parse.g0 e11_1 e11_2 e11_3  k d11 ((IntKind.wrap .i64 (a11_0 + 1))) (i11 + 1) ((List.set (List.set a11_2 (Int.toNat i11) (IntKind.wrap .i64 (Int.tdiv y8.1 256))) (Int.toNat (IntKind.wrap .i64 (i11 + 1))) (Int.tmod y8.1 256)))
           else
            none
          else
           none
        else
         none
       else
        bif (idxOK a11_0 (List.length e11_1)) then
         (ref11_value.u ((bAt e11_3 (Int.toNat i11))) ((List.getD e11_1 (Int.toNat a11_0) (bs [])))).bind fun y9 =>
         bif (y9.2 != 0) then
          k ((0, (0, (0, (0, ())))), y9.2)
         else
          let v10 : Int × Int := (ref11_ends.t ((bAt e11_3 (Int.toNat i11))))
          bif (decide (y9.1 < v10.1)) then
           k ((0, (0, (0, (0, ())))), 8)
          else
           bif (decide (y9.1 > v10.2)) then
            k ((0, (0, (0, (0, ())))), 8)
           else
            bif (idxOK i11 3) then
             ref11_Parse.g0 e11_1 e11_2 e11_3  k d11 ((IntKind.wrap .i64 (a11_0 + 1))) (i11 + 1) ((List.set a11_2 (Int.toNat i11) y9.1))
            else
             none
        else
         none
  else
   none
theorem ref11_Parse.h0 {Ω : Type} (e11_1 : (List ByteArray)) (e11_2 : Int) (e11_3 : ByteArray)   (k : T_s36 × Int → Option Ω) (hN : (3 : Int) ≤ 9223372036854775807) : ∀ (m : Nat) (i : Int) (a : Int × (List Int)), -9223372036854775808 ≤ i → Int.toNat ((3 : Int) - i) < m → Le (ref11_Parse.g0 e11_1 e11_2 e11_3  k (Int.toNat ((3 : Int) - i)) a.1 i a.2) (iter (ref11_Parse.b0 e11_1 e11_2 e11_3  k) m (a.1, i, a.2)) :=
  iter_count (3 : Int) (fun i11 => (decide (i11 < 3))) (fun i => rfl) (fun (i11 : Int) (a11 : Int × (List Int)) => (a11.1, i11, a11.2)) (fun xs i11 a11 => ref11_Parse.g0 e11_1 e11_2 e11_3  k xs a11.1 i11 a11.2) (ref11_Parse.b0 e11_1 e11_2 e11_3  k)
    (fun i11 a11 r h0 => (Le.fls h0 (Le.cond (Le.refl _) (Le.refl _))))
    (fun i11 d11 a11 r h0 hw ih => (Le.tru h0 (Le.cond (Le.cond (ih _ hw (a11.1, a11.2)) (Le.cond (ih _ hw (a11.1, a11.2)) (Le.cond (Le.cond (Le.cond (ih _ hw (a11.1, (List.set a11.2 (Int.toNat i11) 8))) Le.nil) (Le.cond (let v4 : Bool := (!(((List.getD e11_1 (Int.toNat a11.1) (bs []))).data.toList == ((bs [105, 102])).data.toList)); (Le.cond (Le.refl _) (Le.cond (Le.refl _) (Le.cond (Le.cond (Le.bnd fun y5 => (Le.cond (Le.refl _) (Le.cond (Le.cond (ih _ hw ((IntKind.wrap .i64 ((IntKind.wrap .i64 (a11.1 + 1)) + 1)), (List.set (List.set a11.2 (Int.toNat i11) (IntKind.wrap .i64 (Int.tdiv y5.1 256))) (Int.toNat (IntKind.wrap .i64 (i11 + 1))) (Int.tmod y5.1 256)))) Le.nil) Le.nil))) Le.nil) (Le.cond (Le.bnd fun y6 => (Le.cond (Le.refl _) (let v7 : Int × Int := (ref11_ends.t ((bAt e11_3 (Int.toNat i11)))); (Le.cond (Le.refl _) (Le.cond (Le.refl _) (Le.cond (ih _ hw ((IntKind.wrap .i64 ((IntKind.wrap .i64 (a11.1 + 1)) + 1)), (List.set a11.2 (Int.toNat i11) y6.1))) Le.nil)))))) Le.nil))))) Le.nil)) (Le.cond (Le.refl _) (Le.cond (Le.cond (Le.bnd fun y8 => (Le.cond (Le.refl _) (Le.cond (Le.cond (ih _ hw ((IntKind.wrap .i64 (a11.1 + 1)), (List.set (List.set a11.2 (Int.toNat i11) (IntKind.wrap .i64 (Int.tdiv y8.1 256))) (Int.toNat (IntKind.wrap .i64 (i11 + 1))) (Int.tmod y8.1 256)))) Le.nil) Le.nil))) Le.nil) (Le.cond (Le.bnd fun y9 => (Le.cond (Le.refl _) (let v10 : Int × Int := (ref11_ends.t ((bAt e11_3 (Int.toNat i11)))); (Le.cond (Le.refl _) (Le.cond (Le.refl _) (Le.cond (ih _ hw ((IntKind.wrap .i64 (a11.1 + 1)), (List.set a11.2 (Int.toNat i11) y9.1))) Le.nil)))))) Le.nil)))))) Le.nil)))
    hN
def ref11_Parse.w {Ω : Type} (x0 : ByteArray) (k : T_s36 × Int → Option Ω) : Option Ω :=
 (ref11_Words.u x0).bind fun y1 =>
 bif (((List.length y1 : Nat) : Int) == 0) then
  k ((0, (0, (0, (0, ())))), 11)
 else
  bif (idxOK 0 (List.length y1)) then
   (ref09_Find.u ((List.getD y1 0 (bs [])))).bind fun y2 =>
   bif (!y2.2) then
    k ((0, (0, (0, (0, ())))), 6)
   else
    (ref09_Of.u y2.1).bind fun y3 =>
    ref11_Parse.g0 y1 y2.1 y3.2.1  k ((Int.toNat ((3 : Int) - 0))) 1 0 (List.replicate 3 0)
  else
   none
theorem ref11_Parse.ev {Ω : Type} (fuel : Nat) (x0 : ByteArray) (k : AV → Option Ω) : evFn CKMP (spE (C := CKMP) [ref09_Of.n, ref11_Words.n, ref09_Find.n, ref11_pair.n, ref11_value.n, ref11_ends.n] []) (ref11_Parse.F fuel) Tryz.f16 (Tryz.f16.body.getD .skip) [(.v .str (x0))] k = ref11_Parse.sl x0 (fun e11_1 e11_2 e11_3 => (ref11_Parse.M0 fuel e11_1 e11_2 e11_3  k fuel)) (fun r => k (tupAV E_s36 [(.int .i64)] r)) := by kernel_rfl
theorem ref11_Parse.le {Ω : Type} (x0 : ByteArray) (k : AV → Option Ω) : Le (ref11_Parse.w x0 (fun r => k (tupAV E_s36 [(.int .i64)] r))) (ref11_Parse.sl x0 (fun e11_1 e11_2 e11_3 => (ref11_Parse.M0 BIG e11_1 e11_2 e11_3  k BIG)) (fun r => k (tupAV E_s36 [(.int .i64)] r))) := by
 have h1 := funext fun (e11_1 : (List ByteArray)) => funext fun (e11_2 : Int) => funext fun (e11_3 : ByteArray) => ref11_Parse.l0 BIG e11_1 e11_2 e11_3   k BIG
 rw [h1]
 delta ref11_Parse.w ref11_Parse.sl
 exact (Le.bnd fun y1 => (Le.cond (Le.refl _) (Le.cond (Le.bnd fun y2 => (Le.cond (Le.refl _) (Le.bnd fun y3 => (ref11_Parse.h0 _ _ _   _ (by decide) BIG 0 (1, (List.replicate 3 0)) (by decide) (by decide))))) Le.nil)))
def ref11_Parse.u (x0 : ByteArray) : Option (T_s36 × Int) := ref11_Parse.w x0 some
noncomputable def ref11_Parse.n : En CKMP := mkE CKMP_ok (es := [ref09_Of.n, ref11_Words.n, ref09_Find.n, ref11_pair.n, ref11_value.n, ref11_ends.n]) (ms := []) (fuel := (ref11_Parse.F BIG)) 16 Tryz.f16 [.ai .str] E_s36 [(.int .i64)] (fun x {Ω} k => ref11_Parse.w x.1 k) (fun x Ω k => leV (ref11_Parse.ev BIG x.1 k) (ref11_Parse.le x.1 k)) (by kernel_rfl) (by kernel_rfl)

end Go.Proofs.YtmmooplcdkmapaaGreatDoor.K

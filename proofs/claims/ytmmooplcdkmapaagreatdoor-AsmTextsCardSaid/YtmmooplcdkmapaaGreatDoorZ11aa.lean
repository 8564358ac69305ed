/- What functions of the program come to, plainly. -/
import Derived.Test.YtmmooplcdkmapaaGreatDoorZ10
set_option maxRecDepth 100000
set_option linter.unusedVariables false
namespace Go.Proofs.YtmmooplcdkmapaaGreatDoor.K
open Go Go.RowKit

def asm_number.s {Ω : Type} (x0 : Int) (k : ByteArray → Option Ω) : Option Ω :=
  (word_Text.u (IntKind.wrap .i64 x0)).bind fun y1 =>
  k y1.1
def asm_number.u (x0 : Int) : Option (ByteArray) := asm_number.s x0 some
noncomputable def asm_number.n : En CKMP := mkE CKMP_ok (es := [word_Text.n]) (ms := []) (fuel := ⟨1, fun _ => []⟩) 45 Tryz.f45 [.ai (.int .u8)] .str [] (fun x {Ω} k => asm_number.s x.1 k) (fun x Ω k => Le.of (by kernel_rfl)) (by kernel_rfl) (by kernel_rfl)

def asm_ways.s {Ω : Type}  (k : (List ByteArray) → Option Ω) : Option Ω :=
  k (List.set (List.set (List.set (List.replicate 3 (bs [])) 0 (bs [112, 114, 105])) 1 (bs [102, 97, 105, 114])) 2 (bs [97, 110, 121]))
def asm_ways.t  : (List ByteArray) :=
  (List.set (List.set (List.set (List.replicate 3 (bs [])) 0 (bs [112, 114, 105])) 1 (bs [102, 97, 105, 114])) 2 (bs [97, 110, 121]))
theorem asm_ways.v {Ω : Type}  (k : (List ByteArray) → Option Ω) : asm_ways.s  k = k (asm_ways.t ) := by
  delta asm_ways.s asm_ways.t; exact rfl
noncomputable def asm_ways.n : En CKMP := mkT CKMP_ok (es := []) (ms := []) (fuel := ⟨1, fun _ => []⟩) 46 Tryz.f46 [] (.arr 3 .str) [] (fun x {Ω} k => asm_ways.s  k) (fun x => asm_ways.t ) (fun x Ω k => by kernel_rfl) (fun x => asm_ways.v  some) (by kernel_rfl) (by kernel_rfl)

def asm_shown.s {Ω : Type} (x0 : T_s36) (x1 : Int) (x2 : Int) (k : ByteArray → Option Ω) : Option Ω :=
  bif (x1 == 105) then
    (instr_Num.u x0).bind fun y1 =>
    (word_Text.u y1).bind fun y2 =>
    k y2.1
  else
    bif (x1 == 116) then
      (asm_number.u x2).bind fun y3 =>
      bif (decide (((bs [64])).size + (y3).size ≤ catMax)) then
        k ((bs [64]) ++ y3)
      else
        none
    else
      bif (x1 == 109) then
        bif (idxOK x2 3) then
          k (List.getD asm_ways.t (Int.toNat x2) (bs []))
        else
          none
      else
        bif (x1 == 110) then
          (asm_number.u x2).bind fun y4 =>
          k y4
        else
          bif (x1 == 115) then
            (asm_number.u x2).bind fun y5 =>
            k y5
          else
            bif (x1 == 103) then
              bif (x2 == 8) then
                k (bs [])
              else
                (asm_number.u x2).bind fun y6 =>
                bif (decide (((bs [105, 102, 32, 114])).size + (y6).size ≤ catMax)) then
                  k ((bs [105, 102, 32, 114]) ++ y6)
                else
                  none
            else
              bif (x1 == 106) then
                k (bs [])
              else
                bif (x1 == 45) then
                  k (bs [])
                else
                  (asm_number.u x2).bind fun y7 =>
                  bif (decide (((Utf8.encode x1)).size + (y7).size ≤ catMax)) then
                    k ((Utf8.encode x1) ++ y7)
                  else
                    none
def asm_shown.u (x0 : T_s36) (x1 : Int) (x2 : Int) : Option (ByteArray) := asm_shown.s x0 x1 x2 some
noncomputable def asm_shown.n : En CKMP := mkE CKMP_ok (es := [word_Text.n, instr_Num.n, asm_number.n, asm_ways.n]) (ms := []) (fuel := ⟨1, fun _ => []⟩) 20 Tryz.f20 [.ai E_s36, .ai (.int .u8), .ai (.int .u8)] .str [] (fun x {Ω} k => asm_shown.s x.1 x.2.1 x.2.2.1 k) (fun x Ω k => Le.of (by kernel_rfl)) (by kernel_rfl) (by kernel_rfl)

def asm_Text.F (fuel : Nat) : Fuel := ⟨fuel, fun r => bif r == 7 then mL 0 48 281473366097821 else []⟩
noncomputable def asm_Text.V {Ω : Type} (fuel c : Nat) (env : List AV) (L : Heap) (k : Kont Ω) : Option Ω := evCode CKMP (spE (C := CKMP) [instr_Check.n, opcode_Name.n, opcode_Form.n, asm_shown.n] []) (asm_Text.F fuel) (pCo c Tryz.f10) env L k
def asm_Text.E0 (e7_1 : ByteArray) (e7_2 : (List Int)) (e7_3 : T_s36) (s7 : ByteArray × Int) : List AV := (dZ 1 ((.ref 0 []) :: dZ 3 ((.v .str (s7.1)) :: (.v .str (e7_1)) :: dZ 22 ((.v (.arr 3 (.int .u8)) (e7_2)) :: (.v (.int .i64) (s7.2)) :: dZ 17 ([])))))
def asm_Text.H0 (e7_1 : ByteArray) (e7_2 : (List Int)) (e7_3 : T_s36) (s7 : ByteArray × Int) : Heap := [(.box E_s36 e7_3 false)]
noncomputable def asm_Text.M0 {Ω : Type} (fuel : Nat) (e7_1 : ByteArray) (e7_2 : (List Int)) (e7_3 : T_s36)  (k : AV → Option Ω) (m : Nat) (s : ByteArray × Int) : Option Ω := loopK (asm_Text.V fuel 303) (mB 48 281473366097821) [] 1 (blockK 0 (sqK (asm_Text.V fuel 63) (finK CKMP Tryz.f10 k))) m ((asm_Text.E0 e7_1 e7_2 e7_3) s) ((asm_Text.H0 e7_1 e7_2 e7_3) s)
def asm_Text.b0 {Ω : Type} (e7_1 : ByteArray) (e7_2 : (List Int)) (e7_3 : T_s36)   (k : ByteArray × Int → Option Ω) (r7 : ByteArray × Int → Option Ω) (s7 : ByteArray × Int) : Option Ω :=
 bif (decide (s7.2 < 3)) then
  bif (idxOK s7.2 3) then
   bif (idxOK s7.2 (e7_1).size) then
    (asm_shown.u e7_3 ((bAt e7_1 (Int.toNat s7.2))) ((List.getD e7_2 (Int.toNat s7.2) 0))).bind fun y4 =>
    bif (!((y4).data.toList == ((bs [])).data.toList)) then
     bif (decide (((bs [32])).size + (y4).size ≤ catMax)) then
      bif (decide ((s7.1).size + (((bs [32]) ++ y4)).size ≤ catMax)) then
       r7 ((s7.1 ++ ((bs [32]) ++ y4)), (IntKind.wrap .i64 (s7.2 + 1)))
      else
       none
     else
      none
    else
     r7 (s7.1, (IntKind.wrap .i64 (s7.2 + 1)))
   else
    none
  else
   none
 else
  k (s7.1, 0)
theorem asm_Text.l0 {Ω : Type} (fuel : Nat) (e7_1 : ByteArray) (e7_2 : (List Int)) (e7_3 : T_s36)  (k : AV → Option Ω) : ∀ m, (asm_Text.M0 fuel e7_1 e7_2 e7_3  k m) = iter (asm_Text.b0 e7_1 e7_2 e7_3  (fun r => k (tupAV .str [(.int .i64)] r))) m :=
 loopK_iter (envOf := (asm_Text.E0 e7_1 e7_2 e7_3)) (LOf := (asm_Text.H0 e7_1 e7_2 e7_3)) (B := asm_Text.b0 e7_1 e7_2 e7_3  (fun r => k (tupAV .str [(.int .i64)] r))) (fun R s => by kernel_rfl)
def asm_Text.sl {Ω : Type} (x0 : T_s36) (lp0 : ByteArray → (List Int) → T_s36 → ByteArray × Int → Option Ω) (k : ByteArray × Int → Option Ω) : Option Ω :=
 (instr_Check.u x0).bind fun y1 =>
 bif (y1 != 0) then
  k ((bs []), y1)
 else
  (opcode_Name.u (IntKind.wrap .i64 x0.1)).bind fun y2 =>
  (opcode_Form.u (IntKind.wrap .i64 x0.1)).bind fun y3 =>
  lp0 y3 ((List.set (List.set (List.set (List.replicate 3 0) 0 x0.2.1) 1 x0.2.2.1) 2 x0.2.2.2.1)) x0 (y2, 0)
def asm_Text.g0 {Ω : Type} (e7_1 : ByteArray) (e7_2 : (List Int)) (e7_3 : T_s36)  (k : ByteArray × Int → Option Ω) : Nat → ByteArray → Int → Option Ω
  | 0, a7_0, i7 =>
  k (a7_0, 0)
  | d7 + 1, a7_0, i7 =>
  bif (idxOK i7 3) then
   bif (idxOK i7 (e7_1).size) then
    (asm_shown.u e7_3 ((bAt e7_1 (Int.toNat i7))) ((List.getD e7_2 (Int.toNat i7) 0))).bind fun y4 =>
    bif (!((y4).data.toList == ((bs [])).data.toList)) then
     bif (decide (((bs [32])).size + (y4).size ≤ catMax)) then
      bif (decide ((a7_0).size + (((bs [32]) ++ y4)).size ≤ catMax)) then
       asm_Text.g0 e7_1 e7_2 e7_3  k d7 ((a7_0 ++ ((bs [32]) ++ y4))) (i7 + 1)
      else
       none
     else
      none
    else
     asm_Text.g0 e7_1 e7_2 e7_3  k d7 a7_0 (i7 + 1)
   else
    none
  else
   none
theorem asm_Text.h0 {Ω : Type} (e7_1 : ByteArray) (e7_2 : (List Int)) (e7_3 : T_s36)   (k : ByteArray × Int → Option Ω) (hN : (3 : Int) ≤ 9223372036854775807) : ∀ (m : Nat) (i : Int) (a : ByteArray), -9223372036854775808 ≤ i → Int.toNat ((3 : Int) - i) < m → Le (asm_Text.g0 e7_1 e7_2 e7_3  k (Int.toNat ((3 : Int) - i)) a i) (iter (asm_Text.b0 e7_1 e7_2 e7_3  k) m (a, i)) :=
  iter_count (3 : Int) (fun i7 => (decide (i7 < 3))) (fun i => rfl) (fun (i7 : Int) (a7 : ByteArray) => (a7, i7)) (fun xs i7 a7 => asm_Text.g0 e7_1 e7_2 e7_3  k xs a7 i7) (asm_Text.b0 e7_1 e7_2 e7_3  k)
    (fun i7 a7 r h0 => (Le.fls h0 (Le.refl _)))
    (fun i7 d7 a7 r h0 hw ih => (Le.tru h0 (Le.cond (Le.cond (Le.bnd fun y4 => (Le.cond (Le.cond (Le.cond (ih _ hw ((a7 ++ ((bs [32]) ++ y4)))) Le.nil) Le.nil) (ih _ hw (a7)))) Le.nil) Le.nil)))
    hN
def asm_Text.w {Ω : Type} (x0 : T_s36) (k : ByteArray × Int → Option Ω) : Option Ω :=
 (instr_Check.u x0).bind fun y1 =>
 bif (y1 != 0) then
  k ((bs []), y1)
 else
  (opcode_Name.u (IntKind.wrap .i64 x0.1)).bind fun y2 =>
  (opcode_Form.u (IntKind.wrap .i64 x0.1)).bind fun y3 =>
  asm_Text.g0 y3 ((List.set (List.set (List.set (List.replicate 3 0) 0 x0.2.1) 1 x0.2.2.1) 2 x0.2.2.2.1)) x0  k ((Int.toNat ((3 : Int) - 0))) y2 0
theorem asm_Text.ev {Ω : Type} (fuel : Nat) (x0 : T_s36) (k : AV → Option Ω) : evFn CKMP (spE (C := CKMP) [instr_Check.n, opcode_Name.n, opcode_Form.n, asm_shown.n] []) (asm_Text.F fuel) Tryz.f10 (Tryz.f10.body.getD .skip) [(.v E_s36 (x0))] k = asm_Text.sl x0 (fun e7_1 e7_2 e7_3 => (asm_Text.M0 fuel e7_1 e7_2 e7_3  k fuel)) (fun r => k (tupAV .str [(.int .i64)] r)) := by kernel_rfl
theorem asm_Text.le {Ω : Type} (x0 : T_s36) (k : AV → Option Ω) : Le (asm_Text.w x0 (fun r => k (tupAV .str [(.int .i64)] r))) (asm_Text.sl x0 (fun e7_1 e7_2 e7_3 => (asm_Text.M0 BIG e7_1 e7_2 e7_3  k BIG)) (fun r => k (tupAV .str [(.int .i64)] r))) := by
 have h1 := funext fun (e7_1 : ByteArray) => funext fun (e7_2 : (List Int)) => funext fun (e7_3 : T_s36) => asm_Text.l0 BIG e7_1 e7_2 e7_3   k BIG
 rw [h1]
 delta asm_Text.w asm_Text.sl
 exact (Le.bnd fun y1 => (Le.cond (Le.refl _) (Le.bnd fun y2 => (Le.bnd fun y3 => (asm_Text.h0 _ _ _   _ (by decide) BIG 0 (y2) (by decide) (by decide))))))
def asm_Text.u (x0 : T_s36) : Option (ByteArray × Int) := asm_Text.w x0 some
noncomputable def asm_Text.n : En CKMP := mkE CKMP_ok (es := [instr_Check.n, opcode_Name.n, opcode_Form.n, asm_shown.n]) (ms := []) (fuel := (asm_Text.F BIG)) 10 Tryz.f10 [.ai E_s36] .str [(.int .i64)] (fun x {Ω} k => asm_Text.w x.1 k) (fun x Ω k => leV (asm_Text.ev BIG x.1 k) (asm_Text.le x.1 k)) (by kernel_rfl) (by kernel_rfl)

noncomputable def strings_Builder_WriteString.n : Me CKMP := Me.of (g := 12) (fx := fun {_} => strings_Builder_WriteString.fx) (FxOK.mono le_C_CKMP strings_Builder_WriteString.fx_ok)
noncomputable def strings_Builder_String.n : Me CKMP := Me.of (g := 13) (fx := fun {_} => strings_Builder_String.fx) (FxOK.mono le_C_CKMP strings_Builder_String.fx_ok)
def asm_Print.F (fuel : Nat) : Fuel := ⟨fuel, fun r => bif r == 3 then mL 0 28 268431855 else []⟩
noncomputable def asm_Print.V {Ω : Type} (fuel c : Nat) (env : List AV) (L : Heap) (k : Kont Ω) : Option Ω := evCode CKMP (spE (C := CKMP) [asm_Text.n] [strings_Builder_WriteString.n, strings_Builder_String.n]) (asm_Print.F fuel) (pCo c Tryz.f5) env L k
def asm_Print.E0 (e3_1 : (List T_s36)) (e3_2 : Int) (s3 : Int × ByteArray) : List AV := (dZ 4 ((.ref 0 []) :: dZ 4 ((.v (.slice E_s36) (e3_1)) :: (.v (.int .i64) (e3_2)) :: (.v (.int .i64) (s3.1)) :: dZ 16 ([]))))
def asm_Print.H0 (e3_1 : (List T_s36)) (e3_2 : Int) (s3 : Int × ByteArray) : Heap := [(.obj (.bld 43 5 s3.2))]
noncomputable def asm_Print.M0 {Ω : Type} (fuel : Nat) (e3_1 : (List T_s36)) (e3_2 : Int)  (k : AV → Option Ω) (m : Nat) (s : Int × ByteArray) : Option Ω := loopK (asm_Print.V fuel 75) (mB 28 268431855) [] 1 (blockK 0 (sqK (asm_Print.V fuel 15) (finK CKMP Tryz.f5 k))) m ((asm_Print.E0 e3_1 e3_2) s) ((asm_Print.H0 e3_1 e3_2) s)
def asm_Print.b0 {Ω : Type} (e3_1 : (List T_s36)) (e3_2 : Int)   (k : ByteArray × Int → Option Ω) (r3 : Int × ByteArray → Option Ω) (s3 : Int × ByteArray) : Option Ω :=
 bif (decide (s3.1 < e3_2)) then
  bif (idxOK s3.1 (List.length e3_1)) then
   (asm_Text.u ((List.getD e3_1 (Int.toNat s3.1) (0, (0, (0, (0, ()))))))).bind fun y1 =>
   bif (y1.2 != 0) then
    k ((bs []), y1.2)
   else
    bif (decide ((y1.1).size + ((bs [10])).size ≤ catMax)) then
     bif (decide (ByteArray.size s3.2 + ByteArray.size (y1.1 ++ (bs [10])) ≤ rowMax)) then
      r3 ((IntKind.wrap .i64 (s3.1 + 1)), (s3.2 ++ (y1.1 ++ (bs [10]))))
     else
      none
    else
     none
  else
   none
 else
  k (s3.2, 0)
theorem asm_Print.l0 {Ω : Type} (fuel : Nat) (e3_1 : (List T_s36)) (e3_2 : Int)  (k : AV → Option Ω) : ∀ m, (asm_Print.M0 fuel e3_1 e3_2  k m) = iter (asm_Print.b0 e3_1 e3_2  (fun r => k (tupAV .str [(.int .i64)] r))) m :=
 loopK_iter (envOf := (asm_Print.E0 e3_1 e3_2)) (LOf := (asm_Print.H0 e3_1 e3_2)) (B := asm_Print.b0 e3_1 e3_2  (fun r => k (tupAV .str [(.int .i64)] r))) (fun R s => by kernel_rfl)
def asm_Print.sl {Ω : Type} (x0 : (List T_s36)) (lp0 : (List T_s36) → Int → Int × ByteArray → Option Ω) (k : ByteArray × Int → Option Ω) : Option Ω :=
 lp0 x0 (((List.length x0 : Nat) : Int)) (0, (bs []))
def asm_Print.g0 {Ω : Type} (e3_1 : (List T_s36))  (k : ByteArray × Int → Option Ω) : List T_s36 → ByteArray → Option Ω
  | [], a3_1 =>
  k (a3_1, 0)
  | x3 :: xs3, a3_1 =>
  (asm_Text.u (x3)).bind fun y1 =>
  bif (y1.2 != 0) then
   k ((bs []), y1.2)
  else
   bif (decide ((y1.1).size + ((bs [10])).size ≤ catMax)) then
    bif (decide (ByteArray.size a3_1 + ByteArray.size (y1.1 ++ (bs [10])) ≤ rowMax)) then
     asm_Print.g0 e3_1  k xs3 ((a3_1 ++ (y1.1 ++ (bs [10]))))
    else
     none
   else
    none
theorem asm_Print.h0 {Ω : Type} (e3_1 : (List T_s36))   (k : ByteArray × Int → Option Ω) (hX : ((List.length e3_1 : Nat) : Int) ≤ 9223372036854775807) : ∀ (m : Nat) (i : Int) (a : ByteArray), 0 ≤ i → i ≤ ((List.length e3_1 : Nat) : Int) → ((List.length e3_1 : Nat) : Int) < m + i → Le (asm_Print.g0 e3_1  k (List.drop (Int.toNat i) e3_1) a) (iter (asm_Print.b0 e3_1 (((List.length e3_1 : Nat) : Int))  k) m (i, a)) :=
  iter_list e3_1 (0, (0, (0, (0, ())))) (fun (i3 : Int) (a3 : ByteArray) => (i3, a3)) (fun xs i3 a3 => asm_Print.g0 e3_1  k xs a3) (asm_Print.b0 e3_1 (((List.length e3_1 : Nat) : Int))  k)
    (fun i3 a3 r h0 => (Le.fls h0 (Le.refl _)))
    (fun i3 xs3 a3 r h0 h1 hw ih => (Le.tru h0 (Le.tru h1 (Le.bnd fun y1 => (Le.cond (Le.refl _) (Le.cond (Le.cond (ih _ hw ((a3 ++ (y1.1 ++ (bs [10]))))) Le.nil) Le.nil))))))
    hX
def asm_Print.w {Ω : Type} (x0 : (List T_s36)) (k : ByteArray × Int → Option Ω) : Option Ω :=
 bif decide (((List.length x0 : Nat) : Int) ≤ 4611686018427387904) then asm_Print.g0 x0  k x0 (bs []) else none
theorem asm_Print.ev {Ω : Type} (fuel : Nat) (x0 : (List T_s36)) (k : AV → Option Ω) : evFn CKMP (spE (C := CKMP) [asm_Text.n] [strings_Builder_WriteString.n, strings_Builder_String.n]) (asm_Print.F fuel) Tryz.f5 (Tryz.f5.body.getD .skip) [(.v (.slice E_s36) (x0))] k = asm_Print.sl x0 (fun e3_1 e3_2 => (asm_Print.M0 fuel e3_1 e3_2  k fuel)) (fun r => k (tupAV .str [(.int .i64)] r)) := by kernel_rfl
theorem asm_Print.le {Ω : Type} (x0 : (List T_s36)) (k : AV → Option Ω) : Le (asm_Print.w x0 (fun r => k (tupAV .str [(.int .i64)] r))) (asm_Print.sl x0 (fun e3_1 e3_2 => (asm_Print.M0 BIG e3_1 e3_2  k BIG)) (fun r => k (tupAV .str [(.int .i64)] r))) := by
 have h1 := funext fun (e3_1 : (List T_s36)) => funext fun (e3_2 : Int) => asm_Print.l0 BIG e3_1 e3_2   k BIG
 rw [h1]
 delta asm_Print.w asm_Print.sl
 exact (Le.gd fun hg => asm_Print.h0 _   _ (le_up (of_decide_eq_true hg)) BIG 0 ((bs [])) (by decide) (zero_le_len _) (big_list (of_decide_eq_true hg)))
def asm_Print.u (x0 : (List T_s36)) : Option (ByteArray × Int) := asm_Print.w x0 some
noncomputable def asm_Print.n : En CKMP := mkE CKMP_ok (es := [asm_Text.n]) (ms := [strings_Builder_WriteString.n, strings_Builder_String.n]) (fuel := (asm_Print.F BIG)) 5 Tryz.f5 [.ai (.slice E_s36)] .str [(.int .i64)] (fun x {Ω} k => asm_Print.w x.1 k) (fun x Ω k => leV (asm_Print.ev BIG x.1 k) (asm_Print.le x.1 k)) (by kernel_rfl) (by kernel_rfl)

def ref11_Same.F (fuel : Nat) : Fuel := ⟨fuel, fun r => bif r == 4 then mL 0 26 67108828 else []⟩
noncomputable def ref11_Same.V {Ω : Type} (fuel c : Nat) (env : List AV) (L : Heap) (k : Kont Ω) : Option Ω := evCode CKMP (spE (C := CKMP) [] []) (ref11_Same.F fuel) (pCo c Tryz.f9) env L k
def ref11_Same.E0 (e4_1 : (List T_s36)) (e4_2 : (List T_s36)) (s4 : Int) : List AV := ((.v (.slice E_s36) (e4_1)) :: (.v (.slice E_s36) (e4_2)) :: dZ 3 ((.v (.int .i64) (s4)) :: dZ 20 ([])))
def ref11_Same.H0 (e4_1 : (List T_s36)) (e4_2 : (List T_s36)) (s4 : Int) : Heap := []
noncomputable def ref11_Same.M0 {Ω : Type} (fuel : Nat) (e4_1 : (List T_s36)) (e4_2 : (List T_s36))  (k : AV → Option Ω) (m : Nat) (s : Int) : Option Ω := loopK (ref11_Same.V fuel 75) (mB 26 67108828) [] 0 (blockK 0 (sqK (ref11_Same.V fuel 15) (finK CKMP Tryz.f9 k))) m ((ref11_Same.E0 e4_1 e4_2) s) ((ref11_Same.H0 e4_1 e4_2) s)
def ref11_Same.b0 {Ω : Type} (e4_1 : (List T_s36)) (e4_2 : (List T_s36))   (k : Bool → Option Ω) (r4 : Int → Option Ω) (s4 : Int) : Option Ω :=
 bif (decide (s4 < ((List.length e4_1 : Nat) : Int))) then
  bif (idxOK s4 (List.length e4_1)) then
   bif (idxOK s4 (List.length e4_2)) then
    let v1 : Bool := (!(eqI E_s36 (List.getD e4_1 (Int.toNat s4) (0, (0, (0, (0, ()))))) (List.getD e4_2 (Int.toNat s4) (0, (0, (0, (0, ())))))))
    bif v1 then
     k false
    else
     r4 ((IntKind.wrap .i64 (s4 + 1)))
   else
    none
  else
   none
 else
  k true
theorem ref11_Same.l0 {Ω : Type} (fuel : Nat) (e4_1 : (List T_s36)) (e4_2 : (List T_s36))  (k : AV → Option Ω) : ∀ m, (ref11_Same.M0 fuel e4_1 e4_2  k m) = iter (ref11_Same.b0 e4_1 e4_2  (fun r => k (tupAV .bool [] r))) m :=
 loopK_iter (envOf := (ref11_Same.E0 e4_1 e4_2)) (LOf := (ref11_Same.H0 e4_1 e4_2)) (B := ref11_Same.b0 e4_1 e4_2  (fun r => k (tupAV .bool [] r))) (fun R s => by kernel_rfl)
def ref11_Same.sl {Ω : Type} (x0 : (List T_s36)) (x1 : (List T_s36)) (lp0 : (List T_s36) → (List T_s36) → Int → Option Ω) (k : Bool → Option Ω) : Option Ω :=
 bif (((List.length x0 : Nat) : Int) != ((List.length x1 : Nat) : Int)) then
  k false
 else
  lp0 x0 x1 (0)
def ref11_Same.g0 {Ω : Type} (e4_1 : (List T_s36)) (e4_2 : (List T_s36))  (k : Bool → Option Ω) : List T_s36 → Int → Option Ω
  | [], i4 =>
  k true
  | x4 :: xs4, i4 =>
  bif (idxOK i4 (List.length e4_2)) then
   let v1 : Bool := (!(eqI E_s36 x4 (List.getD e4_2 (Int.toNat i4) (0, (0, (0, (0, ())))))))
   bif v1 then
    k false
   else
    ref11_Same.g0 e4_1 e4_2  k xs4 (i4 + 1)
  else
   none
theorem ref11_Same.h0 {Ω : Type} (e4_1 : (List T_s36)) (e4_2 : (List T_s36))   (k : Bool → Option Ω) (hX : ((List.length e4_1 : Nat) : Int) ≤ 9223372036854775807) : ∀ (m : Nat) (i : Int) (a : Unit), 0 ≤ i → i ≤ ((List.length e4_1 : Nat) : Int) → ((List.length e4_1 : Nat) : Int) < m + i → Le (ref11_Same.g0 e4_1 e4_2  k (List.drop (Int.toNat i) e4_1) i) (iter (ref11_Same.b0 e4_1 e4_2  k) m (i)) :=
  iter_list e4_1 (0, (0, (0, (0, ())))) (fun (i4 : Int) (a4 : Unit) => (i4)) (fun xs i4 a4 => ref11_Same.g0 e4_1 e4_2  k xs i4) (ref11_Same.b0 e4_1 e4_2  k)
    (fun i4 a4 r h0 => (Le.fls h0 (Le.refl _)))
    (fun i4 xs4 a4 r h0 h1 hw ih => (Le.tru h0 (Le.tru h1 (Le.cond (let v1 : Bool := (!(eqI E_s36 (List.getD e4_1 (Int.toNat i4) (0, (0, (0, (0, ()))))) (List.getD e4_2 (Int.toNat i4) (0, (0, (0, (0, ()))))))); (Le.cond (Le.refl _) (ih _ hw ()))) Le.nil))))
    hX
def ref11_Same.w {Ω : Type} (x0 : (List T_s36)) (x1 : (List T_s36)) (k : Bool → Option Ω) : Option Ω :=
 bif (((List.length x0 : Nat) : Int) != ((List.length x1 : Nat) : Int)) then
  k false
 else
  bif decide (((List.length x0 : Nat) : Int) ≤ 4611686018427387904) then ref11_Same.g0 x0 x1  k x0 0 else none
theorem ref11_Same.ev {Ω : Type} (fuel : Nat) (x0 : (List T_s36)) (x1 : (List T_s36)) (k : AV → Option Ω) : evFn CKMP (spE (C := CKMP) [] []) (ref11_Same.F fuel) Tryz.f9 (Tryz.f9.body.getD .skip) [(.v (.slice E_s36) (x0)), (.v (.slice E_s36) (x1))] k = ref11_Same.sl x0 x1 (fun e4_1 e4_2 => (ref11_Same.M0 fuel e4_1 e4_2  k fuel)) (fun r => k (tupAV .bool [] r)) := by kernel_rfl
theorem ref11_Same.le {Ω : Type} (x0 : (List T_s36)) (x1 : (List T_s36)) (k : AV → Option Ω) : Le (ref11_Same.w x0 x1 (fun r => k (tupAV .bool [] r))) (ref11_Same.sl x0 x1 (fun e4_1 e4_2 => (ref11_Same.M0 BIG e4_1 e4_2  k BIG)) (fun r => k (tupAV .bool [] r))) := by
 have h1 := funext fun (e4_1 : (List T_s36)) => funext fun (e4_2 : (List T_s36)) => ref11_Same.l0 BIG e4_1 e4_2   k BIG
 rw [h1]
 delta ref11_Same.w ref11_Same.sl
 exact (Le.cond (Le.refl _) (Le.gd fun hg => ref11_Same.h0 _ _   _ (le_up (of_decide_eq_true hg)) BIG 0 () (by decide) (zero_le_len _) (big_list (of_decide_eq_true hg))))
def ref11_Same.u (x0 : (List T_s36)) (x1 : (List T_s36)) : Option (Bool) := ref11_Same.w x0 x1 some
noncomputable def ref11_Same.n : En CKMP := mkE CKMP_ok (es := []) (ms := []) (fuel := (ref11_Same.F BIG)) 9 Tryz.f9 [.ai (.slice E_s36), .ai (.slice E_s36)] .bool [] (fun x {Ω} k => ref11_Same.w x.1 x.2.1 k) (fun x Ω k => leV (ref11_Same.ev BIG x.1 x.2.1 k) (ref11_Same.le x.1 x.2.1 k)) (by kernel_rfl) (by kernel_rfl)

def asm_way.F (fuel : Nat) : Fuel := ⟨fuel, fun r => bif r == 2 then mL 0 16 65342 else []⟩
noncomputable def asm_way.V {Ω : Type} (fuel c : Nat) (env : List AV) (L : Heap) (k : Kont Ω) : Option Ω := evCode CKMP (spE (C := CKMP) [asm_ways.n] []) (asm_way.F fuel) (pCo c Tryz.f49) env L k
def asm_way.E0 (e2_1 : ByteArray) (e2_2 : (List ByteArray)) (s2 : Int) : List AV := ((.v .str (e2_1)) :: dZ 5 ((.v (.arr 3 .str) (e2_2)) :: (.v (.int .i64) (s2)) :: dZ 8 ([])))
def asm_way.H0 (e2_1 : ByteArray) (e2_2 : (List ByteArray)) (s2 : Int) : Heap := []
noncomputable def asm_way.M0 {Ω : Type} (fuel : Nat) (e2_1 : ByteArray) (e2_2 : (List ByteArray))  (k : AV → Option Ω) (m : Nat) (s : Int) : Option Ω := loopK (asm_way.V fuel 37) (mB 16 65342) [] 0 (blockK 0 (sqK (asm_way.V fuel 7) (finK CKMP Tryz.f49 k))) m ((asm_way.E0 e2_1 e2_2) s) ((asm_way.H0 e2_1 e2_2) s)
def asm_way.b0 {Ω : Type} (e2_1 : ByteArray) (e2_2 : (List ByteArray))   (k : Int × Int → Option Ω) (r2 : Int → Option Ω) (s2 : Int) : Option Ω :=
 bif (decide (s2 < 3)) then
  bif (idxOK s2 3) then
   bif (((List.getD e2_2 (Int.toNat s2) (bs []))).data.toList == (e2_1).data.toList) then
    k (s2, 0)
   else
    r2 ((IntKind.wrap .i64 (s2 + 1)))
  else
   none
 else
  k (0, 3)
theorem asm_way.l0 {Ω : Type} (fuel : Nat) (e2_1 : ByteArray) (e2_2 : (List ByteArray))  (k : AV → Option Ω) : ∀ m, (asm_way.M0 fuel e2_1 e2_2  k m) = iter (asm_way.b0 e2_1 e2_2  (fun r => k (tupAV (.int .i64) [(.int .i64)] r))) m :=
 loopK_iter (envOf := (asm_way.E0 e2_1 e2_2)) (LOf := (asm_way.H0 e2_1 e2_2)) (B := asm_way.b0 e2_1 e2_2  (fun r => k (tupAV (.int .i64) [(.int .i64)] r))) (fun R s => by kernel_rfl)
def asm_way.sl {Ω : Type} (x0 : ByteArray) (lp0 : ByteArray → (List ByteArray) → Int → Option Ω) (k : Int × Int → Option Ω) : Option Ω :=
 lp0 x0 asm_ways.t (0)
def asm_way.g0 {Ω : Type} (e2_1 : ByteArray) (e2_2 : (List ByteArray))  (k : Int × Int → Option Ω) : Nat → Int → Option Ω
  | 0, i2 =>
  k (0, 3)
  | d2 + 1, i2 =>
  bif (idxOK i2 3) then
   bif (((List.getD e2_2 (Int.toNat i2) (bs []))).data.toList == (e2_1).data.toList) then
    k (i2, 0)
   else
    asm_way.g0 e2_1 e2_2  k d2 (i2 + 1)
  else
   none
theorem asm_way.h0 {Ω : Type} (e2_1 : ByteArray) (e2_2 : (List ByteArray))   (k : Int × Int → Option Ω) (hN : (3 : Int) ≤ 9223372036854775807) : ∀ (m : Nat) (i : Int) (a : Unit), -9223372036854775808 ≤ i → Int.toNat ((3 : Int) - i) < m → Le (asm_way.g0 e2_1 e2_2  k (Int.toNat ((3 : Int) - i)) i) (iter (asm_way.b0 e2_1 e2_2  k) m (i)) :=
  iter_count (3 : Int) (fun i2 => (decide (i2 < 3))) (fun i => rfl) (fun (i2 : Int) (a2 : Unit) => (i2)) (fun xs i2 a2 => asm_way.g0 e2_1 e2_2  k xs i2) (asm_way.b0 e2_1 e2_2  k)
    (fun i2 a2 r h0 => (Le.fls h0 (Le.refl _)))
    (fun i2 d2 a2 r h0 hw ih => (Le.tru h0 (Le.cond (Le.cond (Le.refl _) (ih _ hw ())) Le.nil)))
    hN
def asm_way.w {Ω : Type} (x0 : ByteArray) (k : Int × Int → Option Ω) : Option Ω :=
 asm_way.g0 x0 asm_ways.t  k ((Int.toNat ((3 : Int) - 0))) 0
theorem asm_way.ev {Ω : Type} (fuel : Nat) (x0 : ByteArray) (k : AV → Option Ω) : evFn CKMP (spE (C := CKMP) [asm_ways.n] []) (asm_way.F fuel) Tryz.f49 (Tryz.f49.body.getD .skip) [(.v .str (x0))] k = asm_way.sl x0 (fun e2_1 e2_2 => (asm_way.M0 fuel e2_1 e2_2  k fuel)) (fun r => k (tupAV (.int .i64) [(.int .i64)] r)) := by kernel_rfl
theorem asm_way.le {Ω : Type} (x0 : ByteArray) (k : AV → Option Ω) : Le (asm_way.w x0 (fun r => k (tupAV (.int .i64) [(.int .i64)] r))) (asm_way.sl x0 (fun e2_1 e2_2 => (asm_way.M0 BIG e2_1 e2_2  k BIG)) (fun r => k (tupAV (.int .i64) [(.int .i64)] r))) := by
 have h1 := funext fun (e2_1 : ByteArray) => funext fun (e2_2 : (List ByteArray)) => asm_way.l0 BIG e2_1 e2_2   k BIG
 rw [h1]
 delta asm_way.w asm_way.sl
 exact (asm_way.h0 _ _   _ (by decide) BIG 0 () (by decide) (by decide))
def asm_way.u (x0 : ByteArray) : Option (Int × Int) := asm_way.w x0 some
noncomputable def asm_way.n : En CKMP := mkE CKMP_ok (es := [asm_ways.n]) (ms := []) (fuel := (asm_way.F BIG)) 49 Tryz.f49 [.ai .str] (.int .i64) [(.int .i64)] (fun x {Ω} k => asm_way.w x.1 k) (fun x Ω k => leV (asm_way.ev BIG x.1 k) (asm_way.le x.1 k)) (by kernel_rfl) (by kernel_rfl)

def strings_HasPrefix.s {Ω : Type} (x0 : ByteArray) (x1 : ByteArray) (k : Bool → Option Ω) : Option Ω :=
  (internal_stringslite_HasPrefix.u x0 x1).bind fun y1 =>
  k y1
def strings_HasPrefix.u (x0 : ByteArray) (x1 : ByteArray) : Option (Bool) := strings_HasPrefix.s x0 x1 some
noncomputable def strings_HasPrefix.n : En CKMP := mkE CKMP_ok (es := [internal_stringslite_HasPrefix.n]) (ms := []) (fuel := ⟨1, fun _ => []⟩) 68 Tryz.f68 [.ai .str, .ai .str] .bool [] (fun x {Ω} k => strings_HasPrefix.s x.1 x.2.1 k) (fun x Ω k => Le.of (by kernel_rfl)) (by kernel_rfl) (by kernel_rfl)

def asm_plain.s {Ω : Type} (x0 : ByteArray) (x1 : ByteArray) (k : Int × Int → Option Ω) : Option Ω :=
  (strings_CutPrefix.u x0 x1).bind fun y1 =>
  bif (!y1.2) then
    k (0, 3)
  else
    (strings_HasPrefix.u y1.1 (bs [45])).bind fun y2 =>
    bif y2 then
      k (0, 3)
    else
      (word_Parse.u y1.1).bind fun y3 =>
      bif (y3.2 != 0) then
        k (0, y3.2)
      else
        bif (decide (y3.1 > 255)) then
          k (0, 8)
        else
          k (y3.1, 0)
def asm_plain.u (x0 : ByteArray) (x1 : ByteArray) : Option (Int × Int) := asm_plain.s x0 x1 some
noncomputable def asm_plain.n : En CKMP := mkE CKMP_ok (es := [word_Parse.n, strings_CutPrefix.n, strings_HasPrefix.n]) (ms := []) (fuel := ⟨1, fun _ => []⟩) 50 Tryz.f50 [.ai .str, .ai .str] (.int .i64) [(.int .i64)] (fun x {Ω} k => asm_plain.s x.1 x.2.1 k) (fun x Ω k => Le.of (by kernel_rfl)) (by kernel_rfl) (by kernel_rfl)

def strings_IndexByte.s {Ω : Type} (x0 : ByteArray) (x1 : Int) (k : Int → Option Ω) : Option Ω :=
  k (internal_stringslite_IndexByte.t x0 x1)
def strings_IndexByte.t (x0 : ByteArray) (x1 : Int) : Int :=
  (internal_stringslite_IndexByte.t x0 x1)
theorem strings_IndexByte.v {Ω : Type} (x0 : ByteArray) (x1 : Int) (k : Int → Option Ω) : strings_IndexByte.s x0 x1 k = k (strings_IndexByte.t x0 x1) := by
  delta strings_IndexByte.s strings_IndexByte.t; exact rfl
noncomputable def strings_IndexByte.n : En CKMP := mkT CKMP_ok (es := [internal_stringslite_IndexByte.n]) (ms := []) (fuel := ⟨1, fun _ => []⟩) 51 Tryz.f51 [.ai .str, .ai (.int .u8)] (.int .i64) [] (fun x {Ω} k => strings_IndexByte.s x.1 x.2.1 k) (fun x => strings_IndexByte.t x.1 x.2.1) (fun x Ω k => by kernel_rfl) (fun x => strings_IndexByte.v x.1 x.2.1 some) (by kernel_rfl) (by kernel_rfl)

noncomputable def walk22_0 : Me CKMP := Me.walk CKMP_ok [] [] 22 Tryz.f22 (by kernel_rfl) (by kernel_rfl)
noncomputable def walk48_1 : Me CKMP := Me.walk CKMP_ok [word_Parse.n] [] 48 Tryz.f48 (by kernel_rfl) (by kernel_rfl)
def asm_reader_one.s {Ω : Type} (x1 : Int) (x2 : Int) (h0 : T_s36) (h1 : T_s62) (h2 : (List ByteArray)) (k : Int → (T_s36 × T_s62 × (List ByteArray) × Unit) → Option Ω) : Option Ω :=
  bif (x1 == 103) then
    bif (((List.length h1.1 : Nat) : Int) == 0) then
      bif (idxOK x2 3) then
        k 0 (h0, (h1.1, ((List.set h1.2.1 (Int.toNat x2) 8), h1.2.2)), h2, ())
      else
        none
    else
      bif (((List.length h1.1 : Nat) : Int) == 0) then
        bif (x1 == 103) then
          k 4 (h0, h1, h2, ())
        else
          k 4 (h0, h1, h2, ())
      else
        bif (idxOK 0 (List.length h1.1)) then
          bif (subC (some (1)) none (List.length h1.1)) then
            bif (x1 == 103) then
              bif (!(((List.getD h1.1 0 (bs []))).data.toList == ((bs [105, 102])).data.toList)) then
                k 3 (h0, ((subL (some (1)) none h1.1), h1.2), h2, ())
              else
                bif (((List.length (subL (some (1)) none h1.1) : Nat) : Int) == 0) then
                  k 4 (h0, ((subL (some (1)) none h1.1), h1.2), h2, ())
                else
                  bif (idxOK 0 (List.length (subL (some (1)) none h1.1))) then
                    bif (subC (some (1)) none (List.length (subL (some (1)) none h1.1))) then
                      bif (x1 == 105) then
                        (word_Parse.u ((List.getD (subL (some (1)) none h1.1) 0 (bs [])))).bind fun y1 =>
                        bif (y1.2 != 0) then
                          k y1.2 (h0, ((subL (some (1)) none (subL (some (1)) none h1.1)), h1.2), h2, ())
                        else
                          bif (decide (y1.1 < (-32768))) then
                            k 8 (h0, ((subL (some (1)) none (subL (some (1)) none h1.1)), h1.2), h2, ())
                          else
                            bif (decide (y1.1 > 32767)) then
                              k 8 (h0, ((subL (some (1)) none (subL (some (1)) none h1.1)), h1.2), h2, ())
                            else
                              let v2 : Int := (IntKind.wrap .i64 (Int.fdiv (IntKind.wrap .u16 y1.1) (2 ^ (min (Int.toNat 8) (IntKind.bits .u16)))))
                              bif (idxOK x2 3) then
                                bif (idxOK (IntKind.wrap .i64 (x2 + 1)) 3) then
                                  k 0 (h0, ((subL (some (1)) none (subL (some (1)) none h1.1)), ((List.set (List.set h1.2.1 (Int.toNat x2) v2) (Int.toNat (IntKind.wrap .i64 (x2 + 1))) (IntKind.wrap .i64 (IntKind.wrap .u8 y1.1))), h1.2.2)), h2, ())
                                else
                                  none
                              else
                                none
                      else
                        bif (x1 == 109) then
                          (asm_way.u ((List.getD (subL (some (1)) none h1.1) 0 (bs [])))).bind fun y3 =>
                          bif (idxOK x2 3) then
                            k y3.2 (h0, ((subL (some (1)) none (subL (some (1)) none h1.1)), ((List.set h1.2.1 (Int.toNat x2) y3.1), h1.2.2)), h2, ())
                          else
                            none
                        else
                          bif (x1 == 116) then
                            (asm_plain.u ((List.getD (subL (some (1)) none h1.1) 0 (bs []))) (bs [64])).bind fun y4 =>
                            bif (idxOK x2 3) then
                              k y4.2 (h0, ((subL (some (1)) none (subL (some (1)) none h1.1)), ((List.set h1.2.1 (Int.toNat x2) y4.1), h1.2.2)), h2, ())
                            else
                              none
                          else
                            bif (x1 == 103) then
                              (asm_plain.u ((List.getD (subL (some (1)) none h1.1) 0 (bs []))) (bs [114])).bind fun y5 =>
                              bif (idxOK x2 3) then
                                k y5.2 (h0, ((subL (some (1)) none (subL (some (1)) none h1.1)), ((List.set h1.2.1 (Int.toNat x2) y5.1), h1.2.2)), h2, ())
                              else
                                none
                            else
                              bif (decide ((strings_IndexByte.t (bs [114, 99, 98, 107, 112]) x1) ≥ 0)) then
                                (asm_plain.u ((List.getD (subL (some (1)) none h1.1) 0 (bs []))) (Utf8.encode x1)).bind fun y6 =>
                                bif (idxOK x2 3) then
                                  k y6.2 (h0, ((subL (some (1)) none (subL (some (1)) none h1.1)), ((List.set h1.2.1 (Int.toNat x2) y6.1), h1.2.2)), h2, ())
                                else
                                  none
                              else
                                (asm_plain.u ((List.getD (subL (some (1)) none h1.1) 0 (bs []))) (bs [])).bind fun y7 =>
                                bif (idxOK x2 3) then
                                  k y7.2 (h0, ((subL (some (1)) none (subL (some (1)) none h1.1)), ((List.set h1.2.1 (Int.toNat x2) y7.1), h1.2.2)), h2, ())
                                else
                                  none
                    else
                      none
                  else
                    none
            else
              bif (x1 == 105) then
                (word_Parse.u ((List.getD h1.1 0 (bs [])))).bind fun y8 =>
                bif (y8.2 != 0) then
                  k y8.2 (h0, ((subL (some (1)) none h1.1), h1.2), h2, ())
                else
                  bif (decide (y8.1 < (-32768))) then
                    k 8 (h0, ((subL (some (1)) none h1.1), h1.2), h2, ())
                  else
                    bif (decide (y8.1 > 32767)) then
                      k 8 (h0, ((subL (some (1)) none h1.1), h1.2), h2, ())
                    else
                      let v9 : Int := (IntKind.wrap .i64 (Int.fdiv (IntKind.wrap .u16 y8.1) (2 ^ (min (Int.toNat 8) (IntKind.bits .u16)))))
                      bif (idxOK x2 3) then
                        bif (idxOK (IntKind.wrap .i64 (x2 + 1)) 3) then
                          k 0 (h0, ((subL (some (1)) none h1.1), ((List.set (List.set h1.2.1 (Int.toNat x2) v9) (Int.toNat (IntKind.wrap .i64 (x2 + 1))) (IntKind.wrap .i64 (IntKind.wrap .u8 y8.1))), h1.2.2)), h2, ())
                        else
                          none
                      else
                        none
              else
                bif (x1 == 109) then
                  (asm_way.u ((List.getD h1.1 0 (bs [])))).bind fun y10 =>
                  bif (idxOK x2 3) then
                    k y10.2 (h0, ((subL (some (1)) none h1.1), ((List.set h1.2.1 (Int.toNat x2) y10.1), h1.2.2)), h2, ())
                  else
                    none
                else
                  bif (x1 == 116) then
                    (asm_plain.u ((List.getD h1.1 0 (bs []))) (bs [64])).bind fun y11 =>
                    bif (idxOK x2 3) then
                      k y11.2 (h0, ((subL (some (1)) none h1.1), ((List.set h1.2.1 (Int.toNat x2) y11.1), h1.2.2)), h2, ())
                    else
                      none
                  else
                    bif (x1 == 103) then
                      (asm_plain.u ((List.getD h1.1 0 (bs []))) (bs [114])).bind fun y12 =>
                      bif (idxOK x2 3) then
                        k y12.2 (h0, ((subL (some (1)) none h1.1), ((List.set h1.2.1 (Int.toNat x2) y12.1), h1.2.2)), h2, ())
                      else
                        none
                    else
                      bif (decide ((strings_IndexByte.t (bs [114, 99, 98, 107, 112]) x1) ≥ 0)) then
                        (asm_plain.u ((List.getD h1.1 0 (bs []))) (Utf8.encode x1)).bind fun y13 =>
                        bif (idxOK x2 3) then
                          k y13.2 (h0, ((subL (some (1)) none h1.1), ((List.set h1.2.1 (Int.toNat x2) y13.1), h1.2.2)), h2, ())
                        else
                          none
                      else
                        (asm_plain.u ((List.getD h1.1 0 (bs []))) (bs [])).bind fun y14 =>
                        bif (idxOK x2 3) then
                          k y14.2 (h0, ((subL (some (1)) none h1.1), ((List.set h1.2.1 (Int.toNat x2) y14.1), h1.2.2)), h2, ())
                        else
                          none
          else
            none
        else
          none
  else
    bif (((List.length h1.1 : Nat) : Int) == 0) then
      bif (x1 == 103) then
        k 4 (h0, h1, h2, ())
      else
        k 4 (h0, h1, h2, ())
    else
      bif (idxOK 0 (List.length h1.1)) then
        bif (subC (some (1)) none (List.length h1.1)) then
          bif (x1 == 103) then
            bif (!(((List.getD h1.1 0 (bs []))).data.toList == ((bs [105, 102])).data.toList)) then
              k 3 (h0, ((subL (some (1)) none h1.1), h1.2), h2, ())
            else
              bif (((List.length (subL (some (1)) none h1.1) : Nat) : Int) == 0) then
                k 4 (h0, ((subL (some (1)) none h1.1), h1.2), h2, ())
              else
                bif (idxOK 0 (List.length (subL (some (1)) none h1.1))) then
                  bif (subC (some (1)) none (List.length (subL (some (1)) none h1.1))) then
                    bif (x1 == 105) then
                      (word_Parse.u ((List.getD (subL (some (1)) none h1.1) 0 (bs [])))).bind fun y15 =>
                      bif (y15.2 != 0) then
                        k y15.2 (h0, ((subL (some (1)) none (subL (some (1)) none h1.1)), h1.2), h2, ())
                      else
                        bif (decide (y15.1 < (-32768))) then
                          k 8 (h0, ((subL (some (1)) none (subL (some (1)) none h1.1)), h1.2), h2, ())
                        else
                          bif (decide (y15.1 > 32767)) then
                            k 8 (h0, ((subL (some (1)) none (subL (some (1)) none h1.1)), h1.2), h2, ())
                          else
                            let v16 : Int := (IntKind.wrap .i64 (Int.fdiv (IntKind.wrap .u16 y15.1) (2 ^ (min (Int.toNat 8) (IntKind.bits .u16)))))
                            bif (idxOK x2 3) then
                              bif (idxOK (IntKind.wrap .i64 (x2 + 1)) 3) then
                                k 0 (h0, ((subL (some (1)) none (subL (some (1)) none h1.1)), ((List.set (List.set h1.2.1 (Int.toNat x2) v16) (Int.toNat (IntKind.wrap .i64 (x2 + 1))) (IntKind.wrap .i64 (IntKind.wrap .u8 y15.1))), h1.2.2)), h2, ())
                              else
                                none
                            else
                              none
                    else
                      bif (x1 == 109) then
                        (asm_way.u ((List.getD (subL (some (1)) none h1.1) 0 (bs [])))).bind fun y17 =>
                        bif (idxOK x2 3) then
                          k y17.2 (h0, ((subL (some (1)) none (subL (some (1)) none h1.1)), ((List.set h1.2.1 (Int.toNat x2) y17.1), h1.2.2)), h2, ())
                        else
                          none
                      else
                        bif (x1 == 116) then
                          (asm_plain.u ((List.getD (subL (some (1)) none h1.1) 0 (bs []))) (bs [64])).bind fun y18 =>
                          bif (idxOK x2 3) then
                            k y18.2 (h0, ((subL (some (1)) none (subL (some (1)) none h1.1)), ((List.set h1.2.1 (Int.toNat x2) y18.1), h1.2.2)), h2, ())
                          else
                            none
                        else
                          bif (x1 == 103) then
                            (asm_plain.u ((List.getD (subL (some (1)) none h1.1) 0 (bs []))) (bs [114])).bind fun y19 =>
                            bif (idxOK x2 3) then
                              k y19.2 (h0, ((subL (some (1)) none (subL (some (1)) none h1.1)), ((List.set h1.2.1 (Int.toNat x2) y19.1), h1.2.2)), h2, ())
                            else
                              none
                          else
                            bif (decide ((strings_IndexByte.t (bs [114, 99, 98, 107, 112]) x1) ≥ 0)) then
                              (asm_plain.u ((List.getD (subL (some (1)) none h1.1) 0 (bs []))) (Utf8.encode x1)).bind fun y20 =>
                              bif (idxOK x2 3) then
                                k y20.2 (h0, ((subL (some (1)) none (subL (some (1)) none h1.1)), ((List.set h1.2.1 (Int.toNat x2) y20.1), h1.2.2)), h2, ())
                              else
                                none
                            else
                              (asm_plain.u ((List.getD (subL (some (1)) none h1.1) 0 (bs []))) (bs [])).bind fun y21 =>
                              bif (idxOK x2 3) then
                                k y21.2 (h0, ((subL (some (1)) none (subL (some (1)) none h1.1)), ((List.set h1.2.1 (Int.toNat x2) y21.1), h1.2.2)), h2, ())
                              else
                                none
                  else
                    none
                else
                  none
          else
            bif (x1 == 105) then
              (word_Parse.u ((List.getD h1.1 0 (bs [])))).bind fun y22 =>
              bif (y22.2 != 0) then
                k y22.2 (h0, ((subL (some (1)) none h1.1), h1.2), h2, ())
              else
                bif (decide (y22.1 < (-32768))) then
                  k 8 (h0, ((subL (some (1)) none h1.1), h1.2), h2, ())
                else
                  bif (decide (y22.1 > 32767)) then
                    k 8 (h0, ((subL (some (1)) none h1.1), h1.2), h2, ())
                  else
                    let v23 : Int := (IntKind.wrap .i64 (Int.fdiv (IntKind.wrap .u16 y22.1) (2 ^ (min (Int.toNat 8) (IntKind.bits .u16)))))
                    bif (idxOK x2 3) then
                      bif (idxOK (IntKind.wrap .i64 (x2 + 1)) 3) then
                        k 0 (h0, ((subL (some (1)) none h1.1), ((List.set (List.set h1.2.1 (Int.toNat x2) v23) (Int.toNat (IntKind.wrap .i64 (x2 + 1))) (IntKind.wrap .i64 (IntKind.wrap .u8 y22.1))), h1.2.2)), h2, ())
                      else
                        none
                    else
                      none
            else
              bif (x1 == 109) then
                (asm_way.u ((List.getD h1.1 0 (bs [])))).bind fun y24 =>
                bif (idxOK x2 3) then
                  k y24.2 (h0, ((subL (some (1)) none h1.1), ((List.set h1.2.1 (Int.toNat x2) y24.1), h1.2.2)), h2, ())
                else
                  none
              else
                bif (x1 == 116) then
                  (asm_plain.u ((List.getD h1.1 0 (bs []))) (bs [64])).bind fun y25 =>
                  bif (idxOK x2 3) then
                    k y25.2 (h0, ((subL (some (1)) none h1.1), ((List.set h1.2.1 (Int.toNat x2) y25.1), h1.2.2)), h2, ())
                  else
                    none
                else
                  bif (x1 == 103) then
                    (asm_plain.u ((List.getD h1.1 0 (bs []))) (bs [114])).bind fun y26 =>
                    bif (idxOK x2 3) then
                      k y26.2 (h0, ((subL (some (1)) none h1.1), ((List.set h1.2.1 (Int.toNat x2) y26.1), h1.2.2)), h2, ())
                    else
                      none
                  else
                    bif (decide ((strings_IndexByte.t (bs [114, 99, 98, 107, 112]) x1) ≥ 0)) then
                      (asm_plain.u ((List.getD h1.1 0 (bs []))) (Utf8.encode x1)).bind fun y27 =>
                      bif (idxOK x2 3) then
                        k y27.2 (h0, ((subL (some (1)) none h1.1), ((List.set h1.2.1 (Int.toNat x2) y27.1), h1.2.2)), h2, ())
                      else
                        none
                    else
                      (asm_plain.u ((List.getD h1.1 0 (bs []))) (bs [])).bind fun y28 =>
                      bif (idxOK x2 3) then
                        k y28.2 (h0, ((subL (some (1)) none h1.1), ((List.set h1.2.1 (Int.toNat x2) y28.1), h1.2.2)), h2, ())
                      else
                        none
        else
          none
      else
        none
def asm_reader_one.u (x1 : Int) (x2 : Int) (h0 : T_s36) (h1 : T_s62) (h2 : (List ByteArray)) : Option (Int × T_s36 × T_s62 × (List ByteArray) × Unit) := asm_reader_one.s x1 x2 h0 h1 h2 fun r z => some (r, z)
noncomputable def asm_reader_one.n : Me CKMP := mkM CKMP_ok (es := [asm_way.n, asm_plain.n, strings_IndexByte.n]) (ms := [walk22_0, walk48_1]) (fuel := ⟨1, fun _ => []⟩) 24 Tryz.f24 [.ar 1, .ai (.int .u8), .ai (.int .i64)] [.box E_s36, .box E_s62, .row 9 .str true] (.d (.int .i64) []) (fun x y {Ω} k => asm_reader_one.s x.2.1 x.2.2.1 y.1 y.2.1 y.2.2.1 k) (fun x y Ω k => Le.of (by kernel_rfl)) (by kernel_rfl) (by kernel_rfl)

def asm_first.F (fuel : Nat) : Fuel := ⟨fuel, fun r => bif r == 3 then mL 0 46 70368744177269 else []⟩
noncomputable def asm_first.V {Ω : Type} (fuel c : Nat) (env : List AV) (L : Heap) (k : Kont Ω) : Option Ω := evCode CKMP (spE (C := CKMP) [instr_Check.n] []) (asm_first.F fuel) (pCo c Tryz.f52) env L k
def asm_first.E0 (e3_1 : ByteArray) (e3_2 : T_s36) (s3 : Int × (List Int)) : List AV := (dZ 1 ((.v .str (e3_1)) :: dZ 1 ((.ref 0 []) :: dZ 3 ((.ref 1 []) :: (.v (.int .i64) (s3.1)) :: dZ 37 ([])))))
def asm_first.H0 (e3_1 : ByteArray) (e3_2 : T_s36) (s3 : Int × (List Int)) : Heap := [(.box E_s36 e3_2 false), (.box (.arr 3 (.int .u8)) s3.2 false)]
noncomputable def asm_first.M0 {Ω : Type} (fuel : Nat) (e3_1 : ByteArray) (e3_2 : T_s36)  (k : AV → Option Ω) (m : Nat) (s : Int × (List Int)) : Option Ω := loopK (asm_first.V fuel 75) (mB 46 70368744177269) [] 2 (blockK 0 (sqK (asm_first.V fuel 15) (finK CKMP Tryz.f52 k))) m ((asm_first.E0 e3_1 e3_2) s) ((asm_first.H0 e3_1 e3_2) s)
def asm_first.b0 {Ω : Type} (e3_1 : ByteArray) (e3_2 : T_s36)   (k : Int → Option Ω) (r3 : Int × (List Int) → Option Ω) (s3 : Int × (List Int)) : Option Ω :=
 bif (decide (s3.1 < 3)) then
  bif (idxOK s3.1 3) then
   bif (idxOK s3.1 (e3_1).size) then
    bif ((bAt e3_1 (Int.toNat s3.1)) == 110) then
     bif (idxOK s3.1 3) then
      r3 ((IntKind.wrap .i64 (s3.1 + 1)), (List.set (List.set s3.2 (Int.toNat s3.1) 0) (Int.toNat s3.1) 1))
     else
      none
    else
     bif (idxOK s3.1 (e3_1).size) then
      bif ((bAt e3_1 (Int.toNat s3.1)) == 115) then
       bif (idxOK s3.1 3) then
        r3 ((IntKind.wrap .i64 (s3.1 + 1)), (List.set (List.set s3.2 (Int.toNat s3.1) 0) (Int.toNat s3.1) 1))
       else
        none
      else
       r3 ((IntKind.wrap .i64 (s3.1 + 1)), (List.set s3.2 (Int.toNat s3.1) 0))
     else
      none
   else
    none
  else
   none
 else
  (instr_Check.u ((e3_2.1, ((List.getD s3.2 0 0), ((List.getD s3.2 1 0), ((List.getD s3.2 2 0), ())))))).bind fun y1 =>
  k y1
theorem asm_first.l0 {Ω : Type} (fuel : Nat) (e3_1 : ByteArray) (e3_2 : T_s36)  (k : AV → Option Ω) : ∀ m, (asm_first.M0 fuel e3_1 e3_2  k m) = iter (asm_first.b0 e3_1 e3_2  (fun r => k (tupAV (.int .i64) [] r))) m :=
 loopK_iter (envOf := (asm_first.E0 e3_1 e3_2)) (LOf := (asm_first.H0 e3_1 e3_2)) (B := asm_first.b0 e3_1 e3_2  (fun r => k (tupAV (.int .i64) [] r))) (fun R s => by kernel_rfl)
def asm_first.sl {Ω : Type} (x0 : T_s36) (x1 : ByteArray) (x2 : Int) (lp0 : ByteArray → T_s36 → Int × (List Int) → Option Ω) (k : Int → Option Ω) : Option Ω :=
 lp0 x1 x0 ((IntKind.wrap .i64 (x2 + 1)), (List.set (List.set (List.set (List.replicate 3 0) 0 x0.2.1) 1 x0.2.2.1) 2 x0.2.2.2.1))
def asm_first.g0 {Ω : Type} (e3_1 : ByteArray) (e3_2 : T_s36)  (k : Int → Option Ω) : Nat → Int → (List Int) → Option Ω
  | 0, i3, a3_1 =>
  (instr_Check.u ((e3_2.1, ((List.getD a3_1 0 0), ((List.getD a3_1 1 0), ((List.getD a3_1 2 0), ())))))).bind fun y1 =>
  k y1
  | d3 + 1, i3, a3_1 =>
  bif (idxOK i3 3) then
   bif (idxOK i3 (e3_1).size) then
    bif ((bAt e3_1 (Int.toNat i3)) == 110) then
     bif (idxOK i3 3) then
      asm_first.g0 e3_1 e3_2  k d3 (i3 + 1) ((List.set (List.set a3_1 (Int.toNat i3) 0) (Int.toNat i3) 1))
     else
      none
    else
     bif (idxOK i3 (e3_1).size) then
      bif ((bAt e3_1 (Int.toNat i3)) == 115) then
       bif (idxOK i3 3) then
        asm_first.g0 e3_1 e3_2  k d3 (i3 + 1) ((List.set (List.set a3_1 (Int.toNat i3) 0) (Int.toNat i3) 1))
       else
        none
      else
       asm_first.g0 e3_1 e3_2  k d3 (i3 + 1) ((List.set a3_1 (Int.toNat i3) 0))
     else
      none
   else
    none
  else
   none
theorem asm_first.h0 {Ω : Type} (e3_1 : ByteArray) (e3_2 : T_s36)   (k : Int → Option Ω) (hN : (3 : Int) ≤ 9223372036854775807) : ∀ (m : Nat) (i : Int) (a : (List Int)), -9223372036854775808 ≤ i → Int.toNat ((3 : Int) - i) < m → Le (asm_first.g0 e3_1 e3_2  k (Int.toNat ((3 : Int) - i)) i a) (iter (asm_first.b0 e3_1 e3_2  k) m (i, a)) :=
  iter_count (3 : Int) (fun i3 => (decide (i3 < 3))) (fun i => rfl) (fun (i3 : Int) (a3 : (List Int)) => (i3, a3)) (fun xs i3 a3 => asm_first.g0 e3_1 e3_2  k xs i3 a3) (asm_first.b0 e3_1 e3_2  k)
    (fun i3 a3 r h0 => (Le.fls h0 (Le.bnd fun y1 => (Le.refl _))))
    (fun i3 d3 a3 r h0 hw ih => (Le.tru h0 (Le.cond (Le.cond (Le.cond (Le.cond (ih _ hw ((List.set (List.set a3 (Int.toNat i3) 0) (Int.toNat i3) 1))) Le.nil) (Le.cond (Le.cond (Le.cond (ih _ hw ((List.set (List.set a3 (Int.toNat i3) 0) (Int.toNat i3) 1))) Le.nil) (ih _ hw ((List.set a3 (Int.toNat i3) 0)))) Le.nil)) Le.nil) Le.nil)))
    hN
def asm_first.w {Ω : Type} (x0 : T_s36) (x1 : ByteArray) (x2 : Int) (k : Int → Option Ω) : Option Ω :=
 bif (decide ((0 : Int) ≤ (IntKind.wrap .i64 (x2 + 1)))) then asm_first.g0 x1 x0  k ((Int.toNat ((3 : Int) - (IntKind.wrap .i64 (x2 + 1))))) ((IntKind.wrap .i64 (x2 + 1))) ((List.set (List.set (List.set (List.replicate 3 0) 0 x0.2.1) 1 x0.2.2.1) 2 x0.2.2.2.1)) else none
theorem asm_first.ev {Ω : Type} (fuel : Nat) (x0 : T_s36) (x1 : ByteArray) (x2 : Int) (k : AV → Option Ω) : evFn CKMP (spE (C := CKMP) [instr_Check.n] []) (asm_first.F fuel) Tryz.f52 (Tryz.f52.body.getD .skip) [(.v E_s36 (x0)), (.v .str (x1)), (.v (.int .i64) (x2))] k = asm_first.sl x0 x1 x2 (fun e3_1 e3_2 => (asm_first.M0 fuel e3_1 e3_2  k fuel)) (fun r => k (tupAV (.int .i64) [] r)) := by kernel_rfl
theorem asm_first.le {Ω : Type} (x0 : T_s36) (x1 : ByteArray) (x2 : Int) (k : AV → Option Ω) : Le (asm_first.w x0 x1 x2 (fun r => k (tupAV (.int .i64) [] r))) (asm_first.sl x0 x1 x2 (fun e3_1 e3_2 => (asm_first.M0 BIG e3_1 e3_2  k BIG)) (fun r => k (tupAV (.int .i64) [] r))) := by
 have h1 := funext fun (e3_1 : ByteArray) => funext fun (e3_2 : T_s36) => asm_first.l0 BIG e3_1 e3_2   k BIG
 rw [h1]
 delta asm_first.w asm_first.sl
 exact (Le.gd fun hg => asm_first.h0 _ _   _ (by decide) BIG (IntKind.wrap .i64 (x2 + 1)) ((List.set (List.set (List.set (List.replicate 3 0) 0 x0.2.1) 1 x0.2.2.1) 2 x0.2.2.2.1)) (cnt_lo hg) (cnt_big (by decide) (cnt_lo3 hg)))
def asm_first.u (x0 : T_s36) (x1 : ByteArray) (x2 : Int) : Option (Int) := asm_first.w x0 x1 x2 some
noncomputable def asm_first.n : En CKMP := mkE CKMP_ok (es := [instr_Check.n]) (ms := []) (fuel := (asm_first.F BIG)) 52 Tryz.f52 [.ai E_s36, .ai .str, .ai (.int .i64)] (.int .i64) [] (fun x {Ω} k => asm_first.w x.1 x.2.1 x.2.2.1 k) (fun x Ω k => leV (asm_first.ev BIG x.1 x.2.1 x.2.2.1 k) (asm_first.le x.1 x.2.1 x.2.2.1 k)) (by kernel_rfl) (by kernel_rfl)

def asm_reader_done.s {Ω : Type} (x1 : Int) (x2 : Int) (h0 : T_s36) (h1 : T_s62) (h2 : (List ByteArray)) (k : Int → (T_s36 × T_s62 × (List ByteArray) × Unit) → Option Ω) : Option Ω :=
  (opcode_Form.u x1).bind fun y1 =>
  bif (idxOK x2 (y1).size) then
    bif ((bAt y1 (Int.toNat x2)) == 103) then
      bif (((List.length h1.1 : Nat) : Int) == 0) then
        bif (idxOK x2 3) then
          bif ((List.getD h1.2.1 (Int.toNat x2) 0) == 8) then
            k 0 (h0, h1, h2, ())
          else
            let v2 : T_s36 := ((IntKind.wrap .u8 x1), ((IntKind.wrap .u8 (List.getD h1.2.1 0 0)), ((IntKind.wrap .u8 (List.getD h1.2.1 1 0)), ((IntKind.wrap .u8 (List.getD h1.2.1 2 0)), ()))))
            (opcode_Form.u x1).bind fun y3 =>
            (asm_first.u v2 y3 x2).bind fun y4 =>
            k y4 (h0, h1, h2, ())
        else
          none
      else
        let v5 : T_s36 := ((IntKind.wrap .u8 x1), ((IntKind.wrap .u8 (List.getD h1.2.1 0 0)), ((IntKind.wrap .u8 (List.getD h1.2.1 1 0)), ((IntKind.wrap .u8 (List.getD h1.2.1 2 0)), ()))))
        (opcode_Form.u x1).bind fun y6 =>
        (asm_first.u v5 y6 x2).bind fun y7 =>
        k y7 (h0, h1, h2, ())
    else
      let v8 : T_s36 := ((IntKind.wrap .u8 x1), ((IntKind.wrap .u8 (List.getD h1.2.1 0 0)), ((IntKind.wrap .u8 (List.getD h1.2.1 1 0)), ((IntKind.wrap .u8 (List.getD h1.2.1 2 0)), ()))))
      (opcode_Form.u x1).bind fun y9 =>
      (asm_first.u v8 y9 x2).bind fun y10 =>
      k y10 (h0, h1, h2, ())
  else
    none
def asm_reader_done.u (x1 : Int) (x2 : Int) (h0 : T_s36) (h1 : T_s62) (h2 : (List ByteArray)) : Option (Int × T_s36 × T_s62 × (List ByteArray) × Unit) := asm_reader_done.s x1 x2 h0 h1 h2 fun r z => some (r, z)
noncomputable def asm_reader_done.n : Me CKMP := mkM CKMP_ok (es := [opcode_Form.n, asm_first.n]) (ms := []) (fuel := ⟨1, fun _ => []⟩) 25 Tryz.f25 [.ar 1, .ai (.int .i64), .ai (.int .i64)] [.box E_s36, .box E_s62, .row 9 .str true] (.d (.int .i64) []) (fun x y {Ω} k => asm_reader_done.s x.2.1 x.2.2.1 y.1 y.2.1 y.2.2.1 k) (fun x y Ω k => Le.of (by kernel_rfl)) (by kernel_rfl) (by kernel_rfl)

noncomputable def strings_Split.n : En CKMP := En.of (g := 21) (e := fun {_} => strings_Split.e) (strings_Split.e_ok.mono le_CM_CKMP)
def asm_Parse.F (fuel : Nat) : Fuel := ⟨fuel, fun r => bif r == 15 then mL 0 134 21778071482940061661655722674054032784875 else bif r == 3 then mL 0 134 21778071482940061661655974875633163698155 else []⟩
noncomputable def asm_Parse.V {Ω : Type} (fuel c : Nat) (env : List AV) (L : Heap) (k : Kont Ω) : Option Ω := evCode CKMP (spE (C := CKMP) [opcode_Form.n, strings_Split.n, opcode_Find.n] [asm_reader_one.n, asm_reader_done.n, walk22_0]) (asm_Parse.F fuel) (pCo c Tryz.f11) env L k
def asm_Parse.E0 (e15_1 : Int) (e15_2 : (List Int)) (e15_3 : Int) (s15 : Int × T_s36 × T_s62 × (List ByteArray)) : List AV := (dZ 2 ((.ref 0 []) :: dZ 1 ((.ref 1 []) :: dZ 4 ((.v (.int .i64) (e15_1)) :: dZ 45 ((.v (.slice (.int .u8)) (e15_2)) :: (.v (.int .i64) (e15_3)) :: (.v (.int .i64) (s15.1)) :: dZ 76 ([]))))))
def asm_Parse.H0 (e15_1 : Int) (e15_2 : (List Int)) (e15_3 : Int) (s15 : Int × T_s36 × T_s62 × (List ByteArray)) : Heap := [(.box E_s36 s15.2.1 false), (.box E_s62 s15.2.2.1 false), (.row 9 .str s15.2.2.2 true)]
noncomputable def asm_Parse.M0 {Ω : Type} (fuel : Nat) (e15_1 : Int) (e15_2 : (List Int)) (e15_3 : Int)  (k : AV → Option Ω) (m : Nat) (s : Int × T_s36 × T_s62 × (List ByteArray)) : Option Ω := loopK (asm_Parse.V fuel 2431) (mB 134 21778071482940061661655722674054032784875) [] 3 (blockK 2 (sqK (asm_Parse.V fuel 511) (finK CKMP Tryz.f11 k))) m ((asm_Parse.E0 e15_1 e15_2 e15_3) s) ((asm_Parse.H0 e15_1 e15_2 e15_3) s)
def asm_Parse.E1 (e3_1 : (List ByteArray)) (e3_2 : Int) (e3_3 : (List Int)) (s3 : Int × (List ByteArray)) : List AV := (dZ 2 ((.ref 0 []) :: dZ 1 ((.ref 1 []) :: dZ 13 ((.v (.slice .str) (e3_1)) :: (.v (.int .i64) (e3_2)) :: (.v (.int .i64) (s3.1)) :: dZ 113 ([])))))
def asm_Parse.H1 (e3_1 : (List ByteArray)) (e3_2 : Int) (e3_3 : (List Int)) (s3 : Int × (List ByteArray)) : Heap := [(.box E_s36 (0, (0, (0, (0, ())))) false), (.lbx E_s62 ([], (e3_3, ())) [(0, some 2)]), (.row 9 .str s3.2 false)]
noncomputable def asm_Parse.M1 {Ω : Type} (fuel : Nat) (e3_1 : (List ByteArray)) (e3_2 : Int) (e3_3 : (List Int))  (k : AV → Option Ω) (m : Nat) (s : Int × (List ByteArray)) : Option Ω := loopK (asm_Parse.V fuel 75) (mB 134 21778071482940061661655974875633163698155) [] 3 (blockK 0 (sqK (asm_Parse.V fuel 15) (finK CKMP Tryz.f11 k))) m ((asm_Parse.E1 e3_1 e3_2 e3_3) s) ((asm_Parse.H1 e3_1 e3_2 e3_3) s)
def asm_Parse.b0 {Ω : Type} (e15_1 : Int) (e15_2 : (List Int)) (e15_3 : Int)   (k : T_s36 × Int → Option Ω) (r15 : Int × T_s36 × T_s62 × (List ByteArray) → Option Ω) (s15 : Int × T_s36 × T_s62 × (List ByteArray)) : Option Ω :=
 bif (decide (s15.1 < e15_3)) then
  bif (idxOK s15.1 (List.length e15_2)) then
   bif ((List.getD e15_2 (Int.toNat s15.1) 0) == 45) then
    r15 ((IntKind.wrap .i64 (s15.1 + 1)), s15.2.1, s15.2.2.1, s15.2.2.2)
   else
    bif ((List.getD e15_2 (Int.toNat s15.1) 0) == 106) then
     r15 ((IntKind.wrap .i64 (s15.1 + 1)), s15.2.1, s15.2.2.1, s15.2.2.2)
    else
     (asm_reader_one.u ((List.getD e15_2 (Int.toNat s15.1) 0)) s15.1 s15.2.1 s15.2.2.1 s15.2.2.2).bind fun y4 =>
     bif (y4.1 != 0) then
      k ((0, (0, (0, (0, ())))), y4.1)
     else
      bif ((List.getD e15_2 (Int.toNat s15.1) 0) == 103) then
       bif (decide (((List.length s15.2.2.1.1 : Nat) : Int) > 0)) then
        bif (idxOK s15.1 3) then
         bif (decide ((List.getD y4.2.2.1.2.1 (Int.toNat s15.1) 0) ≥ 8)) then
          k ((0, (0, (0, (0, ())))), 8)
         else
          (asm_reader_done.u e15_1 s15.1 y4.2.1 y4.2.2.1 y4.2.2.2.1).bind fun y5 =>
          bif (y5.1 != 0) then
           k ((0, (0, (0, (0, ())))), y5.1)
          else
           r15 ((IntKind.wrap .i64 (s15.1 + 1)), y5.2.1, y5.2.2.1, y5.2.2.2.1)
        else
         none
       else
        (asm_reader_done.u e15_1 s15.1 y4.2.1 y4.2.2.1 y4.2.2.2.1).bind fun y6 =>
        bif (y6.1 != 0) then
         k ((0, (0, (0, (0, ())))), y6.1)
        else
         r15 ((IntKind.wrap .i64 (s15.1 + 1)), y6.2.1, y6.2.2.1, y6.2.2.2.1)
      else
       (asm_reader_done.u e15_1 s15.1 y4.2.1 y4.2.2.1 y4.2.2.2.1).bind fun y7 =>
       bif (y7.1 != 0) then
        k ((0, (0, (0, (0, ())))), y7.1)
       else
        r15 ((IntKind.wrap .i64 (s15.1 + 1)), y7.2.1, y7.2.2.1, y7.2.2.2.1)
  else
   none
 else
  bif (decide (((List.length s15.2.2.1.1 : Nat) : Int) > 0)) then
   k ((0, (0, (0, (0, ())))), 5)
  else
   k (((IntKind.wrap .u8 e15_1), ((IntKind.wrap .u8 (List.getD s15.2.2.1.2.1 0 0)), ((IntKind.wrap .u8 (List.getD s15.2.2.1.2.1 1 0)), ((IntKind.wrap .u8 (List.getD s15.2.2.1.2.1 2 0)), ())))), 0)
def asm_Parse.b1 {Ω : Type} (e3_1 : (List ByteArray)) (e3_2 : Int) (e3_3 : (List Int))  (lp0 : Int → (List Int) → Int → Int × T_s36 × T_s62 × (List ByteArray) → Option Ω) (k : T_s36 × Int → Option Ω) (r3 : Int × (List ByteArray) → Option Ω) (s3 : Int × (List ByteArray)) : Option Ω :=
 bif (decide (s3.1 < e3_2)) then
  bif (idxOK s3.1 (List.length e3_1)) then
   bif (!(((List.getD e3_1 (Int.toNat s3.1) (bs []))).data.toList == ((bs [])).data.toList)) then
    bif (decide (List.length s3.2 + List.length [(List.getD e3_1 (Int.toNat s3.1) (bs []))] ≤ rowMax)) then
     r3 ((IntKind.wrap .i64 (s3.1 + 1)), (s3.2 ++ [(List.getD e3_1 (Int.toNat s3.1) (bs []))]))
    else
     none
   else
    r3 ((IntKind.wrap .i64 (s3.1 + 1)), s3.2)
  else
   none
 else
  bif (((List.length s3.2 : Nat) : Int) == 0) then
   k ((0, (0, (0, (0, ())))), 11)
  else
   bif (idxOK 0 (List.length s3.2)) then
    bif (subC (some (1)) none (List.length s3.2)) then
     (opcode_Find.u ((List.getD s3.2 0 (bs [])))).bind fun y2 =>
     bif (!y2.2) then
      k ((0, (0, (0, (0, ())))), 6)
     else
      (opcode_Form.u y2.1).bind fun y3 =>
      lp0 y2.1 (bytesI y3) (((List.length (bytesI y3) : Nat) : Int)) (0, (0, (0, (0, (0, ())))), (((List.drop (subLo (some (1))) s3.2).take (subHi none (List.length s3.2) - subLo (some (1)))), (e3_3, ())), s3.2)
    else
     none
   else
    none
def asm_Parse.B1 {Ω : Type} (fuel : Nat) (e3_1 : (List ByteArray)) (e3_2 : Int) (e3_3 : (List Int))  (k : T_s36 × Int → Option Ω) (r3 : Int × (List ByteArray) → Option Ω) (s3 : Int × (List ByteArray)) : Option Ω := asm_Parse.b1 e3_1 e3_2 e3_3  (fun e15_1 e15_2 e15_3 => (iter (asm_Parse.b0 e15_1 e15_2 e15_3  k) fuel)) k r3 s3
theorem asm_Parse.l0 {Ω : Type} (fuel : Nat) (e15_1 : Int) (e15_2 : (List Int)) (e15_3 : Int)  (k : AV → Option Ω) : ∀ m, (asm_Parse.M0 fuel e15_1 e15_2 e15_3  k m) = iter (asm_Parse.b0 e15_1 e15_2 e15_3  (fun r => k (tupAV E_s36 [(.int .i64)] r))) m :=
 loopK_iter (envOf := (asm_Parse.E0 e15_1 e15_2 e15_3)) (LOf := (asm_Parse.H0 e15_1 e15_2 e15_3)) (B := asm_Parse.b0 e15_1 e15_2 e15_3  (fun r => k (tupAV E_s36 [(.int .i64)] r))) (fun R s => by kernel_rfl)
theorem asm_Parse.l1 {Ω : Type} (fuel : Nat) (e3_1 : (List ByteArray)) (e3_2 : Int) (e3_3 : (List Int))  (k : AV → Option Ω) : ∀ m, (asm_Parse.M1 fuel e3_1 e3_2 e3_3  k m) = iter (asm_Parse.B1 fuel e3_1 e3_2 e3_3  (fun r => k (tupAV E_s36 [(.int .i64)] r))) m :=
 loopK_iter (envOf := (asm_Parse.E1 e3_1 e3_2 e3_3)) (LOf := (asm_Parse.H1 e3_1 e3_2 e3_3)) (B := asm_Parse.B1 fuel e3_1 e3_2 e3_3  (fun r => k (tupAV E_s36 [(.int .i64)] r))) (fun R s => by
  have h0 : asm_Parse.V fuel 75 ((asm_Parse.E1 e3_1 e3_2 e3_3) s) ((asm_Parse.H1 e3_1 e3_2 e3_3) s) (loopC R (mB 134 21778071482940061661655974875633163698155) [] 3 (blockK 0 (sqK (asm_Parse.V fuel 15) (finK CKMP Tryz.f11 k)))) = asm_Parse.b1 e3_1 e3_2 e3_3  (fun e15_1 e15_2 e15_3 => (asm_Parse.M0 fuel e15_1 e15_2 e15_3  k fuel)) (fun r => k (tupAV E_s36 [(.int .i64)] r)) (fun s => R ((asm_Parse.E1 e3_1 e3_2 e3_3) s) ((asm_Parse.H1 e3_1 e3_2 e3_3) s)) s := by kernel_rfl
  have h1 := funext fun (e15_1 : Int) => funext fun (e15_2 : (List Int)) => funext fun (e15_3 : Int) => asm_Parse.l0 fuel e15_1 e15_2 e15_3   k fuel
  rw [h1] at h0
  exact h0)
def asm_Parse.sl {Ω : Type} (x0 : ByteArray) (lp1 : (List ByteArray) → Int → (List Int) → Int × (List ByteArray) → Option Ω) (k : T_s36 × Int → Option Ω) : Option Ω :=
 (strings_Split.u x0 (bs [32])).bind fun y1 =>
 lp1 y1 (((List.length y1 : Nat) : Int)) (List.replicate 3 0) (0, [])
def asm_Parse.g0 {Ω : Type} (e15_1 : Int) (e15_2 : (List Int))  (k : T_s36 × Int → Option Ω) : List Int → Int → T_s36 → T_s62 → (List ByteArray) → Option Ω
  | [], i15, a15_1, a15_2, a15_3 =>
  bif (decide (((List.length a15_2.1 : Nat) : Int) > 0)) then
   k ((0, (0, (0, (0, ())))), 5)
  else
   k (((IntKind.wrap .u8 e15_1), ((IntKind.wrap .u8 (List.getD a15_2.2.1 0 0)), ((IntKind.wrap .u8 (List.getD a15_2.2.1 1 0)), ((IntKind.wrap .u8 (List.getD a15_2.2.1 2 0)), ())))), 0)
  | x15 :: xs15, i15, a15_1, a15_2, a15_3 =>
  bif (x15 == 45) then
   asm_Parse.g0 e15_1 e15_2  k xs15 (i15 + 1) a15_1 a15_2 a15_3
  else
   bif (x15 == 106) then
    asm_Parse.g0 e15_1 e15_2  k xs15 (i15 + 1) a15_1 a15_2 a15_3
   else
    (asm_reader_one.u (x15) i15 a15_1 a15_2 a15_3).bind fun y4 =>
    bif (y4.1 != 0) then
     k ((0, (0, (0, (0, ())))), y4.1)
    else
     bif (x15 == 103) then
      bif (decide (((List.length a15_2.1 : Nat) : Int) > 0)) then
       bif (idxOK i15 3) then
        bif (decide ((List.getD y4.2.2.1.2.1 (Int.toNat i15) 0) ≥ 8)) then
         k ((0, (0, (0, (0, ())))), 8)
        else
         (asm_reader_done.u e15_1 i15 y4.2.1 y4.2.2.1 y4.2.2.2.1).bind fun y5 =>
         bif (y5.1 != 0) then
          k ((0, (0, (0, (0, ())))), y5.1)
         else
          asm_Parse.g0 e15_1 e15_2  k xs15 (i15 + 1) y5.2.1 y5.2.2.1 y5.2.2.2.1
       else
        none
      else
       (asm_reader_done.u e15_1 i15 y4.2.1 y4.2.2.1 y4.2.2.2.1).bind fun y6 =>
       bif (y6.1 != 0) then
        k ((0, (0, (0, (0, ())))), y6.1)
       else
        asm_Parse.g0 e15_1 e15_2  k xs15 (i15 + 1) y6.2.1 y6.2.2.1 y6.2.2.2.1
     else
      (asm_reader_done.u e15_1 i15 y4.2.1 y4.2.2.1 y4.2.2.2.1).bind fun y7 =>
      bif (y7.1 != 0) then
       k ((0, (0, (0, (0, ())))), y7.1)
      else
       asm_Parse.g0 e15_1 e15_2  k xs15 (i15 + 1) y7.2.1 y7.2.2.1 y7.2.2.2.1
theorem asm_Parse.h0 {Ω : Type} (e15_1 : Int) (e15_2 : (List Int))   (k : T_s36 × Int → Option Ω) (hX : ((List.length e15_2 : Nat) : Int) ≤ 9223372036854775807) : ∀ (m : Nat) (i : Int) (a : T_s36 × T_s62 × (List ByteArray)), 0 ≤ i → i ≤ ((List.length e15_2 : Nat) : Int) → ((List.length e15_2 : Nat) : Int) < m + i → Le (asm_Parse.g0 e15_1 e15_2  k (List.drop (Int.toNat i) e15_2) i a.1 a.2.1 a.2.2) (iter (asm_Parse.b0 e15_1 e15_2 (((List.length e15_2 : Nat) : Int))  k) m (i, a.1, a.2.1, a.2.2)) :=
  iter_list e15_2 0 (fun (i15 : Int) (a15 : T_s36 × T_s62 × (List ByteArray)) => (i15, a15.1, a15.2.1, a15.2.2)) (fun xs i15 a15 => asm_Parse.g0 e15_1 e15_2  k xs i15 a15.1 a15.2.1 a15.2.2) (asm_Parse.b0 e15_1 e15_2 (((List.length e15_2 : Nat) : Int))  k)
    (fun i15 a15 r h0 => (Le.fls h0 (Le.cond (Le.refl _) (Le.refl _))))
    (fun i15 xs15 a15 r h0 h1 hw ih => (Le.tru h0 (Le.tru h1 (Le.cond (ih _ hw (a15.1, a15.2.1, a15.2.2)) (Le.cond (ih _ hw (a15.1, a15.2.1, a15.2.2)) (Le.bnd fun y4 => (Le.cond (Le.refl _) (Le.cond (Le.cond (Le.cond (Le.cond (Le.refl _) (Le.bnd fun y5 => (Le.cond (Le.refl _) (ih _ hw (y5.2.1, y5.2.2.1, y5.2.2.2.1))))) Le.nil) (Le.bnd fun y6 => (Le.cond (Le.refl _) (ih _ hw (y6.2.1, y6.2.2.1, y6.2.2.2.1))))) (Le.bnd fun y7 => (Le.cond (Le.refl _) (ih _ hw (y7.2.1, y7.2.2.1, y7.2.2.2.1))))))))))))
    hX
def asm_Parse.g1 {Ω : Type} (e3_1 : (List ByteArray)) (e3_3 : (List Int))  (k : T_s36 × Int → Option Ω) : List ByteArray → (List ByteArray) → Option Ω
  | [], a3_1 =>
  bif (((List.length a3_1 : Nat) : Int) == 0) then
   k ((0, (0, (0, (0, ())))), 11)
  else
   bif (idxOK 0 (List.length a3_1)) then
    bif (subC (some (1)) none (List.length a3_1)) then
     (opcode_Find.u ((List.getD a3_1 0 (bs [])))).bind fun y2 =>
     bif (!y2.2) then
      k ((0, (0, (0, (0, ())))), 6)
     else
      (opcode_Form.u y2.1).bind fun y3 =>
      bif decide (((List.length (bytesI y3) : Nat) : Int) ≤ 4611686018427387904) then asm_Parse.g0 y2.1 (bytesI y3)  k (bytesI y3) 0 ((0, (0, (0, (0, ()))))) ((((List.drop (subLo (some (1))) a3_1).take (subHi none (List.length a3_1) - subLo (some (1)))), (e3_3, ()))) a3_1 else none
    else
     none
   else
    none
  | x3 :: xs3, a3_1 =>
  bif (!((x3).data.toList == ((bs [])).data.toList)) then
   bif (decide (List.length a3_1 + List.length [x3] ≤ rowMax)) then
    asm_Parse.g1 e3_1 e3_3  k xs3 (a3_1 ++ [x3])
   else
    none
  else
   asm_Parse.g1 e3_1 e3_3  k xs3 a3_1
theorem asm_Parse.h1 {Ω : Type} (e3_1 : (List ByteArray)) (e3_3 : (List Int))   (k : T_s36 × Int → Option Ω) (hX : ((List.length e3_1 : Nat) : Int) ≤ 9223372036854775807) : ∀ (m : Nat) (i : Int) (a : (List ByteArray)), 0 ≤ i → i ≤ ((List.length e3_1 : Nat) : Int) → ((List.length e3_1 : Nat) : Int) < m + i → Le (asm_Parse.g1 e3_1 e3_3  k (List.drop (Int.toNat i) e3_1) a) (iter (asm_Parse.B1 BIG e3_1 (((List.length e3_1 : Nat) : Int)) e3_3  k) m (i, a)) :=
  iter_list e3_1 (bs []) (fun (i3 : Int) (a3 : (List ByteArray)) => (i3, a3)) (fun xs i3 a3 => asm_Parse.g1 e3_1 e3_3  k xs a3) (asm_Parse.B1 BIG e3_1 (((List.length e3_1 : Nat) : Int)) e3_3  k)
    (fun i3 a3 r h0 => (Le.fls h0 (Le.cond (Le.refl _) (Le.cond (Le.cond (Le.bnd fun y2 => (Le.cond (Le.refl _) (Le.bnd fun y3 => (Le.gd fun hg => asm_Parse.h0 _ _   _ (le_up (of_decide_eq_true hg)) BIG 0 ((0, (0, (0, (0, ())))), (((List.drop (subLo (some (1))) a3).take (subHi none (List.length a3) - subLo (some (1)))), (e3_3, ())), a3) (by decide) (zero_le_len _) (big_list (of_decide_eq_true hg)))))) Le.nil) Le.nil))))
    (fun i3 xs3 a3 r h0 h1 hw ih => (Le.tru h0 (Le.tru h1 (Le.cond (Le.cond (ih _ hw ((a3 ++ [(List.getD e3_1 (Int.toNat i3) (bs []))]))) Le.nil) (ih _ hw (a3))))))
    hX
def asm_Parse.w {Ω : Type} (x0 : ByteArray) (k : T_s36 × Int → Option Ω) : Option Ω :=
 (strings_Split.u x0 (bs [32])).bind fun y1 =>
 bif decide (((List.length y1 : Nat) : Int) ≤ 4611686018427387904) then asm_Parse.g1 y1 (List.replicate 3 0)  k y1 ([]) else none
theorem asm_Parse.ev {Ω : Type} (fuel : Nat) (x0 : ByteArray) (k : AV → Option Ω) : evFn CKMP (spE (C := CKMP) [opcode_Form.n, strings_Split.n, opcode_Find.n] [asm_reader_one.n, asm_reader_done.n, walk22_0]) (asm_Parse.F fuel) Tryz.f11 (Tryz.f11.body.getD .skip) [(.v .str (x0))] k = asm_Parse.sl x0 (fun e3_1 e3_2 e3_3 => (asm_Parse.M1 fuel e3_1 e3_2 e3_3  k fuel)) (fun r => k (tupAV E_s36 [(.int .i64)] r)) := by kernel_rfl
theorem asm_Parse.le {Ω : Type} (x0 : ByteArray) (k : AV → Option Ω) : Le (asm_Parse.w x0 (fun r => k (tupAV E_s36 [(.int .i64)] r))) (asm_Parse.sl x0 (fun e3_1 e3_2 e3_3 => (asm_Parse.M1 BIG e3_1 e3_2 e3_3  k BIG)) (fun r => k (tupAV E_s36 [(.int .i64)] r))) := by
 have h2 := funext fun (e3_1 : (List ByteArray)) => funext fun (e3_2 : Int) => funext fun (e3_3 : (List Int)) => asm_Parse.l1 BIG e3_1 e3_2 e3_3   k BIG
 rw [h2]
 delta asm_Parse.w asm_Parse.sl
 exact (Le.bnd fun y1 => (Le.gd fun hg => asm_Parse.h1 _ _   _ (le_up (of_decide_eq_true hg)) BIG 0 ([]) (by decide) (zero_le_len _) (big_list (of_decide_eq_true hg))))
def asm_Parse.u (x0 : ByteArray) : Option (T_s36 × Int) := asm_Parse.w x0 some
noncomputable def asm_Parse.n : En CKMP := mkE CKMP_ok (es := [opcode_Form.n, strings_Split.n, opcode_Find.n]) (ms := [asm_reader_one.n, asm_reader_done.n, walk22_0]) (fuel := (asm_Parse.F BIG)) 11 Tryz.f11 [.ai .str] E_s36 [(.int .i64)] (fun x {Ω} k => asm_Parse.w x.1 k) (fun x Ω k => leV (asm_Parse.ev BIG x.1 k) (asm_Parse.le x.1 k)) (by kernel_rfl) (by kernel_rfl)

end Go.Proofs.YtmmooplcdkmapaaGreatDoor.K

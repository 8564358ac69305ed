/- What functions of the program come to, plainly. -/
import Derived.Test.YtmmooplcdkmapaaGreatDoorRd
set_option maxRecDepth 100000
set_option linter.unusedVariables false
namespace Go.Proofs.YtmmooplcdkmapaaGreatDoor.K
open Go Go.RowKit

def law11_alive.s {Ω : Type}  (k : Bool → Option Ω) : Option Ω :=
  (asm_Text.u ((42, (0, (1, (2, ())))))).bind fun y1 =>
  (asm_Parse.u (bs [32, 115, 101, 116, 32, 32, 114, 50, 32, 45, 50])).bind fun y2 =>
  (asm_Parse.u (bs [106, 122, 32, 114, 49])).bind fun y3 =>
  (asm_Read.u (bs [110, 111, 112, 10, 10, 104, 97, 108, 116])).bind fun y4 =>
  (asm_Read.u (bs [110, 111, 112, 10, 119, 104, 97, 116, 10])).bind fun y5 =>
  let v6 : Bool := ((y1.1).data.toList == ((bs [103, 105, 110, 32, 99, 48, 32, 114, 49, 32, 105, 102, 32, 114, 50])).data.toList)
  bif v6 then
    bif (y1.2 == 0) then
      bif (eqI E_s36 y2.1 (3, (2, (255, (254, ()))))) then
        bif (y2.2 == 0) then
          bif (y3.2 == 4) then
            bif (((List.length y4.1 : Nat) : Int) == 2) then
              bif (idxOK 1 (List.length y4.1)) then
                bif ((List.getD y4.1 1 (0, (0, (0, (0, ()))))).1 == 1) then
                  bif (y4.2.1 == 0) then
                    bif (y4.2.2 == 0) then
                      bif (y5.2.1 == 2) then
                        k (y5.2.2 == 6)
                      else
                        k false
                    else
                      k false
                  else
                    k false
                else
                  k false
              else
                none
            else
              k false
          else
            k false
        else
          k false
      else
        k false
    else
      k false
  else
    k false
def law11_alive.u  : Option (Bool) := law11_alive.s  some
noncomputable def law11_alive.n : En CKMP := mkE CKMP_ok (es := [asm_Read.n, asm_Text.n, asm_Parse.n]) (ms := []) (fuel := ⟨1, fun _ => []⟩) 4 Tryz.f4 [] .bool [] (fun x {Ω} k => law11_alive.s  k) (fun x Ω k => Le.of (by kernel_rfl)) (by kernel_rfl) (by kernel_rfl)

def ref11_Print.F (fuel : Nat) : Fuel := ⟨fuel, fun r => bif r == 3 then mL 0 30 1073741774 else []⟩
noncomputable def ref11_Print.V {Ω : Type} (fuel c : Nat) (env : List AV) (L : Heap) (k : Kont Ω) : Option Ω := evCode CKMP (spE (C := CKMP) [ref11_Text.n] []) (ref11_Print.F fuel) (pCo c Tryz.f6) env L k
def ref11_Print.E0 (e3_1 : (List T_s36)) (s3 : ByteArray × Int) : List AV := ((.v (.slice E_s36) (e3_1)) :: dZ 3 ((.v .str (s3.1)) :: (.v (.int .i64) (s3.2)) :: dZ 24 ([])))
def ref11_Print.H0 (e3_1 : (List T_s36)) (s3 : ByteArray × Int) : Heap := []
noncomputable def ref11_Print.M0 {Ω : Type} (fuel : Nat) (e3_1 : (List T_s36))  (k : AV → Option Ω) (m : Nat) (s : ByteArray × Int) : Option Ω := loopK (ref11_Print.V fuel 75) (mB 30 1073741774) [] 0 (blockK 0 (sqK (ref11_Print.V fuel 15) (finK CKMP Tryz.f6 k))) m ((ref11_Print.E0 e3_1) s) ((ref11_Print.H0 e3_1) s)
def ref11_Print.b0 {Ω : Type} (e3_1 : (List T_s36))   (k : ByteArray × Int → Option Ω) (r3 : ByteArray × Int → Option Ω) (s3 : ByteArray × Int) : Option Ω :=
 bif (decide (s3.2 < ((List.length e3_1 : Nat) : Int))) then
  bif (idxOK s3.2 (List.length e3_1)) then
   (ref11_Text.u ((List.getD e3_1 (Int.toNat s3.2) (0, (0, (0, (0, ()))))))).bind fun y1 =>
   bif (y1.2 != 0) then
    k ((bs []), y1.2)
   else
    bif (decide ((y1.1).size + ((bs [10])).size ≤ catMax)) then
     bif (decide ((s3.1).size + ((y1.1 ++ (bs [10]))).size ≤ catMax)) then
      r3 ((s3.1 ++ (y1.1 ++ (bs [10]))), (IntKind.wrap .i64 (s3.2 + 1)))
     else
      none
    else
     none
  else
   none
 else
  k (s3.1, 0)
theorem ref11_Print.l0 {Ω : Type} (fuel : Nat) (e3_1 : (List T_s36))  (k : AV → Option Ω) : ∀ m, (ref11_Print.M0 fuel e3_1  k m) = iter (ref11_Print.b0 e3_1  (fun r => k (tupAV .str [(.int .i64)] r))) m :=
 loopK_iter (envOf := (ref11_Print.E0 e3_1)) (LOf := (ref11_Print.H0 e3_1)) (B := ref11_Print.b0 e3_1  (fun r => k (tupAV .str [(.int .i64)] r))) (fun R s => by kernel_rfl)
def ref11_Print.sl {Ω : Type} (x0 : (List T_s36)) (lp0 : (List T_s36) → ByteArray × Int → Option Ω) (k : ByteArray × Int → Option Ω) : Option Ω :=
 lp0 x0 ((bs []), 0)
def ref11_Print.g0 {Ω : Type} (e3_1 : (List T_s36))  (k : ByteArray × Int → Option Ω) : List T_s36 → ByteArray → Option Ω
  | [], a3_0 =>
  k (a3_0, 0)
  | x3 :: xs3, a3_0 =>
  (ref11_Text.u (x3)).bind fun y1 =>
  bif (y1.2 != 0) then
   k ((bs []), y1.2)
  else
   bif (decide ((y1.1).size + ((bs [10])).size ≤ catMax)) then
    bif (decide ((a3_0).size + ((y1.1 ++ (bs [10]))).size ≤ catMax)) then
     ref11_Print.g0 e3_1  k xs3 ((a3_0 ++ (y1.1 ++ (bs [10]))))
    else
     none
   else
    none
theorem ref11_Print.h0 {Ω : Type} (e3_1 : (List T_s36))   (k : ByteArray × Int → Option Ω) (hX : ((List.length e3_1 : Nat) : Int) ≤ 9223372036854775807) : ∀ (m : Nat) (i : Int) (a : ByteArray), 0 ≤ i → i ≤ ((List.length e3_1 : Nat) : Int) → ((List.length e3_1 : Nat) : Int) < m + i → Le (ref11_Print.g0 e3_1  k (List.drop (Int.toNat i) e3_1) a) (iter (ref11_Print.b0 e3_1  k) m (a, i)) :=
  iter_list e3_1 (0, (0, (0, (0, ())))) (fun (i3 : Int) (a3 : ByteArray) => (a3, i3)) (fun xs i3 a3 => ref11_Print.g0 e3_1  k xs a3) (ref11_Print.b0 e3_1  k)
    (fun i3 a3 r h0 => (Le.fls h0 (Le.refl _)))
    (fun i3 xs3 a3 r h0 h1 hw ih => (Le.tru h0 (Le.tru h1 (Le.bnd fun y1 => (Le.cond (Le.refl _) (Le.cond (Le.cond (ih _ hw ((a3 ++ (y1.1 ++ (bs [10]))))) Le.nil) Le.nil))))))
    hX
def ref11_Print.w {Ω : Type} (x0 : (List T_s36)) (k : ByteArray × Int → Option Ω) : Option Ω :=
 bif decide (((List.length x0 : Nat) : Int) ≤ 4611686018427387904) then ref11_Print.g0 x0  k x0 (bs []) else none
theorem ref11_Print.ev {Ω : Type} (fuel : Nat) (x0 : (List T_s36)) (k : AV → Option Ω) : evFn CKMP (spE (C := CKMP) [ref11_Text.n] []) (ref11_Print.F fuel) Tryz.f6 (Tryz.f6.body.getD .skip) [(.v (.slice E_s36) (x0))] k = ref11_Print.sl x0 (fun e3_1 => (ref11_Print.M0 fuel e3_1  k fuel)) (fun r => k (tupAV .str [(.int .i64)] r)) := by kernel_rfl
theorem ref11_Print.le {Ω : Type} (x0 : (List T_s36)) (k : AV → Option Ω) : Le (ref11_Print.w x0 (fun r => k (tupAV .str [(.int .i64)] r))) (ref11_Print.sl x0 (fun e3_1 => (ref11_Print.M0 BIG e3_1  k BIG)) (fun r => k (tupAV .str [(.int .i64)] r))) := by
 have h1 := funext fun (e3_1 : (List T_s36)) => ref11_Print.l0 BIG e3_1   k BIG
 rw [h1]
 delta ref11_Print.w ref11_Print.sl
 exact (Le.gd fun hg => ref11_Print.h0 _   _ (le_up (of_decide_eq_true hg)) BIG 0 ((bs [])) (by decide) (zero_le_len _) (big_list (of_decide_eq_true hg)))
def ref11_Print.u (x0 : (List T_s36)) : Option (ByteArray × Int) := ref11_Print.w x0 some
noncomputable def ref11_Print.n : En CKMP := mkE CKMP_ok (es := [ref11_Text.n]) (ms := []) (fuel := (ref11_Print.F BIG)) 6 Tryz.f6 [.ai (.slice E_s36)] .str [(.int .i64)] (fun x {Ω} k => ref11_Print.w x.1 k) (fun x Ω k => leV (ref11_Print.ev BIG x.1 k) (ref11_Print.le x.1 k)) (by kernel_rfl) (by kernel_rfl)

def ref11_Read.F (fuel : Nat) : Fuel := ⟨fuel, fun r => bif r == 4 then mL 0 54 18014398509481502 else []⟩
noncomputable def ref11_Read.V {Ω : Type} (fuel c : Nat) (env : List AV) (L : Heap) (k : Kont Ω) : Option Ω := evCode CKMP (spE (C := CKMP) [ref11_Parse.n] []) (ref11_Read.F fuel) (pCo c Tryz.f8) env L k
def ref11_Read.E0 (e4_1 : ByteArray) (s4 : Int × Int × Int × (List T_s36)) : List AV := ((.v .str (e4_1)) :: dZ 4 ((.rs 1) :: (.v (.int .i64) (s4.1)) :: (.v (.int .i64) (s4.2.1)) :: (.v (.int .i64) (s4.2.2.1)) :: dZ 45 ([])))
def ref11_Read.H0 (e4_1 : ByteArray) (s4 : Int × Int × Int × (List T_s36)) : Heap := [(.row 37 E_s36 [] false), (.row 37 E_s36 s4.2.2.2 false)]
noncomputable def ref11_Read.M0 {Ω : Type} (fuel : Nat) (e4_1 : ByteArray)  (k : AV → Option Ω) (m : Nat) (s : Int × Int × Int × (List T_s36)) : Option Ω := loopK (ref11_Read.V fuel 151) (mB 54 18014398509481502) [] 2 (blockK 0 (sqK (ref11_Read.V fuel 31) (finK CKMP Tryz.f8 k))) m ((ref11_Read.E0 e4_1) s) ((ref11_Read.H0 e4_1) s)
def ref11_Read.b0 {Ω : Type} (e4_1 : ByteArray)   (k : (List T_s36) × Int × Int → Option Ω) (r4 : Int × Int × Int × (List T_s36) → Option Ω) (s4 : Int × Int × Int × (List T_s36)) : Option Ω :=
 bif (decide (s4.2.2.1 ≤ ((e4_1).size : Int))) then
  bif (decide (s4.2.2.1 < ((e4_1).size : Int))) then
   bif (idxOK s4.2.2.1 (e4_1).size) then
    bif ((bAt e4_1 (Int.toNat s4.2.2.1)) != 10) then
     r4 (s4.1, s4.2.1, (IntKind.wrap .i64 (s4.2.2.1 + 1)), s4.2.2.2)
    else
     bif (subC (some (s4.1)) (some (s4.2.2.1)) (e4_1).size) then
      (ref11_Parse.u ((subS (some (s4.1)) (some (s4.2.2.1)) e4_1))).bind fun y1 =>
      bif (y1.2 != 0) then
       bif (y1.2 != 11) then
        k ([], s4.2.1, y1.2)
       else
        bif (y1.2 == 0) then
         bif (decide (List.length s4.2.2.2 + List.length [y1.1] ≤ rowMax)) then
          r4 ((IntKind.wrap .i64 (s4.2.2.1 + 1)), (IntKind.wrap .i64 (s4.2.1 + 1)), (IntKind.wrap .i64 (s4.2.2.1 + 1)), (s4.2.2.2 ++ [y1.1]))
         else
          none
        else
         r4 ((IntKind.wrap .i64 (s4.2.2.1 + 1)), (IntKind.wrap .i64 (s4.2.1 + 1)), (IntKind.wrap .i64 (s4.2.2.1 + 1)), s4.2.2.2)
      else
       bif (y1.2 == 0) then
        bif (decide (List.length s4.2.2.2 + List.length [y1.1] ≤ rowMax)) then
         r4 ((IntKind.wrap .i64 (s4.2.2.1 + 1)), (IntKind.wrap .i64 (s4.2.1 + 1)), (IntKind.wrap .i64 (s4.2.2.1 + 1)), (s4.2.2.2 ++ [y1.1]))
        else
         none
       else
        r4 ((IntKind.wrap .i64 (s4.2.2.1 + 1)), (IntKind.wrap .i64 (s4.2.1 + 1)), (IntKind.wrap .i64 (s4.2.2.1 + 1)), s4.2.2.2)
     else
      none
   else
    none
  else
   bif (subC (some (s4.1)) (some (s4.2.2.1)) (e4_1).size) then
    (ref11_Parse.u ((subS (some (s4.1)) (some (s4.2.2.1)) e4_1))).bind fun y2 =>
    bif (y2.2 != 0) then
     bif (y2.2 != 11) then
      k ([], s4.2.1, y2.2)
     else
      bif (y2.2 == 0) then
       bif (decide (List.length s4.2.2.2 + List.length [y2.1] ≤ rowMax)) then
        r4 ((IntKind.wrap .i64 (s4.2.2.1 + 1)), (IntKind.wrap .i64 (s4.2.1 + 1)), (IntKind.wrap .i64 (s4.2.2.1 + 1)), (s4.2.2.2 ++ [y2.1]))
       else
        none
      else
       r4 ((IntKind.wrap .i64 (s4.2.2.1 + 1)), (IntKind.wrap .i64 (s4.2.1 + 1)), (IntKind.wrap .i64 (s4.2.2.1 + 1)), s4.2.2.2)
    else
     bif (y2.2 == 0) then
      bif (decide (List.length s4.2.2.2 + List.length [y2.1] ≤ rowMax)) then
       r4 ((IntKind.wrap .i64 (s4.2.2.1 + 1)), (IntKind.wrap .i64 (s4.2.1 + 1)), (IntKind.wrap .i64 (s4.2.2.1 + 1)), (s4.2.2.2 ++ [y2.1]))
      else
       none
     else
      r4 ((IntKind.wrap .i64 (s4.2.2.1 + 1)), (IntKind.wrap .i64 (s4.2.1 + 1)), (IntKind.wrap .i64 (s4.2.2.1 + 1)), s4.2.2.2)
   else
    none
 else
  k (s4.2.2.2, 0, 0)
theorem ref11_Read.l0 {Ω : Type} (fuel : Nat) (e4_1 : ByteArray)  (k : AV → Option Ω) : ∀ m, (ref11_Read.M0 fuel e4_1  k m) = iter (ref11_Read.b0 e4_1  (fun r => k (tupAV (.slice E_s36) [(.int .i64), (.int .i64)] r))) m :=
 loopK_iter (envOf := (ref11_Read.E0 e4_1)) (LOf := (ref11_Read.H0 e4_1)) (B := ref11_Read.b0 e4_1  (fun r => k (tupAV (.slice E_s36) [(.int .i64), (.int .i64)] r))) (fun R s => by kernel_rfl)
def ref11_Read.sl {Ω : Type} (x0 : ByteArray) (lp0 : ByteArray → Int × Int × Int × (List T_s36) → Option Ω) (k : (List T_s36) × Int × Int → Option Ω) : Option Ω :=
 lp0 x0 (0, 1, 0, [])
def ref11_Read.g0 {Ω : Type} (e4_1 : ByteArray)  (k : (List T_s36) × Int × Int → Option Ω) : Nat → Int → Int → Int → (List T_s36) → Option Ω
  | 0, a4_0, a4_1, i4, a4_3 =>
  k (a4_3, 0, 0)
  | d4 + 1, a4_0, a4_1, i4, a4_3 =>
  bif (decide (i4 < ((e4_1).size : Int))) then
   bif (idxOK i4 (e4_1).size) then
    bif ((bAt e4_1 (Int.toNat i4)) != 10) then
     ref11_Read.g0 e4_1  k d4 a4_0 a4_1 (i4 + 1) a4_3
    else
     bif (subC (some (a4_0)) (some (i4)) (e4_1).size) then
      (ref11_Parse.u ((subS (some (a4_0)) (some (i4)) e4_1))).bind fun y1 =>
      bif (y1.2 != 0) then
       bif (y1.2 != 11) then
        k ([], a4_1, y1.2)
       else
        bif (y1.2 == 0) then
         bif (decide (List.length a4_3 + List.length [y1.1] ≤ rowMax)) then
          ref11_Read.g0 e4_1  k d4 ((IntKind.wrap .i64 (i4 + 1))) ((IntKind.wrap .i64 (a4_1 + 1))) (i4 + 1) (a4_3 ++ [y1.1])
         else
          none
        else
         ref11_Read.g0 e4_1  k d4 ((IntKind.wrap .i64 (i4 + 1))) ((IntKind.wrap .i64 (a4_1 + 1))) (i4 + 1) a4_3
      else
       bif (y1.2 == 0) then
        bif (decide (List.length a4_3 + List.length [y1.1] ≤ rowMax)) then
         ref11_Read.g0 e4_1  k d4 ((IntKind.wrap .i64 (i4 + 1))) ((IntKind.wrap .i64 (a4_1 + 1))) (i4 + 1) (a4_3 ++ [y1.1])
        else
         none
       else
        ref11_Read.g0 e4_1  k d4 ((IntKind.wrap .i64 (i4 + 1))) ((IntKind.wrap .i64 (a4_1 + 1))) (i4 + 1) a4_3
     else
      none
   else
    none
  else
   bif (subC (some (a4_0)) (some (i4)) (e4_1).size) then
    (ref11_Parse.u ((subS (some (a4_0)) (some (i4)) e4_1))).bind fun y2 =>
    bif (y2.2 != 0) then
     bif (y2.2 != 11) then
      k ([], a4_1, y2.2)
     else
      bif (y2.2 == 0) then
       bif (decide (List.length a4_3 + List.length [y2.1] ≤ rowMax)) then
        ref11_Read.g0 e4_1  k d4 ((IntKind.wrap .i64 (i4 + 1))) ((IntKind.wrap .i64 (a4_1 + 1))) (i4 + 1) (a4_3 ++ [y2.1])
       else
        none
      else
       ref11_Read.g0 e4_1  k d4 ((IntKind.wrap .i64 (i4 + 1))) ((IntKind.wrap .i64 (a4_1 + 1))) (i4 + 1) a4_3
    else
     bif (y2.2 == 0) then
      bif (decide (List.length a4_3 + List.length [y2.1] ≤ rowMax)) then
       ref11_Read.g0 e4_1  k d4 ((IntKind.wrap .i64 (i4 + 1))) ((IntKind.wrap .i64 (a4_1 + 1))) (i4 + 1) (a4_3 ++ [y2.1])
      else
       none
     else
      ref11_Read.g0 e4_1  k d4 ((IntKind.wrap .i64 (i4 + 1))) ((IntKind.wrap .i64 (a4_1 + 1))) (i4 + 1) a4_3
   else
    none
theorem ref11_Read.h0 {Ω : Type} (e4_1 : ByteArray)   (k : (List T_s36) × Int × Int → Option Ω) (hN : ((((e4_1).size : Int) : Int) + 1) ≤ 9223372036854775807) : ∀ (m : Nat) (i : Int) (a : Int × Int × (List T_s36)), -9223372036854775808 ≤ i → Int.toNat (((((e4_1).size : Int) : Int) + 1) - i) < m → Le (ref11_Read.g0 e4_1  k (Int.toNat (((((e4_1).size : Int) : Int) + 1) - i)) a.1 a.2.1 i a.2.2) (iter (ref11_Read.b0 e4_1  k) m (a.1, a.2.1, i, a.2.2)) :=
  iter_count ((((e4_1).size : Int) : Int) + 1) (fun i4 => (decide (i4 ≤ ((e4_1).size : Int)))) (fun i => le_lt1 i _) (fun (i4 : Int) (a4 : Int × Int × (List T_s36)) => (a4.1, a4.2.1, i4, a4.2.2)) (fun xs i4 a4 => ref11_Read.g0 e4_1  k xs a4.1 a4.2.1 i4 a4.2.2) (ref11_Read.b0 e4_1  k)
    (fun i4 a4 r h0 => (Le.fls h0 (Le.refl _)))
    (fun i4 d4 a4 r h0 hw ih => (Le.tru h0 (Le.cond (Le.cond (Le.cond (ih _ hw (a4.1, a4.2.1, a4.2.2)) (Le.cond (Le.bnd fun y1 => (Le.cond (Le.cond (Le.refl _) (Le.cond (Le.cond (ih _ hw ((IntKind.wrap .i64 (i4 + 1)), (IntKind.wrap .i64 (a4.2.1 + 1)), (a4.2.2 ++ [y1.1]))) Le.nil) (ih _ hw ((IntKind.wrap .i64 (i4 + 1)), (IntKind.wrap .i64 (a4.2.1 + 1)), a4.2.2)))) (Le.cond (Le.cond (ih _ hw ((IntKind.wrap .i64 (i4 + 1)), (IntKind.wrap .i64 (a4.2.1 + 1)), (a4.2.2 ++ [y1.1]))) Le.nil) (ih _ hw ((IntKind.wrap .i64 (i4 + 1)), (IntKind.wrap .i64 (a4.2.1 + 1)), a4.2.2))))) Le.nil)) Le.nil) (Le.cond (Le.bnd fun y2 => (Le.cond (Le.cond (Le.refl _) (Le.cond (Le.cond (ih _ hw ((IntKind.wrap .i64 (i4 + 1)), (IntKind.wrap .i64 (a4.2.1 + 1)), (a4.2.2 ++ [y2.1]))) Le.nil) (ih _ hw ((IntKind.wrap .i64 (i4 + 1)), (IntKind.wrap .i64 (a4.2.1 + 1)), a4.2.2)))) (Le.cond (Le.cond (ih _ hw ((IntKind.wrap .i64 (i4 + 1)), (IntKind.wrap .i64 (a4.2.1 + 1)), (a4.2.2 ++ [y2.1]))) Le.nil) (ih _ hw ((IntKind.wrap .i64 (i4 + 1)), (IntKind.wrap .i64 (a4.2.1 + 1)), a4.2.2))))) Le.nil))))
    hN
def ref11_Read.w {Ω : Type} (x0 : ByteArray) (k : (List T_s36) × Int × Int → Option Ω) : Option Ω :=
 bif (decide (((x0).size : Int) ≤ 4611686018427387904)) then ref11_Read.g0 x0  k ((Int.toNat ((((x0).size : Int) + 1) - 0))) 0 1 0 ([]) else none
theorem ref11_Read.ev {Ω : Type} (fuel : Nat) (x0 : ByteArray) (k : AV → Option Ω) : evFn CKMP (spE (C := CKMP) [ref11_Parse.n] []) (ref11_Read.F fuel) Tryz.f8 (Tryz.f8.body.getD .skip) [(.v .str (x0))] k = ref11_Read.sl x0 (fun e4_1 => (ref11_Read.M0 fuel e4_1  k fuel)) (fun r => k (tupAV (.slice E_s36) [(.int .i64), (.int .i64)] r)) := by kernel_rfl
theorem ref11_Read.le {Ω : Type} (x0 : ByteArray) (k : AV → Option Ω) : Le (ref11_Read.w x0 (fun r => k (tupAV (.slice E_s36) [(.int .i64), (.int .i64)] r))) (ref11_Read.sl x0 (fun e4_1 => (ref11_Read.M0 BIG e4_1  k BIG)) (fun r => k (tupAV (.slice E_s36) [(.int .i64), (.int .i64)] r))) := by
 have h1 := funext fun (e4_1 : ByteArray) => ref11_Read.l0 BIG e4_1   k BIG
 rw [h1]
 delta ref11_Read.w ref11_Read.sl
 exact (Le.gd fun hg => ref11_Read.h0 _   _ (cnt_up1 hg) BIG 0 (0, 1, []) (by decide) (cnt_big1 hg (by decide)))
def ref11_Read.u (x0 : ByteArray) : Option ((List T_s36) × Int × Int) := ref11_Read.w x0 some
noncomputable def ref11_Read.n : En CKMP := mkE CKMP_ok (es := [ref11_Parse.n]) (ms := []) (fuel := (ref11_Read.F BIG)) 8 Tryz.f8 [.ai .str] (.slice E_s36) [(.int .i64), (.int .i64)] (fun x {Ω} k => ref11_Read.w x.1 k) (fun x Ω k => leV (ref11_Read.ev BIG x.1 k) (ref11_Read.le x.1 k)) (by kernel_rfl) (by kernel_rfl)

def law11_AsmTexts.s {Ω : Type} (x0 : (List T_s36)) (x1 : ByteArray) (k : Bool → Option Ω) : Option Ω :=
  bif (decide (((List.length x0 : Nat) : Int) > 40)) then
    law11_alive.u.bind fun y1 =>
    k y1
  else
    bif (decide (((x1).size : Int) > 1000)) then
      law11_alive.u.bind fun y2 =>
      k y2
    else
      (asm_Print.u x0).bind fun y3 =>
      (ref11_Print.u x0).bind fun y4 =>
      (asm_Read.u x1).bind fun y5 =>
      (ref11_Read.u x1).bind fun y6 =>
      bif ((y3.1).data.toList == (y4.1).data.toList) then
        bif (y3.2 == y4.2) then
          (ref11_Same.u y5.1 y6.1).bind fun y7 =>
          bif y7 then
            bif (y5.2.1 == y6.2.1) then
              bif (y5.2.2 == y6.2.2) then
                law11_alive.u.bind fun y8 =>
                k y8
              else
                k false
            else
              k false
          else
            k false
        else
          k false
      else
        k false
def law11_AsmTexts.u (x0 : (List T_s36)) (x1 : ByteArray) : Option (Bool) := law11_AsmTexts.s x0 x1 some
noncomputable def law11_AsmTexts.n : En CKMP := mkE CKMP_ok (es := [law11_alive.n, asm_Print.n, ref11_Print.n, asm_Read.n, ref11_Read.n, ref11_Same.n]) (ms := []) (fuel := ⟨1, fun _ => []⟩) 3 Tryz.f3 [.ai (.slice E_s36), .ai .str] .bool [] (fun x {Ω} k => law11_AsmTexts.s x.1 x.2.1 k) (fun x Ω k => Le.of (by kernel_rfl)) (by kernel_rfl) (by kernel_rfl)

end Go.Proofs.YtmmooplcdkmapaaGreatDoor.K

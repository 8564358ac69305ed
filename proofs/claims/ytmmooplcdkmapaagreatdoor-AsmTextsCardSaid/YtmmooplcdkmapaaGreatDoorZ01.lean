/- What functions of the program come to, plainly. -/
import Derived.Test.YtmmooplcdkmapaaGreatDoorS
set_option maxRecDepth 100000
set_option linter.unusedVariables false
namespace Go.Proofs.YtmmooplcdkmapaaGreatDoor.K
open Go Go.RowKit

def ref01_Digits.F (fuel : Nat) : Fuel := ⟨fuel, fun r => bif r == 2 then mL 0 23 8388598 else []⟩
noncomputable def ref01_Digits.V {Ω : Type} (fuel c : Nat) (env : List AV) (L : Heap) (k : Kont Ω) : Option Ω := evCode CKMP (spE (C := CKMP) [] []) (ref01_Digits.F fuel) (pCo c Tryz.f32) env L k
def ref01_Digits.E0  (s2 : Int × ByteArray) : List AV := ((.v (.int .i64) (s2.1)) :: dZ 2 ((.v .str (s2.2)) :: dZ 19 ([])))
def ref01_Digits.H0  (s2 : Int × ByteArray) : Heap := []
noncomputable def ref01_Digits.M0 {Ω : Type} (fuel : Nat)   (k : AV → Option Ω) (m : Nat) (s : Int × ByteArray) : Option Ω := loopK (ref01_Digits.V fuel 35) (mB 23 8388598) [] 0 (blockK 0 (sqK (ref01_Digits.V fuel 15) (finK CKMP Tryz.f32 k))) m ((ref01_Digits.E0 ) s) ((ref01_Digits.H0 ) s)
def ref01_Digits.b0 {Ω : Type}    (k : ByteArray → Option Ω) (r2 : Int × ByteArray → Option Ω) (s2 : Int × ByteArray) : Option Ω :=
 bif (decide (s2.1 > 9)) then
  bif (decide (((ofBytes [(IntKind.wrap .u8 (IntKind.wrap .i64 (48 + (Int.tmod s2.1 10))))])).size + (s2.2).size ≤ catMax)) then
   r2 ((IntKind.wrap .i64 (Int.tdiv s2.1 10)), ((ofBytes [(IntKind.wrap .u8 (IntKind.wrap .i64 (48 + (Int.tmod s2.1 10))))]) ++ s2.2))
  else
   none
 else
  bif (decide (((ofBytes [(IntKind.wrap .u8 (IntKind.wrap .i64 (48 + s2.1)))])).size + (s2.2).size ≤ catMax)) then
   k ((ofBytes [(IntKind.wrap .u8 (IntKind.wrap .i64 (48 + s2.1)))]) ++ s2.2)
  else
   none
theorem ref01_Digits.l0 {Ω : Type} (fuel : Nat)   (k : AV → Option Ω) : ∀ m, (ref01_Digits.M0 fuel   k m) = iter (ref01_Digits.b0   (fun r => k (tupAV .str [] r))) m :=
 loopK_iter (envOf := (ref01_Digits.E0 )) (LOf := (ref01_Digits.H0 )) (B := ref01_Digits.b0   (fun r => k (tupAV .str [] r))) (fun R s => by kernel_rfl)
def ref01_Digits.sl {Ω : Type} (x0 : Int) (lp0 : Int × ByteArray → Option Ω) (k : ByteArray → Option Ω) : Option Ω :=
 lp0 (x0, (bs []))
def ref01_Digits.gb0 {Ω : Type}   (k : ByteArray → Option Ω) (r2 : Int × ByteArray → Option Ω) (s2 : Int × ByteArray) : Option Ω :=
 bif (decide (s2.1 > 9)) then
  bif (decide (((ofBytes [(IntKind.wrap .u8 (IntKind.wrap .i64 (48 + (Int.tmod s2.1 10))))])).size + (s2.2).size ≤ catMax)) then
   r2 ((IntKind.wrap .i64 (Int.tdiv s2.1 10)), ((ofBytes [(IntKind.wrap .u8 (IntKind.wrap .i64 (48 + (Int.tmod s2.1 10))))]) ++ s2.2))
  else
   none
 else
  bif (decide (((ofBytes [(IntKind.wrap .u8 (IntKind.wrap .i64 (48 + s2.1)))])).size + (s2.2).size ≤ catMax)) then
   k ((ofBytes [(IntKind.wrap .u8 (IntKind.wrap .i64 (48 + s2.1)))]) ++ s2.2)
  else
   none
def ref01_Digits.g0 {Ω : Type}   (k : ByteArray → Option Ω) (s : Int × ByteArray) : Option Ω := iter (ref01_Digits.gb0   k) BIG s
theorem ref01_Digits.h0 {Ω : Type}    (k : ByteArray → Option Ω) (s : Int × ByteArray) : Le (ref01_Digits.g0   k s) (iter (ref01_Digits.b0   k) BIG s) :=
  iter_le (B := ref01_Digits.gb0   k) (B' := (ref01_Digits.b0   k)) (fun r2 r2' s2 ih => (Le.cond (Le.cond (ih _) Le.nil) (Le.cond (Le.refl _) Le.nil))) BIG s
def ref01_Digits.w {Ω : Type} (x0 : Int) (k : ByteArray → Option Ω) : Option Ω :=
 ref01_Digits.g0   k (x0, (bs []))
theorem ref01_Digits.ev {Ω : Type} (fuel : Nat) (x0 : Int) (k : AV → Option Ω) : evFn CKMP (spE (C := CKMP) [] []) (ref01_Digits.F fuel) Tryz.f32 (Tryz.f32.body.getD .skip) [(.v (.int .i64) (x0))] k = ref01_Digits.sl x0 (ref01_Digits.M0 fuel   k fuel) (fun r => k (tupAV .str [] r)) := by kernel_rfl
theorem ref01_Digits.le {Ω : Type} (x0 : Int) (k : AV → Option Ω) : Le (ref01_Digits.w x0 (fun r => k (tupAV .str [] r))) (ref01_Digits.sl x0 (ref01_Digits.M0 BIG   k BIG) (fun r => k (tupAV .str [] r))) := by
 have h1 := ref01_Digits.l0 BIG    k BIG
 rw [h1]
 delta ref01_Digits.w ref01_Digits.sl
 exact (ref01_Digits.h0    _ _)
def ref01_Digits.u (x0 : Int) : Option (ByteArray) := ref01_Digits.w x0 some
noncomputable def ref01_Digits.n : En CKMP := mkE CKMP_ok (es := []) (ms := []) (fuel := (ref01_Digits.F BIG)) 32 Tryz.f32 [.ai (.int .i64)] .str [] (fun x {Ω} k => ref01_Digits.w x.1 k) (fun x Ω k => leV (ref01_Digits.ev BIG x.1 k) (ref01_Digits.le x.1 k)) (by kernel_rfl) (by kernel_rfl)

def ref01_Plain.F (fuel : Nat) : Fuel := ⟨fuel, fun r => bif r == 5 then mL 0 44 17592186044366 else []⟩
noncomputable def ref01_Plain.V {Ω : Type} (fuel c : Nat) (env : List AV) (L : Heap) (k : Kont Ω) : Option Ω := evCode CKMP (spE (C := CKMP) [] []) (ref01_Plain.F fuel) (pCo c Tryz.f71) env L k
def ref01_Plain.E0 (e5_1 : ByteArray) (s5 : Int × Int) : List AV := ((.v .str (e5_1)) :: dZ 3 ((.v (.int .i64) (s5.1)) :: (.v (.int .i64) (s5.2)) :: dZ 38 ([])))
def ref01_Plain.H0 (e5_1 : ByteArray) (s5 : Int × Int) : Heap := []
noncomputable def ref01_Plain.M0 {Ω : Type} (fuel : Nat) (e5_1 : ByteArray)  (k : AV → Option Ω) (m : Nat) (s : Int × Int) : Option Ω := loopK (ref01_Plain.V fuel 151) (mB 44 17592186044366) [] 0 (blockK 0 (sqK (ref01_Plain.V fuel 31) (finK CKMP Tryz.f71 k))) m ((ref01_Plain.E0 e5_1) s) ((ref01_Plain.H0 e5_1) s)
def ref01_Plain.b0 {Ω : Type} (e5_1 : ByteArray)   (k : Int × Bool → Option Ω) (r5 : Int × Int → Option Ω) (s5 : Int × Int) : Option Ω :=
 bif (decide (s5.2 < ((e5_1).size : Int))) then
  bif (idxOK s5.2 (e5_1).size) then
   bif (decide ((bAt e5_1 (Int.toNat s5.2)) < 48)) then
    k (0, false)
   else
    bif (idxOK s5.2 (e5_1).size) then
     bif (decide ((bAt e5_1 (Int.toNat s5.2)) > 57)) then
      k (0, false)
     else
      bif (idxOK s5.2 (e5_1).size) then
       let v1 : Int := (IntKind.wrap .i64 ((IntKind.wrap .i64 (10 * s5.1)) + (IntKind.wrap .i64 (IntKind.wrap .u8 ((bAt e5_1 (Int.toNat s5.2)) - 48)))))
       r5 ((if (1000000000 : Int) < v1 then 1000000000 else v1), (IntKind.wrap .i64 (s5.2 + 1)))
      else
       none
    else
     none
  else
   none
 else
  k (s5.1, true)
theorem ref01_Plain.l0 {Ω : Type} (fuel : Nat) (e5_1 : ByteArray)  (k : AV → Option Ω) : ∀ m, (ref01_Plain.M0 fuel e5_1  k m) = iter (ref01_Plain.b0 e5_1  (fun r => k (tupAV (.int .i64) [.bool] r))) m :=
 loopK_iter (envOf := (ref01_Plain.E0 e5_1)) (LOf := (ref01_Plain.H0 e5_1)) (B := ref01_Plain.b0 e5_1  (fun r => k (tupAV (.int .i64) [.bool] r))) (fun R s => by kernel_rfl)
def ref01_Plain.sl {Ω : Type} (x0 : ByteArray) (lp0 : ByteArray → Int × Int → Option Ω) (k : Int × Bool → Option Ω) : Option Ω :=
 bif ((x0).data.toList == ((bs [])).data.toList) then
  k (0, false)
 else
  bif (idxOK 0 (x0).size) then
   bif ((bAt x0 0) == 48) then
    bif (decide (((x0).size : Int) > 1)) then
     k (0, false)
    else
     lp0 x0 (0, 0)
   else
    lp0 x0 (0, 0)
  else
   none
def ref01_Plain.g0 {Ω : Type} (e5_1 : ByteArray)  (k : Int × Bool → Option Ω) : Nat → Int → Int → Option Ω
  | 0, a5_0, i5 =>
  k (a5_0, true)
  | d5 + 1, a5_0, i5 =>
  bif (idxOK i5 (e5_1).size) then
   bif (decide ((bAt e5_1 (Int.toNat i5)) < 48)) then
    k (0, false)
   else
    bif (idxOK i5 (e5_1).size) then
     bif (decide ((bAt e5_1 (Int.toNat i5)) > 57)) then
      k (0, false)
     else
      bif (idxOK i5 (e5_1).size) then
       let v1 : Int := (IntKind.wrap .i64 ((IntKind.wrap .i64 (10 * a5_0)) + (IntKind.wrap .i64 (IntKind.wrap .u8 ((bAt e5_1 (Int.toNat i5)) - 48)))))
       ref01_Plain.g0 e5_1  k d5 ((if (1000000000 : Int) < v1 then 1000000000 else v1)) (i5 + 1)
      else
       none
    else
     none
  else
   none
theorem ref01_Plain.h0 {Ω : Type} (e5_1 : ByteArray)   (k : Int × Bool → Option Ω) (hN : (((e5_1).size : Int) : Int) ≤ 9223372036854775807) : ∀ (m : Nat) (i : Int) (a : Int), -9223372036854775808 ≤ i → Int.toNat ((((e5_1).size : Int) : Int) - i) < m → Le (ref01_Plain.g0 e5_1  k (Int.toNat ((((e5_1).size : Int) : Int) - i)) a i) (iter (ref01_Plain.b0 e5_1  k) m (a, i)) :=
  iter_count (((e5_1).size : Int) : Int) (fun i5 => (decide (i5 < ((e5_1).size : Int)))) (fun i => rfl) (fun (i5 : Int) (a5 : Int) => (a5, i5)) (fun xs i5 a5 => ref01_Plain.g0 e5_1  k xs a5 i5) (ref01_Plain.b0 e5_1  k)
    (fun i5 a5 r h0 => (Le.fls h0 (Le.refl _)))
    (fun i5 d5 a5 r h0 hw ih => (Le.tru h0 (Le.cond (Le.cond (Le.refl _) (Le.cond (Le.cond (Le.refl _) (Le.cond (let v1 : Int := (IntKind.wrap .i64 ((IntKind.wrap .i64 (10 * a5)) + (IntKind.wrap .i64 (IntKind.wrap .u8 ((bAt e5_1 (Int.toNat i5)) - 48))))); (ih _ hw ((if (1000000000 : Int) < v1 then 1000000000 else v1)))) Le.nil)) Le.nil)) Le.nil)))
    hN
def ref01_Plain.w {Ω : Type} (x0 : ByteArray) (k : Int × Bool → Option Ω) : Option Ω :=
 bif ((x0).data.toList == ((bs [])).data.toList) then
  k (0, false)
 else
  bif (idxOK 0 (x0).size) then
   bif ((bAt x0 0) == 48) then
    bif (decide (((x0).size : Int) > 1)) then
     k (0, false)
    else
     bif (decide (((x0).size : Int) ≤ 4611686018427387904)) then ref01_Plain.g0 x0  k ((Int.toNat (((x0).size : Int) - 0))) 0 0 else none
   else
    bif (decide (((x0).size : Int) ≤ 4611686018427387904)) then ref01_Plain.g0 x0  k ((Int.toNat (((x0).size : Int) - 0))) 0 0 else none
  else
   none
theorem ref01_Plain.ev {Ω : Type} (fuel : Nat) (x0 : ByteArray) (k : AV → Option Ω) : evFn CKMP (spE (C := CKMP) [] []) (ref01_Plain.F fuel) Tryz.f71 (Tryz.f71.body.getD .skip) [(.v .str (x0))] k = ref01_Plain.sl x0 (fun e5_1 => (ref01_Plain.M0 fuel e5_1  k fuel)) (fun r => k (tupAV (.int .i64) [.bool] r)) := by kernel_rfl
theorem ref01_Plain.le {Ω : Type} (x0 : ByteArray) (k : AV → Option Ω) : Le (ref01_Plain.w x0 (fun r => k (tupAV (.int .i64) [.bool] r))) (ref01_Plain.sl x0 (fun e5_1 => (ref01_Plain.M0 BIG e5_1  k BIG)) (fun r => k (tupAV (.int .i64) [.bool] r))) := by
 have h1 := funext fun (e5_1 : ByteArray) => ref01_Plain.l0 BIG e5_1   k BIG
 rw [h1]
 delta ref01_Plain.w ref01_Plain.sl
 exact (Le.cond (Le.refl _) (Le.cond (Le.cond (Le.cond (Le.refl _) (Le.gd fun hg => ref01_Plain.h0 _   _ (cnt_up hg) BIG 0 (0) (by decide) (cnt_big hg (by decide)))) (Le.gd fun hg => ref01_Plain.h0 _   _ (cnt_up hg) BIG 0 (0) (by decide) (cnt_big hg (by decide)))) Le.nil))
def ref01_Plain.u (x0 : ByteArray) : Option (Int × Bool) := ref01_Plain.w x0 some
noncomputable def ref01_Plain.n : En CKMP := mkE CKMP_ok (es := []) (ms := []) (fuel := (ref01_Plain.F BIG)) 71 Tryz.f71 [.ai .str] (.int .i64) [.bool] (fun x {Ω} k => ref01_Plain.w x.1 k) (fun x Ω k => leV (ref01_Plain.ev BIG x.1 k) (ref01_Plain.le x.1 k)) (by kernel_rfl) (by kernel_rfl)

end Go.Proofs.YtmmooplcdkmapaaGreatDoor.K

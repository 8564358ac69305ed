/- What functions of the program come to, plainly. -/
import Derived.Test.YtmmooplcdkmapaaDoorZ11aa
set_option maxRecDepth 100000
set_option linter.unusedVariables false
namespace Go.Proofs.YtmmooplcdkmapaaDoor.K
open Go Go.RowKit

def ref11_value.F (fuel : Nat) : Fuel := ⟨fuel, fun r => bif r == 4 then mL 0 47 140737488355261 else []⟩
noncomputable def ref11_value.V {Ω : Type} (fuel c : Nat) (env : List AV) (L : Heap) (k : Kont Ω) : Option Ω := evCode CKMP (spE (C := CKMP) [ref11_marked.n] []) (ref11_value.F fuel) (pCo c Tryd.f32) env L k
def ref11_value.E0 (e4_1 : ByteArray) (s4 : Int) : List AV := (dZ 1 ((.v .str (e4_1)) :: dZ 4 ((.v (.int .i64) (s4)) :: dZ 40 ([]))))
def ref11_value.H0 (e4_1 : ByteArray) (s4 : Int) : Heap := []
noncomputable def ref11_value.M0 {Ω : Type} (fuel : Nat) (e4_1 : ByteArray)  (k : AV → Option Ω) (m : Nat) (s : Int) : Option Ω := loopK (ref11_value.V fuel 1173) (mB 47 140737488355261) [] 0 (blockK 1 (sqK (ref11_value.V fuel 213) (blockK 0 (sqK (ref11_value.V fuel 7) (finK CKMP Tryd.f32 k))))) m ((ref11_value.E0 e4_1) s) ((ref11_value.H0 e4_1) s)
def ref11_value.b0 {Ω : Type} (e4_1 : ByteArray)   (k : Int × Int → Option Ω) (r4 : Int → Option Ω) (s4 : Int) : Option Ω :=
 bif (decide (s4 < 3)) then
  bif (idxOK s4 (List.length [(bs [112, 114, 105]), (bs [102, 97, 105, 114]), (bs [97, 110, 121])])) then
   let v1 : ByteArray := (List.getD [(bs [112, 114, 105]), (bs [102, 97, 105, 114]), (bs [97, 110, 121])] (Int.toNat s4) (bs []))
   bif ((e4_1).data.toList == (v1).data.toList) then
    k (s4, 0)
   else
    r4 ((IntKind.wrap .i64 (s4 + 1)))
  else
   none
 else
  k (0, 3)
theorem ref11_value.l0 {Ω : Type} (fuel : Nat) (e4_1 : ByteArray)  (k : AV → Option Ω) : ∀ m, (ref11_value.M0 fuel e4_1  k m) = iter (ref11_value.b0 e4_1  (fun r => k (tupAV (.int .i64) [(.int .i64)] r))) m :=
 loopK_iter (envOf := (ref11_value.E0 e4_1)) (LOf := (ref11_value.H0 e4_1)) (B := ref11_value.b0 e4_1  (fun r => k (tupAV (.int .i64) [(.int .i64)] r))) (fun R s => by kernel_rfl)
def ref11_value.sl {Ω : Type} (x0 : Int) (x1 : ByteArray) (lp0 : ByteArray → Int → Option Ω) (k : Int × Int → Option Ω) : Option Ω :=
 bif (x0 == 109) then
  lp0 x1 (0)
 else
  bif (x0 == 116) then
   (ref11_marked.u x1 (bs [64])).bind fun y2 =>
   k (y2.1, y2.2)
  else
   bif (x0 == 110) then
    (ref11_marked.u x1 (bs [])).bind fun y3 =>
    k (y3.1, y3.2)
   else
    bif (x0 == 115) then
     (ref11_marked.u x1 (bs [])).bind fun y4 =>
     k (y4.1, y4.2)
    else
     bif (x0 == 103) then
      (ref11_marked.u x1 (bs [114])).bind fun y5 =>
      k (y5.1, y5.2)
     else
      (ref11_marked.u x1 (ofBytes [x0])).bind fun y6 =>
      k (y6.1, y6.2)
def ref11_value.g0 {Ω : Type} (e4_1 : ByteArray)  (k : Int × Int → Option Ω) : Nat → Int → Option Ω
  | 0, i4 =>
  k (0, 3)
  | d4 + 1, i4 =>
  bif (idxOK i4 (List.length [(bs [112, 114, 105]), (bs [102, 97, 105, 114]), (bs [97, 110, 121])])) then
   let v1 : ByteArray := (List.getD [(bs [112, 114, 105]), (bs [102, 97, 105, 114]), (bs [97, 110, 121])] (Int.toNat i4) (bs []))
   bif ((e4_1).data.toList == (v1).data.toList) then
    k (i4, 0)
   else
    ref11_value.g0 e4_1  k d4 (i4 + 1)
  else
   none
theorem ref11_value.h0 {Ω : Type} (e4_1 : ByteArray)   (k : Int × Int → Option Ω) (hN : (3 : Int) ≤ 9223372036854775807) : ∀ (m : Nat) (i : Int) (a : Unit), -9223372036854775808 ≤ i → Int.toNat ((3 : Int) - i) < m → Le (ref11_value.g0 e4_1  k (Int.toNat ((3 : Int) - i)) i) (iter (ref11_value.b0 e4_1  k) m (i)) :=
  iter_count (3 : Int) (fun i4 => (decide (i4 < 3))) (fun i => rfl) (fun (i4 : Int) (a4 : Unit) => (i4)) (fun xs i4 a4 => ref11_value.g0 e4_1  k xs i4) (ref11_value.b0 e4_1  k)
    (fun i4 a4 r h0 => (Le.fls h0 (Le.refl _)))
    (fun i4 d4 a4 r h0 hw ih => (Le.tru h0 (Le.cond (let v1 : ByteArray := (List.getD [(bs [112, 114, 105]), (bs [102, 97, 105, 114]), (bs [97, 110, 121])] (Int.toNat i4) (bs [])); (Le.cond (Le.refl _) (ih _ hw ()))) Le.nil)))
    hN
def ref11_value.w {Ω : Type} (x0 : Int) (x1 : ByteArray) (k : Int × Int → Option Ω) : Option Ω :=
 bif (x0 == 109) then
  ref11_value.g0 x1  k ((Int.toNat ((3 : Int) - 0))) 0
 else
  bif (x0 == 116) then
   (ref11_marked.u x1 (bs [64])).bind fun y2 =>
   k (y2.1, y2.2)
  else
   bif (x0 == 110) then
    (ref11_marked.u x1 (bs [])).bind fun y3 =>
    k (y3.1, y3.2)
   else
    bif (x0 == 115) then
     (ref11_marked.u x1 (bs [])).bind fun y4 =>
     k (y4.1, y4.2)
    else
     bif (x0 == 103) then
      (ref11_marked.u x1 (bs [114])).bind fun y5 =>
      k (y5.1, y5.2)
     else
      (ref11_marked.u x1 (ofBytes [x0])).bind fun y6 =>
      k (y6.1, y6.2)
theorem ref11_value.ev {Ω : Type} (fuel : Nat) (x0 : Int) (x1 : ByteArray) (k : AV → Option Ω) : evFn CKMP (spE (C := CKMP) [ref11_marked.n] []) (ref11_value.F fuel) Tryd.f32 (Tryd.f32.body.getD .skip) [(.v (.int .u8) (x0)), (.v .str (x1))] k = ref11_value.sl x0 x1 (fun e4_1 => (ref11_value.M0 fuel e4_1  k fuel)) (fun r => k (tupAV (.int .i64) [(.int .i64)] r)) := by kernel_rfl
theorem ref11_value.le {Ω : Type} (x0 : Int) (x1 : ByteArray) (k : AV → Option Ω) : Le (ref11_value.w x0 x1 (fun r => k (tupAV (.int .i64) [(.int .i64)] r))) (ref11_value.sl x0 x1 (fun e4_1 => (ref11_value.M0 BIG e4_1  k BIG)) (fun r => k (tupAV (.int .i64) [(.int .i64)] r))) := by
 have h1 := funext fun (e4_1 : ByteArray) => ref11_value.l0 BIG e4_1   k BIG
 rw [h1]
 delta ref11_value.w ref11_value.sl
 exact (Le.cond (ref11_value.h0 _   _ (by decide) BIG 0 () (by decide) (by decide)) (Le.cond (Le.bnd fun y2 => (Le.refl _)) (Le.cond (Le.bnd fun y3 => (Le.refl _)) (Le.cond (Le.bnd fun y4 => (Le.refl _)) (Le.cond (Le.bnd fun y5 => (Le.refl _)) (Le.bnd fun y6 => (Le.refl _)))))))
def ref11_value.u (x0 : Int) (x1 : ByteArray) : Option (Int × Int) := ref11_value.w x0 x1 some
noncomputable def ref11_value.n : En CKMP := mkE CKMP_ok (es := [ref11_marked.n]) (ms := []) (fuel := (ref11_value.F BIG)) 32 Tryd.f32 [.ai (.int .u8), .ai .str] (.int .i64) [(.int .i64)] (fun x {Ω} k => ref11_value.w x.1 x.2.1 k) (fun x Ω k => leV (ref11_value.ev BIG x.1 x.2.1 k) (ref11_value.le x.1 x.2.1 k)) (by kernel_rfl) (by kernel_rfl)

def ref11_ends.s {Ω : Type} (x0 : Int) (k : Int × Int → Option Ω) : Option Ω :=
  bif (x0 == 116) then
    k (0, 64)
  else
    bif (x0 == 107) then
      k (0, 3)
    else
      bif (x0 == 109) then
        k (0, 2)
      else
        bif (x0 == 110) then
          k (1, 6)
        else
          bif (x0 == 115) then
            k (1, 255)
          else
            k (0, 7)
def ref11_ends.t (x0 : Int) : Int × Int :=
  bif (x0 == 116) then
    (0, 64)
  else
    bif (x0 == 107) then
      (0, 3)
    else
      bif (x0 == 109) then
        (0, 2)
      else
        bif (x0 == 110) then
          (1, 6)
        else
          bif (x0 == 115) then
            (1, 255)
          else
            (0, 7)
theorem ref11_ends.v {Ω : Type} (x0 : Int) (k : Int × Int → Option Ω) : ref11_ends.s x0 k = k (ref11_ends.t x0) := by
  delta ref11_ends.s ref11_ends.t; exact (cond_tot rfl (cond_tot rfl (cond_tot rfl (cond_tot rfl (cond_tot rfl rfl)))))
noncomputable def ref11_ends.n : En CKMP := mkT CKMP_ok (es := []) (ms := []) (fuel := ⟨1, fun _ => []⟩) 33 Tryd.f33 [.ai (.int .u8)] (.int .i64) [(.int .i64)] (fun x {Ω} k => ref11_ends.s x.1 k) (fun x => ref11_ends.t x.1) (fun x Ω k => by kernel_rfl) (fun x => ref11_ends.v x.1 some) (by kernel_rfl) (by kernel_rfl)

def ref11_Parse.F (fuel : Nat) : Fuel := ⟨fuel, fun r => bif r == 11 then mL 0 145 44601490397061246283071436545296723011958859 else []⟩
noncomputable def ref11_Parse.V {Ω : Type} (fuel c : Nat) (env : List AV) (L : Heap) (k : Kont Ω) : Option Ω := evCode CKMP (spE (C := CKMP) [ref09_Of.n, ref11_Words.n, ref09_Find.n, ref11_pair.n, ref11_value.n, ref11_ends.n] []) (ref11_Parse.F fuel) (pCo c Tryd.f10) env L k
def ref11_Parse.E0 (e11_1 : (List ByteArray)) (e11_2 : Int) (e11_3 : ByteArray) (s11 : Int × Int × (List Int)) : List AV := (dZ 2 ((.ref 0 []) :: dZ 1 ((.v (.slice .str) (e11_1)) :: (.v (.int .i64) (e11_2)) :: dZ 1 ((.v .str (e11_3)) :: (.ref 1 []) :: (.v (.int .i64) (s11.1)) :: (.v (.int .i64) (s11.2.1)) :: dZ 134 ([])))))
def ref11_Parse.H0 (e11_1 : (List ByteArray)) (e11_2 : Int) (e11_3 : ByteArray) (s11 : Int × Int × (List Int)) : Heap := [(.box E_s22 (0, (0, (0, (0, ())))) false), (.box (.arr 3 (.int .i64)) s11.2.2 false)]
noncomputable def ref11_Parse.M0 {Ω : Type} (fuel : Nat) (e11_1 : (List ByteArray)) (e11_2 : Int) (e11_3 : ByteArray)  (k : AV → Option Ω) (m : Nat) (s : Int × Int × (List Int)) : Option Ω := loopK (ref11_Parse.V fuel 4863) (mB 145 44601490397061246283071436545296723011958859) [] 2 (blockK 0 (sqK (ref11_Parse.V fuel 1023) (finK CKMP Tryd.f10 k))) m ((ref11_Parse.E0 e11_1 e11_2 e11_3) s) ((ref11_Parse.H0 e11_1 e11_2 e11_3) s)
def ref11_Parse.b0 {Ω : Type} (e11_1 : (List ByteArray)) (e11_2 : Int) (e11_3 : ByteArray)   (k : T_s22 × Int → Option Ω) (r11 : Int × Int × (List Int) → Option Ω) (s11 : Int × Int × (List Int)) : Option Ω :=
 bif (decide (s11.2.1 < 3)) then
  bif (idxOK s11.2.1 (e11_3).size) then
   bif ((bAt e11_3 (Int.toNat s11.2.1)) == 45) then
    r11 (s11.1, (IntKind.wrap .i64 (s11.2.1 + 1)), s11.2.2)
   else
    bif ((bAt e11_3 (Int.toNat s11.2.1)) == 106) then
     r11 (s11.1, (IntKind.wrap .i64 (s11.2.1 + 1)), s11.2.2)
    else
     bif ((bAt e11_3 (Int.toNat s11.2.1)) == 103) then
      bif (s11.1 == ((List.length e11_1 : Nat) : Int)) then
       bif (idxOK s11.2.1 3) then
        r11 (s11.1, (IntKind.wrap .i64 (s11.2.1 + 1)), (List.set s11.2.2 (Int.toNat s11.2.1) 8))
       else
        none
      else
       bif (idxOK s11.1 (List.length e11_1)) then
        let v4 : Bool := (!(((List.getD e11_1 (Int.toNat s11.1) (bs []))).data.toList == ((bs [105, 102])).data.toList))
        bif v4 then
         k ((0, (0, (0, (0, ())))), 3)
        else
         bif ((IntKind.wrap .i64 (s11.1 + 1)) == ((List.length e11_1 : Nat) : Int)) then
          k ((0, (0, (0, (0, ())))), 4)
         else
          bif ((bAt e11_3 (Int.toNat s11.2.1)) == 105) then
           bif (idxOK (IntKind.wrap .i64 (s11.1 + 1)) (List.length e11_1)) then
            (ref11_pair.u ((List.getD e11_1 (Int.toNat (IntKind.wrap .i64 (s11.1 + 1))) (bs [])))).bind fun y5 =>
            bif (y5.2 != 0) then
             k ((0, (0, (0, (0, ())))), y5.2)
            else
             bif (idxOK s11.2.1 3) then
              bif (idxOK (IntKind.wrap .i64 (s11.2.1 + 1)) 3) then
               r11 ((IntKind.wrap .i64 ((IntKind.wrap .i64 (s11.1 + 1)) + 1)), (IntKind.wrap .i64 (s11.2.1 + 1)), (List.set (List.set s11.2.2 (Int.toNat s11.2.1) (IntKind.wrap .i64 (Int.tdiv y5.1 256))) (Int.toNat (IntKind.wrap .i64 (s11.2.1 + 1))) (Int.tmod y5.1 256)))
              else
               none
             else
              none
           else
            none
          else
           bif (idxOK (IntKind.wrap .i64 (s11.1 + 1)) (List.length e11_1)) then
            (ref11_value.u ((bAt e11_3 (Int.toNat s11.2.1))) ((List.getD e11_1 (Int.toNat (IntKind.wrap .i64 (s11.1 + 1))) (bs [])))).bind fun y6 =>
            bif (y6.2 != 0) then
             k ((0, (0, (0, (0, ())))), y6.2)
            else
             let v7 : Int × Int := (ref11_ends.t ((bAt e11_3 (Int.toNat s11.2.1))))
             bif (decide (y6.1 < v7.1)) then
              k ((0, (0, (0, (0, ())))), 8)
             else
              bif (decide (y6.1 > v7.2)) then
               k ((0, (0, (0, (0, ())))), 8)
              else
               bif (idxOK s11.2.1 3) then
                r11 ((IntKind.wrap .i64 ((IntKind.wrap .i64 (s11.1 + 1)) + 1)), (IntKind.wrap .i64 (s11.2.1 + 1)), (List.set s11.2.2 (Int.toNat s11.2.1) y6.1))
               else
                none
           else
            none
       else
        none
     else
      bif (s11.1 == ((List.length e11_1 : Nat) : Int)) then
       k ((0, (0, (0, (0, ())))), 4)
      else
       bif ((bAt e11_3 (Int.toNat s11.2.1)) == 105) then
        bif (idxOK s11.1 (List.length e11_1)) then
         (ref11_pair.u ((List.getD e11_1 (Int.toNat s11.1) (bs [])))).bind fun y8 =>
         bif (y8.2 != 0) then
          k ((0, (0, (0, (0, ())))), y8.2)
         else
          bif (idxOK s11.2.1 3) then
           bif (idxOK (IntKind.wrap .i64 (s11.2.1 + 1)) 3) then
            r11 ((IntKind.wrap .i64 (s11.1 + 1)), (IntKind.wrap .i64 (s11.2.1 + 1)), (List.set (List.set s11.2.2 (Int.toNat s11.2.1) (IntKind.wrap .i64 (Int.tdiv y8.1 256))) (Int.toNat (IntKind.wrap .i64 (s11.2.1 + 1))) (Int.tmod y8.1 256)))
           else
            none
          else
           none
        else
         none
       else
        bif (idxOK s11.1 (List.length e11_1)) then
         (ref11_value.u ((bAt e11_3 (Int.toNat s11.2.1))) ((List.getD e11_1 (Int.toNat s11.1) (bs [])))).bind fun y9 =>
         bif (y9.2 != 0) then
          k ((0, (0, (0, (0, ())))), y9.2)
         else
          let v10 : Int × Int := (ref11_ends.t ((bAt e11_3 (Int.toNat s11.2.1))))
          bif (decide (y9.1 < v10.1)) then
           k ((0, (0, (0, (0, ())))), 8)
          else
           bif (decide (y9.1 > v10.2)) then
            k ((0, (0, (0, (0, ())))), 8)
           else
            bif (idxOK s11.2.1 3) then
             r11 ((IntKind.wrap .i64 (s11.1 + 1)), (IntKind.wrap .i64 (s11.2.1 + 1)), (List.set s11.2.2 (Int.toNat s11.2.1) y9.1))
            else
             none
        else
         none
  else
   none
 else
  bif (decide (s11.1 < ((List.length e11_1 : Nat) : Int))) then
   k ((0, (0, (0, (0, ())))), 5)
  else
   k (((IntKind.wrap .u8 e11_2), ((IntKind.wrap .u8 (List.getD s11.2.2 0 0)), ((IntKind.wrap .u8 (List.getD s11.2.2 1 0)), ((IntKind.wrap .u8 (List.getD s11.2.2 2 0)), ())))), 0)
theorem ref11_Parse.l0 {Ω : Type} (fuel : Nat) (e11_1 : (List ByteArray)) (e11_2 : Int) (e11_3 : ByteArray)  (k : AV → Option Ω) : ∀ m, (ref11_Parse.M0 fuel e11_1 e11_2 e11_3  k m) = iter (ref11_Parse.b0 e11_1 e11_2 e11_3  (fun r => k (tupAV E_s22 [(.int .i64)] r))) m :=
 loopK_iter (envOf := (ref11_Parse.E0 e11_1 e11_2 e11_3)) (LOf := (ref11_Parse.H0 e11_1 e11_2 e11_3)) (B := ref11_Parse.b0 e11_1 e11_2 e11_3  (fun r => k (tupAV E_s22 [(.int .i64)] r))) (fun R s => by kernel_rfl)
def ref11_Parse.sl {Ω : Type} (x0 : ByteArray) (lp0 : (List ByteArray) → Int → ByteArray → Int × Int × (List Int) → Option Ω) (k : T_s22 × Int → Option Ω) : Option Ω :=
 (ref11_Words.u x0).bind fun y1 =>
 bif (((List.length y1 : Nat) : Int) == 0) then
  k ((0, (0, (0, (0, ())))), 11)
 else
  bif (idxOK 0 (List.length y1)) then
   (ref09_Find.u ((List.getD y1 0 (bs [])))).bind fun y2 =>
   bif (!y2.2) then
    k ((0, (0, (0, (0, ())))), 6)
   else
    (ref09_Of.u y2.1).bind fun y3 =>
    lp0 y1 y2.1 y3.2.1 (1, 0, (List.replicate 3 0))
  else
   none
def ref11_Parse.g0 {Ω : Type} (e11_1 : (List ByteArray)) (e11_2 : Int) (e11_3 : ByteArray)  (k : T_s22 × Int → Option Ω) : Nat → Int → Int → (List Int) → Option Ω
  | 0, a11_0, i11, a11_2 =>
  bif (decide (a11_0 < ((List.length e11_1 : Nat) : Int))) then
   k ((0, (0, (0, (0, ())))), 5)
  else
   k (((IntKind.wrap .u8 e11_2), ((IntKind.wrap .u8 (List.getD a11_2 0 0)), ((IntKind.wrap .u8 (List.getD a11_2 1 0)), ((IntKind.wrap .u8 (List.getD a11_2 2 0)), ())))), 0)
  | d11 + 1, a11_0, i11, a11_2 =>
  bif (idxOK i11 (e11_3).size) then
   bif ((bAt e11_3 (Int.toNat i11)) == 45) then
    ref11_Parse.g0 e11_1 e11_2 e11_3  k d11 a11_0 (i11 + 1) a11_2
   else
    bif ((bAt e11_3 (Int.toNat i11)) == 106) then
     ref11_Parse.g0 e11_1 e11_2 e11_3  k d11 a11_0 (i11 + 1) a11_2
    else
     bif ((bAt e11_3 (Int.toNat i11)) == 103) then
      bif (a11_0 == ((List.length e11_1 : Nat) : Int)) then
       bif (idxOK i11 3) then
        ref11_Parse.g0 e11_1 e11_2 e11_3  k d11 a11_0 (i11 + 1) ((List.set a11_2 (Int.toNat i11) 8))
       else
        none
      else
       bif (idxOK a11_0 (List.length e11_1)) then
        let v4 : Bool := (!(((List.getD e11_1 (Int.toNat a11_0) (bs []))).data.toList == ((bs [105, 102])).data.toList))
        bif v4 then
         k ((0, (0, (0, (0, ())))), 3)
        else
         bif ((IntKind.wrap .i64 (a11_0 + 1)) == ((List.length e11_1 : Nat) : Int)) then
          k ((0, (0, (0, (0, ())))), 4)
         else
          bif ((bAt e11_3 (Int.toNat i11)) == 105) then
           bif (idxOK (IntKind.wrap .i64 (a11_0 + 1)) (List.length e11_1)) then
            (ref11_pair.u ((List.getD e11_1 (Int.toNat (IntKind.wrap .i64 (a11_0 + 1))) (bs [])))).bind fun y5 =>
            bif (y5.2 != 0) then
             k ((0, (0, (0, (0, ())))), y5.2)
            else
             bif (idxOK i11 3) then
              bif (idxOK (IntKind.wrap .i64 (i11 + 1)) 3) then
               ref11_Parse.g0 e11_1 e11_2 e11_3  k d11 ((IntKind.wrap .i64 ((IntKind.wrap .i64 (a11_0 + 1)) + 1))) (i11 + 1) ((List.set (List.set a11_2 (Int.toNat i11) (IntKind.wrap .i64 (Int.tdiv y5.1 256))) (Int.toNat (IntKind.wrap .i64 (i11 + 1))) (Int.tmod y5.1 256)))
              else
               none
             else
              none
           else
            none
          else
           bif (idxOK (IntKind.wrap .i64 (a11_0 + 1)) (List.length e11_1)) then
            (ref11_value.u ((bAt e11_3 (Int.toNat i11))) ((List.getD e11_1 (Int.toNat (IntKind.wrap .i64 (a11_0 + 1))) (bs [])))).bind fun y6 =>
            bif (y6.2 != 0) then
             k ((0, (0, (0, (0, ())))), y6.2)
            else
             let v7 : Int × Int := (ref11_ends.t ((bAt e11_3 (Int.toNat i11))))
             bif (decide (y6.1 < v7.1)) then
              k ((0, (0, (0, (0, ())))), 8)
             else
              bif (decide (y6.1 > v7.2)) then
               k ((0, (0, (0, (0, ())))), 8)
              else
               bif (idxOK i11 3) then
                ref11_Parse.g0 e11_1 e11_2 e11_3  k d11 ((IntKind.wrap .i64 ((IntKind.wrap .i64 (a11_0 + 1)) + 1))) (i11 + 1) ((List.set a11_2 (Int.toNat i11) y6.1))
               else
                none
           else
            none
       else
        none
     else
      bif (a11_0 == ((List.length e11_1 : Nat) : Int)) then
       k ((0, (0, (0, (0, ())))), 4)
      else
       bif ((bAt e11_3 (Int.toNat i11)) == 105) then
        bif (idxOK a11_0 (List.length e11_1)) then
         (ref11_pair.u ((List.getD e11_1 (Int.toNat a11_0) (bs [])))).bind fun y8 =>
         bif (y8.2 != 0) then
          k ((0, (0, (0, (0, ())))), y8.2)
         else
          bif (idxOK i11 3) then
           bif (idxOK (IntKind.wrap .i64 (i11 + 1)) 3) then
            ref11_Parse.g0 e11_1 e11_2 e11_3  k d11 ((IntKind.wrap .i64 (a11_0 + 1))) (i11 + 1) ((List.set (List.set a11_2 (Int.toNat i11) (IntKind.wrap .i64 (Int.tdiv y8.1 256))) (Int.toNat (IntKind.wrap .i64 (i11 + 1))) (Int.tmod y8.1 256)))
           else
            none
          else
           none
        else
         none
       else
        bif (idxOK a11_0 (List.length e11_1)) then
         (ref11_value.u ((bAt e11_3 (Int.toNat i11))) ((List.getD e11_1 (Int.toNat a11_0) (bs [])))).bind fun y9 =>
         bif (y9.2 != 0) then
          k ((0, (0, (0, (0, ())))), y9.2)
         else
          let v10 : Int × Int := (ref11_ends.t ((bAt e11_3 (Int.toNat i11))))
          bif (decide (y9.1 < v10.1)) then
           k ((0, (0, (0, (0, ())))), 8)
          else
           bif (decide (y9.1 > v10.2)) then
            k ((0, (0, (0, (0, ())))), 8)
           else
            bif (idxOK i11 3) then
             ref11_Parse.g0 e11_1 e11_2 e11_3  k d11 ((IntKind.wrap .i64 (a11_0 + 1))) (i11 + 1) ((List.set a11_2 (Int.toNat i11) y9.1))
            else
             none
        else
         none
  else
   none
theorem ref11_Parse.h0 {Ω : Type} (e11_1 : (List ByteArray)) (e11_2 : Int) (e11_3 : ByteArray)   (k : T_s22 × Int → Option Ω) (hN : (3 : Int) ≤ 9223372036854775807) : ∀ (m : Nat) (i : Int) (a : Int × (List Int)), -9223372036854775808 ≤ i → Int.toNat ((3 : Int) - i) < m → Le (ref11_Parse.g0 e11_1 e11_2 e11_3  k (Int.toNat ((3 : Int) - i)) a.1 i a.2) (iter (ref11_Parse.b0 e11_1 e11_2 e11_3  k) m (a.1, i, a.2)) :=
  iter_count (3 : Int) (fun i11 => (decide (i11 < 3))) (fun i => rfl) (fun (i11 : Int) (a11 : Int × (List Int)) => (a11.1, i11, a11.2)) (fun xs i11 a11 => ref11_Parse.g0 e11_1 e11_2 e11_3  k xs a11.1 i11 a11.2) (ref11_Parse.b0 e11_1 e11_2 e11_3  k)
    (fun i11 a11 r h0 => (Le.fls h0 (Le.cond (Le.refl _) (Le.refl _))))
    (fun i11 d11 a11 r h0 hw ih => (Le.tru h0 (Le.cond (Le.cond (ih _ hw (a11.1, a11.2)) (Le.cond (ih _ hw (a11.1, a11.2)) (Le.cond (Le.cond (Le.cond (ih _ hw (a11.1, (List.set a11.2 (Int.toNat i11) 8))) Le.nil) (Le.cond (let v4 : Bool := (!(((List.getD e11_1 (Int.toNat a11.1) (bs []))).data.toList == ((bs [105, 102])).data.toList)); (Le.cond (Le.refl _) (Le.cond (Le.refl _) (Le.cond (Le.cond (Le.bnd fun y5 => (Le.cond (Le.refl _) (Le.cond (Le.cond (ih _ hw ((IntKind.wrap .i64 ((IntKind.wrap .i64 (a11.1 + 1)) + 1)), (List.set (List.set a11.2 (Int.toNat i11) (IntKind.wrap .i64 (Int.tdiv y5.1 256))) (Int.toNat (IntKind.wrap .i64 (i11 + 1))) (Int.tmod y5.1 256)))) Le.nil) Le.nil))) Le.nil) (Le.cond (Le.bnd fun y6 => (Le.cond (Le.refl _) (let v7 : Int × Int := (ref11_ends.t ((bAt e11_3 (Int.toNat i11)))); (Le.cond (Le.refl _) (Le.cond (Le.refl _) (Le.cond (ih _ hw ((IntKind.wrap .i64 ((IntKind.wrap .i64 (a11.1 + 1)) + 1)), (List.set a11.2 (Int.toNat i11) y6.1))) Le.nil)))))) Le.nil))))) Le.nil)) (Le.cond (Le.refl _) (Le.cond (Le.cond (Le.bnd fun y8 => (Le.cond (Le.refl _) (Le.cond (Le.cond (ih _ hw ((IntKind.wrap .i64 (a11.1 + 1)), (List.set (List.set a11.2 (Int.toNat i11) (IntKind.wrap .i64 (Int.tdiv y8.1 256))) (Int.toNat (IntKind.wrap .i64 (i11 + 1))) (Int.tmod y8.1 256)))) Le.nil) Le.nil))) Le.nil) (Le.cond (Le.bnd fun y9 => (Le.cond (Le.refl _) (let v10 : Int × Int := (ref11_ends.t ((bAt e11_3 (Int.toNat i11)))); (Le.cond (Le.refl _) (Le.cond (Le.refl _) (Le.cond (ih _ hw ((IntKind.wrap .i64 (a11.1 + 1)), (List.set a11.2 (Int.toNat i11) y9.1))) Le.nil)))))) Le.nil)))))) Le.nil)))
    hN
def ref11_Parse.w {Ω : Type} (x0 : ByteArray) (k : T_s22 × Int → Option Ω) : Option Ω :=
 (ref11_Words.u x0).bind fun y1 =>
 bif (((List.length y1 : Nat) : Int) == 0) then
  k ((0, (0, (0, (0, ())))), 11)
 else
  bif (idxOK 0 (List.length y1)) then
   (ref09_Find.u ((List.getD y1 0 (bs [])))).bind fun y2 =>
   bif (!y2.2) then
    k ((0, (0, (0, (0, ())))), 6)
   else
    (ref09_Of.u y2.1).bind fun y3 =>
    ref11_Parse.g0 y1 y2.1 y3.2.1  k ((Int.toNat ((3 : Int) - 0))) 1 0 (List.replicate 3 0)
  else
   none
theorem ref11_Parse.ev {Ω : Type} (fuel : Nat) (x0 : ByteArray) (k : AV → Option Ω) : evFn CKMP (spE (C := CKMP) [ref09_Of.n, ref11_Words.n, ref09_Find.n, ref11_pair.n, ref11_value.n, ref11_ends.n] []) (ref11_Parse.F fuel) Tryd.f10 (Tryd.f10.body.getD .skip) [(.v .str (x0))] k = ref11_Parse.sl x0 (fun e11_1 e11_2 e11_3 => (ref11_Parse.M0 fuel e11_1 e11_2 e11_3  k fuel)) (fun r => k (tupAV E_s22 [(.int .i64)] r)) := by kernel_rfl
theorem ref11_Parse.le {Ω : Type} (x0 : ByteArray) (k : AV → Option Ω) : Le (ref11_Parse.w x0 (fun r => k (tupAV E_s22 [(.int .i64)] r))) (ref11_Parse.sl x0 (fun e11_1 e11_2 e11_3 => (ref11_Parse.M0 BIG e11_1 e11_2 e11_3  k BIG)) (fun r => k (tupAV E_s22 [(.int .i64)] r))) := by
 have h1 := funext fun (e11_1 : (List ByteArray)) => funext fun (e11_2 : Int) => funext fun (e11_3 : ByteArray) => ref11_Parse.l0 BIG e11_1 e11_2 e11_3   k BIG
 rw [h1]
 delta ref11_Parse.w ref11_Parse.sl
 exact (Le.bnd fun y1 => (Le.cond (Le.refl _) (Le.cond (Le.bnd fun y2 => (Le.cond (Le.refl _) (Le.bnd fun y3 => (ref11_Parse.h0 _ _ _   _ (by decide) BIG 0 (1, (List.replicate 3 0)) (by decide) (by decide))))) Le.nil)))
def ref11_Parse.u (x0 : ByteArray) : Option (T_s22 × Int) := ref11_Parse.w x0 some
noncomputable def ref11_Parse.n : En CKMP := mkE CKMP_ok (es := [ref09_Of.n, ref11_Words.n, ref09_Find.n, ref11_pair.n, ref11_value.n, ref11_ends.n]) (ms := []) (fuel := (ref11_Parse.F BIG)) 10 Tryd.f10 [.ai .str] E_s22 [(.int .i64)] (fun x {Ω} k => ref11_Parse.w x.1 k) (fun x Ω k => leV (ref11_Parse.ev BIG x.1 k) (ref11_Parse.le x.1 k)) (by kernel_rfl) (by kernel_rfl)

noncomputable def strings_Builder_WriteString.n : Me CKMP := Me.of (g := 35) (fx := fun {_} => strings_Builder_WriteString.fx) (FxOK.mono le_C_CKMP strings_Builder_WriteString.fx_ok)
noncomputable def strings_Builder_String.n : Me CKMP := Me.of (g := 36) (fx := fun {_} => strings_Builder_String.fx) (FxOK.mono le_C_CKMP strings_Builder_String.fx_ok)
def asm_Print.F (fuel : Nat) : Fuel := ⟨fuel, fun r => bif r == 3 then mL 0 28 268431855 else []⟩
noncomputable def asm_Print.V {Ω : Type} (fuel c : Nat) (env : List AV) (L : Heap) (k : Kont Ω) : Option Ω := evCode CKMP (spE (C := CKMP) [asm_Text.n] [strings_Builder_WriteString.n, strings_Builder_String.n]) (asm_Print.F fuel) (pCo c Tryd.f12) env L k
def asm_Print.E0 (e3_1 : (List T_s22)) (e3_2 : Int) (s3 : Int × ByteArray) : List AV := (dZ 4 ((.ref 0 []) :: dZ 4 ((.v (.slice E_s22) (e3_1)) :: (.v (.int .i64) (e3_2)) :: (.v (.int .i64) (s3.1)) :: dZ 16 ([]))))
def asm_Print.H0 (e3_1 : (List T_s22)) (e3_2 : Int) (s3 : Int × ByteArray) : Heap := [(.obj (.bld 76 5 s3.2))]
noncomputable def asm_Print.M0 {Ω : Type} (fuel : Nat) (e3_1 : (List T_s22)) (e3_2 : Int)  (k : AV → Option Ω) (m : Nat) (s : Int × ByteArray) : Option Ω := loopK (asm_Print.V fuel 75) (mB 28 268431855) [] 1 (blockK 0 (sqK (asm_Print.V fuel 15) (finK CKMP Tryd.f12 k))) m ((asm_Print.E0 e3_1 e3_2) s) ((asm_Print.H0 e3_1 e3_2) s)
def asm_Print.b0 {Ω : Type} (e3_1 : (List T_s22)) (e3_2 : Int)   (k : ByteArray × Int → Option Ω) (r3 : Int × ByteArray → Option Ω) (s3 : Int × ByteArray) : Option Ω :=
 bif (decide (s3.1 < e3_2)) then
  bif (idxOK s3.1 (List.length e3_1)) then
   (asm_Text.u ((List.getD e3_1 (Int.toNat s3.1) (0, (0, (0, (0, ()))))))).bind fun y1 =>
   bif (y1.2 != 0) then
    k ((bs []), y1.2)
   else
    bif (decide ((y1.1).size + ((bs [10])).size ≤ catMax)) then
     bif (decide (ByteArray.size s3.2 + ByteArray.size (y1.1 ++ (bs [10])) ≤ rowMax)) then
      r3 ((IntKind.wrap .i64 (s3.1 + 1)), (s3.2 ++ (y1.1 ++ (bs [10]))))
     else
      none
    else
     none
  else
   none
 else
  k (s3.2, 0)
theorem asm_Print.l0 {Ω : Type} (fuel : Nat) (e3_1 : (List T_s22)) (e3_2 : Int)  (k : AV → Option Ω) : ∀ m, (asm_Print.M0 fuel e3_1 e3_2  k m) = iter (asm_Print.b0 e3_1 e3_2  (fun r => k (tupAV .str [(.int .i64)] r))) m :=
 loopK_iter (envOf := (asm_Print.E0 e3_1 e3_2)) (LOf := (asm_Print.H0 e3_1 e3_2)) (B := asm_Print.b0 e3_1 e3_2  (fun r => k (tupAV .str [(.int .i64)] r))) (fun R s => by kernel_rfl)
def asm_Print.sl {Ω : Type} (x0 : (List T_s22)) (lp0 : (List T_s22) → Int → Int × ByteArray → Option Ω) (k : ByteArray × Int → Option Ω) : Option Ω :=
 lp0 x0 (((List.length x0 : Nat) : Int)) (0, (bs []))
def asm_Print.g0 {Ω : Type} (e3_1 : (List T_s22))  (k : ByteArray × Int → Option Ω) : List T_s22 → ByteArray → Option Ω
  | [], a3_1 =>
  k (a3_1, 0)
  | x3 :: xs3, a3_1 =>
  (asm_Text.u (x3)).bind fun y1 =>
  bif (y1.2 != 0) then
   k ((bs []), y1.2)
  else
   bif (decide ((y1.1).size + ((bs [10])).size ≤ catMax)) then
    bif (decide (ByteArray.size a3_1 + ByteArray.size (y1.1 ++ (bs [10])) ≤ rowMax)) then
     asm_Print.g0 e3_1  k xs3 ((a3_1 ++ (y1.1 ++ (bs [10]))))
    else
     none
   else
    none
theorem asm_Print.h0 {Ω : Type} (e3_1 : (List T_s22))   (k : ByteArray × Int → Option Ω) (hX : ((List.length e3_1 : Nat) : Int) ≤ 9223372036854775807) : ∀ (m : Nat) (i : Int) (a : ByteArray), 0 ≤ i → i ≤ ((List.length e3_1 : Nat) : Int) → ((List.length e3_1 : Nat) : Int) < m + i → Le (asm_Print.g0 e3_1  k (List.drop (Int.toNat i) e3_1) a) (iter (asm_Print.b0 e3_1 (((List.length e3_1 : Nat) : Int))  k) m (i, a)) :=
  iter_list e3_1 (0, (0, (0, (0, ())))) (fun (i3 : Int) (a3 : ByteArray) => (i3, a3)) (fun xs i3 a3 => asm_Print.g0 e3_1  k xs a3) (asm_Print.b0 e3_1 (((List.length e3_1 : Nat) : Int))  k)
    (fun i3 a3 r h0 => (Le.fls h0 (Le.refl _)))
    (fun i3 xs3 a3 r h0 h1 hw ih => (Le.tru h0 (Le.tru h1 (Le.bnd fun y1 => (Le.cond (Le.refl _) (Le.cond (Le.cond (ih _ hw ((a3 ++ (y1.1 ++ (bs [10]))))) Le.nil) Le.nil))))))
    hX
def asm_Print.w {Ω : Type} (x0 : (List T_s22)) (k : ByteArray × Int → Option Ω) : Option Ω :=
 bif decide (((List.length x0 : Nat) : Int) ≤ 4611686018427387904) then asm_Print.g0 x0  k x0 (bs []) else none
theorem asm_Print.ev {Ω : Type} (fuel : Nat) (x0 : (List T_s22)) (k : AV → Option Ω) : evFn CKMP (spE (C := CKMP) [asm_Text.n] [strings_Builder_WriteString.n, strings_Builder_String.n]) (asm_Print.F fuel) Tryd.f12 (Tryd.f12.body.getD .skip) [(.v (.slice E_s22) (x0))] k = asm_Print.sl x0 (fun e3_1 e3_2 => (asm_Print.M0 fuel e3_1 e3_2  k fuel)) (fun r => k (tupAV .str [(.int .i64)] r)) := by kernel_rfl
theorem asm_Print.le {Ω : Type} (x0 : (List T_s22)) (k : AV → Option Ω) : Le (asm_Print.w x0 (fun r => k (tupAV .str [(.int .i64)] r))) (asm_Print.sl x0 (fun e3_1 e3_2 => (asm_Print.M0 BIG e3_1 e3_2  k BIG)) (fun r => k (tupAV .str [(.int .i64)] r))) := by
 have h1 := funext fun (e3_1 : (List T_s22)) => funext fun (e3_2 : Int) => asm_Print.l0 BIG e3_1 e3_2   k BIG
 rw [h1]
 delta asm_Print.w asm_Print.sl
 exact (Le.gd fun hg => asm_Print.h0 _   _ (le_up (of_decide_eq_true hg)) BIG 0 ((bs [])) (by decide) (zero_le_len _) (big_list (of_decide_eq_true hg)))
def asm_Print.u (x0 : (List T_s22)) : Option (ByteArray × Int) := asm_Print.w x0 some
noncomputable def asm_Print.n : En CKMP := mkE CKMP_ok (es := [asm_Text.n]) (ms := [strings_Builder_WriteString.n, strings_Builder_String.n]) (fuel := (asm_Print.F BIG)) 12 Tryd.f12 [.ai (.slice E_s22)] .str [(.int .i64)] (fun x {Ω} k => asm_Print.w x.1 k) (fun x Ω k => leV (asm_Print.ev BIG x.1 k) (asm_Print.le x.1 k)) (by kernel_rfl) (by kernel_rfl)

def ref11_Same.F (fuel : Nat) : Fuel := ⟨fuel, fun r => bif r == 4 then mL 0 26 67108828 else []⟩
noncomputable def ref11_Same.V {Ω : Type} (fuel c : Nat) (env : List AV) (L : Heap) (k : Kont Ω) : Option Ω := evCode CKMP (spE (C := CKMP) [] []) (ref11_Same.F fuel) (pCo c Tryd.f13) env L k
def ref11_Same.E0 (e4_1 : (List T_s22)) (e4_2 : (List T_s22)) (s4 : Int) : List AV := ((.v (.slice E_s22) (e4_1)) :: (.v (.slice E_s22) (e4_2)) :: dZ 3 ((.v (.int .i64) (s4)) :: dZ 20 ([])))
def ref11_Same.H0 (e4_1 : (List T_s22)) (e4_2 : (List T_s22)) (s4 : Int) : Heap := []
noncomputable def ref11_Same.M0 {Ω : Type} (fuel : Nat) (e4_1 : (List T_s22)) (e4_2 : (List T_s22))  (k : AV → Option Ω) (m : Nat) (s : Int) : Option Ω := loopK (ref11_Same.V fuel 75) (mB 26 67108828) [] 0 (blockK 0 (sqK (ref11_Same.V fuel 15) (finK CKMP Tryd.f13 k))) m ((ref11_Same.E0 e4_1 e4_2) s) ((ref11_Same.H0 e4_1 e4_2) s)
def ref11_Same.b0 {Ω : Type} (e4_1 : (List T_s22)) (e4_2 : (List T_s22))   (k : Bool → Option Ω) (r4 : Int → Option Ω) (s4 : Int) : Option Ω :=
 bif (decide (s4 < ((List.length e4_1 : Nat) : Int))) then
  bif (idxOK s4 (List.length e4_1)) then
   bif (idxOK s4 (List.length e4_2)) then
    let v1 : Bool := (!(eqI E_s22 (List.getD e4_1 (Int.toNat s4) (0, (0, (0, (0, ()))))) (List.getD e4_2 (Int.toNat s4) (0, (0, (0, (0, ())))))))
    bif v1 then
     k false
    else
     r4 ((IntKind.wrap .i64 (s4 + 1)))
   else
    none
  else
   none
 else
  k true
theorem ref11_Same.l0 {Ω : Type} (fuel : Nat) (e4_1 : (List T_s22)) (e4_2 : (List T_s22))  (k : AV → Option Ω) : ∀ m, (ref11_Same.M0 fuel e4_1 e4_2  k m) = iter (ref11_Same.b0 e4_1 e4_2  (fun r => k (tupAV .bool [] r))) m :=
 loopK_iter (envOf := (ref11_Same.E0 e4_1 e4_2)) (LOf := (ref11_Same.H0 e4_1 e4_2)) (B := ref11_Same.b0 e4_1 e4_2  (fun r => k (tupAV .bool [] r))) (fun R s => by kernel_rfl)
def ref11_Same.sl {Ω : Type} (x0 : (List T_s22)) (x1 : (List T_s22)) (lp0 : (List T_s22) → (List T_s22) → Int → Option Ω) (k : Bool → Option Ω) : Option Ω :=
 bif (((List.length x0 : Nat) : Int) != ((List.length x1 : Nat) : Int)) then
  k false
 else
  lp0 x0 x1 (0)
def ref11_Same.g0 {Ω : Type} (e4_1 : (List T_s22)) (e4_2 : (List T_s22))  (k : Bool → Option Ω) : List T_s22 → Int → Option Ω
  | [], i4 =>
  k true
  | x4 :: xs4, i4 =>
  bif (idxOK i4 (List.length e4_2)) then
   let v1 : Bool := (!(eqI E_s22 x4 (List.getD e4_2 (Int.toNat i4) (0, (0, (0, (0, ())))))))
   bif v1 then
    k false
   else
    ref11_Same.g0 e4_1 e4_2  k xs4 (i4 + 1)
  else
   none
theorem ref11_Same.h0 {Ω : Type} (e4_1 : (List T_s22)) (e4_2 : (List T_s22))   (k : Bool → Option Ω) (hX : ((List.length e4_1 : Nat) : Int) ≤ 9223372036854775807) : ∀ (m : Nat) (i : Int) (a : Unit), 0 ≤ i → i ≤ ((List.length e4_1 : Nat) : Int) → ((List.length e4_1 : Nat) : Int) < m + i → Le (ref11_Same.g0 e4_1 e4_2  k (List.drop (Int.toNat i) e4_1) i) (iter (ref11_Same.b0 e4_1 e4_2  k) m (i)) :=
  iter_list e4_1 (0, (0, (0, (0, ())))) (fun (i4 : Int) (a4 : Unit) => (i4)) (fun xs i4 a4 => ref11_Same.g0 e4_1 e4_2  k xs i4) (ref11_Same.b0 e4_1 e4_2  k)
    (fun i4 a4 r h0 => (Le.fls h0 (Le.refl _)))
    (fun i4 xs4 a4 r h0 h1 hw ih => (Le.tru h0 (Le.tru h1 (Le.cond (let v1 : Bool := (!(eqI E_s22 (List.getD e4_1 (Int.toNat i4) (0, (0, (0, (0, ()))))) (List.getD e4_2 (Int.toNat i4) (0, (0, (0, (0, ()))))))); (Le.cond (Le.refl _) (ih _ hw ()))) Le.nil))))
    hX
def ref11_Same.w {Ω : Type} (x0 : (List T_s22)) (x1 : (List T_s22)) (k : Bool → Option Ω) : Option Ω :=
 bif (((List.length x0 : Nat) : Int) != ((List.length x1 : Nat) : Int)) then
  k false
 else
  bif decide (((List.length x0 : Nat) : Int) ≤ 4611686018427387904) then ref11_Same.g0 x0 x1  k x0 0 else none
theorem ref11_Same.ev {Ω : Type} (fuel : Nat) (x0 : (List T_s22)) (x1 : (List T_s22)) (k : AV → Option Ω) : evFn CKMP (spE (C := CKMP) [] []) (ref11_Same.F fuel) Tryd.f13 (Tryd.f13.body.getD .skip) [(.v (.slice E_s22) (x0)), (.v (.slice E_s22) (x1))] k = ref11_Same.sl x0 x1 (fun e4_1 e4_2 => (ref11_Same.M0 fuel e4_1 e4_2  k fuel)) (fun r => k (tupAV .bool [] r)) := by kernel_rfl
theorem ref11_Same.le {Ω : Type} (x0 : (List T_s22)) (x1 : (List T_s22)) (k : AV → Option Ω) : Le (ref11_Same.w x0 x1 (fun r => k (tupAV .bool [] r))) (ref11_Same.sl x0 x1 (fun e4_1 e4_2 => (ref11_Same.M0 BIG e4_1 e4_2  k BIG)) (fun r => k (tupAV .bool [] r))) := by
 have h1 := funext fun (e4_1 : (List T_s22)) => funext fun (e4_2 : (List T_s22)) => ref11_Same.l0 BIG e4_1 e4_2   k BIG
 rw [h1]
 delta ref11_Same.w ref11_Same.sl
 exact (Le.cond (Le.refl _) (Le.gd fun hg => ref11_Same.h0 _ _   _ (le_up (of_decide_eq_true hg)) BIG 0 () (by decide) (zero_le_len _) (big_list (of_decide_eq_true hg))))
def ref11_Same.u (x0 : (List T_s22)) (x1 : (List T_s22)) : Option (Bool) := ref11_Same.w x0 x1 some
noncomputable def ref11_Same.n : En CKMP := mkE CKMP_ok (es := []) (ms := []) (fuel := (ref11_Same.F BIG)) 13 Tryd.f13 [.ai (.slice E_s22), .ai (.slice E_s22)] .bool [] (fun x {Ω} k => ref11_Same.w x.1 x.2.1 k) (fun x Ω k => leV (ref11_Same.ev BIG x.1 x.2.1 k) (ref11_Same.le x.1 x.2.1 k)) (by kernel_rfl) (by kernel_rfl)

end Go.Proofs.YtmmooplcdkmapaaDoor.K

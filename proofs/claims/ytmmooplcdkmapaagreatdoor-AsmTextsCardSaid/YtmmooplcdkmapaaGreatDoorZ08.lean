/- What functions of the program come to, plainly. -/
import Derived.Test.YtmmooplcdkmapaaGreatDoorZ01
set_option maxRecDepth 100000
set_option linter.unusedVariables false
namespace Go.Proofs.YtmmooplcdkmapaaGreatDoor.K
open Go Go.RowKit

def ref08_Fine.s {Ω : Type} (x0 : Int) (k : Bool → Option Ω) : Option Ω :=
  bif (decide (x0 ≥ (-2147483648))) then
    k (decide (x0 ≤ 2147483647))
  else
    k false
def ref08_Fine.t (x0 : Int) : Bool :=
  bif (decide (x0 ≥ (-2147483648))) then
    (decide (x0 ≤ 2147483647))
  else
    false
theorem ref08_Fine.v {Ω : Type} (x0 : Int) (k : Bool → Option Ω) : ref08_Fine.s x0 k = k (ref08_Fine.t x0) := by
  delta ref08_Fine.s ref08_Fine.t; exact (cond_tot rfl rfl)
noncomputable def ref08_Fine.n : En CKMP := mkT CKMP_ok (es := []) (ms := []) (fuel := ⟨1, fun _ => []⟩) 56 Tryz.f56 [.ai (.int .i64)] .bool [] (fun x {Ω} k => ref08_Fine.s x.1 k) (fun x => ref08_Fine.t x.1) (fun x Ω k => by kernel_rfl) (fun x => ref08_Fine.v x.1 some) (by kernel_rfl) (by kernel_rfl)

def ref08_Text.s {Ω : Type} (x0 : Int) (k : ByteArray × Int → Option Ω) : Option Ω :=
  bif (!(ref08_Fine.t x0)) then
    k ((bs []), 8)
  else
    bif (decide (x0 < 0)) then
      (ref01_Digits.u ((IntKind.wrap .i64 (0 - x0)))).bind fun y1 =>
      bif (decide (((bs [45])).size + (y1).size ≤ catMax)) then
        k (((bs [45]) ++ y1), 0)
      else
        none
    else
      (ref01_Digits.u x0).bind fun y2 =>
      k (y2, 0)
def ref08_Text.u (x0 : Int) : Option (ByteArray × Int) := ref08_Text.s x0 some
noncomputable def ref08_Text.n : En CKMP := mkE CKMP_ok (es := [ref01_Digits.n, ref08_Fine.n]) (ms := []) (fuel := ⟨1, fun _ => []⟩) 30 Tryz.f30 [.ai (.int .i64)] .str [(.int .i64)] (fun x {Ω} k => ref08_Text.s x.1 k) (fun x Ω k => Le.of (by kernel_rfl)) (by kernel_rfl) (by kernel_rfl)

noncomputable def internal_stringslite_IndexByte.n : En CKMP := En.of (g := 69) (e := fun {_} => internal_stringslite_IndexByte.e) (internal_stringslite_IndexByte.e_ok.mono le_C_CKMP)
def internal_stringslite_Index.s {Ω : Type} (x0 : ByteArray) (x1 : ByteArray) (k : Int → Option Ω) : Option Ω :=
  bif (((x1).size : Int) == 0) then
    k 0
  else
    bif ((x1).data.toList == (x0).data.toList) then
      k 0
    else
      bif (((x1).size : Int) == 1) then
        bif (idxOK 0 (x1).size) then
          k (internal_stringslite_IndexByte.t x0 (bAt x1 0))
        else
          none
      else
        bif (decide (((x1).size : Int) ≥ ((x0).size : Int))) then
          k (-1)
        else
          none
def internal_stringslite_Index.u (x0 : ByteArray) (x1 : ByteArray) : Option (Int) := internal_stringslite_Index.s x0 x1 some
noncomputable def internal_stringslite_Index.n : En CKMP := mkE CKMP_ok (es := [internal_stringslite_IndexByte.n]) (ms := []) (fuel := ⟨1, fun _ => []⟩) 70 Tryz.f70 [.ai .str, .ai .str] (.int .i64) [] (fun x {Ω} k => internal_stringslite_Index.s x.1 x.2.1 k) (fun x Ω k => Le.of (by kernel_rfl)) (by kernel_rfl) (by kernel_rfl)

def internal_stringslite_Cut.s {Ω : Type} (x0 : ByteArray) (x1 : ByteArray) (k : ByteArray × ByteArray × Bool → Option Ω) : Option Ω :=
  (internal_stringslite_Index.u x0 x1).bind fun y1 =>
  bif (decide (y1 ≥ 0)) then
    bif (subC none (some (y1)) (x0).size) then
      bif (subC (some ((IntKind.wrap .i64 (y1 + ((x1).size : Int))))) none (x0).size) then
        k ((subS none (some (y1)) x0), (subS (some ((IntKind.wrap .i64 (y1 + ((x1).size : Int))))) none x0), true)
      else
        none
    else
      none
  else
    k (x0, (bs []), false)
def internal_stringslite_Cut.u (x0 : ByteArray) (x1 : ByteArray) : Option (ByteArray × ByteArray × Bool) := internal_stringslite_Cut.s x0 x1 some
noncomputable def internal_stringslite_Cut.n : En CKMP := mkE CKMP_ok (es := [internal_stringslite_Index.n]) (ms := []) (fuel := ⟨1, fun _ => []⟩) 57 Tryz.f57 [.ai .str, .ai .str] .str [.str, .bool] (fun x {Ω} k => internal_stringslite_Cut.s x.1 x.2.1 k) (fun x Ω k => Le.of (by kernel_rfl)) (by kernel_rfl) (by kernel_rfl)

def strings_Cut.s {Ω : Type} (x0 : ByteArray) (x1 : ByteArray) (k : ByteArray × ByteArray × Bool → Option Ω) : Option Ω :=
  (internal_stringslite_Cut.u x0 x1).bind fun y1 =>
  k (y1.1, y1.2.1, y1.2.2)
def strings_Cut.u (x0 : ByteArray) (x1 : ByteArray) : Option (ByteArray × ByteArray × Bool) := strings_Cut.s x0 x1 some
noncomputable def strings_Cut.n : En CKMP := mkE CKMP_ok (es := [internal_stringslite_Cut.n]) (ms := []) (fuel := ⟨1, fun _ => []⟩) 34 Tryz.f34 [.ai .str, .ai .str] .str [.str, .bool] (fun x {Ω} k => strings_Cut.s x.1 x.2.1 k) (fun x Ω k => Le.of (by kernel_rfl)) (by kernel_rfl) (by kernel_rfl)

def word_Fine.s {Ω : Type} (x0 : Int) (k : Bool → Option Ω) : Option Ω :=
  bif (decide (x0 ≥ (-2147483648))) then
    k (decide (x0 ≤ 2147483647))
  else
    k false
def word_Fine.t (x0 : Int) : Bool :=
  bif (decide (x0 ≥ (-2147483648))) then
    (decide (x0 ≤ 2147483647))
  else
    false
theorem word_Fine.v {Ω : Type} (x0 : Int) (k : Bool → Option Ω) : word_Fine.s x0 k = k (word_Fine.t x0) := by
  delta word_Fine.s word_Fine.t; exact (cond_tot rfl rfl)
noncomputable def word_Fine.n : En CKMP := mkT CKMP_ok (es := []) (ms := []) (fuel := ⟨1, fun _ => []⟩) 60 Tryz.f60 [.ai (.int .i64)] .bool [] (fun x {Ω} k => word_Fine.s x.1 k) (fun x => word_Fine.t x.1) (fun x Ω k => by kernel_rfl) (fun x => word_Fine.v x.1 some) (by kernel_rfl) (by kernel_rfl)

noncomputable def strconv_Itoa.n : En CKMP := En.of (g := 61) (e := fun {_} => strconv_Itoa.e) (strconv_Itoa.e_ok.mono le_CP_CKMP)
def word_Text.s {Ω : Type} (x0 : Int) (k : ByteArray × Int → Option Ω) : Option Ω :=
  bif (!(word_Fine.t x0)) then
    k ((bs []), 8)
  else
    (strconv_Itoa.u x0).bind fun y1 =>
    k (y1, 0)
def word_Text.u (x0 : Int) : Option (ByteArray × Int) := word_Text.s x0 some
noncomputable def word_Text.n : En CKMP := mkE CKMP_ok (es := [word_Fine.n, strconv_Itoa.n]) (ms := []) (fuel := ⟨1, fun _ => []⟩) 43 Tryz.f43 [.ai (.int .i64)] .str [(.int .i64)] (fun x {Ω} k => word_Text.s x.1 k) (fun x Ω k => Le.of (by kernel_rfl)) (by kernel_rfl) (by kernel_rfl)

def ref08_Parse.F (fuel : Nat) : Fuel := ⟨fuel, fun r => bif r == 11 then mL 0 58 288230376151711342 else []⟩
noncomputable def ref08_Parse.V {Ω : Type} (fuel c : Nat) (env : List AV) (L : Heap) (k : Kont Ω) : Option Ω := evCode CKMP (spE (C := CKMP) [ref08_Fine.n, ref01_Plain.n] []) (ref08_Parse.F fuel) (pCo c Tryz.f58) env L k
def ref08_Parse.E0 (e11_1 : ByteArray) (e11_2 : Bool) (s11 : Int × Int) : List AV := ((.v .str (e11_1)) :: dZ 3 ((.v .bool (e11_2)) :: dZ 2 ((.v (.int .i64) (s11.1)) :: (.v (.int .i64) (s11.2)) :: dZ 49 ([]))))
def ref08_Parse.H0 (e11_1 : ByteArray) (e11_2 : Bool) (s11 : Int × Int) : Heap := []
noncomputable def ref08_Parse.M0 {Ω : Type} (fuel : Nat) (e11_1 : ByteArray) (e11_2 : Bool)  (k : AV → Option Ω) (m : Nat) (s : Int × Int) : Option Ω := loopK (ref08_Parse.V fuel 2431) (mB 58 288230376151711342) [] 0 (blockK 0 (sqK (ref08_Parse.V fuel 511) (finK CKMP Tryz.f58 k))) m ((ref08_Parse.E0 e11_1 e11_2) s) ((ref08_Parse.H0 e11_1 e11_2) s)
def ref08_Parse.E1 (e11_1 : ByteArray) (s11 : Int × Int) : List AV := ((.v .str (e11_1)) :: dZ 3 ((.v .bool (false)) :: dZ 2 ((.v (.int .i64) (s11.1)) :: (.v (.int .i64) (s11.2)) :: dZ 49 ([]))))
def ref08_Parse.H1 (e11_1 : ByteArray) (s11 : Int × Int) : Heap := []
noncomputable def ref08_Parse.M1 {Ω : Type} (fuel : Nat) (e11_1 : ByteArray)  (k : AV → Option Ω) (m : Nat) (s : Int × Int) : Option Ω := loopK (ref08_Parse.V fuel 2431) (mB 58 288230376151711342) [] 0 (blockK 0 (sqK (ref08_Parse.V fuel 511) (finK CKMP Tryz.f58 k))) m ((ref08_Parse.E1 e11_1) s) ((ref08_Parse.H1 e11_1) s)
def ref08_Parse.b0 {Ω : Type} (e11_1 : ByteArray) (e11_2 : Bool)   (k : Int × Int → Option Ω) (r11 : Int × Int → Option Ω) (s11 : Int × Int) : Option Ω :=
 bif (decide (s11.2 < ((e11_1).size : Int))) then
  bif (idxOK s11.2 (e11_1).size) then
   let v2 : Int := (IntKind.wrap .i64 ((IntKind.wrap .i64 (10 * s11.1)) + (IntKind.wrap .i64 (IntKind.wrap .u8 ((bAt e11_1 (Int.toNat s11.2)) - 48)))))
   r11 (v2, (IntKind.wrap .i64 (s11.2 + 1)))
  else
   none
 else
  bif e11_2 then
   bif (!(ref08_Fine.t ((IntKind.wrap .i64 (0 - s11.1))))) then
    k (0, 8)
   else
    k ((IntKind.wrap .i64 (0 - s11.1)), 0)
  else
   bif (!(ref08_Fine.t s11.1)) then
    k (0, 8)
   else
    k (s11.1, 0)
def ref08_Parse.b1 {Ω : Type} (e11_1 : ByteArray)   (k : Int × Int → Option Ω) (r11 : Int × Int → Option Ω) (s11 : Int × Int) : Option Ω :=
 bif (decide (s11.2 < ((e11_1).size : Int))) then
  bif (idxOK s11.2 (e11_1).size) then
   let v8 : Int := (IntKind.wrap .i64 ((IntKind.wrap .i64 (10 * s11.1)) + (IntKind.wrap .i64 (IntKind.wrap .u8 ((bAt e11_1 (Int.toNat s11.2)) - 48)))))
   r11 (v8, (IntKind.wrap .i64 (s11.2 + 1)))
  else
   none
 else
  bif (!(ref08_Fine.t s11.1)) then
   k (0, 8)
  else
   k (s11.1, 0)
theorem ref08_Parse.l0 {Ω : Type} (fuel : Nat) (e11_1 : ByteArray) (e11_2 : Bool)  (k : AV → Option Ω) : ∀ m, (ref08_Parse.M0 fuel e11_1 e11_2  k m) = iter (ref08_Parse.b0 e11_1 e11_2  (fun r => k (tupAV (.int .i64) [(.int .i64)] r))) m :=
 loopK_iter (envOf := (ref08_Parse.E0 e11_1 e11_2)) (LOf := (ref08_Parse.H0 e11_1 e11_2)) (B := ref08_Parse.b0 e11_1 e11_2  (fun r => k (tupAV (.int .i64) [(.int .i64)] r))) (fun R s => by kernel_rfl)
theorem ref08_Parse.l1 {Ω : Type} (fuel : Nat) (e11_1 : ByteArray)  (k : AV → Option Ω) : ∀ m, (ref08_Parse.M1 fuel e11_1  k m) = iter (ref08_Parse.b1 e11_1  (fun r => k (tupAV (.int .i64) [(.int .i64)] r))) m :=
 loopK_iter (envOf := (ref08_Parse.E1 e11_1)) (LOf := (ref08_Parse.H1 e11_1)) (B := ref08_Parse.b1 e11_1  (fun r => k (tupAV (.int .i64) [(.int .i64)] r))) (fun R s => by kernel_rfl)
def ref08_Parse.sl {Ω : Type} (x0 : ByteArray) (lp0 : ByteArray → Bool → Int × Int → Option Ω) (lp1 : ByteArray → Int × Int → Option Ω) (k : Int × Int → Option Ω) : Option Ω :=
 bif (decide (((x0).size : Int) > 0)) then
  bif (idxOK 0 (x0).size) then
   bif ((bAt x0 0) == 45) then
    bif (subC (some (1)) none (x0).size) then
     (ref01_Plain.u ((subS (some (1)) none x0))).bind fun y1 =>
     bif (!y1.2) then
      k (0, 3)
     else
      bif ((bAt x0 0) == 45) then
       bif (((subS (some (1)) none x0)).data.toList == ((bs [48])).data.toList) then
        k (0, 3)
       else
        bif (decide ((((subS (some (1)) none x0)).size : Int) > 10)) then
         k (0, 8)
        else
         lp0 ((subS (some (1)) none x0)) (((bAt x0 0) == 45)) (0, 0)
      else
       bif (decide ((((subS (some (1)) none x0)).size : Int) > 10)) then
        k (0, 8)
       else
        lp0 ((subS (some (1)) none x0)) (((bAt x0 0) == 45)) (0, 0)
    else
     none
   else
    (ref01_Plain.u x0).bind fun y4 =>
    bif (!y4.2) then
     k (0, 3)
    else
     bif ((bAt x0 0) == 45) then
      bif ((x0).data.toList == ((bs [48])).data.toList) then
       k (0, 3)
      else
       bif (decide (((x0).size : Int) > 10)) then
        k (0, 8)
       else
        lp0 x0 (((bAt x0 0) == 45)) (0, 0)
     else
      bif (decide (((x0).size : Int) > 10)) then
       k (0, 8)
      else
       lp0 x0 (((bAt x0 0) == 45)) (0, 0)
  else
   none
 else
  (ref01_Plain.u x0).bind fun y7 =>
  bif (!y7.2) then
   k (0, 3)
  else
   bif (decide (((x0).size : Int) > 10)) then
    k (0, 8)
   else
    lp1 x0 (0, 0)
def ref08_Parse.g0 {Ω : Type} (e11_1 : ByteArray) (e11_2 : Bool)  (k : Int × Int → Option Ω) : Nat → Int → Int → Option Ω
  | 0, a11_0, i11 =>
  bif e11_2 then
   bif (!(ref08_Fine.t ((IntKind.wrap .i64 (0 - a11_0))))) then
    k (0, 8)
   else
    k ((IntKind.wrap .i64 (0 - a11_0)), 0)
  else
   bif (!(ref08_Fine.t a11_0)) then
    k (0, 8)
   else
    k (a11_0, 0)
  | d11 + 1, a11_0, i11 =>
  bif (idxOK i11 (e11_1).size) then
   let v2 : Int := (IntKind.wrap .i64 ((IntKind.wrap .i64 (10 * a11_0)) + (IntKind.wrap .i64 (IntKind.wrap .u8 ((bAt e11_1 (Int.toNat i11)) - 48)))))
   ref08_Parse.g0 e11_1 e11_2  k d11 v2 (i11 + 1)
  else
   none
theorem ref08_Parse.h0 {Ω : Type} (e11_1 : ByteArray) (e11_2 : Bool)   (k : Int × Int → Option Ω) (hN : (((e11_1).size : Int) : Int) ≤ 9223372036854775807) : ∀ (m : Nat) (i : Int) (a : Int), -9223372036854775808 ≤ i → Int.toNat ((((e11_1).size : Int) : Int) - i) < m → Le (ref08_Parse.g0 e11_1 e11_2  k (Int.toNat ((((e11_1).size : Int) : Int) - i)) a i) (iter (ref08_Parse.b0 e11_1 e11_2  k) m (a, i)) :=
  iter_count (((e11_1).size : Int) : Int) (fun i11 => (decide (i11 < ((e11_1).size : Int)))) (fun i => rfl) (fun (i11 : Int) (a11 : Int) => (a11, i11)) (fun xs i11 a11 => ref08_Parse.g0 e11_1 e11_2  k xs a11 i11) (ref08_Parse.b0 e11_1 e11_2  k)
    (fun i11 a11 r h0 => (Le.fls h0 (Le.cond (Le.cond (Le.refl _) (Le.refl _)) (Le.cond (Le.refl _) (Le.refl _)))))
    (fun i11 d11 a11 r h0 hw ih => (Le.tru h0 (Le.cond (let v2 : Int := (IntKind.wrap .i64 ((IntKind.wrap .i64 (10 * a11)) + (IntKind.wrap .i64 (IntKind.wrap .u8 ((bAt e11_1 (Int.toNat i11)) - 48))))); (ih _ hw (v2))) Le.nil)))
    hN
def ref08_Parse.g1 {Ω : Type} (e11_1 : ByteArray)  (k : Int × Int → Option Ω) : Nat → Int → Int → Option Ω
  | 0, a11_0, i11 =>
  bif (!(ref08_Fine.t a11_0)) then
   k (0, 8)
  else
   k (a11_0, 0)
  | d11 + 1, a11_0, i11 =>
  bif (idxOK i11 (e11_1).size) then
   let v8 : Int := (IntKind.wrap .i64 ((IntKind.wrap .i64 (10 * a11_0)) + (IntKind.wrap .i64 (IntKind.wrap .u8 ((bAt e11_1 (Int.toNat i11)) - 48)))))
   ref08_Parse.g1 e11_1  k d11 v8 (i11 + 1)
  else
   none
theorem ref08_Parse.h1 {Ω : Type} (e11_1 : ByteArray)   (k : Int × Int → Option Ω) (hN : (((e11_1).size : Int) : Int) ≤ 9223372036854775807) : ∀ (m : Nat) (i : Int) (a : Int), -9223372036854775808 ≤ i → Int.toNat ((((e11_1).size : Int) : Int) - i) < m → Le (ref08_Parse.g1 e11_1  k (Int.toNat ((((e11_1).size : Int) : Int) - i)) a i) (iter (ref08_Parse.b1 e11_1  k) m (a, i)) :=
  iter_count (((e11_1).size : Int) : Int) (fun i11 => (decide (i11 < ((e11_1).size : Int)))) (fun i => rfl) (fun (i11 : Int) (a11 : Int) => (a11, i11)) (fun xs i11 a11 => ref08_Parse.g1 e11_1  k xs a11 i11) (ref08_Parse.b1 e11_1  k)
    (fun i11 a11 r h0 => (Le.fls h0 (Le.cond (Le.refl _) (Le.refl _))))
    (fun i11 d11 a11 r h0 hw ih => (Le.tru h0 (Le.cond (let v8 : Int := (IntKind.wrap .i64 ((IntKind.wrap .i64 (10 * a11)) + (IntKind.wrap .i64 (IntKind.wrap .u8 ((bAt e11_1 (Int.toNat i11)) - 48))))); (ih _ hw (v8))) Le.nil)))
    hN
def ref08_Parse.w {Ω : Type} (x0 : ByteArray) (k : Int × Int → Option Ω) : Option Ω :=
 bif (decide (((x0).size : Int) > 0)) then
  bif (idxOK 0 (x0).size) then
   bif ((bAt x0 0) == 45) then
    bif (subC (some (1)) none (x0).size) then
     (ref01_Plain.u ((subS (some (1)) none x0))).bind fun y1 =>
     bif (!y1.2) then
      k (0, 3)
     else
      bif ((bAt x0 0) == 45) then
       bif (((subS (some (1)) none x0)).data.toList == ((bs [48])).data.toList) then
        k (0, 3)
       else
        bif (decide ((((subS (some (1)) none x0)).size : Int) > 10)) then
         k (0, 8)
        else
         bif (decide (((((subS (some (1)) none x0))).size : Int) ≤ 4611686018427387904)) then ref08_Parse.g0 ((subS (some (1)) none x0)) (((bAt x0 0) == 45))  k ((Int.toNat (((((subS (some (1)) none x0))).size : Int) - 0))) 0 0 else none
      else
       bif (decide ((((subS (some (1)) none x0)).size : Int) > 10)) then
        k (0, 8)
       else
        bif (decide (((((subS (some (1)) none x0))).size : Int) ≤ 4611686018427387904)) then ref08_Parse.g0 ((subS (some (1)) none x0)) (((bAt x0 0) == 45))  k ((Int.toNat (((((subS (some (1)) none x0))).size : Int) - 0))) 0 0 else none
    else
     none
   else
    (ref01_Plain.u x0).bind fun y4 =>
    bif (!y4.2) then
     k (0, 3)
    else
     bif ((bAt x0 0) == 45) then
      bif ((x0).data.toList == ((bs [48])).data.toList) then
       k (0, 3)
      else
       bif (decide (((x0).size : Int) > 10)) then
        k (0, 8)
       else
        bif (decide (((x0).size : Int) ≤ 4611686018427387904)) then ref08_Parse.g0 x0 (((bAt x0 0) == 45))  k ((Int.toNat (((x0).size : Int) - 0))) 0 0 else none
     else
      bif (decide (((x0).size : Int) > 10)) then
       k (0, 8)
      else
       bif (decide (((x0).size : Int) ≤ 4611686018427387904)) then ref08_Parse.g0 x0 (((bAt x0 0) == 45))  k ((Int.toNat (((x0).size : Int) - 0))) 0 0 else none
  else
   none
 else
  (ref01_Plain.u x0).bind fun y7 =>
  bif (!y7.2) then
   k (0, 3)
  else
   bif (decide (((x0).size : Int) > 10)) then
    k (0, 8)
   else
    bif (decide (((x0).size : Int) ≤ 4611686018427387904)) then ref08_Parse.g1 x0  k ((Int.toNat (((x0).size : Int) - 0))) 0 0 else none
theorem ref08_Parse.ev {Ω : Type} (fuel : Nat) (x0 : ByteArray) (k : AV → Option Ω) : evFn CKMP (spE (C := CKMP) [ref08_Fine.n, ref01_Plain.n] []) (ref08_Parse.F fuel) Tryz.f58 (Tryz.f58.body.getD .skip) [(.v .str (x0))] k = ref08_Parse.sl x0 (fun e11_1 e11_2 => (ref08_Parse.M0 fuel e11_1 e11_2  k fuel)) (fun e11_1 => (ref08_Parse.M1 fuel e11_1  k fuel)) (fun r => k (tupAV (.int .i64) [(.int .i64)] r)) := by kernel_rfl
theorem ref08_Parse.le {Ω : Type} (x0 : ByteArray) (k : AV → Option Ω) : Le (ref08_Parse.w x0 (fun r => k (tupAV (.int .i64) [(.int .i64)] r))) (ref08_Parse.sl x0 (fun e11_1 e11_2 => (ref08_Parse.M0 BIG e11_1 e11_2  k BIG)) (fun e11_1 => (ref08_Parse.M1 BIG e11_1  k BIG)) (fun r => k (tupAV (.int .i64) [(.int .i64)] r))) := by
 have h1 := funext fun (e11_1 : ByteArray) => funext fun (e11_2 : Bool) => ref08_Parse.l0 BIG e11_1 e11_2   k BIG
 have h2 := funext fun (e11_1 : ByteArray) => ref08_Parse.l1 BIG e11_1   k BIG
 rw [h1, h2]
 delta ref08_Parse.w ref08_Parse.sl
 exact (Le.cond (Le.cond (Le.cond (Le.cond (Le.bnd fun y1 => (Le.cond (Le.refl _) (Le.cond (Le.cond (Le.refl _) (Le.cond (Le.refl _) (Le.gd fun hg => ref08_Parse.h0 _ _   _ (cnt_up hg) BIG 0 (0) (by decide) (cnt_big hg (by decide))))) (Le.cond (Le.refl _) (Le.gd fun hg => ref08_Parse.h0 _ _   _ (cnt_up hg) BIG 0 (0) (by decide) (cnt_big hg (by decide))))))) Le.nil) (Le.bnd fun y4 => (Le.cond (Le.refl _) (Le.cond (Le.cond (Le.refl _) (Le.cond (Le.refl _) (Le.gd fun hg => ref08_Parse.h0 _ _   _ (cnt_up hg) BIG 0 (0) (by decide) (cnt_big hg (by decide))))) (Le.cond (Le.refl _) (Le.gd fun hg => ref08_Parse.h0 _ _   _ (cnt_up hg) BIG 0 (0) (by decide) (cnt_big hg (by decide)))))))) Le.nil) (Le.bnd fun y7 => (Le.cond (Le.refl _) (Le.cond (Le.refl _) (Le.gd fun hg => ref08_Parse.h1 _   _ (cnt_up hg) BIG 0 (0) (by decide) (cnt_big hg (by decide)))))))
def ref08_Parse.u (x0 : ByteArray) : Option (Int × Int) := ref08_Parse.w x0 some
noncomputable def ref08_Parse.n : En CKMP := mkE CKMP_ok (es := [ref08_Fine.n, ref01_Plain.n]) (ms := []) (fuel := (ref08_Parse.F BIG)) 58 Tryz.f58 [.ai .str] (.int .i64) [(.int .i64)] (fun x {Ω} k => ref08_Parse.w x.1 k) (fun x Ω k => leV (ref08_Parse.ev BIG x.1 k) (ref08_Parse.le x.1 k)) (by kernel_rfl) (by kernel_rfl)

def internal_stringslite_HasPrefix.s {Ω : Type} (x0 : ByteArray) (x1 : ByteArray) (k : Bool → Option Ω) : Option Ω :=
  bif (decide (((x0).size : Int) ≥ ((x1).size : Int))) then
    bif (subC none (some (((x1).size : Int))) (x0).size) then
      k (((subS none (some (((x1).size : Int))) x0)).data.toList == (x1).data.toList)
    else
      none
  else
    k false
def internal_stringslite_HasPrefix.u (x0 : ByteArray) (x1 : ByteArray) : Option (Bool) := internal_stringslite_HasPrefix.s x0 x1 some
noncomputable def internal_stringslite_HasPrefix.n : En CKMP := mkE CKMP_ok (es := []) (ms := []) (fuel := ⟨1, fun _ => []⟩) 79 Tryz.f79 [.ai .str, .ai .str] .bool [] (fun x {Ω} k => internal_stringslite_HasPrefix.s x.1 x.2.1 k) (fun x Ω k => Le.of (by kernel_rfl)) (by kernel_rfl) (by kernel_rfl)

def internal_stringslite_CutPrefix.s {Ω : Type} (x0 : ByteArray) (x1 : ByteArray) (k : ByteArray × Bool → Option Ω) : Option Ω :=
  (internal_stringslite_HasPrefix.u x0 x1).bind fun y1 =>
  bif (!y1) then
    k (x0, false)
  else
    bif (subC (some (((x1).size : Int))) none (x0).size) then
      k ((subS (some (((x1).size : Int))) none x0), true)
    else
      none
def internal_stringslite_CutPrefix.u (x0 : ByteArray) (x1 : ByteArray) : Option (ByteArray × Bool) := internal_stringslite_CutPrefix.s x0 x1 some
noncomputable def internal_stringslite_CutPrefix.n : En CKMP := mkE CKMP_ok (es := [internal_stringslite_HasPrefix.n]) (ms := []) (fuel := ⟨1, fun _ => []⟩) 78 Tryz.f78 [.ai .str, .ai .str] .str [.bool] (fun x {Ω} k => internal_stringslite_CutPrefix.s x.1 x.2.1 k) (fun x Ω k => Le.of (by kernel_rfl)) (by kernel_rfl) (by kernel_rfl)

def strings_CutPrefix.s {Ω : Type} (x0 : ByteArray) (x1 : ByteArray) (k : ByteArray × Bool → Option Ω) : Option Ω :=
  (internal_stringslite_CutPrefix.u x0 x1).bind fun y1 =>
  k (y1.1, y1.2)
def strings_CutPrefix.u (x0 : ByteArray) (x1 : ByteArray) : Option (ByteArray × Bool) := strings_CutPrefix.s x0 x1 some
noncomputable def strings_CutPrefix.n : En CKMP := mkE CKMP_ok (es := [internal_stringslite_CutPrefix.n]) (ms := []) (fuel := ⟨1, fun _ => []⟩) 67 Tryz.f67 [.ai .str, .ai .str] .str [.bool] (fun x {Ω} k => strings_CutPrefix.s x.1 x.2.1 k) (fun x Ω k => Le.of (by kernel_rfl)) (by kernel_rfl) (by kernel_rfl)

def word_whole.F (fuel : Nat) : Fuel := ⟨fuel, fun r => bif r == 2 then mL 0 30 1073741374 else []⟩
noncomputable def word_whole.V {Ω : Type} (fuel c : Nat) (env : List AV) (L : Heap) (k : Kont Ω) : Option Ω := evCode CKMP (spE (C := CKMP) [] []) (word_whole.F fuel) (pCo c Tryz.f76) env L k
def word_whole.E0 (e2_1 : ByteArray) (e2_2 : (List Int)) (e2_3 : Int) (s2 : Int) : List AV := ((.v .str (e2_1)) :: dZ 5 ((.v (.slice (.int .u8)) (e2_2)) :: (.v (.int .i64) (e2_3)) :: (.v (.int .i64) (s2)) :: dZ 21 ([])))
def word_whole.H0 (e2_1 : ByteArray) (e2_2 : (List Int)) (e2_3 : Int) (s2 : Int) : Heap := []
noncomputable def word_whole.M0 {Ω : Type} (fuel : Nat) (e2_1 : ByteArray) (e2_2 : (List Int)) (e2_3 : Int)  (k : AV → Option Ω) (m : Nat) (s : Int) : Option Ω := loopK (word_whole.V fuel 37) (mB 30 1073741374) [] 0 (blockK 0 (sqK (word_whole.V fuel 7) (finK CKMP Tryz.f76 k))) m ((word_whole.E0 e2_1 e2_2 e2_3) s) ((word_whole.H0 e2_1 e2_2 e2_3) s)
def word_whole.b0 {Ω : Type} (e2_1 : ByteArray) (e2_2 : (List Int)) (e2_3 : Int)   (k : Bool → Option Ω) (r2 : Int → Option Ω) (s2 : Int) : Option Ω :=
 bif (decide (s2 < e2_3)) then
  bif (idxOK s2 (List.length e2_2)) then
   bif (decide ((List.getD e2_2 (Int.toNat s2) 0) < 48)) then
    k false
   else
    bif (decide ((List.getD e2_2 (Int.toNat s2) 0) > 57)) then
     k false
    else
     r2 ((IntKind.wrap .i64 (s2 + 1)))
  else
   none
 else
  bif ((e2_1).data.toList == ((bs [48])).data.toList) then
   k true
  else
   bif (!((e2_1).data.toList == ((bs [])).data.toList)) then
    bif (idxOK 0 (e2_1).size) then
     k ((bAt e2_1 0) != 48)
    else
     none
   else
    k false
theorem word_whole.l0 {Ω : Type} (fuel : Nat) (e2_1 : ByteArray) (e2_2 : (List Int)) (e2_3 : Int)  (k : AV → Option Ω) : ∀ m, (word_whole.M0 fuel e2_1 e2_2 e2_3  k m) = iter (word_whole.b0 e2_1 e2_2 e2_3  (fun r => k (tupAV .bool [] r))) m :=
 loopK_iter (envOf := (word_whole.E0 e2_1 e2_2 e2_3)) (LOf := (word_whole.H0 e2_1 e2_2 e2_3)) (B := word_whole.b0 e2_1 e2_2 e2_3  (fun r => k (tupAV .bool [] r))) (fun R s => by kernel_rfl)
def word_whole.sl {Ω : Type} (x0 : ByteArray) (lp0 : ByteArray → (List Int) → Int → Int → Option Ω) (k : Bool → Option Ω) : Option Ω :=
 lp0 x0 (bytesI x0) (((List.length (bytesI x0) : Nat) : Int)) (0)
def word_whole.g0 {Ω : Type} (e2_1 : ByteArray) (e2_2 : (List Int))  (k : Bool → Option Ω) : List Int → Option Ω
  | [] =>
  bif ((e2_1).data.toList == ((bs [48])).data.toList) then
   k true
  else
   bif (!((e2_1).data.toList == ((bs [])).data.toList)) then
    bif (idxOK 0 (e2_1).size) then
     k ((bAt e2_1 0) != 48)
    else
     none
   else
    k false
  | x2 :: xs2 =>
  bif (decide (x2 < 48)) then
   k false
  else
   bif (decide (x2 > 57)) then
    k false
   else
    word_whole.g0 e2_1 e2_2  k xs2
theorem word_whole.h0 {Ω : Type} (e2_1 : ByteArray) (e2_2 : (List Int))   (k : Bool → Option Ω) (hX : ((List.length e2_2 : Nat) : Int) ≤ 9223372036854775807) : ∀ (m : Nat) (i : Int) (a : Unit), 0 ≤ i → i ≤ ((List.length e2_2 : Nat) : Int) → ((List.length e2_2 : Nat) : Int) < m + i → Le (word_whole.g0 e2_1 e2_2  k (List.drop (Int.toNat i) e2_2) ) (iter (word_whole.b0 e2_1 e2_2 (((List.length e2_2 : Nat) : Int))  k) m (i)) :=
  iter_list e2_2 0 (fun (i2 : Int) (a2 : Unit) => (i2)) (fun xs i2 a2 => word_whole.g0 e2_1 e2_2  k xs ) (word_whole.b0 e2_1 e2_2 (((List.length e2_2 : Nat) : Int))  k)
    (fun i2 a2 r h0 => (Le.fls h0 (Le.cond (Le.refl _) (Le.cond (Le.cond (Le.refl _) Le.nil) (Le.refl _)))))
    (fun i2 xs2 a2 r h0 h1 hw ih => (Le.tru h0 (Le.tru h1 (Le.cond (Le.refl _) (Le.cond (Le.refl _) (ih _ hw ()))))))
    hX
def word_whole.w {Ω : Type} (x0 : ByteArray) (k : Bool → Option Ω) : Option Ω :=
 bif decide (((List.length (bytesI x0) : Nat) : Int) ≤ 4611686018427387904) then word_whole.g0 x0 (bytesI x0)  k (bytesI x0)  else none
theorem word_whole.ev {Ω : Type} (fuel : Nat) (x0 : ByteArray) (k : AV → Option Ω) : evFn CKMP (spE (C := CKMP) [] []) (word_whole.F fuel) Tryz.f76 (Tryz.f76.body.getD .skip) [(.v .str (x0))] k = word_whole.sl x0 (fun e2_1 e2_2 e2_3 => (word_whole.M0 fuel e2_1 e2_2 e2_3  k fuel)) (fun r => k (tupAV .bool [] r)) := by kernel_rfl
theorem word_whole.le {Ω : Type} (x0 : ByteArray) (k : AV → Option Ω) : Le (word_whole.w x0 (fun r => k (tupAV .bool [] r))) (word_whole.sl x0 (fun e2_1 e2_2 e2_3 => (word_whole.M0 BIG e2_1 e2_2 e2_3  k BIG)) (fun r => k (tupAV .bool [] r))) := by
 have h1 := funext fun (e2_1 : ByteArray) => funext fun (e2_2 : (List Int)) => funext fun (e2_3 : Int) => word_whole.l0 BIG e2_1 e2_2 e2_3   k BIG
 rw [h1]
 delta word_whole.w word_whole.sl
 exact (Le.gd fun hg => word_whole.h0 _ _   _ (le_up (of_decide_eq_true hg)) BIG 0 () (by decide) (zero_le_len _) (big_list (of_decide_eq_true hg)))
def word_whole.u (x0 : ByteArray) : Option (Bool) := word_whole.w x0 some
noncomputable def word_whole.n : En CKMP := mkE CKMP_ok (es := []) (ms := []) (fuel := (word_whole.F BIG)) 76 Tryz.f76 [.ai .str] .bool [] (fun x {Ω} k => word_whole.w x.1 k) (fun x Ω k => leV (word_whole.ev BIG x.1 k) (word_whole.le x.1 k)) (by kernel_rfl) (by kernel_rfl)

noncomputable def strconv_Atoi.n : En CKMP := En.of (g := 77) (e := fun {_} => strconv_Atoi.e) (strconv_Atoi.e_ok.mono le_C_CKMP)
def word_Parse.s {Ω : Type} (x0 : ByteArray) (k : Int × Int → Option Ω) : Option Ω :=
  (strings_CutPrefix.u x0 (bs [45])).bind fun y1 =>
  (word_whole.u y1.1).bind fun y2 =>
  bif (!y2) then
    k (0, 3)
  else
    bif y1.2 then
      bif ((y1.1).data.toList == ((bs [48])).data.toList) then
        k (0, 3)
      else
        bif (decide (((y1.1).size : Int) ≤ 10)) then
          (strconv_Atoi.u y1.1).bind fun y3 =>
          bif y1.2 then
            bif (!(word_Fine.t ((IntKind.wrap .i64 (0 - y3.1))))) then
              k (0, 8)
            else
              k ((IntKind.wrap .i64 (0 - y3.1)), 0)
          else
            bif (!(word_Fine.t y3.1)) then
              k (0, 8)
            else
              k (y3.1, 0)
        else
          bif y1.2 then
            bif (!(word_Fine.t (-2147483649))) then
              k (0, 8)
            else
              k ((-2147483649), 0)
          else
            bif (!(word_Fine.t 2147483649)) then
              k (0, 8)
            else
              k (2147483649, 0)
    else
      bif (decide (((y1.1).size : Int) ≤ 10)) then
        (strconv_Atoi.u y1.1).bind fun y4 =>
        bif y1.2 then
          bif (!(word_Fine.t ((IntKind.wrap .i64 (0 - y4.1))))) then
            k (0, 8)
          else
            k ((IntKind.wrap .i64 (0 - y4.1)), 0)
        else
          bif (!(word_Fine.t y4.1)) then
            k (0, 8)
          else
            k (y4.1, 0)
      else
        bif y1.2 then
          bif (!(word_Fine.t (-2147483649))) then
            k (0, 8)
          else
            k ((-2147483649), 0)
        else
          bif (!(word_Fine.t 2147483649)) then
            k (0, 8)
          else
            k (2147483649, 0)
def word_Parse.u (x0 : ByteArray) : Option (Int × Int) := word_Parse.s x0 some
noncomputable def word_Parse.n : En CKMP := mkE CKMP_ok (es := [word_Fine.n, strings_CutPrefix.n, word_whole.n, strconv_Atoi.n]) (ms := []) (fuel := ⟨1, fun _ => []⟩) 66 Tryz.f66 [.ai .str] (.int .i64) [(.int .i64)] (fun x {Ω} k => word_Parse.s x.1 k) (fun x Ω k => Le.of (by kernel_rfl)) (by kernel_rfl) (by kernel_rfl)

end Go.Proofs.YtmmooplcdkmapaaGreatDoor.K

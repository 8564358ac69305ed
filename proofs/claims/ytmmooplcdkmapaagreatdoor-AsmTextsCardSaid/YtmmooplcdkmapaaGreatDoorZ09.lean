/- What functions of the program come to, plainly. -/
import Derived.Test.YtmmooplcdkmapaaGreatDoorZ08
set_option maxRecDepth 100000
set_option linter.unusedVariables false
namespace Go.Proofs.YtmmooplcdkmapaaGreatDoor.K
open Go Go.RowKit

def opcode_fine.s {Ω : Type} (x0 : Int) (k : Bool → Option Ω) : Option Ω :=
  bif (decide (x0 ≥ 0)) then
    k (decide (x0 < 48))
  else
    k false
def opcode_fine.t (x0 : Int) : Bool :=
  bif (decide (x0 ≥ 0)) then
    (decide (x0 < 48))
  else
    false
theorem opcode_fine.v {Ω : Type} (x0 : Int) (k : Bool → Option Ω) : opcode_fine.s x0 k = k (opcode_fine.t x0) := by
  delta opcode_fine.s opcode_fine.t; exact (cond_tot rfl rfl)
noncomputable def opcode_fine.n : En CKMP := mkT CKMP_ok (es := []) (ms := []) (fuel := ⟨1, fun _ => []⟩) 42 Tryz.f42 [.ai (.int .i64)] .bool [] (fun x {Ω} k => opcode_fine.s x.1 k) (fun x => opcode_fine.t x.1) (fun x Ω k => by kernel_rfl) (fun x => opcode_fine.v x.1 some) (by kernel_rfl) (by kernel_rfl)

def opcode_Name.s {Ω : Type} (x0 : Int) (k : ByteArray → Option Ω) : Option Ω :=
  bif (!(opcode_fine.t x0)) then
    k (bs [])
  else
    bif (idxOK x0 48) then
      k (List.getD kindsT (Int.toNat x0) ((bs []), ((bs []), (0, ())))).1
    else
      none
def opcode_Name.u (x0 : Int) : Option (ByteArray) := opcode_Name.s x0 some
noncomputable def opcode_Name.n : En CKMP := mkE CKMP_ok (es := [opcode_fine.n]) (ms := []) (fuel := ⟨1, fun _ => []⟩) 18 Tryz.f18 [.ai (.int .i64)] .str [] (fun x {Ω} k => opcode_Name.s x.1 k) (fun x Ω k => Le.of (by kernel_rfl)) (by kernel_rfl) (by kernel_rfl)

def opcode_Form.s {Ω : Type} (x0 : Int) (k : ByteArray → Option Ω) : Option Ω :=
  bif (!(opcode_fine.t x0)) then
    k (bs [])
  else
    bif (idxOK x0 48) then
      k (List.getD kindsT (Int.toNat x0) ((bs []), ((bs []), (0, ())))).2.1
    else
      none
def opcode_Form.u (x0 : Int) : Option (ByteArray) := opcode_Form.s x0 some
noncomputable def opcode_Form.n : En CKMP := mkE CKMP_ok (es := [opcode_fine.n]) (ms := []) (fuel := ⟨1, fun _ => []⟩) 19 Tryz.f19 [.ai (.int .i64)] .str [] (fun x {Ω} k => opcode_Form.s x.1 k) (fun x Ω k => Le.of (by kernel_rfl)) (by kernel_rfl) (by kernel_rfl)

def opcode_Find.F (fuel : Nat) : Fuel := ⟨fuel, fun r => bif r == 2 then mL 0 17 130878 else []⟩
noncomputable def opcode_Find.V {Ω : Type} (fuel c : Nat) (env : List AV) (L : Heap) (k : Kont Ω) : Option Ω := evCode CKMP (spE (C := CKMP) [] []) (opcode_Find.F fuel) (pCo c Tryz.f23) env L k
def opcode_Find.E0 (e2_1 : ByteArray) (e2_2 : (List T_s73)) (s2 : Int) : List AV := ((.v .str (e2_1)) :: dZ 5 ((.v (.arr 48 E_s73) (e2_2)) :: (.v (.int .i64) (s2)) :: dZ 9 ([])))
def opcode_Find.H0 (e2_1 : ByteArray) (e2_2 : (List T_s73)) (s2 : Int) : Heap := []
noncomputable def opcode_Find.M0 {Ω : Type} (fuel : Nat) (e2_1 : ByteArray) (e2_2 : (List T_s73))  (k : AV → Option Ω) (m : Nat) (s : Int) : Option Ω := loopK (opcode_Find.V fuel 37) (mB 17 130878) [] 0 (blockK 0 (sqK (opcode_Find.V fuel 7) (finK CKMP Tryz.f23 k))) m ((opcode_Find.E0 e2_1 e2_2) s) ((opcode_Find.H0 e2_1 e2_2) s)
def opcode_Find.b0 {Ω : Type} (e2_1 : ByteArray) (e2_2 : (List T_s73))   (k : Int × Bool → Option Ω) (r2 : Int → Option Ω) (s2 : Int) : Option Ω :=
 bif (decide (s2 < 48)) then
  bif (idxOK s2 48) then
   let v1 : Bool := (((List.getD e2_2 (Int.toNat s2) ((bs []), ((bs []), (0, ())))).1).data.toList == (e2_1).data.toList)
   bif v1 then
    k (s2, true)
   else
    r2 ((IntKind.wrap .i64 (s2 + 1)))
  else
   none
 else
  k (0, false)
theorem opcode_Find.l0 {Ω : Type} (fuel : Nat) (e2_1 : ByteArray) (e2_2 : (List T_s73))  (k : AV → Option Ω) : ∀ m, (opcode_Find.M0 fuel e2_1 e2_2  k m) = iter (opcode_Find.b0 e2_1 e2_2  (fun r => k (tupAV (.int .i64) [.bool] r))) m :=
 loopK_iter (envOf := (opcode_Find.E0 e2_1 e2_2)) (LOf := (opcode_Find.H0 e2_1 e2_2)) (B := opcode_Find.b0 e2_1 e2_2  (fun r => k (tupAV (.int .i64) [.bool] r))) (fun R s => by kernel_rfl)
def opcode_Find.sl {Ω : Type} (x0 : ByteArray) (lp0 : ByteArray → (List T_s73) → Int → Option Ω) (k : Int × Bool → Option Ω) : Option Ω :=
 lp0 x0 kindsT (0)
def opcode_Find.g0 {Ω : Type} (e2_1 : ByteArray) (e2_2 : (List T_s73))  (k : Int × Bool → Option Ω) : Nat → Int → Option Ω
  | 0, i2 =>
  k (0, false)
  | d2 + 1, i2 =>
  bif (idxOK i2 48) then
   let v1 : Bool := (((List.getD e2_2 (Int.toNat i2) ((bs []), ((bs []), (0, ())))).1).data.toList == (e2_1).data.toList)
   bif v1 then
    k (i2, true)
   else
    opcode_Find.g0 e2_1 e2_2  k d2 (i2 + 1)
  else
   none
theorem opcode_Find.h0 {Ω : Type} (e2_1 : ByteArray) (e2_2 : (List T_s73))   (k : Int × Bool → Option Ω) (hN : (48 : Int) ≤ 9223372036854775807) : ∀ (m : Nat) (i : Int) (a : Unit), -9223372036854775808 ≤ i → Int.toNat ((48 : Int) - i) < m → Le (opcode_Find.g0 e2_1 e2_2  k (Int.toNat ((48 : Int) - i)) i) (iter (opcode_Find.b0 e2_1 e2_2  k) m (i)) :=
  iter_count (48 : Int) (fun i2 => (decide (i2 < 48))) (fun i => rfl) (fun (i2 : Int) (a2 : Unit) => (i2)) (fun xs i2 a2 => opcode_Find.g0 e2_1 e2_2  k xs i2) (opcode_Find.b0 e2_1 e2_2  k)
    (fun i2 a2 r h0 => (Le.fls h0 (Le.refl _)))
    (fun i2 d2 a2 r h0 hw ih => (Le.tru h0 (Le.cond (let v1 : Bool := (((List.getD e2_2 (Int.toNat i2) ((bs []), ((bs []), (0, ())))).1).data.toList == (e2_1).data.toList); (Le.cond (Le.refl _) (ih _ hw ()))) Le.nil)))
    hN
def opcode_Find.w {Ω : Type} (x0 : ByteArray) (k : Int × Bool → Option Ω) : Option Ω :=
 opcode_Find.g0 x0 kindsT  k ((Int.toNat ((48 : Int) - 0))) 0
theorem opcode_Find.ev {Ω : Type} (fuel : Nat) (x0 : ByteArray) (k : AV → Option Ω) : evFn CKMP (spE (C := CKMP) [] []) (opcode_Find.F fuel) Tryz.f23 (Tryz.f23.body.getD .skip) [(.v .str (x0))] k = opcode_Find.sl x0 (fun e2_1 e2_2 => (opcode_Find.M0 fuel e2_1 e2_2  k fuel)) (fun r => k (tupAV (.int .i64) [.bool] r)) := by kernel_rfl
theorem opcode_Find.le {Ω : Type} (x0 : ByteArray) (k : AV → Option Ω) : Le (opcode_Find.w x0 (fun r => k (tupAV (.int .i64) [.bool] r))) (opcode_Find.sl x0 (fun e2_1 e2_2 => (opcode_Find.M0 BIG e2_1 e2_2  k BIG)) (fun r => k (tupAV (.int .i64) [.bool] r))) := by
 have h1 := funext fun (e2_1 : ByteArray) => funext fun (e2_2 : (List T_s73)) => opcode_Find.l0 BIG e2_1 e2_2   k BIG
 rw [h1]
 delta opcode_Find.w opcode_Find.sl
 exact (opcode_Find.h0 _ _   _ (by decide) BIG 0 () (by decide) (by decide))
def opcode_Find.u (x0 : ByteArray) : Option (Int × Bool) := opcode_Find.w x0 some
noncomputable def opcode_Find.n : En CKMP := mkE CKMP_ok (es := []) (ms := []) (fuel := (opcode_Find.F BIG)) 23 Tryz.f23 [.ai .str] (.int .i64) [.bool] (fun x {Ω} k => opcode_Find.w x.1 k) (fun x Ω k => leV (opcode_Find.ev BIG x.1 k) (opcode_Find.le x.1 k)) (by kernel_rfl) (by kernel_rfl)

def ref09_Table.s {Ω : Type}  (k : (List T_s73) → Option Ω) : Option Ω :=
  k [((bs [110, 111, 112]), ((bs [45, 45, 45]), (0, ()))), ((bs [104, 97, 108, 116]), ((bs [45, 45, 45]), (5, ()))), ((bs [109, 111, 118]), ((bs [114, 114, 45]), (0, ()))), ((bs [115, 101, 116]), ((bs [114, 105, 106]), (0, ()))), ((bs [97, 100, 100]), ((bs [114, 114, 114]), (0, ()))), ((bs [115, 117, 98]), ((bs [114, 114, 114]), (0, ()))), ((bs [109, 117, 108]), ((bs [114, 114, 114]), (0, ()))), ((bs [100, 105, 118]), ((bs [114, 114, 114]), (0, ()))), ((bs [114, 101, 109]), ((bs [114, 114, 114]), (0, ()))), ((bs [97, 110, 100]), ((bs [114, 114, 114]), (0, ()))), ((bs [111, 114]), ((bs [114, 114, 114]), (0, ()))), ((bs [120, 111, 114]), ((bs [114, 114, 114]), (0, ()))), ((bs [115, 104, 108]), ((bs [114, 114, 114]), (0, ()))), ((bs [115, 104, 114]), ((bs [114, 114, 114]), (0, ()))), ((bs [110, 111, 116]), ((bs [114, 114, 45]), (0, ()))), ((bs [110, 101, 103]), ((bs [114, 114, 45]), (0, ()))), ((bs [108, 116]), ((bs [114, 114, 114]), (0, ()))), ((bs [101, 113]), ((bs [114, 114, 114]), (0, ()))), ((bs [106, 109, 112]), ((bs [116, 45, 45]), (1, ()))), ((bs [106, 122]), ((bs [114, 116, 45]), (1, ()))), ((bs [106, 110, 122]), ((bs [114, 116, 45]), (1, ()))), ((bs [106, 98, 97, 100]), ((bs [116, 45, 45]), (1, ()))), ((bs [99, 97, 108, 108]), ((bs [116, 45, 45]), (1, ()))), ((bs [114, 101, 116]), ((bs [45, 45, 45]), (1, ()))), ((bs [108, 111, 97, 100]), ((bs [114, 114, 45]), (0, ()))), ((bs [115, 116, 111, 114, 101]), ((bs [114, 114, 45]), (0, ()))), ((bs [102, 97, 105, 108]), ((bs [115, 45, 45]), (5, ()))), ((bs [101, 109, 105, 116]), ((bs [114, 45, 45]), (4, ()))), ((bs [110, 111, 119]), ((bs [114, 45, 45]), (4, ()))), ((bs [109, 101]), ((bs [114, 45, 45]), (4, ()))), ((bs [115, 112, 97, 119, 110]), ((bs [114, 112, 114]), (4, ()))), ((bs [106, 111, 105, 110]), ((bs [114, 45, 45]), (2, ()))), ((bs [115, 108, 101, 101, 112]), ((bs [114, 45, 45]), (2, ()))), ((bs [115, 101, 110, 100]), ((bs [99, 114, 45]), (2, ()))), ((bs [114, 101, 99, 118]), ((bs [99, 114, 45]), (2, ()))), ((bs [112, 111, 105, 115, 111, 110]), ((bs [99, 114, 45]), (4, ()))), ((bs [101, 110, 114, 111, 108]), ((bs [98, 45, 45]), (4, ()))), ((bs [114, 101, 115, 105, 103, 110]), ((bs [98, 45, 45]), (4, ()))), ((bs [115, 121, 110, 99]), ((bs [98, 45, 45]), (2, ()))), ((bs [102, 97, 108, 108]), ((bs [107, 45, 45]), (2, ()))), ((bs [102, 108, 117, 115, 104]), ((bs [114, 107, 45]), (4, ()))), ((bs [97, 108, 116]), ((bs [114, 109, 110]), (2, ()))), ((bs [103, 105, 110]), ((bs [99, 114, 103]), (3, ()))), ((bs [103, 98, 97, 114]), ((bs [98, 45, 103]), (3, ()))), ((bs [103, 116, 105, 109, 101]), ((bs [114, 45, 103]), (3, ()))), ((bs [103, 115, 107, 105, 112]), ((bs [45, 45, 103]), (3, ()))), ((bs [112, 104, 97, 115, 101]), ((bs [114, 98, 45]), (4, ()))), ((bs [115, 105, 122, 101]), ((bs [114, 98, 45]), (4, ())))]
def ref09_Table.t  : (List T_s73) :=
  [((bs [110, 111, 112]), ((bs [45, 45, 45]), (0, ()))), ((bs [104, 97, 108, 116]), ((bs [45, 45, 45]), (5, ()))), ((bs [109, 111, 118]), ((bs [114, 114, 45]), (0, ()))), ((bs [115, 101, 116]), ((bs [114, 105, 106]), (0, ()))), ((bs [97, 100, 100]), ((bs [114, 114, 114]), (0, ()))), ((bs [115, 117, 98]), ((bs [114, 114, 114]), (0, ()))), ((bs [109, 117, 108]), ((bs [114, 114, 114]), (0, ()))), ((bs [100, 105, 118]), ((bs [114, 114, 114]), (0, ()))), ((bs [114, 101, 109]), ((bs [114, 114, 114]), (0, ()))), ((bs [97, 110, 100]), ((bs [114, 114, 114]), (0, ()))), ((bs [111, 114]), ((bs [114, 114, 114]), (0, ()))), ((bs [120, 111, 114]), ((bs [114, 114, 114]), (0, ()))), ((bs [115, 104, 108]), ((bs [114, 114, 114]), (0, ()))), ((bs [115, 104, 114]), ((bs [114, 114, 114]), (0, ()))), ((bs [110, 111, 116]), ((bs [114, 114, 45]), (0, ()))), ((bs [110, 101, 103]), ((bs [114, 114, 45]), (0, ()))), ((bs [108, 116]), ((bs [114, 114, 114]), (0, ()))), ((bs [101, 113]), ((bs [114, 114, 114]), (0, ()))), ((bs [106, 109, 112]), ((bs [116, 45, 45]), (1, ()))), ((bs [106, 122]), ((bs [114, 116, 45]), (1, ()))), ((bs [106, 110, 122]), ((bs [114, 116, 45]), (1, ()))), ((bs [106, 98, 97, 100]), ((bs [116, 45, 45]), (1, ()))), ((bs [99, 97, 108, 108]), ((bs [116, 45, 45]), (1, ()))), ((bs [114, 101, 116]), ((bs [45, 45, 45]), (1, ()))), ((bs [108, 111, 97, 100]), ((bs [114, 114, 45]), (0, ()))), ((bs [115, 116, 111, 114, 101]), ((bs [114, 114, 45]), (0, ()))), ((bs [102, 97, 105, 108]), ((bs [115, 45, 45]), (5, ()))), ((bs [101, 109, 105, 116]), ((bs [114, 45, 45]), (4, ()))), ((bs [110, 111, 119]), ((bs [114, 45, 45]), (4, ()))), ((bs [109, 101]), ((bs [114, 45, 45]), (4, ()))), ((bs [115, 112, 97, 119, 110]), ((bs [114, 112, 114]), (4, ()))), ((bs [106, 111, 105, 110]), ((bs [114, 45, 45]), (2, ()))), ((bs [115, 108, 101, 101, 112]), ((bs [114, 45, 45]), (2, ()))), ((bs [115, 101, 110, 100]), ((bs [99, 114, 45]), (2, ()))), ((bs [114, 101, 99, 118]), ((bs [99, 114, 45]), (2, ()))), ((bs [112, 111, 105, 115, 111, 110]), ((bs [99, 114, 45]), (4, ()))), ((bs [101, 110, 114, 111, 108]), ((bs [98, 45, 45]), (4, ()))), ((bs [114, 101, 115, 105, 103, 110]), ((bs [98, 45, 45]), (4, ()))), ((bs [115, 121, 110, 99]), ((bs [98, 45, 45]), (2, ()))), ((bs [102, 97, 108, 108]), ((bs [107, 45, 45]), (2, ()))), ((bs [102, 108, 117, 115, 104]), ((bs [114, 107, 45]), (4, ()))), ((bs [97, 108, 116]), ((bs [114, 109, 110]), (2, ()))), ((bs [103, 105, 110]), ((bs [99, 114, 103]), (3, ()))), ((bs [103, 98, 97, 114]), ((bs [98, 45, 103]), (3, ()))), ((bs [103, 116, 105, 109, 101]), ((bs [114, 45, 103]), (3, ()))), ((bs [103, 115, 107, 105, 112]), ((bs [45, 45, 103]), (3, ()))), ((bs [112, 104, 97, 115, 101]), ((bs [114, 98, 45]), (4, ()))), ((bs [115, 105, 122, 101]), ((bs [114, 98, 45]), (4, ())))]
theorem ref09_Table.v {Ω : Type}  (k : (List T_s73) → Option Ω) : ref09_Table.s  k = k (ref09_Table.t ) := by
  delta ref09_Table.s ref09_Table.t; exact rfl
noncomputable def ref09_Table.n : En CKMP := mkT CKMP_ok (es := []) (ms := []) (fuel := ⟨1, fun _ => []⟩) 55 Tryz.f55 [] (.slice E_s73) [] (fun x {Ω} k => ref09_Table.s  k) (fun x => ref09_Table.t ) (fun x Ω k => by kernel_rfl) (fun x => ref09_Table.v  some) (by kernel_rfl) (by kernel_rfl)

def ref09_Of.s {Ω : Type} (x0 : Int) (k : T_s73 → Option Ω) : Option Ω :=
  bif (decide (x0 < 0)) then
    k ((bs []), ((bs []), ((-1), ())))
  else
    bif (decide (x0 ≥ ((List.length ref09_Table.t : Nat) : Int))) then
      k ((bs []), ((bs []), ((-1), ())))
    else
      bif (idxOK x0 (List.length ref09_Table.t)) then
        k (List.getD ref09_Table.t (Int.toNat x0) ((bs []), ((bs []), (0, ()))))
      else
        none
def ref09_Of.u (x0 : Int) : Option (T_s73) := ref09_Of.s x0 some
noncomputable def ref09_Of.n : En CKMP := mkE CKMP_ok (es := [ref09_Table.n]) (ms := []) (fuel := ⟨1, fun _ => []⟩) 28 Tryz.f28 [.ai (.int .i64)] E_s73 [] (fun x {Ω} k => ref09_Of.s x.1 k) (fun x Ω k => Le.of (by kernel_rfl)) (by kernel_rfl) (by kernel_rfl)

def ref09_Find.F (fuel : Nat) : Fuel := ⟨fuel, fun r => bif r == 3 then mL 0 21 2097102 else []⟩
noncomputable def ref09_Find.V {Ω : Type} (fuel c : Nat) (env : List AV) (L : Heap) (k : Kont Ω) : Option Ω := evCode CKMP (spE (C := CKMP) [ref09_Table.n] []) (ref09_Find.F fuel) (pCo c Tryz.f36) env L k
def ref09_Find.E0 (e3_1 : ByteArray) (e3_2 : (List T_s73)) (s3 : Int) : List AV := ((.v .str (e3_1)) :: dZ 3 ((.v (.slice E_s73) (e3_2)) :: (.v (.int .i64) (s3)) :: dZ 15 ([])))
def ref09_Find.H0 (e3_1 : ByteArray) (e3_2 : (List T_s73)) (s3 : Int) : Heap := []
noncomputable def ref09_Find.M0 {Ω : Type} (fuel : Nat) (e3_1 : ByteArray) (e3_2 : (List T_s73))  (k : AV → Option Ω) (m : Nat) (s : Int) : Option Ω := loopK (ref09_Find.V fuel 75) (mB 21 2097102) [] 0 (blockK 0 (sqK (ref09_Find.V fuel 15) (finK CKMP Tryz.f36 k))) m ((ref09_Find.E0 e3_1 e3_2) s) ((ref09_Find.H0 e3_1 e3_2) s)
def ref09_Find.b0 {Ω : Type} (e3_1 : ByteArray) (e3_2 : (List T_s73))   (k : Int × Bool → Option Ω) (r3 : Int → Option Ω) (s3 : Int) : Option Ω :=
 bif (decide (s3 < ((List.length e3_2 : Nat) : Int))) then
  bif (idxOK s3 (List.length e3_2)) then
   let v1 : Bool := (((List.getD e3_2 (Int.toNat s3) ((bs []), ((bs []), (0, ())))).1).data.toList == (e3_1).data.toList)
   bif v1 then
    k (s3, true)
   else
    r3 ((IntKind.wrap .i64 (s3 + 1)))
  else
   none
 else
  k (0, false)
theorem ref09_Find.l0 {Ω : Type} (fuel : Nat) (e3_1 : ByteArray) (e3_2 : (List T_s73))  (k : AV → Option Ω) : ∀ m, (ref09_Find.M0 fuel e3_1 e3_2  k m) = iter (ref09_Find.b0 e3_1 e3_2  (fun r => k (tupAV (.int .i64) [.bool] r))) m :=
 loopK_iter (envOf := (ref09_Find.E0 e3_1 e3_2)) (LOf := (ref09_Find.H0 e3_1 e3_2)) (B := ref09_Find.b0 e3_1 e3_2  (fun r => k (tupAV (.int .i64) [.bool] r))) (fun R s => by kernel_rfl)
def ref09_Find.sl {Ω : Type} (x0 : ByteArray) (lp0 : ByteArray → (List T_s73) → Int → Option Ω) (k : Int × Bool → Option Ω) : Option Ω :=
 lp0 x0 ref09_Table.t (0)
def ref09_Find.g0 {Ω : Type} (e3_1 : ByteArray) (e3_2 : (List T_s73))  (k : Int × Bool → Option Ω) : List T_s73 → Int → Option Ω
  | [], i3 =>
  k (0, false)
  | x3 :: xs3, i3 =>
  let v1 : Bool := ((x3.1).data.toList == (e3_1).data.toList)
  bif v1 then
   k (i3, true)
  else
   ref09_Find.g0 e3_1 e3_2  k xs3 (i3 + 1)
theorem ref09_Find.h0 {Ω : Type} (e3_1 : ByteArray) (e3_2 : (List T_s73))   (k : Int × Bool → Option Ω) (hX : ((List.length e3_2 : Nat) : Int) ≤ 9223372036854775807) : ∀ (m : Nat) (i : Int) (a : Unit), 0 ≤ i → i ≤ ((List.length e3_2 : Nat) : Int) → ((List.length e3_2 : Nat) : Int) < m + i → Le (ref09_Find.g0 e3_1 e3_2  k (List.drop (Int.toNat i) e3_2) i) (iter (ref09_Find.b0 e3_1 e3_2  k) m (i)) :=
  iter_list e3_2 ((bs []), ((bs []), (0, ()))) (fun (i3 : Int) (a3 : Unit) => (i3)) (fun xs i3 a3 => ref09_Find.g0 e3_1 e3_2  k xs i3) (ref09_Find.b0 e3_1 e3_2  k)
    (fun i3 a3 r h0 => (Le.fls h0 (Le.refl _)))
    (fun i3 xs3 a3 r h0 h1 hw ih => (Le.tru h0 (Le.tru h1 (let v1 : Bool := (((List.getD e3_2 (Int.toNat i3) ((bs []), ((bs []), (0, ())))).1).data.toList == (e3_1).data.toList); (Le.cond (Le.refl _) (ih _ hw ()))))))
    hX
def ref09_Find.w {Ω : Type} (x0 : ByteArray) (k : Int × Bool → Option Ω) : Option Ω :=
 bif decide (((List.length ref09_Table.t : Nat) : Int) ≤ 4611686018427387904) then ref09_Find.g0 x0 ref09_Table.t  k ref09_Table.t 0 else none
theorem ref09_Find.ev {Ω : Type} (fuel : Nat) (x0 : ByteArray) (k : AV → Option Ω) : evFn CKMP (spE (C := CKMP) [ref09_Table.n] []) (ref09_Find.F fuel) Tryz.f36 (Tryz.f36.body.getD .skip) [(.v .str (x0))] k = ref09_Find.sl x0 (fun e3_1 e3_2 => (ref09_Find.M0 fuel e3_1 e3_2  k fuel)) (fun r => k (tupAV (.int .i64) [.bool] r)) := by kernel_rfl
theorem ref09_Find.le {Ω : Type} (x0 : ByteArray) (k : AV → Option Ω) : Le (ref09_Find.w x0 (fun r => k (tupAV (.int .i64) [.bool] r))) (ref09_Find.sl x0 (fun e3_1 e3_2 => (ref09_Find.M0 BIG e3_1 e3_2  k BIG)) (fun r => k (tupAV (.int .i64) [.bool] r))) := by
 have h1 := funext fun (e3_1 : ByteArray) => funext fun (e3_2 : (List T_s73)) => ref09_Find.l0 BIG e3_1 e3_2   k BIG
 rw [h1]
 delta ref09_Find.w ref09_Find.sl
 exact (Le.gd fun hg => ref09_Find.h0 _ _   _ (le_up (of_decide_eq_true hg)) BIG 0 () (by decide) (zero_le_len _) (big_list (of_decide_eq_true hg)))
def ref09_Find.u (x0 : ByteArray) : Option (Int × Bool) := ref09_Find.w x0 some
noncomputable def ref09_Find.n : En CKMP := mkE CKMP_ok (es := [ref09_Table.n]) (ms := []) (fuel := (ref09_Find.F BIG)) 36 Tryz.f36 [.ai .str] (.int .i64) [.bool] (fun x {Ω} k => ref09_Find.w x.1 k) (fun x Ω k => leV (ref09_Find.ev BIG x.1 k) (ref09_Find.le x.1 k)) (by kernel_rfl) (by kernel_rfl)

end Go.Proofs.YtmmooplcdkmapaaGreatDoor.K

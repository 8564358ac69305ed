/- What functions of the program come to, and their laws. -/
import Derived.Test.YtlcomipbinfooaaGreatDoorBl
namespace Go.Proofs.YtlcomipbinfooaaGreatDoor.K
open Go Go.RowKit
section
set_option linter.unusedVariables false
set_option linter.unusedSimpArgs false
set_option maxRecDepth 100000
variable {Ω : Type}

def ref06_Same.F (fuel : Nat) : Fuel := ⟨fuel, fun r => bif r == 4 then mL 0 26 67108828 else []⟩
noncomputable def ref06_Same.V (fuel c : Nat) (env : List AV) (L : Heap) (k : Kont Ω) : Option Ω := evCode CDEKP (spE (C := CDEKP) [] []) (ref06_Same.F fuel) (pCo c Tryz.f36) env L k
def ref06_Same.E0 (e4_1 : (List T_s63)) (e4_2 : (List T_s63)) (s4 : Int) : List AV := ((.v (.slice E_s63) (e4_1)) :: (.v (.slice E_s63) (e4_2)) :: dZ 3 ((.v (.int .i64) (s4)) :: dZ 20 ([])))
def ref06_Same.H0 (e4_1 : (List T_s63)) (e4_2 : (List T_s63)) (s4 : Int) : Heap := []
noncomputable def ref06_Same.M0 (fuel : Nat) (e4_1 : (List T_s63)) (e4_2 : (List T_s63))  (k : AV → Option Ω) (m : Nat) (s : Int) : Option Ω := loopK (ref06_Same.V fuel 75) (mB 26 67108828) [] 0 (blockK 0 (sqK (ref06_Same.V fuel 15) (finK CDEKP Tryz.f36 k))) m ((ref06_Same.E0 e4_1 e4_2) s) ((ref06_Same.H0 e4_1 e4_2) s)
def ref06_Same.b0 (e4_1 : (List T_s63)) (e4_2 : (List T_s63))   (k : Bool → Option Ω) (r4 : Int → Option Ω) (s4 : Int) : Option Ω :=
 bif (decide (s4 < ((List.length e4_1 : Nat) : Int))) then
 bif (idxOK s4 (List.length e4_1)) then
 bif (idxOK s4 (List.length e4_2)) then
 let v1 : Bool := (!(eqI E_s63 (List.getD e4_1 (Int.toNat s4) (0, (0, (0, ())))) (List.getD e4_2 (Int.toNat s4) (0, (0, (0, ()))))))
 bif v1 then
 k false
 else
 r4 ((IntKind.wrap .i64 (s4 + 1)))
 else
 none
 else
 none
 else
 k true
theorem ref06_Same.l0 (fuel : Nat) (e4_1 : (List T_s63)) (e4_2 : (List T_s63))  (k : AV → Option Ω) : ∀ m, (ref06_Same.M0 fuel e4_1 e4_2  k m) = iter (ref06_Same.b0 e4_1 e4_2  (fun r => k (tupAV .bool [] r))) m :=
 loopK_iter (envOf := (ref06_Same.E0 e4_1 e4_2)) (LOf := (ref06_Same.H0 e4_1 e4_2)) (B := ref06_Same.b0 e4_1 e4_2  (fun r => k (tupAV .bool [] r))) (fun R s => by kernel_rfl)
def ref06_Same.sl (x0 : (List T_s63)) (x1 : (List T_s63)) (lp0 : (List T_s63) → (List T_s63) → Int → Option Ω) (k : Bool → Option Ω) : Option Ω :=
 bif (((List.length x0 : Nat) : Int) != ((List.length x1 : Nat) : Int)) then
 k false
 else
 lp0 x0 x1 (0)
def ref06_Same.g0 (e4_1 : (List T_s63)) (e4_2 : (List T_s63))  (k : Bool → Option Ω) : List T_s63 → Int → Option Ω
 | [], i4 =>
 k true
 | x4 :: xs4, i4 =>
 bif (idxOK i4 (List.length e4_2)) then
 let v1 : Bool := (!(eqI E_s63 x4 (List.getD e4_2 (Int.toNat i4) (0, (0, (0, ()))))))
 bif v1 then
 k false
 else
 ref06_Same.g0 e4_1 e4_2  k xs4 (i4 + 1)
 else
 none
theorem ref06_Same.h0 (e4_1 : (List T_s63)) (e4_2 : (List T_s63))   (k : Bool → Option Ω) (hX : ((List.length e4_1 : Nat) : Int) ≤ 9223372036854775807) : ∀ (m : Nat) (i : Int) (a : Unit), 0 ≤ i → i ≤ ((List.length e4_1 : Nat) : Int) → ((List.length e4_1 : Nat) : Int) < m + i → Le (ref06_Same.g0 e4_1 e4_2  k (List.drop (Int.toNat i) e4_1) i) (iter (ref06_Same.b0 e4_1 e4_2  k) m (i)) :=
 iter_list e4_1 (0, (0, (0, ()))) (fun (i4 : Int) (a4 : Unit) => (i4)) (fun xs i4 a4 => ref06_Same.g0 e4_1 e4_2  k xs i4) (ref06_Same.b0 e4_1 e4_2  k)
 (fun i4 a4 r h0 => (Le.fls h0 (Le.refl _)))
 (fun i4 xs4 a4 r h0 h1 hw ih => (Le.tru h0 (Le.tru h1 (Le.cond (let v1 : Bool := (!(eqI E_s63 (List.getD e4_1 (Int.toNat i4) (0, (0, (0, ())))) (List.getD e4_2 (Int.toNat i4) (0, (0, (0, ())))))); (Le.cond (Le.refl _) (ih _ hw ()))) Le.nil))))
 hX
def ref06_Same.w (x0 : (List T_s63)) (x1 : (List T_s63)) (k : Bool → Option Ω) : Option Ω :=
 bif (((List.length x0 : Nat) : Int) != ((List.length x1 : Nat) : Int)) then
 k false
 else
 bif decide (((List.length x0 : Nat) : Int) ≤ 4611686018427387904) then ref06_Same.g0 x0 x1  k x0 0 else none
theorem ref06_Same.ev (fuel : Nat) (x0 : (List T_s63)) (x1 : (List T_s63)) (k : AV → Option Ω) : evFn CDEKP (spE (C := CDEKP) [] []) (ref06_Same.F fuel) Tryz.f36 (Tryz.f36.body.getD .skip) [(.v (.slice E_s63) (x0)), (.v (.slice E_s63) (x1))] k = ref06_Same.sl x0 x1 (fun e4_1 e4_2 => (ref06_Same.M0 fuel e4_1 e4_2  k fuel)) (fun r => k (tupAV .bool [] r)) := by kernel_rfl
theorem ref06_Same.le (x0 : (List T_s63)) (x1 : (List T_s63)) (k : AV → Option Ω) : Le (ref06_Same.w x0 x1 (fun r => k (tupAV .bool [] r))) (ref06_Same.sl x0 x1 (fun e4_1 e4_2 => (ref06_Same.M0 BIG e4_1 e4_2  k BIG)) (fun r => k (tupAV .bool [] r))) := by
 have h1 := funext fun (e4_1 : (List T_s63)) => funext fun (e4_2 : (List T_s63)) => ref06_Same.l0 BIG e4_1 e4_2   k BIG
 rw [h1]
 delta ref06_Same.w ref06_Same.sl
 exact (Le.cond (Le.refl _) (Le.gd fun hg => ref06_Same.h0 _ _   _ (le_up (of_decide_eq_true hg)) BIG 0 () (by decide) (zero_le_len _) (big_list (of_decide_eq_true hg))))
def ref06_Same.u (x0 : (List T_s63)) (x1 : (List T_s63)) : Option (Bool) := ref06_Same.w x0 x1 some
noncomputable def ref06_Same.n : En CDEKP := mkE CDEKP_ok (es := []) (ms := []) (fuel := (ref06_Same.F BIG)) 36 Tryz.f36 [.ai (.slice E_s63), .ai (.slice E_s63)] .bool [] (fun x {Ω} k => ref06_Same.w x.1 x.2.1 k) (fun x Ω k => leV (ref06_Same.ev BIG x.1 x.2.1 k) (ref06_Same.le x.1 x.2.1 k)) (by kernel_rfl) (by kernel_rfl)
def word_Fine.s (x0 : Int) (k : Bool → Option Ω) : Option Ω :=
 bif (decide (x0 ≥ (-2147483648))) then
 k (decide (x0 ≤ 2147483647))
 else
 k false
def word_Fine.t (x0 : Int) : Bool :=
 bif (decide (x0 ≥ (-2147483648))) then
 (decide (x0 ≤ 2147483647))
 else
 false
theorem word_Fine.v (x0 : Int) (k : Bool → Option Ω) : word_Fine.s x0 k = k (word_Fine.t x0) := by
 delta word_Fine.s word_Fine.t; exact (cond_tot rfl rfl)
noncomputable def word_Fine.n : En CDEKP := mkT CDEKP_ok (es := []) (ms := []) (fuel := ⟨1, fun _ => []⟩) 96 Tryz.f96 [.ai (.int .i64)] .bool [] (fun x {Ω} k => word_Fine.s x.1 k) (fun x => word_Fine.t x.1) (fun x Ω k => by kernel_rfl) (fun x => word_Fine.v x.1 some) (by kernel_rfl) (by kernel_rfl)
def ref08_Fine.s (x0 : Int) (k : Bool → Option Ω) : Option Ω :=
 bif (decide (x0 ≥ (-2147483648))) then
 k (decide (x0 ≤ 2147483647))
 else
 k false
def ref08_Fine.t (x0 : Int) : Bool :=
 bif (decide (x0 ≥ (-2147483648))) then
 (decide (x0 ≤ 2147483647))
 else
 false
theorem ref08_Fine.v (x0 : Int) (k : Bool → Option Ω) : ref08_Fine.s x0 k = k (ref08_Fine.t x0) := by
 delta ref08_Fine.s ref08_Fine.t; exact (cond_tot rfl rfl)
noncomputable def ref08_Fine.n : En CDEKP := mkT CDEKP_ok (es := []) (ms := []) (fuel := ⟨1, fun _ => []⟩) 111 Tryz.f111 [.ai (.int .i64)] .bool [] (fun x {Ω} k => ref08_Fine.s x.1 k) (fun x => ref08_Fine.t x.1) (fun x Ω k => by kernel_rfl) (fun x => ref08_Fine.v x.1 some) (by kernel_rfl) (by kernel_rfl)
noncomputable def strconv_Itoa.n : En CDEKP := En.of (g := 207) (e := fun {_} => strconv_Itoa.e) (strconv_Itoa.e_ok.mono le_CP_CDEKP)
def word_Text.s (x0 : Int) (k : ByteArray × Int → Option Ω) : Option Ω :=
 bif (!(word_Fine.t x0)) then
 k ((bs []), 8)
 else
 (strconv_Itoa.u x0).bind fun y1 =>
 k (y1, 0)
def word_Text.u (x0 : Int) : Option (ByteArray × Int) := word_Text.s x0 some
noncomputable def word_Text.n : En CDEKP := mkE CDEKP_ok (es := [word_Fine.n, strconv_Itoa.n]) (ms := []) (fuel := ⟨1, fun _ => []⟩) 147 Tryz.f147 [.ai (.int .i64)] .str [(.int .i64)] (fun x {Ω} k => word_Text.s x.1 k) (fun x Ω k => Le.of (by kernel_rfl)) (by kernel_rfl) (by kernel_rfl)
def ref09_Table.s  (k : (List T_s335) → Option Ω) : Option Ω :=
 k [((bs [110, 111, 112]), ((bs [45, 45, 45]), (0, ()))), ((bs [104, 97, 108, 116]), ((bs [45, 45, 45]), (5, ()))), ((bs [109, 111, 118]), ((bs [114, 114, 45]), (0, ()))), ((bs [115, 101, 116]), ((bs [114, 105, 106]), (0, ()))), ((bs [97, 100, 100]), ((bs [114, 114, 114]), (0, ()))), ((bs [115, 117, 98]), ((bs [114, 114, 114]), (0, ()))), ((bs [109, 117, 108]), ((bs [114, 114, 114]), (0, ()))), ((bs [100, 105, 118]), ((bs [114, 114, 114]), (0, ()))), ((bs [114, 101, 109]), ((bs [114, 114, 114]), (0, ()))), ((bs [97, 110, 100]), ((bs [114, 114, 114]), (0, ()))), ((bs [111, 114]), ((bs [114, 114, 114]), (0, ()))), ((bs [120, 111, 114]), ((bs [114, 114, 114]), (0, ()))), ((bs [115, 104, 108]), ((bs [114, 114, 114]), (0, ()))), ((bs [115, 104, 114]), ((bs [114, 114, 114]), (0, ()))), ((bs [110, 111, 116]), ((bs [114, 114, 45]), (0, ()))), ((bs [110, 101, 103]), ((bs [114, 114, 45]), (0, ()))), ((bs [108, 116]), ((bs [114, 114, 114]), (0, ()))), ((bs [101, 113]), ((bs [114, 114, 114]), (0, ()))), ((bs [106, 109, 112]), ((bs [116, 45, 45]), (1, ()))), ((bs [106, 122]), ((bs [114, 116, 45]), (1, ()))), ((bs [106, 110, 122]), ((bs [114, 116, 45]), (1, ()))), ((bs [106, 98, 97, 100]), ((bs [116, 45, 45]), (1, ()))), ((bs [99, 97, 108, 108]), ((bs [116, 45, 45]), (1, ()))), ((bs [114, 101, 116]), ((bs [45, 45, 45]), (1, ()))), ((bs [108, 111, 97, 100]), ((bs [114, 114, 45]), (0, ()))), ((bs [115, 116, 111, 114, 101]), ((bs [114, 114, 45]), (0, ()))), ((bs [102, 97, 105, 108]), ((bs [115, 45, 45]), (5, ()))), ((bs [101, 109, 105, 116]), ((bs [114, 45, 45]), (4, ()))), ((bs [110, 111, 119]), ((bs [114, 45, 45]), (4, ()))), ((bs [109, 101]), ((bs [114, 45, 45]), (4, ()))), ((bs [115, 112, 97, 119, 110]), ((bs [114, 112, 114]), (4, ()))), ((bs [106, 111, 105, 110]), ((bs [114, 45, 45]), (2, ()))), ((bs [115, 108, 101, 101, 112]), ((bs [114, 45, 45]), (2, ()))), ((bs [115, 101, 110, 100]), ((bs [99, 114, 45]), (2, ()))), ((bs [114, 101, 99, 118]), ((bs [99, 114, 45]), (2, ()))), ((bs [112, 111, 105, 115, 111, 110]), ((bs [99, 114, 45]), (4, ()))), ((bs [101, 110, 114, 111, 108]), ((bs [98, 45, 45]), (4, ()))), ((bs [114, 101, 115, 105, 103, 110]), ((bs [98, 45, 45]), (4, ()))), ((bs [115, 121, 110, 99]), ((bs [98, 45, 45]), (2, ()))), ((bs [102, 97, 108, 108]), ((bs [107, 45, 45]), (2, ()))), ((bs [102, 108, 117, 115, 104]), ((bs [114, 107, 45]), (4, ()))), ((bs [97, 108, 116]), ((bs [114, 109, 110]), (2, ()))), ((bs [103, 105, 110]), ((bs [99, 114, 103]), (3, ()))), ((bs [103, 98, 97, 114]), ((bs [98, 45, 103]), (3, ()))), ((bs [103, 116, 105, 109, 101]), ((bs [114, 45, 103]), (3, ()))), ((bs [103, 115, 107, 105, 112]), ((bs [45, 45, 103]), (3, ()))), ((bs [112, 104, 97, 115, 101]), ((bs [114, 98, 45]), (4, ()))), ((bs [115, 105, 122, 101]), ((bs [114, 98, 45]), (4, ())))]
def ref09_Table.t  : (List T_s335) :=
 [((bs [110, 111, 112]), ((bs [45, 45, 45]), (0, ()))), ((bs [104, 97, 108, 116]), ((bs [45, 45, 45]), (5, ()))), ((bs [109, 111, 118]), ((bs [114, 114, 45]), (0, ()))), ((bs [115, 101, 116]), ((bs [114, 105, 106]), (0, ()))), ((bs [97, 100, 100]), ((bs [114, 114, 114]), (0, ()))), ((bs [115, 117, 98]), ((bs [114, 114, 114]), (0, ()))), ((bs [109, 117, 108]), ((bs [114, 114, 114]), (0, ()))), ((bs [100, 105, 118]), ((bs [114, 114, 114]), (0, ()))), ((bs [114, 101, 109]), ((bs [114, 114, 114]), (0, ()))), ((bs [97, 110, 100]), ((bs [114, 114, 114]), (0, ()))), ((bs [111, 114]), ((bs [114, 114, 114]), (0, ()))), ((bs [120, 111, 114]), ((bs [114, 114, 114]), (0, ()))), ((bs [115, 104, 108]), ((bs [114, 114, 114]), (0, ()))), ((bs [115, 104, 114]), ((bs [114, 114, 114]), (0, ()))), ((bs [110, 111, 116]), ((bs [114, 114, 45]), (0, ()))), ((bs [110, 101, 103]), ((bs [114, 114, 45]), (0, ()))), ((bs [108, 116]), ((bs [114, 114, 114]), (0, ()))), ((bs [101, 113]), ((bs [114, 114, 114]), (0, ()))), ((bs [106, 109, 112]), ((bs [116, 45, 45]), (1, ()))), ((bs [106, 122]), ((bs [114, 116, 45]), (1, ()))), ((bs [106, 110, 122]), ((bs [114, 116, 45]), (1, ()))), ((bs [106, 98, 97, 100]), ((bs [116, 45, 45]), (1, ()))), ((bs [99, 97, 108, 108]), ((bs [116, 45, 45]), (1, ()))), ((bs [114, 101, 116]), ((bs [45, 45, 45]), (1, ()))), ((bs [108, 111, 97, 100]), ((bs [114, 114, 45]), (0, ()))), ((bs [115, 116, 111, 114, 101]), ((bs [114, 114, 45]), (0, ()))), ((bs [102, 97, 105, 108]), ((bs [115, 45, 45]), (5, ()))), ((bs [101, 109, 105, 116]), ((bs [114, 45, 45]), (4, ()))), ((bs [110, 111, 119]), ((bs [114, 45, 45]), (4, ()))), ((bs [109, 101]), ((bs [114, 45, 45]), (4, ()))), ((bs [115, 112, 97, 119, 110]), ((bs [114, 112, 114]), (4, ()))), ((bs [106, 111, 105, 110]), ((bs [114, 45, 45]), (2, ()))), ((bs [115, 108, 101, 101, 112]), ((bs [114, 45, 45]), (2, ()))), ((bs [115, 101, 110, 100]), ((bs [99, 114, 45]), (2, ()))), ((bs [114, 101, 99, 118]), ((bs [99, 114, 45]), (2, ()))), ((bs [112, 111, 105, 115, 111, 110]), ((bs [99, 114, 45]), (4, ()))), ((bs [101, 110, 114, 111, 108]), ((bs [98, 45, 45]), (4, ()))), ((bs [114, 101, 115, 105, 103, 110]), ((bs [98, 45, 45]), (4, ()))), ((bs [115, 121, 110, 99]), ((bs [98, 45, 45]), (2, ()))), ((bs [102, 97, 108, 108]), ((bs [107, 45, 45]), (2, ()))), ((bs [102, 108, 117, 115, 104]), ((bs [114, 107, 45]), (4, ()))), ((bs [97, 108, 116]), ((bs [114, 109, 110]), (2, ()))), ((bs [103, 105, 110]), ((bs [99, 114, 103]), (3, ()))), ((bs [103, 98, 97, 114]), ((bs [98, 45, 103]), (3, ()))), ((bs [103, 116, 105, 109, 101]), ((bs [114, 45, 103]), (3, ()))), ((bs [103, 115, 107, 105, 112]), ((bs [45, 45, 103]), (3, ()))), ((bs [112, 104, 97, 115, 101]), ((bs [114, 98, 45]), (4, ()))), ((bs [115, 105, 122, 101]), ((bs [114, 98, 45]), (4, ())))]
theorem ref09_Table.v  (k : (List T_s335) → Option Ω) : ref09_Table.s  k = k (ref09_Table.t ) := by
 delta ref09_Table.s ref09_Table.t; exact rfl
noncomputable def ref09_Table.n : En CDEKP := mkT CDEKP_ok (es := []) (ms := []) (fuel := ⟨1, fun _ => []⟩) 285 Tryz.f285 [] (.slice E_s335) [] (fun x {Ω} k => ref09_Table.s  k) (fun x => ref09_Table.t ) (fun x Ω k => by kernel_rfl) (fun x => ref09_Table.v  some) (by kernel_rfl) (by kernel_rfl)
def ref09_Of.s (x0 : Int) (k : T_s335 → Option Ω) : Option Ω :=
 bif (decide (x0 < 0)) then
 k ((bs []), ((bs []), ((-1), ())))
 else
 bif (decide (x0 ≥ ((List.length ref09_Table.t : Nat) : Int))) then
 k ((bs []), ((bs []), ((-1), ())))
 else
 bif (idxOK x0 (List.length ref09_Table.t)) then
 k (List.getD ref09_Table.t (Int.toNat x0) ((bs []), ((bs []), (0, ()))))
 else
 none
def ref09_Of.u (x0 : Int) : Option (T_s335) := ref09_Of.s x0 some
noncomputable def ref09_Of.n : En CDEKP := mkE CDEKP_ok (es := [ref09_Table.n]) (ms := []) (fuel := ⟨1, fun _ => []⟩) 261 Tryz.f261 [.ai (.int .i64)] E_s335 [] (fun x {Ω} k => ref09_Of.s x.1 k) (fun x Ω k => Le.of (by kernel_rfl)) (by kernel_rfl) (by kernel_rfl)
def opcode_fine.s (x0 : Int) (k : Bool → Option Ω) : Option Ω :=
 bif (decide (x0 ≥ 0)) then
 k (decide (x0 < 48))
 else
 k false
def opcode_fine.t (x0 : Int) : Bool :=
 bif (decide (x0 ≥ 0)) then
 (decide (x0 < 48))
 else
 false
theorem opcode_fine.v (x0 : Int) (k : Bool → Option Ω) : opcode_fine.s x0 k = k (opcode_fine.t x0) := by
 delta opcode_fine.s opcode_fine.t; exact (cond_tot rfl rfl)
noncomputable def opcode_fine.n : En CDEKP := mkT CDEKP_ok (es := []) (ms := []) (fuel := ⟨1, fun _ => []⟩) 308 Tryz.f308 [.ai (.int .i64)] .bool [] (fun x {Ω} k => opcode_fine.s x.1 k) (fun x => opcode_fine.t x.1) (fun x Ω k => by kernel_rfl) (fun x => opcode_fine.v x.1 some) (by kernel_rfl) (by kernel_rfl)
def opcode_Form.s (x0 : Int) (k : ByteArray → Option Ω) : Option Ω :=
 bif (!(opcode_fine.t x0)) then
 k (bs [])
 else
 bif (idxOK x0 48) then
 k (List.getD kindsT (Int.toNat x0) ((bs []), ((bs []), (0, ())))).2.1
 else
 none
def opcode_Form.u (x0 : Int) : Option (ByteArray) := opcode_Form.s x0 some
noncomputable def opcode_Form.n : En CDEKP := mkE CDEKP_ok (es := [opcode_fine.n]) (ms := []) (fuel := ⟨1, fun _ => []⟩) 296 Tryz.f296 [.ai (.int .i64)] .str [] (fun x {Ω} k => opcode_Form.s x.1 k) (fun x Ω k => Le.of (by kernel_rfl)) (by kernel_rfl) (by kernel_rfl)
def opcode_Class.s (x0 : Int) (k : Int → Option Ω) : Option Ω :=
 bif (!(opcode_fine.t x0)) then
 k (-1)
 else
 bif (idxOK x0 48) then
 k (List.getD kindsT (Int.toNat x0) ((bs []), ((bs []), (0, ())))).2.2.1
 else
 none
def opcode_Class.u (x0 : Int) : Option (Int) := opcode_Class.s x0 some
noncomputable def opcode_Class.n : En CDEKP := mkE CDEKP_ok (es := [opcode_fine.n]) (ms := []) (fuel := ⟨1, fun _ => []⟩) 299 Tryz.f299 [.ai (.int .i64)] (.int .i64) [] (fun x {Ω} k => opcode_Class.s x.1 k) (fun x Ω k => Le.of (by kernel_rfl)) (by kernel_rfl) (by kernel_rfl)
def ref10_Bytes.s (x0 : T_s79) (k : (List Int) → Option Ω) : Option Ω :=
 k [(IntKind.wrap .i64 x0.1), (IntKind.wrap .i64 x0.2.1), (IntKind.wrap .i64 x0.2.2.1), (IntKind.wrap .i64 x0.2.2.2.1)]
def ref10_Bytes.t (x0 : T_s79) : (List Int) :=
 [(IntKind.wrap .i64 x0.1), (IntKind.wrap .i64 x0.2.1), (IntKind.wrap .i64 x0.2.2.1), (IntKind.wrap .i64 x0.2.2.2.1)]
theorem ref10_Bytes.v (x0 : T_s79) (k : (List Int) → Option Ω) : ref10_Bytes.s x0 k = k (ref10_Bytes.t x0) := by
 delta ref10_Bytes.s ref10_Bytes.t; exact rfl
noncomputable def ref10_Bytes.n : En CDEKP := mkT CDEKP_ok (es := []) (ms := []) (fuel := ⟨1, fun _ => []⟩) 260 Tryz.f260 [.ai E_s79] (.slice (.int .i64)) [] (fun x {Ω} k => ref10_Bytes.s x.1 k) (fun x => ref10_Bytes.t x.1) (fun x Ω k => by kernel_rfl) (fun x => ref10_Bytes.v x.1 some) (by kernel_rfl) (by kernel_rfl)
def ref10_ends.s (x0 : Int) (k : Int × Int → Option Ω) : Option Ω :=
 bif (x0 == 114) then
 k (0, 7)
 else
 bif (x0 == 116) then
 k (0, 64)
 else
 bif (x0 == 99) then
 k (0, 7)
 else
 bif (x0 == 98) then
 k (0, 7)
 else
 bif (x0 == 112) then
 k (0, 7)
 else
 bif (x0 == 107) then
 k (0, 3)
 else
 bif (x0 == 109) then
 k (0, 2)
 else
 bif (x0 == 110) then
 k (1, 6)
 else
 bif (x0 == 103) then
 k (0, 8)
 else
 bif (x0 == 115) then
 k (1, 255)
 else
 k (0, 255)
def ref10_ends.t (x0 : Int) : Int × Int :=
 bif (x0 == 114) then
 (0, 7)
 else
 bif (x0 == 116) then
 (0, 64)
 else
 bif (x0 == 99) then
 (0, 7)
 else
 bif (x0 == 98) then
 (0, 7)
 else
 bif (x0 == 112) then
 (0, 7)
 else
 bif (x0 == 107) then
 (0, 3)
 else
 bif (x0 == 109) then
 (0, 2)
 else
 bif (x0 == 110) then
 (1, 6)
 else
 bif (x0 == 103) then
 (0, 8)
 else
 bif (x0 == 115) then
 (1, 255)
 else
 (0, 255)
theorem ref10_ends.v (x0 : Int) (k : Int × Int → Option Ω) : ref10_ends.s x0 k = k (ref10_ends.t x0) := by
 delta ref10_ends.s ref10_ends.t; exact (cond_tot rfl (cond_tot rfl (cond_tot rfl (cond_tot rfl (cond_tot rfl (cond_tot rfl (cond_tot rfl (cond_tot rfl (cond_tot rfl (cond_tot rfl rfl))))))))))
noncomputable def ref10_ends.n : En CDEKP := mkT CDEKP_ok (es := []) (ms := []) (fuel := ⟨1, fun _ => []⟩) 262 Tryz.f262 [.ai (.int .u8)] (.int .i64) [(.int .i64)] (fun x {Ω} k => ref10_ends.s x.1 k) (fun x => ref10_ends.t x.1) (fun x Ω k => by kernel_rfl) (fun x => ref10_ends.v x.1 some) (by kernel_rfl) (by kernel_rfl)
def ref10_Check.F (fuel : Nat) : Fuel := ⟨fuel, fun r => bif r == 6 then mL 0 56 72057594037927879 else []⟩
noncomputable def ref10_Check.V (fuel c : Nat) (env : List AV) (L : Heap) (k : Kont Ω) : Option Ω := evCode CDEKP (spE (C := CDEKP) [ref10_Bytes.n, ref09_Of.n, ref10_ends.n] []) (ref10_Check.F fuel) (pCo c Tryz.f222) env L k
def ref10_Check.E0 (e6_1 : (List Int)) (e6_2 : T_s79) (e6_3 : T_s335) (s6 : Int) : List AV := (dZ 3 ((.v (.slice (.int .i64)) (e6_1)) :: (.ref 1 []) :: (.v (.int .i64) (s6)) :: dZ 50 ([])))
def ref10_Check.H0 (e6_1 : (List Int)) (e6_2 : T_s79) (e6_3 : T_s335) (s6 : Int) : Heap := [(.box E_s79 e6_2 false), (.box E_s335 e6_3 false)]
noncomputable def ref10_Check.M0 (fuel : Nat) (e6_1 : (List Int)) (e6_2 : T_s79) (e6_3 : T_s335)  (k : AV → Option Ω) (m : Nat) (s : Int) : Option Ω := loopK (ref10_Check.V fuel 303) (mB 56 72057594037927879) [] 2 (blockK 0 (sqK (ref10_Check.V fuel 63) (finK CDEKP Tryz.f222 k))) m ((ref10_Check.E0 e6_1 e6_2 e6_3) s) ((ref10_Check.H0 e6_1 e6_2 e6_3) s)
def ref10_Check.b0 (e6_1 : (List Int)) (e6_2 : T_s79) (e6_3 : T_s335)   (k : Int → Option Ω) (r6 : Int → Option Ω) (s6 : Int) : Option Ω :=
 bif (decide (s6 < 3)) then
 bif (idxOK s6 (e6_3.2.1).size) then
 bif ((bAt e6_3.2.1 (Int.toNat s6)) == 45) then
 bif (idxOK (IntKind.wrap .i64 (s6 + 1)) (List.length e6_1)) then
 bif ((List.getD e6_1 (Int.toNat (IntKind.wrap .i64 (s6 + 1))) 0) != 0) then
 k 3
 else
 r6 ((IntKind.wrap .i64 (s6 + 1)))
 else
 none
 else
 bif (idxOK s6 (e6_3.2.1).size) then
 let v2 : Int × Int := (ref10_ends.t ((bAt e6_3.2.1 (Int.toNat s6))))
 bif (idxOK (IntKind.wrap .i64 (s6 + 1)) (List.length e6_1)) then
 bif (decide ((List.getD e6_1 (Int.toNat (IntKind.wrap .i64 (s6 + 1))) 0) < v2.1)) then
 k 8
 else
 bif (idxOK (IntKind.wrap .i64 (s6 + 1)) (List.length e6_1)) then
 bif (decide ((List.getD e6_1 (Int.toNat (IntKind.wrap .i64 (s6 + 1))) 0) > v2.2)) then
 k 8
 else
 r6 ((IntKind.wrap .i64 (s6 + 1)))
 else
 none
 else
 none
 else
 none
 else
 none
 else
 k 0
theorem ref10_Check.l0 (fuel : Nat) (e6_1 : (List Int)) (e6_2 : T_s79) (e6_3 : T_s335)  (k : AV → Option Ω) : ∀ m, (ref10_Check.M0 fuel e6_1 e6_2 e6_3  k m) = iter (ref10_Check.b0 e6_1 e6_2 e6_3  (fun r => k (tupAV (.int .i64) [] r))) m :=
 loopK_iter (envOf := (ref10_Check.E0 e6_1 e6_2 e6_3)) (LOf := (ref10_Check.H0 e6_1 e6_2 e6_3)) (B := ref10_Check.b0 e6_1 e6_2 e6_3  (fun r => k (tupAV (.int .i64) [] r))) (fun R s => by kernel_rfl)
def ref10_Check.sl (x0 : T_s79) (lp0 : (List Int) → T_s79 → T_s335 → Int → Option Ω) (k : Int → Option Ω) : Option Ω :=
 bif (idxOK 0 (List.length (ref10_Bytes.t x0))) then
 (ref09_Of.u ((List.getD (ref10_Bytes.t x0) 0 0))).bind fun y1 =>
 bif (decide (y1.2.2.1 < 0)) then
 k 18
 else
 lp0 (ref10_Bytes.t x0) x0 y1 (0)
 else
 none
def ref10_Check.g0 (e6_1 : (List Int)) (e6_2 : T_s79) (e6_3 : T_s335)  (k : Int → Option Ω) : Nat → Int → Option Ω
 | 0, i6 =>
 k 0
 | d6 + 1, i6 =>
 bif (idxOK i6 (e6_3.2.1).size) then
 bif ((bAt e6_3.2.1 (Int.toNat i6)) == 45) then
 bif (idxOK (IntKind.wrap .i64 (i6 + 1)) (List.length e6_1)) then
 bif ((List.getD e6_1 (Int.toNat (IntKind.wrap .i64 (i6 + 1))) 0) != 0) then
 k 3
 else
 ref10_Check.g0 e6_1 e6_2 e6_3  k d6 (i6 + 1)
 else
 none
 else
 bif (idxOK i6 (e6_3.2.1).size) then
 let v2 : Int × Int := (ref10_ends.t ((bAt e6_3.2.1 (Int.toNat i6))))
 bif (idxOK (IntKind.wrap .i64 (i6 + 1)) (List.length e6_1)) then
 bif (decide ((List.getD e6_1 (Int.toNat (IntKind.wrap .i64 (i6 + 1))) 0) < v2.1)) then
 k 8
 else
 bif (idxOK (IntKind.wrap .i64 (i6 + 1)) (List.length e6_1)) then
 bif (decide ((List.getD e6_1 (Int.toNat (IntKind.wrap .i64 (i6 + 1))) 0) > v2.2)) then
 k 8
 else
 ref10_Check.g0 e6_1 e6_2 e6_3  k d6 (i6 + 1)
 else
 none
 else
 none
 else
 none
 else
 none
theorem ref10_Check.h0 (e6_1 : (List Int)) (e6_2 : T_s79) (e6_3 : T_s335)   (k : Int → Option Ω) (hN : (3 : Int) ≤ 9223372036854775807) : ∀ (m : Nat) (i : Int) (a : Unit), -9223372036854775808 ≤ i → Int.toNat ((3 : Int) - i) < m → Le (ref10_Check.g0 e6_1 e6_2 e6_3  k (Int.toNat ((3 : Int) - i)) i) (iter (ref10_Check.b0 e6_1 e6_2 e6_3  k) m (i)) :=
 iter_count (3 : Int) (fun i6 => (decide (i6 < 3))) (fun i => rfl) (fun (i6 : Int) (a6 : Unit) => (i6)) (fun xs i6 a6 => ref10_Check.g0 e6_1 e6_2 e6_3  k xs i6) (ref10_Check.b0 e6_1 e6_2 e6_3  k)
 (fun i6 a6 r h0 => (Le.fls h0 (Le.refl _)))
 (fun i6 d6 a6 r h0 hw ih => (Le.tru h0 (Le.cond (Le.cond (Le.cond (Le.cond (Le.refl _) (ih _ hw ())) Le.nil) (Le.cond (let v2 : Int × Int := (ref10_ends.t ((bAt e6_3.2.1 (Int.toNat i6)))); (Le.cond (Le.cond (Le.refl _) (Le.cond (Le.cond (Le.refl _) (ih _ hw ())) Le.nil)) Le.nil)) Le.nil)) Le.nil)))
 hN
def ref10_Check.w (x0 : T_s79) (k : Int → Option Ω) : Option Ω :=
 bif (idxOK 0 (List.length (ref10_Bytes.t x0))) then
 (ref09_Of.u ((List.getD (ref10_Bytes.t x0) 0 0))).bind fun y1 =>
 bif (decide (y1.2.2.1 < 0)) then
 k 18
 else
 ref10_Check.g0 (ref10_Bytes.t x0) x0 y1  k ((Int.toNat ((3 : Int) - 0))) 0
 else
 none
theorem ref10_Check.ev (fuel : Nat) (x0 : T_s79) (k : AV → Option Ω) : evFn CDEKP (spE (C := CDEKP) [ref10_Bytes.n, ref09_Of.n, ref10_ends.n] []) (ref10_Check.F fuel) Tryz.f222 (Tryz.f222.body.getD .skip) [(.v E_s79 (x0))] k = ref10_Check.sl x0 (fun e6_1 e6_2 e6_3 => (ref10_Check.M0 fuel e6_1 e6_2 e6_3  k fuel)) (fun r => k (tupAV (.int .i64) [] r)) := by kernel_rfl
theorem ref10_Check.le (x0 : T_s79) (k : AV → Option Ω) : Le (ref10_Check.w x0 (fun r => k (tupAV (.int .i64) [] r))) (ref10_Check.sl x0 (fun e6_1 e6_2 e6_3 => (ref10_Check.M0 BIG e6_1 e6_2 e6_3  k BIG)) (fun r => k (tupAV (.int .i64) [] r))) := by
 have h1 := funext fun (e6_1 : (List Int)) => funext fun (e6_2 : T_s79) => funext fun (e6_3 : T_s335) => ref10_Check.l0 BIG e6_1 e6_2 e6_3   k BIG
 rw [h1]
 delta ref10_Check.w ref10_Check.sl
 exact (Le.cond (Le.bnd fun y1 => (Le.cond (Le.refl _) (ref10_Check.h0 _ _ _   _ (by decide) BIG 0 () (by decide) (by decide)))) Le.nil)
def ref10_Check.u (x0 : T_s79) : Option (Int) := ref10_Check.w x0 some
noncomputable def ref10_Check.n : En CDEKP := mkE CDEKP_ok (es := [ref10_Bytes.n, ref09_Of.n, ref10_ends.n]) (ms := []) (fuel := (ref10_Check.F BIG)) 222 Tryz.f222 [.ai E_s79] (.int .i64) [] (fun x {Ω} k => ref10_Check.w x.1 k) (fun x Ω k => leV (ref10_Check.ev BIG x.1 k) (ref10_Check.le x.1 k)) (by kernel_rfl) (by kernel_rfl)
def ref10_Place.F (fuel : Nat) : Fuel := ⟨fuel, fun r => bif r == 3 then mL 0 28 268435405 else []⟩
noncomputable def ref10_Place.V (fuel c : Nat) (env : List AV) (L : Heap) (k : Kont Ω) : Option Ω := evCode CDEKP (spE (C := CDEKP) [ref10_Bytes.n, ref09_Of.n] []) (ref10_Place.F fuel) (pCo c Tryz.f226) env L k
def ref10_Place.E0 (e3_1 : T_s79) (e3_2 : T_s335) (s3 : Int) : List AV := (dZ 1 ((.ref 0 []) :: dZ 2 ((.ref 1 []) :: (.v (.int .i64) (s3)) :: dZ 22 ([]))))
def ref10_Place.H0 (e3_1 : T_s79) (e3_2 : T_s335) (s3 : Int) : Heap := [(.box E_s79 e3_1 false), (.box E_s335 e3_2 false)]
noncomputable def ref10_Place.M0 (fuel : Nat) (e3_1 : T_s79) (e3_2 : T_s335)  (k : AV → Option Ω) (m : Nat) (s : Int) : Option Ω := loopK (ref10_Place.V fuel 75) (mB 28 268435405) [] 2 (blockK 0 (sqK (ref10_Place.V fuel 15) (finK CDEKP Tryz.f226 k))) m ((ref10_Place.E0 e3_1 e3_2) s) ((ref10_Place.H0 e3_1 e3_2) s)
def ref10_Place.b0 (e3_1 : T_s79) (e3_2 : T_s335)   (k : Int × Bool → Option Ω) (r3 : Int → Option Ω) (s3 : Int) : Option Ω :=
 bif (decide (s3 < ((e3_2.2.1).size : Int))) then
 bif (idxOK s3 (e3_2.2.1).size) then
 bif ((bAt e3_2.2.1 (Int.toNat s3)) == 116) then
 bif (idxOK (IntKind.wrap .i64 (s3 + 1)) (List.length (ref10_Bytes.t e3_1))) then
 k ((List.getD (ref10_Bytes.t e3_1) (Int.toNat (IntKind.wrap .i64 (s3 + 1))) 0), true)
 else
 none
 else
 r3 ((IntKind.wrap .i64 (s3 + 1)))
 else
 none
 else
 k (0, false)
theorem ref10_Place.l0 (fuel : Nat) (e3_1 : T_s79) (e3_2 : T_s335)  (k : AV → Option Ω) : ∀ m, (ref10_Place.M0 fuel e3_1 e3_2  k m) = iter (ref10_Place.b0 e3_1 e3_2  (fun r => k (tupAV (.int .i64) [.bool] r))) m :=
 loopK_iter (envOf := (ref10_Place.E0 e3_1 e3_2)) (LOf := (ref10_Place.H0 e3_1 e3_2)) (B := ref10_Place.b0 e3_1 e3_2  (fun r => k (tupAV (.int .i64) [.bool] r))) (fun R s => by kernel_rfl)
def ref10_Place.sl (x0 : T_s79) (lp0 : T_s79 → T_s335 → Int → Option Ω) (k : Int × Bool → Option Ω) : Option Ω :=
 (ref09_Of.u (IntKind.wrap .i64 x0.1)).bind fun y1 =>
 lp0 x0 y1 (0)
def ref10_Place.g0 (e3_1 : T_s79) (e3_2 : T_s335)  (k : Int × Bool → Option Ω) : Nat → Int → Option Ω
 | 0, i3 =>
 k (0, false)
 | d3 + 1, i3 =>
 bif (idxOK i3 (e3_2.2.1).size) then
 bif ((bAt e3_2.2.1 (Int.toNat i3)) == 116) then
 bif (idxOK (IntKind.wrap .i64 (i3 + 1)) (List.length (ref10_Bytes.t e3_1))) then
 k ((List.getD (ref10_Bytes.t e3_1) (Int.toNat (IntKind.wrap .i64 (i3 + 1))) 0), true)
 else
 none
 else
 ref10_Place.g0 e3_1 e3_2  k d3 (i3 + 1)
 else
 none
theorem ref10_Place.h0 (e3_1 : T_s79) (e3_2 : T_s335)   (k : Int × Bool → Option Ω) (hN : (((e3_2.2.1).size : Int) : Int) ≤ 9223372036854775807) : ∀ (m : Nat) (i : Int) (a : Unit), -9223372036854775808 ≤ i → Int.toNat ((((e3_2.2.1).size : Int) : Int) - i) < m → Le (ref10_Place.g0 e3_1 e3_2  k (Int.toNat ((((e3_2.2.1).size : Int) : Int) - i)) i) (iter (ref10_Place.b0 e3_1 e3_2  k) m (i)) :=
 iter_count (((e3_2.2.1).size : Int) : Int) (fun i3 => (decide (i3 < ((e3_2.2.1).size : Int)))) (fun i => rfl) (fun (i3 : Int) (a3 : Unit) => (i3)) (fun xs i3 a3 => ref10_Place.g0 e3_1 e3_2  k xs i3) (ref10_Place.b0 e3_1 e3_2  k)
 (fun i3 a3 r h0 => (Le.fls h0 (Le.refl _)))
 (fun i3 d3 a3 r h0 hw ih => (Le.tru h0 (Le.cond (Le.cond (Le.cond (Le.refl _) Le.nil) (ih _ hw ())) Le.nil)))
 hN
def ref10_Place.w (x0 : T_s79) (k : Int × Bool → Option Ω) : Option Ω :=
 (ref09_Of.u (IntKind.wrap .i64 x0.1)).bind fun y1 =>
 bif (decide (((y1.2.1).size : Int) ≤ 4611686018427387904)) then ref10_Place.g0 x0 y1  k ((Int.toNat (((y1.2.1).size : Int) - 0))) 0 else none
theorem ref10_Place.ev (fuel : Nat) (x0 : T_s79) (k : AV → Option Ω) : evFn CDEKP (spE (C := CDEKP) [ref10_Bytes.n, ref09_Of.n] []) (ref10_Place.F fuel) Tryz.f226 (Tryz.f226.body.getD .skip) [(.v E_s79 (x0))] k = ref10_Place.sl x0 (fun e3_1 e3_2 => (ref10_Place.M0 fuel e3_1 e3_2  k fuel)) (fun r => k (tupAV (.int .i64) [.bool] r)) := by kernel_rfl
theorem ref10_Place.le (x0 : T_s79) (k : AV → Option Ω) : Le (ref10_Place.w x0 (fun r => k (tupAV (.int .i64) [.bool] r))) (ref10_Place.sl x0 (fun e3_1 e3_2 => (ref10_Place.M0 BIG e3_1 e3_2  k BIG)) (fun r => k (tupAV (.int .i64) [.bool] r))) := by
 have h1 := funext fun (e3_1 : T_s79) => funext fun (e3_2 : T_s335) => ref10_Place.l0 BIG e3_1 e3_2   k BIG
 rw [h1]
 delta ref10_Place.w ref10_Place.sl
 exact (Le.bnd fun y1 => (Le.gd fun hg => ref10_Place.h0 _ _   _ (cnt_up hg) BIG 0 () (by decide) (cnt_big hg (by decide))))
def ref10_Place.u (x0 : T_s79) : Option (Int × Bool) := ref10_Place.w x0 some
noncomputable def ref10_Place.n : En CDEKP := mkE CDEKP_ok (es := [ref10_Bytes.n, ref09_Of.n]) (ms := []) (fuel := (ref10_Place.F BIG)) 226 Tryz.f226 [.ai E_s79] (.int .i64) [.bool] (fun x {Ω} k => ref10_Place.w x.1 k) (fun x Ω k => leV (ref10_Place.ev BIG x.1 k) (ref10_Place.le x.1 k)) (by kernel_rfl) (by kernel_rfl)
def instr_operands.s (x0 : T_s79) (k : (List Int) → Option Ω) : Option Ω :=
 k (List.set (List.set (List.set (List.replicate 3 0) 0 x0.2.1) 1 x0.2.2.1) 2 x0.2.2.2.1)
def instr_operands.t (x0 : T_s79) : (List Int) :=
 (List.set (List.set (List.set (List.replicate 3 0) 0 x0.2.1) 1 x0.2.2.1) 2 x0.2.2.2.1)
theorem instr_operands.v (x0 : T_s79) (k : (List Int) → Option Ω) : instr_operands.s x0 k = k (instr_operands.t x0) := by
 delta instr_operands.s instr_operands.t; exact rfl
noncomputable def instr_operands.n : En CDEKP := mkT CDEKP_ok (es := []) (ms := []) (fuel := ⟨1, fun _ => []⟩) 297 Tryz.f297 [.ai E_s79] (.arr 3 (.int .u8)) [] (fun x {Ω} k => instr_operands.s x.1 k) (fun x => instr_operands.t x.1) (fun x Ω k => by kernel_rfl) (fun x => instr_operands.v x.1 some) (by kernel_rfl) (by kernel_rfl)
def instr_wrong.s (x0 : Int) (x1 : Int) (k : Int → Option Ω) : Option Ω :=
 bif (x0 == 45) then
 bif (x1 != 0) then
 k 3
 else
 bif (decide ((IntKind.wrap .i64 x1) < 0)) then
 k 8
 else
 bif (decide ((IntKind.wrap .i64 x1) > 0)) then
 k 8
 else
 k 0
 else
 bif (x0 == 103) then
 bif (x1 == 8) then
 k 0
 else
 bif (decide ((IntKind.wrap .i64 x1) < 0)) then
 k 8
 else
 bif (decide ((IntKind.wrap .i64 x1) > 7)) then
 k 8
 else
 k 0
 else
 bif (x0 == 114) then
 bif (decide ((IntKind.wrap .i64 x1) < 0)) then
 k 8
 else
 bif (decide ((IntKind.wrap .i64 x1) > 7)) then
 k 8
 else
 k 0
 else
 bif (x0 == 115) then
 bif (decide ((IntKind.wrap .i64 x1) < 1)) then
 k 8
 else
 bif (decide ((IntKind.wrap .i64 x1) > 255)) then
 k 8
 else
 k 0
 else
 bif (x0 == 105) then
 bif (decide ((IntKind.wrap .i64 x1) < 0)) then
 k 8
 else
 bif (decide ((IntKind.wrap .i64 x1) > 255)) then
 k 8
 else
 k 0
 else
 bif (x0 == 106) then
 bif (decide ((IntKind.wrap .i64 x1) < 0)) then
 k 8
 else
 bif (decide ((IntKind.wrap .i64 x1) > 255)) then
 k 8
 else
 k 0
 else
 bif (x0 == 116) then
 bif (decide ((IntKind.wrap .i64 x1) < 0)) then
 k 8
 else
 bif (decide ((IntKind.wrap .i64 x1) > 64)) then
 k 8
 else
 k 0
 else
 bif (x0 == 99) then
 bif (decide ((IntKind.wrap .i64 x1) < 0)) then
 k 8
 else
 bif (decide ((IntKind.wrap .i64 x1) > 7)) then
 k 8
 else
 k 0
 else
 bif (x0 == 98) then
 bif (decide ((IntKind.wrap .i64 x1) < 0)) then
 k 8
 else
 bif (decide ((IntKind.wrap .i64 x1) > 7)) then
 k 8
 else
 k 0
 else
 bif (x0 == 107) then
 bif (decide ((IntKind.wrap .i64 x1) < 0)) then
 k 8
 else
 bif (decide ((IntKind.wrap .i64 x1) > 3)) then
 k 8
 else
 k 0
 else
 bif (x0 == 112) then
 bif (decide ((IntKind.wrap .i64 x1) < 0)) then
 k 8
 else
 bif (decide ((IntKind.wrap .i64 x1) > 7)) then
 k 8
 else
 k 0
 else
 bif (x0 == 109) then
 bif (decide ((IntKind.wrap .i64 x1) < 0)) then
 k 8
 else
 bif (decide ((IntKind.wrap .i64 x1) > 2)) then
 k 8
 else
 k 0
 else
 bif (x0 == 110) then
 bif (decide ((IntKind.wrap .i64 x1) < 1)) then
 k 8
 else
 bif (decide ((IntKind.wrap .i64 x1) > 6)) then
 k 8
 else
 k 0
 else
 bif (decide ((IntKind.wrap .i64 x1) < 0)) then
 k 8
 else
 bif (decide ((IntKind.wrap .i64 x1) > 0)) then
 k 8
 else
 k 0
def instr_wrong.t (x0 : Int) (x1 : Int) : Int :=
 bif (x0 == 45) then
 bif (x1 != 0) then
 3
 else
 bif (decide ((IntKind.wrap .i64 x1) < 0)) then
 8
 else
 bif (decide ((IntKind.wrap .i64 x1) > 0)) then
 8
 else
 0
 else
 bif (x0 == 103) then
 bif (x1 == 8) then
 0
 else
 bif (decide ((IntKind.wrap .i64 x1) < 0)) then
 8
 else
 bif (decide ((IntKind.wrap .i64 x1) > 7)) then
 8
 else
 0
 else
 bif (x0 == 114) then
 bif (decide ((IntKind.wrap .i64 x1) < 0)) then
 8
 else
 bif (decide ((IntKind.wrap .i64 x1) > 7)) then
 8
 else
 0
 else
 bif (x0 == 115) then
 bif (decide ((IntKind.wrap .i64 x1) < 1)) then
 8
 else
 bif (decide ((IntKind.wrap .i64 x1) > 255)) then
 8
 else
 0
 else
 bif (x0 == 105) then
 bif (decide ((IntKind.wrap .i64 x1) < 0)) then
 8
 else
 bif (decide ((IntKind.wrap .i64 x1) > 255)) then
 8
 else
 0
 else
 bif (x0 == 106) then
 bif (decide ((IntKind.wrap .i64 x1) < 0)) then
 8
 else
 bif (decide ((IntKind.wrap .i64 x1) > 255)) then
 8
 else
 0
 else
 bif (x0 == 116) then
 bif (decide ((IntKind.wrap .i64 x1) < 0)) then
 8
 else
 bif (decide ((IntKind.wrap .i64 x1) > 64)) then
 8
 else
 0
 else
 bif (x0 == 99) then
 bif (decide ((IntKind.wrap .i64 x1) < 0)) then
 8
 else
 bif (decide ((IntKind.wrap .i64 x1) > 7)) then
 8
 else
 0
 else
 bif (x0 == 98) then
 bif (decide ((IntKind.wrap .i64 x1) < 0)) then
 8
 else
 bif (decide ((IntKind.wrap .i64 x1) > 7)) then
 8
 else
 0
 else
 bif (x0 == 107) then
 bif (decide ((IntKind.wrap .i64 x1) < 0)) then
 8
 else
 bif (decide ((IntKind.wrap .i64 x1) > 3)) then
 8
 else
 0
 else
 bif (x0 == 112) then
 bif (decide ((IntKind.wrap .i64 x1) < 0)) then
 8
 else
 bif (decide ((IntKind.wrap .i64 x1) > 7)) then
 8
 else
 0
 else
 bif (x0 == 109) then
 bif (decide ((IntKind.wrap .i64 x1) < 0)) then
 8
 else
 bif (decide ((IntKind.wrap .i64 x1) > 2)) then
 8
 else
 0
 else
 bif (x0 == 110) then
 bif (decide ((IntKind.wrap .i64 x1) < 1)) then
 8
 else
 bif (decide ((IntKind.wrap .i64 x1) > 6)) then
 8
 else
 0
 else
 bif (decide ((IntKind.wrap .i64 x1) < 0)) then
 8
 else
 bif (decide ((IntKind.wrap .i64 x1) > 0)) then
 8
 else
 0
theorem instr_wrong.v (x0 : Int) (x1 : Int) (k : Int → Option Ω) : instr_wrong.s x0 x1 k = k (instr_wrong.t x0 x1) := by
 delta instr_wrong.s instr_wrong.t; exact (cond_tot (cond_tot rfl (cond_tot rfl (cond_tot rfl rfl))) (cond_tot (cond_tot rfl (cond_tot rfl (cond_tot rfl rfl))) (cond_tot (cond_tot rfl (cond_tot rfl rfl)) (cond_tot (cond_tot rfl (cond_tot rfl rfl)) (cond_tot (cond_tot rfl (cond_tot rfl rfl)) (cond_tot (cond_tot rfl (cond_tot rfl rfl)) (cond_tot (cond_tot rfl (cond_tot rfl rfl)) (cond_tot (cond_tot rfl (cond_tot rfl rfl)) (cond_tot (cond_tot rfl (cond_tot rfl rfl)) (cond_tot (cond_tot rfl (cond_tot rfl rfl)) (cond_tot (cond_tot rfl (cond_tot rfl rfl)) (cond_tot (cond_tot rfl (cond_tot rfl rfl)) (cond_tot (cond_tot rfl (cond_tot rfl rfl)) (cond_tot rfl (cond_tot rfl rfl)))))))))))))))
noncomputable def instr_wrong.n : En CDEKP := mkT CDEKP_ok (es := []) (ms := []) (fuel := ⟨1, fun _ => []⟩) 298 Tryz.f298 [.ai (.int .u8), .ai (.int .u8)] (.int .i64) [] (fun x {Ω} k => instr_wrong.s x.1 x.2.1 k) (fun x => instr_wrong.t x.1 x.2.1) (fun x Ω k => by kernel_rfl) (fun x => instr_wrong.v x.1 x.2.1 some) (by kernel_rfl) (by kernel_rfl)
def instr_Check.F (fuel : Nat) : Fuel := ⟨fuel, fun r => bif r == 5 then mL 0 28 268386295 else []⟩
noncomputable def instr_Check.V (fuel c : Nat) (env : List AV) (L : Heap) (k : Kont Ω) : Option Ω := evCode CDEKP (spE (C := CDEKP) [opcode_Form.n, instr_operands.n, instr_wrong.n] []) (instr_Check.F fuel) (pCo c Tryz.f281) env L k
def instr_Check.E0 (e5_1 : ByteArray) (e5_2 : (List Int)) (e5_3 : T_s79) (s5 : Int) : List AV := (dZ 3 ((.v .str (e5_1)) :: dZ 10 ((.v (.arr 3 (.int .u8)) (e5_2)) :: (.v (.int .i64) (s5)) :: dZ 12 ([]))))
def instr_Check.H0 (e5_1 : ByteArray) (e5_2 : (List Int)) (e5_3 : T_s79) (s5 : Int) : Heap := [(.box E_s79 e5_3 false)]
noncomputable def instr_Check.M0 (fuel : Nat) (e5_1 : ByteArray) (e5_2 : (List Int)) (e5_3 : T_s79)  (k : AV → Option Ω) (m : Nat) (s : Int) : Option Ω := loopK (instr_Check.V fuel 151) (mB 28 268386295) [] 1 (blockK 0 (sqK (instr_Check.V fuel 31) (finK CDEKP Tryz.f281 k))) m ((instr_Check.E0 e5_1 e5_2 e5_3) s) ((instr_Check.H0 e5_1 e5_2 e5_3) s)
def instr_Check.b0 (e5_1 : ByteArray) (e5_2 : (List Int)) (e5_3 : T_s79)   (k : Int → Option Ω) (r5 : Int → Option Ω) (s5 : Int) : Option Ω :=
 bif (decide (s5 < 3)) then
 bif (idxOK s5 3) then
 bif (idxOK s5 (e5_1).size) then
 bif ((instr_wrong.t ((bAt e5_1 (Int.toNat s5))) ((List.getD e5_2 (Int.toNat s5) 0))) != 0) then
 k (instr_wrong.t ((bAt e5_1 (Int.toNat s5))) ((List.getD e5_2 (Int.toNat s5) 0)))
 else
 r5 ((IntKind.wrap .i64 (s5 + 1)))
 else
 none
 else
 none
 else
 k 0
theorem instr_Check.l0 (fuel : Nat) (e5_1 : ByteArray) (e5_2 : (List Int)) (e5_3 : T_s79)  (k : AV → Option Ω) : ∀ m, (instr_Check.M0 fuel e5_1 e5_2 e5_3  k m) = iter (instr_Check.b0 e5_1 e5_2 e5_3  (fun r => k (tupAV (.int .i64) [] r))) m :=
 loopK_iter (envOf := (instr_Check.E0 e5_1 e5_2 e5_3)) (LOf := (instr_Check.H0 e5_1 e5_2 e5_3)) (B := instr_Check.b0 e5_1 e5_2 e5_3  (fun r => k (tupAV (.int .i64) [] r))) (fun R s => by kernel_rfl)
def instr_Check.sl (x0 : T_s79) (lp0 : ByteArray → (List Int) → T_s79 → Int → Option Ω) (k : Int → Option Ω) : Option Ω :=
 (opcode_Form.u (IntKind.wrap .i64 x0.1)).bind fun y1 =>
 bif ((y1).data.toList == ((bs [])).data.toList) then
 k 18
 else
 lp0 y1 (instr_operands.t x0) x0 (0)
def instr_Check.g0 (e5_1 : ByteArray) (e5_2 : (List Int)) (e5_3 : T_s79)  (k : Int → Option Ω) : Nat → Int → Option Ω
 | 0, i5 =>
 k 0
 | d5 + 1, i5 =>
 bif (idxOK i5 3) then
 bif (idxOK i5 (e5_1).size) then
 bif ((instr_wrong.t ((bAt e5_1 (Int.toNat i5))) ((List.getD e5_2 (Int.toNat i5) 0))) != 0) then
 k (instr_wrong.t ((bAt e5_1 (Int.toNat i5))) ((List.getD e5_2 (Int.toNat i5) 0)))
 else
 instr_Check.g0 e5_1 e5_2 e5_3  k d5 (i5 + 1)
 else
 none
 else
 none
theorem instr_Check.h0 (e5_1 : ByteArray) (e5_2 : (List Int)) (e5_3 : T_s79)   (k : Int → Option Ω) (hN : (3 : Int) ≤ 9223372036854775807) : ∀ (m : Nat) (i : Int) (a : Unit), -9223372036854775808 ≤ i → Int.toNat ((3 : Int) - i) < m → Le (instr_Check.g0 e5_1 e5_2 e5_3  k (Int.toNat ((3 : Int) - i)) i) (iter (instr_Check.b0 e5_1 e5_2 e5_3  k) m (i)) :=
 iter_count (3 : Int) (fun i5 => (decide (i5 < 3))) (fun i => rfl) (fun (i5 : Int) (a5 : Unit) => (i5)) (fun xs i5 a5 => instr_Check.g0 e5_1 e5_2 e5_3  k xs i5) (instr_Check.b0 e5_1 e5_2 e5_3  k)
 (fun i5 a5 r h0 => (Le.fls h0 (Le.refl _)))
 (fun i5 d5 a5 r h0 hw ih => (Le.tru h0 (Le.cond (Le.cond (Le.cond (Le.refl _) (ih _ hw ())) Le.nil) Le.nil)))
 hN
def instr_Check.w (x0 : T_s79) (k : Int → Option Ω) : Option Ω :=
 (opcode_Form.u (IntKind.wrap .i64 x0.1)).bind fun y1 =>
 bif ((y1).data.toList == ((bs [])).data.toList) then
 k 18
 else
 instr_Check.g0 y1 (instr_operands.t x0) x0  k ((Int.toNat ((3 : Int) - 0))) 0
theorem instr_Check.ev (fuel : Nat) (x0 : T_s79) (k : AV → Option Ω) : evFn CDEKP (spE (C := CDEKP) [opcode_Form.n, instr_operands.n, instr_wrong.n] []) (instr_Check.F fuel) Tryz.f281 (Tryz.f281.body.getD .skip) [(.v E_s79 (x0))] k = instr_Check.sl x0 (fun e5_1 e5_2 e5_3 => (instr_Check.M0 fuel e5_1 e5_2 e5_3  k fuel)) (fun r => k (tupAV (.int .i64) [] r)) := by kernel_rfl
theorem instr_Check.le (x0 : T_s79) (k : AV → Option Ω) : Le (instr_Check.w x0 (fun r => k (tupAV (.int .i64) [] r))) (instr_Check.sl x0 (fun e5_1 e5_2 e5_3 => (instr_Check.M0 BIG e5_1 e5_2 e5_3  k BIG)) (fun r => k (tupAV (.int .i64) [] r))) := by
 have h1 := funext fun (e5_1 : ByteArray) => funext fun (e5_2 : (List Int)) => funext fun (e5_3 : T_s79) => instr_Check.l0 BIG e5_1 e5_2 e5_3   k BIG
 rw [h1]
 delta instr_Check.w instr_Check.sl
 exact (Le.bnd fun y1 => (Le.cond (Le.refl _) (instr_Check.h0 _ _ _   _ (by decide) BIG 0 () (by decide) (by decide))))
def instr_Check.u (x0 : T_s79) : Option (Int) := instr_Check.w x0 some
noncomputable def instr_Check.n : En CDEKP := mkE CDEKP_ok (es := [opcode_Form.n, instr_operands.n, instr_wrong.n]) (ms := []) (fuel := (instr_Check.F BIG)) 281 Tryz.f281 [.ai E_s79] (.int .i64) [] (fun x {Ω} k => instr_Check.w x.1 k) (fun x Ω k => leV (instr_Check.ev BIG x.1 k) (instr_Check.le x.1 k)) (by kernel_rfl) (by kernel_rfl)
noncomputable def internal_stringslite_IndexByte.n : En CDEKP := En.of (g := 312) (e := fun {_} => internal_stringslite_IndexByte.e) (internal_stringslite_IndexByte.e_ok.mono le_C_CDEKP)
def strings_IndexByte.s (x0 : ByteArray) (x1 : Int) (k : Int → Option Ω) : Option Ω :=
 k (internal_stringslite_IndexByte.t x0 x1)
def strings_IndexByte.t (x0 : ByteArray) (x1 : Int) : Int :=
 (internal_stringslite_IndexByte.t x0 x1)
theorem strings_IndexByte.v (x0 : ByteArray) (x1 : Int) (k : Int → Option Ω) : strings_IndexByte.s x0 x1 k = k (strings_IndexByte.t x0 x1) := by
 delta strings_IndexByte.s strings_IndexByte.t; exact rfl
noncomputable def strings_IndexByte.n : En CDEKP := mkT CDEKP_ok (es := [internal_stringslite_IndexByte.n]) (ms := []) (fuel := ⟨1, fun _ => []⟩) 310 Tryz.f310 [.ai .str, .ai (.int .u8)] (.int .i64) [] (fun x {Ω} k => strings_IndexByte.s x.1 x.2.1 k) (fun x => strings_IndexByte.t x.1 x.2.1) (fun x Ω k => by kernel_rfl) (fun x => strings_IndexByte.v x.1 x.2.1 some) (by kernel_rfl) (by kernel_rfl)
def instr_Place.s (x0 : T_s79) (k : Int × Bool → Option Ω) : Option Ω :=
 (opcode_Form.u (IntKind.wrap .i64 x0.1)).bind fun y1 =>
 bif (decide ((strings_IndexByte.t y1 116) < 0)) then
 k (0, false)
 else
 bif (idxOK (strings_IndexByte.t y1 116) 3) then
 let v2 : Int := (IntKind.wrap .i64 (List.getD (instr_operands.t x0) (Int.toNat (strings_IndexByte.t y1 116)) 0))
 k (v2, true)
 else
 none
def instr_Place.u (x0 : T_s79) : Option (Int × Bool) := instr_Place.s x0 some
noncomputable def instr_Place.n : En CDEKP := mkE CDEKP_ok (es := [opcode_Form.n, instr_operands.n, strings_IndexByte.n]) (ms := []) (fuel := ⟨1, fun _ => []⟩) 302 Tryz.f302 [.ai E_s79] (.int .i64) [.bool] (fun x {Ω} k => instr_Place.s x.1 k) (fun x Ω k => Le.of (by kernel_rfl)) (by kernel_rfl) (by kernel_rfl)
def ref12_Guards.s (x0 : T_s79) (k : Bool → Option Ω) : Option Ω :=
 (ref09_Of.u (IntKind.wrap .i64 x0.1)).bind fun y1 =>
 k (y1.2.2.1 == 3)
def ref12_Guards.u (x0 : T_s79) : Option (Bool) := ref12_Guards.s x0 some
noncomputable def ref12_Guards.n : En CDEKP := mkE CDEKP_ok (es := [ref09_Of.n]) (ms := []) (fuel := ⟨1, fun _ => []⟩) 223 Tryz.f223 [.ai E_s79] .bool [] (fun x {Ω} k => ref12_Guards.s x.1 k) (fun x Ω k => Le.of (by kernel_rfl)) (by kernel_rfl) (by kernel_rfl)
def ref12_Alting.s (x0 : T_s79) (k : Bool → Option Ω) : Option Ω :=
 k (x0.1 == 41)
def ref12_Alting.t (x0 : T_s79) : Bool :=
 (x0.1 == 41)
theorem ref12_Alting.v (x0 : T_s79) (k : Bool → Option Ω) : ref12_Alting.s x0 k = k (ref12_Alting.t x0) := by
 delta ref12_Alting.s ref12_Alting.t; exact rfl
noncomputable def ref12_Alting.n : En CDEKP := mkT CDEKP_ok (es := []) (ms := []) (fuel := ⟨1, fun _ => []⟩) 225 Tryz.f225 [.ai E_s79] .bool [] (fun x {Ω} k => ref12_Alting.s x.1 k) (fun x => ref12_Alting.t x.1) (fun x Ω k => by kernel_rfl) (fun x => ref12_Alting.v x.1 some) (by kernel_rfl) (by kernel_rfl)
def ref12_owned.F (fuel : Nat) : Fuel := ⟨fuel, fun r => bif r == 2 then mL 0 28 268435420 else []⟩
noncomputable def ref12_owned.V (fuel c : Nat) (env : List AV) (L : Heap) (k : Kont Ω) : Option Ω := evCode CDEKP (spE (C := CDEKP) [ref12_Alting.n] []) (ref12_owned.F fuel) (pCo c Tryz.f224) env L k
def ref12_owned.E0 (e2_1 : (List T_s79)) (e2_2 : Int) (s2 : Int) : List AV := ((.v (.slice E_s79) (e2_1)) :: (.v (.int .i64) (e2_2)) :: dZ 3 ((.v (.int .i64) (s2)) :: dZ 22 ([])))
def ref12_owned.H0 (e2_1 : (List T_s79)) (e2_2 : Int) (s2 : Int) : Heap := []
noncomputable def ref12_owned.M0 (fuel : Nat) (e2_1 : (List T_s79)) (e2_2 : Int)  (k : AV → Option Ω) (m : Nat) (s : Int) : Option Ω := loopK (ref12_owned.V fuel 37) (mB 28 268435420) [] 0 (blockK 0 (sqK (ref12_owned.V fuel 7) (finK CDEKP Tryz.f224 k))) m ((ref12_owned.E0 e2_1 e2_2) s) ((ref12_owned.H0 e2_1 e2_2) s)
def ref12_owned.b0 (e2_1 : (List T_s79)) (e2_2 : Int)   (k : Bool → Option Ω) (r2 : Int → Option Ω) (s2 : Int) : Option Ω :=
 bif (decide (s2 < e2_2)) then
 bif (idxOK s2 (List.length e2_1)) then
 bif (ref12_Alting.t ((List.getD e2_1 (Int.toNat s2) (0, (0, (0, (0, ()))))))) then
 bif (idxOK s2 (List.length e2_1)) then
 let v1 : Int := (IntKind.wrap .i64 (s2 + (IntKind.wrap .i64 (List.getD e2_1 (Int.toNat s2) (0, (0, (0, (0, ()))))).2.2.2.1)))
 bif (decide (e2_2 ≤ v1)) then
 k true
 else
 r2 ((IntKind.wrap .i64 (s2 + 1)))
 else
 none
 else
 r2 ((IntKind.wrap .i64 (s2 + 1)))
 else
 none
 else
 k false
theorem ref12_owned.l0 (fuel : Nat) (e2_1 : (List T_s79)) (e2_2 : Int)  (k : AV → Option Ω) : ∀ m, (ref12_owned.M0 fuel e2_1 e2_2  k m) = iter (ref12_owned.b0 e2_1 e2_2  (fun r => k (tupAV .bool [] r))) m :=
 loopK_iter (envOf := (ref12_owned.E0 e2_1 e2_2)) (LOf := (ref12_owned.H0 e2_1 e2_2)) (B := ref12_owned.b0 e2_1 e2_2  (fun r => k (tupAV .bool [] r))) (fun R s => by kernel_rfl)
def ref12_owned.sl (x0 : (List T_s79)) (x1 : Int) (lp0 : (List T_s79) → Int → Int → Option Ω) (k : Bool → Option Ω) : Option Ω :=
 lp0 x0 x1 (0)
def ref12_owned.g0 (e2_1 : (List T_s79)) (e2_2 : Int)  (k : Bool → Option Ω) : Nat → Int → Option Ω
 | 0, i2 =>
 k false
 | d2 + 1, i2 =>
 bif (idxOK i2 (List.length e2_1)) then
 bif (ref12_Alting.t ((List.getD e2_1 (Int.toNat i2) (0, (0, (0, (0, ()))))))) then
 bif (idxOK i2 (List.length e2_1)) then
 let v1 : Int := (IntKind.wrap .i64 (i2 + (IntKind.wrap .i64 (List.getD e2_1 (Int.toNat i2) (0, (0, (0, (0, ()))))).2.2.2.1)))
 bif (decide (e2_2 ≤ v1)) then
 k true
 else
 ref12_owned.g0 e2_1 e2_2  k d2 (i2 + 1)
 else
 none
 else
 ref12_owned.g0 e2_1 e2_2  k d2 (i2 + 1)
 else
 none
theorem ref12_owned.h0 (e2_1 : (List T_s79)) (e2_2 : Int)   (k : Bool → Option Ω) (hN : (e2_2 : Int) ≤ 9223372036854775807) : ∀ (m : Nat) (i : Int) (a : Unit), -9223372036854775808 ≤ i → Int.toNat ((e2_2 : Int) - i) < m → Le (ref12_owned.g0 e2_1 e2_2  k (Int.toNat ((e2_2 : Int) - i)) i) (iter (ref12_owned.b0 e2_1 e2_2  k) m (i)) :=
 iter_count (e2_2 : Int) (fun i2 => (decide (i2 < e2_2))) (fun i => rfl) (fun (i2 : Int) (a2 : Unit) => (i2)) (fun xs i2 a2 => ref12_owned.g0 e2_1 e2_2  k xs i2) (ref12_owned.b0 e2_1 e2_2  k)
 (fun i2 a2 r h0 => (Le.fls h0 (Le.refl _)))
 (fun i2 d2 a2 r h0 hw ih => (Le.tru h0 (Le.cond (Le.cond (Le.cond (let v1 : Int := (IntKind.wrap .i64 (i2 + (IntKind.wrap .i64 (List.getD e2_1 (Int.toNat i2) (0, (0, (0, (0, ()))))).2.2.2.1))); (Le.cond (Le.refl _) (ih _ hw ()))) Le.nil) (ih _ hw ())) Le.nil)))
 hN
def ref12_owned.w (x0 : (List T_s79)) (x1 : Int) (k : Bool → Option Ω) : Option Ω :=
 bif (decide (x1 ≤ 4611686018427387904)) then ref12_owned.g0 x0 x1  k ((Int.toNat (x1 - 0))) 0 else none
theorem ref12_owned.ev (fuel : Nat) (x0 : (List T_s79)) (x1 : Int) (k : AV → Option Ω) : evFn CDEKP (spE (C := CDEKP) [ref12_Alting.n] []) (ref12_owned.F fuel) Tryz.f224 (Tryz.f224.body.getD .skip) [(.v (.slice E_s79) (x0)), (.v (.int .i64) (x1))] k = ref12_owned.sl x0 x1 (fun e2_1 e2_2 => (ref12_owned.M0 fuel e2_1 e2_2  k fuel)) (fun r => k (tupAV .bool [] r)) := by kernel_rfl
theorem ref12_owned.le (x0 : (List T_s79)) (x1 : Int) (k : AV → Option Ω) : Le (ref12_owned.w x0 x1 (fun r => k (tupAV .bool [] r))) (ref12_owned.sl x0 x1 (fun e2_1 e2_2 => (ref12_owned.M0 BIG e2_1 e2_2  k BIG)) (fun r => k (tupAV .bool [] r))) := by
 have h1 := funext fun (e2_1 : (List T_s79)) => funext fun (e2_2 : Int) => ref12_owned.l0 BIG e2_1 e2_2   k BIG
 rw [h1]
 delta ref12_owned.w ref12_owned.sl
 exact (Le.gd fun hg => ref12_owned.h0 _ _   _ (cnt_up hg) BIG 0 () (by decide) (cnt_big hg (by decide)))
def ref12_owned.u (x0 : (List T_s79)) (x1 : Int) : Option (Bool) := ref12_owned.w x0 x1 some
noncomputable def ref12_owned.n : En CDEKP := mkE CDEKP_ok (es := [ref12_Alting.n]) (ms := []) (fuel := (ref12_owned.F BIG)) 224 Tryz.f224 [.ai (.slice E_s79), .ai (.int .i64)] .bool [] (fun x {Ω} k => ref12_owned.w x.1 x.2.1 k) (fun x Ω k => leV (ref12_owned.ev BIG x.1 x.2.1 k) (ref12_owned.le x.1 x.2.1 k)) (by kernel_rfl) (by kernel_rfl)
def ref12_one.F (fuel : Nat) : Fuel := ⟨fuel, fun r => bif r == 9 then mL 0 78 302231454903657293676380 else []⟩
noncomputable def ref12_one.V (fuel c : Nat) (env : List AV) (L : Heap) (k : Kont Ω) : Option Ω := evCode CDEKP (spE (C := CDEKP) [ref10_Check.n, ref12_Guards.n, ref12_owned.n, ref12_Alting.n, ref10_Place.n] []) (ref12_one.F fuel) (pCo c Tryz.f179) env L k
def ref12_one.E0 (e9_1 : (List T_s79)) (e9_2 : Int) (e9_3 : T_s79) (s9 : Int) : List AV := ((.v (.slice E_s79) (e9_1)) :: (.v (.int .i64) (e9_2)) :: dZ 3 ((.ref 0 []) :: dZ 1 ((.v (.int .i64) (s9)) :: dZ 70 ([]))))
def ref12_one.H0 (e9_1 : (List T_s79)) (e9_2 : Int) (e9_3 : T_s79) (s9 : Int) : Heap := [(.box E_s79 e9_3 false)]
noncomputable def ref12_one.M0 (fuel : Nat) (e9_1 : (List T_s79)) (e9_2 : Int) (e9_3 : T_s79)  (k : AV → Option Ω) (m : Nat) (s : Int) : Option Ω := loopK (ref12_one.V fuel 1199) (mB 78 302231454903657293676380) [] 1 (blockK 0 (sqK (ref12_one.V fuel 63) (finK CDEKP Tryz.f179 k))) m ((ref12_one.E0 e9_1 e9_2 e9_3) s) ((ref12_one.H0 e9_1 e9_2 e9_3) s)
def ref12_one.b0 (e9_1 : (List T_s79)) (e9_2 : Int) (e9_3 : T_s79)   (k : Int → Option Ω) (r9 : Int → Option Ω) (s9 : Int) : Option Ω :=
 bif (decide (s9 ≤ (IntKind.wrap .i64 e9_3.2.2.2.1))) then
 bif (decide ((IntKind.wrap .i64 (e9_2 + s9)) ≥ ((List.length e9_1 : Nat) : Int))) then
 k 3
 else
 bif (idxOK (IntKind.wrap .i64 (e9_2 + s9)) (List.length e9_1)) then
 (ref12_Guards.u ((List.getD e9_1 (Int.toNat (IntKind.wrap .i64 (e9_2 + s9))) (0, (0, (0, (0, ()))))))).bind fun y4 =>
 bif (!y4) then
 k 3
 else
 r9 ((IntKind.wrap .i64 (s9 + 1)))
 else
 none
 else
 (ref10_Place.u e9_3).bind fun y5 =>
 bif y5.2 then
 bif (decide (y5.1 > ((List.length e9_1 : Nat) : Int))) then
 k 8
 else
 bif y5.2 then
 bif (decide (y5.1 < ((List.length e9_1 : Nat) : Int))) then
 bif (idxOK y5.1 (List.length e9_1)) then
 (ref12_Guards.u ((List.getD e9_1 (Int.toNat y5.1) (0, (0, (0, (0, ()))))))).bind fun y6 =>
 bif y6 then
 k 3
 else
 k 0
 else
 none
 else
 k 0
 else
 k 0
 else
 bif y5.2 then
 bif (decide (y5.1 < ((List.length e9_1 : Nat) : Int))) then
 bif (idxOK y5.1 (List.length e9_1)) then
 (ref12_Guards.u ((List.getD e9_1 (Int.toNat y5.1) (0, (0, (0, (0, ()))))))).bind fun y7 =>
 bif y7 then
 k 3
 else
 k 0
 else
 none
 else
 k 0
 else
 k 0
theorem ref12_one.l0 (fuel : Nat) (e9_1 : (List T_s79)) (e9_2 : Int) (e9_3 : T_s79)  (k : AV → Option Ω) : ∀ m, (ref12_one.M0 fuel e9_1 e9_2 e9_3  k m) = iter (ref12_one.b0 e9_1 e9_2 e9_3  (fun r => k (tupAV (.int .i64) [] r))) m :=
 loopK_iter (envOf := (ref12_one.E0 e9_1 e9_2 e9_3)) (LOf := (ref12_one.H0 e9_1 e9_2 e9_3)) (B := ref12_one.b0 e9_1 e9_2 e9_3  (fun r => k (tupAV (.int .i64) [] r))) (fun R s => by kernel_rfl)
def ref12_one.sl (x0 : (List T_s79)) (x1 : Int) (lp0 : (List T_s79) → Int → T_s79 → Int → Option Ω) (k : Int → Option Ω) : Option Ω :=
 bif (idxOK x1 (List.length x0)) then
 (ref10_Check.u ((List.getD x0 (Int.toNat x1) (0, (0, (0, (0, ()))))))).bind fun y1 =>
 bif (y1 != 0) then
 k y1
 else
 (ref12_Guards.u ((List.getD x0 (Int.toNat x1) (0, (0, (0, (0, ()))))))).bind fun y2 =>
 bif y2 then
 (ref12_owned.u x0 x1).bind fun y3 =>
 bif (!y3) then
 k 3
 else
 bif (ref12_Alting.t ((List.getD x0 (Int.toNat x1) (0, (0, (0, (0, ()))))))) then
 lp0 x0 x1 ((List.getD x0 (Int.toNat x1) (0, (0, (0, (0, ())))))) (1)
 else
 (ref10_Place.u ((List.getD x0 (Int.toNat x1) (0, (0, (0, (0, ()))))))).bind fun y8 =>
 bif y8.2 then
 bif (decide (y8.1 > ((List.length x0 : Nat) : Int))) then
 k 8
 else
 bif y8.2 then
 bif (decide (y8.1 < ((List.length x0 : Nat) : Int))) then
 bif (idxOK y8.1 (List.length x0)) then
 (ref12_Guards.u ((List.getD x0 (Int.toNat y8.1) (0, (0, (0, (0, ()))))))).bind fun y9 =>
 bif y9 then
 k 3
 else
 k 0
 else
 none
 else
 k 0
 else
 k 0
 else
 bif y8.2 then
 bif (decide (y8.1 < ((List.length x0 : Nat) : Int))) then
 bif (idxOK y8.1 (List.length x0)) then
 (ref12_Guards.u ((List.getD x0 (Int.toNat y8.1) (0, (0, (0, (0, ()))))))).bind fun y10 =>
 bif y10 then
 k 3
 else
 k 0
 else
 none
 else
 k 0
 else
 k 0
 else
 bif (ref12_Alting.t ((List.getD x0 (Int.toNat x1) (0, (0, (0, (0, ()))))))) then
 lp0 x0 x1 ((List.getD x0 (Int.toNat x1) (0, (0, (0, (0, ())))))) (1)
 else
 (ref10_Place.u ((List.getD x0 (Int.toNat x1) (0, (0, (0, (0, ()))))))).bind fun y15 =>
 bif y15.2 then
 bif (decide (y15.1 > ((List.length x0 : Nat) : Int))) then
 k 8
 else
 bif y15.2 then
 bif (decide (y15.1 < ((List.length x0 : Nat) : Int))) then
 bif (idxOK y15.1 (List.length x0)) then
 (ref12_Guards.u ((List.getD x0 (Int.toNat y15.1) (0, (0, (0, (0, ()))))))).bind fun y16 =>
 bif y16 then
 k 3
 else
 k 0
 else
 none
 else
 k 0
 else
 k 0
 else
 bif y15.2 then
 bif (decide (y15.1 < ((List.length x0 : Nat) : Int))) then
 bif (idxOK y15.1 (List.length x0)) then
 (ref12_Guards.u ((List.getD x0 (Int.toNat y15.1) (0, (0, (0, (0, ()))))))).bind fun y17 =>
 bif y17 then
 k 3
 else
 k 0
 else
 none
 else
 k 0
 else
 k 0
 else
 none
def ref12_one.g0 (e9_1 : (List T_s79)) (e9_2 : Int) (e9_3 : T_s79)  (k : Int → Option Ω) : Nat → Int → Option Ω
 | 0, i9 =>
 (ref10_Place.u e9_3).bind fun y5 =>
 bif y5.2 then
 bif (decide (y5.1 > ((List.length e9_1 : Nat) : Int))) then
 k 8
 else
 bif y5.2 then
 bif (decide (y5.1 < ((List.length e9_1 : Nat) : Int))) then
 bif (idxOK y5.1 (List.length e9_1)) then
 (ref12_Guards.u ((List.getD e9_1 (Int.toNat y5.1) (0, (0, (0, (0, ()))))))).bind fun y6 =>
 bif y6 then
 k 3
 else
 k 0
 else
 none
 else
 k 0
 else
 k 0
 else
 bif y5.2 then
 bif (decide (y5.1 < ((List.length e9_1 : Nat) : Int))) then
 bif (idxOK y5.1 (List.length e9_1)) then
 (ref12_Guards.u ((List.getD e9_1 (Int.toNat y5.1) (0, (0, (0, (0, ()))))))).bind fun y7 =>
 bif y7 then
 k 3
 else
 k 0
 else
 none
 else
 k 0
 else
 k 0
 | d9 + 1, i9 =>
 bif (decide ((IntKind.wrap .i64 (e9_2 + i9)) ≥ ((List.length e9_1 : Nat) : Int))) then
 k 3
 else
 bif (idxOK (IntKind.wrap .i64 (e9_2 + i9)) (List.length e9_1)) then
 (ref12_Guards.u ((List.getD e9_1 (Int.toNat (IntKind.wrap .i64 (e9_2 + i9))) (0, (0, (0, (0, ()))))))).bind fun y4 =>
 bif (!y4) then
 k 3
 else
 ref12_one.g0 e9_1 e9_2 e9_3  k d9 (i9 + 1)
 else
 none
theorem ref12_one.h0 (e9_1 : (List T_s79)) (e9_2 : Int) (e9_3 : T_s79)   (k : Int → Option Ω) (hN : (((IntKind.wrap .i64 e9_3.2.2.2.1) : Int) + 1) ≤ 9223372036854775807) : ∀ (m : Nat) (i : Int) (a : Unit), -9223372036854775808 ≤ i → Int.toNat ((((IntKind.wrap .i64 e9_3.2.2.2.1) : Int) + 1) - i) < m → Le (ref12_one.g0 e9_1 e9_2 e9_3  k (Int.toNat ((((IntKind.wrap .i64 e9_3.2.2.2.1) : Int) + 1) - i)) i) (iter (ref12_one.b0 e9_1 e9_2 e9_3  k) m (i)) :=
 iter_count (((IntKind.wrap .i64 e9_3.2.2.2.1) : Int) + 1) (fun i9 => (decide (i9 ≤ (IntKind.wrap .i64 e9_3.2.2.2.1)))) (fun i => le_lt1 i _) (fun (i9 : Int) (a9 : Unit) => (i9)) (fun xs i9 a9 => ref12_one.g0 e9_1 e9_2 e9_3  k xs i9) (ref12_one.b0 e9_1 e9_2 e9_3  k)
 (fun i9 a9 r h0 => (Le.fls h0 (Le.bnd fun y5 => (Le.cond (Le.cond (Le.refl _) (Le.cond (Le.cond (Le.cond (Le.bnd fun y6 => (Le.cond (Le.refl _) (Le.refl _))) Le.nil) (Le.refl _)) (Le.refl _))) (Le.cond (Le.cond (Le.cond (Le.bnd fun y7 => (Le.cond (Le.refl _) (Le.refl _))) Le.nil) (Le.refl _)) (Le.refl _))))))
 (fun i9 d9 a9 r h0 hw ih => (Le.tru h0 (Le.cond (Le.refl _) (Le.cond (Le.bnd fun y4 => (Le.cond (Le.refl _) (ih _ hw ()))) Le.nil))))
 hN
def ref12_one.w (x0 : (List T_s79)) (x1 : Int) (k : Int → Option Ω) : Option Ω :=
 bif (idxOK x1 (List.length x0)) then
 (ref10_Check.u ((List.getD x0 (Int.toNat x1) (0, (0, (0, (0, ()))))))).bind fun y1 =>
 bif (y1 != 0) then
 k y1
 else
 (ref12_Guards.u ((List.getD x0 (Int.toNat x1) (0, (0, (0, (0, ()))))))).bind fun y2 =>
 bif y2 then
 (ref12_owned.u x0 x1).bind fun y3 =>
 bif (!y3) then
 k 3
 else
 bif (ref12_Alting.t ((List.getD x0 (Int.toNat x1) (0, (0, (0, (0, ()))))))) then
 bif (decide ((IntKind.wrap .i64 ((List.getD x0 (Int.toNat x1) (0, (0, (0, (0, ())))))).2.2.2.1) ≤ 4611686018427387904)) then ref12_one.g0 x0 x1 ((List.getD x0 (Int.toNat x1) (0, (0, (0, (0, ()))))))  k ((Int.toNat (((IntKind.wrap .i64 ((List.getD x0 (Int.toNat x1) (0, (0, (0, (0, ())))))).2.2.2.1) + 1) - 1))) 1 else none
 else
 (ref10_Place.u ((List.getD x0 (Int.toNat x1) (0, (0, (0, (0, ()))))))).bind fun y8 =>
 bif y8.2 then
 bif (decide (y8.1 > ((List.length x0 : Nat) : Int))) then
 k 8
 else
 bif y8.2 then
 bif (decide (y8.1 < ((List.length x0 : Nat) : Int))) then
 bif (idxOK y8.1 (List.length x0)) then
 (ref12_Guards.u ((List.getD x0 (Int.toNat y8.1) (0, (0, (0, (0, ()))))))).bind fun y9 =>
 bif y9 then
 k 3
 else
 k 0
 else
 none
 else
 k 0
 else
 k 0
 else
 bif y8.2 then
 bif (decide (y8.1 < ((List.length x0 : Nat) : Int))) then
 bif (idxOK y8.1 (List.length x0)) then
 (ref12_Guards.u ((List.getD x0 (Int.toNat y8.1) (0, (0, (0, (0, ()))))))).bind fun y10 =>
 bif y10 then
 k 3
 else
 k 0
 else
 none
 else
 k 0
 else
 k 0
 else
 bif (ref12_Alting.t ((List.getD x0 (Int.toNat x1) (0, (0, (0, (0, ()))))))) then
 bif (decide ((IntKind.wrap .i64 ((List.getD x0 (Int.toNat x1) (0, (0, (0, (0, ())))))).2.2.2.1) ≤ 4611686018427387904)) then ref12_one.g0 x0 x1 ((List.getD x0 (Int.toNat x1) (0, (0, (0, (0, ()))))))  k ((Int.toNat (((IntKind.wrap .i64 ((List.getD x0 (Int.toNat x1) (0, (0, (0, (0, ())))))).2.2.2.1) + 1) - 1))) 1 else none
 else
 (ref10_Place.u ((List.getD x0 (Int.toNat x1) (0, (0, (0, (0, ()))))))).bind fun y15 =>
 bif y15.2 then
 bif (decide (y15.1 > ((List.length x0 : Nat) : Int))) then
 k 8
 else
 bif y15.2 then
 bif (decide (y15.1 < ((List.length x0 : Nat) : Int))) then
 bif (idxOK y15.1 (List.length x0)) then
 (ref12_Guards.u ((List.getD x0 (Int.toNat y15.1) (0, (0, (0, (0, ()))))))).bind fun y16 =>
 bif y16 then
 k 3
 else
 k 0
 else
 none
 else
 k 0
 else
 k 0
 else
 bif y15.2 then
 bif (decide (y15.1 < ((List.length x0 : Nat) : Int))) then
 bif (idxOK y15.1 (List.length x0)) then
 (ref12_Guards.u ((List.getD x0 (Int.toNat y15.1) (0, (0, (0, (0, ()))))))).bind fun y17 =>
 bif y17 then
 k 3
 else
 k 0
 else
 none
 else
 k 0
 else
 k 0
 else
 none
theorem ref12_one.ev (fuel : Nat) (x0 : (List T_s79)) (x1 : Int) (k : AV → Option Ω) : evFn CDEKP (spE (C := CDEKP) [ref10_Check.n, ref12_Guards.n, ref12_owned.n, ref12_Alting.n, ref10_Place.n] []) (ref12_one.F fuel) Tryz.f179 (Tryz.f179.body.getD .skip) [(.v (.slice E_s79) (x0)), (.v (.int .i64) (x1))] k = ref12_one.sl x0 x1 (fun e9_1 e9_2 e9_3 => (ref12_one.M0 fuel e9_1 e9_2 e9_3  k fuel)) (fun r => k (tupAV (.int .i64) [] r)) := by kernel_rfl
theorem ref12_one.le (x0 : (List T_s79)) (x1 : Int) (k : AV → Option Ω) : Le (ref12_one.w x0 x1 (fun r => k (tupAV (.int .i64) [] r))) (ref12_one.sl x0 x1 (fun e9_1 e9_2 e9_3 => (ref12_one.M0 BIG e9_1 e9_2 e9_3  k BIG)) (fun r => k (tupAV (.int .i64) [] r))) := by
 have h1 := funext fun (e9_1 : (List T_s79)) => funext fun (e9_2 : Int) => funext fun (e9_3 : T_s79) => ref12_one.l0 BIG e9_1 e9_2 e9_3   k BIG
 rw [h1]
 delta ref12_one.w ref12_one.sl
 exact (Le.cond (Le.bnd fun y1 => (Le.cond (Le.refl _) (Le.bnd fun y2 => (Le.cond (Le.bnd fun y3 => (Le.cond (Le.refl _) (Le.cond (Le.gd fun hg => ref12_one.h0 _ _ _   _ (cnt_up1 hg) BIG 1 () (by decide) (cnt_big1 hg (by decide))) (Le.bnd fun y8 => (Le.cond (Le.cond (Le.refl _) (Le.cond (Le.cond (Le.cond (Le.bnd fun y9 => (Le.cond (Le.refl _) (Le.refl _))) Le.nil) (Le.refl _)) (Le.refl _))) (Le.cond (Le.cond (Le.cond (Le.bnd fun y10 => (Le.cond (Le.refl _) (Le.refl _))) Le.nil) (Le.refl _)) (Le.refl _))))))) (Le.cond (Le.gd fun hg => ref12_one.h0 _ _ _   _ (cnt_up1 hg) BIG 1 () (by decide) (cnt_big1 hg (by decide))) (Le.bnd fun y15 => (Le.cond (Le.cond (Le.refl _) (Le.cond (Le.cond (Le.cond (Le.bnd fun y16 => (Le.cond (Le.refl _) (Le.refl _))) Le.nil) (Le.refl _)) (Le.refl _))) (Le.cond (Le.cond (Le.cond (Le.bnd fun y17 => (Le.cond (Le.refl _) (Le.refl _))) Le.nil) (Le.refl _)) (Le.refl _))))))))) Le.nil)
def ref12_one.u (x0 : (List T_s79)) (x1 : Int) : Option (Int) := ref12_one.w x0 x1 some
noncomputable def ref12_one.n : En CDEKP := mkE CDEKP_ok (es := [ref10_Check.n, ref12_Guards.n, ref12_owned.n, ref12_Alting.n, ref10_Place.n]) (ms := []) (fuel := (ref12_one.F BIG)) 179 Tryz.f179 [.ai (.slice E_s79), .ai (.int .i64)] (.int .i64) [] (fun x {Ω} k => ref12_one.w x.1 x.2.1 k) (fun x Ω k => leV (ref12_one.ev BIG x.1 x.2.1 k) (ref12_one.le x.1 x.2.1 k)) (by kernel_rfl) (by kernel_rfl)
def ref12_Check.F (fuel : Nat) : Fuel := ⟨fuel, fun r => bif r == 6 then mL 0 25 33554414 else []⟩
noncomputable def ref12_Check.V (fuel c : Nat) (env : List AV) (L : Heap) (k : Kont Ω) : Option Ω := evCode CDEKP (spE (C := CDEKP) [ref12_one.n] []) (ref12_Check.F fuel) (pCo c Tryz.f104) env L k
def ref12_Check.E0 (e6_1 : (List T_s79)) (s6 : Int) : List AV := ((.v (.slice E_s79) (e6_1)) :: dZ 3 ((.v (.int .i64) (s6)) :: dZ 20 ([])))
def ref12_Check.H0 (e6_1 : (List T_s79)) (s6 : Int) : Heap := []
noncomputable def ref12_Check.M0 (fuel : Nat) (e6_1 : (List T_s79))  (k : AV → Option Ω) (m : Nat) (s : Int) : Option Ω := loopK (ref12_Check.V fuel 151) (mB 25 33554414) [] 0 (blockK 0 (sqK (ref12_Check.V fuel 31) (finK CDEKP Tryz.f104 k))) m ((ref12_Check.E0 e6_1) s) ((ref12_Check.H0 e6_1) s)
def ref12_Check.b0 (e6_1 : (List T_s79))   (k : Int × Int → Option Ω) (r6 : Int → Option Ω) (s6 : Int) : Option Ω :=
 bif (decide (s6 < ((List.length e6_1 : Nat) : Int))) then
 (ref12_one.u e6_1 s6).bind fun y1 =>
 bif (y1 != 0) then
 k (s6, y1)
 else
 r6 ((IntKind.wrap .i64 (s6 + 1)))
 else
 k (0, 0)
theorem ref12_Check.l0 (fuel : Nat) (e6_1 : (List T_s79))  (k : AV → Option Ω) : ∀ m, (ref12_Check.M0 fuel e6_1  k m) = iter (ref12_Check.b0 e6_1  (fun r => k (tupAV (.int .i64) [(.int .i64)] r))) m :=
 loopK_iter (envOf := (ref12_Check.E0 e6_1)) (LOf := (ref12_Check.H0 e6_1)) (B := ref12_Check.b0 e6_1  (fun r => k (tupAV (.int .i64) [(.int .i64)] r))) (fun R s => by kernel_rfl)
def ref12_Check.sl (x0 : (List T_s79)) (lp0 : (List T_s79) → Int → Option Ω) (k : Int × Int → Option Ω) : Option Ω :=
 bif (((List.length x0 : Nat) : Int) == 0) then
 k (0, 11)
 else
 bif (decide (((List.length x0 : Nat) : Int) > 64)) then
 k (64, 5)
 else
 lp0 x0 (0)
def ref12_Check.g0 (e6_1 : (List T_s79))  (k : Int × Int → Option Ω) : List T_s79 → Int → Option Ω
 | [], i6 =>
 k (0, 0)
 | x6 :: xs6, i6 =>
 (ref12_one.u e6_1 i6).bind fun y1 =>
 bif (y1 != 0) then
 k (i6, y1)
 else
 ref12_Check.g0 e6_1  k xs6 (i6 + 1)
theorem ref12_Check.h0 (e6_1 : (List T_s79))   (k : Int × Int → Option Ω) (hX : ((List.length e6_1 : Nat) : Int) ≤ 9223372036854775807) : ∀ (m : Nat) (i : Int) (a : Unit), 0 ≤ i → i ≤ ((List.length e6_1 : Nat) : Int) → ((List.length e6_1 : Nat) : Int) < m + i → Le (ref12_Check.g0 e6_1  k (List.drop (Int.toNat i) e6_1) i) (iter (ref12_Check.b0 e6_1  k) m (i)) :=
 iter_list e6_1 (0, (0, (0, (0, ())))) (fun (i6 : Int) (a6 : Unit) => (i6)) (fun xs i6 a6 => ref12_Check.g0 e6_1  k xs i6) (ref12_Check.b0 e6_1  k)
 (fun i6 a6 r h0 => (Le.fls h0 (Le.refl _)))
 (fun i6 xs6 a6 r h0 h1 hw ih => (Le.tru h0 (Le.bnd fun y1 => (Le.cond (Le.refl _) (ih _ hw ())))))
 hX
def ref12_Check.w (x0 : (List T_s79)) (k : Int × Int → Option Ω) : Option Ω :=
 bif (((List.length x0 : Nat) : Int) == 0) then
 k (0, 11)
 else
 bif (decide (((List.length x0 : Nat) : Int) > 64)) then
 k (64, 5)
 else
 bif decide (((List.length x0 : Nat) : Int) ≤ 4611686018427387904) then ref12_Check.g0 x0  k x0 0 else none
theorem ref12_Check.ev (fuel : Nat) (x0 : (List T_s79)) (k : AV → Option Ω) : evFn CDEKP (spE (C := CDEKP) [ref12_one.n] []) (ref12_Check.F fuel) Tryz.f104 (Tryz.f104.body.getD .skip) [(.v (.slice E_s79) (x0))] k = ref12_Check.sl x0 (fun e6_1 => (ref12_Check.M0 fuel e6_1  k fuel)) (fun r => k (tupAV (.int .i64) [(.int .i64)] r)) := by kernel_rfl
theorem ref12_Check.le (x0 : (List T_s79)) (k : AV → Option Ω) : Le (ref12_Check.w x0 (fun r => k (tupAV (.int .i64) [(.int .i64)] r))) (ref12_Check.sl x0 (fun e6_1 => (ref12_Check.M0 BIG e6_1  k BIG)) (fun r => k (tupAV (.int .i64) [(.int .i64)] r))) := by
 have h1 := funext fun (e6_1 : (List T_s79)) => ref12_Check.l0 BIG e6_1   k BIG
 rw [h1]
 delta ref12_Check.w ref12_Check.sl
 exact (Le.cond (Le.refl _) (Le.cond (Le.refl _) (Le.gd fun hg => ref12_Check.h0 _   _ (le_up (of_decide_eq_true hg)) BIG 0 () (by decide) (zero_le_len _) (big_list (of_decide_eq_true hg)))))
def ref12_Check.u (x0 : (List T_s79)) : Option (Int × Int) := ref12_Check.w x0 some
noncomputable def ref12_Check.n : En CDEKP := mkE CDEKP_ok (es := [ref12_one.n]) (ms := []) (fuel := (ref12_Check.F BIG)) 104 Tryz.f104 [.ai (.slice E_s79)] (.int .i64) [(.int .i64)] (fun x {Ω} k => ref12_Check.w x.1 k) (fun x Ω k => leV (ref12_Check.ev BIG x.1 k) (ref12_Check.le x.1 k)) (by kernel_rfl) (by kernel_rfl)
def prog_isGuard.s (x0 : T_s79) (k : Bool → Option Ω) : Option Ω :=
 (opcode_Class.u (IntKind.wrap .i64 x0.1)).bind fun y1 =>
 k (y1 == 3)
def prog_isGuard.u (x0 : T_s79) : Option (Bool) := prog_isGuard.s x0 some
noncomputable def prog_isGuard.n : En CDEKP := mkE CDEKP_ok (es := [opcode_Class.n]) (ms := []) (fuel := ⟨1, fun _ => []⟩) 282 Tryz.f282 [.ai E_s79] .bool [] (fun x {Ω} k => prog_isGuard.s x.1 k) (fun x Ω k => Le.of (by kernel_rfl)) (by kernel_rfl) (by kernel_rfl)
def prog_guarded_1.s (x0 : T_s79) (k : Bool → Option Ω) : Option Ω :=
 (prog_isGuard.u x0).bind fun y1 =>
 k (!y1)
def prog_guarded_1.u (x0 : T_s79) : Option (Bool) := prog_guarded_1.s x0 some
noncomputable def prog_guarded_1.n : En CDEKP := mkE CDEKP_ok (es := [prog_isGuard.n]) (ms := []) (fuel := ⟨1, fun _ => []⟩) 301 Tryz.f301 [.ai E_s79] .bool [] (fun x {Ω} k => prog_guarded_1.s x.1 k) (fun x Ω k => Le.of (by kernel_rfl)) (by kernel_rfl) (by kernel_rfl)
def slices_IndexFunc_api_Instr_api_Instr__prog_guarded_1.F (fuel : Nat) : Fuel := ⟨fuel, fun r => bif r == 2 then mL 0 19 523900 else []⟩
noncomputable def slices_IndexFunc_api_Instr_api_Instr__prog_guarded_1.V (fuel c : Nat) (env : List AV) (L : Heap) (k : Kont Ω) : Option Ω := evCode CDEKP (spE (C := CDEKP) [prog_guarded_1.n] []) (slices_IndexFunc_api_Instr_api_Instr__prog_guarded_1.F fuel) (pCo c Tryz.f309) env L k
def slices_IndexFunc_api_Instr_api_Instr__prog_guarded_1.E0 (e2_1 : (List T_s79)) (e2_2 : Int) (s2 : Int) : List AV := ((.v (.slice E_s79) (e2_1)) :: (.fn 301 []) :: dZ 5 ((.v (.int .i64) (e2_2)) :: (.v (.int .i64) (s2)) :: dZ 10 ([])))
def slices_IndexFunc_api_Instr_api_Instr__prog_guarded_1.H0 (e2_1 : (List T_s79)) (e2_2 : Int) (s2 : Int) : Heap := []
noncomputable def slices_IndexFunc_api_Instr_api_Instr__prog_guarded_1.M0 (fuel : Nat) (e2_1 : (List T_s79)) (e2_2 : Int)  (k : AV → Option Ω) (m : Nat) (s : Int) : Option Ω := loopK (slices_IndexFunc_api_Instr_api_Instr__prog_guarded_1.V fuel 37) (mB 19 523900) [] 0 (blockK 0 (sqK (slices_IndexFunc_api_Instr_api_Instr__prog_guarded_1.V fuel 7) (finK CDEKP Tryz.f309 k))) m ((slices_IndexFunc_api_Instr_api_Instr__prog_guarded_1.E0 e2_1 e2_2) s) ((slices_IndexFunc_api_Instr_api_Instr__prog_guarded_1.H0 e2_1 e2_2) s)
def slices_IndexFunc_api_Instr_api_Instr__prog_guarded_1.b0 (e2_1 : (List T_s79)) (e2_2 : Int)   (k : Int → Option Ω) (r2 : Int → Option Ω) (s2 : Int) : Option Ω :=
 bif (decide (s2 < e2_2)) then
 bif (idxOK s2 (List.length e2_1)) then
 (prog_guarded_1.u ((List.getD e2_1 (Int.toNat s2) (0, (0, (0, (0, ()))))))).bind fun y1 =>
 bif y1 then
 k s2
 else
 r2 ((IntKind.wrap .i64 (s2 + 1)))
 else
 none
 else
 k (-1)
theorem slices_IndexFunc_api_Instr_api_Instr__prog_guarded_1.l0 (fuel : Nat) (e2_1 : (List T_s79)) (e2_2 : Int)  (k : AV → Option Ω) : ∀ m, (slices_IndexFunc_api_Instr_api_Instr__prog_guarded_1.M0 fuel e2_1 e2_2  k m) = iter (slices_IndexFunc_api_Instr_api_Instr__prog_guarded_1.b0 e2_1 e2_2  (fun r => k (tupAV (.int .i64) [] r))) m :=
 loopK_iter (envOf := (slices_IndexFunc_api_Instr_api_Instr__prog_guarded_1.E0 e2_1 e2_2)) (LOf := (slices_IndexFunc_api_Instr_api_Instr__prog_guarded_1.H0 e2_1 e2_2)) (B := slices_IndexFunc_api_Instr_api_Instr__prog_guarded_1.b0 e2_1 e2_2  (fun r => k (tupAV (.int .i64) [] r))) (fun R s => by kernel_rfl)
def slices_IndexFunc_api_Instr_api_Instr__prog_guarded_1.sl (x0 : (List T_s79)) (lp0 : (List T_s79) → Int → Int → Option Ω) (k : Int → Option Ω) : Option Ω :=
 lp0 x0 (((List.length x0 : Nat) : Int)) (0)
def slices_IndexFunc_api_Instr_api_Instr__prog_guarded_1.g0 (e2_1 : (List T_s79))  (k : Int → Option Ω) : List T_s79 → Int → Option Ω
 | [], i2 =>
 k (-1)
 | x2 :: xs2, i2 =>
 (prog_guarded_1.u (x2)).bind fun y1 =>
 bif y1 then
 k i2
 else
 slices_IndexFunc_api_Instr_api_Instr__prog_guarded_1.g0 e2_1  k xs2 (i2 + 1)
theorem slices_IndexFunc_api_Instr_api_Instr__prog_guarded_1.h0 (e2_1 : (List T_s79))   (k : Int → Option Ω) (hX : ((List.length e2_1 : Nat) : Int) ≤ 9223372036854775807) : ∀ (m : Nat) (i : Int) (a : Unit), 0 ≤ i → i ≤ ((List.length e2_1 : Nat) : Int) → ((List.length e2_1 : Nat) : Int) < m + i → Le (slices_IndexFunc_api_Instr_api_Instr__prog_guarded_1.g0 e2_1  k (List.drop (Int.toNat i) e2_1) i) (iter (slices_IndexFunc_api_Instr_api_Instr__prog_guarded_1.b0 e2_1 (((List.length e2_1 : Nat) : Int))  k) m (i)) :=
 iter_list e2_1 (0, (0, (0, (0, ())))) (fun (i2 : Int) (a2 : Unit) => (i2)) (fun xs i2 a2 => slices_IndexFunc_api_Instr_api_Instr__prog_guarded_1.g0 e2_1  k xs i2) (slices_IndexFunc_api_Instr_api_Instr__prog_guarded_1.b0 e2_1 (((List.length e2_1 : Nat) : Int))  k)
 (fun i2 a2 r h0 => (Le.fls h0 (Le.refl _)))
 (fun i2 xs2 a2 r h0 h1 hw ih => (Le.tru h0 (Le.tru h1 (Le.bnd fun y1 => (Le.cond (Le.refl _) (ih _ hw ()))))))
 hX
def slices_IndexFunc_api_Instr_api_Instr__prog_guarded_1.w (x0 : (List T_s79)) (k : Int → Option Ω) : Option Ω :=
 bif decide (((List.length x0 : Nat) : Int) ≤ 4611686018427387904) then slices_IndexFunc_api_Instr_api_Instr__prog_guarded_1.g0 x0  k x0 0 else none
theorem slices_IndexFunc_api_Instr_api_Instr__prog_guarded_1.ev (fuel : Nat) (x0 : (List T_s79)) (k : AV → Option Ω) : evFn CDEKP (spE (C := CDEKP) [prog_guarded_1.n] []) (slices_IndexFunc_api_Instr_api_Instr__prog_guarded_1.F fuel) Tryz.f309 (Tryz.f309.body.getD .skip) [(.v (.slice E_s79) (x0)), (.fn 301 [])] k = slices_IndexFunc_api_Instr_api_Instr__prog_guarded_1.sl x0 (fun e2_1 e2_2 => (slices_IndexFunc_api_Instr_api_Instr__prog_guarded_1.M0 fuel e2_1 e2_2  k fuel)) (fun r => k (tupAV (.int .i64) [] r)) := by kernel_rfl
theorem slices_IndexFunc_api_Instr_api_Instr__prog_guarded_1.le (x0 : (List T_s79)) (k : AV → Option Ω) : Le (slices_IndexFunc_api_Instr_api_Instr__prog_guarded_1.w x0 (fun r => k (tupAV (.int .i64) [] r))) (slices_IndexFunc_api_Instr_api_Instr__prog_guarded_1.sl x0 (fun e2_1 e2_2 => (slices_IndexFunc_api_Instr_api_Instr__prog_guarded_1.M0 BIG e2_1 e2_2  k BIG)) (fun r => k (tupAV (.int .i64) [] r))) := by
 have h1 := funext fun (e2_1 : (List T_s79)) => funext fun (e2_2 : Int) => slices_IndexFunc_api_Instr_api_Instr__prog_guarded_1.l0 BIG e2_1 e2_2   k BIG
 rw [h1]
 delta slices_IndexFunc_api_Instr_api_Instr__prog_guarded_1.w slices_IndexFunc_api_Instr_api_Instr__prog_guarded_1.sl
 exact (Le.gd fun hg => slices_IndexFunc_api_Instr_api_Instr__prog_guarded_1.h0 _   _ (le_up (of_decide_eq_true hg)) BIG 0 () (by decide) (zero_le_len _) (big_list (of_decide_eq_true hg)))
def slices_IndexFunc_api_Instr_api_Instr__prog_guarded_1.u (x0 : (List T_s79)) : Option (Int) := slices_IndexFunc_api_Instr_api_Instr__prog_guarded_1.w x0 some
noncomputable def slices_IndexFunc_api_Instr_api_Instr__prog_guarded_1.n : En CDEKP := mkE CDEKP_ok (es := [prog_guarded_1.n]) (ms := []) (fuel := (slices_IndexFunc_api_Instr_api_Instr__prog_guarded_1.F BIG)) 309 Tryz.f309 [.ai (.slice E_s79), .af0 301] (.int .i64) [] (fun x {Ω} k => slices_IndexFunc_api_Instr_api_Instr__prog_guarded_1.w x.1 k) (fun x Ω k => leV (slices_IndexFunc_api_Instr_api_Instr__prog_guarded_1.ev BIG x.1 k) (slices_IndexFunc_api_Instr_api_Instr__prog_guarded_1.le x.1 k)) (by kernel_rfl) (by kernel_rfl)
def slices_ContainsFunc_api_Instr_api_Instr__prog_guarded_1.s (x0 : (List T_s79)) (k : Bool → Option Ω) : Option Ω :=
 (slices_IndexFunc_api_Instr_api_Instr__prog_guarded_1.u x0).bind fun y1 =>
 k (decide (y1 ≥ 0))
def slices_ContainsFunc_api_Instr_api_Instr__prog_guarded_1.u (x0 : (List T_s79)) : Option (Bool) := slices_ContainsFunc_api_Instr_api_Instr__prog_guarded_1.s x0 some
noncomputable def slices_ContainsFunc_api_Instr_api_Instr__prog_guarded_1.n : En CDEKP := mkE CDEKP_ok (es := [slices_IndexFunc_api_Instr_api_Instr__prog_guarded_1.n]) (ms := []) (fuel := ⟨1, fun _ => []⟩) 300 Tryz.f300 [.ai (.slice E_s79), .af0 301] .bool [] (fun x {Ω} k => slices_ContainsFunc_api_Instr_api_Instr__prog_guarded_1.s x.1 k) (fun x Ω k => Le.of (by kernel_rfl)) (by kernel_rfl) (by kernel_rfl)
def prog_guarded.s (x0 : (List T_s79)) (x1 : Int) (k : Bool → Option Ω) : Option Ω :=
 bif (idxOK x1 (List.length x0)) then
 let v1 : Int := (IntKind.wrap .i64 ((IntKind.wrap .i64 (x1 + 1)) + (IntKind.wrap .i64 (List.getD x0 (Int.toNat x1) (0, (0, (0, (0, ()))))).2.2.2.1)))
 bif (decide (v1 ≤ ((List.length x0 : Nat) : Int))) then
 bif (subC (some ((IntKind.wrap .i64 (x1 + 1)))) (some (v1)) (List.length x0)) then
 (slices_ContainsFunc_api_Instr_api_Instr__prog_guarded_1.u ((subL (some ((IntKind.wrap .i64 (x1 + 1)))) (some (v1)) x0))).bind fun y2 =>
 k (!y2)
 else
 none
 else
 k false
 else
 none
def prog_guarded.u (x0 : (List T_s79)) (x1 : Int) : Option (Bool) := prog_guarded.s x0 x1 some
noncomputable def prog_guarded.n : En CDEKP := mkE CDEKP_ok (es := [slices_ContainsFunc_api_Instr_api_Instr__prog_guarded_1.n]) (ms := []) (fuel := ⟨1, fun _ => []⟩) 283 Tryz.f283 [.ai (.slice E_s79), .ai (.int .i64)] .bool [] (fun x {Ω} k => prog_guarded.s x.1 x.2.1 k) (fun x Ω k => Le.of (by kernel_rfl)) (by kernel_rfl) (by kernel_rfl)
def prog_led.s (x0 : (List T_s79)) (x1 : T_s79) (k : Int → Option Ω) : Option Ω :=
 (instr_Place.u x1).bind fun y1 =>
 bif (!y1.2) then
 k 0
 else
 bif (y1.1 == ((List.length x0 : Nat) : Int)) then
 k 0
 else
 bif (decide (y1.1 > ((List.length x0 : Nat) : Int))) then
 k 8
 else
 bif (idxOK y1.1 (List.length x0)) then
 (prog_isGuard.u ((List.getD x0 (Int.toNat y1.1) (0, (0, (0, (0, ()))))))).bind fun y2 =>
 bif y2 then
 k 3
 else
 k 0
 else
 none
def prog_led.u (x0 : (List T_s79)) (x1 : T_s79) : Option (Int) := prog_led.s x0 x1 some
noncomputable def prog_led.n : En CDEKP := mkE CDEKP_ok (es := [prog_isGuard.n, instr_Place.n]) (ms := []) (fuel := ⟨1, fun _ => []⟩) 284 Tryz.f284 [.ai (.slice E_s79), .ai E_s79] (.int .i64) [] (fun x {Ω} k => prog_led.s x.1 x.2.1 k) (fun x Ω k => Le.of (by kernel_rfl)) (by kernel_rfl) (by kernel_rfl)
def prog_wrong.s (x0 : (List T_s79)) (x1 : Int) (x2 : Int) (k : Int → Option Ω) : Option Ω :=
 bif (idxOK x1 (List.length x0)) then
 (instr_Check.u ((List.getD x0 (Int.toNat x1) (0, (0, (0, (0, ()))))))).bind fun y1 =>
 bif (y1 != 0) then
 k y1
 else
 (prog_isGuard.u ((List.getD x0 (Int.toNat x1) (0, (0, (0, (0, ()))))))).bind fun y2 =>
 bif y2 then
 bif (x2 == 0) then
 k 3
 else
 bif ((List.getD x0 (Int.toNat x1) (0, (0, (0, (0, ()))))).1 == 41) then
 (prog_guarded.u x0 x1).bind fun y3 =>
 bif (!y3) then
 k 3
 else
 (prog_led.u x0 ((List.getD x0 (Int.toNat x1) (0, (0, (0, (0, ()))))))).bind fun y4 =>
 k y4
 else
 (prog_led.u x0 ((List.getD x0 (Int.toNat x1) (0, (0, (0, (0, ()))))))).bind fun y5 =>
 k y5
 else
 bif ((List.getD x0 (Int.toNat x1) (0, (0, (0, (0, ()))))).1 == 41) then
 (prog_guarded.u x0 x1).bind fun y6 =>
 bif (!y6) then
 k 3
 else
 (prog_led.u x0 ((List.getD x0 (Int.toNat x1) (0, (0, (0, (0, ()))))))).bind fun y7 =>
 k y7
 else
 (prog_led.u x0 ((List.getD x0 (Int.toNat x1) (0, (0, (0, (0, ()))))))).bind fun y8 =>
 k y8
 else
 none
def prog_wrong.u (x0 : (List T_s79)) (x1 : Int) (x2 : Int) : Option (Int) := prog_wrong.s x0 x1 x2 some
noncomputable def prog_wrong.n : En CDEKP := mkE CDEKP_ok (es := [instr_Check.n, prog_isGuard.n, prog_guarded.n, prog_led.n]) (ms := []) (fuel := ⟨1, fun _ => []⟩) 258 Tryz.f258 [.ai (.slice E_s79), .ai (.int .i64), .ai (.int .i64)] (.int .i64) [] (fun x {Ω} k => prog_wrong.s x.1 x.2.1 x.2.2.1 k) (fun x Ω k => Le.of (by kernel_rfl)) (by kernel_rfl) (by kernel_rfl)
def prog_Check.F (fuel : Nat) : Fuel := ⟨fuel, fun r => bif r == 7 then mL 0 41 2199022796782 else []⟩
noncomputable def prog_Check.V (fuel c : Nat) (env : List AV) (L : Heap) (k : Kont Ω) : Option Ω := evCode CDEKP (spE (C := CDEKP) [prog_wrong.n] []) (prog_Check.F fuel) (pCo c Tryz.f217) env L k
def prog_Check.E0 (e7_1 : (List T_s79)) (e7_2 : Int) (s7 : Int × Int) : List AV := ((.v (.slice E_s79) (e7_1)) :: dZ 3 ((.v (.int .i64) (s7.1)) :: dZ 11 ((.v (.slice E_s79) (e7_1)) :: (.v (.int .i64) (e7_2)) :: (.v (.int .i64) (s7.2)) :: dZ 22 ([]))))
def prog_Check.H0 (e7_1 : (List T_s79)) (e7_2 : Int) (s7 : Int × Int) : Heap := []
noncomputable def prog_Check.M0 (fuel : Nat) (e7_1 : (List T_s79)) (e7_2 : Int)  (k : AV → Option Ω) (m : Nat) (s : Int × Int) : Option Ω := loopK (prog_Check.V fuel 151) (mB 41 2199022796782) [] 0 (blockK 1 (sqK (prog_Check.V fuel 31) (finK CDEKP Tryz.f217 k))) m ((prog_Check.E0 e7_1 e7_2) s) ((prog_Check.H0 e7_1 e7_2) s)
def prog_Check.b0 (e7_1 : (List T_s79)) (e7_2 : Int)   (k : Int × Int → Option Ω) (r7 : Int × Int → Option Ω) (s7 : Int × Int) : Option Ω :=
 bif (decide (s7.2 < e7_2)) then
 bif (idxOK s7.2 (List.length e7_1)) then
 (prog_wrong.u e7_1 s7.2 s7.1).bind fun y1 =>
 bif (y1 != 0) then
 k (s7.2, y1)
 else
 bif ((List.getD e7_1 (Int.toNat s7.2) (0, (0, (0, (0, ()))))).1 == 41) then
 r7 ((IntKind.wrap .i64 (List.getD e7_1 (Int.toNat s7.2) (0, (0, (0, (0, ()))))).2.2.2.1), (IntKind.wrap .i64 (s7.2 + 1)))
 else
 r7 ((if (0 : Int) > (IntKind.wrap .i64 (s7.1 - 1)) then 0 else (IntKind.wrap .i64 (s7.1 - 1))), (IntKind.wrap .i64 (s7.2 + 1)))
 else
 none
 else
 k (0, 0)
theorem prog_Check.l0 (fuel : Nat) (e7_1 : (List T_s79)) (e7_2 : Int)  (k : AV → Option Ω) : ∀ m, (prog_Check.M0 fuel e7_1 e7_2  k m) = iter (prog_Check.b0 e7_1 e7_2  (fun r => k (tupAV (.int .i64) [(.int .i64)] r))) m :=
 loopK_iter (envOf := (prog_Check.E0 e7_1 e7_2)) (LOf := (prog_Check.H0 e7_1 e7_2)) (B := prog_Check.b0 e7_1 e7_2  (fun r => k (tupAV (.int .i64) [(.int .i64)] r))) (fun R s => by kernel_rfl)
def prog_Check.sl (x0 : (List T_s79)) (lp0 : (List T_s79) → Int → Int × Int → Option Ω) (k : Int × Int → Option Ω) : Option Ω :=
 bif (((List.length x0 : Nat) : Int) == 0) then
 k (0, 11)
 else
 bif (decide (((List.length x0 : Nat) : Int) > 64)) then
 k (64, 5)
 else
 lp0 x0 (((List.length x0 : Nat) : Int)) (0, 0)
def prog_Check.g0 (e7_1 : (List T_s79))  (k : Int × Int → Option Ω) : List T_s79 → Int → Int → Option Ω
 | [], a7_0, i7 =>
 k (0, 0)
 | x7 :: xs7, a7_0, i7 =>
 (prog_wrong.u e7_1 i7 a7_0).bind fun y1 =>
 bif (y1 != 0) then
 k (i7, y1)
 else
 bif (x7.1 == 41) then
 prog_Check.g0 e7_1  k xs7 (IntKind.wrap .i64 x7.2.2.2.1) (i7 + 1)
 else
 prog_Check.g0 e7_1  k xs7 ((if (0 : Int) > (IntKind.wrap .i64 (a7_0 - 1)) then 0 else (IntKind.wrap .i64 (a7_0 - 1)))) (i7 + 1)
theorem prog_Check.h0 (e7_1 : (List T_s79))   (k : Int × Int → Option Ω) (hX : ((List.length e7_1 : Nat) : Int) ≤ 9223372036854775807) : ∀ (m : Nat) (i : Int) (a : Int), 0 ≤ i → i ≤ ((List.length e7_1 : Nat) : Int) → ((List.length e7_1 : Nat) : Int) < m + i → Le (prog_Check.g0 e7_1  k (List.drop (Int.toNat i) e7_1) a i) (iter (prog_Check.b0 e7_1 (((List.length e7_1 : Nat) : Int))  k) m (a, i)) :=
 iter_list e7_1 (0, (0, (0, (0, ())))) (fun (i7 : Int) (a7 : Int) => (a7, i7)) (fun xs i7 a7 => prog_Check.g0 e7_1  k xs a7 i7) (prog_Check.b0 e7_1 (((List.length e7_1 : Nat) : Int))  k)
 (fun i7 a7 r h0 => (Le.fls h0 (Le.refl _)))
 (fun i7 xs7 a7 r h0 h1 hw ih => (Le.tru h0 (Le.tru h1 (Le.bnd fun y1 => (Le.cond (Le.refl _) (Le.cond (ih _ hw ((IntKind.wrap .i64 (List.getD e7_1 (Int.toNat i7) (0, (0, (0, (0, ()))))).2.2.2.1))) (ih _ hw ((if (0 : Int) > (IntKind.wrap .i64 (a7 - 1)) then 0 else (IntKind.wrap .i64 (a7 - 1)))))))))))
 hX
def prog_Check.w (x0 : (List T_s79)) (k : Int × Int → Option Ω) : Option Ω :=
 bif (((List.length x0 : Nat) : Int) == 0) then
 k (0, 11)
 else
 bif (decide (((List.length x0 : Nat) : Int) > 64)) then
 k (64, 5)
 else
 bif decide (((List.length x0 : Nat) : Int) ≤ 4611686018427387904) then prog_Check.g0 x0  k x0 0 0 else none
theorem prog_Check.ev (fuel : Nat) (x0 : (List T_s79)) (k : AV → Option Ω) : evFn CDEKP (spE (C := CDEKP) [prog_wrong.n] []) (prog_Check.F fuel) Tryz.f217 (Tryz.f217.body.getD .skip) [(.v (.slice E_s79) (x0))] k = prog_Check.sl x0 (fun e7_1 e7_2 => (prog_Check.M0 fuel e7_1 e7_2  k fuel)) (fun r => k (tupAV (.int .i64) [(.int .i64)] r)) := by kernel_rfl
theorem prog_Check.le (x0 : (List T_s79)) (k : AV → Option Ω) : Le (prog_Check.w x0 (fun r => k (tupAV (.int .i64) [(.int .i64)] r))) (prog_Check.sl x0 (fun e7_1 e7_2 => (prog_Check.M0 BIG e7_1 e7_2  k BIG)) (fun r => k (tupAV (.int .i64) [(.int .i64)] r))) := by
 have h1 := funext fun (e7_1 : (List T_s79)) => funext fun (e7_2 : Int) => prog_Check.l0 BIG e7_1 e7_2   k BIG
 rw [h1]
 delta prog_Check.w prog_Check.sl
 exact (Le.cond (Le.refl _) (Le.cond (Le.refl _) (Le.gd fun hg => prog_Check.h0 _   _ (le_up (of_decide_eq_true hg)) BIG 0 (0) (by decide) (zero_le_len _) (big_list (of_decide_eq_true hg)))))
def prog_Check.u (x0 : (List T_s79)) : Option (Int × Int) := prog_Check.w x0 some
noncomputable def prog_Check.n : En CDEKP := mkE CDEKP_ok (es := [prog_wrong.n]) (ms := []) (fuel := (prog_Check.F BIG)) 217 Tryz.f217 [.ai (.slice E_s79)] (.int .i64) [(.int .i64)] (fun x {Ω} k => prog_Check.w x.1 k) (fun x Ω k => leV (prog_Check.ev BIG x.1 k) (prog_Check.le x.1 k)) (by kernel_rfl) (by kernel_rfl)
def frame_New.s (x0 : Int) (k : T_s67 × Int → Option Ω) : Option Ω :=
 bif (!(word_Fine.t x0)) then
 k ((0, (false, ((List.replicate 8 0), ((List.replicate 16 0), (0, ((List.replicate 8 0), ())))))), 8)
 else
 k ((0, (false, ((List.set (List.replicate 8 0) 0 x0), ((List.replicate 16 0), (0, ((List.replicate 8 0), ())))))), 0)
def frame_New.t (x0 : Int) : T_s67 × Int :=
 bif (!(word_Fine.t x0)) then
 ((0, (false, ((List.replicate 8 0), ((List.replicate 16 0), (0, ((List.replicate 8 0), ())))))), 8)
 else
 ((0, (false, ((List.set (List.replicate 8 0) 0 x0), ((List.replicate 16 0), (0, ((List.replicate 8 0), ())))))), 0)
theorem frame_New.v (x0 : Int) (k : T_s67 × Int → Option Ω) : frame_New.s x0 k = k (frame_New.t x0) := by
 delta frame_New.s frame_New.t; exact (cond_tot rfl rfl)
noncomputable def frame_New.n : En CDEKP := mkT CDEKP_ok (es := [word_Fine.n]) (ms := []) (fuel := ⟨1, fun _ => []⟩) 97 Tryz.f97 [.ai (.int .i64)] E_s67 [(.int .i64)] (fun x {Ω} k => frame_New.s x.1 k) (fun x => frame_New.t x.1) (fun x Ω k => by kernel_rfl) (fun x => frame_New.v x.1 some) (by kernel_rfl) (by kernel_rfl)
def ref13_New.s (x0 : Int) (k : T_s67 × Int → Option Ω) : Option Ω :=
 bif (!(ref08_Fine.t x0)) then
 k ((0, (false, ((List.replicate 8 0), ((List.replicate 16 0), (0, ((List.replicate 8 0), ())))))), 8)
 else
 let v1 : T_s67 := (0, (false, ((List.set (List.replicate 8 0) 0 x0), ((List.replicate 16 0), (0, ((List.replicate 8 0), ()))))))
 k (v1, 0)
def ref13_New.t (x0 : Int) : T_s67 × Int :=
 bif (!(ref08_Fine.t x0)) then
 ((0, (false, ((List.replicate 8 0), ((List.replicate 16 0), (0, ((List.replicate 8 0), ())))))), 8)
 else
 let v1 : T_s67 := (0, (false, ((List.set (List.replicate 8 0) 0 x0), ((List.replicate 16 0), (0, ((List.replicate 8 0), ()))))))
 (v1, 0)
theorem ref13_New.v (x0 : Int) (k : T_s67 × Int → Option Ω) : ref13_New.s x0 k = k (ref13_New.t x0) := by
 delta ref13_New.s ref13_New.t; exact (cond_tot rfl rfl)
noncomputable def ref13_New.n : En CDEKP := mkT CDEKP_ok (es := [ref08_Fine.n]) (ms := []) (fuel := ⟨1, fun _ => []⟩) 112 Tryz.f112 [.ai (.int .i64)] E_s67 [(.int .i64)] (fun x {Ω} k => ref13_New.s x.1 k) (fun x => ref13_New.t x.1) (fun x Ω k => by kernel_rfl) (fun x => ref13_New.v x.1 some) (by kernel_rfl) (by kernel_rfl)
def frame_place.s (x0 : Int) (k : Bool → Option Ω) : Option Ω :=
 bif (decide (x0 ≥ 0)) then
 k (decide (x0 ≤ 64))
 else
 k false
def frame_place.t (x0 : Int) : Bool :=
 bif (decide (x0 ≥ 0)) then
 (decide (x0 ≤ 64))
 else
 false
theorem frame_place.v (x0 : Int) (k : Bool → Option Ω) : frame_place.s x0 k = k (frame_place.t x0) := by
 delta frame_place.s frame_place.t; exact (cond_tot rfl rfl)
noncomputable def frame_place.n : En CDEKP := mkT CDEKP_ok (es := []) (ms := []) (fuel := ⟨1, fun _ => []⟩) 251 Tryz.f251 [.ai (.int .i64)] .bool [] (fun x {Ω} k => frame_place.s x.1 k) (fun x => frame_place.t x.1) (fun x Ω k => by kernel_rfl) (fun x => frame_place.v x.1 some) (by kernel_rfl) (by kernel_rfl)
def frame_all_1__word_Fine.s (x0 : Int) (k : Bool → Option Ω) : Option Ω :=
 k (!(word_Fine.t x0))
def frame_all_1__word_Fine.t (x0 : Int) : Bool :=
 (!(word_Fine.t x0))
theorem frame_all_1__word_Fine.v (x0 : Int) (k : Bool → Option Ω) : frame_all_1__word_Fine.s x0 k = k (frame_all_1__word_Fine.t x0) := by
 delta frame_all_1__word_Fine.s frame_all_1__word_Fine.t; exact rfl
noncomputable def frame_all_1__word_Fine.n : En CDEKP := mkT CDEKP_ok (es := [word_Fine.n]) (ms := []) (fuel := ⟨1, fun _ => []⟩) 280 Tryz.f280 [.ai (.int .i64), .aq 96] .bool [] (fun x {Ω} k => frame_all_1__word_Fine.s x.1 k) (fun x => frame_all_1__word_Fine.t x.1) (fun x Ω k => by kernel_rfl) (fun x => frame_all_1__word_Fine.v x.1 some) (by kernel_rfl) (by kernel_rfl)
def slices_IndexFunc_int_int__frame_all_1_word_Fine.F (fuel : Nat) : Fuel := ⟨fuel, fun r => bif r == 2 then mL 0 19 523900 else []⟩
noncomputable def slices_IndexFunc_int_int__frame_all_1_word_Fine.V (fuel c : Nat) (env : List AV) (L : Heap) (k : Kont Ω) : Option Ω := evCode CDEKP (spE (C := CDEKP) [frame_all_1__word_Fine.n] []) (slices_IndexFunc_int_int__frame_all_1_word_Fine.F fuel) (pCo c Tryz.f265) env L k
def slices_IndexFunc_int_int__frame_all_1_word_Fine.E0 (e2_1 : (List Int)) (e2_2 : Int) (s2 : Int) : List AV := ((.v (.slice (.int .i64)) (e2_1)) :: (.fn 280 [(.vp (.raw .func) (Value.func (.func 96) #[] #[]) [])]) :: dZ 5 ((.v (.int .i64) (e2_2)) :: (.v (.int .i64) (s2)) :: dZ 10 ([])))
def slices_IndexFunc_int_int__frame_all_1_word_Fine.H0 (e2_1 : (List Int)) (e2_2 : Int) (s2 : Int) : Heap := []
noncomputable def slices_IndexFunc_int_int__frame_all_1_word_Fine.M0 (fuel : Nat) (e2_1 : (List Int)) (e2_2 : Int)  (k : AV → Option Ω) (m : Nat) (s : Int) : Option Ω := loopK (slices_IndexFunc_int_int__frame_all_1_word_Fine.V fuel 37) (mB 19 523900) [] 0 (blockK 0 (sqK (slices_IndexFunc_int_int__frame_all_1_word_Fine.V fuel 7) (finK CDEKP Tryz.f265 k))) m ((slices_IndexFunc_int_int__frame_all_1_word_Fine.E0 e2_1 e2_2) s) ((slices_IndexFunc_int_int__frame_all_1_word_Fine.H0 e2_1 e2_2) s)
def slices_IndexFunc_int_int__frame_all_1_word_Fine.b0 (e2_1 : (List Int)) (e2_2 : Int)   (k : Int → Option Ω) (r2 : Int → Option Ω) (s2 : Int) : Option Ω :=
 bif (decide (s2 < e2_2)) then
 bif (idxOK s2 (List.length e2_1)) then
 bif (frame_all_1__word_Fine.t ((List.getD e2_1 (Int.toNat s2) 0))) then
 k s2
 else
 r2 ((IntKind.wrap .i64 (s2 + 1)))
 else
 none
 else
 k (-1)
theorem slices_IndexFunc_int_int__frame_all_1_word_Fine.l0 (fuel : Nat) (e2_1 : (List Int)) (e2_2 : Int)  (k : AV → Option Ω) : ∀ m, (slices_IndexFunc_int_int__frame_all_1_word_Fine.M0 fuel e2_1 e2_2  k m) = iter (slices_IndexFunc_int_int__frame_all_1_word_Fine.b0 e2_1 e2_2  (fun r => k (tupAV (.int .i64) [] r))) m :=
 loopK_iter (envOf := (slices_IndexFunc_int_int__frame_all_1_word_Fine.E0 e2_1 e2_2)) (LOf := (slices_IndexFunc_int_int__frame_all_1_word_Fine.H0 e2_1 e2_2)) (B := slices_IndexFunc_int_int__frame_all_1_word_Fine.b0 e2_1 e2_2  (fun r => k (tupAV (.int .i64) [] r))) (fun R s => by kernel_rfl)
def slices_IndexFunc_int_int__frame_all_1_word_Fine.sl (x0 : (List Int)) (lp0 : (List Int) → Int → Int → Option Ω) (k : Int → Option Ω) : Option Ω :=
 lp0 x0 (((List.length x0 : Nat) : Int)) (0)
def slices_IndexFunc_int_int__frame_all_1_word_Fine.g0 (e2_1 : (List Int))  (k : Int → Option Ω) : List Int → Int → Option Ω
 | [], i2 =>
 k (-1)
 | x2 :: xs2, i2 =>
 bif (frame_all_1__word_Fine.t (x2)) then
 k i2
 else
 slices_IndexFunc_int_int__frame_all_1_word_Fine.g0 e2_1  k xs2 (i2 + 1)
theorem slices_IndexFunc_int_int__frame_all_1_word_Fine.h0 (e2_1 : (List Int))   (k : Int → Option Ω) (hX : ((List.length e2_1 : Nat) : Int) ≤ 9223372036854775807) : ∀ (m : Nat) (i : Int) (a : Unit), 0 ≤ i → i ≤ ((List.length e2_1 : Nat) : Int) → ((List.length e2_1 : Nat) : Int) < m + i → Le (slices_IndexFunc_int_int__frame_all_1_word_Fine.g0 e2_1  k (List.drop (Int.toNat i) e2_1) i) (iter (slices_IndexFunc_int_int__frame_all_1_word_Fine.b0 e2_1 (((List.length e2_1 : Nat) : Int))  k) m (i)) :=
 iter_list e2_1 0 (fun (i2 : Int) (a2 : Unit) => (i2)) (fun xs i2 a2 => slices_IndexFunc_int_int__frame_all_1_word_Fine.g0 e2_1  k xs i2) (slices_IndexFunc_int_int__frame_all_1_word_Fine.b0 e2_1 (((List.length e2_1 : Nat) : Int))  k)
 (fun i2 a2 r h0 => (Le.fls h0 (Le.refl _)))
 (fun i2 xs2 a2 r h0 h1 hw ih => (Le.tru h0 (Le.tru h1 (Le.cond (Le.refl _) (ih _ hw ())))))
 hX
def slices_IndexFunc_int_int__frame_all_1_word_Fine.w (x0 : (List Int)) (k : Int → Option Ω) : Option Ω :=
 bif decide (((List.length x0 : Nat) : Int) ≤ 4611686018427387904) then slices_IndexFunc_int_int__frame_all_1_word_Fine.g0 x0  k x0 0 else none
theorem slices_IndexFunc_int_int__frame_all_1_word_Fine.ev (fuel : Nat) (x0 : (List Int)) (k : AV → Option Ω) : evFn CDEKP (spE (C := CDEKP) [frame_all_1__word_Fine.n] []) (slices_IndexFunc_int_int__frame_all_1_word_Fine.F fuel) Tryz.f265 (Tryz.f265.body.getD .skip) [(.v (.slice (.int .i64)) (x0)), (.fn 280 [(.vp (.raw .func) (Value.func (.func 96) #[] #[]) [])])] k = slices_IndexFunc_int_int__frame_all_1_word_Fine.sl x0 (fun e2_1 e2_2 => (slices_IndexFunc_int_int__frame_all_1_word_Fine.M0 fuel e2_1 e2_2  k fuel)) (fun r => k (tupAV (.int .i64) [] r)) := by kernel_rfl
theorem slices_IndexFunc_int_int__frame_all_1_word_Fine.le (x0 : (List Int)) (k : AV → Option Ω) : Le (slices_IndexFunc_int_int__frame_all_1_word_Fine.w x0 (fun r => k (tupAV (.int .i64) [] r))) (slices_IndexFunc_int_int__frame_all_1_word_Fine.sl x0 (fun e2_1 e2_2 => (slices_IndexFunc_int_int__frame_all_1_word_Fine.M0 BIG e2_1 e2_2  k BIG)) (fun r => k (tupAV (.int .i64) [] r))) := by
 have h1 := funext fun (e2_1 : (List Int)) => funext fun (e2_2 : Int) => slices_IndexFunc_int_int__frame_all_1_word_Fine.l0 BIG e2_1 e2_2   k BIG
 rw [h1]
 delta slices_IndexFunc_int_int__frame_all_1_word_Fine.w slices_IndexFunc_int_int__frame_all_1_word_Fine.sl
 exact (Le.gd fun hg => slices_IndexFunc_int_int__frame_all_1_word_Fine.h0 _   _ (le_up (of_decide_eq_true hg)) BIG 0 () (by decide) (zero_le_len _) (big_list (of_decide_eq_true hg)))
def slices_IndexFunc_int_int__frame_all_1_word_Fine.u (x0 : (List Int)) : Option (Int) := slices_IndexFunc_int_int__frame_all_1_word_Fine.w x0 some
noncomputable def slices_IndexFunc_int_int__frame_all_1_word_Fine.n : En CDEKP := mkE CDEKP_ok (es := [frame_all_1__word_Fine.n]) (ms := []) (fuel := (slices_IndexFunc_int_int__frame_all_1_word_Fine.F BIG)) 265 Tryz.f265 [.ai (.slice (.int .i64)), .afq 280 96] (.int .i64) [] (fun x {Ω} k => slices_IndexFunc_int_int__frame_all_1_word_Fine.w x.1 k) (fun x Ω k => leV (slices_IndexFunc_int_int__frame_all_1_word_Fine.ev BIG x.1 k) (slices_IndexFunc_int_int__frame_all_1_word_Fine.le x.1 k)) (by kernel_rfl) (by kernel_rfl)
def slices_ContainsFunc_int_int__frame_all_1_word_Fine.s (x0 : (List Int)) (k : Bool → Option Ω) : Option Ω :=
 (slices_IndexFunc_int_int__frame_all_1_word_Fine.u x0).bind fun y1 =>
 k (decide (y1 ≥ 0))
def slices_ContainsFunc_int_int__frame_all_1_word_Fine.u (x0 : (List Int)) : Option (Bool) := slices_ContainsFunc_int_int__frame_all_1_word_Fine.s x0 some
noncomputable def slices_ContainsFunc_int_int__frame_all_1_word_Fine.n : En CDEKP := mkE CDEKP_ok (es := [slices_IndexFunc_int_int__frame_all_1_word_Fine.n]) (ms := []) (fuel := ⟨1, fun _ => []⟩) 234 Tryz.f234 [.ai (.slice (.int .i64)), .afq 280 96] .bool [] (fun x {Ω} k => slices_ContainsFunc_int_int__frame_all_1_word_Fine.s x.1 k) (fun x Ω k => Le.of (by kernel_rfl)) (by kernel_rfl) (by kernel_rfl)
def frame_all__word_Fine.s (x0 : (List Int)) (k : Bool → Option Ω) : Option Ω :=
 (slices_ContainsFunc_int_int__frame_all_1_word_Fine.u x0).bind fun y1 =>
 k (!y1)
def frame_all__word_Fine.u (x0 : (List Int)) : Option (Bool) := frame_all__word_Fine.s x0 some
noncomputable def frame_all__word_Fine.n : En CDEKP := mkE CDEKP_ok (es := [slices_ContainsFunc_int_int__frame_all_1_word_Fine.n]) (ms := []) (fuel := ⟨1, fun _ => []⟩) 252 Tryz.f252 [.ai (.slice (.int .i64)), .af0 96] .bool [] (fun x {Ω} k => frame_all__word_Fine.s x.1 k) (fun x Ω k => Le.of (by kernel_rfl)) (by kernel_rfl) (by kernel_rfl)
def frame_all_1__frame_place.s (x0 : Int) (k : Bool → Option Ω) : Option Ω :=
 k (!(frame_place.t x0))
def frame_all_1__frame_place.t (x0 : Int) : Bool :=
 (!(frame_place.t x0))
theorem frame_all_1__frame_place.v (x0 : Int) (k : Bool → Option Ω) : frame_all_1__frame_place.s x0 k = k (frame_all_1__frame_place.t x0) := by
 delta frame_all_1__frame_place.s frame_all_1__frame_place.t; exact rfl
noncomputable def frame_all_1__frame_place.n : En CDEKP := mkT CDEKP_ok (es := [frame_place.n]) (ms := []) (fuel := ⟨1, fun _ => []⟩) 280 Tryz.f280 [.ai (.int .i64), .aq 251] .bool [] (fun x {Ω} k => frame_all_1__frame_place.s x.1 k) (fun x => frame_all_1__frame_place.t x.1) (fun x Ω k => by kernel_rfl) (fun x => frame_all_1__frame_place.v x.1 some) (by kernel_rfl) (by kernel_rfl)
def slices_IndexFunc_int_int__frame_all_1_frame_place.F (fuel : Nat) : Fuel := ⟨fuel, fun r => bif r == 2 then mL 0 19 523900 else []⟩
noncomputable def slices_IndexFunc_int_int__frame_all_1_frame_place.V (fuel c : Nat) (env : List AV) (L : Heap) (k : Kont Ω) : Option Ω := evCode CDEKP (spE (C := CDEKP) [frame_all_1__frame_place.n] []) (slices_IndexFunc_int_int__frame_all_1_frame_place.F fuel) (pCo c Tryz.f265) env L k
def slices_IndexFunc_int_int__frame_all_1_frame_place.E0 (e2_1 : (List Int)) (e2_2 : Int) (s2 : Int) : List AV := ((.v (.slice (.int .i64)) (e2_1)) :: (.fn 280 [(.vp (.raw .func) (Value.func (.func 251) #[] #[]) [])]) :: dZ 5 ((.v (.int .i64) (e2_2)) :: (.v (.int .i64) (s2)) :: dZ 10 ([])))
def slices_IndexFunc_int_int__frame_all_1_frame_place.H0 (e2_1 : (List Int)) (e2_2 : Int) (s2 : Int) : Heap := []
noncomputable def slices_IndexFunc_int_int__frame_all_1_frame_place.M0 (fuel : Nat) (e2_1 : (List Int)) (e2_2 : Int)  (k : AV → Option Ω) (m : Nat) (s : Int) : Option Ω := loopK (slices_IndexFunc_int_int__frame_all_1_frame_place.V fuel 37) (mB 19 523900) [] 0 (blockK 0 (sqK (slices_IndexFunc_int_int__frame_all_1_frame_place.V fuel 7) (finK CDEKP Tryz.f265 k))) m ((slices_IndexFunc_int_int__frame_all_1_frame_place.E0 e2_1 e2_2) s) ((slices_IndexFunc_int_int__frame_all_1_frame_place.H0 e2_1 e2_2) s)
def slices_IndexFunc_int_int__frame_all_1_frame_place.b0 (e2_1 : (List Int)) (e2_2 : Int)   (k : Int → Option Ω) (r2 : Int → Option Ω) (s2 : Int) : Option Ω :=
 bif (decide (s2 < e2_2)) then
 bif (idxOK s2 (List.length e2_1)) then
 bif (frame_all_1__frame_place.t ((List.getD e2_1 (Int.toNat s2) 0))) then
 k s2
 else
 r2 ((IntKind.wrap .i64 (s2 + 1)))
 else
 none
 else
 k (-1)
theorem slices_IndexFunc_int_int__frame_all_1_frame_place.l0 (fuel : Nat) (e2_1 : (List Int)) (e2_2 : Int)  (k : AV → Option Ω) : ∀ m, (slices_IndexFunc_int_int__frame_all_1_frame_place.M0 fuel e2_1 e2_2  k m) = iter (slices_IndexFunc_int_int__frame_all_1_frame_place.b0 e2_1 e2_2  (fun r => k (tupAV (.int .i64) [] r))) m :=
 loopK_iter (envOf := (slices_IndexFunc_int_int__frame_all_1_frame_place.E0 e2_1 e2_2)) (LOf := (slices_IndexFunc_int_int__frame_all_1_frame_place.H0 e2_1 e2_2)) (B := slices_IndexFunc_int_int__frame_all_1_frame_place.b0 e2_1 e2_2  (fun r => k (tupAV (.int .i64) [] r))) (fun R s => by kernel_rfl)
def slices_IndexFunc_int_int__frame_all_1_frame_place.sl (x0 : (List Int)) (lp0 : (List Int) → Int → Int → Option Ω) (k : Int → Option Ω) : Option Ω :=
 lp0 x0 (((List.length x0 : Nat) : Int)) (0)
def slices_IndexFunc_int_int__frame_all_1_frame_place.g0 (e2_1 : (List Int))  (k : Int → Option Ω) : List Int → Int → Option Ω
 | [], i2 =>
 k (-1)
 | x2 :: xs2, i2 =>
 bif (frame_all_1__frame_place.t (x2)) then
 k i2
 else
 slices_IndexFunc_int_int__frame_all_1_frame_place.g0 e2_1  k xs2 (i2 + 1)
theorem slices_IndexFunc_int_int__frame_all_1_frame_place.h0 (e2_1 : (List Int))   (k : Int → Option Ω) (hX : ((List.length e2_1 : Nat) : Int) ≤ 9223372036854775807) : ∀ (m : Nat) (i : Int) (a : Unit), 0 ≤ i → i ≤ ((List.length e2_1 : Nat) : Int) → ((List.length e2_1 : Nat) : Int) < m + i → Le (slices_IndexFunc_int_int__frame_all_1_frame_place.g0 e2_1  k (List.drop (Int.toNat i) e2_1) i) (iter (slices_IndexFunc_int_int__frame_all_1_frame_place.b0 e2_1 (((List.length e2_1 : Nat) : Int))  k) m (i)) :=
 iter_list e2_1 0 (fun (i2 : Int) (a2 : Unit) => (i2)) (fun xs i2 a2 => slices_IndexFunc_int_int__frame_all_1_frame_place.g0 e2_1  k xs i2) (slices_IndexFunc_int_int__frame_all_1_frame_place.b0 e2_1 (((List.length e2_1 : Nat) : Int))  k)
 (fun i2 a2 r h0 => (Le.fls h0 (Le.refl _)))
 (fun i2 xs2 a2 r h0 h1 hw ih => (Le.tru h0 (Le.tru h1 (Le.cond (Le.refl _) (ih _ hw ())))))
 hX
def slices_IndexFunc_int_int__frame_all_1_frame_place.w (x0 : (List Int)) (k : Int → Option Ω) : Option Ω :=
 bif decide (((List.length x0 : Nat) : Int) ≤ 4611686018427387904) then slices_IndexFunc_int_int__frame_all_1_frame_place.g0 x0  k x0 0 else none
theorem slices_IndexFunc_int_int__frame_all_1_frame_place.ev (fuel : Nat) (x0 : (List Int)) (k : AV → Option Ω) : evFn CDEKP (spE (C := CDEKP) [frame_all_1__frame_place.n] []) (slices_IndexFunc_int_int__frame_all_1_frame_place.F fuel) Tryz.f265 (Tryz.f265.body.getD .skip) [(.v (.slice (.int .i64)) (x0)), (.fn 280 [(.vp (.raw .func) (Value.func (.func 251) #[] #[]) [])])] k = slices_IndexFunc_int_int__frame_all_1_frame_place.sl x0 (fun e2_1 e2_2 => (slices_IndexFunc_int_int__frame_all_1_frame_place.M0 fuel e2_1 e2_2  k fuel)) (fun r => k (tupAV (.int .i64) [] r)) := by kernel_rfl
theorem slices_IndexFunc_int_int__frame_all_1_frame_place.le (x0 : (List Int)) (k : AV → Option Ω) : Le (slices_IndexFunc_int_int__frame_all_1_frame_place.w x0 (fun r => k (tupAV (.int .i64) [] r))) (slices_IndexFunc_int_int__frame_all_1_frame_place.sl x0 (fun e2_1 e2_2 => (slices_IndexFunc_int_int__frame_all_1_frame_place.M0 BIG e2_1 e2_2  k BIG)) (fun r => k (tupAV (.int .i64) [] r))) := by
 have h1 := funext fun (e2_1 : (List Int)) => funext fun (e2_2 : Int) => slices_IndexFunc_int_int__frame_all_1_frame_place.l0 BIG e2_1 e2_2   k BIG
 rw [h1]
 delta slices_IndexFunc_int_int__frame_all_1_frame_place.w slices_IndexFunc_int_int__frame_all_1_frame_place.sl
 exact (Le.gd fun hg => slices_IndexFunc_int_int__frame_all_1_frame_place.h0 _   _ (le_up (of_decide_eq_true hg)) BIG 0 () (by decide) (zero_le_len _) (big_list (of_decide_eq_true hg)))
def slices_IndexFunc_int_int__frame_all_1_frame_place.u (x0 : (List Int)) : Option (Int) := slices_IndexFunc_int_int__frame_all_1_frame_place.w x0 some
noncomputable def slices_IndexFunc_int_int__frame_all_1_frame_place.n : En CDEKP := mkE CDEKP_ok (es := [frame_all_1__frame_place.n]) (ms := []) (fuel := (slices_IndexFunc_int_int__frame_all_1_frame_place.F BIG)) 265 Tryz.f265 [.ai (.slice (.int .i64)), .afq 280 251] (.int .i64) [] (fun x {Ω} k => slices_IndexFunc_int_int__frame_all_1_frame_place.w x.1 k) (fun x Ω k => leV (slices_IndexFunc_int_int__frame_all_1_frame_place.ev BIG x.1 k) (slices_IndexFunc_int_int__frame_all_1_frame_place.le x.1 k)) (by kernel_rfl) (by kernel_rfl)
def slices_ContainsFunc_int_int__frame_all_1_frame_place.s (x0 : (List Int)) (k : Bool → Option Ω) : Option Ω :=
 (slices_IndexFunc_int_int__frame_all_1_frame_place.u x0).bind fun y1 =>
 k (decide (y1 ≥ 0))
def slices_ContainsFunc_int_int__frame_all_1_frame_place.u (x0 : (List Int)) : Option (Bool) := slices_ContainsFunc_int_int__frame_all_1_frame_place.s x0 some
noncomputable def slices_ContainsFunc_int_int__frame_all_1_frame_place.n : En CDEKP := mkE CDEKP_ok (es := [slices_IndexFunc_int_int__frame_all_1_frame_place.n]) (ms := []) (fuel := ⟨1, fun _ => []⟩) 234 Tryz.f234 [.ai (.slice (.int .i64)), .afq 280 251] .bool [] (fun x {Ω} k => slices_ContainsFunc_int_int__frame_all_1_frame_place.s x.1 k) (fun x Ω k => Le.of (by kernel_rfl)) (by kernel_rfl) (by kernel_rfl)
def frame_all__frame_place.s (x0 : (List Int)) (k : Bool → Option Ω) : Option Ω :=
 (slices_ContainsFunc_int_int__frame_all_1_frame_place.u x0).bind fun y1 =>
 k (!y1)
def frame_all__frame_place.u (x0 : (List Int)) : Option (Bool) := frame_all__frame_place.s x0 some
noncomputable def frame_all__frame_place.n : En CDEKP := mkE CDEKP_ok (es := [slices_ContainsFunc_int_int__frame_all_1_frame_place.n]) (ms := []) (fuel := ⟨1, fun _ => []⟩) 252 Tryz.f252 [.ai (.slice (.int .i64)), .af0 251] .bool [] (fun x {Ω} k => frame_all__frame_place.s x.1 k) (fun x Ω k => Le.of (by kernel_rfl)) (by kernel_rfl) (by kernel_rfl)
def frame_Fine_1.s (x0 : Int) (k : Bool → Option Ω) : Option Ω :=
 k (x0 == 0)
def frame_Fine_1.t (x0 : Int) : Bool :=
 (x0 == 0)
theorem frame_Fine_1.v (x0 : Int) (k : Bool → Option Ω) : frame_Fine_1.s x0 k = k (frame_Fine_1.t x0) := by
 delta frame_Fine_1.s frame_Fine_1.t; exact rfl
noncomputable def frame_Fine_1.n : En CDEKP := mkT CDEKP_ok (es := []) (ms := []) (fuel := ⟨1, fun _ => []⟩) 253 Tryz.f253 [.ai (.int .i64)] .bool [] (fun x {Ω} k => frame_Fine_1.s x.1 k) (fun x => frame_Fine_1.t x.1) (fun x Ω k => by kernel_rfl) (fun x => frame_Fine_1.v x.1 some) (by kernel_rfl) (by kernel_rfl)
def frame_all_1__frame_Fine_1.s (x0 : Int) (k : Bool → Option Ω) : Option Ω :=
 k (!(frame_Fine_1.t x0))
def frame_all_1__frame_Fine_1.t (x0 : Int) : Bool :=
 (!(frame_Fine_1.t x0))
theorem frame_all_1__frame_Fine_1.v (x0 : Int) (k : Bool → Option Ω) : frame_all_1__frame_Fine_1.s x0 k = k (frame_all_1__frame_Fine_1.t x0) := by
 delta frame_all_1__frame_Fine_1.s frame_all_1__frame_Fine_1.t; exact rfl
noncomputable def frame_all_1__frame_Fine_1.n : En CDEKP := mkT CDEKP_ok (es := [frame_Fine_1.n]) (ms := []) (fuel := ⟨1, fun _ => []⟩) 280 Tryz.f280 [.ai (.int .i64), .aq 253] .bool [] (fun x {Ω} k => frame_all_1__frame_Fine_1.s x.1 k) (fun x => frame_all_1__frame_Fine_1.t x.1) (fun x Ω k => by kernel_rfl) (fun x => frame_all_1__frame_Fine_1.v x.1 some) (by kernel_rfl) (by kernel_rfl)
def slices_IndexFunc_int_int__frame_all_1_frame_Fine_1.F (fuel : Nat) : Fuel := ⟨fuel, fun r => bif r == 2 then mL 0 19 523900 else []⟩
noncomputable def slices_IndexFunc_int_int__frame_all_1_frame_Fine_1.V (fuel c : Nat) (env : List AV) (L : Heap) (k : Kont Ω) : Option Ω := evCode CDEKP (spE (C := CDEKP) [frame_all_1__frame_Fine_1.n] []) (slices_IndexFunc_int_int__frame_all_1_frame_Fine_1.F fuel) (pCo c Tryz.f265) env L k
def slices_IndexFunc_int_int__frame_all_1_frame_Fine_1.E0 (e2_1 : (List Int)) (e2_2 : Int) (s2 : Int) : List AV := ((.v (.slice (.int .i64)) (e2_1)) :: (.fn 280 [(.vp (.raw .func) (Value.func (.func 253) #[] #[]) [])]) :: dZ 5 ((.v (.int .i64) (e2_2)) :: (.v (.int .i64) (s2)) :: dZ 10 ([])))
def slices_IndexFunc_int_int__frame_all_1_frame_Fine_1.H0 (e2_1 : (List Int)) (e2_2 : Int) (s2 : Int) : Heap := []
noncomputable def slices_IndexFunc_int_int__frame_all_1_frame_Fine_1.M0 (fuel : Nat) (e2_1 : (List Int)) (e2_2 : Int)  (k : AV → Option Ω) (m : Nat) (s : Int) : Option Ω := loopK (slices_IndexFunc_int_int__frame_all_1_frame_Fine_1.V fuel 37) (mB 19 523900) [] 0 (blockK 0 (sqK (slices_IndexFunc_int_int__frame_all_1_frame_Fine_1.V fuel 7) (finK CDEKP Tryz.f265 k))) m ((slices_IndexFunc_int_int__frame_all_1_frame_Fine_1.E0 e2_1 e2_2) s) ((slices_IndexFunc_int_int__frame_all_1_frame_Fine_1.H0 e2_1 e2_2) s)
def slices_IndexFunc_int_int__frame_all_1_frame_Fine_1.b0 (e2_1 : (List Int)) (e2_2 : Int)   (k : Int → Option Ω) (r2 : Int → Option Ω) (s2 : Int) : Option Ω :=
 bif (decide (s2 < e2_2)) then
 bif (idxOK s2 (List.length e2_1)) then
 bif (frame_all_1__frame_Fine_1.t ((List.getD e2_1 (Int.toNat s2) 0))) then
 k s2
 else
 r2 ((IntKind.wrap .i64 (s2 + 1)))
 else
 none
 else
 k (-1)
theorem slices_IndexFunc_int_int__frame_all_1_frame_Fine_1.l0 (fuel : Nat) (e2_1 : (List Int)) (e2_2 : Int)  (k : AV → Option Ω) : ∀ m, (slices_IndexFunc_int_int__frame_all_1_frame_Fine_1.M0 fuel e2_1 e2_2  k m) = iter (slices_IndexFunc_int_int__frame_all_1_frame_Fine_1.b0 e2_1 e2_2  (fun r => k (tupAV (.int .i64) [] r))) m :=
 loopK_iter (envOf := (slices_IndexFunc_int_int__frame_all_1_frame_Fine_1.E0 e2_1 e2_2)) (LOf := (slices_IndexFunc_int_int__frame_all_1_frame_Fine_1.H0 e2_1 e2_2)) (B := slices_IndexFunc_int_int__frame_all_1_frame_Fine_1.b0 e2_1 e2_2  (fun r => k (tupAV (.int .i64) [] r))) (fun R s => by kernel_rfl)
def slices_IndexFunc_int_int__frame_all_1_frame_Fine_1.sl (x0 : (List Int)) (lp0 : (List Int) → Int → Int → Option Ω) (k : Int → Option Ω) : Option Ω :=
 lp0 x0 (((List.length x0 : Nat) : Int)) (0)
def slices_IndexFunc_int_int__frame_all_1_frame_Fine_1.g0 (e2_1 : (List Int))  (k : Int → Option Ω) : List Int → Int → Option Ω
 | [], i2 =>
 k (-1)
 | x2 :: xs2, i2 =>
 bif (frame_all_1__frame_Fine_1.t (x2)) then
 k i2
 else
 slices_IndexFunc_int_int__frame_all_1_frame_Fine_1.g0 e2_1  k xs2 (i2 + 1)
theorem slices_IndexFunc_int_int__frame_all_1_frame_Fine_1.h0 (e2_1 : (List Int))   (k : Int → Option Ω) (hX : ((List.length e2_1 : Nat) : Int) ≤ 9223372036854775807) : ∀ (m : Nat) (i : Int) (a : Unit), 0 ≤ i → i ≤ ((List.length e2_1 : Nat) : Int) → ((List.length e2_1 : Nat) : Int) < m + i → Le (slices_IndexFunc_int_int__frame_all_1_frame_Fine_1.g0 e2_1  k (List.drop (Int.toNat i) e2_1) i) (iter (slices_IndexFunc_int_int__frame_all_1_frame_Fine_1.b0 e2_1 (((List.length e2_1 : Nat) : Int))  k) m (i)) :=
 iter_list e2_1 0 (fun (i2 : Int) (a2 : Unit) => (i2)) (fun xs i2 a2 => slices_IndexFunc_int_int__frame_all_1_frame_Fine_1.g0 e2_1  k xs i2) (slices_IndexFunc_int_int__frame_all_1_frame_Fine_1.b0 e2_1 (((List.length e2_1 : Nat) : Int))  k)
 (fun i2 a2 r h0 => (Le.fls h0 (Le.refl _)))
 (fun i2 xs2 a2 r h0 h1 hw ih => (Le.tru h0 (Le.tru h1 (Le.cond (Le.refl _) (ih _ hw ())))))
 hX
def slices_IndexFunc_int_int__frame_all_1_frame_Fine_1.w (x0 : (List Int)) (k : Int → Option Ω) : Option Ω :=
 bif decide (((List.length x0 : Nat) : Int) ≤ 4611686018427387904) then slices_IndexFunc_int_int__frame_all_1_frame_Fine_1.g0 x0  k x0 0 else none
theorem slices_IndexFunc_int_int__frame_all_1_frame_Fine_1.ev (fuel : Nat) (x0 : (List Int)) (k : AV → Option Ω) : evFn CDEKP (spE (C := CDEKP) [frame_all_1__frame_Fine_1.n] []) (slices_IndexFunc_int_int__frame_all_1_frame_Fine_1.F fuel) Tryz.f265 (Tryz.f265.body.getD .skip) [(.v (.slice (.int .i64)) (x0)), (.fn 280 [(.vp (.raw .func) (Value.func (.func 253) #[] #[]) [])])] k = slices_IndexFunc_int_int__frame_all_1_frame_Fine_1.sl x0 (fun e2_1 e2_2 => (slices_IndexFunc_int_int__frame_all_1_frame_Fine_1.M0 fuel e2_1 e2_2  k fuel)) (fun r => k (tupAV (.int .i64) [] r)) := by kernel_rfl
theorem slices_IndexFunc_int_int__frame_all_1_frame_Fine_1.le (x0 : (List Int)) (k : AV → Option Ω) : Le (slices_IndexFunc_int_int__frame_all_1_frame_Fine_1.w x0 (fun r => k (tupAV (.int .i64) [] r))) (slices_IndexFunc_int_int__frame_all_1_frame_Fine_1.sl x0 (fun e2_1 e2_2 => (slices_IndexFunc_int_int__frame_all_1_frame_Fine_1.M0 BIG e2_1 e2_2  k BIG)) (fun r => k (tupAV (.int .i64) [] r))) := by
 have h1 := funext fun (e2_1 : (List Int)) => funext fun (e2_2 : Int) => slices_IndexFunc_int_int__frame_all_1_frame_Fine_1.l0 BIG e2_1 e2_2   k BIG
 rw [h1]
 delta slices_IndexFunc_int_int__frame_all_1_frame_Fine_1.w slices_IndexFunc_int_int__frame_all_1_frame_Fine_1.sl
 exact (Le.gd fun hg => slices_IndexFunc_int_int__frame_all_1_frame_Fine_1.h0 _   _ (le_up (of_decide_eq_true hg)) BIG 0 () (by decide) (zero_le_len _) (big_list (of_decide_eq_true hg)))
def slices_IndexFunc_int_int__frame_all_1_frame_Fine_1.u (x0 : (List Int)) : Option (Int) := slices_IndexFunc_int_int__frame_all_1_frame_Fine_1.w x0 some
noncomputable def slices_IndexFunc_int_int__frame_all_1_frame_Fine_1.n : En CDEKP := mkE CDEKP_ok (es := [frame_all_1__frame_Fine_1.n]) (ms := []) (fuel := (slices_IndexFunc_int_int__frame_all_1_frame_Fine_1.F BIG)) 265 Tryz.f265 [.ai (.slice (.int .i64)), .afq 280 253] (.int .i64) [] (fun x {Ω} k => slices_IndexFunc_int_int__frame_all_1_frame_Fine_1.w x.1 k) (fun x Ω k => leV (slices_IndexFunc_int_int__frame_all_1_frame_Fine_1.ev BIG x.1 k) (slices_IndexFunc_int_int__frame_all_1_frame_Fine_1.le x.1 k)) (by kernel_rfl) (by kernel_rfl)
def slices_ContainsFunc_int_int__frame_all_1_frame_Fine_1.s (x0 : (List Int)) (k : Bool → Option Ω) : Option Ω :=
 (slices_IndexFunc_int_int__frame_all_1_frame_Fine_1.u x0).bind fun y1 =>
 k (decide (y1 ≥ 0))
def slices_ContainsFunc_int_int__frame_all_1_frame_Fine_1.u (x0 : (List Int)) : Option (Bool) := slices_ContainsFunc_int_int__frame_all_1_frame_Fine_1.s x0 some
noncomputable def slices_ContainsFunc_int_int__frame_all_1_frame_Fine_1.n : En CDEKP := mkE CDEKP_ok (es := [slices_IndexFunc_int_int__frame_all_1_frame_Fine_1.n]) (ms := []) (fuel := ⟨1, fun _ => []⟩) 234 Tryz.f234 [.ai (.slice (.int .i64)), .afq 280 253] .bool [] (fun x {Ω} k => slices_ContainsFunc_int_int__frame_all_1_frame_Fine_1.s x.1 k) (fun x Ω k => Le.of (by kernel_rfl)) (by kernel_rfl) (by kernel_rfl)
def frame_all__frame_Fine_1.s (x0 : (List Int)) (k : Bool → Option Ω) : Option Ω :=
 (slices_ContainsFunc_int_int__frame_all_1_frame_Fine_1.u x0).bind fun y1 =>
 k (!y1)
def frame_all__frame_Fine_1.u (x0 : (List Int)) : Option (Bool) := frame_all__frame_Fine_1.s x0 some
noncomputable def frame_all__frame_Fine_1.n : En CDEKP := mkE CDEKP_ok (es := [slices_ContainsFunc_int_int__frame_all_1_frame_Fine_1.n]) (ms := []) (fuel := ⟨1, fun _ => []⟩) 252 Tryz.f252 [.ai (.slice (.int .i64)), .af0 253] .bool [] (fun x {Ω} k => frame_all__frame_Fine_1.s x.1 k) (fun x Ω k => Le.of (by kernel_rfl)) (by kernel_rfl) (by kernel_rfl)
def frame_Fine.s (x0 : T_s67) (k : Bool → Option Ω) : Option Ω :=
 bif (!(frame_place.t x0.1)) then
 k false
 else
 bif (decide (x0.2.2.2.2.1 < 0)) then
 k false
 else
 bif (decide (x0.2.2.2.2.1 > 8)) then
 k false
 else
 bif (subC none none 8) then
 (frame_all__word_Fine.u (((List.drop (subLo none) x0.2.2.1).take (subHi none 8 - subLo none)))).bind fun y1 =>
 bif (!y1) then
 k false
 else
 bif (subC none none 16) then
 (frame_all__word_Fine.u (((List.drop (subLo none) x0.2.2.2.1).take (subHi none 16 - subLo none)))).bind fun y2 =>
 bif (!y2) then
 k false
 else
 bif (subC none (some (x0.2.2.2.2.1)) 8) then
 (frame_all__frame_place.u (((List.drop (subLo none) x0.2.2.2.2.2.1).take (subHi (some (x0.2.2.2.2.1)) 8 - subLo none)))).bind fun y3 =>
 bif y3 then
 bif (subC (some (x0.2.2.2.2.1)) none 8) then
 (frame_all__frame_Fine_1.u (((List.drop (subLo (some (x0.2.2.2.2.1))) x0.2.2.2.2.2.1).take (subHi none 8 - subLo (some (x0.2.2.2.2.1)))))).bind fun y4 =>
 k y4
 else
 none
 else
 k false
 else
 none
 else
 none
 else
 none
def frame_Fine.u (x0 : T_s67) : Option (Bool) := frame_Fine.s x0 some
noncomputable def frame_Fine.n : En CDEKP := mkE CDEKP_ok (es := [frame_place.n, frame_all__frame_place.n, frame_all__frame_Fine_1.n, frame_all__word_Fine.n]) (ms := []) (fuel := ⟨1, fun _ => []⟩) 212 Tryz.f212 [.ai E_s67] .bool [] (fun x {Ω} k => frame_Fine.s x.1 k) (fun x Ω k => Le.of (by kernel_rfl)) (by kernel_rfl) (by kernel_rfl)
noncomputable def strings_Join.n : En CDEKP := En.of (g := 146) (e := fun {_} => strings_Join.e) (strings_Join.e_ok.mono le_C_CDEKP)
def frame_row.F (fuel : Nat) : Fuel := ⟨fuel, fun r => bif r == 3 then mL 0 30 1073713119 else []⟩
noncomputable def frame_row.V (fuel c : Nat) (env : List AV) (L : Heap) (k : Kont Ω) : Option Ω := evCode CDEKP (spE (C := CDEKP) [strings_Join.n, word_Text.n] []) (frame_row.F fuel) (pCo c Tryz.f213) env L k
def frame_row.E0 (e3_1 : (List Int)) (e3_2 : Int) (s3 : Int × (List ByteArray)) : List AV := (dZ 5 ((.rs 0) :: dZ 6 ((.v (.slice (.int .i64)) (e3_1)) :: (.v (.int .i64) (e3_2)) :: (.v (.int .i64) (s3.1)) :: dZ 15 ([]))))
def frame_row.H0 (e3_1 : (List Int)) (e3_2 : Int) (s3 : Int × (List ByteArray)) : Heap := [(.row 9 .str s3.2 false)]
noncomputable def frame_row.M0 (fuel : Nat) (e3_1 : (List Int)) (e3_2 : Int)  (k : AV → Option Ω) (m : Nat) (s : Int × (List ByteArray)) : Option Ω := loopK (frame_row.V fuel 75) (mB 30 1073713119) [] 1 (blockK 0 (sqK (frame_row.V fuel 15) (finK CDEKP Tryz.f213 k))) m ((frame_row.E0 e3_1 e3_2) s) ((frame_row.H0 e3_1 e3_2) s)
def frame_row.b0 (e3_1 : (List Int)) (e3_2 : Int)   (k : ByteArray → Option Ω) (r3 : Int × (List ByteArray) → Option Ω) (s3 : Int × (List ByteArray)) : Option Ω :=
 bif (decide (s3.1 < e3_2)) then
 bif (idxOK s3.1 (List.length e3_1)) then
 (word_Text.u ((List.getD e3_1 (Int.toNat s3.1) 0))).bind fun y1 =>
 bif (decide (List.length s3.2 + List.length [y1.1] ≤ rowMax)) then
 r3 ((IntKind.wrap .i64 (s3.1 + 1)), (s3.2 ++ [y1.1]))
 else
 none
 else
 none
 else
 (strings_Join.u s3.2 (bs [32])).bind fun y2 =>
 k y2
theorem frame_row.l0 (fuel : Nat) (e3_1 : (List Int)) (e3_2 : Int)  (k : AV → Option Ω) : ∀ m, (frame_row.M0 fuel e3_1 e3_2  k m) = iter (frame_row.b0 e3_1 e3_2  (fun r => k (tupAV .str [] r))) m :=
 loopK_iter (envOf := (frame_row.E0 e3_1 e3_2)) (LOf := (frame_row.H0 e3_1 e3_2)) (B := frame_row.b0 e3_1 e3_2  (fun r => k (tupAV .str [] r))) (fun R s => by kernel_rfl)
def frame_row.sl (x0 : ByteArray) (x1 : (List Int)) (lp0 : (List Int) → Int → Int × (List ByteArray) → Option Ω) (k : ByteArray → Option Ω) : Option Ω :=
 lp0 x1 (((List.length x1 : Nat) : Int)) (0, [x0])
def frame_row.g0 (e3_1 : (List Int))  (k : ByteArray → Option Ω) : List Int → (List ByteArray) → Option Ω
 | [], a3_1 =>
 (strings_Join.u a3_1 (bs [32])).bind fun y2 =>
 k y2
 | x3 :: xs3, a3_1 =>
 (word_Text.u (x3)).bind fun y1 =>
 bif (decide (List.length a3_1 + List.length [y1.1] ≤ rowMax)) then
 frame_row.g0 e3_1  k xs3 (a3_1 ++ [y1.1])
 else
 none
theorem frame_row.h0 (e3_1 : (List Int))   (k : ByteArray → Option Ω) (hX : ((List.length e3_1 : Nat) : Int) ≤ 9223372036854775807) : ∀ (m : Nat) (i : Int) (a : (List ByteArray)), 0 ≤ i → i ≤ ((List.length e3_1 : Nat) : Int) → ((List.length e3_1 : Nat) : Int) < m + i → Le (frame_row.g0 e3_1  k (List.drop (Int.toNat i) e3_1) a) (iter (frame_row.b0 e3_1 (((List.length e3_1 : Nat) : Int))  k) m (i, a)) :=
 iter_list e3_1 0 (fun (i3 : Int) (a3 : (List ByteArray)) => (i3, a3)) (fun xs i3 a3 => frame_row.g0 e3_1  k xs a3) (frame_row.b0 e3_1 (((List.length e3_1 : Nat) : Int))  k)
 (fun i3 a3 r h0 => (Le.fls h0 (Le.bnd fun y2 => (Le.refl _))))
 (fun i3 xs3 a3 r h0 h1 hw ih => (Le.tru h0 (Le.tru h1 (Le.bnd fun y1 => (Le.cond (ih _ hw ((a3 ++ [y1.1]))) Le.nil)))))
 hX
def frame_row.w (x0 : ByteArray) (x1 : (List Int)) (k : ByteArray → Option Ω) : Option Ω :=
 bif decide (((List.length x1 : Nat) : Int) ≤ 4611686018427387904) then frame_row.g0 x1  k x1 ([x0]) else none
theorem frame_row.ev (fuel : Nat) (x0 : ByteArray) (x1 : (List Int)) (k : AV → Option Ω) : evFn CDEKP (spE (C := CDEKP) [strings_Join.n, word_Text.n] []) (frame_row.F fuel) Tryz.f213 (Tryz.f213.body.getD .skip) [(.v .str (x0)), (.v (.slice (.int .i64)) (x1))] k = frame_row.sl x0 x1 (fun e3_1 e3_2 => (frame_row.M0 fuel e3_1 e3_2  k fuel)) (fun r => k (tupAV .str [] r)) := by kernel_rfl
theorem frame_row.le (x0 : ByteArray) (x1 : (List Int)) (k : AV → Option Ω) : Le (frame_row.w x0 x1 (fun r => k (tupAV .str [] r))) (frame_row.sl x0 x1 (fun e3_1 e3_2 => (frame_row.M0 BIG e3_1 e3_2  k BIG)) (fun r => k (tupAV .str [] r))) := by
 have h1 := funext fun (e3_1 : (List Int)) => funext fun (e3_2 : Int) => frame_row.l0 BIG e3_1 e3_2   k BIG
 rw [h1]
 delta frame_row.w frame_row.sl
 exact (Le.gd fun hg => frame_row.h0 _   _ (le_up (of_decide_eq_true hg)) BIG 0 ([x0]) (by decide) (zero_le_len _) (big_list (of_decide_eq_true hg)))
def frame_row.u (x0 : ByteArray) (x1 : (List Int)) : Option (ByteArray) := frame_row.w x0 x1 some
noncomputable def frame_row.n : En CDEKP := mkE CDEKP_ok (es := [strings_Join.n, word_Text.n]) (ms := []) (fuel := (frame_row.F BIG)) 213 Tryz.f213 [.ai .str, .ai (.slice (.int .i64))] .str [] (fun x {Ω} k => frame_row.w x.1 x.2.1 k) (fun x Ω k => leV (frame_row.ev BIG x.1 x.2.1 k) (frame_row.le x.1 x.2.1 k)) (by kernel_rfl) (by kernel_rfl)
def frame_Text.s (x0 : T_s67) (k : ByteArray → Option Ω) : Option Ω :=
 (frame_Fine.u x0).bind fun y1 =>
 bif (!y1) then
 k (bs [])
 else
 (frame_row.u (bs [112, 99]) ([x0.1])).bind fun y2 =>
 bif x0.2.1 then
 bif (decide (List.length [y2] + List.length [(bs [98, 97, 100])] ≤ rowMax)) then
 bif (subC none none 8) then
 (frame_row.u (bs [114]) (((List.drop (subLo none) x0.2.2.1).take (subHi none 8 - subLo none)))).bind fun y3 =>
 bif (subC none none 16) then
 (frame_row.u (bs [109]) (((List.drop (subLo none) x0.2.2.2.1).take (subHi none 16 - subLo none)))).bind fun y4 =>
 bif (subC none (some (x0.2.2.2.2.1)) 8) then
 (frame_row.u (bs [115]) (((List.drop (subLo none) x0.2.2.2.2.2.1).take (subHi (some (x0.2.2.2.2.1)) 8 - subLo none)))).bind fun y5 =>
 bif (decide (List.length ([y2] ++ [(bs [98, 97, 100])]) + List.length [y3, y4, y5] ≤ rowMax)) then
 (strings_Join.u ((([y2] ++ [(bs [98, 97, 100])]) ++ [y3, y4, y5])) (bs [32])).bind fun y6 =>
 k y6
 else
 none
 else
 none
 else
 none
 else
 none
 else
 none
 else
 bif (subC none none 8) then
 (frame_row.u (bs [114]) (((List.drop (subLo none) x0.2.2.1).take (subHi none 8 - subLo none)))).bind fun y7 =>
 bif (subC none none 16) then
 (frame_row.u (bs [109]) (((List.drop (subLo none) x0.2.2.2.1).take (subHi none 16 - subLo none)))).bind fun y8 =>
 bif (subC none (some (x0.2.2.2.2.1)) 8) then
 (frame_row.u (bs [115]) (((List.drop (subLo none) x0.2.2.2.2.2.1).take (subHi (some (x0.2.2.2.2.1)) 8 - subLo none)))).bind fun y9 =>
 bif (decide (List.length [y2] + List.length [y7, y8, y9] ≤ rowMax)) then
 (strings_Join.u ([y2] ++ [y7, y8, y9]) (bs [32])).bind fun y10 =>
 k y10
 else
 none
 else
 none
 else
 none
 else
 none
noncomputable def frame_Text.n : En CDEKP := mkE CDEKP_ok (es := [strings_Join.n, frame_Fine.n, frame_row.n]) (ms := []) (fuel := ⟨1, fun _ => []⟩) 151 Tryz.f151 [.ai E_s67] .str [] (fun x {Ω} k => frame_Text.s x.1 k) (fun x Ω k => Le.of (by kernel_rfl)) (by kernel_rfl) (by kernel_rfl)
def ref13_Place.s (x0 : Int) (k : Bool → Option Ω) : Option Ω :=
 bif (decide (x0 ≥ 0)) then
 k (decide (x0 ≤ 64))
 else
 k false
def ref13_Place.t (x0 : Int) : Bool :=
 bif (decide (x0 ≥ 0)) then
 (decide (x0 ≤ 64))
 else
 false
theorem ref13_Place.v (x0 : Int) (k : Bool → Option Ω) : ref13_Place.s x0 k = k (ref13_Place.t x0) := by
 delta ref13_Place.s ref13_Place.t; exact (cond_tot rfl rfl)
noncomputable def ref13_Place.n : En CDEKP := mkT CDEKP_ok (es := []) (ms := []) (fuel := ⟨1, fun _ => []⟩) 227 Tryz.f227 [.ai (.int .i64)] .bool [] (fun x {Ω} k => ref13_Place.s x.1 k) (fun x => ref13_Place.t x.1) (fun x Ω k => by kernel_rfl) (fun x => ref13_Place.v x.1 some) (by kernel_rfl) (by kernel_rfl)
def ref13_Fine.F (fuel : Nat) : Fuel := ⟨fuel, fun r => bif r == 9 then mL 0 66 73786976294838206445 else bif r == 4 then mL 0 66 73786976294838206453 else []⟩
noncomputable def ref13_Fine.V (fuel c : Nat) (env : List AV) (L : Heap) (k : Kont Ω) : Option Ω := evCode CDEKP (spE (C := CDEKP) [ref08_Fine.n, ref13_Place.n] []) (ref13_Fine.F fuel) (pCo c Tryz.f182) env L k
def ref13_Fine.E0 (e4_1 : T_s67) (s9 : Int) : List AV := (dZ 1 ((.ref 0 []) :: dZ 2 ((.v (.int .i64) (s9)) :: dZ 61 ([]))))
def ref13_Fine.H0 (e4_1 : T_s67) (s9 : Int) : Heap := [(.box E_s67 e4_1 false)]
noncomputable def ref13_Fine.M0 (fuel : Nat) (e4_1 : T_s67)  (k : AV → Option Ω) (m : Nat) (s : Int) : Option Ω := loopK (ref13_Fine.V fuel 151) (mB 66 73786976294838206445) [] 1 (blockK 2 (sqK (ref13_Fine.V fuel 31) (finK CDEKP Tryz.f182 k))) m ((ref13_Fine.E0 e4_1) s) ((ref13_Fine.H0 e4_1) s)
def ref13_Fine.E1 (e4_1 : T_s67) (s4 : Int) : List AV := (dZ 1 ((.ref 0 []) :: dZ 1 ((.v (.int .i64) (s4)) :: dZ 62 ([]))))
def ref13_Fine.H1 (e4_1 : T_s67) (s4 : Int) : Heap := [(.box E_s67 e4_1 false)]
noncomputable def ref13_Fine.M1 (fuel : Nat) (e4_1 : T_s67)  (k : AV → Option Ω) (m : Nat) (s : Int) : Option Ω := loopK (ref13_Fine.V fuel 75) (mB 66 73786976294838206453) [] 1 (blockK 0 (sqK (ref13_Fine.V fuel 15) (finK CDEKP Tryz.f182 k))) m ((ref13_Fine.E1 e4_1) s) ((ref13_Fine.H1 e4_1) s)
def ref13_Fine.b0 (e4_1 : T_s67)   (k : Bool → Option Ω) (r9 : Int → Option Ω) (s9 : Int) : Option Ω :=
 bif (decide (s9 < 16)) then
 bif (idxOK s9 16) then
 bif (!(ref08_Fine.t ((List.getD e4_1.2.2.2.1 (Int.toNat s9) 0)))) then
 k false
 else
 r9 ((IntKind.wrap .i64 (s9 + 1)))
 else
 none
 else
 k true
def ref13_Fine.b1 (e4_1 : T_s67)  (lp0 : T_s67 → Int → Option Ω) (k : Bool → Option Ω) (r4 : Int → Option Ω) (s4 : Int) : Option Ω :=
 bif (decide (s4 < 8)) then
 bif (idxOK s4 8) then
 bif (!(ref08_Fine.t ((List.getD e4_1.2.2.1 (Int.toNat s4) 0)))) then
 k false
 else
 bif (decide (s4 < e4_1.2.2.2.2.1)) then
 bif (idxOK s4 8) then
 bif (!(ref13_Place.t ((List.getD e4_1.2.2.2.2.2.1 (Int.toNat s4) 0)))) then
 k false
 else
 bif (decide (s4 ≥ e4_1.2.2.2.2.1)) then
 bif (idxOK s4 8) then
 bif ((List.getD e4_1.2.2.2.2.2.1 (Int.toNat s4) 0) != 0) then
 k false
 else
 r4 ((IntKind.wrap .i64 (s4 + 1)))
 else
 none
 else
 r4 ((IntKind.wrap .i64 (s4 + 1)))
 else
 none
 else
 bif (decide (s4 ≥ e4_1.2.2.2.2.1)) then
 bif (idxOK s4 8) then
 bif ((List.getD e4_1.2.2.2.2.2.1 (Int.toNat s4) 0) != 0) then
 k false
 else
 r4 ((IntKind.wrap .i64 (s4 + 1)))
 else
 none
 else
 r4 ((IntKind.wrap .i64 (s4 + 1)))
 else
 none
 else
 lp0 e4_1 (0)
def ref13_Fine.B1 (fuel : Nat) (e4_1 : T_s67)  (k : Bool → Option Ω) (r4 : Int → Option Ω) (s4 : Int) : Option Ω := ref13_Fine.b1 e4_1  (fun e4_1 => (iter (ref13_Fine.b0 e4_1  k) fuel)) k r4 s4
theorem ref13_Fine.l0 (fuel : Nat) (e4_1 : T_s67)  (k : AV → Option Ω) : ∀ m, (ref13_Fine.M0 fuel e4_1  k m) = iter (ref13_Fine.b0 e4_1  (fun r => k (tupAV .bool [] r))) m :=
 loopK_iter (envOf := (ref13_Fine.E0 e4_1)) (LOf := (ref13_Fine.H0 e4_1)) (B := ref13_Fine.b0 e4_1  (fun r => k (tupAV .bool [] r))) (fun R s => by kernel_rfl)
theorem ref13_Fine.l1 (fuel : Nat) (e4_1 : T_s67)  (k : AV → Option Ω) : ∀ m, (ref13_Fine.M1 fuel e4_1  k m) = iter (ref13_Fine.B1 fuel e4_1  (fun r => k (tupAV .bool [] r))) m :=
 loopK_iter (envOf := (ref13_Fine.E1 e4_1)) (LOf := (ref13_Fine.H1 e4_1)) (B := ref13_Fine.B1 fuel e4_1  (fun r => k (tupAV .bool [] r))) (fun R s => by
 have h0 : ref13_Fine.V fuel 75 ((ref13_Fine.E1 e4_1) s) ((ref13_Fine.H1 e4_1) s) (loopC R (mB 66 73786976294838206453) [] 1 (blockK 0 (sqK (ref13_Fine.V fuel 15) (finK CDEKP Tryz.f182 k)))) = ref13_Fine.b1 e4_1  (fun e4_1 => (ref13_Fine.M0 fuel e4_1  k fuel)) (fun r => k (tupAV .bool [] r)) (fun s => R ((ref13_Fine.E1 e4_1) s) ((ref13_Fine.H1 e4_1) s)) s := by kernel_rfl
 have h1 := funext fun (e4_1 : T_s67) => ref13_Fine.l0 fuel e4_1   k fuel
 rw [h1] at h0
 exact h0)
def ref13_Fine.sl (x0 : T_s67) (lp1 : T_s67 → Int → Option Ω) (k : Bool → Option Ω) : Option Ω :=
 bif (!(ref13_Place.t x0.1)) then
 k false
 else
 bif (decide (x0.2.2.2.2.1 < 0)) then
 k false
 else
 bif (decide (x0.2.2.2.2.1 > 8)) then
 k false
 else
 lp1 x0 (0)
def ref13_Fine.g0 (e4_1 : T_s67)  (k : Bool → Option Ω) : Nat → Int → Option Ω
 | 0, i9 =>
 k true
 | d9 + 1, i9 =>
 bif (idxOK i9 16) then
 bif (!(ref08_Fine.t ((List.getD e4_1.2.2.2.1 (Int.toNat i9) 0)))) then
 k false
 else
 ref13_Fine.g0 e4_1  k d9 (i9 + 1)
 else
 none
theorem ref13_Fine.h0 (e4_1 : T_s67)   (k : Bool → Option Ω) (hN : (16 : Int) ≤ 9223372036854775807) : ∀ (m : Nat) (i : Int) (a : Unit), -9223372036854775808 ≤ i → Int.toNat ((16 : Int) - i) < m → Le (ref13_Fine.g0 e4_1  k (Int.toNat ((16 : Int) - i)) i) (iter (ref13_Fine.b0 e4_1  k) m (i)) :=
 iter_count (16 : Int) (fun i9 => (decide (i9 < 16))) (fun i => rfl) (fun (i9 : Int) (a9 : Unit) => (i9)) (fun xs i9 a9 => ref13_Fine.g0 e4_1  k xs i9) (ref13_Fine.b0 e4_1  k)
 (fun i9 a9 r h0 => (Le.fls h0 (Le.refl _)))
 (fun i9 d9 a9 r h0 hw ih => (Le.tru h0 (Le.cond (Le.cond (Le.refl _) (ih _ hw ())) Le.nil)))
 hN
def ref13_Fine.g1 (e4_1 : T_s67)  (k : Bool → Option Ω) : Nat → Int → Option Ω
 | 0, i4 =>
 ref13_Fine.g0 e4_1  k ((Int.toNat ((16 : Int) - 0))) 0
 | d4 + 1, i4 =>
 bif (idxOK i4 8) then
 bif (!(ref08_Fine.t ((List.getD e4_1.2.2.1 (Int.toNat i4) 0)))) then
 k false
 else
 bif (decide (i4 < e4_1.2.2.2.2.1)) then
 bif (idxOK i4 8) then
 bif (!(ref13_Place.t ((List.getD e4_1.2.2.2.2.2.1 (Int.toNat i4) 0)))) then
 k false
 else
 bif (decide (i4 ≥ e4_1.2.2.2.2.1)) then
 bif (idxOK i4 8) then
 bif ((List.getD e4_1.2.2.2.2.2.1 (Int.toNat i4) 0) != 0) then
 k false
 else
 ref13_Fine.g1 e4_1  k d4 (i4 + 1)
 else
 none
 else
 ref13_Fine.g1 e4_1  k d4 (i4 + 1)
 else
 none
 else
 bif (decide (i4 ≥ e4_1.2.2.2.2.1)) then
 bif (idxOK i4 8) then
 bif ((List.getD e4_1.2.2.2.2.2.1 (Int.toNat i4) 0) != 0) then
 k false
 else
 ref13_Fine.g1 e4_1  k d4 (i4 + 1)
 else
 none
 else
 ref13_Fine.g1 e4_1  k d4 (i4 + 1)
 else
 none
theorem ref13_Fine.h1 (e4_1 : T_s67)   (k : Bool → Option Ω) (hN : (8 : Int) ≤ 9223372036854775807) : ∀ (m : Nat) (i : Int) (a : Unit), -9223372036854775808 ≤ i → Int.toNat ((8 : Int) - i) < m → Le (ref13_Fine.g1 e4_1  k (Int.toNat ((8 : Int) - i)) i) (iter (ref13_Fine.B1 BIG e4_1  k) m (i)) :=
 iter_count (8 : Int) (fun i4 => (decide (i4 < 8))) (fun i => rfl) (fun (i4 : Int) (a4 : Unit) => (i4)) (fun xs i4 a4 => ref13_Fine.g1 e4_1  k xs i4) (ref13_Fine.B1 BIG e4_1  k)
 (fun i4 a4 r h0 => (Le.fls h0 (ref13_Fine.h0 _   _ (by decide) BIG 0 () (by decide) (by decide))))
 (fun i4 d4 a4 r h0 hw ih => (Le.tru h0 (Le.cond (Le.cond (Le.refl _) (Le.cond (Le.cond (Le.cond (Le.refl _) (Le.cond (Le.cond (Le.cond (Le.refl _) (ih _ hw ())) Le.nil) (ih _ hw ()))) Le.nil) (Le.cond (Le.cond (Le.cond (Le.refl _) (ih _ hw ())) Le.nil) (ih _ hw ())))) Le.nil)))
 hN
def ref13_Fine.w (x0 : T_s67) (k : Bool → Option Ω) : Option Ω :=
 bif (!(ref13_Place.t x0.1)) then
 k false
 else
 bif (decide (x0.2.2.2.2.1 < 0)) then
 k false
 else
 bif (decide (x0.2.2.2.2.1 > 8)) then
 k false
 else
 ref13_Fine.g1 x0  k ((Int.toNat ((8 : Int) - 0))) 0
theorem ref13_Fine.ev (fuel : Nat) (x0 : T_s67) (k : AV → Option Ω) : evFn CDEKP (spE (C := CDEKP) [ref08_Fine.n, ref13_Place.n] []) (ref13_Fine.F fuel) Tryz.f182 (Tryz.f182.body.getD .skip) [(.v E_s67 (x0))] k = ref13_Fine.sl x0 (fun e4_1 => (ref13_Fine.M1 fuel e4_1  k fuel)) (fun r => k (tupAV .bool [] r)) := by kernel_rfl
theorem ref13_Fine.le (x0 : T_s67) (k : AV → Option Ω) : Le (ref13_Fine.w x0 (fun r => k (tupAV .bool [] r))) (ref13_Fine.sl x0 (fun e4_1 => (ref13_Fine.M1 BIG e4_1  k BIG)) (fun r => k (tupAV .bool [] r))) := by
 have h2 := funext fun (e4_1 : T_s67) => ref13_Fine.l1 BIG e4_1   k BIG
 rw [h2]
 delta ref13_Fine.w ref13_Fine.sl
 exact (Le.cond (Le.refl _) (Le.cond (Le.refl _) (Le.cond (Le.refl _) (ref13_Fine.h1 _   _ (by decide) BIG 0 () (by decide) (by decide)))))
def ref13_Fine.u (x0 : T_s67) : Option (Bool) := ref13_Fine.w x0 some
noncomputable def ref13_Fine.n : En CDEKP := mkE CDEKP_ok (es := [ref08_Fine.n, ref13_Place.n]) (ms := []) (fuel := (ref13_Fine.F BIG)) 182 Tryz.f182 [.ai E_s67] .bool [] (fun x {Ω} k => ref13_Fine.w x.1 k) (fun x Ω k => leV (ref13_Fine.ev BIG x.1 k) (ref13_Fine.le x.1 k)) (by kernel_rfl) (by kernel_rfl)
end
end Go.Proofs.YtlcomipbinfooaaGreatDoor.K

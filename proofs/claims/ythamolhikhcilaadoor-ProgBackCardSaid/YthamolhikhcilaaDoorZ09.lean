/- What functions of the program come to, plainly. -/
import Derived.Test.YthamolhikhcilaaDoorZ08
set_option maxRecDepth 100000
set_option linter.unusedVariables false
namespace Go.Proofs.YthamolhikhcilaaDoor.K
open Go Go.RowKit

/-- becket becketref09.Table -/
noncomputable def ref09_Table.sp : Spec := noS
def ref09_Table.s {Ω : Type}  (k : (List T_s81) → Option Ω) : Option Ω :=
  k [((bs [110, 111, 112]), ((bs [45, 45, 45]), (0, ()))), ((bs [104, 97, 108, 116]), ((bs [45, 45, 45]), (5, ()))), ((bs [109, 111, 118]), ((bs [114, 114, 45]), (0, ()))), ((bs [115, 101, 116]), ((bs [114, 105, 106]), (0, ()))), ((bs [97, 100, 100]), ((bs [114, 114, 114]), (0, ()))), ((bs [115, 117, 98]), ((bs [114, 114, 114]), (0, ()))), ((bs [109, 117, 108]), ((bs [114, 114, 114]), (0, ()))), ((bs [100, 105, 118]), ((bs [114, 114, 114]), (0, ()))), ((bs [114, 101, 109]), ((bs [114, 114, 114]), (0, ()))), ((bs [97, 110, 100]), ((bs [114, 114, 114]), (0, ()))), ((bs [111, 114]), ((bs [114, 114, 114]), (0, ()))), ((bs [120, 111, 114]), ((bs [114, 114, 114]), (0, ()))), ((bs [115, 104, 108]), ((bs [114, 114, 114]), (0, ()))), ((bs [115, 104, 114]), ((bs [114, 114, 114]), (0, ()))), ((bs [110, 111, 116]), ((bs [114, 114, 45]), (0, ()))), ((bs [110, 101, 103]), ((bs [114, 114, 45]), (0, ()))), ((bs [108, 116]), ((bs [114, 114, 114]), (0, ()))), ((bs [101, 113]), ((bs [114, 114, 114]), (0, ()))), ((bs [106, 109, 112]), ((bs [116, 45, 45]), (1, ()))), ((bs [106, 122]), ((bs [114, 116, 45]), (1, ()))), ((bs [106, 110, 122]), ((bs [114, 116, 45]), (1, ()))), ((bs [106, 98, 97, 100]), ((bs [116, 45, 45]), (1, ()))), ((bs [99, 97, 108, 108]), ((bs [116, 45, 45]), (1, ()))), ((bs [114, 101, 116]), ((bs [45, 45, 45]), (1, ()))), ((bs [108, 111, 97, 100]), ((bs [114, 114, 45]), (0, ()))), ((bs [115, 116, 111, 114, 101]), ((bs [114, 114, 45]), (0, ()))), ((bs [102, 97, 105, 108]), ((bs [115, 45, 45]), (5, ()))), ((bs [101, 109, 105, 116]), ((bs [114, 45, 45]), (4, ()))), ((bs [110, 111, 119]), ((bs [114, 45, 45]), (4, ()))), ((bs [109, 101]), ((bs [114, 45, 45]), (4, ()))), ((bs [115, 112, 97, 119, 110]), ((bs [114, 112, 114]), (4, ()))), ((bs [106, 111, 105, 110]), ((bs [114, 45, 45]), (2, ()))), ((bs [115, 108, 101, 101, 112]), ((bs [114, 45, 45]), (2, ()))), ((bs [115, 101, 110, 100]), ((bs [99, 114, 45]), (2, ()))), ((bs [114, 101, 99, 118]), ((bs [99, 114, 45]), (2, ()))), ((bs [112, 111, 105, 115, 111, 110]), ((bs [99, 114, 45]), (4, ()))), ((bs [101, 110, 114, 111, 108]), ((bs [98, 45, 45]), (4, ()))), ((bs [114, 101, 115, 105, 103, 110]), ((bs [98, 45, 45]), (4, ()))), ((bs [115, 121, 110, 99]), ((bs [98, 45, 45]), (2, ()))), ((bs [102, 97, 108, 108]), ((bs [107, 45, 45]), (2, ()))), ((bs [102, 108, 117, 115, 104]), ((bs [114, 107, 45]), (4, ()))), ((bs [97, 108, 116]), ((bs [114, 109, 110]), (2, ()))), ((bs [103, 105, 110]), ((bs [99, 114, 103]), (3, ()))), ((bs [103, 98, 97, 114]), ((bs [98, 45, 103]), (3, ()))), ((bs [103, 116, 105, 109, 101]), ((bs [114, 45, 103]), (3, ()))), ((bs [103, 115, 107, 105, 112]), ((bs [45, 45, 103]), (3, ()))), ((bs [112, 104, 97, 115, 101]), ((bs [114, 98, 45]), (4, ()))), ((bs [115, 105, 122, 101]), ((bs [114, 98, 45]), (4, ())))]
theorem ref09_Table.ev {Ω : Type} (fuel : Fuel)  (k : AV → Option Ω) : evFn C ref09_Table.sp fuel Tryd.f80 (Tryd.f80.body.getD .skip) [] k = ref09_Table.s  (fun r => k (tupAV (.slice E_s81) [] r)) := by kernel_rfl
def ref09_Table.t  : (List T_s81) :=
  [((bs [110, 111, 112]), ((bs [45, 45, 45]), (0, ()))), ((bs [104, 97, 108, 116]), ((bs [45, 45, 45]), (5, ()))), ((bs [109, 111, 118]), ((bs [114, 114, 45]), (0, ()))), ((bs [115, 101, 116]), ((bs [114, 105, 106]), (0, ()))), ((bs [97, 100, 100]), ((bs [114, 114, 114]), (0, ()))), ((bs [115, 117, 98]), ((bs [114, 114, 114]), (0, ()))), ((bs [109, 117, 108]), ((bs [114, 114, 114]), (0, ()))), ((bs [100, 105, 118]), ((bs [114, 114, 114]), (0, ()))), ((bs [114, 101, 109]), ((bs [114, 114, 114]), (0, ()))), ((bs [97, 110, 100]), ((bs [114, 114, 114]), (0, ()))), ((bs [111, 114]), ((bs [114, 114, 114]), (0, ()))), ((bs [120, 111, 114]), ((bs [114, 114, 114]), (0, ()))), ((bs [115, 104, 108]), ((bs [114, 114, 114]), (0, ()))), ((bs [115, 104, 114]), ((bs [114, 114, 114]), (0, ()))), ((bs [110, 111, 116]), ((bs [114, 114, 45]), (0, ()))), ((bs [110, 101, 103]), ((bs [114, 114, 45]), (0, ()))), ((bs [108, 116]), ((bs [114, 114, 114]), (0, ()))), ((bs [101, 113]), ((bs [114, 114, 114]), (0, ()))), ((bs [106, 109, 112]), ((bs [116, 45, 45]), (1, ()))), ((bs [106, 122]), ((bs [114, 116, 45]), (1, ()))), ((bs [106, 110, 122]), ((bs [114, 116, 45]), (1, ()))), ((bs [106, 98, 97, 100]), ((bs [116, 45, 45]), (1, ()))), ((bs [99, 97, 108, 108]), ((bs [116, 45, 45]), (1, ()))), ((bs [114, 101, 116]), ((bs [45, 45, 45]), (1, ()))), ((bs [108, 111, 97, 100]), ((bs [114, 114, 45]), (0, ()))), ((bs [115, 116, 111, 114, 101]), ((bs [114, 114, 45]), (0, ()))), ((bs [102, 97, 105, 108]), ((bs [115, 45, 45]), (5, ()))), ((bs [101, 109, 105, 116]), ((bs [114, 45, 45]), (4, ()))), ((bs [110, 111, 119]), ((bs [114, 45, 45]), (4, ()))), ((bs [109, 101]), ((bs [114, 45, 45]), (4, ()))), ((bs [115, 112, 97, 119, 110]), ((bs [114, 112, 114]), (4, ()))), ((bs [106, 111, 105, 110]), ((bs [114, 45, 45]), (2, ()))), ((bs [115, 108, 101, 101, 112]), ((bs [114, 45, 45]), (2, ()))), ((bs [115, 101, 110, 100]), ((bs [99, 114, 45]), (2, ()))), ((bs [114, 101, 99, 118]), ((bs [99, 114, 45]), (2, ()))), ((bs [112, 111, 105, 115, 111, 110]), ((bs [99, 114, 45]), (4, ()))), ((bs [101, 110, 114, 111, 108]), ((bs [98, 45, 45]), (4, ()))), ((bs [114, 101, 115, 105, 103, 110]), ((bs [98, 45, 45]), (4, ()))), ((bs [115, 121, 110, 99]), ((bs [98, 45, 45]), (2, ()))), ((bs [102, 97, 108, 108]), ((bs [107, 45, 45]), (2, ()))), ((bs [102, 108, 117, 115, 104]), ((bs [114, 107, 45]), (4, ()))), ((bs [97, 108, 116]), ((bs [114, 109, 110]), (2, ()))), ((bs [103, 105, 110]), ((bs [99, 114, 103]), (3, ()))), ((bs [103, 98, 97, 114]), ((bs [98, 45, 103]), (3, ()))), ((bs [103, 116, 105, 109, 101]), ((bs [114, 45, 103]), (3, ()))), ((bs [103, 115, 107, 105, 112]), ((bs [45, 45, 103]), (3, ()))), ((bs [112, 104, 97, 115, 101]), ((bs [114, 98, 45]), (4, ()))), ((bs [115, 105, 122, 101]), ((bs [114, 98, 45]), (4, ())))]
theorem ref09_Table.v {Ω : Type}  (k : (List T_s81) → Option Ω) : ref09_Table.s  k = k (ref09_Table.t ) := by
  delta ref09_Table.s ref09_Table.t; exact rfl
theorem ref09_Table.c  : Contract C 80 [] (tupAV (.slice E_s81) [] (ref09_Table.t )) :=
  contract_s (S := fun k => ref09_Table.s  k) C_ok noS_ok (by kernel_rfl) (by kernel_rfl) (by kernel_rfl) (ref09_Table.ev ⟨1, fun _ => []⟩  (dec (.slice E_s81) [])) (ref09_Table.v  some)
noncomputable def ref09_Table.e : Ent := endT (tupAV (.slice E_s81) [] (ref09_Table.t ))
theorem ref09_Table.e_ok : EntOK C 80 (fun {_} => ref09_Table.e) := entA_ok (endT_ok (ref09_Table.c ))

/-- becket becketref09.Of -/
noncomputable def ref09_Of.sp : Spec := (orS 80 (fun {_} => ref09_Table.e) noS)
def ref09_Of.s {Ω : Type} (x0 : Int) (k : T_s81 → Option Ω) : Option Ω :=
  bif (decide (x0 < 0)) then
    k ((bs []), ((bs []), ((-1), ())))
  else
    bif (decide (x0 ≥ ((List.length ref09_Table.t : Nat) : Int))) then
      k ((bs []), ((bs []), ((-1), ())))
    else
      bif (idxOK x0 (List.length ref09_Table.t)) then
        k (List.getD ref09_Table.t (Int.toNat x0) ((bs []), ((bs []), (0, ()))))
      else
        none
theorem ref09_Of.ev {Ω : Type} (fuel : Fuel) (x0 : Int) (k : AV → Option Ω) : evFn C ref09_Of.sp fuel Tryd.f44 (Tryd.f44.body.getD .skip) [(.v (.int .i64) (x0))] k = ref09_Of.s x0 (fun r => k (tupAV E_s81 [] r)) := by kernel_rfl
def ref09_Of.u (x0 : Int) : Option (T_s81) := ref09_Of.s x0 some
theorem ref09_Of.c (x0 : Int) (r : T_s81) (h : ref09_Of.u x0 = some r) : Contract C 44 [(.v (.int .i64) (x0))] (tupAV E_s81 [] r) :=
  contract_s (S := fun k => ref09_Of.s x0 k) C_ok (orS_ok ref09_Table.e_ok noS_ok) (by kernel_rfl) (by kernel_rfl) (by kernel_rfl) (ref09_Of.ev ⟨1, fun _ => []⟩ x0 (dec E_s81 [])) h
noncomputable def ref09_Of.e : Ent := argI (.int .i64) fun x0 => endU (ref09_Of.u x0) (tupAV E_s81 [])
theorem ref09_Of.e_ok : EntOK C 44 (fun {_} => ref09_Of.e) := entA_ok (argI_ok fun x0 => endU_ok fun r h => ref09_Of.c x0 r h)

/-- becket opcode.fine -/
noncomputable def opcode_fine.sp : Spec := noS
def opcode_fine.s {Ω : Type} (x0 : Int) (k : Bool → Option Ω) : Option Ω :=
  bif (decide (x0 ≥ 0)) then
    k (decide (x0 < 48))
  else
    k false
theorem opcode_fine.ev {Ω : Type} (fuel : Fuel) (x0 : Int) (k : AV → Option Ω) : evFn C opcode_fine.sp fuel Tryd.f81 (Tryd.f81.body.getD .skip) [(.v (.int .i64) (x0))] k = opcode_fine.s x0 (fun r => k (tupAV .bool [] r)) := by kernel_rfl
def opcode_fine.t (x0 : Int) : Bool :=
  bif (decide (x0 ≥ 0)) then
    (decide (x0 < 48))
  else
    false
theorem opcode_fine.v {Ω : Type} (x0 : Int) (k : Bool → Option Ω) : opcode_fine.s x0 k = k (opcode_fine.t x0) := by
  delta opcode_fine.s opcode_fine.t; exact (cond_tot rfl rfl)
theorem opcode_fine.c (x0 : Int) : Contract C 81 [(.v (.int .i64) (x0))] (tupAV .bool [] (opcode_fine.t x0)) :=
  contract_s (S := fun k => opcode_fine.s x0 k) C_ok noS_ok (by kernel_rfl) (by kernel_rfl) (by kernel_rfl) (opcode_fine.ev ⟨1, fun _ => []⟩ x0 (dec .bool [])) (opcode_fine.v x0 some)
noncomputable def opcode_fine.e : Ent := argI (.int .i64) fun x0 => endT (tupAV .bool [] (opcode_fine.t x0))
theorem opcode_fine.e_ok : EntOK C 81 (fun {_} => opcode_fine.e) := entA_ok (argI_ok fun x0 => endT_ok (opcode_fine.c x0))

/-- becket opcode.Form -/
noncomputable def opcode_Form.sp : Spec := (orS 81 (fun {_} => opcode_fine.e) noS)
def opcode_Form.s {Ω : Type} (x0 : Int) (k : ByteArray → Option Ω) : Option Ω :=
  bif (!(opcode_fine.t x0)) then
    k (bs [])
  else
    bif (idxOK x0 48) then
      k (List.getD kindsT (Int.toNat x0) ((bs []), ((bs []), (0, ())))).2.1
    else
      none
theorem opcode_Form.ev {Ω : Type} (fuel : Fuel) (x0 : Int) (k : AV → Option Ω) : evFn CK opcode_Form.sp fuel Tryd.f49 (Tryd.f49.body.getD .skip) [(.v (.int .i64) (x0))] k = opcode_Form.s x0 (fun r => k (tupAV .str [] r)) := by kernel_rfl
def opcode_Form.u (x0 : Int) : Option (ByteArray) := opcode_Form.s x0 some
theorem opcode_Form.c (x0 : Int) (r : ByteArray) (h : opcode_Form.u x0 = some r) : Contract CK 49 [(.v (.int .i64) (x0))] (tupAV .str [] r) :=
  contract_s (S := fun k => opcode_Form.s x0 k) CK_ok (orS_ok (opcode_fine.e_ok.mono le_C_CK) noS_ok) (by kernel_rfl) (by kernel_rfl) (by kernel_rfl) (opcode_Form.ev ⟨1, fun _ => []⟩ x0 (dec .str [])) h
noncomputable def opcode_Form.e : Ent := argI (.int .i64) fun x0 => endU (opcode_Form.u x0) (tupAV .str [])
theorem opcode_Form.e_ok : EntOK CK 49 (fun {_} => opcode_Form.e) := entA_ok (argI_ok fun x0 => endU_ok fun r h => opcode_Form.c x0 r h)

/-- becket opcode.Name -/
noncomputable def opcode_Name.sp : Spec := (orS 81 (fun {_} => opcode_fine.e) noS)
def opcode_Name.s {Ω : Type} (x0 : Int) (k : ByteArray → Option Ω) : Option Ω :=
  bif (!(opcode_fine.t x0)) then
    k (bs [])
  else
    bif (idxOK x0 48) then
      k (List.getD kindsT (Int.toNat x0) ((bs []), ((bs []), (0, ())))).1
    else
      none
theorem opcode_Name.ev {Ω : Type} (fuel : Fuel) (x0 : Int) (k : AV → Option Ω) : evFn CK opcode_Name.sp fuel Tryd.f52 (Tryd.f52.body.getD .skip) [(.v (.int .i64) (x0))] k = opcode_Name.s x0 (fun r => k (tupAV .str [] r)) := by kernel_rfl
def opcode_Name.u (x0 : Int) : Option (ByteArray) := opcode_Name.s x0 some
theorem opcode_Name.c (x0 : Int) (r : ByteArray) (h : opcode_Name.u x0 = some r) : Contract CK 52 [(.v (.int .i64) (x0))] (tupAV .str [] r) :=
  contract_s (S := fun k => opcode_Name.s x0 k) CK_ok (orS_ok (opcode_fine.e_ok.mono le_C_CK) noS_ok) (by kernel_rfl) (by kernel_rfl) (by kernel_rfl) (opcode_Name.ev ⟨1, fun _ => []⟩ x0 (dec .str [])) h
noncomputable def opcode_Name.e : Ent := argI (.int .i64) fun x0 => endU (opcode_Name.u x0) (tupAV .str [])
theorem opcode_Name.e_ok : EntOK CK 52 (fun {_} => opcode_Name.e) := entA_ok (argI_ok fun x0 => endU_ok fun r h => opcode_Name.c x0 r h)

/-- becket opcode.Find -/
noncomputable def opcode_Find.sp : Spec := noS
def opcode_Find.F (fuel : Nat) : Fuel := ⟨fuel, fun r => bif r == 2 then [1, 2, 3, 4, 5, 8, 9, 10, 11, 12, 13, 14, 15, 16] else []⟩
def opcode_Find.E0 (e2_1 : ByteArray) (e2_2 : (List T_s81)) (s2 : Int) : List AV := [(.v .str (e2_1)), .dead, .dead, .dead, .dead, .dead, (.v (.arr 48 E_s81) (e2_2)), (.v (.int .i64) (s2)), .dead, .dead, .dead, .dead, .dead, .dead, .dead, .dead, .dead]
def opcode_Find.H0 (e2_1 : ByteArray) (e2_2 : (List T_s81)) (s2 : Int) : Heap := []
noncomputable def opcode_Find.M0 {Ω : Type} (fuel : Nat) (e2_1 : ByteArray) (e2_2 : (List T_s81))  (k : AV → Option Ω) (m : Nat) (s : Int) : Option Ω := loopK (fun env L k => evCode CK opcode_Find.sp (opcode_Find.F fuel) (cl (cl (cr (cl (cr (Tryd.f61.body.getD .skip)))))) env L k) [false, true, true, true, true, true, false, false, true, true, true, true, true, true, true, true, true] 0 (blockK 0 (seqK (fun env L => evCode CK opcode_Find.sp (opcode_Find.F fuel) (cr (cr (Tryd.f61.body.getD .skip))) env L (finK CK Tryd.f61 k)) (finK CK Tryd.f61 k))) m ((opcode_Find.E0 e2_1 e2_2) s) ((opcode_Find.H0 e2_1 e2_2) s)
def opcode_Find.b0 {Ω : Type} (e2_1 : ByteArray) (e2_2 : (List T_s81))   (k : Int × Bool → Option Ω) (r2 : Int → Option Ω) (s2 : Int) : Option Ω :=
  bif (decide (s2 < 48)) then
    bif (idxOK s2 48) then
      let v1 : Bool := (((List.getD e2_2 (Int.toNat s2) ((bs []), ((bs []), (0, ())))).1).data.toList == (e2_1).data.toList)
      bif v1 then
        k (s2, true)
      else
        r2 ((IntKind.wrap .i64 (s2 + 1)))
    else
      none
  else
    k (0, false)
def opcode_Find.B0 {Ω : Type} (fuel : Nat) (e2_1 : ByteArray) (e2_2 : (List T_s81))  (k : Int × Bool → Option Ω) (r2 : Int → Option Ω) (s2 : Int) : Option Ω := opcode_Find.b0 e2_1 e2_2   k r2 s2
theorem opcode_Find.l0 {Ω : Type} (fuel : Nat) (e2_1 : ByteArray) (e2_2 : (List T_s81))  (k : AV → Option Ω) : ∀ m, (opcode_Find.M0 fuel e2_1 e2_2  k m) = iter (opcode_Find.B0 fuel e2_1 e2_2  (fun r => k (tupAV (.int .i64) [.bool] r))) m :=
  loopK_iter (envOf := (opcode_Find.E0 e2_1 e2_2)) (LOf := (opcode_Find.H0 e2_1 e2_2)) (B := opcode_Find.B0 fuel e2_1 e2_2  (fun r => k (tupAV (.int .i64) [.bool] r))) (fun R s => by kernel_rfl)
def opcode_Find.sl {Ω : Type} (x0 : ByteArray) (lp0 : ByteArray → (List T_s81) → Int → Option Ω) (k : Int × Bool → Option Ω) : Option Ω :=
  lp0 x0 kindsT (0)
def opcode_Find.s {Ω : Type} (fuel : Nat) (x0 : ByteArray) (k : Int × Bool → Option Ω) : Option Ω := opcode_Find.sl x0 (fun e2_1 e2_2 => (iter (opcode_Find.B0 fuel e2_1 e2_2  k) fuel)) k
theorem opcode_Find.ev {Ω : Type} (fuel : Nat) (x0 : ByteArray) (k : AV → Option Ω) : evFn CK opcode_Find.sp (opcode_Find.F fuel) Tryd.f61 (Tryd.f61.body.getD .skip) [(.v .str (x0))] k = opcode_Find.s fuel x0 (fun r => k (tupAV (.int .i64) [.bool] r)) := by
  have h0 : evFn CK opcode_Find.sp (opcode_Find.F fuel) Tryd.f61 (Tryd.f61.body.getD .skip) [(.v .str (x0))] k = opcode_Find.sl x0 (fun e2_1 e2_2 => (opcode_Find.M0 fuel e2_1 e2_2  k fuel)) (fun r => k (tupAV (.int .i64) [.bool] r)) := by kernel_rfl
  have h1 : (fun e2_1 e2_2 => (opcode_Find.M0 fuel e2_1 e2_2  k fuel)) = (fun e2_1 e2_2 => (iter (opcode_Find.B0 fuel e2_1 e2_2  (fun r => k (tupAV (.int .i64) [.bool] r))) fuel)) := funext fun e2_1 => funext fun e2_2 => opcode_Find.l0 fuel e2_1 e2_2   k fuel
  rw [h1] at h0
  exact h0
def opcode_Find.g0 {Ω : Type} (e2_1 : ByteArray) (e2_2 : (List T_s81))  (k : Int × Bool → Option Ω) : Nat → Int → Option Ω
  | 0, i2 =>
    k (0, false)
  | d2 + 1, i2 =>
    bif (idxOK i2 48) then
      let v1 : Bool := (((List.getD e2_2 (Int.toNat i2) ((bs []), ((bs []), (0, ())))).1).data.toList == (e2_1).data.toList)
      bif v1 then
        k (i2, true)
      else
        opcode_Find.g0 e2_1 e2_2  k d2 (i2 + 1)
    else
      none
theorem opcode_Find.h0 {Ω : Type} (e2_1 : ByteArray) (e2_2 : (List T_s81))   (k : Int × Bool → Option Ω) (hN : (48 : Int) ≤ 9223372036854775807) : ∀ (m : Nat) (i : Int) (a : Unit), -9223372036854775808 ≤ i → Int.toNat ((48 : Int) - i) < m → Le (opcode_Find.g0 e2_1 e2_2  k (Int.toNat ((48 : Int) - i)) i) (iter (opcode_Find.B0 BIG e2_1 e2_2  k) m (i)) :=
  iter_count (48 : Int) (fun i2 => (decide (i2 < 48))) (fun i => rfl) (fun (i2 : Int) (a2 : Unit) => (i2)) (fun xs i2 a2 => opcode_Find.g0 e2_1 e2_2  k xs i2) (opcode_Find.B0 BIG e2_1 e2_2  k)
    (fun i2 a2 r h0 => (Le.fls h0 (Le.refl _)))
    (fun i2 d2 a2 r h0 hw ih => (Le.tru h0 (Le.cond (let v1 : Bool := (((List.getD e2_2 (Int.toNat i2) ((bs []), ((bs []), (0, ())))).1).data.toList == (e2_1).data.toList); (Le.cond (Le.refl _) (ih _ hw ()))) Le.nil)))
    hN
def opcode_Find.w {Ω : Type} (x0 : ByteArray) (k : Int × Bool → Option Ω) : Option Ω :=
  opcode_Find.g0 x0 kindsT  k ((Int.toNat ((48 : Int) - 0))) 0
theorem opcode_Find.le {Ω : Type} (x0 : ByteArray) (k : Int × Bool → Option Ω) : Le (opcode_Find.w x0 k) (opcode_Find.s BIG x0 k) := by
  delta opcode_Find.w opcode_Find.s opcode_Find.sl
  exact (opcode_Find.h0 _ _   k (by decide) BIG 0 () (by decide) (by decide))
def opcode_Find.u (x0 : ByteArray) : Option (Int × Bool) := opcode_Find.w x0 some
theorem opcode_Find.c (x0 : ByteArray) (r : Int × Bool) (h : opcode_Find.u x0 = some r) : Contract CK 61 [(.v .str (x0))] (tupAV (.int .i64) [.bool] r) :=
  contract_s (S := fun k => opcode_Find.s BIG x0 k) CK_ok noS_ok (by kernel_rfl) (by kernel_rfl) (by kernel_rfl) (opcode_Find.ev BIG x0 (dec (.int .i64) [.bool])) (opcode_Find.le x0 some r h)
noncomputable def opcode_Find.e : Ent := argI .str fun x0 => endU (opcode_Find.u x0) (tupAV (.int .i64) [.bool])
theorem opcode_Find.e_ok : EntOK CK 61 (fun {_} => opcode_Find.e) := entA_ok (argI_ok fun x0 => endU_ok fun r h => opcode_Find.c x0 r h)

/-- becket becketref09.Find -/
noncomputable def ref09_Find.sp : Spec := (orS 80 (fun {_} => ref09_Table.e) noS)
def ref09_Find.F (fuel : Nat) : Fuel := ⟨fuel, fun r => bif r == 3 then [1, 2, 3, 6, 7, 8, 9, 10, 11, 12, 13, 14, 15, 16, 17, 18, 19, 20] else []⟩
def ref09_Find.E0 (e3_1 : ByteArray) (e3_2 : (List T_s81)) (s3 : Int) : List AV := [(.v .str (e3_1)), .dead, .dead, .dead, (.v (.slice E_s81) (e3_2)), (.v (.int .i64) (s3)), .dead, .dead, .dead, .dead, .dead, .dead, .dead, .dead, .dead, .dead, .dead, .dead, .dead, .dead, .dead]
def ref09_Find.H0 (e3_1 : ByteArray) (e3_2 : (List T_s81)) (s3 : Int) : Heap := []
noncomputable def ref09_Find.M0 {Ω : Type} (fuel : Nat) (e3_1 : ByteArray) (e3_2 : (List T_s81))  (k : AV → Option Ω) (m : Nat) (s : Int) : Option Ω := loopK (fun env L k => evCode C ref09_Find.sp (ref09_Find.F fuel) (cl (cl (cr (cl (cr (cr (Tryd.f65.body.getD .skip))))))) env L k) [false, true, true, true, false, false, true, true, true, true, true, true, true, true, true, true, true, true, true, true, true] 0 (blockK 0 (seqK (fun env L => evCode C ref09_Find.sp (ref09_Find.F fuel) (cr (cr (cr (Tryd.f65.body.getD .skip)))) env L (finK C Tryd.f65 k)) (finK C Tryd.f65 k))) m ((ref09_Find.E0 e3_1 e3_2) s) ((ref09_Find.H0 e3_1 e3_2) s)
def ref09_Find.b0 {Ω : Type} (e3_1 : ByteArray) (e3_2 : (List T_s81))   (k : Int × Bool → Option Ω) (r3 : Int → Option Ω) (s3 : Int) : Option Ω :=
  bif (decide (s3 < ((List.length e3_2 : Nat) : Int))) then
    bif (idxOK s3 (List.length e3_2)) then
      let v1 : Bool := (((List.getD e3_2 (Int.toNat s3) ((bs []), ((bs []), (0, ())))).1).data.toList == (e3_1).data.toList)
      bif v1 then
        k (s3, true)
      else
        r3 ((IntKind.wrap .i64 (s3 + 1)))
    else
      none
  else
    k (0, false)
def ref09_Find.B0 {Ω : Type} (fuel : Nat) (e3_1 : ByteArray) (e3_2 : (List T_s81))  (k : Int × Bool → Option Ω) (r3 : Int → Option Ω) (s3 : Int) : Option Ω := ref09_Find.b0 e3_1 e3_2   k r3 s3
theorem ref09_Find.l0 {Ω : Type} (fuel : Nat) (e3_1 : ByteArray) (e3_2 : (List T_s81))  (k : AV → Option Ω) : ∀ m, (ref09_Find.M0 fuel e3_1 e3_2  k m) = iter (ref09_Find.B0 fuel e3_1 e3_2  (fun r => k (tupAV (.int .i64) [.bool] r))) m :=
  loopK_iter (envOf := (ref09_Find.E0 e3_1 e3_2)) (LOf := (ref09_Find.H0 e3_1 e3_2)) (B := ref09_Find.B0 fuel e3_1 e3_2  (fun r => k (tupAV (.int .i64) [.bool] r))) (fun R s => by kernel_rfl)
def ref09_Find.sl {Ω : Type} (x0 : ByteArray) (lp0 : ByteArray → (List T_s81) → Int → Option Ω) (k : Int × Bool → Option Ω) : Option Ω :=
  lp0 x0 ref09_Table.t (0)
def ref09_Find.s {Ω : Type} (fuel : Nat) (x0 : ByteArray) (k : Int × Bool → Option Ω) : Option Ω := ref09_Find.sl x0 (fun e3_1 e3_2 => (iter (ref09_Find.B0 fuel e3_1 e3_2  k) fuel)) k
theorem ref09_Find.ev {Ω : Type} (fuel : Nat) (x0 : ByteArray) (k : AV → Option Ω) : evFn C ref09_Find.sp (ref09_Find.F fuel) Tryd.f65 (Tryd.f65.body.getD .skip) [(.v .str (x0))] k = ref09_Find.s fuel x0 (fun r => k (tupAV (.int .i64) [.bool] r)) := by
  have h0 : evFn C ref09_Find.sp (ref09_Find.F fuel) Tryd.f65 (Tryd.f65.body.getD .skip) [(.v .str (x0))] k = ref09_Find.sl x0 (fun e3_1 e3_2 => (ref09_Find.M0 fuel e3_1 e3_2  k fuel)) (fun r => k (tupAV (.int .i64) [.bool] r)) := by kernel_rfl
  have h1 : (fun e3_1 e3_2 => (ref09_Find.M0 fuel e3_1 e3_2  k fuel)) = (fun e3_1 e3_2 => (iter (ref09_Find.B0 fuel e3_1 e3_2  (fun r => k (tupAV (.int .i64) [.bool] r))) fuel)) := funext fun e3_1 => funext fun e3_2 => ref09_Find.l0 fuel e3_1 e3_2   k fuel
  rw [h1] at h0
  exact h0
def ref09_Find.g0 {Ω : Type} (e3_1 : ByteArray) (e3_2 : (List T_s81))  (k : Int × Bool → Option Ω) : List T_s81 → Int → Option Ω
  | [], i3 =>
    k (0, false)
  | x3 :: xs3, i3 =>
    let v1 : Bool := ((x3.1).data.toList == (e3_1).data.toList)
    bif v1 then
      k (i3, true)
    else
      ref09_Find.g0 e3_1 e3_2  k xs3 (i3 + 1)
theorem ref09_Find.h0 {Ω : Type} (e3_1 : ByteArray) (e3_2 : (List T_s81))   (k : Int × Bool → Option Ω) (hX : ((List.length e3_2 : Nat) : Int) ≤ 9223372036854775807) : ∀ (m : Nat) (i : Int) (a : Unit), 0 ≤ i → i ≤ ((List.length e3_2 : Nat) : Int) → ((List.length e3_2 : Nat) : Int) < m + i → Le (ref09_Find.g0 e3_1 e3_2  k (List.drop (Int.toNat i) e3_2) i) (iter (ref09_Find.B0 BIG e3_1 e3_2  k) m (i)) :=
  iter_list e3_2 ((bs []), ((bs []), (0, ()))) (fun (i3 : Int) (a3 : Unit) => (i3)) (fun xs i3 a3 => ref09_Find.g0 e3_1 e3_2  k xs i3) (ref09_Find.B0 BIG e3_1 e3_2  k)
    (fun i3 a3 r h0 => (Le.fls h0 (Le.refl _)))
    (fun i3 xs3 a3 r h0 h1 hw ih => (Le.tru h0 (Le.tru h1 (let v1 : Bool := (((List.getD e3_2 (Int.toNat i3) ((bs []), ((bs []), (0, ())))).1).data.toList == (e3_1).data.toList); (Le.cond (Le.refl _) (ih _ hw ()))))))
    hX
def ref09_Find.w {Ω : Type} (x0 : ByteArray) (k : Int × Bool → Option Ω) : Option Ω :=
  bif decide (((List.length ref09_Table.t : Nat) : Int) ≤ 4611686018427387904) then ref09_Find.g0 x0 ref09_Table.t  k ref09_Table.t 0 else none
theorem ref09_Find.le {Ω : Type} (x0 : ByteArray) (k : Int × Bool → Option Ω) : Le (ref09_Find.w x0 k) (ref09_Find.s BIG x0 k) := by
  delta ref09_Find.w ref09_Find.s ref09_Find.sl
  exact (Le.gd fun hg => ref09_Find.h0 _ _   k (le_up (of_decide_eq_true hg)) BIG 0 () (by decide) (zero_le_len _) (big_list (of_decide_eq_true hg)))
def ref09_Find.u (x0 : ByteArray) : Option (Int × Bool) := ref09_Find.w x0 some
theorem ref09_Find.c (x0 : ByteArray) (r : Int × Bool) (h : ref09_Find.u x0 = some r) : Contract C 65 [(.v .str (x0))] (tupAV (.int .i64) [.bool] r) :=
  contract_s (S := fun k => ref09_Find.s BIG x0 k) C_ok (orS_ok ref09_Table.e_ok noS_ok) (by kernel_rfl) (by kernel_rfl) (by kernel_rfl) (ref09_Find.ev BIG x0 (dec (.int .i64) [.bool])) (ref09_Find.le x0 some r h)
noncomputable def ref09_Find.e : Ent := argI .str fun x0 => endU (ref09_Find.u x0) (tupAV (.int .i64) [.bool])
theorem ref09_Find.e_ok : EntOK C 65 (fun {_} => ref09_Find.e) := entA_ok (argI_ok fun x0 => endU_ok fun r h => ref09_Find.c x0 r h)

/-- becket opcode.Class -/
noncomputable def opcode_Class.sp : Spec := (orS 81 (fun {_} => opcode_fine.e) noS)
def opcode_Class.s {Ω : Type} (x0 : Int) (k : Int → Option Ω) : Option Ω :=
  bif (!(opcode_fine.t x0)) then
    k (-1)
  else
    bif (idxOK x0 48) then
      k (List.getD kindsT (Int.toNat x0) ((bs []), ((bs []), (0, ())))).2.2.1
    else
      none
theorem opcode_Class.ev {Ω : Type} (fuel : Fuel) (x0 : Int) (k : AV → Option Ω) : evFn CK opcode_Class.sp fuel Tryd.f77 (Tryd.f77.body.getD .skip) [(.v (.int .i64) (x0))] k = opcode_Class.s x0 (fun r => k (tupAV (.int .i64) [] r)) := by kernel_rfl
def opcode_Class.u (x0 : Int) : Option (Int) := opcode_Class.s x0 some
theorem opcode_Class.c (x0 : Int) (r : Int) (h : opcode_Class.u x0 = some r) : Contract CK 77 [(.v (.int .i64) (x0))] (tupAV (.int .i64) [] r) :=
  contract_s (S := fun k => opcode_Class.s x0 k) CK_ok (orS_ok (opcode_fine.e_ok.mono le_C_CK) noS_ok) (by kernel_rfl) (by kernel_rfl) (by kernel_rfl) (opcode_Class.ev ⟨1, fun _ => []⟩ x0 (dec (.int .i64) [])) h
noncomputable def opcode_Class.e : Ent := argI (.int .i64) fun x0 => endU (opcode_Class.u x0) (tupAV (.int .i64) [])
theorem opcode_Class.e_ok : EntOK CK 77 (fun {_} => opcode_Class.e) := entA_ok (argI_ok fun x0 => endU_ok fun r h => opcode_Class.c x0 r h)

end Go.Proofs.YthamolhikhcilaaDoor.K

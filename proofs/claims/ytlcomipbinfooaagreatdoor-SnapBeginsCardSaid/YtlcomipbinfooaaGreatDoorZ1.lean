/- What functions of the program come to, and their laws. -/
import Derived.Test.YtlcomipbinfooaaGreatDoorS
namespace Go.Proofs.YtlcomipbinfooaaGreatDoor.K
open Go Go.RowKit
section
set_option linter.unusedVariables false
set_option linter.unusedSimpArgs false
set_option maxRecDepth 100000
variable {Ω : Type}
def handle_within.s (x0 : Int) (x1 : Int) (x2 : Int) (k : Bool → Option Ω) : Option Ω :=
 bif (decide (x0 ≥ x1)) then
 k (decide (x0 ≤ x2))
 else
 k false
def handle_within.t (x0 : Int) (x1 : Int) (x2 : Int) : Bool :=
 bif (decide (x0 ≥ x1)) then
 (decide (x0 ≤ x2))
 else
 false
theorem handle_within.v (x0 : Int) (x1 : Int) (x2 : Int) (k : Bool → Option Ω) : handle_within.s x0 x1 x2 k = k (handle_within.t x0 x1 x2) := by
 delta handle_within.s handle_within.t; exact (cond_tot rfl rfl)
noncomputable def handle_within.n : En CDEKP := mkT CDEKP_ok (es := []) (ms := []) (fuel := ⟨1, fun _ => []⟩) 175 Tryz.f175 [.ai (.int .i64), .ai (.int .i64), .ai (.int .i64)] .bool [] (fun x {Ω} k => handle_within.s x.1 x.2.1 x.2.2.1 k) (fun x => handle_within.t x.1 x.2.1 x.2.2.1) (fun x Ω k => by kernel_rfl) (fun x => handle_within.v x.1 x.2.1 x.2.2.1 some) (by kernel_rfl) (by kernel_rfl)
def handle_Make.s (x0 : Int) (x1 : Int) (k : Int × Int → Option Ω) : Option Ω :=
 bif (!(handle_within.t x0 0 4095)) then
 k (0, 8)
 else
 bif (!(handle_within.t x1 1 65535)) then
 k (0, 8)
 else
 k ((IntKind.wrap .i64 ((IntKind.wrap .i64 (x1 * 4096)) + x0)), 0)
def handle_Make.t (x0 : Int) (x1 : Int) : Int × Int :=
 bif (!(handle_within.t x0 0 4095)) then
 (0, 8)
 else
 bif (!(handle_within.t x1 1 65535)) then
 (0, 8)
 else
 ((IntKind.wrap .i64 ((IntKind.wrap .i64 (x1 * 4096)) + x0)), 0)
theorem handle_Make.v (x0 : Int) (x1 : Int) (k : Int × Int → Option Ω) : handle_Make.s x0 x1 k = k (handle_Make.t x0 x1) := by
 delta handle_Make.s handle_Make.t; exact (cond_tot rfl (cond_tot rfl rfl))
noncomputable def handle_Make.n : En CDEKP := mkT CDEKP_ok (es := [handle_within.n]) (ms := []) (fuel := ⟨1, fun _ => []⟩) 98 Tryz.f98 [.ai (.int .i64), .ai (.int .i64)] (.int .i64) [(.int .i64)] (fun x {Ω} k => handle_Make.s x.1 x.2.1 k) (fun x => handle_Make.t x.1 x.2.1) (fun x Ω k => by kernel_rfl) (fun x => handle_Make.v x.1 x.2.1 some) (by kernel_rfl) (by kernel_rfl)
def ref01_Make.s (x0 : Int) (x1 : Int) (k : Int × Int → Option Ω) : Option Ω :=
 bif (decide (x0 < 0)) then
 k (0, 8)
 else
 bif (decide (x0 > 4095)) then
 k (0, 8)
 else
 bif (decide (x1 < 1)) then
 k (0, 8)
 else
 bif (decide (x1 > 65535)) then
 k (0, 8)
 else
 k ((IntKind.wrap .i64 ((IntKind.wrap .i64 (4096 * x1)) + x0)), 0)
def ref01_Make.t (x0 : Int) (x1 : Int) : Int × Int :=
 bif (decide (x0 < 0)) then
 (0, 8)
 else
 bif (decide (x0 > 4095)) then
 (0, 8)
 else
 bif (decide (x1 < 1)) then
 (0, 8)
 else
 bif (decide (x1 > 65535)) then
 (0, 8)
 else
 ((IntKind.wrap .i64 ((IntKind.wrap .i64 (4096 * x1)) + x0)), 0)
theorem ref01_Make.v (x0 : Int) (x1 : Int) (k : Int × Int → Option Ω) : ref01_Make.s x0 x1 k = k (ref01_Make.t x0 x1) := by
 delta ref01_Make.s ref01_Make.t; exact (cond_tot rfl (cond_tot rfl (cond_tot rfl (cond_tot rfl rfl))))
noncomputable def ref01_Make.n : En CDEKP := mkT CDEKP_ok (es := []) (ms := []) (fuel := ⟨1, fun _ => []⟩) 113 Tryz.f113 [.ai (.int .i64), .ai (.int .i64)] (.int .i64) [(.int .i64)] (fun x {Ω} k => ref01_Make.s x.1 x.2.1 k) (fun x => ref01_Make.t x.1 x.2.1) (fun x Ω k => by kernel_rfl) (fun x => ref01_Make.v x.1 x.2.1 some) (by kernel_rfl) (by kernel_rfl)
def ref02_Same.F (fuel : Nat) : Fuel := ⟨fuel, fun r => bif r == 4 then mL 0 26 67108828 else []⟩
noncomputable def ref02_Same.V (fuel c : Nat) (env : List AV) (L : Heap) (k : Kont Ω) : Option Ω := evCode CDEKP (spE (C := CDEKP) [] []) (ref02_Same.F fuel) (pCo c Tryz.f39) env L k
def ref02_Same.E0 (e4_1 : (List Int)) (e4_2 : (List Int)) (s4 : Int) : List AV := ((.v (.slice (.int .i64)) (e4_1)) :: (.v (.slice (.int .i64)) (e4_2)) :: dZ 3 ((.v (.int .i64) (s4)) :: dZ 20 ([])))
def ref02_Same.H0 (e4_1 : (List Int)) (e4_2 : (List Int)) (s4 : Int) : Heap := []
noncomputable def ref02_Same.M0 (fuel : Nat) (e4_1 : (List Int)) (e4_2 : (List Int))  (k : AV → Option Ω) (m : Nat) (s : Int) : Option Ω := loopK (ref02_Same.V fuel 75) (mB 26 67108828) [] 0 (blockK 0 (sqK (ref02_Same.V fuel 15) (finK CDEKP Tryz.f39 k))) m ((ref02_Same.E0 e4_1 e4_2) s) ((ref02_Same.H0 e4_1 e4_2) s)
def ref02_Same.b0 (e4_1 : (List Int)) (e4_2 : (List Int))   (k : Bool → Option Ω) (r4 : Int → Option Ω) (s4 : Int) : Option Ω :=
 bif (decide (s4 < ((List.length e4_1 : Nat) : Int))) then
 bif (idxOK s4 (List.length e4_1)) then
 bif (idxOK s4 (List.length e4_2)) then
 bif ((List.getD e4_1 (Int.toNat s4) 0) != (List.getD e4_2 (Int.toNat s4) 0)) then
 k false
 else
 r4 ((IntKind.wrap .i64 (s4 + 1)))
 else
 none
 else
 none
 else
 k true
theorem ref02_Same.l0 (fuel : Nat) (e4_1 : (List Int)) (e4_2 : (List Int))  (k : AV → Option Ω) : ∀ m, (ref02_Same.M0 fuel e4_1 e4_2  k m) = iter (ref02_Same.b0 e4_1 e4_2  (fun r => k (tupAV .bool [] r))) m :=
 loopK_iter (envOf := (ref02_Same.E0 e4_1 e4_2)) (LOf := (ref02_Same.H0 e4_1 e4_2)) (B := ref02_Same.b0 e4_1 e4_2  (fun r => k (tupAV .bool [] r))) (fun R s => by kernel_rfl)
def ref02_Same.sl (x0 : (List Int)) (x1 : (List Int)) (lp0 : (List Int) → (List Int) → Int → Option Ω) (k : Bool → Option Ω) : Option Ω :=
 bif (((List.length x0 : Nat) : Int) != ((List.length x1 : Nat) : Int)) then
 k false
 else
 lp0 x0 x1 (0)
def ref02_Same.g0 (e4_1 : (List Int)) (e4_2 : (List Int))  (k : Bool → Option Ω) : List Int → Int → Option Ω
 | [], i4 =>
 k true
 | x4 :: xs4, i4 =>
 bif (idxOK i4 (List.length e4_2)) then
 bif (x4 != (List.getD e4_2 (Int.toNat i4) 0)) then
 k false
 else
 ref02_Same.g0 e4_1 e4_2  k xs4 (i4 + 1)
 else
 none
theorem ref02_Same.h0 (e4_1 : (List Int)) (e4_2 : (List Int))   (k : Bool → Option Ω) (hX : ((List.length e4_1 : Nat) : Int) ≤ 9223372036854775807) : ∀ (m : Nat) (i : Int) (a : Unit), 0 ≤ i → i ≤ ((List.length e4_1 : Nat) : Int) → ((List.length e4_1 : Nat) : Int) < m + i → Le (ref02_Same.g0 e4_1 e4_2  k (List.drop (Int.toNat i) e4_1) i) (iter (ref02_Same.b0 e4_1 e4_2  k) m (i)) :=
 iter_list e4_1 0 (fun (i4 : Int) (a4 : Unit) => (i4)) (fun xs i4 a4 => ref02_Same.g0 e4_1 e4_2  k xs i4) (ref02_Same.b0 e4_1 e4_2  k)
 (fun i4 a4 r h0 => (Le.fls h0 (Le.refl _)))
 (fun i4 xs4 a4 r h0 h1 hw ih => (Le.tru h0 (Le.tru h1 (Le.cond (Le.cond (Le.refl _) (ih _ hw ())) Le.nil))))
 hX
def ref02_Same.w (x0 : (List Int)) (x1 : (List Int)) (k : Bool → Option Ω) : Option Ω :=
 bif (((List.length x0 : Nat) : Int) != ((List.length x1 : Nat) : Int)) then
 k false
 else
 bif decide (((List.length x0 : Nat) : Int) ≤ 4611686018427387904) then ref02_Same.g0 x0 x1  k x0 0 else none
theorem ref02_Same.ev (fuel : Nat) (x0 : (List Int)) (x1 : (List Int)) (k : AV → Option Ω) : evFn CDEKP (spE (C := CDEKP) [] []) (ref02_Same.F fuel) Tryz.f39 (Tryz.f39.body.getD .skip) [(.v (.slice (.int .i64)) (x0)), (.v (.slice (.int .i64)) (x1))] k = ref02_Same.sl x0 x1 (fun e4_1 e4_2 => (ref02_Same.M0 fuel e4_1 e4_2  k fuel)) (fun r => k (tupAV .bool [] r)) := by kernel_rfl
theorem ref02_Same.le (x0 : (List Int)) (x1 : (List Int)) (k : AV → Option Ω) : Le (ref02_Same.w x0 x1 (fun r => k (tupAV .bool [] r))) (ref02_Same.sl x0 x1 (fun e4_1 e4_2 => (ref02_Same.M0 BIG e4_1 e4_2  k BIG)) (fun r => k (tupAV .bool [] r))) := by
 have h1 := funext fun (e4_1 : (List Int)) => funext fun (e4_2 : (List Int)) => ref02_Same.l0 BIG e4_1 e4_2   k BIG
 rw [h1]
 delta ref02_Same.w ref02_Same.sl
 exact (Le.cond (Le.refl _) (Le.gd fun hg => ref02_Same.h0 _ _   _ (le_up (of_decide_eq_true hg)) BIG 0 () (by decide) (zero_le_len _) (big_list (of_decide_eq_true hg))))
def ref02_Same.u (x0 : (List Int)) (x1 : (List Int)) : Option (Bool) := ref02_Same.w x0 x1 some
noncomputable def ref02_Same.n : En CDEKP := mkE CDEKP_ok (es := []) (ms := []) (fuel := (ref02_Same.F BIG)) 39 Tryz.f39 [.ai (.slice (.int .i64)), .ai (.slice (.int .i64))] .bool [] (fun x {Ω} k => ref02_Same.w x.1 x.2.1 k) (fun x Ω k => leV (ref02_Same.ev BIG x.1 x.2.1 k) (ref02_Same.le x.1 x.2.1 k)) (by kernel_rfl) (by kernel_rfl)
def bitset_Less_1.s (x0 : Int) (x1 : Int) (k : Int → Option Ω) : Option Ω :=
 let v1 : Int := (IntKind.wrap .u64 (BitVec.ofInt (IntKind.bits .u64) x0 &&& ~~~BitVec.ofInt (IntKind.bits .u64) x1).toNat)
 k v1
def bitset_Less_1.t (x0 : Int) (x1 : Int) : Int :=
 let v1 : Int := (IntKind.wrap .u64 (BitVec.ofInt (IntKind.bits .u64) x0 &&& ~~~BitVec.ofInt (IntKind.bits .u64) x1).toNat)
 v1
theorem bitset_Less_1.v (x0 : Int) (x1 : Int) (k : Int → Option Ω) : bitset_Less_1.s x0 x1 k = k (bitset_Less_1.t x0 x1) := by
 delta bitset_Less_1.s bitset_Less_1.t; exact rfl
noncomputable def bitset_Less_1.n : En CDEKP := mkT CDEKP_ok (es := []) (ms := []) (fuel := ⟨1, fun _ => []⟩) 243 Tryz.f243 [.ai (.int .u64), .ai (.int .u64)] (.int .u64) [] (fun x {Ω} k => bitset_Less_1.s x.1 x.2.1 k) (fun x => bitset_Less_1.t x.1 x.2.1) (fun x Ω k => by kernel_rfl) (fun x => bitset_Less_1.v x.1 x.2.1 some) (by kernel_rfl) (by kernel_rfl)
def bitset_each__bitset_Less_1.F (fuel : Nat) : Fuel := ⟨fuel, fun r => bif r == 2 then mL 0 23 8388259 else []⟩
noncomputable def bitset_each__bitset_Less_1.V (fuel c : Nat) (env : List AV) (L : Heap) (k : Kont Ω) : Option Ω := evCode CDEKP (spE (C := CDEKP) [bitset_Less_1.n] []) (bitset_each__bitset_Less_1.F fuel) (pCo c Tryz.f242) env L k
def bitset_each__bitset_Less_1.E0 (e2_1 : (List Int)) (e2_2 : (List Int)) (s2 : Int × (List Int)) : List AV := (dZ 2 ((.fn 243 []) :: (.ref 0 []) :: (.ref 1 []) :: dZ 1 ((.ref 2 []) :: dZ 1 ((.v (.int .i64) (s2.1)) :: dZ 14 ([])))))
def bitset_each__bitset_Less_1.H0 (e2_1 : (List Int)) (e2_2 : (List Int)) (s2 : Int × (List Int)) : Heap := [(.box (.arr 4 (.int .u64)) s2.2 false), (.box (.arr 4 (.int .u64)) e2_1 false), (.box (.arr 4 (.int .u64)) e2_2 false)]
noncomputable def bitset_each__bitset_Less_1.M0 (fuel : Nat) (e2_1 : (List Int)) (e2_2 : (List Int))  (k : AV → Option Ω) (m : Nat) (s : Int × (List Int)) : Option Ω := loopK (bitset_each__bitset_Less_1.V fuel 37) (mB 23 8388259) [] 3 (blockK 0 (sqK (bitset_each__bitset_Less_1.V fuel 7) (finK CDEKP Tryz.f242 k))) m ((bitset_each__bitset_Less_1.E0 e2_1 e2_2) s) ((bitset_each__bitset_Less_1.H0 e2_1 e2_2) s)
def bitset_each__bitset_Less_1.b0 (e2_1 : (List Int)) (e2_2 : (List Int))   (k : (List Int) → Option Ω) (r2 : Int × (List Int) → Option Ω) (s2 : Int × (List Int)) : Option Ω :=
 bif (decide (s2.1 < 4)) then
 bif (idxOK s2.1 4) then
 bif (idxOK s2.1 4) then
 let v1 : Int := (bitset_Less_1.t ((List.getD s2.2 (Int.toNat s2.1) 0)) ((List.getD e2_1 (Int.toNat s2.1) 0)))
 bif (idxOK s2.1 4) then
 r2 ((IntKind.wrap .i64 (s2.1 + 1)), (List.set s2.2 (Int.toNat s2.1) v1))
 else
 none
 else
 none
 else
 none
 else
 k s2.2
theorem bitset_each__bitset_Less_1.l0 (fuel : Nat) (e2_1 : (List Int)) (e2_2 : (List Int))  (k : AV → Option Ω) : ∀ m, (bitset_each__bitset_Less_1.M0 fuel e2_1 e2_2  k m) = iter (bitset_each__bitset_Less_1.b0 e2_1 e2_2  (fun r => k (tupAV (.arr 4 (.int .u64)) [] r))) m :=
 loopK_iter (envOf := (bitset_each__bitset_Less_1.E0 e2_1 e2_2)) (LOf := (bitset_each__bitset_Less_1.H0 e2_1 e2_2)) (B := bitset_each__bitset_Less_1.b0 e2_1 e2_2  (fun r => k (tupAV (.arr 4 (.int .u64)) [] r))) (fun R s => by kernel_rfl)
def bitset_each__bitset_Less_1.sl (x0 : (List Int)) (x1 : (List Int)) (lp0 : (List Int) → (List Int) → Int × (List Int) → Option Ω) (k : (List Int) → Option Ω) : Option Ω :=
 lp0 x1 (List.replicate 4 0) (0, x0)
def bitset_each__bitset_Less_1.g0 (e2_1 : (List Int)) (e2_2 : (List Int))  (k : (List Int) → Option Ω) : Nat → Int → (List Int) → Option Ω
 | 0, i2, a2_1 =>
 k a2_1
 | d2 + 1, i2, a2_1 =>
 bif (idxOK i2 4) then
 bif (idxOK i2 4) then
 let v1 : Int := (bitset_Less_1.t ((List.getD a2_1 (Int.toNat i2) 0)) ((List.getD e2_1 (Int.toNat i2) 0)))
 bif (idxOK i2 4) then
 bitset_each__bitset_Less_1.g0 e2_1 e2_2  k d2 (i2 + 1) ((List.set a2_1 (Int.toNat i2) v1))
 else
 none
 else
 none
 else
 none
theorem bitset_each__bitset_Less_1.h0 (e2_1 : (List Int)) (e2_2 : (List Int))   (k : (List Int) → Option Ω) (hN : (4 : Int) ≤ 9223372036854775807) : ∀ (m : Nat) (i : Int) (a : (List Int)), -9223372036854775808 ≤ i → Int.toNat ((4 : Int) - i) < m → Le (bitset_each__bitset_Less_1.g0 e2_1 e2_2  k (Int.toNat ((4 : Int) - i)) i a) (iter (bitset_each__bitset_Less_1.b0 e2_1 e2_2  k) m (i, a)) :=
 iter_count (4 : Int) (fun i2 => (decide (i2 < 4))) (fun i => rfl) (fun (i2 : Int) (a2 : (List Int)) => (i2, a2)) (fun xs i2 a2 => bitset_each__bitset_Less_1.g0 e2_1 e2_2  k xs i2 a2) (bitset_each__bitset_Less_1.b0 e2_1 e2_2  k)
 (fun i2 a2 r h0 => (Le.fls h0 (Le.refl _)))
 (fun i2 d2 a2 r h0 hw ih => (Le.tru h0 (Le.cond (Le.cond (let v1 : Int := (bitset_Less_1.t ((List.getD a2 (Int.toNat i2) 0)) ((List.getD e2_1 (Int.toNat i2) 0))); (Le.cond (ih _ hw ((List.set a2 (Int.toNat i2) v1))) Le.nil)) Le.nil) Le.nil)))
 hN
def bitset_each__bitset_Less_1.w (x0 : (List Int)) (x1 : (List Int)) (k : (List Int) → Option Ω) : Option Ω :=
 bitset_each__bitset_Less_1.g0 x1 (List.replicate 4 0)  k ((Int.toNat ((4 : Int) - 0))) 0 x0
theorem bitset_each__bitset_Less_1.ev (fuel : Nat) (x0 : (List Int)) (x1 : (List Int)) (k : AV → Option Ω) : evFn CDEKP (spE (C := CDEKP) [bitset_Less_1.n] []) (bitset_each__bitset_Less_1.F fuel) Tryz.f242 (Tryz.f242.body.getD .skip) [(.v (.arr 4 (.int .u64)) (x0)), (.v (.arr 4 (.int .u64)) (x1)), (.fn 243 [])] k = bitset_each__bitset_Less_1.sl x0 x1 (fun e2_1 e2_2 => (bitset_each__bitset_Less_1.M0 fuel e2_1 e2_2  k fuel)) (fun r => k (tupAV (.arr 4 (.int .u64)) [] r)) := by kernel_rfl
theorem bitset_each__bitset_Less_1.le (x0 : (List Int)) (x1 : (List Int)) (k : AV → Option Ω) : Le (bitset_each__bitset_Less_1.w x0 x1 (fun r => k (tupAV (.arr 4 (.int .u64)) [] r))) (bitset_each__bitset_Less_1.sl x0 x1 (fun e2_1 e2_2 => (bitset_each__bitset_Less_1.M0 BIG e2_1 e2_2  k BIG)) (fun r => k (tupAV (.arr 4 (.int .u64)) [] r))) := by
 have h1 := funext fun (e2_1 : (List Int)) => funext fun (e2_2 : (List Int)) => bitset_each__bitset_Less_1.l0 BIG e2_1 e2_2   k BIG
 rw [h1]
 delta bitset_each__bitset_Less_1.w bitset_each__bitset_Less_1.sl
 exact (bitset_each__bitset_Less_1.h0 _ _   _ (by decide) BIG 0 (x0) (by decide) (by decide))
def bitset_each__bitset_Less_1.u (x0 : (List Int)) (x1 : (List Int)) : Option ((List Int)) := bitset_each__bitset_Less_1.w x0 x1 some
noncomputable def bitset_each__bitset_Less_1.n : En CDEKP := mkE CDEKP_ok (es := [bitset_Less_1.n]) (ms := []) (fuel := (bitset_each__bitset_Less_1.F BIG)) 242 Tryz.f242 [.ai (.arr 4 (.int .u64)), .ai (.arr 4 (.int .u64)), .af0 243] (.arr 4 (.int .u64)) [] (fun x {Ω} k => bitset_each__bitset_Less_1.w x.1 x.2.1 k) (fun x Ω k => leV (bitset_each__bitset_Less_1.ev BIG x.1 x.2.1 k) (bitset_each__bitset_Less_1.le x.1 x.2.1 k)) (by kernel_rfl) (by kernel_rfl)
def bitset_Less.s (x0 : (List Int)) (x1 : (List Int)) (k : (List Int) → Option Ω) : Option Ω :=
 (bitset_each__bitset_Less_1.u x0 x1).bind fun y1 =>
 k y1
def bitset_Less.u (x0 : (List Int)) (x1 : (List Int)) : Option ((List Int)) := bitset_Less.s x0 x1 some
noncomputable def bitset_Less.n : En CDEKP := mkE CDEKP_ok (es := [bitset_each__bitset_Less_1.n]) (ms := []) (fuel := ⟨1, fun _ => []⟩) 198 Tryz.f198 [.ai (.arr 4 (.int .u64)), .ai (.arr 4 (.int .u64))] (.arr 4 (.int .u64)) [] (fun x {Ω} k => bitset_Less.s x.1 x.2.1 k) (fun x Ω k => Le.of (by kernel_rfl)) (by kernel_rfl) (by kernel_rfl)
def bitset_Sub.s (x0 : (List Int)) (x1 : (List Int)) (k : Bool → Option Ω) : Option Ω :=
 (bitset_Less.u x0 x1).bind fun y1 =>
 k (eqI (.arr 4 (.int .u64)) y1 (List.replicate 4 0))
def bitset_Sub.u (x0 : (List Int)) (x1 : (List Int)) : Option (Bool) := bitset_Sub.s x0 x1 some
noncomputable def bitset_Sub.n : En CDEKP := mkE CDEKP_ok (es := [bitset_Less.n]) (ms := []) (fuel := ⟨1, fun _ => []⟩) 134 Tryz.f134 [.ai (.arr 4 (.int .u64)), .ai (.arr 4 (.int .u64))] .bool [] (fun x {Ω} k => bitset_Sub.s x.1 x.2.1 k) (fun x Ω k => Le.of (by kernel_rfl)) (by kernel_rfl) (by kernel_rfl)
def ref04_Has.F (fuel : Nat) : Fuel := ⟨fuel, fun r => bif r == 2 then mL 0 18 262108 else []⟩
noncomputable def ref04_Has.V (fuel c : Nat) (env : List AV) (L : Heap) (k : Kont Ω) : Option Ω := evCode CDEKP (spE (C := CDEKP) [] []) (ref04_Has.F fuel) (pCo c Tryz.f144) env L k
def ref04_Has.E0 (e2_1 : (List Int)) (e2_2 : Int) (s2 : Int) : List AV := ((.v (.slice (.int .i64)) (e2_1)) :: (.v (.int .i64) (e2_2)) :: dZ 3 ((.v (.int .i64) (s2)) :: dZ 12 ([])))
def ref04_Has.H0 (e2_1 : (List Int)) (e2_2 : Int) (s2 : Int) : Heap := []
noncomputable def ref04_Has.M0 (fuel : Nat) (e2_1 : (List Int)) (e2_2 : Int)  (k : AV → Option Ω) (m : Nat) (s : Int) : Option Ω := loopK (ref04_Has.V fuel 37) (mB 18 262108) [] 0 (blockK 0 (sqK (ref04_Has.V fuel 7) (finK CDEKP Tryz.f144 k))) m ((ref04_Has.E0 e2_1 e2_2) s) ((ref04_Has.H0 e2_1 e2_2) s)
def ref04_Has.b0 (e2_1 : (List Int)) (e2_2 : Int)   (k : Bool → Option Ω) (r2 : Int → Option Ω) (s2 : Int) : Option Ω :=
 bif (decide (s2 < ((List.length e2_1 : Nat) : Int))) then
 bif (idxOK s2 (List.length e2_1)) then
 bif ((List.getD e2_1 (Int.toNat s2) 0) == e2_2) then
 k true
 else
 r2 ((IntKind.wrap .i64 (s2 + 1)))
 else
 none
 else
 k false
theorem ref04_Has.l0 (fuel : Nat) (e2_1 : (List Int)) (e2_2 : Int)  (k : AV → Option Ω) : ∀ m, (ref04_Has.M0 fuel e2_1 e2_2  k m) = iter (ref04_Has.b0 e2_1 e2_2  (fun r => k (tupAV .bool [] r))) m :=
 loopK_iter (envOf := (ref04_Has.E0 e2_1 e2_2)) (LOf := (ref04_Has.H0 e2_1 e2_2)) (B := ref04_Has.b0 e2_1 e2_2  (fun r => k (tupAV .bool [] r))) (fun R s => by kernel_rfl)
def ref04_Has.sl (x0 : (List Int)) (x1 : Int) (lp0 : (List Int) → Int → Int → Option Ω) (k : Bool → Option Ω) : Option Ω :=
 lp0 x0 x1 (0)
def ref04_Has.g0 (e2_1 : (List Int)) (e2_2 : Int)  (k : Bool → Option Ω) : List Int → Option Ω
 | [] =>
 k false
 | x2 :: xs2 =>
 bif (x2 == e2_2) then
 k true
 else
 ref04_Has.g0 e2_1 e2_2  k xs2
theorem ref04_Has.h0 (e2_1 : (List Int)) (e2_2 : Int)   (k : Bool → Option Ω) (hX : ((List.length e2_1 : Nat) : Int) ≤ 9223372036854775807) : ∀ (m : Nat) (i : Int) (a : Unit), 0 ≤ i → i ≤ ((List.length e2_1 : Nat) : Int) → ((List.length e2_1 : Nat) : Int) < m + i → Le (ref04_Has.g0 e2_1 e2_2  k (List.drop (Int.toNat i) e2_1) ) (iter (ref04_Has.b0 e2_1 e2_2  k) m (i)) :=
 iter_list e2_1 0 (fun (i2 : Int) (a2 : Unit) => (i2)) (fun xs i2 a2 => ref04_Has.g0 e2_1 e2_2  k xs ) (ref04_Has.b0 e2_1 e2_2  k)
 (fun i2 a2 r h0 => (Le.fls h0 (Le.refl _)))
 (fun i2 xs2 a2 r h0 h1 hw ih => (Le.tru h0 (Le.tru h1 (Le.cond (Le.refl _) (ih _ hw ())))))
 hX
def ref04_Has.w (x0 : (List Int)) (x1 : Int) (k : Bool → Option Ω) : Option Ω :=
 bif decide (((List.length x0 : Nat) : Int) ≤ 4611686018427387904) then ref04_Has.g0 x0 x1  k x0  else none
theorem ref04_Has.ev (fuel : Nat) (x0 : (List Int)) (x1 : Int) (k : AV → Option Ω) : evFn CDEKP (spE (C := CDEKP) [] []) (ref04_Has.F fuel) Tryz.f144 (Tryz.f144.body.getD .skip) [(.v (.slice (.int .i64)) (x0)), (.v (.int .i64) (x1))] k = ref04_Has.sl x0 x1 (fun e2_1 e2_2 => (ref04_Has.M0 fuel e2_1 e2_2  k fuel)) (fun r => k (tupAV .bool [] r)) := by kernel_rfl
theorem ref04_Has.le (x0 : (List Int)) (x1 : Int) (k : AV → Option Ω) : Le (ref04_Has.w x0 x1 (fun r => k (tupAV .bool [] r))) (ref04_Has.sl x0 x1 (fun e2_1 e2_2 => (ref04_Has.M0 BIG e2_1 e2_2  k BIG)) (fun r => k (tupAV .bool [] r))) := by
 have h1 := funext fun (e2_1 : (List Int)) => funext fun (e2_2 : Int) => ref04_Has.l0 BIG e2_1 e2_2   k BIG
 rw [h1]
 delta ref04_Has.w ref04_Has.sl
 exact (Le.gd fun hg => ref04_Has.h0 _ _   _ (le_up (of_decide_eq_true hg)) BIG 0 () (by decide) (zero_le_len _) (big_list (of_decide_eq_true hg)))
def ref04_Has.u (x0 : (List Int)) (x1 : Int) : Option (Bool) := ref04_Has.w x0 x1 some
noncomputable def ref04_Has.n : En CDEKP := mkE CDEKP_ok (es := []) (ms := []) (fuel := (ref04_Has.F BIG)) 144 Tryz.f144 [.ai (.slice (.int .i64)), .ai (.int .i64)] .bool [] (fun x {Ω} k => ref04_Has.w x.1 x.2.1 k) (fun x Ω k => leV (ref04_Has.ev BIG x.1 x.2.1 k) (ref04_Has.le x.1 x.2.1 k)) (by kernel_rfl) (by kernel_rfl)
def bitset_fine.s (x0 : Int) (k : Bool → Option Ω) : Option Ω :=
 bif (decide (x0 ≥ 0)) then
 k (decide (x0 ≤ 255))
 else
 k false
def bitset_fine.t (x0 : Int) : Bool :=
 bif (decide (x0 ≥ 0)) then
 (decide (x0 ≤ 255))
 else
 false
theorem bitset_fine.v (x0 : Int) (k : Bool → Option Ω) : bitset_fine.s x0 k = k (bitset_fine.t x0) := by
 delta bitset_fine.s bitset_fine.t; exact (cond_tot rfl rfl)
noncomputable def bitset_fine.n : En CDEKP := mkT CDEKP_ok (es := []) (ms := []) (fuel := ⟨1, fun _ => []⟩) 259 Tryz.f259 [.ai (.int .i64)] .bool [] (fun x {Ω} k => bitset_fine.s x.1 k) (fun x => bitset_fine.t x.1) (fun x Ω k => by kernel_rfl) (fun x => bitset_fine.v x.1 some) (by kernel_rfl) (by kernel_rfl)
def bitset_Add.s (x0 : (List Int)) (x1 : Int) (k : (List Int) → Option Ω) : Option Ω :=
 bif (bitset_fine.t x1) then
 bif (idxOK (IntKind.wrap .i64 (Int.tdiv x1 64)) 4) then
 bif (decide ((0 : Int) ≤ (Int.tmod x1 64))) then
 let v1 : Int := (IntKind.wrap .u64 ((1 : Int) * (2 ^ (min (Int.toNat (Int.tmod x1 64)) (IntKind.bits .u64)))))
 let v2 : Int := (IntKind.wrap .u64 (BitVec.ofInt (IntKind.bits .u64) (List.getD x0 (Int.toNat (IntKind.wrap .i64 (Int.tdiv x1 64))) 0) ||| BitVec.ofInt (IntKind.bits .u64) v1).toNat)
 bif (idxOK (IntKind.wrap .i64 (Int.tdiv x1 64)) 4) then
 k (List.set x0 (Int.toNat (IntKind.wrap .i64 (Int.tdiv x1 64))) v2)
 else
 none
 else
 none
 else
 none
 else
 k x0
def bitset_Add.u (x0 : (List Int)) (x1 : Int) : Option ((List Int)) := bitset_Add.s x0 x1 some
noncomputable def bitset_Add.n : En CDEKP := mkE CDEKP_ok (es := [bitset_fine.n]) (ms := []) (fuel := ⟨1, fun _ => []⟩) 221 Tryz.f221 [.ai (.arr 4 (.int .u64)), .ai (.int .i64)] (.arr 4 (.int .u64)) [] (fun x {Ω} k => bitset_Add.s x.1 x.2.1 k) (fun x Ω k => Le.of (by kernel_rfl)) (by kernel_rfl) (by kernel_rfl)
def bitset_Of.F (fuel : Nat) : Fuel := ⟨fuel, fun r => bif r == 3 then mL 0 17 130611 else []⟩
noncomputable def bitset_Of.V (fuel c : Nat) (env : List AV) (L : Heap) (k : Kont Ω) : Option Ω := evCode CDEKP (spE (C := CDEKP) [bitset_Add.n] []) (bitset_Of.F fuel) (pCo c Tryz.f199) env L k
def bitset_Of.E0 (e3_1 : (List Int)) (e3_2 : Int) (e3_3 : (List Int)) (s3 : Int × (List Int)) : List AV := (dZ 2 ((.ref 0 []) :: (.ref 1 []) :: dZ 2 ((.v (.slice (.int .i64)) (e3_1)) :: (.v (.int .i64) (e3_2)) :: (.v (.int .i64) (s3.1)) :: dZ 8 ([]))))
def bitset_Of.H0 (e3_1 : (List Int)) (e3_2 : Int) (e3_3 : (List Int)) (s3 : Int × (List Int)) : Heap := [(.box (.arr 4 (.int .u64)) e3_3 false), (.box (.arr 4 (.int .u64)) s3.2 false)]
noncomputable def bitset_Of.M0 (fuel : Nat) (e3_1 : (List Int)) (e3_2 : Int) (e3_3 : (List Int))  (k : AV → Option Ω) (m : Nat) (s : Int × (List Int)) : Option Ω := loopK (bitset_Of.V fuel 75) (mB 17 130611) [] 2 (blockK 0 (sqK (bitset_Of.V fuel 15) (finK CDEKP Tryz.f199 k))) m ((bitset_Of.E0 e3_1 e3_2 e3_3) s) ((bitset_Of.H0 e3_1 e3_2 e3_3) s)
def bitset_Of.b0 (e3_1 : (List Int)) (e3_2 : Int) (e3_3 : (List Int))   (k : (List Int) → Option Ω) (r3 : Int × (List Int) → Option Ω) (s3 : Int × (List Int)) : Option Ω :=
 bif (decide (s3.1 < e3_2)) then
 bif (idxOK s3.1 (List.length e3_1)) then
 (bitset_Add.u s3.2 ((List.getD e3_1 (Int.toNat s3.1) 0))).bind fun y1 =>
 r3 ((IntKind.wrap .i64 (s3.1 + 1)), y1)
 else
 none
 else
 k s3.2
theorem bitset_Of.l0 (fuel : Nat) (e3_1 : (List Int)) (e3_2 : Int) (e3_3 : (List Int))  (k : AV → Option Ω) : ∀ m, (bitset_Of.M0 fuel e3_1 e3_2 e3_3  k m) = iter (bitset_Of.b0 e3_1 e3_2 e3_3  (fun r => k (tupAV (.arr 4 (.int .u64)) [] r))) m :=
 loopK_iter (envOf := (bitset_Of.E0 e3_1 e3_2 e3_3)) (LOf := (bitset_Of.H0 e3_1 e3_2 e3_3)) (B := bitset_Of.b0 e3_1 e3_2 e3_3  (fun r => k (tupAV (.arr 4 (.int .u64)) [] r))) (fun R s => by kernel_rfl)
def bitset_Of.sl (x0 : (List Int)) (lp0 : (List Int) → Int → (List Int) → Int × (List Int) → Option Ω) (k : (List Int) → Option Ω) : Option Ω :=
 lp0 x0 (((List.length x0 : Nat) : Int)) (List.replicate 4 0) (0, (List.replicate 4 0))
def bitset_Of.g0 (e3_1 : (List Int)) (e3_3 : (List Int))  (k : (List Int) → Option Ω) : List Int → (List Int) → Option Ω
 | [], a3_1 =>
 k a3_1
 | x3 :: xs3, a3_1 =>
 (bitset_Add.u a3_1 (x3)).bind fun y1 =>
 bitset_Of.g0 e3_1 e3_3  k xs3 y1
theorem bitset_Of.h0 (e3_1 : (List Int)) (e3_3 : (List Int))   (k : (List Int) → Option Ω) (hX : ((List.length e3_1 : Nat) : Int) ≤ 9223372036854775807) : ∀ (m : Nat) (i : Int) (a : (List Int)), 0 ≤ i → i ≤ ((List.length e3_1 : Nat) : Int) → ((List.length e3_1 : Nat) : Int) < m + i → Le (bitset_Of.g0 e3_1 e3_3  k (List.drop (Int.toNat i) e3_1) a) (iter (bitset_Of.b0 e3_1 (((List.length e3_1 : Nat) : Int)) e3_3  k) m (i, a)) :=
 iter_list e3_1 0 (fun (i3 : Int) (a3 : (List Int)) => (i3, a3)) (fun xs i3 a3 => bitset_Of.g0 e3_1 e3_3  k xs a3) (bitset_Of.b0 e3_1 (((List.length e3_1 : Nat) : Int)) e3_3  k)
 (fun i3 a3 r h0 => (Le.fls h0 (Le.refl _)))
 (fun i3 xs3 a3 r h0 h1 hw ih => (Le.tru h0 (Le.tru h1 (Le.bnd fun y1 => (ih _ hw (y1))))))
 hX
def bitset_Of.w (x0 : (List Int)) (k : (List Int) → Option Ω) : Option Ω :=
 bif decide (((List.length x0 : Nat) : Int) ≤ 4611686018427387904) then bitset_Of.g0 x0 (List.replicate 4 0)  k x0 (List.replicate 4 0) else none
theorem bitset_Of.ev (fuel : Nat) (x0 : (List Int)) (k : AV → Option Ω) : evFn CDEKP (spE (C := CDEKP) [bitset_Add.n] []) (bitset_Of.F fuel) Tryz.f199 (Tryz.f199.body.getD .skip) [(.v (.slice (.int .i64)) (x0))] k = bitset_Of.sl x0 (fun e3_1 e3_2 e3_3 => (bitset_Of.M0 fuel e3_1 e3_2 e3_3  k fuel)) (fun r => k (tupAV (.arr 4 (.int .u64)) [] r)) := by kernel_rfl
theorem bitset_Of.le (x0 : (List Int)) (k : AV → Option Ω) : Le (bitset_Of.w x0 (fun r => k (tupAV (.arr 4 (.int .u64)) [] r))) (bitset_Of.sl x0 (fun e3_1 e3_2 e3_3 => (bitset_Of.M0 BIG e3_1 e3_2 e3_3  k BIG)) (fun r => k (tupAV (.arr 4 (.int .u64)) [] r))) := by
 have h1 := funext fun (e3_1 : (List Int)) => funext fun (e3_2 : Int) => funext fun (e3_3 : (List Int)) => bitset_Of.l0 BIG e3_1 e3_2 e3_3   k BIG
 rw [h1]
 delta bitset_Of.w bitset_Of.sl
 exact (Le.gd fun hg => bitset_Of.h0 _ _   _ (le_up (of_decide_eq_true hg)) BIG 0 ((List.replicate 4 0)) (by decide) (zero_le_len _) (big_list (of_decide_eq_true hg)))
def bitset_Of.u (x0 : (List Int)) : Option ((List Int)) := bitset_Of.w x0 some
noncomputable def bitset_Of.n : En CDEKP := mkE CDEKP_ok (es := [bitset_Add.n]) (ms := []) (fuel := (bitset_Of.F BIG)) 199 Tryz.f199 [.ai (.slice (.int .i64))] (.arr 4 (.int .u64)) [] (fun x {Ω} k => bitset_Of.w x.1 k) (fun x Ω k => leV (bitset_Of.ev BIG x.1 k) (bitset_Of.le x.1 k)) (by kernel_rfl) (by kernel_rfl)
def bitset_Has.s (x0 : (List Int)) (x1 : Int) (k : Bool → Option Ω) : Option Ω :=
 bif (bitset_fine.t x1) then
 bif (idxOK (IntKind.wrap .i64 (Int.tdiv x1 64)) 4) then
 bif (decide ((0 : Int) ≤ (Int.tmod x1 64))) then
 let v1 : Int := (Int.fdiv (List.getD x0 (Int.toNat (IntKind.wrap .i64 (Int.tdiv x1 64))) 0) (2 ^ (min (Int.toNat (Int.tmod x1 64)) (IntKind.bits .u64))))
 let v2 : Int := (IntKind.wrap .u64 (BitVec.ofInt (IntKind.bits .u64) v1 &&& BitVec.ofInt (IntKind.bits .u64) 1).toNat)
 k (v2 == 1)
 else
 none
 else
 none
 else
 k false
def bitset_Has.u (x0 : (List Int)) (x1 : Int) : Option (Bool) := bitset_Has.s x0 x1 some
noncomputable def bitset_Has.n : En CDEKP := mkE CDEKP_ok (es := [bitset_fine.n]) (ms := []) (fuel := ⟨1, fun _ => []⟩) 220 Tryz.f220 [.ai (.arr 4 (.int .u64)), .ai (.int .i64)] .bool [] (fun x {Ω} k => bitset_Has.s x.1 x.2.1 k) (fun x Ω k => Le.of (by kernel_rfl)) (by kernel_rfl) (by kernel_rfl)
def ref04_Of.F (fuel : Nat) : Fuel := ⟨fuel, fun r => bif r == 3 then mL 0 17 131046 else []⟩
noncomputable def ref04_Of.V (fuel c : Nat) (env : List AV) (L : Heap) (k : Kont Ω) : Option Ω := evCode CDEKP (spE (C := CDEKP) [ref04_Has.n] []) (ref04_Of.F fuel) (pCo c Tryz.f230) env L k
def ref04_Of.E0 (e3_1 : (List Int)) (s3 : Int × (List Int)) : List AV := ((.v (.slice (.int .i64)) (e3_1)) :: dZ 2 ((.rs 1) :: (.v (.int .i64) (s3.1)) :: dZ 12 ([])))
def ref04_Of.H0 (e3_1 : (List Int)) (s3 : Int × (List Int)) : Heap := [(.row 3 (.int .i64) [] false), (.row 3 (.int .i64) s3.2 false)]
noncomputable def ref04_Of.M0 (fuel : Nat) (e3_1 : (List Int))  (k : AV → Option Ω) (m : Nat) (s : Int × (List Int)) : Option Ω := loopK (ref04_Of.V fuel 75) (mB 17 131046) [] 2 (blockK 0 (sqK (ref04_Of.V fuel 15) (finK CDEKP Tryz.f230 k))) m ((ref04_Of.E0 e3_1) s) ((ref04_Of.H0 e3_1) s)
def ref04_Of.b0 (e3_1 : (List Int))   (k : (List Int) → Option Ω) (r3 : Int × (List Int) → Option Ω) (s3 : Int × (List Int)) : Option Ω :=
 bif (decide (s3.1 ≤ 255)) then
 (ref04_Has.u e3_1 s3.1).bind fun y1 =>
 bif y1 then
 bif (decide (List.length s3.2 + List.length [s3.1] ≤ rowMax)) then
 r3 ((IntKind.wrap .i64 (s3.1 + 1)), (s3.2 ++ [s3.1]))
 else
 none
 else
 r3 ((IntKind.wrap .i64 (s3.1 + 1)), s3.2)
 else
 k s3.2
theorem ref04_Of.l0 (fuel : Nat) (e3_1 : (List Int))  (k : AV → Option Ω) : ∀ m, (ref04_Of.M0 fuel e3_1  k m) = iter (ref04_Of.b0 e3_1  (fun r => k (tupAV (.slice (.int .i64)) [] r))) m :=
 loopK_iter (envOf := (ref04_Of.E0 e3_1)) (LOf := (ref04_Of.H0 e3_1)) (B := ref04_Of.b0 e3_1  (fun r => k (tupAV (.slice (.int .i64)) [] r))) (fun R s => by kernel_rfl)
def ref04_Of.sl (x0 : (List Int)) (lp0 : (List Int) → Int × (List Int) → Option Ω) (k : (List Int) → Option Ω) : Option Ω :=
 lp0 x0 (0, [])
def ref04_Of.g0 (e3_1 : (List Int))  (k : (List Int) → Option Ω) : Nat → Int → (List Int) → Option Ω
 | 0, i3, a3_1 =>
 k a3_1
 | d3 + 1, i3, a3_1 =>
 (ref04_Has.u e3_1 i3).bind fun y1 =>
 bif y1 then
 bif (decide (List.length a3_1 + List.length [i3] ≤ rowMax)) then
 ref04_Of.g0 e3_1  k d3 (i3 + 1) (a3_1 ++ [i3])
 else
 none
 else
 ref04_Of.g0 e3_1  k d3 (i3 + 1) a3_1
theorem ref04_Of.h0 (e3_1 : (List Int))   (k : (List Int) → Option Ω) (hN : ((255 : Int) + 1) ≤ 9223372036854775807) : ∀ (m : Nat) (i : Int) (a : (List Int)), -9223372036854775808 ≤ i → Int.toNat (((255 : Int) + 1) - i) < m → Le (ref04_Of.g0 e3_1  k (Int.toNat (((255 : Int) + 1) - i)) i a) (iter (ref04_Of.b0 e3_1  k) m (i, a)) :=
 iter_count ((255 : Int) + 1) (fun i3 => (decide (i3 ≤ 255))) (fun i => le_lt1 i _) (fun (i3 : Int) (a3 : (List Int)) => (i3, a3)) (fun xs i3 a3 => ref04_Of.g0 e3_1  k xs i3 a3) (ref04_Of.b0 e3_1  k)
 (fun i3 a3 r h0 => (Le.fls h0 (Le.refl _)))
 (fun i3 d3 a3 r h0 hw ih => (Le.tru h0 (Le.bnd fun y1 => (Le.cond (Le.cond (ih _ hw ((a3 ++ [i3]))) Le.nil) (ih _ hw (a3))))))
 hN
def ref04_Of.w (x0 : (List Int)) (k : (List Int) → Option Ω) : Option Ω :=
 ref04_Of.g0 x0  k ((Int.toNat ((255 + 1) - 0))) 0 ([])
theorem ref04_Of.ev (fuel : Nat) (x0 : (List Int)) (k : AV → Option Ω) : evFn CDEKP (spE (C := CDEKP) [ref04_Has.n] []) (ref04_Of.F fuel) Tryz.f230 (Tryz.f230.body.getD .skip) [(.v (.slice (.int .i64)) (x0))] k = ref04_Of.sl x0 (fun e3_1 => (ref04_Of.M0 fuel e3_1  k fuel)) (fun r => k (tupAV (.slice (.int .i64)) [] r)) := by kernel_rfl
theorem ref04_Of.le (x0 : (List Int)) (k : AV → Option Ω) : Le (ref04_Of.w x0 (fun r => k (tupAV (.slice (.int .i64)) [] r))) (ref04_Of.sl x0 (fun e3_1 => (ref04_Of.M0 BIG e3_1  k BIG)) (fun r => k (tupAV (.slice (.int .i64)) [] r))) := by
 have h1 := funext fun (e3_1 : (List Int)) => ref04_Of.l0 BIG e3_1   k BIG
 rw [h1]
 delta ref04_Of.w ref04_Of.sl
 exact (ref04_Of.h0 _   _ (by decide) BIG 0 ([]) (by decide) (by decide))
def ref04_Of.u (x0 : (List Int)) : Option ((List Int)) := ref04_Of.w x0 some
noncomputable def ref04_Of.n : En CDEKP := mkE CDEKP_ok (es := [ref04_Has.n]) (ms := []) (fuel := (ref04_Of.F BIG)) 230 Tryz.f230 [.ai (.slice (.int .i64))] (.slice (.int .i64)) [] (fun x {Ω} k => ref04_Of.w x.1 k) (fun x Ω k => leV (ref04_Of.ev BIG x.1 k) (ref04_Of.le x.1 k)) (by kernel_rfl) (by kernel_rfl)
def ref04_Add.s (x0 : (List Int)) (x1 : Int) (k : (List Int) → Option Ω) : Option Ω :=
 bif (decide (List.length x0 ≤ rowMax)) then
 bif (decide (List.length x0 + List.length [x1] ≤ rowMax)) then
 (ref04_Of.u (x0 ++ [x1])).bind fun y1 =>
 k y1
 else
 none
 else
 none
def ref04_Add.u (x0 : (List Int)) (x1 : Int) : Option ((List Int)) := ref04_Add.s x0 x1 some
noncomputable def ref04_Add.n : En CDEKP := mkE CDEKP_ok (es := [ref04_Of.n]) (ms := []) (fuel := ⟨1, fun _ => []⟩) 229 Tryz.f229 [.ai (.slice (.int .i64)), .ai (.int .i64)] (.slice (.int .i64)) [] (fun x {Ω} k => ref04_Add.s x.1 x.2.1 k) (fun x Ω k => Le.of (by kernel_rfl)) (by kernel_rfl) (by kernel_rfl)
noncomputable def math_bits_TrailingZeros64.n : En CDEKP := En.of (g := 277) (e := fun {_} => math_bits_TrailingZeros64.e) (math_bits_TrailingZeros64.e_ok.mono le_CD_CDEKP)
def bitset_Next.F (fuel : Nat) : Fuel := ⟨fuel, fun r => bif r == 3 then mL 0 37 137438953401 else bif r == 1007000 then [23, 24, 25, 26, 27, 28, 29, 13007] else []⟩
noncomputable def bitset_Next.V (fuel c : Nat) (env : List AV) (L : Heap) (k : Kont Ω) : Option Ω := evCode CDEKP (spE (C := CDEKP) [math_bits_TrailingZeros64.n] []) (bitset_Next.F fuel) (pCo c Tryz.f241) env L k
def bitset_Next.E0 (e3_1 : Int) (e3_2 : (List Int)) (s3 : Int) : List AV := (dZ 1 ((.v (.int .i64) (e3_1)) :: (.ref 0 []) :: dZ 3 ((.v (.int .i64) (s3)) :: dZ 30 ([]))))
def bitset_Next.H0 (e3_1 : Int) (e3_2 : (List Int)) (s3 : Int) : Heap := [(.box (.arr 4 (.int .u64)) e3_2 false)]
noncomputable def bitset_Next.M0 (fuel : Nat) (e3_1 : Int) (e3_2 : (List Int))  (k : AV → Option Ω) (m : Nat) (s : Int) : Option Ω := loopK (bitset_Next.V fuel 75) (mB 37 137438953401) [] 1 (blockK 0 (sqK (bitset_Next.V fuel 15) (finK CDEKP Tryz.f241 k))) m ((bitset_Next.E0 e3_1 e3_2) s) ((bitset_Next.H0 e3_1 e3_2) s)
def bitset_Next.b0 (e3_1 : Int) (e3_2 : (List Int))   (k : Int × Bool → Option Ω) (r3 : Int → Option Ω) (s3 : Int) : Option Ω :=
 bif (decide (s3 < 4)) then
 bif (idxOK s3 4) then
 (bif (s3 == (IntKind.wrap .i64 (Int.tdiv e3_1 64))) then (bif (decide ((0 : Int) ≤ (Int.tmod e3_1 64))) then (let v1 : Int := (Int.fdiv (List.getD e3_2 (Int.toNat s3) 0) (2 ^ (min (Int.toNat (Int.tmod e3_1 64)) (IntKind.bits .u64)))); (bif (decide ((0 : Int) ≤ (Int.tmod e3_1 64))) then some ((IntKind.wrap .u64 (v1 * (2 ^ (min (Int.toNat (Int.tmod e3_1 64)) (IntKind.bits .u64))))), ()) else none)) else none) else some ((List.getD e3_2 (Int.toNat s3) 0), ())).bind fun j2 =>
 bif (j2.1 != 0) then
 (math_bits_TrailingZeros64.u j2.1).bind fun y3 =>
 k ((IntKind.wrap .i64 ((IntKind.wrap .i64 (s3 * 64)) + y3)), true)
 else
 r3 ((IntKind.wrap .i64 (s3 + 1)))
 else
 none
 else
 k (0, false)
theorem bitset_Next.l0 (fuel : Nat) (e3_1 : Int) (e3_2 : (List Int))  (k : AV → Option Ω) : ∀ m, (bitset_Next.M0 fuel e3_1 e3_2  k m) = iter (bitset_Next.b0 e3_1 e3_2  (fun r => k (tupAV (.int .i64) [.bool] r))) m :=
 loopK_iter (envOf := (bitset_Next.E0 e3_1 e3_2)) (LOf := (bitset_Next.H0 e3_1 e3_2)) (B := bitset_Next.b0 e3_1 e3_2  (fun r => k (tupAV (.int .i64) [.bool] r))) (fun R s => by kernel_rfl)
def bitset_Next.sl (x0 : (List Int)) (x1 : Int) (lp0 : Int → (List Int) → Int → Option Ω) (k : Int × Bool → Option Ω) : Option Ω :=
 lp0 ((if (0 : Int) > x1 then 0 else x1)) x0 ((IntKind.wrap .i64 (Int.tdiv (if (0 : Int) > x1 then 0 else x1) 64)))
def bitset_Next.g0 (e3_1 : Int) (e3_2 : (List Int))  (k : Int × Bool → Option Ω) : Nat → Int → Option Ω
 | 0, i3 =>
 k (0, false)
 | d3 + 1, i3 =>
 bif (idxOK i3 4) then
 (bif (i3 == (IntKind.wrap .i64 (Int.tdiv e3_1 64))) then (bif (decide ((0 : Int) ≤ (Int.tmod e3_1 64))) then (let v1 : Int := (Int.fdiv (List.getD e3_2 (Int.toNat i3) 0) (2 ^ (min (Int.toNat (Int.tmod e3_1 64)) (IntKind.bits .u64)))); (bif (decide ((0 : Int) ≤ (Int.tmod e3_1 64))) then some ((IntKind.wrap .u64 (v1 * (2 ^ (min (Int.toNat (Int.tmod e3_1 64)) (IntKind.bits .u64))))), ()) else none)) else none) else some ((List.getD e3_2 (Int.toNat i3) 0), ())).bind fun j2 =>
 bif (j2.1 != 0) then
 (math_bits_TrailingZeros64.u j2.1).bind fun y3 =>
 k ((IntKind.wrap .i64 ((IntKind.wrap .i64 (i3 * 64)) + y3)), true)
 else
 bitset_Next.g0 e3_1 e3_2  k d3 (i3 + 1)
 else
 none
theorem bitset_Next.h0 (e3_1 : Int) (e3_2 : (List Int))   (k : Int × Bool → Option Ω) (hN : (4 : Int) ≤ 9223372036854775807) : ∀ (m : Nat) (i : Int) (a : Unit), -9223372036854775808 ≤ i → Int.toNat ((4 : Int) - i) < m → Le (bitset_Next.g0 e3_1 e3_2  k (Int.toNat ((4 : Int) - i)) i) (iter (bitset_Next.b0 e3_1 e3_2  k) m (i)) :=
 iter_count (4 : Int) (fun i3 => (decide (i3 < 4))) (fun i => rfl) (fun (i3 : Int) (a3 : Unit) => (i3)) (fun xs i3 a3 => bitset_Next.g0 e3_1 e3_2  k xs i3) (bitset_Next.b0 e3_1 e3_2  k)
 (fun i3 a3 r h0 => (Le.fls h0 (Le.refl _)))
 (fun i3 d3 a3 r h0 hw ih => (Le.tru h0 (Le.cond (Le.bnd fun j2 => (Le.cond (Le.bnd fun y3 => (Le.refl _)) (ih _ hw ()))) Le.nil)))
 hN
def bitset_Next.w (x0 : (List Int)) (x1 : Int) (k : Int × Bool → Option Ω) : Option Ω :=
 bif (decide ((0 : Int) ≤ (IntKind.wrap .i64 (Int.tdiv (if (0 : Int) > x1 then 0 else x1) 64)))) then bitset_Next.g0 ((if (0 : Int) > x1 then 0 else x1)) x0  k ((Int.toNat ((4 : Int) - (IntKind.wrap .i64 (Int.tdiv (if (0 : Int) > x1 then 0 else x1) 64))))) ((IntKind.wrap .i64 (Int.tdiv (if (0 : Int) > x1 then 0 else x1) 64))) else none
theorem bitset_Next.ev (fuel : Nat) (x0 : (List Int)) (x1 : Int) (k : AV → Option Ω) : evFn CDEKP (spE (C := CDEKP) [math_bits_TrailingZeros64.n] []) (bitset_Next.F fuel) Tryz.f241 (Tryz.f241.body.getD .skip) [(.v (.arr 4 (.int .u64)) (x0)), (.v (.int .i64) (x1))] k = bitset_Next.sl x0 x1 (fun e3_1 e3_2 => (bitset_Next.M0 fuel e3_1 e3_2  k fuel)) (fun r => k (tupAV (.int .i64) [.bool] r)) := by kernel_rfl
theorem bitset_Next.le (x0 : (List Int)) (x1 : Int) (k : AV → Option Ω) : Le (bitset_Next.w x0 x1 (fun r => k (tupAV (.int .i64) [.bool] r))) (bitset_Next.sl x0 x1 (fun e3_1 e3_2 => (bitset_Next.M0 BIG e3_1 e3_2  k BIG)) (fun r => k (tupAV (.int .i64) [.bool] r))) := by
 have h1 := funext fun (e3_1 : Int) => funext fun (e3_2 : (List Int)) => bitset_Next.l0 BIG e3_1 e3_2   k BIG
 rw [h1]
 delta bitset_Next.w bitset_Next.sl
 exact (Le.gd fun hg => bitset_Next.h0 _ _   _ (by decide) BIG (IntKind.wrap .i64 (Int.tdiv (if (0 : Int) > x1 then 0 else x1) 64)) () (cnt_lo hg) (cnt_big (by decide) (cnt_lo3 hg)))
def bitset_Next.u (x0 : (List Int)) (x1 : Int) : Option (Int × Bool) := bitset_Next.w x0 x1 some
noncomputable def bitset_Next.n : En CDEKP := mkE CDEKP_ok (es := [math_bits_TrailingZeros64.n]) (ms := []) (fuel := (bitset_Next.F BIG)) 241 Tryz.f241 [.ai (.arr 4 (.int .u64)), .ai (.int .i64)] (.int .i64) [.bool] (fun x {Ω} k => bitset_Next.w x.1 x.2.1 k) (fun x Ω k => leV (bitset_Next.ev BIG x.1 x.2.1 k) (bitset_Next.le x.1 x.2.1 k)) (by kernel_rfl) (by kernel_rfl)
end
end Go.Proofs.YtlcomipbinfooaaGreatDoor.K

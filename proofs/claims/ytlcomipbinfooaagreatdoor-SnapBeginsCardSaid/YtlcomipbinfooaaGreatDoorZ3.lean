/- What functions of the program come to, and their laws. -/
import Derived.Test.YtlcomipbinfooaaGreatDoorZ2
namespace Go.Proofs.YtlcomipbinfooaaGreatDoor.K
open Go Go.RowKit
section
set_option linter.unusedVariables false
set_option linter.unusedSimpArgs false
set_option maxRecDepth 100000
variable {Ω : Type}
def ref15_SameGuards.F (fuel : Nat) : Fuel := ⟨fuel, fun r => bif r == 4 then mL 0 26 67108828 else []⟩
noncomputable def ref15_SameGuards.V (fuel c : Nat) (env : List AV) (L : Heap) (k : Kont Ω) : Option Ω := evCode CDEKP (spE (C := CDEKP) [] []) (ref15_SameGuards.F fuel) (pCo c Tryz.f184) env L k
def ref15_SameGuards.E0 (e4_1 : (List T_s227)) (e4_2 : (List T_s227)) (s4 : Int) : List AV := ((.v (.slice E_s227) (e4_1)) :: (.v (.slice E_s227) (e4_2)) :: dZ 3 ((.v (.int .i64) (s4)) :: dZ 20 ([])))
def ref15_SameGuards.H0 (e4_1 : (List T_s227)) (e4_2 : (List T_s227)) (s4 : Int) : Heap := []
noncomputable def ref15_SameGuards.M0 (fuel : Nat) (e4_1 : (List T_s227)) (e4_2 : (List T_s227))  (k : AV → Option Ω) (m : Nat) (s : Int) : Option Ω := loopK (ref15_SameGuards.V fuel 75) (mB 26 67108828) [] 0 (blockK 0 (sqK (ref15_SameGuards.V fuel 15) (finK CDEKP Tryz.f184 k))) m ((ref15_SameGuards.E0 e4_1 e4_2) s) ((ref15_SameGuards.H0 e4_1 e4_2) s)
def ref15_SameGuards.b0 (e4_1 : (List T_s227)) (e4_2 : (List T_s227))   (k : Bool → Option Ω) (r4 : Int → Option Ω) (s4 : Int) : Option Ω :=
 bif (decide (s4 < ((List.length e4_1 : Nat) : Int))) then
 bif (idxOK s4 (List.length e4_1)) then
 bif (idxOK s4 (List.length e4_2)) then
 let v1 : Bool := (!(eqI E_s227 (List.getD e4_1 (Int.toNat s4) (0, (0, (0, (0, (0, ())))))) (List.getD e4_2 (Int.toNat s4) (0, (0, (0, (0, (0, ()))))))))
 bif v1 then
 k false
 else
 r4 ((IntKind.wrap .i64 (s4 + 1)))
 else
 none
 else
 none
 else
 k true
theorem ref15_SameGuards.l0 (fuel : Nat) (e4_1 : (List T_s227)) (e4_2 : (List T_s227))  (k : AV → Option Ω) : ∀ m, (ref15_SameGuards.M0 fuel e4_1 e4_2  k m) = iter (ref15_SameGuards.b0 e4_1 e4_2  (fun r => k (tupAV .bool [] r))) m :=
 loopK_iter (envOf := (ref15_SameGuards.E0 e4_1 e4_2)) (LOf := (ref15_SameGuards.H0 e4_1 e4_2)) (B := ref15_SameGuards.b0 e4_1 e4_2  (fun r => k (tupAV .bool [] r))) (fun R s => by kernel_rfl)
def ref15_SameGuards.sl (x0 : (List T_s227)) (x1 : (List T_s227)) (lp0 : (List T_s227) → (List T_s227) → Int → Option Ω) (k : Bool → Option Ω) : Option Ω :=
 bif (((List.length x0 : Nat) : Int) != ((List.length x1 : Nat) : Int)) then
 k false
 else
 lp0 x0 x1 (0)
def ref15_SameGuards.g0 (e4_1 : (List T_s227)) (e4_2 : (List T_s227))  (k : Bool → Option Ω) : List T_s227 → Int → Option Ω
 | [], i4 =>
 k true
 | x4 :: xs4, i4 =>
 bif (idxOK i4 (List.length e4_2)) then
 let v1 : Bool := (!(eqI E_s227 x4 (List.getD e4_2 (Int.toNat i4) (0, (0, (0, (0, (0, ()))))))))
 bif v1 then
 k false
 else
 ref15_SameGuards.g0 e4_1 e4_2  k xs4 (i4 + 1)
 else
 none
theorem ref15_SameGuards.h0 (e4_1 : (List T_s227)) (e4_2 : (List T_s227))   (k : Bool → Option Ω) (hX : ((List.length e4_1 : Nat) : Int) ≤ 9223372036854775807) : ∀ (m : Nat) (i : Int) (a : Unit), 0 ≤ i → i ≤ ((List.length e4_1 : Nat) : Int) → ((List.length e4_1 : Nat) : Int) < m + i → Le (ref15_SameGuards.g0 e4_1 e4_2  k (List.drop (Int.toNat i) e4_1) i) (iter (ref15_SameGuards.b0 e4_1 e4_2  k) m (i)) :=
 iter_list e4_1 (0, (0, (0, (0, (0, ()))))) (fun (i4 : Int) (a4 : Unit) => (i4)) (fun xs i4 a4 => ref15_SameGuards.g0 e4_1 e4_2  k xs i4) (ref15_SameGuards.b0 e4_1 e4_2  k)
 (fun i4 a4 r h0 => (Le.fls h0 (Le.refl _)))
 (fun i4 xs4 a4 r h0 h1 hw ih => (Le.tru h0 (Le.tru h1 (Le.cond (let v1 : Bool := (!(eqI E_s227 (List.getD e4_1 (Int.toNat i4) (0, (0, (0, (0, (0, ())))))) (List.getD e4_2 (Int.toNat i4) (0, (0, (0, (0, (0, ())))))))); (Le.cond (Le.refl _) (ih _ hw ()))) Le.nil))))
 hX
def ref15_SameGuards.w (x0 : (List T_s227)) (x1 : (List T_s227)) (k : Bool → Option Ω) : Option Ω :=
 bif (((List.length x0 : Nat) : Int) != ((List.length x1 : Nat) : Int)) then
 k false
 else
 bif decide (((List.length x0 : Nat) : Int) ≤ 4611686018427387904) then ref15_SameGuards.g0 x0 x1  k x0 0 else none
theorem ref15_SameGuards.ev (fuel : Nat) (x0 : (List T_s227)) (x1 : (List T_s227)) (k : AV → Option Ω) : evFn CDEKP (spE (C := CDEKP) [] []) (ref15_SameGuards.F fuel) Tryz.f184 (Tryz.f184.body.getD .skip) [(.v (.slice E_s227) (x0)), (.v (.slice E_s227) (x1))] k = ref15_SameGuards.sl x0 x1 (fun e4_1 e4_2 => (ref15_SameGuards.M0 fuel e4_1 e4_2  k fuel)) (fun r => k (tupAV .bool [] r)) := by kernel_rfl
theorem ref15_SameGuards.le (x0 : (List T_s227)) (x1 : (List T_s227)) (k : AV → Option Ω) : Le (ref15_SameGuards.w x0 x1 (fun r => k (tupAV .bool [] r))) (ref15_SameGuards.sl x0 x1 (fun e4_1 e4_2 => (ref15_SameGuards.M0 BIG e4_1 e4_2  k BIG)) (fun r => k (tupAV .bool [] r))) := by
 have h1 := funext fun (e4_1 : (List T_s227)) => funext fun (e4_2 : (List T_s227)) => ref15_SameGuards.l0 BIG e4_1 e4_2   k BIG
 rw [h1]
 delta ref15_SameGuards.w ref15_SameGuards.sl
 exact (Le.cond (Le.refl _) (Le.gd fun hg => ref15_SameGuards.h0 _ _   _ (le_up (of_decide_eq_true hg)) BIG 0 () (by decide) (zero_le_len _) (big_list (of_decide_eq_true hg))))
def ref15_SameGuards.u (x0 : (List T_s227)) (x1 : (List T_s227)) : Option (Bool) := ref15_SameGuards.w x0 x1 some
noncomputable def ref15_SameGuards.n : En CDEKP := mkE CDEKP_ok (es := []) (ms := []) (fuel := (ref15_SameGuards.F BIG)) 184 Tryz.f184 [.ai (.slice E_s227), .ai (.slice E_s227)] .bool [] (fun x {Ω} k => ref15_SameGuards.w x.1 x.2.1 k) (fun x Ω k => leV (ref15_SameGuards.ev BIG x.1 x.2.1 k) (ref15_SameGuards.le x.1 x.2.1 k)) (by kernel_rfl) (by kernel_rfl)
def ref16_Fine.s (x0 : Int) (k : Bool → Option Ω) : Option Ω :=
 bif (decide (x0 ≥ 0)) then
 k (decide (x0 ≤ 255))
 else
 k false
def ref16_Fine.t (x0 : Int) : Bool :=
 bif (decide (x0 ≥ 0)) then
 (decide (x0 ≤ 255))
 else
 false
theorem ref16_Fine.v (x0 : Int) (k : Bool → Option Ω) : ref16_Fine.s x0 k = k (ref16_Fine.t x0) := by
 delta ref16_Fine.s ref16_Fine.t; exact (cond_tot rfl rfl)
noncomputable def ref16_Fine.n : En CDEKP := mkT CDEKP_ok (es := []) (ms := []) (fuel := ⟨1, fun _ => []⟩) 180 Tryz.f180 [.ai (.int .i64)] .bool [] (fun x {Ω} k => ref16_Fine.s x.1 k) (fun x => ref16_Fine.t x.1) (fun x Ω k => by kernel_rfl) (fun x => ref16_Fine.v x.1 some) (by kernel_rfl) (by kernel_rfl)
def poison_Fine.s (x0 : Int) (k : Bool → Option Ω) : Option Ω :=
 bif (decide (x0 ≥ 0)) then
 k (decide (x0 ≤ 255))
 else
 k false
def poison_Fine.t (x0 : Int) : Bool :=
 bif (decide (x0 ≥ 0)) then
 (decide (x0 ≤ 255))
 else
 false
theorem poison_Fine.v (x0 : Int) (k : Bool → Option Ω) : poison_Fine.s x0 k = k (poison_Fine.t x0) := by
 delta poison_Fine.s poison_Fine.t; exact (cond_tot rfl rfl)
noncomputable def poison_Fine.n : En CDEKP := mkT CDEKP_ok (es := []) (ms := []) (fuel := ⟨1, fun _ => []⟩) 190 Tryz.f190 [.ai (.int .i64)] .bool [] (fun x {Ω} k => poison_Fine.s x.1 k) (fun x => poison_Fine.t x.1) (fun x Ω k => by kernel_rfl) (fun x => poison_Fine.v x.1 some) (by kernel_rfl) (by kernel_rfl)
def ref17_At.g0 (e2_1 : (List Int)) (e2_2 : Int)  (k : Int → Option Ω) : List Int → Int → Option Ω
 | [], i2 =>
 k (-1)
 | x2 :: xs2, i2 =>
 bif (x2 == e2_2) then
 k i2
 else
 ref17_At.g0 e2_1 e2_2  k xs2 (i2 + 1)
def slices_Index_int_int.F (fuel : Nat) : Fuel := ⟨fuel, fun r => bif r == 2 then mL 0 19 523900 else []⟩
noncomputable def slices_Index_int_int.V (fuel c : Nat) (env : List AV) (L : Heap) (k : Kont Ω) : Option Ω := evCode CDEKP (spE (C := CDEKP) [] []) (slices_Index_int_int.F fuel) (pCo c Tryz.f131) env L k
def slices_Index_int_int.E0 (e2_1 : (List Int)) (e2_2 : Int) (e2_3 : Int) (s2 : Int) : List AV := ((.v (.slice (.int .i64)) (e2_1)) :: (.v (.int .i64) (e2_2)) :: dZ 5 ((.v (.int .i64) (e2_3)) :: (.v (.int .i64) (s2)) :: dZ 10 ([])))
def slices_Index_int_int.H0 (e2_1 : (List Int)) (e2_2 : Int) (e2_3 : Int) (s2 : Int) : Heap := []
noncomputable def slices_Index_int_int.M0 (fuel : Nat) (e2_1 : (List Int)) (e2_2 : Int) (e2_3 : Int)  (k : AV → Option Ω) (m : Nat) (s : Int) : Option Ω := loopK (slices_Index_int_int.V fuel 37) (mB 19 523900) [] 0 (blockK 0 (sqK (slices_Index_int_int.V fuel 7) (finK CDEKP Tryz.f131 k))) m ((slices_Index_int_int.E0 e2_1 e2_2 e2_3) s) ((slices_Index_int_int.H0 e2_1 e2_2 e2_3) s)
def slices_Index_int_int.b0 (e2_1 : (List Int)) (e2_2 : Int) (e2_3 : Int)   (k : Int → Option Ω) (r2 : Int → Option Ω) (s2 : Int) : Option Ω :=
 bif (decide (s2 < e2_3)) then
 bif (idxOK s2 (List.length e2_1)) then
 bif (e2_2 == (List.getD e2_1 (Int.toNat s2) 0)) then
 k s2
 else
 r2 ((IntKind.wrap .i64 (s2 + 1)))
 else
 none
 else
 k (-1)
theorem slices_Index_int_int.l0 (fuel : Nat) (e2_1 : (List Int)) (e2_2 : Int) (e2_3 : Int)  (k : AV → Option Ω) : ∀ m, (slices_Index_int_int.M0 fuel e2_1 e2_2 e2_3  k m) = iter (slices_Index_int_int.b0 e2_1 e2_2 e2_3  (fun r => k (tupAV (.int .i64) [] r))) m :=
 loopK_iter (envOf := (slices_Index_int_int.E0 e2_1 e2_2 e2_3)) (LOf := (slices_Index_int_int.H0 e2_1 e2_2 e2_3)) (B := slices_Index_int_int.b0 e2_1 e2_2 e2_3  (fun r => k (tupAV (.int .i64) [] r))) (fun R s => by kernel_rfl)
def slices_Index_int_int.sl (x0 : (List Int)) (x1 : Int) (lp0 : (List Int) → Int → Int → Int → Option Ω) (k : Int → Option Ω) : Option Ω :=
 lp0 x0 x1 (((List.length x0 : Nat) : Int)) (0)
def slices_Index_int_int.g0 (e2_1 : (List Int)) (e2_2 : Int)  (k : Int → Option Ω) : List Int → Int → Option Ω
 | [], i2 =>
 k (-1)
 | x2 :: xs2, i2 =>
 bif (e2_2 == x2) then
 k i2
 else
 slices_Index_int_int.g0 e2_1 e2_2  k xs2 (i2 + 1)
theorem slices_Index_int_int.h0 (e2_1 : (List Int)) (e2_2 : Int)   (k : Int → Option Ω) (hX : ((List.length e2_1 : Nat) : Int) ≤ 9223372036854775807) : ∀ (m : Nat) (i : Int) (a : Unit), 0 ≤ i → i ≤ ((List.length e2_1 : Nat) : Int) → ((List.length e2_1 : Nat) : Int) < m + i → Le (slices_Index_int_int.g0 e2_1 e2_2  k (List.drop (Int.toNat i) e2_1) i) (iter (slices_Index_int_int.b0 e2_1 e2_2 (((List.length e2_1 : Nat) : Int))  k) m (i)) :=
 iter_list e2_1 0 (fun (i2 : Int) (a2 : Unit) => (i2)) (fun xs i2 a2 => slices_Index_int_int.g0 e2_1 e2_2  k xs i2) (slices_Index_int_int.b0 e2_1 e2_2 (((List.length e2_1 : Nat) : Int))  k)
 (fun i2 a2 r h0 => (Le.fls h0 (Le.refl _)))
 (fun i2 xs2 a2 r h0 h1 hw ih => (Le.tru h0 (Le.tru h1 (Le.cond (Le.refl _) (ih _ hw ())))))
 hX
def slices_Index_int_int.w (x0 : (List Int)) (x1 : Int) (k : Int → Option Ω) : Option Ω :=
 bif decide (((List.length x0 : Nat) : Int) ≤ 4611686018427387904) then slices_Index_int_int.g0 x0 x1  k x0 0 else none
theorem slices_Index_int_int.ev (fuel : Nat) (x0 : (List Int)) (x1 : Int) (k : AV → Option Ω) : evFn CDEKP (spE (C := CDEKP) [] []) (slices_Index_int_int.F fuel) Tryz.f131 (Tryz.f131.body.getD .skip) [(.v (.slice (.int .i64)) (x0)), (.v (.int .i64) (x1))] k = slices_Index_int_int.sl x0 x1 (fun e2_1 e2_2 e2_3 => (slices_Index_int_int.M0 fuel e2_1 e2_2 e2_3  k fuel)) (fun r => k (tupAV (.int .i64) [] r)) := by kernel_rfl
theorem slices_Index_int_int.le (x0 : (List Int)) (x1 : Int) (k : AV → Option Ω) : Le (slices_Index_int_int.w x0 x1 (fun r => k (tupAV (.int .i64) [] r))) (slices_Index_int_int.sl x0 x1 (fun e2_1 e2_2 e2_3 => (slices_Index_int_int.M0 BIG e2_1 e2_2 e2_3  k BIG)) (fun r => k (tupAV (.int .i64) [] r))) := by
 have h1 := funext fun (e2_1 : (List Int)) => funext fun (e2_2 : Int) => funext fun (e2_3 : Int) => slices_Index_int_int.l0 BIG e2_1 e2_2 e2_3   k BIG
 rw [h1]
 delta slices_Index_int_int.w slices_Index_int_int.sl
 exact (Le.gd fun hg => slices_Index_int_int.h0 _ _   _ (le_up (of_decide_eq_true hg)) BIG 0 () (by decide) (zero_le_len _) (big_list (of_decide_eq_true hg)))
def slices_Index_int_int.u (x0 : (List Int)) (x1 : Int) : Option (Int) := slices_Index_int_int.w x0 x1 some
noncomputable def slices_Index_int_int.n : En CDEKP := mkE CDEKP_ok (es := []) (ms := []) (fuel := (slices_Index_int_int.F BIG)) 131 Tryz.f131 [.ai (.slice (.int .i64)), .ai (.int .i64)] (.int .i64) [] (fun x {Ω} k => slices_Index_int_int.w x.1 x.2.1 k) (fun x Ω k => leV (slices_Index_int_int.ev BIG x.1 x.2.1 k) (slices_Index_int_int.le x.1 x.2.1 k)) (by kernel_rfl) (by kernel_rfl)
def slices_Contains_int_int.s (x0 : (List Int)) (x1 : Int) (k : Bool → Option Ω) : Option Ω :=
 (slices_Index_int_int.u x0 x1).bind fun y1 =>
 k (decide (y1 ≥ 0))
noncomputable def slices_Contains_int_int.n : En CDEKP := mkE CDEKP_ok (es := [slices_Index_int_int.n]) (ms := []) (fuel := ⟨1, fun _ => []⟩) 237 Tryz.f237 [.ai (.slice (.int .i64)), .ai (.int .i64)] .bool [] (fun x {Ω} k => slices_Contains_int_int.s x.1 x.2.1 k) (fun x Ω k => Le.of (by kernel_rfl)) (by kernel_rfl) (by kernel_rfl)
def channel_Check.s (x0 : T_s110) (k : Int → Option Ω) : Option Ω :=
 (bif (decide (x0.1 < 0)) then some (true, ()) else some ((decide (x0.1 > 3)), ())).bind fun j1 =>
 bif j1.1 then
 k 12
 else
 (bif (decide (x0.2.1 < 0)) then some (true, ()) else (bif (decide (x0.2.1 > 8)) then some (true, ()) else (bif (!(poison_Fine.t x0.2.2.1)) then some (true, ()) else some ((!(poison_Fine.t x0.2.2.2.1)), ())))).bind fun j2 =>
 bif j2.1 then
 k 8
 else
 k 0
def channel_Check.t (x0 : T_s110) : Int :=
 let j1 : Bool × Unit := (bif (decide (x0.1 < 0)) then (true, ()) else ((decide (x0.1 > 3)), ()))
 bif j1.1 then
 12
 else
 let j2 : Bool × Unit := (bif (decide (x0.2.1 < 0)) then (true, ()) else (bif (decide (x0.2.1 > 8)) then (true, ()) else (bif (!(poison_Fine.t x0.2.2.1)) then (true, ()) else ((!(poison_Fine.t x0.2.2.2.1)), ()))))
 bif j2.1 then
 8
 else
 0
theorem channel_Check.v (x0 : T_s110) (k : Int → Option Ω) : channel_Check.s x0 k = k (channel_Check.t x0) := by
 delta channel_Check.s channel_Check.t; exact (join_tot (cond_some rfl rfl) (cond_tot rfl (join_tot (cond_some rfl (cond_some rfl (cond_some rfl rfl))) (cond_tot rfl rfl))))
noncomputable def channel_Check.n : En CDEKP := mkT CDEKP_ok (es := [poison_Fine.n]) (ms := []) (fuel := ⟨1, fun r => bif r == 2000003 then [13, 14, 15, 16, 17, 18, 19, 20, 21, 22, 23, 24, 25, 26, 27, 28, 29, 30, 31, 32, 5012] else bif r == 2000001 then [4, 5, 6, 7, 8, 9, 10, 11, 5003] else []⟩) 166 Tryz.f166 [.ai E_s110] (.int .i64) [] (fun x {Ω} k => channel_Check.s x.1 k) (fun x => channel_Check.t x.1) (fun x Ω k => by kernel_rfl) (fun x => channel_Check.v x.1 some) (by kernel_rfl) (by kernel_rfl)
def channel_shares.s (x0 : T_s110) (x1 : Int) (k : Bool → Option Ω) : Option Ω :=
 let v1 : Int := (IntKind.wrap .i64 (BitVec.ofInt (IntKind.bits .i64) x0.1 &&& BitVec.ofInt (IntKind.bits .i64) x1).toNat)
 k (v1 != 0)
def channel_shares.t (x0 : T_s110) (x1 : Int) : Bool :=
 let v1 : Int := (IntKind.wrap .i64 (BitVec.ofInt (IntKind.bits .i64) x0.1 &&& BitVec.ofInt (IntKind.bits .i64) x1).toNat)
 (v1 != 0)
theorem channel_shares.v (x0 : T_s110) (x1 : Int) (k : Bool → Option Ω) : channel_shares.s x0 x1 k = k (channel_shares.t x0 x1) := by
 delta channel_shares.s channel_shares.t; exact rfl
noncomputable def channel_shares.n : En CDEKP := mkT CDEKP_ok (es := []) (ms := []) (fuel := ⟨1, fun _ => []⟩) 173 Tryz.f173 [.ai E_s110, .ai (.int .i64)] .bool [] (fun x {Ω} k => channel_shares.s x.1 x.2.1 k) (fun x => channel_shares.t x.1 x.2.1) (fun x Ω k => by kernel_rfl) (fun x => channel_shares.v x.1 x.2.1 some) (by kernel_rfl) (by kernel_rfl)
def channel_New.s (x0 : T_s110) (k : T_s114 × Int → Option Ω) : Option Ω :=
 bif ((channel_Check.t x0) != 0) then
 k (((0, (0, (0, (0, ())))), (0, ([], ((false, ([], ())), ([], ((false, ([], ())), ())))))), (channel_Check.t x0))
 else
 k ((x0, (0, ([], (((channel_shares.t x0 1), ([], ())), ([], (((channel_shares.t x0 2), ([], ())), ())))))), 0)
def channel_New.t (x0 : T_s110) : T_s114 × Int :=
 bif ((channel_Check.t x0) != 0) then
 (((0, (0, (0, (0, ())))), (0, ([], ((false, ([], ())), ([], ((false, ([], ())), ())))))), (channel_Check.t x0))
 else
 ((x0, (0, ([], (((channel_shares.t x0 1), ([], ())), ([], (((channel_shares.t x0 2), ([], ())), ())))))), 0)
theorem channel_New.v (x0 : T_s110) (k : T_s114 × Int → Option Ω) : channel_New.s x0 k = k (channel_New.t x0) := by
 delta channel_New.s channel_New.t; exact (cond_tot rfl rfl)
noncomputable def channel_New.n : En CDEKP := mkT CDEKP_ok (es := [channel_Check.n, channel_shares.n]) (ms := []) (fuel := ⟨1, fun _ => []⟩) 93 Tryz.f93 [.ai E_s110] E_s114 [(.int .i64)] (fun x {Ω} k => channel_New.s x.1 k) (fun x => channel_New.t x.1) (fun x Ω k => by kernel_rfl) (fun x => channel_New.v x.1 some) (by kernel_rfl) (by kernel_rfl)
def ref18_Check.s (x0 : T_s110) (k : Int → Option Ω) : Option Ω :=
 (bif (decide (x0.1 < 0)) then some (true, ()) else some ((decide (x0.1 > 3)), ())).bind fun j1 =>
 bif j1.1 then
 k 12
 else
 (bif (decide (x0.2.1 < 0)) then some (true, ()) else (bif (decide (x0.2.1 > 8)) then some (true, ()) else (bif (!(ref16_Fine.t x0.2.2.1)) then some (true, ()) else some ((!(ref16_Fine.t x0.2.2.2.1)), ())))).bind fun j2 =>
 bif j2.1 then
 k 8
 else
 k 0
def ref18_Check.t (x0 : T_s110) : Int :=
 let j1 : Bool × Unit := (bif (decide (x0.1 < 0)) then (true, ()) else ((decide (x0.1 > 3)), ()))
 bif j1.1 then
 12
 else
 let j2 : Bool × Unit := (bif (decide (x0.2.1 < 0)) then (true, ()) else (bif (decide (x0.2.1 > 8)) then (true, ()) else (bif (!(ref16_Fine.t x0.2.2.1)) then (true, ()) else ((!(ref16_Fine.t x0.2.2.2.1)), ()))))
 bif j2.1 then
 8
 else
 0
theorem ref18_Check.v (x0 : T_s110) (k : Int → Option Ω) : ref18_Check.s x0 k = k (ref18_Check.t x0) := by
 delta ref18_Check.s ref18_Check.t; exact (join_tot (cond_some rfl rfl) (cond_tot rfl (join_tot (cond_some rfl (cond_some rfl (cond_some rfl rfl))) (cond_tot rfl rfl))))
noncomputable def ref18_Check.n : En CDEKP := mkT CDEKP_ok (es := [ref16_Fine.n]) (ms := []) (fuel := ⟨1, fun r => bif r == 2000003 then [11, 12, 13, 14, 15, 16, 17, 18, 19, 20, 21, 22, 23, 24, 25, 26, 27, 28, 29, 5030] else bif r == 2000001 then [3, 4, 5, 6, 7, 8, 9, 5010] else []⟩) 105 Tryz.f105 [.ai E_s110] (.int .i64) [] (fun x {Ω} k => ref18_Check.s x.1 k) (fun x => ref18_Check.t x.1) (fun x Ω k => by kernel_rfl) (fun x => ref18_Check.v x.1 some) (by kernel_rfl) (by kernel_rfl)
def ref18_New.s (x0 : T_s110) (k : T_s114 × Int → Option Ω) : Option Ω :=
 bif ((ref18_Check.t x0) != 0) then
 k (((0, (0, (0, (0, ())))), (0, ([], ((false, ([], ())), ([], ((false, ([], ())), ())))))), (ref18_Check.t x0))
 else
 bif (x0.1 == 1) then
 k ((x0, (0, ([], ((true, ([], ())), ([], (((decide (x0.1 ≥ 2)), ([], ())), ())))))), 0)
 else
 k ((x0, (0, ([], (((x0.1 == 3), ([], ())), ([], (((decide (x0.1 ≥ 2)), ([], ())), ())))))), 0)
def ref18_New.t (x0 : T_s110) : T_s114 × Int :=
 bif ((ref18_Check.t x0) != 0) then
 (((0, (0, (0, (0, ())))), (0, ([], ((false, ([], ())), ([], ((false, ([], ())), ())))))), (ref18_Check.t x0))
 else
 bif (x0.1 == 1) then
 ((x0, (0, ([], ((true, ([], ())), ([], (((decide (x0.1 ≥ 2)), ([], ())), ())))))), 0)
 else
 ((x0, (0, ([], (((x0.1 == 3), ([], ())), ([], (((decide (x0.1 ≥ 2)), ([], ())), ())))))), 0)
theorem ref18_New.v (x0 : T_s110) (k : T_s114 × Int → Option Ω) : ref18_New.s x0 k = k (ref18_New.t x0) := by
 delta ref18_New.s ref18_New.t; exact (cond_tot rfl (cond_tot rfl rfl))
noncomputable def ref18_New.n : En CDEKP := mkT CDEKP_ok (es := [ref18_Check.n]) (ms := []) (fuel := ⟨1, fun _ => []⟩) 108 Tryz.f108 [.ai E_s110] E_s114 [(.int .i64)] (fun x {Ω} k => ref18_New.s x.1 k) (fun x => ref18_New.t x.1) (fun x Ω k => by kernel_rfl) (fun x => ref18_New.v x.1 some) (by kernel_rfl) (by kernel_rfl)
def law18_From.s (x0 : T_s114) (k : T_s114 → Option Ω) : Option Ω :=
 k (x0.1, (x0.2.1, (x0.2.2.1, (x0.2.2.2.1, (x0.2.2.2.2.1, (x0.2.2.2.2.2.1, ()))))))
def law18_From.t (x0 : T_s114) : T_s114 :=
 (x0.1, (x0.2.1, (x0.2.2.1, (x0.2.2.2.1, (x0.2.2.2.2.1, (x0.2.2.2.2.2.1, ()))))))
theorem law18_From.v (x0 : T_s114) (k : T_s114 → Option Ω) : law18_From.s x0 k = k (law18_From.t x0) := by
 delta law18_From.s law18_From.t; exact rfl
noncomputable def law18_From.n : En CDEKP := mkT CDEKP_ok (es := []) (ms := []) (fuel := ⟨1, fun _ => []⟩) 119 Tryz.f119 [.ai E_s114] E_s114 [] (fun x {Ω} k => law18_From.s x.1 k) (fun x => law18_From.t x.1) (fun x Ω k => by kernel_rfl) (fun x => law18_From.v x.1 some) (by kernel_rfl) (by kernel_rfl)
def chantab_New.F (fuel : Nat) : Fuel := ⟨fuel, fun r => bif r == 5 then mL 0 35 34359680991 else []⟩
noncomputable def chantab_New.V (fuel c : Nat) (env : List AV) (L : Heap) (k : Kont Ω) : Option Ω := evCode CDEKP (spE (C := CDEKP) [channel_New.n] []) (chantab_New.F fuel) (pCo c Tryz.f24) env L k
def chantab_New.E0 (e5_1 : (List T_s110)) (e5_2 : Int) (s5 : Int × (List T_s114)) : List AV := (dZ 5 ((.rs 1) :: dZ 7 ((.v (.slice E_s110) (e5_1)) :: (.v (.int .i64) (e5_2)) :: (.v (.int .i64) (s5.1)) :: dZ 19 ([]))))
def chantab_New.H0 (e5_1 : (List T_s110)) (e5_2 : Int) (s5 : Int × (List T_s114)) : Heap := [(.row 147 E_s114 [] false), (.row 147 E_s114 s5.2 false)]
noncomputable def chantab_New.M0 (fuel : Nat) (e5_1 : (List T_s110)) (e5_2 : Int)  (k : AV → Option Ω) (m : Nat) (s : Int × (List T_s114)) : Option Ω := loopK (chantab_New.V fuel 151) (mB 35 34359680991) [] 2 (blockK 0 (sqK (chantab_New.V fuel 31) (finK CDEKP Tryz.f24 k))) m ((chantab_New.E0 e5_1 e5_2) s) ((chantab_New.H0 e5_1 e5_2) s)
def chantab_New.b0 (e5_1 : (List T_s110)) (e5_2 : Int)   (k : (List T_s114) × Int × Int → Option Ω) (r5 : Int × (List T_s114) → Option Ω) (s5 : Int × (List T_s114)) : Option Ω :=
 bif (decide (s5.1 < e5_2)) then
 bif (idxOK s5.1 (List.length e5_1)) then
 let v1 : T_s114 × Int := (channel_New.t ((List.getD e5_1 (Int.toNat s5.1) (0, (0, (0, (0, ())))))))
 bif (v1.2 != 0) then
 k ([], s5.1, v1.2)
 else
 bif (decide (List.length s5.2 + List.length [v1.1] ≤ rowMax)) then
 r5 ((IntKind.wrap .i64 (s5.1 + 1)), (s5.2 ++ [v1.1]))
 else
 none
 else
 none
 else
 k (s5.2, 0, 0)
theorem chantab_New.l0 (fuel : Nat) (e5_1 : (List T_s110)) (e5_2 : Int)  (k : AV → Option Ω) : ∀ m, (chantab_New.M0 fuel e5_1 e5_2  k m) = iter (chantab_New.b0 e5_1 e5_2  (fun r => k (tupAV (.slice E_s114) [(.int .i64), (.int .i64)] r))) m :=
 loopK_iter (envOf := (chantab_New.E0 e5_1 e5_2)) (LOf := (chantab_New.H0 e5_1 e5_2)) (B := chantab_New.b0 e5_1 e5_2  (fun r => k (tupAV (.slice E_s114) [(.int .i64), (.int .i64)] r))) (fun R s => by kernel_rfl)
def chantab_New.sl (x0 : (List T_s110)) (lp0 : (List T_s110) → Int → Int × (List T_s114) → Option Ω) (k : (List T_s114) × Int × Int → Option Ω) : Option Ω :=
 bif (decide (((List.length x0 : Nat) : Int) > 8)) then
 k ([], 8, 5)
 else
 lp0 x0 (((List.length x0 : Nat) : Int)) (0, [])
def chantab_New.g0 (e5_1 : (List T_s110))  (k : (List T_s114) × Int × Int → Option Ω) : List T_s110 → Int → (List T_s114) → Option Ω
 | [], i5, a5_1 =>
 k (a5_1, 0, 0)
 | x5 :: xs5, i5, a5_1 =>
 let v1 : T_s114 × Int := (channel_New.t (x5))
 bif (v1.2 != 0) then
 k ([], i5, v1.2)
 else
 bif (decide (List.length a5_1 + List.length [v1.1] ≤ rowMax)) then
 chantab_New.g0 e5_1  k xs5 (i5 + 1) (a5_1 ++ [v1.1])
 else
 none
theorem chantab_New.h0 (e5_1 : (List T_s110))   (k : (List T_s114) × Int × Int → Option Ω) (hX : ((List.length e5_1 : Nat) : Int) ≤ 9223372036854775807) : ∀ (m : Nat) (i : Int) (a : (List T_s114)), 0 ≤ i → i ≤ ((List.length e5_1 : Nat) : Int) → ((List.length e5_1 : Nat) : Int) < m + i → Le (chantab_New.g0 e5_1  k (List.drop (Int.toNat i) e5_1) i a) (iter (chantab_New.b0 e5_1 (((List.length e5_1 : Nat) : Int))  k) m (i, a)) :=
 iter_list e5_1 (0, (0, (0, (0, ())))) (fun (i5 : Int) (a5 : (List T_s114)) => (i5, a5)) (fun xs i5 a5 => chantab_New.g0 e5_1  k xs i5 a5) (chantab_New.b0 e5_1 (((List.length e5_1 : Nat) : Int))  k)
 (fun i5 a5 r h0 => (Le.fls h0 (Le.refl _)))
 (fun i5 xs5 a5 r h0 h1 hw ih => (Le.tru h0 (Le.tru h1 (let v1 : T_s114 × Int := (channel_New.t ((List.getD e5_1 (Int.toNat i5) (0, (0, (0, (0, ()))))))); (Le.cond (Le.refl _) (Le.cond (ih _ hw ((a5 ++ [v1.1]))) Le.nil))))))
 hX
def chantab_New.w (x0 : (List T_s110)) (k : (List T_s114) × Int × Int → Option Ω) : Option Ω :=
 bif (decide (((List.length x0 : Nat) : Int) > 8)) then
 k ([], 8, 5)
 else
 bif decide (((List.length x0 : Nat) : Int) ≤ 4611686018427387904) then chantab_New.g0 x0  k x0 0 ([]) else none
theorem chantab_New.ev (fuel : Nat) (x0 : (List T_s110)) (k : AV → Option Ω) : evFn CDEKP (spE (C := CDEKP) [channel_New.n] []) (chantab_New.F fuel) Tryz.f24 (Tryz.f24.body.getD .skip) [(.v (.slice E_s110) (x0))] k = chantab_New.sl x0 (fun e5_1 e5_2 => (chantab_New.M0 fuel e5_1 e5_2  k fuel)) (fun r => k (tupAV (.slice E_s114) [(.int .i64), (.int .i64)] r)) := by kernel_rfl
theorem chantab_New.le (x0 : (List T_s110)) (k : AV → Option Ω) : Le (chantab_New.w x0 (fun r => k (tupAV (.slice E_s114) [(.int .i64), (.int .i64)] r))) (chantab_New.sl x0 (fun e5_1 e5_2 => (chantab_New.M0 BIG e5_1 e5_2  k BIG)) (fun r => k (tupAV (.slice E_s114) [(.int .i64), (.int .i64)] r))) := by
 have h1 := funext fun (e5_1 : (List T_s110)) => funext fun (e5_2 : Int) => chantab_New.l0 BIG e5_1 e5_2   k BIG
 rw [h1]
 delta chantab_New.w chantab_New.sl
 exact (Le.cond (Le.refl _) (Le.gd fun hg => chantab_New.h0 _   _ (le_up (of_decide_eq_true hg)) BIG 0 ([]) (by decide) (zero_le_len _) (big_list (of_decide_eq_true hg))))
def chantab_New.u (x0 : (List T_s110)) : Option ((List T_s114) × Int × Int) := chantab_New.w x0 some
noncomputable def chantab_New.n : En CDEKP := mkE CDEKP_ok (es := [channel_New.n]) (ms := []) (fuel := (chantab_New.F BIG)) 24 Tryz.f24 [.ai (.slice E_s110)] (.slice E_s114) [(.int .i64), (.int .i64)] (fun x {Ω} k => chantab_New.w x.1 k) (fun x Ω k => leV (chantab_New.ev BIG x.1 k) (chantab_New.le x.1 k)) (by kernel_rfl) (by kernel_rfl)
def ref19_New.F (fuel : Nat) : Fuel := ⟨fuel, fun r => bif r == 5 then mL 0 35 34359738270 else []⟩
noncomputable def ref19_New.V (fuel c : Nat) (env : List AV) (L : Heap) (k : Kont Ω) : Option Ω := evCode CDEKP (spE (C := CDEKP) [ref18_New.n] []) (ref19_New.F fuel) (pCo c Tryz.f30) env L k
def ref19_New.E0 (e5_1 : (List T_s110)) (s5 : Int × (List T_s114)) : List AV := ((.v (.slice E_s110) (e5_1)) :: dZ 4 ((.rs 1) :: (.v (.int .i64) (s5.1)) :: dZ 28 ([])))
def ref19_New.H0 (e5_1 : (List T_s110)) (s5 : Int × (List T_s114)) : Heap := [(.row 115 E_s114 [] false), (.row 115 E_s114 s5.2 false)]
noncomputable def ref19_New.M0 (fuel : Nat) (e5_1 : (List T_s110))  (k : AV → Option Ω) (m : Nat) (s : Int × (List T_s114)) : Option Ω := loopK (ref19_New.V fuel 151) (mB 35 34359738270) [] 2 (blockK 0 (sqK (ref19_New.V fuel 31) (finK CDEKP Tryz.f30 k))) m ((ref19_New.E0 e5_1) s) ((ref19_New.H0 e5_1) s)
def ref19_New.b0 (e5_1 : (List T_s110))   (k : (List T_s114) × Int × Int → Option Ω) (r5 : Int × (List T_s114) → Option Ω) (s5 : Int × (List T_s114)) : Option Ω :=
 bif (decide (s5.1 < ((List.length e5_1 : Nat) : Int))) then
 bif (idxOK s5.1 (List.length e5_1)) then
 let v1 : T_s114 × Int := (ref18_New.t ((List.getD e5_1 (Int.toNat s5.1) (0, (0, (0, (0, ())))))))
 bif (v1.2 != 0) then
 k ([], s5.1, v1.2)
 else
 bif (decide (List.length s5.2 + List.length [v1.1] ≤ rowMax)) then
 r5 ((IntKind.wrap .i64 (s5.1 + 1)), (s5.2 ++ [v1.1]))
 else
 none
 else
 none
 else
 k (s5.2, 0, 0)
theorem ref19_New.l0 (fuel : Nat) (e5_1 : (List T_s110))  (k : AV → Option Ω) : ∀ m, (ref19_New.M0 fuel e5_1  k m) = iter (ref19_New.b0 e5_1  (fun r => k (tupAV (.slice E_s114) [(.int .i64), (.int .i64)] r))) m :=
 loopK_iter (envOf := (ref19_New.E0 e5_1)) (LOf := (ref19_New.H0 e5_1)) (B := ref19_New.b0 e5_1  (fun r => k (tupAV (.slice E_s114) [(.int .i64), (.int .i64)] r))) (fun R s => by kernel_rfl)
def ref19_New.sl (x0 : (List T_s110)) (lp0 : (List T_s110) → Int × (List T_s114) → Option Ω) (k : (List T_s114) × Int × Int → Option Ω) : Option Ω :=
 bif (decide (((List.length x0 : Nat) : Int) > 8)) then
 k ([], 8, 5)
 else
 lp0 x0 (0, [])
def ref19_New.g0 (e5_1 : (List T_s110))  (k : (List T_s114) × Int × Int → Option Ω) : List T_s110 → Int → (List T_s114) → Option Ω
 | [], i5, a5_1 =>
 k (a5_1, 0, 0)
 | x5 :: xs5, i5, a5_1 =>
 let v1 : T_s114 × Int := (ref18_New.t (x5))
 bif (v1.2 != 0) then
 k ([], i5, v1.2)
 else
 bif (decide (List.length a5_1 + List.length [v1.1] ≤ rowMax)) then
 ref19_New.g0 e5_1  k xs5 (i5 + 1) (a5_1 ++ [v1.1])
 else
 none
theorem ref19_New.h0 (e5_1 : (List T_s110))   (k : (List T_s114) × Int × Int → Option Ω) (hX : ((List.length e5_1 : Nat) : Int) ≤ 9223372036854775807) : ∀ (m : Nat) (i : Int) (a : (List T_s114)), 0 ≤ i → i ≤ ((List.length e5_1 : Nat) : Int) → ((List.length e5_1 : Nat) : Int) < m + i → Le (ref19_New.g0 e5_1  k (List.drop (Int.toNat i) e5_1) i a) (iter (ref19_New.b0 e5_1  k) m (i, a)) :=
 iter_list e5_1 (0, (0, (0, (0, ())))) (fun (i5 : Int) (a5 : (List T_s114)) => (i5, a5)) (fun xs i5 a5 => ref19_New.g0 e5_1  k xs i5 a5) (ref19_New.b0 e5_1  k)
 (fun i5 a5 r h0 => (Le.fls h0 (Le.refl _)))
 (fun i5 xs5 a5 r h0 h1 hw ih => (Le.tru h0 (Le.tru h1 (let v1 : T_s114 × Int := (ref18_New.t ((List.getD e5_1 (Int.toNat i5) (0, (0, (0, (0, ()))))))); (Le.cond (Le.refl _) (Le.cond (ih _ hw ((a5 ++ [v1.1]))) Le.nil))))))
 hX
def ref19_New.w (x0 : (List T_s110)) (k : (List T_s114) × Int × Int → Option Ω) : Option Ω :=
 bif (decide (((List.length x0 : Nat) : Int) > 8)) then
 k ([], 8, 5)
 else
 bif decide (((List.length x0 : Nat) : Int) ≤ 4611686018427387904) then ref19_New.g0 x0  k x0 0 ([]) else none
theorem ref19_New.ev (fuel : Nat) (x0 : (List T_s110)) (k : AV → Option Ω) : evFn CDEKP (spE (C := CDEKP) [ref18_New.n] []) (ref19_New.F fuel) Tryz.f30 (Tryz.f30.body.getD .skip) [(.v (.slice E_s110) (x0))] k = ref19_New.sl x0 (fun e5_1 => (ref19_New.M0 fuel e5_1  k fuel)) (fun r => k (tupAV (.slice E_s114) [(.int .i64), (.int .i64)] r)) := by kernel_rfl
theorem ref19_New.le (x0 : (List T_s110)) (k : AV → Option Ω) : Le (ref19_New.w x0 (fun r => k (tupAV (.slice E_s114) [(.int .i64), (.int .i64)] r))) (ref19_New.sl x0 (fun e5_1 => (ref19_New.M0 BIG e5_1  k BIG)) (fun r => k (tupAV (.slice E_s114) [(.int .i64), (.int .i64)] r))) := by
 have h1 := funext fun (e5_1 : (List T_s110)) => ref19_New.l0 BIG e5_1   k BIG
 rw [h1]
 delta ref19_New.w ref19_New.sl
 exact (Le.cond (Le.refl _) (Le.gd fun hg => ref19_New.h0 _   _ (le_up (of_decide_eq_true hg)) BIG 0 ([]) (by decide) (zero_le_len _) (big_list (of_decide_eq_true hg))))
def ref19_New.u (x0 : (List T_s110)) : Option ((List T_s114) × Int × Int) := ref19_New.w x0 some
noncomputable def ref19_New.n : En CDEKP := mkE CDEKP_ok (es := [ref18_New.n]) (ms := []) (fuel := (ref19_New.F BIG)) 30 Tryz.f30 [.ai (.slice E_s110)] (.slice E_s114) [(.int .i64), (.int .i64)] (fun x {Ω} k => ref19_New.w x.1 k) (fun x Ω k => leV (ref19_New.ev BIG x.1 k) (ref19_New.le x.1 k)) (by kernel_rfl) (by kernel_rfl)
def law19_From.F (fuel : Nat) : Fuel := ⟨fuel, fun r => bif r == 3 then mL 0 19 523831 else []⟩
noncomputable def law19_From.V (fuel c : Nat) (env : List AV) (L : Heap) (k : Kont Ω) : Option Ω := evCode CDEKP (spE (C := CDEKP) [law18_From.n] []) (law19_From.F fuel) (pCo c Tryz.f41) env L k
def law19_From.E0 (e3_1 : (List T_s114)) (e3_2 : Int) (s3 : Int × (List T_s114)) : List AV := (dZ 3 ((.rs 1) :: dZ 2 ((.v (.slice E_s114) (e3_1)) :: (.v (.int .i64) (e3_2)) :: (.v (.int .i64) (s3.1)) :: dZ 10 ([]))))
def law19_From.H0 (e3_1 : (List T_s114)) (e3_2 : Int) (s3 : Int × (List T_s114)) : Heap := [(.row 115 E_s114 [] false), (.row 115 E_s114 s3.2 false)]
noncomputable def law19_From.M0 (fuel : Nat) (e3_1 : (List T_s114)) (e3_2 : Int)  (k : AV → Option Ω) (m : Nat) (s : Int × (List T_s114)) : Option Ω := loopK (law19_From.V fuel 75) (mB 19 523831) [] 2 (blockK 0 (sqK (law19_From.V fuel 15) (finK CDEKP Tryz.f41 k))) m ((law19_From.E0 e3_1 e3_2) s) ((law19_From.H0 e3_1 e3_2) s)
def law19_From.b0 (e3_1 : (List T_s114)) (e3_2 : Int)   (k : (List T_s114) → Option Ω) (r3 : Int × (List T_s114) → Option Ω) (s3 : Int × (List T_s114)) : Option Ω :=
 bif (decide (s3.1 < e3_2)) then
 bif (idxOK s3.1 (List.length e3_1)) then
 let v1 : T_s114 := (List.getD e3_1 (Int.toNat s3.1) ((0, (0, (0, (0, ())))), (0, ([], ((false, ([], ())), ([], ((false, ([], ())), ())))))))
 bif (decide (List.length s3.2 + List.length [(law18_From.t v1)] ≤ rowMax)) then
 r3 ((IntKind.wrap .i64 (s3.1 + 1)), (s3.2 ++ [(law18_From.t v1)]))
 else
 none
 else
 none
 else
 k s3.2
theorem law19_From.l0 (fuel : Nat) (e3_1 : (List T_s114)) (e3_2 : Int)  (k : AV → Option Ω) : ∀ m, (law19_From.M0 fuel e3_1 e3_2  k m) = iter (law19_From.b0 e3_1 e3_2  (fun r => k (tupAV (.slice E_s114) [] r))) m :=
 loopK_iter (envOf := (law19_From.E0 e3_1 e3_2)) (LOf := (law19_From.H0 e3_1 e3_2)) (B := law19_From.b0 e3_1 e3_2  (fun r => k (tupAV (.slice E_s114) [] r))) (fun R s => by kernel_rfl)
def law19_From.sl (x0 : (List T_s114)) (lp0 : (List T_s114) → Int → Int × (List T_s114) → Option Ω) (k : (List T_s114) → Option Ω) : Option Ω :=
 lp0 x0 (((List.length x0 : Nat) : Int)) (0, [])
def law19_From.g0 (e3_1 : (List T_s114))  (k : (List T_s114) → Option Ω) : List T_s114 → (List T_s114) → Option Ω
 | [], a3_1 =>
 k a3_1
 | x3 :: xs3, a3_1 =>
 let v1 : T_s114 := x3
 bif (decide (List.length a3_1 + List.length [(law18_From.t v1)] ≤ rowMax)) then
 law19_From.g0 e3_1  k xs3 ((a3_1 ++ [(law18_From.t v1)]))
 else
 none
theorem law19_From.h0 (e3_1 : (List T_s114))   (k : (List T_s114) → Option Ω) (hX : ((List.length e3_1 : Nat) : Int) ≤ 9223372036854775807) : ∀ (m : Nat) (i : Int) (a : (List T_s114)), 0 ≤ i → i ≤ ((List.length e3_1 : Nat) : Int) → ((List.length e3_1 : Nat) : Int) < m + i → Le (law19_From.g0 e3_1  k (List.drop (Int.toNat i) e3_1) a) (iter (law19_From.b0 e3_1 (((List.length e3_1 : Nat) : Int))  k) m (i, a)) :=
 iter_list e3_1 ((0, (0, (0, (0, ())))), (0, ([], ((false, ([], ())), ([], ((false, ([], ())), ())))))) (fun (i3 : Int) (a3 : (List T_s114)) => (i3, a3)) (fun xs i3 a3 => law19_From.g0 e3_1  k xs a3) (law19_From.b0 e3_1 (((List.length e3_1 : Nat) : Int))  k)
 (fun i3 a3 r h0 => (Le.fls h0 (Le.refl _)))
 (fun i3 xs3 a3 r h0 h1 hw ih => (Le.tru h0 (Le.tru h1 (let v1 : T_s114 := (List.getD e3_1 (Int.toNat i3) ((0, (0, (0, (0, ())))), (0, ([], ((false, ([], ())), ([], ((false, ([], ())), ()))))))); (Le.cond (ih _ hw ((a3 ++ [(law18_From.t v1)]))) Le.nil)))))
 hX
def law19_From.w (x0 : (List T_s114)) (k : (List T_s114) → Option Ω) : Option Ω :=
 bif decide (((List.length x0 : Nat) : Int) ≤ 4611686018427387904) then law19_From.g0 x0  k x0 ([]) else none
theorem law19_From.ev (fuel : Nat) (x0 : (List T_s114)) (k : AV → Option Ω) : evFn CDEKP (spE (C := CDEKP) [law18_From.n] []) (law19_From.F fuel) Tryz.f41 (Tryz.f41.body.getD .skip) [(.v (.slice E_s114) (x0))] k = law19_From.sl x0 (fun e3_1 e3_2 => (law19_From.M0 fuel e3_1 e3_2  k fuel)) (fun r => k (tupAV (.slice E_s114) [] r)) := by kernel_rfl
theorem law19_From.le (x0 : (List T_s114)) (k : AV → Option Ω) : Le (law19_From.w x0 (fun r => k (tupAV (.slice E_s114) [] r))) (law19_From.sl x0 (fun e3_1 e3_2 => (law19_From.M0 BIG e3_1 e3_2  k BIG)) (fun r => k (tupAV (.slice E_s114) [] r))) := by
 have h1 := funext fun (e3_1 : (List T_s114)) => funext fun (e3_2 : Int) => law19_From.l0 BIG e3_1 e3_2   k BIG
 rw [h1]
 delta law19_From.w law19_From.sl
 exact (Le.gd fun hg => law19_From.h0 _   _ (le_up (of_decide_eq_true hg)) BIG 0 ([]) (by decide) (zero_le_len _) (big_list (of_decide_eq_true hg)))
def law19_From.u (x0 : (List T_s114)) : Option ((List T_s114)) := law19_From.w x0 some
noncomputable def law19_From.n : En CDEKP := mkE CDEKP_ok (es := [law18_From.n]) (ms := []) (fuel := (law19_From.F BIG)) 41 Tryz.f41 [.ai (.slice E_s114)] (.slice E_s114) [] (fun x {Ω} k => law19_From.w x.1 k) (fun x Ω k => leV (law19_From.ev BIG x.1 k) (law19_From.le x.1 k)) (by kernel_rfl) (by kernel_rfl)
def phase_Fine.s (x0 : Int) (x1 : Int) (k : Bool → Option Ω) : Option Ω :=
 bif (decide (x1 ≥ 1)) then
 bif (decide (x1 ≤ 65535)) then
 bif (decide (x0 ≥ 0)) then
 k (decide (x0 ≤ x1))
 else
 k false
 else
 k false
 else
 k false
def phase_Fine.t (x0 : Int) (x1 : Int) : Bool :=
 bif (decide (x1 ≥ 1)) then
 bif (decide (x1 ≤ 65535)) then
 bif (decide (x0 ≥ 0)) then
 (decide (x0 ≤ x1))
 else
 false
 else
 false
 else
 false
theorem phase_Fine.v (x0 : Int) (x1 : Int) (k : Bool → Option Ω) : phase_Fine.s x0 x1 k = k (phase_Fine.t x0 x1) := by
 delta phase_Fine.s phase_Fine.t; exact (cond_tot (cond_tot (cond_tot rfl rfl) rfl) rfl)
noncomputable def phase_Fine.n : En CDEKP := mkT CDEKP_ok (es := []) (ms := []) (fuel := ⟨1, fun _ => []⟩) 195 Tryz.f195 [.ai (.int .i64), .ai (.int .i64)] .bool [] (fun x {Ω} k => phase_Fine.s x.1 x.2.1 k) (fun x => phase_Fine.t x.1 x.2.1) (fun x Ω k => by kernel_rfl) (fun x => phase_Fine.v x.1 x.2.1 some) (by kernel_rfl) (by kernel_rfl)
def ref20_Fine.s (x0 : Int) (x1 : Int) (k : Bool → Option Ω) : Option Ω :=
 bif (decide (x1 ≥ 1)) then
 bif (decide (x1 ≤ 65535)) then
 bif (decide (x0 ≥ 0)) then
 k (decide (x0 ≤ x1))
 else
 k false
 else
 k false
 else
 k false
def ref20_Fine.t (x0 : Int) (x1 : Int) : Bool :=
 bif (decide (x1 ≥ 1)) then
 bif (decide (x1 ≤ 65535)) then
 bif (decide (x0 ≥ 0)) then
 (decide (x0 ≤ x1))
 else
 false
 else
 false
 else
 false
theorem ref20_Fine.v (x0 : Int) (x1 : Int) (k : Bool → Option Ω) : ref20_Fine.s x0 x1 k = k (ref20_Fine.t x0 x1) := by
 delta ref20_Fine.s ref20_Fine.t; exact (cond_tot (cond_tot (cond_tot rfl rfl) rfl) rfl)
noncomputable def ref20_Fine.n : En CDEKP := mkT CDEKP_ok (es := []) (ms := []) (fuel := ⟨1, fun _ => []⟩) 203 Tryz.f203 [.ai (.int .i64), .ai (.int .i64)] .bool [] (fun x {Ω} k => ref20_Fine.s x.1 x.2.1 k) (fun x => ref20_Fine.t x.1 x.2.1) (fun x Ω k => by kernel_rfl) (fun x => ref20_Fine.v x.1 x.2.1 some) (by kernel_rfl) (by kernel_rfl)
def roll_Fine.s (x0 : T_s153) (k : Bool → Option Ω) : Option Ω :=
 (bitset_Sub.u x0.1 everybodyT).bind fun y1 =>
 bif y1 then
 (bitset_Sub.u x0.2.1 x0.1).bind fun y2 =>
 k y2
 else
 k false
def roll_Fine.u (x0 : T_s153) : Option (Bool) := roll_Fine.s x0 some
noncomputable def roll_Fine.n : En CDEKP := mkE CDEKP_ok (es := [bitset_Sub.n]) (ms := []) (fuel := ⟨1, fun _ => []⟩) 196 Tryz.f196 [.ai E_s153] .bool [] (fun x {Ω} k => roll_Fine.s x.1 k) (fun x Ω k => Le.of (by kernel_rfl)) (by kernel_rfl) (by kernel_rfl)
def roll_asked.s (x0 : T_s153) (x1 : Int) (k : Int → Option Ω) : Option Ω :=
 (roll_Fine.u x0).bind fun y1 =>
 bif (!y1) then
 k 1
 else
 (bitset_Has.u everybodyT x1).bind fun y2 =>
 bif (!y2) then
 k 8
 else
 k 0
def roll_asked.u (x0 : T_s153) (x1 : Int) : Option (Int) := roll_asked.s x0 x1 some
noncomputable def roll_asked.n : En CDEKP := mkE CDEKP_ok (es := [roll_Fine.n, bitset_Has.n]) (ms := []) (fuel := ⟨1, fun _ => []⟩) 219 Tryz.f219 [.ai E_s153, .ai (.int .i64)] (.int .i64) [] (fun x {Ω} k => roll_asked.s x.1 x.2.1 k) (fun x Ω k => Le.of (by kernel_rfl)) (by kernel_rfl) (by kernel_rfl)
def roll_Enrol.s (x0 : T_s153) (x1 : Int) (k : T_s153 × Int → Option Ω) : Option Ω :=
 (roll_asked.u x0 x1).bind fun y1 =>
 bif (y1 != 0) then
 k (x0, y1)
 else
 (bitset_Has.u x0.1 x1).bind fun y2 =>
 bif y2 then
 k (x0, 7)
 else
 (bitset_Add.u x0.1 x1).bind fun y3 =>
 k ((y3, x0.2), 0)
def roll_Enrol.u (x0 : T_s153) (x1 : Int) : Option (T_s153 × Int) := roll_Enrol.s x0 x1 some
noncomputable def roll_Enrol.n : En CDEKP := mkE CDEKP_ok (es := [roll_asked.n, bitset_Has.n, bitset_Add.n]) (ms := []) (fuel := ⟨1, fun _ => []⟩) 178 Tryz.f178 [.ai E_s153, .ai (.int .i64)] E_s153 [(.int .i64)] (fun x {Ω} k => roll_Enrol.s x.1 x.2.1 k) (fun x Ω k => Le.of (by kernel_rfl)) (by kernel_rfl) (by kernel_rfl)
def ref04_Less.F (fuel : Nat) : Fuel := ⟨fuel, fun r => bif r == 3 then mL 0 28 268435356 else []⟩
noncomputable def ref04_Less.V (fuel c : Nat) (env : List AV) (L : Heap) (k : Kont Ω) : Option Ω := evCode CDEKP (spE (C := CDEKP) [ref04_Has.n] []) (ref04_Less.F fuel) (pCo c Tryz.f245) env L k
def ref04_Less.E0 (e3_1 : (List Int)) (e3_2 : (List Int)) (s3 : Int × (List Int)) : List AV := ((.v (.slice (.int .i64)) (e3_1)) :: (.v (.slice (.int .i64)) (e3_2)) :: dZ 3 ((.rs 1) :: (.v (.int .i64) (s3.1)) :: dZ 21 ([])))
def ref04_Less.H0 (e3_1 : (List Int)) (e3_2 : (List Int)) (s3 : Int × (List Int)) : Heap := [(.row 3 (.int .i64) [] false), (.row 3 (.int .i64) s3.2 false)]
noncomputable def ref04_Less.M0 (fuel : Nat) (e3_1 : (List Int)) (e3_2 : (List Int))  (k : AV → Option Ω) (m : Nat) (s : Int × (List Int)) : Option Ω := loopK (ref04_Less.V fuel 75) (mB 28 268435356) [] 2 (blockK 0 (sqK (ref04_Less.V fuel 15) (finK CDEKP Tryz.f245 k))) m ((ref04_Less.E0 e3_1 e3_2) s) ((ref04_Less.H0 e3_1 e3_2) s)
def ref04_Less.b0 (e3_1 : (List Int)) (e3_2 : (List Int))   (k : (List Int) → Option Ω) (r3 : Int × (List Int) → Option Ω) (s3 : Int × (List Int)) : Option Ω :=
 bif (decide (s3.1 < ((List.length e3_1 : Nat) : Int))) then
 bif (idxOK s3.1 (List.length e3_1)) then
 (ref04_Has.u e3_2 ((List.getD e3_1 (Int.toNat s3.1) 0))).bind fun y1 =>
 bif (!y1) then
 bif (idxOK s3.1 (List.length e3_1)) then
 bif (decide (List.length s3.2 + List.length [(List.getD e3_1 (Int.toNat s3.1) 0)] ≤ rowMax)) then
 r3 ((IntKind.wrap .i64 (s3.1 + 1)), (s3.2 ++ [(List.getD e3_1 (Int.toNat s3.1) 0)]))
 else
 none
 else
 none
 else
 r3 ((IntKind.wrap .i64 (s3.1 + 1)), s3.2)
 else
 none
 else
 k s3.2
theorem ref04_Less.l0 (fuel : Nat) (e3_1 : (List Int)) (e3_2 : (List Int))  (k : AV → Option Ω) : ∀ m, (ref04_Less.M0 fuel e3_1 e3_2  k m) = iter (ref04_Less.b0 e3_1 e3_2  (fun r => k (tupAV (.slice (.int .i64)) [] r))) m :=
 loopK_iter (envOf := (ref04_Less.E0 e3_1 e3_2)) (LOf := (ref04_Less.H0 e3_1 e3_2)) (B := ref04_Less.b0 e3_1 e3_2  (fun r => k (tupAV (.slice (.int .i64)) [] r))) (fun R s => by kernel_rfl)
def ref04_Less.sl (x0 : (List Int)) (x1 : (List Int)) (lp0 : (List Int) → (List Int) → Int × (List Int) → Option Ω) (k : (List Int) → Option Ω) : Option Ω :=
 lp0 x0 x1 (0, [])
def ref04_Less.g0 (e3_1 : (List Int)) (e3_2 : (List Int))  (k : (List Int) → Option Ω) : List Int → (List Int) → Option Ω
 | [], a3_1 =>
 k a3_1
 | x3 :: xs3, a3_1 =>
 (ref04_Has.u e3_2 (x3)).bind fun y1 =>
 bif (!y1) then
 bif (decide (List.length a3_1 + List.length [x3] ≤ rowMax)) then
 ref04_Less.g0 e3_1 e3_2  k xs3 (a3_1 ++ [x3])
 else
 none
 else
 ref04_Less.g0 e3_1 e3_2  k xs3 a3_1
theorem ref04_Less.h0 (e3_1 : (List Int)) (e3_2 : (List Int))   (k : (List Int) → Option Ω) (hX : ((List.length e3_1 : Nat) : Int) ≤ 9223372036854775807) : ∀ (m : Nat) (i : Int) (a : (List Int)), 0 ≤ i → i ≤ ((List.length e3_1 : Nat) : Int) → ((List.length e3_1 : Nat) : Int) < m + i → Le (ref04_Less.g0 e3_1 e3_2  k (List.drop (Int.toNat i) e3_1) a) (iter (ref04_Less.b0 e3_1 e3_2  k) m (i, a)) :=
 iter_list e3_1 0 (fun (i3 : Int) (a3 : (List Int)) => (i3, a3)) (fun xs i3 a3 => ref04_Less.g0 e3_1 e3_2  k xs a3) (ref04_Less.b0 e3_1 e3_2  k)
 (fun i3 a3 r h0 => (Le.fls h0 (Le.refl _)))
 (fun i3 xs3 a3 r h0 h1 hw ih => (Le.tru h0 (Le.tru h1 (Le.bnd fun y1 => (Le.cond (Le.tru h1 (Le.cond (ih _ hw ((a3 ++ [(List.getD e3_1 (Int.toNat i3) 0)]))) Le.nil)) (ih _ hw (a3)))))))
 hX
def ref04_Less.w (x0 : (List Int)) (x1 : (List Int)) (k : (List Int) → Option Ω) : Option Ω :=
 bif decide (((List.length x0 : Nat) : Int) ≤ 4611686018427387904) then ref04_Less.g0 x0 x1  k x0 ([]) else none
theorem ref04_Less.ev (fuel : Nat) (x0 : (List Int)) (x1 : (List Int)) (k : AV → Option Ω) : evFn CDEKP (spE (C := CDEKP) [ref04_Has.n] []) (ref04_Less.F fuel) Tryz.f245 (Tryz.f245.body.getD .skip) [(.v (.slice (.int .i64)) (x0)), (.v (.slice (.int .i64)) (x1))] k = ref04_Less.sl x0 x1 (fun e3_1 e3_2 => (ref04_Less.M0 fuel e3_1 e3_2  k fuel)) (fun r => k (tupAV (.slice (.int .i64)) [] r)) := by kernel_rfl
theorem ref04_Less.le (x0 : (List Int)) (x1 : (List Int)) (k : AV → Option Ω) : Le (ref04_Less.w x0 x1 (fun r => k (tupAV (.slice (.int .i64)) [] r))) (ref04_Less.sl x0 x1 (fun e3_1 e3_2 => (ref04_Less.M0 BIG e3_1 e3_2  k BIG)) (fun r => k (tupAV (.slice (.int .i64)) [] r))) := by
 have h1 := funext fun (e3_1 : (List Int)) => funext fun (e3_2 : (List Int)) => ref04_Less.l0 BIG e3_1 e3_2   k BIG
 rw [h1]
 delta ref04_Less.w ref04_Less.sl
 exact (Le.gd fun hg => ref04_Less.h0 _ _   _ (le_up (of_decide_eq_true hg)) BIG 0 ([]) (by decide) (zero_le_len _) (big_list (of_decide_eq_true hg)))
def ref04_Less.u (x0 : (List Int)) (x1 : (List Int)) : Option ((List Int)) := ref04_Less.w x0 x1 some
noncomputable def ref04_Less.n : En CDEKP := mkE CDEKP_ok (es := [ref04_Has.n]) (ms := []) (fuel := (ref04_Less.F BIG)) 245 Tryz.f245 [.ai (.slice (.int .i64)), .ai (.slice (.int .i64))] (.slice (.int .i64)) [] (fun x {Ω} k => ref04_Less.w x.1 x.2.1 k) (fun x Ω k => leV (ref04_Less.ev BIG x.1 x.2.1 k) (ref04_Less.le x.1 x.2.1 k)) (by kernel_rfl) (by kernel_rfl)
def ref21_Fine.F (fuel : Nat) : Fuel := ⟨fuel, fun r => bif r == 2 then mL 0 32 4294967285 else bif r == 2000004 then [11, 12, 13, 14, 15, 16, 17, 18, 19, 20, 21, 22, 23, 5024] else []⟩
noncomputable def ref21_Fine.V (fuel c : Nat) (env : List AV) (L : Heap) (k : Kont Ω) : Option Ω := evCode CDEKP (spE (C := CDEKP) [ref04_Less.n] []) (ref21_Fine.F fuel) (pCo c Tryz.f204) env L k
def ref21_Fine.E0 (e2_1 : T_s72) (s2 : Int) : List AV := (dZ 1 ((.ref 0 []) :: dZ 1 ((.v (.int .i64) (s2)) :: dZ 28 ([]))))
def ref21_Fine.H0 (e2_1 : T_s72) (s2 : Int) : Heap := [(.box E_s72 e2_1 false)]
noncomputable def ref21_Fine.M0 (fuel : Nat) (e2_1 : T_s72)  (k : AV → Option Ω) (m : Nat) (s : Int) : Option Ω := loopK (ref21_Fine.V fuel 37) (mB 32 4294967285) [] 1 (blockK 0 (sqK (ref21_Fine.V fuel 7) (finK CDEKP Tryz.f204 k))) m ((ref21_Fine.E0 e2_1) s) ((ref21_Fine.H0 e2_1) s)
def ref21_Fine.b0 (e2_1 : T_s72)   (k : Bool → Option Ω) (r2 : Int → Option Ω) (s2 : Int) : Option Ω :=
 bif (decide (s2 < ((List.length e2_1.1 : Nat) : Int))) then
 (bif (idxOK s2 (List.length e2_1.1)) then (bif (decide ((List.getD e2_1.1 (Int.toNat s2) 0) < 0)) then some (true, ()) else (bif (idxOK s2 (List.length e2_1.1)) then some ((decide ((List.getD e2_1.1 (Int.toNat s2) 0) > 15)), ()) else none)) else none).bind fun j1 =>
 bif j1.1 then
 k false
 else
 r2 ((IntKind.wrap .i64 (s2 + 1)))
 else
 (ref04_Less.u e2_1.2.1 e2_1.1).bind fun y2 =>
 k (((List.length y2 : Nat) : Int) == 0)
theorem ref21_Fine.l0 (fuel : Nat) (e2_1 : T_s72)  (k : AV → Option Ω) : ∀ m, (ref21_Fine.M0 fuel e2_1  k m) = iter (ref21_Fine.b0 e2_1  (fun r => k (tupAV .bool [] r))) m :=
 loopK_iter (envOf := (ref21_Fine.E0 e2_1)) (LOf := (ref21_Fine.H0 e2_1)) (B := ref21_Fine.b0 e2_1  (fun r => k (tupAV .bool [] r))) (fun R s => by kernel_rfl)
def ref21_Fine.sl (x0 : T_s72) (lp0 : T_s72 → Int → Option Ω) (k : Bool → Option Ω) : Option Ω :=
 lp0 x0 (0)
def ref21_Fine.g0 (e2_1 : T_s72)  (k : Bool → Option Ω) : Nat → Int → Option Ω
 | 0, i2 =>
 (ref04_Less.u e2_1.2.1 e2_1.1).bind fun y2 =>
 k (((List.length y2 : Nat) : Int) == 0)
 | d2 + 1, i2 =>
 (bif (idxOK i2 (List.length e2_1.1)) then (bif (decide ((List.getD e2_1.1 (Int.toNat i2) 0) < 0)) then some (true, ()) else (bif (idxOK i2 (List.length e2_1.1)) then some ((decide ((List.getD e2_1.1 (Int.toNat i2) 0) > 15)), ()) else none)) else none).bind fun j1 =>
 bif j1.1 then
 k false
 else
 ref21_Fine.g0 e2_1  k d2 (i2 + 1)
theorem ref21_Fine.h0 (e2_1 : T_s72)   (k : Bool → Option Ω) (hN : (((List.length e2_1.1 : Nat) : Int) : Int) ≤ 9223372036854775807) : ∀ (m : Nat) (i : Int) (a : Unit), -9223372036854775808 ≤ i → Int.toNat ((((List.length e2_1.1 : Nat) : Int) : Int) - i) < m → Le (ref21_Fine.g0 e2_1  k (Int.toNat ((((List.length e2_1.1 : Nat) : Int) : Int) - i)) i) (iter (ref21_Fine.b0 e2_1  k) m (i)) :=
 iter_count (((List.length e2_1.1 : Nat) : Int) : Int) (fun i2 => (decide (i2 < ((List.length e2_1.1 : Nat) : Int)))) (fun i => rfl) (fun (i2 : Int) (a2 : Unit) => (i2)) (fun xs i2 a2 => ref21_Fine.g0 e2_1  k xs i2) (ref21_Fine.b0 e2_1  k)
 (fun i2 a2 r h0 => (Le.fls h0 (Le.bnd fun y2 => (Le.refl _))))
 (fun i2 d2 a2 r h0 hw ih => (Le.tru h0 (Le.bnd fun j1 => (Le.cond (Le.refl _) (ih _ hw ())))))
 hN
def ref21_Fine.w (x0 : T_s72) (k : Bool → Option Ω) : Option Ω :=
 bif (decide (((List.length x0.1 : Nat) : Int) ≤ 4611686018427387904)) then ref21_Fine.g0 x0  k ((Int.toNat (((List.length x0.1 : Nat) : Int) - 0))) 0 else none
theorem ref21_Fine.ev (fuel : Nat) (x0 : T_s72) (k : AV → Option Ω) : evFn CDEKP (spE (C := CDEKP) [ref04_Less.n] []) (ref21_Fine.F fuel) Tryz.f204 (Tryz.f204.body.getD .skip) [(.v E_s72 (x0))] k = ref21_Fine.sl x0 (fun e2_1 => (ref21_Fine.M0 fuel e2_1  k fuel)) (fun r => k (tupAV .bool [] r)) := by kernel_rfl
theorem ref21_Fine.le (x0 : T_s72) (k : AV → Option Ω) : Le (ref21_Fine.w x0 (fun r => k (tupAV .bool [] r))) (ref21_Fine.sl x0 (fun e2_1 => (ref21_Fine.M0 BIG e2_1  k BIG)) (fun r => k (tupAV .bool [] r))) := by
 have h1 := funext fun (e2_1 : T_s72) => ref21_Fine.l0 BIG e2_1   k BIG
 rw [h1]
 delta ref21_Fine.w ref21_Fine.sl
 exact (Le.gd fun hg => ref21_Fine.h0 _   _ (cnt_up hg) BIG 0 () (by decide) (cnt_big hg (by decide)))
def ref21_Fine.u (x0 : T_s72) : Option (Bool) := ref21_Fine.w x0 some
noncomputable def ref21_Fine.n : En CDEKP := mkE CDEKP_ok (es := [ref04_Less.n]) (ms := []) (fuel := (ref21_Fine.F BIG)) 204 Tryz.f204 [.ai E_s72] .bool [] (fun x {Ω} k => ref21_Fine.w x.1 k) (fun x Ω k => leV (ref21_Fine.ev BIG x.1 k) (ref21_Fine.le x.1 k)) (by kernel_rfl) (by kernel_rfl)
def ref21_asked.s (x0 : T_s72) (x1 : Int) (k : Int → Option Ω) : Option Ω :=
 (ref21_Fine.u x0).bind fun y1 =>
 bif (!y1) then
 k 1
 else
 (bif (decide (x1 < 0)) then some (true, ()) else some ((decide (x1 > 15)), ())).bind fun j2 =>
 bif j2.1 then
 k 8
 else
 k 0
def ref21_asked.u (x0 : T_s72) (x1 : Int) : Option (Int) := ref21_asked.s x0 x1 some
noncomputable def ref21_asked.n : En CDEKP := mkE CDEKP_ok (es := [ref21_Fine.n]) (ms := []) (fuel := ⟨1, fun r => bif r == 2000003 then [8, 9, 10, 11, 12, 5013] else []⟩) 228 Tryz.f228 [.ai E_s72, .ai (.int .i64)] (.int .i64) [] (fun x {Ω} k => ref21_asked.s x.1 x.2.1 k) (fun x Ω k => Le.of (by kernel_rfl)) (by kernel_rfl) (by kernel_rfl)
def ref21_Enrol.s (x0 : T_s72) (x1 : Int) (k : T_s72 × Int → Option Ω) : Option Ω :=
 (ref21_asked.u x0 x1).bind fun y1 =>
 bif (y1 != 0) then
 k (x0, y1)
 else
 (ref04_Has.u x0.1 x1).bind fun y2 =>
 bif y2 then
 k (x0, 7)
 else
 (ref04_Add.u x0.1 x1).bind fun y3 =>
 k ((y3, x0.2), 0)
def ref21_Enrol.u (x0 : T_s72) (x1 : Int) : Option (T_s72 × Int) := ref21_Enrol.s x0 x1 some
noncomputable def ref21_Enrol.n : En CDEKP := mkE CDEKP_ok (es := [ref04_Has.n, ref21_asked.n, ref04_Add.n]) (ms := []) (fuel := ⟨1, fun _ => []⟩) 183 Tryz.f183 [.ai E_s72, .ai (.int .i64)] E_s72 [(.int .i64)] (fun x {Ω} k => ref21_Enrol.s x.1 x.2.1 k) (fun x Ω k => Le.of (by kernel_rfl)) (by kernel_rfl) (by kernel_rfl)
def barrier_Check.s (x0 : T_s74) (k : Int → Option Ω) : Option Ω :=
 bif (!(phase_Fine.t 0 x0.2.1)) then
 k 8
 else
 k 0
def barrier_Check.t (x0 : T_s74) : Int :=
 bif (!(phase_Fine.t 0 x0.2.1)) then
 8
 else
 0
theorem barrier_Check.v (x0 : T_s74) (k : Int → Option Ω) : barrier_Check.s x0 k = k (barrier_Check.t x0) := by
 delta barrier_Check.s barrier_Check.t; exact (cond_tot rfl rfl)
noncomputable def barrier_Check.n : En CDEKP := mkT CDEKP_ok (es := [phase_Fine.n]) (ms := []) (fuel := ⟨1, fun _ => []⟩) 168 Tryz.f168 [.ai E_s74] (.int .i64) [] (fun x {Ω} k => barrier_Check.s x.1 k) (fun x => barrier_Check.t x.1) (fun x Ω k => by kernel_rfl) (fun x => barrier_Check.v x.1 some) (by kernel_rfl) (by kernel_rfl)
def barrier_New.s (x0 : T_s74) (k : T_s155 × Int → Option Ω) : Option Ω :=
 bif ((barrier_Check.t x0) != 0) then
 k (((false, (0, ())), (((List.replicate 4 0), ((List.replicate 4 0), ())), (0, ()))), (barrier_Check.t x0))
 else
 k ((x0, (((List.replicate 4 0), ((List.replicate 4 0), ())), (0, ()))), 0)
def barrier_New.t (x0 : T_s74) : T_s155 × Int :=
 bif ((barrier_Check.t x0) != 0) then
 (((false, (0, ())), (((List.replicate 4 0), ((List.replicate 4 0), ())), (0, ()))), (barrier_Check.t x0))
 else
 ((x0, (((List.replicate 4 0), ((List.replicate 4 0), ())), (0, ()))), 0)
theorem barrier_New.v (x0 : T_s74) (k : T_s155 × Int → Option Ω) : barrier_New.s x0 k = k (barrier_New.t x0) := by
 delta barrier_New.s barrier_New.t; exact (cond_tot rfl rfl)
noncomputable def barrier_New.n : En CDEKP := mkT CDEKP_ok (es := [barrier_Check.n]) (ms := []) (fuel := ⟨1, fun _ => []⟩) 94 Tryz.f94 [.ai E_s74] E_s155 [(.int .i64)] (fun x {Ω} k => barrier_New.s x.1 k) (fun x => barrier_New.t x.1) (fun x Ω k => by kernel_rfl) (fun x => barrier_New.v x.1 some) (by kernel_rfl) (by kernel_rfl)
def barrier_Fine.s (x0 : T_s155) (k : Bool → Option Ω) : Option Ω :=
 bif (phase_Fine.t x0.2.2.1 x0.1.2.1) then
 (roll_Fine.u x0.2.1).bind fun y1 =>
 k y1
 else
 k false
def barrier_Fine.u (x0 : T_s155) : Option (Bool) := barrier_Fine.s x0 some
noncomputable def barrier_Fine.n : En CDEKP := mkE CDEKP_ok (es := [phase_Fine.n, roll_Fine.n]) (ms := []) (fuel := ⟨1, fun _ => []⟩) 132 Tryz.f132 [.ai E_s155] .bool [] (fun x {Ω} k => barrier_Fine.s x.1 k) (fun x Ω k => Le.of (by kernel_rfl)) (by kernel_rfl) (by kernel_rfl)
def barrier_Bar_with.s (x0 : T_s155) (x1 : T_s153) (x2 : Int) (k : T_s155 × Int → Option Ω) : Option Ω :=
 (bif (x2 != 0) then some (true, ()) else some ((eqI E_s155 (x0.1, (x1, (x0.2.2.1, ()))) x0), ())).bind fun j1 =>
 bif j1.1 then
 k (x0, x2)
 else
 k ((x0.1, (x1, (x0.2.2.1, ()))), 0)
def barrier_Bar_with.t (x0 : T_s155) (x1 : T_s153) (x2 : Int) : T_s155 × Int :=
 let j1 : Bool × Unit := (bif (x2 != 0) then (true, ()) else ((eqI E_s155 (x0.1, (x1, (x0.2.2.1, ()))) x0), ()))
 bif j1.1 then
 (x0, x2)
 else
 ((x0.1, (x1, (x0.2.2.1, ()))), 0)
theorem barrier_Bar_with.v (x0 : T_s155) (x1 : T_s153) (x2 : Int) (k : T_s155 × Int → Option Ω) : barrier_Bar_with.s x0 x1 x2 k = k (barrier_Bar_with.t x0 x1 x2) := by
 delta barrier_Bar_with.s barrier_Bar_with.t; exact (join_tot (cond_some rfl rfl) (cond_tot rfl rfl))
noncomputable def barrier_Bar_with.n : En CDEKP := mkT CDEKP_ok (es := []) (ms := []) (fuel := ⟨1, fun r => bif r == 2000002 then [15, 16, 17, 18, 19, 20, 5021] else []⟩) 177 Tryz.f177 [.ai E_s155, .ai E_s153, .ai (.int .i64)] E_s155 [(.int .i64)] (fun x {Ω} k => barrier_Bar_with.s x.1 x.2.1 x.2.2.1 k) (fun x => barrier_Bar_with.t x.1 x.2.1 x.2.2.1) (fun x Ω k => by kernel_rfl) (fun x => barrier_Bar_with.v x.1 x.2.1 x.2.2.1 some) (by kernel_rfl) (by kernel_rfl)
def barrier_Enrol.s (x0 : T_s155) (x1 : Int) (k : T_s155 × Int → Option Ω) : Option Ω :=
 (barrier_Fine.u x0).bind fun y1 =>
 bif (!y1) then
 k (x0, 1)
 else
 (roll_Enrol.u x0.2.1 x1).bind fun y2 =>
 let v3 : T_s155 × Int := (barrier_Bar_with.t x0 y2.1 y2.2)
 k (v3.1, v3.2)
def barrier_Enrol.u (x0 : T_s155) (x1 : Int) : Option (T_s155 × Int) := barrier_Enrol.s x0 x1 some
noncomputable def barrier_Enrol.n : En CDEKP := mkE CDEKP_ok (es := [barrier_Fine.n, barrier_Bar_with.n, roll_Enrol.n]) (ms := []) (fuel := ⟨1, fun _ => []⟩) 102 Tryz.f102 [.ai E_s155, .ai (.int .i64)] E_s155 [(.int .i64)] (fun x {Ω} k => barrier_Enrol.s x.1 x.2.1 k) (fun x Ω k => Le.of (by kernel_rfl)) (by kernel_rfl) (by kernel_rfl)
def ref22_Check.s (x0 : T_s74) (k : Int → Option Ω) : Option Ω :=
 (bif (decide (x0.2.1 < 1)) then some (true, ()) else some ((decide (x0.2.1 > 65535)), ())).bind fun j1 =>
 bif j1.1 then
 k 8
 else
 k 0
def ref22_Check.t (x0 : T_s74) : Int :=
 let j1 : Bool × Unit := (bif (decide (x0.2.1 < 1)) then (true, ()) else ((decide (x0.2.1 > 65535)), ()))
 bif j1.1 then
 8
 else
 0
theorem ref22_Check.v (x0 : T_s74) (k : Int → Option Ω) : ref22_Check.s x0 k = k (ref22_Check.t x0) := by
 delta ref22_Check.s ref22_Check.t; exact (join_tot (cond_some rfl rfl) (cond_tot rfl rfl))
noncomputable def ref22_Check.n : En CDEKP := mkT CDEKP_ok (es := []) (ms := []) (fuel := ⟨1, fun r => bif r == 2000001 then [3, 4, 5, 6, 7, 8, 9, 5010] else []⟩) 106 Tryz.f106 [.ai E_s74] (.int .i64) [] (fun x {Ω} k => ref22_Check.s x.1 k) (fun x => ref22_Check.t x.1) (fun x Ω k => by kernel_rfl) (fun x => ref22_Check.v x.1 some) (by kernel_rfl) (by kernel_rfl)
def ref22_New.s (x0 : T_s74) (k : T_s76 × Int → Option Ω) : Option Ω :=
 bif ((ref22_Check.t x0) != 0) then
 k (((false, (0, ())), (([], ([], ())), (0, ()))), (ref22_Check.t x0))
 else
 k ((x0, (([], ([], ())), (0, ()))), 0)
def ref22_New.t (x0 : T_s74) : T_s76 × Int :=
 bif ((ref22_Check.t x0) != 0) then
 (((false, (0, ())), (([], ([], ())), (0, ()))), (ref22_Check.t x0))
 else
 ((x0, (([], ([], ())), (0, ()))), 0)
theorem ref22_New.v (x0 : T_s74) (k : T_s76 × Int → Option Ω) : ref22_New.s x0 k = k (ref22_New.t x0) := by
 delta ref22_New.s ref22_New.t; exact (cond_tot rfl rfl)
noncomputable def ref22_New.n : En CDEKP := mkT CDEKP_ok (es := [ref22_Check.n]) (ms := []) (fuel := ⟨1, fun _ => []⟩) 109 Tryz.f109 [.ai E_s74] E_s76 [(.int .i64)] (fun x {Ω} k => ref22_New.s x.1 k) (fun x => ref22_New.t x.1) (fun x Ω k => by kernel_rfl) (fun x => ref22_New.v x.1 some) (by kernel_rfl) (by kernel_rfl)
def ref22_Fine.s (x0 : T_s76) (k : Bool → Option Ω) : Option Ω :=
 bif (ref20_Fine.t x0.2.2.1 x0.1.2.1) then
 (ref21_Fine.u x0.2.1).bind fun y1 =>
 k y1
 else
 k false
def ref22_Fine.u (x0 : T_s76) : Option (Bool) := ref22_Fine.s x0 some
noncomputable def ref22_Fine.n : En CDEKP := mkE CDEKP_ok (es := [ref20_Fine.n, ref21_Fine.n]) (ms := []) (fuel := ⟨1, fun _ => []⟩) 143 Tryz.f143 [.ai E_s76] .bool [] (fun x {Ω} k => ref22_Fine.s x.1 k) (fun x Ω k => Le.of (by kernel_rfl)) (by kernel_rfl) (by kernel_rfl)
def ref22_Enrol.s (x0 : T_s76) (x1 : Int) (k : T_s76 × Int → Option Ω) : Option Ω :=
 (ref22_Fine.u x0).bind fun y1 =>
 bif (!y1) then
 k (x0, 1)
 else
 (ref21_Enrol.u x0.2.1 x1).bind fun y2 =>
 k ((x0.1, (y2.1, x0.2.2)), y2.2)
def ref22_Enrol.u (x0 : T_s76) (x1 : Int) : Option (T_s76 × Int) := ref22_Enrol.s x0 x1 some
noncomputable def ref22_Enrol.n : En CDEKP := mkE CDEKP_ok (es := [ref22_Fine.n, ref21_Enrol.n]) (ms := []) (fuel := ⟨1, fun _ => []⟩) 116 Tryz.f116 [.ai E_s76, .ai (.int .i64)] E_s76 [(.int .i64)] (fun x {Ω} k => ref22_Enrol.s x.1 x.2.1 k) (fun x Ω k => Le.of (by kernel_rfl)) (by kernel_rfl) (by kernel_rfl)
def bartab_New.F (fuel : Nat) : Fuel := ⟨fuel, fun r => bif r == 5 then mL 0 35 34359680991 else []⟩
noncomputable def bartab_New.V (fuel c : Nat) (env : List AV) (L : Heap) (k : Kont Ω) : Option Ω := evCode CDEKP (spE (C := CDEKP) [barrier_New.n] []) (bartab_New.F fuel) (pCo c Tryz.f25) env L k
def bartab_New.E0 (e5_1 : (List T_s74)) (e5_2 : Int) (s5 : Int × (List T_s155)) : List AV := (dZ 5 ((.rs 1) :: dZ 7 ((.v (.slice E_s74) (e5_1)) :: (.v (.int .i64) (e5_2)) :: (.v (.int .i64) (s5.1)) :: dZ 19 ([]))))
def bartab_New.H0 (e5_1 : (List T_s74)) (e5_2 : Int) (s5 : Int × (List T_s155)) : Heap := [(.row 156 E_s155 [] false), (.row 156 E_s155 s5.2 false)]
noncomputable def bartab_New.M0 (fuel : Nat) (e5_1 : (List T_s74)) (e5_2 : Int)  (k : AV → Option Ω) (m : Nat) (s : Int × (List T_s155)) : Option Ω := loopK (bartab_New.V fuel 151) (mB 35 34359680991) [] 2 (blockK 0 (sqK (bartab_New.V fuel 31) (finK CDEKP Tryz.f25 k))) m ((bartab_New.E0 e5_1 e5_2) s) ((bartab_New.H0 e5_1 e5_2) s)
def bartab_New.b0 (e5_1 : (List T_s74)) (e5_2 : Int)   (k : (List T_s155) × Int × Int → Option Ω) (r5 : Int × (List T_s155) → Option Ω) (s5 : Int × (List T_s155)) : Option Ω :=
 bif (decide (s5.1 < e5_2)) then
 bif (idxOK s5.1 (List.length e5_1)) then
 let v1 : T_s155 × Int := (barrier_New.t ((List.getD e5_1 (Int.toNat s5.1) (false, (0, ())))))
 bif (v1.2 != 0) then
 k ([], s5.1, v1.2)
 else
 bif (decide (List.length s5.2 + List.length [v1.1] ≤ rowMax)) then
 r5 ((IntKind.wrap .i64 (s5.1 + 1)), (s5.2 ++ [v1.1]))
 else
 none
 else
 none
 else
 k (s5.2, 0, 0)
theorem bartab_New.l0 (fuel : Nat) (e5_1 : (List T_s74)) (e5_2 : Int)  (k : AV → Option Ω) : ∀ m, (bartab_New.M0 fuel e5_1 e5_2  k m) = iter (bartab_New.b0 e5_1 e5_2  (fun r => k (tupAV (.slice E_s155) [(.int .i64), (.int .i64)] r))) m :=
 loopK_iter (envOf := (bartab_New.E0 e5_1 e5_2)) (LOf := (bartab_New.H0 e5_1 e5_2)) (B := bartab_New.b0 e5_1 e5_2  (fun r => k (tupAV (.slice E_s155) [(.int .i64), (.int .i64)] r))) (fun R s => by kernel_rfl)
def bartab_New.sl (x0 : (List T_s74)) (lp0 : (List T_s74) → Int → Int × (List T_s155) → Option Ω) (k : (List T_s155) × Int × Int → Option Ω) : Option Ω :=
 bif (decide (((List.length x0 : Nat) : Int) > 8)) then
 k ([], 8, 5)
 else
 lp0 x0 (((List.length x0 : Nat) : Int)) (0, [])
def bartab_New.g0 (e5_1 : (List T_s74))  (k : (List T_s155) × Int × Int → Option Ω) : List T_s74 → Int → (List T_s155) → Option Ω
 | [], i5, a5_1 =>
 k (a5_1, 0, 0)
 | x5 :: xs5, i5, a5_1 =>
 let v1 : T_s155 × Int := (barrier_New.t (x5))
 bif (v1.2 != 0) then
 k ([], i5, v1.2)
 else
 bif (decide (List.length a5_1 + List.length [v1.1] ≤ rowMax)) then
 bartab_New.g0 e5_1  k xs5 (i5 + 1) (a5_1 ++ [v1.1])
 else
 none
theorem bartab_New.h0 (e5_1 : (List T_s74))   (k : (List T_s155) × Int × Int → Option Ω) (hX : ((List.length e5_1 : Nat) : Int) ≤ 9223372036854775807) : ∀ (m : Nat) (i : Int) (a : (List T_s155)), 0 ≤ i → i ≤ ((List.length e5_1 : Nat) : Int) → ((List.length e5_1 : Nat) : Int) < m + i → Le (bartab_New.g0 e5_1  k (List.drop (Int.toNat i) e5_1) i a) (iter (bartab_New.b0 e5_1 (((List.length e5_1 : Nat) : Int))  k) m (i, a)) :=
 iter_list e5_1 (false, (0, ())) (fun (i5 : Int) (a5 : (List T_s155)) => (i5, a5)) (fun xs i5 a5 => bartab_New.g0 e5_1  k xs i5 a5) (bartab_New.b0 e5_1 (((List.length e5_1 : Nat) : Int))  k)
 (fun i5 a5 r h0 => (Le.fls h0 (Le.refl _)))
 (fun i5 xs5 a5 r h0 h1 hw ih => (Le.tru h0 (Le.tru h1 (let v1 : T_s155 × Int := (barrier_New.t ((List.getD e5_1 (Int.toNat i5) (false, (0, ()))))); (Le.cond (Le.refl _) (Le.cond (ih _ hw ((a5 ++ [v1.1]))) Le.nil))))))
 hX
def bartab_New.w (x0 : (List T_s74)) (k : (List T_s155) × Int × Int → Option Ω) : Option Ω :=
 bif (decide (((List.length x0 : Nat) : Int) > 8)) then
 k ([], 8, 5)
 else
 bif decide (((List.length x0 : Nat) : Int) ≤ 4611686018427387904) then bartab_New.g0 x0  k x0 0 ([]) else none
theorem bartab_New.ev (fuel : Nat) (x0 : (List T_s74)) (k : AV → Option Ω) : evFn CDEKP (spE (C := CDEKP) [barrier_New.n] []) (bartab_New.F fuel) Tryz.f25 (Tryz.f25.body.getD .skip) [(.v (.slice E_s74) (x0))] k = bartab_New.sl x0 (fun e5_1 e5_2 => (bartab_New.M0 fuel e5_1 e5_2  k fuel)) (fun r => k (tupAV (.slice E_s155) [(.int .i64), (.int .i64)] r)) := by kernel_rfl
theorem bartab_New.le (x0 : (List T_s74)) (k : AV → Option Ω) : Le (bartab_New.w x0 (fun r => k (tupAV (.slice E_s155) [(.int .i64), (.int .i64)] r))) (bartab_New.sl x0 (fun e5_1 e5_2 => (bartab_New.M0 BIG e5_1 e5_2  k BIG)) (fun r => k (tupAV (.slice E_s155) [(.int .i64), (.int .i64)] r))) := by
 have h1 := funext fun (e5_1 : (List T_s74)) => funext fun (e5_2 : Int) => bartab_New.l0 BIG e5_1 e5_2   k BIG
 rw [h1]
 delta bartab_New.w bartab_New.sl
 exact (Le.cond (Le.refl _) (Le.gd fun hg => bartab_New.h0 _   _ (le_up (of_decide_eq_true hg)) BIG 0 ([]) (by decide) (zero_le_len _) (big_list (of_decide_eq_true hg))))
def bartab_New.u (x0 : (List T_s74)) : Option ((List T_s155) × Int × Int) := bartab_New.w x0 some
noncomputable def bartab_New.n : En CDEKP := mkE CDEKP_ok (es := [barrier_New.n]) (ms := []) (fuel := (bartab_New.F BIG)) 25 Tryz.f25 [.ai (.slice E_s74)] (.slice E_s155) [(.int .i64), (.int .i64)] (fun x {Ω} k => bartab_New.w x.1 k) (fun x Ω k => leV (bartab_New.ev BIG x.1 k) (bartab_New.le x.1 k)) (by kernel_rfl) (by kernel_rfl)
def bartab_Enrol_1.s (x0 : T_s155) (x1 : Int) (k : T_s155 × Int → Option Ω) : Option Ω :=
 (barrier_Enrol.u x0 x1).bind fun y1 =>
 k (y1.1, y1.2)
def bartab_Enrol_1.u (x0 : T_s155) (x1 : Int) : Option (T_s155 × Int) := bartab_Enrol_1.s x0 x1 some
noncomputable def bartab_Enrol_1.n : En CDEKP := mkE CDEKP_ok (es := [barrier_Enrol.n]) (ms := []) (fuel := ⟨1, fun _ => []⟩) 101 Tryz.f101 [.ai E_s155, .ap (.int .i64)] E_s155 [(.int .i64)] (fun x {Ω} k => bartab_Enrol_1.s x.1 x.2.1 k) (fun x Ω k => Le.of (by kernel_rfl)) (by kernel_rfl) (by kernel_rfl)
noncomputable def walk176_0 : Me CDEKP := Me.walk CDEKP_ok [] [] 176 Tryz.f176 (by kernel_rfl) (by kernel_rfl)
def bartab_change__bartab_Enrol_1.s (x0 : (List T_s155)) (x1 : Int) (c2_0 : Int) (k : (List T_s155) × Int → Option Ω) : Option Ω :=
 (bif (decide (x1 < 0)) then some (true, ()) else some ((decide (x1 ≥ ((List.length x0 : Nat) : Int))), ())).bind fun j1 =>
 bif j1.1 then
 k (x0, 8)
 else
 bif (idxOK x1 (List.length x0)) then
 let v2 : T_s155 := (List.getD x0 (Int.toNat x1) ((false, (0, ())), (((List.replicate 4 0), ((List.replicate 4 0), ())), (0, ()))))
 (bartab_Enrol_1.u v2 c2_0).bind fun y3 =>
 bif (y3.2 != 0) then
 k (x0, y3.2)
 else
 bif (decide (((List.length x0 : Nat) : Int) = ((List.length x0 : Nat) : Int)) && decide ((0 : Int) ≤ ((List.length x0 : Nat) : Int)) && decide (((List.length x0 : Nat) : Int) ≤ (2147483648 : Int))) then
 bif (idxOK x1 (List.length (copyL (List.replicate (Int.toNat ((List.length x0 : Nat) : Int)) ((false, (0, ())), (((List.replicate 4 0), ((List.replicate 4 0), ())), (0, ())))) x0))) then
 k ((List.set (copyL (List.replicate (Int.toNat ((List.length x0 : Nat) : Int)) ((false, (0, ())), (((List.replicate 4 0), ((List.replicate 4 0), ())), (0, ())))) x0) (Int.toNat x1) y3.1), 0)
 else
 none
 else
 none
 else
 none
def bartab_change__bartab_Enrol_1.u (x0 : (List T_s155)) (x1 : Int) (c2_0 : Int) : Option ((List T_s155) × Int) := bartab_change__bartab_Enrol_1.s x0 x1 c2_0 some
noncomputable def bartab_change__bartab_Enrol_1.n : En CDEKP := mkE CDEKP_ok (es := [bartab_Enrol_1.n]) (ms := [walk176_0]) (fuel := ⟨1, fun r => bif r == 2000001 then [11, 12, 13, 14, 15, 16, 17, 5018] else []⟩) 100 Tryz.f100 [.ai (.slice E_s155), .ai (.int .i64), .af1 101 (.int .i64)] (.slice E_s155) [(.int .i64)] (fun x {Ω} k => bartab_change__bartab_Enrol_1.s x.1 x.2.1 x.2.2.1 k) (fun x Ω k => Le.of (by kernel_rfl)) (by kernel_rfl) (by kernel_rfl)
def bartab_Enrol.s (x0 : (List T_s155)) (x1 : Int) (x2 : Int) (k : (List T_s155) × Int → Option Ω) : Option Ω :=
 (bartab_change__bartab_Enrol_1.u x0 x1 x2).bind fun y1 =>
 k (y1.1, y1.2)
def bartab_Enrol.u (x0 : (List T_s155)) (x1 : Int) (x2 : Int) : Option ((List T_s155) × Int) := bartab_Enrol.s x0 x1 x2 some
noncomputable def bartab_Enrol.n : En CDEKP := mkE CDEKP_ok (es := [bartab_change__bartab_Enrol_1.n]) (ms := []) (fuel := ⟨1, fun _ => []⟩) 27 Tryz.f27 [.ai (.slice E_s155), .ai (.int .i64), .ai (.int .i64)] (.slice E_s155) [(.int .i64)] (fun x {Ω} k => bartab_Enrol.s x.1 x.2.1 x.2.2.1 k) (fun x Ω k => Le.of (by kernel_rfl)) (by kernel_rfl) (by kernel_rfl)
def ref23_New.F (fuel : Nat) : Fuel := ⟨fuel, fun r => bif r == 5 then mL 0 35 34359738270 else []⟩
noncomputable def ref23_New.V (fuel c : Nat) (env : List AV) (L : Heap) (k : Kont Ω) : Option Ω := evCode CDEKP (spE (C := CDEKP) [ref22_New.n] []) (ref23_New.F fuel) (pCo c Tryz.f31) env L k
def ref23_New.E0 (e5_1 : (List T_s74)) (s5 : Int × (List T_s76)) : List AV := ((.v (.slice E_s74) (e5_1)) :: dZ 4 ((.rs 1) :: (.v (.int .i64) (s5.1)) :: dZ 28 ([])))
def ref23_New.H0 (e5_1 : (List T_s74)) (s5 : Int × (List T_s76)) : Heap := [(.row 77 E_s76 [] false), (.row 77 E_s76 s5.2 false)]
noncomputable def ref23_New.M0 (fuel : Nat) (e5_1 : (List T_s74))  (k : AV → Option Ω) (m : Nat) (s : Int × (List T_s76)) : Option Ω := loopK (ref23_New.V fuel 151) (mB 35 34359738270) [] 2 (blockK 0 (sqK (ref23_New.V fuel 31) (finK CDEKP Tryz.f31 k))) m ((ref23_New.E0 e5_1) s) ((ref23_New.H0 e5_1) s)
def ref23_New.b0 (e5_1 : (List T_s74))   (k : (List T_s76) × Int × Int → Option Ω) (r5 : Int × (List T_s76) → Option Ω) (s5 : Int × (List T_s76)) : Option Ω :=
 bif (decide (s5.1 < ((List.length e5_1 : Nat) : Int))) then
 bif (idxOK s5.1 (List.length e5_1)) then
 let v1 : T_s76 × Int := (ref22_New.t ((List.getD e5_1 (Int.toNat s5.1) (false, (0, ())))))
 bif (v1.2 != 0) then
 k ([], s5.1, v1.2)
 else
 bif (decide (List.length s5.2 + List.length [v1.1] ≤ rowMax)) then
 r5 ((IntKind.wrap .i64 (s5.1 + 1)), (s5.2 ++ [v1.1]))
 else
 none
 else
 none
 else
 k (s5.2, 0, 0)
theorem ref23_New.l0 (fuel : Nat) (e5_1 : (List T_s74))  (k : AV → Option Ω) : ∀ m, (ref23_New.M0 fuel e5_1  k m) = iter (ref23_New.b0 e5_1  (fun r => k (tupAV (.slice E_s76) [(.int .i64), (.int .i64)] r))) m :=
 loopK_iter (envOf := (ref23_New.E0 e5_1)) (LOf := (ref23_New.H0 e5_1)) (B := ref23_New.b0 e5_1  (fun r => k (tupAV (.slice E_s76) [(.int .i64), (.int .i64)] r))) (fun R s => by kernel_rfl)
def ref23_New.sl (x0 : (List T_s74)) (lp0 : (List T_s74) → Int × (List T_s76) → Option Ω) (k : (List T_s76) × Int × Int → Option Ω) : Option Ω :=
 bif (decide (((List.length x0 : Nat) : Int) > 8)) then
 k ([], 8, 5)
 else
 lp0 x0 (0, [])
def ref23_New.g0 (e5_1 : (List T_s74))  (k : (List T_s76) × Int × Int → Option Ω) : List T_s74 → Int → (List T_s76) → Option Ω
 | [], i5, a5_1 =>
 k (a5_1, 0, 0)
 | x5 :: xs5, i5, a5_1 =>
 let v1 : T_s76 × Int := (ref22_New.t (x5))
 bif (v1.2 != 0) then
 k ([], i5, v1.2)
 else
 bif (decide (List.length a5_1 + List.length [v1.1] ≤ rowMax)) then
 ref23_New.g0 e5_1  k xs5 (i5 + 1) (a5_1 ++ [v1.1])
 else
 none
theorem ref23_New.h0 (e5_1 : (List T_s74))   (k : (List T_s76) × Int × Int → Option Ω) (hX : ((List.length e5_1 : Nat) : Int) ≤ 9223372036854775807) : ∀ (m : Nat) (i : Int) (a : (List T_s76)), 0 ≤ i → i ≤ ((List.length e5_1 : Nat) : Int) → ((List.length e5_1 : Nat) : Int) < m + i → Le (ref23_New.g0 e5_1  k (List.drop (Int.toNat i) e5_1) i a) (iter (ref23_New.b0 e5_1  k) m (i, a)) :=
 iter_list e5_1 (false, (0, ())) (fun (i5 : Int) (a5 : (List T_s76)) => (i5, a5)) (fun xs i5 a5 => ref23_New.g0 e5_1  k xs i5 a5) (ref23_New.b0 e5_1  k)
 (fun i5 a5 r h0 => (Le.fls h0 (Le.refl _)))
 (fun i5 xs5 a5 r h0 h1 hw ih => (Le.tru h0 (Le.tru h1 (let v1 : T_s76 × Int := (ref22_New.t ((List.getD e5_1 (Int.toNat i5) (false, (0, ()))))); (Le.cond (Le.refl _) (Le.cond (ih _ hw ((a5 ++ [v1.1]))) Le.nil))))))
 hX
def ref23_New.w (x0 : (List T_s74)) (k : (List T_s76) × Int × Int → Option Ω) : Option Ω :=
 bif (decide (((List.length x0 : Nat) : Int) > 8)) then
 k ([], 8, 5)
 else
 bif decide (((List.length x0 : Nat) : Int) ≤ 4611686018427387904) then ref23_New.g0 x0  k x0 0 ([]) else none
theorem ref23_New.ev (fuel : Nat) (x0 : (List T_s74)) (k : AV → Option Ω) : evFn CDEKP (spE (C := CDEKP) [ref22_New.n] []) (ref23_New.F fuel) Tryz.f31 (Tryz.f31.body.getD .skip) [(.v (.slice E_s74) (x0))] k = ref23_New.sl x0 (fun e5_1 => (ref23_New.M0 fuel e5_1  k fuel)) (fun r => k (tupAV (.slice E_s76) [(.int .i64), (.int .i64)] r)) := by kernel_rfl
theorem ref23_New.le (x0 : (List T_s74)) (k : AV → Option Ω) : Le (ref23_New.w x0 (fun r => k (tupAV (.slice E_s76) [(.int .i64), (.int .i64)] r))) (ref23_New.sl x0 (fun e5_1 => (ref23_New.M0 BIG e5_1  k BIG)) (fun r => k (tupAV (.slice E_s76) [(.int .i64), (.int .i64)] r))) := by
 have h1 := funext fun (e5_1 : (List T_s74)) => ref23_New.l0 BIG e5_1   k BIG
 rw [h1]
 delta ref23_New.w ref23_New.sl
 exact (Le.cond (Le.refl _) (Le.gd fun hg => ref23_New.h0 _   _ (le_up (of_decide_eq_true hg)) BIG 0 ([]) (by decide) (zero_le_len _) (big_list (of_decide_eq_true hg))))
def ref23_New.u (x0 : (List T_s74)) : Option ((List T_s76) × Int × Int) := ref23_New.w x0 some
noncomputable def ref23_New.n : En CDEKP := mkE CDEKP_ok (es := [ref22_New.n]) (ms := []) (fuel := (ref23_New.F BIG)) 31 Tryz.f31 [.ai (.slice E_s74)] (.slice E_s76) [(.int .i64), (.int .i64)] (fun x {Ω} k => ref23_New.w x.1 k) (fun x Ω k => leV (ref23_New.ev BIG x.1 k) (ref23_New.le x.1 k)) (by kernel_rfl) (by kernel_rfl)
def ref23_is.s (x0 : (List T_s76)) (x1 : Int) (k : Bool → Option Ω) : Option Ω :=
 bif (decide (x1 ≥ 0)) then
 k (decide (x1 < ((List.length x0 : Nat) : Int)))
 else
 k false
def ref23_is.t (x0 : (List T_s76)) (x1 : Int) : Bool :=
 bif (decide (x1 ≥ 0)) then
 (decide (x1 < ((List.length x0 : Nat) : Int)))
 else
 false
theorem ref23_is.v (x0 : (List T_s76)) (x1 : Int) (k : Bool → Option Ω) : ref23_is.s x0 x1 k = k (ref23_is.t x0 x1) := by
 delta ref23_is.s ref23_is.t; exact (cond_tot rfl rfl)
noncomputable def ref23_is.n : En CDEKP := mkT CDEKP_ok (es := []) (ms := []) (fuel := ⟨1, fun _ => []⟩) 115 Tryz.f115 [.ai (.slice E_s76), .ai (.int .i64)] .bool [] (fun x {Ω} k => ref23_is.s x.1 x.2.1 k) (fun x => ref23_is.t x.1 x.2.1) (fun x Ω k => by kernel_rfl) (fun x => ref23_is.v x.1 x.2.1 some) (by kernel_rfl) (by kernel_rfl)
def ref23_put.s (x0 : (List T_s76)) (x1 : Int) (x2 : T_s76) (x3 : Int) (k : (List T_s76) × Int → Option Ω) : Option Ω :=
 bif (x3 != 0) then
 k (x0, x3)
 else
 bif (decide (List.length x0 ≤ rowMax)) then
 bif (idxOK x1 (List.length x0)) then
 k ((List.set x0 (Int.toNat x1) x2), 0)
 else
 none
 else
 none
def ref23_put.u (x0 : (List T_s76)) (x1 : Int) (x2 : T_s76) (x3 : Int) : Option ((List T_s76) × Int) := ref23_put.s x0 x1 x2 x3 some
noncomputable def ref23_put.n : En CDEKP := mkE CDEKP_ok (es := []) (ms := []) (fuel := ⟨1, fun _ => []⟩) 117 Tryz.f117 [.ai (.slice E_s76), .ai (.int .i64), .ai E_s76, .ai (.int .i64)] (.slice E_s76) [(.int .i64)] (fun x {Ω} k => ref23_put.s x.1 x.2.1 x.2.2.1 x.2.2.2.1 k) (fun x Ω k => Le.of (by kernel_rfl)) (by kernel_rfl) (by kernel_rfl)
def ref23_Enrol.s (x0 : (List T_s76)) (x1 : Int) (x2 : Int) (k : (List T_s76) × Int → Option Ω) : Option Ω :=
 bif (!(ref23_is.t x0 x1)) then
 k (x0, 8)
 else
 bif (idxOK x1 (List.length x0)) then
 (ref22_Enrol.u ((List.getD x0 (Int.toNat x1) ((false, (0, ())), (([], ([], ())), (0, ()))))) x2).bind fun y1 =>
 (ref23_put.u x0 x1 y1.1 y1.2).bind fun y2 =>
 k (y2.1, y2.2)
 else
 none
def ref23_Enrol.u (x0 : (List T_s76)) (x1 : Int) (x2 : Int) : Option ((List T_s76) × Int) := ref23_Enrol.s x0 x1 x2 some
noncomputable def ref23_Enrol.n : En CDEKP := mkE CDEKP_ok (es := [ref23_is.n, ref22_Enrol.n, ref23_put.n]) (ms := []) (fuel := ⟨1, fun _ => []⟩) 34 Tryz.f34 [.ai (.slice E_s76), .ai (.int .i64), .ai (.int .i64)] (.slice E_s76) [(.int .i64)] (fun x {Ω} k => ref23_Enrol.s x.1 x.2.1 x.2.2.1 k) (fun x Ω k => Le.of (by kernel_rfl)) (by kernel_rfl) (by kernel_rfl)
def guard_clash.s (x0 : T_s227) (x1 : T_s227) (k : Bool → Option Ω) : Option Ω :=
 bif (x0.1 == x1.1) then
 bif (x0.2.1 == x1.2.1) then
 bif (x0.1 == 1) then
 k true
 else
 bif (x0.1 == 2) then
 k true
 else
 k (x0.1 == 3)
 else
 k false
 else
 k false
def guard_clash.t (x0 : T_s227) (x1 : T_s227) : Bool :=
 bif (x0.1 == x1.1) then
 bif (x0.2.1 == x1.2.1) then
 bif (x0.1 == 1) then
 true
 else
 bif (x0.1 == 2) then
 true
 else
 (x0.1 == 3)
 else
 false
 else
 false
theorem guard_clash.v (x0 : T_s227) (x1 : T_s227) (k : Bool → Option Ω) : guard_clash.s x0 x1 k = k (guard_clash.t x0 x1) := by
 delta guard_clash.s guard_clash.t; exact (cond_tot (cond_tot (cond_tot rfl (cond_tot rfl rfl)) rfl) rfl)
noncomputable def guard_clash.n : En CDEKP := mkT CDEKP_ok (es := []) (ms := []) (fuel := ⟨1, fun _ => []⟩) 233 Tryz.f233 [.ai E_s227, .ai E_s227] .bool [] (fun x {Ω} k => guard_clash.s x.1 x.2.1 k) (fun x => guard_clash.t x.1 x.2.1) (fun x Ω k => by kernel_rfl) (fun x => guard_clash.v x.1 x.2.1 some) (by kernel_rfl) (by kernel_rfl)
def guard_beside.F (fuel : Nat) : Fuel := ⟨fuel, fun r => bif r == 4 then mL 0 32 4265607159 else bif r == 2000001 then [7, 8, 9, 10, 11, 12, 13, 14, 15, 16, 17, 18, 19, 20, 5021] else []⟩
noncomputable def guard_beside.V (fuel c : Nat) (env : List AV) (L : Heap) (k : Kont Ω) : Option Ω := evCode CDEKP (spE (C := CDEKP) [guard_clash.n] []) (guard_beside.F fuel) (pCo c Tryz.f189) env L k
def guard_beside.E0 (e4_1 : (List T_s227)) (e4_2 : Int) (e4_3 : T_s227) (s4 : Int) : List AV := (dZ 3 ((.ref 0 []) :: dZ 18 ((.v (.slice E_s227) (e4_1)) :: (.v (.int .i64) (e4_2)) :: (.v (.int .i64) (s4)) :: dZ 7 ([]))))
def guard_beside.H0 (e4_1 : (List T_s227)) (e4_2 : Int) (e4_3 : T_s227) (s4 : Int) : Heap := [(.box E_s227 e4_3 false)]
noncomputable def guard_beside.M0 (fuel : Nat) (e4_1 : (List T_s227)) (e4_2 : Int) (e4_3 : T_s227)  (k : AV → Option Ω) (m : Nat) (s : Int) : Option Ω := loopK (guard_beside.V fuel 75) (mB 32 4265607159) [] 1 (blockK 0 (sqK (guard_beside.V fuel 15) (finK CDEKP Tryz.f189 k))) m ((guard_beside.E0 e4_1 e4_2 e4_3) s) ((guard_beside.H0 e4_1 e4_2 e4_3) s)
def guard_beside.b0 (e4_1 : (List T_s227)) (e4_2 : Int) (e4_3 : T_s227)   (k : Int → Option Ω) (r4 : Int → Option Ω) (s4 : Int) : Option Ω :=
 bif (decide (s4 < e4_2)) then
 bif (idxOK s4 (List.length e4_1)) then
 bif (guard_clash.t ((List.getD e4_1 (Int.toNat s4) (0, (0, (0, (0, (0, ()))))))) e4_3) then
 k 7
 else
 r4 ((IntKind.wrap .i64 (s4 + 1)))
 else
 none
 else
 k 0
theorem guard_beside.l0 (fuel : Nat) (e4_1 : (List T_s227)) (e4_2 : Int) (e4_3 : T_s227)  (k : AV → Option Ω) : ∀ m, (guard_beside.M0 fuel e4_1 e4_2 e4_3  k m) = iter (guard_beside.b0 e4_1 e4_2 e4_3  (fun r => k (tupAV (.int .i64) [] r))) m :=
 loopK_iter (envOf := (guard_beside.E0 e4_1 e4_2 e4_3)) (LOf := (guard_beside.H0 e4_1 e4_2 e4_3)) (B := guard_beside.b0 e4_1 e4_2 e4_3  (fun r => k (tupAV (.int .i64) [] r))) (fun R s => by kernel_rfl)
def guard_beside.sl (x0 : (List T_s227)) (x1 : T_s227) (lp0 : (List T_s227) → Int → T_s227 → Int → Option Ω) (k : Int → Option Ω) : Option Ω :=
 (bif (decide (((List.length x0 : Nat) : Int) > 0)) then (bif (idxOK (IntKind.wrap .i64 (((List.length x0 : Nat) : Int) - 1)) (List.length x0)) then (let v1 : Int := (List.getD x0 (Int.toNat (IntKind.wrap .i64 (((List.length x0 : Nat) : Int) - 1))) (0, (0, (0, (0, (0, ())))))).2.2.2.2.1; some ((decide (x1.2.2.2.2.1 ≤ v1)), ())) else none) else some (false, ())).bind fun j2 =>
 bif j2.1 then
 k 3
 else
 lp0 x0 (((List.length x0 : Nat) : Int)) x1 (0)
def guard_beside.g0 (e4_1 : (List T_s227)) (e4_3 : T_s227)  (k : Int → Option Ω) : List T_s227 → Option Ω
 | [] =>
 k 0
 | x4 :: xs4 =>
 bif (guard_clash.t (x4) e4_3) then
 k 7
 else
 guard_beside.g0 e4_1 e4_3  k xs4
theorem guard_beside.h0 (e4_1 : (List T_s227)) (e4_3 : T_s227)   (k : Int → Option Ω) (hX : ((List.length e4_1 : Nat) : Int) ≤ 9223372036854775807) : ∀ (m : Nat) (i : Int) (a : Unit), 0 ≤ i → i ≤ ((List.length e4_1 : Nat) : Int) → ((List.length e4_1 : Nat) : Int) < m + i → Le (guard_beside.g0 e4_1 e4_3  k (List.drop (Int.toNat i) e4_1) ) (iter (guard_beside.b0 e4_1 (((List.length e4_1 : Nat) : Int)) e4_3  k) m (i)) :=
 iter_list e4_1 (0, (0, (0, (0, (0, ()))))) (fun (i4 : Int) (a4 : Unit) => (i4)) (fun xs i4 a4 => guard_beside.g0 e4_1 e4_3  k xs ) (guard_beside.b0 e4_1 (((List.length e4_1 : Nat) : Int)) e4_3  k)
 (fun i4 a4 r h0 => (Le.fls h0 (Le.refl _)))
 (fun i4 xs4 a4 r h0 h1 hw ih => (Le.tru h0 (Le.tru h1 (Le.cond (Le.refl _) (ih _ hw ())))))
 hX
def guard_beside.w (x0 : (List T_s227)) (x1 : T_s227) (k : Int → Option Ω) : Option Ω :=
 (bif (decide (((List.length x0 : Nat) : Int) > 0)) then (bif (idxOK (IntKind.wrap .i64 (((List.length x0 : Nat) : Int) - 1)) (List.length x0)) then (let v1 : Int := (List.getD x0 (Int.toNat (IntKind.wrap .i64 (((List.length x0 : Nat) : Int) - 1))) (0, (0, (0, (0, (0, ())))))).2.2.2.2.1; some ((decide (x1.2.2.2.2.1 ≤ v1)), ())) else none) else some (false, ())).bind fun j2 =>
 bif j2.1 then
 k 3
 else
 bif decide (((List.length x0 : Nat) : Int) ≤ 4611686018427387904) then guard_beside.g0 x0 x1  k x0  else none
theorem guard_beside.ev (fuel : Nat) (x0 : (List T_s227)) (x1 : T_s227) (k : AV → Option Ω) : evFn CDEKP (spE (C := CDEKP) [guard_clash.n] []) (guard_beside.F fuel) Tryz.f189 (Tryz.f189.body.getD .skip) [(.v (.slice E_s227) (x0)), (.v E_s227 (x1))] k = guard_beside.sl x0 x1 (fun e4_1 e4_2 e4_3 => (guard_beside.M0 fuel e4_1 e4_2 e4_3  k fuel)) (fun r => k (tupAV (.int .i64) [] r)) := by kernel_rfl
theorem guard_beside.le (x0 : (List T_s227)) (x1 : T_s227) (k : AV → Option Ω) : Le (guard_beside.w x0 x1 (fun r => k (tupAV (.int .i64) [] r))) (guard_beside.sl x0 x1 (fun e4_1 e4_2 e4_3 => (guard_beside.M0 BIG e4_1 e4_2 e4_3  k BIG)) (fun r => k (tupAV (.int .i64) [] r))) := by
 have h1 := funext fun (e4_1 : (List T_s227)) => funext fun (e4_2 : Int) => funext fun (e4_3 : T_s227) => guard_beside.l0 BIG e4_1 e4_2 e4_3   k BIG
 rw [h1]
 delta guard_beside.w guard_beside.sl
 exact (Le.bnd fun j2 => (Le.cond (Le.refl _) (Le.gd fun hg => guard_beside.h0 _ _   _ (le_up (of_decide_eq_true hg)) BIG 0 () (by decide) (zero_le_len _) (big_list (of_decide_eq_true hg)))))
noncomputable def guard_beside.n : En CDEKP := mkE CDEKP_ok (es := [guard_clash.n]) (ms := []) (fuel := (guard_beside.F BIG)) 189 Tryz.f189 [.ai (.slice E_s227), .ai E_s227] (.int .i64) [] (fun x {Ω} k => guard_beside.w x.1 x.2.1 k) (fun x Ω k => leV (guard_beside.ev BIG x.1 x.2.1 k) (guard_beside.le x.1 x.2.1 k)) (by kernel_rfl) (by kernel_rfl)
def guard_number.s (x0 : Int) (k : ByteArray → Option Ω) : Option Ω :=
 (word_Text.u x0).bind fun y1 =>
 k y1.1
noncomputable def guard_number.n : En CDEKP := mkE CDEKP_ok (es := [word_Text.n]) (ms := []) (fuel := ⟨1, fun _ => []⟩) 254 Tryz.f254 [.ai (.int .i64)] .str [] (fun x {Ω} k => guard_number.s x.1 k) (fun x Ω k => Le.of (by kernel_rfl)) (by kernel_rfl) (by kernel_rfl)
noncomputable def strings_Repeat.n : En CDEKP := En.of (g := 148) (e := fun {_} => strings_Repeat.e) (strings_Repeat.e_ok.mono le_C_CDEKP)
def proc_bare.s (x0 : T_s70) (k : Bool → Option Ω) : Option Ω :=
 bif (x0.2.2.1 == 0) then
 let v1 : Bool := (eqI E_s67 x0.2.2.2.1 (0, (false, ((List.replicate 8 0), ((List.replicate 16 0), (0, ((List.replicate 8 0), ())))))))
 bif v1 then
 bif (x0.2.2.2.2.1 == 0) then
 bif (x0.2.2.2.2.2.1 == 0) then
 bif (x0.2.2.2.2.2.2.1 == 0) then
 k (((List.length x0.2.2.2.2.2.2.2.1 : Nat) : Int) == 0)
 else
 k false
 else
 k false
 else
 k false
 else
 k false
 else
 k false
def proc_bare.t (x0 : T_s70) : Bool :=
 bif (x0.2.2.1 == 0) then
 let v1 : Bool := (eqI E_s67 x0.2.2.2.1 (0, (false, ((List.replicate 8 0), ((List.replicate 16 0), (0, ((List.replicate 8 0), ())))))))
 bif v1 then
 bif (x0.2.2.2.2.1 == 0) then
 bif (x0.2.2.2.2.2.1 == 0) then
 bif (x0.2.2.2.2.2.2.1 == 0) then
 (((List.length x0.2.2.2.2.2.2.2.1 : Nat) : Int) == 0)
 else
 false
 else
 false
 else
 false
 else
 false
 else
 false
theorem proc_bare.v (x0 : T_s70) (k : Bool → Option Ω) : proc_bare.s x0 k = k (proc_bare.t x0) := by
 delta proc_bare.s proc_bare.t; exact (cond_tot (cond_tot (cond_tot (cond_tot (cond_tot rfl rfl) rfl) rfl) rfl) rfl)
noncomputable def proc_bare.n : En CDEKP := mkT CDEKP_ok (es := []) (ms := []) (fuel := ⟨1, fun _ => []⟩) 218 Tryz.f218 [.ai E_s70] .bool [] (fun x {Ω} k => proc_bare.s x.1 k) (fun x => proc_bare.t x.1) (fun x Ω k => by kernel_rfl) (fun x => proc_bare.v x.1 some) (by kernel_rfl) (by kernel_rfl)
def proc_one.s (x0 : T_s70) (k : Bool → Option Ω) : Option Ω :=
 (bif (decide (x0.1 < 0)) then some (true, ()) else some ((decide (x0.1 > 65535)), ())).bind fun j1 =>
 bif j1.1 then
 k false
 else
 bif (!x0.2.1) then
 k (proc_bare.t x0)
 else
 bif (decide (x0.1 > 0)) then
 bif (decide (x0.2.2.2.2.1 ≥ 0)) then
 bif (decide (x0.2.2.2.2.1 ≤ 3)) then
 (frame_Fine.u x0.2.2.2.1).bind fun y2 =>
 bif y2 then
 let v3 : Bool := (eqI .bool (x0.2.2.2.2.1 == 1) (decide (((List.length x0.2.2.2.2.2.2.2.1 : Nat) : Int) > 0)))
 k v3
 else
 k false
 else
 k false
 else
 k false
 else
 k false
def proc_one.u (x0 : T_s70) : Option (Bool) := proc_one.s x0 some
noncomputable def proc_one.n : En CDEKP := mkE CDEKP_ok (es := [frame_Fine.n, proc_bare.n]) (ms := []) (fuel := ⟨1, fun r => bif r == 2000001 then [3, 4, 5, 6, 7, 8, 9, 5010] else []⟩) 174 Tryz.f174 [.ai E_s70] .bool [] (fun x {Ω} k => proc_one.s x.1 k) (fun x Ω k => Le.of (by kernel_rfl)) (by kernel_rfl) (by kernel_rfl)
def proc_Fine.F (fuel : Nat) : Fuel := ⟨fuel, fun r => bif r == 2 then mL 0 18 261918 else []⟩
noncomputable def proc_Fine.V (fuel c : Nat) (env : List AV) (L : Heap) (k : Kont Ω) : Option Ω := evCode CDEKP (spE (C := CDEKP) [proc_one.n] []) (proc_Fine.F fuel) (pCo c Tryz.f95) env L k
def proc_Fine.E0 (e2_1 : (List T_s70)) (e2_2 : Int) (s2 : Int) : List AV := ((.v (.slice E_s70) (e2_1)) :: dZ 4 ((.v (.slice E_s70) (e2_1)) :: (.v (.int .i64) (e2_2)) :: (.v (.int .i64) (s2)) :: dZ 10 ([])))
def proc_Fine.H0 (e2_1 : (List T_s70)) (e2_2 : Int) (s2 : Int) : Heap := []
noncomputable def proc_Fine.M0 (fuel : Nat) (e2_1 : (List T_s70)) (e2_2 : Int)  (k : AV → Option Ω) (m : Nat) (s : Int) : Option Ω := loopK (proc_Fine.V fuel 37) (mB 18 261918) [] 0 (blockK 0 (sqK (proc_Fine.V fuel 7) (finK CDEKP Tryz.f95 k))) m ((proc_Fine.E0 e2_1 e2_2) s) ((proc_Fine.H0 e2_1 e2_2) s)
def proc_Fine.b0 (e2_1 : (List T_s70)) (e2_2 : Int)   (k : Bool → Option Ω) (r2 : Int → Option Ω) (s2 : Int) : Option Ω :=
 bif (decide (s2 < e2_2)) then
 bif (idxOK s2 (List.length e2_1)) then
 let v1 : T_s70 := (List.getD e2_1 (Int.toNat s2) (0, (false, (0, ((0, (false, ((List.replicate 8 0), ((List.replicate 16 0), (0, ((List.replicate 8 0), ())))))), (0, (0, (0, ([], ())))))))))
 (proc_one.u v1).bind fun y2 =>
 bif (!y2) then
 k false
 else
 r2 ((IntKind.wrap .i64 (s2 + 1)))
 else
 none
 else
 k (((List.length e2_1 : Nat) : Int) == 16)
theorem proc_Fine.l0 (fuel : Nat) (e2_1 : (List T_s70)) (e2_2 : Int)  (k : AV → Option Ω) : ∀ m, (proc_Fine.M0 fuel e2_1 e2_2  k m) = iter (proc_Fine.b0 e2_1 e2_2  (fun r => k (tupAV .bool [] r))) m :=
 loopK_iter (envOf := (proc_Fine.E0 e2_1 e2_2)) (LOf := (proc_Fine.H0 e2_1 e2_2)) (B := proc_Fine.b0 e2_1 e2_2  (fun r => k (tupAV .bool [] r))) (fun R s => by kernel_rfl)
def proc_Fine.sl (x0 : (List T_s70)) (lp0 : (List T_s70) → Int → Int → Option Ω) (k : Bool → Option Ω) : Option Ω :=
 lp0 x0 (((List.length x0 : Nat) : Int)) (0)
def proc_Fine.g0 (e2_1 : (List T_s70))  (k : Bool → Option Ω) : List T_s70 → Option Ω
 | [] =>
 k (((List.length e2_1 : Nat) : Int) == 16)
 | x2 :: xs2 =>
 let v1 : T_s70 := x2
 (proc_one.u v1).bind fun y2 =>
 bif (!y2) then
 k false
 else
 proc_Fine.g0 e2_1  k xs2
theorem proc_Fine.h0 (e2_1 : (List T_s70))   (k : Bool → Option Ω) (hX : ((List.length e2_1 : Nat) : Int) ≤ 9223372036854775807) : ∀ (m : Nat) (i : Int) (a : Unit), 0 ≤ i → i ≤ ((List.length e2_1 : Nat) : Int) → ((List.length e2_1 : Nat) : Int) < m + i → Le (proc_Fine.g0 e2_1  k (List.drop (Int.toNat i) e2_1) ) (iter (proc_Fine.b0 e2_1 (((List.length e2_1 : Nat) : Int))  k) m (i)) :=
 iter_list e2_1 (0, (false, (0, ((0, (false, ((List.replicate 8 0), ((List.replicate 16 0), (0, ((List.replicate 8 0), ())))))), (0, (0, (0, ([], ())))))))) (fun (i2 : Int) (a2 : Unit) => (i2)) (fun xs i2 a2 => proc_Fine.g0 e2_1  k xs ) (proc_Fine.b0 e2_1 (((List.length e2_1 : Nat) : Int))  k)
 (fun i2 a2 r h0 => (Le.fls h0 (Le.refl _)))
 (fun i2 xs2 a2 r h0 h1 hw ih => (Le.tru h0 (Le.tru h1 (let v1 : T_s70 := (List.getD e2_1 (Int.toNat i2) (0, (false, (0, ((0, (false, ((List.replicate 8 0), ((List.replicate 16 0), (0, ((List.replicate 8 0), ())))))), (0, (0, (0, ([], ()))))))))); (Le.bnd fun y2 => (Le.cond (Le.refl _) (ih _ hw ())))))))
 hX
def proc_Fine.w (x0 : (List T_s70)) (k : Bool → Option Ω) : Option Ω :=
 bif decide (((List.length x0 : Nat) : Int) ≤ 4611686018427387904) then proc_Fine.g0 x0  k x0  else none
theorem proc_Fine.ev (fuel : Nat) (x0 : (List T_s70)) (k : AV → Option Ω) : evFn CDEKP (spE (C := CDEKP) [proc_one.n] []) (proc_Fine.F fuel) Tryz.f95 (Tryz.f95.body.getD .skip) [(.v (.slice E_s70) (x0))] k = proc_Fine.sl x0 (fun e2_1 e2_2 => (proc_Fine.M0 fuel e2_1 e2_2  k fuel)) (fun r => k (tupAV .bool [] r)) := by kernel_rfl
theorem proc_Fine.le (x0 : (List T_s70)) (k : AV → Option Ω) : Le (proc_Fine.w x0 (fun r => k (tupAV .bool [] r))) (proc_Fine.sl x0 (fun e2_1 e2_2 => (proc_Fine.M0 BIG e2_1 e2_2  k BIG)) (fun r => k (tupAV .bool [] r))) := by
 have h1 := funext fun (e2_1 : (List T_s70)) => funext fun (e2_2 : Int) => proc_Fine.l0 BIG e2_1 e2_2   k BIG
 rw [h1]
 delta proc_Fine.w proc_Fine.sl
 exact (Le.gd fun hg => proc_Fine.h0 _   _ (le_up (of_decide_eq_true hg)) BIG 0 () (by decide) (zero_le_len _) (big_list (of_decide_eq_true hg)))
def proc_Fine.u (x0 : (List T_s70)) : Option (Bool) := proc_Fine.w x0 some
noncomputable def proc_Fine.n : En CDEKP := mkE CDEKP_ok (es := [proc_one.n]) (ms := []) (fuel := (proc_Fine.F BIG)) 95 Tryz.f95 [.ai (.slice E_s70)] .bool [] (fun x {Ω} k => proc_Fine.w x.1 k) (fun x Ω k => leV (proc_Fine.ev BIG x.1 k) (proc_Fine.le x.1 k)) (by kernel_rfl) (by kernel_rfl)
def proc_New.s  (k : (List T_s70) → Option Ω) : Option Ω :=
 bif (decide ((16 : Int) = (16 : Int)) && decide ((0 : Int) ≤ (16 : Int)) && decide ((16 : Int) ≤ (2147483648 : Int))) then
 k (List.replicate (Int.toNat (16 : Int)) (0, (false, (0, ((0, (false, ((List.replicate 8 0), ((List.replicate 16 0), (0, ((List.replicate 8 0), ())))))), (0, (0, (0, ([], ())))))))))
 else
 none
def proc_New.u  : Option ((List T_s70)) := proc_New.s  some
noncomputable def proc_New.n : En CDEKP := mkE CDEKP_ok (es := []) (ms := []) (fuel := ⟨1, fun _ => []⟩) 23 Tryz.f23 [] (.slice E_s70) [] (fun x {Ω} k => proc_New.s  k) (fun x Ω k => Le.of (by kernel_rfl)) (by kernel_rfl) (by kernel_rfl)
def proc_with.s (x0 : (List T_s70)) (x1 : Int) (x2 : T_s70) (k : (List T_s70) → Option Ω) : Option Ω :=
 bif (decide (((List.length x0 : Nat) : Int) = ((List.length x0 : Nat) : Int)) && decide ((0 : Int) ≤ ((List.length x0 : Nat) : Int)) && decide (((List.length x0 : Nat) : Int) ≤ (2147483648 : Int))) then
 bif (idxOK x1 (List.length (copyL (List.replicate (Int.toNat ((List.length x0 : Nat) : Int)) (0, (false, (0, ((0, (false, ((List.replicate 8 0), ((List.replicate 16 0), (0, ((List.replicate 8 0), ())))))), (0, (0, (0, ([], ()))))))))) x0))) then
 k (List.set (copyL (List.replicate (Int.toNat ((List.length x0 : Nat) : Int)) (0, (false, (0, ((0, (false, ((List.replicate 8 0), ((List.replicate 16 0), (0, ((List.replicate 8 0), ())))))), (0, (0, (0, ([], ()))))))))) x0) (Int.toNat x1) x2)
 else
 none
 else
 none
def proc_with.u (x0 : (List T_s70)) (x1 : Int) (x2 : T_s70) : Option ((List T_s70)) := proc_with.s x0 x1 x2 some
noncomputable def proc_with.n : En CDEKP := mkE CDEKP_ok (es := []) (ms := []) (fuel := ⟨1, fun _ => []⟩) 99 Tryz.f99 [.ai (.slice E_s70), .ai (.int .i64), .ai E_s70] (.slice E_s70) [] (fun x {Ω} k => proc_with.s x.1 x.2.1 x.2.2.1 k) (fun x Ω k => Le.of (by kernel_rfl)) (by kernel_rfl) (by kernel_rfl)
def proc_Spawn.F (fuel : Nat) : Fuel := ⟨fuel, fun r => bif r == 6 then mL 0 68 295147905179235385336 else bif r == 2000008 then [31, 32, 33, 34, 35, 36, 5037] else []⟩
noncomputable def proc_Spawn.V (fuel c : Nat) (env : List AV) (L : Heap) (k : Kont Ω) : Option Ω := evCode CDEKP (spE (C := CDEKP) [proc_Fine.n, word_Fine.n, frame_New.n, handle_Make.n, proc_with.n] []) (proc_Spawn.F fuel) (pCo c Tryz.f26) env L k
def proc_Spawn.E0 (e6_1 : (List T_s70)) (e6_2 : Int) (e6_3 : Int) (e6_4 : Int) (s6 : Int) : List AV := ((.v (.slice E_s70) (e6_1)) :: (.v (.int .i64) (e6_2)) :: (.v (.int .i64) (e6_3)) :: dZ 21 ((.v (.slice E_s70) (e6_1)) :: (.v (.int .i64) (e6_4)) :: (.v (.int .i64) (s6)) :: dZ 41 ([])))
def proc_Spawn.H0 (e6_1 : (List T_s70)) (e6_2 : Int) (e6_3 : Int) (e6_4 : Int) (s6 : Int) : Heap := [(.row 71 E_s70 [] false)]
noncomputable def proc_Spawn.M0 (fuel : Nat) (e6_1 : (List T_s70)) (e6_2 : Int) (e6_3 : Int) (e6_4 : Int)  (k : AV → Option Ω) (m : Nat) (s : Int) : Option Ω := loopK (proc_Spawn.V fuel 75) (mB 68 295147905179235385336) [] 1 (blockK 1 (sqK (proc_Spawn.V fuel 15) (finK CDEKP Tryz.f26 k))) m ((proc_Spawn.E0 e6_1 e6_2 e6_3 e6_4) s) ((proc_Spawn.H0 e6_1 e6_2 e6_3 e6_4) s)
def proc_Spawn.b0 (e6_1 : (List T_s70)) (e6_2 : Int) (e6_3 : Int) (e6_4 : Int)   (k : (List T_s70) × Int × Int → Option Ω) (r6 : Int → Option Ω) (s6 : Int) : Option Ω :=
 bif (decide (s6 < e6_4)) then
 bif (idxOK s6 (List.length e6_1)) then
 let v2 : T_s70 := (List.getD e6_1 (Int.toNat s6) (0, (false, (0, ((0, (false, ((List.replicate 8 0), ((List.replicate 16 0), (0, ((List.replicate 8 0), ())))))), (0, (0, (0, ([], ())))))))))
 (bif v2.2.1 then some (true, ()) else some ((v2.1 == 65535), ())).bind fun j3 =>
 bif j3.1 then
 r6 ((IntKind.wrap .i64 (s6 + 1)))
 else
 let v4 : T_s67 × Int := (frame_New.t e6_3)
 bif (v4.2 != 0) then
 k (e6_1, 0, v4.2)
 else
 let v5 : Int × Int := (handle_Make.t s6 ((IntKind.wrap .i64 (v2.1 + 1))))
 (proc_with.u e6_1 s6 (((IntKind.wrap .i64 (v2.1 + 1)), (true, (e6_2, (v4.1, (0, (0, (0, ([], ())))))))))).bind fun y6 =>
 k (y6, v5.1, v5.2)
 else
 none
 else
 k (e6_1, 0, 10)
theorem proc_Spawn.l0 (fuel : Nat) (e6_1 : (List T_s70)) (e6_2 : Int) (e6_3 : Int) (e6_4 : Int)  (k : AV → Option Ω) : ∀ m, (proc_Spawn.M0 fuel e6_1 e6_2 e6_3 e6_4  k m) = iter (proc_Spawn.b0 e6_1 e6_2 e6_3 e6_4  (fun r => k (tupAV (.slice E_s70) [(.int .i64), (.int .i64)] r))) m :=
 loopK_iter (envOf := (proc_Spawn.E0 e6_1 e6_2 e6_3 e6_4)) (LOf := (proc_Spawn.H0 e6_1 e6_2 e6_3 e6_4)) (B := proc_Spawn.b0 e6_1 e6_2 e6_3 e6_4  (fun r => k (tupAV (.slice E_s70) [(.int .i64), (.int .i64)] r))) (fun R s => by kernel_rfl)
def proc_Spawn.sl (x0 : (List T_s70)) (x1 : Int) (x2 : Int) (lp0 : (List T_s70) → Int → Int → Int → Int → Option Ω) (k : (List T_s70) × Int × Int → Option Ω) : Option Ω :=
 (proc_Fine.u x0).bind fun y1 =>
 bif (!y1) then
 k (x0, 0, 1)
 else
 bif (!(word_Fine.t x2)) then
 k (x0, 0, 8)
 else
 lp0 x0 x1 x2 (((List.length x0 : Nat) : Int)) (0)
def proc_Spawn.g0 (e6_1 : (List T_s70)) (e6_2 : Int) (e6_3 : Int)  (k : (List T_s70) × Int × Int → Option Ω) : List T_s70 → Int → Option Ω
 | [], i6 =>
 k (e6_1, 0, 10)
 | x6 :: xs6, i6 =>
 let v2 : T_s70 := x6
 (bif v2.2.1 then some (true, ()) else some ((v2.1 == 65535), ())).bind fun j3 =>
 bif j3.1 then
 proc_Spawn.g0 e6_1 e6_2 e6_3  k xs6 (i6 + 1)
 else
 let v4 : T_s67 × Int := (frame_New.t e6_3)
 bif (v4.2 != 0) then
 k (e6_1, 0, v4.2)
 else
 let v5 : Int × Int := (handle_Make.t i6 ((IntKind.wrap .i64 (v2.1 + 1))))
 (proc_with.u e6_1 i6 (((IntKind.wrap .i64 (v2.1 + 1)), (true, (e6_2, (v4.1, (0, (0, (0, ([], ())))))))))).bind fun y6 =>
 k (y6, v5.1, v5.2)
theorem proc_Spawn.h0 (e6_1 : (List T_s70)) (e6_2 : Int) (e6_3 : Int)   (k : (List T_s70) × Int × Int → Option Ω) (hX : ((List.length e6_1 : Nat) : Int) ≤ 9223372036854775807) : ∀ (m : Nat) (i : Int) (a : Unit), 0 ≤ i → i ≤ ((List.length e6_1 : Nat) : Int) → ((List.length e6_1 : Nat) : Int) < m + i → Le (proc_Spawn.g0 e6_1 e6_2 e6_3  k (List.drop (Int.toNat i) e6_1) i) (iter (proc_Spawn.b0 e6_1 e6_2 e6_3 (((List.length e6_1 : Nat) : Int))  k) m (i)) :=
 iter_list e6_1 (0, (false, (0, ((0, (false, ((List.replicate 8 0), ((List.replicate 16 0), (0, ((List.replicate 8 0), ())))))), (0, (0, (0, ([], ())))))))) (fun (i6 : Int) (a6 : Unit) => (i6)) (fun xs i6 a6 => proc_Spawn.g0 e6_1 e6_2 e6_3  k xs i6) (proc_Spawn.b0 e6_1 e6_2 e6_3 (((List.length e6_1 : Nat) : Int))  k)
 (fun i6 a6 r h0 => (Le.fls h0 (Le.refl _)))
 (fun i6 xs6 a6 r h0 h1 hw ih => (Le.tru h0 (Le.tru h1 (let v2 : T_s70 := (List.getD e6_1 (Int.toNat i6) (0, (false, (0, ((0, (false, ((List.replicate 8 0), ((List.replicate 16 0), (0, ((List.replicate 8 0), ())))))), (0, (0, (0, ([], ()))))))))); (Le.bnd fun j3 => (Le.cond (ih _ hw ()) (let v4 : T_s67 × Int := (frame_New.t e6_3); (Le.cond (Le.refl _) (let v5 : Int × Int := (handle_Make.t i6 ((IntKind.wrap .i64 (v2.1 + 1)))); (Le.bnd fun y6 => (Le.refl _)))))))))))
 hX
def proc_Spawn.w (x0 : (List T_s70)) (x1 : Int) (x2 : Int) (k : (List T_s70) × Int × Int → Option Ω) : Option Ω :=
 (proc_Fine.u x0).bind fun y1 =>
 bif (!y1) then
 k (x0, 0, 1)
 else
 bif (!(word_Fine.t x2)) then
 k (x0, 0, 8)
 else
 bif decide (((List.length x0 : Nat) : Int) ≤ 4611686018427387904) then proc_Spawn.g0 x0 x1 x2  k x0 0 else none
theorem proc_Spawn.ev (fuel : Nat) (x0 : (List T_s70)) (x1 : Int) (x2 : Int) (k : AV → Option Ω) : evFn CDEKP (spE (C := CDEKP) [proc_Fine.n, word_Fine.n, frame_New.n, handle_Make.n, proc_with.n] []) (proc_Spawn.F fuel) Tryz.f26 (Tryz.f26.body.getD .skip) [(.v (.slice E_s70) (x0)), (.v (.int .i64) (x1)), (.v (.int .i64) (x2))] k = proc_Spawn.sl x0 x1 x2 (fun e6_1 e6_2 e6_3 e6_4 => (proc_Spawn.M0 fuel e6_1 e6_2 e6_3 e6_4  k fuel)) (fun r => k (tupAV (.slice E_s70) [(.int .i64), (.int .i64)] r)) := by kernel_rfl
theorem proc_Spawn.le (x0 : (List T_s70)) (x1 : Int) (x2 : Int) (k : AV → Option Ω) : Le (proc_Spawn.w x0 x1 x2 (fun r => k (tupAV (.slice E_s70) [(.int .i64), (.int .i64)] r))) (proc_Spawn.sl x0 x1 x2 (fun e6_1 e6_2 e6_3 e6_4 => (proc_Spawn.M0 BIG e6_1 e6_2 e6_3 e6_4  k BIG)) (fun r => k (tupAV (.slice E_s70) [(.int .i64), (.int .i64)] r))) := by
 have h1 := funext fun (e6_1 : (List T_s70)) => funext fun (e6_2 : Int) => funext fun (e6_3 : Int) => funext fun (e6_4 : Int) => proc_Spawn.l0 BIG e6_1 e6_2 e6_3 e6_4   k BIG
 rw [h1]
 delta proc_Spawn.w proc_Spawn.sl
 exact (Le.bnd fun y1 => (Le.cond (Le.refl _) (Le.cond (Le.refl _) (Le.gd fun hg => proc_Spawn.h0 _ _ _   _ (le_up (of_decide_eq_true hg)) BIG 0 () (by decide) (zero_le_len _) (big_list (of_decide_eq_true hg))))))
def proc_Spawn.u (x0 : (List T_s70)) (x1 : Int) (x2 : Int) : Option ((List T_s70) × Int × Int) := proc_Spawn.w x0 x1 x2 some
noncomputable def proc_Spawn.n : En CDEKP := mkE CDEKP_ok (es := [proc_Fine.n, word_Fine.n, frame_New.n, handle_Make.n, proc_with.n]) (ms := []) (fuel := (proc_Spawn.F BIG)) 26 Tryz.f26 [.ai (.slice E_s70), .ai (.int .i64), .ai (.int .i64)] (.slice E_s70) [(.int .i64), (.int .i64)] (fun x {Ω} k => proc_Spawn.w x.1 x.2.1 x.2.2.1 k) (fun x Ω k => leV (proc_Spawn.ev BIG x.1 x.2.1 x.2.2.1 k) (proc_Spawn.le x.1 x.2.1 x.2.2.1 k)) (by kernel_rfl) (by kernel_rfl)
def ref31_New.s  (k : (List T_s70) → Option Ω) : Option Ω :=
 bif (decide ((16 : Int) = (16 : Int)) && decide ((0 : Int) ≤ (16 : Int)) && decide ((16 : Int) ≤ (2147483648 : Int))) then
 k (List.replicate (Int.toNat (16 : Int)) (0, (false, (0, ((0, (false, ((List.replicate 8 0), ((List.replicate 16 0), (0, ((List.replicate 8 0), ())))))), (0, (0, (0, ([], ())))))))))
 else
 none
def ref31_New.u  : Option ((List T_s70)) := ref31_New.s  some
noncomputable def ref31_New.n : En CDEKP := mkE CDEKP_ok (es := []) (ms := []) (fuel := ⟨1, fun _ => []⟩) 29 Tryz.f29 [] (.slice E_s70) [] (fun x {Ω} k => ref31_New.s  k) (fun x Ω k => Le.of (by kernel_rfl)) (by kernel_rfl) (by kernel_rfl)
def ref31_SameProc.s (x0 : T_s70) (x1 : T_s70) (k : Bool → Option Ω) : Option Ω :=
 bif (x0.1 == x1.1) then
 bif (eqI .bool x0.2.1 x1.2.1) then
 bif (x0.2.2.1 == x1.2.2.1) then
 bif (eqI E_s67 x0.2.2.2.1 x1.2.2.2.1) then
 bif (x0.2.2.2.2.1 == x1.2.2.2.2.1) then
 bif (x0.2.2.2.2.2.1 == x1.2.2.2.2.2.1) then
 bif (x0.2.2.2.2.2.2.1 == x1.2.2.2.2.2.2.1) then
 (ref15_SameGuards.u x0.2.2.2.2.2.2.2.1 x1.2.2.2.2.2.2.2.1).bind fun y1 =>
 k y1
 else
 k false
 else
 k false
 else
 k false
 else
 k false
 else
 k false
 else
 k false
 else
 k false
def ref31_SameProc.u (x0 : T_s70) (x1 : T_s70) : Option (Bool) := ref31_SameProc.s x0 x1 some
noncomputable def ref31_SameProc.n : En CDEKP := mkE CDEKP_ok (es := [ref15_SameGuards.n]) (ms := []) (fuel := ⟨1, fun _ => []⟩) 118 Tryz.f118 [.ai E_s70, .ai E_s70] .bool [] (fun x {Ω} k => ref31_SameProc.s x.1 x.2.1 k) (fun x Ω k => Le.of (by kernel_rfl)) (by kernel_rfl) (by kernel_rfl)
def ref31_Fine.F (fuel : Nat) : Fuel := ⟨fuel, fun r => bif r == 4 then mL 0 80 1208925819614629174706166 else bif r == 2000011 then [35, 36, 37, 38, 39, 40, 41, 42, 43, 44, 45, 46, 47, 48, 49, 50, 51, 52, 53, 54, 55, 56, 57, 58, 59, 60, 61, 62, 63, 64, 65, 66, 67, 68, 69, 70, 71, 72, 73, 74, 75, 76, 77, 78, 5079] else bif r == 2000009 then [24, 25, 26, 27, 28, 29, 30, 31, 32, 33, 5034] else bif r == 2000007 then [16, 17, 18, 19, 20, 21, 22, 5023] else []⟩
noncomputable def ref31_Fine.V (fuel c : Nat) (env : List AV) (L : Heap) (k : Kont Ω) : Option Ω := evCode CDEKP (spE (C := CDEKP) [ref31_SameProc.n, ref13_Fine.n] []) (ref31_Fine.F fuel) (pCo c Tryz.f110) env L k
def ref31_Fine.E0 (e4_1 : (List T_s70)) (s4 : Int) : List AV := ((.v (.slice E_s70) (e4_1)) :: dZ 2 ((.v (.int .i64) (s4)) :: dZ 76 ([])))
def ref31_Fine.H0 (e4_1 : (List T_s70)) (s4 : Int) : Heap := []
noncomputable def ref31_Fine.M0 (fuel : Nat) (e4_1 : (List T_s70))  (k : AV → Option Ω) (m : Nat) (s : Int) : Option Ω := loopK (ref31_Fine.V fuel 75) (mB 80 1208925819614629174706166) [] 0 (blockK 0 (sqK (ref31_Fine.V fuel 15) (finK CDEKP Tryz.f110 k))) m ((ref31_Fine.E0 e4_1) s) ((ref31_Fine.H0 e4_1) s)
def ref31_Fine.b0 (e4_1 : (List T_s70))   (k : Bool → Option Ω) (r4 : Int → Option Ω) (s4 : Int) : Option Ω :=
 bif (decide (s4 < 16)) then
 bif (idxOK s4 (List.length e4_1)) then
 let v1 : T_s70 := (List.getD e4_1 (Int.toNat s4) (0, (false, (0, ((0, (false, ((List.replicate 8 0), ((List.replicate 16 0), (0, ((List.replicate 8 0), ())))))), (0, (0, (0, ([], ())))))))))
 (bif (decide (v1.1 < 0)) then some (true, ()) else some ((decide (v1.1 > 65535)), ())).bind fun j2 =>
 bif j2.1 then
 k false
 else
 (bif (!v1.2.1) then ((ref31_SameProc.u v1 ((v1.1, (false, (0, ((0, (false, ((List.replicate 8 0), ((List.replicate 16 0), (0, ((List.replicate 8 0), ())))))), (0, (0, (0, ([], ())))))))))).bind fun y3 => some ((!y3), ())) else some (false, ())).bind fun j4 =>
 bif j4.1 then
 k false
 else
 (bif v1.2.1 then (bif (v1.1 == 0) then some (true, ()) else (bif (decide (v1.2.2.2.2.1 < 0)) then some (true, ()) else (bif (decide (v1.2.2.2.2.1 > 3)) then some (true, ()) else ((ref13_Fine.u v1.2.2.2.1).bind fun y5 => (bif (!y5) then some (true, ()) else (bif (v1.2.2.2.2.1 == 1) then (bif (((List.length v1.2.2.2.2.2.2.2.1 : Nat) : Int) == 0) then some (true, ()) else (bif (v1.2.2.2.2.1 != 1) then some ((decide (((List.length v1.2.2.2.2.2.2.2.1 : Nat) : Int) > 0)), ()) else some (false, ()))) else (bif (v1.2.2.2.2.1 != 1) then some ((decide (((List.length v1.2.2.2.2.2.2.2.1 : Nat) : Int) > 0)), ()) else some (false, ())))))))) else some (false, ())).bind fun j6 =>
 bif j6.1 then
 k false
 else
 r4 ((IntKind.wrap .i64 (s4 + 1)))
 else
 none
 else
 k true
theorem ref31_Fine.l0 (fuel : Nat) (e4_1 : (List T_s70))  (k : AV → Option Ω) : ∀ m, (ref31_Fine.M0 fuel e4_1  k m) = iter (ref31_Fine.b0 e4_1  (fun r => k (tupAV .bool [] r))) m :=
 loopK_iter (envOf := (ref31_Fine.E0 e4_1)) (LOf := (ref31_Fine.H0 e4_1)) (B := ref31_Fine.b0 e4_1  (fun r => k (tupAV .bool [] r))) (fun R s => by kernel_rfl)
def ref31_Fine.sl (x0 : (List T_s70)) (lp0 : (List T_s70) → Int → Option Ω) (k : Bool → Option Ω) : Option Ω :=
 bif (((List.length x0 : Nat) : Int) != 16) then
 k false
 else
 lp0 x0 (0)
def ref31_Fine.g0 (e4_1 : (List T_s70))  (k : Bool → Option Ω) : Nat → Int → Option Ω
 | 0, i4 =>
 k true
 | d4 + 1, i4 =>
 bif (idxOK i4 (List.length e4_1)) then
 let v1 : T_s70 := (List.getD e4_1 (Int.toNat i4) (0, (false, (0, ((0, (false, ((List.replicate 8 0), ((List.replicate 16 0), (0, ((List.replicate 8 0), ())))))), (0, (0, (0, ([], ())))))))))
 (bif (decide (v1.1 < 0)) then some (true, ()) else some ((decide (v1.1 > 65535)), ())).bind fun j2 =>
 bif j2.1 then
 k false
 else
 (bif (!v1.2.1) then ((ref31_SameProc.u v1 ((v1.1, (false, (0, ((0, (false, ((List.replicate 8 0), ((List.replicate 16 0), (0, ((List.replicate 8 0), ())))))), (0, (0, (0, ([], ())))))))))).bind fun y3 => some ((!y3), ())) else some (false, ())).bind fun j4 =>
 bif j4.1 then
 k false
 else
 (bif v1.2.1 then (bif (v1.1 == 0) then some (true, ()) else (bif (decide (v1.2.2.2.2.1 < 0)) then some (true, ()) else (bif (decide (v1.2.2.2.2.1 > 3)) then some (true, ()) else ((ref13_Fine.u v1.2.2.2.1).bind fun y5 => (bif (!y5) then some (true, ()) else (bif (v1.2.2.2.2.1 == 1) then (bif (((List.length v1.2.2.2.2.2.2.2.1 : Nat) : Int) == 0) then some (true, ()) else (bif (v1.2.2.2.2.1 != 1) then some ((decide (((List.length v1.2.2.2.2.2.2.2.1 : Nat) : Int) > 0)), ()) else some (false, ()))) else (bif (v1.2.2.2.2.1 != 1) then some ((decide (((List.length v1.2.2.2.2.2.2.2.1 : Nat) : Int) > 0)), ()) else some (false, ())))))))) else some (false, ())).bind fun j6 =>
 bif j6.1 then
 k false
 else
 ref31_Fine.g0 e4_1  k d4 (i4 + 1)
 else
 none
theorem ref31_Fine.h0 (e4_1 : (List T_s70))   (k : Bool → Option Ω) (hN : (16 : Int) ≤ 9223372036854775807) : ∀ (m : Nat) (i : Int) (a : Unit), -9223372036854775808 ≤ i → Int.toNat ((16 : Int) - i) < m → Le (ref31_Fine.g0 e4_1  k (Int.toNat ((16 : Int) - i)) i) (iter (ref31_Fine.b0 e4_1  k) m (i)) :=
 iter_count (16 : Int) (fun i4 => (decide (i4 < 16))) (fun i => rfl) (fun (i4 : Int) (a4 : Unit) => (i4)) (fun xs i4 a4 => ref31_Fine.g0 e4_1  k xs i4) (ref31_Fine.b0 e4_1  k)
 (fun i4 a4 r h0 => (Le.fls h0 (Le.refl _)))
 (fun i4 d4 a4 r h0 hw ih => (Le.tru h0 (Le.cond (let v1 : T_s70 := (List.getD e4_1 (Int.toNat i4) (0, (false, (0, ((0, (false, ((List.replicate 8 0), ((List.replicate 16 0), (0, ((List.replicate 8 0), ())))))), (0, (0, (0, ([], ()))))))))); (Le.bnd fun j2 => (Le.cond (Le.refl _) (Le.bnd fun j4 => (Le.cond (Le.refl _) (Le.bnd fun j6 => (Le.cond (Le.refl _) (ih _ hw ())))))))) Le.nil)))
 hN
def ref31_Fine.w (x0 : (List T_s70)) (k : Bool → Option Ω) : Option Ω :=
 bif (((List.length x0 : Nat) : Int) != 16) then
 k false
 else
 ref31_Fine.g0 x0  k ((Int.toNat ((16 : Int) - 0))) 0
theorem ref31_Fine.ev (fuel : Nat) (x0 : (List T_s70)) (k : AV → Option Ω) : evFn CDEKP (spE (C := CDEKP) [ref31_SameProc.n, ref13_Fine.n] []) (ref31_Fine.F fuel) Tryz.f110 (Tryz.f110.body.getD .skip) [(.v (.slice E_s70) (x0))] k = ref31_Fine.sl x0 (fun e4_1 => (ref31_Fine.M0 fuel e4_1  k fuel)) (fun r => k (tupAV .bool [] r)) := by kernel_rfl
theorem ref31_Fine.le (x0 : (List T_s70)) (k : AV → Option Ω) : Le (ref31_Fine.w x0 (fun r => k (tupAV .bool [] r))) (ref31_Fine.sl x0 (fun e4_1 => (ref31_Fine.M0 BIG e4_1  k BIG)) (fun r => k (tupAV .bool [] r))) := by
 have h1 := funext fun (e4_1 : (List T_s70)) => ref31_Fine.l0 BIG e4_1   k BIG
 rw [h1]
 delta ref31_Fine.w ref31_Fine.sl
 exact (Le.cond (Le.refl _) (ref31_Fine.h0 _   _ (by decide) BIG 0 () (by decide) (by decide)))
def ref31_Fine.u (x0 : (List T_s70)) : Option (Bool) := ref31_Fine.w x0 some
noncomputable def ref31_Fine.n : En CDEKP := mkE CDEKP_ok (es := [ref31_SameProc.n, ref13_Fine.n]) (ms := []) (fuel := (ref31_Fine.F BIG)) 110 Tryz.f110 [.ai (.slice E_s70)] .bool [] (fun x {Ω} k => ref31_Fine.w x.1 k) (fun x Ω k => leV (ref31_Fine.ev BIG x.1 k) (ref31_Fine.le x.1 k)) (by kernel_rfl) (by kernel_rfl)
def ref31_Put.s (x0 : (List T_s70)) (x1 : Int) (x2 : T_s70) (k : (List T_s70) → Option Ω) : Option Ω :=
 bif (decide (List.length x0 ≤ rowMax)) then
 bif (idxOK x1 (List.length x0)) then
 k (List.set x0 (Int.toNat x1) x2)
 else
 none
 else
 none
def ref31_Put.u (x0 : (List T_s70)) (x1 : Int) (x2 : T_s70) : Option ((List T_s70)) := ref31_Put.s x0 x1 x2 some
noncomputable def ref31_Put.n : En CDEKP := mkE CDEKP_ok (es := []) (ms := []) (fuel := ⟨1, fun _ => []⟩) 114 Tryz.f114 [.ai (.slice E_s70), .ai (.int .i64), .ai E_s70] (.slice E_s70) [] (fun x {Ω} k => ref31_Put.s x.1 x.2.1 x.2.2.1 k) (fun x Ω k => Le.of (by kernel_rfl)) (by kernel_rfl) (by kernel_rfl)
def ref31_Spawn.F (fuel : Nat) : Fuel := ⟨fuel, fun r => bif r == 6 then mL 0 70 1180591620717411302904 else bif r == 2000008 then [26, 27, 28, 29, 30, 31, 32, 33, 34, 35, 36, 37, 38, 5039] else []⟩
noncomputable def ref31_Spawn.V (fuel c : Nat) (env : List AV) (L : Heap) (k : Kont Ω) : Option Ω := evCode CDEKP (spE (C := CDEKP) [ref31_Fine.n, ref08_Fine.n, ref13_New.n, ref01_Make.n, ref31_Put.n] []) (ref31_Spawn.F fuel) (pCo c Tryz.f32) env L k
def ref31_Spawn.E0 (e6_1 : (List T_s70)) (e6_2 : Int) (e6_3 : Int) (s6 : Int) : List AV := ((.v (.slice E_s70) (e6_1)) :: (.v (.int .i64) (e6_2)) :: (.v (.int .i64) (e6_3)) :: dZ 6 ((.v (.int .i64) (s6)) :: dZ 60 ([])))
def ref31_Spawn.H0 (e6_1 : (List T_s70)) (e6_2 : Int) (e6_3 : Int) (s6 : Int) : Heap := [(.row 203 E_s70 [] false)]
noncomputable def ref31_Spawn.M0 (fuel : Nat) (e6_1 : (List T_s70)) (e6_2 : Int) (e6_3 : Int)  (k : AV → Option Ω) (m : Nat) (s : Int) : Option Ω := loopK (ref31_Spawn.V fuel 151) (mB 70 1180591620717411302904) [] 1 (blockK 0 (sqK (ref31_Spawn.V fuel 31) (finK CDEKP Tryz.f32 k))) m ((ref31_Spawn.E0 e6_1 e6_2 e6_3) s) ((ref31_Spawn.H0 e6_1 e6_2 e6_3) s)
def ref31_Spawn.b0 (e6_1 : (List T_s70)) (e6_2 : Int) (e6_3 : Int)   (k : (List T_s70) × Int × Int → Option Ω) (r6 : Int → Option Ω) (s6 : Int) : Option Ω :=
 bif (decide (s6 < 16)) then
 (bif (idxOK s6 (List.length e6_1)) then (let v2 : Bool := (List.getD e6_1 (Int.toNat s6) (0, (false, (0, ((0, (false, ((List.replicate 8 0), ((List.replicate 16 0), (0, ((List.replicate 8 0), ())))))), (0, (0, (0, ([], ()))))))))).2.1; (bif (!v2) then (bif (idxOK s6 (List.length e6_1)) then (let v3 : Int := (List.getD e6_1 (Int.toNat s6) (0, (false, (0, ((0, (false, ((List.replicate 8 0), ((List.replicate 16 0), (0, ((List.replicate 8 0), ())))))), (0, (0, (0, ([], ()))))))))).1; some ((decide (v3 < 65535)), ())) else none) else some (false, ()))) else none).bind fun j4 =>
 bif j4.1 then
 let v5 : T_s67 × Int := (ref13_New.t e6_3)
 bif (idxOK s6 (List.length e6_1)) then
 let v6 : Int := (List.getD e6_1 (Int.toNat s6) (0, (false, (0, ((0, (false, ((List.replicate 8 0), ((List.replicate 16 0), (0, ((List.replicate 8 0), ())))))), (0, (0, (0, ([], ()))))))))).1
 let v7 : Int × Int := (ref01_Make.t s6 ((IntKind.wrap .i64 (v6 + 1))))
 bif (idxOK s6 (List.length e6_1)) then
 let v8 : Int := (List.getD e6_1 (Int.toNat s6) (0, (false, (0, ((0, (false, ((List.replicate 8 0), ((List.replicate 16 0), (0, ((List.replicate 8 0), ())))))), (0, (0, (0, ([], ()))))))))).1
 (ref31_Put.u e6_1 s6 (((IntKind.wrap .i64 (v8 + 1)), (true, (e6_2, (v5.1, (0, (0, (0, ([], ())))))))))).bind fun y9 =>
 k (y9, v7.1, 0)
 else
 none
 else
 none
 else
 r6 ((IntKind.wrap .i64 (s6 + 1)))
 else
 k (e6_1, 0, 10)
theorem ref31_Spawn.l0 (fuel : Nat) (e6_1 : (List T_s70)) (e6_2 : Int) (e6_3 : Int)  (k : AV → Option Ω) : ∀ m, (ref31_Spawn.M0 fuel e6_1 e6_2 e6_3  k m) = iter (ref31_Spawn.b0 e6_1 e6_2 e6_3  (fun r => k (tupAV (.slice E_s70) [(.int .i64), (.int .i64)] r))) m :=
 loopK_iter (envOf := (ref31_Spawn.E0 e6_1 e6_2 e6_3)) (LOf := (ref31_Spawn.H0 e6_1 e6_2 e6_3)) (B := ref31_Spawn.b0 e6_1 e6_2 e6_3  (fun r => k (tupAV (.slice E_s70) [(.int .i64), (.int .i64)] r))) (fun R s => by kernel_rfl)
def ref31_Spawn.sl (x0 : (List T_s70)) (x1 : Int) (x2 : Int) (lp0 : (List T_s70) → Int → Int → Int → Option Ω) (k : (List T_s70) × Int × Int → Option Ω) : Option Ω :=
 (ref31_Fine.u x0).bind fun y1 =>
 bif (!y1) then
 k (x0, 0, 1)
 else
 bif (!(ref08_Fine.t x2)) then
 k (x0, 0, 8)
 else
 lp0 x0 x1 x2 (0)
def ref31_Spawn.g0 (e6_1 : (List T_s70)) (e6_2 : Int) (e6_3 : Int)  (k : (List T_s70) × Int × Int → Option Ω) : Nat → Int → Option Ω
 | 0, i6 =>
 k (e6_1, 0, 10)
 | d6 + 1, i6 =>
 (bif (idxOK i6 (List.length e6_1)) then (let v2 : Bool := (List.getD e6_1 (Int.toNat i6) (0, (false, (0, ((0, (false, ((List.replicate 8 0), ((List.replicate 16 0), (0, ((List.replicate 8 0), ())))))), (0, (0, (0, ([], ()))))))))).2.1; (bif (!v2) then (bif (idxOK i6 (List.length e6_1)) then (let v3 : Int := (List.getD e6_1 (Int.toNat i6) (0, (false, (0, ((0, (false, ((List.replicate 8 0), ((List.replicate 16 0), (0, ((List.replicate 8 0), ())))))), (0, (0, (0, ([], ()))))))))).1; some ((decide (v3 < 65535)), ())) else none) else some (false, ()))) else none).bind fun j4 =>
 bif j4.1 then
 let v5 : T_s67 × Int := (ref13_New.t e6_3)
 bif (idxOK i6 (List.length e6_1)) then
 let v6 : Int := (List.getD e6_1 (Int.toNat i6) (0, (false, (0, ((0, (false, ((List.replicate 8 0), ((List.replicate 16 0), (0, ((List.replicate 8 0), ())))))), (0, (0, (0, ([], ()))))))))).1
 let v7 : Int × Int := (ref01_Make.t i6 ((IntKind.wrap .i64 (v6 + 1))))
 bif (idxOK i6 (List.length e6_1)) then
 let v8 : Int := (List.getD e6_1 (Int.toNat i6) (0, (false, (0, ((0, (false, ((List.replicate 8 0), ((List.replicate 16 0), (0, ((List.replicate 8 0), ())))))), (0, (0, (0, ([], ()))))))))).1
 (ref31_Put.u e6_1 i6 (((IntKind.wrap .i64 (v8 + 1)), (true, (e6_2, (v5.1, (0, (0, (0, ([], ())))))))))).bind fun y9 =>
 k (y9, v7.1, 0)
 else
 none
 else
 none
 else
 ref31_Spawn.g0 e6_1 e6_2 e6_3  k d6 (i6 + 1)
theorem ref31_Spawn.h0 (e6_1 : (List T_s70)) (e6_2 : Int) (e6_3 : Int)   (k : (List T_s70) × Int × Int → Option Ω) (hN : (16 : Int) ≤ 9223372036854775807) : ∀ (m : Nat) (i : Int) (a : Unit), -9223372036854775808 ≤ i → Int.toNat ((16 : Int) - i) < m → Le (ref31_Spawn.g0 e6_1 e6_2 e6_3  k (Int.toNat ((16 : Int) - i)) i) (iter (ref31_Spawn.b0 e6_1 e6_2 e6_3  k) m (i)) :=
 iter_count (16 : Int) (fun i6 => (decide (i6 < 16))) (fun i => rfl) (fun (i6 : Int) (a6 : Unit) => (i6)) (fun xs i6 a6 => ref31_Spawn.g0 e6_1 e6_2 e6_3  k xs i6) (ref31_Spawn.b0 e6_1 e6_2 e6_3  k)
 (fun i6 a6 r h0 => (Le.fls h0 (Le.refl _)))
 (fun i6 d6 a6 r h0 hw ih => (Le.tru h0 (Le.bnd fun j4 => (Le.cond (let v5 : T_s67 × Int := (ref13_New.t e6_3); (Le.cond (let v6 : Int := (List.getD e6_1 (Int.toNat i6) (0, (false, (0, ((0, (false, ((List.replicate 8 0), ((List.replicate 16 0), (0, ((List.replicate 8 0), ())))))), (0, (0, (0, ([], ()))))))))).1; (let v7 : Int × Int := (ref01_Make.t i6 ((IntKind.wrap .i64 (v6 + 1)))); (Le.cond (let v8 : Int := (List.getD e6_1 (Int.toNat i6) (0, (false, (0, ((0, (false, ((List.replicate 8 0), ((List.replicate 16 0), (0, ((List.replicate 8 0), ())))))), (0, (0, (0, ([], ()))))))))).1; (Le.bnd fun y9 => (Le.refl _))) Le.nil))) Le.nil)) (ih _ hw ())))))
 hN
def ref31_Spawn.w (x0 : (List T_s70)) (x1 : Int) (x2 : Int) (k : (List T_s70) × Int × Int → Option Ω) : Option Ω :=
 (ref31_Fine.u x0).bind fun y1 =>
 bif (!y1) then
 k (x0, 0, 1)
 else
 bif (!(ref08_Fine.t x2)) then
 k (x0, 0, 8)
 else
 ref31_Spawn.g0 x0 x1 x2  k ((Int.toNat ((16 : Int) - 0))) 0
theorem ref31_Spawn.ev (fuel : Nat) (x0 : (List T_s70)) (x1 : Int) (x2 : Int) (k : AV → Option Ω) : evFn CDEKP (spE (C := CDEKP) [ref31_Fine.n, ref08_Fine.n, ref13_New.n, ref01_Make.n, ref31_Put.n] []) (ref31_Spawn.F fuel) Tryz.f32 (Tryz.f32.body.getD .skip) [(.v (.slice E_s70) (x0)), (.v (.int .i64) (x1)), (.v (.int .i64) (x2))] k = ref31_Spawn.sl x0 x1 x2 (fun e6_1 e6_2 e6_3 => (ref31_Spawn.M0 fuel e6_1 e6_2 e6_3  k fuel)) (fun r => k (tupAV (.slice E_s70) [(.int .i64), (.int .i64)] r)) := by kernel_rfl
theorem ref31_Spawn.le (x0 : (List T_s70)) (x1 : Int) (x2 : Int) (k : AV → Option Ω) : Le (ref31_Spawn.w x0 x1 x2 (fun r => k (tupAV (.slice E_s70) [(.int .i64), (.int .i64)] r))) (ref31_Spawn.sl x0 x1 x2 (fun e6_1 e6_2 e6_3 => (ref31_Spawn.M0 BIG e6_1 e6_2 e6_3  k BIG)) (fun r => k (tupAV (.slice E_s70) [(.int .i64), (.int .i64)] r))) := by
 have h1 := funext fun (e6_1 : (List T_s70)) => funext fun (e6_2 : Int) => funext fun (e6_3 : Int) => ref31_Spawn.l0 BIG e6_1 e6_2 e6_3   k BIG
 rw [h1]
 delta ref31_Spawn.w ref31_Spawn.sl
 exact (Le.bnd fun y1 => (Le.cond (Le.refl _) (Le.cond (Le.refl _) (ref31_Spawn.h0 _ _ _   _ (by decide) BIG 0 () (by decide) (by decide)))))
def ref31_Spawn.u (x0 : (List T_s70)) (x1 : Int) (x2 : Int) : Option ((List T_s70) × Int × Int) := ref31_Spawn.w x0 x1 x2 some
noncomputable def ref31_Spawn.n : En CDEKP := mkE CDEKP_ok (es := [ref31_Fine.n, ref08_Fine.n, ref13_New.n, ref01_Make.n, ref31_Put.n]) (ms := []) (fuel := (ref31_Spawn.F BIG)) 32 Tryz.f32 [.ai (.slice E_s70), .ai (.int .i64), .ai (.int .i64)] (.slice E_s70) [(.int .i64), (.int .i64)] (fun x {Ω} k => ref31_Spawn.w x.1 x.2.1 x.2.2.1 k) (fun x Ω k => leV (ref31_Spawn.ev BIG x.1 x.2.1 x.2.2.1 k) (ref31_Spawn.le x.1 x.2.1 x.2.2.1 k)) (by kernel_rfl) (by kernel_rfl)
def ref31_Same.F (fuel : Nat) : Fuel := ⟨fuel, fun r => bif r == 4 then mL 0 27 134217692 else []⟩
noncomputable def ref31_Same.V (fuel c : Nat) (env : List AV) (L : Heap) (k : Kont Ω) : Option Ω := evCode CDEKP (spE (C := CDEKP) [ref31_SameProc.n] []) (ref31_Same.F fuel) (pCo c Tryz.f35) env L k
def ref31_Same.E0 (e4_1 : (List T_s70)) (e4_2 : (List T_s70)) (s4 : Int) : List AV := ((.v (.slice E_s70) (e4_1)) :: (.v (.slice E_s70) (e4_2)) :: dZ 3 ((.v (.int .i64) (s4)) :: dZ 21 ([])))
def ref31_Same.H0 (e4_1 : (List T_s70)) (e4_2 : (List T_s70)) (s4 : Int) : Heap := []
noncomputable def ref31_Same.M0 (fuel : Nat) (e4_1 : (List T_s70)) (e4_2 : (List T_s70))  (k : AV → Option Ω) (m : Nat) (s : Int) : Option Ω := loopK (ref31_Same.V fuel 75) (mB 27 134217692) [] 0 (blockK 0 (sqK (ref31_Same.V fuel 15) (finK CDEKP Tryz.f35 k))) m ((ref31_Same.E0 e4_1 e4_2) s) ((ref31_Same.H0 e4_1 e4_2) s)
def ref31_Same.b0 (e4_1 : (List T_s70)) (e4_2 : (List T_s70))   (k : Bool → Option Ω) (r4 : Int → Option Ω) (s4 : Int) : Option Ω :=
 bif (decide (s4 < ((List.length e4_1 : Nat) : Int))) then
 bif (idxOK s4 (List.length e4_1)) then
 let v1 : T_s70 := (List.getD e4_1 (Int.toNat s4) (0, (false, (0, ((0, (false, ((List.replicate 8 0), ((List.replicate 16 0), (0, ((List.replicate 8 0), ())))))), (0, (0, (0, ([], ())))))))))
 bif (idxOK s4 (List.length e4_2)) then
 let v2 : T_s70 := (List.getD e4_2 (Int.toNat s4) (0, (false, (0, ((0, (false, ((List.replicate 8 0), ((List.replicate 16 0), (0, ((List.replicate 8 0), ())))))), (0, (0, (0, ([], ())))))))))
 (ref31_SameProc.u v1 v2).bind fun y3 =>
 bif (!y3) then
 k false
 else
 r4 ((IntKind.wrap .i64 (s4 + 1)))
 else
 none
 else
 none
 else
 k true
theorem ref31_Same.l0 (fuel : Nat) (e4_1 : (List T_s70)) (e4_2 : (List T_s70))  (k : AV → Option Ω) : ∀ m, (ref31_Same.M0 fuel e4_1 e4_2  k m) = iter (ref31_Same.b0 e4_1 e4_2  (fun r => k (tupAV .bool [] r))) m :=
 loopK_iter (envOf := (ref31_Same.E0 e4_1 e4_2)) (LOf := (ref31_Same.H0 e4_1 e4_2)) (B := ref31_Same.b0 e4_1 e4_2  (fun r => k (tupAV .bool [] r))) (fun R s => by kernel_rfl)
def ref31_Same.sl (x0 : (List T_s70)) (x1 : (List T_s70)) (lp0 : (List T_s70) → (List T_s70) → Int → Option Ω) (k : Bool → Option Ω) : Option Ω :=
 bif (((List.length x0 : Nat) : Int) != ((List.length x1 : Nat) : Int)) then
 k false
 else
 lp0 x0 x1 (0)
def ref31_Same.g0 (e4_1 : (List T_s70)) (e4_2 : (List T_s70))  (k : Bool → Option Ω) : List T_s70 → Int → Option Ω
 | [], i4 =>
 k true
 | x4 :: xs4, i4 =>
 let v1 : T_s70 := x4
 bif (idxOK i4 (List.length e4_2)) then
 let v2 : T_s70 := (List.getD e4_2 (Int.toNat i4) (0, (false, (0, ((0, (false, ((List.replicate 8 0), ((List.replicate 16 0), (0, ((List.replicate 8 0), ())))))), (0, (0, (0, ([], ())))))))))
 (ref31_SameProc.u v1 v2).bind fun y3 =>
 bif (!y3) then
 k false
 else
 ref31_Same.g0 e4_1 e4_2  k xs4 (i4 + 1)
 else
 none
theorem ref31_Same.h0 (e4_1 : (List T_s70)) (e4_2 : (List T_s70))   (k : Bool → Option Ω) (hX : ((List.length e4_1 : Nat) : Int) ≤ 9223372036854775807) : ∀ (m : Nat) (i : Int) (a : Unit), 0 ≤ i → i ≤ ((List.length e4_1 : Nat) : Int) → ((List.length e4_1 : Nat) : Int) < m + i → Le (ref31_Same.g0 e4_1 e4_2  k (List.drop (Int.toNat i) e4_1) i) (iter (ref31_Same.b0 e4_1 e4_2  k) m (i)) :=
 iter_list e4_1 (0, (false, (0, ((0, (false, ((List.replicate 8 0), ((List.replicate 16 0), (0, ((List.replicate 8 0), ())))))), (0, (0, (0, ([], ())))))))) (fun (i4 : Int) (a4 : Unit) => (i4)) (fun xs i4 a4 => ref31_Same.g0 e4_1 e4_2  k xs i4) (ref31_Same.b0 e4_1 e4_2  k)
 (fun i4 a4 r h0 => (Le.fls h0 (Le.refl _)))
 (fun i4 xs4 a4 r h0 h1 hw ih => (Le.tru h0 (Le.tru h1 (let v1 : T_s70 := (List.getD e4_1 (Int.toNat i4) (0, (false, (0, ((0, (false, ((List.replicate 8 0), ((List.replicate 16 0), (0, ((List.replicate 8 0), ())))))), (0, (0, (0, ([], ()))))))))); (Le.cond (let v2 : T_s70 := (List.getD e4_2 (Int.toNat i4) (0, (false, (0, ((0, (false, ((List.replicate 8 0), ((List.replicate 16 0), (0, ((List.replicate 8 0), ())))))), (0, (0, (0, ([], ()))))))))); (Le.bnd fun y3 => (Le.cond (Le.refl _) (ih _ hw ())))) Le.nil)))))
 hX
def ref31_Same.w (x0 : (List T_s70)) (x1 : (List T_s70)) (k : Bool → Option Ω) : Option Ω :=
 bif (((List.length x0 : Nat) : Int) != ((List.length x1 : Nat) : Int)) then
 k false
 else
 bif decide (((List.length x0 : Nat) : Int) ≤ 4611686018427387904) then ref31_Same.g0 x0 x1  k x0 0 else none
theorem ref31_Same.ev (fuel : Nat) (x0 : (List T_s70)) (x1 : (List T_s70)) (k : AV → Option Ω) : evFn CDEKP (spE (C := CDEKP) [ref31_SameProc.n] []) (ref31_Same.F fuel) Tryz.f35 (Tryz.f35.body.getD .skip) [(.v (.slice E_s70) (x0)), (.v (.slice E_s70) (x1))] k = ref31_Same.sl x0 x1 (fun e4_1 e4_2 => (ref31_Same.M0 fuel e4_1 e4_2  k fuel)) (fun r => k (tupAV .bool [] r)) := by kernel_rfl
theorem ref31_Same.le (x0 : (List T_s70)) (x1 : (List T_s70)) (k : AV → Option Ω) : Le (ref31_Same.w x0 x1 (fun r => k (tupAV .bool [] r))) (ref31_Same.sl x0 x1 (fun e4_1 e4_2 => (ref31_Same.M0 BIG e4_1 e4_2  k BIG)) (fun r => k (tupAV .bool [] r))) := by
 have h1 := funext fun (e4_1 : (List T_s70)) => funext fun (e4_2 : (List T_s70)) => ref31_Same.l0 BIG e4_1 e4_2   k BIG
 rw [h1]
 delta ref31_Same.w ref31_Same.sl
 exact (Le.cond (Le.refl _) (Le.gd fun hg => ref31_Same.h0 _ _   _ (le_up (of_decide_eq_true hg)) BIG 0 () (by decide) (zero_le_len _) (big_list (of_decide_eq_true hg))))
def ref31_Same.u (x0 : (List T_s70)) (x1 : (List T_s70)) : Option (Bool) := ref31_Same.w x0 x1 some
noncomputable def ref31_Same.n : En CDEKP := mkE CDEKP_ok (es := [ref31_SameProc.n]) (ms := []) (fuel := (ref31_Same.F BIG)) 35 Tryz.f35 [.ai (.slice E_s70), .ai (.slice E_s70)] .bool [] (fun x {Ω} k => ref31_Same.w x.1 x.2.1 k) (fun x Ω k => leV (ref31_Same.ev BIG x.1 x.2.1 k) (ref31_Same.le x.1 x.2.1 k)) (by kernel_rfl) (by kernel_rfl)
def law31_From.F (fuel : Nat) : Fuel := ⟨fuel, fun r => bif r == 3 then mL 0 34 17179868727 else []⟩
noncomputable def law31_From.V (fuel c : Nat) (env : List AV) (L : Heap) (k : Kont Ω) : Option Ω := evCode CDEKP (spE (C := CDEKP) [] []) (law31_From.F fuel) (pCo c Tryz.f40) env L k
def law31_From.E0 (e3_1 : (List T_s70)) (e3_2 : Int) (s3 : Int × (List T_s70)) : List AV := (dZ 3 ((.rs 1) :: dZ 2 ((.v (.slice E_s70) (e3_1)) :: (.v (.int .i64) (e3_2)) :: (.v (.int .i64) (s3.1)) :: dZ 25 ([]))))
def law31_From.H0 (e3_1 : (List T_s70)) (e3_2 : Int) (s3 : Int × (List T_s70)) : Heap := [(.row 203 E_s70 [] false), (.row 203 E_s70 s3.2 false)]
noncomputable def law31_From.M0 (fuel : Nat) (e3_1 : (List T_s70)) (e3_2 : Int)  (k : AV → Option Ω) (m : Nat) (s : Int × (List T_s70)) : Option Ω := loopK (law31_From.V fuel 75) (mB 34 17179868727) [] 2 (blockK 0 (sqK (law31_From.V fuel 15) (finK CDEKP Tryz.f40 k))) m ((law31_From.E0 e3_1 e3_2) s) ((law31_From.H0 e3_1 e3_2) s)
def law31_From.b0 (e3_1 : (List T_s70)) (e3_2 : Int)   (k : (List T_s70) → Option Ω) (r3 : Int × (List T_s70) → Option Ω) (s3 : Int × (List T_s70)) : Option Ω :=
 bif (decide (s3.1 < e3_2)) then
 bif (idxOK s3.1 (List.length e3_1)) then
 let v1 : T_s70 := (List.getD e3_1 (Int.toNat s3.1) (0, (false, (0, ((0, (false, ((List.replicate 8 0), ((List.replicate 16 0), (0, ((List.replicate 8 0), ())))))), (0, (0, (0, ([], ())))))))))
 bif (decide (List.length s3.2 + List.length [(v1.1, (v1.2.1, (v1.2.2.1, (v1.2.2.2.1, (v1.2.2.2.2.1, (v1.2.2.2.2.2.1, (v1.2.2.2.2.2.2.1, (v1.2.2.2.2.2.2.2.1, ()))))))))] ≤ rowMax)) then
 r3 ((IntKind.wrap .i64 (s3.1 + 1)), (s3.2 ++ [(v1.1, (v1.2.1, (v1.2.2.1, (v1.2.2.2.1, (v1.2.2.2.2.1, (v1.2.2.2.2.2.1, (v1.2.2.2.2.2.2.1, (v1.2.2.2.2.2.2.2.1, ()))))))))]))
 else
 none
 else
 none
 else
 k s3.2
theorem law31_From.l0 (fuel : Nat) (e3_1 : (List T_s70)) (e3_2 : Int)  (k : AV → Option Ω) : ∀ m, (law31_From.M0 fuel e3_1 e3_2  k m) = iter (law31_From.b0 e3_1 e3_2  (fun r => k (tupAV (.slice E_s70) [] r))) m :=
 loopK_iter (envOf := (law31_From.E0 e3_1 e3_2)) (LOf := (law31_From.H0 e3_1 e3_2)) (B := law31_From.b0 e3_1 e3_2  (fun r => k (tupAV (.slice E_s70) [] r))) (fun R s => by kernel_rfl)
def law31_From.sl (x0 : (List T_s70)) (lp0 : (List T_s70) → Int → Int × (List T_s70) → Option Ω) (k : (List T_s70) → Option Ω) : Option Ω :=
 lp0 x0 (((List.length x0 : Nat) : Int)) (0, [])
def law31_From.g0 (e3_1 : (List T_s70))  (k : (List T_s70) → Option Ω) : List T_s70 → (List T_s70) → Option Ω
 | [], a3_1 =>
 k a3_1
 | x3 :: xs3, a3_1 =>
 let v1 : T_s70 := x3
 bif (decide (List.length a3_1 + List.length [(v1.1, (v1.2.1, (v1.2.2.1, (v1.2.2.2.1, (v1.2.2.2.2.1, (v1.2.2.2.2.2.1, (v1.2.2.2.2.2.2.1, (v1.2.2.2.2.2.2.2.1, ()))))))))] ≤ rowMax)) then
 law31_From.g0 e3_1  k xs3 ((a3_1 ++ [(v1.1, (v1.2.1, (v1.2.2.1, (v1.2.2.2.1, (v1.2.2.2.2.1, (v1.2.2.2.2.2.1, (v1.2.2.2.2.2.2.1, (v1.2.2.2.2.2.2.2.1, ()))))))))]))
 else
 none
theorem law31_From.h0 (e3_1 : (List T_s70))   (k : (List T_s70) → Option Ω) (hX : ((List.length e3_1 : Nat) : Int) ≤ 9223372036854775807) : ∀ (m : Nat) (i : Int) (a : (List T_s70)), 0 ≤ i → i ≤ ((List.length e3_1 : Nat) : Int) → ((List.length e3_1 : Nat) : Int) < m + i → Le (law31_From.g0 e3_1  k (List.drop (Int.toNat i) e3_1) a) (iter (law31_From.b0 e3_1 (((List.length e3_1 : Nat) : Int))  k) m (i, a)) :=
 iter_list e3_1 (0, (false, (0, ((0, (false, ((List.replicate 8 0), ((List.replicate 16 0), (0, ((List.replicate 8 0), ())))))), (0, (0, (0, ([], ())))))))) (fun (i3 : Int) (a3 : (List T_s70)) => (i3, a3)) (fun xs i3 a3 => law31_From.g0 e3_1  k xs a3) (law31_From.b0 e3_1 (((List.length e3_1 : Nat) : Int))  k)
 (fun i3 a3 r h0 => (Le.fls h0 (Le.refl _)))
 (fun i3 xs3 a3 r h0 h1 hw ih => (Le.tru h0 (Le.tru h1 (let v1 : T_s70 := (List.getD e3_1 (Int.toNat i3) (0, (false, (0, ((0, (false, ((List.replicate 8 0), ((List.replicate 16 0), (0, ((List.replicate 8 0), ())))))), (0, (0, (0, ([], ()))))))))); (Le.cond (ih _ hw ((a3 ++ [(v1.1, (v1.2.1, (v1.2.2.1, (v1.2.2.2.1, (v1.2.2.2.2.1, (v1.2.2.2.2.2.1, (v1.2.2.2.2.2.2.1, (v1.2.2.2.2.2.2.2.1, ()))))))))]))) Le.nil)))))
 hX
def law31_From.w (x0 : (List T_s70)) (k : (List T_s70) → Option Ω) : Option Ω :=
 bif decide (((List.length x0 : Nat) : Int) ≤ 4611686018427387904) then law31_From.g0 x0  k x0 ([]) else none
theorem law31_From.ev (fuel : Nat) (x0 : (List T_s70)) (k : AV → Option Ω) : evFn CDEKP (spE (C := CDEKP) [] []) (law31_From.F fuel) Tryz.f40 (Tryz.f40.body.getD .skip) [(.v (.slice E_s70) (x0))] k = law31_From.sl x0 (fun e3_1 e3_2 => (law31_From.M0 fuel e3_1 e3_2  k fuel)) (fun r => k (tupAV (.slice E_s70) [] r)) := by kernel_rfl
theorem law31_From.le (x0 : (List T_s70)) (k : AV → Option Ω) : Le (law31_From.w x0 (fun r => k (tupAV (.slice E_s70) [] r))) (law31_From.sl x0 (fun e3_1 e3_2 => (law31_From.M0 BIG e3_1 e3_2  k BIG)) (fun r => k (tupAV (.slice E_s70) [] r))) := by
 have h1 := funext fun (e3_1 : (List T_s70)) => funext fun (e3_2 : Int) => law31_From.l0 BIG e3_1 e3_2   k BIG
 rw [h1]
 delta law31_From.w law31_From.sl
 exact (Le.gd fun hg => law31_From.h0 _   _ (le_up (of_decide_eq_true hg)) BIG 0 ([]) (by decide) (zero_le_len _) (big_list (of_decide_eq_true hg)))
def law31_From.u (x0 : (List T_s70)) : Option ((List T_s70)) := law31_From.w x0 some
noncomputable def law31_From.n : En CDEKP := mkE CDEKP_ok (es := []) (ms := []) (fuel := (law31_From.F BIG)) 40 Tryz.f40 [.ai (.slice E_s70)] (.slice E_s70) [] (fun x {Ω} k => law31_From.w x.1 k) (fun x Ω k => leV (law31_From.ev BIG x.1 k) (law31_From.le x.1 k)) (by kernel_rfl) (by kernel_rfl)
def proc_there.s (x0 : (List T_s70)) (x1 : Int) (k : Bool → Option Ω) : Option Ω :=
 bif (decide (x1 ≥ 0)) then
 bif (decide (x1 < ((List.length x0 : Nat) : Int))) then
 bif (idxOK x1 (List.length x0)) then
 let v1 : Bool := (List.getD x0 (Int.toNat x1) (0, (false, (0, ((0, (false, ((List.replicate 8 0), ((List.replicate 16 0), (0, ((List.replicate 8 0), ())))))), (0, (0, (0, ([], ()))))))))).2.1
 k v1
 else
 none
 else
 k false
 else
 k false
def proc_there.u (x0 : (List T_s70)) (x1 : Int) : Option (Bool) := proc_there.s x0 x1 some
noncomputable def proc_there.n : En CDEKP := mkE CDEKP_ok (es := []) (ms := []) (fuel := ⟨1, fun _ => []⟩) 211 Tryz.f211 [.ai (.slice E_s70), .ai (.int .i64)] .bool [] (fun x {Ω} k => proc_there.s x.1 x.2.1 k) (fun x Ω k => Le.of (by kernel_rfl)) (by kernel_rfl) (by kernel_rfl)
def proc_Handle.s (x0 : (List T_s70)) (x1 : Int) (k : Int → Option Ω) : Option Ω :=
 ((proc_Fine.u x0).bind fun y1 => (bif (!y1) then some (true, ()) else ((proc_there.u x0 x1).bind fun y2 => some ((!y2), ())))).bind fun j3 =>
 bif j3.1 then
 k 0
 else
 bif (idxOK x1 (List.length x0)) then
 let v4 : Int := (List.getD x0 (Int.toNat x1) (0, (false, (0, ((0, (false, ((List.replicate 8 0), ((List.replicate 16 0), (0, ((List.replicate 8 0), ())))))), (0, (0, (0, ([], ()))))))))).1
 let v5 : Int × Int := (handle_Make.t x1 v4)
 k v5.1
 else
 none
noncomputable def proc_Handle.n : En CDEKP := mkE CDEKP_ok (es := [proc_Fine.n, handle_Make.n, proc_there.n]) (ms := []) (fuel := ⟨1, fun r => bif r == 2000001 then [7, 8, 9, 10, 11, 12, 13, 14, 5015] else []⟩) 149 Tryz.f149 [.ai (.slice E_s70), .ai (.int .i64)] (.int .i64) [] (fun x {Ω} k => proc_Handle.s x.1 x.2.1 k) (fun x Ω k => Le.of (by kernel_rfl)) (by kernel_rfl) (by kernel_rfl)
end
end Go.Proofs.YtlcomipbinfooaaGreatDoor.K

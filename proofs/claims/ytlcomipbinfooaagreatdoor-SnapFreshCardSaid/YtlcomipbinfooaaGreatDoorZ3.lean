/- What functions of the program come to, and their laws. -/
import Derived.Test.YtlcomipbinfooaaGreatDoorZ2
import Derived.Test.YtlcomipbinfooaaGreatDoorKG
namespace Go.Proofs.YtlcomipbinfooaaGreatDoor.K
open Go Go.RowKit
section
set_option linter.unusedVariables false
set_option linter.unusedSimpArgs false
set_option maxRecDepth 100000
variable {Ω : Type}

def zq55.t (x0 : Int) : Bool :=
 bif (decide (x0 ≥ 0)) then
 (decide (x0 ≤ 255))
 else
 false
def zq2k.s (x0 : Int) (k : Bool → Option Ω) : Option Ω :=
 bif (decide (x0 ≥ 0)) then
 k (decide (x0 ≤ 255))
 else
 k false
def zq2k.t (x0 : Int) : Bool :=
 bif (decide (x0 ≥ 0)) then
 (decide (x0 ≤ 255))
 else
 false
theorem zq2k.v (x0 : Int) (k : Bool → Option Ω) : zq2k.s x0 k = k (zq2k.t x0) := by
 delta zq2k.s zq2k.t; exact (cond_tot rfl rfl)
noncomputable def zq2k.n : En CDEKP := mkT CDEKP_ok (es := []) (ms := []) (fuel := ⟨1, fun _ => []⟩) 190 Tryz.f190 [.ai (.int .i64)] .bool [] (fun x {Ω} k => zq2k.s x.1 k) (fun x => zq2k.t x.1) (fun x Ω k => by kernel_rfl) (fun x => zq2k.v x.1 some) (by kernel_rfl) (by kernel_rfl)
def ref17_At.g0 (e2_1 : (List Int)) (e2_2 : Int)  (k : Int → Option Ω) : List Int → Int → Option Ω
 | [], i2 =>
 k (-1)
 | x2 :: xs2, i2 =>
 bif (x2 == e2_2) then
 k i2
 else
 ref17_At.g0 e2_1 e2_2  k xs2 (i2 + 1)
def zq2e.s (x0 : Int) (k : Bool → Option Ω) : Option Ω :=
 bif (decide (x0 ≥ 0)) then
 k (decide (x0 < 16))
 else
 k false
def zq2e.t (x0 : Int) : Bool :=
 bif (decide (x0 ≥ 0)) then
 (decide (x0 < 16))
 else
 false
theorem zq2e.v (x0 : Int) (k : Bool → Option Ω) : zq2e.s x0 k = k (zq2e.t x0) := by
 delta zq2e.s zq2e.t; exact (cond_tot rfl rfl)
noncomputable def zq2e.n : En CDEKP := mkT CDEKP_ok (es := []) (ms := []) (fuel := ⟨1, fun _ => []⟩) 236 Tryz.f236 [.ai (.int .i64)] .bool [] (fun x {Ω} k => zq2e.s x.1 k) (fun x => zq2e.t x.1) (fun x Ω k => by kernel_rfl) (fun x => zq2e.v x.1 some) (by kernel_rfl) (by kernel_rfl)
def zq0l.F (fuel : Nat) : Fuel := ⟨fuel, fun r => bif r == 2 then mL 0 19 523900 else []⟩
noncomputable def zq0l.V (fuel c : Nat) (env : List AV) (L : Heap) (k : Kont Ω) : Option Ω := evCode CDEKP (spE (C := CDEKP) [] []) (zq0l.F fuel) (pCo c Tryz.f131) env L k
def zq0l.E0 (e2_1 : (List Int)) (e2_2 : Int) (e2_3 : Int) (s2 : Int) : List AV := ((.v (.slice (.int .i64)) (e2_1)) :: (.v (.int .i64) (e2_2)) :: dZ 5 ((.v (.int .i64) (e2_3)) :: (.v (.int .i64) (s2)) :: dZ 10 ([])))
def zq0l.H0 (e2_1 : (List Int)) (e2_2 : Int) (e2_3 : Int) (s2 : Int) : Heap := []
noncomputable def zq0l.M0 (fuel : Nat) (e2_1 : (List Int)) (e2_2 : Int) (e2_3 : Int)  (k : AV → Option Ω) (m : Nat) (s : Int) : Option Ω := loopK (zq0l.V fuel 37) (mB 19 523900) [] 0 (blockK 0 (sqK (zq0l.V fuel 7) (finK CDEKP Tryz.f131 k))) m ((zq0l.E0 e2_1 e2_2 e2_3) s) ((zq0l.H0 e2_1 e2_2 e2_3) s)
def zq0l.b0 (e2_1 : (List Int)) (e2_2 : Int) (e2_3 : Int)   (k : Int → Option Ω) (r2 : Int → Option Ω) (s2 : Int) : Option Ω :=
 bif (decide (s2 < e2_3)) then
 bif (idxOK s2 (List.length e2_1)) then
 bif (e2_2 == (List.getD e2_1 (Int.toNat s2) 0)) then
 k s2
 else
 r2 ((IntKind.wrap .i64 (s2 + 1)))
 else
 none
 else
 k (-1)
theorem zq0l.l0 (fuel : Nat) (e2_1 : (List Int)) (e2_2 : Int) (e2_3 : Int)  (k : AV → Option Ω) : ∀ m, (zq0l.M0 fuel e2_1 e2_2 e2_3  k m) = iter (zq0l.b0 e2_1 e2_2 e2_3  (fun r => k (tupAV (.int .i64) [] r))) m :=
 loopK_iter (envOf := (zq0l.E0 e2_1 e2_2 e2_3)) (LOf := (zq0l.H0 e2_1 e2_2 e2_3)) (B := zq0l.b0 e2_1 e2_2 e2_3  (fun r => k (tupAV (.int .i64) [] r))) (fun R s => by kernel_rfl)
def zq0l.sl (x0 : (List Int)) (x1 : Int) (lp0 : (List Int) → Int → Int → Int → Option Ω) (k : Int → Option Ω) : Option Ω :=
 lp0 x0 x1 (((List.length x0 : Nat) : Int)) (0)
def zq0l.g0 (e2_1 : (List Int)) (e2_2 : Int)  (k : Int → Option Ω) : List Int → Int → Option Ω
 | [], i2 =>
 k (-1)
 | x2 :: xs2, i2 =>
 bif (e2_2 == x2) then
 k i2
 else
 zq0l.g0 e2_1 e2_2  k xs2 (i2 + 1)
theorem zq0l.h0 (e2_1 : (List Int)) (e2_2 : Int)   (k : Int → Option Ω) (hX : ((List.length e2_1 : Nat) : Int) ≤ 9223372036854775807) : ∀ (m : Nat) (i : Int) (a : Unit), 0 ≤ i → i ≤ ((List.length e2_1 : Nat) : Int) → ((List.length e2_1 : Nat) : Int) < m + i → Le (zq0l.g0 e2_1 e2_2  k (List.drop (Int.toNat i) e2_1) i) (iter (zq0l.b0 e2_1 e2_2 (((List.length e2_1 : Nat) : Int))  k) m (i)) :=
 iter_list e2_1 0 (fun (i2 : Int) (a2 : Unit) => (i2)) (fun xs i2 a2 => zq0l.g0 e2_1 e2_2  k xs i2) (zq0l.b0 e2_1 e2_2 (((List.length e2_1 : Nat) : Int))  k)
 (fun i2 a2 r h0 => (Le.fls h0 (Le.refl _)))
 (fun i2 xs2 a2 r h0 h1 hw ih => (Le.tru h0 (Le.tru h1 (Le.cond (Le.refl _) (ih _ hw ())))))
 hX
def zq0l.w (x0 : (List Int)) (x1 : Int) (k : Int → Option Ω) : Option Ω :=
 bif decide (((List.length x0 : Nat) : Int) ≤ 4611686018427387904) then zq0l.g0 x0 x1  k x0 0 else none
theorem zq0l.ev (fuel : Nat) (x0 : (List Int)) (x1 : Int) (k : AV → Option Ω) : evFn CDEKP (spE (C := CDEKP) [] []) (zq0l.F fuel) Tryz.f131 (Tryz.f131.body.getD .skip) [(.v (.slice (.int .i64)) (x0)), (.v (.int .i64) (x1))] k = zq0l.sl x0 x1 (fun e2_1 e2_2 e2_3 => (zq0l.M0 fuel e2_1 e2_2 e2_3  k fuel)) (fun r => k (tupAV (.int .i64) [] r)) := by kernel_rfl
theorem zq0l.le (x0 : (List Int)) (x1 : Int) (k : AV → Option Ω) : Le (zq0l.w x0 x1 (fun r => k (tupAV (.int .i64) [] r))) (zq0l.sl x0 x1 (fun e2_1 e2_2 e2_3 => (zq0l.M0 BIG e2_1 e2_2 e2_3  k BIG)) (fun r => k (tupAV (.int .i64) [] r))) := by
 have h1 := funext fun (e2_1 : (List Int)) => funext fun (e2_2 : Int) => funext fun (e2_3 : Int) => zq0l.l0 BIG e2_1 e2_2 e2_3   k BIG
 rw [h1]
 delta zq0l.w zq0l.sl
 exact (Le.gd fun hg => zq0l.h0 _ _   _ (le_up (of_decide_eq_true hg)) BIG 0 () (by decide) (zero_le_len _) (big_list (of_decide_eq_true hg)))
def zq0l.u (x0 : (List Int)) (x1 : Int) : Option (Int) := zq0l.w x0 x1 some
noncomputable def zq0l.n : En CDEKP := mkE CDEKP_ok (es := []) (ms := []) (fuel := (zq0l.F BIG)) 131 Tryz.f131 [.ai (.slice (.int .i64)), .ai (.int .i64)] (.int .i64) [] (fun x {Ω} k => zq0l.w x.1 x.2.1 k) (fun x Ω k => leV (zq0l.ev BIG x.1 x.2.1 k) (zq0l.le x.1 x.2.1 k)) (by kernel_rfl) (by kernel_rfl)
def zq2c.s (x0 : (List Int)) (x1 : Int) (k : Bool → Option Ω) : Option Ω :=
 (zq0l.u x0 x1).bind fun y1 =>
 k (decide (y1 ≥ 0))
def zq2c.u (x0 : (List Int)) (x1 : Int) : Option (Bool) := zq2c.s x0 x1 some
noncomputable def zq2c.n : En CDEKP := mkE CDEKP_ok (es := [zq0l.n]) (ms := []) (fuel := ⟨1, fun _ => []⟩) 237 Tryz.f237 [.ai (.slice (.int .i64)), .ai (.int .i64)] .bool [] (fun x {Ω} k => zq2c.s x.1 x.2.1 k) (fun x Ω k => Le.of (by kernel_rfl)) (by kernel_rfl) (by kernel_rfl)
def zq18.F (fuel : Nat) : Fuel := ⟨fuel, fun r => bif r == 2 then mL 0 33 8589934141 else bif r == 2000004 then [13, 14, 15, 16, 17, 18, 19, 20, 21, 22, 5023] else []⟩
noncomputable def zq18.V (fuel c : Nat) (env : List AV) (L : Heap) (k : Kont Ω) : Option Ω := evCode CDEKP (spE (C := CDEKP) [zq2e.n, zq2c.n] []) (zq18.F fuel) (pCo c Tryz.f192) env L k
def zq18.E0 (e2_1 : (List Int)) (e2_2 : Int) (e2_3 : T_s112) (s2 : Int) : List AV := (dZ 1 ((.ref 0 []) :: dZ 4 ((.v (.slice (.int .i64)) (e2_1)) :: (.v (.int .i64) (e2_2)) :: (.v (.int .i64) (s2)) :: dZ 24 ([]))))
def zq18.H0 (e2_1 : (List Int)) (e2_2 : Int) (e2_3 : T_s112) (s2 : Int) : Heap := [(.box E_s112 e2_3 false)]
noncomputable def zq18.M0 (fuel : Nat) (e2_1 : (List Int)) (e2_2 : Int) (e2_3 : T_s112)  (k : AV → Option Ω) (m : Nat) (s : Int) : Option Ω := loopK (zq18.V fuel 37) (mB 33 8589934141) [] 1 (blockK 0 (sqK (zq18.V fuel 7) (finK CDEKP Tryz.f192 k))) m ((zq18.E0 e2_1 e2_2 e2_3) s) ((zq18.H0 e2_1 e2_2 e2_3) s)
def zq18.b0 (e2_1 : (List Int)) (e2_2 : Int) (e2_3 : T_s112)   (k : Bool → Option Ω) (r2 : Int → Option Ω) (s2 : Int) : Option Ω :=
 bif (decide (s2 < e2_2)) then
 bif (idxOK s2 (List.length e2_1)) then
 (bif (!(zq2e.t ((List.getD e2_1 (Int.toNat s2) 0)))) then some (true, ()) else (bif (subC none (some (s2)) (List.length e2_3.2.1)) then ((zq2c.u ((subL none (some (s2)) e2_3.2.1)) ((List.getD e2_1 (Int.toNat s2) 0))).bind fun y1 => some (y1, ())) else none)).bind fun j2 =>
 bif j2.1 then
 k false
 else
 r2 ((IntKind.wrap .i64 (s2 + 1)))
 else
 none
 else
 bif e2_3.1 then
 k true
 else
 k (decide (((List.length e2_3.2.1 : Nat) : Int) ≤ 1))
theorem zq18.l0 (fuel : Nat) (e2_1 : (List Int)) (e2_2 : Int) (e2_3 : T_s112)  (k : AV → Option Ω) : ∀ m, (zq18.M0 fuel e2_1 e2_2 e2_3  k m) = iter (zq18.b0 e2_1 e2_2 e2_3  (fun r => k (tupAV .bool [] r))) m :=
 loopK_iter (envOf := (zq18.E0 e2_1 e2_2 e2_3)) (LOf := (zq18.H0 e2_1 e2_2 e2_3)) (B := zq18.b0 e2_1 e2_2 e2_3  (fun r => k (tupAV .bool [] r))) (fun R s => by kernel_rfl)
def zq18.sl (x0 : T_s112) (lp0 : (List Int) → Int → T_s112 → Int → Option Ω) (k : Bool → Option Ω) : Option Ω :=
 lp0 x0.2.1 (((List.length x0.2.1 : Nat) : Int)) x0 (0)
def zq18.g0 (e2_1 : (List Int)) (e2_3 : T_s112)  (k : Bool → Option Ω) : List Int → Int → Option Ω
 | [], i2 =>
 bif e2_3.1 then
 k true
 else
 k (decide (((List.length e2_3.2.1 : Nat) : Int) ≤ 1))
 | x2 :: xs2, i2 =>
 (bif (!(zq2e.t (x2))) then some (true, ()) else (bif (subC none (some (i2)) (List.length e2_3.2.1)) then ((zq2c.u ((subL none (some (i2)) e2_3.2.1)) (x2)).bind fun y1 => some (y1, ())) else none)).bind fun j2 =>
 bif j2.1 then
 k false
 else
 zq18.g0 e2_1 e2_3  k xs2 (i2 + 1)
theorem zq18.h0 (e2_1 : (List Int)) (e2_3 : T_s112)   (k : Bool → Option Ω) (hX : ((List.length e2_1 : Nat) : Int) ≤ 9223372036854775807) : ∀ (m : Nat) (i : Int) (a : Unit), 0 ≤ i → i ≤ ((List.length e2_1 : Nat) : Int) → ((List.length e2_1 : Nat) : Int) < m + i → Le (zq18.g0 e2_1 e2_3  k (List.drop (Int.toNat i) e2_1) i) (iter (zq18.b0 e2_1 (((List.length e2_1 : Nat) : Int)) e2_3  k) m (i)) :=
 iter_list e2_1 0 (fun (i2 : Int) (a2 : Unit) => (i2)) (fun xs i2 a2 => zq18.g0 e2_1 e2_3  k xs i2) (zq18.b0 e2_1 (((List.length e2_1 : Nat) : Int)) e2_3  k)
 (fun i2 a2 r h0 => (Le.fls h0 (Le.cond (Le.refl _) (Le.refl _))))
 (fun i2 xs2 a2 r h0 h1 hw ih => (Le.tru h0 (Le.tru h1 (Le.bnd fun j2 => (Le.cond (Le.refl _) (ih _ hw ()))))))
 hX
def zq18.w (x0 : T_s112) (k : Bool → Option Ω) : Option Ω :=
 bif decide (((List.length x0.2.1 : Nat) : Int) ≤ 4611686018427387904) then zq18.g0 x0.2.1 x0  k x0.2.1 0 else none
theorem zq18.ev (fuel : Nat) (x0 : T_s112) (k : AV → Option Ω) : evFn CDEKP (spE (C := CDEKP) [zq2e.n, zq2c.n] []) (zq18.F fuel) Tryz.f192 (Tryz.f192.body.getD .skip) [(.v E_s112 (x0))] k = zq18.sl x0 (fun e2_1 e2_2 e2_3 => (zq18.M0 fuel e2_1 e2_2 e2_3  k fuel)) (fun r => k (tupAV .bool [] r)) := by kernel_rfl
theorem zq18.le (x0 : T_s112) (k : AV → Option Ω) : Le (zq18.w x0 (fun r => k (tupAV .bool [] r))) (zq18.sl x0 (fun e2_1 e2_2 e2_3 => (zq18.M0 BIG e2_1 e2_2 e2_3  k BIG)) (fun r => k (tupAV .bool [] r))) := by
 have h1 := funext fun (e2_1 : (List Int)) => funext fun (e2_2 : Int) => funext fun (e2_3 : T_s112) => zq18.l0 BIG e2_1 e2_2 e2_3   k BIG
 rw [h1]
 delta zq18.w zq18.sl
 exact (Le.gd fun hg => zq18.h0 _ _   _ (le_up (of_decide_eq_true hg)) BIG 0 () (by decide) (zero_le_len _) (big_list (of_decide_eq_true hg)))
def zq18.u (x0 : T_s112) : Option (Bool) := zq18.w x0 some
noncomputable def zq18.n : En CDEKP := mkE CDEKP_ok (es := [zq2e.n, zq2c.n]) (ms := []) (fuel := (zq18.F BIG)) 192 Tryz.f192 [.ai E_s112] .bool [] (fun x {Ω} k => zq18.w x.1 k) (fun x Ω k => leV (zq18.ev BIG x.1 k) (zq18.le x.1 k)) (by kernel_rfl) (by kernel_rfl)
def zq0z.s (x0 : T_s110) (k : Int → Option Ω) : Option Ω :=
 (bif (decide (x0.1 < 0)) then some (true, ()) else some ((decide (x0.1 > 3)), ())).bind fun j1 =>
 bif j1.1 then
 k 12
 else
 (bif (decide (x0.2.1 < 0)) then some (true, ()) else (bif (decide (x0.2.1 > 8)) then some (true, ()) else (bif (!(zq2k.t x0.2.2.1)) then some (true, ()) else some ((!(zq2k.t x0.2.2.2.1)), ())))).bind fun j2 =>
 bif j2.1 then
 k 8
 else
 k 0
def zq0z.t (x0 : T_s110) : Int :=
 let j1 : Bool × Unit := (bif (decide (x0.1 < 0)) then (true, ()) else ((decide (x0.1 > 3)), ()))
 bif j1.1 then
 12
 else
 let j2 : Bool × Unit := (bif (decide (x0.2.1 < 0)) then (true, ()) else (bif (decide (x0.2.1 > 8)) then (true, ()) else (bif (!(zq2k.t x0.2.2.1)) then (true, ()) else ((!(zq2k.t x0.2.2.2.1)), ()))))
 bif j2.1 then
 8
 else
 0
theorem zq0z.v (x0 : T_s110) (k : Int → Option Ω) : zq0z.s x0 k = k (zq0z.t x0) := by
 delta zq0z.s zq0z.t; exact (join_tot (cond_some rfl rfl) (cond_tot rfl (join_tot (cond_some rfl (cond_some rfl (cond_some rfl rfl))) (cond_tot rfl rfl))))
noncomputable def zq0z.n : En CDEKP := mkT CDEKP_ok (es := [zq2k.n]) (ms := []) (fuel := ⟨1, fun r => bif r == 2000003 then [13, 14, 15, 16, 17, 18, 19, 20, 21, 22, 23, 24, 25, 26, 27, 28, 29, 30, 31, 32, 5012] else bif r == 2000001 then [4, 5, 6, 7, 8, 9, 10, 11, 5003] else []⟩) 166 Tryz.f166 [.ai E_s110] (.int .i64) [] (fun x {Ω} k => zq0z.s x.1 k) (fun x => zq0z.t x.1) (fun x Ω k => by kernel_rfl) (fun x => zq0z.v x.1 some) (by kernel_rfl) (by kernel_rfl)
def zq1z.s (x0 : T_s110) (x1 : Int) (k : Bool → Option Ω) : Option Ω :=
 let v1 : Int := (IntKind.wrap .i64 (BitVec.ofInt (IntKind.bits .i64) x0.1 &&& BitVec.ofInt (IntKind.bits .i64) x1).toNat)
 k (v1 != 0)
def zq1z.t (x0 : T_s110) (x1 : Int) : Bool :=
 let v1 : Int := (IntKind.wrap .i64 (BitVec.ofInt (IntKind.bits .i64) x0.1 &&& BitVec.ofInt (IntKind.bits .i64) x1).toNat)
 (v1 != 0)
theorem zq1z.v (x0 : T_s110) (x1 : Int) (k : Bool → Option Ω) : zq1z.s x0 x1 k = k (zq1z.t x0 x1) := by
 delta zq1z.s zq1z.t; exact rfl
noncomputable def zq1z.n : En CDEKP := mkT CDEKP_ok (es := []) (ms := []) (fuel := ⟨1, fun _ => []⟩) 173 Tryz.f173 [.ai E_s110, .ai (.int .i64)] .bool [] (fun x {Ω} k => zq1z.s x.1 x.2.1 k) (fun x => zq1z.t x.1 x.2.1) (fun x Ω k => by kernel_rfl) (fun x => zq1z.v x.1 x.2.1 some) (by kernel_rfl) (by kernel_rfl)
def zq1m.s (x0 : T_s110) (k : T_s114 × Int → Option Ω) : Option Ω :=
 bif ((zq0z.t x0) != 0) then
 k (((0, (0, (0, (0, ())))), (0, ([], ((false, ([], ())), ([], ((false, ([], ())), ())))))), (zq0z.t x0))
 else
 k ((x0, (0, ([], (((zq1z.t x0 1), ([], ())), ([], (((zq1z.t x0 2), ([], ())), ())))))), 0)
def zq1m.t (x0 : T_s110) : T_s114 × Int :=
 bif ((zq0z.t x0) != 0) then
 (((0, (0, (0, (0, ())))), (0, ([], ((false, ([], ())), ([], ((false, ([], ())), ())))))), (zq0z.t x0))
 else
 ((x0, (0, ([], (((zq1z.t x0 1), ([], ())), ([], (((zq1z.t x0 2), ([], ())), ())))))), 0)
theorem zq1m.v (x0 : T_s110) (k : T_s114 × Int → Option Ω) : zq1m.s x0 k = k (zq1m.t x0) := by
 delta zq1m.s zq1m.t; exact (cond_tot rfl rfl)
noncomputable def zq1m.n : En CDEKP := mkT CDEKP_ok (es := [zq0z.n, zq1z.n]) (ms := []) (fuel := ⟨1, fun _ => []⟩) 93 Tryz.f93 [.ai E_s110] E_s114 [(.int .i64)] (fun x {Ω} k => zq1m.s x.1 k) (fun x => zq1m.t x.1) (fun x Ω k => by kernel_rfl) (fun x => zq1m.v x.1 some) (by kernel_rfl) (by kernel_rfl)
def zq4v.t (x0 : T_s110) : Int :=
 let j1 : Bool × Unit := (bif (decide (x0.1 < 0)) then (true, ()) else ((decide (x0.1 > 3)), ()))
 bif j1.1 then
 12
 else
 let j2 : Bool × Unit := (bif (decide (x0.2.1 < 0)) then (true, ()) else (bif (decide (x0.2.1 > 8)) then (true, ()) else (bif (!(zq55.t x0.2.2.1)) then (true, ()) else ((!(zq55.t x0.2.2.2.1)), ()))))
 bif j2.1 then
 8
 else
 0
def zq4w.t (x0 : T_s110) : T_s114 × Int :=
 bif ((zq4v.t x0) != 0) then
 (((0, (0, (0, (0, ())))), (0, ([], ((false, ([], ())), ([], ((false, ([], ())), ())))))), (zq4v.t x0))
 else
 bif (x0.1 == 1) then
 ((x0, (0, ([], ((true, ([], ())), ([], (((decide (x0.1 ≥ 2)), ([], ())), ())))))), 0)
 else
 ((x0, (0, ([], (((x0.1 == 3), ([], ())), ([], (((decide (x0.1 ≥ 2)), ([], ())), ())))))), 0)
def zq2h.s (x0 : T_s114) (k : T_s114 → Option Ω) : Option Ω :=
 k (x0.1, (x0.2.1, (x0.2.2.1, (x0.2.2.2.1, (x0.2.2.2.2.1, (x0.2.2.2.2.2.1, ()))))))
def zq2h.t (x0 : T_s114) : T_s114 :=
 (x0.1, (x0.2.1, (x0.2.2.1, (x0.2.2.2.1, (x0.2.2.2.2.1, (x0.2.2.2.2.2.1, ()))))))
theorem zq2h.v (x0 : T_s114) (k : T_s114 → Option Ω) : zq2h.s x0 k = k (zq2h.t x0) := by
 delta zq2h.s zq2h.t; exact rfl
noncomputable def zq2h.n : En CDEKP := mkT CDEKP_ok (es := []) (ms := []) (fuel := ⟨1, fun _ => []⟩) 119 Tryz.f119 [.ai E_s114] E_s114 [] (fun x {Ω} k => zq2h.s x.1 k) (fun x => zq2h.t x.1) (fun x Ω k => by kernel_rfl) (fun x => zq2h.v x.1 some) (by kernel_rfl) (by kernel_rfl)
def zq29.s (x0 : Int) (k : Bool → Option Ω) : Option Ω :=
 k (!(zq1j.t x0))
def zq29.t (x0 : Int) : Bool :=
 (!(zq1j.t x0))
theorem zq29.v (x0 : Int) (k : Bool → Option Ω) : zq29.s x0 k = k (zq29.t x0) := by
 delta zq29.s zq29.t; exact rfl
noncomputable def zq29.n : En CDEKP := mkT CDEKP_ok (es := [zq1j.n]) (ms := []) (fuel := ⟨1, fun _ => []⟩) 235 Tryz.f235 [.ai (.int .i64)] .bool [] (fun x {Ω} k => zq29.s x.1 k) (fun x => zq29.t x.1) (fun x Ω k => by kernel_rfl) (fun x => zq29.v x.1 some) (by kernel_rfl) (by kernel_rfl)
def zq05.F (fuel : Nat) : Fuel := ⟨fuel, fun r => bif r == 2 then mL 0 19 523900 else []⟩
noncomputable def zq05.V (fuel c : Nat) (env : List AV) (L : Heap) (k : Kont Ω) : Option Ω := evCode CDEKP (spE (C := CDEKP) [zq29.n] []) (zq05.F fuel) (pCo c Tryz.f265) env L k
def zq05.E0 (e2_1 : (List Int)) (e2_2 : Int) (s2 : Int) : List AV := ((.v (.slice (.int .i64)) (e2_1)) :: (.fn 235 []) :: dZ 5 ((.v (.int .i64) (e2_2)) :: (.v (.int .i64) (s2)) :: dZ 10 ([])))
def zq05.H0 (e2_1 : (List Int)) (e2_2 : Int) (s2 : Int) : Heap := []
noncomputable def zq05.M0 (fuel : Nat) (e2_1 : (List Int)) (e2_2 : Int)  (k : AV → Option Ω) (m : Nat) (s : Int) : Option Ω := loopK (zq05.V fuel 37) (mB 19 523900) [] 0 (blockK 0 (sqK (zq05.V fuel 7) (finK CDEKP Tryz.f265 k))) m ((zq05.E0 e2_1 e2_2) s) ((zq05.H0 e2_1 e2_2) s)
def zq05.b0 (e2_1 : (List Int)) (e2_2 : Int)   (k : Int → Option Ω) (r2 : Int → Option Ω) (s2 : Int) : Option Ω :=
 bif (decide (s2 < e2_2)) then
 bif (idxOK s2 (List.length e2_1)) then
 bif (zq29.t ((List.getD e2_1 (Int.toNat s2) 0))) then
 k s2
 else
 r2 ((IntKind.wrap .i64 (s2 + 1)))
 else
 none
 else
 k (-1)
theorem zq05.l0 (fuel : Nat) (e2_1 : (List Int)) (e2_2 : Int)  (k : AV → Option Ω) : ∀ m, (zq05.M0 fuel e2_1 e2_2  k m) = iter (zq05.b0 e2_1 e2_2  (fun r => k (tupAV (.int .i64) [] r))) m :=
 loopK_iter (envOf := (zq05.E0 e2_1 e2_2)) (LOf := (zq05.H0 e2_1 e2_2)) (B := zq05.b0 e2_1 e2_2  (fun r => k (tupAV (.int .i64) [] r))) (fun R s => by kernel_rfl)
def zq05.sl (x0 : (List Int)) (lp0 : (List Int) → Int → Int → Option Ω) (k : Int → Option Ω) : Option Ω :=
 lp0 x0 (((List.length x0 : Nat) : Int)) (0)
def zq05.g0 (e2_1 : (List Int))  (k : Int → Option Ω) : List Int → Int → Option Ω
 | [], i2 =>
 k (-1)
 | x2 :: xs2, i2 =>
 bif (zq29.t (x2)) then
 k i2
 else
 zq05.g0 e2_1  k xs2 (i2 + 1)
theorem zq05.h0 (e2_1 : (List Int))   (k : Int → Option Ω) (hX : ((List.length e2_1 : Nat) : Int) ≤ 9223372036854775807) : ∀ (m : Nat) (i : Int) (a : Unit), 0 ≤ i → i ≤ ((List.length e2_1 : Nat) : Int) → ((List.length e2_1 : Nat) : Int) < m + i → Le (zq05.g0 e2_1  k (List.drop (Int.toNat i) e2_1) i) (iter (zq05.b0 e2_1 (((List.length e2_1 : Nat) : Int))  k) m (i)) :=
 iter_list e2_1 0 (fun (i2 : Int) (a2 : Unit) => (i2)) (fun xs i2 a2 => zq05.g0 e2_1  k xs i2) (zq05.b0 e2_1 (((List.length e2_1 : Nat) : Int))  k)
 (fun i2 a2 r h0 => (Le.fls h0 (Le.refl _)))
 (fun i2 xs2 a2 r h0 h1 hw ih => (Le.tru h0 (Le.tru h1 (Le.cond (Le.refl _) (ih _ hw ())))))
 hX
def zq05.w (x0 : (List Int)) (k : Int → Option Ω) : Option Ω :=
 bif decide (((List.length x0 : Nat) : Int) ≤ 4611686018427387904) then zq05.g0 x0  k x0 0 else none
theorem zq05.ev (fuel : Nat) (x0 : (List Int)) (k : AV → Option Ω) : evFn CDEKP (spE (C := CDEKP) [zq29.n] []) (zq05.F fuel) Tryz.f265 (Tryz.f265.body.getD .skip) [(.v (.slice (.int .i64)) (x0)), (.fn 235 [])] k = zq05.sl x0 (fun e2_1 e2_2 => (zq05.M0 fuel e2_1 e2_2  k fuel)) (fun r => k (tupAV (.int .i64) [] r)) := by kernel_rfl
theorem zq05.le (x0 : (List Int)) (k : AV → Option Ω) : Le (zq05.w x0 (fun r => k (tupAV (.int .i64) [] r))) (zq05.sl x0 (fun e2_1 e2_2 => (zq05.M0 BIG e2_1 e2_2  k BIG)) (fun r => k (tupAV (.int .i64) [] r))) := by
 have h1 := funext fun (e2_1 : (List Int)) => funext fun (e2_2 : Int) => zq05.l0 BIG e2_1 e2_2   k BIG
 rw [h1]
 delta zq05.w zq05.sl
 exact (Le.gd fun hg => zq05.h0 _   _ (le_up (of_decide_eq_true hg)) BIG 0 () (by decide) (zero_le_len _) (big_list (of_decide_eq_true hg)))
def zq05.u (x0 : (List Int)) : Option (Int) := zq05.w x0 some
noncomputable def zq05.n : En CDEKP := mkE CDEKP_ok (es := [zq29.n]) (ms := []) (fuel := (zq05.F BIG)) 265 Tryz.f265 [.ai (.slice (.int .i64)), .af0 235] (.int .i64) [] (fun x {Ω} k => zq05.w x.1 k) (fun x Ω k => leV (zq05.ev BIG x.1 k) (zq05.le x.1 k)) (by kernel_rfl) (by kernel_rfl)
def zq1x.s (x0 : (List Int)) (k : Bool → Option Ω) : Option Ω :=
 (zq05.u x0).bind fun y1 =>
 k (decide (y1 ≥ 0))
def zq1x.u (x0 : (List Int)) : Option (Bool) := zq1x.s x0 some
noncomputable def zq1x.n : En CDEKP := mkE CDEKP_ok (es := [zq05.n]) (ms := []) (fuel := ⟨1, fun _ => []⟩) 234 Tryz.f234 [.ai (.slice (.int .i64)), .af0 235] .bool [] (fun x {Ω} k => zq1x.s x.1 k) (fun x Ω k => Le.of (by kernel_rfl)) (by kernel_rfl) (by kernel_rfl)
def zq47.s (x0 : (List Int)) (k : Bool → Option Ω) : Option Ω :=
 (zq1x.u x0).bind fun y1 =>
 k (!y1)
def zq47.u (x0 : (List Int)) : Option (Bool) := zq47.s x0 some
noncomputable def zq47.n : En CDEKP := mkE CDEKP_ok (es := [zq1x.n]) (ms := []) (fuel := ⟨1, fun _ => []⟩) 191 Tryz.f191 [.ai (.slice (.int .i64))] .bool [] (fun x {Ω} k => zq47.s x.1 k) (fun x Ω k => Le.of (by kernel_rfl)) (by kernel_rfl) (by kernel_rfl)
def zq31.s (x0 : T_s114) (k : Bool → Option Ω) : Option Ω :=
 (bif ((zq0z.t x0.1) != 0) then some (true, ()) else some ((!(zq2k.t x0.2.1)), ())).bind fun j1 =>
 bif j1.1 then
 k false
 else
 (bif (decide (((List.length x0.2.2.1 : Nat) : Int) > x0.1.2.1)) then some (true, ()) else ((zq47.u x0.2.2.1).bind fun y2 => (bif (!y2) then some (true, ()) else ((zq47.u x0.2.2.2.2.1).bind fun y3 => some ((!y3), ()))))).bind fun j4 =>
 bif j4.1 then
 k false
 else
 (bif (!(eqI .bool x0.2.2.2.1.1 (zq1z.t x0.1 1))) then some (true, ()) else some ((!(eqI .bool x0.2.2.2.2.2.1.1 (zq1z.t x0.1 2))), ())).bind fun j5 =>
 bif j5.1 then
 k false
 else
 (zq18.u x0.2.2.2.1).bind fun y6 =>
 bif y6 then
 (zq18.u x0.2.2.2.2.2.1).bind fun y7 =>
 bif y7 then
 k (((List.length x0.2.2.2.2.1 : Nat) : Int) == ((List.length x0.2.2.2.1.2.1 : Nat) : Int))
 else
 k false
 else
 k false
def zq31.u (x0 : T_s114) : Option (Bool) := zq31.s x0 some
noncomputable def zq31.n : En CDEKP := mkE CDEKP_ok (es := [zq0z.n, zq1z.n, zq2k.n, zq47.n, zq18.n]) (ms := []) (fuel := ⟨1, fun r => bif r == 2000005 then [35, 36, 37, 38, 39, 40, 41, 42, 43, 44, 45, 46, 47, 48, 49, 50, 5034] else bif r == 2000003 then [15, 16, 17, 18, 19, 20, 21, 22, 23, 24, 25, 26, 27, 28, 29, 30, 31, 32, 33, 5014] else bif r == 2000001 then [4, 5, 6, 7, 8, 9, 10, 11, 12, 13, 5003] else []⟩) 129 Tryz.f129 [.ai E_s114] .bool [] (fun x {Ω} k => zq31.s x.1 k) (fun x Ω k => Le.of (by kernel_rfl)) (by kernel_rfl) (by kernel_rfl)
def zq0y.F (fuel : Nat) : Fuel := ⟨fuel, fun r => bif r == 5 then mL 0 35 34359680991 else []⟩
noncomputable def zq0y.V (fuel c : Nat) (env : List AV) (L : Heap) (k : Kont Ω) : Option Ω := evCode CDEKP (spE (C := CDEKP) [zq1m.n] []) (zq0y.F fuel) (pCo c Tryz.f24) env L k
def zq0y.E0 (e5_1 : (List T_s110)) (e5_2 : Int) (s5 : Int × (List T_s114)) : List AV := (dZ 5 ((.rs 1) :: dZ 7 ((.v (.slice E_s110) (e5_1)) :: (.v (.int .i64) (e5_2)) :: (.v (.int .i64) (s5.1)) :: dZ 19 ([]))))
def zq0y.H0 (e5_1 : (List T_s110)) (e5_2 : Int) (s5 : Int × (List T_s114)) : Heap := [(.row 147 E_s114 [] false), (.row 147 E_s114 s5.2 false)]
noncomputable def zq0y.M0 (fuel : Nat) (e5_1 : (List T_s110)) (e5_2 : Int)  (k : AV → Option Ω) (m : Nat) (s : Int × (List T_s114)) : Option Ω := loopK (zq0y.V fuel 151) (mB 35 34359680991) [] 2 (blockK 0 (sqK (zq0y.V fuel 31) (finK CDEKP Tryz.f24 k))) m ((zq0y.E0 e5_1 e5_2) s) ((zq0y.H0 e5_1 e5_2) s)
def zq0y.b0 (e5_1 : (List T_s110)) (e5_2 : Int)   (k : (List T_s114) × Int × Int → Option Ω) (r5 : Int × (List T_s114) → Option Ω) (s5 : Int × (List T_s114)) : Option Ω :=
 bif (decide (s5.1 < e5_2)) then
 bif (idxOK s5.1 (List.length e5_1)) then
 let v1 : T_s114 × Int := (zq1m.t ((List.getD e5_1 (Int.toNat s5.1) (0, (0, (0, (0, ())))))))
 bif (v1.2 != 0) then
 k ([], s5.1, v1.2)
 else
 bif (decide (List.length s5.2 + List.length [v1.1] ≤ rowMax)) then
 r5 ((IntKind.wrap .i64 (s5.1 + 1)), (s5.2 ++ [v1.1]))
 else
 none
 else
 none
 else
 k (s5.2, 0, 0)
theorem zq0y.l0 (fuel : Nat) (e5_1 : (List T_s110)) (e5_2 : Int)  (k : AV → Option Ω) : ∀ m, (zq0y.M0 fuel e5_1 e5_2  k m) = iter (zq0y.b0 e5_1 e5_2  (fun r => k (tupAV (.slice E_s114) [(.int .i64), (.int .i64)] r))) m :=
 loopK_iter (envOf := (zq0y.E0 e5_1 e5_2)) (LOf := (zq0y.H0 e5_1 e5_2)) (B := zq0y.b0 e5_1 e5_2  (fun r => k (tupAV (.slice E_s114) [(.int .i64), (.int .i64)] r))) (fun R s => by kernel_rfl)
def zq0y.sl (x0 : (List T_s110)) (lp0 : (List T_s110) → Int → Int × (List T_s114) → Option Ω) (k : (List T_s114) × Int × Int → Option Ω) : Option Ω :=
 bif (decide (((List.length x0 : Nat) : Int) > 8)) then
 k ([], 8, 5)
 else
 lp0 x0 (((List.length x0 : Nat) : Int)) (0, [])
def zq0y.g0 (e5_1 : (List T_s110))  (k : (List T_s114) × Int × Int → Option Ω) : List T_s110 → Int → (List T_s114) → Option Ω
 | [], i5, a5_1 =>
 k (a5_1, 0, 0)
 | x5 :: xs5, i5, a5_1 =>
 let v1 : T_s114 × Int := (zq1m.t (x5))
 bif (v1.2 != 0) then
 k ([], i5, v1.2)
 else
 bif (decide (List.length a5_1 + List.length [v1.1] ≤ rowMax)) then
 zq0y.g0 e5_1  k xs5 (i5 + 1) (a5_1 ++ [v1.1])
 else
 none
theorem zq0y.h0 (e5_1 : (List T_s110))   (k : (List T_s114) × Int × Int → Option Ω) (hX : ((List.length e5_1 : Nat) : Int) ≤ 9223372036854775807) : ∀ (m : Nat) (i : Int) (a : (List T_s114)), 0 ≤ i → i ≤ ((List.length e5_1 : Nat) : Int) → ((List.length e5_1 : Nat) : Int) < m + i → Le (zq0y.g0 e5_1  k (List.drop (Int.toNat i) e5_1) i a) (iter (zq0y.b0 e5_1 (((List.length e5_1 : Nat) : Int))  k) m (i, a)) :=
 iter_list e5_1 (0, (0, (0, (0, ())))) (fun (i5 : Int) (a5 : (List T_s114)) => (i5, a5)) (fun xs i5 a5 => zq0y.g0 e5_1  k xs i5 a5) (zq0y.b0 e5_1 (((List.length e5_1 : Nat) : Int))  k)
 (fun i5 a5 r h0 => (Le.fls h0 (Le.refl _)))
 (fun i5 xs5 a5 r h0 h1 hw ih => (Le.tru h0 (Le.tru h1 (let v1 : T_s114 × Int := (zq1m.t ((List.getD e5_1 (Int.toNat i5) (0, (0, (0, (0, ()))))))); (Le.cond (Le.refl _) (Le.cond (ih _ hw ((a5 ++ [v1.1]))) Le.nil))))))
 hX
def zq0y.w (x0 : (List T_s110)) (k : (List T_s114) × Int × Int → Option Ω) : Option Ω :=
 bif (decide (((List.length x0 : Nat) : Int) > 8)) then
 k ([], 8, 5)
 else
 bif decide (((List.length x0 : Nat) : Int) ≤ 4611686018427387904) then zq0y.g0 x0  k x0 0 ([]) else none
theorem zq0y.ev (fuel : Nat) (x0 : (List T_s110)) (k : AV → Option Ω) : evFn CDEKP (spE (C := CDEKP) [zq1m.n] []) (zq0y.F fuel) Tryz.f24 (Tryz.f24.body.getD .skip) [(.v (.slice E_s110) (x0))] k = zq0y.sl x0 (fun e5_1 e5_2 => (zq0y.M0 fuel e5_1 e5_2  k fuel)) (fun r => k (tupAV (.slice E_s114) [(.int .i64), (.int .i64)] r)) := by kernel_rfl
theorem zq0y.le (x0 : (List T_s110)) (k : AV → Option Ω) : Le (zq0y.w x0 (fun r => k (tupAV (.slice E_s114) [(.int .i64), (.int .i64)] r))) (zq0y.sl x0 (fun e5_1 e5_2 => (zq0y.M0 BIG e5_1 e5_2  k BIG)) (fun r => k (tupAV (.slice E_s114) [(.int .i64), (.int .i64)] r))) := by
 have h1 := funext fun (e5_1 : (List T_s110)) => funext fun (e5_2 : Int) => zq0y.l0 BIG e5_1 e5_2   k BIG
 rw [h1]
 delta zq0y.w zq0y.sl
 exact (Le.cond (Le.refl _) (Le.gd fun hg => zq0y.h0 _   _ (le_up (of_decide_eq_true hg)) BIG 0 ([]) (by decide) (zero_le_len _) (big_list (of_decide_eq_true hg))))
def zq0y.u (x0 : (List T_s110)) : Option ((List T_s114) × Int × Int) := zq0y.w x0 some
noncomputable def zq0y.n : En CDEKP := mkE CDEKP_ok (es := [zq1m.n]) (ms := []) (fuel := (zq0y.F BIG)) 24 Tryz.f24 [.ai (.slice E_s110)] (.slice E_s114) [(.int .i64), (.int .i64)] (fun x {Ω} k => zq0y.w x.1 k) (fun x Ω k => leV (zq0y.ev BIG x.1 k) (zq0y.le x.1 k)) (by kernel_rfl) (by kernel_rfl)
def zq4e.g0 (e5_1 : (List T_s110))  (k : (List T_s114) × Int × Int → Option Ω) : List T_s110 → Int → (List T_s114) → Option Ω
 | [], i5, a5_1 =>
 k (a5_1, 0, 0)
 | x5 :: xs5, i5, a5_1 =>
 let v1 : T_s114 × Int := (zq4w.t (x5))
 bif (v1.2 != 0) then
 k ([], i5, v1.2)
 else
 bif (decide (List.length a5_1 + List.length [v1.1] ≤ rowMax)) then
 zq4e.g0 e5_1  k xs5 (i5 + 1) (a5_1 ++ [v1.1])
 else
 none
def zq4e.w (x0 : (List T_s110)) (k : (List T_s114) × Int × Int → Option Ω) : Option Ω :=
 bif (decide (((List.length x0 : Nat) : Int) > 8)) then
 k ([], 8, 5)
 else
 bif decide (((List.length x0 : Nat) : Int) ≤ 4611686018427387904) then zq4e.g0 x0  k x0 0 ([]) else none
def zq4e.u (x0 : (List T_s110)) : Option ((List T_s114) × Int × Int) := zq4e.w x0 some
def zq19.F (fuel : Nat) : Fuel := ⟨fuel, fun r => bif r == 3 then mL 0 19 523831 else []⟩
noncomputable def zq19.V (fuel c : Nat) (env : List AV) (L : Heap) (k : Kont Ω) : Option Ω := evCode CDEKP (spE (C := CDEKP) [zq2h.n] []) (zq19.F fuel) (pCo c Tryz.f41) env L k
def zq19.E0 (e3_1 : (List T_s114)) (e3_2 : Int) (s3 : Int × (List T_s114)) : List AV := (dZ 3 ((.rs 1) :: dZ 2 ((.v (.slice E_s114) (e3_1)) :: (.v (.int .i64) (e3_2)) :: (.v (.int .i64) (s3.1)) :: dZ 10 ([]))))
def zq19.H0 (e3_1 : (List T_s114)) (e3_2 : Int) (s3 : Int × (List T_s114)) : Heap := [(.row 115 E_s114 [] false), (.row 115 E_s114 s3.2 false)]
noncomputable def zq19.M0 (fuel : Nat) (e3_1 : (List T_s114)) (e3_2 : Int)  (k : AV → Option Ω) (m : Nat) (s : Int × (List T_s114)) : Option Ω := loopK (zq19.V fuel 75) (mB 19 523831) [] 2 (blockK 0 (sqK (zq19.V fuel 15) (finK CDEKP Tryz.f41 k))) m ((zq19.E0 e3_1 e3_2) s) ((zq19.H0 e3_1 e3_2) s)
def zq19.b0 (e3_1 : (List T_s114)) (e3_2 : Int)   (k : (List T_s114) → Option Ω) (r3 : Int × (List T_s114) → Option Ω) (s3 : Int × (List T_s114)) : Option Ω :=
 bif (decide (s3.1 < e3_2)) then
 bif (idxOK s3.1 (List.length e3_1)) then
 let v1 : T_s114 := (List.getD e3_1 (Int.toNat s3.1) ((0, (0, (0, (0, ())))), (0, ([], ((false, ([], ())), ([], ((false, ([], ())), ())))))))
 bif (decide (List.length s3.2 + List.length [(zq2h.t v1)] ≤ rowMax)) then
 r3 ((IntKind.wrap .i64 (s3.1 + 1)), (s3.2 ++ [(zq2h.t v1)]))
 else
 none
 else
 none
 else
 k s3.2
theorem zq19.l0 (fuel : Nat) (e3_1 : (List T_s114)) (e3_2 : Int)  (k : AV → Option Ω) : ∀ m, (zq19.M0 fuel e3_1 e3_2  k m) = iter (zq19.b0 e3_1 e3_2  (fun r => k (tupAV (.slice E_s114) [] r))) m :=
 loopK_iter (envOf := (zq19.E0 e3_1 e3_2)) (LOf := (zq19.H0 e3_1 e3_2)) (B := zq19.b0 e3_1 e3_2  (fun r => k (tupAV (.slice E_s114) [] r))) (fun R s => by kernel_rfl)
def zq19.sl (x0 : (List T_s114)) (lp0 : (List T_s114) → Int → Int × (List T_s114) → Option Ω) (k : (List T_s114) → Option Ω) : Option Ω :=
 lp0 x0 (((List.length x0 : Nat) : Int)) (0, [])
def zq19.g0 (e3_1 : (List T_s114))  (k : (List T_s114) → Option Ω) : List T_s114 → (List T_s114) → Option Ω
 | [], a3_1 =>
 k a3_1
 | x3 :: xs3, a3_1 =>
 let v1 : T_s114 := x3
 bif (decide (List.length a3_1 + List.length [(zq2h.t v1)] ≤ rowMax)) then
 zq19.g0 e3_1  k xs3 ((a3_1 ++ [(zq2h.t v1)]))
 else
 none
theorem zq19.h0 (e3_1 : (List T_s114))   (k : (List T_s114) → Option Ω) (hX : ((List.length e3_1 : Nat) : Int) ≤ 9223372036854775807) : ∀ (m : Nat) (i : Int) (a : (List T_s114)), 0 ≤ i → i ≤ ((List.length e3_1 : Nat) : Int) → ((List.length e3_1 : Nat) : Int) < m + i → Le (zq19.g0 e3_1  k (List.drop (Int.toNat i) e3_1) a) (iter (zq19.b0 e3_1 (((List.length e3_1 : Nat) : Int))  k) m (i, a)) :=
 iter_list e3_1 ((0, (0, (0, (0, ())))), (0, ([], ((false, ([], ())), ([], ((false, ([], ())), ())))))) (fun (i3 : Int) (a3 : (List T_s114)) => (i3, a3)) (fun xs i3 a3 => zq19.g0 e3_1  k xs a3) (zq19.b0 e3_1 (((List.length e3_1 : Nat) : Int))  k)
 (fun i3 a3 r h0 => (Le.fls h0 (Le.refl _)))
 (fun i3 xs3 a3 r h0 h1 hw ih => (Le.tru h0 (Le.tru h1 (let v1 : T_s114 := (List.getD e3_1 (Int.toNat i3) ((0, (0, (0, (0, ())))), (0, ([], ((false, ([], ())), ([], ((false, ([], ())), ()))))))); (Le.cond (ih _ hw ((a3 ++ [(zq2h.t v1)]))) Le.nil)))))
 hX
def zq19.w (x0 : (List T_s114)) (k : (List T_s114) → Option Ω) : Option Ω :=
 bif decide (((List.length x0 : Nat) : Int) ≤ 4611686018427387904) then zq19.g0 x0  k x0 ([]) else none
theorem zq19.ev (fuel : Nat) (x0 : (List T_s114)) (k : AV → Option Ω) : evFn CDEKP (spE (C := CDEKP) [zq2h.n] []) (zq19.F fuel) Tryz.f41 (Tryz.f41.body.getD .skip) [(.v (.slice E_s114) (x0))] k = zq19.sl x0 (fun e3_1 e3_2 => (zq19.M0 fuel e3_1 e3_2  k fuel)) (fun r => k (tupAV (.slice E_s114) [] r)) := by kernel_rfl
theorem zq19.le (x0 : (List T_s114)) (k : AV → Option Ω) : Le (zq19.w x0 (fun r => k (tupAV (.slice E_s114) [] r))) (zq19.sl x0 (fun e3_1 e3_2 => (zq19.M0 BIG e3_1 e3_2  k BIG)) (fun r => k (tupAV (.slice E_s114) [] r))) := by
 have h1 := funext fun (e3_1 : (List T_s114)) => funext fun (e3_2 : Int) => zq19.l0 BIG e3_1 e3_2   k BIG
 rw [h1]
 delta zq19.w zq19.sl
 exact (Le.gd fun hg => zq19.h0 _   _ (le_up (of_decide_eq_true hg)) BIG 0 ([]) (by decide) (zero_le_len _) (big_list (of_decide_eq_true hg)))
def zq19.u (x0 : (List T_s114)) : Option ((List T_s114)) := zq19.w x0 some
noncomputable def zq19.n : En CDEKP := mkE CDEKP_ok (es := [zq2h.n]) (ms := []) (fuel := (zq19.F BIG)) 41 Tryz.f41 [.ai (.slice E_s114)] (.slice E_s114) [] (fun x {Ω} k => zq19.w x.1 k) (fun x Ω k => leV (zq19.ev BIG x.1 k) (zq19.le x.1 k)) (by kernel_rfl) (by kernel_rfl)
def zq2p.s (x0 : Int) (x1 : Int) (k : Bool → Option Ω) : Option Ω :=
 bif (decide (x1 ≥ 1)) then
 bif (decide (x1 ≤ 65535)) then
 bif (decide (x0 ≥ 0)) then
 k (decide (x0 ≤ x1))
 else
 k false
 else
 k false
 else
 k false
def zq2p.t (x0 : Int) (x1 : Int) : Bool :=
 bif (decide (x1 ≥ 1)) then
 bif (decide (x1 ≤ 65535)) then
 bif (decide (x0 ≥ 0)) then
 (decide (x0 ≤ x1))
 else
 false
 else
 false
 else
 false
theorem zq2p.v (x0 : Int) (x1 : Int) (k : Bool → Option Ω) : zq2p.s x0 x1 k = k (zq2p.t x0 x1) := by
 delta zq2p.s zq2p.t; exact (cond_tot (cond_tot (cond_tot rfl rfl) rfl) rfl)
noncomputable def zq2p.n : En CDEKP := mkT CDEKP_ok (es := []) (ms := []) (fuel := ⟨1, fun _ => []⟩) 195 Tryz.f195 [.ai (.int .i64), .ai (.int .i64)] .bool [] (fun x {Ω} k => zq2p.s x.1 x.2.1 k) (fun x => zq2p.t x.1 x.2.1) (fun x Ω k => by kernel_rfl) (fun x => zq2p.v x.1 x.2.1 some) (by kernel_rfl) (by kernel_rfl)
def zq56.t (x0 : Int) (x1 : Int) : Bool :=
 bif (decide (x1 ≥ 1)) then
 bif (decide (x1 ≤ 65535)) then
 bif (decide (x0 ≥ 0)) then
 (decide (x0 ≤ x1))
 else
 false
 else
 false
 else
 false
def zq45.s (x0 : T_s153) (k : Bool → Option Ω) : Option Ω :=
 (zq3a.u x0.1 everybodyT).bind fun y1 =>
 bif y1 then
 (zq3a.u x0.2.1 x0.1).bind fun y2 =>
 k y2
 else
 k false
def zq45.u (x0 : T_s153) : Option (Bool) := zq45.s x0 some
noncomputable def zq45.n : En CDEKP := mkE CDEKP_ok (es := [zq3a.n]) (ms := []) (fuel := ⟨1, fun _ => []⟩) 196 Tryz.f196 [.ai E_s153] .bool [] (fun x {Ω} k => zq45.s x.1 k) (fun x Ω k => Le.of (by kernel_rfl)) (by kernel_rfl) (by kernel_rfl)
def zq4b.s (x0 : T_s153) (x1 : Int) (k : Int → Option Ω) : Option Ω :=
 (zq45.u x0).bind fun y1 =>
 bif (!y1) then
 k 1
 else
 (zq3x.u everybodyT x1).bind fun y2 =>
 bif (!y2) then
 k 8
 else
 k 0
def zq4b.u (x0 : T_s153) (x1 : Int) : Option (Int) := zq4b.s x0 x1 some
noncomputable def zq4b.n : En CDEKP := mkE CDEKP_ok (es := [zq45.n, zq3x.n]) (ms := []) (fuel := ⟨1, fun _ => []⟩) 219 Tryz.f219 [.ai E_s153, .ai (.int .i64)] (.int .i64) [] (fun x {Ω} k => zq4b.s x.1 x.2.1 k) (fun x Ω k => Le.of (by kernel_rfl)) (by kernel_rfl) (by kernel_rfl)
def zq4a.s (x0 : T_s153) (x1 : Int) (k : T_s153 × Int → Option Ω) : Option Ω :=
 (zq4b.u x0 x1).bind fun y1 =>
 bif (y1 != 0) then
 k (x0, y1)
 else
 (zq3x.u x0.1 x1).bind fun y2 =>
 bif y2 then
 k (x0, 7)
 else
 (zq39.u x0.1 x1).bind fun y3 =>
 k ((y3, x0.2), 0)
def zq4a.u (x0 : T_s153) (x1 : Int) : Option (T_s153 × Int) := zq4a.s x0 x1 some
noncomputable def zq4a.n : En CDEKP := mkE CDEKP_ok (es := [zq4b.n, zq3x.n, zq39.n]) (ms := []) (fuel := ⟨1, fun _ => []⟩) 178 Tryz.f178 [.ai E_s153, .ai (.int .i64)] E_s153 [(.int .i64)] (fun x {Ω} k => zq4a.s x.1 x.2.1 k) (fun x Ω k => Le.of (by kernel_rfl)) (by kernel_rfl) (by kernel_rfl)
def zq4f.g0 (e3_1 : (List Int)) (e3_2 : (List Int))  (k : (List Int) → Option Ω) : List Int → (List Int) → Option Ω
 | [], a3_1 =>
 k a3_1
 | x3 :: xs3, a3_1 =>
 (zq3o.u e3_2 (x3)).bind fun y1 =>
 bif (!y1) then
 bif (decide (List.length a3_1 + List.length [x3] ≤ rowMax)) then
 zq4f.g0 e3_1 e3_2  k xs3 (a3_1 ++ [x3])
 else
 none
 else
 zq4f.g0 e3_1 e3_2  k xs3 a3_1
def zq4f.w (x0 : (List Int)) (x1 : (List Int)) (k : (List Int) → Option Ω) : Option Ω :=
 bif decide (((List.length x0 : Nat) : Int) ≤ 4611686018427387904) then zq4f.g0 x0 x1  k x0 ([]) else none
def zq4f.u (x0 : (List Int)) (x1 : (List Int)) : Option ((List Int)) := zq4f.w x0 x1 some
def zq3r.g0 (e2_1 : T_s72)  (k : Bool → Option Ω) : Nat → Int → Option Ω
 | 0, i2 =>
 (zq4f.u e2_1.2.1 e2_1.1).bind fun y2 =>
 k (((List.length y2 : Nat) : Int) == 0)
 | d2 + 1, i2 =>
 (bif (idxOK i2 (List.length e2_1.1)) then (bif (decide ((List.getD e2_1.1 (Int.toNat i2) 0) < 0)) then some (true, ()) else (bif (idxOK i2 (List.length e2_1.1)) then some ((decide ((List.getD e2_1.1 (Int.toNat i2) 0) > 15)), ()) else none)) else none).bind fun j1 =>
 bif j1.1 then
 k false
 else
 zq3r.g0 e2_1  k d2 (i2 + 1)
def zq3r.w (x0 : T_s72) (k : Bool → Option Ω) : Option Ω :=
 bif (decide (((List.length x0.1 : Nat) : Int) ≤ 4611686018427387904)) then zq3r.g0 x0  k ((Int.toNat (((List.length x0.1 : Nat) : Int) - 0))) 0 else none
def zq3r.u (x0 : T_s72) : Option (Bool) := zq3r.w x0 some
def zq4k.s (x0 : T_s72) (x1 : Int) (k : Int → Option Ω) : Option Ω :=
 (zq3r.u x0).bind fun y1 =>
 bif (!y1) then
 k 1
 else
 (bif (decide (x1 < 0)) then some (true, ()) else some ((decide (x1 > 15)), ())).bind fun j2 =>
 bif j2.1 then
 k 8
 else
 k 0
def zq4k.u (x0 : T_s72) (x1 : Int) : Option (Int) := zq4k.s x0 x1 some
def zq4p.s (x0 : T_s72) (x1 : Int) (k : T_s72 × Int → Option Ω) : Option Ω :=
 (zq4k.u x0 x1).bind fun y1 =>
 bif (y1 != 0) then
 k (x0, y1)
 else
 (zq3o.u x0.1 x1).bind fun y2 =>
 bif y2 then
 k (x0, 7)
 else
 (zq4x.u x0.1 x1).bind fun y3 =>
 k ((y3, x0.2), 0)
def zq4p.u (x0 : T_s72) (x1 : Int) : Option (T_s72 × Int) := zq4p.s x0 x1 some
def zq12.s (x0 : T_s74) (k : Int → Option Ω) : Option Ω :=
 bif (!(zq2p.t 0 x0.2.1)) then
 k 8
 else
 k 0
def zq12.t (x0 : T_s74) : Int :=
 bif (!(zq2p.t 0 x0.2.1)) then
 8
 else
 0
theorem zq12.v (x0 : T_s74) (k : Int → Option Ω) : zq12.s x0 k = k (zq12.t x0) := by
 delta zq12.s zq12.t; exact (cond_tot rfl rfl)
noncomputable def zq12.n : En CDEKP := mkT CDEKP_ok (es := [zq2p.n]) (ms := []) (fuel := ⟨1, fun _ => []⟩) 168 Tryz.f168 [.ai E_s74] (.int .i64) [] (fun x {Ω} k => zq12.s x.1 k) (fun x => zq12.t x.1) (fun x Ω k => by kernel_rfl) (fun x => zq12.v x.1 some) (by kernel_rfl) (by kernel_rfl)
def zq28.s (x0 : T_s74) (k : T_s155 × Int → Option Ω) : Option Ω :=
 bif ((zq12.t x0) != 0) then
 k (((false, (0, ())), (((List.replicate 4 0), ((List.replicate 4 0), ())), (0, ()))), (zq12.t x0))
 else
 k ((x0, (((List.replicate 4 0), ((List.replicate 4 0), ())), (0, ()))), 0)
def zq28.t (x0 : T_s74) : T_s155 × Int :=
 bif ((zq12.t x0) != 0) then
 (((false, (0, ())), (((List.replicate 4 0), ((List.replicate 4 0), ())), (0, ()))), (zq12.t x0))
 else
 ((x0, (((List.replicate 4 0), ((List.replicate 4 0), ())), (0, ()))), 0)
theorem zq28.v (x0 : T_s74) (k : T_s155 × Int → Option Ω) : zq28.s x0 k = k (zq28.t x0) := by
 delta zq28.s zq28.t; exact (cond_tot rfl rfl)
noncomputable def zq28.n : En CDEKP := mkT CDEKP_ok (es := [zq12.n]) (ms := []) (fuel := ⟨1, fun _ => []⟩) 94 Tryz.f94 [.ai E_s74] E_s155 [(.int .i64)] (fun x {Ω} k => zq28.s x.1 k) (fun x => zq28.t x.1) (fun x Ω k => by kernel_rfl) (fun x => zq28.v x.1 some) (by kernel_rfl) (by kernel_rfl)
def zq2t.s (x0 : T_s155) (k : Bool → Option Ω) : Option Ω :=
 bif (zq2p.t x0.2.2.1 x0.1.2.1) then
 (zq45.u x0.2.1).bind fun y1 =>
 k y1
 else
 k false
def zq2t.u (x0 : T_s155) : Option (Bool) := zq2t.s x0 some
noncomputable def zq2t.n : En CDEKP := mkE CDEKP_ok (es := [zq2p.n, zq45.n]) (ms := []) (fuel := ⟨1, fun _ => []⟩) 132 Tryz.f132 [.ai E_s155] .bool [] (fun x {Ω} k => zq2t.s x.1 k) (fun x Ω k => Le.of (by kernel_rfl)) (by kernel_rfl) (by kernel_rfl)
def zq22.s (x0 : T_s155) (x1 : T_s153) (x2 : Int) (k : T_s155 × Int → Option Ω) : Option Ω :=
 (bif (x2 != 0) then some (true, ()) else some ((eqI E_s155 (x0.1, (x1, (x0.2.2.1, ()))) x0), ())).bind fun j1 =>
 bif j1.1 then
 k (x0, x2)
 else
 k ((x0.1, (x1, (x0.2.2.1, ()))), 0)
def zq22.t (x0 : T_s155) (x1 : T_s153) (x2 : Int) : T_s155 × Int :=
 let j1 : Bool × Unit := (bif (x2 != 0) then (true, ()) else ((eqI E_s155 (x0.1, (x1, (x0.2.2.1, ()))) x0), ()))
 bif j1.1 then
 (x0, x2)
 else
 ((x0.1, (x1, (x0.2.2.1, ()))), 0)
theorem zq22.v (x0 : T_s155) (x1 : T_s153) (x2 : Int) (k : T_s155 × Int → Option Ω) : zq22.s x0 x1 x2 k = k (zq22.t x0 x1 x2) := by
 delta zq22.s zq22.t; exact (join_tot (cond_some rfl rfl) (cond_tot rfl rfl))
noncomputable def zq22.n : En CDEKP := mkT CDEKP_ok (es := []) (ms := []) (fuel := ⟨1, fun r => bif r == 2000002 then [15, 16, 17, 18, 19, 20, 5021] else []⟩) 177 Tryz.f177 [.ai E_s155, .ai E_s153, .ai (.int .i64)] E_s155 [(.int .i64)] (fun x {Ω} k => zq22.s x.1 x.2.1 x.2.2.1 k) (fun x => zq22.t x.1 x.2.1 x.2.2.1) (fun x Ω k => by kernel_rfl) (fun x => zq22.v x.1 x.2.1 x.2.2.1 some) (by kernel_rfl) (by kernel_rfl)
def zq30.s (x0 : T_s155) (x1 : Int) (k : T_s155 × Int → Option Ω) : Option Ω :=
 (zq2t.u x0).bind fun y1 =>
 bif (!y1) then
 k (x0, 1)
 else
 (zq4a.u x0.2.1 x1).bind fun y2 =>
 let v3 : T_s155 × Int := (zq22.t x0 y2.1 y2.2)
 k (v3.1, v3.2)
def zq30.u (x0 : T_s155) (x1 : Int) : Option (T_s155 × Int) := zq30.s x0 x1 some
noncomputable def zq30.n : En CDEKP := mkE CDEKP_ok (es := [zq2t.n, zq22.n, zq4a.n]) (ms := []) (fuel := ⟨1, fun _ => []⟩) 102 Tryz.f102 [.ai E_s155, .ai (.int .i64)] E_s155 [(.int .i64)] (fun x {Ω} k => zq30.s x.1 x.2.1 k) (fun x Ω k => Le.of (by kernel_rfl)) (by kernel_rfl) (by kernel_rfl)
def zq4n.t (x0 : T_s74) : Int :=
 let j1 : Bool × Unit := (bif (decide (x0.2.1 < 1)) then (true, ()) else ((decide (x0.2.1 > 65535)), ()))
 bif j1.1 then
 8
 else
 0
def zq4y.t (x0 : T_s74) : T_s76 × Int :=
 bif ((zq4n.t x0) != 0) then
 (((false, (0, ())), (([], ([], ())), (0, ()))), (zq4n.t x0))
 else
 ((x0, (([], ([], ())), (0, ()))), 0)
def zq4u.s (x0 : T_s76) (k : Bool → Option Ω) : Option Ω :=
 bif (zq56.t x0.2.2.1 x0.1.2.1) then
 (zq3r.u x0.2.1).bind fun y1 =>
 k y1
 else
 k false
def zq4u.u (x0 : T_s76) : Option (Bool) := zq4u.s x0 some
def zq4m.s (x0 : T_s76) (x1 : Int) (k : T_s76 × Int → Option Ω) : Option Ω :=
 (zq4u.u x0).bind fun y1 =>
 bif (!y1) then
 k (x0, 1)
 else
 (zq4p.u x0.2.1 x1).bind fun y2 =>
 k ((x0.1, (y2.1, x0.2.2)), y2.2)
def zq4m.u (x0 : T_s76) (x1 : Int) : Option (T_s76 × Int) := zq4m.s x0 x1 some
def zq14.F (fuel : Nat) : Fuel := ⟨fuel, fun r => bif r == 5 then mL 0 35 34359680991 else []⟩
noncomputable def zq14.V (fuel c : Nat) (env : List AV) (L : Heap) (k : Kont Ω) : Option Ω := evCode CDEKP (spE (C := CDEKP) [zq28.n] []) (zq14.F fuel) (pCo c Tryz.f25) env L k
def zq14.E0 (e5_1 : (List T_s74)) (e5_2 : Int) (s5 : Int × (List T_s155)) : List AV := (dZ 5 ((.rs 1) :: dZ 7 ((.v (.slice E_s74) (e5_1)) :: (.v (.int .i64) (e5_2)) :: (.v (.int .i64) (s5.1)) :: dZ 19 ([]))))
def zq14.H0 (e5_1 : (List T_s74)) (e5_2 : Int) (s5 : Int × (List T_s155)) : Heap := [(.row 156 E_s155 [] false), (.row 156 E_s155 s5.2 false)]
noncomputable def zq14.M0 (fuel : Nat) (e5_1 : (List T_s74)) (e5_2 : Int)  (k : AV → Option Ω) (m : Nat) (s : Int × (List T_s155)) : Option Ω := loopK (zq14.V fuel 151) (mB 35 34359680991) [] 2 (blockK 0 (sqK (zq14.V fuel 31) (finK CDEKP Tryz.f25 k))) m ((zq14.E0 e5_1 e5_2) s) ((zq14.H0 e5_1 e5_2) s)
def zq14.b0 (e5_1 : (List T_s74)) (e5_2 : Int)   (k : (List T_s155) × Int × Int → Option Ω) (r5 : Int × (List T_s155) → Option Ω) (s5 : Int × (List T_s155)) : Option Ω :=
 bif (decide (s5.1 < e5_2)) then
 bif (idxOK s5.1 (List.length e5_1)) then
 let v1 : T_s155 × Int := (zq28.t ((List.getD e5_1 (Int.toNat s5.1) (false, (0, ())))))
 bif (v1.2 != 0) then
 k ([], s5.1, v1.2)
 else
 bif (decide (List.length s5.2 + List.length [v1.1] ≤ rowMax)) then
 r5 ((IntKind.wrap .i64 (s5.1 + 1)), (s5.2 ++ [v1.1]))
 else
 none
 else
 none
 else
 k (s5.2, 0, 0)
theorem zq14.l0 (fuel : Nat) (e5_1 : (List T_s74)) (e5_2 : Int)  (k : AV → Option Ω) : ∀ m, (zq14.M0 fuel e5_1 e5_2  k m) = iter (zq14.b0 e5_1 e5_2  (fun r => k (tupAV (.slice E_s155) [(.int .i64), (.int .i64)] r))) m :=
 loopK_iter (envOf := (zq14.E0 e5_1 e5_2)) (LOf := (zq14.H0 e5_1 e5_2)) (B := zq14.b0 e5_1 e5_2  (fun r => k (tupAV (.slice E_s155) [(.int .i64), (.int .i64)] r))) (fun R s => by kernel_rfl)
def zq14.sl (x0 : (List T_s74)) (lp0 : (List T_s74) → Int → Int × (List T_s155) → Option Ω) (k : (List T_s155) × Int × Int → Option Ω) : Option Ω :=
 bif (decide (((List.length x0 : Nat) : Int) > 8)) then
 k ([], 8, 5)
 else
 lp0 x0 (((List.length x0 : Nat) : Int)) (0, [])
def zq14.g0 (e5_1 : (List T_s74))  (k : (List T_s155) × Int × Int → Option Ω) : List T_s74 → Int → (List T_s155) → Option Ω
 | [], i5, a5_1 =>
 k (a5_1, 0, 0)
 | x5 :: xs5, i5, a5_1 =>
 let v1 : T_s155 × Int := (zq28.t (x5))
 bif (v1.2 != 0) then
 k ([], i5, v1.2)
 else
 bif (decide (List.length a5_1 + List.length [v1.1] ≤ rowMax)) then
 zq14.g0 e5_1  k xs5 (i5 + 1) (a5_1 ++ [v1.1])
 else
 none
theorem zq14.h0 (e5_1 : (List T_s74))   (k : (List T_s155) × Int × Int → Option Ω) (hX : ((List.length e5_1 : Nat) : Int) ≤ 9223372036854775807) : ∀ (m : Nat) (i : Int) (a : (List T_s155)), 0 ≤ i → i ≤ ((List.length e5_1 : Nat) : Int) → ((List.length e5_1 : Nat) : Int) < m + i → Le (zq14.g0 e5_1  k (List.drop (Int.toNat i) e5_1) i a) (iter (zq14.b0 e5_1 (((List.length e5_1 : Nat) : Int))  k) m (i, a)) :=
 iter_list e5_1 (false, (0, ())) (fun (i5 : Int) (a5 : (List T_s155)) => (i5, a5)) (fun xs i5 a5 => zq14.g0 e5_1  k xs i5 a5) (zq14.b0 e5_1 (((List.length e5_1 : Nat) : Int))  k)
 (fun i5 a5 r h0 => (Le.fls h0 (Le.refl _)))
 (fun i5 xs5 a5 r h0 h1 hw ih => (Le.tru h0 (Le.tru h1 (let v1 : T_s155 × Int := (zq28.t ((List.getD e5_1 (Int.toNat i5) (false, (0, ()))))); (Le.cond (Le.refl _) (Le.cond (ih _ hw ((a5 ++ [v1.1]))) Le.nil))))))
 hX
def zq14.w (x0 : (List T_s74)) (k : (List T_s155) × Int × Int → Option Ω) : Option Ω :=
 bif (decide (((List.length x0 : Nat) : Int) > 8)) then
 k ([], 8, 5)
 else
 bif decide (((List.length x0 : Nat) : Int) ≤ 4611686018427387904) then zq14.g0 x0  k x0 0 ([]) else none
theorem zq14.ev (fuel : Nat) (x0 : (List T_s74)) (k : AV → Option Ω) : evFn CDEKP (spE (C := CDEKP) [zq28.n] []) (zq14.F fuel) Tryz.f25 (Tryz.f25.body.getD .skip) [(.v (.slice E_s74) (x0))] k = zq14.sl x0 (fun e5_1 e5_2 => (zq14.M0 fuel e5_1 e5_2  k fuel)) (fun r => k (tupAV (.slice E_s155) [(.int .i64), (.int .i64)] r)) := by kernel_rfl
theorem zq14.le (x0 : (List T_s74)) (k : AV → Option Ω) : Le (zq14.w x0 (fun r => k (tupAV (.slice E_s155) [(.int .i64), (.int .i64)] r))) (zq14.sl x0 (fun e5_1 e5_2 => (zq14.M0 BIG e5_1 e5_2  k BIG)) (fun r => k (tupAV (.slice E_s155) [(.int .i64), (.int .i64)] r))) := by
 have h1 := funext fun (e5_1 : (List T_s74)) => funext fun (e5_2 : Int) => zq14.l0 BIG e5_1 e5_2   k BIG
 rw [h1]
 delta zq14.w zq14.sl
 exact (Le.cond (Le.refl _) (Le.gd fun hg => zq14.h0 _   _ (le_up (of_decide_eq_true hg)) BIG 0 ([]) (by decide) (zero_le_len _) (big_list (of_decide_eq_true hg))))
def zq14.u (x0 : (List T_s74)) : Option ((List T_s155) × Int × Int) := zq14.w x0 some
noncomputable def zq14.n : En CDEKP := mkE CDEKP_ok (es := [zq28.n]) (ms := []) (fuel := (zq14.F BIG)) 25 Tryz.f25 [.ai (.slice E_s74)] (.slice E_s155) [(.int .i64), (.int .i64)] (fun x {Ω} k => zq14.w x.1 k) (fun x Ω k => leV (zq14.ev BIG x.1 k) (zq14.le x.1 k)) (by kernel_rfl) (by kernel_rfl)
def zq3d.s (x0 : T_s155) (x1 : Int) (k : T_s155 × Int → Option Ω) : Option Ω :=
 (zq30.u x0 x1).bind fun y1 =>
 k (y1.1, y1.2)
def zq3d.u (x0 : T_s155) (x1 : Int) : Option (T_s155 × Int) := zq3d.s x0 x1 some
noncomputable def zq3d.n : En CDEKP := mkE CDEKP_ok (es := [zq30.n]) (ms := []) (fuel := ⟨1, fun _ => []⟩) 101 Tryz.f101 [.ai E_s155, .ap (.int .i64)] E_s155 [(.int .i64)] (fun x {Ω} k => zq3d.s x.1 x.2.1 k) (fun x Ω k => Le.of (by kernel_rfl)) (by kernel_rfl) (by kernel_rfl)
noncomputable def walk176_0 : Me CDEKP := Me.walk CDEKP_ok [] [] 176 Tryz.f176 (by kernel_rfl) (by kernel_rfl)
def zq25.s (x0 : (List T_s155)) (x1 : Int) (c2_0 : Int) (k : (List T_s155) × Int → Option Ω) : Option Ω :=
 (bif (decide (x1 < 0)) then some (true, ()) else some ((decide (x1 ≥ ((List.length x0 : Nat) : Int))), ())).bind fun j1 =>
 bif j1.1 then
 k (x0, 8)
 else
 bif (idxOK x1 (List.length x0)) then
 let v2 : T_s155 := (List.getD x0 (Int.toNat x1) ((false, (0, ())), (((List.replicate 4 0), ((List.replicate 4 0), ())), (0, ()))))
 (zq3d.u v2 c2_0).bind fun y3 =>
 bif (y3.2 != 0) then
 k (x0, y3.2)
 else
 bif (decide (((List.length x0 : Nat) : Int) = ((List.length x0 : Nat) : Int)) && decide ((0 : Int) ≤ ((List.length x0 : Nat) : Int)) && decide (((List.length x0 : Nat) : Int) ≤ (2147483648 : Int))) then
 bif (idxOK x1 (List.length (copyL (List.replicate (Int.toNat ((List.length x0 : Nat) : Int)) ((false, (0, ())), (((List.replicate 4 0), ((List.replicate 4 0), ())), (0, ())))) x0))) then
 k ((List.set (copyL (List.replicate (Int.toNat ((List.length x0 : Nat) : Int)) ((false, (0, ())), (((List.replicate 4 0), ((List.replicate 4 0), ())), (0, ())))) x0) (Int.toNat x1) y3.1), 0)
 else
 none
 else
 none
 else
 none
def zq25.u (x0 : (List T_s155)) (x1 : Int) (c2_0 : Int) : Option ((List T_s155) × Int) := zq25.s x0 x1 c2_0 some
noncomputable def zq25.n : En CDEKP := mkE CDEKP_ok (es := [zq3d.n]) (ms := [walk176_0]) (fuel := ⟨1, fun r => bif r == 2000001 then [11, 12, 13, 14, 15, 16, 17, 5018] else []⟩) 100 Tryz.f100 [.ai (.slice E_s155), .ai (.int .i64), .af1 101 (.int .i64)] (.slice E_s155) [(.int .i64)] (fun x {Ω} k => zq25.s x.1 x.2.1 x.2.2.1 k) (fun x Ω k => Le.of (by kernel_rfl)) (by kernel_rfl) (by kernel_rfl)
def zq34.s (x0 : (List T_s155)) (x1 : Int) (x2 : Int) (k : (List T_s155) × Int → Option Ω) : Option Ω :=
 (zq25.u x0 x1 x2).bind fun y1 =>
 k (y1.1, y1.2)
def zq34.u (x0 : (List T_s155)) (x1 : Int) (x2 : Int) : Option ((List T_s155) × Int) := zq34.s x0 x1 x2 some
noncomputable def zq34.n : En CDEKP := mkE CDEKP_ok (es := [zq25.n]) (ms := []) (fuel := ⟨1, fun _ => []⟩) 27 Tryz.f27 [.ai (.slice E_s155), .ai (.int .i64), .ai (.int .i64)] (.slice E_s155) [(.int .i64)] (fun x {Ω} k => zq34.s x.1 x.2.1 x.2.2.1 k) (fun x Ω k => Le.of (by kernel_rfl)) (by kernel_rfl) (by kernel_rfl)
def zq4c.g0 (e5_1 : (List T_s74))  (k : (List T_s76) × Int × Int → Option Ω) : List T_s74 → Int → (List T_s76) → Option Ω
 | [], i5, a5_1 =>
 k (a5_1, 0, 0)
 | x5 :: xs5, i5, a5_1 =>
 let v1 : T_s76 × Int := (zq4y.t (x5))
 bif (v1.2 != 0) then
 k ([], i5, v1.2)
 else
 bif (decide (List.length a5_1 + List.length [v1.1] ≤ rowMax)) then
 zq4c.g0 e5_1  k xs5 (i5 + 1) (a5_1 ++ [v1.1])
 else
 none
def zq4c.w (x0 : (List T_s74)) (k : (List T_s76) × Int × Int → Option Ω) : Option Ω :=
 bif (decide (((List.length x0 : Nat) : Int) > 8)) then
 k ([], 8, 5)
 else
 bif decide (((List.length x0 : Nat) : Int) ≤ 4611686018427387904) then zq4c.g0 x0  k x0 0 ([]) else none
def zq4c.u (x0 : (List T_s74)) : Option ((List T_s76) × Int × Int) := zq4c.w x0 some
def zq11.F (fuel : Nat) : Fuel := ⟨fuel, fun r => bif r == 2 then mL 0 22 4194079 else bif r == 2000004 then [11, 12, 13, 14, 15, 16, 17, 18, 19, 5020] else []⟩
noncomputable def zq11.V (fuel c : Nat) (env : List AV) (L : Heap) (k : Kont Ω) : Option Ω := evCode CDEKP (spE (C := CDEKP) [] []) (zq11.F fuel) (pCo c Tryz.f264) env L k
def zq11.E0 (e2_1 : (List (List Int))) (e2_2 : Int) (s2 : Int) : List AV := (dZ 5 ((.v (.slice (.arr 2 (.int .i64))) (e2_1)) :: (.v (.int .i64) (e2_2)) :: (.v (.int .i64) (s2)) :: dZ 14 ([])))
def zq11.H0 (e2_1 : (List (List Int))) (e2_2 : Int) (s2 : Int) : Heap := []
noncomputable def zq11.M0 (fuel : Nat) (e2_1 : (List (List Int))) (e2_2 : Int)  (k : AV → Option Ω) (m : Nat) (s : Int) : Option Ω := loopK (zq11.V fuel 37) (mB 22 4194079) [] 0 (blockK 0 (sqK (zq11.V fuel 7) (finK CDEKP Tryz.f264 k))) m ((zq11.E0 e2_1 e2_2) s) ((zq11.H0 e2_1 e2_2) s)
def zq11.b0 (e2_1 : (List (List Int))) (e2_2 : Int)   (k : Bool → Option Ω) (r2 : Int → Option Ω) (s2 : Int) : Option Ω :=
 bif (decide (s2 < e2_2)) then
 bif (idxOK s2 (List.length e2_1)) then
 (bif (decide ((List.getD (List.getD e2_1 (Int.toNat s2) (List.replicate 2 0)) 0 0) < 0)) then some (true, ()) else (let v1 : Bool := (decide ((List.getD (List.getD e2_1 (Int.toNat s2) (List.replicate 2 0)) 0 0) ≥ (List.getD (List.getD e2_1 (Int.toNat s2) (List.replicate 2 0)) 1 0))); some (v1, ()))).bind fun j2 =>
 bif j2.1 then
 k false
 else
 r2 ((IntKind.wrap .i64 (s2 + 1)))
 else
 none
 else
 k true
theorem zq11.l0 (fuel : Nat) (e2_1 : (List (List Int))) (e2_2 : Int)  (k : AV → Option Ω) : ∀ m, (zq11.M0 fuel e2_1 e2_2  k m) = iter (zq11.b0 e2_1 e2_2  (fun r => k (tupAV .bool [] r))) m :=
 loopK_iter (envOf := (zq11.E0 e2_1 e2_2)) (LOf := (zq11.H0 e2_1 e2_2)) (B := zq11.b0 e2_1 e2_2  (fun r => k (tupAV .bool [] r))) (fun R s => by kernel_rfl)
def zq11.sl (x0 : (List (List Int))) (lp0 : (List (List Int)) → Int → Int → Option Ω) (k : Bool → Option Ω) : Option Ω :=
 lp0 x0 (((List.length x0 : Nat) : Int)) (0)
def zq11.g0 (e2_1 : (List (List Int)))  (k : Bool → Option Ω) : List (List Int) → Option Ω
 | [] =>
 k true
 | x2 :: xs2 =>
 (bif (decide ((List.getD x2 0 0) < 0)) then some (true, ()) else (let v1 : Bool := (decide ((List.getD x2 0 0) ≥ (List.getD x2 1 0))); some (v1, ()))).bind fun j2 =>
 bif j2.1 then
 k false
 else
 zq11.g0 e2_1  k xs2
theorem zq11.h0 (e2_1 : (List (List Int)))   (k : Bool → Option Ω) (hX : ((List.length e2_1 : Nat) : Int) ≤ 9223372036854775807) : ∀ (m : Nat) (i : Int) (a : Unit), 0 ≤ i → i ≤ ((List.length e2_1 : Nat) : Int) → ((List.length e2_1 : Nat) : Int) < m + i → Le (zq11.g0 e2_1  k (List.drop (Int.toNat i) e2_1) ) (iter (zq11.b0 e2_1 (((List.length e2_1 : Nat) : Int))  k) m (i)) :=
 iter_list e2_1 (List.replicate 2 0) (fun (i2 : Int) (a2 : Unit) => (i2)) (fun xs i2 a2 => zq11.g0 e2_1  k xs ) (zq11.b0 e2_1 (((List.length e2_1 : Nat) : Int))  k)
 (fun i2 a2 r h0 => (Le.fls h0 (Le.refl _)))
 (fun i2 xs2 a2 r h0 h1 hw ih => (Le.tru h0 (Le.tru h1 (Le.bnd fun j2 => (Le.cond (Le.refl _) (ih _ hw ()))))))
 hX
def zq11.w (x0 : (List (List Int))) (k : Bool → Option Ω) : Option Ω :=
 bif decide (((List.length x0 : Nat) : Int) ≤ 4611686018427387904) then zq11.g0 x0  k x0  else none
theorem zq11.ev (fuel : Nat) (x0 : (List (List Int))) (k : AV → Option Ω) : evFn CDEKP (spE (C := CDEKP) [] []) (zq11.F fuel) Tryz.f264 (Tryz.f264.body.getD .skip) [(.v (.slice (.arr 2 (.int .i64))) (x0))] k = zq11.sl x0 (fun e2_1 e2_2 => (zq11.M0 fuel e2_1 e2_2  k fuel)) (fun r => k (tupAV .bool [] r)) := by kernel_rfl
theorem zq11.le (x0 : (List (List Int))) (k : AV → Option Ω) : Le (zq11.w x0 (fun r => k (tupAV .bool [] r))) (zq11.sl x0 (fun e2_1 e2_2 => (zq11.M0 BIG e2_1 e2_2  k BIG)) (fun r => k (tupAV .bool [] r))) := by
 have h1 := funext fun (e2_1 : (List (List Int))) => funext fun (e2_2 : Int) => zq11.l0 BIG e2_1 e2_2   k BIG
 rw [h1]
 delta zq11.w zq11.sl
 exact (Le.gd fun hg => zq11.h0 _   _ (le_up (of_decide_eq_true hg)) BIG 0 () (by decide) (zero_le_len _) (big_list (of_decide_eq_true hg)))
def zq11.u (x0 : (List (List Int))) : Option (Bool) := zq11.w x0 some
noncomputable def zq11.n : En CDEKP := mkE CDEKP_ok (es := []) (ms := []) (fuel := (zq11.F BIG)) 264 Tryz.f264 [.ai (.slice (.arr 2 (.int .i64)))] .bool [] (fun x {Ω} k => zq11.w x.1 k) (fun x Ω k => leV (zq11.ev BIG x.1 k) (zq11.le x.1 k)) (by kernel_rfl) (by kernel_rfl)
def zq4o.s (x0 : T_s227) (k : Bool × T_s227 → Option Ω) : Option Ω :=
 (zq11.u ([(List.set (List.set (List.replicate 2 0) 0 x0.2.2.2.2.1) 1 6)])).bind fun y1 =>
 bif (x0.1 == 1) then
 bif y1 then
 (zq11.u ([(List.set (List.set (List.replicate 2 0) 0 x0.2.1) 1 8), (List.set (List.set (List.replicate 2 0) 0 x0.2.2.2.1) 1 8)])).bind fun y2 =>
 k (y2, (0, (0, (x0.2.2.1, (0, (0, ()))))))
 else
 k (false, (0, (0, (x0.2.2.1, (0, (0, ()))))))
 else
 bif (x0.1 == 2) then
 bif y1 then
 (zq11.u ([(List.set (List.set (List.replicate 2 0) 0 x0.2.1) 1 8)])).bind fun y3 =>
 bif y3 then
 k ((zq1j.t x0.2.2.1), (0, (0, (0, (x0.2.2.2.1, (0, ()))))))
 else
 k (false, (0, (0, (0, (x0.2.2.2.1, (0, ()))))))
 else
 k (false, (0, (0, (0, (x0.2.2.2.1, (0, ()))))))
 else
 bif (x0.1 == 3) then
 bif y1 then
 (zq11.u ([(List.set (List.set (List.replicate 2 0) 0 x0.2.1) 1 8)])).bind fun y4 =>
 k (y4, (0, (0, (x0.2.2.1, (x0.2.2.2.1, (0, ()))))))
 else
 k (false, (0, (0, (x0.2.2.1, (x0.2.2.2.1, (0, ()))))))
 else
 bif (x0.1 == 4) then
 bif y1 then
 k ((zq38.t x0.2.2.1), (0, (x0.2.1, (0, (x0.2.2.2.1, (0, ()))))))
 else
 k (false, (0, (x0.2.1, (0, (x0.2.2.2.1, (0, ()))))))
 else
 bif (x0.1 == 6) then
 bif y1 then
 bif (zq1j.t x0.2.2.1) then
 (zq11.u ([(List.set (List.set (List.replicate 2 0) 0 x0.2.2.2.1) 1 8)])).bind fun y5 =>
 k (y5, (0, (x0.2.1, (0, (0, (0, ()))))))
 else
 k (false, (0, (x0.2.1, (0, (0, (0, ()))))))
 else
 k (false, (0, (x0.2.1, (0, (0, (0, ()))))))
 else
 k (y1, (0, (x0.2.1, (x0.2.2.1, (x0.2.2.2.1, (0, ()))))))
def zq4o.u (x0 : T_s227) : Option (Bool × T_s227) := zq4o.s x0 some
noncomputable def zq4o.n : En CDEKP := mkE CDEKP_ok (es := [zq38.n, zq1j.n, zq11.n]) (ms := []) (fuel := ⟨1, fun _ => []⟩) 232 Tryz.f232 [.ai E_s227] .bool [E_s227] (fun x {Ω} k => zq4o.s x.1 k) (fun x Ω k => Le.of (by kernel_rfl)) (by kernel_rfl) (by kernel_rfl)
def zq3w.s (x0 : T_s227) (k : Int → Option Ω) : Option Ω :=
 (bif (decide (x0.1 < 1)) then some (true, ()) else some ((decide (x0.1 > 6)), ())).bind fun j1 =>
 bif j1.1 then
 k 12
 else
 (zq4o.u x0).bind fun y2 =>
 bif (!y2.1) then
 k 8
 else
 bif (!(eqI E_s227 y2.2 (0, (0, (0, (0, (0, ()))))))) then
 k 3
 else
 k 0
def zq3w.u (x0 : T_s227) : Option (Int) := zq3w.s x0 some
noncomputable def zq3w.n : En CDEKP := mkE CDEKP_ok (es := [zq4o.n]) (ms := []) (fuel := ⟨1, fun r => bif r == 2000001 then [5, 6, 7, 8, 9, 10, 11, 5012] else []⟩) 188 Tryz.f188 [.ai E_s227] (.int .i64) [] (fun x {Ω} k => zq3w.s x.1 k) (fun x Ω k => Le.of (by kernel_rfl)) (by kernel_rfl) (by kernel_rfl)
def zq2y.s (x0 : T_s227) (x1 : T_s227) (k : Bool → Option Ω) : Option Ω :=
 bif (x0.1 == x1.1) then
 bif (x0.2.1 == x1.2.1) then
 bif (x0.1 == 1) then
 k true
 else
 bif (x0.1 == 2) then
 k true
 else
 k (x0.1 == 3)
 else
 k false
 else
 k false
def zq2y.t (x0 : T_s227) (x1 : T_s227) : Bool :=
 bif (x0.1 == x1.1) then
 bif (x0.2.1 == x1.2.1) then
 bif (x0.1 == 1) then
 true
 else
 bif (x0.1 == 2) then
 true
 else
 (x0.1 == 3)
 else
 false
 else
 false
theorem zq2y.v (x0 : T_s227) (x1 : T_s227) (k : Bool → Option Ω) : zq2y.s x0 x1 k = k (zq2y.t x0 x1) := by
 delta zq2y.s zq2y.t; exact (cond_tot (cond_tot (cond_tot rfl (cond_tot rfl rfl)) rfl) rfl)
noncomputable def zq2y.n : En CDEKP := mkT CDEKP_ok (es := []) (ms := []) (fuel := ⟨1, fun _ => []⟩) 233 Tryz.f233 [.ai E_s227, .ai E_s227] .bool [] (fun x {Ω} k => zq2y.s x.1 x.2.1 k) (fun x => zq2y.t x.1 x.2.1) (fun x Ω k => by kernel_rfl) (fun x => zq2y.v x.1 x.2.1 some) (by kernel_rfl) (by kernel_rfl)
def zq0w.F (fuel : Nat) : Fuel := ⟨fuel, fun r => bif r == 4 then mL 0 32 4265607159 else bif r == 2000001 then [7, 8, 9, 10, 11, 12, 13, 14, 15, 16, 17, 18, 19, 20, 5021] else []⟩
noncomputable def zq0w.V (fuel c : Nat) (env : List AV) (L : Heap) (k : Kont Ω) : Option Ω := evCode CDEKP (spE (C := CDEKP) [zq2y.n] []) (zq0w.F fuel) (pCo c Tryz.f189) env L k
def zq0w.E0 (e4_1 : (List T_s227)) (e4_2 : Int) (e4_3 : T_s227) (s4 : Int) : List AV := (dZ 3 ((.ref 0 []) :: dZ 18 ((.v (.slice E_s227) (e4_1)) :: (.v (.int .i64) (e4_2)) :: (.v (.int .i64) (s4)) :: dZ 7 ([]))))
def zq0w.H0 (e4_1 : (List T_s227)) (e4_2 : Int) (e4_3 : T_s227) (s4 : Int) : Heap := [(.box E_s227 e4_3 false)]
noncomputable def zq0w.M0 (fuel : Nat) (e4_1 : (List T_s227)) (e4_2 : Int) (e4_3 : T_s227)  (k : AV → Option Ω) (m : Nat) (s : Int) : Option Ω := loopK (zq0w.V fuel 75) (mB 32 4265607159) [] 1 (blockK 0 (sqK (zq0w.V fuel 15) (finK CDEKP Tryz.f189 k))) m ((zq0w.E0 e4_1 e4_2 e4_3) s) ((zq0w.H0 e4_1 e4_2 e4_3) s)
def zq0w.b0 (e4_1 : (List T_s227)) (e4_2 : Int) (e4_3 : T_s227)   (k : Int → Option Ω) (r4 : Int → Option Ω) (s4 : Int) : Option Ω :=
 bif (decide (s4 < e4_2)) then
 bif (idxOK s4 (List.length e4_1)) then
 bif (zq2y.t ((List.getD e4_1 (Int.toNat s4) (0, (0, (0, (0, (0, ()))))))) e4_3) then
 k 7
 else
 r4 ((IntKind.wrap .i64 (s4 + 1)))
 else
 none
 else
 k 0
theorem zq0w.l0 (fuel : Nat) (e4_1 : (List T_s227)) (e4_2 : Int) (e4_3 : T_s227)  (k : AV → Option Ω) : ∀ m, (zq0w.M0 fuel e4_1 e4_2 e4_3  k m) = iter (zq0w.b0 e4_1 e4_2 e4_3  (fun r => k (tupAV (.int .i64) [] r))) m :=
 loopK_iter (envOf := (zq0w.E0 e4_1 e4_2 e4_3)) (LOf := (zq0w.H0 e4_1 e4_2 e4_3)) (B := zq0w.b0 e4_1 e4_2 e4_3  (fun r => k (tupAV (.int .i64) [] r))) (fun R s => by kernel_rfl)
def zq0w.sl (x0 : (List T_s227)) (x1 : T_s227) (lp0 : (List T_s227) → Int → T_s227 → Int → Option Ω) (k : Int → Option Ω) : Option Ω :=
 (bif (decide (((List.length x0 : Nat) : Int) > 0)) then (bif (idxOK (IntKind.wrap .i64 (((List.length x0 : Nat) : Int) - 1)) (List.length x0)) then (let v1 : Int := (List.getD x0 (Int.toNat (IntKind.wrap .i64 (((List.length x0 : Nat) : Int) - 1))) (0, (0, (0, (0, (0, ())))))).2.2.2.2.1; some ((decide (x1.2.2.2.2.1 ≤ v1)), ())) else none) else some (false, ())).bind fun j2 =>
 bif j2.1 then
 k 3
 else
 lp0 x0 (((List.length x0 : Nat) : Int)) x1 (0)
def zq0w.g0 (e4_1 : (List T_s227)) (e4_3 : T_s227)  (k : Int → Option Ω) : List T_s227 → Option Ω
 | [] =>
 k 0
 | x4 :: xs4 =>
 bif (zq2y.t (x4) e4_3) then
 k 7
 else
 zq0w.g0 e4_1 e4_3  k xs4
theorem zq0w.h0 (e4_1 : (List T_s227)) (e4_3 : T_s227)   (k : Int → Option Ω) (hX : ((List.length e4_1 : Nat) : Int) ≤ 9223372036854775807) : ∀ (m : Nat) (i : Int) (a : Unit), 0 ≤ i → i ≤ ((List.length e4_1 : Nat) : Int) → ((List.length e4_1 : Nat) : Int) < m + i → Le (zq0w.g0 e4_1 e4_3  k (List.drop (Int.toNat i) e4_1) ) (iter (zq0w.b0 e4_1 (((List.length e4_1 : Nat) : Int)) e4_3  k) m (i)) :=
 iter_list e4_1 (0, (0, (0, (0, (0, ()))))) (fun (i4 : Int) (a4 : Unit) => (i4)) (fun xs i4 a4 => zq0w.g0 e4_1 e4_3  k xs ) (zq0w.b0 e4_1 (((List.length e4_1 : Nat) : Int)) e4_3  k)
 (fun i4 a4 r h0 => (Le.fls h0 (Le.refl _)))
 (fun i4 xs4 a4 r h0 h1 hw ih => (Le.tru h0 (Le.tru h1 (Le.cond (Le.refl _) (ih _ hw ())))))
 hX
def zq0w.w (x0 : (List T_s227)) (x1 : T_s227) (k : Int → Option Ω) : Option Ω :=
 (bif (decide (((List.length x0 : Nat) : Int) > 0)) then (bif (idxOK (IntKind.wrap .i64 (((List.length x0 : Nat) : Int) - 1)) (List.length x0)) then (let v1 : Int := (List.getD x0 (Int.toNat (IntKind.wrap .i64 (((List.length x0 : Nat) : Int) - 1))) (0, (0, (0, (0, (0, ())))))).2.2.2.2.1; some ((decide (x1.2.2.2.2.1 ≤ v1)), ())) else none) else some (false, ())).bind fun j2 =>
 bif j2.1 then
 k 3
 else
 bif decide (((List.length x0 : Nat) : Int) ≤ 4611686018427387904) then zq0w.g0 x0 x1  k x0  else none
theorem zq0w.ev (fuel : Nat) (x0 : (List T_s227)) (x1 : T_s227) (k : AV → Option Ω) : evFn CDEKP (spE (C := CDEKP) [zq2y.n] []) (zq0w.F fuel) Tryz.f189 (Tryz.f189.body.getD .skip) [(.v (.slice E_s227) (x0)), (.v E_s227 (x1))] k = zq0w.sl x0 x1 (fun e4_1 e4_2 e4_3 => (zq0w.M0 fuel e4_1 e4_2 e4_3  k fuel)) (fun r => k (tupAV (.int .i64) [] r)) := by kernel_rfl
theorem zq0w.le (x0 : (List T_s227)) (x1 : T_s227) (k : AV → Option Ω) : Le (zq0w.w x0 x1 (fun r => k (tupAV (.int .i64) [] r))) (zq0w.sl x0 x1 (fun e4_1 e4_2 e4_3 => (zq0w.M0 BIG e4_1 e4_2 e4_3  k BIG)) (fun r => k (tupAV (.int .i64) [] r))) := by
 have h1 := funext fun (e4_1 : (List T_s227)) => funext fun (e4_2 : Int) => funext fun (e4_3 : T_s227) => zq0w.l0 BIG e4_1 e4_2 e4_3   k BIG
 rw [h1]
 delta zq0w.w zq0w.sl
 exact (Le.bnd fun j2 => (Le.cond (Le.refl _) (Le.gd fun hg => zq0w.h0 _ _   _ (le_up (of_decide_eq_true hg)) BIG 0 () (by decide) (zero_le_len _) (big_list (of_decide_eq_true hg)))))
def zq0w.u (x0 : (List T_s227)) (x1 : T_s227) : Option (Int) := zq0w.w x0 x1 some
noncomputable def zq0w.n : En CDEKP := mkE CDEKP_ok (es := [zq2y.n]) (ms := []) (fuel := (zq0w.F BIG)) 189 Tryz.f189 [.ai (.slice E_s227), .ai E_s227] (.int .i64) [] (fun x {Ω} k => zq0w.w x.1 x.2.1 k) (fun x Ω k => leV (zq0w.ev BIG x.1 x.2.1 k) (zq0w.le x.1 x.2.1 k)) (by kernel_rfl) (by kernel_rfl)
def zq1d.F (fuel : Nat) : Fuel := ⟨fuel, fun r => bif r == 6 then mL 0 36 68719247358 else bif r == 1010000 then [26, 27, 28, 29, 30, 3006] else []⟩
noncomputable def zq1d.V (fuel c : Nat) (env : List AV) (L : Heap) (k : Kont Ω) : Option Ω := evCode CDEKP (spE (C := CDEKP) [zq3w.n, zq0w.n] []) (zq1d.F fuel) (pCo c Tryz.f127) env L k
def zq1d.E0 (e6_1 : (List T_s227)) (e6_2 : Int) (s6 : Int) : List AV := ((.v (.slice E_s227) (e6_1)) :: dZ 14 ((.v (.slice E_s227) (e6_1)) :: (.v (.int .i64) (e6_2)) :: (.v (.int .i64) (s6)) :: dZ 18 ([])))
def zq1d.H0 (e6_1 : (List T_s227)) (e6_2 : Int) (s6 : Int) : Heap := []
noncomputable def zq1d.M0 (fuel : Nat) (e6_1 : (List T_s227)) (e6_2 : Int)  (k : AV → Option Ω) (m : Nat) (s : Int) : Option Ω := loopK (zq1d.V fuel 75) (mB 36 68719247358) [] 0 (blockK 1 (sqK (zq1d.V fuel 15) (finK CDEKP Tryz.f127 k))) m ((zq1d.E0 e6_1 e6_2) s) ((zq1d.H0 e6_1 e6_2) s)
def zq1d.b0 (e6_1 : (List T_s227)) (e6_2 : Int)   (k : Int × Int → Option Ω) (r6 : Int → Option Ω) (s6 : Int) : Option Ω :=
 bif (decide (s6 < e6_2)) then
 bif (idxOK s6 (List.length e6_1)) then
 (zq3w.u ((List.getD e6_1 (Int.toNat s6) (0, (0, (0, (0, (0, ())))))))).bind fun y1 =>
 (bif (y1 == 0) then (bif (subC none (some (s6)) (List.length e6_1)) then ((zq0w.u ((subL none (some (s6)) e6_1)) ((List.getD e6_1 (Int.toNat s6) (0, (0, (0, (0, (0, ())))))))).bind fun y2 => some (y2, ())) else none) else some (y1, ())).bind fun j3 =>
 bif (j3.1 != 0) then
 k (s6, j3.1)
 else
 r6 ((IntKind.wrap .i64 (s6 + 1)))
 else
 none
 else
 k (0, 0)
theorem zq1d.l0 (fuel : Nat) (e6_1 : (List T_s227)) (e6_2 : Int)  (k : AV → Option Ω) : ∀ m, (zq1d.M0 fuel e6_1 e6_2  k m) = iter (zq1d.b0 e6_1 e6_2  (fun r => k (tupAV (.int .i64) [(.int .i64)] r))) m :=
 loopK_iter (envOf := (zq1d.E0 e6_1 e6_2)) (LOf := (zq1d.H0 e6_1 e6_2)) (B := zq1d.b0 e6_1 e6_2  (fun r => k (tupAV (.int .i64) [(.int .i64)] r))) (fun R s => by kernel_rfl)
def zq1d.sl (x0 : (List T_s227)) (lp0 : (List T_s227) → Int → Int → Option Ω) (k : Int × Int → Option Ω) : Option Ω :=
 bif (((List.length x0 : Nat) : Int) == 0) then
 k (0, 11)
 else
 bif (decide (((List.length x0 : Nat) : Int) > 6)) then
 k (6, 5)
 else
 lp0 x0 (((List.length x0 : Nat) : Int)) (0)
def zq1d.g0 (e6_1 : (List T_s227))  (k : Int × Int → Option Ω) : List T_s227 → Int → Option Ω
 | [], i6 =>
 k (0, 0)
 | x6 :: xs6, i6 =>
 (zq3w.u (x6)).bind fun y1 =>
 (bif (y1 == 0) then (bif (subC none (some (i6)) (List.length e6_1)) then ((zq0w.u ((subL none (some (i6)) e6_1)) (x6)).bind fun y2 => some (y2, ())) else none) else some (y1, ())).bind fun j3 =>
 bif (j3.1 != 0) then
 k (i6, j3.1)
 else
 zq1d.g0 e6_1  k xs6 (i6 + 1)
theorem zq1d.h0 (e6_1 : (List T_s227))   (k : Int × Int → Option Ω) (hX : ((List.length e6_1 : Nat) : Int) ≤ 9223372036854775807) : ∀ (m : Nat) (i : Int) (a : Unit), 0 ≤ i → i ≤ ((List.length e6_1 : Nat) : Int) → ((List.length e6_1 : Nat) : Int) < m + i → Le (zq1d.g0 e6_1  k (List.drop (Int.toNat i) e6_1) i) (iter (zq1d.b0 e6_1 (((List.length e6_1 : Nat) : Int))  k) m (i)) :=
 iter_list e6_1 (0, (0, (0, (0, (0, ()))))) (fun (i6 : Int) (a6 : Unit) => (i6)) (fun xs i6 a6 => zq1d.g0 e6_1  k xs i6) (zq1d.b0 e6_1 (((List.length e6_1 : Nat) : Int))  k)
 (fun i6 a6 r h0 => (Le.fls h0 (Le.refl _)))
 (fun i6 xs6 a6 r h0 h1 hw ih => (Le.tru h0 (Le.tru h1 (Le.bnd fun y1 => (Le.bnd fun j3 => (Le.cond (Le.refl _) (ih _ hw ())))))))
 hX
def zq1d.w (x0 : (List T_s227)) (k : Int × Int → Option Ω) : Option Ω :=
 bif (((List.length x0 : Nat) : Int) == 0) then
 k (0, 11)
 else
 bif (decide (((List.length x0 : Nat) : Int) > 6)) then
 k (6, 5)
 else
 bif decide (((List.length x0 : Nat) : Int) ≤ 4611686018427387904) then zq1d.g0 x0  k x0 0 else none
theorem zq1d.ev (fuel : Nat) (x0 : (List T_s227)) (k : AV → Option Ω) : evFn CDEKP (spE (C := CDEKP) [zq3w.n, zq0w.n] []) (zq1d.F fuel) Tryz.f127 (Tryz.f127.body.getD .skip) [(.v (.slice E_s227) (x0))] k = zq1d.sl x0 (fun e6_1 e6_2 => (zq1d.M0 fuel e6_1 e6_2  k fuel)) (fun r => k (tupAV (.int .i64) [(.int .i64)] r)) := by kernel_rfl
theorem zq1d.le (x0 : (List T_s227)) (k : AV → Option Ω) : Le (zq1d.w x0 (fun r => k (tupAV (.int .i64) [(.int .i64)] r))) (zq1d.sl x0 (fun e6_1 e6_2 => (zq1d.M0 BIG e6_1 e6_2  k BIG)) (fun r => k (tupAV (.int .i64) [(.int .i64)] r))) := by
 have h1 := funext fun (e6_1 : (List T_s227)) => funext fun (e6_2 : Int) => zq1d.l0 BIG e6_1 e6_2   k BIG
 rw [h1]
 delta zq1d.w zq1d.sl
 exact (Le.cond (Le.refl _) (Le.cond (Le.refl _) (Le.gd fun hg => zq1d.h0 _   _ (le_up (of_decide_eq_true hg)) BIG 0 () (by decide) (zero_le_len _) (big_list (of_decide_eq_true hg)))))
def zq1d.u (x0 : (List T_s227)) : Option (Int × Int) := zq1d.w x0 some
noncomputable def zq1d.n : En CDEKP := mkE CDEKP_ok (es := [zq3w.n, zq0w.n]) (ms := []) (fuel := (zq1d.F BIG)) 127 Tryz.f127 [.ai (.slice E_s227)] (.int .i64) [(.int .i64)] (fun x {Ω} k => zq1d.w x.1 k) (fun x Ω k => leV (zq1d.ev BIG x.1 k) (zq1d.le x.1 k)) (by kernel_rfl) (by kernel_rfl)
def zq50.s (x0 : Int) (k : ByteArray → Option Ω) : Option Ω :=
 (zq37.u x0).bind fun y1 =>
 k y1.1
noncomputable def zq50.n : En CDEKP := mkE CDEKP_ok (es := [zq37.n]) (ms := []) (fuel := ⟨1, fun _ => []⟩) 254 Tryz.f254 [.ai (.int .i64)] .str [] (fun x {Ω} k => zq50.s x.1 k) (fun x Ω k => Le.of (by kernel_rfl)) (by kernel_rfl) (by kernel_rfl)
noncomputable def zq2f.n : En CDEKP := En.of (g := 148) (e := fun {_} => zq2f.e) (zq2f.e_ok.mono le_C_CDEKP)
def zq40.s (x0 : T_s70) (k : Bool → Option Ω) : Option Ω :=
 bif (x0.2.2.1 == 0) then
 let v1 : Bool := (eqI E_s67 x0.2.2.2.1 (0, (false, ((List.replicate 8 0), ((List.replicate 16 0), (0, ((List.replicate 8 0), ())))))))
 bif v1 then
 bif (x0.2.2.2.2.1 == 0) then
 bif (x0.2.2.2.2.2.1 == 0) then
 bif (x0.2.2.2.2.2.2.1 == 0) then
 k (((List.length x0.2.2.2.2.2.2.2.1 : Nat) : Int) == 0)
 else
 k false
 else
 k false
 else
 k false
 else
 k false
 else
 k false
def zq40.t (x0 : T_s70) : Bool :=
 bif (x0.2.2.1 == 0) then
 let v1 : Bool := (eqI E_s67 x0.2.2.2.1 (0, (false, ((List.replicate 8 0), ((List.replicate 16 0), (0, ((List.replicate 8 0), ())))))))
 bif v1 then
 bif (x0.2.2.2.2.1 == 0) then
 bif (x0.2.2.2.2.2.1 == 0) then
 bif (x0.2.2.2.2.2.2.1 == 0) then
 (((List.length x0.2.2.2.2.2.2.2.1 : Nat) : Int) == 0)
 else
 false
 else
 false
 else
 false
 else
 false
 else
 false
theorem zq40.v (x0 : T_s70) (k : Bool → Option Ω) : zq40.s x0 k = k (zq40.t x0) := by
 delta zq40.s zq40.t; exact (cond_tot (cond_tot (cond_tot (cond_tot (cond_tot rfl rfl) rfl) rfl) rfl) rfl)
noncomputable def zq40.n : En CDEKP := mkT CDEKP_ok (es := []) (ms := []) (fuel := ⟨1, fun _ => []⟩) 218 Tryz.f218 [.ai E_s70] .bool [] (fun x {Ω} k => zq40.s x.1 k) (fun x => zq40.t x.1) (fun x Ω k => by kernel_rfl) (fun x => zq40.v x.1 some) (by kernel_rfl) (by kernel_rfl)
def zq3t.s (x0 : T_s70) (k : Bool → Option Ω) : Option Ω :=
 (bif (decide (x0.1 < 0)) then some (true, ()) else some ((decide (x0.1 > 65535)), ())).bind fun j1 =>
 bif j1.1 then
 k false
 else
 bif (!x0.2.1) then
 k (zq40.t x0)
 else
 bif (decide (x0.1 > 0)) then
 bif (decide (x0.2.2.2.2.1 ≥ 0)) then
 bif (decide (x0.2.2.2.2.1 ≤ 3)) then
 (zq3s.u x0.2.2.2.1).bind fun y2 =>
 bif y2 then
 let v3 : Bool := (eqI .bool (x0.2.2.2.2.1 == 1) (decide (((List.length x0.2.2.2.2.2.2.2.1 : Nat) : Int) > 0)))
 k v3
 else
 k false
 else
 k false
 else
 k false
 else
 k false
def zq3t.u (x0 : T_s70) : Option (Bool) := zq3t.s x0 some
noncomputable def zq3t.n : En CDEKP := mkE CDEKP_ok (es := [zq3s.n, zq40.n]) (ms := []) (fuel := ⟨1, fun r => bif r == 2000001 then [3, 4, 5, 6, 7, 8, 9, 5010] else []⟩) 174 Tryz.f174 [.ai E_s70] .bool [] (fun x {Ω} k => zq3t.s x.1 k) (fun x Ω k => Le.of (by kernel_rfl)) (by kernel_rfl) (by kernel_rfl)
def zq0s.F (fuel : Nat) : Fuel := ⟨fuel, fun r => bif r == 2 then mL 0 18 261918 else []⟩
noncomputable def zq0s.V (fuel c : Nat) (env : List AV) (L : Heap) (k : Kont Ω) : Option Ω := evCode CDEKP (spE (C := CDEKP) [zq3t.n] []) (zq0s.F fuel) (pCo c Tryz.f95) env L k
def zq0s.E0 (e2_1 : (List T_s70)) (e2_2 : Int) (s2 : Int) : List AV := ((.v (.slice E_s70) (e2_1)) :: dZ 4 ((.v (.slice E_s70) (e2_1)) :: (.v (.int .i64) (e2_2)) :: (.v (.int .i64) (s2)) :: dZ 10 ([])))
def zq0s.H0 (e2_1 : (List T_s70)) (e2_2 : Int) (s2 : Int) : Heap := []
noncomputable def zq0s.M0 (fuel : Nat) (e2_1 : (List T_s70)) (e2_2 : Int)  (k : AV → Option Ω) (m : Nat) (s : Int) : Option Ω := loopK (zq0s.V fuel 37) (mB 18 261918) [] 0 (blockK 0 (sqK (zq0s.V fuel 7) (finK CDEKP Tryz.f95 k))) m ((zq0s.E0 e2_1 e2_2) s) ((zq0s.H0 e2_1 e2_2) s)
def zq0s.b0 (e2_1 : (List T_s70)) (e2_2 : Int)   (k : Bool → Option Ω) (r2 : Int → Option Ω) (s2 : Int) : Option Ω :=
 bif (decide (s2 < e2_2)) then
 bif (idxOK s2 (List.length e2_1)) then
 let v1 : T_s70 := (List.getD e2_1 (Int.toNat s2) (0, (false, (0, ((0, (false, ((List.replicate 8 0), ((List.replicate 16 0), (0, ((List.replicate 8 0), ())))))), (0, (0, (0, ([], ())))))))))
 (zq3t.u v1).bind fun y2 =>
 bif (!y2) then
 k false
 else
 r2 ((IntKind.wrap .i64 (s2 + 1)))
 else
 none
 else
 k (((List.length e2_1 : Nat) : Int) == 16)
theorem zq0s.l0 (fuel : Nat) (e2_1 : (List T_s70)) (e2_2 : Int)  (k : AV → Option Ω) : ∀ m, (zq0s.M0 fuel e2_1 e2_2  k m) = iter (zq0s.b0 e2_1 e2_2  (fun r => k (tupAV .bool [] r))) m :=
 loopK_iter (envOf := (zq0s.E0 e2_1 e2_2)) (LOf := (zq0s.H0 e2_1 e2_2)) (B := zq0s.b0 e2_1 e2_2  (fun r => k (tupAV .bool [] r))) (fun R s => by kernel_rfl)
def zq0s.sl (x0 : (List T_s70)) (lp0 : (List T_s70) → Int → Int → Option Ω) (k : Bool → Option Ω) : Option Ω :=
 lp0 x0 (((List.length x0 : Nat) : Int)) (0)
def zq0s.g0 (e2_1 : (List T_s70))  (k : Bool → Option Ω) : List T_s70 → Option Ω
 | [] =>
 k (((List.length e2_1 : Nat) : Int) == 16)
 | x2 :: xs2 =>
 let v1 : T_s70 := x2
 (zq3t.u v1).bind fun y2 =>
 bif (!y2) then
 k false
 else
 zq0s.g0 e2_1  k xs2
theorem zq0s.h0 (e2_1 : (List T_s70))   (k : Bool → Option Ω) (hX : ((List.length e2_1 : Nat) : Int) ≤ 9223372036854775807) : ∀ (m : Nat) (i : Int) (a : Unit), 0 ≤ i → i ≤ ((List.length e2_1 : Nat) : Int) → ((List.length e2_1 : Nat) : Int) < m + i → Le (zq0s.g0 e2_1  k (List.drop (Int.toNat i) e2_1) ) (iter (zq0s.b0 e2_1 (((List.length e2_1 : Nat) : Int))  k) m (i)) :=
 iter_list e2_1 (0, (false, (0, ((0, (false, ((List.replicate 8 0), ((List.replicate 16 0), (0, ((List.replicate 8 0), ())))))), (0, (0, (0, ([], ())))))))) (fun (i2 : Int) (a2 : Unit) => (i2)) (fun xs i2 a2 => zq0s.g0 e2_1  k xs ) (zq0s.b0 e2_1 (((List.length e2_1 : Nat) : Int))  k)
 (fun i2 a2 r h0 => (Le.fls h0 (Le.refl _)))
 (fun i2 xs2 a2 r h0 h1 hw ih => (Le.tru h0 (Le.tru h1 (let v1 : T_s70 := (List.getD e2_1 (Int.toNat i2) (0, (false, (0, ((0, (false, ((List.replicate 8 0), ((List.replicate 16 0), (0, ((List.replicate 8 0), ())))))), (0, (0, (0, ([], ()))))))))); (Le.bnd fun y2 => (Le.cond (Le.refl _) (ih _ hw ())))))))
 hX
def zq0s.w (x0 : (List T_s70)) (k : Bool → Option Ω) : Option Ω :=
 bif decide (((List.length x0 : Nat) : Int) ≤ 4611686018427387904) then zq0s.g0 x0  k x0  else none
theorem zq0s.ev (fuel : Nat) (x0 : (List T_s70)) (k : AV → Option Ω) : evFn CDEKP (spE (C := CDEKP) [zq3t.n] []) (zq0s.F fuel) Tryz.f95 (Tryz.f95.body.getD .skip) [(.v (.slice E_s70) (x0))] k = zq0s.sl x0 (fun e2_1 e2_2 => (zq0s.M0 fuel e2_1 e2_2  k fuel)) (fun r => k (tupAV .bool [] r)) := by kernel_rfl
theorem zq0s.le (x0 : (List T_s70)) (k : AV → Option Ω) : Le (zq0s.w x0 (fun r => k (tupAV .bool [] r))) (zq0s.sl x0 (fun e2_1 e2_2 => (zq0s.M0 BIG e2_1 e2_2  k BIG)) (fun r => k (tupAV .bool [] r))) := by
 have h1 := funext fun (e2_1 : (List T_s70)) => funext fun (e2_2 : Int) => zq0s.l0 BIG e2_1 e2_2   k BIG
 rw [h1]
 delta zq0s.w zq0s.sl
 exact (Le.gd fun hg => zq0s.h0 _   _ (le_up (of_decide_eq_true hg)) BIG 0 () (by decide) (zero_le_len _) (big_list (of_decide_eq_true hg)))
def zq0s.u (x0 : (List T_s70)) : Option (Bool) := zq0s.w x0 some
noncomputable def zq0s.n : En CDEKP := mkE CDEKP_ok (es := [zq3t.n]) (ms := []) (fuel := (zq0s.F BIG)) 95 Tryz.f95 [.ai (.slice E_s70)] .bool [] (fun x {Ω} k => zq0s.w x.1 k) (fun x Ω k => leV (zq0s.ev BIG x.1 k) (zq0s.le x.1 k)) (by kernel_rfl) (by kernel_rfl)
def zq3g.s (x0 : T_s70) (x1 : Int) (k : Bool → Option Ω) : Option Ω :=
 k (x0.2.2.2.2.1 == x1)
def zq3g.t (x0 : T_s70) (x1 : Int) : Bool :=
 (x0.2.2.2.2.1 == x1)
theorem zq3g.v (x0 : T_s70) (x1 : Int) (k : Bool → Option Ω) : zq3g.s x0 x1 k = k (zq3g.t x0 x1) := by
 delta zq3g.s zq3g.t; exact rfl
noncomputable def zq3g.n : En CDEKP := mkT CDEKP_ok (es := []) (ms := []) (fuel := ⟨1, fun _ => []⟩) 90 Tryz.f90 [.ai E_s70, .ap (.int .i64)] .bool [] (fun x {Ω} k => zq3g.s x.1 x.2.1 k) (fun x => zq3g.t x.1 x.2.1) (fun x Ω k => by kernel_rfl) (fun x => zq3g.v x.1 x.2.1 some) (by kernel_rfl) (by kernel_rfl)
def zq0k.F (fuel : Nat) : Fuel := ⟨fuel, fun r => bif r == 5 then mL 0 31 2147469277 else bif r == 2000007 then [18, 19, 20, 21, 22, 23, 5024] else []⟩
noncomputable def zq0k.V (fuel c : Nat) (env : List AV) (L : Heap) (k : Kont Ω) : Option Ω := evCode CDEKP (spE (C := CDEKP) [zq3g.n, zq0s.n] []) (zq0k.F fuel) (pCo c Tryz.f89) env L k
def zq0k.E0 (e5_1 : Int) (e5_2 : (List T_s70)) (e5_3 : Int) (s5 : Int × (List Int)) : List AV := (dZ 1 ((.fn 90 [(.vp (.int .i64) e5_1 [])]) :: dZ 3 ((.rs 1) :: dZ 5 ((.v (.slice E_s70) (e5_2)) :: (.v (.int .i64) (e5_3)) :: (.v (.int .i64) (s5.1)) :: dZ 17 ([])))))
def zq0k.H0 (e5_1 : Int) (e5_2 : (List T_s70)) (e5_3 : Int) (s5 : Int × (List Int)) : Heap := [(.row 3 (.int .i64) [] false), (.row 3 (.int .i64) s5.2 false)]
noncomputable def zq0k.M0 (fuel : Nat) (e5_1 : Int) (e5_2 : (List T_s70)) (e5_3 : Int)  (k : AV → Option Ω) (m : Nat) (s : Int × (List Int)) : Option Ω := loopK (zq0k.V fuel 151) (mB 31 2147469277) [] 2 (blockK 0 (sqK (zq0k.V fuel 31) (finK CDEKP Tryz.f89 k))) m ((zq0k.E0 e5_1 e5_2 e5_3) s) ((zq0k.H0 e5_1 e5_2 e5_3) s)
def zq0k.b0 (e5_1 : Int) (e5_2 : (List T_s70)) (e5_3 : Int)   (k : (List Int) → Option Ω) (r5 : Int × (List Int) → Option Ω) (s5 : Int × (List Int)) : Option Ω :=
 bif (decide (s5.1 < e5_3)) then
 bif (idxOK s5.1 (List.length e5_2)) then
 let v2 : T_s70 := (List.getD e5_2 (Int.toNat s5.1) (0, (false, (0, ((0, (false, ((List.replicate 8 0), ((List.replicate 16 0), (0, ((List.replicate 8 0), ())))))), (0, (0, (0, ([], ())))))))))
 (bif v2.2.1 then some ((zq3g.t v2 e5_1), ()) else some (false, ())).bind fun j3 =>
 bif j3.1 then
 bif (decide (List.length s5.2 + List.length [s5.1] ≤ rowMax)) then
 r5 ((IntKind.wrap .i64 (s5.1 + 1)), (s5.2 ++ [s5.1]))
 else
 none
 else
 r5 ((IntKind.wrap .i64 (s5.1 + 1)), s5.2)
 else
 none
 else
 k s5.2
theorem zq0k.l0 (fuel : Nat) (e5_1 : Int) (e5_2 : (List T_s70)) (e5_3 : Int)  (k : AV → Option Ω) : ∀ m, (zq0k.M0 fuel e5_1 e5_2 e5_3  k m) = iter (zq0k.b0 e5_1 e5_2 e5_3  (fun r => k (tupAV (.slice (.int .i64)) [] r))) m :=
 loopK_iter (envOf := (zq0k.E0 e5_1 e5_2 e5_3)) (LOf := (zq0k.H0 e5_1 e5_2 e5_3)) (B := zq0k.b0 e5_1 e5_2 e5_3  (fun r => k (tupAV (.slice (.int .i64)) [] r))) (fun R s => by kernel_rfl)
def zq0k.sl (x0 : (List T_s70)) (c1_0 : Int) (lp0 : Int → (List T_s70) → Int → Int × (List Int) → Option Ω) (k : (List Int) → Option Ω) : Option Ω :=
 (zq0s.u x0).bind fun y1 =>
 bif (!y1) then
 k []
 else
 lp0 c1_0 x0 (((List.length x0 : Nat) : Int)) (0, [])
def zq0k.g0 (e5_1 : Int) (e5_2 : (List T_s70))  (k : (List Int) → Option Ω) : List T_s70 → Int → (List Int) → Option Ω
 | [], i5, a5_1 =>
 k a5_1
 | x5 :: xs5, i5, a5_1 =>
 let v2 : T_s70 := x5
 (bif v2.2.1 then some ((zq3g.t v2 e5_1), ()) else some (false, ())).bind fun j3 =>
 bif j3.1 then
 bif (decide (List.length a5_1 + List.length [i5] ≤ rowMax)) then
 zq0k.g0 e5_1 e5_2  k xs5 (i5 + 1) (a5_1 ++ [i5])
 else
 none
 else
 zq0k.g0 e5_1 e5_2  k xs5 (i5 + 1) a5_1
theorem zq0k.h0 (e5_1 : Int) (e5_2 : (List T_s70))   (k : (List Int) → Option Ω) (hX : ((List.length e5_2 : Nat) : Int) ≤ 9223372036854775807) : ∀ (m : Nat) (i : Int) (a : (List Int)), 0 ≤ i → i ≤ ((List.length e5_2 : Nat) : Int) → ((List.length e5_2 : Nat) : Int) < m + i → Le (zq0k.g0 e5_1 e5_2  k (List.drop (Int.toNat i) e5_2) i a) (iter (zq0k.b0 e5_1 e5_2 (((List.length e5_2 : Nat) : Int))  k) m (i, a)) :=
 iter_list e5_2 (0, (false, (0, ((0, (false, ((List.replicate 8 0), ((List.replicate 16 0), (0, ((List.replicate 8 0), ())))))), (0, (0, (0, ([], ())))))))) (fun (i5 : Int) (a5 : (List Int)) => (i5, a5)) (fun xs i5 a5 => zq0k.g0 e5_1 e5_2  k xs i5 a5) (zq0k.b0 e5_1 e5_2 (((List.length e5_2 : Nat) : Int))  k)
 (fun i5 a5 r h0 => (Le.fls h0 (Le.refl _)))
 (fun i5 xs5 a5 r h0 h1 hw ih => (Le.tru h0 (Le.tru h1 (let v2 : T_s70 := (List.getD e5_2 (Int.toNat i5) (0, (false, (0, ((0, (false, ((List.replicate 8 0), ((List.replicate 16 0), (0, ((List.replicate 8 0), ())))))), (0, (0, (0, ([], ()))))))))); (Le.bnd fun j3 => (Le.cond (Le.cond (ih _ hw ((a5 ++ [i5]))) Le.nil) (ih _ hw (a5))))))))
 hX
def zq0k.w (x0 : (List T_s70)) (c1_0 : Int) (k : (List Int) → Option Ω) : Option Ω :=
 (zq0s.u x0).bind fun y1 =>
 bif (!y1) then
 k []
 else
 bif decide (((List.length x0 : Nat) : Int) ≤ 4611686018427387904) then zq0k.g0 c1_0 x0  k x0 0 ([]) else none
theorem zq0k.ev (fuel : Nat) (x0 : (List T_s70)) (c1_0 : Int) (k : AV → Option Ω) : evFn CDEKP (spE (C := CDEKP) [zq3g.n, zq0s.n] []) (zq0k.F fuel) Tryz.f89 (Tryz.f89.body.getD .skip) [(.v (.slice E_s70) (x0)), (.fn 90 [(.vp (.int .i64) c1_0 [])])] k = zq0k.sl x0 c1_0 (fun e5_1 e5_2 e5_3 => (zq0k.M0 fuel e5_1 e5_2 e5_3  k fuel)) (fun r => k (tupAV (.slice (.int .i64)) [] r)) := by kernel_rfl
theorem zq0k.le (x0 : (List T_s70)) (c1_0 : Int) (k : AV → Option Ω) : Le (zq0k.w x0 c1_0 (fun r => k (tupAV (.slice (.int .i64)) [] r))) (zq0k.sl x0 c1_0 (fun e5_1 e5_2 e5_3 => (zq0k.M0 BIG e5_1 e5_2 e5_3  k BIG)) (fun r => k (tupAV (.slice (.int .i64)) [] r))) := by
 have h1 := funext fun (e5_1 : Int) => funext fun (e5_2 : (List T_s70)) => funext fun (e5_3 : Int) => zq0k.l0 BIG e5_1 e5_2 e5_3   k BIG
 rw [h1]
 delta zq0k.w zq0k.sl
 exact (Le.bnd fun y1 => (Le.cond (Le.refl _) (Le.gd fun hg => zq0k.h0 _ _   _ (le_up (of_decide_eq_true hg)) BIG 0 ([]) (by decide) (zero_le_len _) (big_list (of_decide_eq_true hg)))))
def zq0k.u (x0 : (List T_s70)) (c1_0 : Int) : Option ((List Int)) := zq0k.w x0 c1_0 some
noncomputable def zq0k.n : En CDEKP := mkE CDEKP_ok (es := [zq3g.n, zq0s.n]) (ms := []) (fuel := (zq0k.F BIG)) 89 Tryz.f89 [.ai (.slice E_s70), .af1 90 (.int .i64)] (.slice (.int .i64)) [] (fun x {Ω} k => zq0k.w x.1 x.2.1 k) (fun x Ω k => leV (zq0k.ev BIG x.1 x.2.1 k) (zq0k.le x.1 x.2.1 k)) (by kernel_rfl) (by kernel_rfl)
def zq27.s (x0 : (List T_s70)) (x1 : Int) (k : (List Int) → Option Ω) : Option Ω :=
 (zq0k.u x0 x1).bind fun y1 =>
 k y1
def zq27.u (x0 : (List T_s70)) (x1 : Int) : Option ((List Int)) := zq27.s x0 x1 some
noncomputable def zq27.n : En CDEKP := mkE CDEKP_ok (es := [zq0k.n]) (ms := []) (fuel := ⟨1, fun _ => []⟩) 20 Tryz.f20 [.ai (.slice E_s70), .ai (.int .i64)] (.slice (.int .i64)) [] (fun x {Ω} k => zq27.s x.1 x.2.1 k) (fun x Ω k => Le.of (by kernel_rfl)) (by kernel_rfl) (by kernel_rfl)
def zq4i.s  (k : (List T_s70) → Option Ω) : Option Ω :=
 bif (decide ((16 : Int) = (16 : Int)) && decide ((0 : Int) ≤ (16 : Int)) && decide ((16 : Int) ≤ (2147483648 : Int))) then
 k (List.replicate (Int.toNat (16 : Int)) (0, (false, (0, ((0, (false, ((List.replicate 8 0), ((List.replicate 16 0), (0, ((List.replicate 8 0), ())))))), (0, (0, (0, ([], ())))))))))
 else
 none
def zq4i.u  : Option ((List T_s70)) := zq4i.s  some
noncomputable def zq4i.n : En CDEKP := mkE CDEKP_ok (es := []) (ms := []) (fuel := ⟨1, fun _ => []⟩) 23 Tryz.f23 [] (.slice E_s70) [] (fun x {Ω} k => zq4i.s  k) (fun x Ω k => Le.of (by kernel_rfl)) (by kernel_rfl) (by kernel_rfl)
def zq3u.s (x0 : (List T_s70)) (x1 : Int) (x2 : T_s70) (k : (List T_s70) → Option Ω) : Option Ω :=
 bif (decide (((List.length x0 : Nat) : Int) = ((List.length x0 : Nat) : Int)) && decide ((0 : Int) ≤ ((List.length x0 : Nat) : Int)) && decide (((List.length x0 : Nat) : Int) ≤ (2147483648 : Int))) then
 bif (idxOK x1 (List.length (copyL (List.replicate (Int.toNat ((List.length x0 : Nat) : Int)) (0, (false, (0, ((0, (false, ((List.replicate 8 0), ((List.replicate 16 0), (0, ((List.replicate 8 0), ())))))), (0, (0, (0, ([], ()))))))))) x0))) then
 k (List.set (copyL (List.replicate (Int.toNat ((List.length x0 : Nat) : Int)) (0, (false, (0, ((0, (false, ((List.replicate 8 0), ((List.replicate 16 0), (0, ((List.replicate 8 0), ())))))), (0, (0, (0, ([], ()))))))))) x0) (Int.toNat x1) x2)
 else
 none
 else
 none
def zq3u.u (x0 : (List T_s70)) (x1 : Int) (x2 : T_s70) : Option ((List T_s70)) := zq3u.s x0 x1 x2 some
noncomputable def zq3u.n : En CDEKP := mkE CDEKP_ok (es := []) (ms := []) (fuel := ⟨1, fun _ => []⟩) 99 Tryz.f99 [.ai (.slice E_s70), .ai (.int .i64), .ai E_s70] (.slice E_s70) [] (fun x {Ω} k => zq3u.s x.1 x.2.1 x.2.2.1 k) (fun x Ω k => Le.of (by kernel_rfl)) (by kernel_rfl) (by kernel_rfl)
def zq0x.F (fuel : Nat) : Fuel := ⟨fuel, fun r => bif r == 6 then mL 0 68 295147905179235385336 else bif r == 2000008 then [31, 32, 33, 34, 35, 36, 5037] else []⟩
noncomputable def zq0x.V (fuel c : Nat) (env : List AV) (L : Heap) (k : Kont Ω) : Option Ω := evCode CDEKP (spE (C := CDEKP) [zq0s.n, zq1j.n, zq2v.n, zq23.n, zq3u.n] []) (zq0x.F fuel) (pCo c Tryz.f26) env L k
def zq0x.E0 (e6_1 : (List T_s70)) (e6_2 : Int) (e6_3 : Int) (e6_4 : Int) (s6 : Int) : List AV := ((.v (.slice E_s70) (e6_1)) :: (.v (.int .i64) (e6_2)) :: (.v (.int .i64) (e6_3)) :: dZ 21 ((.v (.slice E_s70) (e6_1)) :: (.v (.int .i64) (e6_4)) :: (.v (.int .i64) (s6)) :: dZ 41 ([])))
def zq0x.H0 (e6_1 : (List T_s70)) (e6_2 : Int) (e6_3 : Int) (e6_4 : Int) (s6 : Int) : Heap := [(.row 71 E_s70 [] false)]
noncomputable def zq0x.M0 (fuel : Nat) (e6_1 : (List T_s70)) (e6_2 : Int) (e6_3 : Int) (e6_4 : Int)  (k : AV → Option Ω) (m : Nat) (s : Int) : Option Ω := loopK (zq0x.V fuel 75) (mB 68 295147905179235385336) [] 1 (blockK 1 (sqK (zq0x.V fuel 15) (finK CDEKP Tryz.f26 k))) m ((zq0x.E0 e6_1 e6_2 e6_3 e6_4) s) ((zq0x.H0 e6_1 e6_2 e6_3 e6_4) s)
def zq0x.b0 (e6_1 : (List T_s70)) (e6_2 : Int) (e6_3 : Int) (e6_4 : Int)   (k : (List T_s70) × Int × Int → Option Ω) (r6 : Int → Option Ω) (s6 : Int) : Option Ω :=
 bif (decide (s6 < e6_4)) then
 bif (idxOK s6 (List.length e6_1)) then
 let v2 : T_s70 := (List.getD e6_1 (Int.toNat s6) (0, (false, (0, ((0, (false, ((List.replicate 8 0), ((List.replicate 16 0), (0, ((List.replicate 8 0), ())))))), (0, (0, (0, ([], ())))))))))
 (bif v2.2.1 then some (true, ()) else some ((v2.1 == 65535), ())).bind fun j3 =>
 bif j3.1 then
 r6 ((IntKind.wrap .i64 (s6 + 1)))
 else
 let v4 : T_s67 × Int := (zq2v.t e6_3)
 bif (v4.2 != 0) then
 k (e6_1, 0, v4.2)
 else
 let v5 : Int × Int := (zq23.t s6 ((IntKind.wrap .i64 (v2.1 + 1))))
 (zq3u.u e6_1 s6 (((IntKind.wrap .i64 (v2.1 + 1)), (true, (e6_2, (v4.1, (0, (0, (0, ([], ())))))))))).bind fun y6 =>
 k (y6, v5.1, v5.2)
 else
 none
 else
 k (e6_1, 0, 10)
theorem zq0x.l0 (fuel : Nat) (e6_1 : (List T_s70)) (e6_2 : Int) (e6_3 : Int) (e6_4 : Int)  (k : AV → Option Ω) : ∀ m, (zq0x.M0 fuel e6_1 e6_2 e6_3 e6_4  k m) = iter (zq0x.b0 e6_1 e6_2 e6_3 e6_4  (fun r => k (tupAV (.slice E_s70) [(.int .i64), (.int .i64)] r))) m :=
 loopK_iter (envOf := (zq0x.E0 e6_1 e6_2 e6_3 e6_4)) (LOf := (zq0x.H0 e6_1 e6_2 e6_3 e6_4)) (B := zq0x.b0 e6_1 e6_2 e6_3 e6_4  (fun r => k (tupAV (.slice E_s70) [(.int .i64), (.int .i64)] r))) (fun R s => by kernel_rfl)
def zq0x.sl (x0 : (List T_s70)) (x1 : Int) (x2 : Int) (lp0 : (List T_s70) → Int → Int → Int → Int → Option Ω) (k : (List T_s70) × Int × Int → Option Ω) : Option Ω :=
 (zq0s.u x0).bind fun y1 =>
 bif (!y1) then
 k (x0, 0, 1)
 else
 bif (!(zq1j.t x2)) then
 k (x0, 0, 8)
 else
 lp0 x0 x1 x2 (((List.length x0 : Nat) : Int)) (0)
def zq0x.g0 (e6_1 : (List T_s70)) (e6_2 : Int) (e6_3 : Int)  (k : (List T_s70) × Int × Int → Option Ω) : List T_s70 → Int → Option Ω
 | [], i6 =>
 k (e6_1, 0, 10)
 | x6 :: xs6, i6 =>
 let v2 : T_s70 := x6
 (bif v2.2.1 then some (true, ()) else some ((v2.1 == 65535), ())).bind fun j3 =>
 bif j3.1 then
 zq0x.g0 e6_1 e6_2 e6_3  k xs6 (i6 + 1)
 else
 let v4 : T_s67 × Int := (zq2v.t e6_3)
 bif (v4.2 != 0) then
 k (e6_1, 0, v4.2)
 else
 let v5 : Int × Int := (zq23.t i6 ((IntKind.wrap .i64 (v2.1 + 1))))
 (zq3u.u e6_1 i6 (((IntKind.wrap .i64 (v2.1 + 1)), (true, (e6_2, (v4.1, (0, (0, (0, ([], ())))))))))).bind fun y6 =>
 k (y6, v5.1, v5.2)
theorem zq0x.h0 (e6_1 : (List T_s70)) (e6_2 : Int) (e6_3 : Int)   (k : (List T_s70) × Int × Int → Option Ω) (hX : ((List.length e6_1 : Nat) : Int) ≤ 9223372036854775807) : ∀ (m : Nat) (i : Int) (a : Unit), 0 ≤ i → i ≤ ((List.length e6_1 : Nat) : Int) → ((List.length e6_1 : Nat) : Int) < m + i → Le (zq0x.g0 e6_1 e6_2 e6_3  k (List.drop (Int.toNat i) e6_1) i) (iter (zq0x.b0 e6_1 e6_2 e6_3 (((List.length e6_1 : Nat) : Int))  k) m (i)) :=
 iter_list e6_1 (0, (false, (0, ((0, (false, ((List.replicate 8 0), ((List.replicate 16 0), (0, ((List.replicate 8 0), ())))))), (0, (0, (0, ([], ())))))))) (fun (i6 : Int) (a6 : Unit) => (i6)) (fun xs i6 a6 => zq0x.g0 e6_1 e6_2 e6_3  k xs i6) (zq0x.b0 e6_1 e6_2 e6_3 (((List.length e6_1 : Nat) : Int))  k)
 (fun i6 a6 r h0 => (Le.fls h0 (Le.refl _)))
 (fun i6 xs6 a6 r h0 h1 hw ih => (Le.tru h0 (Le.tru h1 (let v2 : T_s70 := (List.getD e6_1 (Int.toNat i6) (0, (false, (0, ((0, (false, ((List.replicate 8 0), ((List.replicate 16 0), (0, ((List.replicate 8 0), ())))))), (0, (0, (0, ([], ()))))))))); (Le.bnd fun j3 => (Le.cond (ih _ hw ()) (let v4 : T_s67 × Int := (zq2v.t e6_3); (Le.cond (Le.refl _) (let v5 : Int × Int := (zq23.t i6 ((IntKind.wrap .i64 (v2.1 + 1)))); (Le.bnd fun y6 => (Le.refl _)))))))))))
 hX
def zq0x.w (x0 : (List T_s70)) (x1 : Int) (x2 : Int) (k : (List T_s70) × Int × Int → Option Ω) : Option Ω :=
 (zq0s.u x0).bind fun y1 =>
 bif (!y1) then
 k (x0, 0, 1)
 else
 bif (!(zq1j.t x2)) then
 k (x0, 0, 8)
 else
 bif decide (((List.length x0 : Nat) : Int) ≤ 4611686018427387904) then zq0x.g0 x0 x1 x2  k x0 0 else none
theorem zq0x.ev (fuel : Nat) (x0 : (List T_s70)) (x1 : Int) (x2 : Int) (k : AV → Option Ω) : evFn CDEKP (spE (C := CDEKP) [zq0s.n, zq1j.n, zq2v.n, zq23.n, zq3u.n] []) (zq0x.F fuel) Tryz.f26 (Tryz.f26.body.getD .skip) [(.v (.slice E_s70) (x0)), (.v (.int .i64) (x1)), (.v (.int .i64) (x2))] k = zq0x.sl x0 x1 x2 (fun e6_1 e6_2 e6_3 e6_4 => (zq0x.M0 fuel e6_1 e6_2 e6_3 e6_4  k fuel)) (fun r => k (tupAV (.slice E_s70) [(.int .i64), (.int .i64)] r)) := by kernel_rfl
theorem zq0x.le (x0 : (List T_s70)) (x1 : Int) (x2 : Int) (k : AV → Option Ω) : Le (zq0x.w x0 x1 x2 (fun r => k (tupAV (.slice E_s70) [(.int .i64), (.int .i64)] r))) (zq0x.sl x0 x1 x2 (fun e6_1 e6_2 e6_3 e6_4 => (zq0x.M0 BIG e6_1 e6_2 e6_3 e6_4  k BIG)) (fun r => k (tupAV (.slice E_s70) [(.int .i64), (.int .i64)] r))) := by
 have h1 := funext fun (e6_1 : (List T_s70)) => funext fun (e6_2 : Int) => funext fun (e6_3 : Int) => funext fun (e6_4 : Int) => zq0x.l0 BIG e6_1 e6_2 e6_3 e6_4   k BIG
 rw [h1]
 delta zq0x.w zq0x.sl
 exact (Le.bnd fun y1 => (Le.cond (Le.refl _) (Le.cond (Le.refl _) (Le.gd fun hg => zq0x.h0 _ _ _   _ (le_up (of_decide_eq_true hg)) BIG 0 () (by decide) (zero_le_len _) (big_list (of_decide_eq_true hg))))))
def zq0x.u (x0 : (List T_s70)) (x1 : Int) (x2 : Int) : Option ((List T_s70) × Int × Int) := zq0x.w x0 x1 x2 some
noncomputable def zq0x.n : En CDEKP := mkE CDEKP_ok (es := [zq0s.n, zq1j.n, zq2v.n, zq23.n, zq3u.n]) (ms := []) (fuel := (zq0x.F BIG)) 26 Tryz.f26 [.ai (.slice E_s70), .ai (.int .i64), .ai (.int .i64)] (.slice E_s70) [(.int .i64), (.int .i64)] (fun x {Ω} k => zq0x.w x.1 x.2.1 x.2.2.1 k) (fun x Ω k => leV (zq0x.ev BIG x.1 x.2.1 x.2.2.1 k) (zq0x.le x.1 x.2.1 x.2.2.1 k)) (by kernel_rfl) (by kernel_rfl)
def zq17.F (fuel : Nat) : Fuel := ⟨fuel, fun r => bif r == 3 then mL 0 34 17179868727 else []⟩
noncomputable def zq17.V (fuel c : Nat) (env : List AV) (L : Heap) (k : Kont Ω) : Option Ω := evCode CDEKP (spE (C := CDEKP) [] []) (zq17.F fuel) (pCo c Tryz.f40) env L k
def zq17.E0 (e3_1 : (List T_s70)) (e3_2 : Int) (s3 : Int × (List T_s70)) : List AV := (dZ 3 ((.rs 1) :: dZ 2 ((.v (.slice E_s70) (e3_1)) :: (.v (.int .i64) (e3_2)) :: (.v (.int .i64) (s3.1)) :: dZ 25 ([]))))
def zq17.H0 (e3_1 : (List T_s70)) (e3_2 : Int) (s3 : Int × (List T_s70)) : Heap := [(.row 203 E_s70 [] false), (.row 203 E_s70 s3.2 false)]
noncomputable def zq17.M0 (fuel : Nat) (e3_1 : (List T_s70)) (e3_2 : Int)  (k : AV → Option Ω) (m : Nat) (s : Int × (List T_s70)) : Option Ω := loopK (zq17.V fuel 75) (mB 34 17179868727) [] 2 (blockK 0 (sqK (zq17.V fuel 15) (finK CDEKP Tryz.f40 k))) m ((zq17.E0 e3_1 e3_2) s) ((zq17.H0 e3_1 e3_2) s)
def zq17.b0 (e3_1 : (List T_s70)) (e3_2 : Int)   (k : (List T_s70) → Option Ω) (r3 : Int × (List T_s70) → Option Ω) (s3 : Int × (List T_s70)) : Option Ω :=
 bif (decide (s3.1 < e3_2)) then
 bif (idxOK s3.1 (List.length e3_1)) then
 let v1 : T_s70 := (List.getD e3_1 (Int.toNat s3.1) (0, (false, (0, ((0, (false, ((List.replicate 8 0), ((List.replicate 16 0), (0, ((List.replicate 8 0), ())))))), (0, (0, (0, ([], ())))))))))
 bif (decide (List.length s3.2 + List.length [(v1.1, (v1.2.1, (v1.2.2.1, (v1.2.2.2.1, (v1.2.2.2.2.1, (v1.2.2.2.2.2.1, (v1.2.2.2.2.2.2.1, (v1.2.2.2.2.2.2.2.1, ()))))))))] ≤ rowMax)) then
 r3 ((IntKind.wrap .i64 (s3.1 + 1)), (s3.2 ++ [(v1.1, (v1.2.1, (v1.2.2.1, (v1.2.2.2.1, (v1.2.2.2.2.1, (v1.2.2.2.2.2.1, (v1.2.2.2.2.2.2.1, (v1.2.2.2.2.2.2.2.1, ()))))))))]))
 else
 none
 else
 none
 else
 k s3.2
theorem zq17.l0 (fuel : Nat) (e3_1 : (List T_s70)) (e3_2 : Int)  (k : AV → Option Ω) : ∀ m, (zq17.M0 fuel e3_1 e3_2  k m) = iter (zq17.b0 e3_1 e3_2  (fun r => k (tupAV (.slice E_s70) [] r))) m :=
 loopK_iter (envOf := (zq17.E0 e3_1 e3_2)) (LOf := (zq17.H0 e3_1 e3_2)) (B := zq17.b0 e3_1 e3_2  (fun r => k (tupAV (.slice E_s70) [] r))) (fun R s => by kernel_rfl)
def zq17.sl (x0 : (List T_s70)) (lp0 : (List T_s70) → Int → Int × (List T_s70) → Option Ω) (k : (List T_s70) → Option Ω) : Option Ω :=
 lp0 x0 (((List.length x0 : Nat) : Int)) (0, [])
def zq17.g0 (e3_1 : (List T_s70))  (k : (List T_s70) → Option Ω) : List T_s70 → (List T_s70) → Option Ω
 | [], a3_1 =>
 k a3_1
 | x3 :: xs3, a3_1 =>
 let v1 : T_s70 := x3
 bif (decide (List.length a3_1 + List.length [(v1.1, (v1.2.1, (v1.2.2.1, (v1.2.2.2.1, (v1.2.2.2.2.1, (v1.2.2.2.2.2.1, (v1.2.2.2.2.2.2.1, (v1.2.2.2.2.2.2.2.1, ()))))))))] ≤ rowMax)) then
 zq17.g0 e3_1  k xs3 ((a3_1 ++ [(v1.1, (v1.2.1, (v1.2.2.1, (v1.2.2.2.1, (v1.2.2.2.2.1, (v1.2.2.2.2.2.1, (v1.2.2.2.2.2.2.1, (v1.2.2.2.2.2.2.2.1, ()))))))))]))
 else
 none
theorem zq17.h0 (e3_1 : (List T_s70))   (k : (List T_s70) → Option Ω) (hX : ((List.length e3_1 : Nat) : Int) ≤ 9223372036854775807) : ∀ (m : Nat) (i : Int) (a : (List T_s70)), 0 ≤ i → i ≤ ((List.length e3_1 : Nat) : Int) → ((List.length e3_1 : Nat) : Int) < m + i → Le (zq17.g0 e3_1  k (List.drop (Int.toNat i) e3_1) a) (iter (zq17.b0 e3_1 (((List.length e3_1 : Nat) : Int))  k) m (i, a)) :=
 iter_list e3_1 (0, (false, (0, ((0, (false, ((List.replicate 8 0), ((List.replicate 16 0), (0, ((List.replicate 8 0), ())))))), (0, (0, (0, ([], ())))))))) (fun (i3 : Int) (a3 : (List T_s70)) => (i3, a3)) (fun xs i3 a3 => zq17.g0 e3_1  k xs a3) (zq17.b0 e3_1 (((List.length e3_1 : Nat) : Int))  k)
 (fun i3 a3 r h0 => (Le.fls h0 (Le.refl _)))
 (fun i3 xs3 a3 r h0 h1 hw ih => (Le.tru h0 (Le.tru h1 (let v1 : T_s70 := (List.getD e3_1 (Int.toNat i3) (0, (false, (0, ((0, (false, ((List.replicate 8 0), ((List.replicate 16 0), (0, ((List.replicate 8 0), ())))))), (0, (0, (0, ([], ()))))))))); (Le.cond (ih _ hw ((a3 ++ [(v1.1, (v1.2.1, (v1.2.2.1, (v1.2.2.2.1, (v1.2.2.2.2.1, (v1.2.2.2.2.2.1, (v1.2.2.2.2.2.2.1, (v1.2.2.2.2.2.2.2.1, ()))))))))]))) Le.nil)))))
 hX
def zq17.w (x0 : (List T_s70)) (k : (List T_s70) → Option Ω) : Option Ω :=
 bif decide (((List.length x0 : Nat) : Int) ≤ 4611686018427387904) then zq17.g0 x0  k x0 ([]) else none
theorem zq17.ev (fuel : Nat) (x0 : (List T_s70)) (k : AV → Option Ω) : evFn CDEKP (spE (C := CDEKP) [] []) (zq17.F fuel) Tryz.f40 (Tryz.f40.body.getD .skip) [(.v (.slice E_s70) (x0))] k = zq17.sl x0 (fun e3_1 e3_2 => (zq17.M0 fuel e3_1 e3_2  k fuel)) (fun r => k (tupAV (.slice E_s70) [] r)) := by kernel_rfl
theorem zq17.le (x0 : (List T_s70)) (k : AV → Option Ω) : Le (zq17.w x0 (fun r => k (tupAV (.slice E_s70) [] r))) (zq17.sl x0 (fun e3_1 e3_2 => (zq17.M0 BIG e3_1 e3_2  k BIG)) (fun r => k (tupAV (.slice E_s70) [] r))) := by
 have h1 := funext fun (e3_1 : (List T_s70)) => funext fun (e3_2 : Int) => zq17.l0 BIG e3_1 e3_2   k BIG
 rw [h1]
 delta zq17.w zq17.sl
 exact (Le.gd fun hg => zq17.h0 _   _ (le_up (of_decide_eq_true hg)) BIG 0 ([]) (by decide) (zero_le_len _) (big_list (of_decide_eq_true hg)))
def zq17.u (x0 : (List T_s70)) : Option ((List T_s70)) := zq17.w x0 some
noncomputable def zq17.n : En CDEKP := mkE CDEKP_ok (es := []) (ms := []) (fuel := (zq17.F BIG)) 40 Tryz.f40 [.ai (.slice E_s70)] (.slice E_s70) [] (fun x {Ω} k => zq17.w x.1 k) (fun x Ω k => leV (zq17.ev BIG x.1 k) (zq17.le x.1 k)) (by kernel_rfl) (by kernel_rfl)
def zq2a.s (x0 : T_s70) (k : Bool → Option Ω) : Option Ω :=
 k (x0.2.2.2.2.1 != 3)
def zq2a.t (x0 : T_s70) : Bool :=
 (x0.2.2.2.2.1 != 3)
theorem zq2a.v (x0 : T_s70) (k : Bool → Option Ω) : zq2a.s x0 k = k (zq2a.t x0) := by
 delta zq2a.s zq2a.t; exact rfl
noncomputable def zq2a.n : En CDEKP := mkT CDEKP_ok (es := []) (ms := []) (fuel := ⟨1, fun _ => []⟩) 161 Tryz.f161 [.ai E_s70] .bool [] (fun x {Ω} k => zq2a.s x.1 k) (fun x => zq2a.t x.1) (fun x Ω k => by kernel_rfl) (fun x => zq2a.v x.1 some) (by kernel_rfl) (by kernel_rfl)
def zq0g.F (fuel : Nat) : Fuel := ⟨fuel, fun r => bif r == 5 then mL 0 31 2147469277 else bif r == 2000007 then [18, 19, 20, 21, 22, 23, 5024] else []⟩
noncomputable def zq0g.V (fuel c : Nat) (env : List AV) (L : Heap) (k : Kont Ω) : Option Ω := evCode CDEKP (spE (C := CDEKP) [zq0s.n, zq2a.n] []) (zq0g.F fuel) (pCo c Tryz.f89) env L k
def zq0g.E0 (e5_1 : (List T_s70)) (e5_2 : Int) (s5 : Int × (List Int)) : List AV := (dZ 1 ((.fn 161 []) :: dZ 3 ((.rs 1) :: dZ 5 ((.v (.slice E_s70) (e5_1)) :: (.v (.int .i64) (e5_2)) :: (.v (.int .i64) (s5.1)) :: dZ 17 ([])))))
def zq0g.H0 (e5_1 : (List T_s70)) (e5_2 : Int) (s5 : Int × (List Int)) : Heap := [(.row 3 (.int .i64) [] false), (.row 3 (.int .i64) s5.2 false)]
noncomputable def zq0g.M0 (fuel : Nat) (e5_1 : (List T_s70)) (e5_2 : Int)  (k : (List Int) → Option Ω) (m : Nat) (s : Int × (List Int)) : Option Ω := loopK (zq0g.V fuel 151) (mB 31 2147469277) [] 2 (blockK 0 (sqK (zq0g.V fuel 31) (finR CDEKP Tryz.f89 3 (.int .i64) k))) m ((zq0g.E0 e5_1 e5_2) s) ((zq0g.H0 e5_1 e5_2) s)
def zq0g.b0 (e5_1 : (List T_s70)) (e5_2 : Int)   (k : (List Int) → Option Ω) (r5 : Int × (List Int) → Option Ω) (s5 : Int × (List Int)) : Option Ω :=
 bif (decide (s5.1 < e5_2)) then
 bif (idxOK s5.1 (List.length e5_1)) then
 let v2 : T_s70 := (List.getD e5_1 (Int.toNat s5.1) (0, (false, (0, ((0, (false, ((List.replicate 8 0), ((List.replicate 16 0), (0, ((List.replicate 8 0), ())))))), (0, (0, (0, ([], ())))))))))
 (bif v2.2.1 then some ((zq2a.t v2), ()) else some (false, ())).bind fun j3 =>
 bif j3.1 then
 bif (decide (List.length s5.2 + List.length [s5.1] ≤ rowMax)) then
 r5 ((IntKind.wrap .i64 (s5.1 + 1)), (s5.2 ++ [s5.1]))
 else
 none
 else
 r5 ((IntKind.wrap .i64 (s5.1 + 1)), s5.2)
 else
 none
 else
 k s5.2
theorem zq0g.l0 (fuel : Nat) (e5_1 : (List T_s70)) (e5_2 : Int)  (k : (List Int) → Option Ω) : ∀ m, (zq0g.M0 fuel e5_1 e5_2  k m) = iter (zq0g.b0 e5_1 e5_2  (fun r => k r)) m :=
 loopK_iter (envOf := (zq0g.E0 e5_1 e5_2)) (LOf := (zq0g.H0 e5_1 e5_2)) (B := zq0g.b0 e5_1 e5_2  (fun r => k r)) (fun R s => by kernel_rfl)
def zq0g.sl (x0 : (List T_s70)) (lp0 : (List T_s70) → Int → Int × (List Int) → Option Ω) (k : (List Int) → Option Ω) : Option Ω :=
 (zq0s.u x0).bind fun y1 =>
 bif (!y1) then
 k []
 else
 lp0 x0 (((List.length x0 : Nat) : Int)) (0, [])
def zq0g.g0 (e5_1 : (List T_s70))  (k : (List Int) → Option Ω) : List T_s70 → Int → (List Int) → Option Ω
 | [], i5, a5_1 =>
 k a5_1
 | x5 :: xs5, i5, a5_1 =>
 let v2 : T_s70 := x5
 (bif v2.2.1 then some ((zq2a.t v2), ()) else some (false, ())).bind fun j3 =>
 bif j3.1 then
 bif (decide (List.length a5_1 + List.length [i5] ≤ rowMax)) then
 zq0g.g0 e5_1  k xs5 (i5 + 1) (a5_1 ++ [i5])
 else
 none
 else
 zq0g.g0 e5_1  k xs5 (i5 + 1) a5_1
theorem zq0g.h0 (e5_1 : (List T_s70))   (k : (List Int) → Option Ω) (hX : ((List.length e5_1 : Nat) : Int) ≤ 9223372036854775807) : ∀ (m : Nat) (i : Int) (a : (List Int)), 0 ≤ i → i ≤ ((List.length e5_1 : Nat) : Int) → ((List.length e5_1 : Nat) : Int) < m + i → Le (zq0g.g0 e5_1  k (List.drop (Int.toNat i) e5_1) i a) (iter (zq0g.b0 e5_1 (((List.length e5_1 : Nat) : Int))  k) m (i, a)) :=
 iter_list e5_1 (0, (false, (0, ((0, (false, ((List.replicate 8 0), ((List.replicate 16 0), (0, ((List.replicate 8 0), ())))))), (0, (0, (0, ([], ())))))))) (fun (i5 : Int) (a5 : (List Int)) => (i5, a5)) (fun xs i5 a5 => zq0g.g0 e5_1  k xs i5 a5) (zq0g.b0 e5_1 (((List.length e5_1 : Nat) : Int))  k)
 (fun i5 a5 r h0 => (Le.fls h0 (Le.refl _)))
 (fun i5 xs5 a5 r h0 h1 hw ih => (Le.tru h0 (Le.tru h1 (let v2 : T_s70 := (List.getD e5_1 (Int.toNat i5) (0, (false, (0, ((0, (false, ((List.replicate 8 0), ((List.replicate 16 0), (0, ((List.replicate 8 0), ())))))), (0, (0, (0, ([], ()))))))))); (Le.bnd fun j3 => (Le.cond (Le.cond (ih _ hw ((a5 ++ [i5]))) Le.nil) (ih _ hw (a5))))))))
 hX
def zq0g.w (x0 : (List T_s70)) (k : (List Int) → Option Ω) : Option Ω :=
 (zq0s.u x0).bind fun y1 =>
 bif (!y1) then
 k []
 else
 bif decide (((List.length x0 : Nat) : Int) ≤ 4611686018427387904) then zq0g.g0 x0  k x0 0 ([]) else none
theorem zq0g.ev (fuel : Nat) (x0 : (List T_s70)) (k : (List Int) → Option Ω) : evRow CDEKP (spE (C := CDEKP) [zq0s.n, zq2a.n] []) (zq0g.F fuel) Tryz.f89 (Tryz.f89.body.getD .skip) [(.v (.slice E_s70) (x0)), (.fn 161 [])] 3 (.int .i64) k = zq0g.sl x0 (fun e5_1 e5_2 => (zq0g.M0 fuel e5_1 e5_2  k fuel)) (fun r => k r) := by kernel_rfl
theorem zq0g.le (x0 : (List T_s70)) (k : (List Int) → Option Ω) : Le (zq0g.w x0 (fun r => k r)) (zq0g.sl x0 (fun e5_1 e5_2 => (zq0g.M0 BIG e5_1 e5_2  k BIG)) (fun r => k r)) := by
 have h1 := funext fun (e5_1 : (List T_s70)) => funext fun (e5_2 : Int) => zq0g.l0 BIG e5_1 e5_2   k BIG
 rw [h1]
 delta zq0g.w zq0g.sl
 exact (Le.bnd fun y1 => (Le.cond (Le.refl _) (Le.gd fun hg => zq0g.h0 _   _ (le_up (of_decide_eq_true hg)) BIG 0 ([]) (by decide) (zero_le_len _) (big_list (of_decide_eq_true hg)))))
def zq0g.u (x0 : (List T_s70)) : Option ((List Int)) := zq0g.w x0 some
noncomputable def zq0g.n : Me CDEKP := mkR CDEKP_ok (es := [zq0s.n, zq2a.n]) (ms := []) (fuel := (zq0g.F BIG)) 89 Tryz.f89 [.ai (.slice E_s70), .af0 161] 3 (.int .i64) (fun x {Ω} k => zq0g.w x.1 k) (fun x Ω k => leV (zq0g.ev BIG x.1 k) (zq0g.le x.1 k)) (by kernel_rfl) (by kernel_rfl) (by kernel_rfl)
def zq4d.s (x0 : (List T_s70)) (x1 : Int) (k : Bool → Option Ω) : Option Ω :=
 bif (decide (x1 ≥ 0)) then
 bif (decide (x1 < ((List.length x0 : Nat) : Int))) then
 bif (idxOK x1 (List.length x0)) then
 let v1 : Bool := (List.getD x0 (Int.toNat x1) (0, (false, (0, ((0, (false, ((List.replicate 8 0), ((List.replicate 16 0), (0, ((List.replicate 8 0), ())))))), (0, (0, (0, ([], ()))))))))).2.1
 k v1
 else
 none
 else
 k false
 else
 k false
def zq4d.u (x0 : (List T_s70)) (x1 : Int) : Option (Bool) := zq4d.s x0 x1 some
noncomputable def zq4d.n : En CDEKP := mkE CDEKP_ok (es := []) (ms := []) (fuel := ⟨1, fun _ => []⟩) 211 Tryz.f211 [.ai (.slice E_s70), .ai (.int .i64)] .bool [] (fun x {Ω} k => zq4d.s x.1 x.2.1 k) (fun x Ω k => Le.of (by kernel_rfl)) (by kernel_rfl) (by kernel_rfl)
def zq3c.s (x0 : (List T_s70)) (x1 : Int) (k : Int → Option Ω) : Option Ω :=
 ((zq0s.u x0).bind fun y1 => (bif (!y1) then some (true, ()) else ((zq4d.u x0 x1).bind fun y2 => some ((!y2), ())))).bind fun j3 =>
 bif j3.1 then
 k 0
 else
 bif (idxOK x1 (List.length x0)) then
 let v4 : Int := (List.getD x0 (Int.toNat x1) (0, (false, (0, ((0, (false, ((List.replicate 8 0), ((List.replicate 16 0), (0, ((List.replicate 8 0), ())))))), (0, (0, (0, ([], ()))))))))).1
 let v5 : Int × Int := (zq23.t x1 v4)
 k v5.1
 else
 none
def zq3c.u (x0 : (List T_s70)) (x1 : Int) : Option (Int) := zq3c.s x0 x1 some
noncomputable def zq3c.n : En CDEKP := mkE CDEKP_ok (es := [zq0s.n, zq23.n, zq4d.n]) (ms := []) (fuel := ⟨1, fun r => bif r == 2000001 then [7, 8, 9, 10, 11, 12, 13, 14, 5015] else []⟩) 149 Tryz.f149 [.ai (.slice E_s70), .ai (.int .i64)] (.int .i64) [] (fun x {Ω} k => zq3c.s x.1 x.2.1 k) (fun x Ω k => Le.of (by kernel_rfl)) (by kernel_rfl) (by kernel_rfl)
def zq0t.F (fuel : Nat) : Fuel := ⟨fuel, fun r => bif r == 3 then mL 0 23 8386806 else []⟩
noncomputable def zq0t.V (fuel c : Nat) (env : List AV) (L : Heap) (k : Kont Ω) : Option Ω := evCode CDEKP (spE (C := CDEKP) [zq3c.n] [zq0g.n]) (zq0t.F fuel) (pCo c Tryz.f91) env L k
def zq0t.E0 (e3_1 : (List T_s70)) (e3_2 : Int) (s3 : Int × (List Int)) : List AV := ((.v (.slice E_s70) (e3_1)) :: dZ 2 ((.rs 1) :: dZ 4 ((.rs 1) :: (.v (.int .i64) (e3_2)) :: (.v (.int .i64) (s3.1)) :: dZ 12 ([]))))
def zq0t.H0 (e3_1 : (List T_s70)) (e3_2 : Int) (s3 : Int × (List Int)) : Heap := [(.row 3 (.int .i64) [] false), (.row 3 (.int .i64) s3.2 false)]
noncomputable def zq0t.M0 (fuel : Nat) (e3_1 : (List T_s70)) (e3_2 : Int)  (k : AV → Option Ω) (m : Nat) (s : Int × (List Int)) : Option Ω := loopK (zq0t.V fuel 75) (mB 23 8386806) [] 2 (blockK 0 (sqK (zq0t.V fuel 15) (finK CDEKP Tryz.f91 k))) m ((zq0t.E0 e3_1 e3_2) s) ((zq0t.H0 e3_1 e3_2) s)
def zq0t.b0 (e3_1 : (List T_s70)) (e3_2 : Int)   (k : (List Int) → Option Ω) (r3 : Int × (List Int) → Option Ω) (s3 : Int × (List Int)) : Option Ω :=
 bif (decide (s3.1 < e3_2)) then
 bif (idxOK s3.1 (List.length s3.2)) then
 (zq3c.u e3_1 ((List.getD s3.2 (Int.toNat s3.1) 0))).bind fun y2 =>
 bif (idxOK s3.1 (List.length s3.2)) then
 r3 ((IntKind.wrap .i64 (s3.1 + 1)), (List.set s3.2 (Int.toNat s3.1) y2))
 else
 none
 else
 none
 else
 k s3.2
theorem zq0t.l0 (fuel : Nat) (e3_1 : (List T_s70)) (e3_2 : Int)  (k : AV → Option Ω) : ∀ m, (zq0t.M0 fuel e3_1 e3_2  k m) = iter (zq0t.b0 e3_1 e3_2  (fun r => k (tupAV (.slice (.int .i64)) [] r))) m :=
 loopK_iter (envOf := (zq0t.E0 e3_1 e3_2)) (LOf := (zq0t.H0 e3_1 e3_2)) (B := zq0t.b0 e3_1 e3_2  (fun r => k (tupAV (.slice (.int .i64)) [] r))) (fun R s => by kernel_rfl)
def zq0t.sl (x0 : (List T_s70)) (lp0 : (List T_s70) → Int → Int × (List Int) → Option Ω) (k : (List Int) → Option Ω) : Option Ω :=
 (zq0g.u x0).bind fun y1 =>
 lp0 x0 (((List.length y1 : Nat) : Int)) (0, y1)
def zq0t.g0 (e3_1 : (List T_s70)) (e3_2 : Int)  (k : (List Int) → Option Ω) : Nat → Int → (List Int) → Option Ω
 | 0, i3, a3_1 =>
 k a3_1
 | d3 + 1, i3, a3_1 =>
 bif (idxOK i3 (List.length a3_1)) then
 (zq3c.u e3_1 ((List.getD a3_1 (Int.toNat i3) 0))).bind fun y2 =>
 bif (idxOK i3 (List.length a3_1)) then
 zq0t.g0 e3_1 e3_2  k d3 (i3 + 1) ((List.set a3_1 (Int.toNat i3) y2))
 else
 none
 else
 none
theorem zq0t.h0 (e3_1 : (List T_s70)) (e3_2 : Int)   (k : (List Int) → Option Ω) (hN : (e3_2 : Int) ≤ 9223372036854775807) : ∀ (m : Nat) (i : Int) (a : (List Int)), -9223372036854775808 ≤ i → Int.toNat ((e3_2 : Int) - i) < m → Le (zq0t.g0 e3_1 e3_2  k (Int.toNat ((e3_2 : Int) - i)) i a) (iter (zq0t.b0 e3_1 e3_2  k) m (i, a)) :=
 iter_count (e3_2 : Int) (fun i3 => (decide (i3 < e3_2))) (fun i => rfl) (fun (i3 : Int) (a3 : (List Int)) => (i3, a3)) (fun xs i3 a3 => zq0t.g0 e3_1 e3_2  k xs i3 a3) (zq0t.b0 e3_1 e3_2  k)
 (fun i3 a3 r h0 => (Le.fls h0 (Le.refl _)))
 (fun i3 d3 a3 r h0 hw ih => (Le.tru h0 (Le.cond (Le.bnd fun y2 => (Le.cond (ih _ hw ((List.set a3 (Int.toNat i3) y2))) Le.nil)) Le.nil)))
 hN
def zq0t.w (x0 : (List T_s70)) (k : (List Int) → Option Ω) : Option Ω :=
 (zq0g.u x0).bind fun y1 =>
 bif (decide ((((List.length y1 : Nat) : Int)) ≤ 4611686018427387904)) then zq0t.g0 x0 (((List.length y1 : Nat) : Int))  k ((Int.toNat ((((List.length y1 : Nat) : Int)) - 0))) 0 y1 else none
theorem zq0t.ev (fuel : Nat) (x0 : (List T_s70)) (k : AV → Option Ω) : evFn CDEKP (spE (C := CDEKP) [zq3c.n] [zq0g.n]) (zq0t.F fuel) Tryz.f91 (Tryz.f91.body.getD .skip) [(.v (.slice E_s70) (x0))] k = zq0t.sl x0 (fun e3_1 e3_2 => (zq0t.M0 fuel e3_1 e3_2  k fuel)) (fun r => k (tupAV (.slice (.int .i64)) [] r)) := by kernel_rfl
theorem zq0t.le (x0 : (List T_s70)) (k : AV → Option Ω) : Le (zq0t.w x0 (fun r => k (tupAV (.slice (.int .i64)) [] r))) (zq0t.sl x0 (fun e3_1 e3_2 => (zq0t.M0 BIG e3_1 e3_2  k BIG)) (fun r => k (tupAV (.slice (.int .i64)) [] r))) := by
 have h1 := funext fun (e3_1 : (List T_s70)) => funext fun (e3_2 : Int) => zq0t.l0 BIG e3_1 e3_2   k BIG
 rw [h1]
 delta zq0t.w zq0t.sl
 exact (Le.bnd fun y1 => (Le.gd fun hg => zq0t.h0 _ _   _ (cnt_up hg) BIG 0 (y1) (by decide) (cnt_big hg (by decide))))
def zq0t.u (x0 : (List T_s70)) : Option ((List Int)) := zq0t.w x0 some
noncomputable def zq0t.n : En CDEKP := mkE CDEKP_ok (es := [zq3c.n]) (ms := [zq0g.n]) (fuel := (zq0t.F BIG)) 91 Tryz.f91 [.ai (.slice E_s70)] (.slice (.int .i64)) [] (fun x {Ω} k => zq0t.w x.1 k) (fun x Ω k => leV (zq0t.ev BIG x.1 k) (zq0t.le x.1 k)) (by kernel_rfl) (by kernel_rfl)
end
end Go.Proofs.YtlcomipbinfooaaGreatDoor.K

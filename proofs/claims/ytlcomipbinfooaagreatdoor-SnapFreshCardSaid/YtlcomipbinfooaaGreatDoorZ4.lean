/- What functions of the program come to, and their laws. -/
import Derived.Test.YtlcomipbinfooaaGreatDoorZ3
namespace Go.Proofs.YtlcomipbinfooaaGreatDoor.K
open Go Go.RowKit
section
set_option linter.unusedVariables false
set_option linter.unusedSimpArgs false
set_option maxRecDepth 100000
variable {Ω : Type}
def zq0u.F (fuel : Nat) : Fuel := ⟨fuel, fun r => bif r == 4 then mL 0 38 272998858751 else bif r == 2000001 then [5, 6, 7, 8, 9, 10, 11, 12, 13, 14, 15, 16, 17, 18, 19, 20, 21, 22, 23, 24, 25, 5026] else []⟩
noncomputable def zq0u.V (fuel c : Nat) (env : List AV) (L : Heap) (k : Kont Ω) : Option Ω := evCode CDEKP (spE (C := CDEKP) [] []) (zq0u.F fuel) (pCo c Tryz.f6) env L k
def zq0u.E0 (e4_1 : (List (List T_s79))) (e4_2 : Int) (e4_3 : T_s26) (s4 : Int) : List AV := (dZ 28 ((.v (.slice (.slice E_s79)) (e4_1)) :: (.v (.int .i64) (e4_2)) :: (.v (.int .i64) (s4)) :: dZ 7 ([])))
def zq0u.H0 (e4_1 : (List (List T_s79))) (e4_2 : Int) (e4_3 : T_s26) (s4 : Int) : Heap := [(.box E_s26 e4_3 false)]
noncomputable def zq0u.M0 (fuel : Nat) (e4_1 : (List (List T_s79))) (e4_2 : Int) (e4_3 : T_s26)  (k : AV → Option Ω) (m : Nat) (s : Int) : Option Ω := loopK (zq0u.V fuel 75) (mB 38 272998858751) [] 1 (blockK 0 (sqK (zq0u.V fuel 15) (finK CDEKP Tryz.f6 k))) m ((zq0u.E0 e4_1 e4_2 e4_3) s) ((zq0u.H0 e4_1 e4_2 e4_3) s)
def zq0u.b0 (e4_1 : (List (List T_s79))) (e4_2 : Int) (e4_3 : T_s26)   (k : Bool → Option Ω) (r4 : Int → Option Ω) (s4 : Int) : Option Ω :=
 bif (decide (s4 < e4_2)) then
 bif (idxOK s4 (List.length e4_1)) then
 bif (decide (((List.length (List.getD e4_1 (Int.toNat s4) []) : Nat) : Int) > 70)) then
 k false
 else
 r4 ((IntKind.wrap .i64 (s4 + 1)))
 else
 none
 else
 k true
theorem zq0u.l0 (fuel : Nat) (e4_1 : (List (List T_s79))) (e4_2 : Int) (e4_3 : T_s26)  (k : AV → Option Ω) : ∀ m, (zq0u.M0 fuel e4_1 e4_2 e4_3  k m) = iter (zq0u.b0 e4_1 e4_2 e4_3  (fun r => k (tupAV .bool [] r))) m :=
 loopK_iter (envOf := (zq0u.E0 e4_1 e4_2 e4_3)) (LOf := (zq0u.H0 e4_1 e4_2 e4_3)) (B := zq0u.b0 e4_1 e4_2 e4_3  (fun r => k (tupAV .bool [] r))) (fun R s => by kernel_rfl)
def zq0u.sl (x0 : T_s26) (lp0 : (List (List T_s79)) → Int → T_s26 → Int → Option Ω) (k : Bool → Option Ω) : Option Ω :=
 (bif (decide (((List.length x0.1 : Nat) : Int) > 10)) then some (true, ()) else (bif (decide (((List.length x0.2.1 : Nat) : Int) > 20)) then some (true, ()) else (bif (decide (((List.length x0.2.2.1 : Nat) : Int) > 20)) then some (true, ()) else some ((decide (((List.length x0.2.2.2.2.1 : Nat) : Int) > 20)), ())))).bind fun j1 =>
 bif j1.1 then
 k false
 else
 lp0 x0.1 (((List.length x0.1 : Nat) : Int)) x0 (0)
def zq0u.g0 (e4_1 : (List (List T_s79))) (e4_3 : T_s26)  (k : Bool → Option Ω) : List (List T_s79) → Option Ω
 | [] =>
 k true
 | x4 :: xs4 =>
 bif (decide (((List.length x4 : Nat) : Int) > 70)) then
 k false
 else
 zq0u.g0 e4_1 e4_3  k xs4
theorem zq0u.h0 (e4_1 : (List (List T_s79))) (e4_3 : T_s26)   (k : Bool → Option Ω) (hX : ((List.length e4_1 : Nat) : Int) ≤ 9223372036854775807) : ∀ (m : Nat) (i : Int) (a : Unit), 0 ≤ i → i ≤ ((List.length e4_1 : Nat) : Int) → ((List.length e4_1 : Nat) : Int) < m + i → Le (zq0u.g0 e4_1 e4_3  k (List.drop (Int.toNat i) e4_1) ) (iter (zq0u.b0 e4_1 (((List.length e4_1 : Nat) : Int)) e4_3  k) m (i)) :=
 iter_list e4_1 [] (fun (i4 : Int) (a4 : Unit) => (i4)) (fun xs i4 a4 => zq0u.g0 e4_1 e4_3  k xs ) (zq0u.b0 e4_1 (((List.length e4_1 : Nat) : Int)) e4_3  k)
 (fun i4 a4 r h0 => (Le.fls h0 (Le.refl _)))
 (fun i4 xs4 a4 r h0 h1 hw ih => (Le.tru h0 (Le.tru h1 (Le.cond (Le.refl _) (ih _ hw ())))))
 hX
def zq0u.w (x0 : T_s26) (k : Bool → Option Ω) : Option Ω :=
 (bif (decide (((List.length x0.1 : Nat) : Int) > 10)) then some (true, ()) else (bif (decide (((List.length x0.2.1 : Nat) : Int) > 20)) then some (true, ()) else (bif (decide (((List.length x0.2.2.1 : Nat) : Int) > 20)) then some (true, ()) else some ((decide (((List.length x0.2.2.2.2.1 : Nat) : Int) > 20)), ())))).bind fun j1 =>
 bif j1.1 then
 k false
 else
 bif decide (((List.length x0.1 : Nat) : Int) ≤ 4611686018427387904) then zq0u.g0 x0.1 x0  k x0.1  else none
theorem zq0u.ev (fuel : Nat) (x0 : T_s26) (k : AV → Option Ω) : evFn CDEKP (spE (C := CDEKP) [] []) (zq0u.F fuel) Tryz.f6 (Tryz.f6.body.getD .skip) [(.v E_s26 (x0))] k = zq0u.sl x0 (fun e4_1 e4_2 e4_3 => (zq0u.M0 fuel e4_1 e4_2 e4_3  k fuel)) (fun r => k (tupAV .bool [] r)) := by kernel_rfl
theorem zq0u.le (x0 : T_s26) (k : AV → Option Ω) : Le (zq0u.w x0 (fun r => k (tupAV .bool [] r))) (zq0u.sl x0 (fun e4_1 e4_2 e4_3 => (zq0u.M0 BIG e4_1 e4_2 e4_3  k BIG)) (fun r => k (tupAV .bool [] r))) := by
 have h1 := funext fun (e4_1 : (List (List T_s79))) => funext fun (e4_2 : Int) => funext fun (e4_3 : T_s26) => zq0u.l0 BIG e4_1 e4_2 e4_3   k BIG
 rw [h1]
 delta zq0u.w zq0u.sl
 exact (Le.bnd fun j1 => (Le.cond (Le.refl _) (Le.gd fun hg => zq0u.h0 _ _   _ (le_up (of_decide_eq_true hg)) BIG 0 () (by decide) (zero_le_len _) (big_list (of_decide_eq_true hg)))))
def zq0u.u (x0 : T_s26) : Option (Bool) := zq0u.w x0 some
noncomputable def zq0u.n : En CDEKP := mkE CDEKP_ok (es := []) (ms := []) (fuel := (zq0u.F BIG)) 6 Tryz.f6 [.ai E_s26] .bool [] (fun x {Ω} k => zq0u.w x.1 k) (fun x Ω k => leV (zq0u.ev BIG x.1 k) (zq0u.le x.1 k)) (by kernel_rfl) (by kernel_rfl)
def zq1w.s (x0 : Int) (x1 : Int) (x2 : Int) (k : Int → Option Ω) : Option Ω :=
 bif (decide (x0 < x1)) then
 k 11
 else
 bif (decide (x0 > x2)) then
 k 5
 else
 k 0
def zq1w.t (x0 : Int) (x1 : Int) (x2 : Int) : Int :=
 bif (decide (x0 < x1)) then
 11
 else
 bif (decide (x0 > x2)) then
 5
 else
 0
theorem zq1w.v (x0 : Int) (x1 : Int) (x2 : Int) (k : Int → Option Ω) : zq1w.s x0 x1 x2 k = k (zq1w.t x0 x1 x2) := by
 delta zq1w.s zq1w.t; exact (cond_tot rfl (cond_tot rfl rfl))
noncomputable def zq1w.n : En CDEKP := mkT CDEKP_ok (es := []) (ms := []) (fuel := ⟨1, fun _ => []⟩) 162 Tryz.f162 [.ai (.int .i64), .ai (.int .i64), .ai (.int .i64)] (.int .i64) [] (fun x {Ω} k => zq1w.s x.1 x.2.1 x.2.2.1 k) (fun x => zq1w.t x.1 x.2.1 x.2.2.1) (fun x Ω k => by kernel_rfl) (fun x => zq1w.v x.1 x.2.1 x.2.2.1 some) (by kernel_rfl) (by kernel_rfl)
def zq2o.s (x0 : (List T_s79)) (k : Int → Option Ω) : Option Ω :=
 (zq13.u x0).bind fun y1 =>
 k y1.2
def zq2o.u (x0 : (List T_s79)) : Option (Int) := zq2o.s x0 some
noncomputable def zq2o.n : En CDEKP := mkE CDEKP_ok (es := [zq13.n]) (ms := []) (fuel := ⟨1, fun _ => []⟩) 164 Tryz.f164 [.ai (.slice E_s79)] (.int .i64) [] (fun x {Ω} k => zq2o.s x.1 k) (fun x Ω k => Le.of (by kernel_rfl)) (by kernel_rfl) (by kernel_rfl)
def zq0a.F (fuel : Nat) : Fuel := ⟨fuel, fun r => bif r == 2 then mL 0 24 16773629 else []⟩
noncomputable def zq0a.V (fuel c : Nat) (env : List AV) (L : Heap) (k : Kont Ω) : Option Ω := evCode CDEKP (spE (C := CDEKP) [zq2o.n] []) (zq0a.F fuel) (pCo c Tryz.f163) env L k
def zq0a.E0 (e2_1 : (List (List T_s79))) (e2_2 : Int) (s2 : Int) : List AV := (dZ 1 ((.fn 164 []) :: dZ 7 ((.v (.slice (.slice E_s79)) (e2_1)) :: (.v (.int .i64) (e2_2)) :: (.v (.int .i64) (s2)) :: dZ 12 ([]))))
def zq0a.H0 (e2_1 : (List (List T_s79))) (e2_2 : Int) (s2 : Int) : Heap := []
noncomputable def zq0a.M0 (fuel : Nat) (e2_1 : (List (List T_s79))) (e2_2 : Int)  (k : AV → Option Ω) (m : Nat) (s : Int) : Option Ω := loopK (zq0a.V fuel 37) (mB 24 16773629) [] 0 (blockK 0 (sqK (zq0a.V fuel 7) (finK CDEKP Tryz.f163 k))) m ((zq0a.E0 e2_1 e2_2) s) ((zq0a.H0 e2_1 e2_2) s)
def zq0a.b0 (e2_1 : (List (List T_s79))) (e2_2 : Int)   (k : Int × Int → Option Ω) (r2 : Int → Option Ω) (s2 : Int) : Option Ω :=
 bif (decide (s2 < e2_2)) then
 bif (idxOK s2 (List.length e2_1)) then
 (zq2o.u ((List.getD e2_1 (Int.toNat s2) []))).bind fun y1 =>
 bif (y1 != 0) then
 k (s2, y1)
 else
 r2 ((IntKind.wrap .i64 (s2 + 1)))
 else
 none
 else
 k (0, 0)
theorem zq0a.l0 (fuel : Nat) (e2_1 : (List (List T_s79))) (e2_2 : Int)  (k : AV → Option Ω) : ∀ m, (zq0a.M0 fuel e2_1 e2_2  k m) = iter (zq0a.b0 e2_1 e2_2  (fun r => k (tupAV (.int .i64) [(.int .i64)] r))) m :=
 loopK_iter (envOf := (zq0a.E0 e2_1 e2_2)) (LOf := (zq0a.H0 e2_1 e2_2)) (B := zq0a.b0 e2_1 e2_2  (fun r => k (tupAV (.int .i64) [(.int .i64)] r))) (fun R s => by kernel_rfl)
def zq0a.sl (x0 : (List (List T_s79))) (lp0 : (List (List T_s79)) → Int → Int → Option Ω) (k : Int × Int → Option Ω) : Option Ω :=
 lp0 x0 (((List.length x0 : Nat) : Int)) (0)
def zq0a.g0 (e2_1 : (List (List T_s79)))  (k : Int × Int → Option Ω) : List (List T_s79) → Int → Option Ω
 | [], i2 =>
 k (0, 0)
 | x2 :: xs2, i2 =>
 (zq2o.u (x2)).bind fun y1 =>
 bif (y1 != 0) then
 k (i2, y1)
 else
 zq0a.g0 e2_1  k xs2 (i2 + 1)
theorem zq0a.h0 (e2_1 : (List (List T_s79)))   (k : Int × Int → Option Ω) (hX : ((List.length e2_1 : Nat) : Int) ≤ 9223372036854775807) : ∀ (m : Nat) (i : Int) (a : Unit), 0 ≤ i → i ≤ ((List.length e2_1 : Nat) : Int) → ((List.length e2_1 : Nat) : Int) < m + i → Le (zq0a.g0 e2_1  k (List.drop (Int.toNat i) e2_1) i) (iter (zq0a.b0 e2_1 (((List.length e2_1 : Nat) : Int))  k) m (i)) :=
 iter_list e2_1 [] (fun (i2 : Int) (a2 : Unit) => (i2)) (fun xs i2 a2 => zq0a.g0 e2_1  k xs i2) (zq0a.b0 e2_1 (((List.length e2_1 : Nat) : Int))  k)
 (fun i2 a2 r h0 => (Le.fls h0 (Le.refl _)))
 (fun i2 xs2 a2 r h0 h1 hw ih => (Le.tru h0 (Le.tru h1 (Le.bnd fun y1 => (Le.cond (Le.refl _) (ih _ hw ()))))))
 hX
def zq0a.w (x0 : (List (List T_s79))) (k : Int × Int → Option Ω) : Option Ω :=
 bif decide (((List.length x0 : Nat) : Int) ≤ 4611686018427387904) then zq0a.g0 x0  k x0 0 else none
theorem zq0a.ev (fuel : Nat) (x0 : (List (List T_s79))) (k : AV → Option Ω) : evFn CDEKP (spE (C := CDEKP) [zq2o.n] []) (zq0a.F fuel) Tryz.f163 (Tryz.f163.body.getD .skip) [(.v (.slice (.slice E_s79)) (x0)), (.fn 164 [])] k = zq0a.sl x0 (fun e2_1 e2_2 => (zq0a.M0 fuel e2_1 e2_2  k fuel)) (fun r => k (tupAV (.int .i64) [(.int .i64)] r)) := by kernel_rfl
theorem zq0a.le (x0 : (List (List T_s79))) (k : AV → Option Ω) : Le (zq0a.w x0 (fun r => k (tupAV (.int .i64) [(.int .i64)] r))) (zq0a.sl x0 (fun e2_1 e2_2 => (zq0a.M0 BIG e2_1 e2_2  k BIG)) (fun r => k (tupAV (.int .i64) [(.int .i64)] r))) := by
 have h1 := funext fun (e2_1 : (List (List T_s79))) => funext fun (e2_2 : Int) => zq0a.l0 BIG e2_1 e2_2   k BIG
 rw [h1]
 delta zq0a.w zq0a.sl
 exact (Le.gd fun hg => zq0a.h0 _   _ (le_up (of_decide_eq_true hg)) BIG 0 () (by decide) (zero_le_len _) (big_list (of_decide_eq_true hg)))
def zq0a.u (x0 : (List (List T_s79))) : Option (Int × Int) := zq0a.w x0 some
noncomputable def zq0a.n : En CDEKP := mkE CDEKP_ok (es := [zq2o.n]) (ms := []) (fuel := (zq0a.F BIG)) 163 Tryz.f163 [.ai (.slice (.slice E_s79)), .af0 164] (.int .i64) [(.int .i64)] (fun x {Ω} k => zq0a.w x.1 k) (fun x Ω k => leV (zq0a.ev BIG x.1 k) (zq0a.le x.1 k)) (by kernel_rfl) (by kernel_rfl)
def zq0b.F (fuel : Nat) : Fuel := ⟨fuel, fun r => bif r == 2 then mL 0 24 16773629 else []⟩
noncomputable def zq0b.V (fuel c : Nat) (env : List AV) (L : Heap) (k : Kont Ω) : Option Ω := evCode CDEKP (spE (C := CDEKP) [zq0z.n] []) (zq0b.F fuel) (pCo c Tryz.f165) env L k
def zq0b.E0 (e2_1 : (List T_s110)) (e2_2 : Int) (s2 : Int) : List AV := (dZ 1 ((.fn 166 []) :: dZ 7 ((.v (.slice E_s110) (e2_1)) :: (.v (.int .i64) (e2_2)) :: (.v (.int .i64) (s2)) :: dZ 12 ([]))))
def zq0b.H0 (e2_1 : (List T_s110)) (e2_2 : Int) (s2 : Int) : Heap := []
noncomputable def zq0b.M0 (fuel : Nat) (e2_1 : (List T_s110)) (e2_2 : Int)  (k : AV → Option Ω) (m : Nat) (s : Int) : Option Ω := loopK (zq0b.V fuel 37) (mB 24 16773629) [] 0 (blockK 0 (sqK (zq0b.V fuel 7) (finK CDEKP Tryz.f165 k))) m ((zq0b.E0 e2_1 e2_2) s) ((zq0b.H0 e2_1 e2_2) s)
def zq0b.b0 (e2_1 : (List T_s110)) (e2_2 : Int)   (k : Int × Int → Option Ω) (r2 : Int → Option Ω) (s2 : Int) : Option Ω :=
 bif (decide (s2 < e2_2)) then
 bif (idxOK s2 (List.length e2_1)) then
 bif ((zq0z.t ((List.getD e2_1 (Int.toNat s2) (0, (0, (0, (0, ()))))))) != 0) then
 k (s2, (zq0z.t ((List.getD e2_1 (Int.toNat s2) (0, (0, (0, (0, ()))))))))
 else
 r2 ((IntKind.wrap .i64 (s2 + 1)))
 else
 none
 else
 k (0, 0)
theorem zq0b.l0 (fuel : Nat) (e2_1 : (List T_s110)) (e2_2 : Int)  (k : AV → Option Ω) : ∀ m, (zq0b.M0 fuel e2_1 e2_2  k m) = iter (zq0b.b0 e2_1 e2_2  (fun r => k (tupAV (.int .i64) [(.int .i64)] r))) m :=
 loopK_iter (envOf := (zq0b.E0 e2_1 e2_2)) (LOf := (zq0b.H0 e2_1 e2_2)) (B := zq0b.b0 e2_1 e2_2  (fun r => k (tupAV (.int .i64) [(.int .i64)] r))) (fun R s => by kernel_rfl)
def zq0b.sl (x0 : (List T_s110)) (lp0 : (List T_s110) → Int → Int → Option Ω) (k : Int × Int → Option Ω) : Option Ω :=
 lp0 x0 (((List.length x0 : Nat) : Int)) (0)
def zq0b.g0 (e2_1 : (List T_s110))  (k : Int × Int → Option Ω) : List T_s110 → Int → Option Ω
 | [], i2 =>
 k (0, 0)
 | x2 :: xs2, i2 =>
 bif ((zq0z.t (x2)) != 0) then
 k (i2, (zq0z.t (x2)))
 else
 zq0b.g0 e2_1  k xs2 (i2 + 1)
theorem zq0b.h0 (e2_1 : (List T_s110))   (k : Int × Int → Option Ω) (hX : ((List.length e2_1 : Nat) : Int) ≤ 9223372036854775807) : ∀ (m : Nat) (i : Int) (a : Unit), 0 ≤ i → i ≤ ((List.length e2_1 : Nat) : Int) → ((List.length e2_1 : Nat) : Int) < m + i → Le (zq0b.g0 e2_1  k (List.drop (Int.toNat i) e2_1) i) (iter (zq0b.b0 e2_1 (((List.length e2_1 : Nat) : Int))  k) m (i)) :=
 iter_list e2_1 (0, (0, (0, (0, ())))) (fun (i2 : Int) (a2 : Unit) => (i2)) (fun xs i2 a2 => zq0b.g0 e2_1  k xs i2) (zq0b.b0 e2_1 (((List.length e2_1 : Nat) : Int))  k)
 (fun i2 a2 r h0 => (Le.fls h0 (Le.refl _)))
 (fun i2 xs2 a2 r h0 h1 hw ih => (Le.tru h0 (Le.tru h1 (Le.cond (Le.refl _) (ih _ hw ())))))
 hX
def zq0b.w (x0 : (List T_s110)) (k : Int × Int → Option Ω) : Option Ω :=
 bif decide (((List.length x0 : Nat) : Int) ≤ 4611686018427387904) then zq0b.g0 x0  k x0 0 else none
theorem zq0b.ev (fuel : Nat) (x0 : (List T_s110)) (k : AV → Option Ω) : evFn CDEKP (spE (C := CDEKP) [zq0z.n] []) (zq0b.F fuel) Tryz.f165 (Tryz.f165.body.getD .skip) [(.v (.slice E_s110) (x0)), (.fn 166 [])] k = zq0b.sl x0 (fun e2_1 e2_2 => (zq0b.M0 fuel e2_1 e2_2  k fuel)) (fun r => k (tupAV (.int .i64) [(.int .i64)] r)) := by kernel_rfl
theorem zq0b.le (x0 : (List T_s110)) (k : AV → Option Ω) : Le (zq0b.w x0 (fun r => k (tupAV (.int .i64) [(.int .i64)] r))) (zq0b.sl x0 (fun e2_1 e2_2 => (zq0b.M0 BIG e2_1 e2_2  k BIG)) (fun r => k (tupAV (.int .i64) [(.int .i64)] r))) := by
 have h1 := funext fun (e2_1 : (List T_s110)) => funext fun (e2_2 : Int) => zq0b.l0 BIG e2_1 e2_2   k BIG
 rw [h1]
 delta zq0b.w zq0b.sl
 exact (Le.gd fun hg => zq0b.h0 _   _ (le_up (of_decide_eq_true hg)) BIG 0 () (by decide) (zero_le_len _) (big_list (of_decide_eq_true hg)))
def zq0b.u (x0 : (List T_s110)) : Option (Int × Int) := zq0b.w x0 some
noncomputable def zq0b.n : En CDEKP := mkE CDEKP_ok (es := [zq0z.n]) (ms := []) (fuel := (zq0b.F BIG)) 165 Tryz.f165 [.ai (.slice E_s110), .af0 166] (.int .i64) [(.int .i64)] (fun x {Ω} k => zq0b.w x.1 k) (fun x Ω k => leV (zq0b.ev BIG x.1 k) (zq0b.le x.1 k)) (by kernel_rfl) (by kernel_rfl)
def zq08.F (fuel : Nat) : Fuel := ⟨fuel, fun r => bif r == 2 then mL 0 24 16773629 else []⟩
noncomputable def zq08.V (fuel c : Nat) (env : List AV) (L : Heap) (k : Kont Ω) : Option Ω := evCode CDEKP (spE (C := CDEKP) [zq12.n] []) (zq08.F fuel) (pCo c Tryz.f167) env L k
def zq08.E0 (e2_1 : (List T_s74)) (e2_2 : Int) (s2 : Int) : List AV := (dZ 1 ((.fn 168 []) :: dZ 7 ((.v (.slice E_s74) (e2_1)) :: (.v (.int .i64) (e2_2)) :: (.v (.int .i64) (s2)) :: dZ 12 ([]))))
def zq08.H0 (e2_1 : (List T_s74)) (e2_2 : Int) (s2 : Int) : Heap := []
noncomputable def zq08.M0 (fuel : Nat) (e2_1 : (List T_s74)) (e2_2 : Int)  (k : AV → Option Ω) (m : Nat) (s : Int) : Option Ω := loopK (zq08.V fuel 37) (mB 24 16773629) [] 0 (blockK 0 (sqK (zq08.V fuel 7) (finK CDEKP Tryz.f167 k))) m ((zq08.E0 e2_1 e2_2) s) ((zq08.H0 e2_1 e2_2) s)
def zq08.b0 (e2_1 : (List T_s74)) (e2_2 : Int)   (k : Int × Int → Option Ω) (r2 : Int → Option Ω) (s2 : Int) : Option Ω :=
 bif (decide (s2 < e2_2)) then
 bif (idxOK s2 (List.length e2_1)) then
 bif ((zq12.t ((List.getD e2_1 (Int.toNat s2) (false, (0, ()))))) != 0) then
 k (s2, (zq12.t ((List.getD e2_1 (Int.toNat s2) (false, (0, ()))))))
 else
 r2 ((IntKind.wrap .i64 (s2 + 1)))
 else
 none
 else
 k (0, 0)
theorem zq08.l0 (fuel : Nat) (e2_1 : (List T_s74)) (e2_2 : Int)  (k : AV → Option Ω) : ∀ m, (zq08.M0 fuel e2_1 e2_2  k m) = iter (zq08.b0 e2_1 e2_2  (fun r => k (tupAV (.int .i64) [(.int .i64)] r))) m :=
 loopK_iter (envOf := (zq08.E0 e2_1 e2_2)) (LOf := (zq08.H0 e2_1 e2_2)) (B := zq08.b0 e2_1 e2_2  (fun r => k (tupAV (.int .i64) [(.int .i64)] r))) (fun R s => by kernel_rfl)
def zq08.sl (x0 : (List T_s74)) (lp0 : (List T_s74) → Int → Int → Option Ω) (k : Int × Int → Option Ω) : Option Ω :=
 lp0 x0 (((List.length x0 : Nat) : Int)) (0)
def zq08.g0 (e2_1 : (List T_s74))  (k : Int × Int → Option Ω) : List T_s74 → Int → Option Ω
 | [], i2 =>
 k (0, 0)
 | x2 :: xs2, i2 =>
 bif ((zq12.t (x2)) != 0) then
 k (i2, (zq12.t (x2)))
 else
 zq08.g0 e2_1  k xs2 (i2 + 1)
theorem zq08.h0 (e2_1 : (List T_s74))   (k : Int × Int → Option Ω) (hX : ((List.length e2_1 : Nat) : Int) ≤ 9223372036854775807) : ∀ (m : Nat) (i : Int) (a : Unit), 0 ≤ i → i ≤ ((List.length e2_1 : Nat) : Int) → ((List.length e2_1 : Nat) : Int) < m + i → Le (zq08.g0 e2_1  k (List.drop (Int.toNat i) e2_1) i) (iter (zq08.b0 e2_1 (((List.length e2_1 : Nat) : Int))  k) m (i)) :=
 iter_list e2_1 (false, (0, ())) (fun (i2 : Int) (a2 : Unit) => (i2)) (fun xs i2 a2 => zq08.g0 e2_1  k xs i2) (zq08.b0 e2_1 (((List.length e2_1 : Nat) : Int))  k)
 (fun i2 a2 r h0 => (Le.fls h0 (Le.refl _)))
 (fun i2 xs2 a2 r h0 h1 hw ih => (Le.tru h0 (Le.tru h1 (Le.cond (Le.refl _) (ih _ hw ())))))
 hX
def zq08.w (x0 : (List T_s74)) (k : Int × Int → Option Ω) : Option Ω :=
 bif decide (((List.length x0 : Nat) : Int) ≤ 4611686018427387904) then zq08.g0 x0  k x0 0 else none
theorem zq08.ev (fuel : Nat) (x0 : (List T_s74)) (k : AV → Option Ω) : evFn CDEKP (spE (C := CDEKP) [zq12.n] []) (zq08.F fuel) Tryz.f167 (Tryz.f167.body.getD .skip) [(.v (.slice E_s74) (x0)), (.fn 168 [])] k = zq08.sl x0 (fun e2_1 e2_2 => (zq08.M0 fuel e2_1 e2_2  k fuel)) (fun r => k (tupAV (.int .i64) [(.int .i64)] r)) := by kernel_rfl
theorem zq08.le (x0 : (List T_s74)) (k : AV → Option Ω) : Le (zq08.w x0 (fun r => k (tupAV (.int .i64) [(.int .i64)] r))) (zq08.sl x0 (fun e2_1 e2_2 => (zq08.M0 BIG e2_1 e2_2  k BIG)) (fun r => k (tupAV (.int .i64) [(.int .i64)] r))) := by
 have h1 := funext fun (e2_1 : (List T_s74)) => funext fun (e2_2 : Int) => zq08.l0 BIG e2_1 e2_2   k BIG
 rw [h1]
 delta zq08.w zq08.sl
 exact (Le.gd fun hg => zq08.h0 _   _ (le_up (of_decide_eq_true hg)) BIG 0 () (by decide) (zero_le_len _) (big_list (of_decide_eq_true hg)))
def zq08.u (x0 : (List T_s74)) : Option (Int × Int) := zq08.w x0 some
noncomputable def zq08.n : En CDEKP := mkE CDEKP_ok (es := [zq12.n]) (ms := []) (fuel := (zq08.F BIG)) 167 Tryz.f167 [.ai (.slice E_s74), .af0 168] (.int .i64) [(.int .i64)] (fun x {Ω} k => zq08.w x.1 k) (fun x Ω k => leV (zq08.ev BIG x.1 k) (zq08.le x.1 k)) (by kernel_rfl) (by kernel_rfl)
def zq2j.s (x0 : Int) (k : Int → Option Ω) : Option Ω :=
 (bif (decide (x0 < 0)) then some (true, ()) else some ((decide (x0 > 4)), ())).bind fun j1 =>
 bif j1.1 then
 k 8
 else
 k 0
def zq2j.t (x0 : Int) : Int :=
 let j1 : Bool × Unit := (bif (decide (x0 < 0)) then (true, ()) else ((decide (x0 > 4)), ()))
 bif j1.1 then
 8
 else
 0
theorem zq2j.v (x0 : Int) (k : Int → Option Ω) : zq2j.s x0 k = k (zq2j.t x0) := by
 delta zq2j.s zq2j.t; exact (join_tot (cond_some rfl rfl) (cond_tot rfl rfl))
noncomputable def zq2j.n : En CDEKP := mkT CDEKP_ok (es := []) (ms := []) (fuel := ⟨1, fun r => bif r == 2000001 then [3, 4, 5, 6, 7, 5008] else []⟩) 169 Tryz.f169 [.ai (.int .i64)] (.int .i64) [] (fun x {Ω} k => zq2j.s x.1 k) (fun x => zq2j.t x.1) (fun x Ω k => by kernel_rfl) (fun x => zq2j.v x.1 some) (by kernel_rfl) (by kernel_rfl)
def zq20.s (x0 : T_s63) (x1 : Int) (x2 : Int) (k : Int → Option Ω) : Option Ω :=
 (bif (decide (x0.1 < 0)) then some (true, ()) else (bif (decide (x0.1 ≥ x1)) then some (true, ()) else (bif (!(zq1j.t x0.2.1)) then some (true, ()) else (bif (decide (x0.2.2.1 < 0)) then some (true, ()) else (bif (decide ((0 : Int) ≤ x2)) then (let v1 : Bool := (decide (x0.2.2.1 ≥ (IntKind.wrap .i64 ((1 : Int) * (2 ^ (min (Int.toNat x2) (IntKind.bits .i64))))))); some (v1, ())) else none))))).bind fun j2 =>
 bif j2.1 then
 k 8
 else
 k 0
def zq20.u (x0 : T_s63) (x1 : Int) (x2 : Int) : Option (Int) := zq20.s x0 x1 x2 some
noncomputable def zq20.n : En CDEKP := mkE CDEKP_ok (es := [zq1j.n]) (ms := []) (fuel := ⟨1, fun r => bif r == 2000001 then [7, 8, 9, 10, 11, 12, 13, 14, 15, 16, 17, 18, 19, 20, 21, 22, 23, 24, 25, 26, 27, 28, 29, 30, 31, 32, 5033] else []⟩) 172 Tryz.f172 [.ai E_s63, .ai (.int .i64), .ai (.int .i64)] (.int .i64) [] (fun x {Ω} k => zq20.s x.1 x.2.1 x.2.2.1 k) (fun x Ω k => Le.of (by kernel_rfl)) (by kernel_rfl) (by kernel_rfl)
def zq3e.s (x0 : T_s63) (x1 : T_s26) (k : Int → Option Ω) : Option Ω :=
 (zq20.u x0 (((List.length x1.1 : Nat) : Int)) (((List.length x1.2.2.1 : Nat) : Int))).bind fun y1 =>
 k y1
def zq3e.u (x0 : T_s63) (x1 : T_s26) : Option (Int) := zq3e.s x0 x1 some
noncomputable def zq3e.n : En CDEKP := mkE CDEKP_ok (es := [zq20.n]) (ms := []) (fuel := ⟨1, fun _ => []⟩) 171 Tryz.f171 [.ai E_s63, .ap E_s26] (.int .i64) [] (fun x {Ω} k => zq3e.s x.1 x.2.1 k) (fun x Ω k => Le.of (by kernel_rfl)) (by kernel_rfl) (by kernel_rfl)
def zq0d.F (fuel : Nat) : Fuel := ⟨fuel, fun r => bif r == 2 then mL 0 24 16773629 else []⟩
noncomputable def zq0d.V (fuel c : Nat) (env : List AV) (L : Heap) (k : Kont Ω) : Option Ω := evCode CDEKP (spE (C := CDEKP) [zq3e.n] []) (zq0d.F fuel) (pCo c Tryz.f170) env L k
def zq0d.E0 (e2_1 : T_s26) (e2_2 : (List T_s63)) (e2_3 : Int) (s2 : Int) : List AV := (dZ 1 ((.fn 171 [(.vp E_s26 e2_1 [])]) :: dZ 7 ((.v (.slice E_s63) (e2_2)) :: (.v (.int .i64) (e2_3)) :: (.v (.int .i64) (s2)) :: dZ 12 ([]))))
def zq0d.H0 (e2_1 : T_s26) (e2_2 : (List T_s63)) (e2_3 : Int) (s2 : Int) : Heap := []
noncomputable def zq0d.M0 (fuel : Nat) (e2_1 : T_s26) (e2_2 : (List T_s63)) (e2_3 : Int)  (k : AV → Option Ω) (m : Nat) (s : Int) : Option Ω := loopK (zq0d.V fuel 37) (mB 24 16773629) [] 0 (blockK 0 (sqK (zq0d.V fuel 7) (finK CDEKP Tryz.f170 k))) m ((zq0d.E0 e2_1 e2_2 e2_3) s) ((zq0d.H0 e2_1 e2_2 e2_3) s)
def zq0d.b0 (e2_1 : T_s26) (e2_2 : (List T_s63)) (e2_3 : Int)   (k : Int × Int → Option Ω) (r2 : Int → Option Ω) (s2 : Int) : Option Ω :=
 bif (decide (s2 < e2_3)) then
 bif (idxOK s2 (List.length e2_2)) then
 (zq3e.u ((List.getD e2_2 (Int.toNat s2) (0, (0, (0, ()))))) e2_1).bind fun y1 =>
 bif (y1 != 0) then
 k (s2, y1)
 else
 r2 ((IntKind.wrap .i64 (s2 + 1)))
 else
 none
 else
 k (0, 0)
theorem zq0d.l0 (fuel : Nat) (e2_1 : T_s26) (e2_2 : (List T_s63)) (e2_3 : Int)  (k : AV → Option Ω) : ∀ m, (zq0d.M0 fuel e2_1 e2_2 e2_3  k m) = iter (zq0d.b0 e2_1 e2_2 e2_3  (fun r => k (tupAV (.int .i64) [(.int .i64)] r))) m :=
 loopK_iter (envOf := (zq0d.E0 e2_1 e2_2 e2_3)) (LOf := (zq0d.H0 e2_1 e2_2 e2_3)) (B := zq0d.b0 e2_1 e2_2 e2_3  (fun r => k (tupAV (.int .i64) [(.int .i64)] r))) (fun R s => by kernel_rfl)
def zq0d.sl (x0 : (List T_s63)) (c1_0 : T_s26) (lp0 : T_s26 → (List T_s63) → Int → Int → Option Ω) (k : Int × Int → Option Ω) : Option Ω :=
 lp0 c1_0 x0 (((List.length x0 : Nat) : Int)) (0)
def zq0d.g0 (e2_1 : T_s26) (e2_2 : (List T_s63))  (k : Int × Int → Option Ω) : List T_s63 → Int → Option Ω
 | [], i2 =>
 k (0, 0)
 | x2 :: xs2, i2 =>
 (zq3e.u (x2) e2_1).bind fun y1 =>
 bif (y1 != 0) then
 k (i2, y1)
 else
 zq0d.g0 e2_1 e2_2  k xs2 (i2 + 1)
theorem zq0d.h0 (e2_1 : T_s26) (e2_2 : (List T_s63))   (k : Int × Int → Option Ω) (hX : ((List.length e2_2 : Nat) : Int) ≤ 9223372036854775807) : ∀ (m : Nat) (i : Int) (a : Unit), 0 ≤ i → i ≤ ((List.length e2_2 : Nat) : Int) → ((List.length e2_2 : Nat) : Int) < m + i → Le (zq0d.g0 e2_1 e2_2  k (List.drop (Int.toNat i) e2_2) i) (iter (zq0d.b0 e2_1 e2_2 (((List.length e2_2 : Nat) : Int))  k) m (i)) :=
 iter_list e2_2 (0, (0, (0, ()))) (fun (i2 : Int) (a2 : Unit) => (i2)) (fun xs i2 a2 => zq0d.g0 e2_1 e2_2  k xs i2) (zq0d.b0 e2_1 e2_2 (((List.length e2_2 : Nat) : Int))  k)
 (fun i2 a2 r h0 => (Le.fls h0 (Le.refl _)))
 (fun i2 xs2 a2 r h0 h1 hw ih => (Le.tru h0 (Le.tru h1 (Le.bnd fun y1 => (Le.cond (Le.refl _) (ih _ hw ()))))))
 hX
def zq0d.w (x0 : (List T_s63)) (c1_0 : T_s26) (k : Int × Int → Option Ω) : Option Ω :=
 bif decide (((List.length x0 : Nat) : Int) ≤ 4611686018427387904) then zq0d.g0 c1_0 x0  k x0 0 else none
theorem zq0d.ev (fuel : Nat) (x0 : (List T_s63)) (c1_0 : T_s26) (k : AV → Option Ω) : evFn CDEKP (spE (C := CDEKP) [zq3e.n] []) (zq0d.F fuel) Tryz.f170 (Tryz.f170.body.getD .skip) [(.v (.slice E_s63) (x0)), (.fn 171 [(.vp E_s26 c1_0 [])])] k = zq0d.sl x0 c1_0 (fun e2_1 e2_2 e2_3 => (zq0d.M0 fuel e2_1 e2_2 e2_3  k fuel)) (fun r => k (tupAV (.int .i64) [(.int .i64)] r)) := by kernel_rfl
theorem zq0d.le (x0 : (List T_s63)) (c1_0 : T_s26) (k : AV → Option Ω) : Le (zq0d.w x0 c1_0 (fun r => k (tupAV (.int .i64) [(.int .i64)] r))) (zq0d.sl x0 c1_0 (fun e2_1 e2_2 e2_3 => (zq0d.M0 BIG e2_1 e2_2 e2_3  k BIG)) (fun r => k (tupAV (.int .i64) [(.int .i64)] r))) := by
 have h1 := funext fun (e2_1 : T_s26) => funext fun (e2_2 : (List T_s63)) => funext fun (e2_3 : Int) => zq0d.l0 BIG e2_1 e2_2 e2_3   k BIG
 rw [h1]
 delta zq0d.w zq0d.sl
 exact (Le.gd fun hg => zq0d.h0 _ _   _ (le_up (of_decide_eq_true hg)) BIG 0 () (by decide) (zero_le_len _) (big_list (of_decide_eq_true hg)))
def zq0d.u (x0 : (List T_s63)) (c1_0 : T_s26) : Option (Int × Int) := zq0d.w x0 c1_0 some
noncomputable def zq0d.n : En CDEKP := mkE CDEKP_ok (es := [zq3e.n]) (ms := []) (fuel := (zq0d.F BIG)) 170 Tryz.f170 [.ai (.slice E_s63), .af1 171 E_s26] (.int .i64) [(.int .i64)] (fun x {Ω} k => zq0d.w x.1 x.2.1 k) (fun x Ω k => leV (zq0d.ev BIG x.1 x.2.1 k) (zq0d.le x.1 x.2.1 k)) (by kernel_rfl) (by kernel_rfl)
def zq2z.s (x0 : T_s26) (x1 : Int) (k : Int × Int → Option Ω) : Option Ω :=
 bif (x1 == 1) then
 bif ((zq1w.t (((List.length x0.1 : Nat) : Int)) 1 8) != 0) then
 k (0, (zq1w.t (((List.length x0.1 : Nat) : Int)) 1 8))
 else
 (zq0a.u x0.1).bind fun y1 =>
 k (y1.1, y1.2)
 else
 bif (x1 == 2) then
 bif ((zq1w.t (((List.length x0.2.1 : Nat) : Int)) 0 8) != 0) then
 k (0, (zq1w.t (((List.length x0.2.1 : Nat) : Int)) 0 8))
 else
 (zq0b.u x0.2.1).bind fun y2 =>
 k (y2.1, y2.2)
 else
 bif (x1 == 3) then
 bif ((zq1w.t (((List.length x0.2.2.1 : Nat) : Int)) 0 8) != 0) then
 k (0, (zq1w.t (((List.length x0.2.2.1 : Nat) : Int)) 0 8))
 else
 (zq08.u x0.2.2.1).bind fun y3 =>
 k (y3.1, y3.2)
 else
 bif (x1 == 4) then
 k (0, (zq2j.t x0.2.2.2.1))
 else
 bif ((zq1w.t (((List.length x0.2.2.2.2.1 : Nat) : Int)) 1 16) != 0) then
 k (0, (zq1w.t (((List.length x0.2.2.2.2.1 : Nat) : Int)) 1 16))
 else
 (zq0d.u x0.2.2.2.2.1 x0).bind fun y4 =>
 k (y4.1, y4.2)
def zq2z.u (x0 : T_s26) (x1 : Int) : Option (Int × Int) := zq2z.s x0 x1 some
noncomputable def zq2z.n : En CDEKP := mkE CDEKP_ok (es := [zq1w.n, zq0a.n, zq0b.n, zq08.n, zq2j.n, zq0d.n]) (ms := []) (fuel := ⟨1, fun _ => []⟩) 92 Tryz.f92 [.ai E_s26, .ai (.int .i64)] (.int .i64) [(.int .i64)] (fun x {Ω} k => zq2z.s x.1 x.2.1 k) (fun x Ω k => Le.of (by kernel_rfl)) (by kernel_rfl) (by kernel_rfl)
def zq1b.F (fuel : Nat) : Fuel := ⟨fuel, fun r => bif r == 2 then mL 0 24 16777193 else []⟩
noncomputable def zq1b.V (fuel c : Nat) (env : List AV) (L : Heap) (k : Kont Ω) : Option Ω := evCode CDEKP (spE (C := CDEKP) [zq2z.n] []) (zq1b.F fuel) (pCo c Tryz.f22) env L k
def zq1b.E0 (e2_1 : T_s26) (s2 : Int) : List AV := (dZ 1 ((.ref 0 []) :: (.ref 1 []) :: dZ 1 ((.v (.int .i64) (s2)) :: dZ 19 ([]))))
def zq1b.H0 (e2_1 : T_s26) (s2 : Int) : Heap := [(.box E_s26 e2_1 false), (.box E_s81 (0, (0, ())) false)]
noncomputable def zq1b.M0 (fuel : Nat) (e2_1 : T_s26)  (k : AV → Option Ω) (m : Nat) (s : Int) : Option Ω := loopK (zq1b.V fuel 37) (mB 24 16777193) [] 2 (blockK 0 (sqK (zq1b.V fuel 7) (finK CDEKP Tryz.f22 k))) m ((zq1b.E0 e2_1) s) ((zq1b.H0 e2_1) s)
def zq1b.b0 (e2_1 : T_s26)   (k : T_s81 × Int → Option Ω) (r2 : Int → Option Ω) (s2 : Int) : Option Ω :=
 bif (decide (s2 ≤ 5)) then
 (zq2z.u e2_1 s2).bind fun y1 =>
 bif (y1.2 != 0) then
 k ((s2, (y1.1, ())), y1.2)
 else
 r2 ((IntKind.wrap .i64 (s2 + 1)))
 else
 k ((0, (0, ())), 0)
theorem zq1b.l0 (fuel : Nat) (e2_1 : T_s26)  (k : AV → Option Ω) : ∀ m, (zq1b.M0 fuel e2_1  k m) = iter (zq1b.b0 e2_1  (fun r => k (tupAV E_s81 [(.int .i64)] r))) m :=
 loopK_iter (envOf := (zq1b.E0 e2_1)) (LOf := (zq1b.H0 e2_1)) (B := zq1b.b0 e2_1  (fun r => k (tupAV E_s81 [(.int .i64)] r))) (fun R s => by kernel_rfl)
def zq1b.sl (x0 : T_s26) (lp0 : T_s26 → Int → Option Ω) (k : T_s81 × Int → Option Ω) : Option Ω :=
 lp0 x0 (1)
def zq1b.g0 (e2_1 : T_s26)  (k : T_s81 × Int → Option Ω) : Nat → Int → Option Ω
 | 0, i2 =>
 k ((0, (0, ())), 0)
 | d2 + 1, i2 =>
 (zq2z.u e2_1 i2).bind fun y1 =>
 bif (y1.2 != 0) then
 k ((i2, (y1.1, ())), y1.2)
 else
 zq1b.g0 e2_1  k d2 (i2 + 1)
theorem zq1b.h0 (e2_1 : T_s26)   (k : T_s81 × Int → Option Ω) (hN : ((5 : Int) + 1) ≤ 9223372036854775807) : ∀ (m : Nat) (i : Int) (a : Unit), -9223372036854775808 ≤ i → Int.toNat (((5 : Int) + 1) - i) < m → Le (zq1b.g0 e2_1  k (Int.toNat (((5 : Int) + 1) - i)) i) (iter (zq1b.b0 e2_1  k) m (i)) :=
 iter_count ((5 : Int) + 1) (fun i2 => (decide (i2 ≤ 5))) (fun i => le_lt1 i _) (fun (i2 : Int) (a2 : Unit) => (i2)) (fun xs i2 a2 => zq1b.g0 e2_1  k xs i2) (zq1b.b0 e2_1  k)
 (fun i2 a2 r h0 => (Le.fls h0 (Le.refl _)))
 (fun i2 d2 a2 r h0 hw ih => (Le.tru h0 (Le.bnd fun y1 => (Le.cond (Le.refl _) (ih _ hw ())))))
 hN
def zq1b.w (x0 : T_s26) (k : T_s81 × Int → Option Ω) : Option Ω :=
 zq1b.g0 x0  k ((Int.toNat ((5 + 1) - 1))) 1
theorem zq1b.ev (fuel : Nat) (x0 : T_s26) (k : AV → Option Ω) : evFn CDEKP (spE (C := CDEKP) [zq2z.n] []) (zq1b.F fuel) Tryz.f22 (Tryz.f22.body.getD .skip) [(.v E_s26 (x0))] k = zq1b.sl x0 (fun e2_1 => (zq1b.M0 fuel e2_1  k fuel)) (fun r => k (tupAV E_s81 [(.int .i64)] r)) := by kernel_rfl
theorem zq1b.le (x0 : T_s26) (k : AV → Option Ω) : Le (zq1b.w x0 (fun r => k (tupAV E_s81 [(.int .i64)] r))) (zq1b.sl x0 (fun e2_1 => (zq1b.M0 BIG e2_1  k BIG)) (fun r => k (tupAV E_s81 [(.int .i64)] r))) := by
 have h1 := funext fun (e2_1 : T_s26) => zq1b.l0 BIG e2_1   k BIG
 rw [h1]
 delta zq1b.w zq1b.sl
 exact (zq1b.h0 _   _ (by decide) BIG 1 () (by decide) (by decide))
def zq1b.u (x0 : T_s26) : Option (T_s81 × Int) := zq1b.w x0 some
noncomputable def zq1b.n : En CDEKP := mkE CDEKP_ok (es := [zq2z.n]) (ms := []) (fuel := (zq1b.F BIG)) 22 Tryz.f22 [.ai E_s26] E_s81 [(.int .i64)] (fun x {Ω} k => zq1b.w x.1 k) (fun x Ω k => leV (zq1b.ev BIG x.1 k) (zq1b.le x.1 k)) (by kernel_rfl) (by kernel_rfl)
def zq3i.t (x0 : Int) (x1 : Int) (x2 : Int) : Int :=
 bif (decide (x0 < x1)) then
 11
 else
 bif (decide (x0 > x2)) then
 5
 else
 0
def zq4j.g0 (e3_1 : Int)  (k : Int → Option Ω) : Nat → Int → Option Ω
 | 0, a3_0 =>
 k a3_0
 | d3 + 1, a3_0 =>
 zq4j.g0 e3_1  k d3 ((IntKind.wrap .i64 (a3_0 * 2)))
def zq4j.w (x0 : Int) (k : Int → Option Ω) : Option Ω :=
 bif (decide (x0 ≤ 4611686018427387904)) then zq4j.g0 x0  k ((Int.toNat (x0 - 0))) 1 else none
def zq4j.u (x0 : Int) : Option (Int) := zq4j.w x0 some
def zq4q.s (x0 : T_s63) (x1 : Int) (x2 : Int) (k : Int → Option Ω) : Option Ω :=
 (bif (decide (x0.1 < 0)) then some (true, ()) else (bif (decide (x0.1 ≥ x1)) then some (true, ()) else (bif (!(zq52.t x0.2.1)) then some (true, ()) else (bif (decide (x0.2.2.1 < 0)) then some (true, ()) else ((zq4j.u x2).bind fun y1 => some ((decide (x0.2.2.1 ≥ y1)), ())))))).bind fun j2 =>
 bif j2.1 then
 k 8
 else
 k 0
def zq4q.u (x0 : T_s63) (x1 : Int) (x2 : Int) : Option (Int) := zq4q.s x0 x1 x2 some
def zq1u.g0 (e5_1 : T_s26)  (k : T_s81 × Int → Option Ω) : Nat → Int → Option Ω
 | 0, i34 =>
 k ((0, (0, ())), 0)
 | d34 + 1, i34 =>
 bif (idxOK i34 (List.length e5_1.2.2.2.2.1)) then
 (zq4q.u ((List.getD e5_1.2.2.2.2.1 (Int.toNat i34) (0, (0, (0, ()))))) (((List.length e5_1.1 : Nat) : Int)) (((List.length e5_1.2.2.1 : Nat) : Int))).bind fun y3 =>
 bif (y3 != 0) then
 k ((5, (i34, ())), y3)
 else
 zq1u.g0 e5_1  k d34 (i34 + 1)
 else
 none
def zq1u.g1 (e5_1 : T_s26)  (k : T_s81 × Int → Option Ω) : Nat → Int → Option Ω
 | 0, i23 =>
 (bif (decide (e5_1.2.2.2.1 < 0)) then some (true, ()) else some ((decide (e5_1.2.2.2.1 > 4)), ())).bind fun j2 =>
 bif j2.1 then
 k ((4, (0, ())), 8)
 else
 bif ((zq3i.t (((List.length e5_1.2.2.2.2.1 : Nat) : Int)) 1 16) != 0) then
 k ((5, (0, ())), (zq3i.t (((List.length e5_1.2.2.2.2.1 : Nat) : Int)) 1 16))
 else
 bif (decide (((List.length e5_1.2.2.2.2.1 : Nat) : Int) ≤ 4611686018427387904)) then zq1u.g0 e5_1  k ((Int.toNat (((List.length e5_1.2.2.2.2.1 : Nat) : Int) - 0))) 0 else none
 | d23 + 1, i23 =>
 bif (idxOK i23 (List.length e5_1.2.2.1)) then
 bif ((zq4n.t ((List.getD e5_1.2.2.1 (Int.toNat i23) (false, (0, ()))))) != 0) then
 k ((3, (i23, ())), (zq4n.t ((List.getD e5_1.2.2.1 (Int.toNat i23) (false, (0, ()))))))
 else
 zq1u.g1 e5_1  k d23 (i23 + 1)
 else
 none
def zq1u.g2 (e5_1 : T_s26)  (k : T_s81 × Int → Option Ω) : Nat → Int → Option Ω
 | 0, i14 =>
 bif ((zq3i.t (((List.length e5_1.2.2.1 : Nat) : Int)) 0 8) != 0) then
 k ((3, (0, ())), (zq3i.t (((List.length e5_1.2.2.1 : Nat) : Int)) 0 8))
 else
 bif (decide (((List.length e5_1.2.2.1 : Nat) : Int) ≤ 4611686018427387904)) then zq1u.g1 e5_1  k ((Int.toNat (((List.length e5_1.2.2.1 : Nat) : Int) - 0))) 0 else none
 | d14 + 1, i14 =>
 bif (idxOK i14 (List.length e5_1.2.1)) then
 bif ((zq4v.t ((List.getD e5_1.2.1 (Int.toNat i14) (0, (0, (0, (0, ()))))))) != 0) then
 k ((2, (i14, ())), (zq4v.t ((List.getD e5_1.2.1 (Int.toNat i14) (0, (0, (0, (0, ()))))))))
 else
 zq1u.g2 e5_1  k d14 (i14 + 1)
 else
 none
def zq1u.g3 (e5_1 : T_s26)  (k : T_s81 × Int → Option Ω) : Nat → Int → Option Ω
 | 0, i5 =>
 bif ((zq3i.t (((List.length e5_1.2.1 : Nat) : Int)) 0 8) != 0) then
 k ((2, (0, ())), (zq3i.t (((List.length e5_1.2.1 : Nat) : Int)) 0 8))
 else
 bif (decide (((List.length e5_1.2.1 : Nat) : Int) ≤ 4611686018427387904)) then zq1u.g2 e5_1  k ((Int.toNat (((List.length e5_1.2.1 : Nat) : Int) - 0))) 0 else none
 | d5 + 1, i5 =>
 bif (idxOK i5 (List.length e5_1.1)) then
 (zq2w.u ((List.getD e5_1.1 (Int.toNat i5) []))).bind fun y1 =>
 bif (y1.2 != 0) then
 k ((1, (i5, ())), y1.2)
 else
 zq1u.g3 e5_1  k d5 (i5 + 1)
 else
 none
def zq1u.w (x0 : T_s26) (k : T_s81 × Int → Option Ω) : Option Ω :=
 bif ((zq3i.t (((List.length x0.1 : Nat) : Int)) 1 8) != 0) then
 k ((1, (0, ())), (zq3i.t (((List.length x0.1 : Nat) : Int)) 1 8))
 else
 bif (decide (((List.length x0.1 : Nat) : Int) ≤ 4611686018427387904)) then zq1u.g3 x0  k ((Int.toNat (((List.length x0.1 : Nat) : Int) - 0))) 0 else none
def zq1u.u (x0 : T_s26) : Option (T_s81 × Int) := zq1u.w x0 some
def zq0m.F (fuel : Nat) : Fuel := ⟨fuel, fun r => bif r == 19 then mL 0 101 2535301087119655332822573382843 else bif r == 13 then mL 0 101 2535301200456450921694058512315 else []⟩
noncomputable def zq0m.V (fuel c : Nat) (env : List AV) (L : Heap) (k : Kont Ω) : Option Ω := evCode CDEKP (spE (C := CDEKP) [zq1b.n, zq4i.n, zq0y.n, zq14.n, zq0x.n, zq34.n] []) (zq0m.F fuel) (pCo c Tryz.f8) env L k
def zq0m.E0 (e19_1 : Int) (e13_1 : (List T_s63)) (e13_2 : Int) (e19_2 : Int) (e13_3 : T_s26) (e13_4 : T_s81) (e19_3 : T_s63) (s19 : Int × T_s35) : List AV := (dZ 2 ((.ref 1 []) :: dZ 3 ((.ref 4 []) :: dZ 1 ((.v (.int .i64) (e19_1)) :: (.ref 6 []) :: dZ 40 ((.v (.slice E_s63) (e13_1)) :: (.v (.int .i64) (e13_2)) :: (.v (.int .i64) (e19_1)) :: dZ 22 ((.v (.int .i64) (e19_2)) :: (.v (.int .i64) (s19.1)) :: dZ 24 ([])))))))
def zq0m.H0 (e19_1 : Int) (e13_1 : (List T_s63)) (e13_2 : Int) (e19_2 : Int) (e13_3 : T_s26) (e13_4 : T_s81) (e19_3 : T_s63) (s19 : Int × T_s35) : Heap := [(.box E_s26 e13_3 false), (.box E_s35 (0, ([], ([], ([], ([], ([], ())))))) false), (.box E_s81 e13_4 false), .resv, (.lbx E_s35 s19.2 [(5, some 5)]), (.row 122 E_s63 [] false), (.box E_s63 e19_3 false)]
noncomputable def zq0m.M0 (fuel : Nat) (e19_1 : Int) (e13_1 : (List T_s63)) (e13_2 : Int) (e19_2 : Int) (e13_3 : T_s26) (e13_4 : T_s81) (e19_3 : T_s63) (R13 : List AV → Heap → Option Ω) (k : AV → Option Ω) (m : Nat) (s : Int × T_s35) : Option Ω := loopK (zq0m.V fuel 642239) (mB 101 2535301087119655332822573382843) [] 7 (blockK 2 (blockK 1 (sqK (zq0m.V fuel 15551) (loopC R13 (mB 101 2535301200456450921694058512315) [] 6 (blockK 0 (sqK (zq0m.V fuel 255) (finK CDEKP Tryz.f8 k))))))) m ((zq0m.E0 e19_1 e13_1 e13_2 e19_2 e13_3 e13_4 e19_3) s) ((zq0m.H0 e19_1 e13_1 e13_2 e19_2 e13_3 e13_4 e19_3) s)
def zq0m.E1 (e13_1 : (List T_s63)) (e13_2 : Int) (e13_3 : T_s26) (e13_4 : T_s81) (s13 : Int × T_s35) : List AV := (dZ 2 ((.ref 1 []) :: dZ 3 ((.ref 4 []) :: dZ 43 ((.v (.slice E_s63) (e13_1)) :: (.v (.int .i64) (e13_2)) :: (.v (.int .i64) (s13.1)) :: dZ 48 ([])))))
def zq0m.H1 (e13_1 : (List T_s63)) (e13_2 : Int) (e13_3 : T_s26) (e13_4 : T_s81) (s13 : Int × T_s35) : Heap := [(.box E_s26 e13_3 false), (.box E_s35 (0, ([], ([], ([], ([], ([], ())))))) false), (.box E_s81 e13_4 false), .resv, (.lbx E_s35 s13.2 [(5, some 5)]), (.row 122 E_s63 [] false)]
noncomputable def zq0m.M1 (fuel : Nat) (e13_1 : (List T_s63)) (e13_2 : Int) (e13_3 : T_s26) (e13_4 : T_s81)  (k : AV → Option Ω) (m : Nat) (s : Int × T_s35) : Option Ω := loopK (zq0m.V fuel 1215) (mB 101 2535301200456450921694058512315) [] 6 (blockK 0 (sqK (zq0m.V fuel 255) (finK CDEKP Tryz.f8 k))) m ((zq0m.E1 e13_1 e13_2 e13_3 e13_4) s) ((zq0m.H1 e13_1 e13_2 e13_3 e13_4) s)
def zq0m.b0 (e19_1 : Int) (e13_1 : (List T_s63)) (e13_2 : Int) (e19_2 : Int) (e13_3 : T_s26) (e13_4 : T_s81) (e19_3 : T_s63) (r13 : Int × T_s35 → Option Ω)  (k : T_s35 × Int → Option Ω) (r19 : Int × T_s35 → Option Ω) (s19 : Int × T_s35) : Option Ω :=
 bif (decide (s19.1 < e19_2)) then
 bif (decide ((0 : Int) ≤ s19.1)) then
 let v6 : Int := (IntKind.wrap .i64 (BitVec.ofInt (IntKind.bits .i64) (Int.fdiv e19_3.2.2.1 (2 ^ (min (Int.toNat s19.1) (IntKind.bits .i64)))) &&& BitVec.ofInt (IntKind.bits .i64) 1).toNat)
 bif (v6 == 0) then
 r19 ((IntKind.wrap .i64 (s19.1 + 1)), s19.2)
 else
 (zq34.u s19.2.2.2.2.1 s19.1 e19_1).bind fun y7 =>
 bif (y7.2 != 0) then
 k ((0, ([], ([], ([], ([], ([], ())))))), y7.2)
 else
 r19 ((IntKind.wrap .i64 (s19.1 + 1)), (s19.2.1, (s19.2.2.1, (s19.2.2.2.1, (y7.1, s19.2.2.2.2.2)))))
 else
 none
 else
 r13 ((IntKind.wrap .i64 (e19_1 + 1)), s19.2)
def zq0m.b1 (e13_1 : (List T_s63)) (e13_2 : Int) (e13_3 : T_s26) (e13_4 : T_s81)  (lp0 : Int → (List T_s63) → Int → Int → T_s26 → T_s81 → T_s63 → Int × T_s35 → Option Ω) (k : T_s35 × Int → Option Ω) (r13 : Int × T_s35 → Option Ω) (s13 : Int × T_s35) : Option Ω :=
 bif (decide (s13.1 < e13_2)) then
 bif (idxOK s13.1 (List.length e13_1)) then
 (zq0x.u s13.2.2.1 ((List.getD e13_1 (Int.toNat s13.1) (0, (0, (0, ())))).1) ((List.getD e13_1 (Int.toNat s13.1) (0, (0, (0, ())))).2.1)).bind fun y5 =>
 bif (y5.2.2 != 0) then
 k ((0, ([], ([], ([], ([], ([], ())))))), y5.2.2)
 else
 lp0 s13.1 e13_1 e13_2 (((List.length s13.2.2.2.2.1 : Nat) : Int)) e13_3 e13_4 ((List.getD e13_1 (Int.toNat s13.1) (0, (0, (0, ()))))) (0, (s13.2.1, (y5.1, s13.2.2.2)))
 else
 none
 else
 let v8 : T_s35 := (s13.2.1, (s13.2.2.1, (s13.2.2.2.1, (s13.2.2.2.2.1, (s13.2.2.2.2.2.1, ([], s13.2.2.2.2.2.2.2))))))
 k (v8, 0)
def zq0m.B1 (fuel : Nat) (e13_1 : (List T_s63)) (e13_2 : Int) (e13_3 : T_s26) (e13_4 : T_s81)  (k : T_s35 × Int → Option Ω) (r13 : Int × T_s35 → Option Ω) (s13 : Int × T_s35) : Option Ω := zq0m.b1 e13_1 e13_2 e13_3 e13_4  (fun e19_1 e13_1 e13_2 e19_2 e13_3 e13_4 e19_3 => (iter (zq0m.b0 e19_1 e13_1 e13_2 e19_2 e13_3 e13_4 e19_3 r13 k) fuel)) k r13 s13
theorem zq0m.l0 (fuel : Nat) (e19_1 : Int) (e13_1 : (List T_s63)) (e13_2 : Int) (e19_2 : Int) (e13_3 : T_s26) (e13_4 : T_s81) (e19_3 : T_s63) (R13 : List AV → Heap → Option Ω) (k : AV → Option Ω) : ∀ m, (zq0m.M0 fuel e19_1 e13_1 e13_2 e19_2 e13_3 e13_4 e19_3 R13 k m) = iter (zq0m.b0 e19_1 e13_1 e13_2 e19_2 e13_3 e13_4 e19_3 (fun s13 => R13 ((zq0m.E1 e13_1 e13_2 e13_3 e13_4) s13) ((zq0m.H1 e13_1 e13_2 e13_3 e13_4) s13)) (fun r => k (tupAV E_s35 [(.int .i64)] r))) m :=
 loopK_iter (envOf := (zq0m.E0 e19_1 e13_1 e13_2 e19_2 e13_3 e13_4 e19_3)) (LOf := (zq0m.H0 e19_1 e13_1 e13_2 e19_2 e13_3 e13_4 e19_3)) (B := zq0m.b0 e19_1 e13_1 e13_2 e19_2 e13_3 e13_4 e19_3 (fun s13 => R13 ((zq0m.E1 e13_1 e13_2 e13_3 e13_4) s13) ((zq0m.H1 e13_1 e13_2 e13_3 e13_4) s13)) (fun r => k (tupAV E_s35 [(.int .i64)] r))) (fun R s => by kernel_rfl)
theorem zq0m.l1 (fuel : Nat) (e13_1 : (List T_s63)) (e13_2 : Int) (e13_3 : T_s26) (e13_4 : T_s81)  (k : AV → Option Ω) : ∀ m, (zq0m.M1 fuel e13_1 e13_2 e13_3 e13_4  k m) = iter (zq0m.B1 fuel e13_1 e13_2 e13_3 e13_4  (fun r => k (tupAV E_s35 [(.int .i64)] r))) m :=
 loopK_iter (envOf := (zq0m.E1 e13_1 e13_2 e13_3 e13_4)) (LOf := (zq0m.H1 e13_1 e13_2 e13_3 e13_4)) (B := zq0m.B1 fuel e13_1 e13_2 e13_3 e13_4  (fun r => k (tupAV E_s35 [(.int .i64)] r))) (fun R s => by
 have h0 : zq0m.V fuel 1215 ((zq0m.E1 e13_1 e13_2 e13_3 e13_4) s) ((zq0m.H1 e13_1 e13_2 e13_3 e13_4) s) (loopC R (mB 101 2535301200456450921694058512315) [] 6 (blockK 0 (sqK (zq0m.V fuel 255) (finK CDEKP Tryz.f8 k)))) = zq0m.b1 e13_1 e13_2 e13_3 e13_4  (fun e19_1 e13_1 e13_2 e19_2 e13_3 e13_4 e19_3 => (zq0m.M0 fuel e19_1 e13_1 e13_2 e19_2 e13_3 e13_4 e19_3 R k fuel)) (fun r => k (tupAV E_s35 [(.int .i64)] r)) (fun s => R ((zq0m.E1 e13_1 e13_2 e13_3 e13_4) s) ((zq0m.H1 e13_1 e13_2 e13_3 e13_4) s)) s := by kernel_rfl
 have h1 := funext fun (e19_1 : Int) => funext fun (e13_1 : (List T_s63)) => funext fun (e13_2 : Int) => funext fun (e19_2 : Int) => funext fun (e13_3 : T_s26) => funext fun (e13_4 : T_s81) => funext fun (e19_3 : T_s63) => zq0m.l0 fuel e19_1 e13_1 e13_2 e19_2 e13_3 e13_4 e19_3  R k fuel
 rw [h1] at h0
 exact h0)
def zq0m.sl (x0 : T_s26) (lp1 : (List T_s63) → Int → T_s26 → T_s81 → Int × T_s35 → Option Ω) (k : T_s35 × Int → Option Ω) : Option Ω :=
 (zq1b.u x0).bind fun y1 =>
 bif (y1.2 != 0) then
 k ((0, ([], ([], ([], ([], ([], ())))))), y1.2)
 else
 zq4i.u.bind fun y2 =>
 bif (decide (x0.2.2.2.1 = x0.2.2.2.1) && decide ((0 : Int) ≤ x0.2.2.2.1) && decide (x0.2.2.2.1 ≤ (2147483648 : Int))) then
 (zq0y.u x0.2.1).bind fun y3 =>
 bif (y3.2.2 != 0) then
 k ((0, ([], ([], ([], ([], ([], ())))))), y3.2.2)
 else
 (zq14.u x0.2.2.1).bind fun y4 =>
 bif (y4.2.2 != 0) then
 k ((0, ([], ([], ([], ([], ([], ())))))), y4.2.2)
 else
 lp1 x0.2.2.2.2.1 (((List.length x0.2.2.2.2.1 : Nat) : Int)) x0 y1.1 (0, (0, (y2, (y3.1, (y4.1, ((List.replicate (Int.toNat x0.2.2.2.1) []), ([], ())))))))
 else
 none
def zq0m.g0 (e19_1 : Int) (e13_1 : (List T_s63)) (e13_2 : Int) (e19_2 : Int) (e13_3 : T_s26) (e13_4 : T_s81) (e19_3 : T_s63) (r13 : Int × T_s35 → Option Ω) (k : T_s35 × Int → Option Ω) : Nat → Int → T_s35 → Option Ω
 | 0, i19, a19_1 =>
 r13 ((e19_1 + 1), a19_1)
 | d19 + 1, i19, a19_1 =>
 bif (decide ((0 : Int) ≤ i19)) then
 let v6 : Int := (IntKind.wrap .i64 (BitVec.ofInt (IntKind.bits .i64) (Int.fdiv e19_3.2.2.1 (2 ^ (min (Int.toNat i19) (IntKind.bits .i64)))) &&& BitVec.ofInt (IntKind.bits .i64) 1).toNat)
 bif (v6 == 0) then
 zq0m.g0 e19_1 e13_1 e13_2 e19_2 e13_3 e13_4 e19_3 r13 k d19 (i19 + 1) a19_1
 else
 (zq34.u a19_1.2.2.2.1 i19 e19_1).bind fun y7 =>
 bif (y7.2 != 0) then
 k ((0, ([], ([], ([], ([], ([], ())))))), y7.2)
 else
 zq0m.g0 e19_1 e13_1 e13_2 e19_2 e13_3 e13_4 e19_3 r13 k d19 (i19 + 1) ((a19_1.1, (a19_1.2.1, (a19_1.2.2.1, (y7.1, a19_1.2.2.2.2)))))
 else
 none
theorem zq0m.h0 (e19_1 : Int) (e13_1 : (List T_s63)) (e13_2 : Int) (e19_2 : Int) (e13_3 : T_s26) (e13_4 : T_s81) (e19_3 : T_s63) (r13 : Int × T_s35 → Option Ω) (r13' : Int × T_s35 → Option Ω) (hr13 : ∀ q : T_s35, Le (r13 ((e19_1 + 1), q)) (r13' ((IntKind.wrap .i64 (e19_1 + 1)), q))) (k : T_s35 × Int → Option Ω) (hN : (e19_2 : Int) ≤ 9223372036854775807) : ∀ (m : Nat) (i : Int) (a : T_s35), -9223372036854775808 ≤ i → Int.toNat ((e19_2 : Int) - i) < m → Le (zq0m.g0 e19_1 e13_1 e13_2 e19_2 e13_3 e13_4 e19_3 r13 k (Int.toNat ((e19_2 : Int) - i)) i a) (iter (zq0m.b0 e19_1 e13_1 e13_2 e19_2 e13_3 e13_4 e19_3 r13' k) m (i, a)) :=
 iter_count (e19_2 : Int) (fun i19 => (decide (i19 < e19_2))) (fun i => rfl) (fun (i19 : Int) (a19 : T_s35) => (i19, a19)) (fun xs i19 a19 => zq0m.g0 e19_1 e13_1 e13_2 e19_2 e13_3 e13_4 e19_3 r13 k xs i19 a19) (zq0m.b0 e19_1 e13_1 e13_2 e19_2 e13_3 e13_4 e19_3 r13' k)
 (fun i19 a19 r h0 => (Le.fls h0 (hr13 (a19))))
 (fun i19 d19 a19 r h0 hw ih => (Le.tru h0 (Le.cond (let v6 : Int := (IntKind.wrap .i64 (BitVec.ofInt (IntKind.bits .i64) (Int.fdiv e19_3.2.2.1 (2 ^ (min (Int.toNat i19) (IntKind.bits .i64)))) &&& BitVec.ofInt (IntKind.bits .i64) 1).toNat); (Le.cond (ih _ hw (a19)) (Le.bnd fun y7 => (Le.cond (Le.refl _) (ih _ hw ((a19.1, (a19.2.1, (a19.2.2.1, (y7.1, a19.2.2.2.2)))))))))) Le.nil)))
 hN
def zq0m.g1 (e13_1 : (List T_s63)) (e13_3 : T_s26) (e13_4 : T_s81)  (k : T_s35 × Int → Option Ω) : List T_s63 → Int → T_s35 → Option Ω
 | [], i13, a13_1 =>
 let v8 : T_s35 := (a13_1.1, (a13_1.2.1, (a13_1.2.2.1, (a13_1.2.2.2.1, (a13_1.2.2.2.2.1, ([], a13_1.2.2.2.2.2.2))))))
 k (v8, 0)
 | x13 :: xs13, i13, a13_1 =>
 (zq0x.u a13_1.2.1 (x13.1) (x13.2.1)).bind fun y5 =>
 bif (y5.2.2 != 0) then
 k ((0, ([], ([], ([], ([], ([], ())))))), y5.2.2)
 else
 bif (decide ((((List.length a13_1.2.2.2.1 : Nat) : Int)) ≤ 4611686018427387904)) then zq0m.g0 i13 e13_1 (((List.length e13_1 : Nat) : Int)) (((List.length a13_1.2.2.2.1 : Nat) : Int)) e13_3 e13_4 x13 (fun q => zq0m.g1 e13_1 e13_3 e13_4  k xs13 q.1 q.2) k ((Int.toNat ((((List.length a13_1.2.2.2.1 : Nat) : Int)) - 0))) 0 ((a13_1.1, (y5.1, a13_1.2.2))) else none
theorem zq0m.h1 (e13_1 : (List T_s63)) (e13_3 : T_s26) (e13_4 : T_s81)   (k : T_s35 × Int → Option Ω) (hX : ((List.length e13_1 : Nat) : Int) ≤ 9223372036854775807) : ∀ (m : Nat) (i : Int) (a : T_s35), 0 ≤ i → i ≤ ((List.length e13_1 : Nat) : Int) → ((List.length e13_1 : Nat) : Int) < m + i → Le (zq0m.g1 e13_1 e13_3 e13_4  k (List.drop (Int.toNat i) e13_1) i a) (iter (zq0m.B1 BIG e13_1 (((List.length e13_1 : Nat) : Int)) e13_3 e13_4  k) m (i, a)) :=
 iter_list e13_1 (0, (0, (0, ()))) (fun (i13 : Int) (a13 : T_s35) => (i13, a13)) (fun xs i13 a13 => zq0m.g1 e13_1 e13_3 e13_4  k xs i13 a13) (zq0m.B1 BIG e13_1 (((List.length e13_1 : Nat) : Int)) e13_3 e13_4  k)
 (fun i13 a13 r h0 => (Le.fls h0 (let v8 : T_s35 := (a13.1, (a13.2.1, (a13.2.2.1, (a13.2.2.2.1, (a13.2.2.2.2.1, ([], a13.2.2.2.2.2.2)))))); (Le.refl _))))
 (fun i13 xs13 a13 r h0 h1 hw ih => (Le.tru h0 (Le.tru h1 (Le.bnd fun y5 => (Le.cond (Le.refl _) (Le.gd fun hg => zq0m.h0 _ _ _ _ _ _ _ _ _ (fun q => ih _ hw q) _ (cnt_up hg) BIG 0 ((a13.1, (y5.1, a13.2.2))) (by decide) (cnt_big hg (by decide))))))))
 hX
def zq0m.w (x0 : T_s26) (k : T_s35 × Int → Option Ω) : Option Ω :=
 (zq1b.u x0).bind fun y1 =>
 bif (y1.2 != 0) then
 k ((0, ([], ([], ([], ([], ([], ())))))), y1.2)
 else
 zq4i.u.bind fun y2 =>
 bif (decide (x0.2.2.2.1 = x0.2.2.2.1) && decide ((0 : Int) ≤ x0.2.2.2.1) && decide (x0.2.2.2.1 ≤ (2147483648 : Int))) then
 (zq0y.u x0.2.1).bind fun y3 =>
 bif (y3.2.2 != 0) then
 k ((0, ([], ([], ([], ([], ([], ())))))), y3.2.2)
 else
 (zq14.u x0.2.2.1).bind fun y4 =>
 bif (y4.2.2 != 0) then
 k ((0, ([], ([], ([], ([], ([], ())))))), y4.2.2)
 else
 bif decide (((List.length x0.2.2.2.2.1 : Nat) : Int) ≤ 4611686018427387904) then zq0m.g1 x0.2.2.2.2.1 x0 y1.1  k x0.2.2.2.2.1 0 ((0, (y2, (y3.1, (y4.1, ((List.replicate (Int.toNat x0.2.2.2.1) []), ([], ()))))))) else none
 else
 none
theorem zq0m.ev (fuel : Nat) (x0 : T_s26) (k : AV → Option Ω) : evFn CDEKP (spE (C := CDEKP) [zq1b.n, zq4i.n, zq0y.n, zq14.n, zq0x.n, zq34.n] []) (zq0m.F fuel) Tryz.f8 (Tryz.f8.body.getD .skip) [(.v E_s26 (x0))] k = zq0m.sl x0 (fun e13_1 e13_2 e13_3 e13_4 => (zq0m.M1 fuel e13_1 e13_2 e13_3 e13_4  k fuel)) (fun r => k (tupAV E_s35 [(.int .i64)] r)) := by kernel_rfl
theorem zq0m.le (x0 : T_s26) (k : AV → Option Ω) : Le (zq0m.w x0 (fun r => k (tupAV E_s35 [(.int .i64)] r))) (zq0m.sl x0 (fun e13_1 e13_2 e13_3 e13_4 => (zq0m.M1 BIG e13_1 e13_2 e13_3 e13_4  k BIG)) (fun r => k (tupAV E_s35 [(.int .i64)] r))) := by
 have h2 := funext fun (e13_1 : (List T_s63)) => funext fun (e13_2 : Int) => funext fun (e13_3 : T_s26) => funext fun (e13_4 : T_s81) => zq0m.l1 BIG e13_1 e13_2 e13_3 e13_4   k BIG
 rw [h2]
 delta zq0m.w zq0m.sl
 exact (Le.bnd fun y1 => (Le.cond (Le.refl _) (Le.bnd fun y2 => (Le.cond (Le.bnd fun y3 => (Le.cond (Le.refl _) (Le.bnd fun y4 => (Le.cond (Le.refl _) (Le.gd fun hg => zq0m.h1 _ _ _   _ (le_up (of_decide_eq_true hg)) BIG 0 ((0, (y2, (y3.1, (y4.1, ((List.replicate (Int.toNat x0.2.2.2.1) []), ([], ()))))))) (by decide) (zero_le_len _) (big_list (of_decide_eq_true hg))))))) Le.nil))))
def zq0m.u (x0 : T_s26) : Option (T_s35 × Int) := zq0m.w x0 some
noncomputable def zq0m.n : En CDEKP := mkE CDEKP_ok (es := [zq1b.n, zq4i.n, zq0y.n, zq14.n, zq0x.n, zq34.n]) (ms := []) (fuel := (zq0m.F BIG)) 8 Tryz.f8 [.ai E_s26] E_s35 [(.int .i64)] (fun x {Ω} k => zq0m.w x.1 k) (fun x Ω k => leV (zq0m.ev BIG x.1 k) (zq0m.le x.1 k)) (by kernel_rfl) (by kernel_rfl)
def zq2r.s (x0 : Int) (x1 : Int) (k : Bool → Option Ω) : Option Ω :=
 bif (decide (x0 ≥ 0)) then
 k (decide (x0 < x1))
 else
 k false
def zq2r.t (x0 : Int) (x1 : Int) : Bool :=
 bif (decide (x0 ≥ 0)) then
 (decide (x0 < x1))
 else
 false
theorem zq2r.v (x0 : Int) (x1 : Int) (k : Bool → Option Ω) : zq2r.s x0 x1 k = k (zq2r.t x0 x1) := by
 delta zq2r.s zq2r.t; exact (cond_tot rfl rfl)
noncomputable def zq2r.n : En CDEKP := mkT CDEKP_ok (es := []) (ms := []) (fuel := ⟨1, fun _ => []⟩) 126 Tryz.f126 [.ai (.int .i64), .ai (.int .i64)] .bool [] (fun x {Ω} k => zq2r.s x.1 x.2.1 k) (fun x => zq2r.t x.1 x.2.1) (fun x Ω k => by kernel_rfl) (fun x => zq2r.v x.1 x.2.1 some) (by kernel_rfl) (by kernel_rfl)
def zq0n.F (fuel : Nat) : Fuel := ⟨fuel, fun r => bif r == 4 then mL 0 48 281474976681983 else bif r == 2000009 then [40, 41, 42, 43, 44, 45, 5046] else bif r == 2000006 then [18, 19, 20, 21, 22, 23, 24, 25, 26, 27, 28, 29, 30, 31, 32, 5033] else []⟩
noncomputable def zq0n.V (fuel c : Nat) (env : List AV) (L : Heap) (k : Kont Ω) : Option Ω := evCode CDEKP (spE (C := CDEKP) [zq0s.n, zq2r.n, zq1d.n] []) (zq0n.F fuel) (pCo c Tryz.f51) env L k
def zq0n.E0 (e4_1 : (List T_s70)) (e4_2 : Int) (e4_3 : T_s35) (s4 : Int) : List AV := (dZ 12 ((.v (.slice E_s70) (e4_1)) :: (.v (.int .i64) (e4_2)) :: (.v (.int .i64) (s4)) :: dZ 33 ([])))
def zq0n.H0 (e4_1 : (List T_s70)) (e4_2 : Int) (e4_3 : T_s35) (s4 : Int) : Heap := [(.box E_s35 e4_3 false)]
noncomputable def zq0n.M0 (fuel : Nat) (e4_1 : (List T_s70)) (e4_2 : Int) (e4_3 : T_s35)  (k : AV → Option Ω) (m : Nat) (s : Int) : Option Ω := loopK (zq0n.V fuel 75) (mB 48 281474976681983) [] 1 (blockK 0 (sqK (zq0n.V fuel 15) (finK CDEKP Tryz.f51 k))) m ((zq0n.E0 e4_1 e4_2 e4_3) s) ((zq0n.H0 e4_1 e4_2 e4_3) s)
def zq0n.b0 (e4_1 : (List T_s70)) (e4_2 : Int) (e4_3 : T_s35)   (k : Bool → Option Ω) (r4 : Int → Option Ω) (s4 : Int) : Option Ω :=
 bif (decide (s4 < e4_2)) then
 bif (idxOK s4 (List.length e4_1)) then
 let v2 : T_s70 := (List.getD e4_1 (Int.toNat s4) (0, (false, (0, ((0, (false, ((List.replicate 8 0), ((List.replicate 16 0), (0, ((List.replicate 8 0), ())))))), (0, (0, (0, ([], ())))))))))
 (bif (!(zq2r.t v2.2.2.1 8)) then some (true, ()) else (bif (!(zq2r.t v2.2.2.2.2.2.1 512)) then some (true, ()) else some ((!(zq2r.t v2.2.2.2.2.2.2.1 6)), ()))).bind fun j3 =>
 bif j3.1 then
 k false
 else
 (zq1d.u v2.2.2.2.2.2.2.2.1).bind fun y4 =>
 (bif (v2.2.2.2.2.1 == 1) then some ((y4.2 != 0), ()) else some (false, ())).bind fun j5 =>
 bif j5.1 then
 k false
 else
 r4 ((IntKind.wrap .i64 (s4 + 1)))
 else
 none
 else
 k true
theorem zq0n.l0 (fuel : Nat) (e4_1 : (List T_s70)) (e4_2 : Int) (e4_3 : T_s35)  (k : AV → Option Ω) : ∀ m, (zq0n.M0 fuel e4_1 e4_2 e4_3  k m) = iter (zq0n.b0 e4_1 e4_2 e4_3  (fun r => k (tupAV .bool [] r))) m :=
 loopK_iter (envOf := (zq0n.E0 e4_1 e4_2 e4_3)) (LOf := (zq0n.H0 e4_1 e4_2 e4_3)) (B := zq0n.b0 e4_1 e4_2 e4_3  (fun r => k (tupAV .bool [] r))) (fun R s => by kernel_rfl)
def zq0n.sl (x0 : T_s35) (lp0 : (List T_s70) → Int → T_s35 → Int → Option Ω) (k : Bool → Option Ω) : Option Ω :=
 (zq0s.u x0.2.1).bind fun y1 =>
 bif (!y1) then
 k false
 else
 lp0 x0.2.1 (((List.length x0.2.1 : Nat) : Int)) x0 (0)
def zq0n.g0 (e4_1 : (List T_s70)) (e4_3 : T_s35)  (k : Bool → Option Ω) : List T_s70 → Option Ω
 | [] =>
 k true
 | x4 :: xs4 =>
 let v2 : T_s70 := x4
 (bif (!(zq2r.t v2.2.2.1 8)) then some (true, ()) else (bif (!(zq2r.t v2.2.2.2.2.2.1 512)) then some (true, ()) else some ((!(zq2r.t v2.2.2.2.2.2.2.1 6)), ()))).bind fun j3 =>
 bif j3.1 then
 k false
 else
 (zq1d.u v2.2.2.2.2.2.2.2.1).bind fun y4 =>
 (bif (v2.2.2.2.2.1 == 1) then some ((y4.2 != 0), ()) else some (false, ())).bind fun j5 =>
 bif j5.1 then
 k false
 else
 zq0n.g0 e4_1 e4_3  k xs4
theorem zq0n.h0 (e4_1 : (List T_s70)) (e4_3 : T_s35)   (k : Bool → Option Ω) (hX : ((List.length e4_1 : Nat) : Int) ≤ 9223372036854775807) : ∀ (m : Nat) (i : Int) (a : Unit), 0 ≤ i → i ≤ ((List.length e4_1 : Nat) : Int) → ((List.length e4_1 : Nat) : Int) < m + i → Le (zq0n.g0 e4_1 e4_3  k (List.drop (Int.toNat i) e4_1) ) (iter (zq0n.b0 e4_1 (((List.length e4_1 : Nat) : Int)) e4_3  k) m (i)) :=
 iter_list e4_1 (0, (false, (0, ((0, (false, ((List.replicate 8 0), ((List.replicate 16 0), (0, ((List.replicate 8 0), ())))))), (0, (0, (0, ([], ())))))))) (fun (i4 : Int) (a4 : Unit) => (i4)) (fun xs i4 a4 => zq0n.g0 e4_1 e4_3  k xs ) (zq0n.b0 e4_1 (((List.length e4_1 : Nat) : Int)) e4_3  k)
 (fun i4 a4 r h0 => (Le.fls h0 (Le.refl _)))
 (fun i4 xs4 a4 r h0 h1 hw ih => (Le.tru h0 (Le.tru h1 (let v2 : T_s70 := (List.getD e4_1 (Int.toNat i4) (0, (false, (0, ((0, (false, ((List.replicate 8 0), ((List.replicate 16 0), (0, ((List.replicate 8 0), ())))))), (0, (0, (0, ([], ()))))))))); (Le.bnd fun j3 => (Le.cond (Le.refl _) (Le.bnd fun y4 => (Le.bnd fun j5 => (Le.cond (Le.refl _) (ih _ hw ()))))))))))
 hX
def zq0n.w (x0 : T_s35) (k : Bool → Option Ω) : Option Ω :=
 (zq0s.u x0.2.1).bind fun y1 =>
 bif (!y1) then
 k false
 else
 bif decide (((List.length x0.2.1 : Nat) : Int) ≤ 4611686018427387904) then zq0n.g0 x0.2.1 x0  k x0.2.1  else none
theorem zq0n.ev (fuel : Nat) (x0 : T_s35) (k : AV → Option Ω) : evFn CDEKP (spE (C := CDEKP) [zq0s.n, zq2r.n, zq1d.n] []) (zq0n.F fuel) Tryz.f51 (Tryz.f51.body.getD .skip) [(.v E_s35 (x0))] k = zq0n.sl x0 (fun e4_1 e4_2 e4_3 => (zq0n.M0 fuel e4_1 e4_2 e4_3  k fuel)) (fun r => k (tupAV .bool [] r)) := by kernel_rfl
theorem zq0n.le (x0 : T_s35) (k : AV → Option Ω) : Le (zq0n.w x0 (fun r => k (tupAV .bool [] r))) (zq0n.sl x0 (fun e4_1 e4_2 e4_3 => (zq0n.M0 BIG e4_1 e4_2 e4_3  k BIG)) (fun r => k (tupAV .bool [] r))) := by
 have h1 := funext fun (e4_1 : (List T_s70)) => funext fun (e4_2 : Int) => funext fun (e4_3 : T_s35) => zq0n.l0 BIG e4_1 e4_2 e4_3   k BIG
 rw [h1]
 delta zq0n.w zq0n.sl
 exact (Le.bnd fun y1 => (Le.cond (Le.refl _) (Le.gd fun hg => zq0n.h0 _ _   _ (le_up (of_decide_eq_true hg)) BIG 0 () (by decide) (zero_le_len _) (big_list (of_decide_eq_true hg)))))
def zq0n.u (x0 : T_s35) : Option (Bool) := zq0n.w x0 some
noncomputable def zq0n.n : En CDEKP := mkE CDEKP_ok (es := [zq0s.n, zq2r.n, zq1d.n]) (ms := []) (fuel := (zq0n.F BIG)) 51 Tryz.f51 [.ai E_s35] .bool [] (fun x {Ω} k => zq0n.w x.1 k) (fun x Ω k => leV (zq0n.ev BIG x.1 k) (zq0n.le x.1 k)) (by kernel_rfl) (by kernel_rfl)
def zq09.F (fuel : Nat) : Fuel := ⟨fuel, fun r => bif r == 5 then mL 0 54 18014398274485553 else bif r == 2 then mL 0 54 18014398509367089 else bif r == 2000007 then [31, 32, 33, 34, 35, 36, 37, 38, 39, 5040] else []⟩
noncomputable def zq09.V (fuel c : Nat) (env : List AV) (L : Heap) (k : Kont Ω) : Option Ω := evCode CDEKP (spE (C := CDEKP) [zq27.n] []) (zq09.F fuel) (pCo c Tryz.f128) env L k
def zq09.E0 (e2_1 : Int) (e2_2 : Int) (e5_1 : Int) (e2_3 : (List Int)) (e2_4 : Int) (e5_2 : Int) (e5_3 : (List T_s227)) (e5_4 : Int) (e2_5 : T_s35) (s5 : Int) : List AV := (dZ 1 ((.v (.int .i64) (e2_1)) :: (.v (.int .i64) (e2_2)) :: (.ref 0 []) :: dZ 2 ((.rs 1) :: (.rs 2) :: dZ 1 ((.v (.int .i64) (e5_1)) :: dZ 4 ((.v (.slice (.int .i64)) (e2_3)) :: (.v (.int .i64) (e2_4)) :: (.v (.int .i64) (e5_2)) :: dZ 8 ((.v (.slice E_s227) (e5_3)) :: (.v (.int .i64) (e5_4)) :: (.v (.int .i64) (s5)) :: dZ 26 ([])))))))
def zq09.H0 (e2_1 : Int) (e2_2 : Int) (e5_1 : Int) (e2_3 : (List Int)) (e2_4 : Int) (e5_2 : Int) (e5_3 : (List T_s227)) (e5_4 : Int) (e2_5 : T_s35) (s5 : Int) : Heap := [(.box E_s35 e2_5 false), (.row 3 (.int .i64) [] false), (.row 3 (.int .i64) [] false)]
noncomputable def zq09.M0 (fuel : Nat) (e2_1 : Int) (e2_2 : Int) (e5_1 : Int) (e2_3 : (List Int)) (e2_4 : Int) (e5_2 : Int) (e5_3 : (List T_s227)) (e5_4 : Int) (e2_5 : T_s35) (R2 : List AV → Heap → Option Ω) (k : AV → Option Ω) (m : Nat) (s : Int) : Option Ω := loopK (zq09.V fuel 9829) (mB 54 18014398274485553) [] 3 (blockK 2 (blockK 1 (sqK (zq09.V fuel 485) (loopC R2 (mB 54 18014398509367089) [] 3 (blockK 0 (sqK (zq09.V fuel 7) (finK CDEKP Tryz.f128 k))))))) m ((zq09.E0 e2_1 e2_2 e5_1 e2_3 e2_4 e5_2 e5_3 e5_4 e2_5) s) ((zq09.H0 e2_1 e2_2 e5_1 e2_3 e2_4 e5_2 e5_3 e5_4 e2_5) s)
def zq09.E1 (e2_1 : Int) (e2_2 : Int) (e2_3 : (List Int)) (e2_4 : Int) (e2_5 : T_s35) (s2 : Int) : List AV := (dZ 1 ((.v (.int .i64) (e2_1)) :: (.v (.int .i64) (e2_2)) :: (.ref 0 []) :: dZ 2 ((.rs 1) :: (.rs 2) :: dZ 6 ((.v (.slice (.int .i64)) (e2_3)) :: (.v (.int .i64) (e2_4)) :: (.v (.int .i64) (s2)) :: dZ 37 ([])))))
def zq09.H1 (e2_1 : Int) (e2_2 : Int) (e2_3 : (List Int)) (e2_4 : Int) (e2_5 : T_s35) (s2 : Int) : Heap := [(.box E_s35 e2_5 false), (.row 3 (.int .i64) [] false), (.row 3 (.int .i64) [] false)]
noncomputable def zq09.M1 (fuel : Nat) (e2_1 : Int) (e2_2 : Int) (e2_3 : (List Int)) (e2_4 : Int) (e2_5 : T_s35)  (k : AV → Option Ω) (m : Nat) (s : Int) : Option Ω := loopK (zq09.V fuel 37) (mB 54 18014398509367089) [] 3 (blockK 0 (sqK (zq09.V fuel 7) (finK CDEKP Tryz.f128 k))) m ((zq09.E1 e2_1 e2_2 e2_3 e2_4 e2_5) s) ((zq09.H1 e2_1 e2_2 e2_3 e2_4 e2_5) s)
def zq09.b0 (e2_1 : Int) (e2_2 : Int) (e5_1 : Int) (e2_3 : (List Int)) (e2_4 : Int) (e5_2 : Int) (e5_3 : (List T_s227)) (e5_4 : Int) (e2_5 : T_s35) (r2 : Int → Option Ω)  (k : (List Int) × (List Int) → Option Ω) (r5 : Int → Option Ω) (s5 : Int) : Option Ω :=
 bif (decide (s5 < e5_4)) then
 bif (idxOK s5 (List.length e5_3)) then
 (bif ((List.getD e5_3 (Int.toNat s5) (0, (0, (0, (0, (0, ())))))).1 == e2_1) then some (((List.getD e5_3 (Int.toNat s5) (0, (0, (0, (0, (0, ())))))).2.1 == e2_2), ()) else some (false, ())).bind fun j3 =>
 bif j3.1 then
 none
 else
 r5 ((IntKind.wrap .i64 (s5 + 1)))
 else
 none
 else
 r2 ((IntKind.wrap .i64 (e5_2 + 1)))
def zq09.b1 (e2_1 : Int) (e2_2 : Int) (e2_3 : (List Int)) (e2_4 : Int) (e2_5 : T_s35)  (lp0 : Int → Int → Int → (List Int) → Int → Int → (List T_s227) → Int → T_s35 → Int → Option Ω) (k : (List Int) × (List Int) → Option Ω) (r2 : Int → Option Ω) (s2 : Int) : Option Ω :=
 bif (decide (s2 < e2_4)) then
 bif (idxOK s2 (List.length e2_3)) then
 bif (idxOK (List.getD e2_3 (Int.toNat s2) 0) (List.length e2_5.2.1)) then
 let v2 : (List T_s227) := (List.getD e2_5.2.1 (Int.toNat (List.getD e2_3 (Int.toNat s2) 0)) (0, (false, (0, ((0, (false, ((List.replicate 8 0), ((List.replicate 16 0), (0, ((List.replicate 8 0), ())))))), (0, (0, (0, ([], ()))))))))).2.2.2.2.2.2.2.1
 lp0 e2_1 e2_2 ((List.getD e2_3 (Int.toNat s2) 0)) e2_3 e2_4 s2 v2 (((List.length v2 : Nat) : Int)) e2_5 (0)
 else
 none
 else
 none
 else
 k ([], [])
def zq09.B1 (fuel : Nat) (e2_1 : Int) (e2_2 : Int) (e2_3 : (List Int)) (e2_4 : Int) (e2_5 : T_s35)  (k : (List Int) × (List Int) → Option Ω) (r2 : Int → Option Ω) (s2 : Int) : Option Ω := zq09.b1 e2_1 e2_2 e2_3 e2_4 e2_5  (fun e2_1 e2_2 e5_1 e2_3 e2_4 e5_2 e5_3 e5_4 e2_5 => (iter (zq09.b0 e2_1 e2_2 e5_1 e2_3 e2_4 e5_2 e5_3 e5_4 e2_5 r2 k) fuel)) k r2 s2
theorem zq09.l0 (fuel : Nat) (e2_1 : Int) (e2_2 : Int) (e5_1 : Int) (e2_3 : (List Int)) (e2_4 : Int) (e5_2 : Int) (e5_3 : (List T_s227)) (e5_4 : Int) (e2_5 : T_s35) (R2 : List AV → Heap → Option Ω) (k : AV → Option Ω) : ∀ m, (zq09.M0 fuel e2_1 e2_2 e5_1 e2_3 e2_4 e5_2 e5_3 e5_4 e2_5 R2 k m) = iter (zq09.b0 e2_1 e2_2 e5_1 e2_3 e2_4 e5_2 e5_3 e5_4 e2_5 (fun s2 => R2 ((zq09.E1 e2_1 e2_2 e2_3 e2_4 e2_5) s2) ((zq09.H1 e2_1 e2_2 e2_3 e2_4 e2_5) s2)) (fun r => k (tupAV (.slice (.int .i64)) [(.slice (.int .i64))] r))) m :=
 loopK_iter (envOf := (zq09.E0 e2_1 e2_2 e5_1 e2_3 e2_4 e5_2 e5_3 e5_4 e2_5)) (LOf := (zq09.H0 e2_1 e2_2 e5_1 e2_3 e2_4 e5_2 e5_3 e5_4 e2_5)) (B := zq09.b0 e2_1 e2_2 e5_1 e2_3 e2_4 e5_2 e5_3 e5_4 e2_5 (fun s2 => R2 ((zq09.E1 e2_1 e2_2 e2_3 e2_4 e2_5) s2) ((zq09.H1 e2_1 e2_2 e2_3 e2_4 e2_5) s2)) (fun r => k (tupAV (.slice (.int .i64)) [(.slice (.int .i64))] r))) (fun R s => by kernel_rfl)
theorem zq09.l1 (fuel : Nat) (e2_1 : Int) (e2_2 : Int) (e2_3 : (List Int)) (e2_4 : Int) (e2_5 : T_s35)  (k : AV → Option Ω) : ∀ m, (zq09.M1 fuel e2_1 e2_2 e2_3 e2_4 e2_5  k m) = iter (zq09.B1 fuel e2_1 e2_2 e2_3 e2_4 e2_5  (fun r => k (tupAV (.slice (.int .i64)) [(.slice (.int .i64))] r))) m :=
 loopK_iter (envOf := (zq09.E1 e2_1 e2_2 e2_3 e2_4 e2_5)) (LOf := (zq09.H1 e2_1 e2_2 e2_3 e2_4 e2_5)) (B := zq09.B1 fuel e2_1 e2_2 e2_3 e2_4 e2_5  (fun r => k (tupAV (.slice (.int .i64)) [(.slice (.int .i64))] r))) (fun R s => by
 have h0 : zq09.V fuel 37 ((zq09.E1 e2_1 e2_2 e2_3 e2_4 e2_5) s) ((zq09.H1 e2_1 e2_2 e2_3 e2_4 e2_5) s) (loopC R (mB 54 18014398509367089) [] 3 (blockK 0 (sqK (zq09.V fuel 7) (finK CDEKP Tryz.f128 k)))) = zq09.b1 e2_1 e2_2 e2_3 e2_4 e2_5  (fun e2_1 e2_2 e5_1 e2_3 e2_4 e5_2 e5_3 e5_4 e2_5 => (zq09.M0 fuel e2_1 e2_2 e5_1 e2_3 e2_4 e5_2 e5_3 e5_4 e2_5 R k fuel)) (fun r => k (tupAV (.slice (.int .i64)) [(.slice (.int .i64))] r)) (fun s => R ((zq09.E1 e2_1 e2_2 e2_3 e2_4 e2_5) s) ((zq09.H1 e2_1 e2_2 e2_3 e2_4 e2_5) s)) s := by kernel_rfl
 have h1 := funext fun (e2_1 : Int) => funext fun (e2_2 : Int) => funext fun (e5_1 : Int) => funext fun (e2_3 : (List Int)) => funext fun (e2_4 : Int) => funext fun (e5_2 : Int) => funext fun (e5_3 : (List T_s227)) => funext fun (e5_4 : Int) => funext fun (e2_5 : T_s35) => zq09.l0 fuel e2_1 e2_2 e5_1 e2_3 e2_4 e5_2 e5_3 e5_4 e2_5  R k fuel
 rw [h1] at h0
 exact h0)
def zq09.sl (x0 : T_s35) (x1 : Int) (x2 : Int) (lp1 : Int → Int → (List Int) → Int → T_s35 → Int → Option Ω) (k : (List Int) × (List Int) → Option Ω) : Option Ω :=
 (zq27.u x0.2.1 1).bind fun y1 =>
 lp1 x1 x2 y1 (((List.length y1 : Nat) : Int)) x0 (0)
def zq09.g0 (e2_1 : Int) (e2_2 : Int) (e5_1 : Int) (e2_3 : (List Int)) (e2_4 : Int) (e5_2 : Int) (e5_3 : (List T_s227)) (e2_5 : T_s35) (r2 : Int → Option Ω) (k : (List Int) × (List Int) → Option Ω) : List T_s227 → Option Ω
 | [] =>
 r2 ((e5_2 + 1))
 | x5 :: xs5 =>
 (bif (x5.1 == e2_1) then some ((x5.2.1 == e2_2), ()) else some (false, ())).bind fun j3 =>
 bif j3.1 then
 none
 else
 zq09.g0 e2_1 e2_2 e5_1 e2_3 e2_4 e5_2 e5_3 e2_5 r2 k xs5
theorem zq09.h0 (e2_1 : Int) (e2_2 : Int) (e5_1 : Int) (e2_3 : (List Int)) (e2_4 : Int) (e5_2 : Int) (e5_3 : (List T_s227)) (e2_5 : T_s35) (r2 : Int → Option Ω) (r2' : Int → Option Ω) (hr2 : ∀ q : Unit, Le (r2 ((e5_2 + 1))) (r2' ((IntKind.wrap .i64 (e5_2 + 1))))) (k : (List Int) × (List Int) → Option Ω) (hX : ((List.length e5_3 : Nat) : Int) ≤ 9223372036854775807) : ∀ (m : Nat) (i : Int) (a : Unit), 0 ≤ i → i ≤ ((List.length e5_3 : Nat) : Int) → ((List.length e5_3 : Nat) : Int) < m + i → Le (zq09.g0 e2_1 e2_2 e5_1 e2_3 e2_4 e5_2 e5_3 e2_5 r2 k (List.drop (Int.toNat i) e5_3) ) (iter (zq09.b0 e2_1 e2_2 e5_1 e2_3 e2_4 e5_2 e5_3 (((List.length e5_3 : Nat) : Int)) e2_5 r2' k) m (i)) :=
 iter_list e5_3 (0, (0, (0, (0, (0, ()))))) (fun (i5 : Int) (a5 : Unit) => (i5)) (fun xs i5 a5 => zq09.g0 e2_1 e2_2 e5_1 e2_3 e2_4 e5_2 e5_3 e2_5 r2 k xs ) (zq09.b0 e2_1 e2_2 e5_1 e2_3 e2_4 e5_2 e5_3 (((List.length e5_3 : Nat) : Int)) e2_5 r2' k)
 (fun i5 a5 r h0 => (Le.fls h0 (hr2 ())))
 (fun i5 xs5 a5 r h0 h1 hw ih => (Le.tru h0 (Le.tru h1 (Le.bnd fun j3 => (Le.cond Le.nil (ih _ hw ()))))))
 hX
def zq09.g1 (e2_1 : Int) (e2_2 : Int) (e2_3 : (List Int)) (e2_5 : T_s35)  (k : (List Int) × (List Int) → Option Ω) : List Int → Int → Option Ω
 | [], i2 =>
 k ([], [])
 | x2 :: xs2, i2 =>
 bif (idxOK x2 (List.length e2_5.2.1)) then
 let v2 : (List T_s227) := (List.getD e2_5.2.1 (Int.toNat x2) (0, (false, (0, ((0, (false, ((List.replicate 8 0), ((List.replicate 16 0), (0, ((List.replicate 8 0), ())))))), (0, (0, (0, ([], ()))))))))).2.2.2.2.2.2.2.1
 bif decide (((List.length v2 : Nat) : Int) ≤ 4611686018427387904) then zq09.g0 e2_1 e2_2 x2 e2_3 (((List.length e2_3 : Nat) : Int)) i2 v2 e2_5 (fun q => zq09.g1 e2_1 e2_2 e2_3 e2_5  k xs2 q) k v2  else none
 else
 none
theorem zq09.h1 (e2_1 : Int) (e2_2 : Int) (e2_3 : (List Int)) (e2_5 : T_s35)   (k : (List Int) × (List Int) → Option Ω) (hX : ((List.length e2_3 : Nat) : Int) ≤ 9223372036854775807) : ∀ (m : Nat) (i : Int) (a : Unit), 0 ≤ i → i ≤ ((List.length e2_3 : Nat) : Int) → ((List.length e2_3 : Nat) : Int) < m + i → Le (zq09.g1 e2_1 e2_2 e2_3 e2_5  k (List.drop (Int.toNat i) e2_3) i) (iter (zq09.B1 BIG e2_1 e2_2 e2_3 (((List.length e2_3 : Nat) : Int)) e2_5  k) m (i)) :=
 iter_list e2_3 0 (fun (i2 : Int) (a2 : Unit) => (i2)) (fun xs i2 a2 => zq09.g1 e2_1 e2_2 e2_3 e2_5  k xs i2) (zq09.B1 BIG e2_1 e2_2 e2_3 (((List.length e2_3 : Nat) : Int)) e2_5  k)
 (fun i2 a2 r h0 => (Le.fls h0 (Le.refl _)))
 (fun i2 xs2 a2 r h0 h1 hw ih => (Le.tru h0 (Le.tru h1 (Le.cond (let v2 : (List T_s227) := (List.getD e2_5.2.1 (Int.toNat (List.getD e2_3 (Int.toNat i2) 0)) (0, (false, (0, ((0, (false, ((List.replicate 8 0), ((List.replicate 16 0), (0, ((List.replicate 8 0), ())))))), (0, (0, (0, ([], ()))))))))).2.2.2.2.2.2.2.1; (Le.gd fun hg => zq09.h0 _ _ _ _ _ _ _ _ _ _ (fun q => ih _ hw q) _ (le_up (of_decide_eq_true hg)) BIG 0 () (by decide) (zero_le_len _) (big_list (of_decide_eq_true hg)))) Le.nil))))
 hX
def zq09.w (x0 : T_s35) (x1 : Int) (x2 : Int) (k : (List Int) × (List Int) → Option Ω) : Option Ω :=
 (zq27.u x0.2.1 1).bind fun y1 =>
 bif decide (((List.length y1 : Nat) : Int) ≤ 4611686018427387904) then zq09.g1 x1 x2 y1 x0  k y1 0 else none
theorem zq09.ev (fuel : Nat) (x0 : T_s35) (x1 : Int) (x2 : Int) (k : AV → Option Ω) : evFn CDEKP (spE (C := CDEKP) [zq27.n] []) (zq09.F fuel) Tryz.f128 (Tryz.f128.body.getD .skip) [(.v E_s35 (x0)), (.v (.int .i64) (x1)), (.v (.int .i64) (x2))] k = zq09.sl x0 x1 x2 (fun e2_1 e2_2 e2_3 e2_4 e2_5 => (zq09.M1 fuel e2_1 e2_2 e2_3 e2_4 e2_5  k fuel)) (fun r => k (tupAV (.slice (.int .i64)) [(.slice (.int .i64))] r)) := by kernel_rfl
theorem zq09.le (x0 : T_s35) (x1 : Int) (x2 : Int) (k : AV → Option Ω) : Le (zq09.w x0 x1 x2 (fun r => k (tupAV (.slice (.int .i64)) [(.slice (.int .i64))] r))) (zq09.sl x0 x1 x2 (fun e2_1 e2_2 e2_3 e2_4 e2_5 => (zq09.M1 BIG e2_1 e2_2 e2_3 e2_4 e2_5  k BIG)) (fun r => k (tupAV (.slice (.int .i64)) [(.slice (.int .i64))] r))) := by
 have h2 := funext fun (e2_1 : Int) => funext fun (e2_2 : Int) => funext fun (e2_3 : (List Int)) => funext fun (e2_4 : Int) => funext fun (e2_5 : T_s35) => zq09.l1 BIG e2_1 e2_2 e2_3 e2_4 e2_5   k BIG
 rw [h2]
 delta zq09.w zq09.sl
 exact (Le.bnd fun y1 => (Le.gd fun hg => zq09.h1 _ _ _ _   _ (le_up (of_decide_eq_true hg)) BIG 0 () (by decide) (zero_le_len _) (big_list (of_decide_eq_true hg))))
def zq09.u (x0 : T_s35) (x1 : Int) (x2 : Int) : Option ((List Int) × (List Int)) := zq09.w x0 x1 x2 some
noncomputable def zq09.n : En CDEKP := mkE CDEKP_ok (es := [zq27.n]) (ms := []) (fuel := (zq09.F BIG)) 128 Tryz.f128 [.ai E_s35, .ai (.int .i64), .ai (.int .i64)] (.slice (.int .i64)) [(.slice (.int .i64))] (fun x {Ω} k => zq09.w x.1 x.2.1 x.2.2.1 k) (fun x Ω k => leV (zq09.ev BIG x.1 x.2.1 x.2.2.1 k) (zq09.le x.1 x.2.1 x.2.2.1 k)) (by kernel_rfl) (by kernel_rfl)
def zq0o.F (fuel : Nat) : Fuel := ⟨fuel, fun r => bif r == 4 then mL 0 26 67096572 else []⟩
noncomputable def zq0o.V (fuel c : Nat) (env : List AV) (L : Heap) (k : Kont Ω) : Option Ω := evCode CDEKP (spE (C := CDEKP) [] []) (zq0o.F fuel) (pCo c Tryz.f84) env L k
def zq0o.E0 (e4_1 : (List Int)) (e4_2 : (List Int)) (e4_3 : Int) (s4 : Int) : List AV := ((.v (.slice (.int .i64)) (e4_1)) :: (.v (.slice (.int .i64)) (e4_2)) :: dZ 10 ((.v (.int .i64) (e4_3)) :: (.v (.int .i64) (s4)) :: dZ 12 ([])))
def zq0o.H0 (e4_1 : (List Int)) (e4_2 : (List Int)) (e4_3 : Int) (s4 : Int) : Heap := []
noncomputable def zq0o.M0 (fuel : Nat) (e4_1 : (List Int)) (e4_2 : (List Int)) (e4_3 : Int)  (k : AV → Option Ω) (m : Nat) (s : Int) : Option Ω := loopK (zq0o.V fuel 75) (mB 26 67096572) [] 0 (blockK 0 (sqK (zq0o.V fuel 15) (finK CDEKP Tryz.f84 k))) m ((zq0o.E0 e4_1 e4_2 e4_3) s) ((zq0o.H0 e4_1 e4_2 e4_3) s)
def zq0o.b0 (e4_1 : (List Int)) (e4_2 : (List Int)) (e4_3 : Int)   (k : Bool → Option Ω) (r4 : Int → Option Ω) (s4 : Int) : Option Ω :=
 bif (decide (s4 < e4_3)) then
 bif (idxOK s4 (List.length e4_1)) then
 bif (idxOK s4 (List.length e4_2)) then
 bif ((List.getD e4_1 (Int.toNat s4) 0) != (List.getD e4_2 (Int.toNat s4) 0)) then
 k false
 else
 r4 ((IntKind.wrap .i64 (s4 + 1)))
 else
 none
 else
 none
 else
 k true
theorem zq0o.l0 (fuel : Nat) (e4_1 : (List Int)) (e4_2 : (List Int)) (e4_3 : Int)  (k : AV → Option Ω) : ∀ m, (zq0o.M0 fuel e4_1 e4_2 e4_3  k m) = iter (zq0o.b0 e4_1 e4_2 e4_3  (fun r => k (tupAV .bool [] r))) m :=
 loopK_iter (envOf := (zq0o.E0 e4_1 e4_2 e4_3)) (LOf := (zq0o.H0 e4_1 e4_2 e4_3)) (B := zq0o.b0 e4_1 e4_2 e4_3  (fun r => k (tupAV .bool [] r))) (fun R s => by kernel_rfl)
def zq0o.sl (x0 : (List Int)) (x1 : (List Int)) (lp0 : (List Int) → (List Int) → Int → Int → Option Ω) (k : Bool → Option Ω) : Option Ω :=
 bif (((List.length x0 : Nat) : Int) != ((List.length x1 : Nat) : Int)) then
 k false
 else
 lp0 x0 x1 (((List.length x0 : Nat) : Int)) (0)
def zq0o.g0 (e4_1 : (List Int)) (e4_2 : (List Int))  (k : Bool → Option Ω) : List Int → Int → Option Ω
 | [], i4 =>
 k true
 | x4 :: xs4, i4 =>
 bif (idxOK i4 (List.length e4_2)) then
 bif (x4 != (List.getD e4_2 (Int.toNat i4) 0)) then
 k false
 else
 zq0o.g0 e4_1 e4_2  k xs4 (i4 + 1)
 else
 none
theorem zq0o.h0 (e4_1 : (List Int)) (e4_2 : (List Int))   (k : Bool → Option Ω) (hX : ((List.length e4_1 : Nat) : Int) ≤ 9223372036854775807) : ∀ (m : Nat) (i : Int) (a : Unit), 0 ≤ i → i ≤ ((List.length e4_1 : Nat) : Int) → ((List.length e4_1 : Nat) : Int) < m + i → Le (zq0o.g0 e4_1 e4_2  k (List.drop (Int.toNat i) e4_1) i) (iter (zq0o.b0 e4_1 e4_2 (((List.length e4_1 : Nat) : Int))  k) m (i)) :=
 iter_list e4_1 0 (fun (i4 : Int) (a4 : Unit) => (i4)) (fun xs i4 a4 => zq0o.g0 e4_1 e4_2  k xs i4) (zq0o.b0 e4_1 e4_2 (((List.length e4_1 : Nat) : Int))  k)
 (fun i4 a4 r h0 => (Le.fls h0 (Le.refl _)))
 (fun i4 xs4 a4 r h0 h1 hw ih => (Le.tru h0 (Le.tru h1 (Le.cond (Le.cond (Le.refl _) (ih _ hw ())) Le.nil))))
 hX
def zq0o.w (x0 : (List Int)) (x1 : (List Int)) (k : Bool → Option Ω) : Option Ω :=
 bif (((List.length x0 : Nat) : Int) != ((List.length x1 : Nat) : Int)) then
 k false
 else
 bif decide (((List.length x0 : Nat) : Int) ≤ 4611686018427387904) then zq0o.g0 x0 x1  k x0 0 else none
theorem zq0o.ev (fuel : Nat) (x0 : (List Int)) (x1 : (List Int)) (k : AV → Option Ω) : evFn CDEKP (spE (C := CDEKP) [] []) (zq0o.F fuel) Tryz.f84 (Tryz.f84.body.getD .skip) [(.v (.slice (.int .i64)) (x0)), (.v (.slice (.int .i64)) (x1))] k = zq0o.sl x0 x1 (fun e4_1 e4_2 e4_3 => (zq0o.M0 fuel e4_1 e4_2 e4_3  k fuel)) (fun r => k (tupAV .bool [] r)) := by kernel_rfl
theorem zq0o.le (x0 : (List Int)) (x1 : (List Int)) (k : AV → Option Ω) : Le (zq0o.w x0 x1 (fun r => k (tupAV .bool [] r))) (zq0o.sl x0 x1 (fun e4_1 e4_2 e4_3 => (zq0o.M0 BIG e4_1 e4_2 e4_3  k BIG)) (fun r => k (tupAV .bool [] r))) := by
 have h1 := funext fun (e4_1 : (List Int)) => funext fun (e4_2 : (List Int)) => funext fun (e4_3 : Int) => zq0o.l0 BIG e4_1 e4_2 e4_3   k BIG
 rw [h1]
 delta zq0o.w zq0o.sl
 exact (Le.cond (Le.refl _) (Le.gd fun hg => zq0o.h0 _ _   _ (le_up (of_decide_eq_true hg)) BIG 0 () (by decide) (zero_le_len _) (big_list (of_decide_eq_true hg))))
def zq0o.u (x0 : (List Int)) (x1 : (List Int)) : Option (Bool) := zq0o.w x0 x1 some
noncomputable def zq0o.n : En CDEKP := mkE CDEKP_ok (es := []) (ms := []) (fuel := (zq0o.F BIG)) 84 Tryz.f84 [.ai (.slice (.int .i64)), .ai (.slice (.int .i64))] .bool [] (fun x {Ω} k => zq0o.w x.1 x.2.1 k) (fun x Ω k => leV (zq0o.ev BIG x.1 x.2.1 k) (zq0o.le x.1 x.2.1 k)) (by kernel_rfl) (by kernel_rfl)
noncomputable def zq41.n : Me CDEKP := Me.of (g := 193) (fx := fun {_} => zq41.fx) (FxOK.mono le_C_CDEKP zq41.fx_ok)
noncomputable def zq4l.n : Me CDEKP := Me.of (g := 194) (fx := fun {_} => zq4l.fx) (FxOK.mono le_C_CDEKP zq4l.fx_ok)
def zq26.s (x0 : (List Int)) (x1 : (List Int)) (k : Bool → Option Ω) : Option Ω :=
 bif (decide (List.length x0 ≤ rowMax)) then
 bif (decide (List.length x1 ≤ rowMax)) then
 bif (decide (List.length x0 ≤ rowMax)) then
 bif (decide (List.length x1 ≤ rowMax)) then
 (zq0o.u (sortB leI x0) (sortB leI x1)).bind fun y1 =>
 k y1
 else
 none
 else
 none
 else
 none
 else
 none
def zq26.u (x0 : (List Int)) (x1 : (List Int)) : Option (Bool) := zq26.s x0 x1 some
noncomputable def zq26.n : En CDEKP := mkE CDEKP_ok (es := [zq0o.n]) (ms := [zq41.n, zq4l.n]) (fuel := ⟨1, fun _ => []⟩) 130 Tryz.f130 [.ai (.slice (.int .i64)), .ai (.slice (.int .i64))] .bool [] (fun x {Ω} k => zq26.s x.1 x.2.1 k) (fun x Ω k => Le.of (by kernel_rfl)) (by kernel_rfl) (by kernel_rfl)
def zq0e.F (fuel : Nat) : Fuel := ⟨fuel, fun r => bif r == 9 then mL 0 73 9444725084439942500269 else bif r == 2 then mL 0 73 9444732965739290398717 else bif r == 2000006 then [31, 32, 33, 34, 35, 36, 37, 38, 39, 40, 41, 42, 43, 44, 45, 46, 47, 48, 5049] else []⟩
noncomputable def zq0e.V (fuel c : Nat) (env : List AV) (L : Heap) (k : Kont Ω) : Option Ω := evCode CDEKP (spE (C := CDEKP) [zq09.n, zq31.n, zq26.n, zq0l.n] []) (zq0e.F fuel) (pCo c Tryz.f52) env L k
def zq0e.E0 (e9_1 : (List Int)) (e2_1 : (List T_s114)) (e2_2 : Int) (e9_2 : Int) (e9_3 : (List Int)) (e9_4 : Int) (e2_3 : T_s35) (e9_5 : T_s114) (s9 : Int) : List AV := (dZ 1 ((.ref 0 []) :: dZ 2 ((.ref 1 []) :: dZ 1 ((.v (.slice (.int .i64)) (e9_1)) :: dZ 5 ((.v (.slice E_s114) (e2_1)) :: (.v (.int .i64) (e2_2)) :: (.v (.int .i64) (e9_2)) :: dZ 35 ((.v (.slice (.int .i64)) (e9_3)) :: (.v (.int .i64) (e9_4)) :: (.v (.int .i64) (s9)) :: dZ 20 ([])))))))
def zq0e.H0 (e9_1 : (List Int)) (e2_1 : (List T_s114)) (e2_2 : Int) (e9_2 : Int) (e9_3 : (List Int)) (e9_4 : Int) (e2_3 : T_s35) (e9_5 : T_s114) (s9 : Int) : Heap := [(.box E_s35 e2_3 false), (.box E_s114 e9_5 false)]
noncomputable def zq0e.M0 (fuel : Nat) (e9_1 : (List Int)) (e2_1 : (List T_s114)) (e2_2 : Int) (e9_2 : Int) (e9_3 : (List Int)) (e9_4 : Int) (e2_3 : T_s35) (e9_5 : T_s114) (R2 : List AV → Heap → Option Ω) (k : AV → Option Ω) (m : Nat) (s : Int) : Option Ω := loopK (zq0e.V fuel 81509) (mB 73 9444725084439942500269) [] 2 (blockK 2 (blockK 1 (sqK (zq0e.V fuel 485) (loopC R2 (mB 73 9444732965739290398717) [] 1 (blockK 0 (sqK (zq0e.V fuel 7) (finK CDEKP Tryz.f52 k))))))) m ((zq0e.E0 e9_1 e2_1 e2_2 e9_2 e9_3 e9_4 e2_3 e9_5) s) ((zq0e.H0 e9_1 e2_1 e2_2 e9_2 e9_3 e9_4 e2_3 e9_5) s)
def zq0e.E1 (e2_1 : (List T_s114)) (e2_2 : Int) (e2_3 : T_s35) (s2 : Int) : List AV := (dZ 1 ((.ref 0 []) :: dZ 10 ((.v (.slice E_s114) (e2_1)) :: (.v (.int .i64) (e2_2)) :: (.v (.int .i64) (s2)) :: dZ 58 ([]))))
def zq0e.H1 (e2_1 : (List T_s114)) (e2_2 : Int) (e2_3 : T_s35) (s2 : Int) : Heap := [(.box E_s35 e2_3 false)]
noncomputable def zq0e.M1 (fuel : Nat) (e2_1 : (List T_s114)) (e2_2 : Int) (e2_3 : T_s35)  (k : AV → Option Ω) (m : Nat) (s : Int) : Option Ω := loopK (zq0e.V fuel 37) (mB 73 9444732965739290398717) [] 1 (blockK 0 (sqK (zq0e.V fuel 7) (finK CDEKP Tryz.f52 k))) m ((zq0e.E1 e2_1 e2_2 e2_3) s) ((zq0e.H1 e2_1 e2_2 e2_3) s)
def zq0e.b0 (e9_1 : (List Int)) (e2_1 : (List T_s114)) (e2_2 : Int) (e9_2 : Int) (e9_3 : (List Int)) (e9_4 : Int) (e2_3 : T_s35) (e9_5 : T_s114) (r2 : Int → Option Ω)  (k : Bool → Option Ω) (r9 : Int → Option Ω) (s9 : Int) : Option Ω :=
 bif (decide (s9 < e9_4)) then
 bif (idxOK s9 (List.length e9_3)) then
 (zq0l.u e9_5.2.2.2.1.2.1 ((List.getD e9_3 (Int.toNat s9) 0))).bind fun y8 =>
 bif (idxOK y8 (List.length e9_5.2.2.2.2.1)) then
 bif (idxOK s9 (List.length e9_1)) then
 bif ((List.getD e9_5.2.2.2.2.1 (Int.toNat y8) 0) != (List.getD e9_1 (Int.toNat s9) 0)) then
 k false
 else
 r9 ((IntKind.wrap .i64 (s9 + 1)))
 else
 none
 else
 none
 else
 none
 else
 r2 ((IntKind.wrap .i64 (e9_2 + 1)))
def zq0e.b1 (e2_1 : (List T_s114)) (e2_2 : Int) (e2_3 : T_s35)  (lp0 : (List Int) → (List T_s114) → Int → Int → (List Int) → Int → T_s35 → T_s114 → Int → Option Ω) (k : Bool → Option Ω) (r2 : Int → Option Ω) (s2 : Int) : Option Ω :=
 bif (decide (s2 < e2_2)) then
 bif (idxOK s2 (List.length e2_1)) then
 let v1 : T_s114 := (List.getD e2_1 (Int.toNat s2) ((0, (0, (0, (0, ())))), (0, ([], ((false, ([], ())), ([], ((false, ([], ())), ())))))))
 (zq09.u e2_3 2 s2).bind fun y2 =>
 (zq09.u e2_3 1 s2).bind fun y3 =>
 ((zq31.u v1).bind fun y4 => (bif (!y4) then some (true, ()) else ((zq26.u v1.2.2.2.1.2.1 y2.1).bind fun y5 => (bif (!y5) then some (true, ()) else ((zq26.u v1.2.2.2.2.2.1.2.1 y3.1).bind fun y6 => some ((!y6), ())))))).bind fun j7 =>
 bif j7.1 then
 k false
 else
 lp0 y2.2 e2_1 e2_2 s2 y2.1 (((List.length y2.1 : Nat) : Int)) e2_3 v1 (0)
 else
 none
 else
 k true
def zq0e.B1 (fuel : Nat) (e2_1 : (List T_s114)) (e2_2 : Int) (e2_3 : T_s35)  (k : Bool → Option Ω) (r2 : Int → Option Ω) (s2 : Int) : Option Ω := zq0e.b1 e2_1 e2_2 e2_3  (fun e9_1 e2_1 e2_2 e9_2 e9_3 e9_4 e2_3 e9_5 => (iter (zq0e.b0 e9_1 e2_1 e2_2 e9_2 e9_3 e9_4 e2_3 e9_5 r2 k) fuel)) k r2 s2
theorem zq0e.l0 (fuel : Nat) (e9_1 : (List Int)) (e2_1 : (List T_s114)) (e2_2 : Int) (e9_2 : Int) (e9_3 : (List Int)) (e9_4 : Int) (e2_3 : T_s35) (e9_5 : T_s114) (R2 : List AV → Heap → Option Ω) (k : AV → Option Ω) : ∀ m, (zq0e.M0 fuel e9_1 e2_1 e2_2 e9_2 e9_3 e9_4 e2_3 e9_5 R2 k m) = iter (zq0e.b0 e9_1 e2_1 e2_2 e9_2 e9_3 e9_4 e2_3 e9_5 (fun s2 => R2 ((zq0e.E1 e2_1 e2_2 e2_3) s2) ((zq0e.H1 e2_1 e2_2 e2_3) s2)) (fun r => k (tupAV .bool [] r))) m :=
 loopK_iter (envOf := (zq0e.E0 e9_1 e2_1 e2_2 e9_2 e9_3 e9_4 e2_3 e9_5)) (LOf := (zq0e.H0 e9_1 e2_1 e2_2 e9_2 e9_3 e9_4 e2_3 e9_5)) (B := zq0e.b0 e9_1 e2_1 e2_2 e9_2 e9_3 e9_4 e2_3 e9_5 (fun s2 => R2 ((zq0e.E1 e2_1 e2_2 e2_3) s2) ((zq0e.H1 e2_1 e2_2 e2_3) s2)) (fun r => k (tupAV .bool [] r))) (fun R s => by kernel_rfl)
theorem zq0e.l1 (fuel : Nat) (e2_1 : (List T_s114)) (e2_2 : Int) (e2_3 : T_s35)  (k : AV → Option Ω) : ∀ m, (zq0e.M1 fuel e2_1 e2_2 e2_3  k m) = iter (zq0e.B1 fuel e2_1 e2_2 e2_3  (fun r => k (tupAV .bool [] r))) m :=
 loopK_iter (envOf := (zq0e.E1 e2_1 e2_2 e2_3)) (LOf := (zq0e.H1 e2_1 e2_2 e2_3)) (B := zq0e.B1 fuel e2_1 e2_2 e2_3  (fun r => k (tupAV .bool [] r))) (fun R s => by
 have h0 : zq0e.V fuel 37 ((zq0e.E1 e2_1 e2_2 e2_3) s) ((zq0e.H1 e2_1 e2_2 e2_3) s) (loopC R (mB 73 9444732965739290398717) [] 1 (blockK 0 (sqK (zq0e.V fuel 7) (finK CDEKP Tryz.f52 k)))) = zq0e.b1 e2_1 e2_2 e2_3  (fun e9_1 e2_1 e2_2 e9_2 e9_3 e9_4 e2_3 e9_5 => (zq0e.M0 fuel e9_1 e2_1 e2_2 e9_2 e9_3 e9_4 e2_3 e9_5 R k fuel)) (fun r => k (tupAV .bool [] r)) (fun s => R ((zq0e.E1 e2_1 e2_2 e2_3) s) ((zq0e.H1 e2_1 e2_2 e2_3) s)) s := by kernel_rfl
 have h1 := funext fun (e9_1 : (List Int)) => funext fun (e2_1 : (List T_s114)) => funext fun (e2_2 : Int) => funext fun (e9_2 : Int) => funext fun (e9_3 : (List Int)) => funext fun (e9_4 : Int) => funext fun (e2_3 : T_s35) => funext fun (e9_5 : T_s114) => zq0e.l0 fuel e9_1 e2_1 e2_2 e9_2 e9_3 e9_4 e2_3 e9_5  R k fuel
 rw [h1] at h0
 exact h0)
def zq0e.sl (x0 : T_s35) (lp1 : (List T_s114) → Int → T_s35 → Int → Option Ω) (k : Bool → Option Ω) : Option Ω :=
 lp1 x0.2.2.1 (((List.length x0.2.2.1 : Nat) : Int)) x0 (0)
def zq0e.g0 (e9_1 : (List Int)) (e2_1 : (List T_s114)) (e2_2 : Int) (e9_2 : Int) (e9_3 : (List Int)) (e2_3 : T_s35) (e9_5 : T_s114) (r2 : Int → Option Ω) (k : Bool → Option Ω) : List Int → Int → Option Ω
 | [], i9 =>
 r2 ((e9_2 + 1))
 | x9 :: xs9, i9 =>
 (zq0l.u e9_5.2.2.2.1.2.1 (x9)).bind fun y8 =>
 bif (idxOK y8 (List.length e9_5.2.2.2.2.1)) then
 bif (idxOK i9 (List.length e9_1)) then
 bif ((List.getD e9_5.2.2.2.2.1 (Int.toNat y8) 0) != (List.getD e9_1 (Int.toNat i9) 0)) then
 k false
 else
 zq0e.g0 e9_1 e2_1 e2_2 e9_2 e9_3 e2_3 e9_5 r2 k xs9 (i9 + 1)
 else
 none
 else
 none
theorem zq0e.h0 (e9_1 : (List Int)) (e2_1 : (List T_s114)) (e2_2 : Int) (e9_2 : Int) (e9_3 : (List Int)) (e2_3 : T_s35) (e9_5 : T_s114) (r2 : Int → Option Ω) (r2' : Int → Option Ω) (hr2 : ∀ q : Unit, Le (r2 ((e9_2 + 1))) (r2' ((IntKind.wrap .i64 (e9_2 + 1))))) (k : Bool → Option Ω) (hX : ((List.length e9_3 : Nat) : Int) ≤ 9223372036854775807) : ∀ (m : Nat) (i : Int) (a : Unit), 0 ≤ i → i ≤ ((List.length e9_3 : Nat) : Int) → ((List.length e9_3 : Nat) : Int) < m + i → Le (zq0e.g0 e9_1 e2_1 e2_2 e9_2 e9_3 e2_3 e9_5 r2 k (List.drop (Int.toNat i) e9_3) i) (iter (zq0e.b0 e9_1 e2_1 e2_2 e9_2 e9_3 (((List.length e9_3 : Nat) : Int)) e2_3 e9_5 r2' k) m (i)) :=
 iter_list e9_3 0 (fun (i9 : Int) (a9 : Unit) => (i9)) (fun xs i9 a9 => zq0e.g0 e9_1 e2_1 e2_2 e9_2 e9_3 e2_3 e9_5 r2 k xs i9) (zq0e.b0 e9_1 e2_1 e2_2 e9_2 e9_3 (((List.length e9_3 : Nat) : Int)) e2_3 e9_5 r2' k)
 (fun i9 a9 r h0 => (Le.fls h0 (hr2 ())))
 (fun i9 xs9 a9 r h0 h1 hw ih => (Le.tru h0 (Le.tru h1 (Le.bnd fun y8 => (Le.cond (Le.cond (Le.cond (Le.refl _) (ih _ hw ())) Le.nil) Le.nil)))))
 hX
def zq0e.g1 (e2_1 : (List T_s114)) (e2_3 : T_s35)  (k : Bool → Option Ω) : List T_s114 → Int → Option Ω
 | [], i2 =>
 k true
 | x2 :: xs2, i2 =>
 let v1 : T_s114 := x2
 (zq09.u e2_3 2 i2).bind fun y2 =>
 (zq09.u e2_3 1 i2).bind fun y3 =>
 ((zq31.u v1).bind fun y4 => (bif (!y4) then some (true, ()) else ((zq26.u v1.2.2.2.1.2.1 y2.1).bind fun y5 => (bif (!y5) then some (true, ()) else ((zq26.u v1.2.2.2.2.2.1.2.1 y3.1).bind fun y6 => some ((!y6), ())))))).bind fun j7 =>
 bif j7.1 then
 k false
 else
 bif decide (((List.length y2.1 : Nat) : Int) ≤ 4611686018427387904) then zq0e.g0 y2.2 e2_1 (((List.length e2_1 : Nat) : Int)) i2 y2.1 e2_3 v1 (fun q => zq0e.g1 e2_1 e2_3  k xs2 q) k y2.1 0 else none
theorem zq0e.h1 (e2_1 : (List T_s114)) (e2_3 : T_s35)   (k : Bool → Option Ω) (hX : ((List.length e2_1 : Nat) : Int) ≤ 9223372036854775807) : ∀ (m : Nat) (i : Int) (a : Unit), 0 ≤ i → i ≤ ((List.length e2_1 : Nat) : Int) → ((List.length e2_1 : Nat) : Int) < m + i → Le (zq0e.g1 e2_1 e2_3  k (List.drop (Int.toNat i) e2_1) i) (iter (zq0e.B1 BIG e2_1 (((List.length e2_1 : Nat) : Int)) e2_3  k) m (i)) :=
 iter_list e2_1 ((0, (0, (0, (0, ())))), (0, ([], ((false, ([], ())), ([], ((false, ([], ())), ())))))) (fun (i2 : Int) (a2 : Unit) => (i2)) (fun xs i2 a2 => zq0e.g1 e2_1 e2_3  k xs i2) (zq0e.B1 BIG e2_1 (((List.length e2_1 : Nat) : Int)) e2_3  k)
 (fun i2 a2 r h0 => (Le.fls h0 (Le.refl _)))
 (fun i2 xs2 a2 r h0 h1 hw ih => (Le.tru h0 (Le.tru h1 (let v1 : T_s114 := (List.getD e2_1 (Int.toNat i2) ((0, (0, (0, (0, ())))), (0, ([], ((false, ([], ())), ([], ((false, ([], ())), ()))))))); (Le.bnd fun y2 => (Le.bnd fun y3 => (Le.bnd fun j7 => (Le.cond (Le.refl _) (Le.gd fun hg => zq0e.h0 _ _ _ _ _ _ _ _ _ (fun q => ih _ hw q) _ (le_up (of_decide_eq_true hg)) BIG 0 () (by decide) (zero_le_len _) (big_list (of_decide_eq_true hg)))))))))))
 hX
def zq0e.w (x0 : T_s35) (k : Bool → Option Ω) : Option Ω :=
 bif decide (((List.length x0.2.2.1 : Nat) : Int) ≤ 4611686018427387904) then zq0e.g1 x0.2.2.1 x0  k x0.2.2.1 0 else none
theorem zq0e.ev (fuel : Nat) (x0 : T_s35) (k : AV → Option Ω) : evFn CDEKP (spE (C := CDEKP) [zq09.n, zq31.n, zq26.n, zq0l.n] []) (zq0e.F fuel) Tryz.f52 (Tryz.f52.body.getD .skip) [(.v E_s35 (x0))] k = zq0e.sl x0 (fun e2_1 e2_2 e2_3 => (zq0e.M1 fuel e2_1 e2_2 e2_3  k fuel)) (fun r => k (tupAV .bool [] r)) := by kernel_rfl
theorem zq0e.le (x0 : T_s35) (k : AV → Option Ω) : Le (zq0e.w x0 (fun r => k (tupAV .bool [] r))) (zq0e.sl x0 (fun e2_1 e2_2 e2_3 => (zq0e.M1 BIG e2_1 e2_2 e2_3  k BIG)) (fun r => k (tupAV .bool [] r))) := by
 have h2 := funext fun (e2_1 : (List T_s114)) => funext fun (e2_2 : Int) => funext fun (e2_3 : T_s35) => zq0e.l1 BIG e2_1 e2_2 e2_3   k BIG
 rw [h2]
 delta zq0e.w zq0e.sl
 exact (Le.gd fun hg => zq0e.h1 _ _   _ (le_up (of_decide_eq_true hg)) BIG 0 () (by decide) (zero_le_len _) (big_list (of_decide_eq_true hg)))
def zq0e.u (x0 : T_s35) : Option (Bool) := zq0e.w x0 some
noncomputable def zq0e.n : En CDEKP := mkE CDEKP_ok (es := [zq09.n, zq31.n, zq26.n, zq0l.n]) (ms := []) (fuel := (zq0e.F BIG)) 52 Tryz.f52 [.ai E_s35] .bool [] (fun x {Ω} k => zq0e.w x.1 k) (fun x Ω k => leV (zq0e.ev BIG x.1 k) (zq0e.le x.1 k)) (by kernel_rfl) (by kernel_rfl)
def zq0r.F (fuel : Nat) : Fuel := ⟨fuel, fun r => bif r == 3 then mL 0 28 268434547 else bif r == 2000005 then [14, 15, 16, 17, 18, 19, 5020] else []⟩
noncomputable def zq0r.V (fuel c : Nat) (env : List AV) (L : Heap) (k : Kont Ω) : Option Ω := evCode CDEKP (spE (C := CDEKP) [zq1c.n] []) (zq0r.F fuel) (pCo c Tryz.f135) env L k
def zq0r.E0 (e3_1 : (List T_s70)) (e3_2 : Int) (e3_3 : T_s35) (e3_4 : (List Int)) (s3 : Int × (List Int)) : List AV := (dZ 2 ((.ref 1 []) :: (.rs 2) :: dZ 3 ((.v (.slice E_s70) (e3_1)) :: (.v (.int .i64) (e3_2)) :: (.v (.int .i64) (s3.1)) :: dZ 18 ([]))))
def zq0r.H0 (e3_1 : (List T_s70)) (e3_2 : Int) (e3_3 : T_s35) (e3_4 : (List Int)) (s3 : Int × (List Int)) : Heap := [(.box E_s35 e3_3 false), (.box (.arr 4 (.int .u64)) e3_4 false), (.row 3 (.int .i64) s3.2 false)]
noncomputable def zq0r.M0 (fuel : Nat) (e3_1 : (List T_s70)) (e3_2 : Int) (e3_3 : T_s35) (e3_4 : (List Int))  (k : AV → Option Ω) (m : Nat) (s : Int × (List Int)) : Option Ω := loopK (zq0r.V fuel 75) (mB 28 268434547) [] 3 (blockK 0 (sqK (zq0r.V fuel 15) (finK CDEKP Tryz.f135 k))) m ((zq0r.E0 e3_1 e3_2 e3_3 e3_4) s) ((zq0r.H0 e3_1 e3_2 e3_3 e3_4) s)
def zq0r.b0 (e3_1 : (List T_s70)) (e3_2 : Int) (e3_3 : T_s35) (e3_4 : (List Int))   (k : (List Int) → Option Ω) (r3 : Int × (List Int) → Option Ω) (s3 : Int × (List Int)) : Option Ω :=
 bif (decide (s3.1 < e3_2)) then
 bif (idxOK s3.1 (List.length e3_1)) then
 let v1 : T_s70 := (List.getD e3_1 (Int.toNat s3.1) (0, (false, (0, ((0, (false, ((List.replicate 8 0), ((List.replicate 16 0), (0, ((List.replicate 8 0), ())))))), (0, (0, (0, ([], ())))))))))
 (bif v1.2.1 then some ((v1.2.2.2.2.1 != 3), ()) else some (false, ())).bind fun j2 =>
 bif j2.1 then
 bif (decide (List.length s3.2 + List.length [s3.1] ≤ rowMax)) then
 r3 ((IntKind.wrap .i64 (s3.1 + 1)), (s3.2 ++ [s3.1]))
 else
 none
 else
 r3 ((IntKind.wrap .i64 (s3.1 + 1)), s3.2)
 else
 none
 else
 (zq1c.u s3.2).bind fun y3 =>
 k y3
theorem zq0r.l0 (fuel : Nat) (e3_1 : (List T_s70)) (e3_2 : Int) (e3_3 : T_s35) (e3_4 : (List Int))  (k : AV → Option Ω) : ∀ m, (zq0r.M0 fuel e3_1 e3_2 e3_3 e3_4  k m) = iter (zq0r.b0 e3_1 e3_2 e3_3 e3_4  (fun r => k (tupAV (.arr 4 (.int .u64)) [] r))) m :=
 loopK_iter (envOf := (zq0r.E0 e3_1 e3_2 e3_3 e3_4)) (LOf := (zq0r.H0 e3_1 e3_2 e3_3 e3_4)) (B := zq0r.b0 e3_1 e3_2 e3_3 e3_4  (fun r => k (tupAV (.arr 4 (.int .u64)) [] r))) (fun R s => by kernel_rfl)
def zq0r.sl (x0 : T_s35) (lp0 : (List T_s70) → Int → T_s35 → (List Int) → Int × (List Int) → Option Ω) (k : (List Int) → Option Ω) : Option Ω :=
 lp0 x0.2.1 (((List.length x0.2.1 : Nat) : Int)) x0 (List.replicate 4 0) (0, [])
def zq0r.g0 (e3_1 : (List T_s70)) (e3_3 : T_s35) (e3_4 : (List Int))  (k : (List Int) → Option Ω) : List T_s70 → Int → (List Int) → Option Ω
 | [], i3, a3_1 =>
 (zq1c.u a3_1).bind fun y3 =>
 k y3
 | x3 :: xs3, i3, a3_1 =>
 let v1 : T_s70 := x3
 (bif v1.2.1 then some ((v1.2.2.2.2.1 != 3), ()) else some (false, ())).bind fun j2 =>
 bif j2.1 then
 bif (decide (List.length a3_1 + List.length [i3] ≤ rowMax)) then
 zq0r.g0 e3_1 e3_3 e3_4  k xs3 (i3 + 1) (a3_1 ++ [i3])
 else
 none
 else
 zq0r.g0 e3_1 e3_3 e3_4  k xs3 (i3 + 1) a3_1
theorem zq0r.h0 (e3_1 : (List T_s70)) (e3_3 : T_s35) (e3_4 : (List Int))   (k : (List Int) → Option Ω) (hX : ((List.length e3_1 : Nat) : Int) ≤ 9223372036854775807) : ∀ (m : Nat) (i : Int) (a : (List Int)), 0 ≤ i → i ≤ ((List.length e3_1 : Nat) : Int) → ((List.length e3_1 : Nat) : Int) < m + i → Le (zq0r.g0 e3_1 e3_3 e3_4  k (List.drop (Int.toNat i) e3_1) i a) (iter (zq0r.b0 e3_1 (((List.length e3_1 : Nat) : Int)) e3_3 e3_4  k) m (i, a)) :=
 iter_list e3_1 (0, (false, (0, ((0, (false, ((List.replicate 8 0), ((List.replicate 16 0), (0, ((List.replicate 8 0), ())))))), (0, (0, (0, ([], ())))))))) (fun (i3 : Int) (a3 : (List Int)) => (i3, a3)) (fun xs i3 a3 => zq0r.g0 e3_1 e3_3 e3_4  k xs i3 a3) (zq0r.b0 e3_1 (((List.length e3_1 : Nat) : Int)) e3_3 e3_4  k)
 (fun i3 a3 r h0 => (Le.fls h0 (Le.bnd fun y3 => (Le.refl _))))
 (fun i3 xs3 a3 r h0 h1 hw ih => (Le.tru h0 (Le.tru h1 (let v1 : T_s70 := (List.getD e3_1 (Int.toNat i3) (0, (false, (0, ((0, (false, ((List.replicate 8 0), ((List.replicate 16 0), (0, ((List.replicate 8 0), ())))))), (0, (0, (0, ([], ()))))))))); (Le.bnd fun j2 => (Le.cond (Le.cond (ih _ hw ((a3 ++ [i3]))) Le.nil) (ih _ hw (a3))))))))
 hX
def zq0r.w (x0 : T_s35) (k : (List Int) → Option Ω) : Option Ω :=
 bif decide (((List.length x0.2.1 : Nat) : Int) ≤ 4611686018427387904) then zq0r.g0 x0.2.1 x0 (List.replicate 4 0)  k x0.2.1 0 ([]) else none
theorem zq0r.ev (fuel : Nat) (x0 : T_s35) (k : AV → Option Ω) : evFn CDEKP (spE (C := CDEKP) [zq1c.n] []) (zq0r.F fuel) Tryz.f135 (Tryz.f135.body.getD .skip) [(.v E_s35 (x0))] k = zq0r.sl x0 (fun e3_1 e3_2 e3_3 e3_4 => (zq0r.M0 fuel e3_1 e3_2 e3_3 e3_4  k fuel)) (fun r => k (tupAV (.arr 4 (.int .u64)) [] r)) := by kernel_rfl
theorem zq0r.le (x0 : T_s35) (k : AV → Option Ω) : Le (zq0r.w x0 (fun r => k (tupAV (.arr 4 (.int .u64)) [] r))) (zq0r.sl x0 (fun e3_1 e3_2 e3_3 e3_4 => (zq0r.M0 BIG e3_1 e3_2 e3_3 e3_4  k BIG)) (fun r => k (tupAV (.arr 4 (.int .u64)) [] r))) := by
 have h1 := funext fun (e3_1 : (List T_s70)) => funext fun (e3_2 : Int) => funext fun (e3_3 : T_s35) => funext fun (e3_4 : (List Int)) => zq0r.l0 BIG e3_1 e3_2 e3_3 e3_4   k BIG
 rw [h1]
 delta zq0r.w zq0r.sl
 exact (Le.gd fun hg => zq0r.h0 _ _ _   _ (le_up (of_decide_eq_true hg)) BIG 0 ([]) (by decide) (zero_le_len _) (big_list (of_decide_eq_true hg)))
def zq0r.u (x0 : T_s35) : Option ((List Int)) := zq0r.w x0 some
noncomputable def zq0r.n : En CDEKP := mkE CDEKP_ok (es := [zq1c.n]) (ms := []) (fuel := (zq0r.F BIG)) 135 Tryz.f135 [.ai E_s35] (.arr 4 (.int .u64)) [] (fun x {Ω} k => zq0r.w x.1 k) (fun x Ω k => leV (zq0r.ev BIG x.1 k) (zq0r.le x.1 k)) (by kernel_rfl) (by kernel_rfl)
def zq0p.F (fuel : Nat) : Fuel := ⟨fuel, fun r => bif r == 2 then mL 0 43 8796093020413 else []⟩
noncomputable def zq0p.V (fuel c : Nat) (env : List AV) (L : Heap) (k : Kont Ω) : Option Ω := evCode CDEKP (spE (C := CDEKP) [zq09.n, zq26.n, zq2t.n, zq2m.n, zq3a.n, zq0r.n] []) (zq0p.F fuel) (pCo c Tryz.f53) env L k
def zq0p.E0 (e2_1 : (List T_s155)) (e2_2 : Int) (e2_3 : T_s35) (s2 : Int) : List AV := (dZ 1 ((.ref 0 []) :: dZ 6 ((.v (.slice E_s155) (e2_1)) :: (.v (.int .i64) (e2_2)) :: (.v (.int .i64) (s2)) :: dZ 32 ([]))))
def zq0p.H0 (e2_1 : (List T_s155)) (e2_2 : Int) (e2_3 : T_s35) (s2 : Int) : Heap := [(.box E_s35 e2_3 false)]
noncomputable def zq0p.M0 (fuel : Nat) (e2_1 : (List T_s155)) (e2_2 : Int) (e2_3 : T_s35)  (k : AV → Option Ω) (m : Nat) (s : Int) : Option Ω := loopK (zq0p.V fuel 37) (mB 43 8796093020413) [] 1 (blockK 0 (sqK (zq0p.V fuel 7) (finK CDEKP Tryz.f53 k))) m ((zq0p.E0 e2_1 e2_2 e2_3) s) ((zq0p.H0 e2_1 e2_2 e2_3) s)
def zq0p.b0 (e2_1 : (List T_s155)) (e2_2 : Int) (e2_3 : T_s35)   (k : Bool → Option Ω) (r2 : Int → Option Ω) (s2 : Int) : Option Ω :=
 bif (decide (s2 < e2_2)) then
 bif (idxOK s2 (List.length e2_1)) then
 let v1 : T_s155 := (List.getD e2_1 (Int.toNat s2) ((false, (0, ())), (((List.replicate 4 0), ((List.replicate 4 0), ())), (0, ()))))
 (zq09.u e2_3 3 s2).bind fun y2 =>
 (zq2t.u v1).bind fun y3 =>
 bif (!y3) then
 k false
 else
 (zq2m.u v1.2.1.2.1).bind fun y4 =>
 (zq26.u y4 y2.1).bind fun y5 =>
 bif (!y5) then
 k false
 else
 (zq0r.u e2_3).bind fun y6 =>
 (zq3a.u v1.2.1.1 y6).bind fun y7 =>
 bif (!y7) then
 k false
 else
 r2 ((IntKind.wrap .i64 (s2 + 1)))
 else
 none
 else
 k true
theorem zq0p.l0 (fuel : Nat) (e2_1 : (List T_s155)) (e2_2 : Int) (e2_3 : T_s35)  (k : AV → Option Ω) : ∀ m, (zq0p.M0 fuel e2_1 e2_2 e2_3  k m) = iter (zq0p.b0 e2_1 e2_2 e2_3  (fun r => k (tupAV .bool [] r))) m :=
 loopK_iter (envOf := (zq0p.E0 e2_1 e2_2 e2_3)) (LOf := (zq0p.H0 e2_1 e2_2 e2_3)) (B := zq0p.b0 e2_1 e2_2 e2_3  (fun r => k (tupAV .bool [] r))) (fun R s => by kernel_rfl)
def zq0p.sl (x0 : T_s35) (lp0 : (List T_s155) → Int → T_s35 → Int → Option Ω) (k : Bool → Option Ω) : Option Ω :=
 lp0 x0.2.2.2.1 (((List.length x0.2.2.2.1 : Nat) : Int)) x0 (0)
def zq0p.g0 (e2_1 : (List T_s155)) (e2_3 : T_s35)  (k : Bool → Option Ω) : List T_s155 → Int → Option Ω
 | [], i2 =>
 k true
 | x2 :: xs2, i2 =>
 let v1 : T_s155 := x2
 (zq09.u e2_3 3 i2).bind fun y2 =>
 (zq2t.u v1).bind fun y3 =>
 bif (!y3) then
 k false
 else
 (zq2m.u v1.2.1.2.1).bind fun y4 =>
 (zq26.u y4 y2.1).bind fun y5 =>
 bif (!y5) then
 k false
 else
 (zq0r.u e2_3).bind fun y6 =>
 (zq3a.u v1.2.1.1 y6).bind fun y7 =>
 bif (!y7) then
 k false
 else
 zq0p.g0 e2_1 e2_3  k xs2 (i2 + 1)
theorem zq0p.h0 (e2_1 : (List T_s155)) (e2_3 : T_s35)   (k : Bool → Option Ω) (hX : ((List.length e2_1 : Nat) : Int) ≤ 9223372036854775807) : ∀ (m : Nat) (i : Int) (a : Unit), 0 ≤ i → i ≤ ((List.length e2_1 : Nat) : Int) → ((List.length e2_1 : Nat) : Int) < m + i → Le (zq0p.g0 e2_1 e2_3  k (List.drop (Int.toNat i) e2_1) i) (iter (zq0p.b0 e2_1 (((List.length e2_1 : Nat) : Int)) e2_3  k) m (i)) :=
 iter_list e2_1 ((false, (0, ())), (((List.replicate 4 0), ((List.replicate 4 0), ())), (0, ()))) (fun (i2 : Int) (a2 : Unit) => (i2)) (fun xs i2 a2 => zq0p.g0 e2_1 e2_3  k xs i2) (zq0p.b0 e2_1 (((List.length e2_1 : Nat) : Int)) e2_3  k)
 (fun i2 a2 r h0 => (Le.fls h0 (Le.refl _)))
 (fun i2 xs2 a2 r h0 h1 hw ih => (Le.tru h0 (Le.tru h1 (let v1 : T_s155 := (List.getD e2_1 (Int.toNat i2) ((false, (0, ())), (((List.replicate 4 0), ((List.replicate 4 0), ())), (0, ())))); (Le.bnd fun y2 => (Le.bnd fun y3 => (Le.cond (Le.refl _) (Le.bnd fun y4 => (Le.bnd fun y5 => (Le.cond (Le.refl _) (Le.bnd fun y6 => (Le.bnd fun y7 => (Le.cond (Le.refl _) (ih _ hw ()))))))))))))))
 hX
def zq0p.w (x0 : T_s35) (k : Bool → Option Ω) : Option Ω :=
 bif decide (((List.length x0.2.2.2.1 : Nat) : Int) ≤ 4611686018427387904) then zq0p.g0 x0.2.2.2.1 x0  k x0.2.2.2.1 0 else none
theorem zq0p.ev (fuel : Nat) (x0 : T_s35) (k : AV → Option Ω) : evFn CDEKP (spE (C := CDEKP) [zq09.n, zq26.n, zq2t.n, zq2m.n, zq3a.n, zq0r.n] []) (zq0p.F fuel) Tryz.f53 (Tryz.f53.body.getD .skip) [(.v E_s35 (x0))] k = zq0p.sl x0 (fun e2_1 e2_2 e2_3 => (zq0p.M0 fuel e2_1 e2_2 e2_3  k fuel)) (fun r => k (tupAV .bool [] r)) := by kernel_rfl
theorem zq0p.le (x0 : T_s35) (k : AV → Option Ω) : Le (zq0p.w x0 (fun r => k (tupAV .bool [] r))) (zq0p.sl x0 (fun e2_1 e2_2 e2_3 => (zq0p.M0 BIG e2_1 e2_2 e2_3  k BIG)) (fun r => k (tupAV .bool [] r))) := by
 have h1 := funext fun (e2_1 : (List T_s155)) => funext fun (e2_2 : Int) => funext fun (e2_3 : T_s35) => zq0p.l0 BIG e2_1 e2_2 e2_3   k BIG
 rw [h1]
 delta zq0p.w zq0p.sl
 exact (Le.gd fun hg => zq0p.h0 _ _   _ (le_up (of_decide_eq_true hg)) BIG 0 () (by decide) (zero_le_len _) (big_list (of_decide_eq_true hg)))
def zq0p.u (x0 : T_s35) : Option (Bool) := zq0p.w x0 some
noncomputable def zq0p.n : En CDEKP := mkE CDEKP_ok (es := [zq09.n, zq26.n, zq2t.n, zq2m.n, zq3a.n, zq0r.n]) (ms := []) (fuel := (zq0p.F BIG)) 53 Tryz.f53 [.ai E_s35] .bool [] (fun x {Ω} k => zq0p.w x.1 k) (fun x Ω k => leV (zq0p.ev BIG x.1 k) (zq0p.le x.1 k)) (by kernel_rfl) (by kernel_rfl)
def zq0q.F (fuel : Nat) : Fuel := ⟨fuel, fun r => bif r == 3 then mL 0 22 4193397 else []⟩
noncomputable def zq0q.V (fuel c : Nat) (env : List AV) (L : Heap) (k : Kont Ω) : Option Ω := evCode CDEKP (spE (C := CDEKP) [zq27.n, zq26.n] []) (zq0q.F fuel) (pCo c Tryz.f54) env L k
def zq0q.E0 (e3_1 : (List (List Int))) (e3_2 : Int) (e3_3 : T_s35) (s3 : Int × (List Int)) : List AV := (dZ 1 ((.ref 0 []) :: dZ 1 ((.rs 1) :: dZ 3 ((.v (.slice (.slice (.int .i64))) (e3_1)) :: (.v (.int .i64) (e3_2)) :: (.v (.int .i64) (s3.1)) :: dZ 12 ([])))))
def zq0q.H0 (e3_1 : (List (List Int))) (e3_2 : Int) (e3_3 : T_s35) (s3 : Int × (List Int)) : Heap := [(.box E_s35 e3_3 false), (.row 3 (.int .i64) s3.2 false)]
noncomputable def zq0q.M0 (fuel : Nat) (e3_1 : (List (List Int))) (e3_2 : Int) (e3_3 : T_s35)  (k : AV → Option Ω) (m : Nat) (s : Int × (List Int)) : Option Ω := loopK (zq0q.V fuel 75) (mB 22 4193397) [] 2 (blockK 0 (sqK (zq0q.V fuel 15) (finK CDEKP Tryz.f54 k))) m ((zq0q.E0 e3_1 e3_2 e3_3) s) ((zq0q.H0 e3_1 e3_2 e3_3) s)
def zq0q.b0 (e3_1 : (List (List Int))) (e3_2 : Int) (e3_3 : T_s35)   (k : Bool → Option Ω) (r3 : Int × (List Int) → Option Ω) (s3 : Int × (List Int)) : Option Ω :=
 bif (decide (s3.1 < e3_2)) then
 bif (idxOK s3.1 (List.length e3_1)) then
 bif (decide (List.length s3.2 + List.length (List.getD e3_1 (Int.toNat s3.1) []) ≤ rowMax)) then
 r3 ((IntKind.wrap .i64 (s3.1 + 1)), (s3.2 ++ (List.getD e3_1 (Int.toNat s3.1) [])))
 else
 none
 else
 none
 else
 (zq27.u e3_3.2.1 2).bind fun y1 =>
 (zq26.u s3.2 y1).bind fun y2 =>
 k y2
theorem zq0q.l0 (fuel : Nat) (e3_1 : (List (List Int))) (e3_2 : Int) (e3_3 : T_s35)  (k : AV → Option Ω) : ∀ m, (zq0q.M0 fuel e3_1 e3_2 e3_3  k m) = iter (zq0q.b0 e3_1 e3_2 e3_3  (fun r => k (tupAV .bool [] r))) m :=
 loopK_iter (envOf := (zq0q.E0 e3_1 e3_2 e3_3)) (LOf := (zq0q.H0 e3_1 e3_2 e3_3)) (B := zq0q.b0 e3_1 e3_2 e3_3  (fun r => k (tupAV .bool [] r))) (fun R s => by kernel_rfl)
def zq0q.sl (x0 : T_s35) (lp0 : (List (List Int)) → Int → T_s35 → Int × (List Int) → Option Ω) (k : Bool → Option Ω) : Option Ω :=
 lp0 x0.2.2.2.2.1 (((List.length x0.2.2.2.2.1 : Nat) : Int)) x0 (0, [])
def zq0q.g0 (e3_1 : (List (List Int))) (e3_3 : T_s35)  (k : Bool → Option Ω) : List (List Int) → (List Int) → Option Ω
 | [], a3_1 =>
 (zq27.u e3_3.2.1 2).bind fun y1 =>
 (zq26.u a3_1 y1).bind fun y2 =>
 k y2
 | x3 :: xs3, a3_1 =>
 bif (decide (List.length a3_1 + List.length x3 ≤ rowMax)) then
 zq0q.g0 e3_1 e3_3  k xs3 (a3_1 ++ x3)
 else
 none
theorem zq0q.h0 (e3_1 : (List (List Int))) (e3_3 : T_s35)   (k : Bool → Option Ω) (hX : ((List.length e3_1 : Nat) : Int) ≤ 9223372036854775807) : ∀ (m : Nat) (i : Int) (a : (List Int)), 0 ≤ i → i ≤ ((List.length e3_1 : Nat) : Int) → ((List.length e3_1 : Nat) : Int) < m + i → Le (zq0q.g0 e3_1 e3_3  k (List.drop (Int.toNat i) e3_1) a) (iter (zq0q.b0 e3_1 (((List.length e3_1 : Nat) : Int)) e3_3  k) m (i, a)) :=
 iter_list e3_1 [] (fun (i3 : Int) (a3 : (List Int)) => (i3, a3)) (fun xs i3 a3 => zq0q.g0 e3_1 e3_3  k xs a3) (zq0q.b0 e3_1 (((List.length e3_1 : Nat) : Int)) e3_3  k)
 (fun i3 a3 r h0 => (Le.fls h0 (Le.bnd fun y1 => (Le.bnd fun y2 => (Le.refl _)))))
 (fun i3 xs3 a3 r h0 h1 hw ih => (Le.tru h0 (Le.tru h1 (Le.cond (ih _ hw ((a3 ++ (List.getD e3_1 (Int.toNat i3) [])))) Le.nil))))
 hX
def zq0q.w (x0 : T_s35) (k : Bool → Option Ω) : Option Ω :=
 bif decide (((List.length x0.2.2.2.2.1 : Nat) : Int) ≤ 4611686018427387904) then zq0q.g0 x0.2.2.2.2.1 x0  k x0.2.2.2.2.1 ([]) else none
theorem zq0q.ev (fuel : Nat) (x0 : T_s35) (k : AV → Option Ω) : evFn CDEKP (spE (C := CDEKP) [zq27.n, zq26.n] []) (zq0q.F fuel) Tryz.f54 (Tryz.f54.body.getD .skip) [(.v E_s35 (x0))] k = zq0q.sl x0 (fun e3_1 e3_2 e3_3 => (zq0q.M0 fuel e3_1 e3_2 e3_3  k fuel)) (fun r => k (tupAV .bool [] r)) := by kernel_rfl
theorem zq0q.le (x0 : T_s35) (k : AV → Option Ω) : Le (zq0q.w x0 (fun r => k (tupAV .bool [] r))) (zq0q.sl x0 (fun e3_1 e3_2 e3_3 => (zq0q.M0 BIG e3_1 e3_2 e3_3  k BIG)) (fun r => k (tupAV .bool [] r))) := by
 have h1 := funext fun (e3_1 : (List (List Int))) => funext fun (e3_2 : Int) => funext fun (e3_3 : T_s35) => zq0q.l0 BIG e3_1 e3_2 e3_3   k BIG
 rw [h1]
 delta zq0q.w zq0q.sl
 exact (Le.gd fun hg => zq0q.h0 _ _   _ (le_up (of_decide_eq_true hg)) BIG 0 ([]) (by decide) (zero_le_len _) (big_list (of_decide_eq_true hg)))
def zq0q.u (x0 : T_s35) : Option (Bool) := zq0q.w x0 some
noncomputable def zq0q.n : En CDEKP := mkE CDEKP_ok (es := [zq27.n, zq26.n]) (ms := []) (fuel := (zq0q.F BIG)) 54 Tryz.f54 [.ai E_s35] .bool [] (fun x {Ω} k => zq0q.w x.1 k) (fun x Ω k => leV (zq0q.ev BIG x.1 k) (zq0q.le x.1 k)) (by kernel_rfl) (by kernel_rfl)
def zq06.F (fuel : Nat) : Fuel := ⟨fuel, fun r => bif r == 2 then mL 0 19 523894 else []⟩
noncomputable def zq06.V (fuel c : Nat) (env : List AV) (L : Heap) (k : Kont Ω) : Option Ω := evCode CDEKP (spE (C := CDEKP) [] []) (zq06.F fuel) (pCo c Tryz.f136) env L k
def zq06.E0 (e2_1 : (List T_s63)) (e2_2 : Int) (e2_3 : T_s63) (s2 : Int) : List AV := ((.v (.slice E_s63) (e2_1)) :: dZ 2 ((.ref 0 []) :: dZ 3 ((.v (.int .i64) (e2_2)) :: (.v (.int .i64) (s2)) :: dZ 10 ([]))))
def zq06.H0 (e2_1 : (List T_s63)) (e2_2 : Int) (e2_3 : T_s63) (s2 : Int) : Heap := [(.box E_s63 e2_3 false)]
noncomputable def zq06.M0 (fuel : Nat) (e2_1 : (List T_s63)) (e2_2 : Int) (e2_3 : T_s63)  (k : AV → Option Ω) (m : Nat) (s : Int) : Option Ω := loopK (zq06.V fuel 37) (mB 19 523894) [] 1 (blockK 0 (sqK (zq06.V fuel 7) (finK CDEKP Tryz.f136 k))) m ((zq06.E0 e2_1 e2_2 e2_3) s) ((zq06.H0 e2_1 e2_2 e2_3) s)
def zq06.b0 (e2_1 : (List T_s63)) (e2_2 : Int) (e2_3 : T_s63)   (k : Int → Option Ω) (r2 : Int → Option Ω) (s2 : Int) : Option Ω :=
 bif (decide (s2 < e2_2)) then
 bif (idxOK s2 (List.length e2_1)) then
 bif (eqI E_s63 e2_3 (List.getD e2_1 (Int.toNat s2) (0, (0, (0, ()))))) then
 k s2
 else
 r2 ((IntKind.wrap .i64 (s2 + 1)))
 else
 none
 else
 k (-1)
theorem zq06.l0 (fuel : Nat) (e2_1 : (List T_s63)) (e2_2 : Int) (e2_3 : T_s63)  (k : AV → Option Ω) : ∀ m, (zq06.M0 fuel e2_1 e2_2 e2_3  k m) = iter (zq06.b0 e2_1 e2_2 e2_3  (fun r => k (tupAV (.int .i64) [] r))) m :=
 loopK_iter (envOf := (zq06.E0 e2_1 e2_2 e2_3)) (LOf := (zq06.H0 e2_1 e2_2 e2_3)) (B := zq06.b0 e2_1 e2_2 e2_3  (fun r => k (tupAV (.int .i64) [] r))) (fun R s => by kernel_rfl)
def zq06.sl (x0 : (List T_s63)) (x1 : T_s63) (lp0 : (List T_s63) → Int → T_s63 → Int → Option Ω) (k : Int → Option Ω) : Option Ω :=
 lp0 x0 (((List.length x0 : Nat) : Int)) x1 (0)
def zq06.g0 (e2_1 : (List T_s63)) (e2_3 : T_s63)  (k : Int → Option Ω) : List T_s63 → Int → Option Ω
 | [], i2 =>
 k (-1)
 | x2 :: xs2, i2 =>
 bif (eqI E_s63 e2_3 x2) then
 k i2
 else
 zq06.g0 e2_1 e2_3  k xs2 (i2 + 1)
theorem zq06.h0 (e2_1 : (List T_s63)) (e2_3 : T_s63)   (k : Int → Option Ω) (hX : ((List.length e2_1 : Nat) : Int) ≤ 9223372036854775807) : ∀ (m : Nat) (i : Int) (a : Unit), 0 ≤ i → i ≤ ((List.length e2_1 : Nat) : Int) → ((List.length e2_1 : Nat) : Int) < m + i → Le (zq06.g0 e2_1 e2_3  k (List.drop (Int.toNat i) e2_1) i) (iter (zq06.b0 e2_1 (((List.length e2_1 : Nat) : Int)) e2_3  k) m (i)) :=
 iter_list e2_1 (0, (0, (0, ()))) (fun (i2 : Int) (a2 : Unit) => (i2)) (fun xs i2 a2 => zq06.g0 e2_1 e2_3  k xs i2) (zq06.b0 e2_1 (((List.length e2_1 : Nat) : Int)) e2_3  k)
 (fun i2 a2 r h0 => (Le.fls h0 (Le.refl _)))
 (fun i2 xs2 a2 r h0 h1 hw ih => (Le.tru h0 (Le.tru h1 (Le.cond (Le.refl _) (ih _ hw ())))))
 hX
def zq06.w (x0 : (List T_s63)) (x1 : T_s63) (k : Int → Option Ω) : Option Ω :=
 bif decide (((List.length x0 : Nat) : Int) ≤ 4611686018427387904) then zq06.g0 x0 x1  k x0 0 else none
theorem zq06.ev (fuel : Nat) (x0 : (List T_s63)) (x1 : T_s63) (k : AV → Option Ω) : evFn CDEKP (spE (C := CDEKP) [] []) (zq06.F fuel) Tryz.f136 (Tryz.f136.body.getD .skip) [(.v (.slice E_s63) (x0)), (.v E_s63 (x1))] k = zq06.sl x0 x1 (fun e2_1 e2_2 e2_3 => (zq06.M0 fuel e2_1 e2_2 e2_3  k fuel)) (fun r => k (tupAV (.int .i64) [] r)) := by kernel_rfl
theorem zq06.le (x0 : (List T_s63)) (x1 : T_s63) (k : AV → Option Ω) : Le (zq06.w x0 x1 (fun r => k (tupAV (.int .i64) [] r))) (zq06.sl x0 x1 (fun e2_1 e2_2 e2_3 => (zq06.M0 BIG e2_1 e2_2 e2_3  k BIG)) (fun r => k (tupAV (.int .i64) [] r))) := by
 have h1 := funext fun (e2_1 : (List T_s63)) => funext fun (e2_2 : Int) => funext fun (e2_3 : T_s63) => zq06.l0 BIG e2_1 e2_2 e2_3   k BIG
 rw [h1]
 delta zq06.w zq06.sl
 exact (Le.gd fun hg => zq06.h0 _ _   _ (le_up (of_decide_eq_true hg)) BIG 0 () (by decide) (zero_le_len _) (big_list (of_decide_eq_true hg)))
def zq06.u (x0 : (List T_s63)) (x1 : T_s63) : Option (Int) := zq06.w x0 x1 some
noncomputable def zq06.n : En CDEKP := mkE CDEKP_ok (es := []) (ms := []) (fuel := (zq06.F BIG)) 136 Tryz.f136 [.ai (.slice E_s63), .ai E_s63] (.int .i64) [] (fun x {Ω} k => zq06.w x.1 x.2.1 k) (fun x Ω k => leV (zq06.ev BIG x.1 x.2.1 k) (zq06.le x.1 x.2.1 k)) (by kernel_rfl) (by kernel_rfl)
noncomputable def zq3h.n : Me CDEKP := Me.of (g := 137) (fx := fun {_} => zq3h.fx) (FxOK.mono le_C_CDEKP zq3h.fx_ok)
def zq07.F (fuel : Nat) : Fuel := ⟨fuel, fun r => bif r == 13 then mL 0 84 19342813112848904376811509 ++ [2001003] else bif r == 6 then mL 0 84 19342813113834066677800917 else bif r == 3 then mL 0 84 19342813113834066795241461 else bif r == 2000016 then [57, 58, 59, 60, 61, 62, 63, 64, 65, 66, 67, 68, 69, 70, 71, 72, 73, 5074] else []⟩
noncomputable def zq07.V (fuel c : Nat) (env : List AV) (L : Heap) (k : Kont Ω) : Option Ω := evCode CDEKP (spE (C := CDEKP) [zq27.n, zq06.n] [zq3h.n]) (zq07.F fuel) (pCo c Tryz.f55) env L k
def zq07.E0 (e6_1 : Int) (e3_1 : (List Int)) (e3_2 : Int) (e6_2 : Int) (e6_3 : (List T_s227)) (e6_4 : Int) (e3_3 : T_s35) (s6 : Int × (List T_s63)) : List AV := (dZ 1 ((.ref 0 []) :: dZ 1 ((.rs 1) :: dZ 1 ((.v (.int .i64) (e6_1)) :: dZ 7 ((.v (.slice (.int .i64)) (e3_1)) :: (.v (.int .i64) (e3_2)) :: (.v (.int .i64) (e6_2)) :: dZ 8 ((.v (.slice E_s227) (e6_3)) :: (.v (.int .i64) (e6_4)) :: (.v (.int .i64) (s6.1)) :: dZ 57 ([])))))))
def zq07.H0 (e6_1 : Int) (e3_1 : (List Int)) (e3_2 : Int) (e6_2 : Int) (e6_3 : (List T_s227)) (e6_4 : Int) (e3_3 : T_s35) (s6 : Int × (List T_s63)) : Heap := [(.box E_s35 e3_3 false), (.row 122 E_s63 s6.2 false)]
noncomputable def zq07.M0 (fuel : Nat) (e6_1 : Int) (e3_1 : (List Int)) (e3_2 : Int) (e6_2 : Int) (e6_3 : (List T_s227)) (e6_4 : Int) (e3_3 : T_s35) (R3 : List AV → Heap → Option Ω) (k : AV → Option Ω) (m : Nat) (s : Int × (List T_s63)) : Option Ω := loopK (zq07.V fuel 19659) (mB 84 19342813113834066677800917) [] 2 (blockK 2 (blockK 1 (sqK (zq07.V fuel 971) (loopC R3 (mB 84 19342813113834066795241461) [] 2 (blockK 0 (sqK (zq07.V fuel 15) (finK CDEKP Tryz.f55 k))))))) m ((zq07.E0 e6_1 e3_1 e3_2 e6_2 e6_3 e6_4 e3_3) s) ((zq07.H0 e6_1 e3_1 e3_2 e6_2 e6_3 e6_4 e3_3) s)
def zq07.E1 (e13_1 : (List T_s63)) (e13_2 : Int) (e3_3 : T_s35) (s13 : Int × (List T_s63)) : List AV := (dZ 1 ((.ref 0 []) :: dZ 1 ((.rs 1) :: dZ 43 ((.v (.slice E_s63) (e13_1)) :: (.v (.int .i64) (e13_2)) :: (.v (.int .i64) (s13.1)) :: dZ 34 ([])))))
def zq07.H1 (e13_1 : (List T_s63)) (e13_2 : Int) (e3_3 : T_s35) (s13 : Int × (List T_s63)) : Heap := [(.box E_s35 e3_3 false), (.row 122 E_s63 s13.2 false)]
noncomputable def zq07.M1 (fuel : Nat) (e13_1 : (List T_s63)) (e13_2 : Int) (e3_3 : T_s35)  (k : AV → Option Ω) (m : Nat) (s : Int × (List T_s63)) : Option Ω := loopK (zq07.V fuel 151) (mB 84 19342813112848904376811509) [1001003] 2 (blockK 4 (sqK (zq07.V fuel 31) (finK CDEKP Tryz.f55 k))) m ((zq07.E1 e13_1 e13_2 e3_3) s) ((zq07.H1 e13_1 e13_2 e3_3) s)
def zq07.E2 (e3_1 : (List Int)) (e3_2 : Int) (e3_3 : T_s35) (s3 : Int × (List T_s63)) : List AV := (dZ 1 ((.ref 0 []) :: dZ 1 ((.rs 1) :: dZ 9 ((.v (.slice (.int .i64)) (e3_1)) :: (.v (.int .i64) (e3_2)) :: (.v (.int .i64) (s3.1)) :: dZ 68 ([])))))
def zq07.H2 (e3_1 : (List Int)) (e3_2 : Int) (e3_3 : T_s35) (s3 : Int × (List T_s63)) : Heap := [(.box E_s35 e3_3 false), (.row 122 E_s63 s3.2 false)]
noncomputable def zq07.M2 (fuel : Nat) (e3_1 : (List Int)) (e3_2 : Int) (e3_3 : T_s35)  (k : AV → Option Ω) (m : Nat) (s : Int × (List T_s63)) : Option Ω := loopK (zq07.V fuel 75) (mB 84 19342813113834066795241461) [] 2 (blockK 0 (sqK (zq07.V fuel 15) (finK CDEKP Tryz.f55 k))) m ((zq07.E2 e3_1 e3_2 e3_3) s) ((zq07.H2 e3_1 e3_2 e3_3) s)
def zq07.b0 (e6_1 : Int) (e3_1 : (List Int)) (e3_2 : Int) (e6_2 : Int) (e6_3 : (List T_s227)) (e6_4 : Int) (e3_3 : T_s35) (r3 : Int × (List T_s63) → Option Ω)  (k : Bool → Option Ω) (r6 : Int × (List T_s63) → Option Ω) (s6 : Int × (List T_s63)) : Option Ω :=
 bif (decide (s6.1 < e6_4)) then
 bif (idxOK s6.1 (List.length e6_3)) then
 bif ((List.getD e6_3 (Int.toNat s6.1) (0, (0, (0, (0, (0, ())))))).1 == 4) then
 let v3 : Int := (IntKind.wrap .i64 ((IntKind.wrap .i64 (8 * e6_1)) + (List.getD e6_3 (Int.toNat s6.1) (0, (0, (0, (0, (0, ())))))).2.2.2.2.1))
 bif (decide (List.length s6.2 + List.length [((List.getD e6_3 (Int.toNat s6.1) (0, (0, (0, (0, (0, ())))))).2.2.1, (0, (v3, ())))] ≤ rowMax)) then
 r6 ((IntKind.wrap .i64 (s6.1 + 1)), (s6.2 ++ [((List.getD e6_3 (Int.toNat s6.1) (0, (0, (0, (0, (0, ())))))).2.2.1, (0, (v3, ())))]))
 else
 none
 else
 r6 ((IntKind.wrap .i64 (s6.1 + 1)), s6.2)
 else
 none
 else
 r3 ((IntKind.wrap .i64 (e6_2 + 1)), s6.2)
def zq07.b1 (e13_1 : (List T_s63)) (e13_2 : Int) (e3_3 : T_s35)   (k : Bool → Option Ω) (r13 : Int × (List T_s63) → Option Ω) (s13 : Int × (List T_s63)) : Option Ω :=
 bif (decide (s13.1 < e13_2)) then
 bif (idxOK s13.1 (List.length e13_1)) then
 (zq06.u s13.2 ((List.getD e13_1 (Int.toNat s13.1) (0, (0, (0, ())))))).bind fun y4 =>
 (bif (decide (y4 < 0)) then some (true, ()) else (bif (decide (s13.1 > 0)) then (bif (idxOK (IntKind.wrap .i64 (s13.1 - 1)) (List.length e3_3.2.2.2.2.2.1)) then (let v5 : Int := (List.getD e3_3.2.2.2.2.2.1 (Int.toNat (IntKind.wrap .i64 (s13.1 - 1))) (0, (0, (0, ())))).1; some ((decide ((List.getD e13_1 (Int.toNat s13.1) (0, (0, (0, ())))).1 < v5)), ())) else none) else some (false, ()))).bind fun j6 =>
 bif j6.1 then
 k false
 else
 bif ((decide ((0 : Int) ≤ y4) && decide (y4 < (IntKind.wrap .i64 (y4 + 1)))) && decide ((IntKind.wrap .i64 (y4 + 1)) ≤ (List.length s13.2 : Int))) then
 r13 ((IntKind.wrap .i64 (s13.1 + 1)), (List.take (Int.toNat y4) s13.2 ++ List.drop (Int.toNat (IntKind.wrap .i64 (y4 + 1))) s13.2))
 else
 none
 else
 none
 else
 k (((List.length s13.2 : Nat) : Int) == 0)
def zq07.b2 (e3_1 : (List Int)) (e3_2 : Int) (e3_3 : T_s35)  (lp0 : Int → (List Int) → Int → Int → (List T_s227) → Int → T_s35 → Int × (List T_s63) → Option Ω) (lp1 : (List T_s63) → Int → T_s35 → Int × (List T_s63) → Option Ω) (k : Bool → Option Ω) (r3 : Int × (List T_s63) → Option Ω) (s3 : Int × (List T_s63)) : Option Ω :=
 bif (decide (s3.1 < e3_2)) then
 bif (idxOK s3.1 (List.length e3_1)) then
 bif (idxOK (List.getD e3_1 (Int.toNat s3.1) 0) (List.length e3_3.2.1)) then
 let v2 : (List T_s227) := (List.getD e3_3.2.1 (Int.toNat (List.getD e3_1 (Int.toNat s3.1) 0)) (0, (false, (0, ((0, (false, ((List.replicate 8 0), ((List.replicate 16 0), (0, ((List.replicate 8 0), ())))))), (0, (0, (0, ([], ()))))))))).2.2.2.2.2.2.2.1
 lp0 ((List.getD e3_1 (Int.toNat s3.1) 0)) e3_1 e3_2 s3.1 v2 (((List.length v2 : Nat) : Int)) e3_3 (0, s3.2)
 else
 none
 else
 none
 else
 lp1 e3_3.2.2.2.2.2.1 (((List.length e3_3.2.2.2.2.2.1 : Nat) : Int)) e3_3 (0, s3.2)
def zq07.B2 (fuel : Nat) (e3_1 : (List Int)) (e3_2 : Int) (e3_3 : T_s35)  (k : Bool → Option Ω) (r3 : Int × (List T_s63) → Option Ω) (s3 : Int × (List T_s63)) : Option Ω := zq07.b2 e3_1 e3_2 e3_3  (fun e6_1 e3_1 e3_2 e6_2 e6_3 e6_4 e3_3 => (iter (zq07.b0 e6_1 e3_1 e3_2 e6_2 e6_3 e6_4 e3_3 r3 k) fuel)) (fun e13_1 e13_2 e3_3 => (iter (zq07.b1 e13_1 e13_2 e3_3  k) fuel)) k r3 s3
theorem zq07.l0 (fuel : Nat) (e6_1 : Int) (e3_1 : (List Int)) (e3_2 : Int) (e6_2 : Int) (e6_3 : (List T_s227)) (e6_4 : Int) (e3_3 : T_s35) (R3 : List AV → Heap → Option Ω) (k : AV → Option Ω) : ∀ m, (zq07.M0 fuel e6_1 e3_1 e3_2 e6_2 e6_3 e6_4 e3_3 R3 k m) = iter (zq07.b0 e6_1 e3_1 e3_2 e6_2 e6_3 e6_4 e3_3 (fun s3 => R3 ((zq07.E2 e3_1 e3_2 e3_3) s3) ((zq07.H2 e3_1 e3_2 e3_3) s3)) (fun r => k (tupAV .bool [] r))) m :=
 loopK_iter (envOf := (zq07.E0 e6_1 e3_1 e3_2 e6_2 e6_3 e6_4 e3_3)) (LOf := (zq07.H0 e6_1 e3_1 e3_2 e6_2 e6_3 e6_4 e3_3)) (B := zq07.b0 e6_1 e3_1 e3_2 e6_2 e6_3 e6_4 e3_3 (fun s3 => R3 ((zq07.E2 e3_1 e3_2 e3_3) s3) ((zq07.H2 e3_1 e3_2 e3_3) s3)) (fun r => k (tupAV .bool [] r))) (fun R s => by kernel_rfl)
theorem zq07.l1 (fuel : Nat) (e13_1 : (List T_s63)) (e13_2 : Int) (e3_3 : T_s35)  (k : AV → Option Ω) : ∀ m, (zq07.M1 fuel e13_1 e13_2 e3_3  k m) = iter (zq07.b1 e13_1 e13_2 e3_3  (fun r => k (tupAV .bool [] r))) m :=
 loopK_iter (envOf := (zq07.E1 e13_1 e13_2 e3_3)) (LOf := (zq07.H1 e13_1 e13_2 e3_3)) (B := zq07.b1 e13_1 e13_2 e3_3  (fun r => k (tupAV .bool [] r))) (fun R s => by kernel_rfl)
theorem zq07.l2 (fuel : Nat) (e3_1 : (List Int)) (e3_2 : Int) (e3_3 : T_s35)  (k : AV → Option Ω) : ∀ m, (zq07.M2 fuel e3_1 e3_2 e3_3  k m) = iter (zq07.B2 fuel e3_1 e3_2 e3_3  (fun r => k (tupAV .bool [] r))) m :=
 loopK_iter (envOf := (zq07.E2 e3_1 e3_2 e3_3)) (LOf := (zq07.H2 e3_1 e3_2 e3_3)) (B := zq07.B2 fuel e3_1 e3_2 e3_3  (fun r => k (tupAV .bool [] r))) (fun R s => by
 have h0 : zq07.V fuel 75 ((zq07.E2 e3_1 e3_2 e3_3) s) ((zq07.H2 e3_1 e3_2 e3_3) s) (loopC R (mB 84 19342813113834066795241461) [] 2 (blockK 0 (sqK (zq07.V fuel 15) (finK CDEKP Tryz.f55 k)))) = zq07.b2 e3_1 e3_2 e3_3  (fun e6_1 e3_1 e3_2 e6_2 e6_3 e6_4 e3_3 => (zq07.M0 fuel e6_1 e3_1 e3_2 e6_2 e6_3 e6_4 e3_3 R k fuel)) (fun e13_1 e13_2 e3_3 => (zq07.M1 fuel e13_1 e13_2 e3_3  k fuel)) (fun r => k (tupAV .bool [] r)) (fun s => R ((zq07.E2 e3_1 e3_2 e3_3) s) ((zq07.H2 e3_1 e3_2 e3_3) s)) s := by kernel_rfl
 have h1 := funext fun (e6_1 : Int) => funext fun (e3_1 : (List Int)) => funext fun (e3_2 : Int) => funext fun (e6_2 : Int) => funext fun (e6_3 : (List T_s227)) => funext fun (e6_4 : Int) => funext fun (e3_3 : T_s35) => zq07.l0 fuel e6_1 e3_1 e3_2 e6_2 e6_3 e6_4 e3_3  R k fuel
 have h2 := funext fun (e13_1 : (List T_s63)) => funext fun (e13_2 : Int) => funext fun (e3_3 : T_s35) => zq07.l1 fuel e13_1 e13_2 e3_3   k fuel
 rw [h1, h2] at h0
 exact h0)
def zq07.sl (x0 : T_s35) (lp2 : (List Int) → Int → T_s35 → Int × (List T_s63) → Option Ω) (k : Bool → Option Ω) : Option Ω :=
 (zq27.u x0.2.1 1).bind fun y1 =>
 lp2 y1 (((List.length y1 : Nat) : Int)) x0 (0, [])
def zq07.g0 (e6_1 : Int) (e3_1 : (List Int)) (e3_2 : Int) (e6_2 : Int) (e6_3 : (List T_s227)) (e3_3 : T_s35) (r3 : Int × (List T_s63) → Option Ω) (k : Bool → Option Ω) : List T_s227 → (List T_s63) → Option Ω
 | [], a6_1 =>
 r3 ((e6_2 + 1), a6_1)
 | x6 :: xs6, a6_1 =>
 bif (x6.1 == 4) then
 let v3 : Int := (IntKind.wrap .i64 ((IntKind.wrap .i64 (8 * e6_1)) + x6.2.2.2.2.1))
 bif (decide (List.length a6_1 + List.length [(x6.2.2.1, (0, (v3, ())))] ≤ rowMax)) then
 zq07.g0 e6_1 e3_1 e3_2 e6_2 e6_3 e3_3 r3 k xs6 ((a6_1 ++ [(x6.2.2.1, (0, (v3, ())))]))
 else
 none
 else
 zq07.g0 e6_1 e3_1 e3_2 e6_2 e6_3 e3_3 r3 k xs6 a6_1
theorem zq07.h0 (e6_1 : Int) (e3_1 : (List Int)) (e3_2 : Int) (e6_2 : Int) (e6_3 : (List T_s227)) (e3_3 : T_s35) (r3 : Int × (List T_s63) → Option Ω) (r3' : Int × (List T_s63) → Option Ω) (hr3 : ∀ q : (List T_s63), Le (r3 ((e6_2 + 1), q)) (r3' ((IntKind.wrap .i64 (e6_2 + 1)), q))) (k : Bool → Option Ω) (hX : ((List.length e6_3 : Nat) : Int) ≤ 9223372036854775807) : ∀ (m : Nat) (i : Int) (a : (List T_s63)), 0 ≤ i → i ≤ ((List.length e6_3 : Nat) : Int) → ((List.length e6_3 : Nat) : Int) < m + i → Le (zq07.g0 e6_1 e3_1 e3_2 e6_2 e6_3 e3_3 r3 k (List.drop (Int.toNat i) e6_3) a) (iter (zq07.b0 e6_1 e3_1 e3_2 e6_2 e6_3 (((List.length e6_3 : Nat) : Int)) e3_3 r3' k) m (i, a)) :=
 iter_list e6_3 (0, (0, (0, (0, (0, ()))))) (fun (i6 : Int) (a6 : (List T_s63)) => (i6, a6)) (fun xs i6 a6 => zq07.g0 e6_1 e3_1 e3_2 e6_2 e6_3 e3_3 r3 k xs a6) (zq07.b0 e6_1 e3_1 e3_2 e6_2 e6_3 (((List.length e6_3 : Nat) : Int)) e3_3 r3' k)
 (fun i6 a6 r h0 => (Le.fls h0 (hr3 (a6))))
 (fun i6 xs6 a6 r h0 h1 hw ih => (Le.tru h0 (Le.tru h1 (Le.cond (let v3 : Int := (IntKind.wrap .i64 ((IntKind.wrap .i64 (8 * e6_1)) + (List.getD e6_3 (Int.toNat i6) (0, (0, (0, (0, (0, ())))))).2.2.2.2.1)); (Le.cond (ih _ hw ((a6 ++ [((List.getD e6_3 (Int.toNat i6) (0, (0, (0, (0, (0, ())))))).2.2.1, (0, (v3, ())))]))) Le.nil)) (ih _ hw (a6))))))
 hX
def zq07.g1 (e13_1 : (List T_s63)) (e3_3 : T_s35)  (k : Bool → Option Ω) : List T_s63 → Int → (List T_s63) → Option Ω
 | [], i13, a13_1 =>
 k (((List.length a13_1 : Nat) : Int) == 0)
 | x13 :: xs13, i13, a13_1 =>
 (zq06.u a13_1 (x13)).bind fun y4 =>
 (bif (decide (y4 < 0)) then some (true, ()) else (bif (decide (i13 > 0)) then (bif (idxOK (IntKind.wrap .i64 (i13 - 1)) (List.length e3_3.2.2.2.2.2.1)) then (let v5 : Int := (List.getD e3_3.2.2.2.2.2.1 (Int.toNat (IntKind.wrap .i64 (i13 - 1))) (0, (0, (0, ())))).1; some ((decide (x13.1 < v5)), ())) else none) else some (false, ()))).bind fun j6 =>
 bif j6.1 then
 k false
 else
 bif ((decide ((0 : Int) ≤ y4) && decide (y4 < (IntKind.wrap .i64 (y4 + 1)))) && decide ((IntKind.wrap .i64 (y4 + 1)) ≤ (List.length a13_1 : Int))) then
 zq07.g1 e13_1 e3_3  k xs13 (i13 + 1) ((List.take (Int.toNat y4) a13_1 ++ List.drop (Int.toNat (IntKind.wrap .i64 (y4 + 1))) a13_1))
 else
 none
theorem zq07.h1 (e13_1 : (List T_s63)) (e3_3 : T_s35)   (k : Bool → Option Ω) (hX : ((List.length e13_1 : Nat) : Int) ≤ 9223372036854775807) : ∀ (m : Nat) (i : Int) (a : (List T_s63)), 0 ≤ i → i ≤ ((List.length e13_1 : Nat) : Int) → ((List.length e13_1 : Nat) : Int) < m + i → Le (zq07.g1 e13_1 e3_3  k (List.drop (Int.toNat i) e13_1) i a) (iter (zq07.b1 e13_1 (((List.length e13_1 : Nat) : Int)) e3_3  k) m (i, a)) :=
 iter_list e13_1 (0, (0, (0, ()))) (fun (i13 : Int) (a13 : (List T_s63)) => (i13, a13)) (fun xs i13 a13 => zq07.g1 e13_1 e3_3  k xs i13 a13) (zq07.b1 e13_1 (((List.length e13_1 : Nat) : Int)) e3_3  k)
 (fun i13 a13 r h0 => (Le.fls h0 (Le.refl _)))
 (fun i13 xs13 a13 r h0 h1 hw ih => (Le.tru h0 (Le.tru h1 (Le.bnd fun y4 => (Le.bnd fun j6 => (Le.cond (Le.refl _) (Le.cond (ih _ hw ((List.take (Int.toNat y4) a13 ++ List.drop (Int.toNat (IntKind.wrap .i64 (y4 + 1))) a13))) Le.nil)))))))
 hX
def zq07.g2 (e3_1 : (List Int)) (e3_3 : T_s35)  (k : Bool → Option Ω) : List Int → Int → (List T_s63) → Option Ω
 | [], i3, a3_1 =>
 bif decide (((List.length e3_3.2.2.2.2.2.1 : Nat) : Int) ≤ 4611686018427387904) then zq07.g1 e3_3.2.2.2.2.2.1 e3_3  k e3_3.2.2.2.2.2.1 0 a3_1 else none
 | x3 :: xs3, i3, a3_1 =>
 bif (idxOK x3 (List.length e3_3.2.1)) then
 let v2 : (List T_s227) := (List.getD e3_3.2.1 (Int.toNat x3) (0, (false, (0, ((0, (false, ((List.replicate 8 0), ((List.replicate 16 0), (0, ((List.replicate 8 0), ())))))), (0, (0, (0, ([], ()))))))))).2.2.2.2.2.2.2.1
 bif decide (((List.length v2 : Nat) : Int) ≤ 4611686018427387904) then zq07.g0 x3 e3_1 (((List.length e3_1 : Nat) : Int)) i3 v2 e3_3 (fun q => zq07.g2 e3_1 e3_3  k xs3 q.1 q.2) k v2 a3_1 else none
 else
 none
theorem zq07.h2 (e3_1 : (List Int)) (e3_3 : T_s35)   (k : Bool → Option Ω) (hX : ((List.length e3_1 : Nat) : Int) ≤ 9223372036854775807) : ∀ (m : Nat) (i : Int) (a : (List T_s63)), 0 ≤ i → i ≤ ((List.length e3_1 : Nat) : Int) → ((List.length e3_1 : Nat) : Int) < m + i → Le (zq07.g2 e3_1 e3_3  k (List.drop (Int.toNat i) e3_1) i a) (iter (zq07.B2 BIG e3_1 (((List.length e3_1 : Nat) : Int)) e3_3  k) m (i, a)) :=
 iter_list e3_1 0 (fun (i3 : Int) (a3 : (List T_s63)) => (i3, a3)) (fun xs i3 a3 => zq07.g2 e3_1 e3_3  k xs i3 a3) (zq07.B2 BIG e3_1 (((List.length e3_1 : Nat) : Int)) e3_3  k)
 (fun i3 a3 r h0 => (Le.fls h0 (Le.gd fun hg => zq07.h1 _ _   _ (le_up (of_decide_eq_true hg)) BIG 0 (a3) (by decide) (zero_le_len _) (big_list (of_decide_eq_true hg)))))
 (fun i3 xs3 a3 r h0 h1 hw ih => (Le.tru h0 (Le.tru h1 (Le.cond (let v2 : (List T_s227) := (List.getD e3_3.2.1 (Int.toNat (List.getD e3_1 (Int.toNat i3) 0)) (0, (false, (0, ((0, (false, ((List.replicate 8 0), ((List.replicate 16 0), (0, ((List.replicate 8 0), ())))))), (0, (0, (0, ([], ()))))))))).2.2.2.2.2.2.2.1; (Le.gd fun hg => zq07.h0 _ _ _ _ _ _ _ _ (fun q => ih _ hw q) _ (le_up (of_decide_eq_true hg)) BIG 0 (a3) (by decide) (zero_le_len _) (big_list (of_decide_eq_true hg)))) Le.nil))))
 hX
def zq07.w (x0 : T_s35) (k : Bool → Option Ω) : Option Ω :=
 (zq27.u x0.2.1 1).bind fun y1 =>
 bif decide (((List.length y1 : Nat) : Int) ≤ 4611686018427387904) then zq07.g2 y1 x0  k y1 0 ([]) else none
theorem zq07.ev (fuel : Nat) (x0 : T_s35) (k : AV → Option Ω) : evFn CDEKP (spE (C := CDEKP) [zq27.n, zq06.n] [zq3h.n]) (zq07.F fuel) Tryz.f55 (Tryz.f55.body.getD .skip) [(.v E_s35 (x0))] k = zq07.sl x0 (fun e3_1 e3_2 e3_3 => (zq07.M2 fuel e3_1 e3_2 e3_3  k fuel)) (fun r => k (tupAV .bool [] r)) := by kernel_rfl
theorem zq07.le (x0 : T_s35) (k : AV → Option Ω) : Le (zq07.w x0 (fun r => k (tupAV .bool [] r))) (zq07.sl x0 (fun e3_1 e3_2 e3_3 => (zq07.M2 BIG e3_1 e3_2 e3_3  k BIG)) (fun r => k (tupAV .bool [] r))) := by
 have h3 := funext fun (e3_1 : (List Int)) => funext fun (e3_2 : Int) => funext fun (e3_3 : T_s35) => zq07.l2 BIG e3_1 e3_2 e3_3   k BIG
 rw [h3]
 delta zq07.w zq07.sl
 exact (Le.bnd fun y1 => (Le.gd fun hg => zq07.h2 _ _   _ (le_up (of_decide_eq_true hg)) BIG 0 ([]) (by decide) (zero_le_len _) (big_list (of_decide_eq_true hg))))
def zq07.u (x0 : T_s35) : Option (Bool) := zq07.w x0 some
noncomputable def zq07.n : En CDEKP := mkE CDEKP_ok (es := [zq27.n, zq06.n]) (ms := [zq3h.n]) (fuel := (zq07.F BIG)) 55 Tryz.f55 [.ai E_s35] .bool [] (fun x {Ω} k => zq07.w x.1 k) (fun x Ω k => leV (zq07.ev BIG x.1 k) (zq07.le x.1 k)) (by kernel_rfl) (by kernel_rfl)
def zq3n.s (x0 : T_s35) (k : Bool → Option Ω) : Option Ω :=
 bif (zq38.t x0.1) then
 (zq0n.u x0).bind fun y1 =>
 bif y1 then
 (zq0e.u x0).bind fun y2 =>
 bif y2 then
 (zq0p.u x0).bind fun y3 =>
 bif y3 then
 (zq0q.u x0).bind fun y4 =>
 bif y4 then
 (zq07.u x0).bind fun y5 =>
 k y5
 else
 k false
 else
 k false
 else
 k false
 else
 k false
 else
 k false
def zq3n.u (x0 : T_s35) : Option (Bool) := zq3n.s x0 some
noncomputable def zq3n.n : En CDEKP := mkE CDEKP_ok (es := [zq38.n, zq0n.n, zq0e.n, zq0p.n, zq0q.n, zq07.n]) (ms := []) (fuel := ⟨1, fun _ => []⟩) 15 Tryz.f15 [.ai E_s35] .bool [] (fun x {Ω} k => zq3n.s x.1 k) (fun x Ω k => Le.of (by kernel_rfl)) (by kernel_rfl) (by kernel_rfl)
def zq0f.F (fuel : Nat) : Fuel := ⟨fuel, fun r => bif r == 4 then mL 0 26 67096572 else []⟩
noncomputable def zq0f.V (fuel c : Nat) (env : List AV) (L : Heap) (k : Kont Ω) : Option Ω := evCode CDEKP (spE (C := CDEKP) [] []) (zq0f.F fuel) (pCo c Tryz.f80) env L k
def zq0f.E0 (e4_1 : (List T_s155)) (e4_2 : (List T_s155)) (e4_3 : Int) (s4 : Int) : List AV := ((.v (.slice E_s155) (e4_1)) :: (.v (.slice E_s155) (e4_2)) :: dZ 10 ((.v (.int .i64) (e4_3)) :: (.v (.int .i64) (s4)) :: dZ 12 ([])))
def zq0f.H0 (e4_1 : (List T_s155)) (e4_2 : (List T_s155)) (e4_3 : Int) (s4 : Int) : Heap := []
noncomputable def zq0f.M0 (fuel : Nat) (e4_1 : (List T_s155)) (e4_2 : (List T_s155)) (e4_3 : Int)  (k : AV → Option Ω) (m : Nat) (s : Int) : Option Ω := loopK (zq0f.V fuel 75) (mB 26 67096572) [] 0 (blockK 0 (sqK (zq0f.V fuel 15) (finK CDEKP Tryz.f80 k))) m ((zq0f.E0 e4_1 e4_2 e4_3) s) ((zq0f.H0 e4_1 e4_2 e4_3) s)
def zq0f.b0 (e4_1 : (List T_s155)) (e4_2 : (List T_s155)) (e4_3 : Int)   (k : Bool → Option Ω) (r4 : Int → Option Ω) (s4 : Int) : Option Ω :=
 bif (decide (s4 < e4_3)) then
 bif (idxOK s4 (List.length e4_1)) then
 let v1 : T_s155 := (List.getD e4_1 (Int.toNat s4) ((false, (0, ())), (((List.replicate 4 0), ((List.replicate 4 0), ())), (0, ()))))
 bif (idxOK s4 (List.length e4_2)) then
 let v2 : T_s155 := (List.getD e4_2 (Int.toNat s4) ((false, (0, ())), (((List.replicate 4 0), ((List.replicate 4 0), ())), (0, ()))))
 bif (!(eqI E_s155 v1 v2)) then
 k false
 else
 r4 ((IntKind.wrap .i64 (s4 + 1)))
 else
 none
 else
 none
 else
 k true
theorem zq0f.l0 (fuel : Nat) (e4_1 : (List T_s155)) (e4_2 : (List T_s155)) (e4_3 : Int)  (k : AV → Option Ω) : ∀ m, (zq0f.M0 fuel e4_1 e4_2 e4_3  k m) = iter (zq0f.b0 e4_1 e4_2 e4_3  (fun r => k (tupAV .bool [] r))) m :=
 loopK_iter (envOf := (zq0f.E0 e4_1 e4_2 e4_3)) (LOf := (zq0f.H0 e4_1 e4_2 e4_3)) (B := zq0f.b0 e4_1 e4_2 e4_3  (fun r => k (tupAV .bool [] r))) (fun R s => by kernel_rfl)
def zq0f.sl (x0 : (List T_s155)) (x1 : (List T_s155)) (lp0 : (List T_s155) → (List T_s155) → Int → Int → Option Ω) (k : Bool → Option Ω) : Option Ω :=
 bif (((List.length x0 : Nat) : Int) != ((List.length x1 : Nat) : Int)) then
 k false
 else
 lp0 x0 x1 (((List.length x0 : Nat) : Int)) (0)
def zq0f.g0 (e4_1 : (List T_s155)) (e4_2 : (List T_s155))  (k : Bool → Option Ω) : List T_s155 → Int → Option Ω
 | [], i4 =>
 k true
 | x4 :: xs4, i4 =>
 let v1 : T_s155 := x4
 bif (idxOK i4 (List.length e4_2)) then
 let v2 : T_s155 := (List.getD e4_2 (Int.toNat i4) ((false, (0, ())), (((List.replicate 4 0), ((List.replicate 4 0), ())), (0, ()))))
 bif (!(eqI E_s155 v1 v2)) then
 k false
 else
 zq0f.g0 e4_1 e4_2  k xs4 (i4 + 1)
 else
 none
theorem zq0f.h0 (e4_1 : (List T_s155)) (e4_2 : (List T_s155))   (k : Bool → Option Ω) (hX : ((List.length e4_1 : Nat) : Int) ≤ 9223372036854775807) : ∀ (m : Nat) (i : Int) (a : Unit), 0 ≤ i → i ≤ ((List.length e4_1 : Nat) : Int) → ((List.length e4_1 : Nat) : Int) < m + i → Le (zq0f.g0 e4_1 e4_2  k (List.drop (Int.toNat i) e4_1) i) (iter (zq0f.b0 e4_1 e4_2 (((List.length e4_1 : Nat) : Int))  k) m (i)) :=
 iter_list e4_1 ((false, (0, ())), (((List.replicate 4 0), ((List.replicate 4 0), ())), (0, ()))) (fun (i4 : Int) (a4 : Unit) => (i4)) (fun xs i4 a4 => zq0f.g0 e4_1 e4_2  k xs i4) (zq0f.b0 e4_1 e4_2 (((List.length e4_1 : Nat) : Int))  k)
 (fun i4 a4 r h0 => (Le.fls h0 (Le.refl _)))
 (fun i4 xs4 a4 r h0 h1 hw ih => (Le.tru h0 (Le.tru h1 (let v1 : T_s155 := (List.getD e4_1 (Int.toNat i4) ((false, (0, ())), (((List.replicate 4 0), ((List.replicate 4 0), ())), (0, ())))); (Le.cond (let v2 : T_s155 := (List.getD e4_2 (Int.toNat i4) ((false, (0, ())), (((List.replicate 4 0), ((List.replicate 4 0), ())), (0, ())))); (Le.cond (Le.refl _) (ih _ hw ()))) Le.nil)))))
 hX
def zq0f.w (x0 : (List T_s155)) (x1 : (List T_s155)) (k : Bool → Option Ω) : Option Ω :=
 bif (((List.length x0 : Nat) : Int) != ((List.length x1 : Nat) : Int)) then
 k false
 else
 bif decide (((List.length x0 : Nat) : Int) ≤ 4611686018427387904) then zq0f.g0 x0 x1  k x0 0 else none
theorem zq0f.ev (fuel : Nat) (x0 : (List T_s155)) (x1 : (List T_s155)) (k : AV → Option Ω) : evFn CDEKP (spE (C := CDEKP) [] []) (zq0f.F fuel) Tryz.f80 (Tryz.f80.body.getD .skip) [(.v (.slice E_s155) (x0)), (.v (.slice E_s155) (x1))] k = zq0f.sl x0 x1 (fun e4_1 e4_2 e4_3 => (zq0f.M0 fuel e4_1 e4_2 e4_3  k fuel)) (fun r => k (tupAV .bool [] r)) := by kernel_rfl
theorem zq0f.le (x0 : (List T_s155)) (x1 : (List T_s155)) (k : AV → Option Ω) : Le (zq0f.w x0 x1 (fun r => k (tupAV .bool [] r))) (zq0f.sl x0 x1 (fun e4_1 e4_2 e4_3 => (zq0f.M0 BIG e4_1 e4_2 e4_3  k BIG)) (fun r => k (tupAV .bool [] r))) := by
 have h1 := funext fun (e4_1 : (List T_s155)) => funext fun (e4_2 : (List T_s155)) => funext fun (e4_3 : Int) => zq0f.l0 BIG e4_1 e4_2 e4_3   k BIG
 rw [h1]
 delta zq0f.w zq0f.sl
 exact (Le.cond (Le.refl _) (Le.gd fun hg => zq0f.h0 _ _   _ (le_up (of_decide_eq_true hg)) BIG 0 () (by decide) (zero_le_len _) (big_list (of_decide_eq_true hg))))
noncomputable def zq0f.n : En CDEKP := mkE CDEKP_ok (es := []) (ms := []) (fuel := (zq0f.F BIG)) 80 Tryz.f80 [.ai (.slice E_s155), .ai (.slice E_s155)] .bool [] (fun x {Ω} k => zq0f.w x.1 x.2.1 k) (fun x Ω k => leV (zq0f.ev BIG x.1 x.2.1 k) (zq0f.le x.1 x.2.1 k)) (by kernel_rfl) (by kernel_rfl)
def zq0c.F (fuel : Nat) : Fuel := ⟨fuel, fun r => bif r == 4 then mL 0 26 67096572 else []⟩
noncomputable def zq0c.V (fuel c : Nat) (env : List AV) (L : Heap) (k : Kont Ω) : Option Ω := evCode CDEKP (spE (C := CDEKP) [] []) (zq0c.F fuel) (pCo c Tryz.f81) env L k
def zq0c.E0 (e4_1 : (List T_s63)) (e4_2 : (List T_s63)) (e4_3 : Int) (s4 : Int) : List AV := ((.v (.slice E_s63) (e4_1)) :: (.v (.slice E_s63) (e4_2)) :: dZ 10 ((.v (.int .i64) (e4_3)) :: (.v (.int .i64) (s4)) :: dZ 12 ([])))
def zq0c.H0 (e4_1 : (List T_s63)) (e4_2 : (List T_s63)) (e4_3 : Int) (s4 : Int) : Heap := []
noncomputable def zq0c.M0 (fuel : Nat) (e4_1 : (List T_s63)) (e4_2 : (List T_s63)) (e4_3 : Int)  (k : AV → Option Ω) (m : Nat) (s : Int) : Option Ω := loopK (zq0c.V fuel 75) (mB 26 67096572) [] 0 (blockK 0 (sqK (zq0c.V fuel 15) (finK CDEKP Tryz.f81 k))) m ((zq0c.E0 e4_1 e4_2 e4_3) s) ((zq0c.H0 e4_1 e4_2 e4_3) s)
def zq0c.b0 (e4_1 : (List T_s63)) (e4_2 : (List T_s63)) (e4_3 : Int)   (k : Bool → Option Ω) (r4 : Int → Option Ω) (s4 : Int) : Option Ω :=
 bif (decide (s4 < e4_3)) then
 bif (idxOK s4 (List.length e4_1)) then
 bif (idxOK s4 (List.length e4_2)) then
 let v1 : Bool := (!(eqI E_s63 (List.getD e4_1 (Int.toNat s4) (0, (0, (0, ())))) (List.getD e4_2 (Int.toNat s4) (0, (0, (0, ()))))))
 bif v1 then
 k false
 else
 r4 ((IntKind.wrap .i64 (s4 + 1)))
 else
 none
 else
 none
 else
 k true
theorem zq0c.l0 (fuel : Nat) (e4_1 : (List T_s63)) (e4_2 : (List T_s63)) (e4_3 : Int)  (k : AV → Option Ω) : ∀ m, (zq0c.M0 fuel e4_1 e4_2 e4_3  k m) = iter (zq0c.b0 e4_1 e4_2 e4_3  (fun r => k (tupAV .bool [] r))) m :=
 loopK_iter (envOf := (zq0c.E0 e4_1 e4_2 e4_3)) (LOf := (zq0c.H0 e4_1 e4_2 e4_3)) (B := zq0c.b0 e4_1 e4_2 e4_3  (fun r => k (tupAV .bool [] r))) (fun R s => by kernel_rfl)
def zq0c.sl (x0 : (List T_s63)) (x1 : (List T_s63)) (lp0 : (List T_s63) → (List T_s63) → Int → Int → Option Ω) (k : Bool → Option Ω) : Option Ω :=
 bif (((List.length x0 : Nat) : Int) != ((List.length x1 : Nat) : Int)) then
 k false
 else
 lp0 x0 x1 (((List.length x0 : Nat) : Int)) (0)
def zq0c.g0 (e4_1 : (List T_s63)) (e4_2 : (List T_s63))  (k : Bool → Option Ω) : List T_s63 → Int → Option Ω
 | [], i4 =>
 k true
 | x4 :: xs4, i4 =>
 bif (idxOK i4 (List.length e4_2)) then
 let v1 : Bool := (!(eqI E_s63 x4 (List.getD e4_2 (Int.toNat i4) (0, (0, (0, ()))))))
 bif v1 then
 k false
 else
 zq0c.g0 e4_1 e4_2  k xs4 (i4 + 1)
 else
 none
theorem zq0c.h0 (e4_1 : (List T_s63)) (e4_2 : (List T_s63))   (k : Bool → Option Ω) (hX : ((List.length e4_1 : Nat) : Int) ≤ 9223372036854775807) : ∀ (m : Nat) (i : Int) (a : Unit), 0 ≤ i → i ≤ ((List.length e4_1 : Nat) : Int) → ((List.length e4_1 : Nat) : Int) < m + i → Le (zq0c.g0 e4_1 e4_2  k (List.drop (Int.toNat i) e4_1) i) (iter (zq0c.b0 e4_1 e4_2 (((List.length e4_1 : Nat) : Int))  k) m (i)) :=
 iter_list e4_1 (0, (0, (0, ()))) (fun (i4 : Int) (a4 : Unit) => (i4)) (fun xs i4 a4 => zq0c.g0 e4_1 e4_2  k xs i4) (zq0c.b0 e4_1 e4_2 (((List.length e4_1 : Nat) : Int))  k)
 (fun i4 a4 r h0 => (Le.fls h0 (Le.refl _)))
 (fun i4 xs4 a4 r h0 h1 hw ih => (Le.tru h0 (Le.tru h1 (Le.cond (let v1 : Bool := (!(eqI E_s63 (List.getD e4_1 (Int.toNat i4) (0, (0, (0, ())))) (List.getD e4_2 (Int.toNat i4) (0, (0, (0, ())))))); (Le.cond (Le.refl _) (ih _ hw ()))) Le.nil))))
 hX
def zq0c.w (x0 : (List T_s63)) (x1 : (List T_s63)) (k : Bool → Option Ω) : Option Ω :=
 bif (((List.length x0 : Nat) : Int) != ((List.length x1 : Nat) : Int)) then
 k false
 else
 bif decide (((List.length x0 : Nat) : Int) ≤ 4611686018427387904) then zq0c.g0 x0 x1  k x0 0 else none
theorem zq0c.ev (fuel : Nat) (x0 : (List T_s63)) (x1 : (List T_s63)) (k : AV → Option Ω) : evFn CDEKP (spE (C := CDEKP) [] []) (zq0c.F fuel) Tryz.f81 (Tryz.f81.body.getD .skip) [(.v (.slice E_s63) (x0)), (.v (.slice E_s63) (x1))] k = zq0c.sl x0 x1 (fun e4_1 e4_2 e4_3 => (zq0c.M0 fuel e4_1 e4_2 e4_3  k fuel)) (fun r => k (tupAV .bool [] r)) := by kernel_rfl
theorem zq0c.le (x0 : (List T_s63)) (x1 : (List T_s63)) (k : AV → Option Ω) : Le (zq0c.w x0 x1 (fun r => k (tupAV .bool [] r))) (zq0c.sl x0 x1 (fun e4_1 e4_2 e4_3 => (zq0c.M0 BIG e4_1 e4_2 e4_3  k BIG)) (fun r => k (tupAV .bool [] r))) := by
 have h1 := funext fun (e4_1 : (List T_s63)) => funext fun (e4_2 : (List T_s63)) => funext fun (e4_3 : Int) => zq0c.l0 BIG e4_1 e4_2 e4_3   k BIG
 rw [h1]
 delta zq0c.w zq0c.sl
 exact (Le.cond (Le.refl _) (Le.gd fun hg => zq0c.h0 _ _   _ (le_up (of_decide_eq_true hg)) BIG 0 () (by decide) (zero_le_len _) (big_list (of_decide_eq_true hg))))
noncomputable def zq0c.n : En CDEKP := mkE CDEKP_ok (es := []) (ms := []) (fuel := (zq0c.F BIG)) 81 Tryz.f81 [.ai (.slice E_s63), .ai (.slice E_s63)] .bool [] (fun x {Ω} k => zq0c.w x.1 x.2.1 k) (fun x Ω k => leV (zq0c.ev BIG x.1 x.2.1 k) (zq0c.le x.1 x.2.1 k)) (by kernel_rfl) (by kernel_rfl)
def zq0h.F (fuel : Nat) : Fuel := ⟨fuel, fun r => bif r == 4 then mL 0 26 67096572 else []⟩
noncomputable def zq0h.V (fuel c : Nat) (env : List AV) (L : Heap) (k : Kont Ω) : Option Ω := evCode CDEKP (spE (C := CDEKP) [] []) (zq0h.F fuel) (pCo c Tryz.f160) env L k
def zq0h.E0 (e4_1 : (List T_s227)) (e4_2 : (List T_s227)) (e4_3 : Int) (s4 : Int) : List AV := ((.v (.slice E_s227) (e4_1)) :: (.v (.slice E_s227) (e4_2)) :: dZ 10 ((.v (.int .i64) (e4_3)) :: (.v (.int .i64) (s4)) :: dZ 12 ([])))
def zq0h.H0 (e4_1 : (List T_s227)) (e4_2 : (List T_s227)) (e4_3 : Int) (s4 : Int) : Heap := []
noncomputable def zq0h.M0 (fuel : Nat) (e4_1 : (List T_s227)) (e4_2 : (List T_s227)) (e4_3 : Int)  (k : AV → Option Ω) (m : Nat) (s : Int) : Option Ω := loopK (zq0h.V fuel 75) (mB 26 67096572) [] 0 (blockK 0 (sqK (zq0h.V fuel 15) (finK CDEKP Tryz.f160 k))) m ((zq0h.E0 e4_1 e4_2 e4_3) s) ((zq0h.H0 e4_1 e4_2 e4_3) s)
def zq0h.b0 (e4_1 : (List T_s227)) (e4_2 : (List T_s227)) (e4_3 : Int)   (k : Bool → Option Ω) (r4 : Int → Option Ω) (s4 : Int) : Option Ω :=
 bif (decide (s4 < e4_3)) then
 bif (idxOK s4 (List.length e4_1)) then
 bif (idxOK s4 (List.length e4_2)) then
 let v1 : Bool := (!(eqI E_s227 (List.getD e4_1 (Int.toNat s4) (0, (0, (0, (0, (0, ())))))) (List.getD e4_2 (Int.toNat s4) (0, (0, (0, (0, (0, ()))))))))
 bif v1 then
 k false
 else
 r4 ((IntKind.wrap .i64 (s4 + 1)))
 else
 none
 else
 none
 else
 k true
theorem zq0h.l0 (fuel : Nat) (e4_1 : (List T_s227)) (e4_2 : (List T_s227)) (e4_3 : Int)  (k : AV → Option Ω) : ∀ m, (zq0h.M0 fuel e4_1 e4_2 e4_3  k m) = iter (zq0h.b0 e4_1 e4_2 e4_3  (fun r => k (tupAV .bool [] r))) m :=
 loopK_iter (envOf := (zq0h.E0 e4_1 e4_2 e4_3)) (LOf := (zq0h.H0 e4_1 e4_2 e4_3)) (B := zq0h.b0 e4_1 e4_2 e4_3  (fun r => k (tupAV .bool [] r))) (fun R s => by kernel_rfl)
def zq0h.sl (x0 : (List T_s227)) (x1 : (List T_s227)) (lp0 : (List T_s227) → (List T_s227) → Int → Int → Option Ω) (k : Bool → Option Ω) : Option Ω :=
 bif (((List.length x0 : Nat) : Int) != ((List.length x1 : Nat) : Int)) then
 k false
 else
 lp0 x0 x1 (((List.length x0 : Nat) : Int)) (0)
def zq0h.g0 (e4_1 : (List T_s227)) (e4_2 : (List T_s227))  (k : Bool → Option Ω) : List T_s227 → Int → Option Ω
 | [], i4 =>
 k true
 | x4 :: xs4, i4 =>
 bif (idxOK i4 (List.length e4_2)) then
 let v1 : Bool := (!(eqI E_s227 x4 (List.getD e4_2 (Int.toNat i4) (0, (0, (0, (0, (0, ()))))))))
 bif v1 then
 k false
 else
 zq0h.g0 e4_1 e4_2  k xs4 (i4 + 1)
 else
 none
theorem zq0h.h0 (e4_1 : (List T_s227)) (e4_2 : (List T_s227))   (k : Bool → Option Ω) (hX : ((List.length e4_1 : Nat) : Int) ≤ 9223372036854775807) : ∀ (m : Nat) (i : Int) (a : Unit), 0 ≤ i → i ≤ ((List.length e4_1 : Nat) : Int) → ((List.length e4_1 : Nat) : Int) < m + i → Le (zq0h.g0 e4_1 e4_2  k (List.drop (Int.toNat i) e4_1) i) (iter (zq0h.b0 e4_1 e4_2 (((List.length e4_1 : Nat) : Int))  k) m (i)) :=
 iter_list e4_1 (0, (0, (0, (0, (0, ()))))) (fun (i4 : Int) (a4 : Unit) => (i4)) (fun xs i4 a4 => zq0h.g0 e4_1 e4_2  k xs i4) (zq0h.b0 e4_1 e4_2 (((List.length e4_1 : Nat) : Int))  k)
 (fun i4 a4 r h0 => (Le.fls h0 (Le.refl _)))
 (fun i4 xs4 a4 r h0 h1 hw ih => (Le.tru h0 (Le.tru h1 (Le.cond (let v1 : Bool := (!(eqI E_s227 (List.getD e4_1 (Int.toNat i4) (0, (0, (0, (0, (0, ())))))) (List.getD e4_2 (Int.toNat i4) (0, (0, (0, (0, (0, ())))))))); (Le.cond (Le.refl _) (ih _ hw ()))) Le.nil))))
 hX
def zq0h.w (x0 : (List T_s227)) (x1 : (List T_s227)) (k : Bool → Option Ω) : Option Ω :=
 bif (((List.length x0 : Nat) : Int) != ((List.length x1 : Nat) : Int)) then
 k false
 else
 bif decide (((List.length x0 : Nat) : Int) ≤ 4611686018427387904) then zq0h.g0 x0 x1  k x0 0 else none
theorem zq0h.ev (fuel : Nat) (x0 : (List T_s227)) (x1 : (List T_s227)) (k : AV → Option Ω) : evFn CDEKP (spE (C := CDEKP) [] []) (zq0h.F fuel) Tryz.f160 (Tryz.f160.body.getD .skip) [(.v (.slice E_s227) (x0)), (.v (.slice E_s227) (x1))] k = zq0h.sl x0 x1 (fun e4_1 e4_2 e4_3 => (zq0h.M0 fuel e4_1 e4_2 e4_3  k fuel)) (fun r => k (tupAV .bool [] r)) := by kernel_rfl
theorem zq0h.le (x0 : (List T_s227)) (x1 : (List T_s227)) (k : AV → Option Ω) : Le (zq0h.w x0 x1 (fun r => k (tupAV .bool [] r))) (zq0h.sl x0 x1 (fun e4_1 e4_2 e4_3 => (zq0h.M0 BIG e4_1 e4_2 e4_3  k BIG)) (fun r => k (tupAV .bool [] r))) := by
 have h1 := funext fun (e4_1 : (List T_s227)) => funext fun (e4_2 : (List T_s227)) => funext fun (e4_3 : Int) => zq0h.l0 BIG e4_1 e4_2 e4_3   k BIG
 rw [h1]
 delta zq0h.w zq0h.sl
 exact (Le.cond (Le.refl _) (Le.gd fun hg => zq0h.h0 _ _   _ (le_up (of_decide_eq_true hg)) BIG 0 () (by decide) (zero_le_len _) (big_list (of_decide_eq_true hg))))
noncomputable def zq0h.n : En CDEKP := mkE CDEKP_ok (es := []) (ms := []) (fuel := (zq0h.F BIG)) 160 Tryz.f160 [.ai (.slice E_s227), .ai (.slice E_s227)] .bool [] (fun x {Ω} k => zq0h.w x.1 x.2.1 k) (fun x Ω k => leV (zq0h.ev BIG x.1 x.2.1 k) (zq0h.le x.1 x.2.1 k)) (by kernel_rfl) (by kernel_rfl)
def zq1e.F (fuel : Nat) : Fuel := ⟨fuel, fun r => bif r == 3 then mL 0 41 2199015915505 else []⟩
noncomputable def zq1e.V (fuel c : Nat) (env : List AV) (L : Heap) (k : Kont Ω) : Option Ω := evCode CDEKP (spE (C := CDEKP) [zq27.n, zq0t.n] []) (zq1e.F fuel) (pCo c Tryz.f21) env L k
def zq1e.E0 (e3_1 : (List Int)) (e3_2 : Int) (e3_3 : T_s35) (e3_4 : Int) (e3_5 : (List T_s114)) (e3_6 : (List T_s155)) (e3_7 : (List T_s63)) (e3_8 : (List Int)) (s3 : Int × (List T_s175)) : List AV := (dZ 1 ((.ref 0 []) :: (.ref 1 []) :: (.ref 2 []) :: dZ 16 ((.v (.slice (.int .i64)) (e3_1)) :: (.v (.int .i64) (e3_2)) :: (.v (.int .i64) (s3.1)) :: dZ 18 ([]))))
def zq1e.H0 (e3_1 : (List Int)) (e3_2 : Int) (e3_3 : T_s35) (e3_4 : Int) (e3_5 : (List T_s114)) (e3_6 : (List T_s155)) (e3_7 : (List T_s63)) (e3_8 : (List Int)) (s3 : Int × (List T_s175)) : Heap := [(.box E_s35 e3_3 false), (.box E_s60 (0, ([], ([], ([], ([], ([], ())))))) false), (.lbx E_s60 (e3_4, (e3_5, (e3_6, ([], (e3_7, (e3_8, ())))))) [(3, some 3)]), (.row 176 E_s175 s3.2 false)]
noncomputable def zq1e.M0 (fuel : Nat) (e3_1 : (List Int)) (e3_2 : Int) (e3_3 : T_s35) (e3_4 : Int) (e3_5 : (List T_s114)) (e3_6 : (List T_s155)) (e3_7 : (List T_s63)) (e3_8 : (List Int))  (k : AV → Option Ω) (m : Nat) (s : Int × (List T_s175)) : Option Ω := loopK (zq1e.V fuel 75) (mB 41 2199015915505) [] 4 (blockK 0 (sqK (zq1e.V fuel 15) (finK CDEKP Tryz.f21 k))) m ((zq1e.E0 e3_1 e3_2 e3_3 e3_4 e3_5 e3_6 e3_7 e3_8) s) ((zq1e.H0 e3_1 e3_2 e3_3 e3_4 e3_5 e3_6 e3_7 e3_8) s)
def zq1e.b0 (e3_1 : (List Int)) (e3_2 : Int) (e3_3 : T_s35) (e3_4 : Int) (e3_5 : (List T_s114)) (e3_6 : (List T_s155)) (e3_7 : (List T_s63)) (e3_8 : (List Int))   (k : T_s60 → Option Ω) (r3 : Int × (List T_s175) → Option Ω) (s3 : Int × (List T_s175)) : Option Ω :=
 bif (decide (s3.1 < e3_2)) then
 bif (idxOK s3.1 (List.length e3_1)) then
 bif (idxOK (List.getD e3_1 (Int.toNat s3.1) 0) (List.length e3_3.2.1)) then
 let v3 : (List T_s227) := (List.getD e3_3.2.1 (Int.toNat (List.getD e3_1 (Int.toNat s3.1) 0)) (0, (false, (0, ((0, (false, ((List.replicate 8 0), ((List.replicate 16 0), (0, ((List.replicate 8 0), ())))))), (0, (0, (0, ([], ()))))))))).2.2.2.2.2.2.2.1
 bif (decide (List.length s3.2 + List.length [((List.getD e3_1 (Int.toNat s3.1) 0), (v3, ()))] ≤ rowMax)) then
 r3 ((IntKind.wrap .i64 (s3.1 + 1)), (s3.2 ++ [((List.getD e3_1 (Int.toNat s3.1) 0), (v3, ()))]))
 else
 none
 else
 none
 else
 none
 else
 k (e3_4, (e3_5, (e3_6, (s3.2, (e3_7, (e3_8, ()))))))
theorem zq1e.l0 (fuel : Nat) (e3_1 : (List Int)) (e3_2 : Int) (e3_3 : T_s35) (e3_4 : Int) (e3_5 : (List T_s114)) (e3_6 : (List T_s155)) (e3_7 : (List T_s63)) (e3_8 : (List Int))  (k : AV → Option Ω) : ∀ m, (zq1e.M0 fuel e3_1 e3_2 e3_3 e3_4 e3_5 e3_6 e3_7 e3_8  k m) = iter (zq1e.b0 e3_1 e3_2 e3_3 e3_4 e3_5 e3_6 e3_7 e3_8  (fun r => k (tupAV E_s60 [] r))) m :=
 loopK_iter (envOf := (zq1e.E0 e3_1 e3_2 e3_3 e3_4 e3_5 e3_6 e3_7 e3_8)) (LOf := (zq1e.H0 e3_1 e3_2 e3_3 e3_4 e3_5 e3_6 e3_7 e3_8)) (B := zq1e.b0 e3_1 e3_2 e3_3 e3_4 e3_5 e3_6 e3_7 e3_8  (fun r => k (tupAV E_s60 [] r))) (fun R s => by kernel_rfl)
def zq1e.sl (x0 : T_s35) (lp0 : (List Int) → Int → T_s35 → Int → (List T_s114) → (List T_s155) → (List T_s63) → (List Int) → Int × (List T_s175) → Option Ω) (k : T_s60 → Option Ω) : Option Ω :=
 (zq0t.u x0.2.1).bind fun y1 =>
 (zq27.u x0.2.1 1).bind fun y2 =>
 lp0 y2 (((List.length y2 : Nat) : Int)) x0 x0.1 x0.2.2.1 x0.2.2.2.1 x0.2.2.2.2.2.1 y1 (0, [])
def zq1e.g0 (e3_1 : (List Int)) (e3_3 : T_s35) (e3_4 : Int) (e3_5 : (List T_s114)) (e3_6 : (List T_s155)) (e3_7 : (List T_s63)) (e3_8 : (List Int))  (k : T_s60 → Option Ω) : List Int → (List T_s175) → Option Ω
 | [], a3_1 =>
 k (e3_4, (e3_5, (e3_6, (a3_1, (e3_7, (e3_8, ()))))))
 | x3 :: xs3, a3_1 =>
 bif (idxOK x3 (List.length e3_3.2.1)) then
 let v3 : (List T_s227) := (List.getD e3_3.2.1 (Int.toNat x3) (0, (false, (0, ((0, (false, ((List.replicate 8 0), ((List.replicate 16 0), (0, ((List.replicate 8 0), ())))))), (0, (0, (0, ([], ()))))))))).2.2.2.2.2.2.2.1
 bif (decide (List.length a3_1 + List.length [(x3, (v3, ()))] ≤ rowMax)) then
 zq1e.g0 e3_1 e3_3 e3_4 e3_5 e3_6 e3_7 e3_8  k xs3 ((a3_1 ++ [(x3, (v3, ()))]))
 else
 none
 else
 none
theorem zq1e.h0 (e3_1 : (List Int)) (e3_3 : T_s35) (e3_4 : Int) (e3_5 : (List T_s114)) (e3_6 : (List T_s155)) (e3_7 : (List T_s63)) (e3_8 : (List Int))   (k : T_s60 → Option Ω) (hX : ((List.length e3_1 : Nat) : Int) ≤ 9223372036854775807) : ∀ (m : Nat) (i : Int) (a : (List T_s175)), 0 ≤ i → i ≤ ((List.length e3_1 : Nat) : Int) → ((List.length e3_1 : Nat) : Int) < m + i → Le (zq1e.g0 e3_1 e3_3 e3_4 e3_5 e3_6 e3_7 e3_8  k (List.drop (Int.toNat i) e3_1) a) (iter (zq1e.b0 e3_1 (((List.length e3_1 : Nat) : Int)) e3_3 e3_4 e3_5 e3_6 e3_7 e3_8  k) m (i, a)) :=
 iter_list e3_1 0 (fun (i3 : Int) (a3 : (List T_s175)) => (i3, a3)) (fun xs i3 a3 => zq1e.g0 e3_1 e3_3 e3_4 e3_5 e3_6 e3_7 e3_8  k xs a3) (zq1e.b0 e3_1 (((List.length e3_1 : Nat) : Int)) e3_3 e3_4 e3_5 e3_6 e3_7 e3_8  k)
 (fun i3 a3 r h0 => (Le.fls h0 (Le.refl _)))
 (fun i3 xs3 a3 r h0 h1 hw ih => (Le.tru h0 (Le.tru h1 (Le.cond (let v3 : (List T_s227) := (List.getD e3_3.2.1 (Int.toNat (List.getD e3_1 (Int.toNat i3) 0)) (0, (false, (0, ((0, (false, ((List.replicate 8 0), ((List.replicate 16 0), (0, ((List.replicate 8 0), ())))))), (0, (0, (0, ([], ()))))))))).2.2.2.2.2.2.2.1; (Le.cond (ih _ hw ((a3 ++ [((List.getD e3_1 (Int.toNat i3) 0), (v3, ()))]))) Le.nil)) Le.nil))))
 hX
def zq1e.w (x0 : T_s35) (k : T_s60 → Option Ω) : Option Ω :=
 (zq0t.u x0.2.1).bind fun y1 =>
 (zq27.u x0.2.1 1).bind fun y2 =>
 bif decide (((List.length y2 : Nat) : Int) ≤ 4611686018427387904) then zq1e.g0 y2 x0 x0.1 x0.2.2.1 x0.2.2.2.1 x0.2.2.2.2.2.1 y1  k y2 ([]) else none
theorem zq1e.ev (fuel : Nat) (x0 : T_s35) (k : AV → Option Ω) : evFn CDEKP (spE (C := CDEKP) [zq27.n, zq0t.n] []) (zq1e.F fuel) Tryz.f21 (Tryz.f21.body.getD .skip) [(.v E_s35 (x0))] k = zq1e.sl x0 (fun e3_1 e3_2 e3_3 e3_4 e3_5 e3_6 e3_7 e3_8 => (zq1e.M0 fuel e3_1 e3_2 e3_3 e3_4 e3_5 e3_6 e3_7 e3_8  k fuel)) (fun r => k (tupAV E_s60 [] r)) := by kernel_rfl
theorem zq1e.le (x0 : T_s35) (k : AV → Option Ω) : Le (zq1e.w x0 (fun r => k (tupAV E_s60 [] r))) (zq1e.sl x0 (fun e3_1 e3_2 e3_3 e3_4 e3_5 e3_6 e3_7 e3_8 => (zq1e.M0 BIG e3_1 e3_2 e3_3 e3_4 e3_5 e3_6 e3_7 e3_8  k BIG)) (fun r => k (tupAV E_s60 [] r))) := by
 have h1 := funext fun (e3_1 : (List Int)) => funext fun (e3_2 : Int) => funext fun (e3_3 : T_s35) => funext fun (e3_4 : Int) => funext fun (e3_5 : (List T_s114)) => funext fun (e3_6 : (List T_s155)) => funext fun (e3_7 : (List T_s63)) => funext fun (e3_8 : (List Int)) => zq1e.l0 BIG e3_1 e3_2 e3_3 e3_4 e3_5 e3_6 e3_7 e3_8   k BIG
 rw [h1]
 delta zq1e.w zq1e.sl
 exact (Le.bnd fun y1 => (Le.bnd fun y2 => (Le.gd fun hg => zq1e.h0 _ _ _ _ _ _ _   _ (le_up (of_decide_eq_true hg)) BIG 0 ([]) (by decide) (zero_le_len _) (big_list (of_decide_eq_true hg)))))
def zq1e.u (x0 : T_s35) : Option (T_s60) := zq1e.w x0 some
noncomputable def zq1e.n : En CDEKP := mkE CDEKP_ok (es := [zq27.n, zq0t.n]) (ms := []) (fuel := (zq1e.F BIG)) 21 Tryz.f21 [.ai E_s35] E_s60 [] (fun x {Ω} k => zq1e.w x.1 k) (fun x Ω k => leV (zq1e.ev BIG x.1 k) (zq1e.le x.1 k)) (by kernel_rfl) (by kernel_rfl)
def zq4h.s (x0 : T_s153) (k : T_s72 → Option Ω) : Option Ω :=
 (zq2m.u x0.1).bind fun y1 =>
 (zq2m.u x0.2.1).bind fun y2 =>
 k (y1, (y2, ()))
def zq4h.u (x0 : T_s153) : Option (T_s72) := zq4h.s x0 some
noncomputable def zq4h.n : En CDEKP := mkE CDEKP_ok (es := [zq2m.n]) (ms := []) (fuel := ⟨1, fun _ => []⟩) 185 Tryz.f185 [.ai E_s153] E_s72 [] (fun x {Ω} k => zq4h.s x.1 k) (fun x Ω k => Le.of (by kernel_rfl)) (by kernel_rfl) (by kernel_rfl)
def zq3m.s (x0 : T_s155) (k : T_s76 → Option Ω) : Option Ω :=
 (zq4h.u x0.2.1).bind fun y1 =>
 k (x0.1, (y1, (x0.2.2.1, ())))
def zq3m.u (x0 : T_s155) : Option (T_s76) := zq3m.s x0 some
noncomputable def zq3m.n : En CDEKP := mkE CDEKP_ok (es := [zq4h.n]) (ms := []) (fuel := ⟨1, fun _ => []⟩) 120 Tryz.f120 [.ai E_s155] E_s76 [] (fun x {Ω} k => zq3m.s x.1 k) (fun x Ω k => Le.of (by kernel_rfl)) (by kernel_rfl) (by kernel_rfl)
def zq15.F (fuel : Nat) : Fuel := ⟨fuel, fun r => bif r == 3 then mL 0 19 523831 else []⟩
noncomputable def zq15.V (fuel c : Nat) (env : List AV) (L : Heap) (k : Kont Ω) : Option Ω := evCode CDEKP (spE (C := CDEKP) [zq3m.n] []) (zq15.F fuel) (pCo c Tryz.f42) env L k
def zq15.E0 (e3_1 : (List T_s155)) (e3_2 : Int) (s3 : Int × (List T_s76)) : List AV := (dZ 3 ((.rs 1) :: dZ 2 ((.v (.slice E_s155) (e3_1)) :: (.v (.int .i64) (e3_2)) :: (.v (.int .i64) (s3.1)) :: dZ 10 ([]))))
def zq15.H0 (e3_1 : (List T_s155)) (e3_2 : Int) (s3 : Int × (List T_s76)) : Heap := [(.row 77 E_s76 [] false), (.row 77 E_s76 s3.2 false)]
noncomputable def zq15.M0 (fuel : Nat) (e3_1 : (List T_s155)) (e3_2 : Int)  (k : AV → Option Ω) (m : Nat) (s : Int × (List T_s76)) : Option Ω := loopK (zq15.V fuel 75) (mB 19 523831) [] 2 (blockK 0 (sqK (zq15.V fuel 15) (finK CDEKP Tryz.f42 k))) m ((zq15.E0 e3_1 e3_2) s) ((zq15.H0 e3_1 e3_2) s)
def zq15.b0 (e3_1 : (List T_s155)) (e3_2 : Int)   (k : (List T_s76) → Option Ω) (r3 : Int × (List T_s76) → Option Ω) (s3 : Int × (List T_s76)) : Option Ω :=
 bif (decide (s3.1 < e3_2)) then
 bif (idxOK s3.1 (List.length e3_1)) then
 let v1 : T_s155 := (List.getD e3_1 (Int.toNat s3.1) ((false, (0, ())), (((List.replicate 4 0), ((List.replicate 4 0), ())), (0, ()))))
 (zq3m.u v1).bind fun y2 =>
 bif (decide (List.length s3.2 + List.length [y2] ≤ rowMax)) then
 r3 ((IntKind.wrap .i64 (s3.1 + 1)), (s3.2 ++ [y2]))
 else
 none
 else
 none
 else
 k s3.2
theorem zq15.l0 (fuel : Nat) (e3_1 : (List T_s155)) (e3_2 : Int)  (k : AV → Option Ω) : ∀ m, (zq15.M0 fuel e3_1 e3_2  k m) = iter (zq15.b0 e3_1 e3_2  (fun r => k (tupAV (.slice E_s76) [] r))) m :=
 loopK_iter (envOf := (zq15.E0 e3_1 e3_2)) (LOf := (zq15.H0 e3_1 e3_2)) (B := zq15.b0 e3_1 e3_2  (fun r => k (tupAV (.slice E_s76) [] r))) (fun R s => by kernel_rfl)
def zq15.sl (x0 : (List T_s155)) (lp0 : (List T_s155) → Int → Int × (List T_s76) → Option Ω) (k : (List T_s76) → Option Ω) : Option Ω :=
 lp0 x0 (((List.length x0 : Nat) : Int)) (0, [])
def zq15.g0 (e3_1 : (List T_s155))  (k : (List T_s76) → Option Ω) : List T_s155 → (List T_s76) → Option Ω
 | [], a3_1 =>
 k a3_1
 | x3 :: xs3, a3_1 =>
 let v1 : T_s155 := x3
 (zq3m.u v1).bind fun y2 =>
 bif (decide (List.length a3_1 + List.length [y2] ≤ rowMax)) then
 zq15.g0 e3_1  k xs3 (a3_1 ++ [y2])
 else
 none
theorem zq15.h0 (e3_1 : (List T_s155))   (k : (List T_s76) → Option Ω) (hX : ((List.length e3_1 : Nat) : Int) ≤ 9223372036854775807) : ∀ (m : Nat) (i : Int) (a : (List T_s76)), 0 ≤ i → i ≤ ((List.length e3_1 : Nat) : Int) → ((List.length e3_1 : Nat) : Int) < m + i → Le (zq15.g0 e3_1  k (List.drop (Int.toNat i) e3_1) a) (iter (zq15.b0 e3_1 (((List.length e3_1 : Nat) : Int))  k) m (i, a)) :=
 iter_list e3_1 ((false, (0, ())), (((List.replicate 4 0), ((List.replicate 4 0), ())), (0, ()))) (fun (i3 : Int) (a3 : (List T_s76)) => (i3, a3)) (fun xs i3 a3 => zq15.g0 e3_1  k xs a3) (zq15.b0 e3_1 (((List.length e3_1 : Nat) : Int))  k)
 (fun i3 a3 r h0 => (Le.fls h0 (Le.refl _)))
 (fun i3 xs3 a3 r h0 h1 hw ih => (Le.tru h0 (Le.tru h1 (let v1 : T_s155 := (List.getD e3_1 (Int.toNat i3) ((false, (0, ())), (((List.replicate 4 0), ((List.replicate 4 0), ())), (0, ())))); (Le.bnd fun y2 => (Le.cond (ih _ hw ((a3 ++ [y2]))) Le.nil))))))
 hX
def zq15.w (x0 : (List T_s155)) (k : (List T_s76) → Option Ω) : Option Ω :=
 bif decide (((List.length x0 : Nat) : Int) ≤ 4611686018427387904) then zq15.g0 x0  k x0 ([]) else none
theorem zq15.ev (fuel : Nat) (x0 : (List T_s155)) (k : AV → Option Ω) : evFn CDEKP (spE (C := CDEKP) [zq3m.n] []) (zq15.F fuel) Tryz.f42 (Tryz.f42.body.getD .skip) [(.v (.slice E_s155) (x0))] k = zq15.sl x0 (fun e3_1 e3_2 => (zq15.M0 fuel e3_1 e3_2  k fuel)) (fun r => k (tupAV (.slice E_s76) [] r)) := by kernel_rfl
theorem zq15.le (x0 : (List T_s155)) (k : AV → Option Ω) : Le (zq15.w x0 (fun r => k (tupAV (.slice E_s76) [] r))) (zq15.sl x0 (fun e3_1 e3_2 => (zq15.M0 BIG e3_1 e3_2  k BIG)) (fun r => k (tupAV (.slice E_s76) [] r))) := by
 have h1 := funext fun (e3_1 : (List T_s155)) => funext fun (e3_2 : Int) => zq15.l0 BIG e3_1 e3_2   k BIG
 rw [h1]
 delta zq15.w zq15.sl
 exact (Le.gd fun hg => zq15.h0 _   _ (le_up (of_decide_eq_true hg)) BIG 0 ([]) (by decide) (zero_le_len _) (big_list (of_decide_eq_true hg)))
def zq15.u (x0 : (List T_s155)) : Option ((List T_s76)) := zq15.w x0 some
noncomputable def zq15.n : En CDEKP := mkE CDEKP_ok (es := [zq3m.n]) (ms := []) (fuel := (zq15.F BIG)) 42 Tryz.f42 [.ai (.slice E_s155)] (.slice E_s76) [] (fun x {Ω} k => zq15.w x.1 k) (fun x Ω k => leV (zq15.ev BIG x.1 k) (zq15.le x.1 k)) (by kernel_rfl) (by kernel_rfl)
def zq1a.F (fuel : Nat) : Fuel := ⟨fuel, fun r => bif r == 3 then mL 0 35 34345058291 else []⟩
noncomputable def zq1a.V (fuel c : Nat) (env : List AV) (L : Heap) (k : Kont Ω) : Option Ω := evCode CDEKP (spE (C := CDEKP) [zq17.n, zq19.n, zq15.n] []) (zq1a.F fuel) (pCo c Tryz.f11) env L k
def zq1a.E0 (e3_1 : (List T_s63)) (e3_2 : Int) (e3_3 : T_s35) (e3_4 : Int) (e3_5 : (List T_s70)) (e3_6 : (List T_s114)) (e3_7 : (List T_s76)) (e3_8 : (List (List Int))) (s3 : Int × (List T_s63)) : List AV := (dZ 2 ((.ref 1 []) :: (.ref 2 []) :: dZ 17 ((.v (.slice E_s63) (e3_1)) :: (.v (.int .i64) (e3_2)) :: (.v (.int .i64) (s3.1)) :: dZ 11 ([]))))
def zq1a.H0 (e3_1 : (List T_s63)) (e3_2 : Int) (e3_3 : T_s35) (e3_4 : Int) (e3_5 : (List T_s70)) (e3_6 : (List T_s114)) (e3_7 : (List T_s76)) (e3_8 : (List (List Int))) (s3 : Int × (List T_s63)) : Heap := [(.box E_s35 e3_3 false), (.box E_s44 (0, ([], ([], ([], ([], ([], ())))))) false), (.lbx E_s44 (e3_4, (e3_5, (e3_6, (e3_7, (e3_8, ([], ())))))) [(5, some 3)]), (.row 123 E_s63 s3.2 false)]
noncomputable def zq1a.M0 (fuel : Nat) (e3_1 : (List T_s63)) (e3_2 : Int) (e3_3 : T_s35) (e3_4 : Int) (e3_5 : (List T_s70)) (e3_6 : (List T_s114)) (e3_7 : (List T_s76)) (e3_8 : (List (List Int)))  (k : AV → Option Ω) (m : Nat) (s : Int × (List T_s63)) : Option Ω := loopK (zq1a.V fuel 75) (mB 35 34345058291) [] 4 (blockK 0 (sqK (zq1a.V fuel 15) (finK CDEKP Tryz.f11 k))) m ((zq1a.E0 e3_1 e3_2 e3_3 e3_4 e3_5 e3_6 e3_7 e3_8) s) ((zq1a.H0 e3_1 e3_2 e3_3 e3_4 e3_5 e3_6 e3_7 e3_8) s)
def zq1a.b0 (e3_1 : (List T_s63)) (e3_2 : Int) (e3_3 : T_s35) (e3_4 : Int) (e3_5 : (List T_s70)) (e3_6 : (List T_s114)) (e3_7 : (List T_s76)) (e3_8 : (List (List Int)))   (k : T_s44 → Option Ω) (r3 : Int × (List T_s63) → Option Ω) (s3 : Int × (List T_s63)) : Option Ω :=
 bif (decide (s3.1 < e3_2)) then
 bif (idxOK s3.1 (List.length e3_1)) then
 bif (decide (List.length s3.2 + List.length [(List.getD e3_1 (Int.toNat s3.1) (0, (0, (0, ()))))] ≤ rowMax)) then
 r3 ((IntKind.wrap .i64 (s3.1 + 1)), (s3.2 ++ [(List.getD e3_1 (Int.toNat s3.1) (0, (0, (0, ()))))]))
 else
 none
 else
 none
 else
 k (e3_4, (e3_5, (e3_6, (e3_7, (e3_8, (s3.2, ()))))))
theorem zq1a.l0 (fuel : Nat) (e3_1 : (List T_s63)) (e3_2 : Int) (e3_3 : T_s35) (e3_4 : Int) (e3_5 : (List T_s70)) (e3_6 : (List T_s114)) (e3_7 : (List T_s76)) (e3_8 : (List (List Int)))  (k : AV → Option Ω) : ∀ m, (zq1a.M0 fuel e3_1 e3_2 e3_3 e3_4 e3_5 e3_6 e3_7 e3_8  k m) = iter (zq1a.b0 e3_1 e3_2 e3_3 e3_4 e3_5 e3_6 e3_7 e3_8  (fun r => k (tupAV E_s44 [] r))) m :=
 loopK_iter (envOf := (zq1a.E0 e3_1 e3_2 e3_3 e3_4 e3_5 e3_6 e3_7 e3_8)) (LOf := (zq1a.H0 e3_1 e3_2 e3_3 e3_4 e3_5 e3_6 e3_7 e3_8)) (B := zq1a.b0 e3_1 e3_2 e3_3 e3_4 e3_5 e3_6 e3_7 e3_8  (fun r => k (tupAV E_s44 [] r))) (fun R s => by kernel_rfl)
def zq1a.sl (x0 : T_s35) (lp0 : (List T_s63) → Int → T_s35 → Int → (List T_s70) → (List T_s114) → (List T_s76) → (List (List Int)) → Int × (List T_s63) → Option Ω) (k : T_s44 → Option Ω) : Option Ω :=
 (zq17.u x0.2.1).bind fun y1 =>
 (zq19.u x0.2.2.1).bind fun y2 =>
 (zq15.u x0.2.2.2.1).bind fun y3 =>
 lp0 x0.2.2.2.2.2.1 (((List.length x0.2.2.2.2.2.1 : Nat) : Int)) x0 x0.1 y1 y2 y3 x0.2.2.2.2.1 (0, [])
def zq1a.g0 (e3_1 : (List T_s63)) (e3_3 : T_s35) (e3_4 : Int) (e3_5 : (List T_s70)) (e3_6 : (List T_s114)) (e3_7 : (List T_s76)) (e3_8 : (List (List Int)))  (k : T_s44 → Option Ω) : List T_s63 → (List T_s63) → Option Ω
 | [], a3_1 =>
 k (e3_4, (e3_5, (e3_6, (e3_7, (e3_8, (a3_1, ()))))))
 | x3 :: xs3, a3_1 =>
 bif (decide (List.length a3_1 + List.length [x3] ≤ rowMax)) then
 zq1a.g0 e3_1 e3_3 e3_4 e3_5 e3_6 e3_7 e3_8  k xs3 (a3_1 ++ [x3])
 else
 none
theorem zq1a.h0 (e3_1 : (List T_s63)) (e3_3 : T_s35) (e3_4 : Int) (e3_5 : (List T_s70)) (e3_6 : (List T_s114)) (e3_7 : (List T_s76)) (e3_8 : (List (List Int)))   (k : T_s44 → Option Ω) (hX : ((List.length e3_1 : Nat) : Int) ≤ 9223372036854775807) : ∀ (m : Nat) (i : Int) (a : (List T_s63)), 0 ≤ i → i ≤ ((List.length e3_1 : Nat) : Int) → ((List.length e3_1 : Nat) : Int) < m + i → Le (zq1a.g0 e3_1 e3_3 e3_4 e3_5 e3_6 e3_7 e3_8  k (List.drop (Int.toNat i) e3_1) a) (iter (zq1a.b0 e3_1 (((List.length e3_1 : Nat) : Int)) e3_3 e3_4 e3_5 e3_6 e3_7 e3_8  k) m (i, a)) :=
 iter_list e3_1 (0, (0, (0, ()))) (fun (i3 : Int) (a3 : (List T_s63)) => (i3, a3)) (fun xs i3 a3 => zq1a.g0 e3_1 e3_3 e3_4 e3_5 e3_6 e3_7 e3_8  k xs a3) (zq1a.b0 e3_1 (((List.length e3_1 : Nat) : Int)) e3_3 e3_4 e3_5 e3_6 e3_7 e3_8  k)
 (fun i3 a3 r h0 => (Le.fls h0 (Le.refl _)))
 (fun i3 xs3 a3 r h0 h1 hw ih => (Le.tru h0 (Le.tru h1 (Le.cond (ih _ hw ((a3 ++ [(List.getD e3_1 (Int.toNat i3) (0, (0, (0, ()))))]))) Le.nil))))
 hX
def zq1a.w (x0 : T_s35) (k : T_s44 → Option Ω) : Option Ω :=
 (zq17.u x0.2.1).bind fun y1 =>
 (zq19.u x0.2.2.1).bind fun y2 =>
 (zq15.u x0.2.2.2.1).bind fun y3 =>
 bif decide (((List.length x0.2.2.2.2.2.1 : Nat) : Int) ≤ 4611686018427387904) then zq1a.g0 x0.2.2.2.2.2.1 x0 x0.1 y1 y2 y3 x0.2.2.2.2.1  k x0.2.2.2.2.2.1 ([]) else none
theorem zq1a.ev (fuel : Nat) (x0 : T_s35) (k : AV → Option Ω) : evFn CDEKP (spE (C := CDEKP) [zq17.n, zq19.n, zq15.n] []) (zq1a.F fuel) Tryz.f11 (Tryz.f11.body.getD .skip) [(.v E_s35 (x0))] k = zq1a.sl x0 (fun e3_1 e3_2 e3_3 e3_4 e3_5 e3_6 e3_7 e3_8 => (zq1a.M0 fuel e3_1 e3_2 e3_3 e3_4 e3_5 e3_6 e3_7 e3_8  k fuel)) (fun r => k (tupAV E_s44 [] r)) := by kernel_rfl
theorem zq1a.le (x0 : T_s35) (k : AV → Option Ω) : Le (zq1a.w x0 (fun r => k (tupAV E_s44 [] r))) (zq1a.sl x0 (fun e3_1 e3_2 e3_3 e3_4 e3_5 e3_6 e3_7 e3_8 => (zq1a.M0 BIG e3_1 e3_2 e3_3 e3_4 e3_5 e3_6 e3_7 e3_8  k BIG)) (fun r => k (tupAV E_s44 [] r))) := by
 have h1 := funext fun (e3_1 : (List T_s63)) => funext fun (e3_2 : Int) => funext fun (e3_3 : T_s35) => funext fun (e3_4 : Int) => funext fun (e3_5 : (List T_s70)) => funext fun (e3_6 : (List T_s114)) => funext fun (e3_7 : (List T_s76)) => funext fun (e3_8 : (List (List Int))) => zq1a.l0 BIG e3_1 e3_2 e3_3 e3_4 e3_5 e3_6 e3_7 e3_8   k BIG
 rw [h1]
 delta zq1a.w zq1a.sl
 exact (Le.bnd fun y1 => (Le.bnd fun y2 => (Le.bnd fun y3 => (Le.gd fun hg => zq1a.h0 _ _ _ _ _ _ _   _ (le_up (of_decide_eq_true hg)) BIG 0 ([]) (by decide) (zero_le_len _) (big_list (of_decide_eq_true hg))))))
def zq1a.u (x0 : T_s35) : Option (T_s44) := zq1a.w x0 some
noncomputable def zq1a.n : En CDEKP := mkE CDEKP_ok (es := [zq17.n, zq19.n, zq15.n]) (ms := []) (fuel := (zq1a.F BIG)) 11 Tryz.f11 [.ai E_s35] E_s44 [] (fun x {Ω} k => zq1a.w x.1 k) (fun x Ω k => leV (zq1a.ev BIG x.1 k) (zq1a.le x.1 k)) (by kernel_rfl) (by kernel_rfl)
def zq46.s (x0 : Int) (k : ByteArray → Option Ω) : Option Ω :=
 bif (decide (x0 < 1000000000)) then
 (zq37.u x0).bind fun y1 =>
 k y1.1
 else
 none
def zq46.u (x0 : Int) : Option (ByteArray) := zq46.s x0 some
noncomputable def zq46.n : En CDEKP := mkE CDEKP_ok (es := [zq37.n]) (ms := []) (fuel := ⟨1, fun _ => []⟩) 64 Tryz.f64 [.ai (.int .i64)] .str [] (fun x {Ω} k => zq46.s x.1 k) (fun x Ω k => Le.of (by kernel_rfl)) (by kernel_rfl) (by kernel_rfl)
def zq49.s (x0 : Int) (k : ByteArray → Option Ω) : Option Ω :=
 bif (decide (x0 < 1000000000)) then
 (zq37.u x0).bind fun y1 =>
 k y1.1
 else
 (zq46.u (Int.tmod x0 1000000000)).bind fun y2 =>
 (zq46.u ((IntKind.wrap .i64 (Int.tdiv x0 1000000000)))).bind fun y3 =>
 (zq2f.u (bs [48]) ((IntKind.wrap .i64 (9 - ((y2).size : Int))))).bind fun y4 =>
 bif (decide ((y3).size + (y4).size ≤ catMax)) then
 bif (decide (((y3 ++ y4)).size + (y2).size ≤ catMax)) then
 k ((y3 ++ y4) ++ y2)
 else
 none
 else
 none
def zq49.u (x0 : Int) : Option (ByteArray) := zq49.s x0 some
noncomputable def zq49.n : En CDEKP := mkE CDEKP_ok (es := [zq46.n, zq37.n, zq2f.n]) (ms := []) (fuel := ⟨1, fun _ => []⟩) 64 Tryz.f64 [.ai (.int .i64)] .str [] (fun x {Ω} k => zq49.s x.1 k) (fun x Ω k => Le.of (by kernel_rfl)) (by kernel_rfl) (by kernel_rfl)
def zq42.s (x0 : Int) (k : ByteArray → Option Ω) : Option Ω :=
 bif (decide (x0 < 1000000000)) then
 (zq37.u x0).bind fun y1 =>
 k y1.1
 else
 (zq49.u (Int.tmod x0 1000000000)).bind fun y2 =>
 (zq49.u ((IntKind.wrap .i64 (Int.tdiv x0 1000000000)))).bind fun y3 =>
 (zq2f.u (bs [48]) ((IntKind.wrap .i64 (9 - ((y2).size : Int))))).bind fun y4 =>
 bif (decide ((y3).size + (y4).size ≤ catMax)) then
 bif (decide (((y3 ++ y4)).size + (y2).size ≤ catMax)) then
 k ((y3 ++ y4) ++ y2)
 else
 none
 else
 none
def zq42.u (x0 : Int) : Option (ByteArray) := zq42.s x0 some
noncomputable def zq42.n : En CDEKP := mkE CDEKP_ok (es := [zq49.n, zq37.n, zq2f.n]) (ms := []) (fuel := ⟨1, fun _ => []⟩) 64 Tryz.f64 [.ai (.int .i64)] .str [] (fun x {Ω} k => zq42.s x.1 k) (fun x Ω k => Le.of (by kernel_rfl)) (by kernel_rfl) (by kernel_rfl)
def zq54.s (x0 : T_s70) (k : ByteArray → Option Ω) : Option Ω :=
 bif (x0.2.2.2.2.1 == 1) then
 k (bs [119, 97, 105, 116, 115])
 else
 bif (x0.2.2.2.2.1 == 2) then
 k (bs [102, 97, 108, 108, 115])
 else
 bif (x0.2.2.2.2.1 == 3) then
 (zq42.u x0.2.2.2.2.2.1).bind fun y1 =>
 bif (decide (((bs [111, 118, 101, 114, 32])).size + (y1).size ≤ catMax)) then
 k ((bs [111, 118, 101, 114, 32]) ++ y1)
 else
 none
 else
 k (bs [114, 117, 110, 115])
noncomputable def zq54.n : En CDEKP := mkE CDEKP_ok (es := [zq42.n]) (ms := []) (fuel := ⟨1, fun _ => []⟩) 150 Tryz.f150 [.ai E_s70] .str [] (fun x {Ω} k => zq54.s x.1 k) (fun x Ω k => Le.of (by kernel_rfl)) (by kernel_rfl) (by kernel_rfl)
def zq1r.F (fuel : Nat) : Fuel := ⟨fuel, fun r => bif r == 3 then mL 0 22 4193847 else []⟩
noncomputable def zq1r.V (fuel c : Nat) (env : List AV) (L : Heap) (k : Kont Ω) : Option Ω := evCode CDEKP (spE (C := CDEKP) [zq1t.n] []) (zq1r.F fuel) (pCo c Tryz.f63) env L k
def zq1r.E0 (e3_1 : (List ByteArray)) (e3_2 : Int) (s3 : Int × (List ByteArray)) : List AV := (dZ 3 ((.rs 0) :: dZ 2 ((.v (.slice .str) (e3_1)) :: (.v (.int .i64) (e3_2)) :: (.v (.int .i64) (s3.1)) :: dZ 13 ([]))))
def zq1r.H0 (e3_1 : (List ByteArray)) (e3_2 : Int) (s3 : Int × (List ByteArray)) : Heap := [(.row 9 .str s3.2 false)]
noncomputable def zq1r.M0 (fuel : Nat) (e3_1 : (List ByteArray)) (e3_2 : Int)  (k : AV → Option Ω) (m : Nat) (s : Int × (List ByteArray)) : Option Ω := loopK (zq1r.V fuel 75) (mB 22 4193847) [] 1 (blockK 0 (sqK (zq1r.V fuel 15) (finK CDEKP Tryz.f63 k))) m ((zq1r.E0 e3_1 e3_2) s) ((zq1r.H0 e3_1 e3_2) s)
def zq1r.b0 (e3_1 : (List ByteArray)) (e3_2 : Int)   (k : ByteArray → Option Ω) (r3 : Int × (List ByteArray) → Option Ω) (s3 : Int × (List ByteArray)) : Option Ω :=
 bif (decide (s3.1 < e3_2)) then
 bif (idxOK s3.1 (List.length e3_1)) then
 bif (!(((List.getD e3_1 (Int.toNat s3.1) (bs []))).data.toList == ((bs [])).data.toList)) then
 bif (decide (List.length s3.2 + List.length [(List.getD e3_1 (Int.toNat s3.1) (bs []))] ≤ rowMax)) then
 r3 ((IntKind.wrap .i64 (s3.1 + 1)), (s3.2 ++ [(List.getD e3_1 (Int.toNat s3.1) (bs []))]))
 else
 none
 else
 r3 ((IntKind.wrap .i64 (s3.1 + 1)), s3.2)
 else
 none
 else
 (zq1t.u s3.2 (bs [32])).bind fun y1 =>
 bif (decide ((y1).size + ((bs [10])).size ≤ catMax)) then
 k (y1 ++ (bs [10]))
 else
 none
theorem zq1r.l0 (fuel : Nat) (e3_1 : (List ByteArray)) (e3_2 : Int)  (k : AV → Option Ω) : ∀ m, (zq1r.M0 fuel e3_1 e3_2  k m) = iter (zq1r.b0 e3_1 e3_2  (fun r => k (tupAV .str [] r))) m :=
 loopK_iter (envOf := (zq1r.E0 e3_1 e3_2)) (LOf := (zq1r.H0 e3_1 e3_2)) (B := zq1r.b0 e3_1 e3_2  (fun r => k (tupAV .str [] r))) (fun R s => by kernel_rfl)
def zq1r.sl (x0 : (List ByteArray)) (lp0 : (List ByteArray) → Int → Int × (List ByteArray) → Option Ω) (k : ByteArray → Option Ω) : Option Ω :=
 lp0 x0 (((List.length x0 : Nat) : Int)) (0, [])
def zq1r.g0 (e3_1 : (List ByteArray))  (k : ByteArray → Option Ω) : List ByteArray → (List ByteArray) → Option Ω
 | [], a3_1 =>
 (zq1t.u a3_1 (bs [32])).bind fun y1 =>
 bif (decide ((y1).size + ((bs [10])).size ≤ catMax)) then
 k (y1 ++ (bs [10]))
 else
 none
 | x3 :: xs3, a3_1 =>
 bif (!((x3).data.toList == ((bs [])).data.toList)) then
 bif (decide (List.length a3_1 + List.length [x3] ≤ rowMax)) then
 zq1r.g0 e3_1  k xs3 (a3_1 ++ [x3])
 else
 none
 else
 zq1r.g0 e3_1  k xs3 a3_1
theorem zq1r.h0 (e3_1 : (List ByteArray))   (k : ByteArray → Option Ω) (hX : ((List.length e3_1 : Nat) : Int) ≤ 9223372036854775807) : ∀ (m : Nat) (i : Int) (a : (List ByteArray)), 0 ≤ i → i ≤ ((List.length e3_1 : Nat) : Int) → ((List.length e3_1 : Nat) : Int) < m + i → Le (zq1r.g0 e3_1  k (List.drop (Int.toNat i) e3_1) a) (iter (zq1r.b0 e3_1 (((List.length e3_1 : Nat) : Int))  k) m (i, a)) :=
 iter_list e3_1 (bs []) (fun (i3 : Int) (a3 : (List ByteArray)) => (i3, a3)) (fun xs i3 a3 => zq1r.g0 e3_1  k xs a3) (zq1r.b0 e3_1 (((List.length e3_1 : Nat) : Int))  k)
 (fun i3 a3 r h0 => (Le.fls h0 (Le.bnd fun y1 => (Le.cond (Le.refl _) Le.nil))))
 (fun i3 xs3 a3 r h0 h1 hw ih => (Le.tru h0 (Le.tru h1 (Le.cond (Le.cond (ih _ hw ((a3 ++ [(List.getD e3_1 (Int.toNat i3) (bs []))]))) Le.nil) (ih _ hw (a3))))))
 hX
def zq1r.w (x0 : (List ByteArray)) (k : ByteArray → Option Ω) : Option Ω :=
 bif decide (((List.length x0 : Nat) : Int) ≤ 4611686018427387904) then zq1r.g0 x0  k x0 ([]) else none
theorem zq1r.ev (fuel : Nat) (x0 : (List ByteArray)) (k : AV → Option Ω) : evFn CDEKP (spE (C := CDEKP) [zq1t.n] []) (zq1r.F fuel) Tryz.f63 (Tryz.f63.body.getD .skip) [(.v (.slice .str) (x0))] k = zq1r.sl x0 (fun e3_1 e3_2 => (zq1r.M0 fuel e3_1 e3_2  k fuel)) (fun r => k (tupAV .str [] r)) := by kernel_rfl
theorem zq1r.le (x0 : (List ByteArray)) (k : AV → Option Ω) : Le (zq1r.w x0 (fun r => k (tupAV .str [] r))) (zq1r.sl x0 (fun e3_1 e3_2 => (zq1r.M0 BIG e3_1 e3_2  k BIG)) (fun r => k (tupAV .str [] r))) := by
 have h1 := funext fun (e3_1 : (List ByteArray)) => funext fun (e3_2 : Int) => zq1r.l0 BIG e3_1 e3_2   k BIG
 rw [h1]
 delta zq1r.w zq1r.sl
 exact (Le.gd fun hg => zq1r.h0 _   _ (le_up (of_decide_eq_true hg)) BIG 0 ([]) (by decide) (zero_le_len _) (big_list (of_decide_eq_true hg)))
noncomputable def zq1r.n : En CDEKP := mkE CDEKP_ok (es := [zq1t.n]) (ms := []) (fuel := (zq1r.F BIG)) 63 Tryz.f63 [.ai (.slice .str)] .str [] (fun x {Ω} k => zq1r.w x.1 k) (fun x Ω k => leV (zq1r.ev BIG x.1 k) (zq1r.le x.1 k)) (by kernel_rfl) (by kernel_rfl)
def zq3l.s (x0 : Int) (x1 : Int) (k : ByteArray → Option Ω) : Option Ω :=
 (zq42.u x1).bind fun y1 =>
 k y1
def zq3l.u (x0 : Int) (x1 : Int) : Option (ByteArray) := zq3l.s x0 x1 some
noncomputable def zq3l.n : En CDEKP := mkE CDEKP_ok (es := [zq42.n]) (ms := []) (fuel := ⟨1, fun _ => []⟩) 155 Tryz.f155 [.ai (.int .i64), .ai (.int .i64)] .str [] (fun x {Ω} k => zq3l.s x.1 x.2.1 k) (fun x Ω k => Le.of (by kernel_rfl)) (by kernel_rfl) (by kernel_rfl)
def zq0i.F (fuel : Nat) : Fuel := ⟨fuel, fun r => bif r == 3 then mL 0 25 33552605 else []⟩
noncomputable def zq0i.V (fuel c : Nat) (env : List AV) (L : Heap) (k : Kont Ω) : Option Ω := evCode CDEKP (spE (C := CDEKP) [zq1t.n, zq3l.n] []) (zq0i.F fuel) (pCo c Tryz.f153) env L k
def zq0i.E0 (e3_1 : (List Int)) (e3_2 : Int) (s3 : Int × (List ByteArray)) : List AV := (dZ 1 ((.fn 155 []) :: dZ 3 ((.rs 0) :: dZ 2 ((.v (.slice (.int .i64)) (e3_1)) :: (.v (.int .i64) (e3_2)) :: (.v (.int .i64) (s3.1)) :: dZ 14 ([])))))
def zq0i.H0 (e3_1 : (List Int)) (e3_2 : Int) (s3 : Int × (List ByteArray)) : Heap := [(.row 9 .str s3.2 false)]
noncomputable def zq0i.M0 (fuel : Nat) (e3_1 : (List Int)) (e3_2 : Int)  (k : AV → Option Ω) (m : Nat) (s : Int × (List ByteArray)) : Option Ω := loopK (zq0i.V fuel 75) (mB 25 33552605) [] 1 (blockK 0 (sqK (zq0i.V fuel 15) (finK CDEKP Tryz.f153 k))) m ((zq0i.E0 e3_1 e3_2) s) ((zq0i.H0 e3_1 e3_2) s)
def zq0i.b0 (e3_1 : (List Int)) (e3_2 : Int)   (k : ByteArray → Option Ω) (r3 : Int × (List ByteArray) → Option Ω) (s3 : Int × (List ByteArray)) : Option Ω :=
 bif (decide (s3.1 < e3_2)) then
 bif (idxOK s3.1 (List.length e3_1)) then
 (zq3l.u s3.1 ((List.getD e3_1 (Int.toNat s3.1) 0))).bind fun y1 =>
 bif (decide (List.length s3.2 + List.length [y1] ≤ rowMax)) then
 r3 ((IntKind.wrap .i64 (s3.1 + 1)), (s3.2 ++ [y1]))
 else
 none
 else
 none
 else
 (zq1t.u s3.2 (bs [32])).bind fun y2 =>
 k y2
theorem zq0i.l0 (fuel : Nat) (e3_1 : (List Int)) (e3_2 : Int)  (k : AV → Option Ω) : ∀ m, (zq0i.M0 fuel e3_1 e3_2  k m) = iter (zq0i.b0 e3_1 e3_2  (fun r => k (tupAV .str [] r))) m :=
 loopK_iter (envOf := (zq0i.E0 e3_1 e3_2)) (LOf := (zq0i.H0 e3_1 e3_2)) (B := zq0i.b0 e3_1 e3_2  (fun r => k (tupAV .str [] r))) (fun R s => by kernel_rfl)
def zq0i.sl (x0 : (List Int)) (lp0 : (List Int) → Int → Int × (List ByteArray) → Option Ω) (k : ByteArray → Option Ω) : Option Ω :=
 lp0 x0 (((List.length x0 : Nat) : Int)) (0, [])
def zq0i.g0 (e3_1 : (List Int))  (k : ByteArray → Option Ω) : List Int → Int → (List ByteArray) → Option Ω
 | [], i3, a3_1 =>
 (zq1t.u a3_1 (bs [32])).bind fun y2 =>
 k y2
 | x3 :: xs3, i3, a3_1 =>
 (zq3l.u i3 (x3)).bind fun y1 =>
 bif (decide (List.length a3_1 + List.length [y1] ≤ rowMax)) then
 zq0i.g0 e3_1  k xs3 (i3 + 1) (a3_1 ++ [y1])
 else
 none
theorem zq0i.h0 (e3_1 : (List Int))   (k : ByteArray → Option Ω) (hX : ((List.length e3_1 : Nat) : Int) ≤ 9223372036854775807) : ∀ (m : Nat) (i : Int) (a : (List ByteArray)), 0 ≤ i → i ≤ ((List.length e3_1 : Nat) : Int) → ((List.length e3_1 : Nat) : Int) < m + i → Le (zq0i.g0 e3_1  k (List.drop (Int.toNat i) e3_1) i a) (iter (zq0i.b0 e3_1 (((List.length e3_1 : Nat) : Int))  k) m (i, a)) :=
 iter_list e3_1 0 (fun (i3 : Int) (a3 : (List ByteArray)) => (i3, a3)) (fun xs i3 a3 => zq0i.g0 e3_1  k xs i3 a3) (zq0i.b0 e3_1 (((List.length e3_1 : Nat) : Int))  k)
 (fun i3 a3 r h0 => (Le.fls h0 (Le.bnd fun y2 => (Le.refl _))))
 (fun i3 xs3 a3 r h0 h1 hw ih => (Le.tru h0 (Le.tru h1 (Le.bnd fun y1 => (Le.cond (ih _ hw ((a3 ++ [y1]))) Le.nil)))))
 hX
def zq0i.w (x0 : (List Int)) (k : ByteArray → Option Ω) : Option Ω :=
 bif decide (((List.length x0 : Nat) : Int) ≤ 4611686018427387904) then zq0i.g0 x0  k x0 0 ([]) else none
theorem zq0i.ev (fuel : Nat) (x0 : (List Int)) (k : AV → Option Ω) : evFn CDEKP (spE (C := CDEKP) [zq1t.n, zq3l.n] []) (zq0i.F fuel) Tryz.f153 (Tryz.f153.body.getD .skip) [(.v (.slice (.int .i64)) (x0)), (.fn 155 [])] k = zq0i.sl x0 (fun e3_1 e3_2 => (zq0i.M0 fuel e3_1 e3_2  k fuel)) (fun r => k (tupAV .str [] r)) := by kernel_rfl
theorem zq0i.le (x0 : (List Int)) (k : AV → Option Ω) : Le (zq0i.w x0 (fun r => k (tupAV .str [] r))) (zq0i.sl x0 (fun e3_1 e3_2 => (zq0i.M0 BIG e3_1 e3_2  k BIG)) (fun r => k (tupAV .str [] r))) := by
 have h1 := funext fun (e3_1 : (List Int)) => funext fun (e3_2 : Int) => zq0i.l0 BIG e3_1 e3_2   k BIG
 rw [h1]
 delta zq0i.w zq0i.sl
 exact (Le.gd fun hg => zq0i.h0 _   _ (le_up (of_decide_eq_true hg)) BIG 0 ([]) (by decide) (zero_le_len _) (big_list (of_decide_eq_true hg)))
def zq0i.u (x0 : (List Int)) : Option (ByteArray) := zq0i.w x0 some
noncomputable def zq0i.n : En CDEKP := mkE CDEKP_ok (es := [zq1t.n, zq3l.n]) (ms := []) (fuel := (zq0i.F BIG)) 153 Tryz.f153 [.ai (.slice (.int .i64)), .af0 155] .str [] (fun x {Ω} k => zq0i.w x.1 k) (fun x Ω k => leV (zq0i.ev BIG x.1 k) (zq0i.le x.1 k)) (by kernel_rfl) (by kernel_rfl)
def zq51.s (x0 : (List Int)) (k : ByteArray → Option Ω) : Option Ω :=
 (zq0i.u x0).bind fun y1 =>
 k y1
noncomputable def zq51.n : En CDEKP := mkE CDEKP_ok (es := [zq0i.n]) (ms := []) (fuel := ⟨1, fun _ => []⟩) 73 Tryz.f73 [.ai (.slice (.int .i64))] .str [] (fun x {Ω} k => zq51.s x.1 k) (fun x Ω k => Le.of (by kernel_rfl)) (by kernel_rfl) (by kernel_rfl)
noncomputable def zq2u.n : Me CDEKP := Me.of (g := 62) (fx := fun {_} => zq2u.fx) (FxOK.mono le_C_CDEKP zq2u.fx_ok)
noncomputable def zq3f.n : Me CDEKP := Me.of (g := 76) (fx := fun {_} => zq3f.fx) (FxOK.mono le_C_CDEKP zq3f.fx_ok)
noncomputable def zq24.tab : FuncId → Option Func := (tabS 255 Tryz.f255 (tabS 214 Tryz.f214 (tabS 155 Tryz.f155 (tabS 154 Tryz.f154 (tabS 153 Tryz.f153 (tabS 152 Tryz.f152 (tabS 88 Tryz.f88 (tabS 87 Tryz.f87 (tabS 86 Tryz.f86 (tabS 85 Tryz.f85 (tabS 83 Tryz.f83 (tabS 82 Tryz.f82 (tabS 75 Tryz.f75 (tabS 74 Tryz.f74 (tabS 72 Tryz.f72 (tabS 71 Tryz.f71 (tabS 70 Tryz.f70 (tabS 69 Tryz.f69 (tabS 68 Tryz.f68 (tabS 67 Tryz.f67 (tabS 66 Tryz.f66 (tabS 65 Tryz.f65 (tabS 19 Tryz.f19 (tabS 17 Tryz.f17 tab0))))))))))))))))))))))))
theorem zq24.tab_ok : tabOK CDEKP zq24.tab := (tabS_ok (by kernel_rfl) (by kernel_rfl) (by kernel_rfl) (tabS_ok (by kernel_rfl) (by kernel_rfl) (by kernel_rfl) (tabS_ok (by kernel_rfl) (by kernel_rfl) (by kernel_rfl) (tabS_ok (by kernel_rfl) (by kernel_rfl) (by kernel_rfl) (tabS_ok (by kernel_rfl) (by kernel_rfl) (by kernel_rfl) (tabS_ok (by kernel_rfl) (by kernel_rfl) (by kernel_rfl) (tabS_ok (by kernel_rfl) (by kernel_rfl) (by kernel_rfl) (tabS_ok (by kernel_rfl) (by kernel_rfl) (by kernel_rfl) (tabS_ok (by kernel_rfl) (by kernel_rfl) (by kernel_rfl) (tabS_ok (by kernel_rfl) (by kernel_rfl) (by kernel_rfl) (tabS_ok (by kernel_rfl) (by kernel_rfl) (by kernel_rfl) (tabS_ok (by kernel_rfl) (by kernel_rfl) (by kernel_rfl) (tabS_ok (by kernel_rfl) (by kernel_rfl) (by kernel_rfl) (tabS_ok (by kernel_rfl) (by kernel_rfl) (by kernel_rfl) (tabS_ok (by kernel_rfl) (by kernel_rfl) (by kernel_rfl) (tabS_ok (by kernel_rfl) (by kernel_rfl) (by kernel_rfl) (tabS_ok (by kernel_rfl) (by kernel_rfl) (by kernel_rfl) (tabS_ok (by kernel_rfl) (by kernel_rfl) (by kernel_rfl) (tabS_ok (by kernel_rfl) (by kernel_rfl) (by kernel_rfl) (tabS_ok (by kernel_rfl) (by kernel_rfl) (by kernel_rfl) (tabS_ok (by kernel_rfl) (by kernel_rfl) (by kernel_rfl) (tabS_ok (by kernel_rfl) (by kernel_rfl) (by kernel_rfl) (tabS_ok (by kernel_rfl) (by kernel_rfl) (by kernel_rfl) (tabS_ok (by kernel_rfl) (by kernel_rfl) (by kernel_rfl) tab0_ok))))))))))))))))))))))))
noncomputable def zq24.sp : Spec := spE (C := CDEKP) [zq0m.n, zq3n.n, zq1r.n, zq42.n, zq51.n, zq0f.n, zq0c.n, zq0o.n, zq2m.n, zq1t.n, zq2f.n, zq3c.n, zq54.n, zq53.n, zq0h.n, zq3w.n, zq50.n] [zq2u.n, zq3f.n]
def zq24.u : Option (Bool) := some true
theorem zq24.ev : evFn CDEKP (allF CDEKP zq24.sp ⟨400, fun _ => []⟩ zq24.tab 40) ⟨400, fun _ => []⟩ Tryz.f7 (Tryz.f7.body.getD .skip) [] (dec .bool []) = some true := by kernel_rfl
theorem zq24.c (r : Bool) (h : zq24.u = some r) : Contract CDEKP 7 [] (tupAV .bool [] r) := by
 cases h
 exact contract_u CDEKP_ok (allF_ok CDEKP_ok (spE_ok _ _) zq24.tab_ok 40) (by kernel_rfl) (by kernel_rfl) (by kernel_rfl) zq24.ev
noncomputable def zq24.n : En CDEKP := En.of (g := 7) (e := endU (zq24.u) (tupAV .bool [])) (entA_ok (endU_ok fun r h => zq24.c r h))
def zq04.F (fuel : Nat) : Fuel := ⟨fuel, fun r => bif r == 18 then mL 0 154 22835953553395242314811829658597788021120040471 else bif r == 14 then mL 0 154 22835963081301516101088806633086796110629961623 else bif r == 9 then mL 0 154 22835963083295358094766180442442506701050478583 else bif r == 2000020 then [136, 137, 138, 139, 140, 141, 5008] else bif r == 2000011 then [95, 96, 97, 98, 99, 100, 101, 102, 103, 104, 105, 106, 107, 108, 109, 110, 111, 112, 113, 114, 115, 5116] else []⟩
noncomputable def zq04.V (fuel c : Nat) (env : List AV) (L : Heap) (k : Kont Ω) : Option Ω := evCode CDEKP (spE (C := CDEKP) [zq0u.n, zq24.n, zq0m.n, zq1a.n, zq3n.n, zq27.n, zq1e.n] []) (zq04.F fuel) (pCo c Tryz.f5) env L k
def zq04.E0 (e14_1 : Int) (e18_1 : Int) (e9_1 : (List T_s63)) (e9_2 : Int) (e14_2 : Int) (e18_2 : (List Int)) (e18_3 : Int) (e9_3 : T_s26) (e9_4 : T_s35) (e14_3 : T_s63) (s18 : Bool × Int) : List AV := (dZ 3 ((.ref 1 []) :: dZ 1 ((.v (.int .i64) (e14_1)) :: (.ref 2 []) :: (.v (.int .i64) (e18_1)) :: (.v .bool (s18.1)) :: dZ 79 ((.v (.slice E_s63) (e9_1)) :: (.v (.int .i64) (e9_2)) :: (.v (.int .i64) (e14_1)) :: dZ 28 ((.v (.int .i64) (e14_2)) :: (.v (.int .i64) (e18_1)) :: dZ 9 ((.v (.slice (.int .i64)) (e18_2)) :: (.v (.int .i64) (e18_3)) :: (.v (.int .i64) (s18.2)) :: dZ 21 ([])))))))
def zq04.H0 (e14_1 : Int) (e18_1 : Int) (e9_1 : (List T_s63)) (e9_2 : Int) (e14_2 : Int) (e18_2 : (List Int)) (e18_3 : Int) (e9_3 : T_s26) (e9_4 : T_s35) (e14_3 : T_s63) (s18 : Bool × Int) : Heap := [(.box E_s26 e9_3 false), (.box E_s35 e9_4 false), (.box E_s63 e14_3 false)]
noncomputable def zq04.M0 (fuel : Nat) (e14_1 : Int) (e18_1 : Int) (e9_1 : (List T_s63)) (e9_2 : Int) (e14_2 : Int) (e18_2 : (List Int)) (e18_3 : Int) (e9_3 : T_s26) (e9_4 : T_s35) (e14_3 : T_s63) (R14 : List AV → Heap → Option Ω) (R9 : List AV → Heap → Option Ω) (k : AV → Option Ω) (m : Nat) (s : Bool × Int) : Option Ω := loopK (zq04.V fuel 315418207) (mB 154 22835953553395242314811829658597788021120040471) [] 3 (blockK 4 (sqK (zq04.V fuel 63759967) (blockK 3 (sqK (zq04.V fuel 3991135) (loopC R14 (mB 154 22835963081301516101088806633086796110629961623) [] 3 (blockK 2 (blockK 1 (sqK (zq04.V fuel 7775) (loopC R9 (mB 154 22835963083295358094766180442442506701050478583) [] 2 (blockK 0 (sqK (zq04.V fuel 127) (finK CDEKP Tryz.f5 k)))))))))))) m ((zq04.E0 e14_1 e18_1 e9_1 e9_2 e14_2 e18_2 e18_3 e9_3 e9_4 e14_3) s) ((zq04.H0 e14_1 e18_1 e9_1 e9_2 e14_2 e18_2 e18_3 e9_3 e9_4 e14_3) s)
def zq04.E1 (e14_1 : Int) (e9_1 : (List T_s63)) (e9_2 : Int) (e14_2 : Int) (e9_3 : T_s26) (e9_4 : T_s35) (e14_3 : T_s63) (s14 : Int) : List AV := (dZ 3 ((.ref 1 []) :: dZ 1 ((.v (.int .i64) (e14_1)) :: (.ref 2 []) :: dZ 81 ((.v (.slice E_s63) (e9_1)) :: (.v (.int .i64) (e9_2)) :: (.v (.int .i64) (e14_1)) :: dZ 28 ((.v (.int .i64) (e14_2)) :: (.v (.int .i64) (s14)) :: dZ 33 ([]))))))
def zq04.H1 (e14_1 : Int) (e9_1 : (List T_s63)) (e9_2 : Int) (e14_2 : Int) (e9_3 : T_s26) (e9_4 : T_s35) (e14_3 : T_s63) (s14 : Int) : Heap := [(.box E_s26 e9_3 false), (.box E_s35 e9_4 false), (.box E_s63 e14_3 false)]
noncomputable def zq04.M1 (fuel : Nat) (e14_1 : Int) (e9_1 : (List T_s63)) (e9_2 : Int) (e14_2 : Int) (e9_3 : T_s26) (e9_4 : T_s35) (e14_3 : T_s63) (R9 : List AV → Heap → Option Ω) (k : AV → Option Ω) (m : Nat) (s : Int) : Option Ω := loopK (zq04.V fuel 321119) (mB 154 22835963081301516101088806633086796110629961623) [] 3 (blockK 2 (blockK 1 (sqK (zq04.V fuel 7775) (loopC R9 (mB 154 22835963083295358094766180442442506701050478583) [] 2 (blockK 0 (sqK (zq04.V fuel 127) (finK CDEKP Tryz.f5 k))))))) m ((zq04.E1 e14_1 e9_1 e9_2 e14_2 e9_3 e9_4 e14_3) s) ((zq04.H1 e14_1 e9_1 e9_2 e14_2 e9_3 e9_4 e14_3) s)
def zq04.E2 (e9_1 : (List T_s63)) (e9_2 : Int) (e9_3 : T_s26) (e9_4 : T_s35) (s9 : Int) : List AV := (dZ 3 ((.ref 1 []) :: dZ 84 ((.v (.slice E_s63) (e9_1)) :: (.v (.int .i64) (e9_2)) :: (.v (.int .i64) (s9)) :: dZ 63 ([]))))
def zq04.H2 (e9_1 : (List T_s63)) (e9_2 : Int) (e9_3 : T_s26) (e9_4 : T_s35) (s9 : Int) : Heap := [(.box E_s26 e9_3 false), (.box E_s35 e9_4 false)]
noncomputable def zq04.M2 (fuel : Nat) (e9_1 : (List T_s63)) (e9_2 : Int) (e9_3 : T_s26) (e9_4 : T_s35)  (k : AV → Option Ω) (m : Nat) (s : Int) : Option Ω := loopK (zq04.V fuel 607) (mB 154 22835963083295358094766180442442506701050478583) [] 2 (blockK 0 (sqK (zq04.V fuel 127) (finK CDEKP Tryz.f5 k))) m ((zq04.E2 e9_1 e9_2 e9_3 e9_4) s) ((zq04.H2 e9_1 e9_2 e9_3 e9_4) s)
def zq04.b0 (e14_1 : Int) (e18_1 : Int) (e9_1 : (List T_s63)) (e9_2 : Int) (e14_2 : Int) (e18_2 : (List Int)) (e18_3 : Int) (e9_3 : T_s26) (e9_4 : T_s35) (e14_3 : T_s63) (r14 : Int → Option Ω)  (k : Bool → Option Ω) (r18 : Bool × Int → Option Ω) (s18 : Bool × Int) : Option Ω :=
 bif (decide (s18.2 < e18_3)) then
 bif (idxOK s18.2 (List.length e18_2)) then
 (bif s18.1 then some (true, ()) else some (((List.getD e18_2 (Int.toNat s18.2) 0) == e14_1), ())).bind fun j15 =>
 r18 (j15.1, (IntKind.wrap .i64 (s18.2 + 1)))
 else
 none
 else
 bif (decide ((0 : Int) ≤ e18_1)) then
 let v16 : Int := (IntKind.wrap .i64 (BitVec.ofInt (IntKind.bits .i64) (Int.fdiv e14_3.2.2.1 (2 ^ (min (Int.toNat e18_1) (IntKind.bits .i64)))) &&& BitVec.ofInt (IntKind.bits .i64) 1).toNat)
 bif (!(eqI .bool s18.1 (v16 == 1))) then
 k false
 else
 r14 ((IntKind.wrap .i64 (e18_1 + 1)))
 else
 none
def zq04.b1 (e14_1 : Int) (e9_1 : (List T_s63)) (e9_2 : Int) (e14_2 : Int) (e9_3 : T_s26) (e9_4 : T_s35) (e14_3 : T_s63) (r9 : Int → Option Ω) (lp0 : Int → Int → (List T_s63) → Int → Int → (List Int) → Int → T_s26 → T_s35 → T_s63 → Bool × Int → Option Ω) (k : Bool → Option Ω) (r14 : Int → Option Ω) (s14 : Int) : Option Ω :=
 bif (decide (s14 < e14_2)) then
 (zq1a.u e9_4).bind fun y13 =>
 bif (idxOK s14 (List.length y13.2.2.2.1)) then
 let v14 : (List Int) := (List.getD y13.2.2.2.1 (Int.toNat s14) ((false, (0, ())), (([], ([], ())), (0, ())))).2.1.1
 lp0 e14_1 s14 e9_1 e9_2 e14_2 v14 (((List.length v14 : Nat) : Int)) e9_3 e9_4 e14_3 (false, 0)
 else
 none
 else
 r9 ((IntKind.wrap .i64 (e14_1 + 1)))
def zq04.B1 (fuel : Nat) (e14_1 : Int) (e9_1 : (List T_s63)) (e9_2 : Int) (e14_2 : Int) (e9_3 : T_s26) (e9_4 : T_s35) (e14_3 : T_s63) (r9 : Int → Option Ω) (k : Bool → Option Ω) (r14 : Int → Option Ω) (s14 : Int) : Option Ω := zq04.b1 e14_1 e9_1 e9_2 e14_2 e9_3 e9_4 e14_3 r9 (fun e14_1 e18_1 e9_1 e9_2 e14_2 e18_2 e18_3 e9_3 e9_4 e14_3 => (iter (zq04.b0 e14_1 e18_1 e9_1 e9_2 e14_2 e18_2 e18_3 e9_3 e9_4 e14_3 r14 k) fuel)) k r14 s14
def zq04.b2 (e9_1 : (List T_s63)) (e9_2 : Int) (e9_3 : T_s26) (e9_4 : T_s35)  (lp1 : Int → (List T_s63) → Int → Int → T_s26 → T_s35 → T_s63 → Int → Option Ω) (k : Bool → Option Ω) (r9 : Int → Option Ω) (s9 : Int) : Option Ω :=
 bif (decide (s9 < e9_2)) then
 bif (idxOK s9 (List.length e9_1)) then
 (bif (idxOK s9 (List.length e9_4.2.1)) then (let v10 : Int := (List.getD e9_4.2.1 (Int.toNat s9) (0, (false, (0, ((0, (false, ((List.replicate 8 0), ((List.replicate 16 0), (0, ((List.replicate 8 0), ())))))), (0, (0, (0, ([], ()))))))))).2.2.1; (bif (v10 != (List.getD e9_1 (Int.toNat s9) (0, (0, (0, ())))).1) then some (true, ()) else (bif (idxOK s9 (List.length e9_4.2.1)) then (let v11 : Int := (List.getD (List.getD e9_4.2.1 (Int.toNat s9) (0, (false, (0, ((0, (false, ((List.replicate 8 0), ((List.replicate 16 0), (0, ((List.replicate 8 0), ())))))), (0, (0, (0, ([], ()))))))))).2.2.2.1.2.2.1 0 0); some ((v11 != (List.getD e9_1 (Int.toNat s9) (0, (0, (0, ())))).2.1), ())) else none))) else none).bind fun j12 =>
 bif j12.1 then
 k false
 else
 lp1 s9 e9_1 e9_2 (((List.length e9_4.2.2.2.1 : Nat) : Int)) e9_3 e9_4 ((List.getD e9_1 (Int.toNat s9) (0, (0, (0, ()))))) (0)
 else
 none
 else
 zq24.u.bind fun y17 =>
 k y17
def zq04.B2 (fuel : Nat) (e9_1 : (List T_s63)) (e9_2 : Int) (e9_3 : T_s26) (e9_4 : T_s35)  (k : Bool → Option Ω) (r9 : Int → Option Ω) (s9 : Int) : Option Ω := zq04.b2 e9_1 e9_2 e9_3 e9_4  (fun e14_1 e9_1 e9_2 e14_2 e9_3 e9_4 e14_3 => (iter (zq04.B1 fuel e14_1 e9_1 e9_2 e14_2 e9_3 e9_4 e14_3 r9 k) fuel)) k r9 s9
theorem zq04.l0 (fuel : Nat) (e14_1 : Int) (e18_1 : Int) (e9_1 : (List T_s63)) (e9_2 : Int) (e14_2 : Int) (e18_2 : (List Int)) (e18_3 : Int) (e9_3 : T_s26) (e9_4 : T_s35) (e14_3 : T_s63) (R14 : List AV → Heap → Option Ω) (R9 : List AV → Heap → Option Ω) (k : AV → Option Ω) : ∀ m, (zq04.M0 fuel e14_1 e18_1 e9_1 e9_2 e14_2 e18_2 e18_3 e9_3 e9_4 e14_3 R14 R9 k m) = iter (zq04.b0 e14_1 e18_1 e9_1 e9_2 e14_2 e18_2 e18_3 e9_3 e9_4 e14_3 (fun s14 => R14 ((zq04.E1 e14_1 e9_1 e9_2 e14_2 e9_3 e9_4 e14_3) s14) ((zq04.H1 e14_1 e9_1 e9_2 e14_2 e9_3 e9_4 e14_3) s14)) (fun r => k (tupAV .bool [] r))) m :=
 loopK_iter (envOf := (zq04.E0 e14_1 e18_1 e9_1 e9_2 e14_2 e18_2 e18_3 e9_3 e9_4 e14_3)) (LOf := (zq04.H0 e14_1 e18_1 e9_1 e9_2 e14_2 e18_2 e18_3 e9_3 e9_4 e14_3)) (B := zq04.b0 e14_1 e18_1 e9_1 e9_2 e14_2 e18_2 e18_3 e9_3 e9_4 e14_3 (fun s14 => R14 ((zq04.E1 e14_1 e9_1 e9_2 e14_2 e9_3 e9_4 e14_3) s14) ((zq04.H1 e14_1 e9_1 e9_2 e14_2 e9_3 e9_4 e14_3) s14)) (fun r => k (tupAV .bool [] r))) (fun R s => by kernel_rfl)
theorem zq04.l1 (fuel : Nat) (e14_1 : Int) (e9_1 : (List T_s63)) (e9_2 : Int) (e14_2 : Int) (e9_3 : T_s26) (e9_4 : T_s35) (e14_3 : T_s63) (R9 : List AV → Heap → Option Ω) (k : AV → Option Ω) : ∀ m, (zq04.M1 fuel e14_1 e9_1 e9_2 e14_2 e9_3 e9_4 e14_3 R9 k m) = iter (zq04.B1 fuel e14_1 e9_1 e9_2 e14_2 e9_3 e9_4 e14_3 (fun s9 => R9 ((zq04.E2 e9_1 e9_2 e9_3 e9_4) s9) ((zq04.H2 e9_1 e9_2 e9_3 e9_4) s9)) (fun r => k (tupAV .bool [] r))) m :=
 loopK_iter (envOf := (zq04.E1 e14_1 e9_1 e9_2 e14_2 e9_3 e9_4 e14_3)) (LOf := (zq04.H1 e14_1 e9_1 e9_2 e14_2 e9_3 e9_4 e14_3)) (B := zq04.B1 fuel e14_1 e9_1 e9_2 e14_2 e9_3 e9_4 e14_3 (fun s9 => R9 ((zq04.E2 e9_1 e9_2 e9_3 e9_4) s9) ((zq04.H2 e9_1 e9_2 e9_3 e9_4) s9)) (fun r => k (tupAV .bool [] r))) (fun R s => by
 have h0 : zq04.V fuel 321119 ((zq04.E1 e14_1 e9_1 e9_2 e14_2 e9_3 e9_4 e14_3) s) ((zq04.H1 e14_1 e9_1 e9_2 e14_2 e9_3 e9_4 e14_3) s) (loopC R (mB 154 22835963081301516101088806633086796110629961623) [] 3 (blockK 2 (blockK 1 (sqK (zq04.V fuel 7775) (loopC R9 (mB 154 22835963083295358094766180442442506701050478583) [] 2 (blockK 0 (sqK (zq04.V fuel 127) (finK CDEKP Tryz.f5 k)))))))) = zq04.b1 e14_1 e9_1 e9_2 e14_2 e9_3 e9_4 e14_3 (fun s9 => R9 ((zq04.E2 e9_1 e9_2 e9_3 e9_4) s9) ((zq04.H2 e9_1 e9_2 e9_3 e9_4) s9)) (fun e14_1 e18_1 e9_1 e9_2 e14_2 e18_2 e18_3 e9_3 e9_4 e14_3 => (zq04.M0 fuel e14_1 e18_1 e9_1 e9_2 e14_2 e18_2 e18_3 e9_3 e9_4 e14_3 R R9 k fuel)) (fun r => k (tupAV .bool [] r)) (fun s => R ((zq04.E1 e14_1 e9_1 e9_2 e14_2 e9_3 e9_4 e14_3) s) ((zq04.H1 e14_1 e9_1 e9_2 e14_2 e9_3 e9_4 e14_3) s)) s := by kernel_rfl
 have h1 := funext fun (e14_1 : Int) => funext fun (e18_1 : Int) => funext fun (e9_1 : (List T_s63)) => funext fun (e9_2 : Int) => funext fun (e14_2 : Int) => funext fun (e18_2 : (List Int)) => funext fun (e18_3 : Int) => funext fun (e9_3 : T_s26) => funext fun (e9_4 : T_s35) => funext fun (e14_3 : T_s63) => zq04.l0 fuel e14_1 e18_1 e9_1 e9_2 e14_2 e18_2 e18_3 e9_3 e9_4 e14_3  R R9 k fuel
 rw [h1] at h0
 exact h0)
theorem zq04.l2 (fuel : Nat) (e9_1 : (List T_s63)) (e9_2 : Int) (e9_3 : T_s26) (e9_4 : T_s35)  (k : AV → Option Ω) : ∀ m, (zq04.M2 fuel e9_1 e9_2 e9_3 e9_4  k m) = iter (zq04.B2 fuel e9_1 e9_2 e9_3 e9_4  (fun r => k (tupAV .bool [] r))) m :=
 loopK_iter (envOf := (zq04.E2 e9_1 e9_2 e9_3 e9_4)) (LOf := (zq04.H2 e9_1 e9_2 e9_3 e9_4)) (B := zq04.B2 fuel e9_1 e9_2 e9_3 e9_4  (fun r => k (tupAV .bool [] r))) (fun R s => by
 have h0 : zq04.V fuel 607 ((zq04.E2 e9_1 e9_2 e9_3 e9_4) s) ((zq04.H2 e9_1 e9_2 e9_3 e9_4) s) (loopC R (mB 154 22835963083295358094766180442442506701050478583) [] 2 (blockK 0 (sqK (zq04.V fuel 127) (finK CDEKP Tryz.f5 k)))) = zq04.b2 e9_1 e9_2 e9_3 e9_4  (fun e14_1 e9_1 e9_2 e14_2 e9_3 e9_4 e14_3 => (zq04.M1 fuel e14_1 e9_1 e9_2 e14_2 e9_3 e9_4 e14_3 R k fuel)) (fun r => k (tupAV .bool [] r)) (fun s => R ((zq04.E2 e9_1 e9_2 e9_3 e9_4) s) ((zq04.H2 e9_1 e9_2 e9_3 e9_4) s)) s := by kernel_rfl
 have h2 := funext fun (e14_1 : Int) => funext fun (e9_1 : (List T_s63)) => funext fun (e9_2 : Int) => funext fun (e14_2 : Int) => funext fun (e9_3 : T_s26) => funext fun (e9_4 : T_s35) => funext fun (e14_3 : T_s63) => zq04.l1 fuel e14_1 e9_1 e9_2 e14_2 e9_3 e9_4 e14_3  R k fuel
 rw [h2] at h0
 exact h0)
def zq04.sl (x0 : T_s26) (lp2 : (List T_s63) → Int → T_s26 → T_s35 → Int → Option Ω) (k : Bool → Option Ω) : Option Ω :=
 (zq0u.u x0).bind fun y1 =>
 bif (!y1) then
 zq24.u.bind fun y2 =>
 k y2
 else
 (zq0m.u x0).bind fun y3 =>
 bif (y3.2 != 0) then
 let v4 : Int := (IntKind.wrap .i64 (((List.length y3.1.2.1 : Nat) : Int) + ((List.length y3.1.2.2.1 : Nat) : Int)))
 bif ((IntKind.wrap .i64 (v4 + ((List.length y3.1.2.2.2.1 : Nat) : Int))) == 0) then
 zq24.u.bind fun y5 =>
 k y5
 else
 k false
 else
 (zq3n.u y3.1).bind fun y6 =>
 bif (!y6) then
 k false
 else
 (zq27.u y3.1.2.1 0).bind fun y7 =>
 bif (((List.length y7 : Nat) : Int) != ((List.length x0.2.2.2.2.1 : Nat) : Int)) then
 k false
 else
 bif (((List.length y3.1.2.2.1 : Nat) : Int) != ((List.length x0.2.1 : Nat) : Int)) then
 k false
 else
 bif (((List.length y3.1.2.2.2.1 : Nat) : Int) != ((List.length x0.2.2.1 : Nat) : Int)) then
 k false
 else
 bif (((List.length y3.1.2.2.2.2.1 : Nat) : Int) != x0.2.2.2.1) then
 k false
 else
 (zq1e.u y3.1).bind fun y8 =>
 let v9 : Int := (IntKind.wrap .i64 (((List.length y8.2.2.2.1 : Nat) : Int) + ((List.length y3.1.2.2.2.2.2.1 : Nat) : Int)))
 bif (v9 != 0) then
 k false
 else
 lp2 x0.2.2.2.2.1 (((List.length x0.2.2.2.2.1 : Nat) : Int)) x0 y3.1 (0)
def zq04.g0 (e14_1 : Int) (e18_1 : Int) (e9_1 : (List T_s63)) (e9_2 : Int) (e14_2 : Int) (e18_2 : (List Int)) (e9_3 : T_s26) (e9_4 : T_s35) (e14_3 : T_s63) (r14 : Int → Option Ω) (k : Bool → Option Ω) : List Int → Bool → Option Ω
 | [], a18_0 =>
 bif (decide ((0 : Int) ≤ e18_1)) then
 let v16 : Int := (IntKind.wrap .i64 (BitVec.ofInt (IntKind.bits .i64) (Int.fdiv e14_3.2.2.1 (2 ^ (min (Int.toNat e18_1) (IntKind.bits .i64)))) &&& BitVec.ofInt (IntKind.bits .i64) 1).toNat)
 bif (!(eqI .bool a18_0 (v16 == 1))) then
 k false
 else
 r14 ((e18_1 + 1))
 else
 none
 | x18 :: xs18, a18_0 =>
 (bif a18_0 then some (true, ()) else some ((x18 == e14_1), ())).bind fun j15 =>
 zq04.g0 e14_1 e18_1 e9_1 e9_2 e14_2 e18_2 e9_3 e9_4 e14_3 r14 k xs18 j15.1
theorem zq04.h0 (e14_1 : Int) (e18_1 : Int) (e9_1 : (List T_s63)) (e9_2 : Int) (e14_2 : Int) (e18_2 : (List Int)) (e9_3 : T_s26) (e9_4 : T_s35) (e14_3 : T_s63) (r14 : Int → Option Ω) (r14' : Int → Option Ω) (hr14 : ∀ q : Unit, Le (r14 ((e18_1 + 1))) (r14' ((IntKind.wrap .i64 (e18_1 + 1))))) (k : Bool → Option Ω) (hX : ((List.length e18_2 : Nat) : Int) ≤ 9223372036854775807) : ∀ (m : Nat) (i : Int) (a : Bool), 0 ≤ i → i ≤ ((List.length e18_2 : Nat) : Int) → ((List.length e18_2 : Nat) : Int) < m + i → Le (zq04.g0 e14_1 e18_1 e9_1 e9_2 e14_2 e18_2 e9_3 e9_4 e14_3 r14 k (List.drop (Int.toNat i) e18_2) a) (iter (zq04.b0 e14_1 e18_1 e9_1 e9_2 e14_2 e18_2 (((List.length e18_2 : Nat) : Int)) e9_3 e9_4 e14_3 r14' k) m (a, i)) :=
 iter_list e18_2 0 (fun (i18 : Int) (a18 : Bool) => (a18, i18)) (fun xs i18 a18 => zq04.g0 e14_1 e18_1 e9_1 e9_2 e14_2 e18_2 e9_3 e9_4 e14_3 r14 k xs a18) (zq04.b0 e14_1 e18_1 e9_1 e9_2 e14_2 e18_2 (((List.length e18_2 : Nat) : Int)) e9_3 e9_4 e14_3 r14' k)
 (fun i18 a18 r h0 => (Le.fls h0 (Le.cond (let v16 : Int := (IntKind.wrap .i64 (BitVec.ofInt (IntKind.bits .i64) (Int.fdiv e14_3.2.2.1 (2 ^ (min (Int.toNat e18_1) (IntKind.bits .i64)))) &&& BitVec.ofInt (IntKind.bits .i64) 1).toNat); (Le.cond (Le.refl _) (hr14 ()))) Le.nil)))
 (fun i18 xs18 a18 r h0 h1 hw ih => (Le.tru h0 (Le.tru h1 (Le.bnd fun j15 => (ih _ hw (j15.1))))))
 hX
def zq04.g1 (e14_1 : Int) (e9_1 : (List T_s63)) (e9_2 : Int) (e14_2 : Int) (e9_3 : T_s26) (e9_4 : T_s35) (e14_3 : T_s63) (r9 : Int → Option Ω) (k : Bool → Option Ω) : Nat → Int → Option Ω
 | 0, i14 =>
 r9 ((e14_1 + 1))
 | d14 + 1, i14 =>
 (zq1a.u e9_4).bind fun y13 =>
 bif (idxOK i14 (List.length y13.2.2.2.1)) then
 let v14 : (List Int) := (List.getD y13.2.2.2.1 (Int.toNat i14) ((false, (0, ())), (([], ([], ())), (0, ())))).2.1.1
 bif decide (((List.length v14 : Nat) : Int) ≤ 4611686018427387904) then zq04.g0 e14_1 i14 e9_1 e9_2 e14_2 v14 e9_3 e9_4 e14_3 (fun q => zq04.g1 e14_1 e9_1 e9_2 e14_2 e9_3 e9_4 e14_3 r9 k d14 q) k v14 false else none
 else
 none
theorem zq04.h1 (e14_1 : Int) (e9_1 : (List T_s63)) (e9_2 : Int) (e14_2 : Int) (e9_3 : T_s26) (e9_4 : T_s35) (e14_3 : T_s63) (r9 : Int → Option Ω) (r9' : Int → Option Ω) (hr9 : ∀ q : Unit, Le (r9 ((e14_1 + 1))) (r9' ((IntKind.wrap .i64 (e14_1 + 1))))) (k : Bool → Option Ω) (hN : (e14_2 : Int) ≤ 9223372036854775807) : ∀ (m : Nat) (i : Int) (a : Unit), -9223372036854775808 ≤ i → Int.toNat ((e14_2 : Int) - i) < m → Le (zq04.g1 e14_1 e9_1 e9_2 e14_2 e9_3 e9_4 e14_3 r9 k (Int.toNat ((e14_2 : Int) - i)) i) (iter (zq04.B1 BIG e14_1 e9_1 e9_2 e14_2 e9_3 e9_4 e14_3 r9' k) m (i)) :=
 iter_count (e14_2 : Int) (fun i14 => (decide (i14 < e14_2))) (fun i => rfl) (fun (i14 : Int) (a14 : Unit) => (i14)) (fun xs i14 a14 => zq04.g1 e14_1 e9_1 e9_2 e14_2 e9_3 e9_4 e14_3 r9 k xs i14) (zq04.B1 BIG e14_1 e9_1 e9_2 e14_2 e9_3 e9_4 e14_3 r9' k)
 (fun i14 a14 r h0 => (Le.fls h0 (hr9 ())))
 (fun i14 d14 a14 r h0 hw ih => (Le.tru h0 (Le.bnd fun y13 => (Le.cond (let v14 : (List Int) := (List.getD y13.2.2.2.1 (Int.toNat i14) ((false, (0, ())), (([], ([], ())), (0, ())))).2.1.1; (Le.gd fun hg => zq04.h0 _ _ _ _ _ _ _ _ _ _ _ (fun q => ih _ hw q) _ (le_up (of_decide_eq_true hg)) BIG 0 (false) (by decide) (zero_le_len _) (big_list (of_decide_eq_true hg)))) Le.nil))))
 hN
def zq04.g2 (e9_1 : (List T_s63)) (e9_3 : T_s26) (e9_4 : T_s35)  (k : Bool → Option Ω) : List T_s63 → Int → Option Ω
 | [], i9 =>
 zq24.u.bind fun y17 =>
 k y17
 | x9 :: xs9, i9 =>
 (bif (idxOK i9 (List.length e9_4.2.1)) then (let v10 : Int := (List.getD e9_4.2.1 (Int.toNat i9) (0, (false, (0, ((0, (false, ((List.replicate 8 0), ((List.replicate 16 0), (0, ((List.replicate 8 0), ())))))), (0, (0, (0, ([], ()))))))))).2.2.1; (bif (v10 != x9.1) then some (true, ()) else (bif (idxOK i9 (List.length e9_4.2.1)) then (let v11 : Int := (List.getD (List.getD e9_4.2.1 (Int.toNat i9) (0, (false, (0, ((0, (false, ((List.replicate 8 0), ((List.replicate 16 0), (0, ((List.replicate 8 0), ())))))), (0, (0, (0, ([], ()))))))))).2.2.2.1.2.2.1 0 0); some ((v11 != x9.2.1), ())) else none))) else none).bind fun j12 =>
 bif j12.1 then
 k false
 else
 bif (decide ((((List.length e9_4.2.2.2.1 : Nat) : Int)) ≤ 4611686018427387904)) then zq04.g1 i9 e9_1 (((List.length e9_1 : Nat) : Int)) (((List.length e9_4.2.2.2.1 : Nat) : Int)) e9_3 e9_4 x9 (fun q => zq04.g2 e9_1 e9_3 e9_4  k xs9 q) k ((Int.toNat ((((List.length e9_4.2.2.2.1 : Nat) : Int)) - 0))) 0 else none
theorem zq04.h2 (e9_1 : (List T_s63)) (e9_3 : T_s26) (e9_4 : T_s35)   (k : Bool → Option Ω) (hX : ((List.length e9_1 : Nat) : Int) ≤ 9223372036854775807) : ∀ (m : Nat) (i : Int) (a : Unit), 0 ≤ i → i ≤ ((List.length e9_1 : Nat) : Int) → ((List.length e9_1 : Nat) : Int) < m + i → Le (zq04.g2 e9_1 e9_3 e9_4  k (List.drop (Int.toNat i) e9_1) i) (iter (zq04.B2 BIG e9_1 (((List.length e9_1 : Nat) : Int)) e9_3 e9_4  k) m (i)) :=
 iter_list e9_1 (0, (0, (0, ()))) (fun (i9 : Int) (a9 : Unit) => (i9)) (fun xs i9 a9 => zq04.g2 e9_1 e9_3 e9_4  k xs i9) (zq04.B2 BIG e9_1 (((List.length e9_1 : Nat) : Int)) e9_3 e9_4  k)
 (fun i9 a9 r h0 => (Le.fls h0 (Le.bnd fun y17 => (Le.refl _))))
 (fun i9 xs9 a9 r h0 h1 hw ih => (Le.tru h0 (Le.tru h1 (Le.bnd fun j12 => (Le.cond (Le.refl _) (Le.gd fun hg => zq04.h1 _ _ _ _ _ _ _ _ _ (fun q => ih _ hw q) _ (cnt_up hg) BIG 0 () (by decide) (cnt_big hg (by decide))))))))
 hX
def zq04.w (x0 : T_s26) (k : Bool → Option Ω) : Option Ω :=
 (zq0u.u x0).bind fun y1 =>
 bif (!y1) then
 zq24.u.bind fun y2 =>
 k y2
 else
 (zq0m.u x0).bind fun y3 =>
 bif (y3.2 != 0) then
 let v4 : Int := (IntKind.wrap .i64 (((List.length y3.1.2.1 : Nat) : Int) + ((List.length y3.1.2.2.1 : Nat) : Int)))
 bif ((IntKind.wrap .i64 (v4 + ((List.length y3.1.2.2.2.1 : Nat) : Int))) == 0) then
 zq24.u.bind fun y5 =>
 k y5
 else
 k false
 else
 (zq3n.u y3.1).bind fun y6 =>
 bif (!y6) then
 k false
 else
 (zq27.u y3.1.2.1 0).bind fun y7 =>
 bif (((List.length y7 : Nat) : Int) != ((List.length x0.2.2.2.2.1 : Nat) : Int)) then
 k false
 else
 bif (((List.length y3.1.2.2.1 : Nat) : Int) != ((List.length x0.2.1 : Nat) : Int)) then
 k false
 else
 bif (((List.length y3.1.2.2.2.1 : Nat) : Int) != ((List.length x0.2.2.1 : Nat) : Int)) then
 k false
 else
 bif (((List.length y3.1.2.2.2.2.1 : Nat) : Int) != x0.2.2.2.1) then
 k false
 else
 (zq1e.u y3.1).bind fun y8 =>
 let v9 : Int := (IntKind.wrap .i64 (((List.length y8.2.2.2.1 : Nat) : Int) + ((List.length y3.1.2.2.2.2.2.1 : Nat) : Int)))
 bif (v9 != 0) then
 k false
 else
 bif decide (((List.length x0.2.2.2.2.1 : Nat) : Int) ≤ 4611686018427387904) then zq04.g2 x0.2.2.2.2.1 x0 y3.1  k x0.2.2.2.2.1 0 else none
theorem zq04.ev (fuel : Nat) (x0 : T_s26) (k : AV → Option Ω) : evFn CDEKP (spE (C := CDEKP) [zq0u.n, zq24.n, zq0m.n, zq1a.n, zq3n.n, zq27.n, zq1e.n] []) (zq04.F fuel) Tryz.f5 (Tryz.f5.body.getD .skip) [(.v E_s26 (x0))] k = zq04.sl x0 (fun e9_1 e9_2 e9_3 e9_4 => (zq04.M2 fuel e9_1 e9_2 e9_3 e9_4  k fuel)) (fun r => k (tupAV .bool [] r)) := by kernel_rfl
theorem zq04.le (x0 : T_s26) (k : AV → Option Ω) : Le (zq04.w x0 (fun r => k (tupAV .bool [] r))) (zq04.sl x0 (fun e9_1 e9_2 e9_3 e9_4 => (zq04.M2 BIG e9_1 e9_2 e9_3 e9_4  k BIG)) (fun r => k (tupAV .bool [] r))) := by
 have h3 := funext fun (e9_1 : (List T_s63)) => funext fun (e9_2 : Int) => funext fun (e9_3 : T_s26) => funext fun (e9_4 : T_s35) => zq04.l2 BIG e9_1 e9_2 e9_3 e9_4   k BIG
 rw [h3]
 delta zq04.w zq04.sl
 exact (Le.bnd fun y1 => (Le.cond (Le.bnd fun y2 => (Le.refl _)) (Le.bnd fun y3 => (Le.cond (let v4 : Int := (IntKind.wrap .i64 (((List.length y3.1.2.1 : Nat) : Int) + ((List.length y3.1.2.2.1 : Nat) : Int))); (Le.cond (Le.bnd fun y5 => (Le.refl _)) (Le.refl _))) (Le.bnd fun y6 => (Le.cond (Le.refl _) (Le.bnd fun y7 => (Le.cond (Le.refl _) (Le.cond (Le.refl _) (Le.cond (Le.refl _) (Le.cond (Le.refl _) (Le.bnd fun y8 => (let v9 : Int := (IntKind.wrap .i64 (((List.length y8.2.2.2.1 : Nat) : Int) + ((List.length y3.1.2.2.2.2.2.1 : Nat) : Int))); (Le.cond (Le.refl _) (Le.gd fun hg => zq04.h2 _ _ _   _ (le_up (of_decide_eq_true hg)) BIG 0 () (by decide) (zero_le_len _) (big_list (of_decide_eq_true hg)))))))))))))))))
def zq04.u (x0 : T_s26) : Option (Bool) := zq04.w x0 some
noncomputable def zq04.n : En CDEKP := mkE CDEKP_ok (es := [zq0u.n, zq24.n, zq0m.n, zq1a.n, zq3n.n, zq27.n, zq1e.n]) (ms := []) (fuel := (zq04.F BIG)) 5 Tryz.f5 [.ai E_s26] .bool [] (fun x {Ω} k => zq04.w x.1 k) (fun x Ω k => leV (zq04.ev BIG x.1 k) (zq04.le x.1 k)) (by kernel_rfl) (by kernel_rfl)
end
end Go.Proofs.YtlcomipbinfooaaGreatDoor.K

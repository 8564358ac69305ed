/- What functions of the program come to, and their laws. -/
import Derived.Test.YtlcomipbinfooaaGreatDoorS
namespace Go.Proofs.YtlcomipbinfooaaGreatDoor.K
open Go Go.RowKit
section
set_option linter.unusedVariables false
set_option linter.unusedSimpArgs false
set_option maxRecDepth 100000
variable {Ω : Type}
def zq2n.s (x0 : Int) (x1 : Int) (x2 : Int) (k : Bool → Option Ω) : Option Ω :=
 bif (decide (x0 ≥ x1)) then
 k (decide (x0 ≤ x2))
 else
 k false
def zq2n.t (x0 : Int) (x1 : Int) (x2 : Int) : Bool :=
 bif (decide (x0 ≥ x1)) then
 (decide (x0 ≤ x2))
 else
 false
theorem zq2n.v (x0 : Int) (x1 : Int) (x2 : Int) (k : Bool → Option Ω) : zq2n.s x0 x1 x2 k = k (zq2n.t x0 x1 x2) := by
 delta zq2n.s zq2n.t; exact (cond_tot rfl rfl)
noncomputable def zq2n.n : En CDEKP := mkT CDEKP_ok (es := []) (ms := []) (fuel := ⟨1, fun _ => []⟩) 175 Tryz.f175 [.ai (.int .i64), .ai (.int .i64), .ai (.int .i64)] .bool [] (fun x {Ω} k => zq2n.s x.1 x.2.1 x.2.2.1 k) (fun x => zq2n.t x.1 x.2.1 x.2.2.1) (fun x Ω k => by kernel_rfl) (fun x => zq2n.v x.1 x.2.1 x.2.2.1 some) (by kernel_rfl) (by kernel_rfl)
def zq23.s (x0 : Int) (x1 : Int) (k : Int × Int → Option Ω) : Option Ω :=
 bif (!(zq2n.t x0 0 4095)) then
 k (0, 8)
 else
 bif (!(zq2n.t x1 1 65535)) then
 k (0, 8)
 else
 k ((IntKind.wrap .i64 ((IntKind.wrap .i64 (x1 * 4096)) + x0)), 0)
def zq23.t (x0 : Int) (x1 : Int) : Int × Int :=
 bif (!(zq2n.t x0 0 4095)) then
 (0, 8)
 else
 bif (!(zq2n.t x1 1 65535)) then
 (0, 8)
 else
 ((IntKind.wrap .i64 ((IntKind.wrap .i64 (x1 * 4096)) + x0)), 0)
theorem zq23.v (x0 : Int) (x1 : Int) (k : Int × Int → Option Ω) : zq23.s x0 x1 k = k (zq23.t x0 x1) := by
 delta zq23.s zq23.t; exact (cond_tot rfl (cond_tot rfl rfl))
noncomputable def zq23.n : En CDEKP := mkT CDEKP_ok (es := [zq2n.n]) (ms := []) (fuel := ⟨1, fun _ => []⟩) 98 Tryz.f98 [.ai (.int .i64), .ai (.int .i64)] (.int .i64) [(.int .i64)] (fun x {Ω} k => zq23.s x.1 x.2.1 k) (fun x => zq23.t x.1 x.2.1) (fun x Ω k => by kernel_rfl) (fun x => zq23.v x.1 x.2.1 some) (by kernel_rfl) (by kernel_rfl)

def zq1y.s (x0 : Int) (x1 : Int) (k : Int → Option Ω) : Option Ω :=
 let v1 : Int := (IntKind.wrap .u64 (BitVec.ofInt (IntKind.bits .u64) x0 &&& ~~~BitVec.ofInt (IntKind.bits .u64) x1).toNat)
 k v1
def zq1y.t (x0 : Int) (x1 : Int) : Int :=
 let v1 : Int := (IntKind.wrap .u64 (BitVec.ofInt (IntKind.bits .u64) x0 &&& ~~~BitVec.ofInt (IntKind.bits .u64) x1).toNat)
 v1
theorem zq1y.v (x0 : Int) (x1 : Int) (k : Int → Option Ω) : zq1y.s x0 x1 k = k (zq1y.t x0 x1) := by
 delta zq1y.s zq1y.t; exact rfl
noncomputable def zq1y.n : En CDEKP := mkT CDEKP_ok (es := []) (ms := []) (fuel := ⟨1, fun _ => []⟩) 243 Tryz.f243 [.ai (.int .u64), .ai (.int .u64)] (.int .u64) [] (fun x {Ω} k => zq1y.s x.1 x.2.1 k) (fun x => zq1y.t x.1 x.2.1) (fun x Ω k => by kernel_rfl) (fun x => zq1y.v x.1 x.2.1 some) (by kernel_rfl) (by kernel_rfl)
def zq0j.F (fuel : Nat) : Fuel := ⟨fuel, fun r => bif r == 2 then mL 0 23 8388259 else []⟩
noncomputable def zq0j.V (fuel c : Nat) (env : List AV) (L : Heap) (k : Kont Ω) : Option Ω := evCode CDEKP (spE (C := CDEKP) [zq1y.n] []) (zq0j.F fuel) (pCo c Tryz.f242) env L k
def zq0j.E0 (e2_1 : (List Int)) (e2_2 : (List Int)) (s2 : Int × (List Int)) : List AV := (dZ 2 ((.fn 243 []) :: (.ref 0 []) :: (.ref 1 []) :: dZ 1 ((.ref 2 []) :: dZ 1 ((.v (.int .i64) (s2.1)) :: dZ 14 ([])))))
def zq0j.H0 (e2_1 : (List Int)) (e2_2 : (List Int)) (s2 : Int × (List Int)) : Heap := [(.box (.arr 4 (.int .u64)) s2.2 false), (.box (.arr 4 (.int .u64)) e2_1 false), (.box (.arr 4 (.int .u64)) e2_2 false)]
noncomputable def zq0j.M0 (fuel : Nat) (e2_1 : (List Int)) (e2_2 : (List Int))  (k : AV → Option Ω) (m : Nat) (s : Int × (List Int)) : Option Ω := loopK (zq0j.V fuel 37) (mB 23 8388259) [] 3 (blockK 0 (sqK (zq0j.V fuel 7) (finK CDEKP Tryz.f242 k))) m ((zq0j.E0 e2_1 e2_2) s) ((zq0j.H0 e2_1 e2_2) s)
def zq0j.b0 (e2_1 : (List Int)) (e2_2 : (List Int))   (k : (List Int) → Option Ω) (r2 : Int × (List Int) → Option Ω) (s2 : Int × (List Int)) : Option Ω :=
 bif (decide (s2.1 < 4)) then
 bif (idxOK s2.1 4) then
 bif (idxOK s2.1 4) then
 let v1 : Int := (zq1y.t ((List.getD s2.2 (Int.toNat s2.1) 0)) ((List.getD e2_1 (Int.toNat s2.1) 0)))
 bif (idxOK s2.1 4) then
 r2 ((IntKind.wrap .i64 (s2.1 + 1)), (List.set s2.2 (Int.toNat s2.1) v1))
 else
 none
 else
 none
 else
 none
 else
 k s2.2
theorem zq0j.l0 (fuel : Nat) (e2_1 : (List Int)) (e2_2 : (List Int))  (k : AV → Option Ω) : ∀ m, (zq0j.M0 fuel e2_1 e2_2  k m) = iter (zq0j.b0 e2_1 e2_2  (fun r => k (tupAV (.arr 4 (.int .u64)) [] r))) m :=
 loopK_iter (envOf := (zq0j.E0 e2_1 e2_2)) (LOf := (zq0j.H0 e2_1 e2_2)) (B := zq0j.b0 e2_1 e2_2  (fun r => k (tupAV (.arr 4 (.int .u64)) [] r))) (fun R s => by kernel_rfl)
def zq0j.sl (x0 : (List Int)) (x1 : (List Int)) (lp0 : (List Int) → (List Int) → Int × (List Int) → Option Ω) (k : (List Int) → Option Ω) : Option Ω :=
 lp0 x1 (List.replicate 4 0) (0, x0)
def zq0j.g0 (e2_1 : (List Int)) (e2_2 : (List Int))  (k : (List Int) → Option Ω) : Nat → Int → (List Int) → Option Ω
 | 0, i2, a2_1 =>
 k a2_1
 | d2 + 1, i2, a2_1 =>
 bif (idxOK i2 4) then
 bif (idxOK i2 4) then
 let v1 : Int := (zq1y.t ((List.getD a2_1 (Int.toNat i2) 0)) ((List.getD e2_1 (Int.toNat i2) 0)))
 bif (idxOK i2 4) then
 zq0j.g0 e2_1 e2_2  k d2 (i2 + 1) ((List.set a2_1 (Int.toNat i2) v1))
 else
 none
 else
 none
 else
 none
theorem zq0j.h0 (e2_1 : (List Int)) (e2_2 : (List Int))   (k : (List Int) → Option Ω) (hN : (4 : Int) ≤ 9223372036854775807) : ∀ (m : Nat) (i : Int) (a : (List Int)), -9223372036854775808 ≤ i → Int.toNat ((4 : Int) - i) < m → Le (zq0j.g0 e2_1 e2_2  k (Int.toNat ((4 : Int) - i)) i a) (iter (zq0j.b0 e2_1 e2_2  k) m (i, a)) :=
 iter_count (4 : Int) (fun i2 => (decide (i2 < 4))) (fun i => rfl) (fun (i2 : Int) (a2 : (List Int)) => (i2, a2)) (fun xs i2 a2 => zq0j.g0 e2_1 e2_2  k xs i2 a2) (zq0j.b0 e2_1 e2_2  k)
 (fun i2 a2 r h0 => (Le.fls h0 (Le.refl _)))
 (fun i2 d2 a2 r h0 hw ih => (Le.tru h0 (Le.cond (Le.cond (let v1 : Int := (zq1y.t ((List.getD a2 (Int.toNat i2) 0)) ((List.getD e2_1 (Int.toNat i2) 0))); (Le.cond (ih _ hw ((List.set a2 (Int.toNat i2) v1))) Le.nil)) Le.nil) Le.nil)))
 hN
def zq0j.w (x0 : (List Int)) (x1 : (List Int)) (k : (List Int) → Option Ω) : Option Ω :=
 zq0j.g0 x1 (List.replicate 4 0)  k ((Int.toNat ((4 : Int) - 0))) 0 x0
theorem zq0j.ev (fuel : Nat) (x0 : (List Int)) (x1 : (List Int)) (k : AV → Option Ω) : evFn CDEKP (spE (C := CDEKP) [zq1y.n] []) (zq0j.F fuel) Tryz.f242 (Tryz.f242.body.getD .skip) [(.v (.arr 4 (.int .u64)) (x0)), (.v (.arr 4 (.int .u64)) (x1)), (.fn 243 [])] k = zq0j.sl x0 x1 (fun e2_1 e2_2 => (zq0j.M0 fuel e2_1 e2_2  k fuel)) (fun r => k (tupAV (.arr 4 (.int .u64)) [] r)) := by kernel_rfl
theorem zq0j.le (x0 : (List Int)) (x1 : (List Int)) (k : AV → Option Ω) : Le (zq0j.w x0 x1 (fun r => k (tupAV (.arr 4 (.int .u64)) [] r))) (zq0j.sl x0 x1 (fun e2_1 e2_2 => (zq0j.M0 BIG e2_1 e2_2  k BIG)) (fun r => k (tupAV (.arr 4 (.int .u64)) [] r))) := by
 have h1 := funext fun (e2_1 : (List Int)) => funext fun (e2_2 : (List Int)) => zq0j.l0 BIG e2_1 e2_2   k BIG
 rw [h1]
 delta zq0j.w zq0j.sl
 exact (zq0j.h0 _ _   _ (by decide) BIG 0 (x0) (by decide) (by decide))
def zq0j.u (x0 : (List Int)) (x1 : (List Int)) : Option ((List Int)) := zq0j.w x0 x1 some
noncomputable def zq0j.n : En CDEKP := mkE CDEKP_ok (es := [zq1y.n]) (ms := []) (fuel := (zq0j.F BIG)) 242 Tryz.f242 [.ai (.arr 4 (.int .u64)), .ai (.arr 4 (.int .u64)), .af0 243] (.arr 4 (.int .u64)) [] (fun x {Ω} k => zq0j.w x.1 x.2.1 k) (fun x Ω k => leV (zq0j.ev BIG x.1 x.2.1 k) (zq0j.le x.1 x.2.1 k)) (by kernel_rfl) (by kernel_rfl)
def zq4r.s (x0 : (List Int)) (x1 : (List Int)) (k : (List Int) → Option Ω) : Option Ω :=
 (zq0j.u x0 x1).bind fun y1 =>
 k y1
def zq4r.u (x0 : (List Int)) (x1 : (List Int)) : Option ((List Int)) := zq4r.s x0 x1 some
noncomputable def zq4r.n : En CDEKP := mkE CDEKP_ok (es := [zq0j.n]) (ms := []) (fuel := ⟨1, fun _ => []⟩) 198 Tryz.f198 [.ai (.arr 4 (.int .u64)), .ai (.arr 4 (.int .u64))] (.arr 4 (.int .u64)) [] (fun x {Ω} k => zq4r.s x.1 x.2.1 k) (fun x Ω k => Le.of (by kernel_rfl)) (by kernel_rfl) (by kernel_rfl)
def zq3a.s (x0 : (List Int)) (x1 : (List Int)) (k : Bool → Option Ω) : Option Ω :=
 (zq4r.u x0 x1).bind fun y1 =>
 k (eqI (.arr 4 (.int .u64)) y1 (List.replicate 4 0))
def zq3a.u (x0 : (List Int)) (x1 : (List Int)) : Option (Bool) := zq3a.s x0 x1 some
noncomputable def zq3a.n : En CDEKP := mkE CDEKP_ok (es := [zq4r.n]) (ms := []) (fuel := ⟨1, fun _ => []⟩) 134 Tryz.f134 [.ai (.arr 4 (.int .u64)), .ai (.arr 4 (.int .u64))] .bool [] (fun x {Ω} k => zq3a.s x.1 x.2.1 k) (fun x Ω k => Le.of (by kernel_rfl)) (by kernel_rfl) (by kernel_rfl)
def zq3o.g0 (e2_1 : (List Int)) (e2_2 : Int)  (k : Bool → Option Ω) : List Int → Option Ω
 | [] =>
 k false
 | x2 :: xs2 =>
 bif (x2 == e2_2) then
 k true
 else
 zq3o.g0 e2_1 e2_2  k xs2
def zq3o.w (x0 : (List Int)) (x1 : Int) (k : Bool → Option Ω) : Option Ω :=
 bif decide (((List.length x0 : Nat) : Int) ≤ 4611686018427387904) then zq3o.g0 x0 x1  k x0  else none
def zq3o.u (x0 : (List Int)) (x1 : Int) : Option (Bool) := zq3o.w x0 x1 some
def zq2l.s (x0 : Int) (k : Bool → Option Ω) : Option Ω :=
 bif (decide (x0 ≥ 0)) then
 k (decide (x0 ≤ 255))
 else
 k false
def zq2l.t (x0 : Int) : Bool :=
 bif (decide (x0 ≥ 0)) then
 (decide (x0 ≤ 255))
 else
 false
theorem zq2l.v (x0 : Int) (k : Bool → Option Ω) : zq2l.s x0 k = k (zq2l.t x0) := by
 delta zq2l.s zq2l.t; exact (cond_tot rfl rfl)
noncomputable def zq2l.n : En CDEKP := mkT CDEKP_ok (es := []) (ms := []) (fuel := ⟨1, fun _ => []⟩) 259 Tryz.f259 [.ai (.int .i64)] .bool [] (fun x {Ω} k => zq2l.s x.1 k) (fun x => zq2l.t x.1) (fun x Ω k => by kernel_rfl) (fun x => zq2l.v x.1 some) (by kernel_rfl) (by kernel_rfl)
def zq39.s (x0 : (List Int)) (x1 : Int) (k : (List Int) → Option Ω) : Option Ω :=
 bif (zq2l.t x1) then
 bif (idxOK (IntKind.wrap .i64 (Int.tdiv x1 64)) 4) then
 bif (decide ((0 : Int) ≤ (Int.tmod x1 64))) then
 let v1 : Int := (IntKind.wrap .u64 ((1 : Int) * (2 ^ (min (Int.toNat (Int.tmod x1 64)) (IntKind.bits .u64)))))
 let v2 : Int := (IntKind.wrap .u64 (BitVec.ofInt (IntKind.bits .u64) (List.getD x0 (Int.toNat (IntKind.wrap .i64 (Int.tdiv x1 64))) 0) ||| BitVec.ofInt (IntKind.bits .u64) v1).toNat)
 bif (idxOK (IntKind.wrap .i64 (Int.tdiv x1 64)) 4) then
 k (List.set x0 (Int.toNat (IntKind.wrap .i64 (Int.tdiv x1 64))) v2)
 else
 none
 else
 none
 else
 none
 else
 k x0
def zq39.u (x0 : (List Int)) (x1 : Int) : Option ((List Int)) := zq39.s x0 x1 some
noncomputable def zq39.n : En CDEKP := mkE CDEKP_ok (es := [zq2l.n]) (ms := []) (fuel := ⟨1, fun _ => []⟩) 221 Tryz.f221 [.ai (.arr 4 (.int .u64)), .ai (.int .i64)] (.arr 4 (.int .u64)) [] (fun x {Ω} k => zq39.s x.1 x.2.1 k) (fun x Ω k => Le.of (by kernel_rfl)) (by kernel_rfl) (by kernel_rfl)
def zq1c.F (fuel : Nat) : Fuel := ⟨fuel, fun r => bif r == 3 then mL 0 17 130611 else []⟩
noncomputable def zq1c.V (fuel c : Nat) (env : List AV) (L : Heap) (k : Kont Ω) : Option Ω := evCode CDEKP (spE (C := CDEKP) [zq39.n] []) (zq1c.F fuel) (pCo c Tryz.f199) env L k
def zq1c.E0 (e3_1 : (List Int)) (e3_2 : Int) (e3_3 : (List Int)) (s3 : Int × (List Int)) : List AV := (dZ 2 ((.ref 0 []) :: (.ref 1 []) :: dZ 2 ((.v (.slice (.int .i64)) (e3_1)) :: (.v (.int .i64) (e3_2)) :: (.v (.int .i64) (s3.1)) :: dZ 8 ([]))))
def zq1c.H0 (e3_1 : (List Int)) (e3_2 : Int) (e3_3 : (List Int)) (s3 : Int × (List Int)) : Heap := [(.box (.arr 4 (.int .u64)) e3_3 false), (.box (.arr 4 (.int .u64)) s3.2 false)]
noncomputable def zq1c.M0 (fuel : Nat) (e3_1 : (List Int)) (e3_2 : Int) (e3_3 : (List Int))  (k : AV → Option Ω) (m : Nat) (s : Int × (List Int)) : Option Ω := loopK (zq1c.V fuel 75) (mB 17 130611) [] 2 (blockK 0 (sqK (zq1c.V fuel 15) (finK CDEKP Tryz.f199 k))) m ((zq1c.E0 e3_1 e3_2 e3_3) s) ((zq1c.H0 e3_1 e3_2 e3_3) s)
def zq1c.b0 (e3_1 : (List Int)) (e3_2 : Int) (e3_3 : (List Int))   (k : (List Int) → Option Ω) (r3 : Int × (List Int) → Option Ω) (s3 : Int × (List Int)) : Option Ω :=
 bif (decide (s3.1 < e3_2)) then
 bif (idxOK s3.1 (List.length e3_1)) then
 (zq39.u s3.2 ((List.getD e3_1 (Int.toNat s3.1) 0))).bind fun y1 =>
 r3 ((IntKind.wrap .i64 (s3.1 + 1)), y1)
 else
 none
 else
 k s3.2
theorem zq1c.l0 (fuel : Nat) (e3_1 : (List Int)) (e3_2 : Int) (e3_3 : (List Int))  (k : AV → Option Ω) : ∀ m, (zq1c.M0 fuel e3_1 e3_2 e3_3  k m) = iter (zq1c.b0 e3_1 e3_2 e3_3  (fun r => k (tupAV (.arr 4 (.int .u64)) [] r))) m :=
 loopK_iter (envOf := (zq1c.E0 e3_1 e3_2 e3_3)) (LOf := (zq1c.H0 e3_1 e3_2 e3_3)) (B := zq1c.b0 e3_1 e3_2 e3_3  (fun r => k (tupAV (.arr 4 (.int .u64)) [] r))) (fun R s => by kernel_rfl)
def zq1c.sl (x0 : (List Int)) (lp0 : (List Int) → Int → (List Int) → Int × (List Int) → Option Ω) (k : (List Int) → Option Ω) : Option Ω :=
 lp0 x0 (((List.length x0 : Nat) : Int)) (List.replicate 4 0) (0, (List.replicate 4 0))
def zq1c.g0 (e3_1 : (List Int)) (e3_3 : (List Int))  (k : (List Int) → Option Ω) : List Int → (List Int) → Option Ω
 | [], a3_1 =>
 k a3_1
 | x3 :: xs3, a3_1 =>
 (zq39.u a3_1 (x3)).bind fun y1 =>
 zq1c.g0 e3_1 e3_3  k xs3 y1
theorem zq1c.h0 (e3_1 : (List Int)) (e3_3 : (List Int))   (k : (List Int) → Option Ω) (hX : ((List.length e3_1 : Nat) : Int) ≤ 9223372036854775807) : ∀ (m : Nat) (i : Int) (a : (List Int)), 0 ≤ i → i ≤ ((List.length e3_1 : Nat) : Int) → ((List.length e3_1 : Nat) : Int) < m + i → Le (zq1c.g0 e3_1 e3_3  k (List.drop (Int.toNat i) e3_1) a) (iter (zq1c.b0 e3_1 (((List.length e3_1 : Nat) : Int)) e3_3  k) m (i, a)) :=
 iter_list e3_1 0 (fun (i3 : Int) (a3 : (List Int)) => (i3, a3)) (fun xs i3 a3 => zq1c.g0 e3_1 e3_3  k xs a3) (zq1c.b0 e3_1 (((List.length e3_1 : Nat) : Int)) e3_3  k)
 (fun i3 a3 r h0 => (Le.fls h0 (Le.refl _)))
 (fun i3 xs3 a3 r h0 h1 hw ih => (Le.tru h0 (Le.tru h1 (Le.bnd fun y1 => (ih _ hw (y1))))))
 hX
def zq1c.w (x0 : (List Int)) (k : (List Int) → Option Ω) : Option Ω :=
 bif decide (((List.length x0 : Nat) : Int) ≤ 4611686018427387904) then zq1c.g0 x0 (List.replicate 4 0)  k x0 (List.replicate 4 0) else none
theorem zq1c.ev (fuel : Nat) (x0 : (List Int)) (k : AV → Option Ω) : evFn CDEKP (spE (C := CDEKP) [zq39.n] []) (zq1c.F fuel) Tryz.f199 (Tryz.f199.body.getD .skip) [(.v (.slice (.int .i64)) (x0))] k = zq1c.sl x0 (fun e3_1 e3_2 e3_3 => (zq1c.M0 fuel e3_1 e3_2 e3_3  k fuel)) (fun r => k (tupAV (.arr 4 (.int .u64)) [] r)) := by kernel_rfl
theorem zq1c.le (x0 : (List Int)) (k : AV → Option Ω) : Le (zq1c.w x0 (fun r => k (tupAV (.arr 4 (.int .u64)) [] r))) (zq1c.sl x0 (fun e3_1 e3_2 e3_3 => (zq1c.M0 BIG e3_1 e3_2 e3_3  k BIG)) (fun r => k (tupAV (.arr 4 (.int .u64)) [] r))) := by
 have h1 := funext fun (e3_1 : (List Int)) => funext fun (e3_2 : Int) => funext fun (e3_3 : (List Int)) => zq1c.l0 BIG e3_1 e3_2 e3_3   k BIG
 rw [h1]
 delta zq1c.w zq1c.sl
 exact (Le.gd fun hg => zq1c.h0 _ _   _ (le_up (of_decide_eq_true hg)) BIG 0 ((List.replicate 4 0)) (by decide) (zero_le_len _) (big_list (of_decide_eq_true hg)))
def zq1c.u (x0 : (List Int)) : Option ((List Int)) := zq1c.w x0 some
noncomputable def zq1c.n : En CDEKP := mkE CDEKP_ok (es := [zq39.n]) (ms := []) (fuel := (zq1c.F BIG)) 199 Tryz.f199 [.ai (.slice (.int .i64))] (.arr 4 (.int .u64)) [] (fun x {Ω} k => zq1c.w x.1 k) (fun x Ω k => leV (zq1c.ev BIG x.1 k) (zq1c.le x.1 k)) (by kernel_rfl) (by kernel_rfl)
def zq3x.s (x0 : (List Int)) (x1 : Int) (k : Bool → Option Ω) : Option Ω :=
 bif (zq2l.t x1) then
 bif (idxOK (IntKind.wrap .i64 (Int.tdiv x1 64)) 4) then
 bif (decide ((0 : Int) ≤ (Int.tmod x1 64))) then
 let v1 : Int := (Int.fdiv (List.getD x0 (Int.toNat (IntKind.wrap .i64 (Int.tdiv x1 64))) 0) (2 ^ (min (Int.toNat (Int.tmod x1 64)) (IntKind.bits .u64))))
 let v2 : Int := (IntKind.wrap .u64 (BitVec.ofInt (IntKind.bits .u64) v1 &&& BitVec.ofInt (IntKind.bits .u64) 1).toNat)
 k (v2 == 1)
 else
 none
 else
 none
 else
 k false
def zq3x.u (x0 : (List Int)) (x1 : Int) : Option (Bool) := zq3x.s x0 x1 some
noncomputable def zq3x.n : En CDEKP := mkE CDEKP_ok (es := [zq2l.n]) (ms := []) (fuel := ⟨1, fun _ => []⟩) 220 Tryz.f220 [.ai (.arr 4 (.int .u64)), .ai (.int .i64)] .bool [] (fun x {Ω} k => zq3x.s x.1 x.2.1 k) (fun x Ω k => Le.of (by kernel_rfl)) (by kernel_rfl) (by kernel_rfl)
def zq3y.g0 (e3_1 : (List Int))  (k : (List Int) → Option Ω) : Nat → Int → (List Int) → Option Ω
 | 0, i3, a3_1 =>
 k a3_1
 | d3 + 1, i3, a3_1 =>
 (zq3o.u e3_1 i3).bind fun y1 =>
 bif y1 then
 bif (decide (List.length a3_1 + List.length [i3] ≤ rowMax)) then
 zq3y.g0 e3_1  k d3 (i3 + 1) (a3_1 ++ [i3])
 else
 none
 else
 zq3y.g0 e3_1  k d3 (i3 + 1) a3_1
def zq3y.w (x0 : (List Int)) (k : (List Int) → Option Ω) : Option Ω :=
 zq3y.g0 x0  k ((Int.toNat ((255 + 1) - 0))) 0 ([])
def zq3y.u (x0 : (List Int)) : Option ((List Int)) := zq3y.w x0 some
def zq4x.s (x0 : (List Int)) (x1 : Int) (k : (List Int) → Option Ω) : Option Ω :=
 bif (decide (List.length x0 ≤ rowMax)) then
 bif (decide (List.length x0 + List.length [x1] ≤ rowMax)) then
 (zq3y.u (x0 ++ [x1])).bind fun y1 =>
 k y1
 else
 none
 else
 none
def zq4x.u (x0 : (List Int)) (x1 : Int) : Option ((List Int)) := zq4x.s x0 x1 some
noncomputable def zq1h.n : En CDEKP := En.of (g := 277) (e := fun {_} => zq1h.e) (zq1h.e_ok.mono le_CD_CDEKP)
def zq0v.F (fuel : Nat) : Fuel := ⟨fuel, fun r => bif r == 3 then mL 0 37 137438953401 else bif r == 1007000 then [23, 24, 25, 26, 27, 28, 29, 13007] else []⟩
noncomputable def zq0v.V (fuel c : Nat) (env : List AV) (L : Heap) (k : Kont Ω) : Option Ω := evCode CDEKP (spE (C := CDEKP) [zq1h.n] []) (zq0v.F fuel) (pCo c Tryz.f241) env L k
def zq0v.E0 (e3_1 : Int) (e3_2 : (List Int)) (s3 : Int) : List AV := (dZ 1 ((.v (.int .i64) (e3_1)) :: (.ref 0 []) :: dZ 3 ((.v (.int .i64) (s3)) :: dZ 30 ([]))))
def zq0v.H0 (e3_1 : Int) (e3_2 : (List Int)) (s3 : Int) : Heap := [(.box (.arr 4 (.int .u64)) e3_2 false)]
noncomputable def zq0v.M0 (fuel : Nat) (e3_1 : Int) (e3_2 : (List Int))  (k : AV → Option Ω) (m : Nat) (s : Int) : Option Ω := loopK (zq0v.V fuel 75) (mB 37 137438953401) [] 1 (blockK 0 (sqK (zq0v.V fuel 15) (finK CDEKP Tryz.f241 k))) m ((zq0v.E0 e3_1 e3_2) s) ((zq0v.H0 e3_1 e3_2) s)
def zq0v.b0 (e3_1 : Int) (e3_2 : (List Int))   (k : Int × Bool → Option Ω) (r3 : Int → Option Ω) (s3 : Int) : Option Ω :=
 bif (decide (s3 < 4)) then
 bif (idxOK s3 4) then
 (bif (s3 == (IntKind.wrap .i64 (Int.tdiv e3_1 64))) then (bif (decide ((0 : Int) ≤ (Int.tmod e3_1 64))) then (let v1 : Int := (Int.fdiv (List.getD e3_2 (Int.toNat s3) 0) (2 ^ (min (Int.toNat (Int.tmod e3_1 64)) (IntKind.bits .u64)))); (bif (decide ((0 : Int) ≤ (Int.tmod e3_1 64))) then some ((IntKind.wrap .u64 (v1 * (2 ^ (min (Int.toNat (Int.tmod e3_1 64)) (IntKind.bits .u64))))), ()) else none)) else none) else some ((List.getD e3_2 (Int.toNat s3) 0), ())).bind fun j2 =>
 bif (j2.1 != 0) then
 (zq1h.u j2.1).bind fun y3 =>
 k ((IntKind.wrap .i64 ((IntKind.wrap .i64 (s3 * 64)) + y3)), true)
 else
 r3 ((IntKind.wrap .i64 (s3 + 1)))
 else
 none
 else
 k (0, false)
theorem zq0v.l0 (fuel : Nat) (e3_1 : Int) (e3_2 : (List Int))  (k : AV → Option Ω) : ∀ m, (zq0v.M0 fuel e3_1 e3_2  k m) = iter (zq0v.b0 e3_1 e3_2  (fun r => k (tupAV (.int .i64) [.bool] r))) m :=
 loopK_iter (envOf := (zq0v.E0 e3_1 e3_2)) (LOf := (zq0v.H0 e3_1 e3_2)) (B := zq0v.b0 e3_1 e3_2  (fun r => k (tupAV (.int .i64) [.bool] r))) (fun R s => by kernel_rfl)
def zq0v.sl (x0 : (List Int)) (x1 : Int) (lp0 : Int → (List Int) → Int → Option Ω) (k : Int × Bool → Option Ω) : Option Ω :=
 lp0 ((if (0 : Int) > x1 then 0 else x1)) x0 ((IntKind.wrap .i64 (Int.tdiv (if (0 : Int) > x1 then 0 else x1) 64)))
def zq0v.g0 (e3_1 : Int) (e3_2 : (List Int))  (k : Int × Bool → Option Ω) : Nat → Int → Option Ω
 | 0, i3 =>
 k (0, false)
 | d3 + 1, i3 =>
 bif (idxOK i3 4) then
 (bif (i3 == (IntKind.wrap .i64 (Int.tdiv e3_1 64))) then (bif (decide ((0 : Int) ≤ (Int.tmod e3_1 64))) then (let v1 : Int := (Int.fdiv (List.getD e3_2 (Int.toNat i3) 0) (2 ^ (min (Int.toNat (Int.tmod e3_1 64)) (IntKind.bits .u64)))); (bif (decide ((0 : Int) ≤ (Int.tmod e3_1 64))) then some ((IntKind.wrap .u64 (v1 * (2 ^ (min (Int.toNat (Int.tmod e3_1 64)) (IntKind.bits .u64))))), ()) else none)) else none) else some ((List.getD e3_2 (Int.toNat i3) 0), ())).bind fun j2 =>
 bif (j2.1 != 0) then
 (zq1h.u j2.1).bind fun y3 =>
 k ((IntKind.wrap .i64 ((IntKind.wrap .i64 (i3 * 64)) + y3)), true)
 else
 zq0v.g0 e3_1 e3_2  k d3 (i3 + 1)
 else
 none
theorem zq0v.h0 (e3_1 : Int) (e3_2 : (List Int))   (k : Int × Bool → Option Ω) (hN : (4 : Int) ≤ 9223372036854775807) : ∀ (m : Nat) (i : Int) (a : Unit), -9223372036854775808 ≤ i → Int.toNat ((4 : Int) - i) < m → Le (zq0v.g0 e3_1 e3_2  k (Int.toNat ((4 : Int) - i)) i) (iter (zq0v.b0 e3_1 e3_2  k) m (i)) :=
 iter_count (4 : Int) (fun i3 => (decide (i3 < 4))) (fun i => rfl) (fun (i3 : Int) (a3 : Unit) => (i3)) (fun xs i3 a3 => zq0v.g0 e3_1 e3_2  k xs i3) (zq0v.b0 e3_1 e3_2  k)
 (fun i3 a3 r h0 => (Le.fls h0 (Le.refl _)))
 (fun i3 d3 a3 r h0 hw ih => (Le.tru h0 (Le.cond (Le.bnd fun j2 => (Le.cond (Le.bnd fun y3 => (Le.refl _)) (ih _ hw ()))) Le.nil)))
 hN
def zq0v.w (x0 : (List Int)) (x1 : Int) (k : Int × Bool → Option Ω) : Option Ω :=
 bif (decide ((0 : Int) ≤ (IntKind.wrap .i64 (Int.tdiv (if (0 : Int) > x1 then 0 else x1) 64)))) then zq0v.g0 ((if (0 : Int) > x1 then 0 else x1)) x0  k ((Int.toNat ((4 : Int) - (IntKind.wrap .i64 (Int.tdiv (if (0 : Int) > x1 then 0 else x1) 64))))) ((IntKind.wrap .i64 (Int.tdiv (if (0 : Int) > x1 then 0 else x1) 64))) else none
theorem zq0v.ev (fuel : Nat) (x0 : (List Int)) (x1 : Int) (k : AV → Option Ω) : evFn CDEKP (spE (C := CDEKP) [zq1h.n] []) (zq0v.F fuel) Tryz.f241 (Tryz.f241.body.getD .skip) [(.v (.arr 4 (.int .u64)) (x0)), (.v (.int .i64) (x1))] k = zq0v.sl x0 x1 (fun e3_1 e3_2 => (zq0v.M0 fuel e3_1 e3_2  k fuel)) (fun r => k (tupAV (.int .i64) [.bool] r)) := by kernel_rfl
theorem zq0v.le (x0 : (List Int)) (x1 : Int) (k : AV → Option Ω) : Le (zq0v.w x0 x1 (fun r => k (tupAV (.int .i64) [.bool] r))) (zq0v.sl x0 x1 (fun e3_1 e3_2 => (zq0v.M0 BIG e3_1 e3_2  k BIG)) (fun r => k (tupAV (.int .i64) [.bool] r))) := by
 have h1 := funext fun (e3_1 : Int) => funext fun (e3_2 : (List Int)) => zq0v.l0 BIG e3_1 e3_2   k BIG
 rw [h1]
 delta zq0v.w zq0v.sl
 exact (Le.gd fun hg => zq0v.h0 _ _   _ (by decide) BIG (IntKind.wrap .i64 (Int.tdiv (if (0 : Int) > x1 then 0 else x1) 64)) () (cnt_lo hg) (cnt_big (by decide) (cnt_lo3 hg)))
def zq0v.u (x0 : (List Int)) (x1 : Int) : Option (Int × Bool) := zq0v.w x0 x1 some
noncomputable def zq0v.n : En CDEKP := mkE CDEKP_ok (es := [zq1h.n]) (ms := []) (fuel := (zq0v.F BIG)) 241 Tryz.f241 [.ai (.arr 4 (.int .u64)), .ai (.int .i64)] (.int .i64) [.bool] (fun x {Ω} k => zq0v.w x.1 x.2.1 k) (fun x Ω k => leV (zq0v.ev BIG x.1 x.2.1 k) (zq0v.le x.1 x.2.1 k)) (by kernel_rfl) (by kernel_rfl)
end
end Go.Proofs.YtlcomipbinfooaaGreatDoor.K

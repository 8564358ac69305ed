/- What functions of the program come to, and their laws. -/
import Derived.Test.YtlcomipbinfooaaGreatDoorBl
namespace Go.Proofs.YtlcomipbinfooaaGreatDoor.K
open Go Go.RowKit
section
set_option linter.unusedVariables false
set_option linter.unusedSimpArgs false
set_option maxRecDepth 100000
variable {Ω : Type}
def zq2q.s (x0 : Int) (x1 : Int) (x2 : Int) (k : Int → Option Ω) : Option Ω :=
 let v1 : Int := (if ((if (x2 : Int) < x0 then x2 else x0) : Int) > x1 then (if (x2 : Int) < x0 then x2 else x0) else x1)
 k v1
def zq2q.t (x0 : Int) (x1 : Int) (x2 : Int) : Int :=
 let v1 : Int := (if ((if (x2 : Int) < x0 then x2 else x0) : Int) > x1 then (if (x2 : Int) < x0 then x2 else x0) else x1)
 v1
theorem zq2q.v (x0 : Int) (x1 : Int) (x2 : Int) (k : Int → Option Ω) : zq2q.s x0 x1 x2 k = k (zq2q.t x0 x1 x2) := by
 delta zq2q.s zq2q.t; exact rfl
noncomputable def zq2q.n : En CDEKP := mkT CDEKP_ok (es := []) (ms := []) (fuel := ⟨1, fun _ => []⟩) 125 Tryz.f125 [.ai (.int .i64), .ai (.int .i64), .ai (.int .i64)] (.int .i64) [] (fun x {Ω} k => zq2q.s x.1 x.2.1 x.2.2.1 k) (fun x => zq2q.t x.1 x.2.1 x.2.2.1) (fun x Ω k => by kernel_rfl) (fun x => zq2q.v x.1 x.2.1 x.2.2.1 some) (by kernel_rfl) (by kernel_rfl)
def zq38.s (x0 : Int) (k : Bool → Option Ω) : Option Ω :=
 k ((zq2q.t x0 0 1099511627776) == x0)
def zq38.t (x0 : Int) : Bool :=
 ((zq2q.t x0 0 1099511627776) == x0)
theorem zq38.v (x0 : Int) (k : Bool → Option Ω) : zq38.s x0 k = k (zq38.t x0) := by
 delta zq38.s zq38.t; exact rfl
noncomputable def zq38.n : En CDEKP := mkT CDEKP_ok (es := [zq2q.n]) (ms := []) (fuel := ⟨1, fun _ => []⟩) 50 Tryz.f50 [.ai (.int .i64)] .bool [] (fun x {Ω} k => zq38.s x.1 k) (fun x => zq38.t x.1) (fun x Ω k => by kernel_rfl) (fun x => zq38.v x.1 some) (by kernel_rfl) (by kernel_rfl)

def zq1j.s (x0 : Int) (k : Bool → Option Ω) : Option Ω :=
 bif (decide (x0 ≥ (-2147483648))) then
 k (decide (x0 ≤ 2147483647))
 else
 k false
def zq1j.t (x0 : Int) : Bool :=
 bif (decide (x0 ≥ (-2147483648))) then
 (decide (x0 ≤ 2147483647))
 else
 false
theorem zq1j.v (x0 : Int) (k : Bool → Option Ω) : zq1j.s x0 k = k (zq1j.t x0) := by
 delta zq1j.s zq1j.t; exact (cond_tot rfl rfl)
noncomputable def zq1j.n : En CDEKP := mkT CDEKP_ok (es := []) (ms := []) (fuel := ⟨1, fun _ => []⟩) 96 Tryz.f96 [.ai (.int .i64)] .bool [] (fun x {Ω} k => zq1j.s x.1 k) (fun x => zq1j.t x.1) (fun x Ω k => by kernel_rfl) (fun x => zq1j.v x.1 some) (by kernel_rfl) (by kernel_rfl)
def zq52.t (x0 : Int) : Bool :=
 bif (decide (x0 ≥ (-2147483648))) then
 (decide (x0 ≤ 2147483647))
 else
 false
noncomputable def zq3b.n : En CDEKP := En.of (g := 207) (e := fun {_} => zq3b.e) (zq3b.e_ok.mono le_CP_CDEKP)
def zq37.s (x0 : Int) (k : ByteArray × Int → Option Ω) : Option Ω :=
 bif (!(zq1j.t x0)) then
 k ((bs []), 8)
 else
 (zq3b.u x0).bind fun y1 =>
 k (y1, 0)
def zq37.u (x0 : Int) : Option (ByteArray × Int) := zq37.s x0 some
noncomputable def zq37.n : En CDEKP := mkE CDEKP_ok (es := [zq1j.n, zq3b.n]) (ms := []) (fuel := ⟨1, fun _ => []⟩) 147 Tryz.f147 [.ai (.int .i64)] .str [(.int .i64)] (fun x {Ω} k => zq37.s x.1 k) (fun x Ω k => Le.of (by kernel_rfl)) (by kernel_rfl) (by kernel_rfl)
def zq4z.t  : (List T_s335) :=
 [((bs [110, 111, 112]), ((bs [45, 45, 45]), (0, ()))), ((bs [104, 97, 108, 116]), ((bs [45, 45, 45]), (5, ()))), ((bs [109, 111, 118]), ((bs [114, 114, 45]), (0, ()))), ((bs [115, 101, 116]), ((bs [114, 105, 106]), (0, ()))), ((bs [97, 100, 100]), ((bs [114, 114, 114]), (0, ()))), ((bs [115, 117, 98]), ((bs [114, 114, 114]), (0, ()))), ((bs [109, 117, 108]), ((bs [114, 114, 114]), (0, ()))), ((bs [100, 105, 118]), ((bs [114, 114, 114]), (0, ()))), ((bs [114, 101, 109]), ((bs [114, 114, 114]), (0, ()))), ((bs [97, 110, 100]), ((bs [114, 114, 114]), (0, ()))), ((bs [111, 114]), ((bs [114, 114, 114]), (0, ()))), ((bs [120, 111, 114]), ((bs [114, 114, 114]), (0, ()))), ((bs [115, 104, 108]), ((bs [114, 114, 114]), (0, ()))), ((bs [115, 104, 114]), ((bs [114, 114, 114]), (0, ()))), ((bs [110, 111, 116]), ((bs [114, 114, 45]), (0, ()))), ((bs [110, 101, 103]), ((bs [114, 114, 45]), (0, ()))), ((bs [108, 116]), ((bs [114, 114, 114]), (0, ()))), ((bs [101, 113]), ((bs [114, 114, 114]), (0, ()))), ((bs [106, 109, 112]), ((bs [116, 45, 45]), (1, ()))), ((bs [106, 122]), ((bs [114, 116, 45]), (1, ()))), ((bs [106, 110, 122]), ((bs [114, 116, 45]), (1, ()))), ((bs [106, 98, 97, 100]), ((bs [116, 45, 45]), (1, ()))), ((bs [99, 97, 108, 108]), ((bs [116, 45, 45]), (1, ()))), ((bs [114, 101, 116]), ((bs [45, 45, 45]), (1, ()))), ((bs [108, 111, 97, 100]), ((bs [114, 114, 45]), (0, ()))), ((bs [115, 116, 111, 114, 101]), ((bs [114, 114, 45]), (0, ()))), ((bs [102, 97, 105, 108]), ((bs [115, 45, 45]), (5, ()))), ((bs [101, 109, 105, 116]), ((bs [114, 45, 45]), (4, ()))), ((bs [110, 111, 119]), ((bs [114, 45, 45]), (4, ()))), ((bs [109, 101]), ((bs [114, 45, 45]), (4, ()))), ((bs [115, 112, 97, 119, 110]), ((bs [114, 112, 114]), (4, ()))), ((bs [106, 111, 105, 110]), ((bs [114, 45, 45]), (2, ()))), ((bs [115, 108, 101, 101, 112]), ((bs [114, 45, 45]), (2, ()))), ((bs [115, 101, 110, 100]), ((bs [99, 114, 45]), (2, ()))), ((bs [114, 101, 99, 118]), ((bs [99, 114, 45]), (2, ()))), ((bs [112, 111, 105, 115, 111, 110]), ((bs [99, 114, 45]), (4, ()))), ((bs [101, 110, 114, 111, 108]), ((bs [98, 45, 45]), (4, ()))), ((bs [114, 101, 115, 105, 103, 110]), ((bs [98, 45, 45]), (4, ()))), ((bs [115, 121, 110, 99]), ((bs [98, 45, 45]), (2, ()))), ((bs [102, 97, 108, 108]), ((bs [107, 45, 45]), (2, ()))), ((bs [102, 108, 117, 115, 104]), ((bs [114, 107, 45]), (4, ()))), ((bs [97, 108, 116]), ((bs [114, 109, 110]), (2, ()))), ((bs [103, 105, 110]), ((bs [99, 114, 103]), (3, ()))), ((bs [103, 98, 97, 114]), ((bs [98, 45, 103]), (3, ()))), ((bs [103, 116, 105, 109, 101]), ((bs [114, 45, 103]), (3, ()))), ((bs [103, 115, 107, 105, 112]), ((bs [45, 45, 103]), (3, ()))), ((bs [112, 104, 97, 115, 101]), ((bs [114, 98, 45]), (4, ()))), ((bs [115, 105, 122, 101]), ((bs [114, 98, 45]), (4, ())))]
def zq4t.s (x0 : Int) (k : T_s335 → Option Ω) : Option Ω :=
 bif (decide (x0 < 0)) then
 k ((bs []), ((bs []), ((-1), ())))
 else
 bif (decide (x0 ≥ ((List.length zq4z.t : Nat) : Int))) then
 k ((bs []), ((bs []), ((-1), ())))
 else
 bif (idxOK x0 (List.length zq4z.t)) then
 k (List.getD zq4z.t (Int.toNat x0) ((bs []), ((bs []), (0, ()))))
 else
 none
def zq4t.u (x0 : Int) : Option (T_s335) := zq4t.s x0 some
def zq1o.s (x0 : Int) (k : Bool → Option Ω) : Option Ω :=
 bif (decide (x0 ≥ 0)) then
 k (decide (x0 < 48))
 else
 k false
def zq1o.t (x0 : Int) : Bool :=
 bif (decide (x0 ≥ 0)) then
 (decide (x0 < 48))
 else
 false
theorem zq1o.v (x0 : Int) (k : Bool → Option Ω) : zq1o.s x0 k = k (zq1o.t x0) := by
 delta zq1o.s zq1o.t; exact (cond_tot rfl rfl)
noncomputable def zq1o.n : En CDEKP := mkT CDEKP_ok (es := []) (ms := []) (fuel := ⟨1, fun _ => []⟩) 308 Tryz.f308 [.ai (.int .i64)] .bool [] (fun x {Ω} k => zq1o.s x.1 k) (fun x => zq1o.t x.1) (fun x Ω k => by kernel_rfl) (fun x => zq1o.v x.1 some) (by kernel_rfl) (by kernel_rfl)
def zq36.s (x0 : Int) (k : ByteArray → Option Ω) : Option Ω :=
 bif (!(zq1o.t x0)) then
 k (bs [])
 else
 bif (idxOK x0 48) then
 k (List.getD kindsT (Int.toNat x0) ((bs []), ((bs []), (0, ())))).2.1
 else
 none
def zq36.u (x0 : Int) : Option (ByteArray) := zq36.s x0 some
noncomputable def zq36.n : En CDEKP := mkE CDEKP_ok (es := [zq1o.n]) (ms := []) (fuel := ⟨1, fun _ => []⟩) 296 Tryz.f296 [.ai (.int .i64)] .str [] (fun x {Ω} k => zq36.s x.1 k) (fun x Ω k => Le.of (by kernel_rfl)) (by kernel_rfl) (by kernel_rfl)
def zq3z.s (x0 : Int) (k : Int → Option Ω) : Option Ω :=
 bif (!(zq1o.t x0)) then
 k (-1)
 else
 bif (idxOK x0 48) then
 k (List.getD kindsT (Int.toNat x0) ((bs []), ((bs []), (0, ())))).2.2.1
 else
 none
def zq3z.u (x0 : Int) : Option (Int) := zq3z.s x0 some
noncomputable def zq3z.n : En CDEKP := mkE CDEKP_ok (es := [zq1o.n]) (ms := []) (fuel := ⟨1, fun _ => []⟩) 299 Tryz.f299 [.ai (.int .i64)] (.int .i64) [] (fun x {Ω} k => zq3z.s x.1 k) (fun x Ω k => Le.of (by kernel_rfl)) (by kernel_rfl) (by kernel_rfl)
def zq44.t (x0 : T_s79) : (List Int) :=
 [(IntKind.wrap .i64 x0.1), (IntKind.wrap .i64 x0.2.1), (IntKind.wrap .i64 x0.2.2.1), (IntKind.wrap .i64 x0.2.2.2.1)]
def zq4g.t (x0 : Int) : Int × Int :=
 bif (x0 == 114) then
 (0, 7)
 else
 bif (x0 == 116) then
 (0, 64)
 else
 bif (x0 == 99) then
 (0, 7)
 else
 bif (x0 == 98) then
 (0, 7)
 else
 bif (x0 == 112) then
 (0, 7)
 else
 bif (x0 == 107) then
 (0, 3)
 else
 bif (x0 == 109) then
 (0, 2)
 else
 bif (x0 == 110) then
 (1, 6)
 else
 bif (x0 == 103) then
 (0, 8)
 else
 bif (x0 == 115) then
 (1, 255)
 else
 (0, 255)
def zq3k.g0 (e6_1 : (List Int)) (e6_2 : T_s79) (e6_3 : T_s335)  (k : Int → Option Ω) : Nat → Int → Option Ω
 | 0, i6 =>
 k 0
 | d6 + 1, i6 =>
 bif (idxOK i6 (e6_3.2.1).size) then
 bif ((bAt e6_3.2.1 (Int.toNat i6)) == 45) then
 bif (idxOK (IntKind.wrap .i64 (i6 + 1)) (List.length e6_1)) then
 bif ((List.getD e6_1 (Int.toNat (IntKind.wrap .i64 (i6 + 1))) 0) != 0) then
 k 3
 else
 zq3k.g0 e6_1 e6_2 e6_3  k d6 (i6 + 1)
 else
 none
 else
 bif (idxOK i6 (e6_3.2.1).size) then
 let v2 : Int × Int := (zq4g.t ((bAt e6_3.2.1 (Int.toNat i6))))
 bif (idxOK (IntKind.wrap .i64 (i6 + 1)) (List.length e6_1)) then
 bif (decide ((List.getD e6_1 (Int.toNat (IntKind.wrap .i64 (i6 + 1))) 0) < v2.1)) then
 k 8
 else
 bif (idxOK (IntKind.wrap .i64 (i6 + 1)) (List.length e6_1)) then
 bif (decide ((List.getD e6_1 (Int.toNat (IntKind.wrap .i64 (i6 + 1))) 0) > v2.2)) then
 k 8
 else
 zq3k.g0 e6_1 e6_2 e6_3  k d6 (i6 + 1)
 else
 none
 else
 none
 else
 none
 else
 none
def zq3k.w (x0 : T_s79) (k : Int → Option Ω) : Option Ω :=
 bif (idxOK 0 (List.length (zq44.t x0))) then
 (zq4t.u ((List.getD (zq44.t x0) 0 0))).bind fun y1 =>
 bif (decide (y1.2.2.1 < 0)) then
 k 18
 else
 zq3k.g0 (zq44.t x0) x0 y1  k ((Int.toNat ((3 : Int) - 0))) 0
 else
 none
def zq3k.u (x0 : T_s79) : Option (Int) := zq3k.w x0 some
def zq35.g0 (e3_1 : T_s79) (e3_2 : T_s335)  (k : Int × Bool → Option Ω) : Nat → Int → Option Ω
 | 0, i3 =>
 k (0, false)
 | d3 + 1, i3 =>
 bif (idxOK i3 (e3_2.2.1).size) then
 bif ((bAt e3_2.2.1 (Int.toNat i3)) == 116) then
 bif (idxOK (IntKind.wrap .i64 (i3 + 1)) (List.length (zq44.t e3_1))) then
 k ((List.getD (zq44.t e3_1) (Int.toNat (IntKind.wrap .i64 (i3 + 1))) 0), true)
 else
 none
 else
 zq35.g0 e3_1 e3_2  k d3 (i3 + 1)
 else
 none
def zq35.w (x0 : T_s79) (k : Int × Bool → Option Ω) : Option Ω :=
 (zq4t.u (IntKind.wrap .i64 x0.1)).bind fun y1 =>
 bif (decide (((y1.2.1).size : Int) ≤ 4611686018427387904)) then zq35.g0 x0 y1  k ((Int.toNat (((y1.2.1).size : Int) - 0))) 0 else none
def zq35.u (x0 : T_s79) : Option (Int × Bool) := zq35.w x0 some
def zq1v.s (x0 : T_s79) (k : (List Int) → Option Ω) : Option Ω :=
 k (List.set (List.set (List.set (List.replicate 3 0) 0 x0.2.1) 1 x0.2.2.1) 2 x0.2.2.2.1)
def zq1v.t (x0 : T_s79) : (List Int) :=
 (List.set (List.set (List.set (List.replicate 3 0) 0 x0.2.1) 1 x0.2.2.1) 2 x0.2.2.2.1)
theorem zq1v.v (x0 : T_s79) (k : (List Int) → Option Ω) : zq1v.s x0 k = k (zq1v.t x0) := by
 delta zq1v.s zq1v.t; exact rfl
noncomputable def zq1v.n : En CDEKP := mkT CDEKP_ok (es := []) (ms := []) (fuel := ⟨1, fun _ => []⟩) 297 Tryz.f297 [.ai E_s79] (.arr 3 (.int .u8)) [] (fun x {Ω} k => zq1v.s x.1 k) (fun x => zq1v.t x.1) (fun x Ω k => by kernel_rfl) (fun x => zq1v.v x.1 some) (by kernel_rfl) (by kernel_rfl)
def zq1s.s (x0 : Int) (x1 : Int) (k : Int → Option Ω) : Option Ω :=
 bif (x0 == 45) then
 bif (x1 != 0) then
 k 3
 else
 bif (decide ((IntKind.wrap .i64 x1) < 0)) then
 k 8
 else
 bif (decide ((IntKind.wrap .i64 x1) > 0)) then
 k 8
 else
 k 0
 else
 bif (x0 == 103) then
 bif (x1 == 8) then
 k 0
 else
 bif (decide ((IntKind.wrap .i64 x1) < 0)) then
 k 8
 else
 bif (decide ((IntKind.wrap .i64 x1) > 7)) then
 k 8
 else
 k 0
 else
 bif (x0 == 114) then
 bif (decide ((IntKind.wrap .i64 x1) < 0)) then
 k 8
 else
 bif (decide ((IntKind.wrap .i64 x1) > 7)) then
 k 8
 else
 k 0
 else
 bif (x0 == 115) then
 bif (decide ((IntKind.wrap .i64 x1) < 1)) then
 k 8
 else
 bif (decide ((IntKind.wrap .i64 x1) > 255)) then
 k 8
 else
 k 0
 else
 bif (x0 == 105) then
 bif (decide ((IntKind.wrap .i64 x1) < 0)) then
 k 8
 else
 bif (decide ((IntKind.wrap .i64 x1) > 255)) then
 k 8
 else
 k 0
 else
 bif (x0 == 106) then
 bif (decide ((IntKind.wrap .i64 x1) < 0)) then
 k 8
 else
 bif (decide ((IntKind.wrap .i64 x1) > 255)) then
 k 8
 else
 k 0
 else
 bif (x0 == 116) then
 bif (decide ((IntKind.wrap .i64 x1) < 0)) then
 k 8
 else
 bif (decide ((IntKind.wrap .i64 x1) > 64)) then
 k 8
 else
 k 0
 else
 bif (x0 == 99) then
 bif (decide ((IntKind.wrap .i64 x1) < 0)) then
 k 8
 else
 bif (decide ((IntKind.wrap .i64 x1) > 7)) then
 k 8
 else
 k 0
 else
 bif (x0 == 98) then
 bif (decide ((IntKind.wrap .i64 x1) < 0)) then
 k 8
 else
 bif (decide ((IntKind.wrap .i64 x1) > 7)) then
 k 8
 else
 k 0
 else
 bif (x0 == 107) then
 bif (decide ((IntKind.wrap .i64 x1) < 0)) then
 k 8
 else
 bif (decide ((IntKind.wrap .i64 x1) > 3)) then
 k 8
 else
 k 0
 else
 bif (x0 == 112) then
 bif (decide ((IntKind.wrap .i64 x1) < 0)) then
 k 8
 else
 bif (decide ((IntKind.wrap .i64 x1) > 7)) then
 k 8
 else
 k 0
 else
 bif (x0 == 109) then
 bif (decide ((IntKind.wrap .i64 x1) < 0)) then
 k 8
 else
 bif (decide ((IntKind.wrap .i64 x1) > 2)) then
 k 8
 else
 k 0
 else
 bif (x0 == 110) then
 bif (decide ((IntKind.wrap .i64 x1) < 1)) then
 k 8
 else
 bif (decide ((IntKind.wrap .i64 x1) > 6)) then
 k 8
 else
 k 0
 else
 bif (decide ((IntKind.wrap .i64 x1) < 0)) then
 k 8
 else
 bif (decide ((IntKind.wrap .i64 x1) > 0)) then
 k 8
 else
 k 0
def zq1s.t (x0 : Int) (x1 : Int) : Int :=
 bif (x0 == 45) then
 bif (x1 != 0) then
 3
 else
 bif (decide ((IntKind.wrap .i64 x1) < 0)) then
 8
 else
 bif (decide ((IntKind.wrap .i64 x1) > 0)) then
 8
 else
 0
 else
 bif (x0 == 103) then
 bif (x1 == 8) then
 0
 else
 bif (decide ((IntKind.wrap .i64 x1) < 0)) then
 8
 else
 bif (decide ((IntKind.wrap .i64 x1) > 7)) then
 8
 else
 0
 else
 bif (x0 == 114) then
 bif (decide ((IntKind.wrap .i64 x1) < 0)) then
 8
 else
 bif (decide ((IntKind.wrap .i64 x1) > 7)) then
 8
 else
 0
 else
 bif (x0 == 115) then
 bif (decide ((IntKind.wrap .i64 x1) < 1)) then
 8
 else
 bif (decide ((IntKind.wrap .i64 x1) > 255)) then
 8
 else
 0
 else
 bif (x0 == 105) then
 bif (decide ((IntKind.wrap .i64 x1) < 0)) then
 8
 else
 bif (decide ((IntKind.wrap .i64 x1) > 255)) then
 8
 else
 0
 else
 bif (x0 == 106) then
 bif (decide ((IntKind.wrap .i64 x1) < 0)) then
 8
 else
 bif (decide ((IntKind.wrap .i64 x1) > 255)) then
 8
 else
 0
 else
 bif (x0 == 116) then
 bif (decide ((IntKind.wrap .i64 x1) < 0)) then
 8
 else
 bif (decide ((IntKind.wrap .i64 x1) > 64)) then
 8
 else
 0
 else
 bif (x0 == 99) then
 bif (decide ((IntKind.wrap .i64 x1) < 0)) then
 8
 else
 bif (decide ((IntKind.wrap .i64 x1) > 7)) then
 8
 else
 0
 else
 bif (x0 == 98) then
 bif (decide ((IntKind.wrap .i64 x1) < 0)) then
 8
 else
 bif (decide ((IntKind.wrap .i64 x1) > 7)) then
 8
 else
 0
 else
 bif (x0 == 107) then
 bif (decide ((IntKind.wrap .i64 x1) < 0)) then
 8
 else
 bif (decide ((IntKind.wrap .i64 x1) > 3)) then
 8
 else
 0
 else
 bif (x0 == 112) then
 bif (decide ((IntKind.wrap .i64 x1) < 0)) then
 8
 else
 bif (decide ((IntKind.wrap .i64 x1) > 7)) then
 8
 else
 0
 else
 bif (x0 == 109) then
 bif (decide ((IntKind.wrap .i64 x1) < 0)) then
 8
 else
 bif (decide ((IntKind.wrap .i64 x1) > 2)) then
 8
 else
 0
 else
 bif (x0 == 110) then
 bif (decide ((IntKind.wrap .i64 x1) < 1)) then
 8
 else
 bif (decide ((IntKind.wrap .i64 x1) > 6)) then
 8
 else
 0
 else
 bif (decide ((IntKind.wrap .i64 x1) < 0)) then
 8
 else
 bif (decide ((IntKind.wrap .i64 x1) > 0)) then
 8
 else
 0
theorem zq1s.v (x0 : Int) (x1 : Int) (k : Int → Option Ω) : zq1s.s x0 x1 k = k (zq1s.t x0 x1) := by
 delta zq1s.s zq1s.t; exact (cond_tot (cond_tot rfl (cond_tot rfl (cond_tot rfl rfl))) (cond_tot (cond_tot rfl (cond_tot rfl (cond_tot rfl rfl))) (cond_tot (cond_tot rfl (cond_tot rfl rfl)) (cond_tot (cond_tot rfl (cond_tot rfl rfl)) (cond_tot (cond_tot rfl (cond_tot rfl rfl)) (cond_tot (cond_tot rfl (cond_tot rfl rfl)) (cond_tot (cond_tot rfl (cond_tot rfl rfl)) (cond_tot (cond_tot rfl (cond_tot rfl rfl)) (cond_tot (cond_tot rfl (cond_tot rfl rfl)) (cond_tot (cond_tot rfl (cond_tot rfl rfl)) (cond_tot (cond_tot rfl (cond_tot rfl rfl)) (cond_tot (cond_tot rfl (cond_tot rfl rfl)) (cond_tot (cond_tot rfl (cond_tot rfl rfl)) (cond_tot rfl (cond_tot rfl rfl)))))))))))))))
noncomputable def zq1s.n : En CDEKP := mkT CDEKP_ok (es := []) (ms := []) (fuel := ⟨1, fun _ => []⟩) 298 Tryz.f298 [.ai (.int .u8), .ai (.int .u8)] (.int .i64) [] (fun x {Ω} k => zq1s.s x.1 x.2.1 k) (fun x => zq1s.t x.1 x.2.1) (fun x Ω k => by kernel_rfl) (fun x => zq1s.v x.1 x.2.1 some) (by kernel_rfl) (by kernel_rfl)
def zq10.F (fuel : Nat) : Fuel := ⟨fuel, fun r => bif r == 5 then mL 0 28 268386295 else []⟩
noncomputable def zq10.V (fuel c : Nat) (env : List AV) (L : Heap) (k : Kont Ω) : Option Ω := evCode CDEKP (spE (C := CDEKP) [zq36.n, zq1v.n, zq1s.n] []) (zq10.F fuel) (pCo c Tryz.f281) env L k
def zq10.E0 (e5_1 : ByteArray) (e5_2 : (List Int)) (e5_3 : T_s79) (s5 : Int) : List AV := (dZ 3 ((.v .str (e5_1)) :: dZ 10 ((.v (.arr 3 (.int .u8)) (e5_2)) :: (.v (.int .i64) (s5)) :: dZ 12 ([]))))
def zq10.H0 (e5_1 : ByteArray) (e5_2 : (List Int)) (e5_3 : T_s79) (s5 : Int) : Heap := [(.box E_s79 e5_3 false)]
noncomputable def zq10.M0 (fuel : Nat) (e5_1 : ByteArray) (e5_2 : (List Int)) (e5_3 : T_s79)  (k : AV → Option Ω) (m : Nat) (s : Int) : Option Ω := loopK (zq10.V fuel 151) (mB 28 268386295) [] 1 (blockK 0 (sqK (zq10.V fuel 31) (finK CDEKP Tryz.f281 k))) m ((zq10.E0 e5_1 e5_2 e5_3) s) ((zq10.H0 e5_1 e5_2 e5_3) s)
def zq10.b0 (e5_1 : ByteArray) (e5_2 : (List Int)) (e5_3 : T_s79)   (k : Int → Option Ω) (r5 : Int → Option Ω) (s5 : Int) : Option Ω :=
 bif (decide (s5 < 3)) then
 bif (idxOK s5 3) then
 bif (idxOK s5 (e5_1).size) then
 bif ((zq1s.t ((bAt e5_1 (Int.toNat s5))) ((List.getD e5_2 (Int.toNat s5) 0))) != 0) then
 k (zq1s.t ((bAt e5_1 (Int.toNat s5))) ((List.getD e5_2 (Int.toNat s5) 0)))
 else
 r5 ((IntKind.wrap .i64 (s5 + 1)))
 else
 none
 else
 none
 else
 k 0
theorem zq10.l0 (fuel : Nat) (e5_1 : ByteArray) (e5_2 : (List Int)) (e5_3 : T_s79)  (k : AV → Option Ω) : ∀ m, (zq10.M0 fuel e5_1 e5_2 e5_3  k m) = iter (zq10.b0 e5_1 e5_2 e5_3  (fun r => k (tupAV (.int .i64) [] r))) m :=
 loopK_iter (envOf := (zq10.E0 e5_1 e5_2 e5_3)) (LOf := (zq10.H0 e5_1 e5_2 e5_3)) (B := zq10.b0 e5_1 e5_2 e5_3  (fun r => k (tupAV (.int .i64) [] r))) (fun R s => by kernel_rfl)
def zq10.sl (x0 : T_s79) (lp0 : ByteArray → (List Int) → T_s79 → Int → Option Ω) (k : Int → Option Ω) : Option Ω :=
 (zq36.u (IntKind.wrap .i64 x0.1)).bind fun y1 =>
 bif ((y1).data.toList == ((bs [])).data.toList) then
 k 18
 else
 lp0 y1 (zq1v.t x0) x0 (0)
def zq10.g0 (e5_1 : ByteArray) (e5_2 : (List Int)) (e5_3 : T_s79)  (k : Int → Option Ω) : Nat → Int → Option Ω
 | 0, i5 =>
 k 0
 | d5 + 1, i5 =>
 bif (idxOK i5 3) then
 bif (idxOK i5 (e5_1).size) then
 bif ((zq1s.t ((bAt e5_1 (Int.toNat i5))) ((List.getD e5_2 (Int.toNat i5) 0))) != 0) then
 k (zq1s.t ((bAt e5_1 (Int.toNat i5))) ((List.getD e5_2 (Int.toNat i5) 0)))
 else
 zq10.g0 e5_1 e5_2 e5_3  k d5 (i5 + 1)
 else
 none
 else
 none
theorem zq10.h0 (e5_1 : ByteArray) (e5_2 : (List Int)) (e5_3 : T_s79)   (k : Int → Option Ω) (hN : (3 : Int) ≤ 9223372036854775807) : ∀ (m : Nat) (i : Int) (a : Unit), -9223372036854775808 ≤ i → Int.toNat ((3 : Int) - i) < m → Le (zq10.g0 e5_1 e5_2 e5_3  k (Int.toNat ((3 : Int) - i)) i) (iter (zq10.b0 e5_1 e5_2 e5_3  k) m (i)) :=
 iter_count (3 : Int) (fun i5 => (decide (i5 < 3))) (fun i => rfl) (fun (i5 : Int) (a5 : Unit) => (i5)) (fun xs i5 a5 => zq10.g0 e5_1 e5_2 e5_3  k xs i5) (zq10.b0 e5_1 e5_2 e5_3  k)
 (fun i5 a5 r h0 => (Le.fls h0 (Le.refl _)))
 (fun i5 d5 a5 r h0 hw ih => (Le.tru h0 (Le.cond (Le.cond (Le.cond (Le.refl _) (ih _ hw ())) Le.nil) Le.nil)))
 hN
def zq10.w (x0 : T_s79) (k : Int → Option Ω) : Option Ω :=
 (zq36.u (IntKind.wrap .i64 x0.1)).bind fun y1 =>
 bif ((y1).data.toList == ((bs [])).data.toList) then
 k 18
 else
 zq10.g0 y1 (zq1v.t x0) x0  k ((Int.toNat ((3 : Int) - 0))) 0
theorem zq10.ev (fuel : Nat) (x0 : T_s79) (k : AV → Option Ω) : evFn CDEKP (spE (C := CDEKP) [zq36.n, zq1v.n, zq1s.n] []) (zq10.F fuel) Tryz.f281 (Tryz.f281.body.getD .skip) [(.v E_s79 (x0))] k = zq10.sl x0 (fun e5_1 e5_2 e5_3 => (zq10.M0 fuel e5_1 e5_2 e5_3  k fuel)) (fun r => k (tupAV (.int .i64) [] r)) := by kernel_rfl
theorem zq10.le (x0 : T_s79) (k : AV → Option Ω) : Le (zq10.w x0 (fun r => k (tupAV (.int .i64) [] r))) (zq10.sl x0 (fun e5_1 e5_2 e5_3 => (zq10.M0 BIG e5_1 e5_2 e5_3  k BIG)) (fun r => k (tupAV (.int .i64) [] r))) := by
 have h1 := funext fun (e5_1 : ByteArray) => funext fun (e5_2 : (List Int)) => funext fun (e5_3 : T_s79) => zq10.l0 BIG e5_1 e5_2 e5_3   k BIG
 rw [h1]
 delta zq10.w zq10.sl
 exact (Le.bnd fun y1 => (Le.cond (Le.refl _) (zq10.h0 _ _ _   _ (by decide) BIG 0 () (by decide) (by decide))))
def zq10.u (x0 : T_s79) : Option (Int) := zq10.w x0 some
noncomputable def zq10.n : En CDEKP := mkE CDEKP_ok (es := [zq36.n, zq1v.n, zq1s.n]) (ms := []) (fuel := (zq10.F BIG)) 281 Tryz.f281 [.ai E_s79] (.int .i64) [] (fun x {Ω} k => zq10.w x.1 k) (fun x Ω k => leV (zq10.ev BIG x.1 k) (zq10.le x.1 k)) (by kernel_rfl) (by kernel_rfl)
noncomputable def zq1l.n : En CDEKP := En.of (g := 312) (e := fun {_} => zq1l.e) (zq1l.e_ok.mono le_C_CDEKP)
def zq21.s (x0 : ByteArray) (x1 : Int) (k : Int → Option Ω) : Option Ω :=
 k (zq1l.t x0 x1)
def zq21.t (x0 : ByteArray) (x1 : Int) : Int :=
 (zq1l.t x0 x1)
theorem zq21.v (x0 : ByteArray) (x1 : Int) (k : Int → Option Ω) : zq21.s x0 x1 k = k (zq21.t x0 x1) := by
 delta zq21.s zq21.t; exact rfl
noncomputable def zq21.n : En CDEKP := mkT CDEKP_ok (es := [zq1l.n]) (ms := []) (fuel := ⟨1, fun _ => []⟩) 310 Tryz.f310 [.ai .str, .ai (.int .u8)] (.int .i64) [] (fun x {Ω} k => zq21.s x.1 x.2.1 k) (fun x => zq21.t x.1 x.2.1) (fun x Ω k => by kernel_rfl) (fun x => zq21.v x.1 x.2.1 some) (by kernel_rfl) (by kernel_rfl)
def zq43.s (x0 : T_s79) (k : Int × Bool → Option Ω) : Option Ω :=
 (zq36.u (IntKind.wrap .i64 x0.1)).bind fun y1 =>
 bif (decide ((zq21.t y1 116) < 0)) then
 k (0, false)
 else
 bif (idxOK (zq21.t y1 116) 3) then
 let v2 : Int := (IntKind.wrap .i64 (List.getD (zq1v.t x0) (Int.toNat (zq21.t y1 116)) 0))
 k (v2, true)
 else
 none
def zq43.u (x0 : T_s79) : Option (Int × Bool) := zq43.s x0 some
noncomputable def zq43.n : En CDEKP := mkE CDEKP_ok (es := [zq36.n, zq1v.n, zq21.n]) (ms := []) (fuel := ⟨1, fun _ => []⟩) 302 Tryz.f302 [.ai E_s79] (.int .i64) [.bool] (fun x {Ω} k => zq43.s x.1 k) (fun x Ω k => Le.of (by kernel_rfl)) (by kernel_rfl) (by kernel_rfl)
def zq2s.s (x0 : T_s79) (k : Bool → Option Ω) : Option Ω :=
 (zq4t.u (IntKind.wrap .i64 x0.1)).bind fun y1 =>
 k (y1.2.2.1 == 3)
def zq2s.u (x0 : T_s79) : Option (Bool) := zq2s.s x0 some
def zq4s.t (x0 : T_s79) : Bool :=
 (x0.1 == 41)
def zq3j.g0 (e2_1 : (List T_s79)) (e2_2 : Int)  (k : Bool → Option Ω) : Nat → Int → Option Ω
 | 0, i2 =>
 k false
 | d2 + 1, i2 =>
 bif (idxOK i2 (List.length e2_1)) then
 bif (zq4s.t ((List.getD e2_1 (Int.toNat i2) (0, (0, (0, (0, ()))))))) then
 bif (idxOK i2 (List.length e2_1)) then
 let v1 : Int := (IntKind.wrap .i64 (i2 + (IntKind.wrap .i64 (List.getD e2_1 (Int.toNat i2) (0, (0, (0, (0, ()))))).2.2.2.1)))
 bif (decide (e2_2 ≤ v1)) then
 k true
 else
 zq3j.g0 e2_1 e2_2  k d2 (i2 + 1)
 else
 none
 else
 zq3j.g0 e2_1 e2_2  k d2 (i2 + 1)
 else
 none
def zq3j.w (x0 : (List T_s79)) (x1 : Int) (k : Bool → Option Ω) : Option Ω :=
 bif (decide (x1 ≤ 4611686018427387904)) then zq3j.g0 x0 x1  k ((Int.toNat (x1 - 0))) 0 else none
def zq3j.u (x0 : (List T_s79)) (x1 : Int) : Option (Bool) := zq3j.w x0 x1 some
def zq3v.g0 (e9_1 : (List T_s79)) (e9_2 : Int) (e9_3 : T_s79)  (k : Int → Option Ω) : Nat → Int → Option Ω
 | 0, i9 =>
 (zq35.u e9_3).bind fun y5 =>
 bif y5.2 then
 bif (decide (y5.1 > ((List.length e9_1 : Nat) : Int))) then
 k 8
 else
 bif y5.2 then
 bif (decide (y5.1 < ((List.length e9_1 : Nat) : Int))) then
 bif (idxOK y5.1 (List.length e9_1)) then
 (zq2s.u ((List.getD e9_1 (Int.toNat y5.1) (0, (0, (0, (0, ()))))))).bind fun y6 =>
 bif y6 then
 k 3
 else
 k 0
 else
 none
 else
 k 0
 else
 k 0
 else
 bif y5.2 then
 bif (decide (y5.1 < ((List.length e9_1 : Nat) : Int))) then
 bif (idxOK y5.1 (List.length e9_1)) then
 (zq2s.u ((List.getD e9_1 (Int.toNat y5.1) (0, (0, (0, (0, ()))))))).bind fun y7 =>
 bif y7 then
 k 3
 else
 k 0
 else
 none
 else
 k 0
 else
 k 0
 | d9 + 1, i9 =>
 bif (decide ((IntKind.wrap .i64 (e9_2 + i9)) ≥ ((List.length e9_1 : Nat) : Int))) then
 k 3
 else
 bif (idxOK (IntKind.wrap .i64 (e9_2 + i9)) (List.length e9_1)) then
 (zq2s.u ((List.getD e9_1 (Int.toNat (IntKind.wrap .i64 (e9_2 + i9))) (0, (0, (0, (0, ()))))))).bind fun y4 =>
 bif (!y4) then
 k 3
 else
 zq3v.g0 e9_1 e9_2 e9_3  k d9 (i9 + 1)
 else
 none
def zq3v.w (x0 : (List T_s79)) (x1 : Int) (k : Int → Option Ω) : Option Ω :=
 bif (idxOK x1 (List.length x0)) then
 (zq3k.u ((List.getD x0 (Int.toNat x1) (0, (0, (0, (0, ()))))))).bind fun y1 =>
 bif (y1 != 0) then
 k y1
 else
 (zq2s.u ((List.getD x0 (Int.toNat x1) (0, (0, (0, (0, ()))))))).bind fun y2 =>
 bif y2 then
 (zq3j.u x0 x1).bind fun y3 =>
 bif (!y3) then
 k 3
 else
 bif (zq4s.t ((List.getD x0 (Int.toNat x1) (0, (0, (0, (0, ()))))))) then
 bif (decide ((IntKind.wrap .i64 ((List.getD x0 (Int.toNat x1) (0, (0, (0, (0, ())))))).2.2.2.1) ≤ 4611686018427387904)) then zq3v.g0 x0 x1 ((List.getD x0 (Int.toNat x1) (0, (0, (0, (0, ()))))))  k ((Int.toNat (((IntKind.wrap .i64 ((List.getD x0 (Int.toNat x1) (0, (0, (0, (0, ())))))).2.2.2.1) + 1) - 1))) 1 else none
 else
 (zq35.u ((List.getD x0 (Int.toNat x1) (0, (0, (0, (0, ()))))))).bind fun y8 =>
 bif y8.2 then
 bif (decide (y8.1 > ((List.length x0 : Nat) : Int))) then
 k 8
 else
 bif y8.2 then
 bif (decide (y8.1 < ((List.length x0 : Nat) : Int))) then
 bif (idxOK y8.1 (List.length x0)) then
 (zq2s.u ((List.getD x0 (Int.toNat y8.1) (0, (0, (0, (0, ()))))))).bind fun y9 =>
 bif y9 then
 k 3
 else
 k 0
 else
 none
 else
 k 0
 else
 k 0
 else
 bif y8.2 then
 bif (decide (y8.1 < ((List.length x0 : Nat) : Int))) then
 bif (idxOK y8.1 (List.length x0)) then
 (zq2s.u ((List.getD x0 (Int.toNat y8.1) (0, (0, (0, (0, ()))))))).bind fun y10 =>
 bif y10 then
 k 3
 else
 k 0
 else
 none
 else
 k 0
 else
 k 0
 else
 bif (zq4s.t ((List.getD x0 (Int.toNat x1) (0, (0, (0, (0, ()))))))) then
 bif (decide ((IntKind.wrap .i64 ((List.getD x0 (Int.toNat x1) (0, (0, (0, (0, ())))))).2.2.2.1) ≤ 4611686018427387904)) then zq3v.g0 x0 x1 ((List.getD x0 (Int.toNat x1) (0, (0, (0, (0, ()))))))  k ((Int.toNat (((IntKind.wrap .i64 ((List.getD x0 (Int.toNat x1) (0, (0, (0, (0, ())))))).2.2.2.1) + 1) - 1))) 1 else none
 else
 (zq35.u ((List.getD x0 (Int.toNat x1) (0, (0, (0, (0, ()))))))).bind fun y15 =>
 bif y15.2 then
 bif (decide (y15.1 > ((List.length x0 : Nat) : Int))) then
 k 8
 else
 bif y15.2 then
 bif (decide (y15.1 < ((List.length x0 : Nat) : Int))) then
 bif (idxOK y15.1 (List.length x0)) then
 (zq2s.u ((List.getD x0 (Int.toNat y15.1) (0, (0, (0, (0, ()))))))).bind fun y16 =>
 bif y16 then
 k 3
 else
 k 0
 else
 none
 else
 k 0
 else
 k 0
 else
 bif y15.2 then
 bif (decide (y15.1 < ((List.length x0 : Nat) : Int))) then
 bif (idxOK y15.1 (List.length x0)) then
 (zq2s.u ((List.getD x0 (Int.toNat y15.1) (0, (0, (0, (0, ()))))))).bind fun y17 =>
 bif y17 then
 k 3
 else
 k 0
 else
 none
 else
 k 0
 else
 k 0
 else
 none
def zq3v.u (x0 : (List T_s79)) (x1 : Int) : Option (Int) := zq3v.w x0 x1 some
def zq2w.g0 (e6_1 : (List T_s79))  (k : Int × Int → Option Ω) : List T_s79 → Int → Option Ω
 | [], i6 =>
 k (0, 0)
 | x6 :: xs6, i6 =>
 (zq3v.u e6_1 i6).bind fun y1 =>
 bif (y1 != 0) then
 k (i6, y1)
 else
 zq2w.g0 e6_1  k xs6 (i6 + 1)
def zq2w.w (x0 : (List T_s79)) (k : Int × Int → Option Ω) : Option Ω :=
 bif (((List.length x0 : Nat) : Int) == 0) then
 k (0, 11)
 else
 bif (decide (((List.length x0 : Nat) : Int) > 64)) then
 k (64, 5)
 else
 bif decide (((List.length x0 : Nat) : Int) ≤ 4611686018427387904) then zq2w.g0 x0  k x0 0 else none
def zq2w.u (x0 : (List T_s79)) : Option (Int × Int) := zq2w.w x0 some
def zq33.s (x0 : T_s79) (k : Bool → Option Ω) : Option Ω :=
 (zq3z.u (IntKind.wrap .i64 x0.1)).bind fun y1 =>
 k (y1 == 3)
def zq33.u (x0 : T_s79) : Option (Bool) := zq33.s x0 some
noncomputable def zq33.n : En CDEKP := mkE CDEKP_ok (es := [zq3z.n]) (ms := []) (fuel := ⟨1, fun _ => []⟩) 282 Tryz.f282 [.ai E_s79] .bool [] (fun x {Ω} k => zq33.s x.1 k) (fun x Ω k => Le.of (by kernel_rfl)) (by kernel_rfl) (by kernel_rfl)
def zq2x.s (x0 : T_s79) (k : Bool → Option Ω) : Option Ω :=
 (zq33.u x0).bind fun y1 =>
 k (!y1)
def zq2x.u (x0 : T_s79) : Option (Bool) := zq2x.s x0 some
noncomputable def zq2x.n : En CDEKP := mkE CDEKP_ok (es := [zq33.n]) (ms := []) (fuel := ⟨1, fun _ => []⟩) 301 Tryz.f301 [.ai E_s79] .bool [] (fun x {Ω} k => zq2x.s x.1 k) (fun x Ω k => Le.of (by kernel_rfl)) (by kernel_rfl) (by kernel_rfl)
def zq00.F (fuel : Nat) : Fuel := ⟨fuel, fun r => bif r == 2 then mL 0 19 523900 else []⟩
noncomputable def zq00.V (fuel c : Nat) (env : List AV) (L : Heap) (k : Kont Ω) : Option Ω := evCode CDEKP (spE (C := CDEKP) [zq2x.n] []) (zq00.F fuel) (pCo c Tryz.f309) env L k
def zq00.E0 (e2_1 : (List T_s79)) (e2_2 : Int) (s2 : Int) : List AV := ((.v (.slice E_s79) (e2_1)) :: (.fn 301 []) :: dZ 5 ((.v (.int .i64) (e2_2)) :: (.v (.int .i64) (s2)) :: dZ 10 ([])))
def zq00.H0 (e2_1 : (List T_s79)) (e2_2 : Int) (s2 : Int) : Heap := []
noncomputable def zq00.M0 (fuel : Nat) (e2_1 : (List T_s79)) (e2_2 : Int)  (k : AV → Option Ω) (m : Nat) (s : Int) : Option Ω := loopK (zq00.V fuel 37) (mB 19 523900) [] 0 (blockK 0 (sqK (zq00.V fuel 7) (finK CDEKP Tryz.f309 k))) m ((zq00.E0 e2_1 e2_2) s) ((zq00.H0 e2_1 e2_2) s)
def zq00.b0 (e2_1 : (List T_s79)) (e2_2 : Int)   (k : Int → Option Ω) (r2 : Int → Option Ω) (s2 : Int) : Option Ω :=
 bif (decide (s2 < e2_2)) then
 bif (idxOK s2 (List.length e2_1)) then
 (zq2x.u ((List.getD e2_1 (Int.toNat s2) (0, (0, (0, (0, ()))))))).bind fun y1 =>
 bif y1 then
 k s2
 else
 r2 ((IntKind.wrap .i64 (s2 + 1)))
 else
 none
 else
 k (-1)
theorem zq00.l0 (fuel : Nat) (e2_1 : (List T_s79)) (e2_2 : Int)  (k : AV → Option Ω) : ∀ m, (zq00.M0 fuel e2_1 e2_2  k m) = iter (zq00.b0 e2_1 e2_2  (fun r => k (tupAV (.int .i64) [] r))) m :=
 loopK_iter (envOf := (zq00.E0 e2_1 e2_2)) (LOf := (zq00.H0 e2_1 e2_2)) (B := zq00.b0 e2_1 e2_2  (fun r => k (tupAV (.int .i64) [] r))) (fun R s => by kernel_rfl)
def zq00.sl (x0 : (List T_s79)) (lp0 : (List T_s79) → Int → Int → Option Ω) (k : Int → Option Ω) : Option Ω :=
 lp0 x0 (((List.length x0 : Nat) : Int)) (0)
def zq00.g0 (e2_1 : (List T_s79))  (k : Int → Option Ω) : List T_s79 → Int → Option Ω
 | [], i2 =>
 k (-1)
 | x2 :: xs2, i2 =>
 (zq2x.u (x2)).bind fun y1 =>
 bif y1 then
 k i2
 else
 zq00.g0 e2_1  k xs2 (i2 + 1)
theorem zq00.h0 (e2_1 : (List T_s79))   (k : Int → Option Ω) (hX : ((List.length e2_1 : Nat) : Int) ≤ 9223372036854775807) : ∀ (m : Nat) (i : Int) (a : Unit), 0 ≤ i → i ≤ ((List.length e2_1 : Nat) : Int) → ((List.length e2_1 : Nat) : Int) < m + i → Le (zq00.g0 e2_1  k (List.drop (Int.toNat i) e2_1) i) (iter (zq00.b0 e2_1 (((List.length e2_1 : Nat) : Int))  k) m (i)) :=
 iter_list e2_1 (0, (0, (0, (0, ())))) (fun (i2 : Int) (a2 : Unit) => (i2)) (fun xs i2 a2 => zq00.g0 e2_1  k xs i2) (zq00.b0 e2_1 (((List.length e2_1 : Nat) : Int))  k)
 (fun i2 a2 r h0 => (Le.fls h0 (Le.refl _)))
 (fun i2 xs2 a2 r h0 h1 hw ih => (Le.tru h0 (Le.tru h1 (Le.bnd fun y1 => (Le.cond (Le.refl _) (ih _ hw ()))))))
 hX
def zq00.w (x0 : (List T_s79)) (k : Int → Option Ω) : Option Ω :=
 bif decide (((List.length x0 : Nat) : Int) ≤ 4611686018427387904) then zq00.g0 x0  k x0 0 else none
theorem zq00.ev (fuel : Nat) (x0 : (List T_s79)) (k : AV → Option Ω) : evFn CDEKP (spE (C := CDEKP) [zq2x.n] []) (zq00.F fuel) Tryz.f309 (Tryz.f309.body.getD .skip) [(.v (.slice E_s79) (x0)), (.fn 301 [])] k = zq00.sl x0 (fun e2_1 e2_2 => (zq00.M0 fuel e2_1 e2_2  k fuel)) (fun r => k (tupAV (.int .i64) [] r)) := by kernel_rfl
theorem zq00.le (x0 : (List T_s79)) (k : AV → Option Ω) : Le (zq00.w x0 (fun r => k (tupAV (.int .i64) [] r))) (zq00.sl x0 (fun e2_1 e2_2 => (zq00.M0 BIG e2_1 e2_2  k BIG)) (fun r => k (tupAV (.int .i64) [] r))) := by
 have h1 := funext fun (e2_1 : (List T_s79)) => funext fun (e2_2 : Int) => zq00.l0 BIG e2_1 e2_2   k BIG
 rw [h1]
 delta zq00.w zq00.sl
 exact (Le.gd fun hg => zq00.h0 _   _ (le_up (of_decide_eq_true hg)) BIG 0 () (by decide) (zero_le_len _) (big_list (of_decide_eq_true hg)))
def zq00.u (x0 : (List T_s79)) : Option (Int) := zq00.w x0 some
noncomputable def zq00.n : En CDEKP := mkE CDEKP_ok (es := [zq2x.n]) (ms := []) (fuel := (zq00.F BIG)) 309 Tryz.f309 [.ai (.slice E_s79), .af0 301] (.int .i64) [] (fun x {Ω} k => zq00.w x.1 k) (fun x Ω k => leV (zq00.ev BIG x.1 k) (zq00.le x.1 k)) (by kernel_rfl) (by kernel_rfl)
def zq16.s (x0 : (List T_s79)) (k : Bool → Option Ω) : Option Ω :=
 (zq00.u x0).bind fun y1 =>
 k (decide (y1 ≥ 0))
def zq16.u (x0 : (List T_s79)) : Option (Bool) := zq16.s x0 some
noncomputable def zq16.n : En CDEKP := mkE CDEKP_ok (es := [zq00.n]) (ms := []) (fuel := ⟨1, fun _ => []⟩) 300 Tryz.f300 [.ai (.slice E_s79), .af0 301] .bool [] (fun x {Ω} k => zq16.s x.1 k) (fun x Ω k => Le.of (by kernel_rfl)) (by kernel_rfl) (by kernel_rfl)
def zq3p.s (x0 : (List T_s79)) (x1 : Int) (k : Bool → Option Ω) : Option Ω :=
 bif (idxOK x1 (List.length x0)) then
 let v1 : Int := (IntKind.wrap .i64 ((IntKind.wrap .i64 (x1 + 1)) + (IntKind.wrap .i64 (List.getD x0 (Int.toNat x1) (0, (0, (0, (0, ()))))).2.2.2.1)))
 bif (decide (v1 ≤ ((List.length x0 : Nat) : Int))) then
 bif (subC (some ((IntKind.wrap .i64 (x1 + 1)))) (some (v1)) (List.length x0)) then
 (zq16.u ((subL (some ((IntKind.wrap .i64 (x1 + 1)))) (some (v1)) x0))).bind fun y2 =>
 k (!y2)
 else
 none
 else
 k false
 else
 none
def zq3p.u (x0 : (List T_s79)) (x1 : Int) : Option (Bool) := zq3p.s x0 x1 some
noncomputable def zq3p.n : En CDEKP := mkE CDEKP_ok (es := [zq16.n]) (ms := []) (fuel := ⟨1, fun _ => []⟩) 283 Tryz.f283 [.ai (.slice E_s79), .ai (.int .i64)] .bool [] (fun x {Ω} k => zq3p.s x.1 x.2.1 k) (fun x Ω k => Le.of (by kernel_rfl)) (by kernel_rfl) (by kernel_rfl)
def zq48.s (x0 : (List T_s79)) (x1 : T_s79) (k : Int → Option Ω) : Option Ω :=
 (zq43.u x1).bind fun y1 =>
 bif (!y1.2) then
 k 0
 else
 bif (y1.1 == ((List.length x0 : Nat) : Int)) then
 k 0
 else
 bif (decide (y1.1 > ((List.length x0 : Nat) : Int))) then
 k 8
 else
 bif (idxOK y1.1 (List.length x0)) then
 (zq33.u ((List.getD x0 (Int.toNat y1.1) (0, (0, (0, (0, ()))))))).bind fun y2 =>
 bif y2 then
 k 3
 else
 k 0
 else
 none
def zq48.u (x0 : (List T_s79)) (x1 : T_s79) : Option (Int) := zq48.s x0 x1 some
noncomputable def zq48.n : En CDEKP := mkE CDEKP_ok (es := [zq33.n, zq43.n]) (ms := []) (fuel := ⟨1, fun _ => []⟩) 284 Tryz.f284 [.ai (.slice E_s79), .ai E_s79] (.int .i64) [] (fun x {Ω} k => zq48.s x.1 x.2.1 k) (fun x Ω k => Le.of (by kernel_rfl)) (by kernel_rfl) (by kernel_rfl)
def zq3q.s (x0 : (List T_s79)) (x1 : Int) (x2 : Int) (k : Int → Option Ω) : Option Ω :=
 bif (idxOK x1 (List.length x0)) then
 (zq10.u ((List.getD x0 (Int.toNat x1) (0, (0, (0, (0, ()))))))).bind fun y1 =>
 bif (y1 != 0) then
 k y1
 else
 (zq33.u ((List.getD x0 (Int.toNat x1) (0, (0, (0, (0, ()))))))).bind fun y2 =>
 bif y2 then
 bif (x2 == 0) then
 k 3
 else
 bif ((List.getD x0 (Int.toNat x1) (0, (0, (0, (0, ()))))).1 == 41) then
 (zq3p.u x0 x1).bind fun y3 =>
 bif (!y3) then
 k 3
 else
 (zq48.u x0 ((List.getD x0 (Int.toNat x1) (0, (0, (0, (0, ()))))))).bind fun y4 =>
 k y4
 else
 (zq48.u x0 ((List.getD x0 (Int.toNat x1) (0, (0, (0, (0, ()))))))).bind fun y5 =>
 k y5
 else
 bif ((List.getD x0 (Int.toNat x1) (0, (0, (0, (0, ()))))).1 == 41) then
 (zq3p.u x0 x1).bind fun y6 =>
 bif (!y6) then
 k 3
 else
 (zq48.u x0 ((List.getD x0 (Int.toNat x1) (0, (0, (0, (0, ()))))))).bind fun y7 =>
 k y7
 else
 (zq48.u x0 ((List.getD x0 (Int.toNat x1) (0, (0, (0, (0, ()))))))).bind fun y8 =>
 k y8
 else
 none
def zq3q.u (x0 : (List T_s79)) (x1 : Int) (x2 : Int) : Option (Int) := zq3q.s x0 x1 x2 some
noncomputable def zq3q.n : En CDEKP := mkE CDEKP_ok (es := [zq10.n, zq33.n, zq3p.n, zq48.n]) (ms := []) (fuel := ⟨1, fun _ => []⟩) 258 Tryz.f258 [.ai (.slice E_s79), .ai (.int .i64), .ai (.int .i64)] (.int .i64) [] (fun x {Ω} k => zq3q.s x.1 x.2.1 x.2.2.1 k) (fun x Ω k => Le.of (by kernel_rfl)) (by kernel_rfl) (by kernel_rfl)
def zq13.F (fuel : Nat) : Fuel := ⟨fuel, fun r => bif r == 7 then mL 0 41 2199022796782 else []⟩
noncomputable def zq13.V (fuel c : Nat) (env : List AV) (L : Heap) (k : Kont Ω) : Option Ω := evCode CDEKP (spE (C := CDEKP) [zq3q.n] []) (zq13.F fuel) (pCo c Tryz.f217) env L k
def zq13.E0 (e7_1 : (List T_s79)) (e7_2 : Int) (s7 : Int × Int) : List AV := ((.v (.slice E_s79) (e7_1)) :: dZ 3 ((.v (.int .i64) (s7.1)) :: dZ 11 ((.v (.slice E_s79) (e7_1)) :: (.v (.int .i64) (e7_2)) :: (.v (.int .i64) (s7.2)) :: dZ 22 ([]))))
def zq13.H0 (e7_1 : (List T_s79)) (e7_2 : Int) (s7 : Int × Int) : Heap := []
noncomputable def zq13.M0 (fuel : Nat) (e7_1 : (List T_s79)) (e7_2 : Int)  (k : AV → Option Ω) (m : Nat) (s : Int × Int) : Option Ω := loopK (zq13.V fuel 151) (mB 41 2199022796782) [] 0 (blockK 1 (sqK (zq13.V fuel 31) (finK CDEKP Tryz.f217 k))) m ((zq13.E0 e7_1 e7_2) s) ((zq13.H0 e7_1 e7_2) s)
def zq13.b0 (e7_1 : (List T_s79)) (e7_2 : Int)   (k : Int × Int → Option Ω) (r7 : Int × Int → Option Ω) (s7 : Int × Int) : Option Ω :=
 bif (decide (s7.2 < e7_2)) then
 bif (idxOK s7.2 (List.length e7_1)) then
 (zq3q.u e7_1 s7.2 s7.1).bind fun y1 =>
 bif (y1 != 0) then
 k (s7.2, y1)
 else
 bif ((List.getD e7_1 (Int.toNat s7.2) (0, (0, (0, (0, ()))))).1 == 41) then
 r7 ((IntKind.wrap .i64 (List.getD e7_1 (Int.toNat s7.2) (0, (0, (0, (0, ()))))).2.2.2.1), (IntKind.wrap .i64 (s7.2 + 1)))
 else
 r7 ((if (0 : Int) > (IntKind.wrap .i64 (s7.1 - 1)) then 0 else (IntKind.wrap .i64 (s7.1 - 1))), (IntKind.wrap .i64 (s7.2 + 1)))
 else
 none
 else
 k (0, 0)
theorem zq13.l0 (fuel : Nat) (e7_1 : (List T_s79)) (e7_2 : Int)  (k : AV → Option Ω) : ∀ m, (zq13.M0 fuel e7_1 e7_2  k m) = iter (zq13.b0 e7_1 e7_2  (fun r => k (tupAV (.int .i64) [(.int .i64)] r))) m :=
 loopK_iter (envOf := (zq13.E0 e7_1 e7_2)) (LOf := (zq13.H0 e7_1 e7_2)) (B := zq13.b0 e7_1 e7_2  (fun r => k (tupAV (.int .i64) [(.int .i64)] r))) (fun R s => by kernel_rfl)
def zq13.sl (x0 : (List T_s79)) (lp0 : (List T_s79) → Int → Int × Int → Option Ω) (k : Int × Int → Option Ω) : Option Ω :=
 bif (((List.length x0 : Nat) : Int) == 0) then
 k (0, 11)
 else
 bif (decide (((List.length x0 : Nat) : Int) > 64)) then
 k (64, 5)
 else
 lp0 x0 (((List.length x0 : Nat) : Int)) (0, 0)
def zq13.g0 (e7_1 : (List T_s79))  (k : Int × Int → Option Ω) : List T_s79 → Int → Int → Option Ω
 | [], a7_0, i7 =>
 k (0, 0)
 | x7 :: xs7, a7_0, i7 =>
 (zq3q.u e7_1 i7 a7_0).bind fun y1 =>
 bif (y1 != 0) then
 k (i7, y1)
 else
 bif (x7.1 == 41) then
 zq13.g0 e7_1  k xs7 (IntKind.wrap .i64 x7.2.2.2.1) (i7 + 1)
 else
 zq13.g0 e7_1  k xs7 ((if (0 : Int) > (IntKind.wrap .i64 (a7_0 - 1)) then 0 else (IntKind.wrap .i64 (a7_0 - 1)))) (i7 + 1)
theorem zq13.h0 (e7_1 : (List T_s79))   (k : Int × Int → Option Ω) (hX : ((List.length e7_1 : Nat) : Int) ≤ 9223372036854775807) : ∀ (m : Nat) (i : Int) (a : Int), 0 ≤ i → i ≤ ((List.length e7_1 : Nat) : Int) → ((List.length e7_1 : Nat) : Int) < m + i → Le (zq13.g0 e7_1  k (List.drop (Int.toNat i) e7_1) a i) (iter (zq13.b0 e7_1 (((List.length e7_1 : Nat) : Int))  k) m (a, i)) :=
 iter_list e7_1 (0, (0, (0, (0, ())))) (fun (i7 : Int) (a7 : Int) => (a7, i7)) (fun xs i7 a7 => zq13.g0 e7_1  k xs a7 i7) (zq13.b0 e7_1 (((List.length e7_1 : Nat) : Int))  k)
 (fun i7 a7 r h0 => (Le.fls h0 (Le.refl _)))
 (fun i7 xs7 a7 r h0 h1 hw ih => (Le.tru h0 (Le.tru h1 (Le.bnd fun y1 => (Le.cond (Le.refl _) (Le.cond (ih _ hw ((IntKind.wrap .i64 (List.getD e7_1 (Int.toNat i7) (0, (0, (0, (0, ()))))).2.2.2.1))) (ih _ hw ((if (0 : Int) > (IntKind.wrap .i64 (a7 - 1)) then 0 else (IntKind.wrap .i64 (a7 - 1)))))))))))
 hX
def zq13.w (x0 : (List T_s79)) (k : Int × Int → Option Ω) : Option Ω :=
 bif (((List.length x0 : Nat) : Int) == 0) then
 k (0, 11)
 else
 bif (decide (((List.length x0 : Nat) : Int) > 64)) then
 k (64, 5)
 else
 bif decide (((List.length x0 : Nat) : Int) ≤ 4611686018427387904) then zq13.g0 x0  k x0 0 0 else none
theorem zq13.ev (fuel : Nat) (x0 : (List T_s79)) (k : AV → Option Ω) : evFn CDEKP (spE (C := CDEKP) [zq3q.n] []) (zq13.F fuel) Tryz.f217 (Tryz.f217.body.getD .skip) [(.v (.slice E_s79) (x0))] k = zq13.sl x0 (fun e7_1 e7_2 => (zq13.M0 fuel e7_1 e7_2  k fuel)) (fun r => k (tupAV (.int .i64) [(.int .i64)] r)) := by kernel_rfl
theorem zq13.le (x0 : (List T_s79)) (k : AV → Option Ω) : Le (zq13.w x0 (fun r => k (tupAV (.int .i64) [(.int .i64)] r))) (zq13.sl x0 (fun e7_1 e7_2 => (zq13.M0 BIG e7_1 e7_2  k BIG)) (fun r => k (tupAV (.int .i64) [(.int .i64)] r))) := by
 have h1 := funext fun (e7_1 : (List T_s79)) => funext fun (e7_2 : Int) => zq13.l0 BIG e7_1 e7_2   k BIG
 rw [h1]
 delta zq13.w zq13.sl
 exact (Le.cond (Le.refl _) (Le.cond (Le.refl _) (Le.gd fun hg => zq13.h0 _   _ (le_up (of_decide_eq_true hg)) BIG 0 (0) (by decide) (zero_le_len _) (big_list (of_decide_eq_true hg)))))
def zq13.u (x0 : (List T_s79)) : Option (Int × Int) := zq13.w x0 some
noncomputable def zq13.n : En CDEKP := mkE CDEKP_ok (es := [zq3q.n]) (ms := []) (fuel := (zq13.F BIG)) 217 Tryz.f217 [.ai (.slice E_s79)] (.int .i64) [(.int .i64)] (fun x {Ω} k => zq13.w x.1 k) (fun x Ω k => leV (zq13.ev BIG x.1 k) (zq13.le x.1 k)) (by kernel_rfl) (by kernel_rfl)
def zq2v.s (x0 : Int) (k : T_s67 × Int → Option Ω) : Option Ω :=
 bif (!(zq1j.t x0)) then
 k ((0, (false, ((List.replicate 8 0), ((List.replicate 16 0), (0, ((List.replicate 8 0), ())))))), 8)
 else
 k ((0, (false, ((List.set (List.replicate 8 0) 0 x0), ((List.replicate 16 0), (0, ((List.replicate 8 0), ())))))), 0)
def zq2v.t (x0 : Int) : T_s67 × Int :=
 bif (!(zq1j.t x0)) then
 ((0, (false, ((List.replicate 8 0), ((List.replicate 16 0), (0, ((List.replicate 8 0), ())))))), 8)
 else
 ((0, (false, ((List.set (List.replicate 8 0) 0 x0), ((List.replicate 16 0), (0, ((List.replicate 8 0), ())))))), 0)
theorem zq2v.v (x0 : Int) (k : T_s67 × Int → Option Ω) : zq2v.s x0 k = k (zq2v.t x0) := by
 delta zq2v.s zq2v.t; exact (cond_tot rfl rfl)
noncomputable def zq2v.n : En CDEKP := mkT CDEKP_ok (es := [zq1j.n]) (ms := []) (fuel := ⟨1, fun _ => []⟩) 97 Tryz.f97 [.ai (.int .i64)] E_s67 [(.int .i64)] (fun x {Ω} k => zq2v.s x.1 k) (fun x => zq2v.t x.1) (fun x Ω k => by kernel_rfl) (fun x => zq2v.v x.1 some) (by kernel_rfl) (by kernel_rfl)
def zq57.t (x0 : Int) : T_s67 × Int :=
 bif (!(zq52.t x0)) then
 ((0, (false, ((List.replicate 8 0), ((List.replicate 16 0), (0, ((List.replicate 8 0), ())))))), 8)
 else
 let v1 : T_s67 := (0, (false, ((List.set (List.replicate 8 0) 0 x0), ((List.replicate 16 0), (0, ((List.replicate 8 0), ()))))))
 (v1, 0)
def zq2b.s (x0 : Int) (k : Bool → Option Ω) : Option Ω :=
 bif (decide (x0 ≥ 0)) then
 k (decide (x0 ≤ 64))
 else
 k false
def zq2b.t (x0 : Int) : Bool :=
 bif (decide (x0 ≥ 0)) then
 (decide (x0 ≤ 64))
 else
 false
theorem zq2b.v (x0 : Int) (k : Bool → Option Ω) : zq2b.s x0 k = k (zq2b.t x0) := by
 delta zq2b.s zq2b.t; exact (cond_tot rfl rfl)
noncomputable def zq2b.n : En CDEKP := mkT CDEKP_ok (es := []) (ms := []) (fuel := ⟨1, fun _ => []⟩) 251 Tryz.f251 [.ai (.int .i64)] .bool [] (fun x {Ω} k => zq2b.s x.1 k) (fun x => zq2b.t x.1) (fun x Ω k => by kernel_rfl) (fun x => zq2b.v x.1 some) (by kernel_rfl) (by kernel_rfl)
def zq1q.s (x0 : Int) (k : Bool → Option Ω) : Option Ω :=
 k (!(zq1j.t x0))
def zq1q.t (x0 : Int) : Bool :=
 (!(zq1j.t x0))
theorem zq1q.v (x0 : Int) (k : Bool → Option Ω) : zq1q.s x0 k = k (zq1q.t x0) := by
 delta zq1q.s zq1q.t; exact rfl
noncomputable def zq1q.n : En CDEKP := mkT CDEKP_ok (es := [zq1j.n]) (ms := []) (fuel := ⟨1, fun _ => []⟩) 280 Tryz.f280 [.ai (.int .i64), .aq 96] .bool [] (fun x {Ω} k => zq1q.s x.1 k) (fun x => zq1q.t x.1) (fun x Ω k => by kernel_rfl) (fun x => zq1q.v x.1 some) (by kernel_rfl) (by kernel_rfl)
def zq03.F (fuel : Nat) : Fuel := ⟨fuel, fun r => bif r == 2 then mL 0 19 523900 else []⟩
noncomputable def zq03.V (fuel c : Nat) (env : List AV) (L : Heap) (k : Kont Ω) : Option Ω := evCode CDEKP (spE (C := CDEKP) [zq1q.n] []) (zq03.F fuel) (pCo c Tryz.f265) env L k
def zq03.E0 (e2_1 : (List Int)) (e2_2 : Int) (s2 : Int) : List AV := ((.v (.slice (.int .i64)) (e2_1)) :: (.fn 280 [(.vp (.raw .func) (Value.func (.func 96) #[] #[]) [])]) :: dZ 5 ((.v (.int .i64) (e2_2)) :: (.v (.int .i64) (s2)) :: dZ 10 ([])))
def zq03.H0 (e2_1 : (List Int)) (e2_2 : Int) (s2 : Int) : Heap := []
noncomputable def zq03.M0 (fuel : Nat) (e2_1 : (List Int)) (e2_2 : Int)  (k : AV → Option Ω) (m : Nat) (s : Int) : Option Ω := loopK (zq03.V fuel 37) (mB 19 523900) [] 0 (blockK 0 (sqK (zq03.V fuel 7) (finK CDEKP Tryz.f265 k))) m ((zq03.E0 e2_1 e2_2) s) ((zq03.H0 e2_1 e2_2) s)
def zq03.b0 (e2_1 : (List Int)) (e2_2 : Int)   (k : Int → Option Ω) (r2 : Int → Option Ω) (s2 : Int) : Option Ω :=
 bif (decide (s2 < e2_2)) then
 bif (idxOK s2 (List.length e2_1)) then
 bif (zq1q.t ((List.getD e2_1 (Int.toNat s2) 0))) then
 k s2
 else
 r2 ((IntKind.wrap .i64 (s2 + 1)))
 else
 none
 else
 k (-1)
theorem zq03.l0 (fuel : Nat) (e2_1 : (List Int)) (e2_2 : Int)  (k : AV → Option Ω) : ∀ m, (zq03.M0 fuel e2_1 e2_2  k m) = iter (zq03.b0 e2_1 e2_2  (fun r => k (tupAV (.int .i64) [] r))) m :=
 loopK_iter (envOf := (zq03.E0 e2_1 e2_2)) (LOf := (zq03.H0 e2_1 e2_2)) (B := zq03.b0 e2_1 e2_2  (fun r => k (tupAV (.int .i64) [] r))) (fun R s => by kernel_rfl)
def zq03.sl (x0 : (List Int)) (lp0 : (List Int) → Int → Int → Option Ω) (k : Int → Option Ω) : Option Ω :=
 lp0 x0 (((List.length x0 : Nat) : Int)) (0)
def zq03.g0 (e2_1 : (List Int))  (k : Int → Option Ω) : List Int → Int → Option Ω
 | [], i2 =>
 k (-1)
 | x2 :: xs2, i2 =>
 bif (zq1q.t (x2)) then
 k i2
 else
 zq03.g0 e2_1  k xs2 (i2 + 1)
theorem zq03.h0 (e2_1 : (List Int))   (k : Int → Option Ω) (hX : ((List.length e2_1 : Nat) : Int) ≤ 9223372036854775807) : ∀ (m : Nat) (i : Int) (a : Unit), 0 ≤ i → i ≤ ((List.length e2_1 : Nat) : Int) → ((List.length e2_1 : Nat) : Int) < m + i → Le (zq03.g0 e2_1  k (List.drop (Int.toNat i) e2_1) i) (iter (zq03.b0 e2_1 (((List.length e2_1 : Nat) : Int))  k) m (i)) :=
 iter_list e2_1 0 (fun (i2 : Int) (a2 : Unit) => (i2)) (fun xs i2 a2 => zq03.g0 e2_1  k xs i2) (zq03.b0 e2_1 (((List.length e2_1 : Nat) : Int))  k)
 (fun i2 a2 r h0 => (Le.fls h0 (Le.refl _)))
 (fun i2 xs2 a2 r h0 h1 hw ih => (Le.tru h0 (Le.tru h1 (Le.cond (Le.refl _) (ih _ hw ())))))
 hX
def zq03.w (x0 : (List Int)) (k : Int → Option Ω) : Option Ω :=
 bif decide (((List.length x0 : Nat) : Int) ≤ 4611686018427387904) then zq03.g0 x0  k x0 0 else none
theorem zq03.ev (fuel : Nat) (x0 : (List Int)) (k : AV → Option Ω) : evFn CDEKP (spE (C := CDEKP) [zq1q.n] []) (zq03.F fuel) Tryz.f265 (Tryz.f265.body.getD .skip) [(.v (.slice (.int .i64)) (x0)), (.fn 280 [(.vp (.raw .func) (Value.func (.func 96) #[] #[]) [])])] k = zq03.sl x0 (fun e2_1 e2_2 => (zq03.M0 fuel e2_1 e2_2  k fuel)) (fun r => k (tupAV (.int .i64) [] r)) := by kernel_rfl
theorem zq03.le (x0 : (List Int)) (k : AV → Option Ω) : Le (zq03.w x0 (fun r => k (tupAV (.int .i64) [] r))) (zq03.sl x0 (fun e2_1 e2_2 => (zq03.M0 BIG e2_1 e2_2  k BIG)) (fun r => k (tupAV (.int .i64) [] r))) := by
 have h1 := funext fun (e2_1 : (List Int)) => funext fun (e2_2 : Int) => zq03.l0 BIG e2_1 e2_2   k BIG
 rw [h1]
 delta zq03.w zq03.sl
 exact (Le.gd fun hg => zq03.h0 _   _ (le_up (of_decide_eq_true hg)) BIG 0 () (by decide) (zero_le_len _) (big_list (of_decide_eq_true hg)))
def zq03.u (x0 : (List Int)) : Option (Int) := zq03.w x0 some
noncomputable def zq03.n : En CDEKP := mkE CDEKP_ok (es := [zq1q.n]) (ms := []) (fuel := (zq03.F BIG)) 265 Tryz.f265 [.ai (.slice (.int .i64)), .afq 280 96] (.int .i64) [] (fun x {Ω} k => zq03.w x.1 k) (fun x Ω k => leV (zq03.ev BIG x.1 k) (zq03.le x.1 k)) (by kernel_rfl) (by kernel_rfl)
def zq1k.s (x0 : (List Int)) (k : Bool → Option Ω) : Option Ω :=
 (zq03.u x0).bind fun y1 =>
 k (decide (y1 ≥ 0))
def zq1k.u (x0 : (List Int)) : Option (Bool) := zq1k.s x0 some
noncomputable def zq1k.n : En CDEKP := mkE CDEKP_ok (es := [zq03.n]) (ms := []) (fuel := ⟨1, fun _ => []⟩) 234 Tryz.f234 [.ai (.slice (.int .i64)), .afq 280 96] .bool [] (fun x {Ω} k => zq1k.s x.1 k) (fun x Ω k => Le.of (by kernel_rfl)) (by kernel_rfl) (by kernel_rfl)
def zq2i.s (x0 : (List Int)) (k : Bool → Option Ω) : Option Ω :=
 (zq1k.u x0).bind fun y1 =>
 k (!y1)
def zq2i.u (x0 : (List Int)) : Option (Bool) := zq2i.s x0 some
noncomputable def zq2i.n : En CDEKP := mkE CDEKP_ok (es := [zq1k.n]) (ms := []) (fuel := ⟨1, fun _ => []⟩) 252 Tryz.f252 [.ai (.slice (.int .i64)), .af0 96] .bool [] (fun x {Ω} k => zq2i.s x.1 k) (fun x Ω k => Le.of (by kernel_rfl)) (by kernel_rfl) (by kernel_rfl)
def zq1p.s (x0 : Int) (k : Bool → Option Ω) : Option Ω :=
 k (!(zq2b.t x0))
def zq1p.t (x0 : Int) : Bool :=
 (!(zq2b.t x0))
theorem zq1p.v (x0 : Int) (k : Bool → Option Ω) : zq1p.s x0 k = k (zq1p.t x0) := by
 delta zq1p.s zq1p.t; exact rfl
noncomputable def zq1p.n : En CDEKP := mkT CDEKP_ok (es := [zq2b.n]) (ms := []) (fuel := ⟨1, fun _ => []⟩) 280 Tryz.f280 [.ai (.int .i64), .aq 251] .bool [] (fun x {Ω} k => zq1p.s x.1 k) (fun x => zq1p.t x.1) (fun x Ω k => by kernel_rfl) (fun x => zq1p.v x.1 some) (by kernel_rfl) (by kernel_rfl)
def zq02.F (fuel : Nat) : Fuel := ⟨fuel, fun r => bif r == 2 then mL 0 19 523900 else []⟩
noncomputable def zq02.V (fuel c : Nat) (env : List AV) (L : Heap) (k : Kont Ω) : Option Ω := evCode CDEKP (spE (C := CDEKP) [zq1p.n] []) (zq02.F fuel) (pCo c Tryz.f265) env L k
def zq02.E0 (e2_1 : (List Int)) (e2_2 : Int) (s2 : Int) : List AV := ((.v (.slice (.int .i64)) (e2_1)) :: (.fn 280 [(.vp (.raw .func) (Value.func (.func 251) #[] #[]) [])]) :: dZ 5 ((.v (.int .i64) (e2_2)) :: (.v (.int .i64) (s2)) :: dZ 10 ([])))
def zq02.H0 (e2_1 : (List Int)) (e2_2 : Int) (s2 : Int) : Heap := []
noncomputable def zq02.M0 (fuel : Nat) (e2_1 : (List Int)) (e2_2 : Int)  (k : AV → Option Ω) (m : Nat) (s : Int) : Option Ω := loopK (zq02.V fuel 37) (mB 19 523900) [] 0 (blockK 0 (sqK (zq02.V fuel 7) (finK CDEKP Tryz.f265 k))) m ((zq02.E0 e2_1 e2_2) s) ((zq02.H0 e2_1 e2_2) s)
def zq02.b0 (e2_1 : (List Int)) (e2_2 : Int)   (k : Int → Option Ω) (r2 : Int → Option Ω) (s2 : Int) : Option Ω :=
 bif (decide (s2 < e2_2)) then
 bif (idxOK s2 (List.length e2_1)) then
 bif (zq1p.t ((List.getD e2_1 (Int.toNat s2) 0))) then
 k s2
 else
 r2 ((IntKind.wrap .i64 (s2 + 1)))
 else
 none
 else
 k (-1)
theorem zq02.l0 (fuel : Nat) (e2_1 : (List Int)) (e2_2 : Int)  (k : AV → Option Ω) : ∀ m, (zq02.M0 fuel e2_1 e2_2  k m) = iter (zq02.b0 e2_1 e2_2  (fun r => k (tupAV (.int .i64) [] r))) m :=
 loopK_iter (envOf := (zq02.E0 e2_1 e2_2)) (LOf := (zq02.H0 e2_1 e2_2)) (B := zq02.b0 e2_1 e2_2  (fun r => k (tupAV (.int .i64) [] r))) (fun R s => by kernel_rfl)
def zq02.sl (x0 : (List Int)) (lp0 : (List Int) → Int → Int → Option Ω) (k : Int → Option Ω) : Option Ω :=
 lp0 x0 (((List.length x0 : Nat) : Int)) (0)
def zq02.g0 (e2_1 : (List Int))  (k : Int → Option Ω) : List Int → Int → Option Ω
 | [], i2 =>
 k (-1)
 | x2 :: xs2, i2 =>
 bif (zq1p.t (x2)) then
 k i2
 else
 zq02.g0 e2_1  k xs2 (i2 + 1)
theorem zq02.h0 (e2_1 : (List Int))   (k : Int → Option Ω) (hX : ((List.length e2_1 : Nat) : Int) ≤ 9223372036854775807) : ∀ (m : Nat) (i : Int) (a : Unit), 0 ≤ i → i ≤ ((List.length e2_1 : Nat) : Int) → ((List.length e2_1 : Nat) : Int) < m + i → Le (zq02.g0 e2_1  k (List.drop (Int.toNat i) e2_1) i) (iter (zq02.b0 e2_1 (((List.length e2_1 : Nat) : Int))  k) m (i)) :=
 iter_list e2_1 0 (fun (i2 : Int) (a2 : Unit) => (i2)) (fun xs i2 a2 => zq02.g0 e2_1  k xs i2) (zq02.b0 e2_1 (((List.length e2_1 : Nat) : Int))  k)
 (fun i2 a2 r h0 => (Le.fls h0 (Le.refl _)))
 (fun i2 xs2 a2 r h0 h1 hw ih => (Le.tru h0 (Le.tru h1 (Le.cond (Le.refl _) (ih _ hw ())))))
 hX
def zq02.w (x0 : (List Int)) (k : Int → Option Ω) : Option Ω :=
 bif decide (((List.length x0 : Nat) : Int) ≤ 4611686018427387904) then zq02.g0 x0  k x0 0 else none
theorem zq02.ev (fuel : Nat) (x0 : (List Int)) (k : AV → Option Ω) : evFn CDEKP (spE (C := CDEKP) [zq1p.n] []) (zq02.F fuel) Tryz.f265 (Tryz.f265.body.getD .skip) [(.v (.slice (.int .i64)) (x0)), (.fn 280 [(.vp (.raw .func) (Value.func (.func 251) #[] #[]) [])])] k = zq02.sl x0 (fun e2_1 e2_2 => (zq02.M0 fuel e2_1 e2_2  k fuel)) (fun r => k (tupAV (.int .i64) [] r)) := by kernel_rfl
theorem zq02.le (x0 : (List Int)) (k : AV → Option Ω) : Le (zq02.w x0 (fun r => k (tupAV (.int .i64) [] r))) (zq02.sl x0 (fun e2_1 e2_2 => (zq02.M0 BIG e2_1 e2_2  k BIG)) (fun r => k (tupAV (.int .i64) [] r))) := by
 have h1 := funext fun (e2_1 : (List Int)) => funext fun (e2_2 : Int) => zq02.l0 BIG e2_1 e2_2   k BIG
 rw [h1]
 delta zq02.w zq02.sl
 exact (Le.gd fun hg => zq02.h0 _   _ (le_up (of_decide_eq_true hg)) BIG 0 () (by decide) (zero_le_len _) (big_list (of_decide_eq_true hg)))
def zq02.u (x0 : (List Int)) : Option (Int) := zq02.w x0 some
noncomputable def zq02.n : En CDEKP := mkE CDEKP_ok (es := [zq1p.n]) (ms := []) (fuel := (zq02.F BIG)) 265 Tryz.f265 [.ai (.slice (.int .i64)), .afq 280 251] (.int .i64) [] (fun x {Ω} k => zq02.w x.1 k) (fun x Ω k => leV (zq02.ev BIG x.1 k) (zq02.le x.1 k)) (by kernel_rfl) (by kernel_rfl)
def zq1i.s (x0 : (List Int)) (k : Bool → Option Ω) : Option Ω :=
 (zq02.u x0).bind fun y1 =>
 k (decide (y1 ≥ 0))
def zq1i.u (x0 : (List Int)) : Option (Bool) := zq1i.s x0 some
noncomputable def zq1i.n : En CDEKP := mkE CDEKP_ok (es := [zq02.n]) (ms := []) (fuel := ⟨1, fun _ => []⟩) 234 Tryz.f234 [.ai (.slice (.int .i64)), .afq 280 251] .bool [] (fun x {Ω} k => zq1i.s x.1 k) (fun x Ω k => Le.of (by kernel_rfl)) (by kernel_rfl) (by kernel_rfl)
def zq2g.s (x0 : (List Int)) (k : Bool → Option Ω) : Option Ω :=
 (zq1i.u x0).bind fun y1 =>
 k (!y1)
def zq2g.u (x0 : (List Int)) : Option (Bool) := zq2g.s x0 some
noncomputable def zq2g.n : En CDEKP := mkE CDEKP_ok (es := [zq1i.n]) (ms := []) (fuel := ⟨1, fun _ => []⟩) 252 Tryz.f252 [.ai (.slice (.int .i64)), .af0 251] .bool [] (fun x {Ω} k => zq2g.s x.1 k) (fun x Ω k => Le.of (by kernel_rfl)) (by kernel_rfl) (by kernel_rfl)
def zq32.s (x0 : Int) (k : Bool → Option Ω) : Option Ω :=
 k (x0 == 0)
def zq32.t (x0 : Int) : Bool :=
 (x0 == 0)
theorem zq32.v (x0 : Int) (k : Bool → Option Ω) : zq32.s x0 k = k (zq32.t x0) := by
 delta zq32.s zq32.t; exact rfl
noncomputable def zq32.n : En CDEKP := mkT CDEKP_ok (es := []) (ms := []) (fuel := ⟨1, fun _ => []⟩) 253 Tryz.f253 [.ai (.int .i64)] .bool [] (fun x {Ω} k => zq32.s x.1 k) (fun x => zq32.t x.1) (fun x Ω k => by kernel_rfl) (fun x => zq32.v x.1 some) (by kernel_rfl) (by kernel_rfl)
def zq1n.s (x0 : Int) (k : Bool → Option Ω) : Option Ω :=
 k (!(zq32.t x0))
def zq1n.t (x0 : Int) : Bool :=
 (!(zq32.t x0))
theorem zq1n.v (x0 : Int) (k : Bool → Option Ω) : zq1n.s x0 k = k (zq1n.t x0) := by
 delta zq1n.s zq1n.t; exact rfl
noncomputable def zq1n.n : En CDEKP := mkT CDEKP_ok (es := [zq32.n]) (ms := []) (fuel := ⟨1, fun _ => []⟩) 280 Tryz.f280 [.ai (.int .i64), .aq 253] .bool [] (fun x {Ω} k => zq1n.s x.1 k) (fun x => zq1n.t x.1) (fun x Ω k => by kernel_rfl) (fun x => zq1n.v x.1 some) (by kernel_rfl) (by kernel_rfl)
def zq01.F (fuel : Nat) : Fuel := ⟨fuel, fun r => bif r == 2 then mL 0 19 523900 else []⟩
noncomputable def zq01.V (fuel c : Nat) (env : List AV) (L : Heap) (k : Kont Ω) : Option Ω := evCode CDEKP (spE (C := CDEKP) [zq1n.n] []) (zq01.F fuel) (pCo c Tryz.f265) env L k
def zq01.E0 (e2_1 : (List Int)) (e2_2 : Int) (s2 : Int) : List AV := ((.v (.slice (.int .i64)) (e2_1)) :: (.fn 280 [(.vp (.raw .func) (Value.func (.func 253) #[] #[]) [])]) :: dZ 5 ((.v (.int .i64) (e2_2)) :: (.v (.int .i64) (s2)) :: dZ 10 ([])))
def zq01.H0 (e2_1 : (List Int)) (e2_2 : Int) (s2 : Int) : Heap := []
noncomputable def zq01.M0 (fuel : Nat) (e2_1 : (List Int)) (e2_2 : Int)  (k : AV → Option Ω) (m : Nat) (s : Int) : Option Ω := loopK (zq01.V fuel 37) (mB 19 523900) [] 0 (blockK 0 (sqK (zq01.V fuel 7) (finK CDEKP Tryz.f265 k))) m ((zq01.E0 e2_1 e2_2) s) ((zq01.H0 e2_1 e2_2) s)
def zq01.b0 (e2_1 : (List Int)) (e2_2 : Int)   (k : Int → Option Ω) (r2 : Int → Option Ω) (s2 : Int) : Option Ω :=
 bif (decide (s2 < e2_2)) then
 bif (idxOK s2 (List.length e2_1)) then
 bif (zq1n.t ((List.getD e2_1 (Int.toNat s2) 0))) then
 k s2
 else
 r2 ((IntKind.wrap .i64 (s2 + 1)))
 else
 none
 else
 k (-1)
theorem zq01.l0 (fuel : Nat) (e2_1 : (List Int)) (e2_2 : Int)  (k : AV → Option Ω) : ∀ m, (zq01.M0 fuel e2_1 e2_2  k m) = iter (zq01.b0 e2_1 e2_2  (fun r => k (tupAV (.int .i64) [] r))) m :=
 loopK_iter (envOf := (zq01.E0 e2_1 e2_2)) (LOf := (zq01.H0 e2_1 e2_2)) (B := zq01.b0 e2_1 e2_2  (fun r => k (tupAV (.int .i64) [] r))) (fun R s => by kernel_rfl)
def zq01.sl (x0 : (List Int)) (lp0 : (List Int) → Int → Int → Option Ω) (k : Int → Option Ω) : Option Ω :=
 lp0 x0 (((List.length x0 : Nat) : Int)) (0)
def zq01.g0 (e2_1 : (List Int))  (k : Int → Option Ω) : List Int → Int → Option Ω
 | [], i2 =>
 k (-1)
 | x2 :: xs2, i2 =>
 bif (zq1n.t (x2)) then
 k i2
 else
 zq01.g0 e2_1  k xs2 (i2 + 1)
theorem zq01.h0 (e2_1 : (List Int))   (k : Int → Option Ω) (hX : ((List.length e2_1 : Nat) : Int) ≤ 9223372036854775807) : ∀ (m : Nat) (i : Int) (a : Unit), 0 ≤ i → i ≤ ((List.length e2_1 : Nat) : Int) → ((List.length e2_1 : Nat) : Int) < m + i → Le (zq01.g0 e2_1  k (List.drop (Int.toNat i) e2_1) i) (iter (zq01.b0 e2_1 (((List.length e2_1 : Nat) : Int))  k) m (i)) :=
 iter_list e2_1 0 (fun (i2 : Int) (a2 : Unit) => (i2)) (fun xs i2 a2 => zq01.g0 e2_1  k xs i2) (zq01.b0 e2_1 (((List.length e2_1 : Nat) : Int))  k)
 (fun i2 a2 r h0 => (Le.fls h0 (Le.refl _)))
 (fun i2 xs2 a2 r h0 h1 hw ih => (Le.tru h0 (Le.tru h1 (Le.cond (Le.refl _) (ih _ hw ())))))
 hX
def zq01.w (x0 : (List Int)) (k : Int → Option Ω) : Option Ω :=
 bif decide (((List.length x0 : Nat) : Int) ≤ 4611686018427387904) then zq01.g0 x0  k x0 0 else none
theorem zq01.ev (fuel : Nat) (x0 : (List Int)) (k : AV → Option Ω) : evFn CDEKP (spE (C := CDEKP) [zq1n.n] []) (zq01.F fuel) Tryz.f265 (Tryz.f265.body.getD .skip) [(.v (.slice (.int .i64)) (x0)), (.fn 280 [(.vp (.raw .func) (Value.func (.func 253) #[] #[]) [])])] k = zq01.sl x0 (fun e2_1 e2_2 => (zq01.M0 fuel e2_1 e2_2  k fuel)) (fun r => k (tupAV (.int .i64) [] r)) := by kernel_rfl
theorem zq01.le (x0 : (List Int)) (k : AV → Option Ω) : Le (zq01.w x0 (fun r => k (tupAV (.int .i64) [] r))) (zq01.sl x0 (fun e2_1 e2_2 => (zq01.M0 BIG e2_1 e2_2  k BIG)) (fun r => k (tupAV (.int .i64) [] r))) := by
 have h1 := funext fun (e2_1 : (List Int)) => funext fun (e2_2 : Int) => zq01.l0 BIG e2_1 e2_2   k BIG
 rw [h1]
 delta zq01.w zq01.sl
 exact (Le.gd fun hg => zq01.h0 _   _ (le_up (of_decide_eq_true hg)) BIG 0 () (by decide) (zero_le_len _) (big_list (of_decide_eq_true hg)))
def zq01.u (x0 : (List Int)) : Option (Int) := zq01.w x0 some
noncomputable def zq01.n : En CDEKP := mkE CDEKP_ok (es := [zq1n.n]) (ms := []) (fuel := (zq01.F BIG)) 265 Tryz.f265 [.ai (.slice (.int .i64)), .afq 280 253] (.int .i64) [] (fun x {Ω} k => zq01.w x.1 k) (fun x Ω k => leV (zq01.ev BIG x.1 k) (zq01.le x.1 k)) (by kernel_rfl) (by kernel_rfl)
def zq1g.s (x0 : (List Int)) (k : Bool → Option Ω) : Option Ω :=
 (zq01.u x0).bind fun y1 =>
 k (decide (y1 ≥ 0))
def zq1g.u (x0 : (List Int)) : Option (Bool) := zq1g.s x0 some
noncomputable def zq1g.n : En CDEKP := mkE CDEKP_ok (es := [zq01.n]) (ms := []) (fuel := ⟨1, fun _ => []⟩) 234 Tryz.f234 [.ai (.slice (.int .i64)), .afq 280 253] .bool [] (fun x {Ω} k => zq1g.s x.1 k) (fun x Ω k => Le.of (by kernel_rfl)) (by kernel_rfl) (by kernel_rfl)
def zq2d.s (x0 : (List Int)) (k : Bool → Option Ω) : Option Ω :=
 (zq1g.u x0).bind fun y1 =>
 k (!y1)
def zq2d.u (x0 : (List Int)) : Option (Bool) := zq2d.s x0 some
noncomputable def zq2d.n : En CDEKP := mkE CDEKP_ok (es := [zq1g.n]) (ms := []) (fuel := ⟨1, fun _ => []⟩) 252 Tryz.f252 [.ai (.slice (.int .i64)), .af0 253] .bool [] (fun x {Ω} k => zq2d.s x.1 k) (fun x Ω k => Le.of (by kernel_rfl)) (by kernel_rfl) (by kernel_rfl)
def zq3s.s (x0 : T_s67) (k : Bool → Option Ω) : Option Ω :=
 bif (!(zq2b.t x0.1)) then
 k false
 else
 bif (decide (x0.2.2.2.2.1 < 0)) then
 k false
 else
 bif (decide (x0.2.2.2.2.1 > 8)) then
 k false
 else
 bif (subC none none 8) then
 (zq2i.u (((List.drop (subLo none) x0.2.2.1).take (subHi none 8 - subLo none)))).bind fun y1 =>
 bif (!y1) then
 k false
 else
 bif (subC none none 16) then
 (zq2i.u (((List.drop (subLo none) x0.2.2.2.1).take (subHi none 16 - subLo none)))).bind fun y2 =>
 bif (!y2) then
 k false
 else
 bif (subC none (some (x0.2.2.2.2.1)) 8) then
 (zq2g.u (((List.drop (subLo none) x0.2.2.2.2.2.1).take (subHi (some (x0.2.2.2.2.1)) 8 - subLo none)))).bind fun y3 =>
 bif y3 then
 bif (subC (some (x0.2.2.2.2.1)) none 8) then
 (zq2d.u (((List.drop (subLo (some (x0.2.2.2.2.1))) x0.2.2.2.2.2.1).take (subHi none 8 - subLo (some (x0.2.2.2.2.1)))))).bind fun y4 =>
 k y4
 else
 none
 else
 k false
 else
 none
 else
 none
 else
 none
def zq3s.u (x0 : T_s67) : Option (Bool) := zq3s.s x0 some
noncomputable def zq3s.n : En CDEKP := mkE CDEKP_ok (es := [zq2b.n, zq2g.n, zq2d.n, zq2i.n]) (ms := []) (fuel := ⟨1, fun _ => []⟩) 212 Tryz.f212 [.ai E_s67] .bool [] (fun x {Ω} k => zq3s.s x.1 k) (fun x Ω k => Le.of (by kernel_rfl)) (by kernel_rfl) (by kernel_rfl)
noncomputable def zq1t.n : En CDEKP := En.of (g := 146) (e := fun {_} => zq1t.e) (zq1t.e_ok.mono le_C_CDEKP)
def zq1f.F (fuel : Nat) : Fuel := ⟨fuel, fun r => bif r == 3 then mL 0 30 1073713119 else []⟩
noncomputable def zq1f.V (fuel c : Nat) (env : List AV) (L : Heap) (k : Kont Ω) : Option Ω := evCode CDEKP (spE (C := CDEKP) [zq1t.n, zq37.n] []) (zq1f.F fuel) (pCo c Tryz.f213) env L k
def zq1f.E0 (e3_1 : (List Int)) (e3_2 : Int) (s3 : Int × (List ByteArray)) : List AV := (dZ 5 ((.rs 0) :: dZ 6 ((.v (.slice (.int .i64)) (e3_1)) :: (.v (.int .i64) (e3_2)) :: (.v (.int .i64) (s3.1)) :: dZ 15 ([]))))
def zq1f.H0 (e3_1 : (List Int)) (e3_2 : Int) (s3 : Int × (List ByteArray)) : Heap := [(.row 9 .str s3.2 false)]
noncomputable def zq1f.M0 (fuel : Nat) (e3_1 : (List Int)) (e3_2 : Int)  (k : AV → Option Ω) (m : Nat) (s : Int × (List ByteArray)) : Option Ω := loopK (zq1f.V fuel 75) (mB 30 1073713119) [] 1 (blockK 0 (sqK (zq1f.V fuel 15) (finK CDEKP Tryz.f213 k))) m ((zq1f.E0 e3_1 e3_2) s) ((zq1f.H0 e3_1 e3_2) s)
def zq1f.b0 (e3_1 : (List Int)) (e3_2 : Int)   (k : ByteArray → Option Ω) (r3 : Int × (List ByteArray) → Option Ω) (s3 : Int × (List ByteArray)) : Option Ω :=
 bif (decide (s3.1 < e3_2)) then
 bif (idxOK s3.1 (List.length e3_1)) then
 (zq37.u ((List.getD e3_1 (Int.toNat s3.1) 0))).bind fun y1 =>
 bif (decide (List.length s3.2 + List.length [y1.1] ≤ rowMax)) then
 r3 ((IntKind.wrap .i64 (s3.1 + 1)), (s3.2 ++ [y1.1]))
 else
 none
 else
 none
 else
 (zq1t.u s3.2 (bs [32])).bind fun y2 =>
 k y2
theorem zq1f.l0 (fuel : Nat) (e3_1 : (List Int)) (e3_2 : Int)  (k : AV → Option Ω) : ∀ m, (zq1f.M0 fuel e3_1 e3_2  k m) = iter (zq1f.b0 e3_1 e3_2  (fun r => k (tupAV .str [] r))) m :=
 loopK_iter (envOf := (zq1f.E0 e3_1 e3_2)) (LOf := (zq1f.H0 e3_1 e3_2)) (B := zq1f.b0 e3_1 e3_2  (fun r => k (tupAV .str [] r))) (fun R s => by kernel_rfl)
def zq1f.sl (x0 : ByteArray) (x1 : (List Int)) (lp0 : (List Int) → Int → Int × (List ByteArray) → Option Ω) (k : ByteArray → Option Ω) : Option Ω :=
 lp0 x1 (((List.length x1 : Nat) : Int)) (0, [x0])
def zq1f.g0 (e3_1 : (List Int))  (k : ByteArray → Option Ω) : List Int → (List ByteArray) → Option Ω
 | [], a3_1 =>
 (zq1t.u a3_1 (bs [32])).bind fun y2 =>
 k y2
 | x3 :: xs3, a3_1 =>
 (zq37.u (x3)).bind fun y1 =>
 bif (decide (List.length a3_1 + List.length [y1.1] ≤ rowMax)) then
 zq1f.g0 e3_1  k xs3 (a3_1 ++ [y1.1])
 else
 none
theorem zq1f.h0 (e3_1 : (List Int))   (k : ByteArray → Option Ω) (hX : ((List.length e3_1 : Nat) : Int) ≤ 9223372036854775807) : ∀ (m : Nat) (i : Int) (a : (List ByteArray)), 0 ≤ i → i ≤ ((List.length e3_1 : Nat) : Int) → ((List.length e3_1 : Nat) : Int) < m + i → Le (zq1f.g0 e3_1  k (List.drop (Int.toNat i) e3_1) a) (iter (zq1f.b0 e3_1 (((List.length e3_1 : Nat) : Int))  k) m (i, a)) :=
 iter_list e3_1 0 (fun (i3 : Int) (a3 : (List ByteArray)) => (i3, a3)) (fun xs i3 a3 => zq1f.g0 e3_1  k xs a3) (zq1f.b0 e3_1 (((List.length e3_1 : Nat) : Int))  k)
 (fun i3 a3 r h0 => (Le.fls h0 (Le.bnd fun y2 => (Le.refl _))))
 (fun i3 xs3 a3 r h0 h1 hw ih => (Le.tru h0 (Le.tru h1 (Le.bnd fun y1 => (Le.cond (ih _ hw ((a3 ++ [y1.1]))) Le.nil)))))
 hX
def zq1f.w (x0 : ByteArray) (x1 : (List Int)) (k : ByteArray → Option Ω) : Option Ω :=
 bif decide (((List.length x1 : Nat) : Int) ≤ 4611686018427387904) then zq1f.g0 x1  k x1 ([x0]) else none
theorem zq1f.ev (fuel : Nat) (x0 : ByteArray) (x1 : (List Int)) (k : AV → Option Ω) : evFn CDEKP (spE (C := CDEKP) [zq1t.n, zq37.n] []) (zq1f.F fuel) Tryz.f213 (Tryz.f213.body.getD .skip) [(.v .str (x0)), (.v (.slice (.int .i64)) (x1))] k = zq1f.sl x0 x1 (fun e3_1 e3_2 => (zq1f.M0 fuel e3_1 e3_2  k fuel)) (fun r => k (tupAV .str [] r)) := by kernel_rfl
theorem zq1f.le (x0 : ByteArray) (x1 : (List Int)) (k : AV → Option Ω) : Le (zq1f.w x0 x1 (fun r => k (tupAV .str [] r))) (zq1f.sl x0 x1 (fun e3_1 e3_2 => (zq1f.M0 BIG e3_1 e3_2  k BIG)) (fun r => k (tupAV .str [] r))) := by
 have h1 := funext fun (e3_1 : (List Int)) => funext fun (e3_2 : Int) => zq1f.l0 BIG e3_1 e3_2   k BIG
 rw [h1]
 delta zq1f.w zq1f.sl
 exact (Le.gd fun hg => zq1f.h0 _   _ (le_up (of_decide_eq_true hg)) BIG 0 ([x0]) (by decide) (zero_le_len _) (big_list (of_decide_eq_true hg)))
def zq1f.u (x0 : ByteArray) (x1 : (List Int)) : Option (ByteArray) := zq1f.w x0 x1 some
noncomputable def zq1f.n : En CDEKP := mkE CDEKP_ok (es := [zq1t.n, zq37.n]) (ms := []) (fuel := (zq1f.F BIG)) 213 Tryz.f213 [.ai .str, .ai (.slice (.int .i64))] .str [] (fun x {Ω} k => zq1f.w x.1 x.2.1 k) (fun x Ω k => leV (zq1f.ev BIG x.1 x.2.1 k) (zq1f.le x.1 x.2.1 k)) (by kernel_rfl) (by kernel_rfl)
def zq53.s (x0 : T_s67) (k : ByteArray → Option Ω) : Option Ω :=
 (zq3s.u x0).bind fun y1 =>
 bif (!y1) then
 k (bs [])
 else
 (zq1f.u (bs [112, 99]) ([x0.1])).bind fun y2 =>
 bif x0.2.1 then
 bif (decide (List.length [y2] + List.length [(bs [98, 97, 100])] ≤ rowMax)) then
 bif (subC none none 8) then
 (zq1f.u (bs [114]) (((List.drop (subLo none) x0.2.2.1).take (subHi none 8 - subLo none)))).bind fun y3 =>
 bif (subC none none 16) then
 (zq1f.u (bs [109]) (((List.drop (subLo none) x0.2.2.2.1).take (subHi none 16 - subLo none)))).bind fun y4 =>
 bif (subC none (some (x0.2.2.2.2.1)) 8) then
 (zq1f.u (bs [115]) (((List.drop (subLo none) x0.2.2.2.2.2.1).take (subHi (some (x0.2.2.2.2.1)) 8 - subLo none)))).bind fun y5 =>
 bif (decide (List.length ([y2] ++ [(bs [98, 97, 100])]) + List.length [y3, y4, y5] ≤ rowMax)) then
 (zq1t.u ((([y2] ++ [(bs [98, 97, 100])]) ++ [y3, y4, y5])) (bs [32])).bind fun y6 =>
 k y6
 else
 none
 else
 none
 else
 none
 else
 none
 else
 none
 else
 bif (subC none none 8) then
 (zq1f.u (bs [114]) (((List.drop (subLo none) x0.2.2.1).take (subHi none 8 - subLo none)))).bind fun y7 =>
 bif (subC none none 16) then
 (zq1f.u (bs [109]) (((List.drop (subLo none) x0.2.2.2.1).take (subHi none 16 - subLo none)))).bind fun y8 =>
 bif (subC none (some (x0.2.2.2.2.1)) 8) then
 (zq1f.u (bs [115]) (((List.drop (subLo none) x0.2.2.2.2.2.1).take (subHi (some (x0.2.2.2.2.1)) 8 - subLo none)))).bind fun y9 =>
 bif (decide (List.length [y2] + List.length [y7, y8, y9] ≤ rowMax)) then
 (zq1t.u ([y2] ++ [y7, y8, y9]) (bs [32])).bind fun y10 =>
 k y10
 else
 none
 else
 none
 else
 none
 else
 none
noncomputable def zq53.n : En CDEKP := mkE CDEKP_ok (es := [zq1t.n, zq3s.n, zq1f.n]) (ms := []) (fuel := ⟨1, fun _ => []⟩) 151 Tryz.f151 [.ai E_s67] .str [] (fun x {Ω} k => zq53.s x.1 k) (fun x Ω k => Le.of (by kernel_rfl)) (by kernel_rfl) (by kernel_rfl)
end
end Go.Proofs.YtlcomipbinfooaaGreatDoor.K

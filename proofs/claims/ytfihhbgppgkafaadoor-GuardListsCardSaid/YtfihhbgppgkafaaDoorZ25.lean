/- What functions of the program come to, plainly. -/
import Derived.Test.YtfihhbgppgkafaaDoorZ25a
set_option maxRecDepth 100000
set_option linter.unusedVariables false
namespace Go.Proofs.YtfihhbgppgkafaaDoor.K
open Go Go.RowKit

/-- becket becketref25.All -/
noncomputable def ref25_All.sp : Spec := (orS 18 (fun {_} => ref25_Check.e) noS)
noncomputable def ref25_All.F (fuel : Nat) : Fuel := ⟨fuel, fun r => bif r == 14 then [1, 2, 3, 5, 7, 8, 9, 10, 11, 12, 13, 14, 15, 16, 17, 18, 19, 20, 21, 22, 23, 24, 25, 26, 27, 28, 29, 30, 31, 32, 33, 34, 35, 36, 37, 38, 39, 40, 41, 42, 43, 44, 45, 46, 47, 48, 49, 50, 51, 52, 53, 54, 55, 56, 57, 58, 59, 60, 61, 62, 63, 64, 65, 66, 67, 68, 69, 70, 71, 72, 73, 74, 75, 76, 77, 78, 79, 80, 81, 82] else bif r == 6 then [1, 2, 3, 5, 6, 7, 8, 9, 10, 11, 12, 13, 14, 15, 16, 17, 18, 19, 20, 21, 22, 23, 24, 25, 26, 27, 28, 29, 30, 31, 32, 33, 34, 35, 36, 37, 38, 39, 40, 41, 42, 43, 44, 45, 46, 47, 48, 49, 50, 51, 52, 53, 54, 55, 56, 57, 58, 59, 60, 61, 62, 63, 64, 65, 66, 67, 68, 69, 70, 71, 72, 73, 74, 75, 76, 77, 78, 79, 80, 81, 82] else []⟩
noncomputable def ref25_All.E0 (e6_1 : (List T_s22)) (e14_1 : Int) (s14 : Int) : List AV := [(.v (.slice E_s22) (e6_1)), .dead, .dead, .dead, (.v (.int .i64) (e14_1)), .dead, (.v (.int .i64) (s14)), .dead, .dead, .dead, .dead, .dead, .dead, .dead, .dead, .dead, .dead, .dead, .dead, .dead, .dead, .dead, .dead, .dead, .dead, .dead, .dead, .dead, .dead, .dead, .dead, .dead, .dead, .dead, .dead, .dead, .dead, .dead, .dead, .dead, .dead, .dead, .dead, .dead, .dead, .dead, .dead, .dead, .dead, .dead, .dead, .dead, .dead, .dead, .dead, .dead, .dead, .dead, .dead, .dead, .dead, .dead, .dead, .dead, .dead, .dead, .dead, .dead, .dead, .dead, .dead, .dead, .dead, .dead, .dead, .dead, .dead, .dead, .dead, .dead, .dead, .dead, .dead]
noncomputable def ref25_All.H0 (e6_1 : (List T_s22)) (e14_1 : Int) (s14 : Int) : Heap := []
noncomputable def ref25_All.M0 {Ω : Type} (fuel : Nat) (e6_1 : (List T_s22)) (e14_1 : Int) (R6 : List AV → Heap → Option Ω) (k : AV → Option Ω) (m : Nat) (s : Int) : Option Ω := loopK (fun env L k => evCode C ref25_All.sp (ref25_All.F fuel) (cl (cl (cr (cr (cr (cl (cl (cr (cl (cl (cr (cl (cr (cr (cr (Tryd.f21.body.getD .skip)))))))))))))))) env L k) [false, true, true, true, false, true, false, true, true, true, true, true, true, true, true, true, true, true, true, true, true, true, true, true, true, true, true, true, true, true, true, true, true, true, true, true, true, true, true, true, true, true, true, true, true, true, true, true, true, true, true, true, true, true, true, true, true, true, true, true, true, true, true, true, true, true, true, true, true, true, true, true, true, true, true, true, true, true, true, true, true, true, true] 0 (blockK 2 (blockK 1 (seqK (fun env L => evCode C ref25_All.sp (ref25_All.F fuel) (cr (cr (cl (cl (cr (cl (cr (cr (cr (Tryd.f21.body.getD .skip)))))))))) env L (loopC R6 [false, true, true, true, false, true, true, true, true, true, true, true, true, true, true, true, true, true, true, true, true, true, true, true, true, true, true, true, true, true, true, true, true, true, true, true, true, true, true, true, true, true, true, true, true, true, true, true, true, true, true, true, true, true, true, true, true, true, true, true, true, true, true, true, true, true, true, true, true, true, true, true, true, true, true, true, true, true, true, true, true, true, true] 0 (blockK 0 (seqK (fun env L => evCode C ref25_All.sp (ref25_All.F fuel) (cr (cr (cr (cr (Tryd.f21.body.getD .skip))))) env L (finK C Tryd.f21 k)) (finK C Tryd.f21 k))))) (loopC R6 [false, true, true, true, false, true, true, true, true, true, true, true, true, true, true, true, true, true, true, true, true, true, true, true, true, true, true, true, true, true, true, true, true, true, true, true, true, true, true, true, true, true, true, true, true, true, true, true, true, true, true, true, true, true, true, true, true, true, true, true, true, true, true, true, true, true, true, true, true, true, true, true, true, true, true, true, true, true, true, true, true, true, true] 0 (blockK 0 (seqK (fun env L => evCode C ref25_All.sp (ref25_All.F fuel) (cr (cr (cr (cr (Tryd.f21.body.getD .skip))))) env L (finK C Tryd.f21 k)) (finK C Tryd.f21 k))))))) m ((ref25_All.E0 e6_1 e14_1) s) ((ref25_All.H0 e6_1 e14_1) s)
noncomputable def ref25_All.E1 (e6_1 : (List T_s22)) (s6 : Int) : List AV := [(.v (.slice E_s22) (e6_1)), .dead, .dead, .dead, (.v (.int .i64) (s6)), .dead, .dead, .dead, .dead, .dead, .dead, .dead, .dead, .dead, .dead, .dead, .dead, .dead, .dead, .dead, .dead, .dead, .dead, .dead, .dead, .dead, .dead, .dead, .dead, .dead, .dead, .dead, .dead, .dead, .dead, .dead, .dead, .dead, .dead, .dead, .dead, .dead, .dead, .dead, .dead, .dead, .dead, .dead, .dead, .dead, .dead, .dead, .dead, .dead, .dead, .dead, .dead, .dead, .dead, .dead, .dead, .dead, .dead, .dead, .dead, .dead, .dead, .dead, .dead, .dead, .dead, .dead, .dead, .dead, .dead, .dead, .dead, .dead, .dead, .dead, .dead, .dead, .dead]
noncomputable def ref25_All.H1 (e6_1 : (List T_s22)) (s6 : Int) : Heap := []
noncomputable def ref25_All.M1 {Ω : Type} (fuel : Nat) (e6_1 : (List T_s22))  (k : AV → Option Ω) (m : Nat) (s : Int) : Option Ω := loopK (fun env L k => evCode C ref25_All.sp (ref25_All.F fuel) (cl (cl (cr (cl (cr (cr (cr (Tryd.f21.body.getD .skip)))))))) env L k) [false, true, true, true, false, true, true, true, true, true, true, true, true, true, true, true, true, true, true, true, true, true, true, true, true, true, true, true, true, true, true, true, true, true, true, true, true, true, true, true, true, true, true, true, true, true, true, true, true, true, true, true, true, true, true, true, true, true, true, true, true, true, true, true, true, true, true, true, true, true, true, true, true, true, true, true, true, true, true, true, true, true, true] 0 (blockK 0 (seqK (fun env L => evCode C ref25_All.sp (ref25_All.F fuel) (cr (cr (cr (cr (Tryd.f21.body.getD .skip))))) env L (finK C Tryd.f21 k)) (finK C Tryd.f21 k))) m ((ref25_All.E1 e6_1) s) ((ref25_All.H1 e6_1) s)
noncomputable def ref25_All.b0 {Ω : Type} (e6_1 : (List T_s22)) (e14_1 : Int) (r6 : Int → Option Ω)  (k : Int × Int → Option Ω) (r14 : Int → Option Ω) (s14 : Int) : Option Ω :=
  bif (decide (s14 < e14_1)) then
    bif (idxOK s14 (List.length e6_1)) then
      bif (idxOK e14_1 (List.length e6_1)) then
        let v3 : Bool := ((List.getD e6_1 (Int.toNat s14) (0, (0, (0, (0, (0, ())))))).1 == (List.getD e6_1 (Int.toNat e14_1) (0, (0, (0, (0, (0, ())))))).1)
        bif v3 then
          bif (idxOK s14 (List.length e6_1)) then
            bif (decide ((List.getD e6_1 (Int.toNat s14) (0, (0, (0, (0, (0, ())))))).1 ≤ 3)) then
              bif (idxOK s14 (List.length e6_1)) then
                bif (idxOK e14_1 (List.length e6_1)) then
                  let v4 : Bool := ((List.getD e6_1 (Int.toNat s14) (0, (0, (0, (0, (0, ())))))).2.1 == (List.getD e6_1 (Int.toNat e14_1) (0, (0, (0, (0, (0, ())))))).2.1)
                  bif v4 then
                    k (e14_1, 7)
                  else
                    r14 ((IntKind.wrap .i64 (s14 + 1)))
                else
                  none
              else
                none
            else
              r14 ((IntKind.wrap .i64 (s14 + 1)))
          else
            none
        else
          r14 ((IntKind.wrap .i64 (s14 + 1)))
      else
        none
    else
      none
  else
    r6 ((IntKind.wrap .i64 (e14_1 + 1)))
noncomputable def ref25_All.B0 {Ω : Type} (fuel : Nat) (e6_1 : (List T_s22)) (e14_1 : Int) (r6 : Int → Option Ω) (k : Int × Int → Option Ω) (r14 : Int → Option Ω) (s14 : Int) : Option Ω := ref25_All.b0 e6_1 e14_1 r6  k r14 s14
noncomputable def ref25_All.b1 {Ω : Type} (e6_1 : (List T_s22))  (lp0 : (List T_s22) → Int → Int → Option Ω) (k : Int × Int → Option Ω) (r6 : Int → Option Ω) (s6 : Int) : Option Ω :=
  bif (decide (s6 < ((List.length e6_1 : Nat) : Int))) then
    bif (idxOK s6 (List.length e6_1)) then
      (ref25_Check.u ((List.getD e6_1 (Int.toNat s6) (0, (0, (0, (0, (0, ())))))))).bind fun y1 =>
      bif (y1 != 0) then
        k (s6, y1)
      else
        bif (decide (s6 > 0)) then
          bif (idxOK s6 (List.length e6_1)) then
            bif (idxOK (IntKind.wrap .i64 (s6 - 1)) (List.length e6_1)) then
              let v2 : Int := (List.getD e6_1 (Int.toNat (IntKind.wrap .i64 (s6 - 1))) (0, (0, (0, (0, (0, ())))))).2.2.2.2.1
              bif (decide ((List.getD e6_1 (Int.toNat s6) (0, (0, (0, (0, (0, ())))))).2.2.2.2.1 ≤ v2)) then
                k (s6, 3)
              else
                lp0 e6_1 s6 (0)
            else
              none
          else
            none
        else
          lp0 e6_1 s6 (0)
    else
      none
  else
    k (0, 0)
noncomputable def ref25_All.B1 {Ω : Type} (fuel : Nat) (e6_1 : (List T_s22))  (k : Int × Int → Option Ω) (r6 : Int → Option Ω) (s6 : Int) : Option Ω := ref25_All.b1 e6_1  (fun e6_1 e14_1 => (iter (ref25_All.B0 fuel e6_1 e14_1 r6 k) fuel)) k r6 s6
theorem ref25_All.l0 {Ω : Type} (fuel : Nat) (e6_1 : (List T_s22)) (e14_1 : Int) (R6 : List AV → Heap → Option Ω) (k : AV → Option Ω) : ∀ m, (ref25_All.M0 fuel e6_1 e14_1 R6 k m) = iter (ref25_All.B0 fuel e6_1 e14_1 (fun s6 => R6 ((ref25_All.E1 e6_1) s6) ((ref25_All.H1 e6_1) s6)) (fun r => k (tupAV (.int .i64) [(.int .i64)] r))) m :=
  loopK_iter (envOf := (ref25_All.E0 e6_1 e14_1)) (LOf := (ref25_All.H0 e6_1 e14_1)) (B := ref25_All.B0 fuel e6_1 e14_1 (fun s6 => R6 ((ref25_All.E1 e6_1) s6) ((ref25_All.H1 e6_1) s6)) (fun r => k (tupAV (.int .i64) [(.int .i64)] r))) (fun R s => by kernel_rfl)
theorem ref25_All.l1 {Ω : Type} (fuel : Nat) (e6_1 : (List T_s22))  (k : AV → Option Ω) : ∀ m, (ref25_All.M1 fuel e6_1  k m) = iter (ref25_All.B1 fuel e6_1  (fun r => k (tupAV (.int .i64) [(.int .i64)] r))) m :=
  loopK_iter (envOf := (ref25_All.E1 e6_1)) (LOf := (ref25_All.H1 e6_1)) (B := ref25_All.B1 fuel e6_1  (fun r => k (tupAV (.int .i64) [(.int .i64)] r))) (fun R s => by
    have h0 : evCode C ref25_All.sp (ref25_All.F fuel) (cl (cl (cr (cl (cr (cr (cr (Tryd.f21.body.getD .skip)))))))) ((ref25_All.E1 e6_1) s) ((ref25_All.H1 e6_1) s) (loopC R [false, true, true, true, false, true, true, true, true, true, true, true, true, true, true, true, true, true, true, true, true, true, true, true, true, true, true, true, true, true, true, true, true, true, true, true, true, true, true, true, true, true, true, true, true, true, true, true, true, true, true, true, true, true, true, true, true, true, true, true, true, true, true, true, true, true, true, true, true, true, true, true, true, true, true, true, true, true, true, true, true, true, true] 0 (blockK 0 (seqK (fun env L => evCode C ref25_All.sp (ref25_All.F fuel) (cr (cr (cr (cr (Tryd.f21.body.getD .skip))))) env L (finK C Tryd.f21 k)) (finK C Tryd.f21 k)))) = ref25_All.b1 e6_1  (fun e6_1 e14_1 => (ref25_All.M0 fuel e6_1 e14_1 R k fuel)) (fun r => k (tupAV (.int .i64) [(.int .i64)] r)) (fun s => R ((ref25_All.E1 e6_1) s) ((ref25_All.H1 e6_1) s)) s := by kernel_rfl
    have h1 : (fun e6_1 e14_1 => (ref25_All.M0 fuel e6_1 e14_1 R k fuel)) = (fun e6_1 e14_1 => (iter (ref25_All.B0 fuel e6_1 e14_1 (fun s6 => R ((ref25_All.E1 e6_1) s6) ((ref25_All.H1 e6_1) s6)) (fun r => k (tupAV (.int .i64) [(.int .i64)] r))) fuel)) := funext fun e6_1 => funext fun e14_1 => ref25_All.l0 fuel e6_1 e14_1  R k fuel
    rw [h1] at h0
    exact h0)
noncomputable def ref25_All.sl {Ω : Type} (x0 : (List T_s22)) (lp1 : (List T_s22) → Int → Option Ω) (k : Int × Int → Option Ω) : Option Ω :=
  bif (((List.length x0 : Nat) : Int) == 0) then
    k (0, 11)
  else
    bif (decide (((List.length x0 : Nat) : Int) > 6)) then
      k (6, 5)
    else
      lp1 x0 (0)
noncomputable def ref25_All.s {Ω : Type} (fuel : Nat) (x0 : (List T_s22)) (k : Int × Int → Option Ω) : Option Ω := ref25_All.sl x0 (fun e6_1 => (iter (ref25_All.B1 fuel e6_1  k) fuel)) k
theorem ref25_All.ev {Ω : Type} (fuel : Nat) (x0 : (List T_s22)) (k : AV → Option Ω) : evFn C ref25_All.sp (ref25_All.F fuel) Tryd.f21 (Tryd.f21.body.getD .skip) [(.v (.slice E_s22) (x0))] k = ref25_All.s fuel x0 (fun r => k (tupAV (.int .i64) [(.int .i64)] r)) := by
  have h0 : evFn C ref25_All.sp (ref25_All.F fuel) Tryd.f21 (Tryd.f21.body.getD .skip) [(.v (.slice E_s22) (x0))] k = ref25_All.sl x0 (fun e6_1 => (ref25_All.M1 fuel e6_1  k fuel)) (fun r => k (tupAV (.int .i64) [(.int .i64)] r)) := by kernel_rfl
  have h2 : (fun e6_1 => (ref25_All.M1 fuel e6_1  k fuel)) = (fun e6_1 => (iter (ref25_All.B1 fuel e6_1  (fun r => k (tupAV (.int .i64) [(.int .i64)] r))) fuel)) := funext fun e6_1 => ref25_All.l1 fuel e6_1   k fuel
  rw [h2] at h0
  exact h0
noncomputable def ref25_All.g0 {Ω : Type} (e6_1 : (List T_s22)) (e14_1 : Int) (r6 : Int → Option Ω) (k : Int × Int → Option Ω) : Nat → Int → Option Ω
  | 0, i14 =>
    r6 ((e14_1 + 1))
  | d14 + 1, i14 =>
    bif (idxOK i14 (List.length e6_1)) then
      bif (idxOK e14_1 (List.length e6_1)) then
        let v3 : Bool := ((List.getD e6_1 (Int.toNat i14) (0, (0, (0, (0, (0, ())))))).1 == (List.getD e6_1 (Int.toNat e14_1) (0, (0, (0, (0, (0, ())))))).1)
        bif v3 then
          bif (idxOK i14 (List.length e6_1)) then
            bif (decide ((List.getD e6_1 (Int.toNat i14) (0, (0, (0, (0, (0, ())))))).1 ≤ 3)) then
              bif (idxOK i14 (List.length e6_1)) then
                bif (idxOK e14_1 (List.length e6_1)) then
                  let v4 : Bool := ((List.getD e6_1 (Int.toNat i14) (0, (0, (0, (0, (0, ())))))).2.1 == (List.getD e6_1 (Int.toNat e14_1) (0, (0, (0, (0, (0, ())))))).2.1)
                  bif v4 then
                    k (e14_1, 7)
                  else
                    ref25_All.g0 e6_1 e14_1 r6 k d14 (i14 + 1)
                else
                  none
              else
                none
            else
              ref25_All.g0 e6_1 e14_1 r6 k d14 (i14 + 1)
          else
            none
        else
          ref25_All.g0 e6_1 e14_1 r6 k d14 (i14 + 1)
      else
        none
    else
      none
theorem ref25_All.h0 {Ω : Type} (e6_1 : (List T_s22)) (e14_1 : Int) (r6 : Int → Option Ω) (r6' : Int → Option Ω) (hr6 : ∀ q : Unit, Le (r6 ((e14_1 + 1))) (r6' ((IntKind.wrap .i64 (e14_1 + 1))))) (k : Int × Int → Option Ω) (hN : (e14_1 : Int) ≤ 9223372036854775807) : ∀ (m : Nat) (i : Int) (a : Unit), -9223372036854775808 ≤ i → Int.toNat ((e14_1 : Int) - i) < m → Le (ref25_All.g0 e6_1 e14_1 r6 k (Int.toNat ((e14_1 : Int) - i)) i) (iter (ref25_All.B0 BIG e6_1 e14_1 r6' k) m (i)) :=
  iter_count (e14_1 : Int) (fun i14 => (decide (i14 < e14_1))) (fun i => rfl) (fun (i14 : Int) (a14 : Unit) => (i14)) (fun xs i14 a14 => ref25_All.g0 e6_1 e14_1 r6 k xs i14) (ref25_All.B0 BIG e6_1 e14_1 r6' k)
    (fun i14 a14 r h0 => (Le.fls h0 (hr6 ())))
    (fun i14 d14 a14 r h0 hw ih => (Le.tru h0 (Le.cond (Le.cond (let v3 : Bool := ((List.getD e6_1 (Int.toNat i14) (0, (0, (0, (0, (0, ())))))).1 == (List.getD e6_1 (Int.toNat e14_1) (0, (0, (0, (0, (0, ())))))).1); (Le.cond (Le.cond (Le.cond (Le.cond (Le.cond (let v4 : Bool := ((List.getD e6_1 (Int.toNat i14) (0, (0, (0, (0, (0, ())))))).2.1 == (List.getD e6_1 (Int.toNat e14_1) (0, (0, (0, (0, (0, ())))))).2.1); (Le.cond (Le.refl _) (ih _ hw ()))) Le.nil) Le.nil) (ih _ hw ())) Le.nil) (ih _ hw ()))) Le.nil) Le.nil)))
    hN
noncomputable def ref25_All.g1 {Ω : Type} (e6_1 : (List T_s22))  (k : Int × Int → Option Ω) : List T_s22 → Int → Option Ω
  | [], i6 =>
    k (0, 0)
  | x6 :: xs6, i6 =>
    (ref25_Check.u (x6)).bind fun y1 =>
    bif (y1 != 0) then
      k (i6, y1)
    else
      bif (decide (i6 > 0)) then
        bif (idxOK (IntKind.wrap .i64 (i6 - 1)) (List.length e6_1)) then
          let v2 : Int := (List.getD e6_1 (Int.toNat (IntKind.wrap .i64 (i6 - 1))) (0, (0, (0, (0, (0, ())))))).2.2.2.2.1
          bif (decide (x6.2.2.2.2.1 ≤ v2)) then
            k (i6, 3)
          else
            bif (decide (i6 ≤ 4611686018427387904)) then ref25_All.g0 e6_1 i6 (fun q => ref25_All.g1 e6_1  k xs6 q) k ((Int.toNat (i6 - 0))) 0 else none
        else
          none
      else
        bif (decide (i6 ≤ 4611686018427387904)) then ref25_All.g0 e6_1 i6 (fun q => ref25_All.g1 e6_1  k xs6 q) k ((Int.toNat (i6 - 0))) 0 else none
theorem ref25_All.h1 {Ω : Type} (e6_1 : (List T_s22))   (k : Int × Int → Option Ω) (hX : ((List.length e6_1 : Nat) : Int) ≤ 9223372036854775807) : ∀ (m : Nat) (i : Int) (a : Unit), 0 ≤ i → i ≤ ((List.length e6_1 : Nat) : Int) → ((List.length e6_1 : Nat) : Int) < m + i → Le (ref25_All.g1 e6_1  k (List.drop (Int.toNat i) e6_1) i) (iter (ref25_All.B1 BIG e6_1  k) m (i)) :=
  iter_list e6_1 (0, (0, (0, (0, (0, ()))))) (fun (i6 : Int) (a6 : Unit) => (i6)) (fun xs i6 a6 => ref25_All.g1 e6_1  k xs i6) (ref25_All.B1 BIG e6_1  k)
    (fun i6 a6 r h0 => (Le.fls h0 (Le.refl _)))
    (fun i6 xs6 a6 r h0 h1 hw ih => (Le.tru h0 (Le.tru h1 (Le.bnd fun y1 => (Le.cond (Le.refl _) (Le.cond (Le.tru h1 (Le.cond (let v2 : Int := (List.getD e6_1 (Int.toNat (IntKind.wrap .i64 (i6 - 1))) (0, (0, (0, (0, (0, ())))))).2.2.2.2.1; (Le.cond (Le.refl _) (Le.gd fun hg => ref25_All.h0 _ _ _ _ (fun q => ih _ hw q) k (cnt_up hg) BIG 0 () (by decide) (cnt_big hg (by decide))))) Le.nil)) (Le.gd fun hg => ref25_All.h0 _ _ _ _ (fun q => ih _ hw q) k (cnt_up hg) BIG 0 () (by decide) (cnt_big hg (by decide)))))))))
    hX
noncomputable def ref25_All.w {Ω : Type} (x0 : (List T_s22)) (k : Int × Int → Option Ω) : Option Ω :=
  bif (((List.length x0 : Nat) : Int) == 0) then
    k (0, 11)
  else
    bif (decide (((List.length x0 : Nat) : Int) > 6)) then
      k (6, 5)
    else
      bif decide (((List.length x0 : Nat) : Int) ≤ 4611686018427387904) then ref25_All.g1 x0  k x0 0 else none
theorem ref25_All.le {Ω : Type} (x0 : (List T_s22)) (k : Int × Int → Option Ω) : Le (ref25_All.w x0 k) (ref25_All.s BIG x0 k) := by
  delta ref25_All.w ref25_All.s ref25_All.sl
  exact (Le.cond (Le.refl _) (Le.cond (Le.refl _) (Le.gd fun hg => ref25_All.h1 _   k (le_up (of_decide_eq_true hg)) BIG 0 () (by decide) (zero_le_len _) (big_list (of_decide_eq_true hg)))))
noncomputable def ref25_All.u (x0 : (List T_s22)) : Option (Int × Int) := ref25_All.w x0 some
theorem ref25_All.c (x0 : (List T_s22)) (r : Int × Int) (h : ref25_All.u x0 = some r) : Contract C 21 [(.v (.slice E_s22) (x0))] (tupAV (.int .i64) [(.int .i64)] r) :=
  contract_s (S := fun k => ref25_All.s BIG x0 k) C_ok (orS_ok ref25_Check.e_ok noS_ok) (by kernel_rfl) (by kernel_rfl) (by kernel_rfl) (ref25_All.ev BIG x0 (dec (.int .i64) [(.int .i64)])) (ref25_All.le x0 some r h)
noncomputable def ref25_All.e : Ent := argI (.slice E_s22) fun x0 => endU (ref25_All.u x0) (tupAV (.int .i64) [(.int .i64)])
theorem ref25_All.e_ok : EntOK C 21 (fun {_} => ref25_All.e) := entA_ok (argI_ok fun x0 => endU_ok fun r h => ref25_All.c x0 r h)

/-- becket becketref25.Texts -/
noncomputable def ref25_Texts.sp : Spec := (orS 16 (fun {_} => ref25_Text.e) noS)
noncomputable def ref25_Texts.F (fuel : Nat) : Fuel := ⟨fuel, fun r => bif r == 3 then [1, 2, 3, 6, 7, 8, 9, 10, 11, 12, 13, 14, 15, 16, 17, 18, 19, 20, 21, 22, 23, 24, 25, 26, 27, 28, 29, 30, 31, 32] else []⟩
noncomputable def ref25_Texts.E0 (e3_1 : (List T_s22)) (s3 : ByteArray × Int) : List AV := [(.v (.slice E_s22) (e3_1)), .dead, .dead, .dead, (.v .str (s3.1)), (.v (.int .i64) (s3.2)), .dead, .dead, .dead, .dead, .dead, .dead, .dead, .dead, .dead, .dead, .dead, .dead, .dead, .dead, .dead, .dead, .dead, .dead, .dead, .dead, .dead, .dead, .dead, .dead, .dead, .dead, .dead]
noncomputable def ref25_Texts.H0 (e3_1 : (List T_s22)) (s3 : ByteArray × Int) : Heap := []
noncomputable def ref25_Texts.M0 {Ω : Type} (fuel : Nat) (e3_1 : (List T_s22))  (k : AV → Option Ω) (m : Nat) (s : ByteArray × Int) : Option Ω := loopK (fun env L k => evCode C ref25_Texts.sp (ref25_Texts.F fuel) (cl (cl (cr (cl (cr (cr (Tryd.f23.body.getD .skip))))))) env L k) [false, true, true, true, false, false, true, true, true, true, true, true, true, true, true, true, true, true, true, true, true, true, true, true, true, true, true, true, true, true, true, true, true] 0 (blockK 0 (seqK (fun env L => evCode C ref25_Texts.sp (ref25_Texts.F fuel) (cr (cr (cr (Tryd.f23.body.getD .skip)))) env L (finK C Tryd.f23 k)) (finK C Tryd.f23 k))) m ((ref25_Texts.E0 e3_1) s) ((ref25_Texts.H0 e3_1) s)
noncomputable def ref25_Texts.b0 {Ω : Type} (e3_1 : (List T_s22))   (k : ByteArray × Int → Option Ω) (r3 : ByteArray × Int → Option Ω) (s3 : ByteArray × Int) : Option Ω :=
  bif (decide (s3.2 < ((List.length e3_1 : Nat) : Int))) then
    bif (idxOK s3.2 (List.length e3_1)) then
      (ref25_Text.u ((List.getD e3_1 (Int.toNat s3.2) (0, (0, (0, (0, (0, ())))))))).bind fun y1 =>
      bif (y1.2 != 0) then
        k ((bs []), y1.2)
      else
        bif (decide (s3.2 > 0)) then
          bif (decide ((s3.1).size + ((bs [44, 32])).size ≤ catMax)) then
            bif (decide (((s3.1 ++ (bs [44, 32]))).size + (y1.1).size ≤ catMax)) then
              r3 (((s3.1 ++ (bs [44, 32])) ++ y1.1), (IntKind.wrap .i64 (s3.2 + 1)))
            else
              none
          else
            none
        else
          bif (decide ((s3.1).size + (y1.1).size ≤ catMax)) then
            r3 ((s3.1 ++ y1.1), (IntKind.wrap .i64 (s3.2 + 1)))
          else
            none
    else
      none
  else
    k (s3.1, 0)
noncomputable def ref25_Texts.B0 {Ω : Type} (fuel : Nat) (e3_1 : (List T_s22))  (k : ByteArray × Int → Option Ω) (r3 : ByteArray × Int → Option Ω) (s3 : ByteArray × Int) : Option Ω := ref25_Texts.b0 e3_1   k r3 s3
theorem ref25_Texts.l0 {Ω : Type} (fuel : Nat) (e3_1 : (List T_s22))  (k : AV → Option Ω) : ∀ m, (ref25_Texts.M0 fuel e3_1  k m) = iter (ref25_Texts.B0 fuel e3_1  (fun r => k (tupAV .str [(.int .i64)] r))) m :=
  loopK_iter (envOf := (ref25_Texts.E0 e3_1)) (LOf := (ref25_Texts.H0 e3_1)) (B := ref25_Texts.B0 fuel e3_1  (fun r => k (tupAV .str [(.int .i64)] r))) (fun R s => by kernel_rfl)
noncomputable def ref25_Texts.sl {Ω : Type} (x0 : (List T_s22)) (lp0 : (List T_s22) → ByteArray × Int → Option Ω) (k : ByteArray × Int → Option Ω) : Option Ω :=
  lp0 x0 ((bs []), 0)
noncomputable def ref25_Texts.s {Ω : Type} (fuel : Nat) (x0 : (List T_s22)) (k : ByteArray × Int → Option Ω) : Option Ω := ref25_Texts.sl x0 (fun e3_1 => (iter (ref25_Texts.B0 fuel e3_1  k) fuel)) k
theorem ref25_Texts.ev {Ω : Type} (fuel : Nat) (x0 : (List T_s22)) (k : AV → Option Ω) : evFn C ref25_Texts.sp (ref25_Texts.F fuel) Tryd.f23 (Tryd.f23.body.getD .skip) [(.v (.slice E_s22) (x0))] k = ref25_Texts.s fuel x0 (fun r => k (tupAV .str [(.int .i64)] r)) := by
  have h0 : evFn C ref25_Texts.sp (ref25_Texts.F fuel) Tryd.f23 (Tryd.f23.body.getD .skip) [(.v (.slice E_s22) (x0))] k = ref25_Texts.sl x0 (fun e3_1 => (ref25_Texts.M0 fuel e3_1  k fuel)) (fun r => k (tupAV .str [(.int .i64)] r)) := by kernel_rfl
  have h1 : (fun e3_1 => (ref25_Texts.M0 fuel e3_1  k fuel)) = (fun e3_1 => (iter (ref25_Texts.B0 fuel e3_1  (fun r => k (tupAV .str [(.int .i64)] r))) fuel)) := funext fun e3_1 => ref25_Texts.l0 fuel e3_1   k fuel
  rw [h1] at h0
  exact h0
noncomputable def ref25_Texts.g0 {Ω : Type} (e3_1 : (List T_s22))  (k : ByteArray × Int → Option Ω) : List T_s22 → ByteArray → Int → Option Ω
  | [], a3_0, i3 =>
    k (a3_0, 0)
  | x3 :: xs3, a3_0, i3 =>
    (ref25_Text.u (x3)).bind fun y1 =>
    bif (y1.2 != 0) then
      k ((bs []), y1.2)
    else
      bif (decide (i3 > 0)) then
        bif (decide ((a3_0).size + ((bs [44, 32])).size ≤ catMax)) then
          bif (decide (((a3_0 ++ (bs [44, 32]))).size + (y1.1).size ≤ catMax)) then
            ref25_Texts.g0 e3_1  k xs3 (((a3_0 ++ (bs [44, 32])) ++ y1.1)) (i3 + 1)
          else
            none
        else
          none
      else
        bif (decide ((a3_0).size + (y1.1).size ≤ catMax)) then
          ref25_Texts.g0 e3_1  k xs3 (a3_0 ++ y1.1) (i3 + 1)
        else
          none
theorem ref25_Texts.h0 {Ω : Type} (e3_1 : (List T_s22))   (k : ByteArray × Int → Option Ω) (hX : ((List.length e3_1 : Nat) : Int) ≤ 9223372036854775807) : ∀ (m : Nat) (i : Int) (a : ByteArray), 0 ≤ i → i ≤ ((List.length e3_1 : Nat) : Int) → ((List.length e3_1 : Nat) : Int) < m + i → Le (ref25_Texts.g0 e3_1  k (List.drop (Int.toNat i) e3_1) a i) (iter (ref25_Texts.B0 BIG e3_1  k) m (a, i)) :=
  iter_list e3_1 (0, (0, (0, (0, (0, ()))))) (fun (i3 : Int) (a3 : ByteArray) => (a3, i3)) (fun xs i3 a3 => ref25_Texts.g0 e3_1  k xs a3 i3) (ref25_Texts.B0 BIG e3_1  k)
    (fun i3 a3 r h0 => (Le.fls h0 (Le.refl _)))
    (fun i3 xs3 a3 r h0 h1 hw ih => (Le.tru h0 (Le.tru h1 (Le.bnd fun y1 => (Le.cond (Le.refl _) (Le.cond (Le.cond (Le.cond (ih _ hw (((a3 ++ (bs [44, 32])) ++ y1.1))) Le.nil) Le.nil) (Le.cond (ih _ hw ((a3 ++ y1.1))) Le.nil)))))))
    hX
noncomputable def ref25_Texts.w {Ω : Type} (x0 : (List T_s22)) (k : ByteArray × Int → Option Ω) : Option Ω :=
  bif decide (((List.length x0 : Nat) : Int) ≤ 4611686018427387904) then ref25_Texts.g0 x0  k x0 (bs []) 0 else none
theorem ref25_Texts.le {Ω : Type} (x0 : (List T_s22)) (k : ByteArray × Int → Option Ω) : Le (ref25_Texts.w x0 k) (ref25_Texts.s BIG x0 k) := by
  delta ref25_Texts.w ref25_Texts.s ref25_Texts.sl
  exact (Le.gd fun hg => ref25_Texts.h0 _   k (le_up (of_decide_eq_true hg)) BIG 0 ((bs [])) (by decide) (zero_le_len _) (big_list (of_decide_eq_true hg)))
noncomputable def ref25_Texts.u (x0 : (List T_s22)) : Option (ByteArray × Int) := ref25_Texts.w x0 some
theorem ref25_Texts.c (x0 : (List T_s22)) (r : ByteArray × Int) (h : ref25_Texts.u x0 = some r) : Contract C 23 [(.v (.slice E_s22) (x0))] (tupAV .str [(.int .i64)] r) :=
  contract_s (S := fun k => ref25_Texts.s BIG x0 k) C_ok (orS_ok ref25_Text.e_ok noS_ok) (by kernel_rfl) (by kernel_rfl) (by kernel_rfl) (ref25_Texts.ev BIG x0 (dec .str [(.int .i64)])) (ref25_Texts.le x0 some r h)
noncomputable def ref25_Texts.e : Ent := argI (.slice E_s22) fun x0 => endU (ref25_Texts.u x0) (tupAV .str [(.int .i64)])
theorem ref25_Texts.e_ok : EntOK C 23 (fun {_} => ref25_Texts.e) := entA_ok (argI_ok fun x0 => endU_ok fun r h => ref25_Texts.c x0 r h)

/-- becket becketref25.Earliest -/
noncomputable def ref25_Earliest.sp : Spec := noS
def ref25_Earliest.F (fuel : Nat) : Fuel := ⟨fuel, fun r => bif r == 3 then [1, 2, 3, 7, 8, 9, 10, 11, 12, 13, 14, 15, 16, 17, 18, 19, 20, 21, 22, 23, 24, 25, 26, 27, 28, 29, 30, 31, 32, 33, 34, 35, 36] else []⟩
def ref25_Earliest.E0 (e3_1 : (List T_s22)) (s3 : Int × Bool × Int) : List AV := [(.v (.slice E_s22) (e3_1)), .dead, .dead, .dead, (.v (.int .i64) (s3.1)), (.v .bool (s3.2.1)), (.v (.int .i64) (s3.2.2)), .dead, .dead, .dead, .dead, .dead, .dead, .dead, .dead, .dead, .dead, .dead, .dead, .dead, .dead, .dead, .dead, .dead, .dead, .dead, .dead, .dead, .dead, .dead, .dead, .dead, .dead, .dead, .dead, .dead, .dead]
def ref25_Earliest.H0 (e3_1 : (List T_s22)) (s3 : Int × Bool × Int) : Heap := []
noncomputable def ref25_Earliest.M0 {Ω : Type} (fuel : Nat) (e3_1 : (List T_s22))  (k : AV → Option Ω) (m : Nat) (s : Int × Bool × Int) : Option Ω := loopK (fun env L k => evCode C ref25_Earliest.sp (ref25_Earliest.F fuel) (cl (cl (cr (cl (cr (cr (Tryd.f25.body.getD .skip))))))) env L k) [false, true, true, true, false, false, false, true, true, true, true, true, true, true, true, true, true, true, true, true, true, true, true, true, true, true, true, true, true, true, true, true, true, true, true, true, true] 0 (blockK 0 (seqK (fun env L => evCode C ref25_Earliest.sp (ref25_Earliest.F fuel) (cr (cr (cr (Tryd.f25.body.getD .skip)))) env L (finK C Tryd.f25 k)) (finK C Tryd.f25 k))) m ((ref25_Earliest.E0 e3_1) s) ((ref25_Earliest.H0 e3_1) s)
def ref25_Earliest.b0 {Ω : Type} (e3_1 : (List T_s22))   (k : Int × Bool → Option Ω) (r3 : Int × Bool × Int → Option Ω) (s3 : Int × Bool × Int) : Option Ω :=
  bif (decide (s3.2.2 < ((List.length e3_1 : Nat) : Int))) then
    bif (idxOK s3.2.2 (List.length e3_1)) then
      bif ((List.getD e3_1 (Int.toNat s3.2.2) (0, (0, (0, (0, (0, ())))))).1 != 4) then
        r3 (s3.1, s3.2.1, (IntKind.wrap .i64 (s3.2.2 + 1)))
      else
        bif (!s3.2.1) then
          bif (idxOK s3.2.2 (List.length e3_1)) then
            r3 ((List.getD e3_1 (Int.toNat s3.2.2) (0, (0, (0, (0, (0, ())))))).2.2.1, true, (IntKind.wrap .i64 (s3.2.2 + 1)))
          else
            none
        else
          bif (idxOK s3.2.2 (List.length e3_1)) then
            bif (decide ((List.getD e3_1 (Int.toNat s3.2.2) (0, (0, (0, (0, (0, ())))))).2.2.1 < s3.1)) then
              bif (idxOK s3.2.2 (List.length e3_1)) then
                r3 ((List.getD e3_1 (Int.toNat s3.2.2) (0, (0, (0, (0, (0, ())))))).2.2.1, true, (IntKind.wrap .i64 (s3.2.2 + 1)))
              else
                none
            else
              r3 (s3.1, true, (IntKind.wrap .i64 (s3.2.2 + 1)))
          else
            none
    else
      none
  else
    k (s3.1, s3.2.1)
def ref25_Earliest.B0 {Ω : Type} (fuel : Nat) (e3_1 : (List T_s22))  (k : Int × Bool → Option Ω) (r3 : Int × Bool × Int → Option Ω) (s3 : Int × Bool × Int) : Option Ω := ref25_Earliest.b0 e3_1   k r3 s3
theorem ref25_Earliest.l0 {Ω : Type} (fuel : Nat) (e3_1 : (List T_s22))  (k : AV → Option Ω) : ∀ m, (ref25_Earliest.M0 fuel e3_1  k m) = iter (ref25_Earliest.B0 fuel e3_1  (fun r => k (tupAV (.int .i64) [.bool] r))) m :=
  loopK_iter (envOf := (ref25_Earliest.E0 e3_1)) (LOf := (ref25_Earliest.H0 e3_1)) (B := ref25_Earliest.B0 fuel e3_1  (fun r => k (tupAV (.int .i64) [.bool] r))) (fun R s => by kernel_rfl)
def ref25_Earliest.sl {Ω : Type} (x0 : (List T_s22)) (lp0 : (List T_s22) → Int × Bool × Int → Option Ω) (k : Int × Bool → Option Ω) : Option Ω :=
  lp0 x0 (0, false, 0)
def ref25_Earliest.s {Ω : Type} (fuel : Nat) (x0 : (List T_s22)) (k : Int × Bool → Option Ω) : Option Ω := ref25_Earliest.sl x0 (fun e3_1 => (iter (ref25_Earliest.B0 fuel e3_1  k) fuel)) k
theorem ref25_Earliest.ev {Ω : Type} (fuel : Nat) (x0 : (List T_s22)) (k : AV → Option Ω) : evFn C ref25_Earliest.sp (ref25_Earliest.F fuel) Tryd.f25 (Tryd.f25.body.getD .skip) [(.v (.slice E_s22) (x0))] k = ref25_Earliest.s fuel x0 (fun r => k (tupAV (.int .i64) [.bool] r)) := by
  have h0 : evFn C ref25_Earliest.sp (ref25_Earliest.F fuel) Tryd.f25 (Tryd.f25.body.getD .skip) [(.v (.slice E_s22) (x0))] k = ref25_Earliest.sl x0 (fun e3_1 => (ref25_Earliest.M0 fuel e3_1  k fuel)) (fun r => k (tupAV (.int .i64) [.bool] r)) := by kernel_rfl
  have h1 : (fun e3_1 => (ref25_Earliest.M0 fuel e3_1  k fuel)) = (fun e3_1 => (iter (ref25_Earliest.B0 fuel e3_1  (fun r => k (tupAV (.int .i64) [.bool] r))) fuel)) := funext fun e3_1 => ref25_Earliest.l0 fuel e3_1   k fuel
  rw [h1] at h0
  exact h0
def ref25_Earliest.g0 {Ω : Type} (e3_1 : (List T_s22))  (k : Int × Bool → Option Ω) : List T_s22 → Int → Bool → Option Ω
  | [], a3_0, a3_1 =>
    k (a3_0, a3_1)
  | x3 :: xs3, a3_0, a3_1 =>
    bif (x3.1 != 4) then
      ref25_Earliest.g0 e3_1  k xs3 a3_0 a3_1
    else
      bif (!a3_1) then
        ref25_Earliest.g0 e3_1  k xs3 x3.2.2.1 true
      else
        bif (decide (x3.2.2.1 < a3_0)) then
          ref25_Earliest.g0 e3_1  k xs3 x3.2.2.1 true
        else
          ref25_Earliest.g0 e3_1  k xs3 a3_0 true
theorem ref25_Earliest.h0 {Ω : Type} (e3_1 : (List T_s22))   (k : Int × Bool → Option Ω) (hX : ((List.length e3_1 : Nat) : Int) ≤ 9223372036854775807) : ∀ (m : Nat) (i : Int) (a : Int × Bool), 0 ≤ i → i ≤ ((List.length e3_1 : Nat) : Int) → ((List.length e3_1 : Nat) : Int) < m + i → Le (ref25_Earliest.g0 e3_1  k (List.drop (Int.toNat i) e3_1) a.1 a.2) (iter (ref25_Earliest.B0 BIG e3_1  k) m (a.1, a.2, i)) :=
  iter_list e3_1 (0, (0, (0, (0, (0, ()))))) (fun (i3 : Int) (a3 : Int × Bool) => (a3.1, a3.2, i3)) (fun xs i3 a3 => ref25_Earliest.g0 e3_1  k xs a3.1 a3.2) (ref25_Earliest.B0 BIG e3_1  k)
    (fun i3 a3 r h0 => (Le.fls h0 (Le.refl _)))
    (fun i3 xs3 a3 r h0 h1 hw ih => (Le.tru h0 (Le.tru h1 (Le.cond (ih _ hw (a3.1, a3.2)) (Le.cond (Le.tru h1 (ih _ hw ((List.getD e3_1 (Int.toNat i3) (0, (0, (0, (0, (0, ())))))).2.2.1, true))) (Le.tru h1 (Le.cond (Le.tru h1 (ih _ hw ((List.getD e3_1 (Int.toNat i3) (0, (0, (0, (0, (0, ())))))).2.2.1, true))) (ih _ hw (a3.1, true)))))))))
    hX
def ref25_Earliest.w {Ω : Type} (x0 : (List T_s22)) (k : Int × Bool → Option Ω) : Option Ω :=
  bif decide (((List.length x0 : Nat) : Int) ≤ 4611686018427387904) then ref25_Earliest.g0 x0  k x0 0 false else none
theorem ref25_Earliest.le {Ω : Type} (x0 : (List T_s22)) (k : Int × Bool → Option Ω) : Le (ref25_Earliest.w x0 k) (ref25_Earliest.s BIG x0 k) := by
  delta ref25_Earliest.w ref25_Earliest.s ref25_Earliest.sl
  exact (Le.gd fun hg => ref25_Earliest.h0 _   k (le_up (of_decide_eq_true hg)) BIG 0 (0, false) (by decide) (zero_le_len _) (big_list (of_decide_eq_true hg)))
def ref25_Earliest.u (x0 : (List T_s22)) : Option (Int × Bool) := ref25_Earliest.w x0 some
theorem ref25_Earliest.c (x0 : (List T_s22)) (r : Int × Bool) (h : ref25_Earliest.u x0 = some r) : Contract C 25 [(.v (.slice E_s22) (x0))] (tupAV (.int .i64) [.bool] r) :=
  contract_s (S := fun k => ref25_Earliest.s BIG x0 k) C_ok noS_ok (by kernel_rfl) (by kernel_rfl) (by kernel_rfl) (ref25_Earliest.ev BIG x0 (dec (.int .i64) [.bool])) (ref25_Earliest.le x0 some r h)
noncomputable def ref25_Earliest.e : Ent := argI (.slice E_s22) fun x0 => endU (ref25_Earliest.u x0) (tupAV (.int .i64) [.bool])
theorem ref25_Earliest.e_ok : EntOK C 25 (fun {_} => ref25_Earliest.e) := entA_ok (argI_ok fun x0 => endU_ok fun r h => ref25_Earliest.c x0 r h)

/-- becket becketref25.Find -/
noncomputable def ref25_Find.sp : Spec := noS
def ref25_Find.F (fuel : Nat) : Fuel := ⟨fuel, fun r => bif r == 2 then [2, 3, 5, 7, 8, 9, 10, 11, 12, 13, 14, 15, 16, 17, 18, 19, 20, 21, 22, 23, 24] else []⟩
def ref25_Find.E0 (e2_1 : (List T_s22)) (e2_2 : Int) (s2 : Int) : List AV := [(.v (.slice E_s22) (e2_1)), (.v (.int .i64) (e2_2)), .dead, .dead, (.ref 0 []), .dead, (.v (.int .i64) (s2)), .dead, .dead, .dead, .dead, .dead, .dead, .dead, .dead, .dead, .dead, .dead, .dead, .dead, .dead, .dead, .dead, .dead, .dead]
def ref25_Find.H0 (e2_1 : (List T_s22)) (e2_2 : Int) (s2 : Int) : Heap := [(.box E_s22 (0, (0, (0, (0, (0, ()))))) false)]
noncomputable def ref25_Find.M0 {Ω : Type} (fuel : Nat) (e2_1 : (List T_s22)) (e2_2 : Int)  (k : AV → Option Ω) (m : Nat) (s : Int) : Option Ω := loopK (fun env L k => evCode C ref25_Find.sp (ref25_Find.F fuel) (cl (cl (cr (cl (cr (Tryd.f27.body.getD .skip)))))) env L k) [false, false, true, true, false, true, false, true, true, true, true, true, true, true, true, true, true, true, true, true, true, true, true, true, true] 1 (blockK 0 (seqK (fun env L => evCode C ref25_Find.sp (ref25_Find.F fuel) (cr (cr (Tryd.f27.body.getD .skip))) env L (finK C Tryd.f27 k)) (finK C Tryd.f27 k))) m ((ref25_Find.E0 e2_1 e2_2) s) ((ref25_Find.H0 e2_1 e2_2) s)
def ref25_Find.b0 {Ω : Type} (e2_1 : (List T_s22)) (e2_2 : Int)   (k : T_s22 × Bool → Option Ω) (r2 : Int → Option Ω) (s2 : Int) : Option Ω :=
  bif (decide (s2 < ((List.length e2_1 : Nat) : Int))) then
    bif (idxOK s2 (List.length e2_1)) then
      bif ((List.getD e2_1 (Int.toNat s2) (0, (0, (0, (0, (0, ())))))).2.2.2.2.1 == e2_2) then
        bif (idxOK s2 (List.length e2_1)) then
          k ((List.getD e2_1 (Int.toNat s2) (0, (0, (0, (0, (0, ())))))), true)
        else
          none
      else
        r2 ((IntKind.wrap .i64 (s2 + 1)))
    else
      none
  else
    k ((0, (0, (0, (0, (0, ()))))), false)
def ref25_Find.B0 {Ω : Type} (fuel : Nat) (e2_1 : (List T_s22)) (e2_2 : Int)  (k : T_s22 × Bool → Option Ω) (r2 : Int → Option Ω) (s2 : Int) : Option Ω := ref25_Find.b0 e2_1 e2_2   k r2 s2
theorem ref25_Find.l0 {Ω : Type} (fuel : Nat) (e2_1 : (List T_s22)) (e2_2 : Int)  (k : AV → Option Ω) : ∀ m, (ref25_Find.M0 fuel e2_1 e2_2  k m) = iter (ref25_Find.B0 fuel e2_1 e2_2  (fun r => k (tupAV E_s22 [.bool] r))) m :=
  loopK_iter (envOf := (ref25_Find.E0 e2_1 e2_2)) (LOf := (ref25_Find.H0 e2_1 e2_2)) (B := ref25_Find.B0 fuel e2_1 e2_2  (fun r => k (tupAV E_s22 [.bool] r))) (fun R s => by kernel_rfl)
def ref25_Find.sl {Ω : Type} (x0 : (List T_s22)) (x1 : Int) (lp0 : (List T_s22) → Int → Int → Option Ω) (k : T_s22 × Bool → Option Ω) : Option Ω :=
  lp0 x0 x1 (0)
def ref25_Find.s {Ω : Type} (fuel : Nat) (x0 : (List T_s22)) (x1 : Int) (k : T_s22 × Bool → Option Ω) : Option Ω := ref25_Find.sl x0 x1 (fun e2_1 e2_2 => (iter (ref25_Find.B0 fuel e2_1 e2_2  k) fuel)) k
theorem ref25_Find.ev {Ω : Type} (fuel : Nat) (x0 : (List T_s22)) (x1 : Int) (k : AV → Option Ω) : evFn C ref25_Find.sp (ref25_Find.F fuel) Tryd.f27 (Tryd.f27.body.getD .skip) [(.v (.slice E_s22) (x0)), (.v (.int .i64) (x1))] k = ref25_Find.s fuel x0 x1 (fun r => k (tupAV E_s22 [.bool] r)) := by
  have h0 : evFn C ref25_Find.sp (ref25_Find.F fuel) Tryd.f27 (Tryd.f27.body.getD .skip) [(.v (.slice E_s22) (x0)), (.v (.int .i64) (x1))] k = ref25_Find.sl x0 x1 (fun e2_1 e2_2 => (ref25_Find.M0 fuel e2_1 e2_2  k fuel)) (fun r => k (tupAV E_s22 [.bool] r)) := by kernel_rfl
  have h1 : (fun e2_1 e2_2 => (ref25_Find.M0 fuel e2_1 e2_2  k fuel)) = (fun e2_1 e2_2 => (iter (ref25_Find.B0 fuel e2_1 e2_2  (fun r => k (tupAV E_s22 [.bool] r))) fuel)) := funext fun e2_1 => funext fun e2_2 => ref25_Find.l0 fuel e2_1 e2_2   k fuel
  rw [h1] at h0
  exact h0
def ref25_Find.g0 {Ω : Type} (e2_1 : (List T_s22)) (e2_2 : Int)  (k : T_s22 × Bool → Option Ω) : List T_s22 → Option Ω
  | [] =>
    k ((0, (0, (0, (0, (0, ()))))), false)
  | x2 :: xs2 =>
    bif (x2.2.2.2.2.1 == e2_2) then
      k (x2, true)
    else
      ref25_Find.g0 e2_1 e2_2  k xs2
theorem ref25_Find.h0 {Ω : Type} (e2_1 : (List T_s22)) (e2_2 : Int)   (k : T_s22 × Bool → Option Ω) (hX : ((List.length e2_1 : Nat) : Int) ≤ 9223372036854775807) : ∀ (m : Nat) (i : Int) (a : Unit), 0 ≤ i → i ≤ ((List.length e2_1 : Nat) : Int) → ((List.length e2_1 : Nat) : Int) < m + i → Le (ref25_Find.g0 e2_1 e2_2  k (List.drop (Int.toNat i) e2_1) ) (iter (ref25_Find.B0 BIG e2_1 e2_2  k) m (i)) :=
  iter_list e2_1 (0, (0, (0, (0, (0, ()))))) (fun (i2 : Int) (a2 : Unit) => (i2)) (fun xs i2 a2 => ref25_Find.g0 e2_1 e2_2  k xs ) (ref25_Find.B0 BIG e2_1 e2_2  k)
    (fun i2 a2 r h0 => (Le.fls h0 (Le.refl _)))
    (fun i2 xs2 a2 r h0 h1 hw ih => (Le.tru h0 (Le.tru h1 (Le.cond (Le.tru h1 (Le.refl _)) (ih _ hw ())))))
    hX
def ref25_Find.w {Ω : Type} (x0 : (List T_s22)) (x1 : Int) (k : T_s22 × Bool → Option Ω) : Option Ω :=
  bif decide (((List.length x0 : Nat) : Int) ≤ 4611686018427387904) then ref25_Find.g0 x0 x1  k x0  else none
theorem ref25_Find.le {Ω : Type} (x0 : (List T_s22)) (x1 : Int) (k : T_s22 × Bool → Option Ω) : Le (ref25_Find.w x0 x1 k) (ref25_Find.s BIG x0 x1 k) := by
  delta ref25_Find.w ref25_Find.s ref25_Find.sl
  exact (Le.gd fun hg => ref25_Find.h0 _ _   k (le_up (of_decide_eq_true hg)) BIG 0 () (by decide) (zero_le_len _) (big_list (of_decide_eq_true hg)))
def ref25_Find.u (x0 : (List T_s22)) (x1 : Int) : Option (T_s22 × Bool) := ref25_Find.w x0 x1 some
theorem ref25_Find.c (x0 : (List T_s22)) (x1 : Int) (r : T_s22 × Bool) (h : ref25_Find.u x0 x1 = some r) : Contract C 27 [(.v (.slice E_s22) (x0)), (.v (.int .i64) (x1))] (tupAV E_s22 [.bool] r) :=
  contract_s (S := fun k => ref25_Find.s BIG x0 x1 k) C_ok noS_ok (by kernel_rfl) (by kernel_rfl) (by kernel_rfl) (ref25_Find.ev BIG x0 x1 (dec E_s22 [.bool])) (ref25_Find.le x0 x1 some r h)
noncomputable def ref25_Find.e : Ent := argI (.slice E_s22) fun x0 => argI (.int .i64) fun x1 => endU (ref25_Find.u x0 x1) (tupAV E_s22 [.bool])
theorem ref25_Find.e_ok : EntOK C 27 (fun {_} => ref25_Find.e) := entA_ok (argI_ok fun x0 => argI_ok fun x1 => endU_ok fun r h => ref25_Find.c x0 x1 r h)

/-- becket becketlaw25.GuardLists -/
noncomputable def law25_GuardLists.sp : Spec := (orS 27 (fun {_} => ref25_Find.e) (orS 26 (fun {_} => guard_Find.e) (orS 25 (fun {_} => ref25_Earliest.e) (orS 24 (fun {_} => guard_Earliest.e) (orS 23 (fun {_} => ref25_Texts.e) (orS 22 (fun {_} => guard_Texts.e) (orS 21 (fun {_} => ref25_All.e) (orS 20 (fun {_} => guard_All.e) (orS 19 (fun {_} => law25_alive.e) noS)))))))))
noncomputable def law25_GuardLists.s {Ω : Type} (x0 : (List T_s22)) (x1 : Int) (k : Bool → Option Ω) : Option Ω :=
  bif (decide (((List.length x0 : Nat) : Int) > 20)) then
    law25_alive.u.bind fun y1 =>
    k y1
  else
    (guard_All.u x0).bind fun y2 =>
    (ref25_All.u x0).bind fun y3 =>
    (guard_Texts.u x0).bind fun y4 =>
    (ref25_Texts.u x0).bind fun y5 =>
    (guard_Earliest.u x0).bind fun y6 =>
    (ref25_Earliest.u x0).bind fun y7 =>
    (guard_Find.u x0 x1).bind fun y8 =>
    (ref25_Find.u x0 x1).bind fun y9 =>
    bif (y2.1 == y3.1) then
      bif (y2.2 == y3.2) then
        bif ((y4.1).data.toList == (y5.1).data.toList) then
          bif (y4.2 == y5.2) then
            bif (y6.1 == y7.1) then
              bif (eqI .bool y6.2 y7.2) then
                bif (eqI E_s22 y8.1 y9.1) then
                  bif (eqI .bool y8.2 y9.2) then
                    law25_alive.u.bind fun y10 =>
                    k y10
                  else
                    k false
                else
                  k false
              else
                k false
            else
              k false
          else
            k false
        else
          k false
      else
        k false
    else
      k false
theorem law25_GuardLists.ev {Ω : Type} (fuel : Fuel) (x0 : (List T_s22)) (x1 : Int) (k : AV → Option Ω) : evFn CP law25_GuardLists.sp fuel Tryd.f4 (Tryd.f4.body.getD .skip) [(.v (.slice E_s22) (x0)), (.v (.int .i64) (x1))] k = law25_GuardLists.s x0 x1 (fun r => k (tupAV .bool [] r)) := by kernel_rfl
noncomputable def law25_GuardLists.u (x0 : (List T_s22)) (x1 : Int) : Option (Bool) := law25_GuardLists.s x0 x1 some
theorem law25_GuardLists.c (x0 : (List T_s22)) (x1 : Int) (r : Bool) (h : law25_GuardLists.u x0 x1 = some r) : Contract CP 4 [(.v (.slice E_s22) (x0)), (.v (.int .i64) (x1))] (tupAV .bool [] r) :=
  contract_s (S := fun k => law25_GuardLists.s x0 x1 k) CP_ok (orS_ok (ref25_Find.e_ok.mono le_C_CP) (orS_ok (guard_Find.e_ok.mono le_C_CP) (orS_ok (ref25_Earliest.e_ok.mono le_C_CP) (orS_ok (guard_Earliest.e_ok.mono le_C_CP) (orS_ok (ref25_Texts.e_ok.mono le_C_CP) (orS_ok guard_Texts.e_ok (orS_ok (ref25_All.e_ok.mono le_C_CP) (orS_ok (guard_All.e_ok.mono le_C_CP) (orS_ok law25_alive.e_ok noS_ok))))))))) (by kernel_rfl) (by kernel_rfl) (by kernel_rfl) (law25_GuardLists.ev ⟨1, fun _ => []⟩ x0 x1 (dec .bool [])) h
noncomputable def law25_GuardLists.e : Ent := argI (.slice E_s22) fun x0 => argI (.int .i64) fun x1 => endU (law25_GuardLists.u x0 x1) (tupAV .bool [])
theorem law25_GuardLists.e_ok : EntOK CP 4 (fun {_} => law25_GuardLists.e) := entA_ok (argI_ok fun x0 => argI_ok fun x1 => endU_ok fun r h => law25_GuardLists.c x0 x1 r h)

/-- becket becketlaw25.GuardApart -/
noncomputable def law25_GuardApart.sp : Spec := (orS 26 (fun {_} => guard_Find.e) (orS 20 (fun {_} => guard_All.e) (orS 19 (fun {_} => law25_alive.e) (orS 15 (fun {_} => guard_Text.e) noS))))
def law25_GuardApart.F (fuel : Nat) : Fuel := ⟨fuel, fun r => bif r == 6 then [1, 2, 3, 6, 7, 8, 9, 10, 11, 12, 13, 14, 15, 16, 17, 18, 19, 20, 21, 22, 23, 24, 25, 26, 27, 31, 32, 33, 34, 35, 36, 37, 38, 39, 40, 41, 42, 43, 44, 45, 46, 47, 48, 49, 50, 51, 52, 53, 54, 55, 56, 57, 58, 59, 60, 61, 62, 63, 64, 65, 66, 67, 68, 69, 70, 71, 72, 73, 74, 75, 76, 77, 78, 79, 80, 81, 82, 83, 84, 85, 86, 87, 88, 89, 90, 91] else []⟩
def law25_GuardApart.E0 (e6_1 : (List T_s22)) (e6_2 : Int) (e6_3 : T_s22) (e6_4 : T_s22) (s6 : Int) : List AV := [(.v (.slice E_s22) (e6_1)), .dead, .dead, .dead, (.ref 0 []), (.ref 1 []), .dead, .dead, .dead, .dead, .dead, .dead, .dead, .dead, .dead, .dead, .dead, .dead, .dead, .dead, .dead, .dead, .dead, .dead, .dead, .dead, .dead, .dead, (.v (.slice E_s22) (e6_1)), (.v (.int .i64) (e6_2)), (.v (.int .i64) (s6)), .dead, .dead, .dead, .dead, .dead, .dead, .dead, .dead, .dead, .dead, .dead, .dead, .dead, .dead, .dead, .dead, .dead, .dead, .dead, .dead, .dead, .dead, .dead, .dead, .dead, .dead, .dead, .dead, .dead, .dead, .dead, .dead, .dead, .dead, .dead, .dead, .dead, .dead, .dead, .dead, .dead, .dead, .dead, .dead, .dead, .dead, .dead, .dead, .dead, .dead, .dead, .dead, .dead, .dead, .dead, .dead, .dead, .dead, .dead, .dead, .dead]
def law25_GuardApart.H0 (e6_1 : (List T_s22)) (e6_2 : Int) (e6_3 : T_s22) (e6_4 : T_s22) (s6 : Int) : Heap := [(.box E_s22 e6_3 false), (.box E_s22 e6_4 false)]
noncomputable def law25_GuardApart.M0 {Ω : Type} (fuel : Nat) (e6_1 : (List T_s22)) (e6_2 : Int) (e6_3 : T_s22) (e6_4 : T_s22)  (k : AV → Option Ω) (m : Nat) (s : Int) : Option Ω := loopK (fun env L k => evCode CP law25_GuardApart.sp (law25_GuardApart.F fuel) (cl (cl (cr (cl (cr (cr (cl (cr (cr (Tryd.f5.body.getD .skip)))))))))) env L k) [false, true, true, true, false, false, true, true, true, true, true, true, true, true, true, true, true, true, true, true, true, true, true, true, true, true, true, true, false, false, false, true, true, true, true, true, true, true, true, true, true, true, true, true, true, true, true, true, true, true, true, true, true, true, true, true, true, true, true, true, true, true, true, true, true, true, true, true, true, true, true, true, true, true, true, true, true, true, true, true, true, true, true, true, true, true, true, true, true, true, true, true] 2 (blockK 0 (seqK (fun env L => evCode CP law25_GuardApart.sp (law25_GuardApart.F fuel) (cr (cr (cr (Tryd.f5.body.getD .skip)))) env L (finK CP Tryd.f5 k)) (finK CP Tryd.f5 k))) m ((law25_GuardApart.E0 e6_1 e6_2 e6_3 e6_4) s) ((law25_GuardApart.H0 e6_1 e6_2 e6_3 e6_4) s)
def law25_GuardApart.b0 {Ω : Type} (e6_1 : (List T_s22)) (e6_2 : Int) (e6_3 : T_s22) (e6_4 : T_s22)   (k : Bool → Option Ω) (r6 : Int → Option Ω) (s6 : Int) : Option Ω :=
  bif (decide (s6 < e6_2)) then
    bif (idxOK s6 (List.length e6_1)) then
      (guard_Find.u e6_1 ((List.getD e6_1 (Int.toNat s6) (0, (0, (0, (0, (0, ())))))).2.2.2.2.1)).bind fun y3 =>
      bif (!y3.2) then
        k false
      else
        bif (!(eqI E_s22 y3.1 (List.getD e6_1 (Int.toNat s6) (0, (0, (0, (0, (0, ())))))))) then
          k false
        else
          r6 ((IntKind.wrap .i64 (s6 + 1)))
    else
      none
  else
    (guard_Text.u e6_3).bind fun y4 =>
    (guard_Text.u e6_4).bind fun y5 =>
    bif (y4.2 != 0) then
      bif (y4.2 == 0) then
        bif (y5.2 == 0) then
          law25_alive.u.bind fun y6 =>
          k y6
        else
          bif ((y5.1).data.toList == ((bs [])).data.toList) then
            law25_alive.u.bind fun y7 =>
            k y7
          else
            k false
      else
        bif ((y4.1).data.toList == ((bs [])).data.toList) then
          bif (y5.2 == 0) then
            law25_alive.u.bind fun y8 =>
            k y8
          else
            bif ((y5.1).data.toList == ((bs [])).data.toList) then
              law25_alive.u.bind fun y9 =>
              k y9
            else
              k false
        else
          k false
    else
      bif (y5.2 != 0) then
        bif (y4.2 == 0) then
          bif (y5.2 == 0) then
            law25_alive.u.bind fun y10 =>
            k y10
          else
            bif ((y5.1).data.toList == ((bs [])).data.toList) then
              law25_alive.u.bind fun y11 =>
              k y11
            else
              k false
        else
          bif ((y4.1).data.toList == ((bs [])).data.toList) then
            bif (y5.2 == 0) then
              law25_alive.u.bind fun y12 =>
              k y12
            else
              bif ((y5.1).data.toList == ((bs [])).data.toList) then
                law25_alive.u.bind fun y13 =>
                k y13
              else
                k false
          else
            k false
      else
        bif (eqI .bool ((y4.1).data.toList == (y5.1).data.toList) (eqI E_s22 e6_3 e6_4)) then
          law25_alive.u.bind fun y14 =>
          k y14
        else
          k false
def law25_GuardApart.B0 {Ω : Type} (fuel : Nat) (e6_1 : (List T_s22)) (e6_2 : Int) (e6_3 : T_s22) (e6_4 : T_s22)  (k : Bool → Option Ω) (r6 : Int → Option Ω) (s6 : Int) : Option Ω := law25_GuardApart.b0 e6_1 e6_2 e6_3 e6_4   k r6 s6
theorem law25_GuardApart.l0 {Ω : Type} (fuel : Nat) (e6_1 : (List T_s22)) (e6_2 : Int) (e6_3 : T_s22) (e6_4 : T_s22)  (k : AV → Option Ω) : ∀ m, (law25_GuardApart.M0 fuel e6_1 e6_2 e6_3 e6_4  k m) = iter (law25_GuardApart.B0 fuel e6_1 e6_2 e6_3 e6_4  (fun r => k (tupAV .bool [] r))) m :=
  loopK_iter (envOf := (law25_GuardApart.E0 e6_1 e6_2 e6_3 e6_4)) (LOf := (law25_GuardApart.H0 e6_1 e6_2 e6_3 e6_4)) (B := law25_GuardApart.B0 fuel e6_1 e6_2 e6_3 e6_4  (fun r => k (tupAV .bool [] r))) (fun R s => by kernel_rfl)
def law25_GuardApart.sl {Ω : Type} (x0 : (List T_s22)) (x1 : T_s22) (x2 : T_s22) (lp0 : (List T_s22) → Int → T_s22 → T_s22 → Int → Option Ω) (k : Bool → Option Ω) : Option Ω :=
  bif (decide (((List.length x0 : Nat) : Int) > 20)) then
    law25_alive.u.bind fun y1 =>
    k y1
  else
    (guard_All.u x0).bind fun y2 =>
    bif (y2.2 == 0) then
      lp0 x0 (((List.length x0 : Nat) : Int)) x1 x2 (0)
    else
      (guard_Text.u x1).bind fun y15 =>
      (guard_Text.u x2).bind fun y16 =>
      bif (y15.2 != 0) then
        bif (y15.2 == 0) then
          bif (y16.2 == 0) then
            law25_alive.u.bind fun y17 =>
            k y17
          else
            bif ((y16.1).data.toList == ((bs [])).data.toList) then
              law25_alive.u.bind fun y18 =>
              k y18
            else
              k false
        else
          bif ((y15.1).data.toList == ((bs [])).data.toList) then
            bif (y16.2 == 0) then
              law25_alive.u.bind fun y19 =>
              k y19
            else
              bif ((y16.1).data.toList == ((bs [])).data.toList) then
                law25_alive.u.bind fun y20 =>
                k y20
              else
                k false
          else
            k false
      else
        bif (y16.2 != 0) then
          bif (y15.2 == 0) then
            bif (y16.2 == 0) then
              law25_alive.u.bind fun y21 =>
              k y21
            else
              bif ((y16.1).data.toList == ((bs [])).data.toList) then
                law25_alive.u.bind fun y22 =>
                k y22
              else
                k false
          else
            bif ((y15.1).data.toList == ((bs [])).data.toList) then
              bif (y16.2 == 0) then
                law25_alive.u.bind fun y23 =>
                k y23
              else
                bif ((y16.1).data.toList == ((bs [])).data.toList) then
                  law25_alive.u.bind fun y24 =>
                  k y24
                else
                  k false
            else
              k false
        else
          bif (eqI .bool ((y15.1).data.toList == (y16.1).data.toList) (eqI E_s22 x1 x2)) then
            law25_alive.u.bind fun y25 =>
            k y25
          else
            k false
def law25_GuardApart.s {Ω : Type} (fuel : Nat) (x0 : (List T_s22)) (x1 : T_s22) (x2 : T_s22) (k : Bool → Option Ω) : Option Ω := law25_GuardApart.sl x0 x1 x2 (fun e6_1 e6_2 e6_3 e6_4 => (iter (law25_GuardApart.B0 fuel e6_1 e6_2 e6_3 e6_4  k) fuel)) k
theorem law25_GuardApart.ev {Ω : Type} (fuel : Nat) (x0 : (List T_s22)) (x1 : T_s22) (x2 : T_s22) (k : AV → Option Ω) : evFn CP law25_GuardApart.sp (law25_GuardApart.F fuel) Tryd.f5 (Tryd.f5.body.getD .skip) [(.v (.slice E_s22) (x0)), (.v E_s22 (x1)), (.v E_s22 (x2))] k = law25_GuardApart.s fuel x0 x1 x2 (fun r => k (tupAV .bool [] r)) := by
  have h0 : evFn CP law25_GuardApart.sp (law25_GuardApart.F fuel) Tryd.f5 (Tryd.f5.body.getD .skip) [(.v (.slice E_s22) (x0)), (.v E_s22 (x1)), (.v E_s22 (x2))] k = law25_GuardApart.sl x0 x1 x2 (fun e6_1 e6_2 e6_3 e6_4 => (law25_GuardApart.M0 fuel e6_1 e6_2 e6_3 e6_4  k fuel)) (fun r => k (tupAV .bool [] r)) := by kernel_rfl
  have h1 : (fun e6_1 e6_2 e6_3 e6_4 => (law25_GuardApart.M0 fuel e6_1 e6_2 e6_3 e6_4  k fuel)) = (fun e6_1 e6_2 e6_3 e6_4 => (iter (law25_GuardApart.B0 fuel e6_1 e6_2 e6_3 e6_4  (fun r => k (tupAV .bool [] r))) fuel)) := funext fun e6_1 => funext fun e6_2 => funext fun e6_3 => funext fun e6_4 => law25_GuardApart.l0 fuel e6_1 e6_2 e6_3 e6_4   k fuel
  rw [h1] at h0
  exact h0
def law25_GuardApart.g0 {Ω : Type} (e6_1 : (List T_s22)) (e6_3 : T_s22) (e6_4 : T_s22)  (k : Bool → Option Ω) : List T_s22 → Option Ω
  | [] =>
    (guard_Text.u e6_3).bind fun y4 =>
    (guard_Text.u e6_4).bind fun y5 =>
    bif (y4.2 != 0) then
      bif (y4.2 == 0) then
        bif (y5.2 == 0) then
          law25_alive.u.bind fun y6 =>
          k y6
        else
          bif ((y5.1).data.toList == ((bs [])).data.toList) then
            law25_alive.u.bind fun y7 =>
            k y7
          else
            k false
      else
        bif ((y4.1).data.toList == ((bs [])).data.toList) then
          bif (y5.2 == 0) then
            law25_alive.u.bind fun y8 =>
            k y8
          else
            bif ((y5.1).data.toList == ((bs [])).data.toList) then
              law25_alive.u.bind fun y9 =>
              k y9
            else
              k false
        else
          k false
    else
      bif (y5.2 != 0) then
        bif (y4.2 == 0) then
          bif (y5.2 == 0) then
            law25_alive.u.bind fun y10 =>
            k y10
          else
            bif ((y5.1).data.toList == ((bs [])).data.toList) then
              law25_alive.u.bind fun y11 =>
              k y11
            else
              k false
        else
          bif ((y4.1).data.toList == ((bs [])).data.toList) then
            bif (y5.2 == 0) then
              law25_alive.u.bind fun y12 =>
              k y12
            else
              bif ((y5.1).data.toList == ((bs [])).data.toList) then
                law25_alive.u.bind fun y13 =>
                k y13
              else
                k false
          else
            k false
      else
        bif (eqI .bool ((y4.1).data.toList == (y5.1).data.toList) (eqI E_s22 e6_3 e6_4)) then
          law25_alive.u.bind fun y14 =>
          k y14
        else
          k false
  | x6 :: xs6 =>
    (guard_Find.u e6_1 (x6.2.2.2.2.1)).bind fun y3 =>
    bif (!y3.2) then
      k false
    else
      bif (!(eqI E_s22 y3.1 x6)) then
        k false
      else
        law25_GuardApart.g0 e6_1 e6_3 e6_4  k xs6
theorem law25_GuardApart.h0 {Ω : Type} (e6_1 : (List T_s22)) (e6_3 : T_s22) (e6_4 : T_s22)   (k : Bool → Option Ω) (hX : ((List.length e6_1 : Nat) : Int) ≤ 9223372036854775807) : ∀ (m : Nat) (i : Int) (a : Unit), 0 ≤ i → i ≤ ((List.length e6_1 : Nat) : Int) → ((List.length e6_1 : Nat) : Int) < m + i → Le (law25_GuardApart.g0 e6_1 e6_3 e6_4  k (List.drop (Int.toNat i) e6_1) ) (iter (law25_GuardApart.B0 BIG e6_1 (((List.length e6_1 : Nat) : Int)) e6_3 e6_4  k) m (i)) :=
  iter_list e6_1 (0, (0, (0, (0, (0, ()))))) (fun (i6 : Int) (a6 : Unit) => (i6)) (fun xs i6 a6 => law25_GuardApart.g0 e6_1 e6_3 e6_4  k xs ) (law25_GuardApart.B0 BIG e6_1 (((List.length e6_1 : Nat) : Int)) e6_3 e6_4  k)
    (fun i6 a6 r h0 => (Le.fls h0 (Le.bnd fun y4 => (Le.bnd fun y5 => (Le.cond (Le.cond (Le.cond (Le.bnd fun y6 => (Le.refl _)) (Le.cond (Le.bnd fun y7 => (Le.refl _)) (Le.refl _))) (Le.cond (Le.cond (Le.bnd fun y8 => (Le.refl _)) (Le.cond (Le.bnd fun y9 => (Le.refl _)) (Le.refl _))) (Le.refl _))) (Le.cond (Le.cond (Le.cond (Le.bnd fun y10 => (Le.refl _)) (Le.cond (Le.bnd fun y11 => (Le.refl _)) (Le.refl _))) (Le.cond (Le.cond (Le.bnd fun y12 => (Le.refl _)) (Le.cond (Le.bnd fun y13 => (Le.refl _)) (Le.refl _))) (Le.refl _))) (Le.cond (Le.bnd fun y14 => (Le.refl _)) (Le.refl _))))))))
    (fun i6 xs6 a6 r h0 h1 hw ih => (Le.tru h0 (Le.tru h1 (Le.bnd fun y3 => (Le.cond (Le.refl _) (Le.cond (Le.refl _) (ih _ hw ())))))))
    hX
def law25_GuardApart.w {Ω : Type} (x0 : (List T_s22)) (x1 : T_s22) (x2 : T_s22) (k : Bool → Option Ω) : Option Ω :=
  bif (decide (((List.length x0 : Nat) : Int) > 20)) then
    law25_alive.u.bind fun y1 =>
    k y1
  else
    (guard_All.u x0).bind fun y2 =>
    bif (y2.2 == 0) then
      bif decide (((List.length x0 : Nat) : Int) ≤ 4611686018427387904) then law25_GuardApart.g0 x0 x1 x2  k x0  else none
    else
      (guard_Text.u x1).bind fun y15 =>
      (guard_Text.u x2).bind fun y16 =>
      bif (y15.2 != 0) then
        bif (y15.2 == 0) then
          bif (y16.2 == 0) then
            law25_alive.u.bind fun y17 =>
            k y17
          else
            bif ((y16.1).data.toList == ((bs [])).data.toList) then
              law25_alive.u.bind fun y18 =>
              k y18
            else
              k false
        else
          bif ((y15.1).data.toList == ((bs [])).data.toList) then
            bif (y16.2 == 0) then
              law25_alive.u.bind fun y19 =>
              k y19
            else
              bif ((y16.1).data.toList == ((bs [])).data.toList) then
                law25_alive.u.bind fun y20 =>
                k y20
              else
                k false
          else
            k false
      else
        bif (y16.2 != 0) then
          bif (y15.2 == 0) then
            bif (y16.2 == 0) then
              law25_alive.u.bind fun y21 =>
              k y21
            else
              bif ((y16.1).data.toList == ((bs [])).data.toList) then
                law25_alive.u.bind fun y22 =>
                k y22
              else
                k false
          else
            bif ((y15.1).data.toList == ((bs [])).data.toList) then
              bif (y16.2 == 0) then
                law25_alive.u.bind fun y23 =>
                k y23
              else
                bif ((y16.1).data.toList == ((bs [])).data.toList) then
                  law25_alive.u.bind fun y24 =>
                  k y24
                else
                  k false
            else
              k false
        else
          bif (eqI .bool ((y15.1).data.toList == (y16.1).data.toList) (eqI E_s22 x1 x2)) then
            law25_alive.u.bind fun y25 =>
            k y25
          else
            k false
theorem law25_GuardApart.le {Ω : Type} (x0 : (List T_s22)) (x1 : T_s22) (x2 : T_s22) (k : Bool → Option Ω) : Le (law25_GuardApart.w x0 x1 x2 k) (law25_GuardApart.s BIG x0 x1 x2 k) := by
  delta law25_GuardApart.w law25_GuardApart.s law25_GuardApart.sl
  exact (Le.cond (Le.bnd fun y1 => (Le.refl _)) (Le.bnd fun y2 => (Le.cond (Le.gd fun hg => law25_GuardApart.h0 _ _ _   k (le_up (of_decide_eq_true hg)) BIG 0 () (by decide) (zero_le_len _) (big_list (of_decide_eq_true hg))) (Le.bnd fun y15 => (Le.bnd fun y16 => (Le.cond (Le.cond (Le.cond (Le.bnd fun y17 => (Le.refl _)) (Le.cond (Le.bnd fun y18 => (Le.refl _)) (Le.refl _))) (Le.cond (Le.cond (Le.bnd fun y19 => (Le.refl _)) (Le.cond (Le.bnd fun y20 => (Le.refl _)) (Le.refl _))) (Le.refl _))) (Le.cond (Le.cond (Le.cond (Le.bnd fun y21 => (Le.refl _)) (Le.cond (Le.bnd fun y22 => (Le.refl _)) (Le.refl _))) (Le.cond (Le.cond (Le.bnd fun y23 => (Le.refl _)) (Le.cond (Le.bnd fun y24 => (Le.refl _)) (Le.refl _))) (Le.refl _))) (Le.cond (Le.bnd fun y25 => (Le.refl _)) (Le.refl _)))))))))
def law25_GuardApart.u (x0 : (List T_s22)) (x1 : T_s22) (x2 : T_s22) : Option (Bool) := law25_GuardApart.w x0 x1 x2 some
theorem law25_GuardApart.c (x0 : (List T_s22)) (x1 : T_s22) (x2 : T_s22) (r : Bool) (h : law25_GuardApart.u x0 x1 x2 = some r) : Contract CP 5 [(.v (.slice E_s22) (x0)), (.v E_s22 (x1)), (.v E_s22 (x2))] (tupAV .bool [] r) :=
  contract_s (S := fun k => law25_GuardApart.s BIG x0 x1 x2 k) CP_ok (orS_ok (guard_Find.e_ok.mono le_C_CP) (orS_ok (guard_All.e_ok.mono le_C_CP) (orS_ok law25_alive.e_ok (orS_ok guard_Text.e_ok noS_ok)))) (by kernel_rfl) (by kernel_rfl) (by kernel_rfl) (law25_GuardApart.ev BIG x0 x1 x2 (dec .bool [])) (law25_GuardApart.le x0 x1 x2 some r h)
noncomputable def law25_GuardApart.e : Ent := argI (.slice E_s22) fun x0 => argI E_s22 fun x1 => argI E_s22 fun x2 => endU (law25_GuardApart.u x0 x1 x2) (tupAV .bool [])
theorem law25_GuardApart.e_ok : EntOK CP 5 (fun {_} => law25_GuardApart.e) := entA_ok (argI_ok fun x0 => argI_ok fun x1 => argI_ok fun x2 => endU_ok fun r h => law25_GuardApart.c x0 x1 x2 r h)

end Go.Proofs.YtfihhbgppgkafaaDoor.K

/- What functions of the program come to, plainly. -/
import Derived.Test.YthamolhikhcilaaDoorZ12a
set_option maxRecDepth 100000
set_option linter.unusedVariables false
namespace Go.Proofs.YthamolhikhcilaaDoor.K
open Go Go.RowKit

/-- becket becketref12.Bytes -/
noncomputable def ref12_Bytes.sp : Spec := (orS 36 (fun {_} => ref12_Fine.e) noS)
def ref12_Bytes.F (fuel : Nat) : Fuel := ⟨fuel, fun r => bif r == 5 then [1, 2, 5, 6, 7, 8, 9, 10, 11, 12, 13, 14, 15, 16, 17, 18, 19, 20, 21, 22, 23, 24, 25, 26, 27, 28, 29, 30, 31, 32, 33, 34, 35, 36, 37, 38, 39, 40, 41, 42] else []⟩
def ref12_Bytes.E0 (e5_1 : (List T_s50)) (s5 : Int × (List Int)) : List AV := [(.v (.slice E_s50) (e5_1)), .dead, .dead, (.rs 0), (.v (.int .i64) (s5.1)), .dead, .dead, .dead, .dead, .dead, .dead, .dead, .dead, .dead, .dead, .dead, .dead, .dead, .dead, .dead, .dead, .dead, .dead, .dead, .dead, .dead, .dead, .dead, .dead, .dead, .dead, .dead, .dead, .dead, .dead, .dead, .dead, .dead, .dead, .dead, .dead, .dead, .dead]
def ref12_Bytes.H0 (e5_1 : (List T_s50)) (s5 : Int × (List Int)) : Heap := [(.row 5 (.int .u8) s5.2 false)]
noncomputable def ref12_Bytes.M0 {Ω : Type} (fuel : Nat) (e5_1 : (List T_s50))  (k : AV → Option Ω) (m : Nat) (s : Int × (List Int)) : Option Ω := loopK (fun env L k => evCode C ref12_Bytes.sp (ref12_Bytes.F fuel) (cl (cl (cr (cl (cr (cr (cr (Tryd.f16.body.getD .skip)))))))) env L k) [false, true, true, false, false, true, true, true, true, true, true, true, true, true, true, true, true, true, true, true, true, true, true, true, true, true, true, true, true, true, true, true, true, true, true, true, true, true, true, true, true, true, true] 1 (blockK 0 (seqK (fun env L => evCode C ref12_Bytes.sp (ref12_Bytes.F fuel) (cr (cr (cr (cr (Tryd.f16.body.getD .skip))))) env L (finK C Tryd.f16 k)) (finK C Tryd.f16 k))) m ((ref12_Bytes.E0 e5_1) s) ((ref12_Bytes.H0 e5_1) s)
def ref12_Bytes.b0 {Ω : Type} (e5_1 : (List T_s50))   (k : ByteArray → Option Ω) (r5 : Int × (List Int) → Option Ω) (s5 : Int × (List Int)) : Option Ω :=
  bif (decide (s5.1 < ((List.length e5_1 : Nat) : Int))) then
    bif (idxOK s5.1 (List.length e5_1)) then
      bif (idxOK s5.1 (List.length e5_1)) then
        bif (idxOK s5.1 (List.length e5_1)) then
          bif (idxOK s5.1 (List.length e5_1)) then
            bif (decide (List.length s5.2 + List.length [(List.getD e5_1 (Int.toNat s5.1) (0, (0, (0, (0, ()))))).1, (List.getD e5_1 (Int.toNat s5.1) (0, (0, (0, (0, ()))))).2.1, (List.getD e5_1 (Int.toNat s5.1) (0, (0, (0, (0, ()))))).2.2.1, (List.getD e5_1 (Int.toNat s5.1) (0, (0, (0, (0, ()))))).2.2.2.1] ≤ rowMax)) then
              r5 ((IntKind.wrap .i64 (s5.1 + 1)), (s5.2 ++ [(List.getD e5_1 (Int.toNat s5.1) (0, (0, (0, (0, ()))))).1, (List.getD e5_1 (Int.toNat s5.1) (0, (0, (0, (0, ()))))).2.1, (List.getD e5_1 (Int.toNat s5.1) (0, (0, (0, (0, ()))))).2.2.1, (List.getD e5_1 (Int.toNat s5.1) (0, (0, (0, (0, ()))))).2.2.2.1]))
            else
              none
          else
            none
        else
          none
      else
        none
    else
      none
  else
    k (ofBytes s5.2)
def ref12_Bytes.B0 {Ω : Type} (fuel : Nat) (e5_1 : (List T_s50))  (k : ByteArray → Option Ω) (r5 : Int × (List Int) → Option Ω) (s5 : Int × (List Int)) : Option Ω := ref12_Bytes.b0 e5_1   k r5 s5
theorem ref12_Bytes.l0 {Ω : Type} (fuel : Nat) (e5_1 : (List T_s50))  (k : AV → Option Ω) : ∀ m, (ref12_Bytes.M0 fuel e5_1  k m) = iter (ref12_Bytes.B0 fuel e5_1  (fun r => k (tupAV .str [] r))) m :=
  loopK_iter (envOf := (ref12_Bytes.E0 e5_1)) (LOf := (ref12_Bytes.H0 e5_1)) (B := ref12_Bytes.B0 fuel e5_1  (fun r => k (tupAV .str [] r))) (fun R s => by kernel_rfl)
def ref12_Bytes.sl {Ω : Type} (x0 : (List T_s50)) (lp0 : (List T_s50) → Int × (List Int) → Option Ω) (k : ByteArray → Option Ω) : Option Ω :=
  (ref12_Fine.u x0).bind fun y1 =>
  bif (!y1) then
    k (bs [])
  else
    lp0 x0 (0, [(IntKind.wrap .u8 ((List.length x0 : Nat) : Int))])
def ref12_Bytes.s {Ω : Type} (fuel : Nat) (x0 : (List T_s50)) (k : ByteArray → Option Ω) : Option Ω := ref12_Bytes.sl x0 (fun e5_1 => (iter (ref12_Bytes.B0 fuel e5_1  k) fuel)) k
theorem ref12_Bytes.ev {Ω : Type} (fuel : Nat) (x0 : (List T_s50)) (k : AV → Option Ω) : evFn C ref12_Bytes.sp (ref12_Bytes.F fuel) Tryd.f16 (Tryd.f16.body.getD .skip) [(.v (.slice E_s50) (x0))] k = ref12_Bytes.s fuel x0 (fun r => k (tupAV .str [] r)) := by
  have h0 : evFn C ref12_Bytes.sp (ref12_Bytes.F fuel) Tryd.f16 (Tryd.f16.body.getD .skip) [(.v (.slice E_s50) (x0))] k = ref12_Bytes.sl x0 (fun e5_1 => (ref12_Bytes.M0 fuel e5_1  k fuel)) (fun r => k (tupAV .str [] r)) := by kernel_rfl
  have h1 : (fun e5_1 => (ref12_Bytes.M0 fuel e5_1  k fuel)) = (fun e5_1 => (iter (ref12_Bytes.B0 fuel e5_1  (fun r => k (tupAV .str [] r))) fuel)) := funext fun e5_1 => ref12_Bytes.l0 fuel e5_1   k fuel
  rw [h1] at h0
  exact h0
def ref12_Bytes.g0 {Ω : Type} (e5_1 : (List T_s50))  (k : ByteArray → Option Ω) : List T_s50 → (List Int) → Option Ω
  | [], a5_1 =>
    k (ofBytes a5_1)
  | x5 :: xs5, a5_1 =>
    bif (decide (List.length a5_1 + List.length [x5.1, x5.2.1, x5.2.2.1, x5.2.2.2.1] ≤ rowMax)) then
      ref12_Bytes.g0 e5_1  k xs5 (a5_1 ++ [x5.1, x5.2.1, x5.2.2.1, x5.2.2.2.1])
    else
      none
theorem ref12_Bytes.h0 {Ω : Type} (e5_1 : (List T_s50))   (k : ByteArray → Option Ω) (hX : ((List.length e5_1 : Nat) : Int) ≤ 9223372036854775807) : ∀ (m : Nat) (i : Int) (a : (List Int)), 0 ≤ i → i ≤ ((List.length e5_1 : Nat) : Int) → ((List.length e5_1 : Nat) : Int) < m + i → Le (ref12_Bytes.g0 e5_1  k (List.drop (Int.toNat i) e5_1) a) (iter (ref12_Bytes.B0 BIG e5_1  k) m (i, a)) :=
  iter_list e5_1 (0, (0, (0, (0, ())))) (fun (i5 : Int) (a5 : (List Int)) => (i5, a5)) (fun xs i5 a5 => ref12_Bytes.g0 e5_1  k xs a5) (ref12_Bytes.B0 BIG e5_1  k)
    (fun i5 a5 r h0 => (Le.fls h0 (Le.refl _)))
    (fun i5 xs5 a5 r h0 h1 hw ih => (Le.tru h0 (Le.tru h1 (Le.tru h1 (Le.tru h1 (Le.tru h1 (Le.cond (ih _ hw ((a5 ++ [(List.getD e5_1 (Int.toNat i5) (0, (0, (0, (0, ()))))).1, (List.getD e5_1 (Int.toNat i5) (0, (0, (0, (0, ()))))).2.1, (List.getD e5_1 (Int.toNat i5) (0, (0, (0, (0, ()))))).2.2.1, (List.getD e5_1 (Int.toNat i5) (0, (0, (0, (0, ()))))).2.2.2.1]))) Le.nil)))))))
    hX
def ref12_Bytes.w {Ω : Type} (x0 : (List T_s50)) (k : ByteArray → Option Ω) : Option Ω :=
  (ref12_Fine.u x0).bind fun y1 =>
  bif (!y1) then
    k (bs [])
  else
    bif decide (((List.length x0 : Nat) : Int) ≤ 4611686018427387904) then ref12_Bytes.g0 x0  k x0 ([(IntKind.wrap .u8 ((List.length x0 : Nat) : Int))]) else none
theorem ref12_Bytes.le {Ω : Type} (x0 : (List T_s50)) (k : ByteArray → Option Ω) : Le (ref12_Bytes.w x0 k) (ref12_Bytes.s BIG x0 k) := by
  delta ref12_Bytes.w ref12_Bytes.s ref12_Bytes.sl
  exact (Le.bnd fun y1 => (Le.cond (Le.refl _) (Le.gd fun hg => ref12_Bytes.h0 _   k (le_up (of_decide_eq_true hg)) BIG 0 ([(IntKind.wrap .u8 ((List.length x0 : Nat) : Int))]) (by decide) (zero_le_len _) (big_list (of_decide_eq_true hg)))))
def ref12_Bytes.u (x0 : (List T_s50)) : Option (ByteArray) := ref12_Bytes.w x0 some
theorem ref12_Bytes.c (x0 : (List T_s50)) (r : ByteArray) (h : ref12_Bytes.u x0 = some r) : Contract C 16 [(.v (.slice E_s50) (x0))] (tupAV .str [] r) :=
  contract_s (S := fun k => ref12_Bytes.s BIG x0 k) C_ok (orS_ok ref12_Fine.e_ok noS_ok) (by kernel_rfl) (by kernel_rfl) (by kernel_rfl) (ref12_Bytes.ev BIG x0 (dec .str [])) (ref12_Bytes.le x0 some r h)
noncomputable def ref12_Bytes.e : Ent := argI (.slice E_s50) fun x0 => endU (ref12_Bytes.u x0) (tupAV .str [])
theorem ref12_Bytes.e_ok : EntOK C 16 (fun {_} => ref12_Bytes.e) := entA_ok (argI_ok fun x0 => endU_ok fun r h => ref12_Bytes.c x0 r h)

/-- becket becketref12.Next -/
noncomputable def ref12_Next.sp : Spec := (orS 45 (fun {_} => ref10_Place.e) (orS 44 (fun {_} => ref09_Of.e) (orS 37 (fun {_} => ref12_Alting.e) (orS 36 (fun {_} => ref12_Fine.e) noS))))
def ref12_Next.s {Ω : Type} (x0 : (List T_s50)) (x1 : Int) (k : (List Int) → Option Ω) : Option Ω :=
  bif (decide (x1 < 0)) then
    k []
  else
    bif (decide (x1 ≥ ((List.length x0 : Nat) : Int))) then
      k []
    else
      (ref12_Fine.u x0).bind fun y1 =>
      bif (!y1) then
        k []
      else
        bif (idxOK x1 (List.length x0)) then
          (ref09_Of.u ((IntKind.wrap .i64 (List.getD x0 (Int.toNat x1) (0, (0, (0, (0, ()))))).1))).bind fun y2 =>
          bif ((y2.1).data.toList == ((bs [104, 97, 108, 116])).data.toList) then
            k []
          else
            bif ((y2.1).data.toList == ((bs [102, 97, 105, 108])).data.toList) then
              k []
            else
              bif ((y2.1).data.toList == ((bs [114, 101, 116])).data.toList) then
                k []
              else
                bif (ref12_Alting.t ((List.getD x0 (Int.toNat x1) (0, (0, (0, (0, ()))))))) then
                  let v3 : Int := (IntKind.wrap .i64 ((IntKind.wrap .i64 (x1 + 1)) + (IntKind.wrap .i64 (List.getD x0 (Int.toNat x1) (0, (0, (0, (0, ()))))).2.2.2.1)))
                  k [v3]
                else
                  (ref10_Place.u ((List.getD x0 (Int.toNat x1) (0, (0, (0, (0, ()))))))).bind fun y4 =>
                  bif ((y2.1).data.toList == ((bs [106, 109, 112])).data.toList) then
                    k [y4.1]
                  else
                    bif (!y4.2) then
                      k [(IntKind.wrap .i64 (x1 + 1))]
                    else
                      bif (y4.1 == (IntKind.wrap .i64 (x1 + 1))) then
                        k [(IntKind.wrap .i64 (x1 + 1))]
                      else
                        let v5 : Int := (if ((IntKind.wrap .i64 (x1 + 1)) : Int) < y4.1 then (IntKind.wrap .i64 (x1 + 1)) else y4.1)
                        let v6 : Int := (if ((IntKind.wrap .i64 (x1 + 1)) : Int) > y4.1 then (IntKind.wrap .i64 (x1 + 1)) else y4.1)
                        k [v5, v6]
        else
          none
theorem ref12_Next.ev {Ω : Type} (fuel : Fuel) (x0 : (List T_s50)) (x1 : Int) (k : AV → Option Ω) : evFn C ref12_Next.sp fuel Tryd.f21 (Tryd.f21.body.getD .skip) [(.v (.slice E_s50) (x0)), (.v (.int .i64) (x1))] k = ref12_Next.s x0 x1 (fun r => k (tupAV (.slice (.int .i64)) [] r)) := by kernel_rfl
def ref12_Next.u (x0 : (List T_s50)) (x1 : Int) : Option ((List Int)) := ref12_Next.s x0 x1 some
theorem ref12_Next.c (x0 : (List T_s50)) (x1 : Int) (r : (List Int)) (h : ref12_Next.u x0 x1 = some r) : Contract C 21 [(.v (.slice E_s50) (x0)), (.v (.int .i64) (x1))] (tupAV (.slice (.int .i64)) [] r) :=
  contract_s (S := fun k => ref12_Next.s x0 x1 k) C_ok (orS_ok ref10_Place.e_ok (orS_ok ref09_Of.e_ok (orS_ok ref12_Alting.e_ok (orS_ok ref12_Fine.e_ok noS_ok)))) (by kernel_rfl) (by kernel_rfl) (by kernel_rfl) (ref12_Next.ev ⟨1, fun _ => []⟩ x0 x1 (dec (.slice (.int .i64)) [])) h
noncomputable def ref12_Next.e : Ent := argI (.slice E_s50) fun x0 => argI (.int .i64) fun x1 => endU (ref12_Next.u x0 x1) (tupAV (.slice (.int .i64)) [])
theorem ref12_Next.e_ok : EntOK C 21 (fun {_} => ref12_Next.e) := entA_ok (argI_ok fun x0 => argI_ok fun x1 => endU_ok fun r h => ref12_Next.c x0 x1 r h)

/-- becket becketref12.Reach -/
noncomputable def ref12_Reach.sp : Spec := (orS 36 (fun {_} => ref12_Fine.e) (orS 21 (fun {_} => ref12_Next.e) noS))
def ref12_Reach.F (fuel : Nat) : Fuel := ⟨fuel, fun r => bif r == 14 then [1, 2, 8, 9, 10, 11, 12, 13, 14, 15, 16, 17, 18, 19, 20, 21, 22, 23, 24, 25, 26, 27, 28, 29, 30, 31, 32, 33, 34, 35, 36, 37, 38, 39, 40, 41, 42, 43, 44, 45, 46, 47, 48, 49, 50, 51, 52, 53, 54, 55] else bif r == 9 then [1, 2, 6, 7, 8, 9, 10, 11, 12, 13, 14, 15, 16, 17, 18, 19, 20, 21, 22, 23, 24, 25, 26, 27, 28, 29, 30, 31, 32, 33, 34, 35, 36, 37, 38, 39, 40, 41, 42, 43, 44, 45, 46, 47, 48, 49, 50, 51, 52, 53, 54, 55] else bif r == 6 then [1, 2, 5, 6, 7, 8, 9, 10, 11, 12, 13, 14, 15, 16, 17, 18, 19, 20, 21, 22, 23, 24, 25, 26, 27, 28, 29, 30, 31, 32, 33, 34, 35, 36, 37, 38, 39, 40, 41, 42, 43, 44, 45, 46, 47, 48, 49, 50, 51, 52, 53, 54, 55] else []⟩
def ref12_Reach.E0 (e6_1 : (List T_s50)) (e9_1 : Int) (e14_1 : Int) (e14_2 : (List Int)) (s14 : Int × (List Bool)) : List AV := [(.v (.slice E_s50) (e6_1)), .dead, .dead, (.rs 1), (.v (.int .i64) (e9_1)), (.v (.int .i64) (e14_1)), (.v (.slice (.int .i64)) (e14_2)), (.v (.int .i64) (s14.1)), .dead, .dead, .dead, .dead, .dead, .dead, .dead, .dead, .dead, .dead, .dead, .dead, .dead, .dead, .dead, .dead, .dead, .dead, .dead, .dead, .dead, .dead, .dead, .dead, .dead, .dead, .dead, .dead, .dead, .dead, .dead, .dead, .dead, .dead, .dead, .dead, .dead, .dead, .dead, .dead, .dead, .dead, .dead, .dead, .dead, .dead, .dead, .dead]
def ref12_Reach.H0 (e6_1 : (List T_s50)) (e9_1 : Int) (e14_1 : Int) (e14_2 : (List Int)) (s14 : Int × (List Bool)) : Heap := [(.row 4 .bool [] false), (.row 4 .bool s14.2 false)]
noncomputable def ref12_Reach.M0 {Ω : Type} (fuel : Nat) (e6_1 : (List T_s50)) (e9_1 : Int) (e14_1 : Int) (e14_2 : (List Int)) (R9 : List AV → Heap → Option Ω) (R6 : List AV → Heap → Option Ω) (k : AV → Option Ω) (m : Nat) (s : Int × (List Bool)) : Option Ω := loopK (fun env L k => evCode C ref12_Reach.sp (ref12_Reach.F fuel) (cl (cl (cr (cr (cr (cl (cl (cr (cl (cl (cr (cl (cl (cr (cl (cl (cr (cl (cr (cr (cr (cr (Tryd.f18.body.getD .skip))))))))))))))))))))))) env L k) [false, true, true, false, false, false, false, false, true, true, true, true, true, true, true, true, true, true, true, true, true, true, true, true, true, true, true, true, true, true, true, true, true, true, true, true, true, true, true, true, true, true, true, true, true, true, true, true, true, true, true, true, true, true, true, true] 2 (blockK 4 (blockK 3 (seqK (fun env L => evCode C ref12_Reach.sp (ref12_Reach.F fuel) (cr (cr (cl (cl (cr (cl (cl (cr (cl (cl (cr (cl (cr (cr (cr (cr (Tryd.f18.body.getD .skip))))))))))))))))) env L (loopC R9 [false, true, true, false, false, false, true, true, true, true, true, true, true, true, true, true, true, true, true, true, true, true, true, true, true, true, true, true, true, true, true, true, true, true, true, true, true, true, true, true, true, true, true, true, true, true, true, true, true, true, true, true, true, true, true, true] 2 (blockK 2 (blockK 1 (seqK (fun env L => evCode C ref12_Reach.sp (ref12_Reach.F fuel) (cr (cr (cl (cl (cr (cl (cr (cr (cr (cr (Tryd.f18.body.getD .skip))))))))))) env L (loopC R6 [false, true, true, false, false, true, true, true, true, true, true, true, true, true, true, true, true, true, true, true, true, true, true, true, true, true, true, true, true, true, true, true, true, true, true, true, true, true, true, true, true, true, true, true, true, true, true, true, true, true, true, true, true, true, true, true] 2 (blockK 0 (seqK (fun env L => evCode C ref12_Reach.sp (ref12_Reach.F fuel) (cr (cr (cr (cr (cr (Tryd.f18.body.getD .skip)))))) env L (finK C Tryd.f18 k)) (finK C Tryd.f18 k))))) (loopC R6 [false, true, true, false, false, true, true, true, true, true, true, true, true, true, true, true, true, true, true, true, true, true, true, true, true, true, true, true, true, true, true, true, true, true, true, true, true, true, true, true, true, true, true, true, true, true, true, true, true, true, true, true, true, true, true, true] 2 (blockK 0 (seqK (fun env L => evCode C ref12_Reach.sp (ref12_Reach.F fuel) (cr (cr (cr (cr (cr (Tryd.f18.body.getD .skip)))))) env L (finK C Tryd.f18 k)) (finK C Tryd.f18 k))))))))) (loopC R9 [false, true, true, false, false, false, true, true, true, true, true, true, true, true, true, true, true, true, true, true, true, true, true, true, true, true, true, true, true, true, true, true, true, true, true, true, true, true, true, true, true, true, true, true, true, true, true, true, true, true, true, true, true, true, true, true] 2 (blockK 2 (blockK 1 (seqK (fun env L => evCode C ref12_Reach.sp (ref12_Reach.F fuel) (cr (cr (cl (cl (cr (cl (cr (cr (cr (cr (Tryd.f18.body.getD .skip))))))))))) env L (loopC R6 [false, true, true, false, false, true, true, true, true, true, true, true, true, true, true, true, true, true, true, true, true, true, true, true, true, true, true, true, true, true, true, true, true, true, true, true, true, true, true, true, true, true, true, true, true, true, true, true, true, true, true, true, true, true, true, true] 2 (blockK 0 (seqK (fun env L => evCode C ref12_Reach.sp (ref12_Reach.F fuel) (cr (cr (cr (cr (cr (Tryd.f18.body.getD .skip)))))) env L (finK C Tryd.f18 k)) (finK C Tryd.f18 k))))) (loopC R6 [false, true, true, false, false, true, true, true, true, true, true, true, true, true, true, true, true, true, true, true, true, true, true, true, true, true, true, true, true, true, true, true, true, true, true, true, true, true, true, true, true, true, true, true, true, true, true, true, true, true, true, true, true, true, true, true] 2 (blockK 0 (seqK (fun env L => evCode C ref12_Reach.sp (ref12_Reach.F fuel) (cr (cr (cr (cr (cr (Tryd.f18.body.getD .skip)))))) env L (finK C Tryd.f18 k)) (finK C Tryd.f18 k))))))))))) m ((ref12_Reach.E0 e6_1 e9_1 e14_1 e14_2) s) ((ref12_Reach.H0 e6_1 e9_1 e14_1 e14_2) s)
def ref12_Reach.E1 (e6_1 : (List T_s50)) (e9_1 : Int) (s9 : Int × (List Bool)) : List AV := [(.v (.slice E_s50) (e6_1)), .dead, .dead, (.rs 1), (.v (.int .i64) (e9_1)), (.v (.int .i64) (s9.1)), .dead, .dead, .dead, .dead, .dead, .dead, .dead, .dead, .dead, .dead, .dead, .dead, .dead, .dead, .dead, .dead, .dead, .dead, .dead, .dead, .dead, .dead, .dead, .dead, .dead, .dead, .dead, .dead, .dead, .dead, .dead, .dead, .dead, .dead, .dead, .dead, .dead, .dead, .dead, .dead, .dead, .dead, .dead, .dead, .dead, .dead, .dead, .dead, .dead, .dead]
def ref12_Reach.H1 (e6_1 : (List T_s50)) (e9_1 : Int) (s9 : Int × (List Bool)) : Heap := [(.row 4 .bool [] false), (.row 4 .bool s9.2 false)]
noncomputable def ref12_Reach.M1 {Ω : Type} (fuel : Nat) (e6_1 : (List T_s50)) (e9_1 : Int) (R6 : List AV → Heap → Option Ω) (k : AV → Option Ω) (m : Nat) (s : Int × (List Bool)) : Option Ω := loopK (fun env L k => evCode C ref12_Reach.sp (ref12_Reach.F fuel) (cl (cl (cr (cl (cl (cr (cl (cl (cr (cl (cr (cr (cr (cr (Tryd.f18.body.getD .skip))))))))))))))) env L k) [false, true, true, false, false, false, true, true, true, true, true, true, true, true, true, true, true, true, true, true, true, true, true, true, true, true, true, true, true, true, true, true, true, true, true, true, true, true, true, true, true, true, true, true, true, true, true, true, true, true, true, true, true, true, true, true] 2 (blockK 2 (blockK 1 (seqK (fun env L => evCode C ref12_Reach.sp (ref12_Reach.F fuel) (cr (cr (cl (cl (cr (cl (cr (cr (cr (cr (Tryd.f18.body.getD .skip))))))))))) env L (loopC R6 [false, true, true, false, false, true, true, true, true, true, true, true, true, true, true, true, true, true, true, true, true, true, true, true, true, true, true, true, true, true, true, true, true, true, true, true, true, true, true, true, true, true, true, true, true, true, true, true, true, true, true, true, true, true, true, true] 2 (blockK 0 (seqK (fun env L => evCode C ref12_Reach.sp (ref12_Reach.F fuel) (cr (cr (cr (cr (cr (Tryd.f18.body.getD .skip)))))) env L (finK C Tryd.f18 k)) (finK C Tryd.f18 k))))) (loopC R6 [false, true, true, false, false, true, true, true, true, true, true, true, true, true, true, true, true, true, true, true, true, true, true, true, true, true, true, true, true, true, true, true, true, true, true, true, true, true, true, true, true, true, true, true, true, true, true, true, true, true, true, true, true, true, true, true] 2 (blockK 0 (seqK (fun env L => evCode C ref12_Reach.sp (ref12_Reach.F fuel) (cr (cr (cr (cr (cr (Tryd.f18.body.getD .skip)))))) env L (finK C Tryd.f18 k)) (finK C Tryd.f18 k))))))) m ((ref12_Reach.E1 e6_1 e9_1) s) ((ref12_Reach.H1 e6_1 e9_1) s)
def ref12_Reach.E2 (e6_1 : (List T_s50)) (s6 : Int × (List Bool)) : List AV := [(.v (.slice E_s50) (e6_1)), .dead, .dead, (.rs 1), (.v (.int .i64) (s6.1)), .dead, .dead, .dead, .dead, .dead, .dead, .dead, .dead, .dead, .dead, .dead, .dead, .dead, .dead, .dead, .dead, .dead, .dead, .dead, .dead, .dead, .dead, .dead, .dead, .dead, .dead, .dead, .dead, .dead, .dead, .dead, .dead, .dead, .dead, .dead, .dead, .dead, .dead, .dead, .dead, .dead, .dead, .dead, .dead, .dead, .dead, .dead, .dead, .dead, .dead, .dead]
def ref12_Reach.H2 (e6_1 : (List T_s50)) (s6 : Int × (List Bool)) : Heap := [(.row 4 .bool [] false), (.row 4 .bool s6.2 false)]
noncomputable def ref12_Reach.M2 {Ω : Type} (fuel : Nat) (e6_1 : (List T_s50))  (k : AV → Option Ω) (m : Nat) (s : Int × (List Bool)) : Option Ω := loopK (fun env L k => evCode C ref12_Reach.sp (ref12_Reach.F fuel) (cl (cl (cr (cl (cr (cr (cr (cr (Tryd.f18.body.getD .skip))))))))) env L k) [false, true, true, false, false, true, true, true, true, true, true, true, true, true, true, true, true, true, true, true, true, true, true, true, true, true, true, true, true, true, true, true, true, true, true, true, true, true, true, true, true, true, true, true, true, true, true, true, true, true, true, true, true, true, true, true] 2 (blockK 0 (seqK (fun env L => evCode C ref12_Reach.sp (ref12_Reach.F fuel) (cr (cr (cr (cr (cr (Tryd.f18.body.getD .skip)))))) env L (finK C Tryd.f18 k)) (finK C Tryd.f18 k))) m ((ref12_Reach.E2 e6_1) s) ((ref12_Reach.H2 e6_1) s)
def ref12_Reach.b0 {Ω : Type} (e6_1 : (List T_s50)) (e9_1 : Int) (e14_1 : Int) (e14_2 : (List Int)) (r9 : Int × (List Bool) → Option Ω)  (k : (List Bool) → Option Ω) (r14 : Int × (List Bool) → Option Ω) (s14 : Int × (List Bool)) : Option Ω :=
  bif (decide (s14.1 < ((List.length e14_2 : Nat) : Int))) then
    bif (idxOK s14.1 (List.length e14_2)) then
      bif (decide ((List.getD e14_2 (Int.toNat s14.1) 0) < ((List.length e6_1 : Nat) : Int))) then
        bif (idxOK s14.1 (List.length e14_2)) then
          bif (idxOK (List.getD e14_2 (Int.toNat s14.1) 0) (List.length s14.2)) then
            r14 ((IntKind.wrap .i64 (s14.1 + 1)), (List.set s14.2 (Int.toNat (List.getD e14_2 (Int.toNat s14.1) 0)) true))
          else
            none
        else
          none
      else
        r14 ((IntKind.wrap .i64 (s14.1 + 1)), s14.2)
    else
      none
  else
    r9 ((IntKind.wrap .i64 (e14_1 + 1)), s14.2)
def ref12_Reach.B0 {Ω : Type} (fuel : Nat) (e6_1 : (List T_s50)) (e9_1 : Int) (e14_1 : Int) (e14_2 : (List Int)) (r9 : Int × (List Bool) → Option Ω) (k : (List Bool) → Option Ω) (r14 : Int × (List Bool) → Option Ω) (s14 : Int × (List Bool)) : Option Ω := ref12_Reach.b0 e6_1 e9_1 e14_1 e14_2 r9  k r14 s14
def ref12_Reach.b1 {Ω : Type} (e6_1 : (List T_s50)) (e9_1 : Int) (r6 : Int × (List Bool) → Option Ω) (lp0 : (List T_s50) → Int → Int → (List Int) → Int × (List Bool) → Option Ω) (k : (List Bool) → Option Ω) (r9 : Int × (List Bool) → Option Ω) (s9 : Int × (List Bool)) : Option Ω :=
  bif (decide (s9.1 < ((List.length e6_1 : Nat) : Int))) then
    bif (idxOK s9.1 (List.length s9.2)) then
      bif (!(List.getD s9.2 (Int.toNat s9.1) false)) then
        r9 ((IntKind.wrap .i64 (s9.1 + 1)), s9.2)
      else
        (ref12_Next.u e6_1 s9.1).bind fun y2 =>
        lp0 e6_1 e9_1 s9.1 y2 (0, s9.2)
    else
      none
  else
    r6 ((IntKind.wrap .i64 (e9_1 + 1)), s9.2)
def ref12_Reach.B1 {Ω : Type} (fuel : Nat) (e6_1 : (List T_s50)) (e9_1 : Int) (r6 : Int × (List Bool) → Option Ω) (k : (List Bool) → Option Ω) (r9 : Int × (List Bool) → Option Ω) (s9 : Int × (List Bool)) : Option Ω := ref12_Reach.b1 e6_1 e9_1 r6 (fun e6_1 e9_1 e14_1 e14_2 => (iter (ref12_Reach.B0 fuel e6_1 e9_1 e14_1 e14_2 r9 k) fuel)) k r9 s9
def ref12_Reach.b2 {Ω : Type} (e6_1 : (List T_s50))  (lp1 : (List T_s50) → Int → Int × (List Bool) → Option Ω) (k : (List Bool) → Option Ω) (r6 : Int × (List Bool) → Option Ω) (s6 : Int × (List Bool)) : Option Ω :=
  bif (decide (s6.1 < ((List.length e6_1 : Nat) : Int))) then
    lp1 e6_1 s6.1 (0, s6.2)
  else
    k s6.2
def ref12_Reach.B2 {Ω : Type} (fuel : Nat) (e6_1 : (List T_s50))  (k : (List Bool) → Option Ω) (r6 : Int × (List Bool) → Option Ω) (s6 : Int × (List Bool)) : Option Ω := ref12_Reach.b2 e6_1  (fun e6_1 e9_1 => (iter (ref12_Reach.B1 fuel e6_1 e9_1 r6 k) fuel)) k r6 s6
theorem ref12_Reach.l0 {Ω : Type} (fuel : Nat) (e6_1 : (List T_s50)) (e9_1 : Int) (e14_1 : Int) (e14_2 : (List Int)) (R9 : List AV → Heap → Option Ω) (R6 : List AV → Heap → Option Ω) (k : AV → Option Ω) : ∀ m, (ref12_Reach.M0 fuel e6_1 e9_1 e14_1 e14_2 R9 R6 k m) = iter (ref12_Reach.B0 fuel e6_1 e9_1 e14_1 e14_2 (fun s9 => R9 ((ref12_Reach.E1 e6_1 e9_1) s9) ((ref12_Reach.H1 e6_1 e9_1) s9)) (fun r => k (tupAV (.slice .bool) [] r))) m :=
  loopK_iter (envOf := (ref12_Reach.E0 e6_1 e9_1 e14_1 e14_2)) (LOf := (ref12_Reach.H0 e6_1 e9_1 e14_1 e14_2)) (B := ref12_Reach.B0 fuel e6_1 e9_1 e14_1 e14_2 (fun s9 => R9 ((ref12_Reach.E1 e6_1 e9_1) s9) ((ref12_Reach.H1 e6_1 e9_1) s9)) (fun r => k (tupAV (.slice .bool) [] r))) (fun R s => by kernel_rfl)
theorem ref12_Reach.l1 {Ω : Type} (fuel : Nat) (e6_1 : (List T_s50)) (e9_1 : Int) (R6 : List AV → Heap → Option Ω) (k : AV → Option Ω) : ∀ m, (ref12_Reach.M1 fuel e6_1 e9_1 R6 k m) = iter (ref12_Reach.B1 fuel e6_1 e9_1 (fun s6 => R6 ((ref12_Reach.E2 e6_1) s6) ((ref12_Reach.H2 e6_1) s6)) (fun r => k (tupAV (.slice .bool) [] r))) m :=
  loopK_iter (envOf := (ref12_Reach.E1 e6_1 e9_1)) (LOf := (ref12_Reach.H1 e6_1 e9_1)) (B := ref12_Reach.B1 fuel e6_1 e9_1 (fun s6 => R6 ((ref12_Reach.E2 e6_1) s6) ((ref12_Reach.H2 e6_1) s6)) (fun r => k (tupAV (.slice .bool) [] r))) (fun R s => by
    have h0 : evCode C ref12_Reach.sp (ref12_Reach.F fuel) (cl (cl (cr (cl (cl (cr (cl (cl (cr (cl (cr (cr (cr (cr (Tryd.f18.body.getD .skip))))))))))))))) ((ref12_Reach.E1 e6_1 e9_1) s) ((ref12_Reach.H1 e6_1 e9_1) s) (loopC R [false, true, true, false, false, false, true, true, true, true, true, true, true, true, true, true, true, true, true, true, true, true, true, true, true, true, true, true, true, true, true, true, true, true, true, true, true, true, true, true, true, true, true, true, true, true, true, true, true, true, true, true, true, true, true, true] 2 (blockK 2 (blockK 1 (seqK (fun env L => evCode C ref12_Reach.sp (ref12_Reach.F fuel) (cr (cr (cl (cl (cr (cl (cr (cr (cr (cr (Tryd.f18.body.getD .skip))))))))))) env L (loopC R6 [false, true, true, false, false, true, true, true, true, true, true, true, true, true, true, true, true, true, true, true, true, true, true, true, true, true, true, true, true, true, true, true, true, true, true, true, true, true, true, true, true, true, true, true, true, true, true, true, true, true, true, true, true, true, true, true] 2 (blockK 0 (seqK (fun env L => evCode C ref12_Reach.sp (ref12_Reach.F fuel) (cr (cr (cr (cr (cr (Tryd.f18.body.getD .skip)))))) env L (finK C Tryd.f18 k)) (finK C Tryd.f18 k))))) (loopC R6 [false, true, true, false, false, true, true, true, true, true, true, true, true, true, true, true, true, true, true, true, true, true, true, true, true, true, true, true, true, true, true, true, true, true, true, true, true, true, true, true, true, true, true, true, true, true, true, true, true, true, true, true, true, true, true, true] 2 (blockK 0 (seqK (fun env L => evCode C ref12_Reach.sp (ref12_Reach.F fuel) (cr (cr (cr (cr (cr (Tryd.f18.body.getD .skip)))))) env L (finK C Tryd.f18 k)) (finK C Tryd.f18 k)))))))) = ref12_Reach.b1 e6_1 e9_1 (fun s6 => R6 ((ref12_Reach.E2 e6_1) s6) ((ref12_Reach.H2 e6_1) s6)) (fun e6_1 e9_1 e14_1 e14_2 => (ref12_Reach.M0 fuel e6_1 e9_1 e14_1 e14_2 R R6 k fuel)) (fun r => k (tupAV (.slice .bool) [] r)) (fun s => R ((ref12_Reach.E1 e6_1 e9_1) s) ((ref12_Reach.H1 e6_1 e9_1) s)) s := by kernel_rfl
    have h1 : (fun e6_1 e9_1 e14_1 e14_2 => (ref12_Reach.M0 fuel e6_1 e9_1 e14_1 e14_2 R R6 k fuel)) = (fun e6_1 e9_1 e14_1 e14_2 => (iter (ref12_Reach.B0 fuel e6_1 e9_1 e14_1 e14_2 (fun s9 => R ((ref12_Reach.E1 e6_1 e9_1) s9) ((ref12_Reach.H1 e6_1 e9_1) s9)) (fun r => k (tupAV (.slice .bool) [] r))) fuel)) := funext fun e6_1 => funext fun e9_1 => funext fun e14_1 => funext fun e14_2 => ref12_Reach.l0 fuel e6_1 e9_1 e14_1 e14_2  R R6 k fuel
    rw [h1] at h0
    exact h0)
theorem ref12_Reach.l2 {Ω : Type} (fuel : Nat) (e6_1 : (List T_s50))  (k : AV → Option Ω) : ∀ m, (ref12_Reach.M2 fuel e6_1  k m) = iter (ref12_Reach.B2 fuel e6_1  (fun r => k (tupAV (.slice .bool) [] r))) m :=
  loopK_iter (envOf := (ref12_Reach.E2 e6_1)) (LOf := (ref12_Reach.H2 e6_1)) (B := ref12_Reach.B2 fuel e6_1  (fun r => k (tupAV (.slice .bool) [] r))) (fun R s => by
    have h0 : evCode C ref12_Reach.sp (ref12_Reach.F fuel) (cl (cl (cr (cl (cr (cr (cr (cr (Tryd.f18.body.getD .skip))))))))) ((ref12_Reach.E2 e6_1) s) ((ref12_Reach.H2 e6_1) s) (loopC R [false, true, true, false, false, true, true, true, true, true, true, true, true, true, true, true, true, true, true, true, true, true, true, true, true, true, true, true, true, true, true, true, true, true, true, true, true, true, true, true, true, true, true, true, true, true, true, true, true, true, true, true, true, true, true, true] 2 (blockK 0 (seqK (fun env L => evCode C ref12_Reach.sp (ref12_Reach.F fuel) (cr (cr (cr (cr (cr (Tryd.f18.body.getD .skip)))))) env L (finK C Tryd.f18 k)) (finK C Tryd.f18 k)))) = ref12_Reach.b2 e6_1  (fun e6_1 e9_1 => (ref12_Reach.M1 fuel e6_1 e9_1 R k fuel)) (fun r => k (tupAV (.slice .bool) [] r)) (fun s => R ((ref12_Reach.E2 e6_1) s) ((ref12_Reach.H2 e6_1) s)) s := by kernel_rfl
    have h2 : (fun e6_1 e9_1 => (ref12_Reach.M1 fuel e6_1 e9_1 R k fuel)) = (fun e6_1 e9_1 => (iter (ref12_Reach.B1 fuel e6_1 e9_1 (fun s6 => R ((ref12_Reach.E2 e6_1) s6) ((ref12_Reach.H2 e6_1) s6)) (fun r => k (tupAV (.slice .bool) [] r))) fuel)) := funext fun e6_1 => funext fun e9_1 => ref12_Reach.l1 fuel e6_1 e9_1  R k fuel
    rw [h2] at h0
    exact h0)
def ref12_Reach.sl {Ω : Type} (x0 : (List T_s50)) (lp2 : (List T_s50) → Int × (List Bool) → Option Ω) (k : (List Bool) → Option Ω) : Option Ω :=
  (ref12_Fine.u x0).bind fun y1 =>
  bif (!y1) then
    k []
  else
    bif (decide (((List.length x0 : Nat) : Int) = ((List.length x0 : Nat) : Int)) && decide ((0 : Int) ≤ ((List.length x0 : Nat) : Int)) && decide (((List.length x0 : Nat) : Int) ≤ (2147483648 : Int))) then
      bif (idxOK 0 (List.length (List.replicate (Int.toNat ((List.length x0 : Nat) : Int)) false))) then
        lp2 x0 (0, (List.set (List.replicate (Int.toNat ((List.length x0 : Nat) : Int)) false) 0 true))
      else
        none
    else
      none
def ref12_Reach.s {Ω : Type} (fuel : Nat) (x0 : (List T_s50)) (k : (List Bool) → Option Ω) : Option Ω := ref12_Reach.sl x0 (fun e6_1 => (iter (ref12_Reach.B2 fuel e6_1  k) fuel)) k
theorem ref12_Reach.ev {Ω : Type} (fuel : Nat) (x0 : (List T_s50)) (k : AV → Option Ω) : evFn C ref12_Reach.sp (ref12_Reach.F fuel) Tryd.f18 (Tryd.f18.body.getD .skip) [(.v (.slice E_s50) (x0))] k = ref12_Reach.s fuel x0 (fun r => k (tupAV (.slice .bool) [] r)) := by
  have h0 : evFn C ref12_Reach.sp (ref12_Reach.F fuel) Tryd.f18 (Tryd.f18.body.getD .skip) [(.v (.slice E_s50) (x0))] k = ref12_Reach.sl x0 (fun e6_1 => (ref12_Reach.M2 fuel e6_1  k fuel)) (fun r => k (tupAV (.slice .bool) [] r)) := by kernel_rfl
  have h3 : (fun e6_1 => (ref12_Reach.M2 fuel e6_1  k fuel)) = (fun e6_1 => (iter (ref12_Reach.B2 fuel e6_1  (fun r => k (tupAV (.slice .bool) [] r))) fuel)) := funext fun e6_1 => ref12_Reach.l2 fuel e6_1   k fuel
  rw [h3] at h0
  exact h0
def ref12_Reach.g0 {Ω : Type} (e6_1 : (List T_s50)) (e9_1 : Int) (e14_1 : Int) (e14_2 : (List Int)) (r9 : Int × (List Bool) → Option Ω) (k : (List Bool) → Option Ω) : List Int → (List Bool) → Option Ω
  | [], a14_1 =>
    r9 ((e14_1 + 1), a14_1)
  | x14 :: xs14, a14_1 =>
    bif (decide (x14 < ((List.length e6_1 : Nat) : Int))) then
      bif (idxOK x14 (List.length a14_1)) then
        ref12_Reach.g0 e6_1 e9_1 e14_1 e14_2 r9 k xs14 ((List.set a14_1 (Int.toNat x14) true))
      else
        none
    else
      ref12_Reach.g0 e6_1 e9_1 e14_1 e14_2 r9 k xs14 a14_1
theorem ref12_Reach.h0 {Ω : Type} (e6_1 : (List T_s50)) (e9_1 : Int) (e14_1 : Int) (e14_2 : (List Int)) (r9 : Int × (List Bool) → Option Ω) (r9' : Int × (List Bool) → Option Ω) (hr9 : ∀ q : (List Bool), Le (r9 ((e14_1 + 1), q)) (r9' ((IntKind.wrap .i64 (e14_1 + 1)), q))) (k : (List Bool) → Option Ω) (hX : ((List.length e14_2 : Nat) : Int) ≤ 9223372036854775807) : ∀ (m : Nat) (i : Int) (a : (List Bool)), 0 ≤ i → i ≤ ((List.length e14_2 : Nat) : Int) → ((List.length e14_2 : Nat) : Int) < m + i → Le (ref12_Reach.g0 e6_1 e9_1 e14_1 e14_2 r9 k (List.drop (Int.toNat i) e14_2) a) (iter (ref12_Reach.B0 BIG e6_1 e9_1 e14_1 e14_2 r9' k) m (i, a)) :=
  iter_list e14_2 0 (fun (i14 : Int) (a14 : (List Bool)) => (i14, a14)) (fun xs i14 a14 => ref12_Reach.g0 e6_1 e9_1 e14_1 e14_2 r9 k xs a14) (ref12_Reach.B0 BIG e6_1 e9_1 e14_1 e14_2 r9' k)
    (fun i14 a14 r h0 => (Le.fls h0 (hr9 (a14))))
    (fun i14 xs14 a14 r h0 h1 hw ih => (Le.tru h0 (Le.tru h1 (Le.cond (Le.tru h1 (Le.cond (ih _ hw ((List.set a14 (Int.toNat (List.getD e14_2 (Int.toNat i14) 0)) true))) Le.nil)) (ih _ hw (a14))))))
    hX
def ref12_Reach.g1 {Ω : Type} (e6_1 : (List T_s50)) (e9_1 : Int) (r6 : Int × (List Bool) → Option Ω) (k : (List Bool) → Option Ω) : List T_s50 → Int → (List Bool) → Option Ω
  | [], i9, a9_1 =>
    r6 ((e9_1 + 1), a9_1)
  | x9 :: xs9, i9, a9_1 =>
    bif (idxOK i9 (List.length a9_1)) then
      bif (!(List.getD a9_1 (Int.toNat i9) false)) then
        ref12_Reach.g1 e6_1 e9_1 r6 k xs9 (i9 + 1) a9_1
      else
        (ref12_Next.u e6_1 i9).bind fun y2 =>
        bif decide (((List.length y2 : Nat) : Int) ≤ 4611686018427387904) then ref12_Reach.g0 e6_1 e9_1 i9 y2 (fun q => ref12_Reach.g1 e6_1 e9_1 r6 k xs9 q.1 q.2) k y2 a9_1 else none
    else
      none
theorem ref12_Reach.h1 {Ω : Type} (e6_1 : (List T_s50)) (e9_1 : Int) (r6 : Int × (List Bool) → Option Ω) (r6' : Int × (List Bool) → Option Ω) (hr6 : ∀ q : (List Bool), Le (r6 ((e9_1 + 1), q)) (r6' ((IntKind.wrap .i64 (e9_1 + 1)), q))) (k : (List Bool) → Option Ω) (hX : ((List.length e6_1 : Nat) : Int) ≤ 9223372036854775807) : ∀ (m : Nat) (i : Int) (a : (List Bool)), 0 ≤ i → i ≤ ((List.length e6_1 : Nat) : Int) → ((List.length e6_1 : Nat) : Int) < m + i → Le (ref12_Reach.g1 e6_1 e9_1 r6 k (List.drop (Int.toNat i) e6_1) i a) (iter (ref12_Reach.B1 BIG e6_1 e9_1 r6' k) m (i, a)) :=
  iter_list e6_1 (0, (0, (0, (0, ())))) (fun (i9 : Int) (a9 : (List Bool)) => (i9, a9)) (fun xs i9 a9 => ref12_Reach.g1 e6_1 e9_1 r6 k xs i9 a9) (ref12_Reach.B1 BIG e6_1 e9_1 r6' k)
    (fun i9 a9 r h0 => (Le.fls h0 (hr6 (a9))))
    (fun i9 xs9 a9 r h0 h1 hw ih => (Le.tru h0 (Le.cond (Le.cond (ih _ hw (a9)) (Le.bnd fun y2 => (Le.gd fun hg => ref12_Reach.h0 _ _ _ _ _ _ (fun q => ih _ hw q) k (le_up (of_decide_eq_true hg)) BIG 0 (a9) (by decide) (zero_le_len _) (big_list (of_decide_eq_true hg))))) Le.nil)))
    hX
def ref12_Reach.g2 {Ω : Type} (e6_1 : (List T_s50))  (k : (List Bool) → Option Ω) : List T_s50 → Int → (List Bool) → Option Ω
  | [], i6, a6_1 =>
    k a6_1
  | x6 :: xs6, i6, a6_1 =>
    bif decide (((List.length e6_1 : Nat) : Int) ≤ 4611686018427387904) then ref12_Reach.g1 e6_1 i6 (fun q => ref12_Reach.g2 e6_1  k xs6 q.1 q.2) k e6_1 0 a6_1 else none
theorem ref12_Reach.h2 {Ω : Type} (e6_1 : (List T_s50))   (k : (List Bool) → Option Ω) (hX : ((List.length e6_1 : Nat) : Int) ≤ 9223372036854775807) : ∀ (m : Nat) (i : Int) (a : (List Bool)), 0 ≤ i → i ≤ ((List.length e6_1 : Nat) : Int) → ((List.length e6_1 : Nat) : Int) < m + i → Le (ref12_Reach.g2 e6_1  k (List.drop (Int.toNat i) e6_1) i a) (iter (ref12_Reach.B2 BIG e6_1  k) m (i, a)) :=
  iter_list e6_1 (0, (0, (0, (0, ())))) (fun (i6 : Int) (a6 : (List Bool)) => (i6, a6)) (fun xs i6 a6 => ref12_Reach.g2 e6_1  k xs i6 a6) (ref12_Reach.B2 BIG e6_1  k)
    (fun i6 a6 r h0 => (Le.fls h0 (Le.refl _)))
    (fun i6 xs6 a6 r h0 h1 hw ih => (Le.tru h0 (Le.gd fun hg => ref12_Reach.h1 _ _ _ _ (fun q => ih _ hw q) k (le_up (of_decide_eq_true hg)) BIG 0 (a6) (by decide) (zero_le_len _) (big_list (of_decide_eq_true hg)))))
    hX
def ref12_Reach.w {Ω : Type} (x0 : (List T_s50)) (k : (List Bool) → Option Ω) : Option Ω :=
  (ref12_Fine.u x0).bind fun y1 =>
  bif (!y1) then
    k []
  else
    bif (decide (((List.length x0 : Nat) : Int) = ((List.length x0 : Nat) : Int)) && decide ((0 : Int) ≤ ((List.length x0 : Nat) : Int)) && decide (((List.length x0 : Nat) : Int) ≤ (2147483648 : Int))) then
      bif (idxOK 0 (List.length (List.replicate (Int.toNat ((List.length x0 : Nat) : Int)) false))) then
        bif decide (((List.length x0 : Nat) : Int) ≤ 4611686018427387904) then ref12_Reach.g2 x0  k x0 0 ((List.set (List.replicate (Int.toNat ((List.length x0 : Nat) : Int)) false) 0 true)) else none
      else
        none
    else
      none
theorem ref12_Reach.le {Ω : Type} (x0 : (List T_s50)) (k : (List Bool) → Option Ω) : Le (ref12_Reach.w x0 k) (ref12_Reach.s BIG x0 k) := by
  delta ref12_Reach.w ref12_Reach.s ref12_Reach.sl
  exact (Le.bnd fun y1 => (Le.cond (Le.refl _) (Le.cond (Le.cond (Le.gd fun hg => ref12_Reach.h2 _   k (le_up (of_decide_eq_true hg)) BIG 0 ((List.set (List.replicate (Int.toNat ((List.length x0 : Nat) : Int)) false) 0 true)) (by decide) (zero_le_len _) (big_list (of_decide_eq_true hg))) Le.nil) Le.nil)))
def ref12_Reach.u (x0 : (List T_s50)) : Option ((List Bool)) := ref12_Reach.w x0 some
theorem ref12_Reach.c (x0 : (List T_s50)) (r : (List Bool)) (h : ref12_Reach.u x0 = some r) : Contract C 18 [(.v (.slice E_s50) (x0))] (tupAV (.slice .bool) [] r) :=
  contract_s (S := fun k => ref12_Reach.s BIG x0 k) C_ok (orS_ok ref12_Fine.e_ok (orS_ok ref12_Next.e_ok noS_ok)) (by kernel_rfl) (by kernel_rfl) (by kernel_rfl) (ref12_Reach.ev BIG x0 (dec (.slice .bool) [])) (ref12_Reach.le x0 some r h)
noncomputable def ref12_Reach.e : Ent := argI (.slice E_s50) fun x0 => endU (ref12_Reach.u x0) (tupAV (.slice .bool) [])
theorem ref12_Reach.e_ok : EntOK C 18 (fun {_} => ref12_Reach.e) := entA_ok (argI_ok fun x0 => endU_ok fun r h => ref12_Reach.c x0 r h)

/-- becket prog.next -/
noncomputable def prog_next.sp : Spec := (fxS 79 (fun {_} => slices_Compact.fx) (fxS 78 (fun {_} => slices_Sort.fx) (orS 77 (fun {_} => opcode_Class.e) (orS 76 (fun {_} => instr_Place.e) noS))))
def prog_next.s {Ω : Type} (x0 : (List T_s50)) (x1 : Int) (k : (List Int) → Option Ω) : Option Ω :=
  bif (idxOK x1 (List.length x0)) then
    (instr_Place.u ((List.getD x0 (Int.toNat x1) (0, (0, (0, (0, ()))))))).bind fun y1 =>
    bif ((List.getD x0 (Int.toNat x1) (0, (0, (0, (0, ()))))).1 == 41) then
      let v2 : Int := (IntKind.wrap .i64 ((IntKind.wrap .i64 (x1 + 1)) + (IntKind.wrap .i64 (List.getD x0 (Int.toNat x1) (0, (0, (0, (0, ()))))).2.2.2.1)))
      k [v2]
    else
      (opcode_Class.u ((IntKind.wrap .i64 (List.getD x0 (Int.toNat x1) (0, (0, (0, (0, ()))))).1))).bind fun y3 =>
      bif (y3 == 5) then
        k []
      else
        bif ((List.getD x0 (Int.toNat x1) (0, (0, (0, (0, ()))))).1 == 23) then
          k []
        else
          bif ((List.getD x0 (Int.toNat x1) (0, (0, (0, (0, ()))))).1 == 18) then
            k [y1.1]
          else
            bif y1.2 then
              bif (decide (List.length [(IntKind.wrap .i64 (x1 + 1)), y1.1] ≤ rowMax)) then
                bif (decide (0 < List.length (sortB leI [(IntKind.wrap .i64 (x1 + 1)), y1.1])) && decide (List.length (sortB leI [(IntKind.wrap .i64 (x1 + 1)), y1.1]) ≤ rowMax)) then
                  k (compI (sortB leI [(IntKind.wrap .i64 (x1 + 1)), y1.1]))
                else
                  none
              else
                none
            else
              k [(IntKind.wrap .i64 (x1 + 1))]
  else
    none
theorem prog_next.ev {Ω : Type} (fuel : Fuel) (x0 : (List T_s50)) (x1 : Int) (k : AV → Option Ω) : evFn CK prog_next.sp fuel Tryd.f43 (Tryd.f43.body.getD .skip) [(.v (.slice E_s50) (x0)), (.v (.int .i64) (x1))] k = prog_next.s x0 x1 (fun r => k (tupAV (.slice (.int .i64)) [] r)) := by kernel_rfl
def prog_next.u (x0 : (List T_s50)) (x1 : Int) : Option ((List Int)) := prog_next.s x0 x1 some
theorem prog_next.c (x0 : (List T_s50)) (x1 : Int) (r : (List Int)) (h : prog_next.u x0 x1 = some r) : Contract CK 43 [(.v (.slice E_s50) (x0)), (.v (.int .i64) (x1))] (tupAV (.slice (.int .i64)) [] r) :=
  contract_s (S := fun k => prog_next.s x0 x1 k) CK_ok (fxS_ok (FxOK.mono le_C_CK slices_Compact.fx_ok) (fxS_ok (FxOK.mono le_C_CK slices_Sort.fx_ok) (orS_ok opcode_Class.e_ok (orS_ok instr_Place.e_ok noS_ok)))) (by kernel_rfl) (by kernel_rfl) (by kernel_rfl) (prog_next.ev ⟨1, fun _ => []⟩ x0 x1 (dec (.slice (.int .i64)) [])) h
noncomputable def prog_next.e : Ent := argI (.slice E_s50) fun x0 => argI (.int .i64) fun x1 => endU (prog_next.u x0 x1) (tupAV (.slice (.int .i64)) [])
theorem prog_next.e_ok : EntOK CK 43 (fun {_} => prog_next.e) := entA_ok (argI_ok fun x0 => argI_ok fun x1 => endU_ok fun r h => prog_next.c x0 x1 r h)

/-- becket prog.Next -/
noncomputable def prog_Next.sp : Spec := (orS 43 (fun {_} => prog_next.e) (orS 35 (fun {_} => prog_fine.e) noS))
def prog_Next.s {Ω : Type} (x0 : (List T_s50)) (x1 : Int) (k : (List Int) → Option Ω) : Option Ω :=
  bif (decide (x1 < 0)) then
    k []
  else
    bif (decide (x1 ≥ ((List.length x0 : Nat) : Int))) then
      k []
    else
      (prog_fine.u x0).bind fun y1 =>
      bif (!y1) then
        k []
      else
        (prog_next.u x0 x1).bind fun y2 =>
        k y2
theorem prog_Next.ev {Ω : Type} (fuel : Fuel) (x0 : (List T_s50)) (x1 : Int) (k : AV → Option Ω) : evFn CK prog_Next.sp fuel Tryd.f20 (Tryd.f20.body.getD .skip) [(.v (.slice E_s50) (x0)), (.v (.int .i64) (x1))] k = prog_Next.s x0 x1 (fun r => k (tupAV (.slice (.int .i64)) [] r)) := by kernel_rfl
def prog_Next.u (x0 : (List T_s50)) (x1 : Int) : Option ((List Int)) := prog_Next.s x0 x1 some
theorem prog_Next.c (x0 : (List T_s50)) (x1 : Int) (r : (List Int)) (h : prog_Next.u x0 x1 = some r) : Contract CK 20 [(.v (.slice E_s50) (x0)), (.v (.int .i64) (x1))] (tupAV (.slice (.int .i64)) [] r) :=
  contract_s (S := fun k => prog_Next.s x0 x1 k) CK_ok (orS_ok prog_next.e_ok (orS_ok prog_fine.e_ok noS_ok)) (by kernel_rfl) (by kernel_rfl) (by kernel_rfl) (prog_Next.ev ⟨1, fun _ => []⟩ x0 x1 (dec (.slice (.int .i64)) [])) h
noncomputable def prog_Next.e : Ent := argI (.slice E_s50) fun x0 => argI (.int .i64) fun x1 => endU (prog_Next.u x0 x1) (tupAV (.slice (.int .i64)) [])
theorem prog_Next.e_ok : EntOK CK 20 (fun {_} => prog_Next.e) := entA_ok (argI_ok fun x0 => argI_ok fun x1 => endU_ok fun r h => prog_Next.c x0 x1 r h)

/-- becket prog.count -/
noncomputable def prog_count.sp : Spec := noS
def prog_count.s {Ω : Type} (x0 : ByteArray) (x1 : Int) (k : Int × Int → Option Ω) : Option Ω :=
  bif (decide (x1 < 0)) then
    k (0, 8)
  else
    bif (decide (x1 > ((x0).size : Int))) then
      k (0, 8)
    else
      bif (x1 == ((x0).size : Int)) then
        k (0, 4)
      else
        bif (idxOK x1 (x0).size) then
          bif ((bAt x0 (Int.toNat x1)) == 0) then
            k (0, 11)
          else
            bif (idxOK x1 (x0).size) then
              bif (decide ((bAt x0 (Int.toNat x1)) > 64)) then
                k (0, 5)
              else
                bif (idxOK x1 (x0).size) then
                  k ((IntKind.wrap .i64 (bAt x0 (Int.toNat x1))), 0)
                else
                  none
            else
              none
        else
          none
theorem prog_count.ev {Ω : Type} (fuel : Fuel) (x0 : ByteArray) (x1 : Int) (k : AV → Option Ω) : evFn C prog_count.sp fuel Tryd.f46 (Tryd.f46.body.getD .skip) [(.v .str (x0)), (.v (.int .i64) (x1))] k = prog_count.s x0 x1 (fun r => k (tupAV (.int .i64) [(.int .i64)] r)) := by kernel_rfl
def prog_count.u (x0 : ByteArray) (x1 : Int) : Option (Int × Int) := prog_count.s x0 x1 some
theorem prog_count.c (x0 : ByteArray) (x1 : Int) (r : Int × Int) (h : prog_count.u x0 x1 = some r) : Contract C 46 [(.v .str (x0)), (.v (.int .i64) (x1))] (tupAV (.int .i64) [(.int .i64)] r) :=
  contract_s (S := fun k => prog_count.s x0 x1 k) C_ok noS_ok (by kernel_rfl) (by kernel_rfl) (by kernel_rfl) (prog_count.ev ⟨1, fun _ => []⟩ x0 x1 (dec (.int .i64) [(.int .i64)])) h
noncomputable def prog_count.e : Ent := argI .str fun x0 => argI (.int .i64) fun x1 => endU (prog_count.u x0 x1) (tupAV (.int .i64) [(.int .i64)])
theorem prog_count.e_ok : EntOK C 46 (fun {_} => prog_count.e) := entA_ok (argI_ok fun x0 => argI_ok fun x1 => endU_ok fun r h => prog_count.c x0 x1 r h)

/-- becket prog.Read -/
noncomputable def prog_Read.sp : Spec := (orS 47 (fun {_} => instr_Read.e) (orS 46 (fun {_} => prog_count.e) (orS 11 (fun {_} => prog_Check.e) noS)))
def prog_Read.F (fuel : Nat) : Fuel := ⟨fuel, fun r => bif r == 3 then [2, 3, 4, 5, 6, 10, 11, 12, 13, 14, 15, 16, 17, 18, 19, 20, 21, 22, 23, 24, 25, 26, 27, 28, 29, 30, 31, 32, 33, 34, 35, 36, 37, 38, 39, 40, 41, 42, 43, 44, 45, 46, 47, 48, 49, 50, 51] else []⟩
def prog_Read.E0 (e3_1 : ByteArray) (e3_2 : Int) (e3_3 : Int) (s3 : Int × (List T_s50)) : List AV := [(.v .str (e3_1)), (.v (.int .i64) (e3_2)), .dead, .dead, .dead, .dead, .dead, (.v (.int .i64) (e3_3)), (.v (.int .i64) (s3.1)), (.rs 1), .dead, .dead, .dead, .dead, .dead, .dead, .dead, .dead, .dead, .dead, .dead, .dead, .dead, .dead, .dead, .dead, .dead, .dead, .dead, .dead, .dead, .dead, .dead, .dead, .dead, .dead, .dead, .dead, .dead, .dead, .dead, .dead, .dead, .dead, .dead, .dead, .dead, .dead, .dead, .dead, .dead, .dead]
def prog_Read.H0 (e3_1 : ByteArray) (e3_2 : Int) (e3_3 : Int) (s3 : Int × (List T_s50)) : Heap := [(.row 51 E_s50 [] false), (.row 51 E_s50 s3.2 false)]
noncomputable def prog_Read.M0 {Ω : Type} (fuel : Nat) (e3_1 : ByteArray) (e3_2 : Int) (e3_3 : Int)  (k : AV → Option Ω) (m : Nat) (s : Int × (List T_s50)) : Option Ω := loopK (fun env L k => evCode CK prog_Read.sp (prog_Read.F fuel) (cl (cl (cl (cr (cr (cr (cl (cr (Tryd.f22.body.getD .skip))))))))) env L k) [false, false, true, true, true, true, true, false, false, false, true, true, true, true, true, true, true, true, true, true, true, true, true, true, true, true, true, true, true, true, true, true, true, true, true, true, true, true, true, true, true, true, true, true, true, true, true, true, true, true, true, true] 2 (blockK 0 (seqK (fun env L => evCode CK prog_Read.sp (prog_Read.F fuel) (cr (cr (cr (cr (cl (cr (Tryd.f22.body.getD .skip))))))) env L (finK CK Tryd.f22 k)) (finK CK Tryd.f22 k))) m ((prog_Read.E0 e3_1 e3_2 e3_3) s) ((prog_Read.H0 e3_1 e3_2 e3_3) s)
def prog_Read.b0 {Ω : Type} (e3_1 : ByteArray) (e3_2 : Int) (e3_3 : Int)   (k : (List T_s50) × Int × Int → Option Ω) (r3 : Int × (List T_s50) → Option Ω) (s3 : Int × (List T_s50)) : Option Ω :=
  bif (s3.1 == 0) then
    bif (((List.length s3.2 : Nat) : Int) == e3_3) then
      (prog_Check.u s3.2).bind fun y2 =>
      bif (y2.2 != 0) then
        k ([], 0, y2.2)
      else
        k (s3.2, (IntKind.wrap .i64 ((IntKind.wrap .i64 (e3_2 + 1)) + (IntKind.wrap .i64 (e3_3 * 4)))), 0)
    else
      let v3 : Int := (IntKind.wrap .i64 ((IntKind.wrap .i64 (e3_2 + 1)) + (IntKind.wrap .i64 (((List.length s3.2 : Nat) : Int) * 4))))
      (instr_Read.u e3_1 v3).bind fun y4 =>
      bif (decide (List.length s3.2 + List.length [y4.1] ≤ rowMax)) then
        r3 (y4.2, (s3.2 ++ [y4.1]))
      else
        none
  else
    bif (s3.1 != 0) then
      k ([], 0, s3.1)
    else
      k (s3.2, (IntKind.wrap .i64 ((IntKind.wrap .i64 (e3_2 + 1)) + (IntKind.wrap .i64 (e3_3 * 4)))), 0)
def prog_Read.B0 {Ω : Type} (fuel : Nat) (e3_1 : ByteArray) (e3_2 : Int) (e3_3 : Int)  (k : (List T_s50) × Int × Int → Option Ω) (r3 : Int × (List T_s50) → Option Ω) (s3 : Int × (List T_s50)) : Option Ω := prog_Read.b0 e3_1 e3_2 e3_3   k r3 s3
theorem prog_Read.l0 {Ω : Type} (fuel : Nat) (e3_1 : ByteArray) (e3_2 : Int) (e3_3 : Int)  (k : AV → Option Ω) : ∀ m, (prog_Read.M0 fuel e3_1 e3_2 e3_3  k m) = iter (prog_Read.B0 fuel e3_1 e3_2 e3_3  (fun r => k (tupAV (.slice E_s50) [(.int .i64), (.int .i64)] r))) m :=
  loopK_iter (envOf := (prog_Read.E0 e3_1 e3_2 e3_3)) (LOf := (prog_Read.H0 e3_1 e3_2 e3_3)) (B := prog_Read.B0 fuel e3_1 e3_2 e3_3  (fun r => k (tupAV (.slice E_s50) [(.int .i64), (.int .i64)] r))) (fun R s => by kernel_rfl)
def prog_Read.sl {Ω : Type} (x0 : ByteArray) (x1 : Int) (lp0 : ByteArray → Int → Int → Int × (List T_s50) → Option Ω) (k : (List T_s50) × Int × Int → Option Ω) : Option Ω :=
  (prog_count.u x0 x1).bind fun y1 =>
  lp0 x0 x1 y1.1 (y1.2, [])
def prog_Read.s {Ω : Type} (fuel : Nat) (x0 : ByteArray) (x1 : Int) (k : (List T_s50) × Int × Int → Option Ω) : Option Ω := prog_Read.sl x0 x1 (fun e3_1 e3_2 e3_3 => (iter (prog_Read.B0 fuel e3_1 e3_2 e3_3  k) fuel)) k
theorem prog_Read.ev {Ω : Type} (fuel : Nat) (x0 : ByteArray) (x1 : Int) (k : AV → Option Ω) : evFn CK prog_Read.sp (prog_Read.F fuel) Tryd.f22 (Tryd.f22.body.getD .skip) [(.v .str (x0)), (.v (.int .i64) (x1))] k = prog_Read.s fuel x0 x1 (fun r => k (tupAV (.slice E_s50) [(.int .i64), (.int .i64)] r)) := by
  have h0 : evFn CK prog_Read.sp (prog_Read.F fuel) Tryd.f22 (Tryd.f22.body.getD .skip) [(.v .str (x0)), (.v (.int .i64) (x1))] k = prog_Read.sl x0 x1 (fun e3_1 e3_2 e3_3 => (prog_Read.M0 fuel e3_1 e3_2 e3_3  k fuel)) (fun r => k (tupAV (.slice E_s50) [(.int .i64), (.int .i64)] r)) := by kernel_rfl
  have h1 : (fun e3_1 e3_2 e3_3 => (prog_Read.M0 fuel e3_1 e3_2 e3_3  k fuel)) = (fun e3_1 e3_2 e3_3 => (iter (prog_Read.B0 fuel e3_1 e3_2 e3_3  (fun r => k (tupAV (.slice E_s50) [(.int .i64), (.int .i64)] r))) fuel)) := funext fun e3_1 => funext fun e3_2 => funext fun e3_3 => prog_Read.l0 fuel e3_1 e3_2 e3_3   k fuel
  rw [h1] at h0
  exact h0
def prog_Read.gb0 {Ω : Type} (e3_1 : ByteArray) (e3_2 : Int) (e3_3 : Int)  (k : (List T_s50) × Int × Int → Option Ω) (r3 : Int × (List T_s50) → Option Ω) (s3 : Int × (List T_s50)) : Option Ω :=
  bif (s3.1 == 0) then
    bif (((List.length s3.2 : Nat) : Int) == e3_3) then
      (prog_Check.u s3.2).bind fun y2 =>
      bif (y2.2 != 0) then
        k ([], 0, y2.2)
      else
        k (s3.2, (IntKind.wrap .i64 ((IntKind.wrap .i64 (e3_2 + 1)) + (IntKind.wrap .i64 (e3_3 * 4)))), 0)
    else
      let v3 : Int := (IntKind.wrap .i64 ((IntKind.wrap .i64 (e3_2 + 1)) + (IntKind.wrap .i64 (((List.length s3.2 : Nat) : Int) * 4))))
      (instr_Read.u e3_1 v3).bind fun y4 =>
      bif (decide (List.length s3.2 + List.length [y4.1] ≤ rowMax)) then
        r3 (y4.2, (s3.2 ++ [y4.1]))
      else
        none
  else
    bif (s3.1 != 0) then
      k ([], 0, s3.1)
    else
      k (s3.2, (IntKind.wrap .i64 ((IntKind.wrap .i64 (e3_2 + 1)) + (IntKind.wrap .i64 (e3_3 * 4)))), 0)
def prog_Read.g0 {Ω : Type} (e3_1 : ByteArray) (e3_2 : Int) (e3_3 : Int)  (k : (List T_s50) × Int × Int → Option Ω) (s : Int × (List T_s50)) : Option Ω := iter (prog_Read.gb0 e3_1 e3_2 e3_3  k) BIG s
theorem prog_Read.h0 {Ω : Type} (e3_1 : ByteArray) (e3_2 : Int) (e3_3 : Int)   (k : (List T_s50) × Int × Int → Option Ω) (s : Int × (List T_s50)) : Le (prog_Read.g0 e3_1 e3_2 e3_3  k s) (iter (prog_Read.B0 BIG e3_1 e3_2 e3_3  k) BIG s) :=
  iter_le (B := prog_Read.gb0 e3_1 e3_2 e3_3  k) (B' := (prog_Read.B0 BIG e3_1 e3_2 e3_3  k)) (fun r3 r3' s3 ih => (Le.cond (Le.cond (Le.bnd fun y2 => (Le.cond (Le.refl _) (Le.refl _))) (let v3 : Int := (IntKind.wrap .i64 ((IntKind.wrap .i64 (e3_2 + 1)) + (IntKind.wrap .i64 (((List.length s3.2 : Nat) : Int) * 4)))); (Le.bnd fun y4 => (Le.cond (ih _) Le.nil)))) (Le.cond (Le.refl _) (Le.refl _)))) BIG s
def prog_Read.w {Ω : Type} (x0 : ByteArray) (x1 : Int) (k : (List T_s50) × Int × Int → Option Ω) : Option Ω :=
  (prog_count.u x0 x1).bind fun y1 =>
  prog_Read.g0 x0 x1 y1.1  k (y1.2, [])
theorem prog_Read.le {Ω : Type} (x0 : ByteArray) (x1 : Int) (k : (List T_s50) × Int × Int → Option Ω) : Le (prog_Read.w x0 x1 k) (prog_Read.s BIG x0 x1 k) := by
  delta prog_Read.w prog_Read.s prog_Read.sl
  exact (Le.bnd fun y1 => (prog_Read.h0 _ _ _   k _))
def prog_Read.u (x0 : ByteArray) (x1 : Int) : Option ((List T_s50) × Int × Int) := prog_Read.w x0 x1 some
theorem prog_Read.c (x0 : ByteArray) (x1 : Int) (r : (List T_s50) × Int × Int) (h : prog_Read.u x0 x1 = some r) : Contract CK 22 [(.v .str (x0)), (.v (.int .i64) (x1))] (tupAV (.slice E_s50) [(.int .i64), (.int .i64)] r) :=
  contract_s (S := fun k => prog_Read.s BIG x0 x1 k) CK_ok (orS_ok instr_Read.e_ok (orS_ok (prog_count.e_ok.mono le_C_CK) (orS_ok prog_Check.e_ok noS_ok))) (by kernel_rfl) (by kernel_rfl) (by kernel_rfl) (prog_Read.ev BIG x0 x1 (dec (.slice E_s50) [(.int .i64), (.int .i64)])) (prog_Read.le x0 x1 some r h)
noncomputable def prog_Read.e : Ent := argI .str fun x0 => argI (.int .i64) fun x1 => endU (prog_Read.u x0 x1) (tupAV (.slice E_s50) [(.int .i64), (.int .i64)])
theorem prog_Read.e_ok : EntOK CK 22 (fun {_} => prog_Read.e) := entA_ok (argI_ok fun x0 => argI_ok fun x1 => endU_ok fun r h => prog_Read.c x0 x1 r h)

/-- becket becketref12.Read -/
noncomputable def ref12_Read.sp : Spec := (orS 48 (fun {_} => ref10_Read.e) (orS 12 (fun {_} => ref12_Check.e) noS))
def ref12_Read.F (fuel : Nat) : Fuel := ⟨fuel, fun r => bif r == 12 then [2, 3, 4, 5, 6, 10, 11, 12, 13, 14, 15, 16, 17, 18, 19, 20, 21, 22, 23, 24, 25, 26, 27, 28, 29, 30, 31, 32, 33, 34, 35, 36, 37, 38, 39, 40, 41, 42, 43, 44, 45, 46, 47, 48, 49, 50, 51, 52, 53, 54, 55, 56, 57, 58, 59, 60, 61, 62, 63, 64, 65, 66, 67, 68, 69] else []⟩
def ref12_Read.E0 (e12_1 : ByteArray) (e12_2 : Int) (e12_3 : Int) (s12 : Int × (List T_s50)) : List AV := [(.v .str (e12_1)), (.v (.int .i64) (e12_2)), .dead, .dead, .dead, .dead, .dead, (.v (.int .i64) (e12_3)), (.rs 1), (.v (.int .i64) (s12.1)), .dead, .dead, .dead, .dead, .dead, .dead, .dead, .dead, .dead, .dead, .dead, .dead, .dead, .dead, .dead, .dead, .dead, .dead, .dead, .dead, .dead, .dead, .dead, .dead, .dead, .dead, .dead, .dead, .dead, .dead, .dead, .dead, .dead, .dead, .dead, .dead, .dead, .dead, .dead, .dead, .dead, .dead, .dead, .dead, .dead, .dead, .dead, .dead, .dead, .dead, .dead, .dead, .dead, .dead, .dead, .dead, .dead, .dead, .dead, .dead]
def ref12_Read.H0 (e12_1 : ByteArray) (e12_2 : Int) (e12_3 : Int) (s12 : Int × (List T_s50)) : Heap := [(.row 51 E_s50 [] false), (.row 51 E_s50 s12.2 false)]
noncomputable def ref12_Read.M0 {Ω : Type} (fuel : Nat) (e12_1 : ByteArray) (e12_2 : Int) (e12_3 : Int)  (k : AV → Option Ω) (m : Nat) (s : Int × (List T_s50)) : Option Ω := loopK (fun env L k => evCode C ref12_Read.sp (ref12_Read.F fuel) (cl (cl (cr (cl (cr (cr (cr (cr (cr (cr (cr (Tryd.f23.body.getD .skip)))))))))))) env L k) [false, false, true, true, true, true, true, false, false, false, true, true, true, true, true, true, true, true, true, true, true, true, true, true, true, true, true, true, true, true, true, true, true, true, true, true, true, true, true, true, true, true, true, true, true, true, true, true, true, true, true, true, true, true, true, true, true, true, true, true, true, true, true, true, true, true, true, true, true, true] 2 (blockK 0 (seqK (fun env L => evCode C ref12_Read.sp (ref12_Read.F fuel) (cr (cr (cr (cr (cr (cr (cr (cr (Tryd.f23.body.getD .skip))))))))) env L (finK C Tryd.f23 k)) (finK C Tryd.f23 k))) m ((ref12_Read.E0 e12_1 e12_2 e12_3) s) ((ref12_Read.H0 e12_1 e12_2 e12_3) s)
def ref12_Read.b0 {Ω : Type} (e12_1 : ByteArray) (e12_2 : Int) (e12_3 : Int)   (k : (List T_s50) × Int × Int → Option Ω) (r12 : Int × (List T_s50) → Option Ω) (s12 : Int × (List T_s50)) : Option Ω :=
  bif (decide (s12.1 < e12_3)) then
    (ref10_Read.u e12_1 ((IntKind.wrap .i64 ((IntKind.wrap .i64 (e12_2 + 1)) + (IntKind.wrap .i64 (4 * s12.1)))))).bind fun y1 =>
    bif (y1.2 != 0) then
      k ([], 0, y1.2)
    else
      bif (decide (List.length s12.2 + List.length [y1.1] ≤ rowMax)) then
        r12 ((IntKind.wrap .i64 (s12.1 + 1)), (s12.2 ++ [y1.1]))
      else
        none
  else
    (ref12_Check.u s12.2).bind fun y2 =>
    bif (y2.2 != 0) then
      k ([], 0, y2.2)
    else
      k (s12.2, (IntKind.wrap .i64 ((IntKind.wrap .i64 (e12_2 + 1)) + (IntKind.wrap .i64 (4 * e12_3)))), 0)
def ref12_Read.B0 {Ω : Type} (fuel : Nat) (e12_1 : ByteArray) (e12_2 : Int) (e12_3 : Int)  (k : (List T_s50) × Int × Int → Option Ω) (r12 : Int × (List T_s50) → Option Ω) (s12 : Int × (List T_s50)) : Option Ω := ref12_Read.b0 e12_1 e12_2 e12_3   k r12 s12
theorem ref12_Read.l0 {Ω : Type} (fuel : Nat) (e12_1 : ByteArray) (e12_2 : Int) (e12_3 : Int)  (k : AV → Option Ω) : ∀ m, (ref12_Read.M0 fuel e12_1 e12_2 e12_3  k m) = iter (ref12_Read.B0 fuel e12_1 e12_2 e12_3  (fun r => k (tupAV (.slice E_s50) [(.int .i64), (.int .i64)] r))) m :=
  loopK_iter (envOf := (ref12_Read.E0 e12_1 e12_2 e12_3)) (LOf := (ref12_Read.H0 e12_1 e12_2 e12_3)) (B := ref12_Read.B0 fuel e12_1 e12_2 e12_3  (fun r => k (tupAV (.slice E_s50) [(.int .i64), (.int .i64)] r))) (fun R s => by kernel_rfl)
def ref12_Read.sl {Ω : Type} (x0 : ByteArray) (x1 : Int) (lp0 : ByteArray → Int → Int → Int × (List T_s50) → Option Ω) (k : (List T_s50) × Int × Int → Option Ω) : Option Ω :=
  bif (decide (x1 < 0)) then
    k ([], 0, 8)
  else
    bif (decide (x1 > ((x0).size : Int))) then
      k ([], 0, 8)
    else
      bif (x1 == ((x0).size : Int)) then
        k ([], 0, 4)
      else
        bif (idxOK x1 (x0).size) then
          bif ((IntKind.wrap .i64 (bAt x0 (Int.toNat x1))) == 0) then
            k ([], 0, 11)
          else
            bif (decide ((IntKind.wrap .i64 (bAt x0 (Int.toNat x1))) > 64)) then
              k ([], 0, 5)
            else
              lp0 x0 x1 ((IntKind.wrap .i64 (bAt x0 (Int.toNat x1)))) (0, [])
        else
          none
def ref12_Read.s {Ω : Type} (fuel : Nat) (x0 : ByteArray) (x1 : Int) (k : (List T_s50) × Int × Int → Option Ω) : Option Ω := ref12_Read.sl x0 x1 (fun e12_1 e12_2 e12_3 => (iter (ref12_Read.B0 fuel e12_1 e12_2 e12_3  k) fuel)) k
theorem ref12_Read.ev {Ω : Type} (fuel : Nat) (x0 : ByteArray) (x1 : Int) (k : AV → Option Ω) : evFn C ref12_Read.sp (ref12_Read.F fuel) Tryd.f23 (Tryd.f23.body.getD .skip) [(.v .str (x0)), (.v (.int .i64) (x1))] k = ref12_Read.s fuel x0 x1 (fun r => k (tupAV (.slice E_s50) [(.int .i64), (.int .i64)] r)) := by
  have h0 : evFn C ref12_Read.sp (ref12_Read.F fuel) Tryd.f23 (Tryd.f23.body.getD .skip) [(.v .str (x0)), (.v (.int .i64) (x1))] k = ref12_Read.sl x0 x1 (fun e12_1 e12_2 e12_3 => (ref12_Read.M0 fuel e12_1 e12_2 e12_3  k fuel)) (fun r => k (tupAV (.slice E_s50) [(.int .i64), (.int .i64)] r)) := by kernel_rfl
  have h1 : (fun e12_1 e12_2 e12_3 => (ref12_Read.M0 fuel e12_1 e12_2 e12_3  k fuel)) = (fun e12_1 e12_2 e12_3 => (iter (ref12_Read.B0 fuel e12_1 e12_2 e12_3  (fun r => k (tupAV (.slice E_s50) [(.int .i64), (.int .i64)] r))) fuel)) := funext fun e12_1 => funext fun e12_2 => funext fun e12_3 => ref12_Read.l0 fuel e12_1 e12_2 e12_3   k fuel
  rw [h1] at h0
  exact h0
def ref12_Read.g0 {Ω : Type} (e12_1 : ByteArray) (e12_2 : Int) (e12_3 : Int)  (k : (List T_s50) × Int × Int → Option Ω) : Nat → Int → (List T_s50) → Option Ω
  | 0, i12, a12_1 =>
    (ref12_Check.u a12_1).bind fun y2 =>
    bif (y2.2 != 0) then
      k ([], 0, y2.2)
    else
      k (a12_1, (IntKind.wrap .i64 ((IntKind.wrap .i64 (e12_2 + 1)) + (IntKind.wrap .i64 (4 * e12_3)))), 0)
  | d12 + 1, i12, a12_1 =>
    (ref10_Read.u e12_1 ((IntKind.wrap .i64 ((IntKind.wrap .i64 (e12_2 + 1)) + (IntKind.wrap .i64 (4 * i12)))))).bind fun y1 =>
    bif (y1.2 != 0) then
      k ([], 0, y1.2)
    else
      bif (decide (List.length a12_1 + List.length [y1.1] ≤ rowMax)) then
        ref12_Read.g0 e12_1 e12_2 e12_3  k d12 (i12 + 1) (a12_1 ++ [y1.1])
      else
        none
theorem ref12_Read.h0 {Ω : Type} (e12_1 : ByteArray) (e12_2 : Int) (e12_3 : Int)   (k : (List T_s50) × Int × Int → Option Ω) (hN : (e12_3 : Int) ≤ 9223372036854775807) : ∀ (m : Nat) (i : Int) (a : (List T_s50)), -9223372036854775808 ≤ i → Int.toNat ((e12_3 : Int) - i) < m → Le (ref12_Read.g0 e12_1 e12_2 e12_3  k (Int.toNat ((e12_3 : Int) - i)) i a) (iter (ref12_Read.B0 BIG e12_1 e12_2 e12_3  k) m (i, a)) :=
  iter_count (e12_3 : Int) (fun i12 => (decide (i12 < e12_3))) (fun i => rfl) (fun (i12 : Int) (a12 : (List T_s50)) => (i12, a12)) (fun xs i12 a12 => ref12_Read.g0 e12_1 e12_2 e12_3  k xs i12 a12) (ref12_Read.B0 BIG e12_1 e12_2 e12_3  k)
    (fun i12 a12 r h0 => (Le.fls h0 (Le.bnd fun y2 => (Le.cond (Le.refl _) (Le.refl _)))))
    (fun i12 d12 a12 r h0 hw ih => (Le.tru h0 (Le.bnd fun y1 => (Le.cond (Le.refl _) (Le.cond (ih _ hw ((a12 ++ [y1.1]))) Le.nil)))))
    hN
def ref12_Read.w {Ω : Type} (x0 : ByteArray) (x1 : Int) (k : (List T_s50) × Int × Int → Option Ω) : Option Ω :=
  bif (decide (x1 < 0)) then
    k ([], 0, 8)
  else
    bif (decide (x1 > ((x0).size : Int))) then
      k ([], 0, 8)
    else
      bif (x1 == ((x0).size : Int)) then
        k ([], 0, 4)
      else
        bif (idxOK x1 (x0).size) then
          bif ((IntKind.wrap .i64 (bAt x0 (Int.toNat x1))) == 0) then
            k ([], 0, 11)
          else
            bif (decide ((IntKind.wrap .i64 (bAt x0 (Int.toNat x1))) > 64)) then
              k ([], 0, 5)
            else
              bif (decide (((IntKind.wrap .i64 (bAt x0 (Int.toNat x1)))) ≤ 4611686018427387904)) then ref12_Read.g0 x0 x1 ((IntKind.wrap .i64 (bAt x0 (Int.toNat x1))))  k ((Int.toNat (((IntKind.wrap .i64 (bAt x0 (Int.toNat x1)))) - 0))) 0 ([]) else none
        else
          none
theorem ref12_Read.le {Ω : Type} (x0 : ByteArray) (x1 : Int) (k : (List T_s50) × Int × Int → Option Ω) : Le (ref12_Read.w x0 x1 k) (ref12_Read.s BIG x0 x1 k) := by
  delta ref12_Read.w ref12_Read.s ref12_Read.sl
  exact (Le.cond (Le.refl _) (Le.cond (Le.refl _) (Le.cond (Le.refl _) (Le.cond (Le.cond (Le.refl _) (Le.cond (Le.refl _) (Le.gd fun hg => ref12_Read.h0 _ _ _   k (cnt_up hg) BIG 0 ([]) (by decide) (cnt_big hg (by decide))))) Le.nil))))
def ref12_Read.u (x0 : ByteArray) (x1 : Int) : Option ((List T_s50) × Int × Int) := ref12_Read.w x0 x1 some
theorem ref12_Read.c (x0 : ByteArray) (x1 : Int) (r : (List T_s50) × Int × Int) (h : ref12_Read.u x0 x1 = some r) : Contract C 23 [(.v .str (x0)), (.v (.int .i64) (x1))] (tupAV (.slice E_s50) [(.int .i64), (.int .i64)] r) :=
  contract_s (S := fun k => ref12_Read.s BIG x0 x1 k) C_ok (orS_ok ref10_Read.e_ok (orS_ok ref12_Check.e_ok noS_ok)) (by kernel_rfl) (by kernel_rfl) (by kernel_rfl) (ref12_Read.ev BIG x0 x1 (dec (.slice E_s50) [(.int .i64), (.int .i64)])) (ref12_Read.le x0 x1 some r h)
noncomputable def ref12_Read.e : Ent := argI .str fun x0 => argI (.int .i64) fun x1 => endU (ref12_Read.u x0 x1) (tupAV (.slice E_s50) [(.int .i64), (.int .i64)])
theorem ref12_Read.e_ok : EntOK C 23 (fun {_} => ref12_Read.e) := entA_ok (argI_ok fun x0 => argI_ok fun x1 => endU_ok fun r h => ref12_Read.c x0 x1 r h)

end Go.Proofs.YthamolhikhcilaaDoor.K

/- What functions of the program come to, plainly. -/
import Derived.Test.YtfihhbgppgkafaaDoorZ10a
set_option maxRecDepth 100000
set_option linter.unusedVariables false
namespace Go.Proofs.YtfihhbgppgkafaaDoor.K
open Go Go.RowKit

/-- slices.partialInsertionSortOrdered int  -/
noncomputable def slices_partialInsertionSortOrdered_int.sp : Spec := (orS 168 (fun {_} => cmp_Less_int.e) noS)
def slices_partialInsertionSortOrdered_int.F (fuel : Nat) : Fuel := ⟨fuel, fun r => bif r == 5 then [3, 4, 5, 6, 9, 10, 11, 12, 13, 14, 15, 16, 17, 18, 19, 20, 21, 22, 23, 24, 25, 26, 27, 28, 29, 30, 31, 32, 33, 34, 35, 36, 37, 38, 39, 40, 41, 42, 43, 44, 45, 46, 47, 48, 49, 50, 51, 52, 53, 54, 55, 56, 57, 58, 59, 60, 61, 62, 63, 64, 65, 66, 67, 68, 69, 70, 71, 72, 73, 74, 75, 76, 77, 78, 79, 80, 81, 82, 83, 84, 85, 86, 87, 88, 89, 90, 91, 92, 93, 94, 95, 96, 97, 98, 99, 100, 101, 102, 103, 104, 105, 106, 107, 108, 109, 110, 111, 112, 113, 114, 115, 116, 117, 118, 119, 120, 121, 122, 123, 124, 125, 126, 127, 128, 129, 130, 131, 132] else bif r == 3 then [3, 4, 5, 6, 9, 10, 11, 12, 13, 14, 15, 16, 17, 18, 19, 20, 21, 22, 23, 24, 25, 26, 27, 28, 29, 30, 31, 32, 33, 34, 35, 36, 37, 38, 39, 40, 41, 42, 43, 44, 45, 46, 47, 48, 49, 50, 51, 52, 53, 54, 55, 56, 57, 58, 59, 60, 61, 62, 63, 64, 65, 66, 67, 68, 69, 70, 71, 72, 73, 74, 75, 76, 77, 78, 79, 80, 81, 82, 83, 84, 85, 86, 87, 88, 89, 90, 91, 92, 93, 94, 95, 96, 97, 98, 99, 100, 101, 102, 103, 104, 105, 106, 107, 108, 109, 110, 111, 112, 113, 114, 115, 116, 117, 118, 119, 120, 121, 122, 123, 124, 125, 126, 127, 128, 129, 130, 131, 132] else []⟩
def slices_partialInsertionSortOrdered_int.E0 (e3_1 : (List Int)) (e3_2 : Int) (e3_3 : Int) (s5 : Int) : List AV := [(.v (.slice (.int .i64)) (e3_1)), (.v (.int .i64) (e3_2)), (.v (.int .i64) (e3_3)), .dead, .dead, .dead, .dead, (.v (.int .i64) (s5)), (.v (.int .i64) (0)), .dead, .dead, .dead, .dead, .dead, .dead, .dead, .dead, .dead, .dead, .dead, .dead, .dead, .dead, .dead, .dead, .dead, .dead, .dead, .dead, .dead, .dead, .dead, .dead, .dead, .dead, .dead, .dead, .dead, .dead, .dead, .dead, .dead, .dead, .dead, .dead, .dead, .dead, .dead, .dead, .dead, .dead, .dead, .dead, .dead, .dead, .dead, .dead, .dead, .dead, .dead, .dead, .dead, .dead, .dead, .dead, .dead, .dead, .dead, .dead, .dead, .dead, .dead, .dead, .dead, .dead, .dead, .dead, .dead, .dead, .dead, .dead, .dead, .dead, .dead, .dead, .dead, .dead, .dead, .dead, .dead, .dead, .dead, .dead, .dead, .dead, .dead, .dead, .dead, .dead, .dead, .dead, .dead, .dead, .dead, .dead, .dead, .dead, .dead, .dead, .dead, .dead, .dead, .dead, .dead, .dead, .dead, .dead, .dead, .dead, .dead, .dead, .dead, .dead, .dead, .dead, .dead, .dead, .dead, .dead, .dead, .dead, .dead, .dead]
def slices_partialInsertionSortOrdered_int.H0 (e3_1 : (List Int)) (e3_2 : Int) (e3_3 : Int) (s5 : Int) : Heap := []
noncomputable def slices_partialInsertionSortOrdered_int.M0 {Ω : Type} (fuel : Nat) (e3_1 : (List Int)) (e3_2 : Int) (e3_3 : Int) (R3 : List AV → Heap → Option Ω) (k : AV → Option Ω) (m : Nat) (s : Int) : Option Ω := loopK (fun env L k => evCode C slices_partialInsertionSortOrdered_int.sp (slices_partialInsertionSortOrdered_int.F fuel) (cl (cl (cl (cl (cl (cr (cl (cl (cr (cl (cr (cr (Tryd.f167.body.getD .skip))))))))))))) env L k) [false, false, false, true, true, true, true, false, false, true, true, true, true, true, true, true, true, true, true, true, true, true, true, true, true, true, true, true, true, true, true, true, true, true, true, true, true, true, true, true, true, true, true, true, true, true, true, true, true, true, true, true, true, true, true, true, true, true, true, true, true, true, true, true, true, true, true, true, true, true, true, true, true, true, true, true, true, true, true, true, true, true, true, true, true, true, true, true, true, true, true, true, true, true, true, true, true, true, true, true, true, true, true, true, true, true, true, true, true, true, true, true, true, true, true, true, true, true, true, true, true, true, true, true, true, true, true, true, true, true, true, true, true] 0 (blockK 2 (seqK (fun env L => evCode C slices_partialInsertionSortOrdered_int.sp (slices_partialInsertionSortOrdered_int.F fuel) (cr (cl (cl (cr (cl (cl (cr (cl (cr (cr (Tryd.f167.body.getD .skip))))))))))) env L (blockK 1 (seqK (fun env L => evCode C slices_partialInsertionSortOrdered_int.sp (slices_partialInsertionSortOrdered_int.F fuel) (cr (cr (cl (cl (cr (cl (cr (cr (Tryd.f167.body.getD .skip))))))))) env L (loopC R3 [false, false, false, true, true, true, true, false, false, true, true, true, true, true, true, true, true, true, true, true, true, true, true, true, true, true, true, true, true, true, true, true, true, true, true, true, true, true, true, true, true, true, true, true, true, true, true, true, true, true, true, true, true, true, true, true, true, true, true, true, true, true, true, true, true, true, true, true, true, true, true, true, true, true, true, true, true, true, true, true, true, true, true, true, true, true, true, true, true, true, true, true, true, true, true, true, true, true, true, true, true, true, true, true, true, true, true, true, true, true, true, true, true, true, true, true, true, true, true, true, true, true, true, true, true, true, true, true, true, true, true, true, true] 0 (blockK 0 (seqK (fun env L => evCode C slices_partialInsertionSortOrdered_int.sp (slices_partialInsertionSortOrdered_int.F fuel) (cr (cr (cr (Tryd.f167.body.getD .skip)))) env L (finK C Tryd.f167 k)) (finK C Tryd.f167 k))))) (loopC R3 [false, false, false, true, true, true, true, false, false, true, true, true, true, true, true, true, true, true, true, true, true, true, true, true, true, true, true, true, true, true, true, true, true, true, true, true, true, true, true, true, true, true, true, true, true, true, true, true, true, true, true, true, true, true, true, true, true, true, true, true, true, true, true, true, true, true, true, true, true, true, true, true, true, true, true, true, true, true, true, true, true, true, true, true, true, true, true, true, true, true, true, true, true, true, true, true, true, true, true, true, true, true, true, true, true, true, true, true, true, true, true, true, true, true, true, true, true, true, true, true, true, true, true, true, true, true, true, true, true, true, true, true, true] 0 (blockK 0 (seqK (fun env L => evCode C slices_partialInsertionSortOrdered_int.sp (slices_partialInsertionSortOrdered_int.F fuel) (cr (cr (cr (Tryd.f167.body.getD .skip)))) env L (finK C Tryd.f167 k)) (finK C Tryd.f167 k))))))) (blockK 1 (seqK (fun env L => evCode C slices_partialInsertionSortOrdered_int.sp (slices_partialInsertionSortOrdered_int.F fuel) (cr (cr (cl (cl (cr (cl (cr (cr (Tryd.f167.body.getD .skip))))))))) env L (loopC R3 [false, false, false, true, true, true, true, false, false, true, true, true, true, true, true, true, true, true, true, true, true, true, true, true, true, true, true, true, true, true, true, true, true, true, true, true, true, true, true, true, true, true, true, true, true, true, true, true, true, true, true, true, true, true, true, true, true, true, true, true, true, true, true, true, true, true, true, true, true, true, true, true, true, true, true, true, true, true, true, true, true, true, true, true, true, true, true, true, true, true, true, true, true, true, true, true, true, true, true, true, true, true, true, true, true, true, true, true, true, true, true, true, true, true, true, true, true, true, true, true, true, true, true, true, true, true, true, true, true, true, true, true, true] 0 (blockK 0 (seqK (fun env L => evCode C slices_partialInsertionSortOrdered_int.sp (slices_partialInsertionSortOrdered_int.F fuel) (cr (cr (cr (Tryd.f167.body.getD .skip)))) env L (finK C Tryd.f167 k)) (finK C Tryd.f167 k))))) (loopC R3 [false, false, false, true, true, true, true, false, false, true, true, true, true, true, true, true, true, true, true, true, true, true, true, true, true, true, true, true, true, true, true, true, true, true, true, true, true, true, true, true, true, true, true, true, true, true, true, true, true, true, true, true, true, true, true, true, true, true, true, true, true, true, true, true, true, true, true, true, true, true, true, true, true, true, true, true, true, true, true, true, true, true, true, true, true, true, true, true, true, true, true, true, true, true, true, true, true, true, true, true, true, true, true, true, true, true, true, true, true, true, true, true, true, true, true, true, true, true, true, true, true, true, true, true, true, true, true, true, true, true, true, true, true] 0 (blockK 0 (seqK (fun env L => evCode C slices_partialInsertionSortOrdered_int.sp (slices_partialInsertionSortOrdered_int.F fuel) (cr (cr (cr (Tryd.f167.body.getD .skip)))) env L (finK C Tryd.f167 k)) (finK C Tryd.f167 k)))))))) m ((slices_partialInsertionSortOrdered_int.E0 e3_1 e3_2 e3_3) s) ((slices_partialInsertionSortOrdered_int.H0 e3_1 e3_2 e3_3) s)
def slices_partialInsertionSortOrdered_int.E1 (e3_1 : (List Int)) (e3_2 : Int) (e3_3 : Int) (e3_4 : Int) (s3 : Unit) : List AV := [(.v (.slice (.int .i64)) (e3_1)), (.v (.int .i64) (e3_2)), (.v (.int .i64) (e3_3)), .dead, .dead, .dead, .dead, (.v (.int .i64) (e3_4)), (.v (.int .i64) (0)), .dead, .dead, .dead, .dead, .dead, .dead, .dead, .dead, .dead, .dead, .dead, .dead, .dead, .dead, .dead, .dead, .dead, .dead, .dead, .dead, .dead, .dead, .dead, .dead, .dead, .dead, .dead, .dead, .dead, .dead, .dead, .dead, .dead, .dead, .dead, .dead, .dead, .dead, .dead, .dead, .dead, .dead, .dead, .dead, .dead, .dead, .dead, .dead, .dead, .dead, .dead, .dead, .dead, .dead, .dead, .dead, .dead, .dead, .dead, .dead, .dead, .dead, .dead, .dead, .dead, .dead, .dead, .dead, .dead, .dead, .dead, .dead, .dead, .dead, .dead, .dead, .dead, .dead, .dead, .dead, .dead, .dead, .dead, .dead, .dead, .dead, .dead, .dead, .dead, .dead, .dead, .dead, .dead, .dead, .dead, .dead, .dead, .dead, .dead, .dead, .dead, .dead, .dead, .dead, .dead, .dead, .dead, .dead, .dead, .dead, .dead, .dead, .dead, .dead, .dead, .dead, .dead, .dead, .dead, .dead, .dead, .dead, .dead, .dead]
def slices_partialInsertionSortOrdered_int.H1 (e3_1 : (List Int)) (e3_2 : Int) (e3_3 : Int) (e3_4 : Int) (s3 : Unit) : Heap := []
noncomputable def slices_partialInsertionSortOrdered_int.M1 {Ω : Type} (fuel : Nat) (e3_1 : (List Int)) (e3_2 : Int) (e3_3 : Int) (e3_4 : Int)  (k : AV → Option Ω) (m : Nat) (s : Unit) : Option Ω := loopK (fun env L k => evCode C slices_partialInsertionSortOrdered_int.sp (slices_partialInsertionSortOrdered_int.F fuel) (cl (cl (cr (cl (cr (cr (Tryd.f167.body.getD .skip))))))) env L k) [false, false, false, true, true, true, true, false, false, true, true, true, true, true, true, true, true, true, true, true, true, true, true, true, true, true, true, true, true, true, true, true, true, true, true, true, true, true, true, true, true, true, true, true, true, true, true, true, true, true, true, true, true, true, true, true, true, true, true, true, true, true, true, true, true, true, true, true, true, true, true, true, true, true, true, true, true, true, true, true, true, true, true, true, true, true, true, true, true, true, true, true, true, true, true, true, true, true, true, true, true, true, true, true, true, true, true, true, true, true, true, true, true, true, true, true, true, true, true, true, true, true, true, true, true, true, true, true, true, true, true, true, true] 0 (blockK 0 (seqK (fun env L => evCode C slices_partialInsertionSortOrdered_int.sp (slices_partialInsertionSortOrdered_int.F fuel) (cr (cr (cr (Tryd.f167.body.getD .skip)))) env L (finK C Tryd.f167 k)) (finK C Tryd.f167 k))) m ((slices_partialInsertionSortOrdered_int.E1 e3_1 e3_2 e3_3 e3_4) s) ((slices_partialInsertionSortOrdered_int.H1 e3_1 e3_2 e3_3 e3_4) s)
def slices_partialInsertionSortOrdered_int.b0 {Ω : Type} (e3_1 : (List Int)) (e3_2 : Int) (e3_3 : Int)   (k : Bool → Option Ω) (r5 : Int → Option Ω) (s5 : Int) : Option Ω :=
  bif (decide (s5 < e3_3)) then
    bif (idxOK s5 (List.length e3_1)) then
      bif (idxOK (IntKind.wrap .i64 (s5 - 1)) (List.length e3_1)) then
        let v1 : Bool := (cmp_Less_int.t ((List.getD e3_1 (Int.toNat s5) 0)) ((List.getD e3_1 (Int.toNat (IntKind.wrap .i64 (s5 - 1))) 0)))
        bif (!v1) then
          r5 ((IntKind.wrap .i64 (s5 + 1)))
        else
          bif (s5 == e3_3) then
            k true
          else
            bif (decide ((IntKind.wrap .i64 (e3_3 - e3_2)) < 50)) then
              k false
            else
              bif (idxOK (IntKind.wrap .i64 (s5 - 1)) (List.length e3_1)) then
                bif (idxOK s5 (List.length e3_1)) then
                  bif (idxOK s5 (List.length e3_1)) then
                    none
                  else
                    none
                else
                  none
              else
                none
      else
        none
    else
      none
  else
    bif (s5 == e3_3) then
      k true
    else
      bif (decide ((IntKind.wrap .i64 (e3_3 - e3_2)) < 50)) then
        k false
      else
        bif (idxOK (IntKind.wrap .i64 (s5 - 1)) (List.length e3_1)) then
          bif (idxOK s5 (List.length e3_1)) then
            bif (idxOK s5 (List.length e3_1)) then
              none
            else
              none
          else
            none
        else
          none
def slices_partialInsertionSortOrdered_int.B0 {Ω : Type} (fuel : Nat) (e3_1 : (List Int)) (e3_2 : Int) (e3_3 : Int)  (k : Bool → Option Ω) (r5 : Int → Option Ω) (s5 : Int) : Option Ω := slices_partialInsertionSortOrdered_int.b0 e3_1 e3_2 e3_3   k r5 s5
def slices_partialInsertionSortOrdered_int.b1 {Ω : Type} (e3_1 : (List Int)) (e3_2 : Int) (e3_3 : Int) (e3_4 : Int)  (lp0 : (List Int) → Int → Int → Int → Option Ω) (k : Bool → Option Ω) (r3 : Unit → Option Ω) (s3 : Unit) : Option Ω :=
  lp0 e3_1 e3_2 e3_3 (e3_4)
def slices_partialInsertionSortOrdered_int.B1 {Ω : Type} (fuel : Nat) (e3_1 : (List Int)) (e3_2 : Int) (e3_3 : Int) (e3_4 : Int)  (k : Bool → Option Ω) (r3 : Unit → Option Ω) (s3 : Unit) : Option Ω := slices_partialInsertionSortOrdered_int.b1 e3_1 e3_2 e3_3 e3_4  (fun e3_1 e3_2 e3_3 => (iter (slices_partialInsertionSortOrdered_int.B0 fuel e3_1 e3_2 e3_3  k) fuel)) k r3 s3
theorem slices_partialInsertionSortOrdered_int.l0 {Ω : Type} (fuel : Nat) (e3_1 : (List Int)) (e3_2 : Int) (e3_3 : Int) (e3_4 : Int) (R3 : List AV → Heap → Option Ω) (k : AV → Option Ω) : ∀ m, (slices_partialInsertionSortOrdered_int.M0 fuel e3_1 e3_2 e3_3 R3 k m) = iter (slices_partialInsertionSortOrdered_int.B0 fuel e3_1 e3_2 e3_3  (fun r => k (tupAV .bool [] r))) m :=
  loopK_iter (envOf := (slices_partialInsertionSortOrdered_int.E0 e3_1 e3_2 e3_3)) (LOf := (slices_partialInsertionSortOrdered_int.H0 e3_1 e3_2 e3_3)) (B := slices_partialInsertionSortOrdered_int.B0 fuel e3_1 e3_2 e3_3  (fun r => k (tupAV .bool [] r))) (fun R s => by kernel_rfl)
theorem slices_partialInsertionSortOrdered_int.l1 {Ω : Type} (fuel : Nat) (e3_1 : (List Int)) (e3_2 : Int) (e3_3 : Int) (e3_4 : Int)  (k : AV → Option Ω) : ∀ m, (slices_partialInsertionSortOrdered_int.M1 fuel e3_1 e3_2 e3_3 e3_4  k m) = iter (slices_partialInsertionSortOrdered_int.B1 fuel e3_1 e3_2 e3_3 e3_4  (fun r => k (tupAV .bool [] r))) m :=
  loopK_iter (envOf := (slices_partialInsertionSortOrdered_int.E1 e3_1 e3_2 e3_3 e3_4)) (LOf := (slices_partialInsertionSortOrdered_int.H1 e3_1 e3_2 e3_3 e3_4)) (B := slices_partialInsertionSortOrdered_int.B1 fuel e3_1 e3_2 e3_3 e3_4  (fun r => k (tupAV .bool [] r))) (fun R s => by
    have h0 : evCode C slices_partialInsertionSortOrdered_int.sp (slices_partialInsertionSortOrdered_int.F fuel) (cl (cl (cr (cl (cr (cr (Tryd.f167.body.getD .skip))))))) ((slices_partialInsertionSortOrdered_int.E1 e3_1 e3_2 e3_3 e3_4) s) ((slices_partialInsertionSortOrdered_int.H1 e3_1 e3_2 e3_3 e3_4) s) (loopC R [false, false, false, true, true, true, true, false, false, true, true, true, true, true, true, true, true, true, true, true, true, true, true, true, true, true, true, true, true, true, true, true, true, true, true, true, true, true, true, true, true, true, true, true, true, true, true, true, true, true, true, true, true, true, true, true, true, true, true, true, true, true, true, true, true, true, true, true, true, true, true, true, true, true, true, true, true, true, true, true, true, true, true, true, true, true, true, true, true, true, true, true, true, true, true, true, true, true, true, true, true, true, true, true, true, true, true, true, true, true, true, true, true, true, true, true, true, true, true, true, true, true, true, true, true, true, true, true, true, true, true, true, true] 0 (blockK 0 (seqK (fun env L => evCode C slices_partialInsertionSortOrdered_int.sp (slices_partialInsertionSortOrdered_int.F fuel) (cr (cr (cr (Tryd.f167.body.getD .skip)))) env L (finK C Tryd.f167 k)) (finK C Tryd.f167 k)))) = slices_partialInsertionSortOrdered_int.b1 e3_1 e3_2 e3_3 e3_4  (fun e3_1 e3_2 e3_3 => (slices_partialInsertionSortOrdered_int.M0 fuel e3_1 e3_2 e3_3 R k fuel)) (fun r => k (tupAV .bool [] r)) (fun s => R ((slices_partialInsertionSortOrdered_int.E1 e3_1 e3_2 e3_3 e3_4) s) ((slices_partialInsertionSortOrdered_int.H1 e3_1 e3_2 e3_3 e3_4) s)) s := by kernel_rfl
    have h1 : (fun e3_1 e3_2 e3_3 => (slices_partialInsertionSortOrdered_int.M0 fuel e3_1 e3_2 e3_3 R k fuel)) = (fun e3_1 e3_2 e3_3 => (iter (slices_partialInsertionSortOrdered_int.B0 fuel e3_1 e3_2 e3_3  (fun r => k (tupAV .bool [] r))) fuel)) := funext fun e3_1 => funext fun e3_2 => funext fun e3_3 => slices_partialInsertionSortOrdered_int.l0 fuel e3_1 e3_2 e3_3 e3_4 R k fuel
    rw [h1] at h0
    exact h0)
def slices_partialInsertionSortOrdered_int.sl {Ω : Type} (x0 : (List Int)) (x1 : Int) (x2 : Int) (lp1 : (List Int) → Int → Int → Int → Unit → Option Ω) (k : Bool → Option Ω) : Option Ω :=
  lp1 x0 x1 x2 ((IntKind.wrap .i64 (x1 + 1))) ()
def slices_partialInsertionSortOrdered_int.s {Ω : Type} (fuel : Nat) (x0 : (List Int)) (x1 : Int) (x2 : Int) (k : Bool → Option Ω) : Option Ω := slices_partialInsertionSortOrdered_int.sl x0 x1 x2 (fun e3_1 e3_2 e3_3 e3_4 => (iter (slices_partialInsertionSortOrdered_int.B1 fuel e3_1 e3_2 e3_3 e3_4  k) fuel)) k
theorem slices_partialInsertionSortOrdered_int.ev {Ω : Type} (fuel : Nat) (x0 : (List Int)) (x1 : Int) (x2 : Int) (k : AV → Option Ω) : evFn C slices_partialInsertionSortOrdered_int.sp (slices_partialInsertionSortOrdered_int.F fuel) Tryd.f167 (Tryd.f167.body.getD .skip) [(.v (.slice (.int .i64)) (x0)), (.v (.int .i64) (x1)), (.v (.int .i64) (x2))] k = slices_partialInsertionSortOrdered_int.s fuel x0 x1 x2 (fun r => k (tupAV .bool [] r)) := by
  have h0 : evFn C slices_partialInsertionSortOrdered_int.sp (slices_partialInsertionSortOrdered_int.F fuel) Tryd.f167 (Tryd.f167.body.getD .skip) [(.v (.slice (.int .i64)) (x0)), (.v (.int .i64) (x1)), (.v (.int .i64) (x2))] k = slices_partialInsertionSortOrdered_int.sl x0 x1 x2 (fun e3_1 e3_2 e3_3 e3_4 => (slices_partialInsertionSortOrdered_int.M1 fuel e3_1 e3_2 e3_3 e3_4  k fuel)) (fun r => k (tupAV .bool [] r)) := by kernel_rfl
  have h2 : (fun e3_1 e3_2 e3_3 e3_4 => (slices_partialInsertionSortOrdered_int.M1 fuel e3_1 e3_2 e3_3 e3_4  k fuel)) = (fun e3_1 e3_2 e3_3 e3_4 => (iter (slices_partialInsertionSortOrdered_int.B1 fuel e3_1 e3_2 e3_3 e3_4  (fun r => k (tupAV .bool [] r))) fuel)) := funext fun e3_1 => funext fun e3_2 => funext fun e3_3 => funext fun e3_4 => slices_partialInsertionSortOrdered_int.l1 fuel e3_1 e3_2 e3_3 e3_4   k fuel
  rw [h2] at h0
  exact h0
def slices_partialInsertionSortOrdered_int.g0 {Ω : Type} (e3_1 : (List Int)) (e3_2 : Int) (e3_3 : Int)  (k : Bool → Option Ω) : Nat → Int → Option Ω
  | 0, i5 =>
    bif (i5 == e3_3) then
      k true
    else
      bif (decide ((IntKind.wrap .i64 (e3_3 - e3_2)) < 50)) then
        k false
      else
        bif (idxOK (IntKind.wrap .i64 (i5 - 1)) (List.length e3_1)) then
          bif (idxOK i5 (List.length e3_1)) then
            bif (idxOK i5 (List.length e3_1)) then
              none
            else
              none
          else
            none
        else
          none
  | d5 + 1, i5 =>
    bif (idxOK i5 (List.length e3_1)) then
      bif (idxOK (IntKind.wrap .i64 (i5 - 1)) (List.length e3_1)) then
        let v1 : Bool := (cmp_Less_int.t ((List.getD e3_1 (Int.toNat i5) 0)) ((List.getD e3_1 (Int.toNat (IntKind.wrap .i64 (i5 - 1))) 0)))
        bif (!v1) then
          slices_partialInsertionSortOrdered_int.g0 e3_1 e3_2 e3_3  k d5 (i5 + 1)
        else
          bif (i5 == e3_3) then
            k true
          else
            bif (decide ((IntKind.wrap .i64 (e3_3 - e3_2)) < 50)) then
              k false
            else
              bif (idxOK (IntKind.wrap .i64 (i5 - 1)) (List.length e3_1)) then
                bif (idxOK i5 (List.length e3_1)) then
                  bif (idxOK i5 (List.length e3_1)) then
                    none
                  else
                    none
                else
                  none
              else
                none
      else
        none
    else
      none
theorem slices_partialInsertionSortOrdered_int.h0 {Ω : Type} (e3_1 : (List Int)) (e3_2 : Int) (e3_3 : Int)   (k : Bool → Option Ω) (hN : (e3_3 : Int) ≤ 9223372036854775807) : ∀ (m : Nat) (i : Int) (a : Unit), -9223372036854775808 ≤ i → Int.toNat ((e3_3 : Int) - i) < m → Le (slices_partialInsertionSortOrdered_int.g0 e3_1 e3_2 e3_3  k (Int.toNat ((e3_3 : Int) - i)) i) (iter (slices_partialInsertionSortOrdered_int.B0 BIG e3_1 e3_2 e3_3  k) m (i)) :=
  iter_count (e3_3 : Int) (fun i5 => (decide (i5 < e3_3))) (fun i => rfl) (fun (i5 : Int) (a5 : Unit) => (i5)) (fun xs i5 a5 => slices_partialInsertionSortOrdered_int.g0 e3_1 e3_2 e3_3  k xs i5) (slices_partialInsertionSortOrdered_int.B0 BIG e3_1 e3_2 e3_3  k)
    (fun i5 a5 r h0 => (Le.fls h0 (Le.cond (Le.refl _) (Le.cond (Le.refl _) (Le.cond (Le.cond (Le.cond Le.nil Le.nil) Le.nil) Le.nil)))))
    (fun i5 d5 a5 r h0 hw ih => (Le.tru h0 (Le.cond (Le.cond (let v1 : Bool := (cmp_Less_int.t ((List.getD e3_1 (Int.toNat i5) 0)) ((List.getD e3_1 (Int.toNat (IntKind.wrap .i64 (i5 - 1))) 0))); (Le.cond (ih _ hw ()) (Le.cond (Le.refl _) (Le.cond (Le.refl _) (Le.cond (Le.cond (Le.cond Le.nil Le.nil) Le.nil) Le.nil))))) Le.nil) Le.nil)))
    hN
def slices_partialInsertionSortOrdered_int.gb1 {Ω : Type} (e3_1 : (List Int)) (e3_2 : Int) (e3_3 : Int) (e3_4 : Int)  (k : Bool → Option Ω) (r3 : Unit → Option Ω) (s3 : Unit) : Option Ω :=
  bif (decide (e3_3 ≤ 4611686018427387904)) && (decide ((0 : Int) ≤ e3_4)) then slices_partialInsertionSortOrdered_int.g0 e3_1 e3_2 e3_3  k ((Int.toNat (e3_3 - e3_4))) e3_4 else none
def slices_partialInsertionSortOrdered_int.g1 {Ω : Type} (e3_1 : (List Int)) (e3_2 : Int) (e3_3 : Int) (e3_4 : Int)  (k : Bool → Option Ω) (s : Unit) : Option Ω := iter (slices_partialInsertionSortOrdered_int.gb1 e3_1 e3_2 e3_3 e3_4  k) BIG s
theorem slices_partialInsertionSortOrdered_int.h1 {Ω : Type} (e3_1 : (List Int)) (e3_2 : Int) (e3_3 : Int) (e3_4 : Int)   (k : Bool → Option Ω) (s : Unit) : Le (slices_partialInsertionSortOrdered_int.g1 e3_1 e3_2 e3_3 e3_4  k s) (iter (slices_partialInsertionSortOrdered_int.B1 BIG e3_1 e3_2 e3_3 e3_4  k) BIG s) :=
  iter_le (B := slices_partialInsertionSortOrdered_int.gb1 e3_1 e3_2 e3_3 e3_4  k) (B' := (slices_partialInsertionSortOrdered_int.B1 BIG e3_1 e3_2 e3_3 e3_4  k)) (fun r3 r3' s3 ih => (Le.gd fun hg => slices_partialInsertionSortOrdered_int.h0 _ _ _   k (cnt_up (and_l hg)) BIG e3_4 () (cnt_lo (and_r hg)) (cnt_big (and_l hg) (cnt_lo3 (and_r hg))))) BIG s
def slices_partialInsertionSortOrdered_int.w {Ω : Type} (x0 : (List Int)) (x1 : Int) (x2 : Int) (k : Bool → Option Ω) : Option Ω :=
  slices_partialInsertionSortOrdered_int.g1 x0 x1 x2 ((IntKind.wrap .i64 (x1 + 1)))  k ()
theorem slices_partialInsertionSortOrdered_int.le {Ω : Type} (x0 : (List Int)) (x1 : Int) (x2 : Int) (k : Bool → Option Ω) : Le (slices_partialInsertionSortOrdered_int.w x0 x1 x2 k) (slices_partialInsertionSortOrdered_int.s BIG x0 x1 x2 k) := by
  delta slices_partialInsertionSortOrdered_int.w slices_partialInsertionSortOrdered_int.s slices_partialInsertionSortOrdered_int.sl
  exact (slices_partialInsertionSortOrdered_int.h1 _ _ _ _   k _)
def slices_partialInsertionSortOrdered_int.u (x0 : (List Int)) (x1 : Int) (x2 : Int) : Option (Bool) := slices_partialInsertionSortOrdered_int.w x0 x1 x2 some
theorem slices_partialInsertionSortOrdered_int.c (x0 : (List Int)) (x1 : Int) (x2 : Int) (r : Bool) (h : slices_partialInsertionSortOrdered_int.u x0 x1 x2 = some r) : Contract C 167 [(.v (.slice (.int .i64)) (x0)), (.v (.int .i64) (x1)), (.v (.int .i64) (x2))] (tupAV .bool [] r) :=
  contract_s (S := fun k => slices_partialInsertionSortOrdered_int.s BIG x0 x1 x2 k) C_ok (orS_ok cmp_Less_int.e_ok noS_ok) (by kernel_rfl) (by kernel_rfl) (by kernel_rfl) (slices_partialInsertionSortOrdered_int.ev BIG x0 x1 x2 (dec .bool [])) (slices_partialInsertionSortOrdered_int.le x0 x1 x2 some r h)
noncomputable def slices_partialInsertionSortOrdered_int.e : Ent := argI (.slice (.int .i64)) fun x0 => argI (.int .i64) fun x1 => argI (.int .i64) fun x2 => endU (slices_partialInsertionSortOrdered_int.u x0 x1 x2) (tupAV .bool [])
theorem slices_partialInsertionSortOrdered_int.e_ok : EntOK C 167 (fun {_} => slices_partialInsertionSortOrdered_int.e) := entA_ok (argI_ok fun x0 => argI_ok fun x1 => argI_ok fun x2 => endU_ok fun r h => slices_partialInsertionSortOrdered_int.c x0 x1 x2 r h)

/-- becket becketlaw10.alive -/
noncomputable def law10_alive.tab : FuncId → Option Func := (tabS 182 Tryd.f182 (tabS 181 Tryd.f181 (tabS 180 Tryd.f180 (tabS 170 Tryd.f170 (tabS 169 Tryd.f169 (tabS 166 Tryd.f166 (tabS 164 Tryd.f164 (tabS 163 Tryd.f163 (tabS 162 Tryd.f162 (tabS 149 Tryd.f149 (tabS 132 Tryd.f132 (tabS 112 Tryd.f112 (tabS 109 Tryd.f109 (tabS 82 Tryd.f82 (tabS 81 Tryd.f81 (tabS 80 Tryd.f80 (tabS 77 Tryd.f77 (tabS 74 Tryd.f74 (tabS 73 Tryd.f73 (tabS 37 Tryd.f37 (tabS 35 Tryd.f35 (tabS 32 Tryd.f32 (tabS 30 Tryd.f30 (tabS 28 Tryd.f28 tab0))))))))))))))))))))))))
theorem law10_alive.tab_ok : tabOK CKM law10_alive.tab := (tabS_ok (by kernel_rfl) (by kernel_rfl) (by kernel_rfl) (tabS_ok (by kernel_rfl) (by kernel_rfl) (by kernel_rfl) (tabS_ok (by kernel_rfl) (by kernel_rfl) (by kernel_rfl) (tabS_ok (by kernel_rfl) (by kernel_rfl) (by kernel_rfl) (tabS_ok (by kernel_rfl) (by kernel_rfl) (by kernel_rfl) (tabS_ok (by kernel_rfl) (by kernel_rfl) (by kernel_rfl) (tabS_ok (by kernel_rfl) (by kernel_rfl) (by kernel_rfl) (tabS_ok (by kernel_rfl) (by kernel_rfl) (by kernel_rfl) (tabS_ok (by kernel_rfl) (by kernel_rfl) (by kernel_rfl) (tabS_ok (by kernel_rfl) (by kernel_rfl) (by kernel_rfl) (tabS_ok (by kernel_rfl) (by kernel_rfl) (by kernel_rfl) (tabS_ok (by kernel_rfl) (by kernel_rfl) (by kernel_rfl) (tabS_ok (by kernel_rfl) (by kernel_rfl) (by kernel_rfl) (tabS_ok (by kernel_rfl) (by kernel_rfl) (by kernel_rfl) (tabS_ok (by kernel_rfl) (by kernel_rfl) (by kernel_rfl) (tabS_ok (by kernel_rfl) (by kernel_rfl) (by kernel_rfl) (tabS_ok (by kernel_rfl) (by kernel_rfl) (by kernel_rfl) (tabS_ok (by kernel_rfl) (by kernel_rfl) (by kernel_rfl) (tabS_ok (by kernel_rfl) (by kernel_rfl) (by kernel_rfl) (tabS_ok (by kernel_rfl) (by kernel_rfl) (by kernel_rfl) (tabS_ok (by kernel_rfl) (by kernel_rfl) (by kernel_rfl) (tabS_ok (by kernel_rfl) (by kernel_rfl) (by kernel_rfl) (tabS_ok (by kernel_rfl) (by kernel_rfl) (by kernel_rfl) (tabS_ok (by kernel_rfl) (by kernel_rfl) (by kernel_rfl) tab0_ok))))))))))))))))))))))))
noncomputable def law10_alive.sp : Spec := (orS 168 (fun {_} => cmp_Less_int.e) (orS 167 (fun {_} => slices_partialInsertionSortOrdered_int.e) (orS 165 (fun {_} => slices_choosePivotOrdered_int.e) (orS 150 (fun {_} => math_bits_Len.e) (orS 131 (fun {_} => slices_Contains_int_int.e) (orS 79 (fun {_} => strings_Contains.e) (orS 72 (fun {_} => strings_IndexByte.e) noS)))))))
theorem law10_alive.sp_ok : SpecOK CKM law10_alive.sp := (orS_ok (cmp_Less_int.e_ok.mono le_C_CKM) (orS_ok (slices_partialInsertionSortOrdered_int.e_ok.mono le_C_CKM) (orS_ok (slices_choosePivotOrdered_int.e_ok.mono le_C_CKM) (orS_ok (math_bits_Len.e_ok.mono le_C_CKM) (orS_ok (slices_Contains_int_int.e_ok.mono le_C_CKM) (orS_ok (strings_Contains.e_ok.mono le_CM_CKM) (orS_ok (strings_IndexByte.e_ok.mono le_C_CKM) noS_ok)))))))
def law10_alive.u : Option (Bool) := some true
theorem law10_alive.ev : evFn CKM (allS CKM law10_alive.sp ⟨400, fun _ => []⟩ law10_alive.tab 40) ⟨400, fun _ => []⟩ Tryd.f34 (Tryd.f34.body.getD .skip) [] (dec .bool []) = some true := by kernel_rfl
theorem law10_alive.c (r : Bool) (h : law10_alive.u = some r) : Contract CKM 34 [] (tupAV .bool [] r) := by
  cases h
  exact contract_u CKM_ok (allS_ok CKM_ok law10_alive.sp_ok law10_alive.tab_ok 40) (by kernel_rfl) (by kernel_rfl) (by kernel_rfl) law10_alive.ev
noncomputable def law10_alive.e : Ent := endU (law10_alive.u) (tupAV .bool [])
theorem law10_alive.e_ok : EntOK CKM 34 (fun {_} => law10_alive.e) := entA_ok (endU_ok fun r h => law10_alive.c r h)

/-- becket becketlaw10.InstrTells -/
noncomputable def law10_InstrTells.sp : Spec := (orS 34 (fun {_} => law10_alive.e) (orS 33 (fun {_} => ref10_Num.e) (orS 32 (fun {_} => instr_Num.e) (orS 31 (fun {_} => ref10_Check.e) (orS 30 (fun {_} => instr_Check.e) (orS 29 (fun {_} => ref10_Place.e) (orS 28 (fun {_} => instr_Place.e) noS)))))))
def law10_InstrTells.s {Ω : Type} (x0 : T_s46) (k : Bool → Option Ω) : Option Ω :=
  (instr_Place.u x0).bind fun y1 =>
  (ref10_Place.u x0).bind fun y2 =>
  (instr_Check.u x0).bind fun y3 =>
  (ref10_Check.u x0).bind fun y4 =>
  bif (y3 == y4) then
    (instr_Num.u x0).bind fun y5 =>
    (ref10_Num.u x0).bind fun y6 =>
    bif (y5 == y6) then
      bif (y1.1 == y2.1) then
        bif (eqI .bool y1.2 y2.2) then
          law10_alive.u.bind fun y7 =>
          k y7
        else
          k false
      else
        k false
    else
      k false
  else
    k false
theorem law10_InstrTells.ev {Ω : Type} (fuel : Fuel) (x0 : T_s46) (k : AV → Option Ω) : evFn CKM law10_InstrTells.sp fuel Tryd.f6 (Tryd.f6.body.getD .skip) [(.v E_s46 (x0))] k = law10_InstrTells.s x0 (fun r => k (tupAV .bool [] r)) := by kernel_rfl
def law10_InstrTells.u (x0 : T_s46) : Option (Bool) := law10_InstrTells.s x0 some
theorem law10_InstrTells.c (x0 : T_s46) (r : Bool) (h : law10_InstrTells.u x0 = some r) : Contract CKM 6 [(.v E_s46 (x0))] (tupAV .bool [] r) :=
  contract_s (S := fun k => law10_InstrTells.s x0 k) CKM_ok (orS_ok law10_alive.e_ok (orS_ok (ref10_Num.e_ok.mono le_C_CKM) (orS_ok instr_Num.e_ok (orS_ok (ref10_Check.e_ok.mono le_C_CKM) (orS_ok (instr_Check.e_ok.mono le_CK_CKM) (orS_ok (ref10_Place.e_ok.mono le_C_CKM) (orS_ok (instr_Place.e_ok.mono le_CK_CKM) noS_ok))))))) (by kernel_rfl) (by kernel_rfl) (by kernel_rfl) (law10_InstrTells.ev ⟨1, fun _ => []⟩ x0 (dec .bool [])) h
noncomputable def law10_InstrTells.e : Ent := argI E_s46 fun x0 => endU (law10_InstrTells.u x0) (tupAV .bool [])
theorem law10_InstrTells.e_ok : EntOK CKM 6 (fun {_} => law10_InstrTells.e) := entA_ok (argI_ok fun x0 => endU_ok fun r h => law10_InstrTells.c x0 r h)

/-- becket becketref10.Read -/
noncomputable def ref10_Read.sp : Spec := (orS 31 (fun {_} => ref10_Check.e) noS)
def ref10_Read.s {Ω : Type} (x0 : ByteArray) (x1 : Int) (k : T_s46 × Int → Option Ω) : Option Ω :=
  bif (decide (x1 < 0)) then
    k ((0, (0, (0, (0, ())))), 8)
  else
    bif (decide (x1 > ((x0).size : Int))) then
      k ((0, (0, (0, (0, ())))), 8)
    else
      bif (decide ((IntKind.wrap .i64 (((x0).size : Int) - x1)) < 4)) then
        k ((0, (0, (0, (0, ())))), 4)
      else
        bif (idxOK x1 (x0).size) then
          bif (idxOK (IntKind.wrap .i64 (x1 + 1)) (x0).size) then
            bif (idxOK (IntKind.wrap .i64 (x1 + 2)) (x0).size) then
              bif (idxOK (IntKind.wrap .i64 (x1 + 3)) (x0).size) then
                let v1 : T_s46 := ((bAt x0 (Int.toNat x1)), ((bAt x0 (Int.toNat (IntKind.wrap .i64 (x1 + 1)))), ((bAt x0 (Int.toNat (IntKind.wrap .i64 (x1 + 2)))), ((bAt x0 (Int.toNat (IntKind.wrap .i64 (x1 + 3)))), ()))))
                (ref10_Check.u v1).bind fun y2 =>
                bif (y2 != 0) then
                  k ((0, (0, (0, (0, ())))), y2)
                else
                  let v3 : T_s46 := ((bAt x0 (Int.toNat x1)), ((bAt x0 (Int.toNat (IntKind.wrap .i64 (x1 + 1)))), ((bAt x0 (Int.toNat (IntKind.wrap .i64 (x1 + 2)))), ((bAt x0 (Int.toNat (IntKind.wrap .i64 (x1 + 3)))), ()))))
                  k (v3, 0)
              else
                none
            else
              none
          else
            none
        else
          none
theorem ref10_Read.ev {Ω : Type} (fuel : Fuel) (x0 : ByteArray) (x1 : Int) (k : AV → Option Ω) : evFn C ref10_Read.sp fuel Tryd.f36 (Tryd.f36.body.getD .skip) [(.v .str (x0)), (.v (.int .i64) (x1))] k = ref10_Read.s x0 x1 (fun r => k (tupAV E_s46 [(.int .i64)] r)) := by kernel_rfl
def ref10_Read.u (x0 : ByteArray) (x1 : Int) : Option (T_s46 × Int) := ref10_Read.s x0 x1 some
theorem ref10_Read.c (x0 : ByteArray) (x1 : Int) (r : T_s46 × Int) (h : ref10_Read.u x0 x1 = some r) : Contract C 36 [(.v .str (x0)), (.v (.int .i64) (x1))] (tupAV E_s46 [(.int .i64)] r) :=
  contract_s (S := fun k => ref10_Read.s x0 x1 k) C_ok (orS_ok ref10_Check.e_ok noS_ok) (by kernel_rfl) (by kernel_rfl) (by kernel_rfl) (ref10_Read.ev ⟨1, fun _ => []⟩ x0 x1 (dec E_s46 [(.int .i64)])) h
noncomputable def ref10_Read.e : Ent := argI .str fun x0 => argI (.int .i64) fun x1 => endU (ref10_Read.u x0 x1) (tupAV E_s46 [(.int .i64)])
theorem ref10_Read.e_ok : EntOK C 36 (fun {_} => ref10_Read.e) := entA_ok (argI_ok fun x0 => argI_ok fun x1 => endU_ok fun r h => ref10_Read.c x0 x1 r h)

/-- becket becketlaw10.InstrReads -/
noncomputable def law10_InstrReads.sp : Spec := (orS 36 (fun {_} => ref10_Read.e) (orS 35 (fun {_} => instr_Read.e) (orS 34 (fun {_} => law10_alive.e) noS)))
def law10_InstrReads.s {Ω : Type} (x0 : ByteArray) (x1 : Int) (k : Bool → Option Ω) : Option Ω :=
  bif (decide (((x0).size : Int) > 300)) then
    law10_alive.u.bind fun y1 =>
    k y1
  else
    (instr_Read.u x0 x1).bind fun y2 =>
    (ref10_Read.u x0 x1).bind fun y3 =>
    bif (eqI E_s46 y2.1 y3.1) then
      bif (y2.2 == y3.2) then
        law10_alive.u.bind fun y4 =>
        k y4
      else
        k false
    else
      k false
theorem law10_InstrReads.ev {Ω : Type} (fuel : Fuel) (x0 : ByteArray) (x1 : Int) (k : AV → Option Ω) : evFn CKM law10_InstrReads.sp fuel Tryd.f7 (Tryd.f7.body.getD .skip) [(.v .str (x0)), (.v (.int .i64) (x1))] k = law10_InstrReads.s x0 x1 (fun r => k (tupAV .bool [] r)) := by kernel_rfl
def law10_InstrReads.u (x0 : ByteArray) (x1 : Int) : Option (Bool) := law10_InstrReads.s x0 x1 some
theorem law10_InstrReads.c (x0 : ByteArray) (x1 : Int) (r : Bool) (h : law10_InstrReads.u x0 x1 = some r) : Contract CKM 7 [(.v .str (x0)), (.v (.int .i64) (x1))] (tupAV .bool [] r) :=
  contract_s (S := fun k => law10_InstrReads.s x0 x1 k) CKM_ok (orS_ok (ref10_Read.e_ok.mono le_C_CKM) (orS_ok (instr_Read.e_ok.mono le_CK_CKM) (orS_ok law10_alive.e_ok noS_ok))) (by kernel_rfl) (by kernel_rfl) (by kernel_rfl) (law10_InstrReads.ev ⟨1, fun _ => []⟩ x0 x1 (dec .bool [])) h
noncomputable def law10_InstrReads.e : Ent := argI .str fun x0 => argI (.int .i64) fun x1 => endU (law10_InstrReads.u x0 x1) (tupAV .bool [])
theorem law10_InstrReads.e_ok : EntOK CKM 7 (fun {_} => law10_InstrReads.e) := entA_ok (argI_ok fun x0 => argI_ok fun x1 => endU_ok fun r h => law10_InstrReads.c x0 x1 r h)

/-- becket instr.Bytes -/
noncomputable def instr_Bytes.sp : Spec := noS
def instr_Bytes.s {Ω : Type} (x0 : T_s46) (k : ByteArray → Option Ω) : Option Ω :=
  k (ofBytes [x0.1, x0.2.1, x0.2.2.1, x0.2.2.2.1])
theorem instr_Bytes.ev {Ω : Type} (fuel : Fuel) (x0 : T_s46) (k : AV → Option Ω) : evFn C instr_Bytes.sp fuel Tryd.f37 (Tryd.f37.body.getD .skip) [(.v E_s46 (x0))] k = instr_Bytes.s x0 (fun r => k (tupAV .str [] r)) := by kernel_rfl
def instr_Bytes.t (x0 : T_s46) : ByteArray :=
  (ofBytes [x0.1, x0.2.1, x0.2.2.1, x0.2.2.2.1])
theorem instr_Bytes.v {Ω : Type} (x0 : T_s46) (k : ByteArray → Option Ω) : instr_Bytes.s x0 k = k (instr_Bytes.t x0) := by
  delta instr_Bytes.s instr_Bytes.t; exact rfl
theorem instr_Bytes.c (x0 : T_s46) : Contract C 37 [(.v E_s46 (x0))] (tupAV .str [] (instr_Bytes.t x0)) :=
  contract_s (S := fun k => instr_Bytes.s x0 k) C_ok noS_ok (by kernel_rfl) (by kernel_rfl) (by kernel_rfl) (instr_Bytes.ev ⟨1, fun _ => []⟩ x0 (dec .str [])) (instr_Bytes.v x0 some)
noncomputable def instr_Bytes.e : Ent := argI E_s46 fun x0 => endT (tupAV .str [] (instr_Bytes.t x0))
theorem instr_Bytes.e_ok : EntOK C 37 (fun {_} => instr_Bytes.e) := entA_ok (argI_ok fun x0 => endT_ok (instr_Bytes.c x0))

/-- becket becketlaw10.InstrBack -/
noncomputable def law10_InstrBack.sp : Spec := (orS 37 (fun {_} => instr_Bytes.e) (orS 35 (fun {_} => instr_Read.e) (orS 34 (fun {_} => law10_alive.e) (orS 30 (fun {_} => instr_Check.e) noS))))
def law10_InstrBack.s {Ω : Type} (x0 : T_s46) (x1 : ByteArray) (x2 : ByteArray) (k : Bool → Option Ω) : Option Ω :=
  bif (decide ((IntKind.wrap .i64 (((x1).size : Int) + ((x2).size : Int))) > 300)) then
    law10_alive.u.bind fun y1 =>
    k y1
  else
    bif (decide ((x1).size + ((instr_Bytes.t x0)).size ≤ catMax)) then
      bif (decide (((x1 ++ (instr_Bytes.t x0))).size + (x2).size ≤ catMax)) then
        (instr_Read.u (((x1 ++ (instr_Bytes.t x0)) ++ x2)) (((x1).size : Int))).bind fun y2 =>
        (instr_Check.u x0).bind fun y3 =>
        bif (y3 != 0) then
          bif (y2.2 == y3) then
            bif (eqI E_s46 y2.1 (0, (0, (0, (0, ()))))) then
              law10_alive.u.bind fun y4 =>
              k y4
            else
              k false
          else
            k false
        else
          bif (y2.2 == 0) then
            bif (eqI E_s46 y2.1 x0) then
              bif ((((instr_Bytes.t x0)).size : Int) == 4) then
                law10_alive.u.bind fun y5 =>
                k y5
              else
                k false
            else
              k false
          else
            k false
      else
        none
    else
      none
theorem law10_InstrBack.ev {Ω : Type} (fuel : Fuel) (x0 : T_s46) (x1 : ByteArray) (x2 : ByteArray) (k : AV → Option Ω) : evFn CKM law10_InstrBack.sp fuel Tryd.f8 (Tryd.f8.body.getD .skip) [(.v E_s46 (x0)), (.v .str (x1)), (.v .str (x2))] k = law10_InstrBack.s x0 x1 x2 (fun r => k (tupAV .bool [] r)) := by kernel_rfl
def law10_InstrBack.u (x0 : T_s46) (x1 : ByteArray) (x2 : ByteArray) : Option (Bool) := law10_InstrBack.s x0 x1 x2 some
theorem law10_InstrBack.c (x0 : T_s46) (x1 : ByteArray) (x2 : ByteArray) (r : Bool) (h : law10_InstrBack.u x0 x1 x2 = some r) : Contract CKM 8 [(.v E_s46 (x0)), (.v .str (x1)), (.v .str (x2))] (tupAV .bool [] r) :=
  contract_s (S := fun k => law10_InstrBack.s x0 x1 x2 k) CKM_ok (orS_ok (instr_Bytes.e_ok.mono le_C_CKM) (orS_ok (instr_Read.e_ok.mono le_CK_CKM) (orS_ok law10_alive.e_ok (orS_ok (instr_Check.e_ok.mono le_CK_CKM) noS_ok)))) (by kernel_rfl) (by kernel_rfl) (by kernel_rfl) (law10_InstrBack.ev ⟨1, fun _ => []⟩ x0 x1 x2 (dec .bool [])) h
noncomputable def law10_InstrBack.e : Ent := argI E_s46 fun x0 => argI .str fun x1 => argI .str fun x2 => endU (law10_InstrBack.u x0 x1 x2) (tupAV .bool [])
theorem law10_InstrBack.e_ok : EntOK CKM 8 (fun {_} => law10_InstrBack.e) := entA_ok (argI_ok fun x0 => argI_ok fun x1 => argI_ok fun x2 => endU_ok fun r h => law10_InstrBack.c x0 x1 x2 r h)

end Go.Proofs.YtfihhbgppgkafaaDoor.K

/- What functions of the program come to, plainly. -/
import Derived.Test.YthamolhikhcilaaDoorZ01
set_option maxRecDepth 100000
set_option linter.unusedVariables false
namespace Go.Proofs.YthamolhikhcilaaDoor.K
open Go Go.RowKit

/-- becket becketref02.Same -/
noncomputable def ref02_Same.sp : Spec := noS
def ref02_Same.F (fuel : Nat) : Fuel := ⟨fuel, fun r => bif r == 4 then [2, 3, 4, 6, 7, 8, 9, 10, 11, 12, 13, 14, 15, 16, 17, 18, 19, 20, 21, 22, 23, 24, 25] else []⟩
def ref02_Same.E0 (e4_1 : (List Int)) (e4_2 : (List Int)) (s4 : Int) : List AV := [(.v (.slice (.int .i64)) (e4_1)), (.v (.slice (.int .i64)) (e4_2)), .dead, .dead, .dead, (.v (.int .i64) (s4)), .dead, .dead, .dead, .dead, .dead, .dead, .dead, .dead, .dead, .dead, .dead, .dead, .dead, .dead, .dead, .dead, .dead, .dead, .dead, .dead]
def ref02_Same.H0 (e4_1 : (List Int)) (e4_2 : (List Int)) (s4 : Int) : Heap := []
noncomputable def ref02_Same.M0 {Ω : Type} (fuel : Nat) (e4_1 : (List Int)) (e4_2 : (List Int))  (k : AV → Option Ω) (m : Nat) (s : Int) : Option Ω := loopK (fun env L k => evCode C ref02_Same.sp (ref02_Same.F fuel) (cl (cl (cr (cl (cr (cr (Tryd.f19.body.getD .skip))))))) env L k) [false, false, true, true, true, false, true, true, true, true, true, true, true, true, true, true, true, true, true, true, true, true, true, true, true, true] 0 (blockK 0 (seqK (fun env L => evCode C ref02_Same.sp (ref02_Same.F fuel) (cr (cr (cr (Tryd.f19.body.getD .skip)))) env L (finK C Tryd.f19 k)) (finK C Tryd.f19 k))) m ((ref02_Same.E0 e4_1 e4_2) s) ((ref02_Same.H0 e4_1 e4_2) s)
def ref02_Same.b0 {Ω : Type} (e4_1 : (List Int)) (e4_2 : (List Int))   (k : Bool → Option Ω) (r4 : Int → Option Ω) (s4 : Int) : Option Ω :=
  bif (decide (s4 < ((List.length e4_1 : Nat) : Int))) then
    bif (idxOK s4 (List.length e4_1)) then
      bif (idxOK s4 (List.length e4_2)) then
        bif ((List.getD e4_1 (Int.toNat s4) 0) != (List.getD e4_2 (Int.toNat s4) 0)) then
          k false
        else
          r4 ((IntKind.wrap .i64 (s4 + 1)))
      else
        none
    else
      none
  else
    k true
def ref02_Same.B0 {Ω : Type} (fuel : Nat) (e4_1 : (List Int)) (e4_2 : (List Int))  (k : Bool → Option Ω) (r4 : Int → Option Ω) (s4 : Int) : Option Ω := ref02_Same.b0 e4_1 e4_2   k r4 s4
theorem ref02_Same.l0 {Ω : Type} (fuel : Nat) (e4_1 : (List Int)) (e4_2 : (List Int))  (k : AV → Option Ω) : ∀ m, (ref02_Same.M0 fuel e4_1 e4_2  k m) = iter (ref02_Same.B0 fuel e4_1 e4_2  (fun r => k (tupAV .bool [] r))) m :=
  loopK_iter (envOf := (ref02_Same.E0 e4_1 e4_2)) (LOf := (ref02_Same.H0 e4_1 e4_2)) (B := ref02_Same.B0 fuel e4_1 e4_2  (fun r => k (tupAV .bool [] r))) (fun R s => by kernel_rfl)
def ref02_Same.sl {Ω : Type} (x0 : (List Int)) (x1 : (List Int)) (lp0 : (List Int) → (List Int) → Int → Option Ω) (k : Bool → Option Ω) : Option Ω :=
  bif (((List.length x0 : Nat) : Int) != ((List.length x1 : Nat) : Int)) then
    k false
  else
    lp0 x0 x1 (0)
def ref02_Same.s {Ω : Type} (fuel : Nat) (x0 : (List Int)) (x1 : (List Int)) (k : Bool → Option Ω) : Option Ω := ref02_Same.sl x0 x1 (fun e4_1 e4_2 => (iter (ref02_Same.B0 fuel e4_1 e4_2  k) fuel)) k
theorem ref02_Same.ev {Ω : Type} (fuel : Nat) (x0 : (List Int)) (x1 : (List Int)) (k : AV → Option Ω) : evFn C ref02_Same.sp (ref02_Same.F fuel) Tryd.f19 (Tryd.f19.body.getD .skip) [(.v (.slice (.int .i64)) (x0)), (.v (.slice (.int .i64)) (x1))] k = ref02_Same.s fuel x0 x1 (fun r => k (tupAV .bool [] r)) := by
  have h0 : evFn C ref02_Same.sp (ref02_Same.F fuel) Tryd.f19 (Tryd.f19.body.getD .skip) [(.v (.slice (.int .i64)) (x0)), (.v (.slice (.int .i64)) (x1))] k = ref02_Same.sl x0 x1 (fun e4_1 e4_2 => (ref02_Same.M0 fuel e4_1 e4_2  k fuel)) (fun r => k (tupAV .bool [] r)) := by kernel_rfl
  have h1 : (fun e4_1 e4_2 => (ref02_Same.M0 fuel e4_1 e4_2  k fuel)) = (fun e4_1 e4_2 => (iter (ref02_Same.B0 fuel e4_1 e4_2  (fun r => k (tupAV .bool [] r))) fuel)) := funext fun e4_1 => funext fun e4_2 => ref02_Same.l0 fuel e4_1 e4_2   k fuel
  rw [h1] at h0
  exact h0
def ref02_Same.g0 {Ω : Type} (e4_1 : (List Int)) (e4_2 : (List Int))  (k : Bool → Option Ω) : List Int → Int → Option Ω
  | [], i4 =>
    k true
  | x4 :: xs4, i4 =>
    bif (idxOK i4 (List.length e4_2)) then
      bif (x4 != (List.getD e4_2 (Int.toNat i4) 0)) then
        k false
      else
        ref02_Same.g0 e4_1 e4_2  k xs4 (i4 + 1)
    else
      none
theorem ref02_Same.h0 {Ω : Type} (e4_1 : (List Int)) (e4_2 : (List Int))   (k : Bool → Option Ω) (hX : ((List.length e4_1 : Nat) : Int) ≤ 9223372036854775807) : ∀ (m : Nat) (i : Int) (a : Unit), 0 ≤ i → i ≤ ((List.length e4_1 : Nat) : Int) → ((List.length e4_1 : Nat) : Int) < m + i → Le (ref02_Same.g0 e4_1 e4_2  k (List.drop (Int.toNat i) e4_1) i) (iter (ref02_Same.B0 BIG e4_1 e4_2  k) m (i)) :=
  iter_list e4_1 0 (fun (i4 : Int) (a4 : Unit) => (i4)) (fun xs i4 a4 => ref02_Same.g0 e4_1 e4_2  k xs i4) (ref02_Same.B0 BIG e4_1 e4_2  k)
    (fun i4 a4 r h0 => (Le.fls h0 (Le.refl _)))
    (fun i4 xs4 a4 r h0 h1 hw ih => (Le.tru h0 (Le.tru h1 (Le.cond (Le.cond (Le.refl _) (ih _ hw ())) Le.nil))))
    hX
def ref02_Same.w {Ω : Type} (x0 : (List Int)) (x1 : (List Int)) (k : Bool → Option Ω) : Option Ω :=
  bif (((List.length x0 : Nat) : Int) != ((List.length x1 : Nat) : Int)) then
    k false
  else
    bif decide (((List.length x0 : Nat) : Int) ≤ 4611686018427387904) then ref02_Same.g0 x0 x1  k x0 0 else none
theorem ref02_Same.le {Ω : Type} (x0 : (List Int)) (x1 : (List Int)) (k : Bool → Option Ω) : Le (ref02_Same.w x0 x1 k) (ref02_Same.s BIG x0 x1 k) := by
  delta ref02_Same.w ref02_Same.s ref02_Same.sl
  exact (Le.cond (Le.refl _) (Le.gd fun hg => ref02_Same.h0 _ _   k (le_up (of_decide_eq_true hg)) BIG 0 () (by decide) (zero_le_len _) (big_list (of_decide_eq_true hg))))
def ref02_Same.u (x0 : (List Int)) (x1 : (List Int)) : Option (Bool) := ref02_Same.w x0 x1 some
theorem ref02_Same.c (x0 : (List Int)) (x1 : (List Int)) (r : Bool) (h : ref02_Same.u x0 x1 = some r) : Contract C 19 [(.v (.slice (.int .i64)) (x0)), (.v (.slice (.int .i64)) (x1))] (tupAV .bool [] r) :=
  contract_s (S := fun k => ref02_Same.s BIG x0 x1 k) C_ok noS_ok (by kernel_rfl) (by kernel_rfl) (by kernel_rfl) (ref02_Same.ev BIG x0 x1 (dec .bool [])) (ref02_Same.le x0 x1 some r h)
noncomputable def ref02_Same.e : Ent := argI (.slice (.int .i64)) fun x0 => argI (.slice (.int .i64)) fun x1 => endU (ref02_Same.u x0 x1) (tupAV .bool [])
theorem ref02_Same.e_ok : EntOK C 19 (fun {_} => ref02_Same.e) := entA_ok (argI_ok fun x0 => argI_ok fun x1 => endU_ok fun r h => ref02_Same.c x0 x1 r h)

end Go.Proofs.YthamolhikhcilaaDoor.K

/- What functions of the program come to, plainly. -/
import Derived.Test.YtaednhofihnfkaaDoorS
set_option maxRecDepth 100000
set_option linter.unusedVariables false
namespace Go.Proofs.YtaednhofihnfkaaDoor.K
open Go Go.RowKit

/-- becket becketref01.Digits -/
noncomputable def ref01_Digits.sp : Spec := noS
def ref01_Digits.F (fuel : Nat) : Fuel := ⟨fuel, fun r => bif r == 2 then [1, 2, 4, 5, 6, 7, 8, 9, 10, 11, 12, 13, 14, 15, 16, 17, 18, 19, 20, 21, 22] else []⟩
def ref01_Digits.E0  (s2 : Int × ByteArray) : List AV := [(.v (.int .i64) (s2.1)), .dead, .dead, (.v .str (s2.2)), .dead, .dead, .dead, .dead, .dead, .dead, .dead, .dead, .dead, .dead, .dead, .dead, .dead, .dead, .dead, .dead, .dead, .dead, .dead]
def ref01_Digits.H0  (s2 : Int × ByteArray) : Heap := []
noncomputable def ref01_Digits.M0 {Ω : Type} (fuel : Nat)   (k : AV → Option Ω) (m : Nat) (s : Int × ByteArray) : Option Ω := loopK (fun env L k => evCode C ref01_Digits.sp (ref01_Digits.F fuel) (cl (cl (cl (cr (cr (Tryd.f48.body.getD .skip)))))) env L k) [false, true, true, false, true, true, true, true, true, true, true, true, true, true, true, true, true, true, true, true, true, true, true] [] 0 (blockK 0 (seqK (fun env L => evCode C ref01_Digits.sp (ref01_Digits.F fuel) (cr (cr (cr (Tryd.f48.body.getD .skip)))) env L (finK C Tryd.f48 k)) (finK C Tryd.f48 k))) m ((ref01_Digits.E0 ) s) ((ref01_Digits.H0 ) s)
def ref01_Digits.b0 {Ω : Type}    (k : ByteArray → Option Ω) (r2 : Int × ByteArray → Option Ω) (s2 : Int × ByteArray) : Option Ω :=
  bif (decide (s2.1 > 9)) then
    bif (decide (((ofBytes [(IntKind.wrap .u8 (IntKind.wrap .i64 (48 + (Int.tmod s2.1 10))))])).size + (s2.2).size ≤ catMax)) then
      r2 ((IntKind.wrap .i64 (Int.tdiv s2.1 10)), ((ofBytes [(IntKind.wrap .u8 (IntKind.wrap .i64 (48 + (Int.tmod s2.1 10))))]) ++ s2.2))
    else
      none
  else
    bif (decide (((ofBytes [(IntKind.wrap .u8 (IntKind.wrap .i64 (48 + s2.1)))])).size + (s2.2).size ≤ catMax)) then
      k ((ofBytes [(IntKind.wrap .u8 (IntKind.wrap .i64 (48 + s2.1)))]) ++ s2.2)
    else
      none
def ref01_Digits.B0 {Ω : Type} (fuel : Nat)   (k : ByteArray → Option Ω) (r2 : Int × ByteArray → Option Ω) (s2 : Int × ByteArray) : Option Ω := ref01_Digits.b0    k r2 s2
theorem ref01_Digits.l0 {Ω : Type} (fuel : Nat)   (k : AV → Option Ω) : ∀ m, (ref01_Digits.M0 fuel   k m) = iter (ref01_Digits.B0 fuel   (fun r => k (tupAV .str [] r))) m :=
  loopK_iter (envOf := (ref01_Digits.E0 )) (LOf := (ref01_Digits.H0 )) (B := ref01_Digits.B0 fuel   (fun r => k (tupAV .str [] r))) (fun R s => by kernel_rfl)
def ref01_Digits.sl {Ω : Type} (x0 : Int) (lp0 : Int × ByteArray → Option Ω) (k : ByteArray → Option Ω) : Option Ω :=
  lp0 (x0, (bs []))
def ref01_Digits.s {Ω : Type} (fuel : Nat) (x0 : Int) (k : ByteArray → Option Ω) : Option Ω := ref01_Digits.sl x0 (iter (ref01_Digits.B0 fuel   k) fuel) k
theorem ref01_Digits.ev {Ω : Type} (fuel : Nat) (x0 : Int) (k : AV → Option Ω) : evFn C ref01_Digits.sp (ref01_Digits.F fuel) Tryd.f48 (Tryd.f48.body.getD .skip) [(.v (.int .i64) (x0))] k = ref01_Digits.s fuel x0 (fun r => k (tupAV .str [] r)) := by
  have h0 : evFn C ref01_Digits.sp (ref01_Digits.F fuel) Tryd.f48 (Tryd.f48.body.getD .skip) [(.v (.int .i64) (x0))] k = ref01_Digits.sl x0 (ref01_Digits.M0 fuel   k fuel) (fun r => k (tupAV .str [] r)) := by kernel_rfl
  have h1 : (ref01_Digits.M0 fuel   k fuel) = (iter (ref01_Digits.B0 fuel   (fun r => k (tupAV .str [] r))) fuel) := ref01_Digits.l0 fuel    k fuel
  rw [h1] at h0
  exact h0
def ref01_Digits.gb0 {Ω : Type}   (k : ByteArray → Option Ω) (r2 : Int × ByteArray → Option Ω) (s2 : Int × ByteArray) : Option Ω :=
  bif (decide (s2.1 > 9)) then
    bif (decide (((ofBytes [(IntKind.wrap .u8 (IntKind.wrap .i64 (48 + (Int.tmod s2.1 10))))])).size + (s2.2).size ≤ catMax)) then
      r2 ((IntKind.wrap .i64 (Int.tdiv s2.1 10)), ((ofBytes [(IntKind.wrap .u8 (IntKind.wrap .i64 (48 + (Int.tmod s2.1 10))))]) ++ s2.2))
    else
      none
  else
    bif (decide (((ofBytes [(IntKind.wrap .u8 (IntKind.wrap .i64 (48 + s2.1)))])).size + (s2.2).size ≤ catMax)) then
      k ((ofBytes [(IntKind.wrap .u8 (IntKind.wrap .i64 (48 + s2.1)))]) ++ s2.2)
    else
      none
def ref01_Digits.g0 {Ω : Type}   (k : ByteArray → Option Ω) (s : Int × ByteArray) : Option Ω := iter (ref01_Digits.gb0   k) BIG s
theorem ref01_Digits.h0 {Ω : Type}    (k : ByteArray → Option Ω) (s : Int × ByteArray) : Le (ref01_Digits.g0   k s) (iter (ref01_Digits.B0 BIG   k) BIG s) :=
  iter_le (B := ref01_Digits.gb0   k) (B' := (ref01_Digits.B0 BIG   k)) (fun r2 r2' s2 ih => (Le.cond (Le.cond (ih _) Le.nil) (Le.cond (Le.refl _) Le.nil))) BIG s
def ref01_Digits.w {Ω : Type} (x0 : Int) (k : ByteArray → Option Ω) : Option Ω :=
  ref01_Digits.g0   k (x0, (bs []))
theorem ref01_Digits.le {Ω : Type} (x0 : Int) (k : ByteArray → Option Ω) : Le (ref01_Digits.w x0 k) (ref01_Digits.s BIG x0 k) := by
  delta ref01_Digits.w ref01_Digits.s ref01_Digits.sl
  exact (ref01_Digits.h0    k _)
def ref01_Digits.u (x0 : Int) : Option (ByteArray) := ref01_Digits.w x0 some
theorem ref01_Digits.c (x0 : Int) (r : ByteArray) (h : ref01_Digits.u x0 = some r) : Contract C 48 [(.v (.int .i64) (x0))] (tupAV .str [] r) :=
  contract_s (S := fun k => ref01_Digits.s BIG x0 k) C_ok noS_ok (by kernel_rfl) (by kernel_rfl) (by kernel_rfl) (ref01_Digits.ev BIG x0 (dec .str [])) (ref01_Digits.le x0 some r h)
noncomputable def ref01_Digits.e : Ent := argI (.int .i64) fun x0 => endU (ref01_Digits.u x0) (tupAV .str [])
theorem ref01_Digits.e_ok : EntOK C 48 (fun {_} => ref01_Digits.e) := entA_ok (argI_ok fun x0 => endU_ok fun r h => ref01_Digits.c x0 r h)

/-- becket becketref01.Plain -/
noncomputable def ref01_Plain.sp : Spec := noS
def ref01_Plain.F (fuel : Nat) : Fuel := ⟨fuel, fun r => bif r == 5 then [1, 2, 3, 6, 7, 8, 9, 10, 11, 12, 13, 14, 15, 16, 17, 18, 19, 20, 21, 22, 23, 24, 25, 26, 27, 28, 29, 30, 31, 32, 33, 34, 35, 36, 37, 38, 39, 40, 41, 42, 43] else []⟩
def ref01_Plain.E0 (e5_1 : ByteArray) (s5 : Int × Int) : List AV := [(.v .str (e5_1)), .dead, .dead, .dead, (.v (.int .i64) (s5.1)), (.v (.int .i64) (s5.2)), .dead, .dead, .dead, .dead, .dead, .dead, .dead, .dead, .dead, .dead, .dead, .dead, .dead, .dead, .dead, .dead, .dead, .dead, .dead, .dead, .dead, .dead, .dead, .dead, .dead, .dead, .dead, .dead, .dead, .dead, .dead, .dead, .dead, .dead, .dead, .dead, .dead, .dead]
def ref01_Plain.H0 (e5_1 : ByteArray) (s5 : Int × Int) : Heap := []
noncomputable def ref01_Plain.M0 {Ω : Type} (fuel : Nat) (e5_1 : ByteArray)  (k : AV → Option Ω) (m : Nat) (s : Int × Int) : Option Ω := loopK (fun env L k => evCode C ref01_Plain.sp (ref01_Plain.F fuel) (cl (cl (cr (cl (cr (cr (cr (Tryd.f55.body.getD .skip)))))))) env L k) [false, true, true, true, false, false, true, true, true, true, true, true, true, true, true, true, true, true, true, true, true, true, true, true, true, true, true, true, true, true, true, true, true, true, true, true, true, true, true, true, true, true, true, true] [] 0 (blockK 0 (seqK (fun env L => evCode C ref01_Plain.sp (ref01_Plain.F fuel) (cr (cr (cr (cr (Tryd.f55.body.getD .skip))))) env L (finK C Tryd.f55 k)) (finK C Tryd.f55 k))) m ((ref01_Plain.E0 e5_1) s) ((ref01_Plain.H0 e5_1) s)
def ref01_Plain.b0 {Ω : Type} (e5_1 : ByteArray)   (k : Int × Bool → Option Ω) (r5 : Int × Int → Option Ω) (s5 : Int × Int) : Option Ω :=
  bif (decide (s5.2 < ((e5_1).size : Int))) then
    bif (idxOK s5.2 (e5_1).size) then
      bif (decide ((bAt e5_1 (Int.toNat s5.2)) < 48)) then
        k (0, false)
      else
        bif (idxOK s5.2 (e5_1).size) then
          bif (decide ((bAt e5_1 (Int.toNat s5.2)) > 57)) then
            k (0, false)
          else
            bif (idxOK s5.2 (e5_1).size) then
              let v1 : Int := (IntKind.wrap .i64 ((IntKind.wrap .i64 (10 * s5.1)) + (IntKind.wrap .i64 (IntKind.wrap .u8 ((bAt e5_1 (Int.toNat s5.2)) - 48)))))
              r5 ((if (1000000000 : Int) < v1 then 1000000000 else v1), (IntKind.wrap .i64 (s5.2 + 1)))
            else
              none
        else
          none
    else
      none
  else
    k (s5.1, true)
def ref01_Plain.B0 {Ω : Type} (fuel : Nat) (e5_1 : ByteArray)  (k : Int × Bool → Option Ω) (r5 : Int × Int → Option Ω) (s5 : Int × Int) : Option Ω := ref01_Plain.b0 e5_1   k r5 s5
theorem ref01_Plain.l0 {Ω : Type} (fuel : Nat) (e5_1 : ByteArray)  (k : AV → Option Ω) : ∀ m, (ref01_Plain.M0 fuel e5_1  k m) = iter (ref01_Plain.B0 fuel e5_1  (fun r => k (tupAV (.int .i64) [.bool] r))) m :=
  loopK_iter (envOf := (ref01_Plain.E0 e5_1)) (LOf := (ref01_Plain.H0 e5_1)) (B := ref01_Plain.B0 fuel e5_1  (fun r => k (tupAV (.int .i64) [.bool] r))) (fun R s => by kernel_rfl)
def ref01_Plain.sl {Ω : Type} (x0 : ByteArray) (lp0 : ByteArray → Int × Int → Option Ω) (k : Int × Bool → Option Ω) : Option Ω :=
  bif ((x0).data.toList == ((bs [])).data.toList) then
    k (0, false)
  else
    bif (idxOK 0 (x0).size) then
      bif ((bAt x0 0) == 48) then
        bif (decide (((x0).size : Int) > 1)) then
          k (0, false)
        else
          lp0 x0 (0, 0)
      else
        lp0 x0 (0, 0)
    else
      none
def ref01_Plain.s {Ω : Type} (fuel : Nat) (x0 : ByteArray) (k : Int × Bool → Option Ω) : Option Ω := ref01_Plain.sl x0 (fun e5_1 => (iter (ref01_Plain.B0 fuel e5_1  k) fuel)) k
theorem ref01_Plain.ev {Ω : Type} (fuel : Nat) (x0 : ByteArray) (k : AV → Option Ω) : evFn C ref01_Plain.sp (ref01_Plain.F fuel) Tryd.f55 (Tryd.f55.body.getD .skip) [(.v .str (x0))] k = ref01_Plain.s fuel x0 (fun r => k (tupAV (.int .i64) [.bool] r)) := by
  have h0 : evFn C ref01_Plain.sp (ref01_Plain.F fuel) Tryd.f55 (Tryd.f55.body.getD .skip) [(.v .str (x0))] k = ref01_Plain.sl x0 (fun e5_1 => (ref01_Plain.M0 fuel e5_1  k fuel)) (fun r => k (tupAV (.int .i64) [.bool] r)) := by kernel_rfl
  have h1 : (fun e5_1 => (ref01_Plain.M0 fuel e5_1  k fuel)) = (fun e5_1 => (iter (ref01_Plain.B0 fuel e5_1  (fun r => k (tupAV (.int .i64) [.bool] r))) fuel)) := funext fun e5_1 => ref01_Plain.l0 fuel e5_1   k fuel
  rw [h1] at h0
  exact h0
def ref01_Plain.g0 {Ω : Type} (e5_1 : ByteArray)  (k : Int × Bool → Option Ω) : Nat → Int → Int → Option Ω
  | 0, a5_0, i5 =>
    k (a5_0, true)
  | d5 + 1, a5_0, i5 =>
    bif (idxOK i5 (e5_1).size) then
      bif (decide ((bAt e5_1 (Int.toNat i5)) < 48)) then
        k (0, false)
      else
        bif (idxOK i5 (e5_1).size) then
          bif (decide ((bAt e5_1 (Int.toNat i5)) > 57)) then
            k (0, false)
          else
            bif (idxOK i5 (e5_1).size) then
              let v1 : Int := (IntKind.wrap .i64 ((IntKind.wrap .i64 (10 * a5_0)) + (IntKind.wrap .i64 (IntKind.wrap .u8 ((bAt e5_1 (Int.toNat i5)) - 48)))))
              ref01_Plain.g0 e5_1  k d5 ((if (1000000000 : Int) < v1 then 1000000000 else v1)) (i5 + 1)
            else
              none
        else
          none
    else
      none
theorem ref01_Plain.h0 {Ω : Type} (e5_1 : ByteArray)   (k : Int × Bool → Option Ω) (hN : (((e5_1).size : Int) : Int) ≤ 9223372036854775807) : ∀ (m : Nat) (i : Int) (a : Int), -9223372036854775808 ≤ i → Int.toNat ((((e5_1).size : Int) : Int) - i) < m → Le (ref01_Plain.g0 e5_1  k (Int.toNat ((((e5_1).size : Int) : Int) - i)) a i) (iter (ref01_Plain.B0 BIG e5_1  k) m (a, i)) :=
  iter_count (((e5_1).size : Int) : Int) (fun i5 => (decide (i5 < ((e5_1).size : Int)))) (fun i => rfl) (fun (i5 : Int) (a5 : Int) => (a5, i5)) (fun xs i5 a5 => ref01_Plain.g0 e5_1  k xs a5 i5) (ref01_Plain.B0 BIG e5_1  k)
    (fun i5 a5 r h0 => (Le.fls h0 (Le.refl _)))
    (fun i5 d5 a5 r h0 hw ih => (Le.tru h0 (Le.cond (Le.cond (Le.refl _) (Le.cond (Le.cond (Le.refl _) (Le.cond (let v1 : Int := (IntKind.wrap .i64 ((IntKind.wrap .i64 (10 * a5)) + (IntKind.wrap .i64 (IntKind.wrap .u8 ((bAt e5_1 (Int.toNat i5)) - 48))))); (ih _ hw ((if (1000000000 : Int) < v1 then 1000000000 else v1)))) Le.nil)) Le.nil)) Le.nil)))
    hN
def ref01_Plain.w {Ω : Type} (x0 : ByteArray) (k : Int × Bool → Option Ω) : Option Ω :=
  bif ((x0).data.toList == ((bs [])).data.toList) then
    k (0, false)
  else
    bif (idxOK 0 (x0).size) then
      bif ((bAt x0 0) == 48) then
        bif (decide (((x0).size : Int) > 1)) then
          k (0, false)
        else
          bif (decide (((x0).size : Int) ≤ 4611686018427387904)) then ref01_Plain.g0 x0  k ((Int.toNat (((x0).size : Int) - 0))) 0 0 else none
      else
        bif (decide (((x0).size : Int) ≤ 4611686018427387904)) then ref01_Plain.g0 x0  k ((Int.toNat (((x0).size : Int) - 0))) 0 0 else none
    else
      none
theorem ref01_Plain.le {Ω : Type} (x0 : ByteArray) (k : Int × Bool → Option Ω) : Le (ref01_Plain.w x0 k) (ref01_Plain.s BIG x0 k) := by
  delta ref01_Plain.w ref01_Plain.s ref01_Plain.sl
  exact (Le.cond (Le.refl _) (Le.cond (Le.cond (Le.cond (Le.refl _) (Le.gd fun hg => ref01_Plain.h0 _   k (cnt_up hg) BIG 0 (0) (by decide) (cnt_big hg (by decide)))) (Le.gd fun hg => ref01_Plain.h0 _   k (cnt_up hg) BIG 0 (0) (by decide) (cnt_big hg (by decide)))) Le.nil))
def ref01_Plain.u (x0 : ByteArray) : Option (Int × Bool) := ref01_Plain.w x0 some
theorem ref01_Plain.c (x0 : ByteArray) (r : Int × Bool) (h : ref01_Plain.u x0 = some r) : Contract C 55 [(.v .str (x0))] (tupAV (.int .i64) [.bool] r) :=
  contract_s (S := fun k => ref01_Plain.s BIG x0 k) C_ok noS_ok (by kernel_rfl) (by kernel_rfl) (by kernel_rfl) (ref01_Plain.ev BIG x0 (dec (.int .i64) [.bool])) (ref01_Plain.le x0 some r h)
noncomputable def ref01_Plain.e : Ent := argI .str fun x0 => endU (ref01_Plain.u x0) (tupAV (.int .i64) [.bool])
theorem ref01_Plain.e_ok : EntOK C 55 (fun {_} => ref01_Plain.e) := entA_ok (argI_ok fun x0 => endU_ok fun r h => ref01_Plain.c x0 r h)

end Go.Proofs.YtaednhofihnfkaaDoor.K

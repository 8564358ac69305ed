/- What functions of the program come to, plainly. -/
import Derived.Test.YtaednhofihnfkaaDoorZ35a
set_option maxRecDepth 100000
set_option linter.unusedVariables false
namespace Go.Proofs.YtaednhofihnfkaaDoor.K
open Go Go.RowKit

/-- becket becketlaw35.Back -/
noncomputable def law35_Back.sp : Spec := noS
def law35_Back.F (fuel : Nat) : Fuel := ⟨fuel, fun r => bif r == 3 then [0, 1, 2, 4, 5, 9, 10, 11, 12, 13, 14, 15, 16, 17, 18, 19, 20, 21, 22, 23, 24, 25] else []⟩
def law35_Back.E0 (e3_1 : (List T_s24)) (e3_2 : Int) (s3 : Int × (List T_s24)) : List AV := [.dead, .dead, .dead, (.rs 1), .dead, .dead, (.v (.slice E_s24) (e3_1)), (.v (.int .i64) (e3_2)), (.v (.int .i64) (s3.1)), .dead, .dead, .dead, .dead, .dead, .dead, .dead, .dead, .dead, .dead, .dead, .dead, .dead, .dead, .dead, .dead, .dead]
def law35_Back.H0 (e3_1 : (List T_s24)) (e3_2 : Int) (s3 : Int × (List T_s24)) : Heap := [(.row 25 E_s24 [] false), (.row 25 E_s24 s3.2 false)]
noncomputable def law35_Back.M0 {Ω : Type} (fuel : Nat) (e3_1 : (List T_s24)) (e3_2 : Int)  (k : AV → Option Ω) (m : Nat) (s : Int × (List T_s24)) : Option Ω := loopK (fun env L k => evCode C law35_Back.sp (law35_Back.F fuel) (cl (cl (cr (cl (cr (cr (Tryd.f18.body.getD .skip))))))) env L k) [true, true, true, false, true, true, false, false, false, true, true, true, true, true, true, true, true, true, true, true, true, true, true, true, true, true] [] 2 (blockK 0 (seqK (fun env L => evCode C law35_Back.sp (law35_Back.F fuel) (cr (cr (cr (Tryd.f18.body.getD .skip)))) env L (finK C Tryd.f18 k)) (finK C Tryd.f18 k))) m ((law35_Back.E0 e3_1 e3_2) s) ((law35_Back.H0 e3_1 e3_2) s)
def law35_Back.b0 {Ω : Type} (e3_1 : (List T_s24)) (e3_2 : Int)   (k : (List T_s24) → Option Ω) (r3 : Int × (List T_s24) → Option Ω) (s3 : Int × (List T_s24)) : Option Ω :=
  bif (decide (s3.1 < e3_2)) then
    bif (idxOK s3.1 (List.length e3_1)) then
      bif (decide (List.length s3.2 + List.length [((List.getD e3_1 (Int.toNat s3.1) (0, (0, (0, ((0, (0, (0, (0, ())))), ()))))).1, ((List.getD e3_1 (Int.toNat s3.1) (0, (0, (0, ((0, (0, (0, (0, ())))), ()))))).2.1, ((List.getD e3_1 (Int.toNat s3.1) (0, (0, (0, ((0, (0, (0, (0, ())))), ()))))).2.2.1, ((List.getD e3_1 (Int.toNat s3.1) (0, (0, (0, ((0, (0, (0, (0, ())))), ()))))).2.2.2.1, ()))))] ≤ rowMax)) then
        r3 ((IntKind.wrap .i64 (s3.1 + 1)), (s3.2 ++ [((List.getD e3_1 (Int.toNat s3.1) (0, (0, (0, ((0, (0, (0, (0, ())))), ()))))).1, ((List.getD e3_1 (Int.toNat s3.1) (0, (0, (0, ((0, (0, (0, (0, ())))), ()))))).2.1, ((List.getD e3_1 (Int.toNat s3.1) (0, (0, (0, ((0, (0, (0, (0, ())))), ()))))).2.2.1, ((List.getD e3_1 (Int.toNat s3.1) (0, (0, (0, ((0, (0, (0, (0, ())))), ()))))).2.2.2.1, ()))))]))
      else
        none
    else
      none
  else
    k s3.2
def law35_Back.B0 {Ω : Type} (fuel : Nat) (e3_1 : (List T_s24)) (e3_2 : Int)  (k : (List T_s24) → Option Ω) (r3 : Int × (List T_s24) → Option Ω) (s3 : Int × (List T_s24)) : Option Ω := law35_Back.b0 e3_1 e3_2   k r3 s3
theorem law35_Back.l0 {Ω : Type} (fuel : Nat) (e3_1 : (List T_s24)) (e3_2 : Int)  (k : AV → Option Ω) : ∀ m, (law35_Back.M0 fuel e3_1 e3_2  k m) = iter (law35_Back.B0 fuel e3_1 e3_2  (fun r => k (tupAV (.slice E_s24) [] r))) m :=
  loopK_iter (envOf := (law35_Back.E0 e3_1 e3_2)) (LOf := (law35_Back.H0 e3_1 e3_2)) (B := law35_Back.B0 fuel e3_1 e3_2  (fun r => k (tupAV (.slice E_s24) [] r))) (fun R s => by kernel_rfl)
def law35_Back.sl {Ω : Type} (x0 : (List T_s24)) (lp0 : (List T_s24) → Int → Int × (List T_s24) → Option Ω) (k : (List T_s24) → Option Ω) : Option Ω :=
  lp0 x0 (((List.length x0 : Nat) : Int)) (0, [])
def law35_Back.s {Ω : Type} (fuel : Nat) (x0 : (List T_s24)) (k : (List T_s24) → Option Ω) : Option Ω := law35_Back.sl x0 (fun e3_1 e3_2 => (iter (law35_Back.B0 fuel e3_1 e3_2  k) fuel)) k
theorem law35_Back.ev {Ω : Type} (fuel : Nat) (x0 : (List T_s24)) (k : AV → Option Ω) : evFn C law35_Back.sp (law35_Back.F fuel) Tryd.f18 (Tryd.f18.body.getD .skip) [(.v (.slice E_s24) (x0))] k = law35_Back.s fuel x0 (fun r => k (tupAV (.slice E_s24) [] r)) := by
  have h0 : evFn C law35_Back.sp (law35_Back.F fuel) Tryd.f18 (Tryd.f18.body.getD .skip) [(.v (.slice E_s24) (x0))] k = law35_Back.sl x0 (fun e3_1 e3_2 => (law35_Back.M0 fuel e3_1 e3_2  k fuel)) (fun r => k (tupAV (.slice E_s24) [] r)) := by kernel_rfl
  have h1 : (fun e3_1 e3_2 => (law35_Back.M0 fuel e3_1 e3_2  k fuel)) = (fun e3_1 e3_2 => (iter (law35_Back.B0 fuel e3_1 e3_2  (fun r => k (tupAV (.slice E_s24) [] r))) fuel)) := funext fun e3_1 => funext fun e3_2 => law35_Back.l0 fuel e3_1 e3_2   k fuel
  rw [h1] at h0
  exact h0
def law35_Back.g0 {Ω : Type} (e3_1 : (List T_s24))  (k : (List T_s24) → Option Ω) : List T_s24 → (List T_s24) → Option Ω
  | [], a3_1 =>
    k a3_1
  | x3 :: xs3, a3_1 =>
    bif (decide (List.length a3_1 + List.length [(x3.1, (x3.2.1, (x3.2.2.1, (x3.2.2.2.1, ()))))] ≤ rowMax)) then
      law35_Back.g0 e3_1  k xs3 ((a3_1 ++ [(x3.1, (x3.2.1, (x3.2.2.1, (x3.2.2.2.1, ()))))]))
    else
      none
theorem law35_Back.h0 {Ω : Type} (e3_1 : (List T_s24))   (k : (List T_s24) → Option Ω) (hX : ((List.length e3_1 : Nat) : Int) ≤ 9223372036854775807) : ∀ (m : Nat) (i : Int) (a : (List T_s24)), 0 ≤ i → i ≤ ((List.length e3_1 : Nat) : Int) → ((List.length e3_1 : Nat) : Int) < m + i → Le (law35_Back.g0 e3_1  k (List.drop (Int.toNat i) e3_1) a) (iter (law35_Back.B0 BIG e3_1 (((List.length e3_1 : Nat) : Int))  k) m (i, a)) :=
  iter_list e3_1 (0, (0, (0, ((0, (0, (0, (0, ())))), ())))) (fun (i3 : Int) (a3 : (List T_s24)) => (i3, a3)) (fun xs i3 a3 => law35_Back.g0 e3_1  k xs a3) (law35_Back.B0 BIG e3_1 (((List.length e3_1 : Nat) : Int))  k)
    (fun i3 a3 r h0 => (Le.fls h0 (Le.refl _)))
    (fun i3 xs3 a3 r h0 h1 hw ih => (Le.tru h0 (Le.tru h1 (Le.cond (ih _ hw ((a3 ++ [((List.getD e3_1 (Int.toNat i3) (0, (0, (0, ((0, (0, (0, (0, ())))), ()))))).1, ((List.getD e3_1 (Int.toNat i3) (0, (0, (0, ((0, (0, (0, (0, ())))), ()))))).2.1, ((List.getD e3_1 (Int.toNat i3) (0, (0, (0, ((0, (0, (0, (0, ())))), ()))))).2.2.1, ((List.getD e3_1 (Int.toNat i3) (0, (0, (0, ((0, (0, (0, (0, ())))), ()))))).2.2.2.1, ()))))]))) Le.nil))))
    hX
def law35_Back.w {Ω : Type} (x0 : (List T_s24)) (k : (List T_s24) → Option Ω) : Option Ω :=
  bif decide (((List.length x0 : Nat) : Int) ≤ 4611686018427387904) then law35_Back.g0 x0  k x0 ([]) else none
theorem law35_Back.le {Ω : Type} (x0 : (List T_s24)) (k : (List T_s24) → Option Ω) : Le (law35_Back.w x0 k) (law35_Back.s BIG x0 k) := by
  delta law35_Back.w law35_Back.s law35_Back.sl
  exact (Le.gd fun hg => law35_Back.h0 _   k (le_up (of_decide_eq_true hg)) BIG 0 ([]) (by decide) (zero_le_len _) (big_list (of_decide_eq_true hg)))
def law35_Back.u (x0 : (List T_s24)) : Option ((List T_s24)) := law35_Back.w x0 some
theorem law35_Back.c (x0 : (List T_s24)) (r : (List T_s24)) (h : law35_Back.u x0 = some r) : Contract C 18 [(.v (.slice E_s24) (x0))] (tupAV (.slice E_s24) [] r) :=
  contract_s (S := fun k => law35_Back.s BIG x0 k) C_ok noS_ok (by kernel_rfl) (by kernel_rfl) (by kernel_rfl) (law35_Back.ev BIG x0 (dec (.slice E_s24) [])) (law35_Back.le x0 some r h)
noncomputable def law35_Back.e : Ent := argI (.slice E_s24) fun x0 => endU (law35_Back.u x0) (tupAV (.slice E_s24) [])
theorem law35_Back.e_ok : EntOK C 18 (fun {_} => law35_Back.e) := entA_ok (argI_ok fun x0 => endU_ok fun r h => law35_Back.c x0 r h)

/-- becket becketref35.Same -/
noncomputable def ref35_Same.sp : Spec := noS
def ref35_Same.F (fuel : Nat) : Fuel := ⟨fuel, fun r => bif r == 4 then [2, 3, 4, 6, 7, 8, 9, 10, 11, 12, 13, 14, 15, 16, 17, 18, 19, 20, 21, 22, 23, 24, 25] else []⟩
def ref35_Same.E0 (e4_1 : (List T_s24)) (e4_2 : (List T_s24)) (s4 : Int) : List AV := [(.v (.slice E_s24) (e4_1)), (.v (.slice E_s24) (e4_2)), .dead, .dead, .dead, (.v (.int .i64) (s4)), .dead, .dead, .dead, .dead, .dead, .dead, .dead, .dead, .dead, .dead, .dead, .dead, .dead, .dead, .dead, .dead, .dead, .dead, .dead, .dead]
def ref35_Same.H0 (e4_1 : (List T_s24)) (e4_2 : (List T_s24)) (s4 : Int) : Heap := []
noncomputable def ref35_Same.M0 {Ω : Type} (fuel : Nat) (e4_1 : (List T_s24)) (e4_2 : (List T_s24))  (k : AV → Option Ω) (m : Nat) (s : Int) : Option Ω := loopK (fun env L k => evCode C ref35_Same.sp (ref35_Same.F fuel) (cl (cl (cr (cl (cr (cr (Tryd.f17.body.getD .skip))))))) env L k) [false, false, true, true, true, false, true, true, true, true, true, true, true, true, true, true, true, true, true, true, true, true, true, true, true, true] [] 0 (blockK 0 (seqK (fun env L => evCode C ref35_Same.sp (ref35_Same.F fuel) (cr (cr (cr (Tryd.f17.body.getD .skip)))) env L (finK C Tryd.f17 k)) (finK C Tryd.f17 k))) m ((ref35_Same.E0 e4_1 e4_2) s) ((ref35_Same.H0 e4_1 e4_2) s)
def ref35_Same.b0 {Ω : Type} (e4_1 : (List T_s24)) (e4_2 : (List T_s24))   (k : Bool → Option Ω) (r4 : Int → Option Ω) (s4 : Int) : Option Ω :=
  bif (decide (s4 < ((List.length e4_1 : Nat) : Int))) then
    bif (idxOK s4 (List.length e4_1)) then
      bif (idxOK s4 (List.length e4_2)) then
        let v1 : Bool := (!(eqI E_s24 (List.getD e4_1 (Int.toNat s4) (0, (0, (0, ((0, (0, (0, (0, ())))), ()))))) (List.getD e4_2 (Int.toNat s4) (0, (0, (0, ((0, (0, (0, (0, ())))), ())))))))
        bif v1 then
          k false
        else
          r4 ((IntKind.wrap .i64 (s4 + 1)))
      else
        none
    else
      none
  else
    k true
def ref35_Same.B0 {Ω : Type} (fuel : Nat) (e4_1 : (List T_s24)) (e4_2 : (List T_s24))  (k : Bool → Option Ω) (r4 : Int → Option Ω) (s4 : Int) : Option Ω := ref35_Same.b0 e4_1 e4_2   k r4 s4
theorem ref35_Same.l0 {Ω : Type} (fuel : Nat) (e4_1 : (List T_s24)) (e4_2 : (List T_s24))  (k : AV → Option Ω) : ∀ m, (ref35_Same.M0 fuel e4_1 e4_2  k m) = iter (ref35_Same.B0 fuel e4_1 e4_2  (fun r => k (tupAV .bool [] r))) m :=
  loopK_iter (envOf := (ref35_Same.E0 e4_1 e4_2)) (LOf := (ref35_Same.H0 e4_1 e4_2)) (B := ref35_Same.B0 fuel e4_1 e4_2  (fun r => k (tupAV .bool [] r))) (fun R s => by kernel_rfl)
def ref35_Same.sl {Ω : Type} (x0 : (List T_s24)) (x1 : (List T_s24)) (lp0 : (List T_s24) → (List T_s24) → Int → Option Ω) (k : Bool → Option Ω) : Option Ω :=
  bif (((List.length x0 : Nat) : Int) != ((List.length x1 : Nat) : Int)) then
    k false
  else
    lp0 x0 x1 (0)
def ref35_Same.s {Ω : Type} (fuel : Nat) (x0 : (List T_s24)) (x1 : (List T_s24)) (k : Bool → Option Ω) : Option Ω := ref35_Same.sl x0 x1 (fun e4_1 e4_2 => (iter (ref35_Same.B0 fuel e4_1 e4_2  k) fuel)) k
theorem ref35_Same.ev {Ω : Type} (fuel : Nat) (x0 : (List T_s24)) (x1 : (List T_s24)) (k : AV → Option Ω) : evFn C ref35_Same.sp (ref35_Same.F fuel) Tryd.f17 (Tryd.f17.body.getD .skip) [(.v (.slice E_s24) (x0)), (.v (.slice E_s24) (x1))] k = ref35_Same.s fuel x0 x1 (fun r => k (tupAV .bool [] r)) := by
  have h0 : evFn C ref35_Same.sp (ref35_Same.F fuel) Tryd.f17 (Tryd.f17.body.getD .skip) [(.v (.slice E_s24) (x0)), (.v (.slice E_s24) (x1))] k = ref35_Same.sl x0 x1 (fun e4_1 e4_2 => (ref35_Same.M0 fuel e4_1 e4_2  k fuel)) (fun r => k (tupAV .bool [] r)) := by kernel_rfl
  have h1 : (fun e4_1 e4_2 => (ref35_Same.M0 fuel e4_1 e4_2  k fuel)) = (fun e4_1 e4_2 => (iter (ref35_Same.B0 fuel e4_1 e4_2  (fun r => k (tupAV .bool [] r))) fuel)) := funext fun e4_1 => funext fun e4_2 => ref35_Same.l0 fuel e4_1 e4_2   k fuel
  rw [h1] at h0
  exact h0
def ref35_Same.g0 {Ω : Type} (e4_1 : (List T_s24)) (e4_2 : (List T_s24))  (k : Bool → Option Ω) : List T_s24 → Int → Option Ω
  | [], i4 =>
    k true
  | x4 :: xs4, i4 =>
    bif (idxOK i4 (List.length e4_2)) then
      let v1 : Bool := (!(eqI E_s24 x4 (List.getD e4_2 (Int.toNat i4) (0, (0, (0, ((0, (0, (0, (0, ())))), ())))))))
      bif v1 then
        k false
      else
        ref35_Same.g0 e4_1 e4_2  k xs4 (i4 + 1)
    else
      none
theorem ref35_Same.h0 {Ω : Type} (e4_1 : (List T_s24)) (e4_2 : (List T_s24))   (k : Bool → Option Ω) (hX : ((List.length e4_1 : Nat) : Int) ≤ 9223372036854775807) : ∀ (m : Nat) (i : Int) (a : Unit), 0 ≤ i → i ≤ ((List.length e4_1 : Nat) : Int) → ((List.length e4_1 : Nat) : Int) < m + i → Le (ref35_Same.g0 e4_1 e4_2  k (List.drop (Int.toNat i) e4_1) i) (iter (ref35_Same.B0 BIG e4_1 e4_2  k) m (i)) :=
  iter_list e4_1 (0, (0, (0, ((0, (0, (0, (0, ())))), ())))) (fun (i4 : Int) (a4 : Unit) => (i4)) (fun xs i4 a4 => ref35_Same.g0 e4_1 e4_2  k xs i4) (ref35_Same.B0 BIG e4_1 e4_2  k)
    (fun i4 a4 r h0 => (Le.fls h0 (Le.refl _)))
    (fun i4 xs4 a4 r h0 h1 hw ih => (Le.tru h0 (Le.tru h1 (Le.cond (let v1 : Bool := (!(eqI E_s24 (List.getD e4_1 (Int.toNat i4) (0, (0, (0, ((0, (0, (0, (0, ())))), ()))))) (List.getD e4_2 (Int.toNat i4) (0, (0, (0, ((0, (0, (0, (0, ())))), ()))))))); (Le.cond (Le.refl _) (ih _ hw ()))) Le.nil))))
    hX
def ref35_Same.w {Ω : Type} (x0 : (List T_s24)) (x1 : (List T_s24)) (k : Bool → Option Ω) : Option Ω :=
  bif (((List.length x0 : Nat) : Int) != ((List.length x1 : Nat) : Int)) then
    k false
  else
    bif decide (((List.length x0 : Nat) : Int) ≤ 4611686018427387904) then ref35_Same.g0 x0 x1  k x0 0 else none
theorem ref35_Same.le {Ω : Type} (x0 : (List T_s24)) (x1 : (List T_s24)) (k : Bool → Option Ω) : Le (ref35_Same.w x0 x1 k) (ref35_Same.s BIG x0 x1 k) := by
  delta ref35_Same.w ref35_Same.s ref35_Same.sl
  exact (Le.cond (Le.refl _) (Le.gd fun hg => ref35_Same.h0 _ _   k (le_up (of_decide_eq_true hg)) BIG 0 () (by decide) (zero_le_len _) (big_list (of_decide_eq_true hg))))
def ref35_Same.u (x0 : (List T_s24)) (x1 : (List T_s24)) : Option (Bool) := ref35_Same.w x0 x1 some
theorem ref35_Same.c (x0 : (List T_s24)) (x1 : (List T_s24)) (r : Bool) (h : ref35_Same.u x0 x1 = some r) : Contract C 17 [(.v (.slice E_s24) (x0)), (.v (.slice E_s24) (x1))] (tupAV .bool [] r) :=
  contract_s (S := fun k => ref35_Same.s BIG x0 x1 k) C_ok noS_ok (by kernel_rfl) (by kernel_rfl) (by kernel_rfl) (ref35_Same.ev BIG x0 x1 (dec .bool [])) (ref35_Same.le x0 x1 some r h)
noncomputable def ref35_Same.e : Ent := argI (.slice E_s24) fun x0 => argI (.slice E_s24) fun x1 => endU (ref35_Same.u x0 x1) (tupAV .bool [])
theorem ref35_Same.e_ok : EntOK C 17 (fun {_} => ref35_Same.e) := by
  refine entA_ok ?_
  refine argI_ok fun x0 => ?_
  refine argI_ok fun x1 => ?_
  refine endU_ok fun r h => ?_
  exact ref35_Same.c x0 x1 r h

/-- becket becketlaw35.LabelBack -/
noncomputable def law35_LabelBack.sp : Spec := (orS 18 (fun {_} => law35_Back.e) (orS 17 (fun {_} => ref35_Same.e) (orS 16 (fun {_} => label_Read.e) (orS 15 (fun {_} => law35_To.e) (orS 14 (fun {_} => label_Print.e) (orS 13 (fun {_} => law35_alive.e) noS))))))
def law35_LabelBack.s {Ω : Type} (x0 : (List T_s24)) (x1 : ByteArray) (k : Bool → Option Ω) : Option Ω :=
  bif (decide (((List.length x0 : Nat) : Int) > 60)) then
    law35_alive.u.bind fun y1 =>
    k y1
  else
    bif (decide (((x1).size : Int) > 1500)) then
      law35_alive.u.bind fun y2 =>
      k y2
    else
      (law35_To.u x0).bind fun y3 =>
      (label_Print.u y3).bind fun y4 =>
      bif (y4.2 == 0) then
        (label_Read.u y4.1).bind fun y5 =>
        bif (y5.2.2 != 0) then
          k false
        else
          bif (y5.2.1 != 0) then
            k false
          else
            (law35_Back.u y5.1).bind fun y6 =>
            (ref35_Same.u y6 x0).bind fun y7 =>
            bif (!y7) then
              k false
            else
              (label_Read.u x1).bind fun y8 =>
              bif (y8.2.2 != 0) then
                bif (((List.length y8.1 : Nat) : Int) == 0) then
                  law35_alive.u.bind fun y9 =>
                  k y9
                else
                  k false
              else
                (label_Print.u y8.1).bind fun y10 =>
                bif (y10.2 == 0) then
                  bif ((y10.1).data.toList == (x1).data.toList) then
                    law35_alive.u.bind fun y11 =>
                    k y11
                  else
                    k false
                else
                  k false
      else
        (label_Read.u x1).bind fun y12 =>
        bif (y12.2.2 != 0) then
          bif (((List.length y12.1 : Nat) : Int) == 0) then
            law35_alive.u.bind fun y13 =>
            k y13
          else
            k false
        else
          (label_Print.u y12.1).bind fun y14 =>
          bif (y14.2 == 0) then
            bif ((y14.1).data.toList == (x1).data.toList) then
              law35_alive.u.bind fun y15 =>
              k y15
            else
              k false
          else
            k false
theorem law35_LabelBack.ev {Ω : Type} (fuel : Fuel) (x0 : (List T_s24)) (x1 : ByteArray) (k : AV → Option Ω) : evFn CMP law35_LabelBack.sp fuel Tryd.f4 (Tryd.f4.body.getD .skip) [(.v (.slice E_s24) (x0)), (.v .str (x1))] k = law35_LabelBack.s x0 x1 (fun r => k (tupAV .bool [] r)) := by kernel_rfl
def law35_LabelBack.u (x0 : (List T_s24)) (x1 : ByteArray) : Option (Bool) := law35_LabelBack.s x0 x1 some
theorem law35_LabelBack.c (x0 : (List T_s24)) (x1 : ByteArray) (r : Bool) (h : law35_LabelBack.u x0 x1 = some r) : Contract CMP 4 [(.v (.slice E_s24) (x0)), (.v .str (x1))] (tupAV .bool [] r) :=
  contract_s (S := fun k => law35_LabelBack.s x0 x1 k) CMP_ok (orS_ok (law35_Back.e_ok.mono le_C_CMP) (orS_ok (ref35_Same.e_ok.mono le_C_CMP) (orS_ok (label_Read.e_ok.mono le_CM_CMP) (orS_ok (law35_To.e_ok.mono le_C_CMP) (orS_ok label_Print.e_ok (orS_ok law35_alive.e_ok noS_ok)))))) (by kernel_rfl) (by kernel_rfl) (by kernel_rfl) (law35_LabelBack.ev ⟨1, fun _ => []⟩ x0 x1 (dec .bool [])) h
noncomputable def law35_LabelBack.e : Ent := argI (.slice E_s24) fun x0 => argI .str fun x1 => endU (law35_LabelBack.u x0 x1) (tupAV .bool [])
theorem law35_LabelBack.e_ok : EntOK CMP 4 (fun {_} => law35_LabelBack.e) := by
  refine entA_ok ?_
  refine argI_ok fun x0 => ?_
  refine argI_ok fun x1 => ?_
  refine endU_ok fun r h => ?_
  exact law35_LabelBack.c x0 x1 r h

end Go.Proofs.YtaednhofihnfkaaDoor.K

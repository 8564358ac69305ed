/- What functions of the program come to, plainly. -/
import Derived.Test.YtfihhbgppgkafaaDoorZ10
set_option maxRecDepth 100000
set_option linter.unusedVariables false
namespace Go.Proofs.YtfihhbgppgkafaaDoor.K
open Go Go.RowKit

/-- becket guard.below -/
noncomputable def guard_below.sp : Spec := noS
def guard_below.F (fuel : Nat) : Fuel := ⟨fuel, fun r => bif r == 2 then [0, 1, 2, 3, 4, 8, 9, 10, 11, 12, 13, 14, 15, 16, 17, 18, 19, 20, 21] else []⟩
def guard_below.E0 (e2_1 : (List (List Int))) (e2_2 : Int) (s2 : Int) : List AV := [.dead, .dead, .dead, .dead, .dead, (.v (.slice (.arr 2 (.int .i64))) (e2_1)), (.v (.int .i64) (e2_2)), (.v (.int .i64) (s2)), .dead, .dead, .dead, .dead, .dead, .dead, .dead, .dead, .dead, .dead, .dead, .dead, .dead, .dead]
def guard_below.H0 (e2_1 : (List (List Int))) (e2_2 : Int) (s2 : Int) : Heap := []
noncomputable def guard_below.M0 {Ω : Type} (fuel : Nat) (e2_1 : (List (List Int))) (e2_2 : Int)  (k : AV → Option Ω) (m : Nat) (s : Int) : Option Ω := loopK (fun env L k => evCode C guard_below.sp (guard_below.F fuel) (cl (cl (cr (cl (cr (Tryd.f103.body.getD .skip)))))) env L k) [true, true, true, true, true, false, false, false, true, true, true, true, true, true, true, true, true, true, true, true, true, true] 0 (blockK 0 (seqK (fun env L => evCode C guard_below.sp (guard_below.F fuel) (cr (cr (Tryd.f103.body.getD .skip))) env L (finK C Tryd.f103 k)) (finK C Tryd.f103 k))) m ((guard_below.E0 e2_1 e2_2) s) ((guard_below.H0 e2_1 e2_2) s)
def guard_below.b0 {Ω : Type} (e2_1 : (List (List Int))) (e2_2 : Int)   (k : Bool → Option Ω) (r2 : Int → Option Ω) (s2 : Int) : Option Ω :=
  bif (decide (s2 < e2_2)) then
    bif (idxOK s2 (List.length e2_1)) then
      bif (decide ((List.getD (List.getD e2_1 (Int.toNat s2) (List.replicate 2 0)) 0 0) < 0)) then
        k false
      else
        let v1 : Bool := (decide ((List.getD (List.getD e2_1 (Int.toNat s2) (List.replicate 2 0)) 0 0) ≥ (List.getD (List.getD e2_1 (Int.toNat s2) (List.replicate 2 0)) 1 0)))
        bif v1 then
          k false
        else
          r2 ((IntKind.wrap .i64 (s2 + 1)))
    else
      none
  else
    k true
def guard_below.B0 {Ω : Type} (fuel : Nat) (e2_1 : (List (List Int))) (e2_2 : Int)  (k : Bool → Option Ω) (r2 : Int → Option Ω) (s2 : Int) : Option Ω := guard_below.b0 e2_1 e2_2   k r2 s2
theorem guard_below.l0 {Ω : Type} (fuel : Nat) (e2_1 : (List (List Int))) (e2_2 : Int)  (k : AV → Option Ω) : ∀ m, (guard_below.M0 fuel e2_1 e2_2  k m) = iter (guard_below.B0 fuel e2_1 e2_2  (fun r => k (tupAV .bool [] r))) m :=
  loopK_iter (envOf := (guard_below.E0 e2_1 e2_2)) (LOf := (guard_below.H0 e2_1 e2_2)) (B := guard_below.B0 fuel e2_1 e2_2  (fun r => k (tupAV .bool [] r))) (fun R s => by kernel_rfl)
def guard_below.sl {Ω : Type} (x0 : (List (List Int))) (lp0 : (List (List Int)) → Int → Int → Option Ω) (k : Bool → Option Ω) : Option Ω :=
  lp0 x0 (((List.length x0 : Nat) : Int)) (0)
def guard_below.s {Ω : Type} (fuel : Nat) (x0 : (List (List Int))) (k : Bool → Option Ω) : Option Ω := guard_below.sl x0 (fun e2_1 e2_2 => (iter (guard_below.B0 fuel e2_1 e2_2  k) fuel)) k
theorem guard_below.ev {Ω : Type} (fuel : Nat) (x0 : (List (List Int))) (k : AV → Option Ω) : evFn C guard_below.sp (guard_below.F fuel) Tryd.f103 (Tryd.f103.body.getD .skip) [(.v (.slice (.arr 2 (.int .i64))) (x0))] k = guard_below.s fuel x0 (fun r => k (tupAV .bool [] r)) := by
  have h0 : evFn C guard_below.sp (guard_below.F fuel) Tryd.f103 (Tryd.f103.body.getD .skip) [(.v (.slice (.arr 2 (.int .i64))) (x0))] k = guard_below.sl x0 (fun e2_1 e2_2 => (guard_below.M0 fuel e2_1 e2_2  k fuel)) (fun r => k (tupAV .bool [] r)) := by kernel_rfl
  have h1 : (fun e2_1 e2_2 => (guard_below.M0 fuel e2_1 e2_2  k fuel)) = (fun e2_1 e2_2 => (iter (guard_below.B0 fuel e2_1 e2_2  (fun r => k (tupAV .bool [] r))) fuel)) := funext fun e2_1 => funext fun e2_2 => guard_below.l0 fuel e2_1 e2_2   k fuel
  rw [h1] at h0
  exact h0
def guard_below.g0 {Ω : Type} (e2_1 : (List (List Int)))  (k : Bool → Option Ω) : List (List Int) → Option Ω
  | [] =>
    k true
  | x2 :: xs2 =>
    bif (decide ((List.getD x2 0 0) < 0)) then
      k false
    else
      let v1 : Bool := (decide ((List.getD x2 0 0) ≥ (List.getD x2 1 0)))
      bif v1 then
        k false
      else
        guard_below.g0 e2_1  k xs2
theorem guard_below.h0 {Ω : Type} (e2_1 : (List (List Int)))   (k : Bool → Option Ω) (hX : ((List.length e2_1 : Nat) : Int) ≤ 9223372036854775807) : ∀ (m : Nat) (i : Int) (a : Unit), 0 ≤ i → i ≤ ((List.length e2_1 : Nat) : Int) → ((List.length e2_1 : Nat) : Int) < m + i → Le (guard_below.g0 e2_1  k (List.drop (Int.toNat i) e2_1) ) (iter (guard_below.B0 BIG e2_1 (((List.length e2_1 : Nat) : Int))  k) m (i)) :=
  iter_list e2_1 (List.replicate 2 0) (fun (i2 : Int) (a2 : Unit) => (i2)) (fun xs i2 a2 => guard_below.g0 e2_1  k xs ) (guard_below.B0 BIG e2_1 (((List.length e2_1 : Nat) : Int))  k)
    (fun i2 a2 r h0 => (Le.fls h0 (Le.refl _)))
    (fun i2 xs2 a2 r h0 h1 hw ih => (Le.tru h0 (Le.tru h1 (Le.cond (Le.refl _) (let v1 : Bool := (decide ((List.getD (List.getD e2_1 (Int.toNat i2) (List.replicate 2 0)) 0 0) ≥ (List.getD (List.getD e2_1 (Int.toNat i2) (List.replicate 2 0)) 1 0))); (Le.cond (Le.refl _) (ih _ hw ())))))))
    hX
def guard_below.w {Ω : Type} (x0 : (List (List Int))) (k : Bool → Option Ω) : Option Ω :=
  bif decide (((List.length x0 : Nat) : Int) ≤ 4611686018427387904) then guard_below.g0 x0  k x0  else none
theorem guard_below.le {Ω : Type} (x0 : (List (List Int))) (k : Bool → Option Ω) : Le (guard_below.w x0 k) (guard_below.s BIG x0 k) := by
  delta guard_below.w guard_below.s guard_below.sl
  exact (Le.gd fun hg => guard_below.h0 _   k (le_up (of_decide_eq_true hg)) BIG 0 () (by decide) (zero_le_len _) (big_list (of_decide_eq_true hg)))
def guard_below.u (x0 : (List (List Int))) : Option (Bool) := guard_below.w x0 some
theorem guard_below.c (x0 : (List (List Int))) (r : Bool) (h : guard_below.u x0 = some r) : Contract C 103 [(.v (.slice (.arr 2 (.int .i64))) (x0))] (tupAV .bool [] r) :=
  contract_s (S := fun k => guard_below.s BIG x0 k) C_ok noS_ok (by kernel_rfl) (by kernel_rfl) (by kernel_rfl) (guard_below.ev BIG x0 (dec .bool [])) (guard_below.le x0 some r h)
noncomputable def guard_below.e : Ent := argI (.slice (.arr 2 (.int .i64))) fun x0 => endU (guard_below.u x0) (tupAV .bool [])
theorem guard_below.e_ok : EntOK C 103 (fun {_} => guard_below.e) := entA_ok (argI_ok fun x0 => endU_ok fun r h => guard_below.c x0 r h)

/-- becket guard.right -/
noncomputable def guard_right.sp : Spec := (orS 105 (fun {_} => clock_Fine.e) (orS 104 (fun {_} => word_Fine.e) (orS 103 (fun {_} => guard_below.e) noS)))
def guard_right.s {Ω : Type} (x0 : T_s22) (k : Bool × T_s22 → Option Ω) : Option Ω :=
  (guard_below.u ([(List.set (List.set (List.replicate 2 0) 0 x0.2.2.2.2.1) 1 6)])).bind fun y1 =>
  bif (x0.1 == 1) then
    bif y1 then
      (guard_below.u ([(List.set (List.set (List.replicate 2 0) 0 x0.2.1) 1 8), (List.set (List.set (List.replicate 2 0) 0 x0.2.2.2.1) 1 8)])).bind fun y2 =>
      k (y2, (0, (0, (x0.2.2.1, (0, (0, ()))))))
    else
      k (false, (0, (0, (x0.2.2.1, (0, (0, ()))))))
  else
    bif (x0.1 == 2) then
      bif y1 then
        (guard_below.u ([(List.set (List.set (List.replicate 2 0) 0 x0.2.1) 1 8)])).bind fun y3 =>
        bif y3 then
          k ((word_Fine.t x0.2.2.1), (0, (0, (0, (x0.2.2.2.1, (0, ()))))))
        else
          k (false, (0, (0, (0, (x0.2.2.2.1, (0, ()))))))
      else
        k (false, (0, (0, (0, (x0.2.2.2.1, (0, ()))))))
    else
      bif (x0.1 == 3) then
        bif y1 then
          (guard_below.u ([(List.set (List.set (List.replicate 2 0) 0 x0.2.1) 1 8)])).bind fun y4 =>
          k (y4, (0, (0, (x0.2.2.1, (x0.2.2.2.1, (0, ()))))))
        else
          k (false, (0, (0, (x0.2.2.1, (x0.2.2.2.1, (0, ()))))))
      else
        bif (x0.1 == 4) then
          bif y1 then
            k ((clock_Fine.t x0.2.2.1), (0, (x0.2.1, (0, (x0.2.2.2.1, (0, ()))))))
          else
            k (false, (0, (x0.2.1, (0, (x0.2.2.2.1, (0, ()))))))
        else
          bif (x0.1 == 6) then
            bif y1 then
              bif (word_Fine.t x0.2.2.1) then
                (guard_below.u ([(List.set (List.set (List.replicate 2 0) 0 x0.2.2.2.1) 1 8)])).bind fun y5 =>
                k (y5, (0, (x0.2.1, (0, (0, (0, ()))))))
              else
                k (false, (0, (x0.2.1, (0, (0, (0, ()))))))
            else
              k (false, (0, (x0.2.1, (0, (0, (0, ()))))))
          else
            k (y1, (0, (x0.2.1, (x0.2.2.1, (x0.2.2.2.1, (0, ()))))))
theorem guard_right.ev {Ω : Type} (fuel : Fuel) (x0 : T_s22) (k : AV → Option Ω) : evFn C guard_right.sp fuel Tryd.f66 (Tryd.f66.body.getD .skip) [(.v E_s22 (x0))] k = guard_right.s x0 (fun r => k (tupAV .bool [E_s22] r)) := by kernel_rfl
def guard_right.u (x0 : T_s22) : Option (Bool × T_s22) := guard_right.s x0 some
theorem guard_right.c (x0 : T_s22) (r : Bool × T_s22) (h : guard_right.u x0 = some r) : Contract C 66 [(.v E_s22 (x0))] (tupAV .bool [E_s22] r) :=
  contract_s (S := fun k => guard_right.s x0 k) C_ok (orS_ok clock_Fine.e_ok (orS_ok word_Fine.e_ok (orS_ok guard_below.e_ok noS_ok))) (by kernel_rfl) (by kernel_rfl) (by kernel_rfl) (guard_right.ev ⟨1, fun _ => []⟩ x0 (dec .bool [E_s22])) h
noncomputable def guard_right.e : Ent := argI E_s22 fun x0 => endU (guard_right.u x0) (tupAV .bool [E_s22])
theorem guard_right.e_ok : EntOK C 66 (fun {_} => guard_right.e) := entA_ok (argI_ok fun x0 => endU_ok fun r h => guard_right.c x0 r h)

/-- becket guard.Check -/
noncomputable def guard_Check.sp : Spec := (orS 66 (fun {_} => guard_right.e) noS)
def guard_Check.s {Ω : Type} (x0 : T_s22) (k : Int → Option Ω) : Option Ω :=
  bif (decide (x0.1 < 1)) then
    k 12
  else
    bif (decide (x0.1 > 6)) then
      k 12
    else
      (guard_right.u x0).bind fun y1 =>
      bif (!y1.1) then
        k 8
      else
        bif (!(eqI E_s22 y1.2 (0, (0, (0, (0, (0, ()))))))) then
          k 3
        else
          k 0
theorem guard_Check.ev {Ω : Type} (fuel : Fuel) (x0 : T_s22) (k : AV → Option Ω) : evFn C guard_Check.sp fuel Tryd.f17 (Tryd.f17.body.getD .skip) [(.v E_s22 (x0))] k = guard_Check.s x0 (fun r => k (tupAV (.int .i64) [] r)) := by kernel_rfl
def guard_Check.u (x0 : T_s22) : Option (Int) := guard_Check.s x0 some
theorem guard_Check.c (x0 : T_s22) (r : Int) (h : guard_Check.u x0 = some r) : Contract C 17 [(.v E_s22 (x0))] (tupAV (.int .i64) [] r) :=
  contract_s (S := fun k => guard_Check.s x0 k) C_ok (orS_ok guard_right.e_ok noS_ok) (by kernel_rfl) (by kernel_rfl) (by kernel_rfl) (guard_Check.ev ⟨1, fun _ => []⟩ x0 (dec (.int .i64) [])) h
noncomputable def guard_Check.e : Ent := argI E_s22 fun x0 => endU (guard_Check.u x0) (tupAV (.int .i64) [])
theorem guard_Check.e_ok : EntOK C 17 (fun {_} => guard_Check.e) := entA_ok (argI_ok fun x0 => endU_ok fun r h => guard_Check.c x0 r h)

/-- becket guard.number -/
noncomputable def guard_number.sp : Spec := (orS 101 (fun {_} => word_Text.e) noS)
def guard_number.s {Ω : Type} (x0 : Int) (k : ByteArray → Option Ω) : Option Ω :=
  (word_Text.u x0).bind fun y1 =>
  k y1.1
theorem guard_number.ev {Ω : Type} (fuel : Fuel) (x0 : Int) (k : AV → Option Ω) : evFn CP guard_number.sp fuel Tryd.f63 (Tryd.f63.body.getD .skip) [(.v (.int .i64) (x0))] k = guard_number.s x0 (fun r => k (tupAV .str [] r)) := by kernel_rfl
def guard_number.u (x0 : Int) : Option (ByteArray) := guard_number.s x0 some
theorem guard_number.c (x0 : Int) (r : ByteArray) (h : guard_number.u x0 = some r) : Contract CP 63 [(.v (.int .i64) (x0))] (tupAV .str [] r) :=
  contract_s (S := fun k => guard_number.s x0 k) CP_ok (orS_ok word_Text.e_ok noS_ok) (by kernel_rfl) (by kernel_rfl) (by kernel_rfl) (guard_number.ev ⟨1, fun _ => []⟩ x0 (dec .str [])) h
noncomputable def guard_number.e : Ent := argI (.int .i64) fun x0 => endU (guard_number.u x0) (tupAV .str [])
theorem guard_number.e_ok : EntOK CP 63 (fun {_} => guard_number.e) := entA_ok (argI_ok fun x0 => endU_ok fun r h => guard_number.c x0 r h)

/-- becket guard.instant -/
noncomputable def guard_instant.sp : Spec := (orS 102 (fun {_} => strings_Repeat.e) (orS 63 (fun {_} => guard_number.e) noS))
def guard_instant.s {Ω : Type} (x0 : Int) (k : ByteArray → Option Ω) : Option Ω :=
  bif (decide (x0 < 1000000000)) then
    (guard_number.u x0).bind fun y1 =>
    k y1
  else
    (guard_number.u (Int.tmod x0 1000000000)).bind fun y2 =>
    (guard_number.u ((IntKind.wrap .i64 (Int.tdiv x0 1000000000)))).bind fun y3 =>
    (strings_Repeat.u (bs [48]) ((IntKind.wrap .i64 (9 - ((y2).size : Int))))).bind fun y4 =>
    bif (decide ((y3).size + (y4).size ≤ catMax)) then
      bif (decide (((y3 ++ y4)).size + (y2).size ≤ catMax)) then
        k ((y3 ++ y4) ++ y2)
      else
        none
    else
      none
theorem guard_instant.ev {Ω : Type} (fuel : Fuel) (x0 : Int) (k : AV → Option Ω) : evFn CP guard_instant.sp fuel Tryd.f64 (Tryd.f64.body.getD .skip) [(.v (.int .i64) (x0))] k = guard_instant.s x0 (fun r => k (tupAV .str [] r)) := by kernel_rfl
def guard_instant.u (x0 : Int) : Option (ByteArray) := guard_instant.s x0 some
theorem guard_instant.c (x0 : Int) (r : ByteArray) (h : guard_instant.u x0 = some r) : Contract CP 64 [(.v (.int .i64) (x0))] (tupAV .str [] r) :=
  contract_s (S := fun k => guard_instant.s x0 k) CP_ok (orS_ok (strings_Repeat.e_ok.mono le_C_CP) (orS_ok guard_number.e_ok noS_ok)) (by kernel_rfl) (by kernel_rfl) (by kernel_rfl) (guard_instant.ev ⟨1, fun _ => []⟩ x0 (dec .str [])) h
noncomputable def guard_instant.e : Ent := argI (.int .i64) fun x0 => endU (guard_instant.u x0) (tupAV .str [])
theorem guard_instant.e_ok : EntOK CP 64 (fun {_} => guard_instant.e) := entA_ok (argI_ok fun x0 => endU_ok fun r h => guard_instant.c x0 r h)

/-- becket guard.Text -/
noncomputable def guard_Text.sp : Spec := (orS 64 (fun {_} => guard_instant.e) (orS 63 (fun {_} => guard_number.e) (orS 17 (fun {_} => guard_Check.e) noS)))
def guard_Text.s {Ω : Type} (x0 : T_s22) (k : ByteArray × Int → Option Ω) : Option Ω :=
  (guard_Check.u x0).bind fun y1 =>
  bif (y1 != 0) then
    k ((bs []), y1)
  else
    (guard_number.u x0.2.2.2.2.1).bind fun y2 =>
    bif (decide ((y2).size + ((bs [58, 32])).size ≤ catMax)) then
      bif (x0.1 == 1) then
        (guard_number.u x0.2.1).bind fun y3 =>
        bif (decide (((bs [105, 110, 32, 99])).size + (y3).size ≤ catMax)) then
          bif (decide ((((bs [105, 110, 32, 99]) ++ y3)).size + ((bs [32, 114])).size ≤ catMax)) then
            (guard_number.u x0.2.2.2.1).bind fun y4 =>
            bif (decide (((((bs [105, 110, 32, 99]) ++ y3) ++ (bs [32, 114]))).size + (y4).size ≤ catMax)) then
              bif (decide (((y2 ++ (bs [58, 32]))).size + (((((bs [105, 110, 32, 99]) ++ y3) ++ (bs [32, 114])) ++ y4)).size ≤ catMax)) then
                k (((y2 ++ (bs [58, 32])) ++ ((((bs [105, 110, 32, 99]) ++ y3) ++ (bs [32, 114])) ++ y4)), 0)
              else
                none
            else
              none
          else
            none
        else
          none
      else
        bif (x0.1 == 2) then
          (guard_number.u x0.2.1).bind fun y5 =>
          bif (decide (((bs [111, 117, 116, 32, 99])).size + (y5).size ≤ catMax)) then
            bif (decide ((((bs [111, 117, 116, 32, 99]) ++ y5)).size + ((bs [32])).size ≤ catMax)) then
              (guard_number.u x0.2.2.1).bind fun y6 =>
              bif (decide (((((bs [111, 117, 116, 32, 99]) ++ y5) ++ (bs [32]))).size + (y6).size ≤ catMax)) then
                bif (decide (((y2 ++ (bs [58, 32]))).size + (((((bs [111, 117, 116, 32, 99]) ++ y5) ++ (bs [32])) ++ y6)).size ≤ catMax)) then
                  k (((y2 ++ (bs [58, 32])) ++ ((((bs [111, 117, 116, 32, 99]) ++ y5) ++ (bs [32])) ++ y6)), 0)
                else
                  none
              else
                none
            else
              none
          else
            none
        else
          bif (x0.1 == 3) then
            (guard_number.u x0.2.1).bind fun y7 =>
            bif (decide (((bs [98, 97, 114, 32, 98])).size + (y7).size ≤ catMax)) then
              bif (decide (((y2 ++ (bs [58, 32]))).size + (((bs [98, 97, 114, 32, 98]) ++ y7)).size ≤ catMax)) then
                k (((y2 ++ (bs [58, 32])) ++ ((bs [98, 97, 114, 32, 98]) ++ y7)), 0)
              else
                none
            else
              none
          else
            bif (x0.1 == 4) then
              (guard_instant.u x0.2.2.1).bind fun y8 =>
              bif (decide (((bs [116, 105, 109, 101, 32])).size + (y8).size ≤ catMax)) then
                bif (decide (((y2 ++ (bs [58, 32]))).size + (((bs [116, 105, 109, 101, 32]) ++ y8)).size ≤ catMax)) then
                  k (((y2 ++ (bs [58, 32])) ++ ((bs [116, 105, 109, 101, 32]) ++ y8)), 0)
                else
                  none
              else
                none
            else
              bif (x0.1 == 5) then
                bif (decide (((y2 ++ (bs [58, 32]))).size + ((bs [115, 107, 105, 112])).size ≤ catMax)) then
                  k (((y2 ++ (bs [58, 32])) ++ (bs [115, 107, 105, 112])), 0)
                else
                  none
              else
                (guard_number.u x0.2.2.1).bind fun y9 =>
                bif (decide (((bs [106, 111, 105, 110, 32])).size + (y9).size ≤ catMax)) then
                  bif (decide ((((bs [106, 111, 105, 110, 32]) ++ y9)).size + ((bs [32, 114])).size ≤ catMax)) then
                    (guard_number.u x0.2.2.2.1).bind fun y10 =>
                    bif (decide (((((bs [106, 111, 105, 110, 32]) ++ y9) ++ (bs [32, 114]))).size + (y10).size ≤ catMax)) then
                      bif (decide (((y2 ++ (bs [58, 32]))).size + (((((bs [106, 111, 105, 110, 32]) ++ y9) ++ (bs [32, 114])) ++ y10)).size ≤ catMax)) then
                        let v11 : ByteArray := ((y2 ++ (bs [58, 32])) ++ ((((bs [106, 111, 105, 110, 32]) ++ y9) ++ (bs [32, 114])) ++ y10))
                        k (v11, 0)
                      else
                        none
                    else
                      none
                  else
                    none
                else
                  none
    else
      none
theorem guard_Text.ev {Ω : Type} (fuel : Fuel) (x0 : T_s22) (k : AV → Option Ω) : evFn CP guard_Text.sp fuel Tryd.f15 (Tryd.f15.body.getD .skip) [(.v E_s22 (x0))] k = guard_Text.s x0 (fun r => k (tupAV .str [(.int .i64)] r)) := by kernel_rfl
def guard_Text.u (x0 : T_s22) : Option (ByteArray × Int) := guard_Text.s x0 some
theorem guard_Text.c (x0 : T_s22) (r : ByteArray × Int) (h : guard_Text.u x0 = some r) : Contract CP 15 [(.v E_s22 (x0))] (tupAV .str [(.int .i64)] r) :=
  contract_s (S := fun k => guard_Text.s x0 k) CP_ok (orS_ok guard_instant.e_ok (orS_ok guard_number.e_ok (orS_ok (guard_Check.e_ok.mono le_C_CP) noS_ok))) (by kernel_rfl) (by kernel_rfl) (by kernel_rfl) (guard_Text.ev ⟨1, fun _ => []⟩ x0 (dec .str [(.int .i64)])) h
noncomputable def guard_Text.e : Ent := argI E_s22 fun x0 => endU (guard_Text.u x0) (tupAV .str [(.int .i64)])
theorem guard_Text.e_ok : EntOK CP 15 (fun {_} => guard_Text.e) := entA_ok (argI_ok fun x0 => endU_ok fun r h => guard_Text.c x0 r h)

/-- becket becketref25.in -/
noncomputable def ref25_in.sp : Spec := noS
def ref25_in.s {Ω : Type} (x0 : Int) (x1 : Int) (k : Bool → Option Ω) : Option Ω :=
  bif (decide (x0 ≥ 0)) then
    k (decide (x0 < x1))
  else
    k false
theorem ref25_in.ev {Ω : Type} (fuel : Fuel) (x0 : Int) (x1 : Int) (k : AV → Option Ω) : evFn C ref25_in.sp fuel Tryd.f67 (Tryd.f67.body.getD .skip) [(.v (.int .i64) (x0)), (.v (.int .i64) (x1))] k = ref25_in.s x0 x1 (fun r => k (tupAV .bool [] r)) := by kernel_rfl
def ref25_in.t (x0 : Int) (x1 : Int) : Bool :=
  bif (decide (x0 ≥ 0)) then
    (decide (x0 < x1))
  else
    false
theorem ref25_in.v {Ω : Type} (x0 : Int) (x1 : Int) (k : Bool → Option Ω) : ref25_in.s x0 x1 k = k (ref25_in.t x0 x1) := by
  delta ref25_in.s ref25_in.t; exact (cond_tot rfl rfl)
theorem ref25_in.c (x0 : Int) (x1 : Int) : Contract C 67 [(.v (.int .i64) (x0)), (.v (.int .i64) (x1))] (tupAV .bool [] (ref25_in.t x0 x1)) :=
  contract_s (S := fun k => ref25_in.s x0 x1 k) C_ok noS_ok (by kernel_rfl) (by kernel_rfl) (by kernel_rfl) (ref25_in.ev ⟨1, fun _ => []⟩ x0 x1 (dec .bool [])) (ref25_in.v x0 x1 some)
noncomputable def ref25_in.e : Ent := argI (.int .i64) fun x0 => argI (.int .i64) fun x1 => endT (tupAV .bool [] (ref25_in.t x0 x1))
theorem ref25_in.e_ok : EntOK C 67 (fun {_} => ref25_in.e) := entA_ok (argI_ok fun x0 => argI_ok fun x1 => endT_ok (ref25_in.c x0 x1))

/-- becket becketref25.Check -/
noncomputable def ref25_Check.sp : Spec := (orS 69 (fun {_} => ref08_Fine.e) (orS 68 (fun {_} => ref05_Fine.e) (orS 67 (fun {_} => ref25_in.e) noS)))
noncomputable def ref25_Check.cutD (e3_1 : T_s22) (e3_2 : Int) (e3_3 : Bool) (e3_4 : Bool) : Option (Int) := evCode C ref25_Check.sp ⟨1, fun _ => []⟩ (cr (cr (Tryd.f18.body.getD .skip))) [(.v E_s22 (e3_1)), (.ref 0 []), (.v (.int .i64) (0)), .dead, .dead, .dead, (.ref 0 [.fld 0]), (.v (.int .i64) (e3_2)), (.v .bool (e3_3)), (.v .bool (false)), (.ref 0 [.fld 0]), (.v (.int .i64) (e3_2)), (.v .bool (e3_4)), (.v .bool (false)), .dead, .dead, .dead, .dead, .dead, .dead, .dead, .dead, .dead, .dead, .dead, .dead, .dead, .dead, .dead, .dead, .dead, .dead, .dead, .dead, .dead, .dead, .dead, .dead, .dead, .dead, .dead, .dead, .dead, .dead, .dead, .dead, .dead, .dead, .dead, .dead, .dead, .dead, .dead, .dead, .dead, .dead, .dead, .dead, .dead, .dead, .dead, .dead, .dead, .dead, .dead, .dead, .dead, .dead, .dead, .dead, .dead, .dead, .dead, .dead, .dead, .dead, .dead, .dead, .dead, .dead, .dead, .dead, .dead, .dead, .dead, .dead, .dead, .dead, .dead, .dead, .dead, .dead, .dead, .dead, .dead, .dead, .dead, .dead, .dead, .dead, .dead, .dead, .dead, .dead, .dead, .dead, .dead, .dead, .dead, .dead] [(.box E_s22 e3_1 false)] (finK C Tryd.f18 (dec (.int .i64) []))
theorem ref25_Check.cutx : ∃ f : T_s22 → Int → Bool → Bool → Option (Int), ∀ e3_1 e3_2 e3_3 e3_4, f e3_1 e3_2 e3_3 e3_4 = ref25_Check.cutD e3_1 e3_2 e3_3 e3_4 := ⟨ref25_Check.cutD, fun _ _ _ _ => rfl⟩
noncomputable def ref25_Check.cut0 : T_s22 → Int → Bool → Bool → Option (Int) := Classical.choose ref25_Check.cutx
theorem ref25_Check.cut0_eq : ∀ (e3_1 : T_s22) (e3_2 : Int) (e3_3 : Bool) (e3_4 : Bool), ref25_Check.cut0 e3_1 e3_2 e3_3 e3_4 = ref25_Check.cutD e3_1 e3_2 e3_3 e3_4 := Classical.choose_spec ref25_Check.cutx
noncomputable def ref25_Check.u0 (x0 : T_s22) : Option (Int) :=
  bif (decide (x0.1 < 1)) then
    some 12
  else
    bif (decide (x0.1 > 6)) then
      some 12
    else
      ref25_Check.cut0 (x0) (x0.1) ((decide (x0.1 < 1))) ((decide (x0.1 > 6)))
theorem ref25_Check.ex : ∃ f : T_s22 → Option (Int), ∀ x0, f x0 = ref25_Check.u0 x0 := ⟨ref25_Check.u0, fun _ => rfl⟩
noncomputable def ref25_Check.u : T_s22 → Option (Int) := Classical.choose ref25_Check.ex
theorem ref25_Check.u_eq : ∀ (x0 : T_s22), ref25_Check.u x0 = ref25_Check.u0 x0 := Classical.choose_spec ref25_Check.ex
theorem ref25_Check.ev0 (F : List AV → Heap → Option (Int)) (x0 : T_s22) : evCode C ref25_Check.sp ⟨1, fun _ => []⟩ (cl (Tryd.f18.body.getD .skip)) [(.v E_s22 (x0)), .dead, .dead, .dead, .dead, .dead, .dead, .dead, .dead, .dead, .dead, .dead, .dead, .dead, .dead, .dead, .dead, .dead, .dead, .dead, .dead, .dead, .dead, .dead, .dead, .dead, .dead, .dead, .dead, .dead, .dead, .dead, .dead, .dead, .dead, .dead, .dead, .dead, .dead, .dead, .dead, .dead, .dead, .dead, .dead, .dead, .dead, .dead, .dead, .dead, .dead, .dead, .dead, .dead, .dead, .dead, .dead, .dead, .dead, .dead, .dead, .dead, .dead, .dead, .dead, .dead, .dead, .dead, .dead, .dead, .dead, .dead, .dead, .dead, .dead, .dead, .dead, .dead, .dead, .dead, .dead, .dead, .dead, .dead, .dead, .dead, .dead, .dead, .dead, .dead, .dead, .dead, .dead, .dead, .dead, .dead, .dead, .dead, .dead, .dead, .dead, .dead, .dead, .dead, .dead, .dead, .dead, .dead, .dead, .dead] [] (seqK (fun env L => evCode C ref25_Check.sp ⟨1, fun _ => []⟩ (cl (cr (Tryd.f18.body.getD .skip))) env L (seqK F (finK C Tryd.f18 (dec (.int .i64) [])))) (finK C Tryd.f18 (dec (.int .i64) []))) =
  bif (decide (x0.1 < 1)) then
    some 12
  else
    bif (decide (x0.1 > 6)) then
      some 12
    else
      F [(.v E_s22 (x0)), (.ref 0 []), (.v (.int .i64) (0)), .dead, .dead, .dead, (.ref 0 [.fld 0]), (.v (.int .i64) (x0.1)), (.v .bool (decide (x0.1 < 1))), (.v .bool (false)), (.ref 0 [.fld 0]), (.v (.int .i64) (x0.1)), (.v .bool (decide (x0.1 > 6))), (.v .bool (false)), .dead, .dead, .dead, .dead, .dead, .dead, .dead, .dead, .dead, .dead, .dead, .dead, .dead, .dead, .dead, .dead, .dead, .dead, .dead, .dead, .dead, .dead, .dead, .dead, .dead, .dead, .dead, .dead, .dead, .dead, .dead, .dead, .dead, .dead, .dead, .dead, .dead, .dead, .dead, .dead, .dead, .dead, .dead, .dead, .dead, .dead, .dead, .dead, .dead, .dead, .dead, .dead, .dead, .dead, .dead, .dead, .dead, .dead, .dead, .dead, .dead, .dead, .dead, .dead, .dead, .dead, .dead, .dead, .dead, .dead, .dead, .dead, .dead, .dead, .dead, .dead, .dead, .dead, .dead, .dead, .dead, .dead, .dead, .dead, .dead, .dead, .dead, .dead, .dead, .dead, .dead, .dead, .dead, .dead, .dead, .dead] [(.box E_s22 x0 false)] := by kernel_rfl
theorem ref25_Check.ev (x0 : T_s22) : evFn C ref25_Check.sp ⟨1, fun _ => []⟩ Tryd.f18 (Tryd.f18.body.getD .skip) [(.v E_s22 (x0))] (dec (.int .i64) []) = ref25_Check.u x0 := by
  have h0 : evFn C ref25_Check.sp ⟨1, fun _ => []⟩ Tryd.f18 (Tryd.f18.body.getD .skip) [(.v E_s22 (x0))] (dec (.int .i64) []) = evCode C ref25_Check.sp ⟨1, fun _ => []⟩ (cl (Tryd.f18.body.getD .skip)) [(.v E_s22 (x0)), .dead, .dead, .dead, .dead, .dead, .dead, .dead, .dead, .dead, .dead, .dead, .dead, .dead, .dead, .dead, .dead, .dead, .dead, .dead, .dead, .dead, .dead, .dead, .dead, .dead, .dead, .dead, .dead, .dead, .dead, .dead, .dead, .dead, .dead, .dead, .dead, .dead, .dead, .dead, .dead, .dead, .dead, .dead, .dead, .dead, .dead, .dead, .dead, .dead, .dead, .dead, .dead, .dead, .dead, .dead, .dead, .dead, .dead, .dead, .dead, .dead, .dead, .dead, .dead, .dead, .dead, .dead, .dead, .dead, .dead, .dead, .dead, .dead, .dead, .dead, .dead, .dead, .dead, .dead, .dead, .dead, .dead, .dead, .dead, .dead, .dead, .dead, .dead, .dead, .dead, .dead, .dead, .dead, .dead, .dead, .dead, .dead, .dead, .dead, .dead, .dead, .dead, .dead, .dead, .dead, .dead, .dead, .dead, .dead] [] (seqK (fun env L => evCode C ref25_Check.sp ⟨1, fun _ => []⟩ (cl (cr (Tryd.f18.body.getD .skip))) env L (seqK (fun env L => evCode C ref25_Check.sp ⟨1, fun _ => []⟩ (cr (cr (Tryd.f18.body.getD .skip))) env L (finK C Tryd.f18 (dec (.int .i64) []))) (finK C Tryd.f18 (dec (.int .i64) [])))) (finK C Tryd.f18 (dec (.int .i64) []))) := by kernel_rfl
  have h1 := ref25_Check.ev0 (fun env L => evCode C ref25_Check.sp ⟨1, fun _ => []⟩ (cr (cr (Tryd.f18.body.getD .skip))) env L (finK C Tryd.f18 (dec (.int .i64) []))) x0
  have h2 : (
    bif (decide (x0.1 < 1)) then
      some 12
    else
      bif (decide (x0.1 > 6)) then
        some 12
      else
        (fun env L => evCode C ref25_Check.sp ⟨1, fun _ => []⟩ (cr (cr (Tryd.f18.body.getD .skip))) env L (finK C Tryd.f18 (dec (.int .i64) []))) [(.v E_s22 (x0)), (.ref 0 []), (.v (.int .i64) (0)), .dead, .dead, .dead, (.ref 0 [.fld 0]), (.v (.int .i64) (x0.1)), (.v .bool (decide (x0.1 < 1))), (.v .bool (false)), (.ref 0 [.fld 0]), (.v (.int .i64) (x0.1)), (.v .bool (decide (x0.1 > 6))), (.v .bool (false)), .dead, .dead, .dead, .dead, .dead, .dead, .dead, .dead, .dead, .dead, .dead, .dead, .dead, .dead, .dead, .dead, .dead, .dead, .dead, .dead, .dead, .dead, .dead, .dead, .dead, .dead, .dead, .dead, .dead, .dead, .dead, .dead, .dead, .dead, .dead, .dead, .dead, .dead, .dead, .dead, .dead, .dead, .dead, .dead, .dead, .dead, .dead, .dead, .dead, .dead, .dead, .dead, .dead, .dead, .dead, .dead, .dead, .dead, .dead, .dead, .dead, .dead, .dead, .dead, .dead, .dead, .dead, .dead, .dead, .dead, .dead, .dead, .dead, .dead, .dead, .dead, .dead, .dead, .dead, .dead, .dead, .dead, .dead, .dead, .dead, .dead, .dead, .dead, .dead, .dead, .dead, .dead, .dead, .dead, .dead, .dead] [(.box E_s22 x0 false)]) = (
    bif (decide (x0.1 < 1)) then
      some 12
    else
      bif (decide (x0.1 > 6)) then
        some 12
      else
        ref25_Check.cutD (x0) (x0.1) ((decide (x0.1 < 1))) ((decide (x0.1 > 6)))) := by kernel_rfl
  have h3 : (
    bif (decide (x0.1 < 1)) then
      some 12
    else
      bif (decide (x0.1 > 6)) then
        some 12
      else
        ref25_Check.cutD (x0) (x0.1) ((decide (x0.1 < 1))) ((decide (x0.1 > 6)))) = ref25_Check.u0 x0 := by
    unfold ref25_Check.u0
    rw [ref25_Check.cut0_eq]
  exact h0.trans (h1.trans (h2.trans (h3.trans (ref25_Check.u_eq x0).symm)))
theorem ref25_Check.c (x0 : T_s22) (r : Int) (h : ref25_Check.u x0 = some r) : Contract C 18 [(.v E_s22 (x0))] (tupAV (.int .i64) [] r) :=
  contract_u C_ok (orS_ok ref08_Fine.e_ok (orS_ok ref05_Fine.e_ok (orS_ok ref25_in.e_ok noS_ok))) (by kernel_rfl) (by kernel_rfl) (by kernel_rfl) ((ref25_Check.ev x0).trans h)
noncomputable def ref25_Check.e : Ent := argI E_s22 fun x0 => endU (ref25_Check.u x0) (tupAV (.int .i64) [])
theorem ref25_Check.e_ok : EntOK C 18 (fun {_} => ref25_Check.e) := entA_ok (argI_ok fun x0 => endU_ok fun r h => ref25_Check.c x0 r h)

/-- becket becketref25.digits -/
noncomputable def ref25_digits.sp : Spec := (orS 85 (fun {_} => ref01_Digits.e) noS)
def ref25_digits.s {Ω : Type} (x0 : Int) (k : ByteArray → Option Ω) : Option Ω :=
  bif (decide (x0 < 0)) then
    (ref01_Digits.u ((IntKind.wrap .i64 (0 - x0)))).bind fun y1 =>
    bif (decide (((bs [45])).size + (y1).size ≤ catMax)) then
      k ((bs [45]) ++ y1)
    else
      none
  else
    (ref01_Digits.u x0).bind fun y2 =>
    k y2
theorem ref25_digits.ev {Ω : Type} (fuel : Fuel) (x0 : Int) (k : AV → Option Ω) : evFn C ref25_digits.sp fuel Tryd.f65 (Tryd.f65.body.getD .skip) [(.v (.int .i64) (x0))] k = ref25_digits.s x0 (fun r => k (tupAV .str [] r)) := by kernel_rfl
def ref25_digits.u (x0 : Int) : Option (ByteArray) := ref25_digits.s x0 some
theorem ref25_digits.c (x0 : Int) (r : ByteArray) (h : ref25_digits.u x0 = some r) : Contract C 65 [(.v (.int .i64) (x0))] (tupAV .str [] r) :=
  contract_s (S := fun k => ref25_digits.s x0 k) C_ok (orS_ok ref01_Digits.e_ok noS_ok) (by kernel_rfl) (by kernel_rfl) (by kernel_rfl) (ref25_digits.ev ⟨1, fun _ => []⟩ x0 (dec .str [])) h
noncomputable def ref25_digits.e : Ent := argI (.int .i64) fun x0 => endU (ref25_digits.u x0) (tupAV .str [])
theorem ref25_digits.e_ok : EntOK C 65 (fun {_} => ref25_digits.e) := entA_ok (argI_ok fun x0 => endU_ok fun r h => ref25_digits.c x0 r h)

/-- becket becketref25.Text -/
noncomputable def ref25_Text.sp : Spec := (orS 65 (fun {_} => ref25_digits.e) (orS 18 (fun {_} => ref25_Check.e) noS))
noncomputable def ref25_Text.s {Ω : Type} (x0 : T_s22) (k : ByteArray × Int → Option Ω) : Option Ω :=
  (ref25_Check.u x0).bind fun y1 =>
  bif (y1 != 0) then
    k ((bs []), y1)
  else
    (ref25_digits.u x0.2.2.2.2.1).bind fun y2 =>
    bif (decide ((y2).size + ((bs [58, 32])).size ≤ catMax)) then
      bif (idxOK (IntKind.wrap .i64 (x0.1 - 1)) (List.length [(bs [105, 110]), (bs [111, 117, 116]), (bs [98, 97, 114]), (bs [116, 105, 109, 101]), (bs [115, 107, 105, 112]), (bs [106, 111, 105, 110])])) then
        let v3 : ByteArray := (List.getD [(bs [105, 110]), (bs [111, 117, 116]), (bs [98, 97, 114]), (bs [116, 105, 109, 101]), (bs [115, 107, 105, 112]), (bs [106, 111, 105, 110])] (Int.toNat (IntKind.wrap .i64 (x0.1 - 1))) (bs []))
        bif (decide (((y2 ++ (bs [58, 32]))).size + (v3).size ≤ catMax)) then
          bif (x0.1 == 1) then
            (ref25_digits.u x0.2.1).bind fun y4 =>
            bif (decide (((bs [32, 99])).size + (y4).size ≤ catMax)) then
              bif (decide ((((bs [32, 99]) ++ y4)).size + ((bs [32, 114])).size ≤ catMax)) then
                (ref25_digits.u x0.2.2.2.1).bind fun y5 =>
                bif (decide (((((bs [32, 99]) ++ y4) ++ (bs [32, 114]))).size + (y5).size ≤ catMax)) then
                  bif (decide ((((y2 ++ (bs [58, 32])) ++ v3)).size + (((((bs [32, 99]) ++ y4) ++ (bs [32, 114])) ++ y5)).size ≤ catMax)) then
                    k ((((y2 ++ (bs [58, 32])) ++ v3) ++ ((((bs [32, 99]) ++ y4) ++ (bs [32, 114])) ++ y5)), 0)
                  else
                    none
                else
                  none
              else
                none
            else
              none
          else
            bif (x0.1 == 2) then
              (ref25_digits.u x0.2.1).bind fun y6 =>
              bif (decide (((bs [32, 99])).size + (y6).size ≤ catMax)) then
                bif (decide ((((bs [32, 99]) ++ y6)).size + ((bs [32])).size ≤ catMax)) then
                  (ref25_digits.u x0.2.2.1).bind fun y7 =>
                  bif (decide (((((bs [32, 99]) ++ y6) ++ (bs [32]))).size + (y7).size ≤ catMax)) then
                    bif (decide ((((y2 ++ (bs [58, 32])) ++ v3)).size + (((((bs [32, 99]) ++ y6) ++ (bs [32])) ++ y7)).size ≤ catMax)) then
                      k ((((y2 ++ (bs [58, 32])) ++ v3) ++ ((((bs [32, 99]) ++ y6) ++ (bs [32])) ++ y7)), 0)
                    else
                      none
                  else
                    none
                else
                  none
              else
                none
            else
              bif (x0.1 == 3) then
                (ref25_digits.u x0.2.1).bind fun y8 =>
                bif (decide (((bs [32, 98])).size + (y8).size ≤ catMax)) then
                  bif (decide ((((y2 ++ (bs [58, 32])) ++ v3)).size + (((bs [32, 98]) ++ y8)).size ≤ catMax)) then
                    k ((((y2 ++ (bs [58, 32])) ++ v3) ++ ((bs [32, 98]) ++ y8)), 0)
                  else
                    none
                else
                  none
              else
                bif (x0.1 == 4) then
                  (ref25_digits.u x0.2.2.1).bind fun y9 =>
                  bif (decide (((bs [32])).size + (y9).size ≤ catMax)) then
                    bif (decide ((((y2 ++ (bs [58, 32])) ++ v3)).size + (((bs [32]) ++ y9)).size ≤ catMax)) then
                      k ((((y2 ++ (bs [58, 32])) ++ v3) ++ ((bs [32]) ++ y9)), 0)
                    else
                      none
                  else
                    none
                else
                  bif (x0.1 == 6) then
                    (ref25_digits.u x0.2.2.1).bind fun y10 =>
                    bif (decide (((bs [32])).size + (y10).size ≤ catMax)) then
                      bif (decide ((((bs [32]) ++ y10)).size + ((bs [32, 114])).size ≤ catMax)) then
                        (ref25_digits.u x0.2.2.2.1).bind fun y11 =>
                        bif (decide (((((bs [32]) ++ y10) ++ (bs [32, 114]))).size + (y11).size ≤ catMax)) then
                          bif (decide ((((y2 ++ (bs [58, 32])) ++ v3)).size + (((((bs [32]) ++ y10) ++ (bs [32, 114])) ++ y11)).size ≤ catMax)) then
                            k ((((y2 ++ (bs [58, 32])) ++ v3) ++ ((((bs [32]) ++ y10) ++ (bs [32, 114])) ++ y11)), 0)
                          else
                            none
                        else
                          none
                      else
                        none
                    else
                      none
                  else
                    k (((y2 ++ (bs [58, 32])) ++ v3), 0)
        else
          none
      else
        none
    else
      none
theorem ref25_Text.ev {Ω : Type} (fuel : Fuel) (x0 : T_s22) (k : AV → Option Ω) : evFn C ref25_Text.sp fuel Tryd.f16 (Tryd.f16.body.getD .skip) [(.v E_s22 (x0))] k = ref25_Text.s x0 (fun r => k (tupAV .str [(.int .i64)] r)) := by kernel_rfl
noncomputable def ref25_Text.u (x0 : T_s22) : Option (ByteArray × Int) := ref25_Text.s x0 some
theorem ref25_Text.c (x0 : T_s22) (r : ByteArray × Int) (h : ref25_Text.u x0 = some r) : Contract C 16 [(.v E_s22 (x0))] (tupAV .str [(.int .i64)] r) :=
  contract_s (S := fun k => ref25_Text.s x0 k) C_ok (orS_ok ref25_digits.e_ok (orS_ok ref25_Check.e_ok noS_ok)) (by kernel_rfl) (by kernel_rfl) (by kernel_rfl) (ref25_Text.ev ⟨1, fun _ => []⟩ x0 (dec .str [(.int .i64)])) h
noncomputable def ref25_Text.e : Ent := argI E_s22 fun x0 => endU (ref25_Text.u x0) (tupAV .str [(.int .i64)])
theorem ref25_Text.e_ok : EntOK C 16 (fun {_} => ref25_Text.e) := entA_ok (argI_ok fun x0 => endU_ok fun r h => ref25_Text.c x0 r h)

/-- becket guard.clash -/
noncomputable def guard_clash.sp : Spec := noS
def guard_clash.s {Ω : Type} (x0 : T_s22) (x1 : T_s22) (k : Bool → Option Ω) : Option Ω :=
  bif (x0.1 == x1.1) then
    bif (x0.2.1 == x1.2.1) then
      bif (x0.1 == 1) then
        k true
      else
        bif (x0.1 == 2) then
          k true
        else
          k (x0.1 == 3)
    else
      k false
  else
    k false
theorem guard_clash.ev {Ω : Type} (fuel : Fuel) (x0 : T_s22) (x1 : T_s22) (k : AV → Option Ω) : evFn C guard_clash.sp fuel Tryd.f106 (Tryd.f106.body.getD .skip) [(.v E_s22 (x0)), (.v E_s22 (x1))] k = guard_clash.s x0 x1 (fun r => k (tupAV .bool [] r)) := by kernel_rfl
def guard_clash.t (x0 : T_s22) (x1 : T_s22) : Bool :=
  bif (x0.1 == x1.1) then
    bif (x0.2.1 == x1.2.1) then
      bif (x0.1 == 1) then
        true
      else
        bif (x0.1 == 2) then
          true
        else
          (x0.1 == 3)
    else
      false
  else
    false
theorem guard_clash.v {Ω : Type} (x0 : T_s22) (x1 : T_s22) (k : Bool → Option Ω) : guard_clash.s x0 x1 k = k (guard_clash.t x0 x1) := by
  delta guard_clash.s guard_clash.t; exact (cond_tot (cond_tot (cond_tot rfl (cond_tot rfl rfl)) rfl) rfl)
theorem guard_clash.c (x0 : T_s22) (x1 : T_s22) : Contract C 106 [(.v E_s22 (x0)), (.v E_s22 (x1))] (tupAV .bool [] (guard_clash.t x0 x1)) :=
  contract_s (S := fun k => guard_clash.s x0 x1 k) C_ok noS_ok (by kernel_rfl) (by kernel_rfl) (by kernel_rfl) (guard_clash.ev ⟨1, fun _ => []⟩ x0 x1 (dec .bool [])) (guard_clash.v x0 x1 some)
noncomputable def guard_clash.e : Ent := argI E_s22 fun x0 => argI E_s22 fun x1 => endT (tupAV .bool [] (guard_clash.t x0 x1))
theorem guard_clash.e_ok : EntOK C 106 (fun {_} => guard_clash.e) := entA_ok (argI_ok fun x0 => argI_ok fun x1 => endT_ok (guard_clash.c x0 x1))

/-- becket guard.beside -/
noncomputable def guard_beside.sp : Spec := (orS 106 (fun {_} => guard_clash.e) noS)
def guard_beside.F (fuel : Nat) : Fuel := ⟨fuel, fun r => bif r == 4 then [0, 1, 2, 4, 5, 6, 7, 8, 9, 10, 11, 12, 13, 14, 15, 16, 17, 18, 19, 20, 21, 25, 26, 27, 28, 29, 30, 31] else []⟩
def guard_beside.E0 (e4_1 : (List T_s22)) (e4_2 : Int) (e4_3 : T_s22) (s4 : Int) : List AV := [.dead, .dead, .dead, (.ref 0 []), .dead, .dead, .dead, .dead, .dead, .dead, .dead, .dead, .dead, .dead, .dead, .dead, .dead, .dead, .dead, .dead, .dead, .dead, (.v (.slice E_s22) (e4_1)), (.v (.int .i64) (e4_2)), (.v (.int .i64) (s4)), .dead, .dead, .dead, .dead, .dead, .dead, .dead]
def guard_beside.H0 (e4_1 : (List T_s22)) (e4_2 : Int) (e4_3 : T_s22) (s4 : Int) : Heap := [(.box E_s22 e4_3 false)]
noncomputable def guard_beside.M0 {Ω : Type} (fuel : Nat) (e4_1 : (List T_s22)) (e4_2 : Int) (e4_3 : T_s22)  (k : AV → Option Ω) (m : Nat) (s : Int) : Option Ω := loopK (fun env L k => evCode C guard_beside.sp (guard_beside.F fuel) (cl (cl (cr (cl (cr (cr (Tryd.f70.body.getD .skip))))))) env L k) [true, true, true, false, true, true, true, true, true, true, true, true, true, true, true, true, true, true, true, true, true, true, false, false, false, true, true, true, true, true, true, true] 1 (blockK 0 (seqK (fun env L => evCode C guard_beside.sp (guard_beside.F fuel) (cr (cr (cr (Tryd.f70.body.getD .skip)))) env L (finK C Tryd.f70 k)) (finK C Tryd.f70 k))) m ((guard_beside.E0 e4_1 e4_2 e4_3) s) ((guard_beside.H0 e4_1 e4_2 e4_3) s)
def guard_beside.b0 {Ω : Type} (e4_1 : (List T_s22)) (e4_2 : Int) (e4_3 : T_s22)   (k : Int → Option Ω) (r4 : Int → Option Ω) (s4 : Int) : Option Ω :=
  bif (decide (s4 < e4_2)) then
    bif (idxOK s4 (List.length e4_1)) then
      bif (guard_clash.t ((List.getD e4_1 (Int.toNat s4) (0, (0, (0, (0, (0, ()))))))) e4_3) then
        k 7
      else
        r4 ((IntKind.wrap .i64 (s4 + 1)))
    else
      none
  else
    k 0
def guard_beside.B0 {Ω : Type} (fuel : Nat) (e4_1 : (List T_s22)) (e4_2 : Int) (e4_3 : T_s22)  (k : Int → Option Ω) (r4 : Int → Option Ω) (s4 : Int) : Option Ω := guard_beside.b0 e4_1 e4_2 e4_3   k r4 s4
theorem guard_beside.l0 {Ω : Type} (fuel : Nat) (e4_1 : (List T_s22)) (e4_2 : Int) (e4_3 : T_s22)  (k : AV → Option Ω) : ∀ m, (guard_beside.M0 fuel e4_1 e4_2 e4_3  k m) = iter (guard_beside.B0 fuel e4_1 e4_2 e4_3  (fun r => k (tupAV (.int .i64) [] r))) m :=
  loopK_iter (envOf := (guard_beside.E0 e4_1 e4_2 e4_3)) (LOf := (guard_beside.H0 e4_1 e4_2 e4_3)) (B := guard_beside.B0 fuel e4_1 e4_2 e4_3  (fun r => k (tupAV (.int .i64) [] r))) (fun R s => by kernel_rfl)
def guard_beside.sl {Ω : Type} (x0 : (List T_s22)) (x1 : T_s22) (lp0 : (List T_s22) → Int → T_s22 → Int → Option Ω) (k : Int → Option Ω) : Option Ω :=
  bif (decide (((List.length x0 : Nat) : Int) > 0)) then
    bif (idxOK (IntKind.wrap .i64 (((List.length x0 : Nat) : Int) - 1)) (List.length x0)) then
      let v1 : Int := (List.getD x0 (Int.toNat (IntKind.wrap .i64 (((List.length x0 : Nat) : Int) - 1))) (0, (0, (0, (0, (0, ())))))).2.2.2.2.1
      bif (decide (x1.2.2.2.2.1 ≤ v1)) then
        k 3
      else
        lp0 x0 (((List.length x0 : Nat) : Int)) x1 (0)
    else
      none
  else
    lp0 x0 (((List.length x0 : Nat) : Int)) x1 (0)
def guard_beside.s {Ω : Type} (fuel : Nat) (x0 : (List T_s22)) (x1 : T_s22) (k : Int → Option Ω) : Option Ω := guard_beside.sl x0 x1 (fun e4_1 e4_2 e4_3 => (iter (guard_beside.B0 fuel e4_1 e4_2 e4_3  k) fuel)) k
theorem guard_beside.ev {Ω : Type} (fuel : Nat) (x0 : (List T_s22)) (x1 : T_s22) (k : AV → Option Ω) : evFn C guard_beside.sp (guard_beside.F fuel) Tryd.f70 (Tryd.f70.body.getD .skip) [(.v (.slice E_s22) (x0)), (.v E_s22 (x1))] k = guard_beside.s fuel x0 x1 (fun r => k (tupAV (.int .i64) [] r)) := by
  have h0 : evFn C guard_beside.sp (guard_beside.F fuel) Tryd.f70 (Tryd.f70.body.getD .skip) [(.v (.slice E_s22) (x0)), (.v E_s22 (x1))] k = guard_beside.sl x0 x1 (fun e4_1 e4_2 e4_3 => (guard_beside.M0 fuel e4_1 e4_2 e4_3  k fuel)) (fun r => k (tupAV (.int .i64) [] r)) := by kernel_rfl
  have h1 : (fun e4_1 e4_2 e4_3 => (guard_beside.M0 fuel e4_1 e4_2 e4_3  k fuel)) = (fun e4_1 e4_2 e4_3 => (iter (guard_beside.B0 fuel e4_1 e4_2 e4_3  (fun r => k (tupAV (.int .i64) [] r))) fuel)) := funext fun e4_1 => funext fun e4_2 => funext fun e4_3 => guard_beside.l0 fuel e4_1 e4_2 e4_3   k fuel
  rw [h1] at h0
  exact h0
def guard_beside.g0 {Ω : Type} (e4_1 : (List T_s22)) (e4_3 : T_s22)  (k : Int → Option Ω) : List T_s22 → Option Ω
  | [] =>
    k 0
  | x4 :: xs4 =>
    bif (guard_clash.t (x4) e4_3) then
      k 7
    else
      guard_beside.g0 e4_1 e4_3  k xs4
theorem guard_beside.h0 {Ω : Type} (e4_1 : (List T_s22)) (e4_3 : T_s22)   (k : Int → Option Ω) (hX : ((List.length e4_1 : Nat) : Int) ≤ 9223372036854775807) : ∀ (m : Nat) (i : Int) (a : Unit), 0 ≤ i → i ≤ ((List.length e4_1 : Nat) : Int) → ((List.length e4_1 : Nat) : Int) < m + i → Le (guard_beside.g0 e4_1 e4_3  k (List.drop (Int.toNat i) e4_1) ) (iter (guard_beside.B0 BIG e4_1 (((List.length e4_1 : Nat) : Int)) e4_3  k) m (i)) :=
  iter_list e4_1 (0, (0, (0, (0, (0, ()))))) (fun (i4 : Int) (a4 : Unit) => (i4)) (fun xs i4 a4 => guard_beside.g0 e4_1 e4_3  k xs ) (guard_beside.B0 BIG e4_1 (((List.length e4_1 : Nat) : Int)) e4_3  k)
    (fun i4 a4 r h0 => (Le.fls h0 (Le.refl _)))
    (fun i4 xs4 a4 r h0 h1 hw ih => (Le.tru h0 (Le.tru h1 (Le.cond (Le.refl _) (ih _ hw ())))))
    hX
def guard_beside.w {Ω : Type} (x0 : (List T_s22)) (x1 : T_s22) (k : Int → Option Ω) : Option Ω :=
  bif (decide (((List.length x0 : Nat) : Int) > 0)) then
    bif (idxOK (IntKind.wrap .i64 (((List.length x0 : Nat) : Int) - 1)) (List.length x0)) then
      let v1 : Int := (List.getD x0 (Int.toNat (IntKind.wrap .i64 (((List.length x0 : Nat) : Int) - 1))) (0, (0, (0, (0, (0, ())))))).2.2.2.2.1
      bif (decide (x1.2.2.2.2.1 ≤ v1)) then
        k 3
      else
        bif decide (((List.length x0 : Nat) : Int) ≤ 4611686018427387904) then guard_beside.g0 x0 x1  k x0  else none
    else
      none
  else
    bif decide (((List.length x0 : Nat) : Int) ≤ 4611686018427387904) then guard_beside.g0 x0 x1  k x0  else none
theorem guard_beside.le {Ω : Type} (x0 : (List T_s22)) (x1 : T_s22) (k : Int → Option Ω) : Le (guard_beside.w x0 x1 k) (guard_beside.s BIG x0 x1 k) := by
  delta guard_beside.w guard_beside.s guard_beside.sl
  exact (Le.cond (Le.cond (let v1 : Int := (List.getD x0 (Int.toNat (IntKind.wrap .i64 (((List.length x0 : Nat) : Int) - 1))) (0, (0, (0, (0, (0, ())))))).2.2.2.2.1; (Le.cond (Le.refl _) (Le.gd fun hg => guard_beside.h0 _ _   k (le_up (of_decide_eq_true hg)) BIG 0 () (by decide) (zero_le_len _) (big_list (of_decide_eq_true hg))))) Le.nil) (Le.gd fun hg => guard_beside.h0 _ _   k (le_up (of_decide_eq_true hg)) BIG 0 () (by decide) (zero_le_len _) (big_list (of_decide_eq_true hg))))
def guard_beside.u (x0 : (List T_s22)) (x1 : T_s22) : Option (Int) := guard_beside.w x0 x1 some
theorem guard_beside.c (x0 : (List T_s22)) (x1 : T_s22) (r : Int) (h : guard_beside.u x0 x1 = some r) : Contract C 70 [(.v (.slice E_s22) (x0)), (.v E_s22 (x1))] (tupAV (.int .i64) [] r) :=
  contract_s (S := fun k => guard_beside.s BIG x0 x1 k) C_ok (orS_ok guard_clash.e_ok noS_ok) (by kernel_rfl) (by kernel_rfl) (by kernel_rfl) (guard_beside.ev BIG x0 x1 (dec (.int .i64) [])) (guard_beside.le x0 x1 some r h)
noncomputable def guard_beside.e : Ent := argI (.slice E_s22) fun x0 => argI E_s22 fun x1 => endU (guard_beside.u x0 x1) (tupAV (.int .i64) [])
theorem guard_beside.e_ok : EntOK C 70 (fun {_} => guard_beside.e) := entA_ok (argI_ok fun x0 => argI_ok fun x1 => endU_ok fun r h => guard_beside.c x0 x1 r h)

/-- becket guard.All -/
noncomputable def guard_All.sp : Spec := (orS 70 (fun {_} => guard_beside.e) (orS 17 (fun {_} => guard_Check.e) noS))
def guard_All.F (fuel : Nat) : Fuel := ⟨fuel, fun r => bif r == 6 then [1, 2, 3, 4, 5, 6, 7, 8, 9, 10, 11, 12, 13, 14, 18, 19, 20, 21, 22, 23, 24, 25, 26, 27, 28, 29, 30, 31, 32, 33, 34, 35] else []⟩
def guard_All.E0 (e6_1 : (List T_s22)) (e6_2 : Int) (s6 : Int) : List AV := [(.v (.slice E_s22) (e6_1)), .dead, .dead, .dead, .dead, .dead, .dead, .dead, .dead, .dead, .dead, .dead, .dead, .dead, .dead, (.v (.slice E_s22) (e6_1)), (.v (.int .i64) (e6_2)), (.v (.int .i64) (s6)), .dead, .dead, .dead, .dead, .dead, .dead, .dead, .dead, .dead, .dead, .dead, .dead, .dead, .dead, .dead, .dead, .dead, .dead]
def guard_All.H0 (e6_1 : (List T_s22)) (e6_2 : Int) (s6 : Int) : Heap := []
noncomputable def guard_All.M0 {Ω : Type} (fuel : Nat) (e6_1 : (List T_s22)) (e6_2 : Int)  (k : AV → Option Ω) (m : Nat) (s : Int) : Option Ω := loopK (fun env L k => evCode C guard_All.sp (guard_All.F fuel) (cl (cl (cr (cl (cr (cr (Tryd.f20.body.getD .skip))))))) env L k) [false, true, true, true, true, true, true, true, true, true, true, true, true, true, true, false, false, false, true, true, true, true, true, true, true, true, true, true, true, true, true, true, true, true, true, true] 0 (blockK 1 (seqK (fun env L => evCode C guard_All.sp (guard_All.F fuel) (cr (cr (cr (Tryd.f20.body.getD .skip)))) env L (finK C Tryd.f20 k)) (finK C Tryd.f20 k))) m ((guard_All.E0 e6_1 e6_2) s) ((guard_All.H0 e6_1 e6_2) s)
def guard_All.b0 {Ω : Type} (e6_1 : (List T_s22)) (e6_2 : Int)   (k : Int × Int → Option Ω) (r6 : Int → Option Ω) (s6 : Int) : Option Ω :=
  bif (decide (s6 < e6_2)) then
    bif (idxOK s6 (List.length e6_1)) then
      (guard_Check.u ((List.getD e6_1 (Int.toNat s6) (0, (0, (0, (0, (0, ())))))))).bind fun y1 =>
      bif (y1 == 0) then
        bif (subC none (some (s6)) (List.length e6_1)) then
          (guard_beside.u ((subL none (some (s6)) e6_1)) ((List.getD e6_1 (Int.toNat s6) (0, (0, (0, (0, (0, ())))))))).bind fun y2 =>
          bif (y2 != 0) then
            k (s6, y2)
          else
            r6 ((IntKind.wrap .i64 (s6 + 1)))
        else
          none
      else
        bif (y1 != 0) then
          k (s6, y1)
        else
          r6 ((IntKind.wrap .i64 (s6 + 1)))
    else
      none
  else
    k (0, 0)
def guard_All.B0 {Ω : Type} (fuel : Nat) (e6_1 : (List T_s22)) (e6_2 : Int)  (k : Int × Int → Option Ω) (r6 : Int → Option Ω) (s6 : Int) : Option Ω := guard_All.b0 e6_1 e6_2   k r6 s6
theorem guard_All.l0 {Ω : Type} (fuel : Nat) (e6_1 : (List T_s22)) (e6_2 : Int)  (k : AV → Option Ω) : ∀ m, (guard_All.M0 fuel e6_1 e6_2  k m) = iter (guard_All.B0 fuel e6_1 e6_2  (fun r => k (tupAV (.int .i64) [(.int .i64)] r))) m :=
  loopK_iter (envOf := (guard_All.E0 e6_1 e6_2)) (LOf := (guard_All.H0 e6_1 e6_2)) (B := guard_All.B0 fuel e6_1 e6_2  (fun r => k (tupAV (.int .i64) [(.int .i64)] r))) (fun R s => by kernel_rfl)
def guard_All.sl {Ω : Type} (x0 : (List T_s22)) (lp0 : (List T_s22) → Int → Int → Option Ω) (k : Int × Int → Option Ω) : Option Ω :=
  bif (((List.length x0 : Nat) : Int) == 0) then
    k (0, 11)
  else
    bif (decide (((List.length x0 : Nat) : Int) > 6)) then
      k (6, 5)
    else
      lp0 x0 (((List.length x0 : Nat) : Int)) (0)
def guard_All.s {Ω : Type} (fuel : Nat) (x0 : (List T_s22)) (k : Int × Int → Option Ω) : Option Ω := guard_All.sl x0 (fun e6_1 e6_2 => (iter (guard_All.B0 fuel e6_1 e6_2  k) fuel)) k
theorem guard_All.ev {Ω : Type} (fuel : Nat) (x0 : (List T_s22)) (k : AV → Option Ω) : evFn C guard_All.sp (guard_All.F fuel) Tryd.f20 (Tryd.f20.body.getD .skip) [(.v (.slice E_s22) (x0))] k = guard_All.s fuel x0 (fun r => k (tupAV (.int .i64) [(.int .i64)] r)) := by
  have h0 : evFn C guard_All.sp (guard_All.F fuel) Tryd.f20 (Tryd.f20.body.getD .skip) [(.v (.slice E_s22) (x0))] k = guard_All.sl x0 (fun e6_1 e6_2 => (guard_All.M0 fuel e6_1 e6_2  k fuel)) (fun r => k (tupAV (.int .i64) [(.int .i64)] r)) := by kernel_rfl
  have h1 : (fun e6_1 e6_2 => (guard_All.M0 fuel e6_1 e6_2  k fuel)) = (fun e6_1 e6_2 => (iter (guard_All.B0 fuel e6_1 e6_2  (fun r => k (tupAV (.int .i64) [(.int .i64)] r))) fuel)) := funext fun e6_1 => funext fun e6_2 => guard_All.l0 fuel e6_1 e6_2   k fuel
  rw [h1] at h0
  exact h0
def guard_All.g0 {Ω : Type} (e6_1 : (List T_s22))  (k : Int × Int → Option Ω) : List T_s22 → Int → Option Ω
  | [], i6 =>
    k (0, 0)
  | x6 :: xs6, i6 =>
    (guard_Check.u (x6)).bind fun y1 =>
    bif (y1 == 0) then
      bif (subC none (some (i6)) (List.length e6_1)) then
        (guard_beside.u ((subL none (some (i6)) e6_1)) (x6)).bind fun y2 =>
        bif (y2 != 0) then
          k (i6, y2)
        else
          guard_All.g0 e6_1  k xs6 (i6 + 1)
      else
        none
    else
      bif (y1 != 0) then
        k (i6, y1)
      else
        guard_All.g0 e6_1  k xs6 (i6 + 1)
theorem guard_All.h0 {Ω : Type} (e6_1 : (List T_s22))   (k : Int × Int → Option Ω) (hX : ((List.length e6_1 : Nat) : Int) ≤ 9223372036854775807) : ∀ (m : Nat) (i : Int) (a : Unit), 0 ≤ i → i ≤ ((List.length e6_1 : Nat) : Int) → ((List.length e6_1 : Nat) : Int) < m + i → Le (guard_All.g0 e6_1  k (List.drop (Int.toNat i) e6_1) i) (iter (guard_All.B0 BIG e6_1 (((List.length e6_1 : Nat) : Int))  k) m (i)) :=
  iter_list e6_1 (0, (0, (0, (0, (0, ()))))) (fun (i6 : Int) (a6 : Unit) => (i6)) (fun xs i6 a6 => guard_All.g0 e6_1  k xs i6) (guard_All.B0 BIG e6_1 (((List.length e6_1 : Nat) : Int))  k)
    (fun i6 a6 r h0 => (Le.fls h0 (Le.refl _)))
    (fun i6 xs6 a6 r h0 h1 hw ih => (Le.tru h0 (Le.tru h1 (Le.bnd fun y1 => (Le.cond (Le.cond (Le.bnd fun y2 => (Le.cond (Le.refl _) (ih _ hw ()))) Le.nil) (Le.cond (Le.refl _) (ih _ hw ())))))))
    hX
def guard_All.w {Ω : Type} (x0 : (List T_s22)) (k : Int × Int → Option Ω) : Option Ω :=
  bif (((List.length x0 : Nat) : Int) == 0) then
    k (0, 11)
  else
    bif (decide (((List.length x0 : Nat) : Int) > 6)) then
      k (6, 5)
    else
      bif decide (((List.length x0 : Nat) : Int) ≤ 4611686018427387904) then guard_All.g0 x0  k x0 0 else none
theorem guard_All.le {Ω : Type} (x0 : (List T_s22)) (k : Int × Int → Option Ω) : Le (guard_All.w x0 k) (guard_All.s BIG x0 k) := by
  delta guard_All.w guard_All.s guard_All.sl
  exact (Le.cond (Le.refl _) (Le.cond (Le.refl _) (Le.gd fun hg => guard_All.h0 _   k (le_up (of_decide_eq_true hg)) BIG 0 () (by decide) (zero_le_len _) (big_list (of_decide_eq_true hg)))))
def guard_All.u (x0 : (List T_s22)) : Option (Int × Int) := guard_All.w x0 some
theorem guard_All.c (x0 : (List T_s22)) (r : Int × Int) (h : guard_All.u x0 = some r) : Contract C 20 [(.v (.slice E_s22) (x0))] (tupAV (.int .i64) [(.int .i64)] r) :=
  contract_s (S := fun k => guard_All.s BIG x0 k) C_ok (orS_ok guard_beside.e_ok (orS_ok guard_Check.e_ok noS_ok)) (by kernel_rfl) (by kernel_rfl) (by kernel_rfl) (guard_All.ev BIG x0 (dec (.int .i64) [(.int .i64)])) (guard_All.le x0 some r h)
noncomputable def guard_All.e : Ent := argI (.slice E_s22) fun x0 => endU (guard_All.u x0) (tupAV (.int .i64) [(.int .i64)])
theorem guard_All.e_ok : EntOK C 20 (fun {_} => guard_All.e) := entA_ok (argI_ok fun x0 => endU_ok fun r h => guard_All.c x0 r h)

/-- becket guard.Texts -/
noncomputable def guard_Texts.sp : Spec := (orS 71 (fun {_} => strings_Join.e) (orS 15 (fun {_} => guard_Text.e) noS))
def guard_Texts.F (fuel : Nat) : Fuel := ⟨fuel, fun r => bif r == 3 then [0, 1, 2, 3, 5, 6, 7, 8, 12, 13, 14, 15, 16, 17, 18, 19, 20, 21, 22, 23, 24, 25, 26, 27, 28, 29] else []⟩
def guard_Texts.E0 (e3_1 : (List T_s22)) (e3_2 : Int) (s3 : Int × (List ByteArray)) : List AV := [.dead, .dead, .dead, .dead, (.rs 0), .dead, .dead, .dead, .dead, (.v (.slice E_s22) (e3_1)), (.v (.int .i64) (e3_2)), (.v (.int .i64) (s3.1)), .dead, .dead, .dead, .dead, .dead, .dead, .dead, .dead, .dead, .dead, .dead, .dead, .dead, .dead, .dead, .dead, .dead, .dead]
def guard_Texts.H0 (e3_1 : (List T_s22)) (e3_2 : Int) (s3 : Int × (List ByteArray)) : Heap := [(.row 9 .str s3.2 false)]
noncomputable def guard_Texts.M0 {Ω : Type} (fuel : Nat) (e3_1 : (List T_s22)) (e3_2 : Int)  (k : AV → Option Ω) (m : Nat) (s : Int × (List ByteArray)) : Option Ω := loopK (fun env L k => evCode CP guard_Texts.sp (guard_Texts.F fuel) (cl (cl (cr (cl (cr (cr (Tryd.f22.body.getD .skip))))))) env L k) [true, true, true, true, false, true, true, true, true, false, false, false, true, true, true, true, true, true, true, true, true, true, true, true, true, true, true, true, true, true] 1 (blockK 0 (seqK (fun env L => evCode CP guard_Texts.sp (guard_Texts.F fuel) (cr (cr (cr (Tryd.f22.body.getD .skip)))) env L (finK CP Tryd.f22 k)) (finK CP Tryd.f22 k))) m ((guard_Texts.E0 e3_1 e3_2) s) ((guard_Texts.H0 e3_1 e3_2) s)
def guard_Texts.b0 {Ω : Type} (e3_1 : (List T_s22)) (e3_2 : Int)   (k : ByteArray × Int → Option Ω) (r3 : Int × (List ByteArray) → Option Ω) (s3 : Int × (List ByteArray)) : Option Ω :=
  bif (decide (s3.1 < e3_2)) then
    bif (idxOK s3.1 (List.length e3_1)) then
      (guard_Text.u ((List.getD e3_1 (Int.toNat s3.1) (0, (0, (0, (0, (0, ())))))))).bind fun y1 =>
      bif (y1.2 != 0) then
        k ((bs []), y1.2)
      else
        bif (decide (List.length s3.2 + List.length [y1.1] ≤ rowMax)) then
          r3 ((IntKind.wrap .i64 (s3.1 + 1)), (s3.2 ++ [y1.1]))
        else
          none
    else
      none
  else
    (strings_Join.u s3.2 (bs [44, 32])).bind fun y2 =>
    k (y2, 0)
def guard_Texts.B0 {Ω : Type} (fuel : Nat) (e3_1 : (List T_s22)) (e3_2 : Int)  (k : ByteArray × Int → Option Ω) (r3 : Int × (List ByteArray) → Option Ω) (s3 : Int × (List ByteArray)) : Option Ω := guard_Texts.b0 e3_1 e3_2   k r3 s3
theorem guard_Texts.l0 {Ω : Type} (fuel : Nat) (e3_1 : (List T_s22)) (e3_2 : Int)  (k : AV → Option Ω) : ∀ m, (guard_Texts.M0 fuel e3_1 e3_2  k m) = iter (guard_Texts.B0 fuel e3_1 e3_2  (fun r => k (tupAV .str [(.int .i64)] r))) m :=
  loopK_iter (envOf := (guard_Texts.E0 e3_1 e3_2)) (LOf := (guard_Texts.H0 e3_1 e3_2)) (B := guard_Texts.B0 fuel e3_1 e3_2  (fun r => k (tupAV .str [(.int .i64)] r))) (fun R s => by kernel_rfl)
def guard_Texts.sl {Ω : Type} (x0 : (List T_s22)) (lp0 : (List T_s22) → Int → Int × (List ByteArray) → Option Ω) (k : ByteArray × Int → Option Ω) : Option Ω :=
  lp0 x0 (((List.length x0 : Nat) : Int)) (0, [])
def guard_Texts.s {Ω : Type} (fuel : Nat) (x0 : (List T_s22)) (k : ByteArray × Int → Option Ω) : Option Ω := guard_Texts.sl x0 (fun e3_1 e3_2 => (iter (guard_Texts.B0 fuel e3_1 e3_2  k) fuel)) k
theorem guard_Texts.ev {Ω : Type} (fuel : Nat) (x0 : (List T_s22)) (k : AV → Option Ω) : evFn CP guard_Texts.sp (guard_Texts.F fuel) Tryd.f22 (Tryd.f22.body.getD .skip) [(.v (.slice E_s22) (x0))] k = guard_Texts.s fuel x0 (fun r => k (tupAV .str [(.int .i64)] r)) := by
  have h0 : evFn CP guard_Texts.sp (guard_Texts.F fuel) Tryd.f22 (Tryd.f22.body.getD .skip) [(.v (.slice E_s22) (x0))] k = guard_Texts.sl x0 (fun e3_1 e3_2 => (guard_Texts.M0 fuel e3_1 e3_2  k fuel)) (fun r => k (tupAV .str [(.int .i64)] r)) := by kernel_rfl
  have h1 : (fun e3_1 e3_2 => (guard_Texts.M0 fuel e3_1 e3_2  k fuel)) = (fun e3_1 e3_2 => (iter (guard_Texts.B0 fuel e3_1 e3_2  (fun r => k (tupAV .str [(.int .i64)] r))) fuel)) := funext fun e3_1 => funext fun e3_2 => guard_Texts.l0 fuel e3_1 e3_2   k fuel
  rw [h1] at h0
  exact h0
def guard_Texts.g0 {Ω : Type} (e3_1 : (List T_s22))  (k : ByteArray × Int → Option Ω) : List T_s22 → (List ByteArray) → Option Ω
  | [], a3_1 =>
    (strings_Join.u a3_1 (bs [44, 32])).bind fun y2 =>
    k (y2, 0)
  | x3 :: xs3, a3_1 =>
    (guard_Text.u (x3)).bind fun y1 =>
    bif (y1.2 != 0) then
      k ((bs []), y1.2)
    else
      bif (decide (List.length a3_1 + List.length [y1.1] ≤ rowMax)) then
        guard_Texts.g0 e3_1  k xs3 (a3_1 ++ [y1.1])
      else
        none
theorem guard_Texts.h0 {Ω : Type} (e3_1 : (List T_s22))   (k : ByteArray × Int → Option Ω) (hX : ((List.length e3_1 : Nat) : Int) ≤ 9223372036854775807) : ∀ (m : Nat) (i : Int) (a : (List ByteArray)), 0 ≤ i → i ≤ ((List.length e3_1 : Nat) : Int) → ((List.length e3_1 : Nat) : Int) < m + i → Le (guard_Texts.g0 e3_1  k (List.drop (Int.toNat i) e3_1) a) (iter (guard_Texts.B0 BIG e3_1 (((List.length e3_1 : Nat) : Int))  k) m (i, a)) :=
  iter_list e3_1 (0, (0, (0, (0, (0, ()))))) (fun (i3 : Int) (a3 : (List ByteArray)) => (i3, a3)) (fun xs i3 a3 => guard_Texts.g0 e3_1  k xs a3) (guard_Texts.B0 BIG e3_1 (((List.length e3_1 : Nat) : Int))  k)
    (fun i3 a3 r h0 => (Le.fls h0 (Le.bnd fun y2 => (Le.refl _))))
    (fun i3 xs3 a3 r h0 h1 hw ih => (Le.tru h0 (Le.tru h1 (Le.bnd fun y1 => (Le.cond (Le.refl _) (Le.cond (ih _ hw ((a3 ++ [y1.1]))) Le.nil))))))
    hX
def guard_Texts.w {Ω : Type} (x0 : (List T_s22)) (k : ByteArray × Int → Option Ω) : Option Ω :=
  bif decide (((List.length x0 : Nat) : Int) ≤ 4611686018427387904) then guard_Texts.g0 x0  k x0 ([]) else none
theorem guard_Texts.le {Ω : Type} (x0 : (List T_s22)) (k : ByteArray × Int → Option Ω) : Le (guard_Texts.w x0 k) (guard_Texts.s BIG x0 k) := by
  delta guard_Texts.w guard_Texts.s guard_Texts.sl
  exact (Le.gd fun hg => guard_Texts.h0 _   k (le_up (of_decide_eq_true hg)) BIG 0 ([]) (by decide) (zero_le_len _) (big_list (of_decide_eq_true hg)))
def guard_Texts.u (x0 : (List T_s22)) : Option (ByteArray × Int) := guard_Texts.w x0 some
theorem guard_Texts.c (x0 : (List T_s22)) (r : ByteArray × Int) (h : guard_Texts.u x0 = some r) : Contract CP 22 [(.v (.slice E_s22) (x0))] (tupAV .str [(.int .i64)] r) :=
  contract_s (S := fun k => guard_Texts.s BIG x0 k) CP_ok (orS_ok (strings_Join.e_ok.mono le_C_CP) (orS_ok guard_Text.e_ok noS_ok)) (by kernel_rfl) (by kernel_rfl) (by kernel_rfl) (guard_Texts.ev BIG x0 (dec .str [(.int .i64)])) (guard_Texts.le x0 some r h)
noncomputable def guard_Texts.e : Ent := argI (.slice E_s22) fun x0 => endU (guard_Texts.u x0) (tupAV .str [(.int .i64)])
theorem guard_Texts.e_ok : EntOK CP 22 (fun {_} => guard_Texts.e) := entA_ok (argI_ok fun x0 => endU_ok fun r h => guard_Texts.c x0 r h)

/-- becket guard.Earliest -/
noncomputable def guard_Earliest.sp : Spec := noS
def guard_Earliest.F (fuel : Nat) : Fuel := ⟨fuel, fun r => bif r == 3 then [0, 1, 2, 3, 6, 7, 11, 12, 13, 14, 15, 16, 17, 18, 19, 20, 21, 22, 23, 24, 25, 26, 27, 28, 29, 30, 31] else []⟩
def guard_Earliest.E0 (e3_1 : (List T_s22)) (e3_2 : Int) (s3 : Int × Bool × Int) : List AV := [.dead, .dead, .dead, .dead, (.v (.int .i64) (s3.1)), (.v .bool (s3.2.1)), .dead, .dead, (.v (.slice E_s22) (e3_1)), (.v (.int .i64) (e3_2)), (.v (.int .i64) (s3.2.2)), .dead, .dead, .dead, .dead, .dead, .dead, .dead, .dead, .dead, .dead, .dead, .dead, .dead, .dead, .dead, .dead, .dead, .dead, .dead, .dead, .dead]
def guard_Earliest.H0 (e3_1 : (List T_s22)) (e3_2 : Int) (s3 : Int × Bool × Int) : Heap := []
noncomputable def guard_Earliest.M0 {Ω : Type} (fuel : Nat) (e3_1 : (List T_s22)) (e3_2 : Int)  (k : AV → Option Ω) (m : Nat) (s : Int × Bool × Int) : Option Ω := loopK (fun env L k => evCode C guard_Earliest.sp (guard_Earliest.F fuel) (cl (cl (cr (cl (cr (cr (Tryd.f24.body.getD .skip))))))) env L k) [true, true, true, true, false, false, true, true, false, false, false, true, true, true, true, true, true, true, true, true, true, true, true, true, true, true, true, true, true, true, true, true] 0 (blockK 0 (seqK (fun env L => evCode C guard_Earliest.sp (guard_Earliest.F fuel) (cr (cr (cr (Tryd.f24.body.getD .skip)))) env L (finK C Tryd.f24 k)) (finK C Tryd.f24 k))) m ((guard_Earliest.E0 e3_1 e3_2) s) ((guard_Earliest.H0 e3_1 e3_2) s)
def guard_Earliest.b0 {Ω : Type} (e3_1 : (List T_s22)) (e3_2 : Int)   (k : Int × Bool → Option Ω) (r3 : Int × Bool × Int → Option Ω) (s3 : Int × Bool × Int) : Option Ω :=
  bif (decide (s3.2.2 < e3_2)) then
    bif (idxOK s3.2.2 (List.length e3_1)) then
      bif ((List.getD e3_1 (Int.toNat s3.2.2) (0, (0, (0, (0, (0, ())))))).1 == 4) then
        bif (!s3.2.1) then
          r3 ((List.getD e3_1 (Int.toNat s3.2.2) (0, (0, (0, (0, (0, ())))))).2.2.1, true, (IntKind.wrap .i64 (s3.2.2 + 1)))
        else
          bif (decide ((List.getD e3_1 (Int.toNat s3.2.2) (0, (0, (0, (0, (0, ())))))).2.2.1 < s3.1)) then
            r3 ((List.getD e3_1 (Int.toNat s3.2.2) (0, (0, (0, (0, (0, ())))))).2.2.1, true, (IntKind.wrap .i64 (s3.2.2 + 1)))
          else
            r3 (s3.1, s3.2.1, (IntKind.wrap .i64 (s3.2.2 + 1)))
      else
        r3 (s3.1, s3.2.1, (IntKind.wrap .i64 (s3.2.2 + 1)))
    else
      none
  else
    k (s3.1, s3.2.1)
def guard_Earliest.B0 {Ω : Type} (fuel : Nat) (e3_1 : (List T_s22)) (e3_2 : Int)  (k : Int × Bool → Option Ω) (r3 : Int × Bool × Int → Option Ω) (s3 : Int × Bool × Int) : Option Ω := guard_Earliest.b0 e3_1 e3_2   k r3 s3
theorem guard_Earliest.l0 {Ω : Type} (fuel : Nat) (e3_1 : (List T_s22)) (e3_2 : Int)  (k : AV → Option Ω) : ∀ m, (guard_Earliest.M0 fuel e3_1 e3_2  k m) = iter (guard_Earliest.B0 fuel e3_1 e3_2  (fun r => k (tupAV (.int .i64) [.bool] r))) m :=
  loopK_iter (envOf := (guard_Earliest.E0 e3_1 e3_2)) (LOf := (guard_Earliest.H0 e3_1 e3_2)) (B := guard_Earliest.B0 fuel e3_1 e3_2  (fun r => k (tupAV (.int .i64) [.bool] r))) (fun R s => by kernel_rfl)
def guard_Earliest.sl {Ω : Type} (x0 : (List T_s22)) (lp0 : (List T_s22) → Int → Int × Bool × Int → Option Ω) (k : Int × Bool → Option Ω) : Option Ω :=
  lp0 x0 (((List.length x0 : Nat) : Int)) (0, false, 0)
def guard_Earliest.s {Ω : Type} (fuel : Nat) (x0 : (List T_s22)) (k : Int × Bool → Option Ω) : Option Ω := guard_Earliest.sl x0 (fun e3_1 e3_2 => (iter (guard_Earliest.B0 fuel e3_1 e3_2  k) fuel)) k
theorem guard_Earliest.ev {Ω : Type} (fuel : Nat) (x0 : (List T_s22)) (k : AV → Option Ω) : evFn C guard_Earliest.sp (guard_Earliest.F fuel) Tryd.f24 (Tryd.f24.body.getD .skip) [(.v (.slice E_s22) (x0))] k = guard_Earliest.s fuel x0 (fun r => k (tupAV (.int .i64) [.bool] r)) := by
  have h0 : evFn C guard_Earliest.sp (guard_Earliest.F fuel) Tryd.f24 (Tryd.f24.body.getD .skip) [(.v (.slice E_s22) (x0))] k = guard_Earliest.sl x0 (fun e3_1 e3_2 => (guard_Earliest.M0 fuel e3_1 e3_2  k fuel)) (fun r => k (tupAV (.int .i64) [.bool] r)) := by kernel_rfl
  have h1 : (fun e3_1 e3_2 => (guard_Earliest.M0 fuel e3_1 e3_2  k fuel)) = (fun e3_1 e3_2 => (iter (guard_Earliest.B0 fuel e3_1 e3_2  (fun r => k (tupAV (.int .i64) [.bool] r))) fuel)) := funext fun e3_1 => funext fun e3_2 => guard_Earliest.l0 fuel e3_1 e3_2   k fuel
  rw [h1] at h0
  exact h0
def guard_Earliest.g0 {Ω : Type} (e3_1 : (List T_s22))  (k : Int × Bool → Option Ω) : List T_s22 → Int → Bool → Option Ω
  | [], a3_0, a3_1 =>
    k (a3_0, a3_1)
  | x3 :: xs3, a3_0, a3_1 =>
    bif (x3.1 == 4) then
      bif (!a3_1) then
        guard_Earliest.g0 e3_1  k xs3 x3.2.2.1 true
      else
        bif (decide (x3.2.2.1 < a3_0)) then
          guard_Earliest.g0 e3_1  k xs3 x3.2.2.1 true
        else
          guard_Earliest.g0 e3_1  k xs3 a3_0 a3_1
    else
      guard_Earliest.g0 e3_1  k xs3 a3_0 a3_1
theorem guard_Earliest.h0 {Ω : Type} (e3_1 : (List T_s22))   (k : Int × Bool → Option Ω) (hX : ((List.length e3_1 : Nat) : Int) ≤ 9223372036854775807) : ∀ (m : Nat) (i : Int) (a : Int × Bool), 0 ≤ i → i ≤ ((List.length e3_1 : Nat) : Int) → ((List.length e3_1 : Nat) : Int) < m + i → Le (guard_Earliest.g0 e3_1  k (List.drop (Int.toNat i) e3_1) a.1 a.2) (iter (guard_Earliest.B0 BIG e3_1 (((List.length e3_1 : Nat) : Int))  k) m (a.1, a.2, i)) :=
  iter_list e3_1 (0, (0, (0, (0, (0, ()))))) (fun (i3 : Int) (a3 : Int × Bool) => (a3.1, a3.2, i3)) (fun xs i3 a3 => guard_Earliest.g0 e3_1  k xs a3.1 a3.2) (guard_Earliest.B0 BIG e3_1 (((List.length e3_1 : Nat) : Int))  k)
    (fun i3 a3 r h0 => (Le.fls h0 (Le.refl _)))
    (fun i3 xs3 a3 r h0 h1 hw ih => (Le.tru h0 (Le.tru h1 (Le.cond (Le.cond (ih _ hw ((List.getD e3_1 (Int.toNat i3) (0, (0, (0, (0, (0, ())))))).2.2.1, true)) (Le.cond (ih _ hw ((List.getD e3_1 (Int.toNat i3) (0, (0, (0, (0, (0, ())))))).2.2.1, true)) (ih _ hw (a3.1, a3.2)))) (ih _ hw (a3.1, a3.2))))))
    hX
def guard_Earliest.w {Ω : Type} (x0 : (List T_s22)) (k : Int × Bool → Option Ω) : Option Ω :=
  bif decide (((List.length x0 : Nat) : Int) ≤ 4611686018427387904) then guard_Earliest.g0 x0  k x0 0 false else none
theorem guard_Earliest.le {Ω : Type} (x0 : (List T_s22)) (k : Int × Bool → Option Ω) : Le (guard_Earliest.w x0 k) (guard_Earliest.s BIG x0 k) := by
  delta guard_Earliest.w guard_Earliest.s guard_Earliest.sl
  exact (Le.gd fun hg => guard_Earliest.h0 _   k (le_up (of_decide_eq_true hg)) BIG 0 (0, false) (by decide) (zero_le_len _) (big_list (of_decide_eq_true hg)))
def guard_Earliest.u (x0 : (List T_s22)) : Option (Int × Bool) := guard_Earliest.w x0 some
theorem guard_Earliest.c (x0 : (List T_s22)) (r : Int × Bool) (h : guard_Earliest.u x0 = some r) : Contract C 24 [(.v (.slice E_s22) (x0))] (tupAV (.int .i64) [.bool] r) :=
  contract_s (S := fun k => guard_Earliest.s BIG x0 k) C_ok noS_ok (by kernel_rfl) (by kernel_rfl) (by kernel_rfl) (guard_Earliest.ev BIG x0 (dec (.int .i64) [.bool])) (guard_Earliest.le x0 some r h)
noncomputable def guard_Earliest.e : Ent := argI (.slice E_s22) fun x0 => endU (guard_Earliest.u x0) (tupAV (.int .i64) [.bool])
theorem guard_Earliest.e_ok : EntOK C 24 (fun {_} => guard_Earliest.e) := entA_ok (argI_ok fun x0 => endU_ok fun r h => guard_Earliest.c x0 r h)

/-- becket guard.Find -/
noncomputable def guard_Find.sp : Spec := noS
def guard_Find.F (fuel : Nat) : Fuel := ⟨fuel, fun r => bif r == 2 then [0, 2, 3, 5, 6, 7, 11, 12, 13, 14, 15, 16, 17, 18, 19, 20] else []⟩
def guard_Find.E0 (e2_1 : Int) (e2_2 : (List T_s22)) (e2_3 : Int) (s2 : Int) : List AV := [.dead, (.v (.int .i64) (e2_1)), .dead, .dead, (.ref 0 []), .dead, .dead, .dead, (.v (.slice E_s22) (e2_2)), (.v (.int .i64) (e2_3)), (.v (.int .i64) (s2)), .dead, .dead, .dead, .dead, .dead, .dead, .dead, .dead, .dead, .dead]
def guard_Find.H0 (e2_1 : Int) (e2_2 : (List T_s22)) (e2_3 : Int) (s2 : Int) : Heap := [(.box E_s22 (0, (0, (0, (0, (0, ()))))) false)]
noncomputable def guard_Find.M0 {Ω : Type} (fuel : Nat) (e2_1 : Int) (e2_2 : (List T_s22)) (e2_3 : Int)  (k : AV → Option Ω) (m : Nat) (s : Int) : Option Ω := loopK (fun env L k => evCode C guard_Find.sp (guard_Find.F fuel) (cl (cl (cr (cl (cr (Tryd.f26.body.getD .skip)))))) env L k) [true, false, true, true, false, true, true, true, false, false, false, true, true, true, true, true, true, true, true, true, true] 1 (blockK 0 (seqK (fun env L => evCode C guard_Find.sp (guard_Find.F fuel) (cr (cr (Tryd.f26.body.getD .skip))) env L (finK C Tryd.f26 k)) (finK C Tryd.f26 k))) m ((guard_Find.E0 e2_1 e2_2 e2_3) s) ((guard_Find.H0 e2_1 e2_2 e2_3) s)
def guard_Find.b0 {Ω : Type} (e2_1 : Int) (e2_2 : (List T_s22)) (e2_3 : Int)   (k : T_s22 × Bool → Option Ω) (r2 : Int → Option Ω) (s2 : Int) : Option Ω :=
  bif (decide (s2 < e2_3)) then
    bif (idxOK s2 (List.length e2_2)) then
      bif ((List.getD e2_2 (Int.toNat s2) (0, (0, (0, (0, (0, ())))))).2.2.2.2.1 == e2_1) then
        k ((List.getD e2_2 (Int.toNat s2) (0, (0, (0, (0, (0, ())))))), true)
      else
        r2 ((IntKind.wrap .i64 (s2 + 1)))
    else
      none
  else
    k ((0, (0, (0, (0, (0, ()))))), false)
def guard_Find.B0 {Ω : Type} (fuel : Nat) (e2_1 : Int) (e2_2 : (List T_s22)) (e2_3 : Int)  (k : T_s22 × Bool → Option Ω) (r2 : Int → Option Ω) (s2 : Int) : Option Ω := guard_Find.b0 e2_1 e2_2 e2_3   k r2 s2
theorem guard_Find.l0 {Ω : Type} (fuel : Nat) (e2_1 : Int) (e2_2 : (List T_s22)) (e2_3 : Int)  (k : AV → Option Ω) : ∀ m, (guard_Find.M0 fuel e2_1 e2_2 e2_3  k m) = iter (guard_Find.B0 fuel e2_1 e2_2 e2_3  (fun r => k (tupAV E_s22 [.bool] r))) m :=
  loopK_iter (envOf := (guard_Find.E0 e2_1 e2_2 e2_3)) (LOf := (guard_Find.H0 e2_1 e2_2 e2_3)) (B := guard_Find.B0 fuel e2_1 e2_2 e2_3  (fun r => k (tupAV E_s22 [.bool] r))) (fun R s => by kernel_rfl)
def guard_Find.sl {Ω : Type} (x0 : (List T_s22)) (x1 : Int) (lp0 : Int → (List T_s22) → Int → Int → Option Ω) (k : T_s22 × Bool → Option Ω) : Option Ω :=
  lp0 x1 x0 (((List.length x0 : Nat) : Int)) (0)
def guard_Find.s {Ω : Type} (fuel : Nat) (x0 : (List T_s22)) (x1 : Int) (k : T_s22 × Bool → Option Ω) : Option Ω := guard_Find.sl x0 x1 (fun e2_1 e2_2 e2_3 => (iter (guard_Find.B0 fuel e2_1 e2_2 e2_3  k) fuel)) k
theorem guard_Find.ev {Ω : Type} (fuel : Nat) (x0 : (List T_s22)) (x1 : Int) (k : AV → Option Ω) : evFn C guard_Find.sp (guard_Find.F fuel) Tryd.f26 (Tryd.f26.body.getD .skip) [(.v (.slice E_s22) (x0)), (.v (.int .i64) (x1))] k = guard_Find.s fuel x0 x1 (fun r => k (tupAV E_s22 [.bool] r)) := by
  have h0 : evFn C guard_Find.sp (guard_Find.F fuel) Tryd.f26 (Tryd.f26.body.getD .skip) [(.v (.slice E_s22) (x0)), (.v (.int .i64) (x1))] k = guard_Find.sl x0 x1 (fun e2_1 e2_2 e2_3 => (guard_Find.M0 fuel e2_1 e2_2 e2_3  k fuel)) (fun r => k (tupAV E_s22 [.bool] r)) := by kernel_rfl
  have h1 : (fun e2_1 e2_2 e2_3 => (guard_Find.M0 fuel e2_1 e2_2 e2_3  k fuel)) = (fun e2_1 e2_2 e2_3 => (iter (guard_Find.B0 fuel e2_1 e2_2 e2_3  (fun r => k (tupAV E_s22 [.bool] r))) fuel)) := funext fun e2_1 => funext fun e2_2 => funext fun e2_3 => guard_Find.l0 fuel e2_1 e2_2 e2_3   k fuel
  rw [h1] at h0
  exact h0
def guard_Find.g0 {Ω : Type} (e2_1 : Int) (e2_2 : (List T_s22))  (k : T_s22 × Bool → Option Ω) : List T_s22 → Option Ω
  | [] =>
    k ((0, (0, (0, (0, (0, ()))))), false)
  | x2 :: xs2 =>
    bif (x2.2.2.2.2.1 == e2_1) then
      k (x2, true)
    else
      guard_Find.g0 e2_1 e2_2  k xs2
theorem guard_Find.h0 {Ω : Type} (e2_1 : Int) (e2_2 : (List T_s22))   (k : T_s22 × Bool → Option Ω) (hX : ((List.length e2_2 : Nat) : Int) ≤ 9223372036854775807) : ∀ (m : Nat) (i : Int) (a : Unit), 0 ≤ i → i ≤ ((List.length e2_2 : Nat) : Int) → ((List.length e2_2 : Nat) : Int) < m + i → Le (guard_Find.g0 e2_1 e2_2  k (List.drop (Int.toNat i) e2_2) ) (iter (guard_Find.B0 BIG e2_1 e2_2 (((List.length e2_2 : Nat) : Int))  k) m (i)) :=
  iter_list e2_2 (0, (0, (0, (0, (0, ()))))) (fun (i2 : Int) (a2 : Unit) => (i2)) (fun xs i2 a2 => guard_Find.g0 e2_1 e2_2  k xs ) (guard_Find.B0 BIG e2_1 e2_2 (((List.length e2_2 : Nat) : Int))  k)
    (fun i2 a2 r h0 => (Le.fls h0 (Le.refl _)))
    (fun i2 xs2 a2 r h0 h1 hw ih => (Le.tru h0 (Le.tru h1 (Le.cond (Le.refl _) (ih _ hw ())))))
    hX
def guard_Find.w {Ω : Type} (x0 : (List T_s22)) (x1 : Int) (k : T_s22 × Bool → Option Ω) : Option Ω :=
  bif decide (((List.length x0 : Nat) : Int) ≤ 4611686018427387904) then guard_Find.g0 x1 x0  k x0  else none
theorem guard_Find.le {Ω : Type} (x0 : (List T_s22)) (x1 : Int) (k : T_s22 × Bool → Option Ω) : Le (guard_Find.w x0 x1 k) (guard_Find.s BIG x0 x1 k) := by
  delta guard_Find.w guard_Find.s guard_Find.sl
  exact (Le.gd fun hg => guard_Find.h0 _ _   k (le_up (of_decide_eq_true hg)) BIG 0 () (by decide) (zero_le_len _) (big_list (of_decide_eq_true hg)))
def guard_Find.u (x0 : (List T_s22)) (x1 : Int) : Option (T_s22 × Bool) := guard_Find.w x0 x1 some
theorem guard_Find.c (x0 : (List T_s22)) (x1 : Int) (r : T_s22 × Bool) (h : guard_Find.u x0 x1 = some r) : Contract C 26 [(.v (.slice E_s22) (x0)), (.v (.int .i64) (x1))] (tupAV E_s22 [.bool] r) :=
  contract_s (S := fun k => guard_Find.s BIG x0 x1 k) C_ok noS_ok (by kernel_rfl) (by kernel_rfl) (by kernel_rfl) (guard_Find.ev BIG x0 x1 (dec E_s22 [.bool])) (guard_Find.le x0 x1 some r h)
noncomputable def guard_Find.e : Ent := argI (.slice E_s22) fun x0 => argI (.int .i64) fun x1 => endU (guard_Find.u x0 x1) (tupAV E_s22 [.bool])
theorem guard_Find.e_ok : EntOK C 26 (fun {_} => guard_Find.e) := entA_ok (argI_ok fun x0 => argI_ok fun x1 => endU_ok fun r h => guard_Find.c x0 x1 r h)

/-- becket becketlaw25.alive -/
noncomputable def law25_alive.sp : Spec := (orS 26 (fun {_} => guard_Find.e) (orS 24 (fun {_} => guard_Earliest.e) (orS 22 (fun {_} => guard_Texts.e) (orS 20 (fun {_} => guard_All.e) (orS 17 (fun {_} => guard_Check.e) (orS 15 (fun {_} => guard_Text.e) noS))))))
def law25_alive.s {Ω : Type}  (k : Bool → Option Ω) : Option Ω :=
  (guard_All.u ([(1, (0, (0, (1, (0, ()))))), (4, (0, (12, (0, (2, ())))))])).bind fun y1 =>
  (guard_Texts.u ([(1, (0, (0, (1, (0, ()))))), (4, (0, (12, (0, (2, ())))))])).bind fun y2 =>
  (guard_All.u ([(3, (0, (0, (0, (0, ()))))), (3, (0, (0, (0, (1, ())))))])).bind fun y3 =>
  (guard_Earliest.u ([(1, (0, (0, (1, (0, ()))))), (4, (0, (12, (0, (2, ())))))])).bind fun y4 =>
  (guard_Find.u ([(1, (0, (0, (1, (0, ()))))), (4, (0, (12, (0, (2, ())))))]) 2).bind fun y5 =>
  (guard_Text.u ((4, (0, (1099511627776, (0, (0, ()))))))).bind fun y6 =>
  bif (y1.1 == 0) then
    bif (y1.2 == 0) then
      let v7 : Bool := ((y2.1).data.toList == ((bs [48, 58, 32, 105, 110, 32, 99, 48, 32, 114, 49, 44, 32, 50, 58, 32, 116, 105, 109, 101, 32, 49, 50])).data.toList)
      bif v7 then
        bif (y2.2 == 0) then
          bif (y3.1 == 1) then
            bif (y3.2 == 7) then
              bif (y4.1 == 12) then
                bif y4.2 then
                  bif (idxOK 1 (List.length [(1, (0, (0, (1, (0, ()))))), (4, (0, (12, (0, (2, ())))))])) then
                    let v8 : T_s22 := (List.getD [(1, (0, (0, (1, (0, ()))))), (4, (0, (12, (0, (2, ())))))] 1 (0, (0, (0, (0, (0, ()))))))
                    bif (eqI E_s22 y5.1 v8) then
                      bif y5.2 then
                        let v9 : Bool := ((y6.1).data.toList == ((bs [48, 58, 32, 116, 105, 109, 101, 32, 49, 48, 57, 57, 53, 49, 49, 54, 50, 55, 55, 55, 54])).data.toList)
                        bif v9 then
                          bif (y6.2 == 0) then
                            (guard_Check.u ((0, (0, (0, (0, (0, ()))))))).bind fun y10 =>
                            bif (y10 == 12) then
                              (guard_Check.u ((5, (0, (1, (0, (0, ()))))))).bind fun y11 =>
                              k (y11 == 3)
                            else
                              k false
                          else
                            k false
                        else
                          k false
                      else
                        k false
                    else
                      k false
                  else
                    none
                else
                  k false
              else
                k false
            else
              k false
          else
            k false
        else
          k false
      else
        k false
    else
      k false
  else
    k false
theorem law25_alive.ev {Ω : Type} (fuel : Fuel)  (k : AV → Option Ω) : evFn CP law25_alive.sp fuel Tryd.f19 (Tryd.f19.body.getD .skip) [] k = law25_alive.s  (fun r => k (tupAV .bool [] r)) := by kernel_rfl
def law25_alive.u  : Option (Bool) := law25_alive.s  some
theorem law25_alive.c  (r : Bool) (h : law25_alive.u  = some r) : Contract CP 19 [] (tupAV .bool [] r) :=
  contract_s (S := fun k => law25_alive.s  k) CP_ok (orS_ok (guard_Find.e_ok.mono le_C_CP) (orS_ok (guard_Earliest.e_ok.mono le_C_CP) (orS_ok guard_Texts.e_ok (orS_ok (guard_All.e_ok.mono le_C_CP) (orS_ok (guard_Check.e_ok.mono le_C_CP) (orS_ok guard_Text.e_ok noS_ok)))))) (by kernel_rfl) (by kernel_rfl) (by kernel_rfl) (law25_alive.ev ⟨1, fun _ => []⟩  (dec .bool [])) h
noncomputable def law25_alive.e : Ent := endU (law25_alive.u ) (tupAV .bool [])
theorem law25_alive.e_ok : EntOK CP 19 (fun {_} => law25_alive.e) := entA_ok (endU_ok fun r h => law25_alive.c  r h)

/-- becket becketlaw25.GuardTells -/
noncomputable def law25_GuardTells.sp : Spec := (orS 19 (fun {_} => law25_alive.e) (orS 18 (fun {_} => ref25_Check.e) (orS 17 (fun {_} => guard_Check.e) (orS 16 (fun {_} => ref25_Text.e) (orS 15 (fun {_} => guard_Text.e) noS)))))
noncomputable def law25_GuardTells.s {Ω : Type} (x0 : T_s22) (k : Bool → Option Ω) : Option Ω :=
  (guard_Text.u x0).bind fun y1 =>
  (ref25_Text.u x0).bind fun y2 =>
  (guard_Check.u x0).bind fun y3 =>
  (ref25_Check.u x0).bind fun y4 =>
  bif (y3 == y4) then
    bif ((y1.1).data.toList == (y2.1).data.toList) then
      bif (y1.2 == y2.2) then
        law25_alive.u.bind fun y5 =>
        k y5
      else
        k false
    else
      k false
  else
    k false
theorem law25_GuardTells.ev {Ω : Type} (fuel : Fuel) (x0 : T_s22) (k : AV → Option Ω) : evFn CP law25_GuardTells.sp fuel Tryd.f3 (Tryd.f3.body.getD .skip) [(.v E_s22 (x0))] k = law25_GuardTells.s x0 (fun r => k (tupAV .bool [] r)) := by kernel_rfl
noncomputable def law25_GuardTells.u (x0 : T_s22) : Option (Bool) := law25_GuardTells.s x0 some
theorem law25_GuardTells.c (x0 : T_s22) (r : Bool) (h : law25_GuardTells.u x0 = some r) : Contract CP 3 [(.v E_s22 (x0))] (tupAV .bool [] r) :=
  contract_s (S := fun k => law25_GuardTells.s x0 k) CP_ok (orS_ok law25_alive.e_ok (orS_ok (ref25_Check.e_ok.mono le_C_CP) (orS_ok (guard_Check.e_ok.mono le_C_CP) (orS_ok (ref25_Text.e_ok.mono le_C_CP) (orS_ok guard_Text.e_ok noS_ok))))) (by kernel_rfl) (by kernel_rfl) (by kernel_rfl) (law25_GuardTells.ev ⟨1, fun _ => []⟩ x0 (dec .bool [])) h
noncomputable def law25_GuardTells.e : Ent := argI E_s22 fun x0 => endU (law25_GuardTells.u x0) (tupAV .bool [])
theorem law25_GuardTells.e_ok : EntOK CP 3 (fun {_} => law25_GuardTells.e) := entA_ok (argI_ok fun x0 => endU_ok fun r h => law25_GuardTells.c x0 r h)

end Go.Proofs.YtfihhbgppgkafaaDoor.K

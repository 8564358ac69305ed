/- What functions of the program come to, plainly. -/
import Derived.Test.YtaednhofihnfkaaDoorZ28
set_option maxRecDepth 100000
set_option linter.unusedVariables false
namespace Go.Proofs.YtaednhofihnfkaaDoor.K
open Go Go.RowKit

/-- becket becketlaw35.To -/
noncomputable def law35_To.sp : Spec := noS
def law35_To.F (fuel : Nat) : Fuel := ⟨fuel, fun r => bif r == 3 then [0, 1, 2, 4, 5, 9, 10, 11, 12, 13, 14, 15, 16, 17, 18, 19, 20, 21, 22, 23, 24, 25] else []⟩
def law35_To.E0 (e3_1 : (List T_s24)) (e3_2 : Int) (s3 : Int × (List T_s24)) : List AV := [.dead, .dead, .dead, (.rs 1), .dead, .dead, (.v (.slice E_s24) (e3_1)), (.v (.int .i64) (e3_2)), (.v (.int .i64) (s3.1)), .dead, .dead, .dead, .dead, .dead, .dead, .dead, .dead, .dead, .dead, .dead, .dead, .dead, .dead, .dead, .dead, .dead]
def law35_To.H0 (e3_1 : (List T_s24)) (e3_2 : Int) (s3 : Int × (List T_s24)) : Heap := [(.row 31 E_s24 [] false), (.row 31 E_s24 s3.2 false)]
noncomputable def law35_To.M0 {Ω : Type} (fuel : Nat) (e3_1 : (List T_s24)) (e3_2 : Int)  (k : AV → Option Ω) (m : Nat) (s : Int × (List T_s24)) : Option Ω := loopK (fun env L k => evCode C law35_To.sp (law35_To.F fuel) (cl (cl (cr (cl (cr (cr (Tryd.f15.body.getD .skip))))))) env L k) [true, true, true, false, true, true, false, false, false, true, true, true, true, true, true, true, true, true, true, true, true, true, true, true, true, true] [] 2 (blockK 0 (seqK (fun env L => evCode C law35_To.sp (law35_To.F fuel) (cr (cr (cr (Tryd.f15.body.getD .skip)))) env L (finK C Tryd.f15 k)) (finK C Tryd.f15 k))) m ((law35_To.E0 e3_1 e3_2) s) ((law35_To.H0 e3_1 e3_2) s)
def law35_To.b0 {Ω : Type} (e3_1 : (List T_s24)) (e3_2 : Int)   (k : (List T_s24) → Option Ω) (r3 : Int × (List T_s24) → Option Ω) (s3 : Int × (List T_s24)) : Option Ω :=
  bif (decide (s3.1 < e3_2)) then
    bif (idxOK s3.1 (List.length e3_1)) then
      bif (decide (List.length s3.2 + List.length [((List.getD e3_1 (Int.toNat s3.1) (0, (0, (0, ((0, (0, (0, (0, ())))), ()))))).1, ((List.getD e3_1 (Int.toNat s3.1) (0, (0, (0, ((0, (0, (0, (0, ())))), ()))))).2.1, ((List.getD e3_1 (Int.toNat s3.1) (0, (0, (0, ((0, (0, (0, (0, ())))), ()))))).2.2.1, ((List.getD e3_1 (Int.toNat s3.1) (0, (0, (0, ((0, (0, (0, (0, ())))), ()))))).2.2.2.1, ()))))] ≤ rowMax)) then
        r3 ((IntKind.wrap .i64 (s3.1 + 1)), (s3.2 ++ [((List.getD e3_1 (Int.toNat s3.1) (0, (0, (0, ((0, (0, (0, (0, ())))), ()))))).1, ((List.getD e3_1 (Int.toNat s3.1) (0, (0, (0, ((0, (0, (0, (0, ())))), ()))))).2.1, ((List.getD e3_1 (Int.toNat s3.1) (0, (0, (0, ((0, (0, (0, (0, ())))), ()))))).2.2.1, ((List.getD e3_1 (Int.toNat s3.1) (0, (0, (0, ((0, (0, (0, (0, ())))), ()))))).2.2.2.1, ()))))]))
      else
        none
    else
      none
  else
    k s3.2
def law35_To.B0 {Ω : Type} (fuel : Nat) (e3_1 : (List T_s24)) (e3_2 : Int)  (k : (List T_s24) → Option Ω) (r3 : Int × (List T_s24) → Option Ω) (s3 : Int × (List T_s24)) : Option Ω := law35_To.b0 e3_1 e3_2   k r3 s3
theorem law35_To.l0 {Ω : Type} (fuel : Nat) (e3_1 : (List T_s24)) (e3_2 : Int)  (k : AV → Option Ω) : ∀ m, (law35_To.M0 fuel e3_1 e3_2  k m) = iter (law35_To.B0 fuel e3_1 e3_2  (fun r => k (tupAV (.slice E_s24) [] r))) m :=
  loopK_iter (envOf := (law35_To.E0 e3_1 e3_2)) (LOf := (law35_To.H0 e3_1 e3_2)) (B := law35_To.B0 fuel e3_1 e3_2  (fun r => k (tupAV (.slice E_s24) [] r))) (fun R s => by kernel_rfl)
def law35_To.sl {Ω : Type} (x0 : (List T_s24)) (lp0 : (List T_s24) → Int → Int × (List T_s24) → Option Ω) (k : (List T_s24) → Option Ω) : Option Ω :=
  lp0 x0 (((List.length x0 : Nat) : Int)) (0, [])
def law35_To.s {Ω : Type} (fuel : Nat) (x0 : (List T_s24)) (k : (List T_s24) → Option Ω) : Option Ω := law35_To.sl x0 (fun e3_1 e3_2 => (iter (law35_To.B0 fuel e3_1 e3_2  k) fuel)) k
theorem law35_To.ev {Ω : Type} (fuel : Nat) (x0 : (List T_s24)) (k : AV → Option Ω) : evFn C law35_To.sp (law35_To.F fuel) Tryd.f15 (Tryd.f15.body.getD .skip) [(.v (.slice E_s24) (x0))] k = law35_To.s fuel x0 (fun r => k (tupAV (.slice E_s24) [] r)) := by
  have h0 : evFn C law35_To.sp (law35_To.F fuel) Tryd.f15 (Tryd.f15.body.getD .skip) [(.v (.slice E_s24) (x0))] k = law35_To.sl x0 (fun e3_1 e3_2 => (law35_To.M0 fuel e3_1 e3_2  k fuel)) (fun r => k (tupAV (.slice E_s24) [] r)) := by kernel_rfl
  have h1 : (fun e3_1 e3_2 => (law35_To.M0 fuel e3_1 e3_2  k fuel)) = (fun e3_1 e3_2 => (iter (law35_To.B0 fuel e3_1 e3_2  (fun r => k (tupAV (.slice E_s24) [] r))) fuel)) := funext fun e3_1 => funext fun e3_2 => law35_To.l0 fuel e3_1 e3_2   k fuel
  rw [h1] at h0
  exact h0
def law35_To.g0 {Ω : Type} (e3_1 : (List T_s24))  (k : (List T_s24) → Option Ω) : List T_s24 → (List T_s24) → Option Ω
  | [], a3_1 =>
    k a3_1
  | x3 :: xs3, a3_1 =>
    bif (decide (List.length a3_1 + List.length [(x3.1, (x3.2.1, (x3.2.2.1, (x3.2.2.2.1, ()))))] ≤ rowMax)) then
      law35_To.g0 e3_1  k xs3 ((a3_1 ++ [(x3.1, (x3.2.1, (x3.2.2.1, (x3.2.2.2.1, ()))))]))
    else
      none
theorem law35_To.h0 {Ω : Type} (e3_1 : (List T_s24))   (k : (List T_s24) → Option Ω) (hX : ((List.length e3_1 : Nat) : Int) ≤ 9223372036854775807) : ∀ (m : Nat) (i : Int) (a : (List T_s24)), 0 ≤ i → i ≤ ((List.length e3_1 : Nat) : Int) → ((List.length e3_1 : Nat) : Int) < m + i → Le (law35_To.g0 e3_1  k (List.drop (Int.toNat i) e3_1) a) (iter (law35_To.B0 BIG e3_1 (((List.length e3_1 : Nat) : Int))  k) m (i, a)) :=
  iter_list e3_1 (0, (0, (0, ((0, (0, (0, (0, ())))), ())))) (fun (i3 : Int) (a3 : (List T_s24)) => (i3, a3)) (fun xs i3 a3 => law35_To.g0 e3_1  k xs a3) (law35_To.B0 BIG e3_1 (((List.length e3_1 : Nat) : Int))  k)
    (fun i3 a3 r h0 => (Le.fls h0 (Le.refl _)))
    (fun i3 xs3 a3 r h0 h1 hw ih => (Le.tru h0 (Le.tru h1 (Le.cond (ih _ hw ((a3 ++ [((List.getD e3_1 (Int.toNat i3) (0, (0, (0, ((0, (0, (0, (0, ())))), ()))))).1, ((List.getD e3_1 (Int.toNat i3) (0, (0, (0, ((0, (0, (0, (0, ())))), ()))))).2.1, ((List.getD e3_1 (Int.toNat i3) (0, (0, (0, ((0, (0, (0, (0, ())))), ()))))).2.2.1, ((List.getD e3_1 (Int.toNat i3) (0, (0, (0, ((0, (0, (0, (0, ())))), ()))))).2.2.2.1, ()))))]))) Le.nil))))
    hX
def law35_To.w {Ω : Type} (x0 : (List T_s24)) (k : (List T_s24) → Option Ω) : Option Ω :=
  bif decide (((List.length x0 : Nat) : Int) ≤ 4611686018427387904) then law35_To.g0 x0  k x0 ([]) else none
theorem law35_To.le {Ω : Type} (x0 : (List T_s24)) (k : (List T_s24) → Option Ω) : Le (law35_To.w x0 k) (law35_To.s BIG x0 k) := by
  delta law35_To.w law35_To.s law35_To.sl
  exact (Le.gd fun hg => law35_To.h0 _   k (le_up (of_decide_eq_true hg)) BIG 0 ([]) (by decide) (zero_le_len _) (big_list (of_decide_eq_true hg)))
def law35_To.u (x0 : (List T_s24)) : Option ((List T_s24)) := law35_To.w x0 some
theorem law35_To.c (x0 : (List T_s24)) (r : (List T_s24)) (h : law35_To.u x0 = some r) : Contract C 15 [(.v (.slice E_s24) (x0))] (tupAV (.slice E_s24) [] r) :=
  contract_s (S := fun k => law35_To.s BIG x0 k) C_ok noS_ok (by kernel_rfl) (by kernel_rfl) (by kernel_rfl) (law35_To.ev BIG x0 (dec (.slice E_s24) [])) (law35_To.le x0 some r h)
noncomputable def law35_To.e : Ent := argI (.slice E_s24) fun x0 => endU (law35_To.u x0) (tupAV (.slice E_s24) [])
theorem law35_To.e_ok : EntOK C 15 (fun {_} => law35_To.e) := entA_ok (argI_ok fun x0 => endU_ok fun r h => law35_To.c x0 r h)

/-- becket becketlaw35.one -/
noncomputable def law35_one.sp : Spec := (orS 15 (fun {_} => law35_To.e) noS)
def law35_one.s {Ω : Type} (x0 : T_s24) (k : T_s24 → Option Ω) : Option Ω :=
  (law35_To.u ([x0])).bind fun y1 =>
  bif (idxOK 0 (List.length y1)) then
    k (List.getD y1 0 (0, (0, (0, ((0, (0, (0, (0, ())))), ())))))
  else
    none
theorem law35_one.ev {Ω : Type} (fuel : Fuel) (x0 : T_s24) (k : AV → Option Ω) : evFn C law35_one.sp fuel Tryd.f9 (Tryd.f9.body.getD .skip) [(.v E_s24 (x0))] k = law35_one.s x0 (fun r => k (tupAV E_s24 [] r)) := by kernel_rfl
def law35_one.u (x0 : T_s24) : Option (T_s24) := law35_one.s x0 some
theorem law35_one.c (x0 : T_s24) (r : T_s24) (h : law35_one.u x0 = some r) : Contract C 9 [(.v E_s24 (x0))] (tupAV E_s24 [] r) :=
  contract_s (S := fun k => law35_one.s x0 k) C_ok (orS_ok law35_To.e_ok noS_ok) (by kernel_rfl) (by kernel_rfl) (by kernel_rfl) (law35_one.ev ⟨1, fun _ => []⟩ x0 (dec E_s24 [])) h
noncomputable def law35_one.e : Ent := argI E_s24 fun x0 => endU (law35_one.u x0) (tupAV E_s24 [])
theorem law35_one.e_ok : EntOK C 9 (fun {_} => law35_one.e) := entA_ok (argI_ok fun x0 => endU_ok fun r h => law35_one.c x0 r h)

/-- becket label.valued -/
noncomputable def label_valued.sp : Spec := noS
def label_valued.s {Ω : Type} (x0 : Int) (k : Bool → Option Ω) : Option Ω :=
  bif (x0 == 2) then
    k true
  else
    bif (x0 == 4) then
      k true
    else
      bif (x0 == 6) then
        k true
      else
        k (x0 == 8)
theorem label_valued.ev {Ω : Type} (fuel : Fuel) (x0 : Int) (k : AV → Option Ω) : evFn C label_valued.sp fuel Tryd.f35 (Tryd.f35.body.getD .skip) [(.v (.int .i64) (x0))] k = label_valued.s x0 (fun r => k (tupAV .bool [] r)) := by kernel_rfl
def label_valued.t (x0 : Int) : Bool :=
  bif (x0 == 2) then
    true
  else
    bif (x0 == 4) then
      true
    else
      bif (x0 == 6) then
        true
      else
        (x0 == 8)
theorem label_valued.v {Ω : Type} (x0 : Int) (k : Bool → Option Ω) : label_valued.s x0 k = k (label_valued.t x0) := by
  delta label_valued.s label_valued.t; exact (cond_tot rfl (cond_tot rfl (cond_tot rfl rfl)))
theorem label_valued.c (x0 : Int) : Contract C 35 [(.v (.int .i64) (x0))] (tupAV .bool [] (label_valued.t x0)) :=
  contract_s (S := fun k => label_valued.s x0 k) C_ok noS_ok (by kernel_rfl) (by kernel_rfl) (by kernel_rfl) (label_valued.ev ⟨1, fun _ => []⟩ x0 (dec .bool [])) (label_valued.v x0 some)
noncomputable def label_valued.e : Ent := argI (.int .i64) fun x0 => endT (tupAV .bool [] (label_valued.t x0))
theorem label_valued.e_ok : EntOK C 35 (fun {_} => label_valued.e) := entA_ok (argI_ok fun x0 => endT_ok (label_valued.c x0))

/-- becket label.ends -/
noncomputable def label_ends.sp : Spec := noS
def label_ends.s {Ω : Type} (x0 : Int) (k : Int × Int → Option Ω) : Option Ω :=
  bif (x0 == 2) then
    k ((-2147483648), 2147483647)
  else
    bif (x0 == 4) then
      k (0, 3)
    else
      bif (x0 == 6) then
        k (1, 511)
      else
        bif (x0 == 8) then
          k (0, 65535)
        else
          k (0, 0)
theorem label_ends.ev {Ω : Type} (fuel : Fuel) (x0 : Int) (k : AV → Option Ω) : evFn C label_ends.sp fuel Tryd.f38 (Tryd.f38.body.getD .skip) [(.v (.int .i64) (x0))] k = label_ends.s x0 (fun r => k (tupAV (.int .i64) [(.int .i64)] r)) := by kernel_rfl
def label_ends.t (x0 : Int) : Int × Int :=
  bif (x0 == 2) then
    ((-2147483648), 2147483647)
  else
    bif (x0 == 4) then
      (0, 3)
    else
      bif (x0 == 6) then
        (1, 511)
      else
        bif (x0 == 8) then
          (0, 65535)
        else
          (0, 0)
theorem label_ends.v {Ω : Type} (x0 : Int) (k : Int × Int → Option Ω) : label_ends.s x0 k = k (label_ends.t x0) := by
  delta label_ends.s label_ends.t; exact (cond_tot rfl (cond_tot rfl (cond_tot rfl (cond_tot rfl rfl))))
theorem label_ends.c (x0 : Int) : Contract C 38 [(.v (.int .i64) (x0))] (tupAV (.int .i64) [(.int .i64)] (label_ends.t x0)) :=
  contract_s (S := fun k => label_ends.s x0 k) C_ok noS_ok (by kernel_rfl) (by kernel_rfl) (by kernel_rfl) (label_ends.ev ⟨1, fun _ => []⟩ x0 (dec (.int .i64) [(.int .i64)])) (label_ends.v x0 some)
noncomputable def label_ends.e : Ent := argI (.int .i64) fun x0 => endT (tupAV (.int .i64) [(.int .i64)] (label_ends.t x0))
theorem label_ends.e_ok : EntOK C 38 (fun {_} => label_ends.e) := entA_ok (argI_ok fun x0 => endT_ok (label_ends.c x0))

/-- becket label.Check -/
noncomputable def label_Check.sp : Spec := (orS 38 (fun {_} => label_ends.e) (orS 35 (fun {_} => label_valued.e) (orS 21 (fun {_} => event_Check.e) noS)))
def label_Check.s {Ω : Type} (x0 : T_s24) (k : Int → Option Ω) : Option Ω :=
  bif (decide (x0.1 < 1)) then
    k 12
  else
    bif (decide (x0.1 > 8)) then
      k 12
    else
      bif (x0.1 == 7) then
        bif ((event_Check.t x0.2.2.2.1) != 0) then
          k (event_Check.t x0.2.2.2.1)
        else
          bif (label_valued.t x0.1) then
            let v1 : Int × Int := (label_ends.t x0.1)
            bif (decide (x0.2.2.1 < v1.1)) then
              k 8
            else
              bif (decide (x0.2.2.1 > v1.2)) then
                k 8
              else
                bif (!(eqI E_s24 (x0.1, (0, (x0.2.2.1, (x0.2.2.2.1, ())))) x0)) then
                  k 3
                else
                  k 0
          else
            bif (!(eqI E_s24 (x0.1, (0, (0, (x0.2.2.2.1, ())))) x0)) then
              k 3
            else
              k 0
      else
        bif (x0.1 == 8) then
          bif (label_valued.t x0.1) then
            let v2 : Int × Int := (label_ends.t x0.1)
            bif (decide (x0.2.2.1 < v2.1)) then
              k 8
            else
              bif (decide (x0.2.2.1 > v2.2)) then
                k 8
              else
                bif (!(eqI E_s24 (x0.1, (0, (x0.2.2.1, ((0, (0, (0, (0, ())))), ())))) x0)) then
                  k 3
                else
                  k 0
          else
            bif (!(eqI E_s24 (x0.1, (0, (0, ((0, (0, (0, (0, ())))), ())))) x0)) then
              k 3
            else
              k 0
        else
          bif (decide (x0.2.1 < 0)) then
            k 8
          else
            bif (decide (x0.2.1 ≥ 16)) then
              k 8
            else
              bif (label_valued.t x0.1) then
                let v3 : Int × Int := (label_ends.t x0.1)
                bif (decide (x0.2.2.1 < v3.1)) then
                  k 8
                else
                  bif (decide (x0.2.2.1 > v3.2)) then
                    k 8
                  else
                    bif (!(eqI E_s24 (x0.1, (x0.2.1, (x0.2.2.1, ((0, (0, (0, (0, ())))), ())))) x0)) then
                      k 3
                    else
                      k 0
              else
                bif (!(eqI E_s24 (x0.1, (x0.2.1, (0, ((0, (0, (0, (0, ())))), ())))) x0)) then
                  k 3
                else
                  k 0
theorem label_Check.ev {Ω : Type} (fuel : Fuel) (x0 : T_s24) (k : AV → Option Ω) : evFn C label_Check.sp fuel Tryd.f11 (Tryd.f11.body.getD .skip) [(.v E_s24 (x0))] k = label_Check.s x0 (fun r => k (tupAV (.int .i64) [] r)) := by kernel_rfl
def label_Check.t (x0 : T_s24) : Int :=
  bif (decide (x0.1 < 1)) then
    12
  else
    bif (decide (x0.1 > 8)) then
      12
    else
      bif (x0.1 == 7) then
        bif ((event_Check.t x0.2.2.2.1) != 0) then
          (event_Check.t x0.2.2.2.1)
        else
          bif (label_valued.t x0.1) then
            let v1 : Int × Int := (label_ends.t x0.1)
            bif (decide (x0.2.2.1 < v1.1)) then
              8
            else
              bif (decide (x0.2.2.1 > v1.2)) then
                8
              else
                bif (!(eqI E_s24 (x0.1, (0, (x0.2.2.1, (x0.2.2.2.1, ())))) x0)) then
                  3
                else
                  0
          else
            bif (!(eqI E_s24 (x0.1, (0, (0, (x0.2.2.2.1, ())))) x0)) then
              3
            else
              0
      else
        bif (x0.1 == 8) then
          bif (label_valued.t x0.1) then
            let v2 : Int × Int := (label_ends.t x0.1)
            bif (decide (x0.2.2.1 < v2.1)) then
              8
            else
              bif (decide (x0.2.2.1 > v2.2)) then
                8
              else
                bif (!(eqI E_s24 (x0.1, (0, (x0.2.2.1, ((0, (0, (0, (0, ())))), ())))) x0)) then
                  3
                else
                  0
          else
            bif (!(eqI E_s24 (x0.1, (0, (0, ((0, (0, (0, (0, ())))), ())))) x0)) then
              3
            else
              0
        else
          bif (decide (x0.2.1 < 0)) then
            8
          else
            bif (decide (x0.2.1 ≥ 16)) then
              8
            else
              bif (label_valued.t x0.1) then
                let v3 : Int × Int := (label_ends.t x0.1)
                bif (decide (x0.2.2.1 < v3.1)) then
                  8
                else
                  bif (decide (x0.2.2.1 > v3.2)) then
                    8
                  else
                    bif (!(eqI E_s24 (x0.1, (x0.2.1, (x0.2.2.1, ((0, (0, (0, (0, ())))), ())))) x0)) then
                      3
                    else
                      0
              else
                bif (!(eqI E_s24 (x0.1, (x0.2.1, (0, ((0, (0, (0, (0, ())))), ())))) x0)) then
                  3
                else
                  0
theorem label_Check.v {Ω : Type} (x0 : T_s24) (k : Int → Option Ω) : label_Check.s x0 k = k (label_Check.t x0) := by
  delta label_Check.s label_Check.t; exact (cond_tot rfl (cond_tot rfl (cond_tot (cond_tot rfl (cond_tot (cond_tot rfl (cond_tot rfl (cond_tot rfl rfl))) (cond_tot rfl rfl))) (cond_tot (cond_tot (cond_tot rfl (cond_tot rfl (cond_tot rfl rfl))) (cond_tot rfl rfl)) (cond_tot rfl (cond_tot rfl (cond_tot (cond_tot rfl (cond_tot rfl (cond_tot rfl rfl))) (cond_tot rfl rfl))))))))
theorem label_Check.c (x0 : T_s24) : Contract C 11 [(.v E_s24 (x0))] (tupAV (.int .i64) [] (label_Check.t x0)) :=
  contract_s (S := fun k => label_Check.s x0 k) C_ok (orS_ok label_ends.e_ok (orS_ok label_valued.e_ok (orS_ok event_Check.e_ok noS_ok))) (by kernel_rfl) (by kernel_rfl) (by kernel_rfl) (label_Check.ev ⟨1, fun _ => []⟩ x0 (dec (.int .i64) [])) (label_Check.v x0 some)
noncomputable def label_Check.e : Ent := argI E_s24 fun x0 => endT (tupAV (.int .i64) [] (label_Check.t x0))
theorem label_Check.e_ok : EntOK C 11 (fun {_} => label_Check.e) := entA_ok (argI_ok fun x0 => endT_ok (label_Check.c x0))

/-- becket label.names -/
noncomputable def label_names.sp : Spec := noS
def label_names.s {Ω : Type}  (k : (List ByteArray) → Option Ω) : Option Ω :=
  k (List.set (List.set (List.set (List.set (List.set (List.set (List.set (List.replicate 9 (bs [])) 1 (bs [100, 105, 100])) 2 (bs [116, 111, 108, 100])) 3 (bs [111, 102, 102, 101, 114, 101, 100])) 4 (bs [102, 101, 108, 108])) 5 (bs [101, 110, 100, 101, 100])) 6 (bs [102, 97, 117, 108, 116, 101, 100])) 8 (bs [116, 105, 99, 107, 101, 100]))
theorem label_names.ev {Ω : Type} (fuel : Fuel)  (k : AV → Option Ω) : evFn C label_names.sp fuel Tryd.f33 (Tryd.f33.body.getD .skip) [] k = label_names.s  (fun r => k (tupAV (.arr 9 .str) [] r)) := by kernel_rfl
def label_names.t  : (List ByteArray) :=
  (List.set (List.set (List.set (List.set (List.set (List.set (List.set (List.replicate 9 (bs [])) 1 (bs [100, 105, 100])) 2 (bs [116, 111, 108, 100])) 3 (bs [111, 102, 102, 101, 114, 101, 100])) 4 (bs [102, 101, 108, 108])) 5 (bs [101, 110, 100, 101, 100])) 6 (bs [102, 97, 117, 108, 116, 101, 100])) 8 (bs [116, 105, 99, 107, 101, 100]))
theorem label_names.v {Ω : Type}  (k : (List ByteArray) → Option Ω) : label_names.s  k = k (label_names.t ) := by
  delta label_names.s label_names.t; exact rfl
theorem label_names.c  : Contract C 33 [] (tupAV (.arr 9 .str) [] (label_names.t )) :=
  contract_s (S := fun k => label_names.s  k) C_ok noS_ok (by kernel_rfl) (by kernel_rfl) (by kernel_rfl) (label_names.ev ⟨1, fun _ => []⟩  (dec (.arr 9 .str) [])) (label_names.v  some)
noncomputable def label_names.e : Ent := endT (tupAV (.arr 9 .str) [] (label_names.t ))
theorem label_names.e_ok : EntOK C 33 (fun {_} => label_names.e) := entA_ok (endT_ok (label_names.c ))

/-- becket label.number -/
noncomputable def label_number.sp : Spec := (orS 59 (fun {_} => word_Text.e) noS)
def label_number.s {Ω : Type} (x0 : Int) (k : ByteArray → Option Ω) : Option Ω :=
  (word_Text.u x0).bind fun y1 =>
  k y1.1
theorem label_number.ev {Ω : Type} (fuel : Fuel) (x0 : Int) (k : AV → Option Ω) : evFn CP label_number.sp fuel Tryd.f34 (Tryd.f34.body.getD .skip) [(.v (.int .i64) (x0))] k = label_number.s x0 (fun r => k (tupAV .str [] r)) := by kernel_rfl
def label_number.u (x0 : Int) : Option (ByteArray) := label_number.s x0 some
theorem label_number.c (x0 : Int) (r : ByteArray) (h : label_number.u x0 = some r) : Contract CP 34 [(.v (.int .i64) (x0))] (tupAV .str [] r) :=
  contract_s (S := fun k => label_number.s x0 k) CP_ok (orS_ok word_Text.e_ok noS_ok) (by kernel_rfl) (by kernel_rfl) (by kernel_rfl) (label_number.ev ⟨1, fun _ => []⟩ x0 (dec .str [])) h
noncomputable def label_number.e : Ent := argI (.int .i64) fun x0 => endU (label_number.u x0) (tupAV .str [])
theorem label_number.e_ok : EntOK CP 34 (fun {_} => label_number.e) := entA_ok (argI_ok fun x0 => endU_ok fun r h => label_number.c x0 r h)

/-- becket label.Text -/
noncomputable def label_Text.sp : Spec := (orS 35 (fun {_} => label_valued.e) (orS 34 (fun {_} => label_number.e) (orS 33 (fun {_} => label_names.e) (orS 19 (fun {_} => event_Text.e) (orS 11 (fun {_} => label_Check.e) noS)))))
def label_Text.s {Ω : Type} (x0 : T_s24) (k : ByteArray × Int → Option Ω) : Option Ω :=
  bif ((label_Check.t x0) != 0) then
    k ((bs []), (label_Check.t x0))
  else
    bif (x0.1 == 7) then
      (event_Text.u x0.2.2.2.1).bind fun y1 =>
      k (y1.1, y1.2)
    else
      bif (idxOK x0.1 9) then
        bif (x0.1 != 8) then
          (label_number.u x0.2.1).bind fun y2 =>
          bif (decide (((bs [32])).size + (y2).size ≤ catMax)) then
            bif (decide (((List.getD label_names.t (Int.toNat x0.1) (bs []))).size + (((bs [32]) ++ y2)).size ≤ catMax)) then
              bif (label_valued.t x0.1) then
                bif (decide ((((List.getD label_names.t (Int.toNat x0.1) (bs [])) ++ ((bs [32]) ++ y2))).size + ((bs [32])).size ≤ catMax)) then
                  bif (x0.1 == 4) then
                    bif (decide (((((List.getD label_names.t (Int.toNat x0.1) (bs [])) ++ ((bs [32]) ++ y2)) ++ (bs [32]))).size + ((bs [107])).size ≤ catMax)) then
                      let v3 : ByteArray := ((((List.getD label_names.t (Int.toNat x0.1) (bs [])) ++ ((bs [32]) ++ y2)) ++ (bs [32])) ++ (bs [107]))
                      (label_number.u x0.2.2.1).bind fun y4 =>
                      bif (decide ((v3).size + (y4).size ≤ catMax)) then
                        k ((v3 ++ y4), 0)
                      else
                        none
                    else
                      none
                  else
                    (label_number.u x0.2.2.1).bind fun y5 =>
                    bif (decide (((((List.getD label_names.t (Int.toNat x0.1) (bs [])) ++ ((bs [32]) ++ y2)) ++ (bs [32]))).size + (y5).size ≤ catMax)) then
                      let v6 : ByteArray := ((((List.getD label_names.t (Int.toNat x0.1) (bs [])) ++ ((bs [32]) ++ y2)) ++ (bs [32])) ++ y5)
                      k (v6, 0)
                    else
                      none
                else
                  none
              else
                k (((List.getD label_names.t (Int.toNat x0.1) (bs [])) ++ ((bs [32]) ++ y2)), 0)
            else
              none
          else
            none
        else
          bif (label_valued.t x0.1) then
            bif (decide (((List.getD label_names.t (Int.toNat x0.1) (bs []))).size + ((bs [32])).size ≤ catMax)) then
              bif (x0.1 == 4) then
                bif (decide ((((List.getD label_names.t (Int.toNat x0.1) (bs [])) ++ (bs [32]))).size + ((bs [107])).size ≤ catMax)) then
                  (label_number.u x0.2.2.1).bind fun y7 =>
                  bif (decide (((((List.getD label_names.t (Int.toNat x0.1) (bs [])) ++ (bs [32])) ++ (bs [107]))).size + (y7).size ≤ catMax)) then
                    k (((((List.getD label_names.t (Int.toNat x0.1) (bs [])) ++ (bs [32])) ++ (bs [107])) ++ y7), 0)
                  else
                    none
                else
                  none
              else
                (label_number.u x0.2.2.1).bind fun y8 =>
                bif (decide ((((List.getD label_names.t (Int.toNat x0.1) (bs [])) ++ (bs [32]))).size + (y8).size ≤ catMax)) then
                  k ((((List.getD label_names.t (Int.toNat x0.1) (bs [])) ++ (bs [32])) ++ y8), 0)
                else
                  none
            else
              none
          else
            k ((List.getD label_names.t (Int.toNat x0.1) (bs [])), 0)
      else
        none
theorem label_Text.ev {Ω : Type} (fuel : Fuel) (x0 : T_s24) (k : AV → Option Ω) : evFn CMP label_Text.sp fuel Tryd.f8 (Tryd.f8.body.getD .skip) [(.v E_s24 (x0))] k = label_Text.s x0 (fun r => k (tupAV .str [(.int .i64)] r)) := by kernel_rfl
def label_Text.u (x0 : T_s24) : Option (ByteArray × Int) := label_Text.s x0 some
theorem label_Text.c (x0 : T_s24) (r : ByteArray × Int) (h : label_Text.u x0 = some r) : Contract CMP 8 [(.v E_s24 (x0))] (tupAV .str [(.int .i64)] r) :=
  contract_s (S := fun k => label_Text.s x0 k) CMP_ok (orS_ok (label_valued.e_ok.mono le_C_CMP) (orS_ok (label_number.e_ok.mono le_CP_CMP) (orS_ok (label_names.e_ok.mono le_C_CMP) (orS_ok event_Text.e_ok (orS_ok (label_Check.e_ok.mono le_C_CMP) noS_ok))))) (by kernel_rfl) (by kernel_rfl) (by kernel_rfl) (label_Text.ev ⟨1, fun _ => []⟩ x0 (dec .str [(.int .i64)])) h
noncomputable def label_Text.e : Ent := argI E_s24 fun x0 => endU (label_Text.u x0) (tupAV .str [(.int .i64)])
theorem label_Text.e_ok : EntOK CMP 8 (fun {_} => label_Text.e) := entA_ok (argI_ok fun x0 => endU_ok fun r h => label_Text.c x0 r h)

/-- becket becketref35.Check -/
noncomputable def ref35_Check.sp : Spec := (orS 39 (fun {_} => ref08_Fine.e) (orS 22 (fun {_} => ref28_Check.e) noS))
noncomputable def ref35_Check.cutD (e3_1 : T_s24) (e3_2 : Int) (e3_3 : Bool) (e3_4 : Bool) : Option (Int) := evCode C ref35_Check.sp ⟨1, fun _ => []⟩ (cr (cr (Tryd.f12.body.getD .skip))) [(.v E_s24 (e3_1)), (.ref 0 []), (.v (.int .i64) (0)), .dead, .dead, .dead, .dead, (.ref 0 [.fld 0]), (.v (.int .i64) (e3_2)), (.v .bool (e3_3)), (.v .bool (false)), (.ref 0 [.fld 0]), (.v (.int .i64) (e3_2)), (.v .bool (e3_4)), (.v .bool (false)), .dead, .dead, .dead, .dead, .dead, .dead, .dead, .dead, .dead, .dead, .dead, .dead, .dead, .dead, .dead, .dead, .dead, .dead, .dead, .dead, .dead, .dead, .dead, .dead, .dead, .dead, .dead, .dead, .dead, .dead, .dead, .dead, .dead, .dead, .dead, .dead, .dead, .dead, .dead, .dead, .dead, .dead, .dead, .dead, .dead, .dead, .dead, .dead, .dead, .dead, .dead, .dead, .dead, .dead, .dead, .dead, .dead, .dead, .dead, .dead, .dead, .dead, .dead, .dead, .dead, .dead, .dead, .dead, .dead, .dead, .dead, .dead, .dead, .dead, .dead, .dead, .dead, .dead, .dead, .dead, .dead, .dead, .dead, .dead, .dead, .dead, .dead, .dead, .dead, .dead, .dead, .dead, .dead, .dead, .dead, .dead, .dead, .dead, .dead, .dead, .dead, .dead, .dead, .dead, .dead, .dead, .dead, .dead, .dead, .dead, .dead, .dead, .dead, .dead, .dead, .dead, .dead, .dead, .dead, .dead, .dead, .dead, .dead, .dead, .dead, .dead] [(.box E_s24 e3_1 false)] (finK C Tryd.f12 (dec (.int .i64) []))
theorem ref35_Check.cutx : ∃ f : T_s24 → Int → Bool → Bool → Option (Int), ∀ e3_1 e3_2 e3_3 e3_4, f e3_1 e3_2 e3_3 e3_4 = ref35_Check.cutD e3_1 e3_2 e3_3 e3_4 := ⟨ref35_Check.cutD, fun _ _ _ _ => rfl⟩
noncomputable def ref35_Check.cut0 : T_s24 → Int → Bool → Bool → Option (Int) := Classical.choose ref35_Check.cutx
theorem ref35_Check.cut0_eq : ∀ (e3_1 : T_s24) (e3_2 : Int) (e3_3 : Bool) (e3_4 : Bool), ref35_Check.cut0 e3_1 e3_2 e3_3 e3_4 = ref35_Check.cutD e3_1 e3_2 e3_3 e3_4 := Classical.choose_spec ref35_Check.cutx
noncomputable def ref35_Check.u0 (x0 : T_s24) : Option (Int) :=
  bif (decide (x0.1 < 1)) then
    some 12
  else
    bif (decide (x0.1 > 8)) then
      some 12
    else
      ref35_Check.cut0 (x0) (x0.1) ((decide (x0.1 < 1))) ((decide (x0.1 > 8)))
theorem ref35_Check.ex : ∃ f : T_s24 → Option (Int), ∀ x0, f x0 = ref35_Check.u0 x0 := ⟨ref35_Check.u0, fun _ => rfl⟩
noncomputable def ref35_Check.u : T_s24 → Option (Int) := Classical.choose ref35_Check.ex
theorem ref35_Check.u_eq : ∀ (x0 : T_s24), ref35_Check.u x0 = ref35_Check.u0 x0 := Classical.choose_spec ref35_Check.ex
theorem ref35_Check.ev0 (F : List AV → Heap → Option (Int)) (x0 : T_s24) : evCode C ref35_Check.sp ⟨1, fun _ => []⟩ (cl (Tryd.f12.body.getD .skip)) [(.v E_s24 (x0)), .dead, .dead, .dead, .dead, .dead, .dead, .dead, .dead, .dead, .dead, .dead, .dead, .dead, .dead, .dead, .dead, .dead, .dead, .dead, .dead, .dead, .dead, .dead, .dead, .dead, .dead, .dead, .dead, .dead, .dead, .dead, .dead, .dead, .dead, .dead, .dead, .dead, .dead, .dead, .dead, .dead, .dead, .dead, .dead, .dead, .dead, .dead, .dead, .dead, .dead, .dead, .dead, .dead, .dead, .dead, .dead, .dead, .dead, .dead, .dead, .dead, .dead, .dead, .dead, .dead, .dead, .dead, .dead, .dead, .dead, .dead, .dead, .dead, .dead, .dead, .dead, .dead, .dead, .dead, .dead, .dead, .dead, .dead, .dead, .dead, .dead, .dead, .dead, .dead, .dead, .dead, .dead, .dead, .dead, .dead, .dead, .dead, .dead, .dead, .dead, .dead, .dead, .dead, .dead, .dead, .dead, .dead, .dead, .dead, .dead, .dead, .dead, .dead, .dead, .dead, .dead, .dead, .dead, .dead, .dead, .dead, .dead, .dead, .dead, .dead, .dead, .dead, .dead, .dead, .dead, .dead, .dead, .dead, .dead, .dead, .dead, .dead, .dead, .dead, .dead] [] (seqK (fun env L => evCode C ref35_Check.sp ⟨1, fun _ => []⟩ (cl (cr (Tryd.f12.body.getD .skip))) env L (seqK F (finK C Tryd.f12 (dec (.int .i64) [])))) (finK C Tryd.f12 (dec (.int .i64) []))) =
  bif (decide (x0.1 < 1)) then
    some 12
  else
    bif (decide (x0.1 > 8)) then
      some 12
    else
      F [(.v E_s24 (x0)), (.ref 0 []), (.v (.int .i64) (0)), .dead, .dead, .dead, .dead, (.ref 0 [.fld 0]), (.v (.int .i64) (x0.1)), (.v .bool (decide (x0.1 < 1))), (.v .bool (false)), (.ref 0 [.fld 0]), (.v (.int .i64) (x0.1)), (.v .bool (decide (x0.1 > 8))), (.v .bool (false)), .dead, .dead, .dead, .dead, .dead, .dead, .dead, .dead, .dead, .dead, .dead, .dead, .dead, .dead, .dead, .dead, .dead, .dead, .dead, .dead, .dead, .dead, .dead, .dead, .dead, .dead, .dead, .dead, .dead, .dead, .dead, .dead, .dead, .dead, .dead, .dead, .dead, .dead, .dead, .dead, .dead, .dead, .dead, .dead, .dead, .dead, .dead, .dead, .dead, .dead, .dead, .dead, .dead, .dead, .dead, .dead, .dead, .dead, .dead, .dead, .dead, .dead, .dead, .dead, .dead, .dead, .dead, .dead, .dead, .dead, .dead, .dead, .dead, .dead, .dead, .dead, .dead, .dead, .dead, .dead, .dead, .dead, .dead, .dead, .dead, .dead, .dead, .dead, .dead, .dead, .dead, .dead, .dead, .dead, .dead, .dead, .dead, .dead, .dead, .dead, .dead, .dead, .dead, .dead, .dead, .dead, .dead, .dead, .dead, .dead, .dead, .dead, .dead, .dead, .dead, .dead, .dead, .dead, .dead, .dead, .dead, .dead, .dead, .dead, .dead, .dead] [(.box E_s24 x0 false)] := by kernel_rfl
theorem ref35_Check.ev (x0 : T_s24) : evFn C ref35_Check.sp ⟨1, fun _ => []⟩ Tryd.f12 (Tryd.f12.body.getD .skip) [(.v E_s24 (x0))] (dec (.int .i64) []) = ref35_Check.u x0 := by
  have h0 : evFn C ref35_Check.sp ⟨1, fun _ => []⟩ Tryd.f12 (Tryd.f12.body.getD .skip) [(.v E_s24 (x0))] (dec (.int .i64) []) = evCode C ref35_Check.sp ⟨1, fun _ => []⟩ (cl (Tryd.f12.body.getD .skip)) [(.v E_s24 (x0)), .dead, .dead, .dead, .dead, .dead, .dead, .dead, .dead, .dead, .dead, .dead, .dead, .dead, .dead, .dead, .dead, .dead, .dead, .dead, .dead, .dead, .dead, .dead, .dead, .dead, .dead, .dead, .dead, .dead, .dead, .dead, .dead, .dead, .dead, .dead, .dead, .dead, .dead, .dead, .dead, .dead, .dead, .dead, .dead, .dead, .dead, .dead, .dead, .dead, .dead, .dead, .dead, .dead, .dead, .dead, .dead, .dead, .dead, .dead, .dead, .dead, .dead, .dead, .dead, .dead, .dead, .dead, .dead, .dead, .dead, .dead, .dead, .dead, .dead, .dead, .dead, .dead, .dead, .dead, .dead, .dead, .dead, .dead, .dead, .dead, .dead, .dead, .dead, .dead, .dead, .dead, .dead, .dead, .dead, .dead, .dead, .dead, .dead, .dead, .dead, .dead, .dead, .dead, .dead, .dead, .dead, .dead, .dead, .dead, .dead, .dead, .dead, .dead, .dead, .dead, .dead, .dead, .dead, .dead, .dead, .dead, .dead, .dead, .dead, .dead, .dead, .dead, .dead, .dead, .dead, .dead, .dead, .dead, .dead, .dead, .dead, .dead, .dead, .dead, .dead] [] (seqK (fun env L => evCode C ref35_Check.sp ⟨1, fun _ => []⟩ (cl (cr (Tryd.f12.body.getD .skip))) env L (seqK (fun env L => evCode C ref35_Check.sp ⟨1, fun _ => []⟩ (cr (cr (Tryd.f12.body.getD .skip))) env L (finK C Tryd.f12 (dec (.int .i64) []))) (finK C Tryd.f12 (dec (.int .i64) [])))) (finK C Tryd.f12 (dec (.int .i64) []))) := by kernel_rfl
  have h1 := ref35_Check.ev0 (fun env L => evCode C ref35_Check.sp ⟨1, fun _ => []⟩ (cr (cr (Tryd.f12.body.getD .skip))) env L (finK C Tryd.f12 (dec (.int .i64) []))) x0
  have h2 : (
    bif (decide (x0.1 < 1)) then
      some 12
    else
      bif (decide (x0.1 > 8)) then
        some 12
      else
        (fun env L => evCode C ref35_Check.sp ⟨1, fun _ => []⟩ (cr (cr (Tryd.f12.body.getD .skip))) env L (finK C Tryd.f12 (dec (.int .i64) []))) [(.v E_s24 (x0)), (.ref 0 []), (.v (.int .i64) (0)), .dead, .dead, .dead, .dead, (.ref 0 [.fld 0]), (.v (.int .i64) (x0.1)), (.v .bool (decide (x0.1 < 1))), (.v .bool (false)), (.ref 0 [.fld 0]), (.v (.int .i64) (x0.1)), (.v .bool (decide (x0.1 > 8))), (.v .bool (false)), .dead, .dead, .dead, .dead, .dead, .dead, .dead, .dead, .dead, .dead, .dead, .dead, .dead, .dead, .dead, .dead, .dead, .dead, .dead, .dead, .dead, .dead, .dead, .dead, .dead, .dead, .dead, .dead, .dead, .dead, .dead, .dead, .dead, .dead, .dead, .dead, .dead, .dead, .dead, .dead, .dead, .dead, .dead, .dead, .dead, .dead, .dead, .dead, .dead, .dead, .dead, .dead, .dead, .dead, .dead, .dead, .dead, .dead, .dead, .dead, .dead, .dead, .dead, .dead, .dead, .dead, .dead, .dead, .dead, .dead, .dead, .dead, .dead, .dead, .dead, .dead, .dead, .dead, .dead, .dead, .dead, .dead, .dead, .dead, .dead, .dead, .dead, .dead, .dead, .dead, .dead, .dead, .dead, .dead, .dead, .dead, .dead, .dead, .dead, .dead, .dead, .dead, .dead, .dead, .dead, .dead, .dead, .dead, .dead, .dead, .dead, .dead, .dead, .dead, .dead, .dead, .dead, .dead, .dead, .dead, .dead, .dead, .dead, .dead, .dead, .dead] [(.box E_s24 x0 false)]) = (
    bif (decide (x0.1 < 1)) then
      some 12
    else
      bif (decide (x0.1 > 8)) then
        some 12
      else
        ref35_Check.cutD (x0) (x0.1) ((decide (x0.1 < 1))) ((decide (x0.1 > 8)))) := by kernel_rfl
  have h3 : (
    bif (decide (x0.1 < 1)) then
      some 12
    else
      bif (decide (x0.1 > 8)) then
        some 12
      else
        ref35_Check.cutD (x0) (x0.1) ((decide (x0.1 < 1))) ((decide (x0.1 > 8)))) = ref35_Check.u0 x0 := by
    unfold ref35_Check.u0
    rw [ref35_Check.cut0_eq]
  exact h0.trans (h1.trans (h2.trans (h3.trans (ref35_Check.u_eq x0).symm)))
theorem ref35_Check.c (x0 : T_s24) (r : Int) (h : ref35_Check.u x0 = some r) : Contract C 12 [(.v E_s24 (x0))] (tupAV (.int .i64) [] r) :=
  contract_u C_ok (orS_ok ref08_Fine.e_ok (orS_ok ref28_Check.e_ok noS_ok)) (by kernel_rfl) (by kernel_rfl) (by kernel_rfl) ((ref35_Check.ev x0).trans h)
noncomputable def ref35_Check.e : Ent := argI E_s24 fun x0 => endU (ref35_Check.u x0) (tupAV (.int .i64) [])
theorem ref35_Check.e_ok : EntOK C 12 (fun {_} => ref35_Check.e) := entA_ok (argI_ok fun x0 => endU_ok fun r h => ref35_Check.c x0 r h)

/-- becket becketref35.Names -/
noncomputable def ref35_Names.sp : Spec := noS
def ref35_Names.s {Ω : Type}  (k : (List ByteArray) → Option Ω) : Option Ω :=
  k [(bs [100, 105, 100]), (bs [116, 111, 108, 100]), (bs [111, 102, 102, 101, 114, 101, 100]), (bs [102, 101, 108, 108]), (bs [101, 110, 100, 101, 100]), (bs [102, 97, 117, 108, 116, 101, 100]), (bs []), (bs [116, 105, 99, 107, 101, 100])]
theorem ref35_Names.ev {Ω : Type} (fuel : Fuel)  (k : AV → Option Ω) : evFn C ref35_Names.sp fuel Tryd.f36 (Tryd.f36.body.getD .skip) [] k = ref35_Names.s  (fun r => k (tupAV (.slice .str) [] r)) := by kernel_rfl
def ref35_Names.t  : (List ByteArray) :=
  [(bs [100, 105, 100]), (bs [116, 111, 108, 100]), (bs [111, 102, 102, 101, 114, 101, 100]), (bs [102, 101, 108, 108]), (bs [101, 110, 100, 101, 100]), (bs [102, 97, 117, 108, 116, 101, 100]), (bs []), (bs [116, 105, 99, 107, 101, 100])]
theorem ref35_Names.v {Ω : Type}  (k : (List ByteArray) → Option Ω) : ref35_Names.s  k = k (ref35_Names.t ) := by
  delta ref35_Names.s ref35_Names.t; exact rfl
theorem ref35_Names.c  : Contract C 36 [] (tupAV (.slice .str) [] (ref35_Names.t )) :=
  contract_s (S := fun k => ref35_Names.s  k) C_ok noS_ok (by kernel_rfl) (by kernel_rfl) (by kernel_rfl) (ref35_Names.ev ⟨1, fun _ => []⟩  (dec (.slice .str) [])) (ref35_Names.v  some)
noncomputable def ref35_Names.e : Ent := endT (tupAV (.slice .str) [] (ref35_Names.t ))
theorem ref35_Names.e_ok : EntOK C 36 (fun {_} => ref35_Names.e) := entA_ok (endT_ok (ref35_Names.c ))

/-- becket becketref35.number -/
noncomputable def ref35_number.sp : Spec := (orS 60 (fun {_} => ref08_Text.e) noS)
def ref35_number.s {Ω : Type} (x0 : Int) (k : ByteArray → Option Ω) : Option Ω :=
  (ref08_Text.u x0).bind fun y1 =>
  bif (decide (((bs [32])).size + (y1.1).size ≤ catMax)) then
    k ((bs [32]) ++ y1.1)
  else
    none
theorem ref35_number.ev {Ω : Type} (fuel : Fuel) (x0 : Int) (k : AV → Option Ω) : evFn C ref35_number.sp fuel Tryd.f37 (Tryd.f37.body.getD .skip) [(.v (.int .i64) (x0))] k = ref35_number.s x0 (fun r => k (tupAV .str [] r)) := by kernel_rfl
def ref35_number.u (x0 : Int) : Option (ByteArray) := ref35_number.s x0 some
theorem ref35_number.c (x0 : Int) (r : ByteArray) (h : ref35_number.u x0 = some r) : Contract C 37 [(.v (.int .i64) (x0))] (tupAV .str [] r) :=
  contract_s (S := fun k => ref35_number.s x0 k) C_ok (orS_ok ref08_Text.e_ok noS_ok) (by kernel_rfl) (by kernel_rfl) (by kernel_rfl) (ref35_number.ev ⟨1, fun _ => []⟩ x0 (dec .str [])) h
noncomputable def ref35_number.e : Ent := argI (.int .i64) fun x0 => endU (ref35_number.u x0) (tupAV .str [])
theorem ref35_number.e_ok : EntOK C 37 (fun {_} => ref35_number.e) := entA_ok (argI_ok fun x0 => endU_ok fun r h => ref35_number.c x0 r h)

/-- becket becketref35.Text -/
noncomputable def ref35_Text.sp : Spec := (orS 37 (fun {_} => ref35_number.e) (orS 36 (fun {_} => ref35_Names.e) (orS 20 (fun {_} => ref28_Text.e) (orS 12 (fun {_} => ref35_Check.e) noS))))
noncomputable def ref35_Text.s {Ω : Type} (x0 : T_s24) (k : ByteArray × Int → Option Ω) : Option Ω :=
  (ref35_Check.u x0).bind fun y1 =>
  bif (y1 != 0) then
    k ((bs []), y1)
  else
    bif (idxOK (IntKind.wrap .i64 (x0.1 - 1)) (List.length ref35_Names.t)) then
      bif (x0.1 == 7) then
        (ref28_Text.u x0.2.2.2.1).bind fun y2 =>
        k (y2.1, y2.2)
      else
        bif (x0.1 == 8) then
          (ref35_number.u x0.2.2.1).bind fun y3 =>
          bif (decide (((List.getD ref35_Names.t (Int.toNat (IntKind.wrap .i64 (x0.1 - 1))) (bs []))).size + (y3).size ≤ catMax)) then
            k (((List.getD ref35_Names.t (Int.toNat (IntKind.wrap .i64 (x0.1 - 1))) (bs [])) ++ y3), 0)
          else
            none
        else
          bif (x0.1 == 2) then
            (ref35_number.u x0.2.1).bind fun y4 =>
            bif (decide (((List.getD ref35_Names.t (Int.toNat (IntKind.wrap .i64 (x0.1 - 1))) (bs []))).size + (y4).size ≤ catMax)) then
              (ref35_number.u x0.2.2.1).bind fun y5 =>
              bif (decide ((((List.getD ref35_Names.t (Int.toNat (IntKind.wrap .i64 (x0.1 - 1))) (bs [])) ++ y4)).size + (y5).size ≤ catMax)) then
                let v6 : ByteArray := (((List.getD ref35_Names.t (Int.toNat (IntKind.wrap .i64 (x0.1 - 1))) (bs [])) ++ y4) ++ y5)
                k (v6, 0)
              else
                none
            else
              none
          else
            bif (x0.1 == 6) then
              (ref35_number.u x0.2.1).bind fun y7 =>
              bif (decide (((List.getD ref35_Names.t (Int.toNat (IntKind.wrap .i64 (x0.1 - 1))) (bs []))).size + (y7).size ≤ catMax)) then
                (ref35_number.u x0.2.2.1).bind fun y8 =>
                bif (decide ((((List.getD ref35_Names.t (Int.toNat (IntKind.wrap .i64 (x0.1 - 1))) (bs [])) ++ y7)).size + (y8).size ≤ catMax)) then
                  let v9 : ByteArray := (((List.getD ref35_Names.t (Int.toNat (IntKind.wrap .i64 (x0.1 - 1))) (bs [])) ++ y7) ++ y8)
                  k (v9, 0)
                else
                  none
              else
                none
            else
              bif (x0.1 == 4) then
                (ref35_number.u x0.2.1).bind fun y10 =>
                bif (decide (((List.getD ref35_Names.t (Int.toNat (IntKind.wrap .i64 (x0.1 - 1))) (bs []))).size + (y10).size ≤ catMax)) then
                  bif (decide ((((List.getD ref35_Names.t (Int.toNat (IntKind.wrap .i64 (x0.1 - 1))) (bs [])) ++ y10)).size + ((bs [32, 107])).size ≤ catMax)) then
                    let v11 : ByteArray := (((List.getD ref35_Names.t (Int.toNat (IntKind.wrap .i64 (x0.1 - 1))) (bs [])) ++ y10) ++ (bs [32, 107]))
                    (ref35_number.u x0.2.2.1).bind fun y12 =>
                    bif (subC (some (1)) none (y12).size) then
                      bif (decide ((v11).size + ((subS (some (1)) none y12)).size ≤ catMax)) then
                        k ((v11 ++ (subS (some (1)) none y12)), 0)
                      else
                        none
                    else
                      none
                  else
                    none
                else
                  none
              else
                (ref35_number.u x0.2.1).bind fun y13 =>
                bif (decide (((List.getD ref35_Names.t (Int.toNat (IntKind.wrap .i64 (x0.1 - 1))) (bs []))).size + (y13).size ≤ catMax)) then
                  k (((List.getD ref35_Names.t (Int.toNat (IntKind.wrap .i64 (x0.1 - 1))) (bs [])) ++ y13), 0)
                else
                  none
    else
      none
theorem ref35_Text.ev {Ω : Type} (fuel : Fuel) (x0 : T_s24) (k : AV → Option Ω) : evFn C ref35_Text.sp fuel Tryd.f10 (Tryd.f10.body.getD .skip) [(.v E_s24 (x0))] k = ref35_Text.s x0 (fun r => k (tupAV .str [(.int .i64)] r)) := by kernel_rfl
noncomputable def ref35_Text.u (x0 : T_s24) : Option (ByteArray × Int) := ref35_Text.s x0 some
theorem ref35_Text.c (x0 : T_s24) (r : ByteArray × Int) (h : ref35_Text.u x0 = some r) : Contract C 10 [(.v E_s24 (x0))] (tupAV .str [(.int .i64)] r) :=
  contract_s (S := fun k => ref35_Text.s x0 k) C_ok (orS_ok ref35_number.e_ok (orS_ok ref35_Names.e_ok (orS_ok ref28_Text.e_ok (orS_ok ref35_Check.e_ok noS_ok)))) (by kernel_rfl) (by kernel_rfl) (by kernel_rfl) (ref35_Text.ev ⟨1, fun _ => []⟩ x0 (dec .str [(.int .i64)])) h
noncomputable def ref35_Text.e : Ent := argI E_s24 fun x0 => endU (ref35_Text.u x0) (tupAV .str [(.int .i64)])
theorem ref35_Text.e_ok : EntOK C 10 (fun {_} => ref35_Text.e) := entA_ok (argI_ok fun x0 => endU_ok fun r h => ref35_Text.c x0 r h)

/-- becket label.Print -/
noncomputable def label_Print.sp : Spec := (fxS 42 (fun {_} => strings_Builder_String.fx) (fxS 41 (fun {_} => strings_Builder_WriteString.fx) (orS 8 (fun {_} => label_Text.e) noS)))
def label_Print.F (fuel : Nat) : Fuel := ⟨fuel, fun r => bif r == 3 then [0, 1, 2, 3, 5, 6, 7, 8, 12, 13, 14, 15, 16, 17, 18, 19, 20, 21, 22, 23, 24, 25, 26, 27] else []⟩
def label_Print.E0 (e3_1 : (List T_s24)) (e3_2 : Int) (s3 : Int × ByteArray) : List AV := [.dead, .dead, .dead, .dead, (.ref 0 []), .dead, .dead, .dead, .dead, (.v (.slice E_s24) (e3_1)), (.v (.int .i64) (e3_2)), (.v (.int .i64) (s3.1)), .dead, .dead, .dead, .dead, .dead, .dead, .dead, .dead, .dead, .dead, .dead, .dead, .dead, .dead, .dead, .dead]
def label_Print.H0 (e3_1 : (List T_s24)) (e3_2 : Int) (s3 : Int × ByteArray) : Heap := [(.obj (.bld 81 5 s3.2))]
noncomputable def label_Print.M0 {Ω : Type} (fuel : Nat) (e3_1 : (List T_s24)) (e3_2 : Int)  (k : AV → Option Ω) (m : Nat) (s : Int × ByteArray) : Option Ω := loopK (fun env L k => evCode CMP label_Print.sp (label_Print.F fuel) (cl (cl (cr (cl (cr (cr (Tryd.f14.body.getD .skip))))))) env L k) [true, true, true, true, false, true, true, true, true, false, false, false, true, true, true, true, true, true, true, true, true, true, true, true, true, true, true, true] [] 1 (blockK 0 (seqK (fun env L => evCode CMP label_Print.sp (label_Print.F fuel) (cr (cr (cr (Tryd.f14.body.getD .skip)))) env L (finK CMP Tryd.f14 k)) (finK CMP Tryd.f14 k))) m ((label_Print.E0 e3_1 e3_2) s) ((label_Print.H0 e3_1 e3_2) s)
def label_Print.b0 {Ω : Type} (e3_1 : (List T_s24)) (e3_2 : Int)   (k : ByteArray × Int → Option Ω) (r3 : Int × ByteArray → Option Ω) (s3 : Int × ByteArray) : Option Ω :=
  bif (decide (s3.1 < e3_2)) then
    bif (idxOK s3.1 (List.length e3_1)) then
      (label_Text.u ((List.getD e3_1 (Int.toNat s3.1) (0, (0, (0, ((0, (0, (0, (0, ())))), ()))))))).bind fun y1 =>
      bif (y1.2 != 0) then
        k ((bs []), y1.2)
      else
        bif (decide ((y1.1).size + ((bs [10])).size ≤ catMax)) then
          bif (decide (ByteArray.size s3.2 + ByteArray.size (y1.1 ++ (bs [10])) ≤ rowMax)) then
            r3 ((IntKind.wrap .i64 (s3.1 + 1)), (s3.2 ++ (y1.1 ++ (bs [10]))))
          else
            none
        else
          none
    else
      none
  else
    k (s3.2, 0)
def label_Print.B0 {Ω : Type} (fuel : Nat) (e3_1 : (List T_s24)) (e3_2 : Int)  (k : ByteArray × Int → Option Ω) (r3 : Int × ByteArray → Option Ω) (s3 : Int × ByteArray) : Option Ω := label_Print.b0 e3_1 e3_2   k r3 s3
theorem label_Print.l0 {Ω : Type} (fuel : Nat) (e3_1 : (List T_s24)) (e3_2 : Int)  (k : AV → Option Ω) : ∀ m, (label_Print.M0 fuel e3_1 e3_2  k m) = iter (label_Print.B0 fuel e3_1 e3_2  (fun r => k (tupAV .str [(.int .i64)] r))) m :=
  loopK_iter (envOf := (label_Print.E0 e3_1 e3_2)) (LOf := (label_Print.H0 e3_1 e3_2)) (B := label_Print.B0 fuel e3_1 e3_2  (fun r => k (tupAV .str [(.int .i64)] r))) (fun R s => by kernel_rfl)
def label_Print.sl {Ω : Type} (x0 : (List T_s24)) (lp0 : (List T_s24) → Int → Int × ByteArray → Option Ω) (k : ByteArray × Int → Option Ω) : Option Ω :=
  lp0 x0 (((List.length x0 : Nat) : Int)) (0, (bs []))
def label_Print.s {Ω : Type} (fuel : Nat) (x0 : (List T_s24)) (k : ByteArray × Int → Option Ω) : Option Ω := label_Print.sl x0 (fun e3_1 e3_2 => (iter (label_Print.B0 fuel e3_1 e3_2  k) fuel)) k
theorem label_Print.ev {Ω : Type} (fuel : Nat) (x0 : (List T_s24)) (k : AV → Option Ω) : evFn CMP label_Print.sp (label_Print.F fuel) Tryd.f14 (Tryd.f14.body.getD .skip) [(.v (.slice E_s24) (x0))] k = label_Print.s fuel x0 (fun r => k (tupAV .str [(.int .i64)] r)) := by
  have h0 : evFn CMP label_Print.sp (label_Print.F fuel) Tryd.f14 (Tryd.f14.body.getD .skip) [(.v (.slice E_s24) (x0))] k = label_Print.sl x0 (fun e3_1 e3_2 => (label_Print.M0 fuel e3_1 e3_2  k fuel)) (fun r => k (tupAV .str [(.int .i64)] r)) := by kernel_rfl
  have h1 : (fun e3_1 e3_2 => (label_Print.M0 fuel e3_1 e3_2  k fuel)) = (fun e3_1 e3_2 => (iter (label_Print.B0 fuel e3_1 e3_2  (fun r => k (tupAV .str [(.int .i64)] r))) fuel)) := funext fun e3_1 => funext fun e3_2 => label_Print.l0 fuel e3_1 e3_2   k fuel
  rw [h1] at h0
  exact h0
def label_Print.g0 {Ω : Type} (e3_1 : (List T_s24))  (k : ByteArray × Int → Option Ω) : List T_s24 → ByteArray → Option Ω
  | [], a3_1 =>
    k (a3_1, 0)
  | x3 :: xs3, a3_1 =>
    (label_Text.u (x3)).bind fun y1 =>
    bif (y1.2 != 0) then
      k ((bs []), y1.2)
    else
      bif (decide ((y1.1).size + ((bs [10])).size ≤ catMax)) then
        bif (decide (ByteArray.size a3_1 + ByteArray.size (y1.1 ++ (bs [10])) ≤ rowMax)) then
          label_Print.g0 e3_1  k xs3 ((a3_1 ++ (y1.1 ++ (bs [10]))))
        else
          none
      else
        none
theorem label_Print.h0 {Ω : Type} (e3_1 : (List T_s24))   (k : ByteArray × Int → Option Ω) (hX : ((List.length e3_1 : Nat) : Int) ≤ 9223372036854775807) : ∀ (m : Nat) (i : Int) (a : ByteArray), 0 ≤ i → i ≤ ((List.length e3_1 : Nat) : Int) → ((List.length e3_1 : Nat) : Int) < m + i → Le (label_Print.g0 e3_1  k (List.drop (Int.toNat i) e3_1) a) (iter (label_Print.B0 BIG e3_1 (((List.length e3_1 : Nat) : Int))  k) m (i, a)) :=
  iter_list e3_1 (0, (0, (0, ((0, (0, (0, (0, ())))), ())))) (fun (i3 : Int) (a3 : ByteArray) => (i3, a3)) (fun xs i3 a3 => label_Print.g0 e3_1  k xs a3) (label_Print.B0 BIG e3_1 (((List.length e3_1 : Nat) : Int))  k)
    (fun i3 a3 r h0 => (Le.fls h0 (Le.refl _)))
    (fun i3 xs3 a3 r h0 h1 hw ih => (Le.tru h0 (Le.tru h1 (Le.bnd fun y1 => (Le.cond (Le.refl _) (Le.cond (Le.cond (ih _ hw ((a3 ++ (y1.1 ++ (bs [10]))))) Le.nil) Le.nil))))))
    hX
def label_Print.w {Ω : Type} (x0 : (List T_s24)) (k : ByteArray × Int → Option Ω) : Option Ω :=
  bif decide (((List.length x0 : Nat) : Int) ≤ 4611686018427387904) then label_Print.g0 x0  k x0 (bs []) else none
theorem label_Print.le {Ω : Type} (x0 : (List T_s24)) (k : ByteArray × Int → Option Ω) : Le (label_Print.w x0 k) (label_Print.s BIG x0 k) := by
  delta label_Print.w label_Print.s label_Print.sl
  exact (Le.gd fun hg => label_Print.h0 _   k (le_up (of_decide_eq_true hg)) BIG 0 ((bs [])) (by decide) (zero_le_len _) (big_list (of_decide_eq_true hg)))
def label_Print.u (x0 : (List T_s24)) : Option (ByteArray × Int) := label_Print.w x0 some
theorem label_Print.c (x0 : (List T_s24)) (r : ByteArray × Int) (h : label_Print.u x0 = some r) : Contract CMP 14 [(.v (.slice E_s24) (x0))] (tupAV .str [(.int .i64)] r) :=
  contract_s (S := fun k => label_Print.s BIG x0 k) CMP_ok (fxS_ok (FxOK.mono le_C_CMP strings_Builder_String.fx_ok) (fxS_ok (FxOK.mono le_C_CMP strings_Builder_WriteString.fx_ok) (orS_ok label_Text.e_ok noS_ok))) (by kernel_rfl) (by kernel_rfl) (by kernel_rfl) (label_Print.ev BIG x0 (dec .str [(.int .i64)])) (label_Print.le x0 some r h)
noncomputable def label_Print.e : Ent := argI (.slice E_s24) fun x0 => endU (label_Print.u x0) (tupAV .str [(.int .i64)])
theorem label_Print.e_ok : EntOK CMP 14 (fun {_} => label_Print.e) := entA_ok (argI_ok fun x0 => endU_ok fun r h => label_Print.c x0 r h)

/-- becket label.kindOf -/
noncomputable def label_kindOf.sp : Spec := (orS 33 (fun {_} => label_names.e) noS)
def label_kindOf.F (fuel : Nat) : Fuel := ⟨fuel, fun r => bif r == 2 then [1, 2, 3, 4, 7, 8, 9, 10, 11, 12, 13, 14, 15, 16, 17, 18] else []⟩
def label_kindOf.E0 (e2_1 : ByteArray) (e2_2 : (List ByteArray)) (s2 : Int) : List AV := [(.v .str (e2_1)), .dead, .dead, .dead, .dead, (.v (.arr 9 .str) (e2_2)), (.v (.int .i64) (s2)), .dead, .dead, .dead, .dead, .dead, .dead, .dead, .dead, .dead, .dead, .dead, .dead]
def label_kindOf.H0 (e2_1 : ByteArray) (e2_2 : (List ByteArray)) (s2 : Int) : Heap := []
noncomputable def label_kindOf.M0 {Ω : Type} (fuel : Nat) (e2_1 : ByteArray) (e2_2 : (List ByteArray))  (k : AV → Option Ω) (m : Nat) (s : Int) : Option Ω := loopK (fun env L k => evCode C label_kindOf.sp (label_kindOf.F fuel) (cl (cl (cr (cl (cr (Tryd.f61.body.getD .skip)))))) env L k) [false, true, true, true, true, false, false, true, true, true, true, true, true, true, true, true, true, true, true] [] 0 (blockK 0 (seqK (fun env L => evCode C label_kindOf.sp (label_kindOf.F fuel) (cr (cr (Tryd.f61.body.getD .skip))) env L (finK C Tryd.f61 k)) (finK C Tryd.f61 k))) m ((label_kindOf.E0 e2_1 e2_2) s) ((label_kindOf.H0 e2_1 e2_2) s)
def label_kindOf.b0 {Ω : Type} (e2_1 : ByteArray) (e2_2 : (List ByteArray))   (k : Int → Option Ω) (r2 : Int → Option Ω) (s2 : Int) : Option Ω :=
  bif (decide (s2 < 9)) then
    bif (idxOK s2 9) then
      bif (!(((List.getD e2_2 (Int.toNat s2) (bs []))).data.toList == ((bs [])).data.toList)) then
        bif (((List.getD e2_2 (Int.toNat s2) (bs []))).data.toList == (e2_1).data.toList) then
          k s2
        else
          r2 ((IntKind.wrap .i64 (s2 + 1)))
      else
        r2 ((IntKind.wrap .i64 (s2 + 1)))
    else
      none
  else
    k 0
def label_kindOf.B0 {Ω : Type} (fuel : Nat) (e2_1 : ByteArray) (e2_2 : (List ByteArray))  (k : Int → Option Ω) (r2 : Int → Option Ω) (s2 : Int) : Option Ω := label_kindOf.b0 e2_1 e2_2   k r2 s2
theorem label_kindOf.l0 {Ω : Type} (fuel : Nat) (e2_1 : ByteArray) (e2_2 : (List ByteArray))  (k : AV → Option Ω) : ∀ m, (label_kindOf.M0 fuel e2_1 e2_2  k m) = iter (label_kindOf.B0 fuel e2_1 e2_2  (fun r => k (tupAV (.int .i64) [] r))) m :=
  loopK_iter (envOf := (label_kindOf.E0 e2_1 e2_2)) (LOf := (label_kindOf.H0 e2_1 e2_2)) (B := label_kindOf.B0 fuel e2_1 e2_2  (fun r => k (tupAV (.int .i64) [] r))) (fun R s => by kernel_rfl)
def label_kindOf.sl {Ω : Type} (x0 : ByteArray) (lp0 : ByteArray → (List ByteArray) → Int → Option Ω) (k : Int → Option Ω) : Option Ω :=
  lp0 x0 label_names.t (0)
def label_kindOf.s {Ω : Type} (fuel : Nat) (x0 : ByteArray) (k : Int → Option Ω) : Option Ω := label_kindOf.sl x0 (fun e2_1 e2_2 => (iter (label_kindOf.B0 fuel e2_1 e2_2  k) fuel)) k
theorem label_kindOf.ev {Ω : Type} (fuel : Nat) (x0 : ByteArray) (k : AV → Option Ω) : evFn C label_kindOf.sp (label_kindOf.F fuel) Tryd.f61 (Tryd.f61.body.getD .skip) [(.v .str (x0))] k = label_kindOf.s fuel x0 (fun r => k (tupAV (.int .i64) [] r)) := by
  have h0 : evFn C label_kindOf.sp (label_kindOf.F fuel) Tryd.f61 (Tryd.f61.body.getD .skip) [(.v .str (x0))] k = label_kindOf.sl x0 (fun e2_1 e2_2 => (label_kindOf.M0 fuel e2_1 e2_2  k fuel)) (fun r => k (tupAV (.int .i64) [] r)) := by kernel_rfl
  have h1 : (fun e2_1 e2_2 => (label_kindOf.M0 fuel e2_1 e2_2  k fuel)) = (fun e2_1 e2_2 => (iter (label_kindOf.B0 fuel e2_1 e2_2  (fun r => k (tupAV (.int .i64) [] r))) fuel)) := funext fun e2_1 => funext fun e2_2 => label_kindOf.l0 fuel e2_1 e2_2   k fuel
  rw [h1] at h0
  exact h0
def label_kindOf.g0 {Ω : Type} (e2_1 : ByteArray) (e2_2 : (List ByteArray))  (k : Int → Option Ω) : Nat → Int → Option Ω
  | 0, i2 =>
    k 0
  | d2 + 1, i2 =>
    bif (idxOK i2 9) then
      bif (!(((List.getD e2_2 (Int.toNat i2) (bs []))).data.toList == ((bs [])).data.toList)) then
        bif (((List.getD e2_2 (Int.toNat i2) (bs []))).data.toList == (e2_1).data.toList) then
          k i2
        else
          label_kindOf.g0 e2_1 e2_2  k d2 (i2 + 1)
      else
        label_kindOf.g0 e2_1 e2_2  k d2 (i2 + 1)
    else
      none
theorem label_kindOf.h0 {Ω : Type} (e2_1 : ByteArray) (e2_2 : (List ByteArray))   (k : Int → Option Ω) (hN : (9 : Int) ≤ 9223372036854775807) : ∀ (m : Nat) (i : Int) (a : Unit), -9223372036854775808 ≤ i → Int.toNat ((9 : Int) - i) < m → Le (label_kindOf.g0 e2_1 e2_2  k (Int.toNat ((9 : Int) - i)) i) (iter (label_kindOf.B0 BIG e2_1 e2_2  k) m (i)) :=
  iter_count (9 : Int) (fun i2 => (decide (i2 < 9))) (fun i => rfl) (fun (i2 : Int) (a2 : Unit) => (i2)) (fun xs i2 a2 => label_kindOf.g0 e2_1 e2_2  k xs i2) (label_kindOf.B0 BIG e2_1 e2_2  k)
    (fun i2 a2 r h0 => (Le.fls h0 (Le.refl _)))
    (fun i2 d2 a2 r h0 hw ih => (Le.tru h0 (Le.cond (Le.cond (Le.cond (Le.refl _) (ih _ hw ())) (ih _ hw ())) Le.nil)))
    hN
def label_kindOf.w {Ω : Type} (x0 : ByteArray) (k : Int → Option Ω) : Option Ω :=
  label_kindOf.g0 x0 label_names.t  k ((Int.toNat ((9 : Int) - 0))) 0
theorem label_kindOf.le {Ω : Type} (x0 : ByteArray) (k : Int → Option Ω) : Le (label_kindOf.w x0 k) (label_kindOf.s BIG x0 k) := by
  delta label_kindOf.w label_kindOf.s label_kindOf.sl
  exact (label_kindOf.h0 _ _   k (by decide) BIG 0 () (by decide) (by decide))
def label_kindOf.u (x0 : ByteArray) : Option (Int) := label_kindOf.w x0 some
theorem label_kindOf.c (x0 : ByteArray) (r : Int) (h : label_kindOf.u x0 = some r) : Contract C 61 [(.v .str (x0))] (tupAV (.int .i64) [] r) :=
  contract_s (S := fun k => label_kindOf.s BIG x0 k) C_ok (orS_ok label_names.e_ok noS_ok) (by kernel_rfl) (by kernel_rfl) (by kernel_rfl) (label_kindOf.ev BIG x0 (dec (.int .i64) [])) (label_kindOf.le x0 some r h)
noncomputable def label_kindOf.e : Ent := argI .str fun x0 => endU (label_kindOf.u x0) (tupAV (.int .i64) [])
theorem label_kindOf.e_ok : EntOK C 61 (fun {_} => label_kindOf.e) := entA_ok (argI_ok fun x0 => endU_ok fun r h => label_kindOf.c x0 r h)

/-- becket label.numbers -/
noncomputable def label_numbers.sp : Spec := (orS 68 (fun {_} => strings_HasPrefix.e) (orS 67 (fun {_} => word_Parse.e) (orS 52 (fun {_} => strings_CutPrefix.e) noS)))
def label_numbers.F (fuel : Nat) : Fuel := ⟨fuel, fun r => bif r == 4 then [0, 2, 3, 4, 5, 8, 9, 10, 11, 12, 13, 17, 18, 19, 20, 21, 22, 23, 24, 25, 26, 27, 28, 29, 30, 31, 32, 33, 34, 35, 36, 37, 38, 39, 40, 41, 42, 43, 44, 45, 46, 47, 48, 49, 50, 51, 52, 53, 54, 55, 56, 57, 58, 59, 60, 61, 62, 63] else []⟩
def label_numbers.E0 (e4_1 : Int) (e4_2 : (List ByteArray)) (e4_3 : Int) (s4 : Int × Int × (List Int)) : List AV := [.dead, (.v (.int .i64) (e4_1)), .dead, .dead, .dead, .dead, (.rs 1), (.v (.int .i64) (s4.1)), .dead, .dead, .dead, .dead, .dead, .dead, (.v (.slice .str) (e4_2)), (.v (.int .i64) (e4_3)), (.v (.int .i64) (s4.2.1)), .dead, .dead, .dead, .dead, .dead, .dead, .dead, .dead, .dead, .dead, .dead, .dead, .dead, .dead, .dead, .dead, .dead, .dead, .dead, .dead, .dead, .dead, .dead, .dead, .dead, .dead, .dead, .dead, .dead, .dead, .dead, .dead, .dead, .dead, .dead, .dead, .dead, .dead, .dead, .dead, .dead, .dead, .dead, .dead, .dead, .dead, .dead]
def label_numbers.H0 (e4_1 : Int) (e4_2 : (List ByteArray)) (e4_3 : Int) (s4 : Int × Int × (List Int)) : Heap := [(.row 3 (.int .i64) [] false), (.row 3 (.int .i64) s4.2.2 false)]
noncomputable def label_numbers.M0 {Ω : Type} (fuel : Nat) (e4_1 : Int) (e4_2 : (List ByteArray)) (e4_3 : Int)  (k : AV → Option Ω) (m : Nat) (s : Int × Int × (List Int)) : Option Ω := loopK (fun env L k => evCode C label_numbers.sp (label_numbers.F fuel) (cl (cl (cr (cl (cr (cr (cr (Tryd.f62.body.getD .skip)))))))) env L k) [true, false, true, true, true, true, false, false, true, true, true, true, true, true, false, false, false, true, true, true, true, true, true, true, true, true, true, true, true, true, true, true, true, true, true, true, true, true, true, true, true, true, true, true, true, true, true, true, true, true, true, true, true, true, true, true, true, true, true, true, true, true, true, true] [] 2 (blockK 0 (seqK (fun env L => evCode C label_numbers.sp (label_numbers.F fuel) (cr (cr (cr (cr (Tryd.f62.body.getD .skip))))) env L (finK C Tryd.f62 k)) (finK C Tryd.f62 k))) m ((label_numbers.E0 e4_1 e4_2 e4_3) s) ((label_numbers.H0 e4_1 e4_2 e4_3) s)
def label_numbers.b0 {Ω : Type} (e4_1 : Int) (e4_2 : (List ByteArray)) (e4_3 : Int)   (k : (List Int) × Int → Option Ω) (r4 : Int × Int × (List Int) → Option Ω) (s4 : Int × Int × (List Int)) : Option Ω :=
  bif (decide (s4.2.1 < e4_3)) then
    bif (idxOK s4.2.1 (List.length e4_2)) then
      bif (e4_1 == 4) then
        bif (s4.2.1 == 1) then
          (strings_CutPrefix.u ((List.getD e4_2 (Int.toNat s4.2.1) (bs []))) (bs [107])).bind fun y1 =>
          bif (!y1.2) then
            k ([], 3)
          else
            (word_Parse.u y1.1).bind fun y2 =>
            bif (y2.2 == 3) then
              k ([], 3)
            else
              (strings_HasPrefix.u y1.1 (bs [45])).bind fun y3 =>
              bif y3 then
                bif (e4_1 != 2) then
                  k ([], 3)
                else
                  bif (s4.2.1 == 0) then
                    k ([], 3)
                  else
                    bif (decide (List.length s4.2.2 + List.length [y2.1] ≤ rowMax)) then
                      r4 ((if (y2.2 : Int) > s4.1 then y2.2 else s4.1), (IntKind.wrap .i64 (s4.2.1 + 1)), (s4.2.2 ++ [y2.1]))
                    else
                      none
              else
                bif (decide (List.length s4.2.2 + List.length [y2.1] ≤ rowMax)) then
                  r4 ((if (y2.2 : Int) > s4.1 then y2.2 else s4.1), (IntKind.wrap .i64 (s4.2.1 + 1)), (s4.2.2 ++ [y2.1]))
                else
                  none
        else
          (word_Parse.u ((List.getD e4_2 (Int.toNat s4.2.1) (bs [])))).bind fun y4 =>
          bif (y4.2 == 3) then
            k ([], 3)
          else
            (strings_HasPrefix.u ((List.getD e4_2 (Int.toNat s4.2.1) (bs []))) (bs [45])).bind fun y5 =>
            bif y5 then
              bif (e4_1 != 2) then
                k ([], 3)
              else
                bif (s4.2.1 == 0) then
                  k ([], 3)
                else
                  bif (decide (List.length s4.2.2 + List.length [y4.1] ≤ rowMax)) then
                    r4 ((if (y4.2 : Int) > s4.1 then y4.2 else s4.1), (IntKind.wrap .i64 (s4.2.1 + 1)), (s4.2.2 ++ [y4.1]))
                  else
                    none
            else
              bif (decide (List.length s4.2.2 + List.length [y4.1] ≤ rowMax)) then
                r4 ((if (y4.2 : Int) > s4.1 then y4.2 else s4.1), (IntKind.wrap .i64 (s4.2.1 + 1)), (s4.2.2 ++ [y4.1]))
              else
                none
      else
        (word_Parse.u ((List.getD e4_2 (Int.toNat s4.2.1) (bs [])))).bind fun y6 =>
        bif (y6.2 == 3) then
          k ([], 3)
        else
          (strings_HasPrefix.u ((List.getD e4_2 (Int.toNat s4.2.1) (bs []))) (bs [45])).bind fun y7 =>
          bif y7 then
            bif (e4_1 != 2) then
              k ([], 3)
            else
              bif (s4.2.1 == 0) then
                k ([], 3)
              else
                bif (decide (List.length s4.2.2 + List.length [y6.1] ≤ rowMax)) then
                  r4 ((if (y6.2 : Int) > s4.1 then y6.2 else s4.1), (IntKind.wrap .i64 (s4.2.1 + 1)), (s4.2.2 ++ [y6.1]))
                else
                  none
          else
            bif (decide (List.length s4.2.2 + List.length [y6.1] ≤ rowMax)) then
              r4 ((if (y6.2 : Int) > s4.1 then y6.2 else s4.1), (IntKind.wrap .i64 (s4.2.1 + 1)), (s4.2.2 ++ [y6.1]))
            else
              none
    else
      none
  else
    k (s4.2.2, s4.1)
def label_numbers.B0 {Ω : Type} (fuel : Nat) (e4_1 : Int) (e4_2 : (List ByteArray)) (e4_3 : Int)  (k : (List Int) × Int → Option Ω) (r4 : Int × Int × (List Int) → Option Ω) (s4 : Int × Int × (List Int)) : Option Ω := label_numbers.b0 e4_1 e4_2 e4_3   k r4 s4
theorem label_numbers.l0 {Ω : Type} (fuel : Nat) (e4_1 : Int) (e4_2 : (List ByteArray)) (e4_3 : Int)  (k : AV → Option Ω) : ∀ m, (label_numbers.M0 fuel e4_1 e4_2 e4_3  k m) = iter (label_numbers.B0 fuel e4_1 e4_2 e4_3  (fun r => k (tupAV (.slice (.int .i64)) [(.int .i64)] r))) m :=
  loopK_iter (envOf := (label_numbers.E0 e4_1 e4_2 e4_3)) (LOf := (label_numbers.H0 e4_1 e4_2 e4_3)) (B := label_numbers.B0 fuel e4_1 e4_2 e4_3  (fun r => k (tupAV (.slice (.int .i64)) [(.int .i64)] r))) (fun R s => by kernel_rfl)
def label_numbers.sl {Ω : Type} (x0 : (List ByteArray)) (x1 : Int) (lp0 : Int → (List ByteArray) → Int → Int × Int × (List Int) → Option Ω) (k : (List Int) × Int → Option Ω) : Option Ω :=
  lp0 x1 x0 (((List.length x0 : Nat) : Int)) (0, 0, [])
def label_numbers.s {Ω : Type} (fuel : Nat) (x0 : (List ByteArray)) (x1 : Int) (k : (List Int) × Int → Option Ω) : Option Ω := label_numbers.sl x0 x1 (fun e4_1 e4_2 e4_3 => (iter (label_numbers.B0 fuel e4_1 e4_2 e4_3  k) fuel)) k
theorem label_numbers.ev {Ω : Type} (fuel : Nat) (x0 : (List ByteArray)) (x1 : Int) (k : AV → Option Ω) : evFn C label_numbers.sp (label_numbers.F fuel) Tryd.f62 (Tryd.f62.body.getD .skip) [(.v (.slice .str) (x0)), (.v (.int .i64) (x1))] k = label_numbers.s fuel x0 x1 (fun r => k (tupAV (.slice (.int .i64)) [(.int .i64)] r)) := by
  have h0 : evFn C label_numbers.sp (label_numbers.F fuel) Tryd.f62 (Tryd.f62.body.getD .skip) [(.v (.slice .str) (x0)), (.v (.int .i64) (x1))] k = label_numbers.sl x0 x1 (fun e4_1 e4_2 e4_3 => (label_numbers.M0 fuel e4_1 e4_2 e4_3  k fuel)) (fun r => k (tupAV (.slice (.int .i64)) [(.int .i64)] r)) := by kernel_rfl
  have h1 : (fun e4_1 e4_2 e4_3 => (label_numbers.M0 fuel e4_1 e4_2 e4_3  k fuel)) = (fun e4_1 e4_2 e4_3 => (iter (label_numbers.B0 fuel e4_1 e4_2 e4_3  (fun r => k (tupAV (.slice (.int .i64)) [(.int .i64)] r))) fuel)) := funext fun e4_1 => funext fun e4_2 => funext fun e4_3 => label_numbers.l0 fuel e4_1 e4_2 e4_3   k fuel
  rw [h1] at h0
  exact h0
def label_numbers.g0 {Ω : Type} (e4_1 : Int) (e4_2 : (List ByteArray))  (k : (List Int) × Int → Option Ω) : List ByteArray → Int → Int → (List Int) → Option Ω
  | [], a4_0, i4, a4_2 =>
    k (a4_2, a4_0)
  | x4 :: xs4, a4_0, i4, a4_2 =>
    bif (e4_1 == 4) then
      bif (i4 == 1) then
        (strings_CutPrefix.u (x4) (bs [107])).bind fun y1 =>
        bif (!y1.2) then
          k ([], 3)
        else
          (word_Parse.u y1.1).bind fun y2 =>
          bif (y2.2 == 3) then
            k ([], 3)
          else
            (strings_HasPrefix.u y1.1 (bs [45])).bind fun y3 =>
            bif y3 then
              bif (e4_1 != 2) then
                k ([], 3)
              else
                bif (i4 == 0) then
                  k ([], 3)
                else
                  bif (decide (List.length a4_2 + List.length [y2.1] ≤ rowMax)) then
                    label_numbers.g0 e4_1 e4_2  k xs4 ((if (y2.2 : Int) > a4_0 then y2.2 else a4_0)) (i4 + 1) (a4_2 ++ [y2.1])
                  else
                    none
            else
              bif (decide (List.length a4_2 + List.length [y2.1] ≤ rowMax)) then
                label_numbers.g0 e4_1 e4_2  k xs4 ((if (y2.2 : Int) > a4_0 then y2.2 else a4_0)) (i4 + 1) (a4_2 ++ [y2.1])
              else
                none
      else
        (word_Parse.u (x4)).bind fun y4 =>
        bif (y4.2 == 3) then
          k ([], 3)
        else
          (strings_HasPrefix.u (x4) (bs [45])).bind fun y5 =>
          bif y5 then
            bif (e4_1 != 2) then
              k ([], 3)
            else
              bif (i4 == 0) then
                k ([], 3)
              else
                bif (decide (List.length a4_2 + List.length [y4.1] ≤ rowMax)) then
                  label_numbers.g0 e4_1 e4_2  k xs4 ((if (y4.2 : Int) > a4_0 then y4.2 else a4_0)) (i4 + 1) (a4_2 ++ [y4.1])
                else
                  none
          else
            bif (decide (List.length a4_2 + List.length [y4.1] ≤ rowMax)) then
              label_numbers.g0 e4_1 e4_2  k xs4 ((if (y4.2 : Int) > a4_0 then y4.2 else a4_0)) (i4 + 1) (a4_2 ++ [y4.1])
            else
              none
    else
      (word_Parse.u (x4)).bind fun y6 =>
      bif (y6.2 == 3) then
        k ([], 3)
      else
        (strings_HasPrefix.u (x4) (bs [45])).bind fun y7 =>
        bif y7 then
          bif (e4_1 != 2) then
            k ([], 3)
          else
            bif (i4 == 0) then
              k ([], 3)
            else
              bif (decide (List.length a4_2 + List.length [y6.1] ≤ rowMax)) then
                label_numbers.g0 e4_1 e4_2  k xs4 ((if (y6.2 : Int) > a4_0 then y6.2 else a4_0)) (i4 + 1) (a4_2 ++ [y6.1])
              else
                none
        else
          bif (decide (List.length a4_2 + List.length [y6.1] ≤ rowMax)) then
            label_numbers.g0 e4_1 e4_2  k xs4 ((if (y6.2 : Int) > a4_0 then y6.2 else a4_0)) (i4 + 1) (a4_2 ++ [y6.1])
          else
            none
theorem label_numbers.h0 {Ω : Type} (e4_1 : Int) (e4_2 : (List ByteArray))   (k : (List Int) × Int → Option Ω) (hX : ((List.length e4_2 : Nat) : Int) ≤ 9223372036854775807) : ∀ (m : Nat) (i : Int) (a : Int × (List Int)), 0 ≤ i → i ≤ ((List.length e4_2 : Nat) : Int) → ((List.length e4_2 : Nat) : Int) < m + i → Le (label_numbers.g0 e4_1 e4_2  k (List.drop (Int.toNat i) e4_2) a.1 i a.2) (iter (label_numbers.B0 BIG e4_1 e4_2 (((List.length e4_2 : Nat) : Int))  k) m (a.1, i, a.2)) :=
  iter_list e4_2 (bs []) (fun (i4 : Int) (a4 : Int × (List Int)) => (a4.1, i4, a4.2)) (fun xs i4 a4 => label_numbers.g0 e4_1 e4_2  k xs a4.1 i4 a4.2) (label_numbers.B0 BIG e4_1 e4_2 (((List.length e4_2 : Nat) : Int))  k)
    (fun i4 a4 r h0 => (Le.fls h0 (Le.refl _)))
    (fun i4 xs4 a4 r h0 h1 hw ih => (Le.tru h0 (Le.tru h1 (Le.cond (Le.cond (Le.bnd fun y1 => (Le.cond (Le.refl _) (Le.bnd fun y2 => (Le.cond (Le.refl _) (Le.bnd fun y3 => (Le.cond (Le.cond (Le.refl _) (Le.cond (Le.refl _) (Le.cond (ih _ hw ((if (y2.2 : Int) > a4.1 then y2.2 else a4.1), (a4.2 ++ [y2.1]))) Le.nil))) (Le.cond (ih _ hw ((if (y2.2 : Int) > a4.1 then y2.2 else a4.1), (a4.2 ++ [y2.1]))) Le.nil))))))) (Le.bnd fun y4 => (Le.cond (Le.refl _) (Le.bnd fun y5 => (Le.cond (Le.cond (Le.refl _) (Le.cond (Le.refl _) (Le.cond (ih _ hw ((if (y4.2 : Int) > a4.1 then y4.2 else a4.1), (a4.2 ++ [y4.1]))) Le.nil))) (Le.cond (ih _ hw ((if (y4.2 : Int) > a4.1 then y4.2 else a4.1), (a4.2 ++ [y4.1]))) Le.nil)))))) (Le.bnd fun y6 => (Le.cond (Le.refl _) (Le.bnd fun y7 => (Le.cond (Le.cond (Le.refl _) (Le.cond (Le.refl _) (Le.cond (ih _ hw ((if (y6.2 : Int) > a4.1 then y6.2 else a4.1), (a4.2 ++ [y6.1]))) Le.nil))) (Le.cond (ih _ hw ((if (y6.2 : Int) > a4.1 then y6.2 else a4.1), (a4.2 ++ [y6.1]))) Le.nil)))))))))
    hX
def label_numbers.w {Ω : Type} (x0 : (List ByteArray)) (x1 : Int) (k : (List Int) × Int → Option Ω) : Option Ω :=
  bif decide (((List.length x0 : Nat) : Int) ≤ 4611686018427387904) then label_numbers.g0 x1 x0  k x0 0 0 ([]) else none
theorem label_numbers.le {Ω : Type} (x0 : (List ByteArray)) (x1 : Int) (k : (List Int) × Int → Option Ω) : Le (label_numbers.w x0 x1 k) (label_numbers.s BIG x0 x1 k) := by
  delta label_numbers.w label_numbers.s label_numbers.sl
  exact (Le.gd fun hg => label_numbers.h0 _ _   k (le_up (of_decide_eq_true hg)) BIG 0 (0, []) (by decide) (zero_le_len _) (big_list (of_decide_eq_true hg)))
def label_numbers.u (x0 : (List ByteArray)) (x1 : Int) : Option ((List Int) × Int) := label_numbers.w x0 x1 some
theorem label_numbers.c (x0 : (List ByteArray)) (x1 : Int) (r : (List Int) × Int) (h : label_numbers.u x0 x1 = some r) : Contract C 62 [(.v (.slice .str) (x0)), (.v (.int .i64) (x1))] (tupAV (.slice (.int .i64)) [(.int .i64)] r) :=
  contract_s (S := fun k => label_numbers.s BIG x0 x1 k) C_ok (orS_ok strings_HasPrefix.e_ok (orS_ok word_Parse.e_ok (orS_ok strings_CutPrefix.e_ok noS_ok))) (by kernel_rfl) (by kernel_rfl) (by kernel_rfl) (label_numbers.ev BIG x0 x1 (dec (.slice (.int .i64)) [(.int .i64)])) (label_numbers.le x0 x1 some r h)
noncomputable def label_numbers.e : Ent := argI (.slice .str) fun x0 => argI (.int .i64) fun x1 => endU (label_numbers.u x0 x1) (tupAV (.slice (.int .i64)) [(.int .i64)])
theorem label_numbers.e_ok : EntOK C 62 (fun {_} => label_numbers.e) := by
  refine entA_ok ?_
  refine argI_ok fun x0 => ?_
  refine argI_ok fun x1 => ?_
  refine endU_ok fun r h => ?_
  exact label_numbers.c x0 x1 r h

/-- becket label.Parse -/
noncomputable def label_Parse.sp : Spec := (orS 62 (fun {_} => label_numbers.e) (orS 61 (fun {_} => label_kindOf.e) (orS 44 (fun {_} => strings_Split.e) (orS 43 (fun {_} => strings_Cut.e) (orS 35 (fun {_} => label_valued.e) (orS 24 (fun {_} => event_Parse.e) (orS 11 (fun {_} => label_Check.e) noS)))))))
def label_Parse.s {Ω : Type} (x0 : ByteArray) (k : T_s24 × Int → Option Ω) : Option Ω :=
  (strings_Cut.u x0 (bs [32])).bind fun y1 =>
  (label_kindOf.u y1.1).bind fun y2 =>
  bif (y2 == 0) then
    (event_Parse.u x0).bind fun y3 =>
    bif (y3.2 != 0) then
      k ((0, (0, (0, ((0, (0, (0, (0, ())))), ())))), y3.2)
    else
      k ((7, (0, (0, (y3.1, ())))), 0)
  else
    bif (label_valued.t y2) then
      bif (y2 != 8) then
        (strings_Split.u y1.2.1 (bs [32])).bind fun y4 =>
        bif (!y1.2.2) then
          k ((0, (0, (0, ((0, (0, (0, (0, ())))), ())))), 3)
        else
          bif (((List.length y4 : Nat) : Int) != 2) then
            k ((0, (0, (0, ((0, (0, (0, (0, ())))), ())))), 3)
          else
            (label_numbers.u y4 y2).bind fun y5 =>
            bif (y5.2 != 0) then
              k ((0, (0, (0, ((0, (0, (0, (0, ())))), ())))), y5.2)
            else
              bif (y2 == 8) then
                bif (idxOK 0 (List.length y5.1)) then
                  bif ((label_Check.t ((y2, (0, ((List.getD y5.1 0 0), ((0, (0, (0, (0, ())))), ())))))) != 0) then
                    k ((0, (0, (0, ((0, (0, (0, (0, ())))), ())))), (label_Check.t ((y2, (0, ((List.getD y5.1 0 0), ((0, (0, (0, (0, ())))), ())))))))
                  else
                    k ((y2, (0, ((List.getD y5.1 0 0), ((0, (0, (0, (0, ())))), ())))), 0)
                else
                  none
              else
                bif (idxOK 0 (List.length y5.1)) then
                  bif (idxOK 1 (List.length y5.1)) then
                    let v6 : Int := (label_Check.t ((y2, ((List.getD y5.1 0 0), ((List.getD y5.1 1 0), ((0, (0, (0, (0, ())))), ()))))))
                    bif (v6 != 0) then
                      k ((0, (0, (0, ((0, (0, (0, (0, ())))), ())))), v6)
                    else
                      k ((y2, ((List.getD y5.1 0 0), ((List.getD y5.1 1 0), ((0, (0, (0, (0, ())))), ())))), 0)
                  else
                    none
                else
                  none
      else
        (strings_Split.u y1.2.1 (bs [32])).bind fun y7 =>
        bif (!y1.2.2) then
          k ((0, (0, (0, ((0, (0, (0, (0, ())))), ())))), 3)
        else
          bif (((List.length y7 : Nat) : Int) != 1) then
            k ((0, (0, (0, ((0, (0, (0, (0, ())))), ())))), 3)
          else
            (label_numbers.u y7 y2).bind fun y8 =>
            bif (y8.2 != 0) then
              k ((0, (0, (0, ((0, (0, (0, (0, ())))), ())))), y8.2)
            else
              bif (y2 == 8) then
                bif (idxOK 0 (List.length y8.1)) then
                  bif ((label_Check.t ((y2, (0, ((List.getD y8.1 0 0), ((0, (0, (0, (0, ())))), ())))))) != 0) then
                    k ((0, (0, (0, ((0, (0, (0, (0, ())))), ())))), (label_Check.t ((y2, (0, ((List.getD y8.1 0 0), ((0, (0, (0, (0, ())))), ())))))))
                  else
                    k ((y2, (0, ((List.getD y8.1 0 0), ((0, (0, (0, (0, ())))), ())))), 0)
                else
                  none
              else
                bif (idxOK 0 (List.length y8.1)) then
                  bif ((label_Check.t ((y2, ((List.getD y8.1 0 0), (0, ((0, (0, (0, (0, ())))), ())))))) != 0) then
                    k ((0, (0, (0, ((0, (0, (0, (0, ())))), ())))), (label_Check.t ((y2, ((List.getD y8.1 0 0), (0, ((0, (0, (0, (0, ())))), ())))))))
                  else
                    k ((y2, ((List.getD y8.1 0 0), (0, ((0, (0, (0, (0, ())))), ())))), 0)
                else
                  none
    else
      (strings_Split.u y1.2.1 (bs [32])).bind fun y9 =>
      bif (!y1.2.2) then
        k ((0, (0, (0, ((0, (0, (0, (0, ())))), ())))), 3)
      else
        bif (((List.length y9 : Nat) : Int) != 1) then
          k ((0, (0, (0, ((0, (0, (0, (0, ())))), ())))), 3)
        else
          (label_numbers.u y9 y2).bind fun y10 =>
          bif (y10.2 != 0) then
            k ((0, (0, (0, ((0, (0, (0, (0, ())))), ())))), y10.2)
          else
            bif (y2 == 8) then
              bif (idxOK 0 (List.length y10.1)) then
                bif ((label_Check.t ((y2, (0, ((List.getD y10.1 0 0), ((0, (0, (0, (0, ())))), ())))))) != 0) then
                  k ((0, (0, (0, ((0, (0, (0, (0, ())))), ())))), (label_Check.t ((y2, (0, ((List.getD y10.1 0 0), ((0, (0, (0, (0, ())))), ())))))))
                else
                  k ((y2, (0, ((List.getD y10.1 0 0), ((0, (0, (0, (0, ())))), ())))), 0)
              else
                none
            else
              bif (idxOK 0 (List.length y10.1)) then
                bif ((label_Check.t ((y2, ((List.getD y10.1 0 0), (0, ((0, (0, (0, (0, ())))), ())))))) != 0) then
                  k ((0, (0, (0, ((0, (0, (0, (0, ())))), ())))), (label_Check.t ((y2, ((List.getD y10.1 0 0), (0, ((0, (0, (0, (0, ())))), ())))))))
                else
                  k ((y2, ((List.getD y10.1 0 0), (0, ((0, (0, (0, (0, ())))), ())))), 0)
              else
                none
theorem label_Parse.ev {Ω : Type} (fuel : Fuel) (x0 : ByteArray) (k : AV → Option Ω) : evFn CM label_Parse.sp fuel Tryd.f40 (Tryd.f40.body.getD .skip) [(.v .str (x0))] k = label_Parse.s x0 (fun r => k (tupAV E_s24 [(.int .i64)] r)) := by kernel_rfl
def label_Parse.u (x0 : ByteArray) : Option (T_s24 × Int) := label_Parse.s x0 some
theorem label_Parse.c (x0 : ByteArray) (r : T_s24 × Int) (h : label_Parse.u x0 = some r) : Contract CM 40 [(.v .str (x0))] (tupAV E_s24 [(.int .i64)] r) :=
  contract_s (S := fun k => label_Parse.s x0 k) CM_ok (orS_ok (label_numbers.e_ok.mono le_C_CM) (orS_ok (label_kindOf.e_ok.mono le_C_CM) (orS_ok strings_Split.e_ok (orS_ok (strings_Cut.e_ok.mono le_C_CM) (orS_ok (label_valued.e_ok.mono le_C_CM) (orS_ok event_Parse.e_ok (orS_ok (label_Check.e_ok.mono le_C_CM) noS_ok))))))) (by kernel_rfl) (by kernel_rfl) (by kernel_rfl) (label_Parse.ev ⟨1, fun _ => []⟩ x0 (dec E_s24 [(.int .i64)])) h
noncomputable def label_Parse.e : Ent := argI .str fun x0 => endU (label_Parse.u x0) (tupAV E_s24 [(.int .i64)])
theorem label_Parse.e_ok : EntOK CM 40 (fun {_} => label_Parse.e) := entA_ok (argI_ok fun x0 => endU_ok fun r h => label_Parse.c x0 r h)

/-- becket label.Read -/
noncomputable def label_Read.sp : Spec := (orS 43 (fun {_} => strings_Cut.e) (orS 40 (fun {_} => label_Parse.e) noS))
def label_Read.F (fuel : Nat) : Fuel := ⟨fuel, fun r => bif r == 3 then [1, 2, 3, 4, 8, 9, 10, 11, 12, 13, 14, 15, 16, 17, 18, 19, 20, 21, 22, 23, 24, 25, 26, 27, 28, 29, 30, 31, 32, 33, 34, 35, 36, 37, 38, 39, 40, 41, 42] else []⟩
def label_Read.E0  (s3 : ByteArray × Int × (List T_s24)) : List AV := [(.v .str (s3.1)), .dead, .dead, .dead, .dead, (.rs 1), (.v (.int .i64) (s3.2.1)), (.v (.int .i64) (0)), .dead, .dead, .dead, .dead, .dead, .dead, .dead, .dead, .dead, .dead, .dead, .dead, .dead, .dead, .dead, .dead, .dead, .dead, .dead, .dead, .dead, .dead, .dead, .dead, .dead, .dead, .dead, .dead, .dead, .dead, .dead, .dead, .dead, .dead, .dead]
def label_Read.H0  (s3 : ByteArray × Int × (List T_s24)) : Heap := [(.row 31 E_s24 [] false), (.row 31 E_s24 s3.2.2 false)]
noncomputable def label_Read.M0 {Ω : Type} (fuel : Nat)   (k : AV → Option Ω) (m : Nat) (s : ByteArray × Int × (List T_s24)) : Option Ω := loopK (fun env L k => evCode CM label_Read.sp (label_Read.F fuel) (cl (cl (cl (cr (cr (cr (cl (cr (Tryd.f16.body.getD .skip))))))))) env L k) [false, true, true, true, true, false, false, false, true, true, true, true, true, true, true, true, true, true, true, true, true, true, true, true, true, true, true, true, true, true, true, true, true, true, true, true, true, true, true, true, true, true, true] [] 2 (blockK 0 (seqK (fun env L => evCode CM label_Read.sp (label_Read.F fuel) (cr (cr (cr (cr (cl (cr (Tryd.f16.body.getD .skip))))))) env L (finK CM Tryd.f16 k)) (finK CM Tryd.f16 k))) m ((label_Read.E0 ) s) ((label_Read.H0 ) s)
def label_Read.b0 {Ω : Type}    (k : (List T_s24) × Int × Int → Option Ω) (r3 : ByteArray × Int × (List T_s24) → Option Ω) (s3 : ByteArray × Int × (List T_s24)) : Option Ω :=
  bif (!((s3.1).data.toList == ((bs [])).data.toList)) then
    (strings_Cut.u s3.1 (bs [10])).bind fun y1 =>
    (label_Parse.u y1.1).bind fun y2 =>
    bif (!y1.2.2) then
      k ([], (IntKind.wrap .i64 (s3.2.1 + 1)), 3)
    else
      bif (y2.2 != 0) then
        bif (y2.2 != 0) then
          k ([], (IntKind.wrap .i64 (s3.2.1 + 1)), y2.2)
        else
          k (s3.2.2, 0, 0)
      else
        bif (decide (List.length s3.2.2 + List.length [y2.1] ≤ rowMax)) then
          r3 (y1.2.1, (IntKind.wrap .i64 (s3.2.1 + 1)), (s3.2.2 ++ [y2.1]))
        else
          none
  else
    k (s3.2.2, 0, 0)
def label_Read.B0 {Ω : Type} (fuel : Nat)   (k : (List T_s24) × Int × Int → Option Ω) (r3 : ByteArray × Int × (List T_s24) → Option Ω) (s3 : ByteArray × Int × (List T_s24)) : Option Ω := label_Read.b0    k r3 s3
theorem label_Read.l0 {Ω : Type} (fuel : Nat)   (k : AV → Option Ω) : ∀ m, (label_Read.M0 fuel   k m) = iter (label_Read.B0 fuel   (fun r => k (tupAV (.slice E_s24) [(.int .i64), (.int .i64)] r))) m :=
  loopK_iter (envOf := (label_Read.E0 )) (LOf := (label_Read.H0 )) (B := label_Read.B0 fuel   (fun r => k (tupAV (.slice E_s24) [(.int .i64), (.int .i64)] r))) (fun R s => by kernel_rfl)
def label_Read.sl {Ω : Type} (x0 : ByteArray) (lp0 : ByteArray × Int × (List T_s24) → Option Ω) (k : (List T_s24) × Int × Int → Option Ω) : Option Ω :=
  lp0 (x0, 0, [])
def label_Read.s {Ω : Type} (fuel : Nat) (x0 : ByteArray) (k : (List T_s24) × Int × Int → Option Ω) : Option Ω := label_Read.sl x0 (iter (label_Read.B0 fuel   k) fuel) k
theorem label_Read.ev {Ω : Type} (fuel : Nat) (x0 : ByteArray) (k : AV → Option Ω) : evFn CM label_Read.sp (label_Read.F fuel) Tryd.f16 (Tryd.f16.body.getD .skip) [(.v .str (x0))] k = label_Read.s fuel x0 (fun r => k (tupAV (.slice E_s24) [(.int .i64), (.int .i64)] r)) := by
  have h0 : evFn CM label_Read.sp (label_Read.F fuel) Tryd.f16 (Tryd.f16.body.getD .skip) [(.v .str (x0))] k = label_Read.sl x0 (label_Read.M0 fuel   k fuel) (fun r => k (tupAV (.slice E_s24) [(.int .i64), (.int .i64)] r)) := by kernel_rfl
  have h1 : (label_Read.M0 fuel   k fuel) = (iter (label_Read.B0 fuel   (fun r => k (tupAV (.slice E_s24) [(.int .i64), (.int .i64)] r))) fuel) := label_Read.l0 fuel    k fuel
  rw [h1] at h0
  exact h0
def label_Read.gb0 {Ω : Type}   (k : (List T_s24) × Int × Int → Option Ω) (r3 : ByteArray × Int × (List T_s24) → Option Ω) (s3 : ByteArray × Int × (List T_s24)) : Option Ω :=
  bif (!((s3.1).data.toList == ((bs [])).data.toList)) then
    (strings_Cut.u s3.1 (bs [10])).bind fun y1 =>
    (label_Parse.u y1.1).bind fun y2 =>
    bif (!y1.2.2) then
      k ([], (IntKind.wrap .i64 (s3.2.1 + 1)), 3)
    else
      bif (y2.2 != 0) then
        bif (y2.2 != 0) then
          k ([], (IntKind.wrap .i64 (s3.2.1 + 1)), y2.2)
        else
          k (s3.2.2, 0, 0)
      else
        bif (decide (List.length s3.2.2 + List.length [y2.1] ≤ rowMax)) then
          r3 (y1.2.1, (IntKind.wrap .i64 (s3.2.1 + 1)), (s3.2.2 ++ [y2.1]))
        else
          none
  else
    k (s3.2.2, 0, 0)
def label_Read.g0 {Ω : Type}   (k : (List T_s24) × Int × Int → Option Ω) (s : ByteArray × Int × (List T_s24)) : Option Ω := iter (label_Read.gb0   k) BIG s
theorem label_Read.h0 {Ω : Type}    (k : (List T_s24) × Int × Int → Option Ω) (s : ByteArray × Int × (List T_s24)) : Le (label_Read.g0   k s) (iter (label_Read.B0 BIG   k) BIG s) :=
  iter_le (B := label_Read.gb0   k) (B' := (label_Read.B0 BIG   k)) (fun r3 r3' s3 ih => (Le.cond (Le.bnd fun y1 => (Le.bnd fun y2 => (Le.cond (Le.refl _) (Le.cond (Le.cond (Le.refl _) (Le.refl _)) (Le.cond (ih _) Le.nil))))) (Le.refl _))) BIG s
def label_Read.w {Ω : Type} (x0 : ByteArray) (k : (List T_s24) × Int × Int → Option Ω) : Option Ω :=
  label_Read.g0   k (x0, 0, [])
theorem label_Read.le {Ω : Type} (x0 : ByteArray) (k : (List T_s24) × Int × Int → Option Ω) : Le (label_Read.w x0 k) (label_Read.s BIG x0 k) := by
  delta label_Read.w label_Read.s label_Read.sl
  exact (label_Read.h0    k _)
def label_Read.u (x0 : ByteArray) : Option ((List T_s24) × Int × Int) := label_Read.w x0 some
theorem label_Read.c (x0 : ByteArray) (r : (List T_s24) × Int × Int) (h : label_Read.u x0 = some r) : Contract CM 16 [(.v .str (x0))] (tupAV (.slice E_s24) [(.int .i64), (.int .i64)] r) :=
  contract_s (S := fun k => label_Read.s BIG x0 k) CM_ok (orS_ok (strings_Cut.e_ok.mono le_C_CM) (orS_ok label_Parse.e_ok noS_ok)) (by kernel_rfl) (by kernel_rfl) (by kernel_rfl) (label_Read.ev BIG x0 (dec (.slice E_s24) [(.int .i64), (.int .i64)])) (label_Read.le x0 some r h)
noncomputable def label_Read.e : Ent := argI .str fun x0 => endU (label_Read.u x0) (tupAV (.slice E_s24) [(.int .i64), (.int .i64)])
theorem label_Read.e_ok : EntOK CM 16 (fun {_} => label_Read.e) := entA_ok (argI_ok fun x0 => endU_ok fun r h => label_Read.c x0 r h)

/-- becket becketlaw35.alive -/
noncomputable def law35_alive.sp : Spec := (orS 40 (fun {_} => label_Parse.e) (orS 16 (fun {_} => label_Read.e) (orS 14 (fun {_} => label_Print.e) (orS 11 (fun {_} => label_Check.e) noS))))
def law35_alive.s {Ω : Type}  (k : Bool → Option Ω) : Option Ω :=
  (label_Print.u ([(2, (3, ((-5), ((0, (0, (0, (0, ())))), ())))), (4, (1, (0, ((0, (0, (0, (0, ())))), ())))), (7, (0, (0, ((2, (0, (0, (0, ())))), ()))))])).bind fun y1 =>
  (label_Read.u y1.1).bind fun y2 =>
  (label_Parse.u (bs [116, 105, 99, 107, 101, 100, 32, 50, 48])).bind fun y3 =>
  (label_Parse.u (bs [102, 97, 117, 108, 116, 101, 100, 32, 51, 32, 48])).bind fun y4 =>
  (label_Read.u (bs [100, 105, 100, 32, 49, 10, 100, 105, 100, 32, 50])).bind fun y5 =>
  let v6 : Bool := ((y1.1).data.toList == ((bs [116, 111, 108, 100, 32, 51, 32, 45, 53, 10, 102, 101, 108, 108, 32, 49, 32, 107, 48, 10, 112, 97, 115, 115, 32, 99, 48, 10])).data.toList)
  bif v6 then
    bif (y1.2 == 0) then
      bif (((List.length y2.1 : Nat) : Int) == 3) then
        bif (idxOK 0 (List.length y2.1)) then
          bif (idxOK 0 (List.length [(2, (3, ((-5), ((0, (0, (0, (0, ())))), ())))), (4, (1, (0, ((0, (0, (0, (0, ())))), ())))), (7, (0, (0, ((2, (0, (0, (0, ())))), ()))))])) then
            let v7 : T_s24 := (List.getD [(2, (3, ((-5), ((0, (0, (0, (0, ())))), ())))), (4, (1, (0, ((0, (0, (0, (0, ())))), ())))), (7, (0, (0, ((2, (0, (0, (0, ())))), ()))))] 0 (0, (0, (0, ((0, (0, (0, (0, ())))), ())))))
            bif (eqI E_s24 (List.getD y2.1 0 (0, (0, (0, ((0, (0, (0, (0, ())))), ()))))) v7) then
              bif (y2.2.1 == 0) then
                bif (y2.2.2 == 0) then
                  bif (y3.1.2.2.1 == 20) then
                    bif (y3.2 == 0) then
                      bif (y4.2 == 8) then
                        bif (y5.2.1 == 2) then
                          bif (y5.2.2 == 3) then
                            k ((label_Check.t ((0, (0, (0, ((0, (0, (0, (0, ())))), ())))))) == 12)
                          else
                            k false
                        else
                          k false
                      else
                        k false
                    else
                      k false
                  else
                    k false
                else
                  k false
              else
                k false
            else
              k false
          else
            none
        else
          none
      else
        k false
    else
      k false
  else
    k false
theorem law35_alive.ev {Ω : Type} (fuel : Fuel)  (k : AV → Option Ω) : evFn CMP law35_alive.sp fuel Tryd.f13 (Tryd.f13.body.getD .skip) [] k = law35_alive.s  (fun r => k (tupAV .bool [] r)) := by kernel_rfl
def law35_alive.u  : Option (Bool) := law35_alive.s  some
theorem law35_alive.c  (r : Bool) (h : law35_alive.u  = some r) : Contract CMP 13 [] (tupAV .bool [] r) :=
  contract_s (S := fun k => law35_alive.s  k) CMP_ok (orS_ok (label_Parse.e_ok.mono le_CM_CMP) (orS_ok (label_Read.e_ok.mono le_CM_CMP) (orS_ok label_Print.e_ok (orS_ok (label_Check.e_ok.mono le_C_CMP) noS_ok)))) (by kernel_rfl) (by kernel_rfl) (by kernel_rfl) (law35_alive.ev ⟨1, fun _ => []⟩  (dec .bool [])) h
noncomputable def law35_alive.e : Ent := endU (law35_alive.u ) (tupAV .bool [])
theorem law35_alive.e_ok : EntOK CMP 13 (fun {_} => law35_alive.e) := entA_ok (endU_ok fun r h => law35_alive.c  r h)

/-- becket becketlaw35.LabelTells -/
noncomputable def law35_LabelTells.sp : Spec := (orS 13 (fun {_} => law35_alive.e) (orS 12 (fun {_} => ref35_Check.e) (orS 11 (fun {_} => label_Check.e) (orS 10 (fun {_} => ref35_Text.e) (orS 9 (fun {_} => law35_one.e) (orS 8 (fun {_} => label_Text.e) noS))))))
noncomputable def law35_LabelTells.s {Ω : Type} (x0 : T_s24) (k : Bool → Option Ω) : Option Ω :=
  (law35_one.u x0).bind fun y1 =>
  (label_Text.u y1).bind fun y2 =>
  (ref35_Text.u x0).bind fun y3 =>
  (law35_one.u x0).bind fun y4 =>
  (ref35_Check.u x0).bind fun y5 =>
  bif ((label_Check.t y4) == y5) then
    bif ((y2.1).data.toList == (y3.1).data.toList) then
      bif (y2.2 == y3.2) then
        law35_alive.u.bind fun y6 =>
        k y6
      else
        k false
    else
      k false
  else
    k false
theorem law35_LabelTells.ev {Ω : Type} (fuel : Fuel) (x0 : T_s24) (k : AV → Option Ω) : evFn CMP law35_LabelTells.sp fuel Tryd.f3 (Tryd.f3.body.getD .skip) [(.v E_s24 (x0))] k = law35_LabelTells.s x0 (fun r => k (tupAV .bool [] r)) := by kernel_rfl
noncomputable def law35_LabelTells.u (x0 : T_s24) : Option (Bool) := law35_LabelTells.s x0 some
theorem law35_LabelTells.c (x0 : T_s24) (r : Bool) (h : law35_LabelTells.u x0 = some r) : Contract CMP 3 [(.v E_s24 (x0))] (tupAV .bool [] r) :=
  contract_s (S := fun k => law35_LabelTells.s x0 k) CMP_ok (orS_ok law35_alive.e_ok (orS_ok (ref35_Check.e_ok.mono le_C_CMP) (orS_ok (label_Check.e_ok.mono le_C_CMP) (orS_ok (ref35_Text.e_ok.mono le_C_CMP) (orS_ok (law35_one.e_ok.mono le_C_CMP) (orS_ok label_Text.e_ok noS_ok)))))) (by kernel_rfl) (by kernel_rfl) (by kernel_rfl) (law35_LabelTells.ev ⟨1, fun _ => []⟩ x0 (dec .bool [])) h
noncomputable def law35_LabelTells.e : Ent := argI E_s24 fun x0 => endU (law35_LabelTells.u x0) (tupAV .bool [])
theorem law35_LabelTells.e_ok : EntOK CMP 3 (fun {_} => law35_LabelTells.e) := entA_ok (argI_ok fun x0 => endU_ok fun r h => law35_LabelTells.c x0 r h)

end Go.Proofs.YtaednhofihnfkaaDoor.K

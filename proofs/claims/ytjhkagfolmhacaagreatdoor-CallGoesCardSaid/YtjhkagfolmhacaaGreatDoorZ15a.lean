/- What functions of the program come to, plainly. -/
import Derived.Test.YtjhkagfolmhacaaGreatDoorZ14
set_option maxRecDepth 100000
set_option linter.unusedVariables false
namespace Go.Proofs.YtjhkagfolmhacaaGreatDoor.K
open Go Go.RowKit

/-- becket call.asking -/
noncomputable def call_asking.sp : Spec := (orS 42 (fun {_} => interp_Step.e) (orS 41 (fun {_} => prog_Check.e) (orS 15 (fun {_} => frame_Fine.e) noS)))
def call_asking.s {Ω : Type} (x0 : (List T_s54)) (x1 : T_s25) (k : T_s54 × Int → Option Ω) : Option Ω :=
  (prog_Check.u x0).bind fun y1 =>
  bif (y1.2 != 0) then
    k ((0, (0, (0, (0, ())))), 1)
  else
    (frame_Fine.u x1).bind fun y2 =>
    bif (!y2) then
      k ((0, (0, (0, (0, ())))), 1)
    else
      (interp_Step.u x0 x1).bind fun y3 =>
      bif (y3.2.1 != 1) then
        k ((0, (0, (0, (0, ())))), 13)
      else
        bif (idxOK x1.1 (List.length x0)) then
          k ((List.getD x0 (Int.toNat x1.1) (0, (0, (0, (0, ()))))), 0)
        else
          none
theorem call_asking.ev {Ω : Type} (fuel : Fuel) (x0 : (List T_s54)) (x1 : T_s25) (k : AV → Option Ω) : evFn CKM call_asking.sp fuel Tryz.f18 (Tryz.f18.body.getD .skip) [(.v (.slice E_s54) (x0)), (.v E_s25 (x1))] k = call_asking.s x0 x1 (fun r => k (tupAV E_s54 [(.int .i64)] r)) := by kernel_rfl
def call_asking.u (x0 : (List T_s54)) (x1 : T_s25) : Option (T_s54 × Int) := call_asking.s x0 x1 some
theorem call_asking.c (x0 : (List T_s54)) (x1 : T_s25) (r : T_s54 × Int) (h : call_asking.u x0 x1 = some r) : Contract CKM 18 [(.v (.slice E_s54) (x0)), (.v E_s25 (x1))] (tupAV E_s54 [(.int .i64)] r) :=
  contract_s (S := fun k => call_asking.s x0 x1 k) CKM_ok (orS_ok interp_Step.e_ok (orS_ok (prog_Check.e_ok.mono le_CK_CKM) (orS_ok (frame_Fine.e_ok.mono le_C_CKM) noS_ok))) (by kernel_rfl) (by kernel_rfl) (by kernel_rfl) (call_asking.ev ⟨1, fun _ => []⟩ x0 x1 (dec E_s54 [(.int .i64)])) h
noncomputable def call_asking.e : Ent := argI (.slice E_s54) fun x0 => argI E_s25 fun x1 => endU (call_asking.u x0 x1) (tupAV E_s54 [(.int .i64)])
theorem call_asking.e_ok : EntOK CKM 18 (fun {_} => call_asking.e) := entA_ok (argI_ok fun x0 => argI_ok fun x1 => endU_ok fun r h => call_asking.c x0 x1 r h)

/-- (becket call.asker).deadline -/
noncomputable def call_asker_deadline.sp : Spec := (orS 64 (fun {_} => clock_After.e) noS)
def call_asker_deadline.s {Ω : Type} (x0 : T_s60) (x1 : Int) (k : Int → Option Ω) : Option Ω :=
  bif (idxOK x1 8) then
    let v1 : Int × Int := (clock_After.t x0.2.2.1 ((List.getD x0.2.1.2.2.1 (Int.toNat x1) 0)))
    k v1.1
  else
    none
theorem call_asker_deadline.ev {Ω : Type} (fuel : Fuel) (x0 : T_s60) (x1 : Int) (k : AV → Option Ω) : evFn C call_asker_deadline.sp fuel Tryz.f43 (Tryz.f43.body.getD .skip) [(.v E_s60 (x0)), (.v (.int .u8) (x1))] k = call_asker_deadline.s x0 x1 (fun r => k (tupAV (.int .i64) [] r)) := by kernel_rfl
def call_asker_deadline.u (x0 : T_s60) (x1 : Int) : Option (Int) := call_asker_deadline.s x0 x1 some
theorem call_asker_deadline.c (x0 : T_s60) (x1 : Int) (r : Int) (h : call_asker_deadline.u x0 x1 = some r) : Contract C 43 [(.v E_s60 (x0)), (.v (.int .u8) (x1))] (tupAV (.int .i64) [] r) :=
  contract_s (S := fun k => call_asker_deadline.s x0 x1 k) C_ok (orS_ok clock_After.e_ok noS_ok) (by kernel_rfl) (by kernel_rfl) (by kernel_rfl) (call_asker_deadline.ev ⟨1, fun _ => []⟩ x0 x1 (dec (.int .i64) [])) h
noncomputable def call_asker_deadline.e : Ent := argI E_s60 fun x0 => argI (.int .u8) fun x1 => endU (call_asker_deadline.u x0 x1) (tupAV (.int .i64) [])
theorem call_asker_deadline.e_ok : EntOK C 43 (fun {_} => call_asker_deadline.e) := entA_ok (argI_ok fun x0 => argI_ok fun x1 => endU_ok fun r h => call_asker_deadline.c x0 x1 r h)

/-- (becket call.asker).one -/
noncomputable def call_asker_one.sp : Spec := (orS 43 (fun {_} => call_asker_deadline.e) noS)
def call_asker_one.s {Ω : Type} (x0 : T_s60) (k : T_s44 → Option Ω) : Option Ω :=
  bif (x0.1.1 == 31) then
    bif (idxOK x0.1.2.1 8) then
      k (6, (0, ((List.getD x0.2.1.2.2.1 (Int.toNat x0.1.2.1) 0), ((IntKind.wrap .i64 x0.1.2.1), (0, ())))))
    else
      none
  else
    bif (x0.1.1 == 32) then
      (call_asker_deadline.u x0 x0.1.2.1).bind fun y1 =>
      k (4, (0, (y1, (0, (0, ())))))
    else
      bif (x0.1.1 == 44) then
        (call_asker_deadline.u x0 x0.1.2.1).bind fun y2 =>
        k (4, (0, (y2, (0, (0, ())))))
      else
        bif (x0.1.1 == 33) then
          bif (idxOK x0.1.2.2.1 8) then
            k (2, ((IntKind.wrap .i64 x0.1.2.1), ((List.getD x0.2.1.2.2.1 (Int.toNat x0.1.2.2.1) 0), (0, (0, ())))))
          else
            none
        else
          bif (x0.1.1 == 34) then
            k (1, ((IntKind.wrap .i64 x0.1.2.1), (0, ((IntKind.wrap .i64 x0.1.2.2.1), (0, ())))))
          else
            bif (x0.1.1 == 42) then
              k (1, ((IntKind.wrap .i64 x0.1.2.1), (0, ((IntKind.wrap .i64 x0.1.2.2.1), (0, ())))))
            else
              bif (x0.1.1 == 38) then
                k (3, ((IntKind.wrap .i64 x0.1.2.1), (0, (0, (0, ())))))
              else
                bif (x0.1.1 == 43) then
                  k (3, ((IntKind.wrap .i64 x0.1.2.1), (0, (0, (0, ())))))
                else
                  k (5, (0, (0, (0, (0, ())))))
theorem call_asker_one.ev {Ω : Type} (fuel : Fuel) (x0 : T_s60) (k : AV → Option Ω) : evFn C call_asker_one.sp fuel Tryz.f21 (Tryz.f21.body.getD .skip) [(.v E_s60 (x0))] k = call_asker_one.s x0 (fun r => k (tupAV E_s44 [] r)) := by kernel_rfl
def call_asker_one.u (x0 : T_s60) : Option (T_s44) := call_asker_one.s x0 some
theorem call_asker_one.c (x0 : T_s60) (r : T_s44) (h : call_asker_one.u x0 = some r) : Contract C 21 [(.v E_s60 (x0))] (tupAV E_s44 [] r) :=
  contract_s (S := fun k => call_asker_one.s x0 k) C_ok (orS_ok call_asker_deadline.e_ok noS_ok) (by kernel_rfl) (by kernel_rfl) (by kernel_rfl) (call_asker_one.ev ⟨1, fun _ => []⟩ x0 (dec E_s44 [])) h
noncomputable def call_asker_one.e : Ent := argI E_s60 fun x0 => endU (call_asker_one.u x0) (tupAV E_s44 [])
theorem call_asker_one.e_ok : EntOK C 21 (fun {_} => call_asker_one.e) := entA_ok (argI_ok fun x0 => endU_ok fun r h => call_asker_one.c x0 r h)

/-- (becket call.asker).some -/
noncomputable def call_asker_some.sp : Spec := (orS 21 (fun {_} => call_asker_one.e) noS)
def call_asker_some.F (fuel : Nat) : Fuel := ⟨fuel, fun r => bif r == 3 then [0, 1, 3, 4, 6, 7, 8, 9, 10, 11, 12, 13, 14, 15, 16, 17, 18, 19, 20, 21, 22, 26, 27, 28, 29, 30, 31, 32, 33, 34, 35, 36, 37, 38, 39, 40, 41, 42, 43, 44, 45, 46, 47, 48, 49, 50, 51, 52, 53, 54, 55, 56] else []⟩
def call_asker_some.E0 (e3_1 : (List T_s54)) (e3_2 : Int) (e3_3 : T_s60) (s3 : Int × (List T_s44)) : List AV := [.dead, .dead, (.ref 0 []), .dead, .dead, (.rs 2), .dead, .dead, .dead, .dead, .dead, .dead, .dead, .dead, .dead, .dead, .dead, .dead, .dead, .dead, .dead, .dead, .dead, (.v (.slice E_s54) (e3_1)), (.v (.int .i64) (e3_2)), (.v (.int .i64) (s3.1)), .dead, .dead, .dead, .dead, .dead, .dead, .dead, .dead, .dead, .dead, .dead, .dead, .dead, .dead, .dead, .dead, .dead, .dead, .dead, .dead, .dead, .dead, .dead, .dead, .dead, .dead, .dead, .dead, .dead, .dead, .dead]
def call_asker_some.H0 (e3_1 : (List T_s54)) (e3_2 : Int) (e3_3 : T_s60) (s3 : Int × (List T_s44)) : Heap := [(.box E_s60 e3_3 false), (.row 45 E_s44 [] false), (.row 45 E_s44 s3.2 false)]
noncomputable def call_asker_some.M0 {Ω : Type} (fuel : Nat) (e3_1 : (List T_s54)) (e3_2 : Int) (e3_3 : T_s60)  (k : AV → Option Ω) (m : Nat) (s : Int × (List T_s44)) : Option Ω := loopK (fun env L k => evCode C call_asker_some.sp (call_asker_some.F fuel) (cl (cl (cr (cl (cr (cr (Tryz.f19.body.getD .skip))))))) env L k) [true, true, false, true, true, false, true, true, true, true, true, true, true, true, true, true, true, true, true, true, true, true, true, false, false, false, true, true, true, true, true, true, true, true, true, true, true, true, true, true, true, true, true, true, true, true, true, true, true, true, true, true, true, true, true, true, true] 3 (blockK 0 (seqK (fun env L => evCode C call_asker_some.sp (call_asker_some.F fuel) (cr (cr (cr (Tryz.f19.body.getD .skip)))) env L (finK C Tryz.f19 k)) (finK C Tryz.f19 k))) m ((call_asker_some.E0 e3_1 e3_2 e3_3) s) ((call_asker_some.H0 e3_1 e3_2 e3_3) s)
def call_asker_some.b0 {Ω : Type} (e3_1 : (List T_s54)) (e3_2 : Int) (e3_3 : T_s60)   (k : (List T_s44) → Option Ω) (r3 : Int × (List T_s44) → Option Ω) (s3 : Int × (List T_s44)) : Option Ω :=
  bif (decide (s3.1 < e3_2)) then
    bif (idxOK s3.1 (List.length e3_1)) then
      bif ((List.getD e3_1 (Int.toNat s3.1) (0, (0, (0, (0, ()))))).2.2.2.1 != 8) then
        bif (idxOK (List.getD e3_1 (Int.toNat s3.1) (0, (0, (0, (0, ()))))).2.2.2.1 8) then
          let v3 : Int := (List.getD e3_3.2.1.2.2.1 (Int.toNat (List.getD e3_1 (Int.toNat s3.1) (0, (0, (0, (0, ()))))).2.2.2.1) 0)
          bif (v3 == 0) then
            r3 ((IntKind.wrap .i64 (s3.1 + 1)), s3.2)
          else
            (call_asker_one.u (((List.getD e3_1 (Int.toNat s3.1) (0, (0, (0, (0, ()))))), (e3_3.2.1, (e3_3.2.2.1, ()))))).bind fun y4 =>
            bif (decide (List.length s3.2 + List.length [(y4.1, (y4.2.1, (y4.2.2.1, (y4.2.2.2.1, (s3.1, y4.2.2.2.2.2)))))] ≤ rowMax)) then
              r3 ((IntKind.wrap .i64 (s3.1 + 1)), (s3.2 ++ [(y4.1, (y4.2.1, (y4.2.2.1, (y4.2.2.2.1, (s3.1, y4.2.2.2.2.2)))))]))
            else
              none
        else
          none
      else
        (call_asker_one.u (((List.getD e3_1 (Int.toNat s3.1) (0, (0, (0, (0, ()))))), (e3_3.2.1, (e3_3.2.2.1, ()))))).bind fun y5 =>
        bif (decide (List.length s3.2 + List.length [(y5.1, (y5.2.1, (y5.2.2.1, (y5.2.2.2.1, (s3.1, y5.2.2.2.2.2)))))] ≤ rowMax)) then
          r3 ((IntKind.wrap .i64 (s3.1 + 1)), (s3.2 ++ [(y5.1, (y5.2.1, (y5.2.2.1, (y5.2.2.2.1, (s3.1, y5.2.2.2.2.2)))))]))
        else
          none
    else
      none
  else
    k s3.2
def call_asker_some.B0 {Ω : Type} (fuel : Nat) (e3_1 : (List T_s54)) (e3_2 : Int) (e3_3 : T_s60)  (k : (List T_s44) → Option Ω) (r3 : Int × (List T_s44) → Option Ω) (s3 : Int × (List T_s44)) : Option Ω := call_asker_some.b0 e3_1 e3_2 e3_3   k r3 s3
theorem call_asker_some.l0 {Ω : Type} (fuel : Nat) (e3_1 : (List T_s54)) (e3_2 : Int) (e3_3 : T_s60)  (k : AV → Option Ω) : ∀ m, (call_asker_some.M0 fuel e3_1 e3_2 e3_3  k m) = iter (call_asker_some.B0 fuel e3_1 e3_2 e3_3  (fun r => k (tupAV (.slice E_s44) [] r))) m :=
  loopK_iter (envOf := (call_asker_some.E0 e3_1 e3_2 e3_3)) (LOf := (call_asker_some.H0 e3_1 e3_2 e3_3)) (B := call_asker_some.B0 fuel e3_1 e3_2 e3_3  (fun r => k (tupAV (.slice E_s44) [] r))) (fun R s => by kernel_rfl)
def call_asker_some.sl {Ω : Type} (x0 : T_s60) (x1 : (List T_s54)) (lp0 : (List T_s54) → Int → T_s60 → Int × (List T_s44) → Option Ω) (k : (List T_s44) → Option Ω) : Option Ω :=
  let v1 : Int := (IntKind.wrap .i64 ((IntKind.wrap .i64 (x0.2.1.1 + 1)) + (IntKind.wrap .i64 x0.1.2.2.2.1)))
  bif (subC (some ((IntKind.wrap .i64 (x0.2.1.1 + 1)))) (some (v1)) (List.length x1)) then
    let v2 : Int := ((List.length (subL (some ((IntKind.wrap .i64 (x0.2.1.1 + 1)))) (some (v1)) x1) : Nat) : Int)
    lp0 ((subL (some ((IntKind.wrap .i64 (x0.2.1.1 + 1)))) (some (v1)) x1)) v2 x0 (0, [])
  else
    none
def call_asker_some.s {Ω : Type} (fuel : Nat) (x0 : T_s60) (x1 : (List T_s54)) (k : (List T_s44) → Option Ω) : Option Ω := call_asker_some.sl x0 x1 (fun e3_1 e3_2 e3_3 => (iter (call_asker_some.B0 fuel e3_1 e3_2 e3_3  k) fuel)) k
theorem call_asker_some.ev {Ω : Type} (fuel : Nat) (x0 : T_s60) (x1 : (List T_s54)) (k : AV → Option Ω) : evFn C call_asker_some.sp (call_asker_some.F fuel) Tryz.f19 (Tryz.f19.body.getD .skip) [(.v E_s60 (x0)), (.v (.slice E_s54) (x1))] k = call_asker_some.s fuel x0 x1 (fun r => k (tupAV (.slice E_s44) [] r)) := by
  have h0 : evFn C call_asker_some.sp (call_asker_some.F fuel) Tryz.f19 (Tryz.f19.body.getD .skip) [(.v E_s60 (x0)), (.v (.slice E_s54) (x1))] k = call_asker_some.sl x0 x1 (fun e3_1 e3_2 e3_3 => (call_asker_some.M0 fuel e3_1 e3_2 e3_3  k fuel)) (fun r => k (tupAV (.slice E_s44) [] r)) := by kernel_rfl
  have h1 : (fun e3_1 e3_2 e3_3 => (call_asker_some.M0 fuel e3_1 e3_2 e3_3  k fuel)) = (fun e3_1 e3_2 e3_3 => (iter (call_asker_some.B0 fuel e3_1 e3_2 e3_3  (fun r => k (tupAV (.slice E_s44) [] r))) fuel)) := funext fun e3_1 => funext fun e3_2 => funext fun e3_3 => call_asker_some.l0 fuel e3_1 e3_2 e3_3   k fuel
  rw [h1] at h0
  exact h0
def call_asker_some.g0 {Ω : Type} (e3_1 : (List T_s54)) (e3_2 : Int) (e3_3 : T_s60)  (k : (List T_s44) → Option Ω) : Nat → Int → (List T_s44) → Option Ω
  | 0, i3, a3_1 =>
    k a3_1
  | d3 + 1, i3, a3_1 =>
    bif (idxOK i3 (List.length e3_1)) then
      bif ((List.getD e3_1 (Int.toNat i3) (0, (0, (0, (0, ()))))).2.2.2.1 != 8) then
        bif (idxOK (List.getD e3_1 (Int.toNat i3) (0, (0, (0, (0, ()))))).2.2.2.1 8) then
          let v3 : Int := (List.getD e3_3.2.1.2.2.1 (Int.toNat (List.getD e3_1 (Int.toNat i3) (0, (0, (0, (0, ()))))).2.2.2.1) 0)
          bif (v3 == 0) then
            call_asker_some.g0 e3_1 e3_2 e3_3  k d3 (i3 + 1) a3_1
          else
            (call_asker_one.u (((List.getD e3_1 (Int.toNat i3) (0, (0, (0, (0, ()))))), (e3_3.2.1, (e3_3.2.2.1, ()))))).bind fun y4 =>
            bif (decide (List.length a3_1 + List.length [(y4.1, (y4.2.1, (y4.2.2.1, (y4.2.2.2.1, (i3, y4.2.2.2.2.2)))))] ≤ rowMax)) then
              call_asker_some.g0 e3_1 e3_2 e3_3  k d3 (i3 + 1) ((a3_1 ++ [(y4.1, (y4.2.1, (y4.2.2.1, (y4.2.2.2.1, (i3, y4.2.2.2.2.2)))))]))
            else
              none
        else
          none
      else
        (call_asker_one.u (((List.getD e3_1 (Int.toNat i3) (0, (0, (0, (0, ()))))), (e3_3.2.1, (e3_3.2.2.1, ()))))).bind fun y5 =>
        bif (decide (List.length a3_1 + List.length [(y5.1, (y5.2.1, (y5.2.2.1, (y5.2.2.2.1, (i3, y5.2.2.2.2.2)))))] ≤ rowMax)) then
          call_asker_some.g0 e3_1 e3_2 e3_3  k d3 (i3 + 1) ((a3_1 ++ [(y5.1, (y5.2.1, (y5.2.2.1, (y5.2.2.2.1, (i3, y5.2.2.2.2.2)))))]))
        else
          none
    else
      none
theorem call_asker_some.h0 {Ω : Type} (e3_1 : (List T_s54)) (e3_2 : Int) (e3_3 : T_s60)   (k : (List T_s44) → Option Ω) (hN : (e3_2 : Int) ≤ 9223372036854775807) : ∀ (m : Nat) (i : Int) (a : (List T_s44)), -9223372036854775808 ≤ i → Int.toNat ((e3_2 : Int) - i) < m → Le (call_asker_some.g0 e3_1 e3_2 e3_3  k (Int.toNat ((e3_2 : Int) - i)) i a) (iter (call_asker_some.B0 BIG e3_1 e3_2 e3_3  k) m (i, a)) :=
  iter_count (e3_2 : Int) (fun i3 => (decide (i3 < e3_2))) (fun i => rfl) (fun (i3 : Int) (a3 : (List T_s44)) => (i3, a3)) (fun xs i3 a3 => call_asker_some.g0 e3_1 e3_2 e3_3  k xs i3 a3) (call_asker_some.B0 BIG e3_1 e3_2 e3_3  k)
    (fun i3 a3 r h0 => (Le.fls h0 (Le.refl _)))
    (fun i3 d3 a3 r h0 hw ih => (Le.tru h0 (Le.cond (Le.cond (Le.cond (let v3 : Int := (List.getD e3_3.2.1.2.2.1 (Int.toNat (List.getD e3_1 (Int.toNat i3) (0, (0, (0, (0, ()))))).2.2.2.1) 0); (Le.cond (ih _ hw (a3)) (Le.bnd fun y4 => (Le.cond (ih _ hw ((a3 ++ [(y4.1, (y4.2.1, (y4.2.2.1, (y4.2.2.2.1, (i3, y4.2.2.2.2.2)))))]))) Le.nil)))) Le.nil) (Le.bnd fun y5 => (Le.cond (ih _ hw ((a3 ++ [(y5.1, (y5.2.1, (y5.2.2.1, (y5.2.2.2.1, (i3, y5.2.2.2.2.2)))))]))) Le.nil))) Le.nil)))
    hN
def call_asker_some.w {Ω : Type} (x0 : T_s60) (x1 : (List T_s54)) (k : (List T_s44) → Option Ω) : Option Ω :=
  let v1 : Int := (IntKind.wrap .i64 ((IntKind.wrap .i64 (x0.2.1.1 + 1)) + (IntKind.wrap .i64 x0.1.2.2.2.1)))
  bif (subC (some ((IntKind.wrap .i64 (x0.2.1.1 + 1)))) (some (v1)) (List.length x1)) then
    let v2 : Int := ((List.length (subL (some ((IntKind.wrap .i64 (x0.2.1.1 + 1)))) (some (v1)) x1) : Nat) : Int)
    bif (decide (v2 ≤ 4611686018427387904)) then call_asker_some.g0 ((subL (some ((IntKind.wrap .i64 (x0.2.1.1 + 1)))) (some (v1)) x1)) v2 x0  k ((Int.toNat (v2 - 0))) 0 ([]) else none
  else
    none
theorem call_asker_some.le {Ω : Type} (x0 : T_s60) (x1 : (List T_s54)) (k : (List T_s44) → Option Ω) : Le (call_asker_some.w x0 x1 k) (call_asker_some.s BIG x0 x1 k) := by
  delta call_asker_some.w call_asker_some.s call_asker_some.sl
  exact (let v1 : Int := (IntKind.wrap .i64 ((IntKind.wrap .i64 (x0.2.1.1 + 1)) + (IntKind.wrap .i64 x0.1.2.2.2.1))); (Le.cond (let v2 : Int := ((List.length (subL (some ((IntKind.wrap .i64 (x0.2.1.1 + 1)))) (some (v1)) x1) : Nat) : Int); (Le.gd fun hg => call_asker_some.h0 _ _ _   k (cnt_up hg) BIG 0 ([]) (by decide) (cnt_big hg (by decide)))) Le.nil))
def call_asker_some.u (x0 : T_s60) (x1 : (List T_s54)) : Option ((List T_s44)) := call_asker_some.w x0 x1 some
theorem call_asker_some.c (x0 : T_s60) (x1 : (List T_s54)) (r : (List T_s44)) (h : call_asker_some.u x0 x1 = some r) : Contract C 19 [(.v E_s60 (x0)), (.v (.slice E_s54) (x1))] (tupAV (.slice E_s44) [] r) :=
  contract_s (S := fun k => call_asker_some.s BIG x0 x1 k) C_ok (orS_ok call_asker_one.e_ok noS_ok) (by kernel_rfl) (by kernel_rfl) (by kernel_rfl) (call_asker_some.ev BIG x0 x1 (dec (.slice E_s44) [])) (call_asker_some.le x0 x1 some r h)
noncomputable def call_asker_some.e : Ent := argI E_s60 fun x0 => argI (.slice E_s54) fun x1 => endU (call_asker_some.u x0 x1) (tupAV (.slice E_s44) [])
theorem call_asker_some.e_ok : EntOK C 19 (fun {_} => call_asker_some.e) := entA_ok (argI_ok fun x0 => argI_ok fun x1 => endU_ok fun r h => call_asker_some.c x0 x1 r h)

/-- becket call.waits -/
noncomputable def call_waits.sp : Spec := noS
def call_waits.s {Ω : Type} (x0 : T_s54) (k : Bool → Option Ω) : Option Ω :=
  bif (x0.1 == 31) then
    k true
  else
    bif (x0.1 == 32) then
      k true
    else
      bif (x0.1 == 33) then
        k true
      else
        bif (x0.1 == 34) then
          k true
        else
          bif (x0.1 == 38) then
            k true
          else
            bif (x0.1 == 41) then
              k true
            else
              k false
theorem call_waits.ev {Ω : Type} (fuel : Fuel) (x0 : T_s54) (k : AV → Option Ω) : evFn C call_waits.sp fuel Tryz.f20 (Tryz.f20.body.getD .skip) [(.v E_s54 (x0))] k = call_waits.s x0 (fun r => k (tupAV .bool [] r)) := by kernel_rfl
def call_waits.t (x0 : T_s54) : Bool :=
  bif (x0.1 == 31) then
    true
  else
    bif (x0.1 == 32) then
      true
    else
      bif (x0.1 == 33) then
        true
      else
        bif (x0.1 == 34) then
          true
        else
          bif (x0.1 == 38) then
            true
          else
            bif (x0.1 == 41) then
              true
            else
              false
theorem call_waits.v {Ω : Type} (x0 : T_s54) (k : Bool → Option Ω) : call_waits.s x0 k = k (call_waits.t x0) := by
  delta call_waits.s call_waits.t; exact (cond_tot rfl (cond_tot rfl (cond_tot rfl (cond_tot rfl (cond_tot rfl (cond_tot rfl rfl))))))
theorem call_waits.c (x0 : T_s54) : Contract C 20 [(.v E_s54 (x0))] (tupAV .bool [] (call_waits.t x0)) :=
  contract_s (S := fun k => call_waits.s x0 k) C_ok noS_ok (by kernel_rfl) (by kernel_rfl) (by kernel_rfl) (call_waits.ev ⟨1, fun _ => []⟩ x0 (dec .bool [])) (call_waits.v x0 some)
noncomputable def call_waits.e : Ent := argI E_s54 fun x0 => endT (tupAV .bool [] (call_waits.t x0))
theorem call_waits.e_ok : EntOK C 20 (fun {_} => call_waits.e) := entA_ok (argI_ok fun x0 => endT_ok (call_waits.c x0))

/-- becket call.Of -/
noncomputable def call_Of.sp : Spec := (orS 21 (fun {_} => call_asker_one.e) (orS 20 (fun {_} => call_waits.e) (orS 19 (fun {_} => call_asker_some.e) (orS 18 (fun {_} => call_asking.e) (orS 17 (fun {_} => clock_Fine.e) (inlS CKM 49 noS ⟨1, fun _ => []⟩ Tryz.f49 (inlS CKM 48 noS ⟨1, fun _ => []⟩ Tryz.f48 (inlS CKM 47 noS ⟨1, fun _ => []⟩ Tryz.f47 (inlS CKM 46 noS ⟨1, fun _ => []⟩ Tryz.f46 (inlS CKM 45 noS ⟨1, fun _ => []⟩ Tryz.f45 (inlS CKM 44 noS ⟨1, fun _ => []⟩ Tryz.f44 (inlS CKM 22 noS ⟨1, fun _ => []⟩ Tryz.f22 noS))))))))))))
def call_Of.s {Ω : Type} (x0 : (List T_s54)) (x1 : T_s25) (x2 : Int) (k : T_s29 × Int → Option Ω) : Option Ω :=
  bif (!(clock_Fine.t x2)) then
    k ((0, (0, (0, (0, (0, ([], ())))))), 1)
  else
    (call_asking.u x0 x1).bind fun y1 =>
    bif (y1.2 != 0) then
      k ((0, (0, (0, (0, (0, ([], ())))))), y1.2)
    else
      bif (y1.1.1 == 41) then
        (call_asker_some.u ((y1.1, (x1, (x2, ())))) x0).bind fun y2 =>
        let v3 : T_s29 := ((IntKind.wrap .i64 y1.1.1), ((IntKind.wrap .i64 y1.1.2.1), (0, (0, ((IntKind.wrap .i64 y1.1.2.2.1), (y2, ()))))))
        k (v3, 0)
      else
        bif (call_waits.t y1.1) then
          (call_asker_one.u ((y1.1, (x1, (x2, ()))))).bind fun y4 =>
          k (((IntKind.wrap .i64 y1.1.1), ((-1), (0, (0, (0, ([y4], ())))))), 0)
        else
          bif (y1.1.1 == 27) then
            bif (idxOK y1.1.2.1 8) then
              let v5 : T_s29 := ((IntKind.wrap .i64 y1.1.1), ((-1), (0, ((List.getD x1.2.2.1 (Int.toNat y1.1.2.1) 0), (0, ([], ()))))))
              k (v5, 0)
            else
              none
          else
            bif (y1.1.1 == 28) then
              k (((IntKind.wrap .i64 y1.1.1), ((IntKind.wrap .i64 y1.1.2.1), (0, (0, (0, ([], ())))))), 0)
            else
              bif (y1.1.1 == 29) then
                k (((IntKind.wrap .i64 y1.1.1), ((IntKind.wrap .i64 y1.1.2.1), (0, (0, (0, ([], ())))))), 0)
              else
                bif (y1.1.1 == 30) then
                  bif (idxOK y1.1.2.2.2.1 8) then
                    let v6 : T_s29 := ((IntKind.wrap .i64 y1.1.1), ((IntKind.wrap .i64 y1.1.2.1), ((IntKind.wrap .i64 y1.1.2.2.1), ((List.getD x1.2.2.1 (Int.toNat y1.1.2.2.2.1) 0), (0, ([], ()))))))
                    k (v6, 0)
                  else
                    none
                else
                  bif (y1.1.1 == 35) then
                    bif (idxOK y1.1.2.2.1 8) then
                      let v7 : T_s29 := ((IntKind.wrap .i64 y1.1.1), ((-1), ((IntKind.wrap .i64 y1.1.2.1), ((List.getD x1.2.2.1 (Int.toNat y1.1.2.2.1) 0), (0, ([], ()))))))
                      k (v7, 0)
                    else
                      none
                  else
                    bif (y1.1.1 == 40) then
                      let v8 : T_s29 := ((IntKind.wrap .i64 y1.1.1), ((IntKind.wrap .i64 y1.1.2.1), ((IntKind.wrap .i64 y1.1.2.2.1), (0, (0, ([], ()))))))
                      k (v8, 0)
                    else
                      bif (y1.1.1 == 46) then
                        let v9 : T_s29 := ((IntKind.wrap .i64 y1.1.1), ((IntKind.wrap .i64 y1.1.2.1), ((IntKind.wrap .i64 y1.1.2.2.1), (0, (0, ([], ()))))))
                        k (v9, 0)
                      else
                        bif (y1.1.1 == 47) then
                          let v10 : T_s29 := ((IntKind.wrap .i64 y1.1.1), ((IntKind.wrap .i64 y1.1.2.1), ((IntKind.wrap .i64 y1.1.2.2.1), (0, (0, ([], ()))))))
                          k (v10, 0)
                        else
                          k (((IntKind.wrap .i64 y1.1.1), ((-1), ((IntKind.wrap .i64 y1.1.2.1), (0, (0, ([], ())))))), 0)
theorem call_Of.ev {Ω : Type} (fuel : Fuel) (x0 : (List T_s54)) (x1 : T_s25) (x2 : Int) (k : AV → Option Ω) : evFn CKM call_Of.sp fuel Tryz.f7 (Tryz.f7.body.getD .skip) [(.v (.slice E_s54) (x0)), (.v E_s25 (x1)), (.v (.int .i64) (x2))] k = call_Of.s x0 x1 x2 (fun r => k (tupAV E_s29 [(.int .i64)] r)) := by kernel_rfl
def call_Of.u (x0 : (List T_s54)) (x1 : T_s25) (x2 : Int) : Option (T_s29 × Int) := call_Of.s x0 x1 x2 some
theorem call_Of.c (x0 : (List T_s54)) (x1 : T_s25) (x2 : Int) (r : T_s29 × Int) (h : call_Of.u x0 x1 x2 = some r) : Contract CKM 7 [(.v (.slice E_s54) (x0)), (.v E_s25 (x1)), (.v (.int .i64) (x2))] (tupAV E_s29 [(.int .i64)] r) :=
  contract_s (S := fun k => call_Of.s x0 x1 x2 k) CKM_ok (orS_ok (call_asker_one.e_ok.mono le_C_CKM) (orS_ok (call_waits.e_ok.mono le_C_CKM) (orS_ok (call_asker_some.e_ok.mono le_C_CKM) (orS_ok call_asking.e_ok (orS_ok (clock_Fine.e_ok.mono le_C_CKM) (inlS_ok CKM_ok noS_ok (inlS_ok CKM_ok noS_ok (inlS_ok CKM_ok noS_ok (inlS_ok CKM_ok noS_ok (inlS_ok CKM_ok noS_ok (inlS_ok CKM_ok noS_ok (inlS_ok CKM_ok noS_ok noS_ok (by kernel_rfl) (by kernel_rfl) (by kernel_rfl)) (by kernel_rfl) (by kernel_rfl) (by kernel_rfl)) (by kernel_rfl) (by kernel_rfl) (by kernel_rfl)) (by kernel_rfl) (by kernel_rfl) (by kernel_rfl)) (by kernel_rfl) (by kernel_rfl) (by kernel_rfl)) (by kernel_rfl) (by kernel_rfl) (by kernel_rfl)) (by kernel_rfl) (by kernel_rfl) (by kernel_rfl))))))) (by kernel_rfl) (by kernel_rfl) (by kernel_rfl) (call_Of.ev ⟨1, fun _ => []⟩ x0 x1 x2 (dec E_s29 [(.int .i64)])) h
noncomputable def call_Of.e : Ent := argI (.slice E_s54) fun x0 => argI E_s25 fun x1 => argI (.int .i64) fun x2 => endU (call_Of.u x0 x1 x2) (tupAV E_s29 [(.int .i64)])
theorem call_Of.e_ok : EntOK CKM 7 (fun {_} => call_Of.e) := entA_ok (argI_ok fun x0 => argI_ok fun x1 => argI_ok fun x2 => endU_ok fun r h => call_Of.c x0 x1 x2 r h)

/-- becket call.wrong -/
noncomputable def call_wrong.sp : Spec := (orS 38 (fun {_} => word_Fine.e) noS)
def call_wrong.s {Ω : Type} (x0 : T_s44) (x1 : Int) (k : Bool → Option Ω) : Option Ω :=
  bif (decide (x0.2.2.2.2.1 < 0)) then
    k true
  else
    bif (decide (x0.2.2.2.2.1 ≥ 6)) then
      k true
    else
      bif (decide (x0.2.2.2.1 < 0)) then
        k true
      else
        bif (decide (x0.2.2.2.1 ≥ 8)) then
          k true
        else
          k (!(word_Fine.t x1))
theorem call_wrong.ev {Ω : Type} (fuel : Fuel) (x0 : T_s44) (x1 : Int) (k : AV → Option Ω) : evFn C call_wrong.sp fuel Tryz.f33 (Tryz.f33.body.getD .skip) [(.v E_s44 (x0)), (.v (.int .i64) (x1))] k = call_wrong.s x0 x1 (fun r => k (tupAV .bool [] r)) := by kernel_rfl
def call_wrong.t (x0 : T_s44) (x1 : Int) : Bool :=
  bif (decide (x0.2.2.2.2.1 < 0)) then
    true
  else
    bif (decide (x0.2.2.2.2.1 ≥ 6)) then
      true
    else
      bif (decide (x0.2.2.2.1 < 0)) then
        true
      else
        bif (decide (x0.2.2.2.1 ≥ 8)) then
          true
        else
          (!(word_Fine.t x1))
theorem call_wrong.v {Ω : Type} (x0 : T_s44) (x1 : Int) (k : Bool → Option Ω) : call_wrong.s x0 x1 k = k (call_wrong.t x0 x1) := by
  delta call_wrong.s call_wrong.t; exact (cond_tot rfl (cond_tot rfl (cond_tot rfl (cond_tot rfl rfl))))
theorem call_wrong.c (x0 : T_s44) (x1 : Int) : Contract C 33 [(.v E_s44 (x0)), (.v (.int .i64) (x1))] (tupAV .bool [] (call_wrong.t x0 x1)) :=
  contract_s (S := fun k => call_wrong.s x0 x1 k) C_ok (orS_ok word_Fine.e_ok noS_ok) (by kernel_rfl) (by kernel_rfl) (by kernel_rfl) (call_wrong.ev ⟨1, fun _ => []⟩ x0 x1 (dec .bool [])) (call_wrong.v x0 x1 some)
noncomputable def call_wrong.e : Ent := argI E_s44 fun x0 => argI (.int .i64) fun x1 => endT (tupAV .bool [] (call_wrong.t x0 x1))
theorem call_wrong.e_ok : EntOK C 33 (fun {_} => call_wrong.e) := entA_ok (argI_ok fun x0 => argI_ok fun x1 => endT_ok (call_wrong.c x0 x1))

/-- becket call.Wake -/
noncomputable def call_Wake.sp : Spec := (orS 33 (fun {_} => call_wrong.e) (orS 20 (fun {_} => call_waits.e) (orS 18 (fun {_} => call_asking.e) noS)))
def call_Wake.s {Ω : Type} (x0 : (List T_s54)) (x1 : T_s25) (x2 : T_s44) (x3 : Int) (x4 : Bool) (k : T_s25 × Int → Option Ω) : Option Ω :=
  (call_asking.u x0 x1).bind fun y1 =>
  bif (y1.2 != 0) then
    k (x1, y1.2)
  else
    bif (!(call_waits.t y1.1)) then
      k (x1, 13)
    else
      bif (call_wrong.t x2 x3) then
        k (x1, 8)
      else
        bif (x2.1 == 1) then
          bif (!x4) then
            bif (idxOK x2.2.2.2.1 8) then
              bif (y1.1.1 == 41) then
                bif (idxOK y1.1.2.1 8) then
                  let v2 : T_s25 := ((IntKind.wrap .i64 ((IntKind.wrap .i64 (x1.1 + 1)) + (IntKind.wrap .i64 y1.1.2.2.2.1))), (x4, ((List.set (List.set x1.2.2.1 (Int.toNat x2.2.2.2.1) x3) (Int.toNat y1.1.2.1) x2.2.2.2.2.1), x1.2.2.2)))
                  k (v2, 0)
                else
                  none
              else
                let v3 : T_s25 := ((IntKind.wrap .i64 (x1.1 + 1)), (x4, ((List.set x1.2.2.1 (Int.toNat x2.2.2.2.1) x3), x1.2.2.2)))
                k (v3, 0)
            else
              none
          else
            bif (x2.1 == 6) then
              bif (idxOK x2.2.2.2.1 8) then
                bif (y1.1.1 == 41) then
                  bif (idxOK y1.1.2.1 8) then
                    let v4 : T_s25 := ((IntKind.wrap .i64 ((IntKind.wrap .i64 (x1.1 + 1)) + (IntKind.wrap .i64 y1.1.2.2.2.1))), (x4, ((List.set (List.set x1.2.2.1 (Int.toNat x2.2.2.2.1) x3) (Int.toNat y1.1.2.1) x2.2.2.2.2.1), x1.2.2.2)))
                    k (v4, 0)
                  else
                    none
                else
                  let v5 : T_s25 := ((IntKind.wrap .i64 (x1.1 + 1)), (x4, ((List.set x1.2.2.1 (Int.toNat x2.2.2.2.1) x3), x1.2.2.2)))
                  k (v5, 0)
              else
                none
            else
              bif (y1.1.1 == 41) then
                bif (idxOK y1.1.2.1 8) then
                  let v6 : T_s25 := ((IntKind.wrap .i64 ((IntKind.wrap .i64 (x1.1 + 1)) + (IntKind.wrap .i64 y1.1.2.2.2.1))), (x4, ((List.set x1.2.2.1 (Int.toNat y1.1.2.1) x2.2.2.2.2.1), x1.2.2.2)))
                  k (v6, 0)
                else
                  none
              else
                k (((IntKind.wrap .i64 (x1.1 + 1)), (x4, x1.2.2)), 0)
        else
          bif (x2.1 == 6) then
            bif (idxOK x2.2.2.2.1 8) then
              bif (y1.1.1 == 41) then
                bif (idxOK y1.1.2.1 8) then
                  let v7 : T_s25 := ((IntKind.wrap .i64 ((IntKind.wrap .i64 (x1.1 + 1)) + (IntKind.wrap .i64 y1.1.2.2.2.1))), (x4, ((List.set (List.set x1.2.2.1 (Int.toNat x2.2.2.2.1) x3) (Int.toNat y1.1.2.1) x2.2.2.2.2.1), x1.2.2.2)))
                  k (v7, 0)
                else
                  none
              else
                let v8 : T_s25 := ((IntKind.wrap .i64 (x1.1 + 1)), (x4, ((List.set x1.2.2.1 (Int.toNat x2.2.2.2.1) x3), x1.2.2.2)))
                k (v8, 0)
            else
              none
          else
            bif (y1.1.1 == 41) then
              bif (idxOK y1.1.2.1 8) then
                let v9 : T_s25 := ((IntKind.wrap .i64 ((IntKind.wrap .i64 (x1.1 + 1)) + (IntKind.wrap .i64 y1.1.2.2.2.1))), (x4, ((List.set x1.2.2.1 (Int.toNat y1.1.2.1) x2.2.2.2.2.1), x1.2.2.2)))
                k (v9, 0)
              else
                none
            else
              k (((IntKind.wrap .i64 (x1.1 + 1)), (x4, x1.2.2)), 0)
theorem call_Wake.ev {Ω : Type} (fuel : Fuel) (x0 : (List T_s54)) (x1 : T_s25) (x2 : T_s44) (x3 : Int) (x4 : Bool) (k : AV → Option Ω) : evFn CKM call_Wake.sp fuel Tryz.f12 (Tryz.f12.body.getD .skip) [(.v (.slice E_s54) (x0)), (.v E_s25 (x1)), (.v E_s44 (x2)), (.v (.int .i64) (x3)), (.v .bool (x4))] k = call_Wake.s x0 x1 x2 x3 x4 (fun r => k (tupAV E_s25 [(.int .i64)] r)) := by kernel_rfl
def call_Wake.u (x0 : (List T_s54)) (x1 : T_s25) (x2 : T_s44) (x3 : Int) (x4 : Bool) : Option (T_s25 × Int) := call_Wake.s x0 x1 x2 x3 x4 some
theorem call_Wake.c (x0 : (List T_s54)) (x1 : T_s25) (x2 : T_s44) (x3 : Int) (x4 : Bool) (r : T_s25 × Int) (h : call_Wake.u x0 x1 x2 x3 x4 = some r) : Contract CKM 12 [(.v (.slice E_s54) (x0)), (.v E_s25 (x1)), (.v E_s44 (x2)), (.v (.int .i64) (x3)), (.v .bool (x4))] (tupAV E_s25 [(.int .i64)] r) :=
  contract_s (S := fun k => call_Wake.s x0 x1 x2 x3 x4 k) CKM_ok (orS_ok (call_wrong.e_ok.mono le_C_CKM) (orS_ok (call_waits.e_ok.mono le_C_CKM) (orS_ok call_asking.e_ok noS_ok))) (by kernel_rfl) (by kernel_rfl) (by kernel_rfl) (call_Wake.ev ⟨1, fun _ => []⟩ x0 x1 x2 x3 x4 (dec E_s25 [(.int .i64)])) h
noncomputable def call_Wake.e : Ent := argI (.slice E_s54) fun x0 => argI E_s25 fun x1 => argI E_s44 fun x2 => argI (.int .i64) fun x3 => argI .bool fun x4 => endU (call_Wake.u x0 x1 x2 x3 x4) (tupAV E_s25 [(.int .i64)])
theorem call_Wake.e_ok : EntOK CKM 12 (fun {_} => call_Wake.e) := entA_ok (argI_ok fun x0 => argI_ok fun x1 => argI_ok fun x2 => argI_ok fun x3 => argI_ok fun x4 => endU_ok fun r h => call_Wake.c x0 x1 x2 x3 x4 r h)

/-- becket call.gets -/
noncomputable def call_gets.sp : Spec := (inlS C 49 noS ⟨1, fun _ => []⟩ Tryz.f49 (inlS C 48 noS ⟨1, fun _ => []⟩ Tryz.f48 (inlS C 47 noS ⟨1, fun _ => []⟩ Tryz.f47 (inlS C 46 noS ⟨1, fun _ => []⟩ Tryz.f46 (inlS C 45 noS ⟨1, fun _ => []⟩ Tryz.f45 (inlS C 44 noS ⟨1, fun _ => []⟩ Tryz.f44 (inlS C 22 noS ⟨1, fun _ => []⟩ Tryz.f22 noS)))))))
def call_gets.s {Ω : Type} (x0 : T_s54) (k : Int → Option Ω) : Option Ω :=
  bif (x0.1 == 27) then
    let v1 : T_s60 := (x0, ((0, (false, ((List.replicate 8 0), ((List.replicate 16 0), (0, ((List.replicate 8 0), ())))))), (0, ())))
    bif (idxOK v1.1.2.1 8) then
      k (-1)
    else
      none
  else
    bif (x0.1 == 28) then
      let v2 : T_s60 := (x0, ((0, (false, ((List.replicate 8 0), ((List.replicate 16 0), (0, ((List.replicate 8 0), ())))))), (0, ())))
      k (IntKind.wrap .i64 v2.1.2.1)
    else
      bif (x0.1 == 29) then
        let v3 : T_s60 := (x0, ((0, (false, ((List.replicate 8 0), ((List.replicate 16 0), (0, ((List.replicate 8 0), ())))))), (0, ())))
        k (IntKind.wrap .i64 v3.1.2.1)
      else
        bif (x0.1 == 30) then
          let v4 : T_s60 := (x0, ((0, (false, ((List.replicate 8 0), ((List.replicate 16 0), (0, ((List.replicate 8 0), ())))))), (0, ())))
          bif (idxOK v4.1.2.2.2.1 8) then
            k (IntKind.wrap .i64 v4.1.2.1)
          else
            none
        else
          bif (x0.1 == 35) then
            let v5 : T_s60 := (x0, ((0, (false, ((List.replicate 8 0), ((List.replicate 16 0), (0, ((List.replicate 8 0), ())))))), (0, ())))
            bif (idxOK v5.1.2.2.1 8) then
              k (-1)
            else
              none
          else
            bif (x0.1 == 40) then
              let v6 : T_s60 := (x0, ((0, (false, ((List.replicate 8 0), ((List.replicate 16 0), (0, ((List.replicate 8 0), ())))))), (0, ())))
              k (IntKind.wrap .i64 v6.1.2.1)
            else
              bif (x0.1 == 46) then
                let v7 : T_s60 := (x0, ((0, (false, ((List.replicate 8 0), ((List.replicate 16 0), (0, ((List.replicate 8 0), ())))))), (0, ())))
                k (IntKind.wrap .i64 v7.1.2.1)
              else
                bif (x0.1 == 47) then
                  let v8 : T_s60 := (x0, ((0, (false, ((List.replicate 8 0), ((List.replicate 16 0), (0, ((List.replicate 8 0), ())))))), (0, ())))
                  k (IntKind.wrap .i64 v8.1.2.1)
                else
                  let v9 : T_s60 := (x0, ((0, (false, ((List.replicate 8 0), ((List.replicate 16 0), (0, ((List.replicate 8 0), ())))))), (0, ())))
                  k (-1)
theorem call_gets.ev {Ω : Type} (fuel : Fuel) (x0 : T_s54) (k : AV → Option Ω) : evFn C call_gets.sp fuel Tryz.f29 (Tryz.f29.body.getD .skip) [(.v E_s54 (x0))] k = call_gets.s x0 (fun r => k (tupAV (.int .i64) [] r)) := by kernel_rfl
def call_gets.u (x0 : T_s54) : Option (Int) := call_gets.s x0 some
theorem call_gets.c (x0 : T_s54) (r : Int) (h : call_gets.u x0 = some r) : Contract C 29 [(.v E_s54 (x0))] (tupAV (.int .i64) [] r) :=
  contract_s (S := fun k => call_gets.s x0 k) C_ok (inlS_ok C_ok noS_ok (inlS_ok C_ok noS_ok (inlS_ok C_ok noS_ok (inlS_ok C_ok noS_ok (inlS_ok C_ok noS_ok (inlS_ok C_ok noS_ok (inlS_ok C_ok noS_ok noS_ok (by kernel_rfl) (by kernel_rfl) (by kernel_rfl)) (by kernel_rfl) (by kernel_rfl) (by kernel_rfl)) (by kernel_rfl) (by kernel_rfl) (by kernel_rfl)) (by kernel_rfl) (by kernel_rfl) (by kernel_rfl)) (by kernel_rfl) (by kernel_rfl) (by kernel_rfl)) (by kernel_rfl) (by kernel_rfl) (by kernel_rfl)) (by kernel_rfl) (by kernel_rfl) (by kernel_rfl)) (by kernel_rfl) (by kernel_rfl) (by kernel_rfl) (call_gets.ev ⟨1, fun _ => []⟩ x0 (dec (.int .i64) [])) h
noncomputable def call_gets.e : Ent := argI E_s54 fun x0 => endU (call_gets.u x0) (tupAV (.int .i64) [])
theorem call_gets.e_ok : EntOK C 29 (fun {_} => call_gets.e) := entA_ok (argI_ok fun x0 => endU_ok fun r h => call_gets.c x0 r h)

/-- becket call.Answer -/
noncomputable def call_Answer.sp : Spec := (orS 31 (fun {_} => frame_Go.e) (orS 30 (fun {_} => frame_Set.e) (orS 29 (fun {_} => call_gets.e) (orS 20 (fun {_} => call_waits.e) (orS 18 (fun {_} => call_asking.e) noS)))))
def call_Answer.s {Ω : Type} (x0 : (List T_s54)) (x1 : T_s25) (x2 : Int) (k : T_s25 × Int → Option Ω) : Option Ω :=
  (call_asking.u x0 x1).bind fun y1 =>
  bif (y1.2 != 0) then
    k (x1, y1.2)
  else
    bif (call_waits.t y1.1) then
      k (x1, 13)
    else
      (call_gets.u y1.1).bind fun y2 =>
      bif (y2 != (-1)) then
        (frame_Set.u x1 y2 x2).bind fun y3 =>
        bif (y3.2 != 0) then
          k (x1, y3.2)
        else
          (frame_Go.u ((y3.1.1, (false, y3.1.2.2))) ((IntKind.wrap .i64 (x1.1 + 1)))).bind fun y4 =>
          k (y4.1, y4.2)
      else
        (frame_Go.u ((x1.1, (false, x1.2.2))) ((IntKind.wrap .i64 (x1.1 + 1)))).bind fun y5 =>
        k (y5.1, y5.2)
theorem call_Answer.ev {Ω : Type} (fuel : Fuel) (x0 : (List T_s54)) (x1 : T_s25) (x2 : Int) (k : AV → Option Ω) : evFn CKM call_Answer.sp fuel Tryz.f10 (Tryz.f10.body.getD .skip) [(.v (.slice E_s54) (x0)), (.v E_s25 (x1)), (.v (.int .i64) (x2))] k = call_Answer.s x0 x1 x2 (fun r => k (tupAV E_s25 [(.int .i64)] r)) := by kernel_rfl
def call_Answer.u (x0 : (List T_s54)) (x1 : T_s25) (x2 : Int) : Option (T_s25 × Int) := call_Answer.s x0 x1 x2 some
theorem call_Answer.c (x0 : (List T_s54)) (x1 : T_s25) (x2 : Int) (r : T_s25 × Int) (h : call_Answer.u x0 x1 x2 = some r) : Contract CKM 10 [(.v (.slice E_s54) (x0)), (.v E_s25 (x1)), (.v (.int .i64) (x2))] (tupAV E_s25 [(.int .i64)] r) :=
  contract_s (S := fun k => call_Answer.s x0 x1 x2 k) CKM_ok (orS_ok (frame_Go.e_ok.mono le_C_CKM) (orS_ok (frame_Set.e_ok.mono le_C_CKM) (orS_ok (call_gets.e_ok.mono le_C_CKM) (orS_ok (call_waits.e_ok.mono le_C_CKM) (orS_ok call_asking.e_ok noS_ok))))) (by kernel_rfl) (by kernel_rfl) (by kernel_rfl) (call_Answer.ev ⟨1, fun _ => []⟩ x0 x1 x2 (dec E_s25 [(.int .i64)])) h
noncomputable def call_Answer.e : Ent := argI (.slice E_s54) fun x0 => argI E_s25 fun x1 => argI (.int .i64) fun x2 => endU (call_Answer.u x0 x1 x2) (tupAV E_s25 [(.int .i64)])
theorem call_Answer.e_ok : EntOK CKM 10 (fun {_} => call_Answer.e) := entA_ok (argI_ok fun x0 => argI_ok fun x1 => argI_ok fun x2 => endU_ok fun r h => call_Answer.c x0 x1 x2 r h)

/-- becket becketlaw15.alive -/
noncomputable def law15_alive.sp : Spec := (orS 16 (fun {_} => frame_New.e) (orS 12 (fun {_} => call_Wake.e) (orS 10 (fun {_} => call_Answer.e) (orS 7 (fun {_} => call_Of.e) noS))))
def law15_alive.s {Ω : Type}  (k : Bool → Option Ω) : Option Ω :=
  let v1 : T_s25 × Int := (frame_New.t 7)
  (call_Of.u ([(34, (0, (1, (0, ())))), (28, (2, (0, (0, ()))))]) v1.1 5).bind fun y2 =>
  (call_Wake.u ([(34, (0, (1, (0, ())))), (28, (2, (0, (0, ()))))]) v1.1 ((1, (0, (0, (1, (0, ())))))) 9 false).bind fun y3 =>
  (call_Answer.u ([(34, (0, (1, (0, ())))), (28, (2, (0, (0, ()))))]) v1.1 9).bind fun y4 =>
  (call_Answer.u ([(34, (0, (1, (0, ())))), (28, (2, (0, (0, ()))))]) y3.1 5).bind fun y5 =>
  bif (v1.2 == 0) then
    bif (y2.2 == 0) then
      bif (y2.1.1 == 34) then
        bif (y2.1.2.1 == (-1)) then
          bif (((List.length y2.1.2.2.2.2.2.1 : Nat) : Int) == 1) then
            bif (idxOK 0 (List.length y2.1.2.2.2.2.2.1)) then
              let v6 : Bool := (eqI E_s44 (List.getD y2.1.2.2.2.2.2.1 0 (0, (0, (0, (0, (0, ())))))) (1, (0, (0, (1, (0, ()))))))
              bif v6 then
                bif (y3.2 == 0) then
                  bif ((List.getD y3.1.2.2.1 1 0) == 9) then
                    bif (y3.1.1 == 1) then
                      bif (y4.2 == 13) then
                        bif (y5.2 == 0) then
                          bif ((List.getD y5.1.2.2.1 2 0) == 5) then
                            k (y5.1.1 == 2)
                          else
                            k false
                        else
                          k false
                      else
                        k false
                    else
                      k false
                  else
                    k false
                else
                  k false
              else
                k false
            else
              none
          else
            k false
        else
          k false
      else
        k false
    else
      k false
  else
    k false
theorem law15_alive.ev {Ω : Type} (fuel : Fuel)  (k : AV → Option Ω) : evFn CKM law15_alive.sp fuel Tryz.f6 (Tryz.f6.body.getD .skip) [] k = law15_alive.s  (fun r => k (tupAV .bool [] r)) := by kernel_rfl
def law15_alive.u  : Option (Bool) := law15_alive.s  some
theorem law15_alive.c  (r : Bool) (h : law15_alive.u  = some r) : Contract CKM 6 [] (tupAV .bool [] r) :=
  contract_s (S := fun k => law15_alive.s  k) CKM_ok (orS_ok (frame_New.e_ok.mono le_C_CKM) (orS_ok call_Wake.e_ok (orS_ok call_Answer.e_ok (orS_ok call_Of.e_ok noS_ok)))) (by kernel_rfl) (by kernel_rfl) (by kernel_rfl) (law15_alive.ev ⟨1, fun _ => []⟩  (dec .bool [])) h
noncomputable def law15_alive.e : Ent := endU (law15_alive.u ) (tupAV .bool [])
theorem law15_alive.e_ok : EntOK CKM 6 (fun {_} => law15_alive.e) := entA_ok (endU_ok fun r h => law15_alive.c  r h)

/-- becket becketref15.at -/
noncomputable def ref15_at.sp : Spec := (orS 52 (fun {_} => ref14_Step.e) (orS 51 (fun {_} => ref13_Fine.e) (orS 50 (fun {_} => ref12_Fine.e) noS)))
def ref15_at.s {Ω : Type} (x0 : (List T_s54)) (x1 : T_s25) (k : T_s54 × Int → Option Ω) : Option Ω :=
  (ref12_Fine.u x0).bind fun y1 =>
  bif (!y1) then
    k ((0, (0, (0, (0, ())))), 1)
  else
    (ref13_Fine.u x1).bind fun y2 =>
    bif (!y2) then
      k ((0, (0, (0, (0, ())))), 1)
    else
      (ref14_Step.u x0 x1).bind fun y3 =>
      bif (y3.2.1 != 1) then
        k ((0, (0, (0, (0, ())))), 13)
      else
        bif (idxOK x1.1 (List.length x0)) then
          k ((List.getD x0 (Int.toNat x1.1) (0, (0, (0, (0, ()))))), 0)
        else
          none
theorem ref15_at.ev {Ω : Type} (fuel : Fuel) (x0 : (List T_s54)) (x1 : T_s25) (k : AV → Option Ω) : evFn C ref15_at.sp fuel Tryz.f23 (Tryz.f23.body.getD .skip) [(.v (.slice E_s54) (x0)), (.v E_s25 (x1))] k = ref15_at.s x0 x1 (fun r => k (tupAV E_s54 [(.int .i64)] r)) := by kernel_rfl
def ref15_at.u (x0 : (List T_s54)) (x1 : T_s25) : Option (T_s54 × Int) := ref15_at.s x0 x1 some
theorem ref15_at.c (x0 : (List T_s54)) (x1 : T_s25) (r : T_s54 × Int) (h : ref15_at.u x0 x1 = some r) : Contract C 23 [(.v (.slice E_s54) (x0)), (.v E_s25 (x1))] (tupAV E_s54 [(.int .i64)] r) :=
  contract_s (S := fun k => ref15_at.s x0 x1 k) C_ok (orS_ok ref14_Step.e_ok (orS_ok ref13_Fine.e_ok (orS_ok ref12_Fine.e_ok noS_ok))) (by kernel_rfl) (by kernel_rfl) (by kernel_rfl) (ref15_at.ev ⟨1, fun _ => []⟩ x0 x1 (dec E_s54 [(.int .i64)])) h
noncomputable def ref15_at.e : Ent := argI (.slice E_s54) fun x0 => argI E_s25 fun x1 => endU (ref15_at.u x0 x1) (tupAV E_s54 [(.int .i64)])
theorem ref15_at.e_ok : EntOK C 23 (fun {_} => ref15_at.e) := entA_ok (argI_ok fun x0 => argI_ok fun x1 => endU_ok fun r h => ref15_at.c x0 x1 r h)

/-- becket becketref15.Waits -/
noncomputable def ref15_Waits.sp : Spec := noS
def ref15_Waits.s {Ω : Type} (x0 : ByteArray) (k : Bool → Option Ω) : Option Ω :=
  bif ((x0).data.toList == ((bs [106, 111, 105, 110])).data.toList) then
    k true
  else
    bif ((x0).data.toList == ((bs [115, 108, 101, 101, 112])).data.toList) then
      k true
    else
      bif ((x0).data.toList == ((bs [115, 101, 110, 100])).data.toList) then
        k true
      else
        bif ((x0).data.toList == ((bs [114, 101, 99, 118])).data.toList) then
          k true
        else
          bif ((x0).data.toList == ((bs [115, 121, 110, 99])).data.toList) then
            k true
          else
            k ((x0).data.toList == ((bs [97, 108, 116])).data.toList)
theorem ref15_Waits.ev {Ω : Type} (fuel : Fuel) (x0 : ByteArray) (k : AV → Option Ω) : evFn C ref15_Waits.sp fuel Tryz.f26 (Tryz.f26.body.getD .skip) [(.v .str (x0))] k = ref15_Waits.s x0 (fun r => k (tupAV .bool [] r)) := by kernel_rfl
def ref15_Waits.t (x0 : ByteArray) : Bool :=
  bif ((x0).data.toList == ((bs [106, 111, 105, 110])).data.toList) then
    true
  else
    bif ((x0).data.toList == ((bs [115, 108, 101, 101, 112])).data.toList) then
      true
    else
      bif ((x0).data.toList == ((bs [115, 101, 110, 100])).data.toList) then
        true
      else
        bif ((x0).data.toList == ((bs [114, 101, 99, 118])).data.toList) then
          true
        else
          bif ((x0).data.toList == ((bs [115, 121, 110, 99])).data.toList) then
            true
          else
            ((x0).data.toList == ((bs [97, 108, 116])).data.toList)
theorem ref15_Waits.v {Ω : Type} (x0 : ByteArray) (k : Bool → Option Ω) : ref15_Waits.s x0 k = k (ref15_Waits.t x0) := by
  delta ref15_Waits.s ref15_Waits.t; exact (cond_tot rfl (cond_tot rfl (cond_tot rfl (cond_tot rfl (cond_tot rfl rfl)))))
theorem ref15_Waits.c (x0 : ByteArray) : Contract C 26 [(.v .str (x0))] (tupAV .bool [] (ref15_Waits.t x0)) :=
  contract_s (S := fun k => ref15_Waits.s x0 k) C_ok noS_ok (by kernel_rfl) (by kernel_rfl) (by kernel_rfl) (ref15_Waits.ev ⟨1, fun _ => []⟩ x0 (dec .bool [])) (ref15_Waits.v x0 some)
noncomputable def ref15_Waits.e : Ent := argI .str fun x0 => endT (tupAV .bool [] (ref15_Waits.t x0))
theorem ref15_Waits.e_ok : EntOK C 26 (fun {_} => ref15_Waits.e) := entA_ok (argI_ok fun x0 => endT_ok (ref15_Waits.c x0))

/-- becket becketref15.guards -/
noncomputable def ref15_guards.sp : Spec := (orS 54 (fun {_} => ref05_After.e) (orS 25 (fun {_} => ref09_Of.e) noS))
def ref15_guards.F (fuel : Nat) : Fuel := ⟨fuel, fun r => bif r == 17 then [1, 3, 5, 6, 8, 9, 10, 11, 14, 15, 16, 17, 18, 19, 20, 21, 22, 23, 24, 25, 26, 27, 28, 29, 30, 31, 32, 33, 34, 35, 36, 37, 38, 39, 40, 41, 42, 43, 44, 45, 46, 47, 48, 49, 50, 51, 52, 53, 54, 55, 56, 57, 58, 59, 60, 61, 62, 63, 64, 65, 66, 67, 68, 69, 70, 71, 72, 73, 74, 75, 76, 77, 78, 79, 80, 81, 82, 83, 84, 85, 86, 87, 88, 89, 90, 91, 92, 93, 94, 95, 96, 97, 98, 99, 100, 101, 102, 103, 104, 105, 106, 107, 108, 109, 110, 111, 112, 113, 114, 115, 116, 117, 118, 119, 120, 121, 122, 123, 124, 125, 126, 127, 128, 129, 130, 131, 132, 133, 134, 135, 136, 137, 138, 139, 140, 141, 142, 143, 144, 145, 146, 147, 148, 149, 150, 151, 152, 153, 154, 155, 156, 157, 158, 159, 160, 161] else []⟩
def ref15_guards.E0 (e17_1 : (List T_s54)) (e17_2 : Int) (e17_3 : T_s25) (e17_4 : T_s54) (s17 : Int × (List T_s44)) : List AV := [(.v (.slice E_s54) (e17_1)), .dead, (.v (.int .i64) (e17_2)), .dead, (.ref 0 []), .dead, .dead, (.ref 2 []), .dead, .dead, .dead, .dead, (.rs 3), (.v (.int .i64) (s17.1)), .dead, .dead, .dead, .dead, .dead, .dead, .dead, .dead, .dead, .dead, .dead, .dead, .dead, .dead, .dead, .dead, .dead, .dead, .dead, .dead, .dead, .dead, .dead, .dead, .dead, .dead, .dead, .dead, .dead, .dead, .dead, .dead, .dead, .dead, .dead, .dead, .dead, .dead, .dead, .dead, .dead, .dead, .dead, .dead, .dead, .dead, .dead, .dead, .dead, .dead, .dead, .dead, .dead, .dead, .dead, .dead, .dead, .dead, .dead, .dead, .dead, .dead, .dead, .dead, .dead, .dead, .dead, .dead, .dead, .dead, .dead, .dead, .dead, .dead, .dead, .dead, .dead, .dead, .dead, .dead, .dead, .dead, .dead, .dead, .dead, .dead, .dead, .dead, .dead, .dead, .dead, .dead, .dead, .dead, .dead, .dead, .dead, .dead, .dead, .dead, .dead, .dead, .dead, .dead, .dead, .dead, .dead, .dead, .dead, .dead, .dead, .dead, .dead, .dead, .dead, .dead, .dead, .dead, .dead, .dead, .dead, .dead, .dead, .dead, .dead, .dead, .dead, .dead, .dead, .dead, .dead, .dead, .dead, .dead, .dead, .dead, .dead, .dead, .dead, .dead, .dead, .dead, .dead, .dead, .dead, .dead, .dead, .dead]
def ref15_guards.H0 (e17_1 : (List T_s54)) (e17_2 : Int) (e17_3 : T_s25) (e17_4 : T_s54) (s17 : Int × (List T_s44)) : Heap := [(.box E_s25 e17_3 false), (.row 45 E_s44 [] false), (.box E_s54 e17_4 false), (.row 45 E_s44 s17.2 false)]
noncomputable def ref15_guards.M0 {Ω : Type} (fuel : Nat) (e17_1 : (List T_s54)) (e17_2 : Int) (e17_3 : T_s25) (e17_4 : T_s54)  (k : AV → Option Ω) (m : Nat) (s : Int × (List T_s44)) : Option Ω := loopK (fun env L k => evCode C ref15_guards.sp (ref15_guards.F fuel) (cl (cl (cr (cl (cr (cr (cr (cr (cr (cr (Tryz.f27.body.getD .skip))))))))))) env L k) [false, true, false, true, false, true, true, false, true, true, true, true, false, false, true, true, true, true, true, true, true, true, true, true, true, true, true, true, true, true, true, true, true, true, true, true, true, true, true, true, true, true, true, true, true, true, true, true, true, true, true, true, true, true, true, true, true, true, true, true, true, true, true, true, true, true, true, true, true, true, true, true, true, true, true, true, true, true, true, true, true, true, true, true, true, true, true, true, true, true, true, true, true, true, true, true, true, true, true, true, true, true, true, true, true, true, true, true, true, true, true, true, true, true, true, true, true, true, true, true, true, true, true, true, true, true, true, true, true, true, true, true, true, true, true, true, true, true, true, true, true, true, true, true, true, true, true, true, true, true, true, true, true, true, true, true, true, true, true, true, true, true] 4 (blockK 1 (seqK (fun env L => evCode C ref15_guards.sp (ref15_guards.F fuel) (cr (cr (cr (cr (cr (cr (cr (Tryz.f27.body.getD .skip)))))))) env L (finK C Tryz.f27 k)) (finK C Tryz.f27 k))) m ((ref15_guards.E0 e17_1 e17_2 e17_3 e17_4) s) ((ref15_guards.H0 e17_1 e17_2 e17_3 e17_4) s)
def ref15_guards.b0 {Ω : Type} (e17_1 : (List T_s54)) (e17_2 : Int) (e17_3 : T_s25) (e17_4 : T_s54)   (k : (List T_s44) → Option Ω) (r17 : Int × (List T_s44) → Option Ω) (s17 : Int × (List T_s44)) : Option Ω :=
  bif (decide (s17.1 < (IntKind.wrap .i64 e17_4.2.2.2.1))) then
    bif (idxOK (IntKind.wrap .i64 ((IntKind.wrap .i64 (e17_3.1 + 1)) + s17.1)) (List.length e17_1)) then
      let v5 : T_s54 := (List.getD e17_1 (Int.toNat (IntKind.wrap .i64 ((IntKind.wrap .i64 (e17_3.1 + 1)) + s17.1))) (0, (0, (0, (0, ())))))
      bif (decide (v5.2.2.2.1 < 8)) then
        bif (idxOK v5.2.2.2.1 8) then
          bif ((List.getD e17_3.2.2.1 (Int.toNat v5.2.2.2.1) 0) == 0) then
            r17 ((IntKind.wrap .i64 (s17.1 + 1)), s17.2)
          else
            bif (idxOK (Int.tmod v5.2.1 8) 8) then
              let v6 : Int × Int := (ref05_After.t e17_2 ((List.getD e17_3.2.2.1 (Int.toNat (Int.tmod v5.2.1 8)) 0)))
              (ref09_Of.u (IntKind.wrap .i64 v5.1)).bind fun y7 =>
              bif ((y7.1).data.toList == ((bs [103, 105, 110])).data.toList) then
                bif (decide (List.length s17.2 + List.length [(1, ((IntKind.wrap .i64 v5.2.1), (0, ((IntKind.wrap .i64 v5.2.2.1), (s17.1, ())))))] ≤ rowMax)) then
                  r17 ((IntKind.wrap .i64 (s17.1 + 1)), (s17.2 ++ [(1, ((IntKind.wrap .i64 v5.2.1), (0, ((IntKind.wrap .i64 v5.2.2.1), (s17.1, ())))))]))
                else
                  none
              else
                bif ((y7.1).data.toList == ((bs [103, 98, 97, 114])).data.toList) then
                  bif (decide (List.length s17.2 + List.length [(3, ((IntKind.wrap .i64 v5.2.1), (0, (0, (s17.1, ())))))] ≤ rowMax)) then
                    r17 ((IntKind.wrap .i64 (s17.1 + 1)), (s17.2 ++ [(3, ((IntKind.wrap .i64 v5.2.1), (0, (0, (s17.1, ())))))]))
                  else
                    none
                else
                  bif ((y7.1).data.toList == ((bs [103, 116, 105, 109, 101])).data.toList) then
                    bif (decide (List.length s17.2 + List.length [(4, (0, (v6.1, (0, (s17.1, ())))))] ≤ rowMax)) then
                      r17 ((IntKind.wrap .i64 (s17.1 + 1)), (s17.2 ++ [(4, (0, (v6.1, (0, (s17.1, ())))))]))
                    else
                      none
                  else
                    bif (decide (List.length s17.2 + List.length [(5, (0, (0, (0, (s17.1, ())))))] ≤ rowMax)) then
                      r17 ((IntKind.wrap .i64 (s17.1 + 1)), (s17.2 ++ [(5, (0, (0, (0, (s17.1, ())))))]))
                    else
                      none
            else
              none
        else
          none
      else
        bif (idxOK (Int.tmod v5.2.1 8) 8) then
          let v8 : Int × Int := (ref05_After.t e17_2 ((List.getD e17_3.2.2.1 (Int.toNat (Int.tmod v5.2.1 8)) 0)))
          (ref09_Of.u (IntKind.wrap .i64 v5.1)).bind fun y9 =>
          bif ((y9.1).data.toList == ((bs [103, 105, 110])).data.toList) then
            bif (decide (List.length s17.2 + List.length [(1, ((IntKind.wrap .i64 v5.2.1), (0, ((IntKind.wrap .i64 v5.2.2.1), (s17.1, ())))))] ≤ rowMax)) then
              r17 ((IntKind.wrap .i64 (s17.1 + 1)), (s17.2 ++ [(1, ((IntKind.wrap .i64 v5.2.1), (0, ((IntKind.wrap .i64 v5.2.2.1), (s17.1, ())))))]))
            else
              none
          else
            bif ((y9.1).data.toList == ((bs [103, 98, 97, 114])).data.toList) then
              bif (decide (List.length s17.2 + List.length [(3, ((IntKind.wrap .i64 v5.2.1), (0, (0, (s17.1, ())))))] ≤ rowMax)) then
                r17 ((IntKind.wrap .i64 (s17.1 + 1)), (s17.2 ++ [(3, ((IntKind.wrap .i64 v5.2.1), (0, (0, (s17.1, ())))))]))
              else
                none
            else
              bif ((y9.1).data.toList == ((bs [103, 116, 105, 109, 101])).data.toList) then
                bif (decide (List.length s17.2 + List.length [(4, (0, (v8.1, (0, (s17.1, ())))))] ≤ rowMax)) then
                  r17 ((IntKind.wrap .i64 (s17.1 + 1)), (s17.2 ++ [(4, (0, (v8.1, (0, (s17.1, ())))))]))
                else
                  none
              else
                bif (decide (List.length s17.2 + List.length [(5, (0, (0, (0, (s17.1, ())))))] ≤ rowMax)) then
                  r17 ((IntKind.wrap .i64 (s17.1 + 1)), (s17.2 ++ [(5, (0, (0, (0, (s17.1, ())))))]))
                else
                  none
        else
          none
    else
      none
  else
    k s17.2
def ref15_guards.B0 {Ω : Type} (fuel : Nat) (e17_1 : (List T_s54)) (e17_2 : Int) (e17_3 : T_s25) (e17_4 : T_s54)  (k : (List T_s44) → Option Ω) (r17 : Int × (List T_s44) → Option Ω) (s17 : Int × (List T_s44)) : Option Ω := ref15_guards.b0 e17_1 e17_2 e17_3 e17_4   k r17 s17
theorem ref15_guards.l0 {Ω : Type} (fuel : Nat) (e17_1 : (List T_s54)) (e17_2 : Int) (e17_3 : T_s25) (e17_4 : T_s54)  (k : AV → Option Ω) : ∀ m, (ref15_guards.M0 fuel e17_1 e17_2 e17_3 e17_4  k m) = iter (ref15_guards.B0 fuel e17_1 e17_2 e17_3 e17_4  (fun r => k (tupAV (.slice E_s44) [] r))) m :=
  loopK_iter (envOf := (ref15_guards.E0 e17_1 e17_2 e17_3 e17_4)) (LOf := (ref15_guards.H0 e17_1 e17_2 e17_3 e17_4)) (B := ref15_guards.B0 fuel e17_1 e17_2 e17_3 e17_4  (fun r => k (tupAV (.slice E_s44) [] r))) (fun R s => by kernel_rfl)
def ref15_guards.sl {Ω : Type} (x0 : (List T_s54)) (x1 : T_s25) (x2 : Int) (lp0 : (List T_s54) → Int → T_s25 → T_s54 → Int × (List T_s44) → Option Ω) (k : (List T_s44) → Option Ω) : Option Ω :=
  bif (idxOK x1.1 (List.length x0)) then
    bif (idxOK (Int.tmod (List.getD x0 (Int.toNat x1.1) (0, (0, (0, (0, ()))))).2.1 8) 8) then
      let v1 : Int := (List.getD x1.2.2.1 (Int.toNat (Int.tmod (List.getD x0 (Int.toNat x1.1) (0, (0, (0, (0, ()))))).2.1 8)) 0)
      bif (idxOK (Int.tmod (List.getD x0 (Int.toNat x1.1) (0, (0, (0, (0, ()))))).2.2.1 8) 8) then
        let v2 : Int := (List.getD x1.2.2.1 (Int.toNat (Int.tmod (List.getD x0 (Int.toNat x1.1) (0, (0, (0, (0, ()))))).2.2.1 8)) 0)
        let v3 : Int × Int := (ref05_After.t x2 v1)
        (ref09_Of.u ((IntKind.wrap .i64 (List.getD x0 (Int.toNat x1.1) (0, (0, (0, (0, ()))))).1))).bind fun y4 =>
        bif ((y4.1).data.toList == ((bs [106, 111, 105, 110])).data.toList) then
          k [(6, (0, (v1, ((IntKind.wrap .i64 (List.getD x0 (Int.toNat x1.1) (0, (0, (0, (0, ()))))).2.1), (0, ())))))]
        else
          bif ((y4.1).data.toList == ((bs [115, 108, 101, 101, 112])).data.toList) then
            k [(4, (0, (v3.1, (0, (0, ())))))]
          else
            bif ((y4.1).data.toList == ((bs [115, 101, 110, 100])).data.toList) then
              k [(2, ((IntKind.wrap .i64 (List.getD x0 (Int.toNat x1.1) (0, (0, (0, (0, ()))))).2.1), (v2, (0, (0, ())))))]
            else
              bif ((y4.1).data.toList == ((bs [114, 101, 99, 118])).data.toList) then
                k [(1, ((IntKind.wrap .i64 (List.getD x0 (Int.toNat x1.1) (0, (0, (0, (0, ()))))).2.1), (0, ((IntKind.wrap .i64 (List.getD x0 (Int.toNat x1.1) (0, (0, (0, (0, ()))))).2.2.1), (0, ())))))]
              else
                bif ((y4.1).data.toList == ((bs [115, 121, 110, 99])).data.toList) then
                  k [(3, ((IntKind.wrap .i64 (List.getD x0 (Int.toNat x1.1) (0, (0, (0, (0, ()))))).2.1), (0, (0, (0, ())))))]
                else
                  lp0 x0 x2 x1 ((List.getD x0 (Int.toNat x1.1) (0, (0, (0, (0, ())))))) (0, [])
      else
        none
    else
      none
  else
    none
def ref15_guards.s {Ω : Type} (fuel : Nat) (x0 : (List T_s54)) (x1 : T_s25) (x2 : Int) (k : (List T_s44) → Option Ω) : Option Ω := ref15_guards.sl x0 x1 x2 (fun e17_1 e17_2 e17_3 e17_4 => (iter (ref15_guards.B0 fuel e17_1 e17_2 e17_3 e17_4  k) fuel)) k
theorem ref15_guards.ev {Ω : Type} (fuel : Nat) (x0 : (List T_s54)) (x1 : T_s25) (x2 : Int) (k : AV → Option Ω) : evFn C ref15_guards.sp (ref15_guards.F fuel) Tryz.f27 (Tryz.f27.body.getD .skip) [(.v (.slice E_s54) (x0)), (.v E_s25 (x1)), (.v (.int .i64) (x2))] k = ref15_guards.s fuel x0 x1 x2 (fun r => k (tupAV (.slice E_s44) [] r)) := by
  have h0 : evFn C ref15_guards.sp (ref15_guards.F fuel) Tryz.f27 (Tryz.f27.body.getD .skip) [(.v (.slice E_s54) (x0)), (.v E_s25 (x1)), (.v (.int .i64) (x2))] k = ref15_guards.sl x0 x1 x2 (fun e17_1 e17_2 e17_3 e17_4 => (ref15_guards.M0 fuel e17_1 e17_2 e17_3 e17_4  k fuel)) (fun r => k (tupAV (.slice E_s44) [] r)) := by kernel_rfl
  have h1 : (fun e17_1 e17_2 e17_3 e17_4 => (ref15_guards.M0 fuel e17_1 e17_2 e17_3 e17_4  k fuel)) = (fun e17_1 e17_2 e17_3 e17_4 => (iter (ref15_guards.B0 fuel e17_1 e17_2 e17_3 e17_4  (fun r => k (tupAV (.slice E_s44) [] r))) fuel)) := funext fun e17_1 => funext fun e17_2 => funext fun e17_3 => funext fun e17_4 => ref15_guards.l0 fuel e17_1 e17_2 e17_3 e17_4   k fuel
  rw [h1] at h0
  exact h0
def ref15_guards.g0 {Ω : Type} (e17_1 : (List T_s54)) (e17_2 : Int) (e17_3 : T_s25) (e17_4 : T_s54)  (k : (List T_s44) → Option Ω) : Nat → Int → (List T_s44) → Option Ω
  | 0, i17, a17_1 =>
    k a17_1
  | d17 + 1, i17, a17_1 =>
    bif (idxOK (IntKind.wrap .i64 ((IntKind.wrap .i64 (e17_3.1 + 1)) + i17)) (List.length e17_1)) then
      let v5 : T_s54 := (List.getD e17_1 (Int.toNat (IntKind.wrap .i64 ((IntKind.wrap .i64 (e17_3.1 + 1)) + i17))) (0, (0, (0, (0, ())))))
      bif (decide (v5.2.2.2.1 < 8)) then
        bif (idxOK v5.2.2.2.1 8) then
          bif ((List.getD e17_3.2.2.1 (Int.toNat v5.2.2.2.1) 0) == 0) then
            ref15_guards.g0 e17_1 e17_2 e17_3 e17_4  k d17 (i17 + 1) a17_1
          else
            bif (idxOK (Int.tmod v5.2.1 8) 8) then
              let v6 : Int × Int := (ref05_After.t e17_2 ((List.getD e17_3.2.2.1 (Int.toNat (Int.tmod v5.2.1 8)) 0)))
              (ref09_Of.u (IntKind.wrap .i64 v5.1)).bind fun y7 =>
              bif ((y7.1).data.toList == ((bs [103, 105, 110])).data.toList) then
                bif (decide (List.length a17_1 + List.length [(1, ((IntKind.wrap .i64 v5.2.1), (0, ((IntKind.wrap .i64 v5.2.2.1), (i17, ())))))] ≤ rowMax)) then
                  ref15_guards.g0 e17_1 e17_2 e17_3 e17_4  k d17 (i17 + 1) ((a17_1 ++ [(1, ((IntKind.wrap .i64 v5.2.1), (0, ((IntKind.wrap .i64 v5.2.2.1), (i17, ())))))]))
                else
                  none
              else
                bif ((y7.1).data.toList == ((bs [103, 98, 97, 114])).data.toList) then
                  bif (decide (List.length a17_1 + List.length [(3, ((IntKind.wrap .i64 v5.2.1), (0, (0, (i17, ())))))] ≤ rowMax)) then
                    ref15_guards.g0 e17_1 e17_2 e17_3 e17_4  k d17 (i17 + 1) ((a17_1 ++ [(3, ((IntKind.wrap .i64 v5.2.1), (0, (0, (i17, ())))))]))
                  else
                    none
                else
                  bif ((y7.1).data.toList == ((bs [103, 116, 105, 109, 101])).data.toList) then
                    bif (decide (List.length a17_1 + List.length [(4, (0, (v6.1, (0, (i17, ())))))] ≤ rowMax)) then
                      ref15_guards.g0 e17_1 e17_2 e17_3 e17_4  k d17 (i17 + 1) ((a17_1 ++ [(4, (0, (v6.1, (0, (i17, ())))))]))
                    else
                      none
                  else
                    bif (decide (List.length a17_1 + List.length [(5, (0, (0, (0, (i17, ())))))] ≤ rowMax)) then
                      ref15_guards.g0 e17_1 e17_2 e17_3 e17_4  k d17 (i17 + 1) ((a17_1 ++ [(5, (0, (0, (0, (i17, ())))))]))
                    else
                      none
            else
              none
        else
          none
      else
        bif (idxOK (Int.tmod v5.2.1 8) 8) then
          let v8 : Int × Int := (ref05_After.t e17_2 ((List.getD e17_3.2.2.1 (Int.toNat (Int.tmod v5.2.1 8)) 0)))
          (ref09_Of.u (IntKind.wrap .i64 v5.1)).bind fun y9 =>
          bif ((y9.1).data.toList == ((bs [103, 105, 110])).data.toList) then
            bif (decide (List.length a17_1 + List.length [(1, ((IntKind.wrap .i64 v5.2.1), (0, ((IntKind.wrap .i64 v5.2.2.1), (i17, ())))))] ≤ rowMax)) then
              ref15_guards.g0 e17_1 e17_2 e17_3 e17_4  k d17 (i17 + 1) ((a17_1 ++ [(1, ((IntKind.wrap .i64 v5.2.1), (0, ((IntKind.wrap .i64 v5.2.2.1), (i17, ())))))]))
            else
              none
          else
            bif ((y9.1).data.toList == ((bs [103, 98, 97, 114])).data.toList) then
              bif (decide (List.length a17_1 + List.length [(3, ((IntKind.wrap .i64 v5.2.1), (0, (0, (i17, ())))))] ≤ rowMax)) then
                ref15_guards.g0 e17_1 e17_2 e17_3 e17_4  k d17 (i17 + 1) ((a17_1 ++ [(3, ((IntKind.wrap .i64 v5.2.1), (0, (0, (i17, ())))))]))
              else
                none
            else
              bif ((y9.1).data.toList == ((bs [103, 116, 105, 109, 101])).data.toList) then
                bif (decide (List.length a17_1 + List.length [(4, (0, (v8.1, (0, (i17, ())))))] ≤ rowMax)) then
                  ref15_guards.g0 e17_1 e17_2 e17_3 e17_4  k d17 (i17 + 1) ((a17_1 ++ [(4, (0, (v8.1, (0, (i17, ())))))]))
                else
                  none
              else
                bif (decide (List.length a17_1 + List.length [(5, (0, (0, (0, (i17, ())))))] ≤ rowMax)) then
                  ref15_guards.g0 e17_1 e17_2 e17_3 e17_4  k d17 (i17 + 1) ((a17_1 ++ [(5, (0, (0, (0, (i17, ())))))]))
                else
                  none
        else
          none
    else
      none
theorem ref15_guards.h0 {Ω : Type} (e17_1 : (List T_s54)) (e17_2 : Int) (e17_3 : T_s25) (e17_4 : T_s54)   (k : (List T_s44) → Option Ω) (hN : ((IntKind.wrap .i64 e17_4.2.2.2.1) : Int) ≤ 9223372036854775807) : ∀ (m : Nat) (i : Int) (a : (List T_s44)), -9223372036854775808 ≤ i → Int.toNat (((IntKind.wrap .i64 e17_4.2.2.2.1) : Int) - i) < m → Le (ref15_guards.g0 e17_1 e17_2 e17_3 e17_4  k (Int.toNat (((IntKind.wrap .i64 e17_4.2.2.2.1) : Int) - i)) i a) (iter (ref15_guards.B0 BIG e17_1 e17_2 e17_3 e17_4  k) m (i, a)) :=
  iter_count ((IntKind.wrap .i64 e17_4.2.2.2.1) : Int) (fun i17 => (decide (i17 < (IntKind.wrap .i64 e17_4.2.2.2.1)))) (fun i => rfl) (fun (i17 : Int) (a17 : (List T_s44)) => (i17, a17)) (fun xs i17 a17 => ref15_guards.g0 e17_1 e17_2 e17_3 e17_4  k xs i17 a17) (ref15_guards.B0 BIG e17_1 e17_2 e17_3 e17_4  k)
    (fun i17 a17 r h0 => (Le.fls h0 (Le.refl _)))
    (fun i17 d17 a17 r h0 hw ih => (Le.tru h0 (Le.cond (let v5 : T_s54 := (List.getD e17_1 (Int.toNat (IntKind.wrap .i64 ((IntKind.wrap .i64 (e17_3.1 + 1)) + i17))) (0, (0, (0, (0, ()))))); (Le.cond (Le.cond (Le.cond (ih _ hw (a17)) (Le.cond (let v6 : Int × Int := (ref05_After.t e17_2 ((List.getD e17_3.2.2.1 (Int.toNat (Int.tmod v5.2.1 8)) 0))); (Le.bnd fun y7 => (Le.cond (Le.cond (ih _ hw ((a17 ++ [(1, ((IntKind.wrap .i64 v5.2.1), (0, ((IntKind.wrap .i64 v5.2.2.1), (i17, ())))))]))) Le.nil) (Le.cond (Le.cond (ih _ hw ((a17 ++ [(3, ((IntKind.wrap .i64 v5.2.1), (0, (0, (i17, ())))))]))) Le.nil) (Le.cond (Le.cond (ih _ hw ((a17 ++ [(4, (0, (v6.1, (0, (i17, ())))))]))) Le.nil) (Le.cond (ih _ hw ((a17 ++ [(5, (0, (0, (0, (i17, ())))))]))) Le.nil)))))) Le.nil)) Le.nil) (Le.cond (let v8 : Int × Int := (ref05_After.t e17_2 ((List.getD e17_3.2.2.1 (Int.toNat (Int.tmod v5.2.1 8)) 0))); (Le.bnd fun y9 => (Le.cond (Le.cond (ih _ hw ((a17 ++ [(1, ((IntKind.wrap .i64 v5.2.1), (0, ((IntKind.wrap .i64 v5.2.2.1), (i17, ())))))]))) Le.nil) (Le.cond (Le.cond (ih _ hw ((a17 ++ [(3, ((IntKind.wrap .i64 v5.2.1), (0, (0, (i17, ())))))]))) Le.nil) (Le.cond (Le.cond (ih _ hw ((a17 ++ [(4, (0, (v8.1, (0, (i17, ())))))]))) Le.nil) (Le.cond (ih _ hw ((a17 ++ [(5, (0, (0, (0, (i17, ())))))]))) Le.nil)))))) Le.nil))) Le.nil)))
    hN
def ref15_guards.w {Ω : Type} (x0 : (List T_s54)) (x1 : T_s25) (x2 : Int) (k : (List T_s44) → Option Ω) : Option Ω :=
  bif (idxOK x1.1 (List.length x0)) then
    bif (idxOK (Int.tmod (List.getD x0 (Int.toNat x1.1) (0, (0, (0, (0, ()))))).2.1 8) 8) then
      let v1 : Int := (List.getD x1.2.2.1 (Int.toNat (Int.tmod (List.getD x0 (Int.toNat x1.1) (0, (0, (0, (0, ()))))).2.1 8)) 0)
      bif (idxOK (Int.tmod (List.getD x0 (Int.toNat x1.1) (0, (0, (0, (0, ()))))).2.2.1 8) 8) then
        let v2 : Int := (List.getD x1.2.2.1 (Int.toNat (Int.tmod (List.getD x0 (Int.toNat x1.1) (0, (0, (0, (0, ()))))).2.2.1 8)) 0)
        let v3 : Int × Int := (ref05_After.t x2 v1)
        (ref09_Of.u ((IntKind.wrap .i64 (List.getD x0 (Int.toNat x1.1) (0, (0, (0, (0, ()))))).1))).bind fun y4 =>
        bif ((y4.1).data.toList == ((bs [106, 111, 105, 110])).data.toList) then
          k [(6, (0, (v1, ((IntKind.wrap .i64 (List.getD x0 (Int.toNat x1.1) (0, (0, (0, (0, ()))))).2.1), (0, ())))))]
        else
          bif ((y4.1).data.toList == ((bs [115, 108, 101, 101, 112])).data.toList) then
            k [(4, (0, (v3.1, (0, (0, ())))))]
          else
            bif ((y4.1).data.toList == ((bs [115, 101, 110, 100])).data.toList) then
              k [(2, ((IntKind.wrap .i64 (List.getD x0 (Int.toNat x1.1) (0, (0, (0, (0, ()))))).2.1), (v2, (0, (0, ())))))]
            else
              bif ((y4.1).data.toList == ((bs [114, 101, 99, 118])).data.toList) then
                k [(1, ((IntKind.wrap .i64 (List.getD x0 (Int.toNat x1.1) (0, (0, (0, (0, ()))))).2.1), (0, ((IntKind.wrap .i64 (List.getD x0 (Int.toNat x1.1) (0, (0, (0, (0, ()))))).2.2.1), (0, ())))))]
              else
                bif ((y4.1).data.toList == ((bs [115, 121, 110, 99])).data.toList) then
                  k [(3, ((IntKind.wrap .i64 (List.getD x0 (Int.toNat x1.1) (0, (0, (0, (0, ()))))).2.1), (0, (0, (0, ())))))]
                else
                  bif (decide ((IntKind.wrap .i64 ((List.getD x0 (Int.toNat x1.1) (0, (0, (0, (0, ())))))).2.2.2.1) ≤ 4611686018427387904)) then ref15_guards.g0 x0 x2 x1 ((List.getD x0 (Int.toNat x1.1) (0, (0, (0, (0, ()))))))  k ((Int.toNat ((IntKind.wrap .i64 ((List.getD x0 (Int.toNat x1.1) (0, (0, (0, (0, ())))))).2.2.2.1) - 0))) 0 ([]) else none
      else
        none
    else
      none
  else
    none
theorem ref15_guards.le {Ω : Type} (x0 : (List T_s54)) (x1 : T_s25) (x2 : Int) (k : (List T_s44) → Option Ω) : Le (ref15_guards.w x0 x1 x2 k) (ref15_guards.s BIG x0 x1 x2 k) := by
  delta ref15_guards.w ref15_guards.s ref15_guards.sl
  exact (Le.cond (Le.cond (let v1 : Int := (List.getD x1.2.2.1 (Int.toNat (Int.tmod (List.getD x0 (Int.toNat x1.1) (0, (0, (0, (0, ()))))).2.1 8)) 0); (Le.cond (let v2 : Int := (List.getD x1.2.2.1 (Int.toNat (Int.tmod (List.getD x0 (Int.toNat x1.1) (0, (0, (0, (0, ()))))).2.2.1 8)) 0); (let v3 : Int × Int := (ref05_After.t x2 v1); (Le.bnd fun y4 => (Le.cond (Le.refl _) (Le.cond (Le.refl _) (Le.cond (Le.refl _) (Le.cond (Le.refl _) (Le.cond (Le.refl _) (Le.gd fun hg => ref15_guards.h0 _ _ _ _   k (cnt_up hg) BIG 0 ([]) (by decide) (cnt_big hg (by decide))))))))))) Le.nil)) Le.nil) Le.nil)
def ref15_guards.u (x0 : (List T_s54)) (x1 : T_s25) (x2 : Int) : Option ((List T_s44)) := ref15_guards.w x0 x1 x2 some
theorem ref15_guards.c (x0 : (List T_s54)) (x1 : T_s25) (x2 : Int) (r : (List T_s44)) (h : ref15_guards.u x0 x1 x2 = some r) : Contract C 27 [(.v (.slice E_s54) (x0)), (.v E_s25 (x1)), (.v (.int .i64) (x2))] (tupAV (.slice E_s44) [] r) :=
  contract_s (S := fun k => ref15_guards.s BIG x0 x1 x2 k) C_ok (orS_ok ref05_After.e_ok (orS_ok ref09_Of.e_ok noS_ok)) (by kernel_rfl) (by kernel_rfl) (by kernel_rfl) (ref15_guards.ev BIG x0 x1 x2 (dec (.slice E_s44) [])) (ref15_guards.le x0 x1 x2 some r h)
noncomputable def ref15_guards.e : Ent := argI (.slice E_s54) fun x0 => argI E_s25 fun x1 => argI (.int .i64) fun x2 => endU (ref15_guards.u x0 x1 x2) (tupAV (.slice E_s44) [])
theorem ref15_guards.e_ok : EntOK C 27 (fun {_} => ref15_guards.e) := entA_ok (argI_ok fun x0 => argI_ok fun x1 => argI_ok fun x2 => endU_ok fun r h => ref15_guards.c x0 x1 x2 r h)

/-- becket becketref15.Of -/
noncomputable def ref15_Of.sp : Spec := (orS 27 (fun {_} => ref15_guards.e) (orS 26 (fun {_} => ref15_Waits.e) (orS 25 (fun {_} => ref09_Of.e) (orS 24 (fun {_} => ref05_Fine.e) (orS 23 (fun {_} => ref15_at.e) noS)))))
def ref15_Of.s {Ω : Type} (x0 : (List T_s54)) (x1 : T_s25) (x2 : Int) (k : T_s29 × Int → Option Ω) : Option Ω :=
  (ref15_at.u x0 x1).bind fun y1 =>
  bif (!(ref05_Fine.t x2)) then
    k ((0, (0, (0, (0, (0, ([], ())))))), 1)
  else
    bif (y1.2 != 0) then
      k ((0, (0, (0, (0, (0, ([], ())))))), y1.2)
    else
      (ref09_Of.u (IntKind.wrap .i64 y1.1.1)).bind fun y2 =>
      bif ((y2.1).data.toList == ((bs [101, 109, 105, 116])).data.toList) then
        bif (idxOK y1.1.2.1 8) then
          bif (ref15_Waits.t y2.1) then
            (ref15_guards.u x0 x1 x2).bind fun y3 =>
            let v4 : T_s29 := ((IntKind.wrap .i64 y1.1.1), ((-1), (0, ((List.getD x1.2.2.1 (Int.toNat y1.1.2.1) 0), (0, (y3, ()))))))
            k (v4, 0)
          else
            let v5 : T_s29 := ((IntKind.wrap .i64 y1.1.1), ((-1), (0, ((List.getD x1.2.2.1 (Int.toNat y1.1.2.1) 0), (0, ([], ()))))))
            k (v5, 0)
        else
          none
      else
        bif ((y2.1).data.toList == ((bs [110, 111, 119])).data.toList) then
          bif (ref15_Waits.t y2.1) then
            (ref15_guards.u x0 x1 x2).bind fun y6 =>
            k (((IntKind.wrap .i64 y1.1.1), ((IntKind.wrap .i64 y1.1.2.1), (0, (0, (0, (y6, ())))))), 0)
          else
            k (((IntKind.wrap .i64 y1.1.1), ((IntKind.wrap .i64 y1.1.2.1), (0, (0, (0, ([], ())))))), 0)
        else
          bif ((y2.1).data.toList == ((bs [109, 101])).data.toList) then
            bif (ref15_Waits.t y2.1) then
              (ref15_guards.u x0 x1 x2).bind fun y7 =>
              k (((IntKind.wrap .i64 y1.1.1), ((IntKind.wrap .i64 y1.1.2.1), (0, (0, (0, (y7, ())))))), 0)
            else
              k (((IntKind.wrap .i64 y1.1.1), ((IntKind.wrap .i64 y1.1.2.1), (0, (0, (0, ([], ())))))), 0)
          else
            bif ((y2.1).data.toList == ((bs [115, 112, 97, 119, 110])).data.toList) then
              bif (idxOK y1.1.2.2.2.1 8) then
                bif (ref15_Waits.t y2.1) then
                  (ref15_guards.u x0 x1 x2).bind fun y8 =>
                  let v9 : T_s29 := ((IntKind.wrap .i64 y1.1.1), ((IntKind.wrap .i64 y1.1.2.1), ((IntKind.wrap .i64 y1.1.2.2.1), ((List.getD x1.2.2.1 (Int.toNat y1.1.2.2.2.1) 0), (0, (y8, ()))))))
                  k (v9, 0)
                else
                  let v10 : T_s29 := ((IntKind.wrap .i64 y1.1.1), ((IntKind.wrap .i64 y1.1.2.1), ((IntKind.wrap .i64 y1.1.2.2.1), ((List.getD x1.2.2.1 (Int.toNat y1.1.2.2.2.1) 0), (0, ([], ()))))))
                  k (v10, 0)
              else
                none
            else
              bif ((y2.1).data.toList == ((bs [112, 111, 105, 115, 111, 110])).data.toList) then
                bif (idxOK y1.1.2.2.1 8) then
                  bif (ref15_Waits.t y2.1) then
                    (ref15_guards.u x0 x1 x2).bind fun y11 =>
                    let v12 : T_s29 := ((IntKind.wrap .i64 y1.1.1), ((-1), ((IntKind.wrap .i64 y1.1.2.1), ((List.getD x1.2.2.1 (Int.toNat y1.1.2.2.1) 0), (0, (y11, ()))))))
                    k (v12, 0)
                  else
                    let v13 : T_s29 := ((IntKind.wrap .i64 y1.1.1), ((-1), ((IntKind.wrap .i64 y1.1.2.1), ((List.getD x1.2.2.1 (Int.toNat y1.1.2.2.1) 0), (0, ([], ()))))))
                    k (v13, 0)
                else
                  none
              else
                bif ((y2.1).data.toList == ((bs [101, 110, 114, 111, 108])).data.toList) then
                  bif (ref15_Waits.t y2.1) then
                    (ref15_guards.u x0 x1 x2).bind fun y14 =>
                    k (((IntKind.wrap .i64 y1.1.1), ((-1), ((IntKind.wrap .i64 y1.1.2.1), (0, (0, (y14, ())))))), 0)
                  else
                    k (((IntKind.wrap .i64 y1.1.1), ((-1), ((IntKind.wrap .i64 y1.1.2.1), (0, (0, ([], ())))))), 0)
                else
                  bif ((y2.1).data.toList == ((bs [114, 101, 115, 105, 103, 110])).data.toList) then
                    bif (ref15_Waits.t y2.1) then
                      (ref15_guards.u x0 x1 x2).bind fun y15 =>
                      k (((IntKind.wrap .i64 y1.1.1), ((-1), ((IntKind.wrap .i64 y1.1.2.1), (0, (0, (y15, ())))))), 0)
                    else
                      k (((IntKind.wrap .i64 y1.1.1), ((-1), ((IntKind.wrap .i64 y1.1.2.1), (0, (0, ([], ())))))), 0)
                  else
                    bif ((y2.1).data.toList == ((bs [102, 97, 108, 108])).data.toList) then
                      bif (ref15_Waits.t y2.1) then
                        (ref15_guards.u x0 x1 x2).bind fun y16 =>
                        k (((IntKind.wrap .i64 y1.1.1), ((-1), ((IntKind.wrap .i64 y1.1.2.1), (0, (0, (y16, ())))))), 0)
                      else
                        k (((IntKind.wrap .i64 y1.1.1), ((-1), ((IntKind.wrap .i64 y1.1.2.1), (0, (0, ([], ())))))), 0)
                    else
                      bif ((y2.1).data.toList == ((bs [102, 108, 117, 115, 104])).data.toList) then
                        bif (ref15_Waits.t y2.1) then
                          (ref15_guards.u x0 x1 x2).bind fun y17 =>
                          let v18 : T_s29 := ((IntKind.wrap .i64 y1.1.1), ((IntKind.wrap .i64 y1.1.2.1), ((IntKind.wrap .i64 y1.1.2.2.1), (0, (0, (y17, ()))))))
                          k (v18, 0)
                        else
                          let v19 : T_s29 := ((IntKind.wrap .i64 y1.1.1), ((IntKind.wrap .i64 y1.1.2.1), ((IntKind.wrap .i64 y1.1.2.2.1), (0, (0, ([], ()))))))
                          k (v19, 0)
                      else
                        bif ((y2.1).data.toList == ((bs [112, 104, 97, 115, 101])).data.toList) then
                          bif (ref15_Waits.t y2.1) then
                            (ref15_guards.u x0 x1 x2).bind fun y20 =>
                            let v21 : T_s29 := ((IntKind.wrap .i64 y1.1.1), ((IntKind.wrap .i64 y1.1.2.1), ((IntKind.wrap .i64 y1.1.2.2.1), (0, (0, (y20, ()))))))
                            k (v21, 0)
                          else
                            let v22 : T_s29 := ((IntKind.wrap .i64 y1.1.1), ((IntKind.wrap .i64 y1.1.2.1), ((IntKind.wrap .i64 y1.1.2.2.1), (0, (0, ([], ()))))))
                            k (v22, 0)
                        else
                          bif ((y2.1).data.toList == ((bs [115, 105, 122, 101])).data.toList) then
                            bif (ref15_Waits.t y2.1) then
                              (ref15_guards.u x0 x1 x2).bind fun y23 =>
                              let v24 : T_s29 := ((IntKind.wrap .i64 y1.1.1), ((IntKind.wrap .i64 y1.1.2.1), ((IntKind.wrap .i64 y1.1.2.2.1), (0, (0, (y23, ()))))))
                              k (v24, 0)
                            else
                              let v25 : T_s29 := ((IntKind.wrap .i64 y1.1.1), ((IntKind.wrap .i64 y1.1.2.1), ((IntKind.wrap .i64 y1.1.2.2.1), (0, (0, ([], ()))))))
                              k (v25, 0)
                          else
                            bif ((y2.1).data.toList == ((bs [97, 108, 116])).data.toList) then
                              bif (ref15_Waits.t y2.1) then
                                (ref15_guards.u x0 x1 x2).bind fun y26 =>
                                let v27 : T_s29 := ((IntKind.wrap .i64 y1.1.1), ((IntKind.wrap .i64 y1.1.2.1), (0, (0, ((IntKind.wrap .i64 y1.1.2.2.1), (y26, ()))))))
                                k (v27, 0)
                              else
                                let v28 : T_s29 := ((IntKind.wrap .i64 y1.1.1), ((IntKind.wrap .i64 y1.1.2.1), (0, (0, ((IntKind.wrap .i64 y1.1.2.2.1), ([], ()))))))
                                k (v28, 0)
                            else
                              bif (ref15_Waits.t y2.1) then
                                (ref15_guards.u x0 x1 x2).bind fun y29 =>
                                k (((IntKind.wrap .i64 y1.1.1), ((-1), (0, (0, (0, (y29, ())))))), 0)
                              else
                                k (((IntKind.wrap .i64 y1.1.1), ((-1), (0, (0, (0, ([], ())))))), 0)
theorem ref15_Of.ev {Ω : Type} (fuel : Fuel) (x0 : (List T_s54)) (x1 : T_s25) (x2 : Int) (k : AV → Option Ω) : evFn C ref15_Of.sp fuel Tryz.f8 (Tryz.f8.body.getD .skip) [(.v (.slice E_s54) (x0)), (.v E_s25 (x1)), (.v (.int .i64) (x2))] k = ref15_Of.s x0 x1 x2 (fun r => k (tupAV E_s29 [(.int .i64)] r)) := by kernel_rfl
def ref15_Of.u (x0 : (List T_s54)) (x1 : T_s25) (x2 : Int) : Option (T_s29 × Int) := ref15_Of.s x0 x1 x2 some
theorem ref15_Of.c (x0 : (List T_s54)) (x1 : T_s25) (x2 : Int) (r : T_s29 × Int) (h : ref15_Of.u x0 x1 x2 = some r) : Contract C 8 [(.v (.slice E_s54) (x0)), (.v E_s25 (x1)), (.v (.int .i64) (x2))] (tupAV E_s29 [(.int .i64)] r) :=
  contract_s (S := fun k => ref15_Of.s x0 x1 x2 k) C_ok (orS_ok ref15_guards.e_ok (orS_ok ref15_Waits.e_ok (orS_ok ref09_Of.e_ok (orS_ok ref05_Fine.e_ok (orS_ok ref15_at.e_ok noS_ok))))) (by kernel_rfl) (by kernel_rfl) (by kernel_rfl) (ref15_Of.ev ⟨1, fun _ => []⟩ x0 x1 x2 (dec E_s29 [(.int .i64)])) h
noncomputable def ref15_Of.e : Ent := argI (.slice E_s54) fun x0 => argI E_s25 fun x1 => argI (.int .i64) fun x2 => endU (ref15_Of.u x0 x1 x2) (tupAV E_s29 [(.int .i64)])
theorem ref15_Of.e_ok : EntOK C 8 (fun {_} => ref15_Of.e) := entA_ok (argI_ok fun x0 => argI_ok fun x1 => argI_ok fun x2 => endU_ok fun r h => ref15_Of.c x0 x1 x2 r h)

/-- becket becketref15.SameGuards -/
noncomputable def ref15_SameGuards.sp : Spec := noS
def ref15_SameGuards.F (fuel : Nat) : Fuel := ⟨fuel, fun r => bif r == 4 then [2, 3, 4, 6, 7, 8, 9, 10, 11, 12, 13, 14, 15, 16, 17, 18, 19, 20, 21, 22, 23, 24, 25] else []⟩
def ref15_SameGuards.E0 (e4_1 : (List T_s44)) (e4_2 : (List T_s44)) (s4 : Int) : List AV := [(.v (.slice E_s44) (e4_1)), (.v (.slice E_s44) (e4_2)), .dead, .dead, .dead, (.v (.int .i64) (s4)), .dead, .dead, .dead, .dead, .dead, .dead, .dead, .dead, .dead, .dead, .dead, .dead, .dead, .dead, .dead, .dead, .dead, .dead, .dead, .dead]
def ref15_SameGuards.H0 (e4_1 : (List T_s44)) (e4_2 : (List T_s44)) (s4 : Int) : Heap := []
noncomputable def ref15_SameGuards.M0 {Ω : Type} (fuel : Nat) (e4_1 : (List T_s44)) (e4_2 : (List T_s44))  (k : AV → Option Ω) (m : Nat) (s : Int) : Option Ω := loopK (fun env L k => evCode C ref15_SameGuards.sp (ref15_SameGuards.F fuel) (cl (cl (cr (cl (cr (cr (Tryz.f28.body.getD .skip))))))) env L k) [false, false, true, true, true, false, true, true, true, true, true, true, true, true, true, true, true, true, true, true, true, true, true, true, true, true] 0 (blockK 0 (seqK (fun env L => evCode C ref15_SameGuards.sp (ref15_SameGuards.F fuel) (cr (cr (cr (Tryz.f28.body.getD .skip)))) env L (finK C Tryz.f28 k)) (finK C Tryz.f28 k))) m ((ref15_SameGuards.E0 e4_1 e4_2) s) ((ref15_SameGuards.H0 e4_1 e4_2) s)
def ref15_SameGuards.b0 {Ω : Type} (e4_1 : (List T_s44)) (e4_2 : (List T_s44))   (k : Bool → Option Ω) (r4 : Int → Option Ω) (s4 : Int) : Option Ω :=
  bif (decide (s4 < ((List.length e4_1 : Nat) : Int))) then
    bif (idxOK s4 (List.length e4_1)) then
      bif (idxOK s4 (List.length e4_2)) then
        let v1 : Bool := (!(eqI E_s44 (List.getD e4_1 (Int.toNat s4) (0, (0, (0, (0, (0, ())))))) (List.getD e4_2 (Int.toNat s4) (0, (0, (0, (0, (0, ()))))))))
        bif v1 then
          k false
        else
          r4 ((IntKind.wrap .i64 (s4 + 1)))
      else
        none
    else
      none
  else
    k true
def ref15_SameGuards.B0 {Ω : Type} (fuel : Nat) (e4_1 : (List T_s44)) (e4_2 : (List T_s44))  (k : Bool → Option Ω) (r4 : Int → Option Ω) (s4 : Int) : Option Ω := ref15_SameGuards.b0 e4_1 e4_2   k r4 s4
theorem ref15_SameGuards.l0 {Ω : Type} (fuel : Nat) (e4_1 : (List T_s44)) (e4_2 : (List T_s44))  (k : AV → Option Ω) : ∀ m, (ref15_SameGuards.M0 fuel e4_1 e4_2  k m) = iter (ref15_SameGuards.B0 fuel e4_1 e4_2  (fun r => k (tupAV .bool [] r))) m :=
  loopK_iter (envOf := (ref15_SameGuards.E0 e4_1 e4_2)) (LOf := (ref15_SameGuards.H0 e4_1 e4_2)) (B := ref15_SameGuards.B0 fuel e4_1 e4_2  (fun r => k (tupAV .bool [] r))) (fun R s => by kernel_rfl)
def ref15_SameGuards.sl {Ω : Type} (x0 : (List T_s44)) (x1 : (List T_s44)) (lp0 : (List T_s44) → (List T_s44) → Int → Option Ω) (k : Bool → Option Ω) : Option Ω :=
  bif (((List.length x0 : Nat) : Int) != ((List.length x1 : Nat) : Int)) then
    k false
  else
    lp0 x0 x1 (0)
def ref15_SameGuards.s {Ω : Type} (fuel : Nat) (x0 : (List T_s44)) (x1 : (List T_s44)) (k : Bool → Option Ω) : Option Ω := ref15_SameGuards.sl x0 x1 (fun e4_1 e4_2 => (iter (ref15_SameGuards.B0 fuel e4_1 e4_2  k) fuel)) k
theorem ref15_SameGuards.ev {Ω : Type} (fuel : Nat) (x0 : (List T_s44)) (x1 : (List T_s44)) (k : AV → Option Ω) : evFn C ref15_SameGuards.sp (ref15_SameGuards.F fuel) Tryz.f28 (Tryz.f28.body.getD .skip) [(.v (.slice E_s44) (x0)), (.v (.slice E_s44) (x1))] k = ref15_SameGuards.s fuel x0 x1 (fun r => k (tupAV .bool [] r)) := by
  have h0 : evFn C ref15_SameGuards.sp (ref15_SameGuards.F fuel) Tryz.f28 (Tryz.f28.body.getD .skip) [(.v (.slice E_s44) (x0)), (.v (.slice E_s44) (x1))] k = ref15_SameGuards.sl x0 x1 (fun e4_1 e4_2 => (ref15_SameGuards.M0 fuel e4_1 e4_2  k fuel)) (fun r => k (tupAV .bool [] r)) := by kernel_rfl
  have h1 : (fun e4_1 e4_2 => (ref15_SameGuards.M0 fuel e4_1 e4_2  k fuel)) = (fun e4_1 e4_2 => (iter (ref15_SameGuards.B0 fuel e4_1 e4_2  (fun r => k (tupAV .bool [] r))) fuel)) := funext fun e4_1 => funext fun e4_2 => ref15_SameGuards.l0 fuel e4_1 e4_2   k fuel
  rw [h1] at h0
  exact h0
def ref15_SameGuards.g0 {Ω : Type} (e4_1 : (List T_s44)) (e4_2 : (List T_s44))  (k : Bool → Option Ω) : List T_s44 → Int → Option Ω
  | [], i4 =>
    k true
  | x4 :: xs4, i4 =>
    bif (idxOK i4 (List.length e4_2)) then
      let v1 : Bool := (!(eqI E_s44 x4 (List.getD e4_2 (Int.toNat i4) (0, (0, (0, (0, (0, ()))))))))
      bif v1 then
        k false
      else
        ref15_SameGuards.g0 e4_1 e4_2  k xs4 (i4 + 1)
    else
      none
theorem ref15_SameGuards.h0 {Ω : Type} (e4_1 : (List T_s44)) (e4_2 : (List T_s44))   (k : Bool → Option Ω) (hX : ((List.length e4_1 : Nat) : Int) ≤ 9223372036854775807) : ∀ (m : Nat) (i : Int) (a : Unit), 0 ≤ i → i ≤ ((List.length e4_1 : Nat) : Int) → ((List.length e4_1 : Nat) : Int) < m + i → Le (ref15_SameGuards.g0 e4_1 e4_2  k (List.drop (Int.toNat i) e4_1) i) (iter (ref15_SameGuards.B0 BIG e4_1 e4_2  k) m (i)) :=
  iter_list e4_1 (0, (0, (0, (0, (0, ()))))) (fun (i4 : Int) (a4 : Unit) => (i4)) (fun xs i4 a4 => ref15_SameGuards.g0 e4_1 e4_2  k xs i4) (ref15_SameGuards.B0 BIG e4_1 e4_2  k)
    (fun i4 a4 r h0 => (Le.fls h0 (Le.refl _)))
    (fun i4 xs4 a4 r h0 h1 hw ih => (Le.tru h0 (Le.tru h1 (Le.cond (let v1 : Bool := (!(eqI E_s44 (List.getD e4_1 (Int.toNat i4) (0, (0, (0, (0, (0, ())))))) (List.getD e4_2 (Int.toNat i4) (0, (0, (0, (0, (0, ())))))))); (Le.cond (Le.refl _) (ih _ hw ()))) Le.nil))))
    hX
def ref15_SameGuards.w {Ω : Type} (x0 : (List T_s44)) (x1 : (List T_s44)) (k : Bool → Option Ω) : Option Ω :=
  bif (((List.length x0 : Nat) : Int) != ((List.length x1 : Nat) : Int)) then
    k false
  else
    bif decide (((List.length x0 : Nat) : Int) ≤ 4611686018427387904) then ref15_SameGuards.g0 x0 x1  k x0 0 else none
theorem ref15_SameGuards.le {Ω : Type} (x0 : (List T_s44)) (x1 : (List T_s44)) (k : Bool → Option Ω) : Le (ref15_SameGuards.w x0 x1 k) (ref15_SameGuards.s BIG x0 x1 k) := by
  delta ref15_SameGuards.w ref15_SameGuards.s ref15_SameGuards.sl
  exact (Le.cond (Le.refl _) (Le.gd fun hg => ref15_SameGuards.h0 _ _   k (le_up (of_decide_eq_true hg)) BIG 0 () (by decide) (zero_le_len _) (big_list (of_decide_eq_true hg))))
def ref15_SameGuards.u (x0 : (List T_s44)) (x1 : (List T_s44)) : Option (Bool) := ref15_SameGuards.w x0 x1 some
theorem ref15_SameGuards.c (x0 : (List T_s44)) (x1 : (List T_s44)) (r : Bool) (h : ref15_SameGuards.u x0 x1 = some r) : Contract C 28 [(.v (.slice E_s44) (x0)), (.v (.slice E_s44) (x1))] (tupAV .bool [] r) :=
  contract_s (S := fun k => ref15_SameGuards.s BIG x0 x1 k) C_ok noS_ok (by kernel_rfl) (by kernel_rfl) (by kernel_rfl) (ref15_SameGuards.ev BIG x0 x1 (dec .bool [])) (ref15_SameGuards.le x0 x1 some r h)
noncomputable def ref15_SameGuards.e : Ent := argI (.slice E_s44) fun x0 => argI (.slice E_s44) fun x1 => endU (ref15_SameGuards.u x0 x1) (tupAV .bool [])
theorem ref15_SameGuards.e_ok : EntOK C 28 (fun {_} => ref15_SameGuards.e) := entA_ok (argI_ok fun x0 => argI_ok fun x1 => endU_ok fun r h => ref15_SameGuards.c x0 x1 r h)

/-- becket becketref15.Same -/
noncomputable def ref15_Same.sp : Spec := (orS 28 (fun {_} => ref15_SameGuards.e) noS)
def ref15_Same.s {Ω : Type} (x0 : T_s29) (x1 : T_s29) (k : Bool → Option Ω) : Option Ω :=
  bif (x0.1 == x1.1) then
    bif (x0.2.1 == x1.2.1) then
      bif (x0.2.2.1 == x1.2.2.1) then
        bif (x0.2.2.2.1 == x1.2.2.2.1) then
          bif (x0.2.2.2.2.1 == x1.2.2.2.2.1) then
            (ref15_SameGuards.u x0.2.2.2.2.2.1 x1.2.2.2.2.2.1).bind fun y1 =>
            k y1
          else
            k false
        else
          k false
      else
        k false
    else
      k false
  else
    k false
theorem ref15_Same.ev {Ω : Type} (fuel : Fuel) (x0 : T_s29) (x1 : T_s29) (k : AV → Option Ω) : evFn C ref15_Same.sp fuel Tryz.f9 (Tryz.f9.body.getD .skip) [(.v E_s29 (x0)), (.v E_s29 (x1))] k = ref15_Same.s x0 x1 (fun r => k (tupAV .bool [] r)) := by kernel_rfl
def ref15_Same.u (x0 : T_s29) (x1 : T_s29) : Option (Bool) := ref15_Same.s x0 x1 some
theorem ref15_Same.c (x0 : T_s29) (x1 : T_s29) (r : Bool) (h : ref15_Same.u x0 x1 = some r) : Contract C 9 [(.v E_s29 (x0)), (.v E_s29 (x1))] (tupAV .bool [] r) :=
  contract_s (S := fun k => ref15_Same.s x0 x1 k) C_ok (orS_ok ref15_SameGuards.e_ok noS_ok) (by kernel_rfl) (by kernel_rfl) (by kernel_rfl) (ref15_Same.ev ⟨1, fun _ => []⟩ x0 x1 (dec .bool [])) h
noncomputable def ref15_Same.e : Ent := argI E_s29 fun x0 => argI E_s29 fun x1 => endU (ref15_Same.u x0 x1) (tupAV .bool [])
theorem ref15_Same.e_ok : EntOK C 9 (fun {_} => ref15_Same.e) := entA_ok (argI_ok fun x0 => argI_ok fun x1 => endU_ok fun r h => ref15_Same.c x0 x1 r h)

/-- becket becketlaw15.CallAsks -/
noncomputable def law15_CallAsks.sp : Spec := (orS 9 (fun {_} => ref15_Same.e) (orS 8 (fun {_} => ref15_Of.e) (orS 7 (fun {_} => call_Of.e) (orS 6 (fun {_} => law15_alive.e) noS))))
def law15_CallAsks.s {Ω : Type} (x0 : (List T_s54)) (x1 : T_s25) (x2 : Int) (k : Bool → Option Ω) : Option Ω :=
  bif (decide (((List.length x0 : Nat) : Int) > 70)) then
    law15_alive.u.bind fun y1 =>
    k y1
  else
    (call_Of.u x0 x1 x2).bind fun y2 =>
    (ref15_Of.u x0 x1 x2).bind fun y3 =>
    (ref15_Same.u y2.1 y3.1).bind fun y4 =>
    bif y4 then
      bif (y2.2 == y3.2) then
        law15_alive.u.bind fun y5 =>
        k y5
      else
        k false
    else
      k false
theorem law15_CallAsks.ev {Ω : Type} (fuel : Fuel) (x0 : (List T_s54)) (x1 : T_s25) (x2 : Int) (k : AV → Option Ω) : evFn CKM law15_CallAsks.sp fuel Tryz.f3 (Tryz.f3.body.getD .skip) [(.v (.slice E_s54) (x0)), (.v E_s25 (x1)), (.v (.int .i64) (x2))] k = law15_CallAsks.s x0 x1 x2 (fun r => k (tupAV .bool [] r)) := by kernel_rfl
def law15_CallAsks.u (x0 : (List T_s54)) (x1 : T_s25) (x2 : Int) : Option (Bool) := law15_CallAsks.s x0 x1 x2 some
theorem law15_CallAsks.c (x0 : (List T_s54)) (x1 : T_s25) (x2 : Int) (r : Bool) (h : law15_CallAsks.u x0 x1 x2 = some r) : Contract CKM 3 [(.v (.slice E_s54) (x0)), (.v E_s25 (x1)), (.v (.int .i64) (x2))] (tupAV .bool [] r) :=
  contract_s (S := fun k => law15_CallAsks.s x0 x1 x2 k) CKM_ok (orS_ok (ref15_Same.e_ok.mono le_C_CKM) (orS_ok (ref15_Of.e_ok.mono le_C_CKM) (orS_ok call_Of.e_ok (orS_ok law15_alive.e_ok noS_ok)))) (by kernel_rfl) (by kernel_rfl) (by kernel_rfl) (law15_CallAsks.ev ⟨1, fun _ => []⟩ x0 x1 x2 (dec .bool [])) h
noncomputable def law15_CallAsks.e : Ent := argI (.slice E_s54) fun x0 => argI E_s25 fun x1 => argI (.int .i64) fun x2 => endU (law15_CallAsks.u x0 x1 x2) (tupAV .bool [])
theorem law15_CallAsks.e_ok : EntOK CKM 3 (fun {_} => law15_CallAsks.e) := entA_ok (argI_ok fun x0 => argI_ok fun x1 => argI_ok fun x2 => endU_ok fun r h => law15_CallAsks.c x0 x1 x2 r h)

end Go.Proofs.YtjhkagfolmhacaaGreatDoor.K

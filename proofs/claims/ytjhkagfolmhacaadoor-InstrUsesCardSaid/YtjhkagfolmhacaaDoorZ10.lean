/- What functions of the program come to, plainly. -/
import Derived.Test.YtjhkagfolmhacaaDoorZ10a
set_option maxRecDepth 100000
set_option linter.unusedVariables false
namespace Go.Proofs.YtjhkagfolmhacaaDoor.K
open Go Go.RowKit

/-- becket instr.Bytes -/
noncomputable def instr_Bytes.sp : Spec := noS
def instr_Bytes.s {Ω : Type} (x0 : T_s22) (k : ByteArray → Option Ω) : Option Ω :=
  k (ofBytes [x0.1, x0.2.1, x0.2.2.1, x0.2.2.2.1])
theorem instr_Bytes.ev {Ω : Type} (fuel : Fuel) (x0 : T_s22) (k : AV → Option Ω) : evFn C instr_Bytes.sp fuel Tryd.f61 (Tryd.f61.body.getD .skip) [(.v E_s22 (x0))] k = instr_Bytes.s x0 (fun r => k (tupAV .str [] r)) := by kernel_rfl
def instr_Bytes.t (x0 : T_s22) : ByteArray :=
  (ofBytes [x0.1, x0.2.1, x0.2.2.1, x0.2.2.2.1])
theorem instr_Bytes.v {Ω : Type} (x0 : T_s22) (k : ByteArray → Option Ω) : instr_Bytes.s x0 k = k (instr_Bytes.t x0) := by
  delta instr_Bytes.s instr_Bytes.t; exact rfl
theorem instr_Bytes.c (x0 : T_s22) : Contract C 61 [(.v E_s22 (x0))] (tupAV .str [] (instr_Bytes.t x0)) :=
  contract_s (S := fun k => instr_Bytes.s x0 k) C_ok noS_ok (by kernel_rfl) (by kernel_rfl) (by kernel_rfl) (instr_Bytes.ev ⟨1, fun _ => []⟩ x0 (dec .str [])) (instr_Bytes.v x0 some)
noncomputable def instr_Bytes.e : Ent := argI E_s22 fun x0 => endT (tupAV .str [] (instr_Bytes.t x0))
theorem instr_Bytes.e_ok : EntOK C 61 (fun {_} => instr_Bytes.e) := entA_ok (argI_ok fun x0 => endT_ok (instr_Bytes.c x0))

/-- becket becketlaw10.alive -/
noncomputable def law10_alive.sp : Spec := (orS 61 (fun {_} => instr_Bytes.e) (orS 60 (fun {_} => instr_Num.e) (orS 59 (fun {_} => instr_Place.e) (orS 58 (fun {_} => instr_Read.e) (orS 27 (fun {_} => instr_Check.e) (orS 14 (fun {_} => instr_Writes.e) (orS 12 (fun {_} => instr_Reads.e) (orS 11 (fun {_} => ref02_Same.e) noS))))))))
def law10_alive.s {Ω : Type}  (k : Bool → Option Ω) : Option Ω :=
  (instr_Read.u (bs [0, 3, 2, 255, 254]) 1).bind fun y1 =>
  (instr_Place.u ((19, (1, (9, (0, ())))))).bind fun y2 =>
  (instr_Read.u (bs [3]) 0).bind fun y3 =>
  bif (eqI E_s22 y1.1 (3, (2, (255, (254, ()))))) then
    bif (y1.2 == 0) then
      (instr_Num.u y1.1).bind fun y4 =>
      bif (y4 == (-2)) then
        bif (y2.1 == 9) then
          bif y2.2 then
            bif (y3.2 == 4) then
              (instr_Check.u ((48, (0, (0, (0, ())))))).bind fun y5 =>
              bif (y5 == 18) then
                (instr_Check.u ((0, (1, (0, (0, ())))))).bind fun y6 =>
                bif (y6 == 3) then
                  (instr_Writes.u y1.1).bind fun y7 =>
                  (ref02_Same.u y7 ([2])).bind fun y8 =>
                  bif y8 then
                    (instr_Reads.u ((4, (0, (3, (1, ())))))).bind fun y9 =>
                    (ref02_Same.u y9 ([1, 3])).bind fun y10 =>
                    bif y10 then
                      k (((instr_Bytes.t y1.1)).data.toList == ((bs [3, 2, 255, 254])).data.toList)
                    else
                      k false
                  else
                    k false
                else
                  k false
              else
                k false
            else
              k false
          else
            k false
        else
          k false
      else
        k false
    else
      k false
  else
    k false
theorem law10_alive.ev {Ω : Type} (fuel : Fuel)  (k : AV → Option Ω) : evFn CKM law10_alive.sp fuel Tryd.f16 (Tryd.f16.body.getD .skip) [] k = law10_alive.s  (fun r => k (tupAV .bool [] r)) := by kernel_rfl
def law10_alive.u  : Option (Bool) := law10_alive.s  some
theorem law10_alive.c  (r : Bool) (h : law10_alive.u  = some r) : Contract CKM 16 [] (tupAV .bool [] r) :=
  contract_s (S := fun k => law10_alive.s  k) CKM_ok (orS_ok (instr_Bytes.e_ok.mono le_C_CKM) (orS_ok instr_Num.e_ok (orS_ok (instr_Place.e_ok.mono le_CK_CKM) (orS_ok (instr_Read.e_ok.mono le_CK_CKM) (orS_ok (instr_Check.e_ok.mono le_CK_CKM) (orS_ok (instr_Writes.e_ok.mono le_CK_CKM) (orS_ok (instr_Reads.e_ok.mono le_CK_CKM) (orS_ok (ref02_Same.e_ok.mono le_C_CKM) noS_ok)))))))) (by kernel_rfl) (by kernel_rfl) (by kernel_rfl) (law10_alive.ev ⟨1, fun _ => []⟩  (dec .bool [])) h
noncomputable def law10_alive.e : Ent := endU (law10_alive.u ) (tupAV .bool [])
theorem law10_alive.e_ok : EntOK CKM 16 (fun {_} => law10_alive.e) := entA_ok (endU_ok fun r h => law10_alive.c  r h)

/-- becket becketlaw10.InstrUses -/
noncomputable def law10_InstrUses.sp : Spec := (orS 16 (fun {_} => law10_alive.e) (orS 15 (fun {_} => ref10_Writes.e) (orS 14 (fun {_} => instr_Writes.e) (orS 13 (fun {_} => ref10_Reads.e) (orS 12 (fun {_} => instr_Reads.e) (orS 11 (fun {_} => ref02_Same.e) noS))))))
def law10_InstrUses.s {Ω : Type} (x0 : T_s22) (k : Bool → Option Ω) : Option Ω :=
  (instr_Reads.u x0).bind fun y1 =>
  (ref10_Reads.u x0).bind fun y2 =>
  (ref02_Same.u y1 y2).bind fun y3 =>
  bif y3 then
    (instr_Writes.u x0).bind fun y4 =>
    (ref10_Writes.u x0).bind fun y5 =>
    (ref02_Same.u y4 y5).bind fun y6 =>
    bif y6 then
      law10_alive.u.bind fun y7 =>
      k y7
    else
      k false
  else
    k false
theorem law10_InstrUses.ev {Ω : Type} (fuel : Fuel) (x0 : T_s22) (k : AV → Option Ω) : evFn CKM law10_InstrUses.sp fuel Tryd.f3 (Tryd.f3.body.getD .skip) [(.v E_s22 (x0))] k = law10_InstrUses.s x0 (fun r => k (tupAV .bool [] r)) := by kernel_rfl
def law10_InstrUses.u (x0 : T_s22) : Option (Bool) := law10_InstrUses.s x0 some
theorem law10_InstrUses.c (x0 : T_s22) (r : Bool) (h : law10_InstrUses.u x0 = some r) : Contract CKM 3 [(.v E_s22 (x0))] (tupAV .bool [] r) :=
  contract_s (S := fun k => law10_InstrUses.s x0 k) CKM_ok (orS_ok law10_alive.e_ok (orS_ok (ref10_Writes.e_ok.mono le_C_CKM) (orS_ok (instr_Writes.e_ok.mono le_CK_CKM) (orS_ok (ref10_Reads.e_ok.mono le_C_CKM) (orS_ok (instr_Reads.e_ok.mono le_CK_CKM) (orS_ok (ref02_Same.e_ok.mono le_C_CKM) noS_ok)))))) (by kernel_rfl) (by kernel_rfl) (by kernel_rfl) (law10_InstrUses.ev ⟨1, fun _ => []⟩ x0 (dec .bool [])) h
noncomputable def law10_InstrUses.e : Ent := argI E_s22 fun x0 => endU (law10_InstrUses.u x0) (tupAV .bool [])
theorem law10_InstrUses.e_ok : EntOK CKM 3 (fun {_} => law10_InstrUses.e) := entA_ok (argI_ok fun x0 => endU_ok fun r h => law10_InstrUses.c x0 r h)

/-- becket becketref10.Place -/
noncomputable def ref10_Place.sp : Spec := (orS 102 (fun {_} => ref10_Bytes.e) (orS 55 (fun {_} => ref09_Of.e) noS))
def ref10_Place.F (fuel : Nat) : Fuel := ⟨fuel, fun r => bif r == 3 then [0, 2, 3, 6, 7, 8, 9, 10, 11, 12, 13, 14, 15, 16, 17, 18, 19, 20, 21, 22, 23, 24, 25, 26, 27] else []⟩
def ref10_Place.E0 (e3_1 : T_s22) (e3_2 : T_s91) (s3 : Int) : List AV := [.dead, (.ref 0 []), .dead, .dead, (.ref 1 []), (.v (.int .i64) (s3)), .dead, .dead, .dead, .dead, .dead, .dead, .dead, .dead, .dead, .dead, .dead, .dead, .dead, .dead, .dead, .dead, .dead, .dead, .dead, .dead, .dead, .dead]
def ref10_Place.H0 (e3_1 : T_s22) (e3_2 : T_s91) (s3 : Int) : Heap := [(.box E_s22 e3_1 false), (.box E_s91 e3_2 false)]
noncomputable def ref10_Place.M0 {Ω : Type} (fuel : Nat) (e3_1 : T_s22) (e3_2 : T_s91)  (k : AV → Option Ω) (m : Nat) (s : Int) : Option Ω := loopK (fun env L k => evCode C ref10_Place.sp (ref10_Place.F fuel) (cl (cl (cr (cl (cr (cr (Tryd.f67.body.getD .skip))))))) env L k) [true, false, true, true, false, false, true, true, true, true, true, true, true, true, true, true, true, true, true, true, true, true, true, true, true, true, true, true] 2 (blockK 0 (seqK (fun env L => evCode C ref10_Place.sp (ref10_Place.F fuel) (cr (cr (cr (Tryd.f67.body.getD .skip)))) env L (finK C Tryd.f67 k)) (finK C Tryd.f67 k))) m ((ref10_Place.E0 e3_1 e3_2) s) ((ref10_Place.H0 e3_1 e3_2) s)
def ref10_Place.b0 {Ω : Type} (e3_1 : T_s22) (e3_2 : T_s91)   (k : Int × Bool → Option Ω) (r3 : Int → Option Ω) (s3 : Int) : Option Ω :=
  bif (decide (s3 < ((e3_2.2.1).size : Int))) then
    bif (idxOK s3 (e3_2.2.1).size) then
      bif ((bAt e3_2.2.1 (Int.toNat s3)) == 116) then
        bif (idxOK (IntKind.wrap .i64 (s3 + 1)) (List.length (ref10_Bytes.t e3_1))) then
          k ((List.getD (ref10_Bytes.t e3_1) (Int.toNat (IntKind.wrap .i64 (s3 + 1))) 0), true)
        else
          none
      else
        r3 ((IntKind.wrap .i64 (s3 + 1)))
    else
      none
  else
    k (0, false)
def ref10_Place.B0 {Ω : Type} (fuel : Nat) (e3_1 : T_s22) (e3_2 : T_s91)  (k : Int × Bool → Option Ω) (r3 : Int → Option Ω) (s3 : Int) : Option Ω := ref10_Place.b0 e3_1 e3_2   k r3 s3
theorem ref10_Place.l0 {Ω : Type} (fuel : Nat) (e3_1 : T_s22) (e3_2 : T_s91)  (k : AV → Option Ω) : ∀ m, (ref10_Place.M0 fuel e3_1 e3_2  k m) = iter (ref10_Place.B0 fuel e3_1 e3_2  (fun r => k (tupAV (.int .i64) [.bool] r))) m :=
  loopK_iter (envOf := (ref10_Place.E0 e3_1 e3_2)) (LOf := (ref10_Place.H0 e3_1 e3_2)) (B := ref10_Place.B0 fuel e3_1 e3_2  (fun r => k (tupAV (.int .i64) [.bool] r))) (fun R s => by kernel_rfl)
def ref10_Place.sl {Ω : Type} (x0 : T_s22) (lp0 : T_s22 → T_s91 → Int → Option Ω) (k : Int × Bool → Option Ω) : Option Ω :=
  (ref09_Of.u (IntKind.wrap .i64 x0.1)).bind fun y1 =>
  lp0 x0 y1 (0)
def ref10_Place.s {Ω : Type} (fuel : Nat) (x0 : T_s22) (k : Int × Bool → Option Ω) : Option Ω := ref10_Place.sl x0 (fun e3_1 e3_2 => (iter (ref10_Place.B0 fuel e3_1 e3_2  k) fuel)) k
theorem ref10_Place.ev {Ω : Type} (fuel : Nat) (x0 : T_s22) (k : AV → Option Ω) : evFn C ref10_Place.sp (ref10_Place.F fuel) Tryd.f67 (Tryd.f67.body.getD .skip) [(.v E_s22 (x0))] k = ref10_Place.s fuel x0 (fun r => k (tupAV (.int .i64) [.bool] r)) := by
  have h0 : evFn C ref10_Place.sp (ref10_Place.F fuel) Tryd.f67 (Tryd.f67.body.getD .skip) [(.v E_s22 (x0))] k = ref10_Place.sl x0 (fun e3_1 e3_2 => (ref10_Place.M0 fuel e3_1 e3_2  k fuel)) (fun r => k (tupAV (.int .i64) [.bool] r)) := by kernel_rfl
  have h1 : (fun e3_1 e3_2 => (ref10_Place.M0 fuel e3_1 e3_2  k fuel)) = (fun e3_1 e3_2 => (iter (ref10_Place.B0 fuel e3_1 e3_2  (fun r => k (tupAV (.int .i64) [.bool] r))) fuel)) := funext fun e3_1 => funext fun e3_2 => ref10_Place.l0 fuel e3_1 e3_2   k fuel
  rw [h1] at h0
  exact h0
def ref10_Place.g0 {Ω : Type} (e3_1 : T_s22) (e3_2 : T_s91)  (k : Int × Bool → Option Ω) : Nat → Int → Option Ω
  | 0, i3 =>
    k (0, false)
  | d3 + 1, i3 =>
    bif (idxOK i3 (e3_2.2.1).size) then
      bif ((bAt e3_2.2.1 (Int.toNat i3)) == 116) then
        bif (idxOK (IntKind.wrap .i64 (i3 + 1)) (List.length (ref10_Bytes.t e3_1))) then
          k ((List.getD (ref10_Bytes.t e3_1) (Int.toNat (IntKind.wrap .i64 (i3 + 1))) 0), true)
        else
          none
      else
        ref10_Place.g0 e3_1 e3_2  k d3 (i3 + 1)
    else
      none
theorem ref10_Place.h0 {Ω : Type} (e3_1 : T_s22) (e3_2 : T_s91)   (k : Int × Bool → Option Ω) (hN : (((e3_2.2.1).size : Int) : Int) ≤ 9223372036854775807) : ∀ (m : Nat) (i : Int) (a : Unit), -9223372036854775808 ≤ i → Int.toNat ((((e3_2.2.1).size : Int) : Int) - i) < m → Le (ref10_Place.g0 e3_1 e3_2  k (Int.toNat ((((e3_2.2.1).size : Int) : Int) - i)) i) (iter (ref10_Place.B0 BIG e3_1 e3_2  k) m (i)) :=
  iter_count (((e3_2.2.1).size : Int) : Int) (fun i3 => (decide (i3 < ((e3_2.2.1).size : Int)))) (fun i => rfl) (fun (i3 : Int) (a3 : Unit) => (i3)) (fun xs i3 a3 => ref10_Place.g0 e3_1 e3_2  k xs i3) (ref10_Place.B0 BIG e3_1 e3_2  k)
    (fun i3 a3 r h0 => (Le.fls h0 (Le.refl _)))
    (fun i3 d3 a3 r h0 hw ih => (Le.tru h0 (Le.cond (Le.cond (Le.cond (Le.refl _) Le.nil) (ih _ hw ())) Le.nil)))
    hN
def ref10_Place.w {Ω : Type} (x0 : T_s22) (k : Int × Bool → Option Ω) : Option Ω :=
  (ref09_Of.u (IntKind.wrap .i64 x0.1)).bind fun y1 =>
  bif (decide (((y1.2.1).size : Int) ≤ 4611686018427387904)) then ref10_Place.g0 x0 y1  k ((Int.toNat (((y1.2.1).size : Int) - 0))) 0 else none
theorem ref10_Place.le {Ω : Type} (x0 : T_s22) (k : Int × Bool → Option Ω) : Le (ref10_Place.w x0 k) (ref10_Place.s BIG x0 k) := by
  delta ref10_Place.w ref10_Place.s ref10_Place.sl
  exact (Le.bnd fun y1 => (Le.gd fun hg => ref10_Place.h0 _ _   k (cnt_up hg) BIG 0 () (by decide) (cnt_big hg (by decide))))
def ref10_Place.u (x0 : T_s22) : Option (Int × Bool) := ref10_Place.w x0 some
theorem ref10_Place.c (x0 : T_s22) (r : Int × Bool) (h : ref10_Place.u x0 = some r) : Contract C 67 [(.v E_s22 (x0))] (tupAV (.int .i64) [.bool] r) :=
  contract_s (S := fun k => ref10_Place.s BIG x0 k) C_ok (orS_ok ref10_Bytes.e_ok (orS_ok ref09_Of.e_ok noS_ok)) (by kernel_rfl) (by kernel_rfl) (by kernel_rfl) (ref10_Place.ev BIG x0 (dec (.int .i64) [.bool])) (ref10_Place.le x0 some r h)
noncomputable def ref10_Place.e : Ent := argI E_s22 fun x0 => endU (ref10_Place.u x0) (tupAV (.int .i64) [.bool])
theorem ref10_Place.e_ok : EntOK C 67 (fun {_} => ref10_Place.e) := entA_ok (argI_ok fun x0 => endU_ok fun r h => ref10_Place.c x0 r h)

end Go.Proofs.YtjhkagfolmhacaaDoor.K

/- What functions of the program come to, plainly. -/
import Derived.Test.YtjhkagfolmhacaaDoorZ09
set_option maxRecDepth 100000
set_option linter.unusedVariables false
namespace Go.Proofs.YtjhkagfolmhacaaDoor.K
open Go Go.RowKit

/-- becket instr.operands -/
noncomputable def instr_operands.sp : Spec := noS
def instr_operands.s {Ω : Type} (x0 : T_s22) (k : (List Int) → Option Ω) : Option Ω :=
  k (List.set (List.set (List.set (List.replicate 3 0) 0 x0.2.1) 1 x0.2.2.1) 2 x0.2.2.2.1)
theorem instr_operands.ev {Ω : Type} (fuel : Fuel) (x0 : T_s22) (k : AV → Option Ω) : evFn C instr_operands.sp fuel Tryd.f74 (Tryd.f74.body.getD .skip) [(.v E_s22 (x0))] k = instr_operands.s x0 (fun r => k (tupAV (.arr 3 (.int .u8)) [] r)) := by kernel_rfl
def instr_operands.t (x0 : T_s22) : (List Int) :=
  (List.set (List.set (List.set (List.replicate 3 0) 0 x0.2.1) 1 x0.2.2.1) 2 x0.2.2.2.1)
theorem instr_operands.v {Ω : Type} (x0 : T_s22) (k : (List Int) → Option Ω) : instr_operands.s x0 k = k (instr_operands.t x0) := by
  delta instr_operands.s instr_operands.t; exact rfl
theorem instr_operands.c (x0 : T_s22) : Contract C 74 [(.v E_s22 (x0))] (tupAV (.arr 3 (.int .u8)) [] (instr_operands.t x0)) :=
  contract_s (S := fun k => instr_operands.s x0 k) C_ok noS_ok (by kernel_rfl) (by kernel_rfl) (by kernel_rfl) (instr_operands.ev ⟨1, fun _ => []⟩ x0 (dec (.arr 3 (.int .u8)) [])) (instr_operands.v x0 some)
noncomputable def instr_operands.e : Ent := argI E_s22 fun x0 => endT (tupAV (.arr 3 (.int .u8)) [] (instr_operands.t x0))
theorem instr_operands.e_ok : EntOK C 74 (fun {_} => instr_operands.e) := entA_ok (argI_ok fun x0 => endT_ok (instr_operands.c x0))

/-- becket instr.wrong -/
noncomputable def instr_wrong.sp : Spec := noS
def instr_wrong.s {Ω : Type} (x0 : Int) (x1 : Int) (k : Int → Option Ω) : Option Ω :=
  bif (x0 == 45) then
    bif (x1 != 0) then
      k 3
    else
      bif (decide ((IntKind.wrap .i64 x1) < 0)) then
        k 8
      else
        bif (decide ((IntKind.wrap .i64 x1) > 0)) then
          k 8
        else
          k 0
  else
    bif (x0 == 103) then
      bif (x1 == 8) then
        k 0
      else
        bif (decide ((IntKind.wrap .i64 x1) < 0)) then
          k 8
        else
          bif (decide ((IntKind.wrap .i64 x1) > 7)) then
            k 8
          else
            k 0
    else
      bif (x0 == 114) then
        bif (decide ((IntKind.wrap .i64 x1) < 0)) then
          k 8
        else
          bif (decide ((IntKind.wrap .i64 x1) > 7)) then
            k 8
          else
            k 0
      else
        bif (x0 == 115) then
          bif (decide ((IntKind.wrap .i64 x1) < 1)) then
            k 8
          else
            bif (decide ((IntKind.wrap .i64 x1) > 255)) then
              k 8
            else
              k 0
        else
          bif (x0 == 105) then
            bif (decide ((IntKind.wrap .i64 x1) < 0)) then
              k 8
            else
              bif (decide ((IntKind.wrap .i64 x1) > 255)) then
                k 8
              else
                k 0
          else
            bif (x0 == 106) then
              bif (decide ((IntKind.wrap .i64 x1) < 0)) then
                k 8
              else
                bif (decide ((IntKind.wrap .i64 x1) > 255)) then
                  k 8
                else
                  k 0
            else
              bif (x0 == 116) then
                bif (decide ((IntKind.wrap .i64 x1) < 0)) then
                  k 8
                else
                  bif (decide ((IntKind.wrap .i64 x1) > 64)) then
                    k 8
                  else
                    k 0
              else
                bif (x0 == 99) then
                  bif (decide ((IntKind.wrap .i64 x1) < 0)) then
                    k 8
                  else
                    bif (decide ((IntKind.wrap .i64 x1) > 7)) then
                      k 8
                    else
                      k 0
                else
                  bif (x0 == 98) then
                    bif (decide ((IntKind.wrap .i64 x1) < 0)) then
                      k 8
                    else
                      bif (decide ((IntKind.wrap .i64 x1) > 7)) then
                        k 8
                      else
                        k 0
                  else
                    bif (x0 == 107) then
                      bif (decide ((IntKind.wrap .i64 x1) < 0)) then
                        k 8
                      else
                        bif (decide ((IntKind.wrap .i64 x1) > 3)) then
                          k 8
                        else
                          k 0
                    else
                      bif (x0 == 112) then
                        bif (decide ((IntKind.wrap .i64 x1) < 0)) then
                          k 8
                        else
                          bif (decide ((IntKind.wrap .i64 x1) > 7)) then
                            k 8
                          else
                            k 0
                      else
                        bif (x0 == 109) then
                          bif (decide ((IntKind.wrap .i64 x1) < 0)) then
                            k 8
                          else
                            bif (decide ((IntKind.wrap .i64 x1) > 2)) then
                              k 8
                            else
                              k 0
                        else
                          bif (x0 == 110) then
                            bif (decide ((IntKind.wrap .i64 x1) < 1)) then
                              k 8
                            else
                              bif (decide ((IntKind.wrap .i64 x1) > 6)) then
                                k 8
                              else
                                k 0
                          else
                            bif (decide ((IntKind.wrap .i64 x1) < 0)) then
                              k 8
                            else
                              bif (decide ((IntKind.wrap .i64 x1) > 0)) then
                                k 8
                              else
                                k 0
theorem instr_wrong.ev {Ω : Type} (fuel : Fuel) (x0 : Int) (x1 : Int) (k : AV → Option Ω) : evFn C instr_wrong.sp fuel Tryd.f75 (Tryd.f75.body.getD .skip) [(.v (.int .u8) (x0)), (.v (.int .u8) (x1))] k = instr_wrong.s x0 x1 (fun r => k (tupAV (.int .i64) [] r)) := by kernel_rfl
def instr_wrong.t (x0 : Int) (x1 : Int) : Int :=
  bif (x0 == 45) then
    bif (x1 != 0) then
      3
    else
      bif (decide ((IntKind.wrap .i64 x1) < 0)) then
        8
      else
        bif (decide ((IntKind.wrap .i64 x1) > 0)) then
          8
        else
          0
  else
    bif (x0 == 103) then
      bif (x1 == 8) then
        0
      else
        bif (decide ((IntKind.wrap .i64 x1) < 0)) then
          8
        else
          bif (decide ((IntKind.wrap .i64 x1) > 7)) then
            8
          else
            0
    else
      bif (x0 == 114) then
        bif (decide ((IntKind.wrap .i64 x1) < 0)) then
          8
        else
          bif (decide ((IntKind.wrap .i64 x1) > 7)) then
            8
          else
            0
      else
        bif (x0 == 115) then
          bif (decide ((IntKind.wrap .i64 x1) < 1)) then
            8
          else
            bif (decide ((IntKind.wrap .i64 x1) > 255)) then
              8
            else
              0
        else
          bif (x0 == 105) then
            bif (decide ((IntKind.wrap .i64 x1) < 0)) then
              8
            else
              bif (decide ((IntKind.wrap .i64 x1) > 255)) then
                8
              else
                0
          else
            bif (x0 == 106) then
              bif (decide ((IntKind.wrap .i64 x1) < 0)) then
                8
              else
                bif (decide ((IntKind.wrap .i64 x1) > 255)) then
                  8
                else
                  0
            else
              bif (x0 == 116) then
                bif (decide ((IntKind.wrap .i64 x1) < 0)) then
                  8
                else
                  bif (decide ((IntKind.wrap .i64 x1) > 64)) then
                    8
                  else
                    0
              else
                bif (x0 == 99) then
                  bif (decide ((IntKind.wrap .i64 x1) < 0)) then
                    8
                  else
                    bif (decide ((IntKind.wrap .i64 x1) > 7)) then
                      8
                    else
                      0
                else
                  bif (x0 == 98) then
                    bif (decide ((IntKind.wrap .i64 x1) < 0)) then
                      8
                    else
                      bif (decide ((IntKind.wrap .i64 x1) > 7)) then
                        8
                      else
                        0
                  else
                    bif (x0 == 107) then
                      bif (decide ((IntKind.wrap .i64 x1) < 0)) then
                        8
                      else
                        bif (decide ((IntKind.wrap .i64 x1) > 3)) then
                          8
                        else
                          0
                    else
                      bif (x0 == 112) then
                        bif (decide ((IntKind.wrap .i64 x1) < 0)) then
                          8
                        else
                          bif (decide ((IntKind.wrap .i64 x1) > 7)) then
                            8
                          else
                            0
                      else
                        bif (x0 == 109) then
                          bif (decide ((IntKind.wrap .i64 x1) < 0)) then
                            8
                          else
                            bif (decide ((IntKind.wrap .i64 x1) > 2)) then
                              8
                            else
                              0
                        else
                          bif (x0 == 110) then
                            bif (decide ((IntKind.wrap .i64 x1) < 1)) then
                              8
                            else
                              bif (decide ((IntKind.wrap .i64 x1) > 6)) then
                                8
                              else
                                0
                          else
                            bif (decide ((IntKind.wrap .i64 x1) < 0)) then
                              8
                            else
                              bif (decide ((IntKind.wrap .i64 x1) > 0)) then
                                8
                              else
                                0
theorem instr_wrong.v {Ω : Type} (x0 : Int) (x1 : Int) (k : Int → Option Ω) : instr_wrong.s x0 x1 k = k (instr_wrong.t x0 x1) := by
  delta instr_wrong.s instr_wrong.t; exact (cond_tot (cond_tot rfl (cond_tot rfl (cond_tot rfl rfl))) (cond_tot (cond_tot rfl (cond_tot rfl (cond_tot rfl rfl))) (cond_tot (cond_tot rfl (cond_tot rfl rfl)) (cond_tot (cond_tot rfl (cond_tot rfl rfl)) (cond_tot (cond_tot rfl (cond_tot rfl rfl)) (cond_tot (cond_tot rfl (cond_tot rfl rfl)) (cond_tot (cond_tot rfl (cond_tot rfl rfl)) (cond_tot (cond_tot rfl (cond_tot rfl rfl)) (cond_tot (cond_tot rfl (cond_tot rfl rfl)) (cond_tot (cond_tot rfl (cond_tot rfl rfl)) (cond_tot (cond_tot rfl (cond_tot rfl rfl)) (cond_tot (cond_tot rfl (cond_tot rfl rfl)) (cond_tot (cond_tot rfl (cond_tot rfl rfl)) (cond_tot rfl (cond_tot rfl rfl)))))))))))))))
theorem instr_wrong.c (x0 : Int) (x1 : Int) : Contract C 75 [(.v (.int .u8) (x0)), (.v (.int .u8) (x1))] (tupAV (.int .i64) [] (instr_wrong.t x0 x1)) :=
  contract_s (S := fun k => instr_wrong.s x0 x1 k) C_ok noS_ok (by kernel_rfl) (by kernel_rfl) (by kernel_rfl) (instr_wrong.ev ⟨1, fun _ => []⟩ x0 x1 (dec (.int .i64) [])) (instr_wrong.v x0 x1 some)
noncomputable def instr_wrong.e : Ent := argI (.int .u8) fun x0 => argI (.int .u8) fun x1 => endT (tupAV (.int .i64) [] (instr_wrong.t x0 x1))
theorem instr_wrong.e_ok : EntOK C 75 (fun {_} => instr_wrong.e) := entA_ok (argI_ok fun x0 => argI_ok fun x1 => endT_ok (instr_wrong.c x0 x1))

/-- becket instr.Check -/
noncomputable def instr_Check.sp : Spec := (orS 75 (fun {_} => instr_wrong.e) (orS 74 (fun {_} => instr_operands.e) (orS 73 (fun {_} => opcode_Form.e) noS)))
def instr_Check.F (fuel : Nat) : Fuel := ⟨fuel, fun r => bif r == 5 then [0, 1, 2, 4, 5, 6, 7, 8, 9, 10, 11, 12, 13, 16, 17, 18, 19, 20, 21, 22, 23, 24, 25, 26, 27] else []⟩
def instr_Check.E0 (e5_1 : ByteArray) (e5_2 : (List Int)) (e5_3 : T_s22) (s5 : Int) : List AV := [.dead, .dead, .dead, (.v .str (e5_1)), .dead, .dead, .dead, .dead, .dead, .dead, .dead, .dead, .dead, .dead, (.v (.arr 3 (.int .u8)) (e5_2)), (.v (.int .i64) (s5)), .dead, .dead, .dead, .dead, .dead, .dead, .dead, .dead, .dead, .dead, .dead, .dead]
def instr_Check.H0 (e5_1 : ByteArray) (e5_2 : (List Int)) (e5_3 : T_s22) (s5 : Int) : Heap := [(.box E_s22 e5_3 false)]
noncomputable def instr_Check.M0 {Ω : Type} (fuel : Nat) (e5_1 : ByteArray) (e5_2 : (List Int)) (e5_3 : T_s22)  (k : AV → Option Ω) (m : Nat) (s : Int) : Option Ω := loopK (fun env L k => evCode CK instr_Check.sp (instr_Check.F fuel) (cl (cl (cr (cl (cr (cr (cr (Tryd.f27.body.getD .skip)))))))) env L k) [true, true, true, false, true, true, true, true, true, true, true, true, true, true, false, false, true, true, true, true, true, true, true, true, true, true, true, true] 1 (blockK 0 (seqK (fun env L => evCode CK instr_Check.sp (instr_Check.F fuel) (cr (cr (cr (cr (Tryd.f27.body.getD .skip))))) env L (finK CK Tryd.f27 k)) (finK CK Tryd.f27 k))) m ((instr_Check.E0 e5_1 e5_2 e5_3) s) ((instr_Check.H0 e5_1 e5_2 e5_3) s)
def instr_Check.b0 {Ω : Type} (e5_1 : ByteArray) (e5_2 : (List Int)) (e5_3 : T_s22)   (k : Int → Option Ω) (r5 : Int → Option Ω) (s5 : Int) : Option Ω :=
  bif (decide (s5 < 3)) then
    bif (idxOK s5 3) then
      bif (idxOK s5 (e5_1).size) then
        bif ((instr_wrong.t ((bAt e5_1 (Int.toNat s5))) ((List.getD e5_2 (Int.toNat s5) 0))) != 0) then
          k (instr_wrong.t ((bAt e5_1 (Int.toNat s5))) ((List.getD e5_2 (Int.toNat s5) 0)))
        else
          r5 ((IntKind.wrap .i64 (s5 + 1)))
      else
        none
    else
      none
  else
    k 0
def instr_Check.B0 {Ω : Type} (fuel : Nat) (e5_1 : ByteArray) (e5_2 : (List Int)) (e5_3 : T_s22)  (k : Int → Option Ω) (r5 : Int → Option Ω) (s5 : Int) : Option Ω := instr_Check.b0 e5_1 e5_2 e5_3   k r5 s5
theorem instr_Check.l0 {Ω : Type} (fuel : Nat) (e5_1 : ByteArray) (e5_2 : (List Int)) (e5_3 : T_s22)  (k : AV → Option Ω) : ∀ m, (instr_Check.M0 fuel e5_1 e5_2 e5_3  k m) = iter (instr_Check.B0 fuel e5_1 e5_2 e5_3  (fun r => k (tupAV (.int .i64) [] r))) m :=
  loopK_iter (envOf := (instr_Check.E0 e5_1 e5_2 e5_3)) (LOf := (instr_Check.H0 e5_1 e5_2 e5_3)) (B := instr_Check.B0 fuel e5_1 e5_2 e5_3  (fun r => k (tupAV (.int .i64) [] r))) (fun R s => by kernel_rfl)
def instr_Check.sl {Ω : Type} (x0 : T_s22) (lp0 : ByteArray → (List Int) → T_s22 → Int → Option Ω) (k : Int → Option Ω) : Option Ω :=
  (opcode_Form.u (IntKind.wrap .i64 x0.1)).bind fun y1 =>
  bif ((y1).data.toList == ((bs [])).data.toList) then
    k 18
  else
    lp0 y1 (instr_operands.t x0) x0 (0)
def instr_Check.s {Ω : Type} (fuel : Nat) (x0 : T_s22) (k : Int → Option Ω) : Option Ω := instr_Check.sl x0 (fun e5_1 e5_2 e5_3 => (iter (instr_Check.B0 fuel e5_1 e5_2 e5_3  k) fuel)) k
theorem instr_Check.ev {Ω : Type} (fuel : Nat) (x0 : T_s22) (k : AV → Option Ω) : evFn CK instr_Check.sp (instr_Check.F fuel) Tryd.f27 (Tryd.f27.body.getD .skip) [(.v E_s22 (x0))] k = instr_Check.s fuel x0 (fun r => k (tupAV (.int .i64) [] r)) := by
  have h0 : evFn CK instr_Check.sp (instr_Check.F fuel) Tryd.f27 (Tryd.f27.body.getD .skip) [(.v E_s22 (x0))] k = instr_Check.sl x0 (fun e5_1 e5_2 e5_3 => (instr_Check.M0 fuel e5_1 e5_2 e5_3  k fuel)) (fun r => k (tupAV (.int .i64) [] r)) := by kernel_rfl
  have h1 : (fun e5_1 e5_2 e5_3 => (instr_Check.M0 fuel e5_1 e5_2 e5_3  k fuel)) = (fun e5_1 e5_2 e5_3 => (iter (instr_Check.B0 fuel e5_1 e5_2 e5_3  (fun r => k (tupAV (.int .i64) [] r))) fuel)) := funext fun e5_1 => funext fun e5_2 => funext fun e5_3 => instr_Check.l0 fuel e5_1 e5_2 e5_3   k fuel
  rw [h1] at h0
  exact h0
def instr_Check.g0 {Ω : Type} (e5_1 : ByteArray) (e5_2 : (List Int)) (e5_3 : T_s22)  (k : Int → Option Ω) : Nat → Int → Option Ω
  | 0, i5 =>
    k 0
  | d5 + 1, i5 =>
    bif (idxOK i5 3) then
      bif (idxOK i5 (e5_1).size) then
        bif ((instr_wrong.t ((bAt e5_1 (Int.toNat i5))) ((List.getD e5_2 (Int.toNat i5) 0))) != 0) then
          k (instr_wrong.t ((bAt e5_1 (Int.toNat i5))) ((List.getD e5_2 (Int.toNat i5) 0)))
        else
          instr_Check.g0 e5_1 e5_2 e5_3  k d5 (i5 + 1)
      else
        none
    else
      none
theorem instr_Check.h0 {Ω : Type} (e5_1 : ByteArray) (e5_2 : (List Int)) (e5_3 : T_s22)   (k : Int → Option Ω) (hN : (3 : Int) ≤ 9223372036854775807) : ∀ (m : Nat) (i : Int) (a : Unit), -9223372036854775808 ≤ i → Int.toNat ((3 : Int) - i) < m → Le (instr_Check.g0 e5_1 e5_2 e5_3  k (Int.toNat ((3 : Int) - i)) i) (iter (instr_Check.B0 BIG e5_1 e5_2 e5_3  k) m (i)) :=
  iter_count (3 : Int) (fun i5 => (decide (i5 < 3))) (fun i => rfl) (fun (i5 : Int) (a5 : Unit) => (i5)) (fun xs i5 a5 => instr_Check.g0 e5_1 e5_2 e5_3  k xs i5) (instr_Check.B0 BIG e5_1 e5_2 e5_3  k)
    (fun i5 a5 r h0 => (Le.fls h0 (Le.refl _)))
    (fun i5 d5 a5 r h0 hw ih => (Le.tru h0 (Le.cond (Le.cond (Le.cond (Le.refl _) (ih _ hw ())) Le.nil) Le.nil)))
    hN
def instr_Check.w {Ω : Type} (x0 : T_s22) (k : Int → Option Ω) : Option Ω :=
  (opcode_Form.u (IntKind.wrap .i64 x0.1)).bind fun y1 =>
  bif ((y1).data.toList == ((bs [])).data.toList) then
    k 18
  else
    instr_Check.g0 y1 (instr_operands.t x0) x0  k ((Int.toNat ((3 : Int) - 0))) 0
theorem instr_Check.le {Ω : Type} (x0 : T_s22) (k : Int → Option Ω) : Le (instr_Check.w x0 k) (instr_Check.s BIG x0 k) := by
  delta instr_Check.w instr_Check.s instr_Check.sl
  exact (Le.bnd fun y1 => (Le.cond (Le.refl _) (instr_Check.h0 _ _ _   k (by decide) BIG 0 () (by decide) (by decide))))
def instr_Check.u (x0 : T_s22) : Option (Int) := instr_Check.w x0 some
theorem instr_Check.c (x0 : T_s22) (r : Int) (h : instr_Check.u x0 = some r) : Contract CK 27 [(.v E_s22 (x0))] (tupAV (.int .i64) [] r) :=
  contract_s (S := fun k => instr_Check.s BIG x0 k) CK_ok (orS_ok (instr_wrong.e_ok.mono le_C_CK) (orS_ok (instr_operands.e_ok.mono le_C_CK) (orS_ok opcode_Form.e_ok noS_ok))) (by kernel_rfl) (by kernel_rfl) (by kernel_rfl) (instr_Check.ev BIG x0 (dec (.int .i64) [])) (instr_Check.le x0 some r h)
noncomputable def instr_Check.e : Ent := argI E_s22 fun x0 => endU (instr_Check.u x0) (tupAV (.int .i64) [])
theorem instr_Check.e_ok : EntOK CK 27 (fun {_} => instr_Check.e) := entA_ok (argI_ok fun x0 => endU_ok fun r h => instr_Check.c x0 r h)

/-- slices.Index   int,int  -/
noncomputable def slices_Index_int_int.sp : Spec := noS
def slices_Index_int_int.F (fuel : Nat) : Fuel := ⟨fuel, fun r => bif r == 2 then [2, 3, 4, 5, 6, 9, 10, 11, 12, 13, 14, 15, 16, 17, 18] else []⟩
def slices_Index_int_int.E0 (e2_1 : (List Int)) (e2_2 : Int) (e2_3 : Int) (s2 : Int) : List AV := [(.v (.slice (.int .i64)) (e2_1)), (.v (.int .i64) (e2_2)), .dead, .dead, .dead, .dead, .dead, (.v (.int .i64) (e2_3)), (.v (.int .i64) (s2)), .dead, .dead, .dead, .dead, .dead, .dead, .dead, .dead, .dead, .dead]
def slices_Index_int_int.H0 (e2_1 : (List Int)) (e2_2 : Int) (e2_3 : Int) (s2 : Int) : Heap := []
noncomputable def slices_Index_int_int.M0 {Ω : Type} (fuel : Nat) (e2_1 : (List Int)) (e2_2 : Int) (e2_3 : Int)  (k : AV → Option Ω) (m : Nat) (s : Int) : Option Ω := loopK (fun env L k => evCode C slices_Index_int_int.sp (slices_Index_int_int.F fuel) (cl (cl (cr (cl (cr (Tryd.f128.body.getD .skip)))))) env L k) [false, false, true, true, true, true, true, false, false, true, true, true, true, true, true, true, true, true, true] 0 (blockK 0 (seqK (fun env L => evCode C slices_Index_int_int.sp (slices_Index_int_int.F fuel) (cr (cr (Tryd.f128.body.getD .skip))) env L (finK C Tryd.f128 k)) (finK C Tryd.f128 k))) m ((slices_Index_int_int.E0 e2_1 e2_2 e2_3) s) ((slices_Index_int_int.H0 e2_1 e2_2 e2_3) s)
def slices_Index_int_int.b0 {Ω : Type} (e2_1 : (List Int)) (e2_2 : Int) (e2_3 : Int)   (k : Int → Option Ω) (r2 : Int → Option Ω) (s2 : Int) : Option Ω :=
  bif (decide (s2 < e2_3)) then
    bif (idxOK s2 (List.length e2_1)) then
      bif (e2_2 == (List.getD e2_1 (Int.toNat s2) 0)) then
        k s2
      else
        r2 ((IntKind.wrap .i64 (s2 + 1)))
    else
      none
  else
    k (-1)
def slices_Index_int_int.B0 {Ω : Type} (fuel : Nat) (e2_1 : (List Int)) (e2_2 : Int) (e2_3 : Int)  (k : Int → Option Ω) (r2 : Int → Option Ω) (s2 : Int) : Option Ω := slices_Index_int_int.b0 e2_1 e2_2 e2_3   k r2 s2
theorem slices_Index_int_int.l0 {Ω : Type} (fuel : Nat) (e2_1 : (List Int)) (e2_2 : Int) (e2_3 : Int)  (k : AV → Option Ω) : ∀ m, (slices_Index_int_int.M0 fuel e2_1 e2_2 e2_3  k m) = iter (slices_Index_int_int.B0 fuel e2_1 e2_2 e2_3  (fun r => k (tupAV (.int .i64) [] r))) m :=
  loopK_iter (envOf := (slices_Index_int_int.E0 e2_1 e2_2 e2_3)) (LOf := (slices_Index_int_int.H0 e2_1 e2_2 e2_3)) (B := slices_Index_int_int.B0 fuel e2_1 e2_2 e2_3  (fun r => k (tupAV (.int .i64) [] r))) (fun R s => by kernel_rfl)
def slices_Index_int_int.sl {Ω : Type} (x0 : (List Int)) (x1 : Int) (lp0 : (List Int) → Int → Int → Int → Option Ω) (k : Int → Option Ω) : Option Ω :=
  lp0 x0 x1 (((List.length x0 : Nat) : Int)) (0)
def slices_Index_int_int.s {Ω : Type} (fuel : Nat) (x0 : (List Int)) (x1 : Int) (k : Int → Option Ω) : Option Ω := slices_Index_int_int.sl x0 x1 (fun e2_1 e2_2 e2_3 => (iter (slices_Index_int_int.B0 fuel e2_1 e2_2 e2_3  k) fuel)) k
theorem slices_Index_int_int.ev {Ω : Type} (fuel : Nat) (x0 : (List Int)) (x1 : Int) (k : AV → Option Ω) : evFn C slices_Index_int_int.sp (slices_Index_int_int.F fuel) Tryd.f128 (Tryd.f128.body.getD .skip) [(.v (.slice (.int .i64)) (x0)), (.v (.int .i64) (x1))] k = slices_Index_int_int.s fuel x0 x1 (fun r => k (tupAV (.int .i64) [] r)) := by
  have h0 : evFn C slices_Index_int_int.sp (slices_Index_int_int.F fuel) Tryd.f128 (Tryd.f128.body.getD .skip) [(.v (.slice (.int .i64)) (x0)), (.v (.int .i64) (x1))] k = slices_Index_int_int.sl x0 x1 (fun e2_1 e2_2 e2_3 => (slices_Index_int_int.M0 fuel e2_1 e2_2 e2_3  k fuel)) (fun r => k (tupAV (.int .i64) [] r)) := by kernel_rfl
  have h1 : (fun e2_1 e2_2 e2_3 => (slices_Index_int_int.M0 fuel e2_1 e2_2 e2_3  k fuel)) = (fun e2_1 e2_2 e2_3 => (iter (slices_Index_int_int.B0 fuel e2_1 e2_2 e2_3  (fun r => k (tupAV (.int .i64) [] r))) fuel)) := funext fun e2_1 => funext fun e2_2 => funext fun e2_3 => slices_Index_int_int.l0 fuel e2_1 e2_2 e2_3   k fuel
  rw [h1] at h0
  exact h0
def slices_Index_int_int.g0 {Ω : Type} (e2_1 : (List Int)) (e2_2 : Int)  (k : Int → Option Ω) : List Int → Int → Option Ω
  | [], i2 =>
    k (-1)
  | x2 :: xs2, i2 =>
    bif (e2_2 == x2) then
      k i2
    else
      slices_Index_int_int.g0 e2_1 e2_2  k xs2 (i2 + 1)
theorem slices_Index_int_int.h0 {Ω : Type} (e2_1 : (List Int)) (e2_2 : Int)   (k : Int → Option Ω) (hX : ((List.length e2_1 : Nat) : Int) ≤ 9223372036854775807) : ∀ (m : Nat) (i : Int) (a : Unit), 0 ≤ i → i ≤ ((List.length e2_1 : Nat) : Int) → ((List.length e2_1 : Nat) : Int) < m + i → Le (slices_Index_int_int.g0 e2_1 e2_2  k (List.drop (Int.toNat i) e2_1) i) (iter (slices_Index_int_int.B0 BIG e2_1 e2_2 (((List.length e2_1 : Nat) : Int))  k) m (i)) :=
  iter_list e2_1 0 (fun (i2 : Int) (a2 : Unit) => (i2)) (fun xs i2 a2 => slices_Index_int_int.g0 e2_1 e2_2  k xs i2) (slices_Index_int_int.B0 BIG e2_1 e2_2 (((List.length e2_1 : Nat) : Int))  k)
    (fun i2 a2 r h0 => (Le.fls h0 (Le.refl _)))
    (fun i2 xs2 a2 r h0 h1 hw ih => (Le.tru h0 (Le.tru h1 (Le.cond (Le.refl _) (ih _ hw ())))))
    hX
def slices_Index_int_int.w {Ω : Type} (x0 : (List Int)) (x1 : Int) (k : Int → Option Ω) : Option Ω :=
  bif decide (((List.length x0 : Nat) : Int) ≤ 4611686018427387904) then slices_Index_int_int.g0 x0 x1  k x0 0 else none
theorem slices_Index_int_int.le {Ω : Type} (x0 : (List Int)) (x1 : Int) (k : Int → Option Ω) : Le (slices_Index_int_int.w x0 x1 k) (slices_Index_int_int.s BIG x0 x1 k) := by
  delta slices_Index_int_int.w slices_Index_int_int.s slices_Index_int_int.sl
  exact (Le.gd fun hg => slices_Index_int_int.h0 _ _   k (le_up (of_decide_eq_true hg)) BIG 0 () (by decide) (zero_le_len _) (big_list (of_decide_eq_true hg)))
def slices_Index_int_int.u (x0 : (List Int)) (x1 : Int) : Option (Int) := slices_Index_int_int.w x0 x1 some
theorem slices_Index_int_int.c (x0 : (List Int)) (x1 : Int) (r : Int) (h : slices_Index_int_int.u x0 x1 = some r) : Contract C 128 [(.v (.slice (.int .i64)) (x0)), (.v (.int .i64) (x1))] (tupAV (.int .i64) [] r) :=
  contract_s (S := fun k => slices_Index_int_int.s BIG x0 x1 k) C_ok noS_ok (by kernel_rfl) (by kernel_rfl) (by kernel_rfl) (slices_Index_int_int.ev BIG x0 x1 (dec (.int .i64) [])) (slices_Index_int_int.le x0 x1 some r h)
noncomputable def slices_Index_int_int.e : Ent := argI (.slice (.int .i64)) fun x0 => argI (.int .i64) fun x1 => endU (slices_Index_int_int.u x0 x1) (tupAV (.int .i64) [])
theorem slices_Index_int_int.e_ok : EntOK C 128 (fun {_} => slices_Index_int_int.e) := entA_ok (argI_ok fun x0 => argI_ok fun x1 => endU_ok fun r h => slices_Index_int_int.c x0 x1 r h)

/-- slices.Contains   int,int  -/
noncomputable def slices_Contains_int_int.sp : Spec := (orS 128 (fun {_} => slices_Index_int_int.e) noS)
def slices_Contains_int_int.s {Ω : Type} (x0 : (List Int)) (x1 : Int) (k : Bool → Option Ω) : Option Ω :=
  (slices_Index_int_int.u x0 x1).bind fun y1 =>
  k (decide (y1 ≥ 0))
theorem slices_Contains_int_int.ev {Ω : Type} (fuel : Fuel) (x0 : (List Int)) (x1 : Int) (k : AV → Option Ω) : evFn C slices_Contains_int_int.sp fuel Tryd.f100 (Tryd.f100.body.getD .skip) [(.v (.slice (.int .i64)) (x0)), (.v (.int .i64) (x1))] k = slices_Contains_int_int.s x0 x1 (fun r => k (tupAV .bool [] r)) := by kernel_rfl
def slices_Contains_int_int.u (x0 : (List Int)) (x1 : Int) : Option (Bool) := slices_Contains_int_int.s x0 x1 some
theorem slices_Contains_int_int.c (x0 : (List Int)) (x1 : Int) (r : Bool) (h : slices_Contains_int_int.u x0 x1 = some r) : Contract C 100 [(.v (.slice (.int .i64)) (x0)), (.v (.int .i64) (x1))] (tupAV .bool [] r) :=
  contract_s (S := fun k => slices_Contains_int_int.s x0 x1 k) C_ok (orS_ok slices_Index_int_int.e_ok noS_ok) (by kernel_rfl) (by kernel_rfl) (by kernel_rfl) (slices_Contains_int_int.ev ⟨1, fun _ => []⟩ x0 x1 (dec .bool [])) h
noncomputable def slices_Contains_int_int.e : Ent := argI (.slice (.int .i64)) fun x0 => argI (.int .i64) fun x1 => endU (slices_Contains_int_int.u x0 x1) (tupAV .bool [])
theorem slices_Contains_int_int.e_ok : EntOK C 100 (fun {_} => slices_Contains_int_int.e) := entA_ok (argI_ok fun x0 => argI_ok fun x1 => endU_ok fun r h => slices_Contains_int_int.c x0 x1 r h)

/-- becket instr.rising -/
noncomputable def instr_rising.sp : Spec := (fxS 101 (fun {_} => slices_Sort.fx) (orS 100 (fun {_} => slices_Contains_int_int.e) noS))
def instr_rising.F (fuel : Nat) : Fuel := ⟨fuel, fun r => bif r == 3 then [0, 1, 2, 4, 5, 9, 10, 11, 12, 13, 14, 15, 16, 17, 18, 19, 20, 21, 22, 23, 24, 25, 26, 27, 28, 29, 30] else []⟩
def instr_rising.E0 (e3_1 : (List Int)) (e3_2 : Int) (s3 : Int × (List Int)) : List AV := [.dead, .dead, .dead, (.rs 1), .dead, .dead, (.v (.slice (.int .u8)) (e3_1)), (.v (.int .i64) (e3_2)), (.v (.int .i64) (s3.1)), .dead, .dead, .dead, .dead, .dead, .dead, .dead, .dead, .dead, .dead, .dead, .dead, .dead, .dead, .dead, .dead, .dead, .dead, .dead, .dead, .dead, .dead]
def instr_rising.H0 (e3_1 : (List Int)) (e3_2 : Int) (s3 : Int × (List Int)) : Heap := [(.row 3 (.int .i64) [] false), (.row 3 (.int .i64) s3.2 false)]
noncomputable def instr_rising.M0 {Ω : Type} (fuel : Nat) (e3_1 : (List Int)) (e3_2 : Int)  (k : AV → Option Ω) (m : Nat) (s : Int × (List Int)) : Option Ω := loopK (fun env L k => evCode C instr_rising.sp (instr_rising.F fuel) (cl (cl (cr (cl (cr (cr (Tryd.f53.body.getD .skip))))))) env L k) [true, true, true, false, true, true, false, false, false, true, true, true, true, true, true, true, true, true, true, true, true, true, true, true, true, true, true, true, true, true, true] 2 (blockK 0 (seqK (fun env L => evCode C instr_rising.sp (instr_rising.F fuel) (cr (cr (cr (Tryd.f53.body.getD .skip)))) env L (finK C Tryd.f53 k)) (finK C Tryd.f53 k))) m ((instr_rising.E0 e3_1 e3_2) s) ((instr_rising.H0 e3_1 e3_2) s)
def instr_rising.b0 {Ω : Type} (e3_1 : (List Int)) (e3_2 : Int)   (k : (List Int) → Option Ω) (r3 : Int × (List Int) → Option Ω) (s3 : Int × (List Int)) : Option Ω :=
  bif (decide (s3.1 < e3_2)) then
    bif (idxOK s3.1 (List.length e3_1)) then
      bif ((IntKind.wrap .i64 (List.getD e3_1 (Int.toNat s3.1) 0)) != 8) then
        (slices_Contains_int_int.u s3.2 ((IntKind.wrap .i64 (List.getD e3_1 (Int.toNat s3.1) 0)))).bind fun y1 =>
        bif (!y1) then
          bif (decide (List.length s3.2 + List.length [(IntKind.wrap .i64 (List.getD e3_1 (Int.toNat s3.1) 0))] ≤ rowMax)) then
            r3 ((IntKind.wrap .i64 (s3.1 + 1)), (s3.2 ++ [(IntKind.wrap .i64 (List.getD e3_1 (Int.toNat s3.1) 0))]))
          else
            none
        else
          r3 ((IntKind.wrap .i64 (s3.1 + 1)), s3.2)
      else
        r3 ((IntKind.wrap .i64 (s3.1 + 1)), s3.2)
    else
      none
  else
    bif (decide (List.length s3.2 ≤ rowMax)) then
      k (sortB leI s3.2)
    else
      none
def instr_rising.B0 {Ω : Type} (fuel : Nat) (e3_1 : (List Int)) (e3_2 : Int)  (k : (List Int) → Option Ω) (r3 : Int × (List Int) → Option Ω) (s3 : Int × (List Int)) : Option Ω := instr_rising.b0 e3_1 e3_2   k r3 s3
theorem instr_rising.l0 {Ω : Type} (fuel : Nat) (e3_1 : (List Int)) (e3_2 : Int)  (k : AV → Option Ω) : ∀ m, (instr_rising.M0 fuel e3_1 e3_2  k m) = iter (instr_rising.B0 fuel e3_1 e3_2  (fun r => k (tupAV (.slice (.int .i64)) [] r))) m :=
  loopK_iter (envOf := (instr_rising.E0 e3_1 e3_2)) (LOf := (instr_rising.H0 e3_1 e3_2)) (B := instr_rising.B0 fuel e3_1 e3_2  (fun r => k (tupAV (.slice (.int .i64)) [] r))) (fun R s => by kernel_rfl)
def instr_rising.sl {Ω : Type} (x0 : (List Int)) (lp0 : (List Int) → Int → Int × (List Int) → Option Ω) (k : (List Int) → Option Ω) : Option Ω :=
  lp0 x0 (((List.length x0 : Nat) : Int)) (0, [])
def instr_rising.s {Ω : Type} (fuel : Nat) (x0 : (List Int)) (k : (List Int) → Option Ω) : Option Ω := instr_rising.sl x0 (fun e3_1 e3_2 => (iter (instr_rising.B0 fuel e3_1 e3_2  k) fuel)) k
theorem instr_rising.ev {Ω : Type} (fuel : Nat) (x0 : (List Int)) (k : AV → Option Ω) : evFn C instr_rising.sp (instr_rising.F fuel) Tryd.f53 (Tryd.f53.body.getD .skip) [(.v (.slice (.int .u8)) (x0))] k = instr_rising.s fuel x0 (fun r => k (tupAV (.slice (.int .i64)) [] r)) := by
  have h0 : evFn C instr_rising.sp (instr_rising.F fuel) Tryd.f53 (Tryd.f53.body.getD .skip) [(.v (.slice (.int .u8)) (x0))] k = instr_rising.sl x0 (fun e3_1 e3_2 => (instr_rising.M0 fuel e3_1 e3_2  k fuel)) (fun r => k (tupAV (.slice (.int .i64)) [] r)) := by kernel_rfl
  have h1 : (fun e3_1 e3_2 => (instr_rising.M0 fuel e3_1 e3_2  k fuel)) = (fun e3_1 e3_2 => (iter (instr_rising.B0 fuel e3_1 e3_2  (fun r => k (tupAV (.slice (.int .i64)) [] r))) fuel)) := funext fun e3_1 => funext fun e3_2 => instr_rising.l0 fuel e3_1 e3_2   k fuel
  rw [h1] at h0
  exact h0
def instr_rising.g0 {Ω : Type} (e3_1 : (List Int))  (k : (List Int) → Option Ω) : List Int → (List Int) → Option Ω
  | [], a3_1 =>
    bif (decide (List.length a3_1 ≤ rowMax)) then
      k (sortB leI a3_1)
    else
      none
  | x3 :: xs3, a3_1 =>
    bif ((IntKind.wrap .i64 x3) != 8) then
      (slices_Contains_int_int.u a3_1 ((IntKind.wrap .i64 x3))).bind fun y1 =>
      bif (!y1) then
        bif (decide (List.length a3_1 + List.length [(IntKind.wrap .i64 x3)] ≤ rowMax)) then
          instr_rising.g0 e3_1  k xs3 ((a3_1 ++ [(IntKind.wrap .i64 x3)]))
        else
          none
      else
        instr_rising.g0 e3_1  k xs3 a3_1
    else
      instr_rising.g0 e3_1  k xs3 a3_1
theorem instr_rising.h0 {Ω : Type} (e3_1 : (List Int))   (k : (List Int) → Option Ω) (hX : ((List.length e3_1 : Nat) : Int) ≤ 9223372036854775807) : ∀ (m : Nat) (i : Int) (a : (List Int)), 0 ≤ i → i ≤ ((List.length e3_1 : Nat) : Int) → ((List.length e3_1 : Nat) : Int) < m + i → Le (instr_rising.g0 e3_1  k (List.drop (Int.toNat i) e3_1) a) (iter (instr_rising.B0 BIG e3_1 (((List.length e3_1 : Nat) : Int))  k) m (i, a)) :=
  iter_list e3_1 0 (fun (i3 : Int) (a3 : (List Int)) => (i3, a3)) (fun xs i3 a3 => instr_rising.g0 e3_1  k xs a3) (instr_rising.B0 BIG e3_1 (((List.length e3_1 : Nat) : Int))  k)
    (fun i3 a3 r h0 => (Le.fls h0 (Le.cond (Le.refl _) Le.nil)))
    (fun i3 xs3 a3 r h0 h1 hw ih => (Le.tru h0 (Le.tru h1 (Le.cond (Le.bnd fun y1 => (Le.cond (Le.cond (ih _ hw ((a3 ++ [(IntKind.wrap .i64 (List.getD e3_1 (Int.toNat i3) 0))]))) Le.nil) (ih _ hw (a3)))) (ih _ hw (a3))))))
    hX
def instr_rising.w {Ω : Type} (x0 : (List Int)) (k : (List Int) → Option Ω) : Option Ω :=
  bif decide (((List.length x0 : Nat) : Int) ≤ 4611686018427387904) then instr_rising.g0 x0  k x0 ([]) else none
theorem instr_rising.le {Ω : Type} (x0 : (List Int)) (k : (List Int) → Option Ω) : Le (instr_rising.w x0 k) (instr_rising.s BIG x0 k) := by
  delta instr_rising.w instr_rising.s instr_rising.sl
  exact (Le.gd fun hg => instr_rising.h0 _   k (le_up (of_decide_eq_true hg)) BIG 0 ([]) (by decide) (zero_le_len _) (big_list (of_decide_eq_true hg)))
def instr_rising.u (x0 : (List Int)) : Option ((List Int)) := instr_rising.w x0 some
theorem instr_rising.c (x0 : (List Int)) (r : (List Int)) (h : instr_rising.u x0 = some r) : Contract C 53 [(.v (.slice (.int .u8)) (x0))] (tupAV (.slice (.int .i64)) [] r) :=
  contract_s (S := fun k => instr_rising.s BIG x0 k) C_ok (fxS_ok slices_Sort.fx_ok (orS_ok slices_Contains_int_int.e_ok noS_ok)) (by kernel_rfl) (by kernel_rfl) (by kernel_rfl) (instr_rising.ev BIG x0 (dec (.slice (.int .i64)) [])) (instr_rising.le x0 some r h)
noncomputable def instr_rising.e : Ent := argI (.slice (.int .u8)) fun x0 => endU (instr_rising.u x0) (tupAV (.slice (.int .i64)) [])
theorem instr_rising.e_ok : EntOK C 53 (fun {_} => instr_rising.e) := entA_ok (argI_ok fun x0 => endU_ok fun r h => instr_rising.c x0 r h)

/-- becket instr.Reads -/
noncomputable def instr_Reads.sp : Spec := (orS 53 (fun {_} => instr_rising.e) (orS 27 (fun {_} => instr_Check.e) noS))
def instr_Reads.s {Ω : Type} (x0 : T_s22) (k : (List Int) → Option Ω) : Option Ω :=
  (instr_Check.u x0).bind fun y1 =>
  bif (y1 != 0) then
    k []
  else
    bif (x0.1 == 2) then
      (instr_rising.u ([x0.2.2.1])).bind fun y2 =>
      k y2
    else
      bif (x0.1 == 14) then
        (instr_rising.u ([x0.2.2.1])).bind fun y3 =>
        k y3
      else
        bif (x0.1 == 15) then
          (instr_rising.u ([x0.2.2.1])).bind fun y4 =>
          k y4
        else
          bif (x0.1 == 24) then
            (instr_rising.u ([x0.2.2.1])).bind fun y5 =>
            k y5
          else
            bif (x0.1 == 33) then
              (instr_rising.u ([x0.2.2.1])).bind fun y6 =>
              k y6
            else
              bif (x0.1 == 35) then
                (instr_rising.u ([x0.2.2.1])).bind fun y7 =>
                k y7
              else
                bif (x0.1 == 4) then
                  (instr_rising.u ([x0.2.2.1, x0.2.2.2.1])).bind fun y8 =>
                  k y8
                else
                  bif (x0.1 == 5) then
                    (instr_rising.u ([x0.2.2.1, x0.2.2.2.1])).bind fun y9 =>
                    k y9
                  else
                    bif (x0.1 == 6) then
                      (instr_rising.u ([x0.2.2.1, x0.2.2.2.1])).bind fun y10 =>
                      k y10
                    else
                      bif (x0.1 == 7) then
                        (instr_rising.u ([x0.2.2.1, x0.2.2.2.1])).bind fun y11 =>
                        k y11
                      else
                        bif (x0.1 == 8) then
                          (instr_rising.u ([x0.2.2.1, x0.2.2.2.1])).bind fun y12 =>
                          k y12
                        else
                          bif (x0.1 == 9) then
                            (instr_rising.u ([x0.2.2.1, x0.2.2.2.1])).bind fun y13 =>
                            k y13
                          else
                            bif (x0.1 == 10) then
                              (instr_rising.u ([x0.2.2.1, x0.2.2.2.1])).bind fun y14 =>
                              k y14
                            else
                              bif (x0.1 == 11) then
                                (instr_rising.u ([x0.2.2.1, x0.2.2.2.1])).bind fun y15 =>
                                k y15
                              else
                                bif (x0.1 == 12) then
                                  (instr_rising.u ([x0.2.2.1, x0.2.2.2.1])).bind fun y16 =>
                                  k y16
                                else
                                  bif (x0.1 == 13) then
                                    (instr_rising.u ([x0.2.2.1, x0.2.2.2.1])).bind fun y17 =>
                                    k y17
                                  else
                                    bif (x0.1 == 16) then
                                      (instr_rising.u ([x0.2.2.1, x0.2.2.2.1])).bind fun y18 =>
                                      k y18
                                    else
                                      bif (x0.1 == 17) then
                                        (instr_rising.u ([x0.2.2.1, x0.2.2.2.1])).bind fun y19 =>
                                        k y19
                                      else
                                        bif (x0.1 == 19) then
                                          (instr_rising.u ([x0.2.1])).bind fun y20 =>
                                          k y20
                                        else
                                          bif (x0.1 == 20) then
                                            (instr_rising.u ([x0.2.1])).bind fun y21 =>
                                            k y21
                                          else
                                            bif (x0.1 == 27) then
                                              (instr_rising.u ([x0.2.1])).bind fun y22 =>
                                              k y22
                                            else
                                              bif (x0.1 == 32) then
                                                (instr_rising.u ([x0.2.1])).bind fun y23 =>
                                                k y23
                                              else
                                                bif (x0.1 == 31) then
                                                  (instr_rising.u ([x0.2.1])).bind fun y24 =>
                                                  k y24
                                                else
                                                  bif (x0.1 == 25) then
                                                    (instr_rising.u ([x0.2.1, x0.2.2.1])).bind fun y25 =>
                                                    k y25
                                                  else
                                                    bif (x0.1 == 30) then
                                                      (instr_rising.u ([x0.2.2.2.1])).bind fun y26 =>
                                                      k y26
                                                    else
                                                      bif (x0.1 == 42) then
                                                        (instr_rising.u ([x0.2.2.2.1])).bind fun y27 =>
                                                        k y27
                                                      else
                                                        bif (x0.1 == 43) then
                                                          (instr_rising.u ([x0.2.2.2.1])).bind fun y28 =>
                                                          k y28
                                                        else
                                                          bif (x0.1 == 45) then
                                                            (instr_rising.u ([x0.2.2.2.1])).bind fun y29 =>
                                                            k y29
                                                          else
                                                            bif (x0.1 == 44) then
                                                              (instr_rising.u ([x0.2.1, x0.2.2.2.1])).bind fun y30 =>
                                                              k y30
                                                            else
                                                              k []
theorem instr_Reads.ev {Ω : Type} (fuel : Fuel) (x0 : T_s22) (k : AV → Option Ω) : evFn CK instr_Reads.sp fuel Tryd.f12 (Tryd.f12.body.getD .skip) [(.v E_s22 (x0))] k = instr_Reads.s x0 (fun r => k (tupAV (.slice (.int .i64)) [] r)) := by kernel_rfl
def instr_Reads.u (x0 : T_s22) : Option ((List Int)) := instr_Reads.s x0 some
theorem instr_Reads.c (x0 : T_s22) (r : (List Int)) (h : instr_Reads.u x0 = some r) : Contract CK 12 [(.v E_s22 (x0))] (tupAV (.slice (.int .i64)) [] r) :=
  contract_s (S := fun k => instr_Reads.s x0 k) CK_ok (orS_ok (instr_rising.e_ok.mono le_C_CK) (orS_ok instr_Check.e_ok noS_ok)) (by kernel_rfl) (by kernel_rfl) (by kernel_rfl) (instr_Reads.ev ⟨1, fun _ => []⟩ x0 (dec (.slice (.int .i64)) [])) h
noncomputable def instr_Reads.e : Ent := argI E_s22 fun x0 => endU (instr_Reads.u x0) (tupAV (.slice (.int .i64)) [])
theorem instr_Reads.e_ok : EntOK CK 12 (fun {_} => instr_Reads.e) := entA_ok (argI_ok fun x0 => endU_ok fun r h => instr_Reads.c x0 r h)

/-- becket becketref10.Bytes -/
noncomputable def ref10_Bytes.sp : Spec := noS
def ref10_Bytes.s {Ω : Type} (x0 : T_s22) (k : (List Int) → Option Ω) : Option Ω :=
  k [(IntKind.wrap .i64 x0.1), (IntKind.wrap .i64 x0.2.1), (IntKind.wrap .i64 x0.2.2.1), (IntKind.wrap .i64 x0.2.2.2.1)]
theorem ref10_Bytes.ev {Ω : Type} (fuel : Fuel) (x0 : T_s22) (k : AV → Option Ω) : evFn C ref10_Bytes.sp fuel Tryd.f102 (Tryd.f102.body.getD .skip) [(.v E_s22 (x0))] k = ref10_Bytes.s x0 (fun r => k (tupAV (.slice (.int .i64)) [] r)) := by kernel_rfl
def ref10_Bytes.t (x0 : T_s22) : (List Int) :=
  [(IntKind.wrap .i64 x0.1), (IntKind.wrap .i64 x0.2.1), (IntKind.wrap .i64 x0.2.2.1), (IntKind.wrap .i64 x0.2.2.2.1)]
theorem ref10_Bytes.v {Ω : Type} (x0 : T_s22) (k : (List Int) → Option Ω) : ref10_Bytes.s x0 k = k (ref10_Bytes.t x0) := by
  delta ref10_Bytes.s ref10_Bytes.t; exact rfl
theorem ref10_Bytes.c (x0 : T_s22) : Contract C 102 [(.v E_s22 (x0))] (tupAV (.slice (.int .i64)) [] (ref10_Bytes.t x0)) :=
  contract_s (S := fun k => ref10_Bytes.s x0 k) C_ok noS_ok (by kernel_rfl) (by kernel_rfl) (by kernel_rfl) (ref10_Bytes.ev ⟨1, fun _ => []⟩ x0 (dec (.slice (.int .i64)) [])) (ref10_Bytes.v x0 some)
noncomputable def ref10_Bytes.e : Ent := argI E_s22 fun x0 => endT (tupAV (.slice (.int .i64)) [] (ref10_Bytes.t x0))
theorem ref10_Bytes.e_ok : EntOK C 102 (fun {_} => ref10_Bytes.e) := entA_ok (argI_ok fun x0 => endT_ok (ref10_Bytes.c x0))

/-- becket becketref10.ends -/
noncomputable def ref10_ends.sp : Spec := noS
def ref10_ends.s {Ω : Type} (x0 : Int) (k : Int × Int → Option Ω) : Option Ω :=
  bif (x0 == 114) then
    k (0, 7)
  else
    bif (x0 == 116) then
      k (0, 64)
    else
      bif (x0 == 99) then
        k (0, 7)
      else
        bif (x0 == 98) then
          k (0, 7)
        else
          bif (x0 == 112) then
            k (0, 7)
          else
            bif (x0 == 107) then
              k (0, 3)
            else
              bif (x0 == 109) then
                k (0, 2)
              else
                bif (x0 == 110) then
                  k (1, 6)
                else
                  bif (x0 == 103) then
                    k (0, 8)
                  else
                    bif (x0 == 115) then
                      k (1, 255)
                    else
                      k (0, 255)
theorem ref10_ends.ev {Ω : Type} (fuel : Fuel) (x0 : Int) (k : AV → Option Ω) : evFn C ref10_ends.sp fuel Tryd.f103 (Tryd.f103.body.getD .skip) [(.v (.int .u8) (x0))] k = ref10_ends.s x0 (fun r => k (tupAV (.int .i64) [(.int .i64)] r)) := by kernel_rfl
def ref10_ends.t (x0 : Int) : Int × Int :=
  bif (x0 == 114) then
    (0, 7)
  else
    bif (x0 == 116) then
      (0, 64)
    else
      bif (x0 == 99) then
        (0, 7)
      else
        bif (x0 == 98) then
          (0, 7)
        else
          bif (x0 == 112) then
            (0, 7)
          else
            bif (x0 == 107) then
              (0, 3)
            else
              bif (x0 == 109) then
                (0, 2)
              else
                bif (x0 == 110) then
                  (1, 6)
                else
                  bif (x0 == 103) then
                    (0, 8)
                  else
                    bif (x0 == 115) then
                      (1, 255)
                    else
                      (0, 255)
theorem ref10_ends.v {Ω : Type} (x0 : Int) (k : Int × Int → Option Ω) : ref10_ends.s x0 k = k (ref10_ends.t x0) := by
  delta ref10_ends.s ref10_ends.t; exact (cond_tot rfl (cond_tot rfl (cond_tot rfl (cond_tot rfl (cond_tot rfl (cond_tot rfl (cond_tot rfl (cond_tot rfl (cond_tot rfl (cond_tot rfl rfl))))))))))
theorem ref10_ends.c (x0 : Int) : Contract C 103 [(.v (.int .u8) (x0))] (tupAV (.int .i64) [(.int .i64)] (ref10_ends.t x0)) :=
  contract_s (S := fun k => ref10_ends.s x0 k) C_ok noS_ok (by kernel_rfl) (by kernel_rfl) (by kernel_rfl) (ref10_ends.ev ⟨1, fun _ => []⟩ x0 (dec (.int .i64) [(.int .i64)])) (ref10_ends.v x0 some)
noncomputable def ref10_ends.e : Ent := argI (.int .u8) fun x0 => endT (tupAV (.int .i64) [(.int .i64)] (ref10_ends.t x0))
theorem ref10_ends.e_ok : EntOK C 103 (fun {_} => ref10_ends.e) := entA_ok (argI_ok fun x0 => endT_ok (ref10_ends.c x0))

/-- becket becketref10.Check -/
noncomputable def ref10_Check.sp : Spec := (orS 103 (fun {_} => ref10_ends.e) (orS 102 (fun {_} => ref10_Bytes.e) (orS 55 (fun {_} => ref09_Of.e) noS)))
def ref10_Check.F (fuel : Nat) : Fuel := ⟨fuel, fun r => bif r == 6 then [0, 1, 2, 6, 7, 8, 9, 10, 11, 12, 13, 14, 15, 16, 17, 18, 19, 20, 21, 22, 23, 24, 25, 26, 27, 28, 29, 30, 31, 32, 33, 34, 35, 36, 37, 38, 39, 40, 41, 42, 43, 44, 45, 46, 47, 48, 49, 50, 51, 52, 53, 54, 55] else []⟩
def ref10_Check.E0 (e6_1 : (List Int)) (e6_2 : T_s22) (e6_3 : T_s91) (s6 : Int) : List AV := [.dead, .dead, .dead, (.v (.slice (.int .i64)) (e6_1)), (.ref 1 []), (.v (.int .i64) (s6)), .dead, .dead, .dead, .dead, .dead, .dead, .dead, .dead, .dead, .dead, .dead, .dead, .dead, .dead, .dead, .dead, .dead, .dead, .dead, .dead, .dead, .dead, .dead, .dead, .dead, .dead, .dead, .dead, .dead, .dead, .dead, .dead, .dead, .dead, .dead, .dead, .dead, .dead, .dead, .dead, .dead, .dead, .dead, .dead, .dead, .dead, .dead, .dead, .dead, .dead]
def ref10_Check.H0 (e6_1 : (List Int)) (e6_2 : T_s22) (e6_3 : T_s91) (s6 : Int) : Heap := [(.box E_s22 e6_2 false), (.box E_s91 e6_3 false)]
noncomputable def ref10_Check.M0 {Ω : Type} (fuel : Nat) (e6_1 : (List Int)) (e6_2 : T_s22) (e6_3 : T_s91)  (k : AV → Option Ω) (m : Nat) (s : Int) : Option Ω := loopK (fun env L k => evCode C ref10_Check.sp (ref10_Check.F fuel) (cl (cl (cr (cl (cr (cr (cr (cr (Tryd.f54.body.getD .skip))))))))) env L k) [true, true, true, false, false, false, true, true, true, true, true, true, true, true, true, true, true, true, true, true, true, true, true, true, true, true, true, true, true, true, true, true, true, true, true, true, true, true, true, true, true, true, true, true, true, true, true, true, true, true, true, true, true, true, true, true] 2 (blockK 0 (seqK (fun env L => evCode C ref10_Check.sp (ref10_Check.F fuel) (cr (cr (cr (cr (cr (Tryd.f54.body.getD .skip)))))) env L (finK C Tryd.f54 k)) (finK C Tryd.f54 k))) m ((ref10_Check.E0 e6_1 e6_2 e6_3) s) ((ref10_Check.H0 e6_1 e6_2 e6_3) s)
def ref10_Check.b0 {Ω : Type} (e6_1 : (List Int)) (e6_2 : T_s22) (e6_3 : T_s91)   (k : Int → Option Ω) (r6 : Int → Option Ω) (s6 : Int) : Option Ω :=
  bif (decide (s6 < 3)) then
    bif (idxOK s6 (e6_3.2.1).size) then
      bif ((bAt e6_3.2.1 (Int.toNat s6)) == 45) then
        bif (idxOK (IntKind.wrap .i64 (s6 + 1)) (List.length e6_1)) then
          bif ((List.getD e6_1 (Int.toNat (IntKind.wrap .i64 (s6 + 1))) 0) != 0) then
            k 3
          else
            r6 ((IntKind.wrap .i64 (s6 + 1)))
        else
          none
      else
        bif (idxOK s6 (e6_3.2.1).size) then
          let v2 : Int × Int := (ref10_ends.t ((bAt e6_3.2.1 (Int.toNat s6))))
          bif (idxOK (IntKind.wrap .i64 (s6 + 1)) (List.length e6_1)) then
            bif (decide ((List.getD e6_1 (Int.toNat (IntKind.wrap .i64 (s6 + 1))) 0) < v2.1)) then
              k 8
            else
              bif (idxOK (IntKind.wrap .i64 (s6 + 1)) (List.length e6_1)) then
                bif (decide ((List.getD e6_1 (Int.toNat (IntKind.wrap .i64 (s6 + 1))) 0) > v2.2)) then
                  k 8
                else
                  r6 ((IntKind.wrap .i64 (s6 + 1)))
              else
                none
          else
            none
        else
          none
    else
      none
  else
    k 0
def ref10_Check.B0 {Ω : Type} (fuel : Nat) (e6_1 : (List Int)) (e6_2 : T_s22) (e6_3 : T_s91)  (k : Int → Option Ω) (r6 : Int → Option Ω) (s6 : Int) : Option Ω := ref10_Check.b0 e6_1 e6_2 e6_3   k r6 s6
theorem ref10_Check.l0 {Ω : Type} (fuel : Nat) (e6_1 : (List Int)) (e6_2 : T_s22) (e6_3 : T_s91)  (k : AV → Option Ω) : ∀ m, (ref10_Check.M0 fuel e6_1 e6_2 e6_3  k m) = iter (ref10_Check.B0 fuel e6_1 e6_2 e6_3  (fun r => k (tupAV (.int .i64) [] r))) m :=
  loopK_iter (envOf := (ref10_Check.E0 e6_1 e6_2 e6_3)) (LOf := (ref10_Check.H0 e6_1 e6_2 e6_3)) (B := ref10_Check.B0 fuel e6_1 e6_2 e6_3  (fun r => k (tupAV (.int .i64) [] r))) (fun R s => by kernel_rfl)
def ref10_Check.sl {Ω : Type} (x0 : T_s22) (lp0 : (List Int) → T_s22 → T_s91 → Int → Option Ω) (k : Int → Option Ω) : Option Ω :=
  bif (idxOK 0 (List.length (ref10_Bytes.t x0))) then
    (ref09_Of.u ((List.getD (ref10_Bytes.t x0) 0 0))).bind fun y1 =>
    bif (decide (y1.2.2.1 < 0)) then
      k 18
    else
      lp0 (ref10_Bytes.t x0) x0 y1 (0)
  else
    none
def ref10_Check.s {Ω : Type} (fuel : Nat) (x0 : T_s22) (k : Int → Option Ω) : Option Ω := ref10_Check.sl x0 (fun e6_1 e6_2 e6_3 => (iter (ref10_Check.B0 fuel e6_1 e6_2 e6_3  k) fuel)) k
theorem ref10_Check.ev {Ω : Type} (fuel : Nat) (x0 : T_s22) (k : AV → Option Ω) : evFn C ref10_Check.sp (ref10_Check.F fuel) Tryd.f54 (Tryd.f54.body.getD .skip) [(.v E_s22 (x0))] k = ref10_Check.s fuel x0 (fun r => k (tupAV (.int .i64) [] r)) := by
  have h0 : evFn C ref10_Check.sp (ref10_Check.F fuel) Tryd.f54 (Tryd.f54.body.getD .skip) [(.v E_s22 (x0))] k = ref10_Check.sl x0 (fun e6_1 e6_2 e6_3 => (ref10_Check.M0 fuel e6_1 e6_2 e6_3  k fuel)) (fun r => k (tupAV (.int .i64) [] r)) := by kernel_rfl
  have h1 : (fun e6_1 e6_2 e6_3 => (ref10_Check.M0 fuel e6_1 e6_2 e6_3  k fuel)) = (fun e6_1 e6_2 e6_3 => (iter (ref10_Check.B0 fuel e6_1 e6_2 e6_3  (fun r => k (tupAV (.int .i64) [] r))) fuel)) := funext fun e6_1 => funext fun e6_2 => funext fun e6_3 => ref10_Check.l0 fuel e6_1 e6_2 e6_3   k fuel
  rw [h1] at h0
  exact h0
def ref10_Check.g0 {Ω : Type} (e6_1 : (List Int)) (e6_2 : T_s22) (e6_3 : T_s91)  (k : Int → Option Ω) : Nat → Int → Option Ω
  | 0, i6 =>
    k 0
  | d6 + 1, i6 =>
    bif (idxOK i6 (e6_3.2.1).size) then
      bif ((bAt e6_3.2.1 (Int.toNat i6)) == 45) then
        bif (idxOK (IntKind.wrap .i64 (i6 + 1)) (List.length e6_1)) then
          bif ((List.getD e6_1 (Int.toNat (IntKind.wrap .i64 (i6 + 1))) 0) != 0) then
            k 3
          else
            ref10_Check.g0 e6_1 e6_2 e6_3  k d6 (i6 + 1)
        else
          none
      else
        bif (idxOK i6 (e6_3.2.1).size) then
          let v2 : Int × Int := (ref10_ends.t ((bAt e6_3.2.1 (Int.toNat i6))))
          bif (idxOK (IntKind.wrap .i64 (i6 + 1)) (List.length e6_1)) then
            bif (decide ((List.getD e6_1 (Int.toNat (IntKind.wrap .i64 (i6 + 1))) 0) < v2.1)) then
              k 8
            else
              bif (idxOK (IntKind.wrap .i64 (i6 + 1)) (List.length e6_1)) then
                bif (decide ((List.getD e6_1 (Int.toNat (IntKind.wrap .i64 (i6 + 1))) 0) > v2.2)) then
                  k 8
                else
                  ref10_Check.g0 e6_1 e6_2 e6_3  k d6 (i6 + 1)
              else
                none
          else
            none
        else
          none
    else
      none
theorem ref10_Check.h0 {Ω : Type} (e6_1 : (List Int)) (e6_2 : T_s22) (e6_3 : T_s91)   (k : Int → Option Ω) (hN : (3 : Int) ≤ 9223372036854775807) : ∀ (m : Nat) (i : Int) (a : Unit), -9223372036854775808 ≤ i → Int.toNat ((3 : Int) - i) < m → Le (ref10_Check.g0 e6_1 e6_2 e6_3  k (Int.toNat ((3 : Int) - i)) i) (iter (ref10_Check.B0 BIG e6_1 e6_2 e6_3  k) m (i)) :=
  iter_count (3 : Int) (fun i6 => (decide (i6 < 3))) (fun i => rfl) (fun (i6 : Int) (a6 : Unit) => (i6)) (fun xs i6 a6 => ref10_Check.g0 e6_1 e6_2 e6_3  k xs i6) (ref10_Check.B0 BIG e6_1 e6_2 e6_3  k)
    (fun i6 a6 r h0 => (Le.fls h0 (Le.refl _)))
    (fun i6 d6 a6 r h0 hw ih => (Le.tru h0 (Le.cond (Le.cond (Le.cond (Le.cond (Le.refl _) (ih _ hw ())) Le.nil) (Le.cond (let v2 : Int × Int := (ref10_ends.t ((bAt e6_3.2.1 (Int.toNat i6)))); (Le.cond (Le.cond (Le.refl _) (Le.cond (Le.cond (Le.refl _) (ih _ hw ())) Le.nil)) Le.nil)) Le.nil)) Le.nil)))
    hN
def ref10_Check.w {Ω : Type} (x0 : T_s22) (k : Int → Option Ω) : Option Ω :=
  bif (idxOK 0 (List.length (ref10_Bytes.t x0))) then
    (ref09_Of.u ((List.getD (ref10_Bytes.t x0) 0 0))).bind fun y1 =>
    bif (decide (y1.2.2.1 < 0)) then
      k 18
    else
      ref10_Check.g0 (ref10_Bytes.t x0) x0 y1  k ((Int.toNat ((3 : Int) - 0))) 0
  else
    none
theorem ref10_Check.le {Ω : Type} (x0 : T_s22) (k : Int → Option Ω) : Le (ref10_Check.w x0 k) (ref10_Check.s BIG x0 k) := by
  delta ref10_Check.w ref10_Check.s ref10_Check.sl
  exact (Le.cond (Le.bnd fun y1 => (Le.cond (Le.refl _) (ref10_Check.h0 _ _ _   k (by decide) BIG 0 () (by decide) (by decide)))) Le.nil)
def ref10_Check.u (x0 : T_s22) : Option (Int) := ref10_Check.w x0 some
theorem ref10_Check.c (x0 : T_s22) (r : Int) (h : ref10_Check.u x0 = some r) : Contract C 54 [(.v E_s22 (x0))] (tupAV (.int .i64) [] r) :=
  contract_s (S := fun k => ref10_Check.s BIG x0 k) C_ok (orS_ok ref10_ends.e_ok (orS_ok ref10_Bytes.e_ok (orS_ok ref09_Of.e_ok noS_ok))) (by kernel_rfl) (by kernel_rfl) (by kernel_rfl) (ref10_Check.ev BIG x0 (dec (.int .i64) [])) (ref10_Check.le x0 some r h)
noncomputable def ref10_Check.e : Ent := argI E_s22 fun x0 => endU (ref10_Check.u x0) (tupAV (.int .i64) [])
theorem ref10_Check.e_ok : EntOK C 54 (fun {_} => ref10_Check.e) := entA_ok (argI_ok fun x0 => endU_ok fun r h => ref10_Check.c x0 r h)

/-- becket becketref10.in -/
noncomputable def ref10_in.sp : Spec := noS
def ref10_in.F (fuel : Nat) : Fuel := ⟨fuel, fun r => bif r == 2 then [2, 3, 4, 6, 7, 8, 9, 10, 11, 12, 13, 14, 15, 16, 17] else []⟩
def ref10_in.E0 (e2_1 : ByteArray) (e2_2 : (List ByteArray)) (s2 : Int) : List AV := [(.v .str (e2_1)), (.v (.slice .str) (e2_2)), .dead, .dead, .dead, (.v (.int .i64) (s2)), .dead, .dead, .dead, .dead, .dead, .dead, .dead, .dead, .dead, .dead, .dead, .dead]
def ref10_in.H0 (e2_1 : ByteArray) (e2_2 : (List ByteArray)) (s2 : Int) : Heap := []
noncomputable def ref10_in.M0 {Ω : Type} (fuel : Nat) (e2_1 : ByteArray) (e2_2 : (List ByteArray))  (k : AV → Option Ω) (m : Nat) (s : Int) : Option Ω := loopK (fun env L k => evCode C ref10_in.sp (ref10_in.F fuel) (cl (cl (cr (cl (cr (Tryd.f56.body.getD .skip)))))) env L k) [false, false, true, true, true, false, true, true, true, true, true, true, true, true, true, true, true, true] 0 (blockK 0 (seqK (fun env L => evCode C ref10_in.sp (ref10_in.F fuel) (cr (cr (Tryd.f56.body.getD .skip))) env L (finK C Tryd.f56 k)) (finK C Tryd.f56 k))) m ((ref10_in.E0 e2_1 e2_2) s) ((ref10_in.H0 e2_1 e2_2) s)
def ref10_in.b0 {Ω : Type} (e2_1 : ByteArray) (e2_2 : (List ByteArray))   (k : Bool → Option Ω) (r2 : Int → Option Ω) (s2 : Int) : Option Ω :=
  bif (decide (s2 < ((List.length e2_2 : Nat) : Int))) then
    bif (idxOK s2 (List.length e2_2)) then
      bif (((List.getD e2_2 (Int.toNat s2) (bs []))).data.toList == (e2_1).data.toList) then
        k true
      else
        r2 ((IntKind.wrap .i64 (s2 + 1)))
    else
      none
  else
    k false
def ref10_in.B0 {Ω : Type} (fuel : Nat) (e2_1 : ByteArray) (e2_2 : (List ByteArray))  (k : Bool → Option Ω) (r2 : Int → Option Ω) (s2 : Int) : Option Ω := ref10_in.b0 e2_1 e2_2   k r2 s2
theorem ref10_in.l0 {Ω : Type} (fuel : Nat) (e2_1 : ByteArray) (e2_2 : (List ByteArray))  (k : AV → Option Ω) : ∀ m, (ref10_in.M0 fuel e2_1 e2_2  k m) = iter (ref10_in.B0 fuel e2_1 e2_2  (fun r => k (tupAV .bool [] r))) m :=
  loopK_iter (envOf := (ref10_in.E0 e2_1 e2_2)) (LOf := (ref10_in.H0 e2_1 e2_2)) (B := ref10_in.B0 fuel e2_1 e2_2  (fun r => k (tupAV .bool [] r))) (fun R s => by kernel_rfl)
def ref10_in.sl {Ω : Type} (x0 : ByteArray) (x1 : (List ByteArray)) (lp0 : ByteArray → (List ByteArray) → Int → Option Ω) (k : Bool → Option Ω) : Option Ω :=
  lp0 x0 x1 (0)
def ref10_in.s {Ω : Type} (fuel : Nat) (x0 : ByteArray) (x1 : (List ByteArray)) (k : Bool → Option Ω) : Option Ω := ref10_in.sl x0 x1 (fun e2_1 e2_2 => (iter (ref10_in.B0 fuel e2_1 e2_2  k) fuel)) k
theorem ref10_in.ev {Ω : Type} (fuel : Nat) (x0 : ByteArray) (x1 : (List ByteArray)) (k : AV → Option Ω) : evFn C ref10_in.sp (ref10_in.F fuel) Tryd.f56 (Tryd.f56.body.getD .skip) [(.v .str (x0)), (.v (.slice .str) (x1))] k = ref10_in.s fuel x0 x1 (fun r => k (tupAV .bool [] r)) := by
  have h0 : evFn C ref10_in.sp (ref10_in.F fuel) Tryd.f56 (Tryd.f56.body.getD .skip) [(.v .str (x0)), (.v (.slice .str) (x1))] k = ref10_in.sl x0 x1 (fun e2_1 e2_2 => (ref10_in.M0 fuel e2_1 e2_2  k fuel)) (fun r => k (tupAV .bool [] r)) := by kernel_rfl
  have h1 : (fun e2_1 e2_2 => (ref10_in.M0 fuel e2_1 e2_2  k fuel)) = (fun e2_1 e2_2 => (iter (ref10_in.B0 fuel e2_1 e2_2  (fun r => k (tupAV .bool [] r))) fuel)) := funext fun e2_1 => funext fun e2_2 => ref10_in.l0 fuel e2_1 e2_2   k fuel
  rw [h1] at h0
  exact h0
def ref10_in.g0 {Ω : Type} (e2_1 : ByteArray) (e2_2 : (List ByteArray))  (k : Bool → Option Ω) : List ByteArray → Option Ω
  | [] =>
    k false
  | x2 :: xs2 =>
    bif ((x2).data.toList == (e2_1).data.toList) then
      k true
    else
      ref10_in.g0 e2_1 e2_2  k xs2
theorem ref10_in.h0 {Ω : Type} (e2_1 : ByteArray) (e2_2 : (List ByteArray))   (k : Bool → Option Ω) (hX : ((List.length e2_2 : Nat) : Int) ≤ 9223372036854775807) : ∀ (m : Nat) (i : Int) (a : Unit), 0 ≤ i → i ≤ ((List.length e2_2 : Nat) : Int) → ((List.length e2_2 : Nat) : Int) < m + i → Le (ref10_in.g0 e2_1 e2_2  k (List.drop (Int.toNat i) e2_2) ) (iter (ref10_in.B0 BIG e2_1 e2_2  k) m (i)) :=
  iter_list e2_2 (bs []) (fun (i2 : Int) (a2 : Unit) => (i2)) (fun xs i2 a2 => ref10_in.g0 e2_1 e2_2  k xs ) (ref10_in.B0 BIG e2_1 e2_2  k)
    (fun i2 a2 r h0 => (Le.fls h0 (Le.refl _)))
    (fun i2 xs2 a2 r h0 h1 hw ih => (Le.tru h0 (Le.tru h1 (Le.cond (Le.refl _) (ih _ hw ())))))
    hX
def ref10_in.w {Ω : Type} (x0 : ByteArray) (x1 : (List ByteArray)) (k : Bool → Option Ω) : Option Ω :=
  bif decide (((List.length x1 : Nat) : Int) ≤ 4611686018427387904) then ref10_in.g0 x0 x1  k x1  else none
theorem ref10_in.le {Ω : Type} (x0 : ByteArray) (x1 : (List ByteArray)) (k : Bool → Option Ω) : Le (ref10_in.w x0 x1 k) (ref10_in.s BIG x0 x1 k) := by
  delta ref10_in.w ref10_in.s ref10_in.sl
  exact (Le.gd fun hg => ref10_in.h0 _ _   k (le_up (of_decide_eq_true hg)) BIG 0 () (by decide) (zero_le_len _) (big_list (of_decide_eq_true hg)))
def ref10_in.u (x0 : ByteArray) (x1 : (List ByteArray)) : Option (Bool) := ref10_in.w x0 x1 some
theorem ref10_in.c (x0 : ByteArray) (x1 : (List ByteArray)) (r : Bool) (h : ref10_in.u x0 x1 = some r) : Contract C 56 [(.v .str (x0)), (.v (.slice .str) (x1))] (tupAV .bool [] r) :=
  contract_s (S := fun k => ref10_in.s BIG x0 x1 k) C_ok noS_ok (by kernel_rfl) (by kernel_rfl) (by kernel_rfl) (ref10_in.ev BIG x0 x1 (dec .bool [])) (ref10_in.le x0 x1 some r h)
noncomputable def ref10_in.e : Ent := argI .str fun x0 => argI (.slice .str) fun x1 => endU (ref10_in.u x0 x1) (tupAV .bool [])
theorem ref10_in.e_ok : EntOK C 56 (fun {_} => ref10_in.e) := entA_ok (argI_ok fun x0 => argI_ok fun x1 => endU_ok fun r h => ref10_in.c x0 x1 r h)

/-- becket becketref10.some -/
noncomputable def ref10_some.sp : Spec := noS
def ref10_some.F (fuel : Nat) : Fuel := ⟨fuel, fun r => bif r == 3 then [0, 5, 6, 7, 8, 11, 12, 13, 14, 15, 16, 17, 18, 19, 20, 21, 22, 23, 24, 25, 26, 27, 28, 29, 30, 31, 32, 33, 34, 35, 36, 37, 38, 39, 40, 41, 42, 43, 44, 45, 46, 47] else []⟩
def ref10_some.E0 (e3_1 : Bool) (e3_2 : Bool) (e3_3 : Bool) (e3_4 : T_s22) (s3 : Int × (List Int)) : List AV := [.dead, (.v .bool (e3_1)), (.v .bool (e3_2)), (.v .bool (e3_3)), (.ref 0 []), .dead, .dead, .dead, .dead, (.rs 2), (.v (.int .i64) (s3.1)), .dead, .dead, .dead, .dead, .dead, .dead, .dead, .dead, .dead, .dead, .dead, .dead, .dead, .dead, .dead, .dead, .dead, .dead, .dead, .dead, .dead, .dead, .dead, .dead, .dead, .dead, .dead, .dead, .dead, .dead, .dead, .dead, .dead, .dead, .dead, .dead, .dead]
def ref10_some.H0 (e3_1 : Bool) (e3_2 : Bool) (e3_3 : Bool) (e3_4 : T_s22) (s3 : Int × (List Int)) : Heap := [(.box E_s22 e3_4 false), (.row 3 (.int .i64) [] false), (.row 3 (.int .i64) s3.2 false)]
noncomputable def ref10_some.M0 {Ω : Type} (fuel : Nat) (e3_1 : Bool) (e3_2 : Bool) (e3_3 : Bool) (e3_4 : T_s22)  (k : AV → Option Ω) (m : Nat) (s : Int × (List Int)) : Option Ω := loopK (fun env L k => evCode C ref10_some.sp (ref10_some.F fuel) (cl (cl (cr (cl (cr (cr (Tryd.f57.body.getD .skip))))))) env L k) [true, false, false, false, false, true, true, true, true, false, false, true, true, true, true, true, true, true, true, true, true, true, true, true, true, true, true, true, true, true, true, true, true, true, true, true, true, true, true, true, true, true, true, true, true, true, true, true] 3 (blockK 0 (seqK (fun env L => evCode C ref10_some.sp (ref10_some.F fuel) (cr (cr (cr (Tryd.f57.body.getD .skip)))) env L (finK C Tryd.f57 k)) (finK C Tryd.f57 k))) m ((ref10_some.E0 e3_1 e3_2 e3_3 e3_4) s) ((ref10_some.H0 e3_1 e3_2 e3_3 e3_4) s)
def ref10_some.b0 {Ω : Type} (e3_1 : Bool) (e3_2 : Bool) (e3_3 : Bool) (e3_4 : T_s22)   (k : (List Int) → Option Ω) (r3 : Int × (List Int) → Option Ω) (s3 : Int × (List Int)) : Option Ω :=
  bif (decide (s3.1 < 8)) then
    bif e3_1 then
      bif ((IntKind.wrap .i64 e3_4.2.1) == s3.1) then
        bif (decide (List.length s3.2 + List.length [s3.1] ≤ rowMax)) then
          r3 ((IntKind.wrap .i64 (s3.1 + 1)), (s3.2 ++ [s3.1]))
        else
          none
      else
        bif e3_2 then
          bif ((IntKind.wrap .i64 e3_4.2.2.1) == s3.1) then
            bif (decide (List.length s3.2 + List.length [s3.1] ≤ rowMax)) then
              r3 ((IntKind.wrap .i64 (s3.1 + 1)), (s3.2 ++ [s3.1]))
            else
              none
          else
            bif e3_3 then
              bif ((IntKind.wrap .i64 e3_4.2.2.2.1) == s3.1) then
                bif (decide (List.length s3.2 + List.length [s3.1] ≤ rowMax)) then
                  r3 ((IntKind.wrap .i64 (s3.1 + 1)), (s3.2 ++ [s3.1]))
                else
                  none
              else
                r3 ((IntKind.wrap .i64 (s3.1 + 1)), s3.2)
            else
              r3 ((IntKind.wrap .i64 (s3.1 + 1)), s3.2)
        else
          bif e3_3 then
            bif ((IntKind.wrap .i64 e3_4.2.2.2.1) == s3.1) then
              bif (decide (List.length s3.2 + List.length [s3.1] ≤ rowMax)) then
                r3 ((IntKind.wrap .i64 (s3.1 + 1)), (s3.2 ++ [s3.1]))
              else
                none
            else
              r3 ((IntKind.wrap .i64 (s3.1 + 1)), s3.2)
          else
            r3 ((IntKind.wrap .i64 (s3.1 + 1)), s3.2)
    else
      bif e3_2 then
        bif ((IntKind.wrap .i64 e3_4.2.2.1) == s3.1) then
          bif (decide (List.length s3.2 + List.length [s3.1] ≤ rowMax)) then
            r3 ((IntKind.wrap .i64 (s3.1 + 1)), (s3.2 ++ [s3.1]))
          else
            none
        else
          bif e3_3 then
            bif ((IntKind.wrap .i64 e3_4.2.2.2.1) == s3.1) then
              bif (decide (List.length s3.2 + List.length [s3.1] ≤ rowMax)) then
                r3 ((IntKind.wrap .i64 (s3.1 + 1)), (s3.2 ++ [s3.1]))
              else
                none
            else
              r3 ((IntKind.wrap .i64 (s3.1 + 1)), s3.2)
          else
            r3 ((IntKind.wrap .i64 (s3.1 + 1)), s3.2)
      else
        bif e3_3 then
          bif ((IntKind.wrap .i64 e3_4.2.2.2.1) == s3.1) then
            bif (decide (List.length s3.2 + List.length [s3.1] ≤ rowMax)) then
              r3 ((IntKind.wrap .i64 (s3.1 + 1)), (s3.2 ++ [s3.1]))
            else
              none
          else
            r3 ((IntKind.wrap .i64 (s3.1 + 1)), s3.2)
        else
          r3 ((IntKind.wrap .i64 (s3.1 + 1)), s3.2)
  else
    k s3.2
def ref10_some.B0 {Ω : Type} (fuel : Nat) (e3_1 : Bool) (e3_2 : Bool) (e3_3 : Bool) (e3_4 : T_s22)  (k : (List Int) → Option Ω) (r3 : Int × (List Int) → Option Ω) (s3 : Int × (List Int)) : Option Ω := ref10_some.b0 e3_1 e3_2 e3_3 e3_4   k r3 s3
theorem ref10_some.l0 {Ω : Type} (fuel : Nat) (e3_1 : Bool) (e3_2 : Bool) (e3_3 : Bool) (e3_4 : T_s22)  (k : AV → Option Ω) : ∀ m, (ref10_some.M0 fuel e3_1 e3_2 e3_3 e3_4  k m) = iter (ref10_some.B0 fuel e3_1 e3_2 e3_3 e3_4  (fun r => k (tupAV (.slice (.int .i64)) [] r))) m :=
  loopK_iter (envOf := (ref10_some.E0 e3_1 e3_2 e3_3 e3_4)) (LOf := (ref10_some.H0 e3_1 e3_2 e3_3 e3_4)) (B := ref10_some.B0 fuel e3_1 e3_2 e3_3 e3_4  (fun r => k (tupAV (.slice (.int .i64)) [] r))) (fun R s => by kernel_rfl)
def ref10_some.sl {Ω : Type} (x0 : T_s22) (x1 : Bool) (x2 : Bool) (x3 : Bool) (lp0 : Bool → Bool → Bool → T_s22 → Int × (List Int) → Option Ω) (k : (List Int) → Option Ω) : Option Ω :=
  lp0 x1 x2 x3 x0 (0, [])
def ref10_some.s {Ω : Type} (fuel : Nat) (x0 : T_s22) (x1 : Bool) (x2 : Bool) (x3 : Bool) (k : (List Int) → Option Ω) : Option Ω := ref10_some.sl x0 x1 x2 x3 (fun e3_1 e3_2 e3_3 e3_4 => (iter (ref10_some.B0 fuel e3_1 e3_2 e3_3 e3_4  k) fuel)) k
theorem ref10_some.ev {Ω : Type} (fuel : Nat) (x0 : T_s22) (x1 : Bool) (x2 : Bool) (x3 : Bool) (k : AV → Option Ω) : evFn C ref10_some.sp (ref10_some.F fuel) Tryd.f57 (Tryd.f57.body.getD .skip) [(.v E_s22 (x0)), (.v .bool (x1)), (.v .bool (x2)), (.v .bool (x3))] k = ref10_some.s fuel x0 x1 x2 x3 (fun r => k (tupAV (.slice (.int .i64)) [] r)) := by
  have h0 : evFn C ref10_some.sp (ref10_some.F fuel) Tryd.f57 (Tryd.f57.body.getD .skip) [(.v E_s22 (x0)), (.v .bool (x1)), (.v .bool (x2)), (.v .bool (x3))] k = ref10_some.sl x0 x1 x2 x3 (fun e3_1 e3_2 e3_3 e3_4 => (ref10_some.M0 fuel e3_1 e3_2 e3_3 e3_4  k fuel)) (fun r => k (tupAV (.slice (.int .i64)) [] r)) := by kernel_rfl
  have h1 : (fun e3_1 e3_2 e3_3 e3_4 => (ref10_some.M0 fuel e3_1 e3_2 e3_3 e3_4  k fuel)) = (fun e3_1 e3_2 e3_3 e3_4 => (iter (ref10_some.B0 fuel e3_1 e3_2 e3_3 e3_4  (fun r => k (tupAV (.slice (.int .i64)) [] r))) fuel)) := funext fun e3_1 => funext fun e3_2 => funext fun e3_3 => funext fun e3_4 => ref10_some.l0 fuel e3_1 e3_2 e3_3 e3_4   k fuel
  rw [h1] at h0
  exact h0
def ref10_some.g0 {Ω : Type} (e3_1 : Bool) (e3_2 : Bool) (e3_3 : Bool) (e3_4 : T_s22)  (k : (List Int) → Option Ω) : Nat → Int → (List Int) → Option Ω
  | 0, i3, a3_1 =>
    k a3_1
  | d3 + 1, i3, a3_1 =>
    bif e3_1 then
      bif ((IntKind.wrap .i64 e3_4.2.1) == i3) then
        bif (decide (List.length a3_1 + List.length [i3] ≤ rowMax)) then
          ref10_some.g0 e3_1 e3_2 e3_3 e3_4  k d3 (i3 + 1) (a3_1 ++ [i3])
        else
          none
      else
        bif e3_2 then
          bif ((IntKind.wrap .i64 e3_4.2.2.1) == i3) then
            bif (decide (List.length a3_1 + List.length [i3] ≤ rowMax)) then
              ref10_some.g0 e3_1 e3_2 e3_3 e3_4  k d3 (i3 + 1) (a3_1 ++ [i3])
            else
              none
          else
            bif e3_3 then
              bif ((IntKind.wrap .i64 e3_4.2.2.2.1) == i3) then
                bif (decide (List.length a3_1 + List.length [i3] ≤ rowMax)) then
                  ref10_some.g0 e3_1 e3_2 e3_3 e3_4  k d3 (i3 + 1) (a3_1 ++ [i3])
                else
                  none
              else
                ref10_some.g0 e3_1 e3_2 e3_3 e3_4  k d3 (i3 + 1) a3_1
            else
              ref10_some.g0 e3_1 e3_2 e3_3 e3_4  k d3 (i3 + 1) a3_1
        else
          bif e3_3 then
            bif ((IntKind.wrap .i64 e3_4.2.2.2.1) == i3) then
              bif (decide (List.length a3_1 + List.length [i3] ≤ rowMax)) then
                ref10_some.g0 e3_1 e3_2 e3_3 e3_4  k d3 (i3 + 1) (a3_1 ++ [i3])
              else
                none
            else
              ref10_some.g0 e3_1 e3_2 e3_3 e3_4  k d3 (i3 + 1) a3_1
          else
            ref10_some.g0 e3_1 e3_2 e3_3 e3_4  k d3 (i3 + 1) a3_1
    else
      bif e3_2 then
        bif ((IntKind.wrap .i64 e3_4.2.2.1) == i3) then
          bif (decide (List.length a3_1 + List.length [i3] ≤ rowMax)) then
            ref10_some.g0 e3_1 e3_2 e3_3 e3_4  k d3 (i3 + 1) (a3_1 ++ [i3])
          else
            none
        else
          bif e3_3 then
            bif ((IntKind.wrap .i64 e3_4.2.2.2.1) == i3) then
              bif (decide (List.length a3_1 + List.length [i3] ≤ rowMax)) then
                ref10_some.g0 e3_1 e3_2 e3_3 e3_4  k d3 (i3 + 1) (a3_1 ++ [i3])
              else
                none
            else
              ref10_some.g0 e3_1 e3_2 e3_3 e3_4  k d3 (i3 + 1) a3_1
          else
            ref10_some.g0 e3_1 e3_2 e3_3 e3_4  k d3 (i3 + 1) a3_1
      else
        bif e3_3 then
          bif ((IntKind.wrap .i64 e3_4.2.2.2.1) == i3) then
            bif (decide (List.length a3_1 + List.length [i3] ≤ rowMax)) then
              ref10_some.g0 e3_1 e3_2 e3_3 e3_4  k d3 (i3 + 1) (a3_1 ++ [i3])
            else
              none
          else
            ref10_some.g0 e3_1 e3_2 e3_3 e3_4  k d3 (i3 + 1) a3_1
        else
          ref10_some.g0 e3_1 e3_2 e3_3 e3_4  k d3 (i3 + 1) a3_1
theorem ref10_some.h0 {Ω : Type} (e3_1 : Bool) (e3_2 : Bool) (e3_3 : Bool) (e3_4 : T_s22)   (k : (List Int) → Option Ω) (hN : (8 : Int) ≤ 9223372036854775807) : ∀ (m : Nat) (i : Int) (a : (List Int)), -9223372036854775808 ≤ i → Int.toNat ((8 : Int) - i) < m → Le (ref10_some.g0 e3_1 e3_2 e3_3 e3_4  k (Int.toNat ((8 : Int) - i)) i a) (iter (ref10_some.B0 BIG e3_1 e3_2 e3_3 e3_4  k) m (i, a)) :=
  iter_count (8 : Int) (fun i3 => (decide (i3 < 8))) (fun i => rfl) (fun (i3 : Int) (a3 : (List Int)) => (i3, a3)) (fun xs i3 a3 => ref10_some.g0 e3_1 e3_2 e3_3 e3_4  k xs i3 a3) (ref10_some.B0 BIG e3_1 e3_2 e3_3 e3_4  k)
    (fun i3 a3 r h0 => (Le.fls h0 (Le.refl _)))
    (fun i3 d3 a3 r h0 hw ih => (Le.tru h0 (Le.cond (Le.cond (Le.cond (ih _ hw ((a3 ++ [i3]))) Le.nil) (Le.cond (Le.cond (Le.cond (ih _ hw ((a3 ++ [i3]))) Le.nil) (Le.cond (Le.cond (Le.cond (ih _ hw ((a3 ++ [i3]))) Le.nil) (ih _ hw (a3))) (ih _ hw (a3)))) (Le.cond (Le.cond (Le.cond (ih _ hw ((a3 ++ [i3]))) Le.nil) (ih _ hw (a3))) (ih _ hw (a3))))) (Le.cond (Le.cond (Le.cond (ih _ hw ((a3 ++ [i3]))) Le.nil) (Le.cond (Le.cond (Le.cond (ih _ hw ((a3 ++ [i3]))) Le.nil) (ih _ hw (a3))) (ih _ hw (a3)))) (Le.cond (Le.cond (Le.cond (ih _ hw ((a3 ++ [i3]))) Le.nil) (ih _ hw (a3))) (ih _ hw (a3)))))))
    hN
def ref10_some.w {Ω : Type} (x0 : T_s22) (x1 : Bool) (x2 : Bool) (x3 : Bool) (k : (List Int) → Option Ω) : Option Ω :=
  ref10_some.g0 x1 x2 x3 x0  k ((Int.toNat ((8 : Int) - 0))) 0 ([])
theorem ref10_some.le {Ω : Type} (x0 : T_s22) (x1 : Bool) (x2 : Bool) (x3 : Bool) (k : (List Int) → Option Ω) : Le (ref10_some.w x0 x1 x2 x3 k) (ref10_some.s BIG x0 x1 x2 x3 k) := by
  delta ref10_some.w ref10_some.s ref10_some.sl
  exact (ref10_some.h0 _ _ _ _   k (by decide) BIG 0 ([]) (by decide) (by decide))
def ref10_some.u (x0 : T_s22) (x1 : Bool) (x2 : Bool) (x3 : Bool) : Option ((List Int)) := ref10_some.w x0 x1 x2 x3 some
theorem ref10_some.c (x0 : T_s22) (x1 : Bool) (x2 : Bool) (x3 : Bool) (r : (List Int)) (h : ref10_some.u x0 x1 x2 x3 = some r) : Contract C 57 [(.v E_s22 (x0)), (.v .bool (x1)), (.v .bool (x2)), (.v .bool (x3))] (tupAV (.slice (.int .i64)) [] r) :=
  contract_s (S := fun k => ref10_some.s BIG x0 x1 x2 x3 k) C_ok noS_ok (by kernel_rfl) (by kernel_rfl) (by kernel_rfl) (ref10_some.ev BIG x0 x1 x2 x3 (dec (.slice (.int .i64)) [])) (ref10_some.le x0 x1 x2 x3 some r h)
noncomputable def ref10_some.e : Ent := argI E_s22 fun x0 => argI .bool fun x1 => argI .bool fun x2 => argI .bool fun x3 => endU (ref10_some.u x0 x1 x2 x3) (tupAV (.slice (.int .i64)) [])
theorem ref10_some.e_ok : EntOK C 57 (fun {_} => ref10_some.e) := entA_ok (argI_ok fun x0 => argI_ok fun x1 => argI_ok fun x2 => argI_ok fun x3 => endU_ok fun r h => ref10_some.c x0 x1 x2 x3 r h)

/-- becket becketref10.Reads -/
noncomputable def ref10_Reads.sp : Spec := (orS 57 (fun {_} => ref10_some.e) (orS 56 (fun {_} => ref10_in.e) (orS 55 (fun {_} => ref09_Of.e) (orS 54 (fun {_} => ref10_Check.e) noS))))
def ref10_Reads.s {Ω : Type} (x0 : T_s22) (k : (List Int) → Option Ω) : Option Ω :=
  (ref10_Check.u x0).bind fun y1 =>
  bif (y1 != 0) then
    k []
  else
    (ref09_Of.u (IntKind.wrap .i64 x0.1)).bind fun y2 =>
    (ref10_in.u y2.1 ([(bs [97, 100, 100]), (bs [115, 117, 98]), (bs [109, 117, 108]), (bs [100, 105, 118]), (bs [114, 101, 109]), (bs [97, 110, 100]), (bs [111, 114]), (bs [120, 111, 114]), (bs [115, 104, 108]), (bs [115, 104, 114]), (bs [108, 116]), (bs [101, 113])])).bind fun y3 =>
    (ref10_in.u y2.1 ([(bs [106, 122]), (bs [106, 110, 122]), (bs [101, 109, 105, 116]), (bs [115, 108, 101, 101, 112]), (bs [103, 116, 105, 109, 101]), (bs [115, 116, 111, 114, 101]), (bs [106, 111, 105, 110])])).bind fun y4 =>
    bif y3 then
      bif y3 then
        (ref10_some.u x0 y4 true true).bind fun y5 =>
        k y5
      else
        (ref10_in.u y2.1 ([(bs [115, 112, 97, 119, 110]), (bs [103, 105, 110]), (bs [103, 98, 97, 114]), (bs [103, 116, 105, 109, 101]), (bs [103, 115, 107, 105, 112])])).bind fun y6 =>
        (ref10_some.u x0 y4 true y6).bind fun y7 =>
        k y7
    else
      (ref10_in.u y2.1 ([(bs [109, 111, 118]), (bs [110, 111, 116]), (bs [110, 101, 103]), (bs [108, 111, 97, 100]), (bs [115, 116, 111, 114, 101]), (bs [115, 101, 110, 100]), (bs [112, 111, 105, 115, 111, 110])])).bind fun y8 =>
      bif y3 then
        (ref10_some.u x0 y4 y8 true).bind fun y9 =>
        k y9
      else
        (ref10_in.u y2.1 ([(bs [115, 112, 97, 119, 110]), (bs [103, 105, 110]), (bs [103, 98, 97, 114]), (bs [103, 116, 105, 109, 101]), (bs [103, 115, 107, 105, 112])])).bind fun y10 =>
        (ref10_some.u x0 y4 y8 y10).bind fun y11 =>
        k y11
theorem ref10_Reads.ev {Ω : Type} (fuel : Fuel) (x0 : T_s22) (k : AV → Option Ω) : evFn C ref10_Reads.sp fuel Tryd.f13 (Tryd.f13.body.getD .skip) [(.v E_s22 (x0))] k = ref10_Reads.s x0 (fun r => k (tupAV (.slice (.int .i64)) [] r)) := by kernel_rfl
def ref10_Reads.u (x0 : T_s22) : Option ((List Int)) := ref10_Reads.s x0 some
theorem ref10_Reads.c (x0 : T_s22) (r : (List Int)) (h : ref10_Reads.u x0 = some r) : Contract C 13 [(.v E_s22 (x0))] (tupAV (.slice (.int .i64)) [] r) :=
  contract_s (S := fun k => ref10_Reads.s x0 k) C_ok (orS_ok ref10_some.e_ok (orS_ok ref10_in.e_ok (orS_ok ref09_Of.e_ok (orS_ok ref10_Check.e_ok noS_ok)))) (by kernel_rfl) (by kernel_rfl) (by kernel_rfl) (ref10_Reads.ev ⟨1, fun _ => []⟩ x0 (dec (.slice (.int .i64)) [])) h
noncomputable def ref10_Reads.e : Ent := argI E_s22 fun x0 => endU (ref10_Reads.u x0) (tupAV (.slice (.int .i64)) [])
theorem ref10_Reads.e_ok : EntOK C 13 (fun {_} => ref10_Reads.e) := entA_ok (argI_ok fun x0 => endU_ok fun r h => ref10_Reads.c x0 r h)

/-- becket instr.Writes -/
noncomputable def instr_Writes.sp : Spec := (orS 53 (fun {_} => instr_rising.e) (orS 27 (fun {_} => instr_Check.e) noS))
def instr_Writes.s {Ω : Type} (x0 : T_s22) (k : (List Int) → Option Ω) : Option Ω :=
  (instr_Check.u x0).bind fun y1 =>
  bif (y1 != 0) then
    k []
  else
    bif (x0.1 == 34) then
      (instr_rising.u ([x0.2.2.1])).bind fun y2 =>
      k y2
    else
      bif (x0.1 == 42) then
        (instr_rising.u ([x0.2.2.1])).bind fun y3 =>
        k y3
      else
        bif (x0.1 == 24) then
          (instr_rising.u ([x0.2.1])).bind fun y4 =>
          k y4
        else
          bif (x0.1 == 28) then
            (instr_rising.u ([x0.2.1])).bind fun y5 =>
            k y5
          else
            bif (x0.1 == 29) then
              (instr_rising.u ([x0.2.1])).bind fun y6 =>
              k y6
            else
              bif (x0.1 == 30) then
                (instr_rising.u ([x0.2.1])).bind fun y7 =>
                k y7
              else
                bif (x0.1 == 31) then
                  (instr_rising.u ([x0.2.1])).bind fun y8 =>
                  k y8
                else
                  bif (x0.1 == 40) then
                    (instr_rising.u ([x0.2.1])).bind fun y9 =>
                    k y9
                  else
                    bif (x0.1 == 41) then
                      (instr_rising.u ([x0.2.1])).bind fun y10 =>
                      k y10
                    else
                      bif (x0.1 == 46) then
                        (instr_rising.u ([x0.2.1])).bind fun y11 =>
                        k y11
                      else
                        bif (x0.1 == 47) then
                          (instr_rising.u ([x0.2.1])).bind fun y12 =>
                          k y12
                        else
                          bif (decide (x0.1 ≥ 2)) then
                            bif (decide (x0.1 ≤ 17)) then
                              (instr_rising.u ([x0.2.1])).bind fun y13 =>
                              k y13
                            else
                              k []
                          else
                            k []
theorem instr_Writes.ev {Ω : Type} (fuel : Fuel) (x0 : T_s22) (k : AV → Option Ω) : evFn CK instr_Writes.sp fuel Tryd.f14 (Tryd.f14.body.getD .skip) [(.v E_s22 (x0))] k = instr_Writes.s x0 (fun r => k (tupAV (.slice (.int .i64)) [] r)) := by kernel_rfl
def instr_Writes.u (x0 : T_s22) : Option ((List Int)) := instr_Writes.s x0 some
theorem instr_Writes.c (x0 : T_s22) (r : (List Int)) (h : instr_Writes.u x0 = some r) : Contract CK 14 [(.v E_s22 (x0))] (tupAV (.slice (.int .i64)) [] r) :=
  contract_s (S := fun k => instr_Writes.s x0 k) CK_ok (orS_ok (instr_rising.e_ok.mono le_C_CK) (orS_ok instr_Check.e_ok noS_ok)) (by kernel_rfl) (by kernel_rfl) (by kernel_rfl) (instr_Writes.ev ⟨1, fun _ => []⟩ x0 (dec (.slice (.int .i64)) [])) h
noncomputable def instr_Writes.e : Ent := argI E_s22 fun x0 => endU (instr_Writes.u x0) (tupAV (.slice (.int .i64)) [])
theorem instr_Writes.e_ok : EntOK CK 14 (fun {_} => instr_Writes.e) := entA_ok (argI_ok fun x0 => endU_ok fun r h => instr_Writes.c x0 r h)

/-- becket becketref10.Writes -/
noncomputable def ref10_Writes.sp : Spec := (orS 57 (fun {_} => ref10_some.e) (orS 56 (fun {_} => ref10_in.e) (orS 55 (fun {_} => ref09_Of.e) (orS 54 (fun {_} => ref10_Check.e) noS))))
def ref10_Writes.s {Ω : Type} (x0 : T_s22) (k : (List Int) → Option Ω) : Option Ω :=
  (ref10_Check.u x0).bind fun y1 =>
  bif (y1 != 0) then
    k []
  else
    (ref09_Of.u (IntKind.wrap .i64 x0.1)).bind fun y2 =>
    (ref10_in.u y2.1 ([(bs [109, 111, 118]), (bs [115, 101, 116]), (bs [97, 100, 100]), (bs [115, 117, 98]), (bs [109, 117, 108]), (bs [100, 105, 118]), (bs [114, 101, 109]), (bs [97, 110, 100]), (bs [111, 114]), (bs [120, 111, 114]), (bs [115, 104, 108]), (bs [115, 104, 114]), (bs [110, 111, 116]), (bs [110, 101, 103]), (bs [108, 116]), (bs [101, 113]), (bs [108, 111, 97, 100]), (bs [110, 111, 119]), (bs [109, 101]), (bs [115, 112, 97, 119, 110]), (bs [106, 111, 105, 110]), (bs [102, 108, 117, 115, 104]), (bs [97, 108, 116]), (bs [112, 104, 97, 115, 101]), (bs [115, 105, 122, 101])])).bind fun y3 =>
    (ref10_in.u y2.1 ([(bs [114, 101, 99, 118]), (bs [103, 105, 110])])).bind fun y4 =>
    (ref10_some.u x0 y3 y4 false).bind fun y5 =>
    k y5
theorem ref10_Writes.ev {Ω : Type} (fuel : Fuel) (x0 : T_s22) (k : AV → Option Ω) : evFn C ref10_Writes.sp fuel Tryd.f15 (Tryd.f15.body.getD .skip) [(.v E_s22 (x0))] k = ref10_Writes.s x0 (fun r => k (tupAV (.slice (.int .i64)) [] r)) := by kernel_rfl
def ref10_Writes.u (x0 : T_s22) : Option ((List Int)) := ref10_Writes.s x0 some
theorem ref10_Writes.c (x0 : T_s22) (r : (List Int)) (h : ref10_Writes.u x0 = some r) : Contract C 15 [(.v E_s22 (x0))] (tupAV (.slice (.int .i64)) [] r) :=
  contract_s (S := fun k => ref10_Writes.s x0 k) C_ok (orS_ok ref10_some.e_ok (orS_ok ref10_in.e_ok (orS_ok ref09_Of.e_ok (orS_ok ref10_Check.e_ok noS_ok)))) (by kernel_rfl) (by kernel_rfl) (by kernel_rfl) (ref10_Writes.ev ⟨1, fun _ => []⟩ x0 (dec (.slice (.int .i64)) [])) h
noncomputable def ref10_Writes.e : Ent := argI E_s22 fun x0 => endU (ref10_Writes.u x0) (tupAV (.slice (.int .i64)) [])
theorem ref10_Writes.e_ok : EntOK C 15 (fun {_} => ref10_Writes.e) := entA_ok (argI_ok fun x0 => endU_ok fun r h => ref10_Writes.c x0 r h)

/-- becket instr.Read -/
noncomputable def instr_Read.sp : Spec := (orS 27 (fun {_} => instr_Check.e) noS)
def instr_Read.s {Ω : Type} (x0 : ByteArray) (x1 : Int) (k : T_s22 × Int → Option Ω) : Option Ω :=
  bif (decide (x1 < 0)) then
    k ((0, (0, (0, (0, ())))), 8)
  else
    bif (decide (x1 > ((x0).size : Int))) then
      k ((0, (0, (0, (0, ())))), 8)
    else
      bif (decide ((IntKind.wrap .i64 (((x0).size : Int) - x1)) < 4)) then
        k ((0, (0, (0, (0, ())))), 4)
      else
        bif (idxOK x1 (x0).size) then
          bif (idxOK (IntKind.wrap .i64 (x1 + 1)) (x0).size) then
            bif (idxOK (IntKind.wrap .i64 (x1 + 2)) (x0).size) then
              bif (idxOK (IntKind.wrap .i64 (x1 + 3)) (x0).size) then
                let v1 : T_s22 := ((bAt x0 (Int.toNat x1)), ((bAt x0 (Int.toNat (IntKind.wrap .i64 (x1 + 1)))), ((bAt x0 (Int.toNat (IntKind.wrap .i64 (x1 + 2)))), ((bAt x0 (Int.toNat (IntKind.wrap .i64 (x1 + 3)))), ()))))
                (instr_Check.u v1).bind fun y2 =>
                bif (y2 != 0) then
                  k ((0, (0, (0, (0, ())))), y2)
                else
                  let v3 : T_s22 := ((bAt x0 (Int.toNat x1)), ((bAt x0 (Int.toNat (IntKind.wrap .i64 (x1 + 1)))), ((bAt x0 (Int.toNat (IntKind.wrap .i64 (x1 + 2)))), ((bAt x0 (Int.toNat (IntKind.wrap .i64 (x1 + 3)))), ()))))
                  k (v3, 0)
              else
                none
            else
              none
          else
            none
        else
          none
theorem instr_Read.ev {Ω : Type} (fuel : Fuel) (x0 : ByteArray) (x1 : Int) (k : AV → Option Ω) : evFn CK instr_Read.sp fuel Tryd.f58 (Tryd.f58.body.getD .skip) [(.v .str (x0)), (.v (.int .i64) (x1))] k = instr_Read.s x0 x1 (fun r => k (tupAV E_s22 [(.int .i64)] r)) := by kernel_rfl
def instr_Read.u (x0 : ByteArray) (x1 : Int) : Option (T_s22 × Int) := instr_Read.s x0 x1 some
theorem instr_Read.c (x0 : ByteArray) (x1 : Int) (r : T_s22 × Int) (h : instr_Read.u x0 x1 = some r) : Contract CK 58 [(.v .str (x0)), (.v (.int .i64) (x1))] (tupAV E_s22 [(.int .i64)] r) :=
  contract_s (S := fun k => instr_Read.s x0 x1 k) CK_ok (orS_ok instr_Check.e_ok noS_ok) (by kernel_rfl) (by kernel_rfl) (by kernel_rfl) (instr_Read.ev ⟨1, fun _ => []⟩ x0 x1 (dec E_s22 [(.int .i64)])) h
noncomputable def instr_Read.e : Ent := argI .str fun x0 => argI (.int .i64) fun x1 => endU (instr_Read.u x0 x1) (tupAV E_s22 [(.int .i64)])
theorem instr_Read.e_ok : EntOK CK 58 (fun {_} => instr_Read.e) := entA_ok (argI_ok fun x0 => argI_ok fun x1 => endU_ok fun r h => instr_Read.c x0 x1 r h)

/-- strings.IndexByte -/
noncomputable def strings_IndexByte.sp : Spec := (orS 130 (fun {_} => internal_stringslite_IndexByte.e) noS)
def strings_IndexByte.s {Ω : Type} (x0 : ByteArray) (x1 : Int) (k : Int → Option Ω) : Option Ω :=
  k (internal_stringslite_IndexByte.t x0 x1)
theorem strings_IndexByte.ev {Ω : Type} (fuel : Fuel) (x0 : ByteArray) (x1 : Int) (k : AV → Option Ω) : evFn C strings_IndexByte.sp fuel Tryd.f105 (Tryd.f105.body.getD .skip) [(.v .str (x0)), (.v (.int .u8) (x1))] k = strings_IndexByte.s x0 x1 (fun r => k (tupAV (.int .i64) [] r)) := by kernel_rfl
def strings_IndexByte.t (x0 : ByteArray) (x1 : Int) : Int :=
  (internal_stringslite_IndexByte.t x0 x1)
theorem strings_IndexByte.v {Ω : Type} (x0 : ByteArray) (x1 : Int) (k : Int → Option Ω) : strings_IndexByte.s x0 x1 k = k (strings_IndexByte.t x0 x1) := by
  delta strings_IndexByte.s strings_IndexByte.t; exact rfl
theorem strings_IndexByte.c (x0 : ByteArray) (x1 : Int) : Contract C 105 [(.v .str (x0)), (.v (.int .u8) (x1))] (tupAV (.int .i64) [] (strings_IndexByte.t x0 x1)) :=
  contract_s (S := fun k => strings_IndexByte.s x0 x1 k) C_ok (orS_ok internal_stringslite_IndexByte.e_ok noS_ok) (by kernel_rfl) (by kernel_rfl) (by kernel_rfl) (strings_IndexByte.ev ⟨1, fun _ => []⟩ x0 x1 (dec (.int .i64) [])) (strings_IndexByte.v x0 x1 some)
noncomputable def strings_IndexByte.e : Ent := argI .str fun x0 => argI (.int .u8) fun x1 => endT (tupAV (.int .i64) [] (strings_IndexByte.t x0 x1))
theorem strings_IndexByte.e_ok : EntOK C 105 (fun {_} => strings_IndexByte.e) := entA_ok (argI_ok fun x0 => argI_ok fun x1 => endT_ok (strings_IndexByte.c x0 x1))

/-- becket instr.Place -/
noncomputable def instr_Place.sp : Spec := (orS 105 (fun {_} => strings_IndexByte.e) (orS 74 (fun {_} => instr_operands.e) (orS 73 (fun {_} => opcode_Form.e) noS)))
def instr_Place.s {Ω : Type} (x0 : T_s22) (k : Int × Bool → Option Ω) : Option Ω :=
  (opcode_Form.u (IntKind.wrap .i64 x0.1)).bind fun y1 =>
  bif (decide ((strings_IndexByte.t y1 116) < 0)) then
    k (0, false)
  else
    bif (idxOK (strings_IndexByte.t y1 116) 3) then
      let v2 : Int := (IntKind.wrap .i64 (List.getD (instr_operands.t x0) (Int.toNat (strings_IndexByte.t y1 116)) 0))
      k (v2, true)
    else
      none
theorem instr_Place.ev {Ω : Type} (fuel : Fuel) (x0 : T_s22) (k : AV → Option Ω) : evFn CK instr_Place.sp fuel Tryd.f59 (Tryd.f59.body.getD .skip) [(.v E_s22 (x0))] k = instr_Place.s x0 (fun r => k (tupAV (.int .i64) [.bool] r)) := by kernel_rfl
def instr_Place.u (x0 : T_s22) : Option (Int × Bool) := instr_Place.s x0 some
theorem instr_Place.c (x0 : T_s22) (r : Int × Bool) (h : instr_Place.u x0 = some r) : Contract CK 59 [(.v E_s22 (x0))] (tupAV (.int .i64) [.bool] r) :=
  contract_s (S := fun k => instr_Place.s x0 k) CK_ok (orS_ok (strings_IndexByte.e_ok.mono le_C_CK) (orS_ok (instr_operands.e_ok.mono le_C_CK) (orS_ok opcode_Form.e_ok noS_ok))) (by kernel_rfl) (by kernel_rfl) (by kernel_rfl) (instr_Place.ev ⟨1, fun _ => []⟩ x0 (dec (.int .i64) [.bool])) h
noncomputable def instr_Place.e : Ent := argI E_s22 fun x0 => endU (instr_Place.u x0) (tupAV (.int .i64) [.bool])
theorem instr_Place.e_ok : EntOK CK 59 (fun {_} => instr_Place.e) := entA_ok (argI_ok fun x0 => endU_ok fun r h => instr_Place.c x0 r h)

/-- becket instr.Num -/
noncomputable def instr_Num.sp : Spec := (orS 106 (fun {_} => strings_Contains.e) (orS 73 (fun {_} => opcode_Form.e) noS))
def instr_Num.s {Ω : Type} (x0 : T_s22) (k : Int → Option Ω) : Option Ω :=
  (opcode_Form.u (IntKind.wrap .i64 x0.1)).bind fun y1 =>
  (strings_Contains.u y1 (bs [105, 106])).bind fun y2 =>
  bif (!y2) then
    k 0
  else
    let v3 : Int := (IntKind.wrap .u16 ((IntKind.wrap .u16 x0.2.2.1) * (2 ^ (min (Int.toNat 8) (IntKind.bits .u16)))))
    let v4 : Int := (IntKind.wrap .u16 (BitVec.ofInt (IntKind.bits .u16) v3 ||| BitVec.ofInt (IntKind.bits .u16) (IntKind.wrap .u16 x0.2.2.2.1)).toNat)
    k (IntKind.wrap .i64 (IntKind.wrap .i16 v4))
theorem instr_Num.ev {Ω : Type} (fuel : Fuel) (x0 : T_s22) (k : AV → Option Ω) : evFn CKM instr_Num.sp fuel Tryd.f60 (Tryd.f60.body.getD .skip) [(.v E_s22 (x0))] k = instr_Num.s x0 (fun r => k (tupAV (.int .i64) [] r)) := by kernel_rfl
def instr_Num.u (x0 : T_s22) : Option (Int) := instr_Num.s x0 some
theorem instr_Num.c (x0 : T_s22) (r : Int) (h : instr_Num.u x0 = some r) : Contract CKM 60 [(.v E_s22 (x0))] (tupAV (.int .i64) [] r) :=
  contract_s (S := fun k => instr_Num.s x0 k) CKM_ok (orS_ok (strings_Contains.e_ok.mono le_CM_CKM) (orS_ok (opcode_Form.e_ok.mono le_CK_CKM) noS_ok)) (by kernel_rfl) (by kernel_rfl) (by kernel_rfl) (instr_Num.ev ⟨1, fun _ => []⟩ x0 (dec (.int .i64) [])) h
noncomputable def instr_Num.e : Ent := argI E_s22 fun x0 => endU (instr_Num.u x0) (tupAV (.int .i64) [])
theorem instr_Num.e_ok : EntOK CKM 60 (fun {_} => instr_Num.e) := entA_ok (argI_ok fun x0 => endU_ok fun r h => instr_Num.c x0 r h)

end Go.Proofs.YtjhkagfolmhacaaDoor.K

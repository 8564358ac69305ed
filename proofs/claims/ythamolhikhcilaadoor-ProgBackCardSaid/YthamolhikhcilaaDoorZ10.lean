/- What functions of the program come to, plainly. -/
import Derived.Test.YthamolhikhcilaaDoorZ09
set_option maxRecDepth 100000
set_option linter.unusedVariables false
namespace Go.Proofs.YthamolhikhcilaaDoor.K
open Go Go.RowKit

/-- becket instr.operands -/
noncomputable def instr_operands.sp : Spec := noS
def instr_operands.s {Ω : Type} (x0 : T_s50) (k : (List Int) → Option Ω) : Option Ω :=
  k (List.set (List.set (List.set (List.replicate 3 0) 0 x0.2.1) 1 x0.2.2.1) 2 x0.2.2.2.1)
theorem instr_operands.ev {Ω : Type} (fuel : Fuel) (x0 : T_s50) (k : AV → Option Ω) : evFn C instr_operands.sp fuel Tryd.f50 (Tryd.f50.body.getD .skip) [(.v E_s50 (x0))] k = instr_operands.s x0 (fun r => k (tupAV (.arr 3 (.int .u8)) [] r)) := by kernel_rfl
def instr_operands.t (x0 : T_s50) : (List Int) :=
  (List.set (List.set (List.set (List.replicate 3 0) 0 x0.2.1) 1 x0.2.2.1) 2 x0.2.2.2.1)
theorem instr_operands.v {Ω : Type} (x0 : T_s50) (k : (List Int) → Option Ω) : instr_operands.s x0 k = k (instr_operands.t x0) := by
  delta instr_operands.s instr_operands.t; exact rfl
theorem instr_operands.c (x0 : T_s50) : Contract C 50 [(.v E_s50 (x0))] (tupAV (.arr 3 (.int .u8)) [] (instr_operands.t x0)) :=
  contract_s (S := fun k => instr_operands.s x0 k) C_ok noS_ok (by kernel_rfl) (by kernel_rfl) (by kernel_rfl) (instr_operands.ev ⟨1, fun _ => []⟩ x0 (dec (.arr 3 (.int .u8)) [])) (instr_operands.v x0 some)
noncomputable def instr_operands.e : Ent := argI E_s50 fun x0 => endT (tupAV (.arr 3 (.int .u8)) [] (instr_operands.t x0))
theorem instr_operands.e_ok : EntOK C 50 (fun {_} => instr_operands.e) := entA_ok (argI_ok fun x0 => endT_ok (instr_operands.c x0))

/-- becket instr.wrong -/
noncomputable def instr_wrong.sp : Spec := noS
def instr_wrong.s {Ω : Type} (x0 : Int) (x1 : Int) (k : Int → Option Ω) : Option Ω :=
  bif (x0 == 45) then
    bif (x1 != 0) then
      k 3
    else
      bif (decide ((IntKind.wrap .i64 x1) < 0)) then
        k 8
      else
        bif (decide ((IntKind.wrap .i64 x1) > 0)) then
          k 8
        else
          k 0
  else
    bif (x0 == 103) then
      bif (x1 == 8) then
        k 0
      else
        bif (decide ((IntKind.wrap .i64 x1) < 0)) then
          k 8
        else
          bif (decide ((IntKind.wrap .i64 x1) > 7)) then
            k 8
          else
            k 0
    else
      bif (x0 == 114) then
        bif (decide ((IntKind.wrap .i64 x1) < 0)) then
          k 8
        else
          bif (decide ((IntKind.wrap .i64 x1) > 7)) then
            k 8
          else
            k 0
      else
        bif (x0 == 115) then
          bif (decide ((IntKind.wrap .i64 x1) < 1)) then
            k 8
          else
            bif (decide ((IntKind.wrap .i64 x1) > 255)) then
              k 8
            else
              k 0
        else
          bif (x0 == 105) then
            bif (decide ((IntKind.wrap .i64 x1) < 0)) then
              k 8
            else
              bif (decide ((IntKind.wrap .i64 x1) > 255)) then
                k 8
              else
                k 0
          else
            bif (x0 == 106) then
              bif (decide ((IntKind.wrap .i64 x1) < 0)) then
                k 8
              else
                bif (decide ((IntKind.wrap .i64 x1) > 255)) then
                  k 8
                else
                  k 0
            else
              bif (x0 == 116) then
                bif (decide ((IntKind.wrap .i64 x1) < 0)) then
                  k 8
                else
                  bif (decide ((IntKind.wrap .i64 x1) > 64)) then
                    k 8
                  else
                    k 0
              else
                bif (x0 == 99) then
                  bif (decide ((IntKind.wrap .i64 x1) < 0)) then
                    k 8
                  else
                    bif (decide ((IntKind.wrap .i64 x1) > 7)) then
                      k 8
                    else
                      k 0
                else
                  bif (x0 == 98) then
                    bif (decide ((IntKind.wrap .i64 x1) < 0)) then
                      k 8
                    else
                      bif (decide ((IntKind.wrap .i64 x1) > 7)) then
                        k 8
                      else
                        k 0
                  else
                    bif (x0 == 107) then
                      bif (decide ((IntKind.wrap .i64 x1) < 0)) then
                        k 8
                      else
                        bif (decide ((IntKind.wrap .i64 x1) > 3)) then
                          k 8
                        else
                          k 0
                    else
                      bif (x0 == 112) then
                        bif (decide ((IntKind.wrap .i64 x1) < 0)) then
                          k 8
                        else
                          bif (decide ((IntKind.wrap .i64 x1) > 7)) then
                            k 8
                          else
                            k 0
                      else
                        bif (x0 == 109) then
                          bif (decide ((IntKind.wrap .i64 x1) < 0)) then
                            k 8
                          else
                            bif (decide ((IntKind.wrap .i64 x1) > 2)) then
                              k 8
                            else
                              k 0
                        else
                          bif (x0 == 110) then
                            bif (decide ((IntKind.wrap .i64 x1) < 1)) then
                              k 8
                            else
                              bif (decide ((IntKind.wrap .i64 x1) > 6)) then
                                k 8
                              else
                                k 0
                          else
                            bif (decide ((IntKind.wrap .i64 x1) < 0)) then
                              k 8
                            else
                              bif (decide ((IntKind.wrap .i64 x1) > 0)) then
                                k 8
                              else
                                k 0
theorem instr_wrong.ev {Ω : Type} (fuel : Fuel) (x0 : Int) (x1 : Int) (k : AV → Option Ω) : evFn C instr_wrong.sp fuel Tryd.f51 (Tryd.f51.body.getD .skip) [(.v (.int .u8) (x0)), (.v (.int .u8) (x1))] k = instr_wrong.s x0 x1 (fun r => k (tupAV (.int .i64) [] r)) := by kernel_rfl
def instr_wrong.t (x0 : Int) (x1 : Int) : Int :=
  bif (x0 == 45) then
    bif (x1 != 0) then
      3
    else
      bif (decide ((IntKind.wrap .i64 x1) < 0)) then
        8
      else
        bif (decide ((IntKind.wrap .i64 x1) > 0)) then
          8
        else
          0
  else
    bif (x0 == 103) then
      bif (x1 == 8) then
        0
      else
        bif (decide ((IntKind.wrap .i64 x1) < 0)) then
          8
        else
          bif (decide ((IntKind.wrap .i64 x1) > 7)) then
            8
          else
            0
    else
      bif (x0 == 114) then
        bif (decide ((IntKind.wrap .i64 x1) < 0)) then
          8
        else
          bif (decide ((IntKind.wrap .i64 x1) > 7)) then
            8
          else
            0
      else
        bif (x0 == 115) then
          bif (decide ((IntKind.wrap .i64 x1) < 1)) then
            8
          else
            bif (decide ((IntKind.wrap .i64 x1) > 255)) then
              8
            else
              0
        else
          bif (x0 == 105) then
            bif (decide ((IntKind.wrap .i64 x1) < 0)) then
              8
            else
              bif (decide ((IntKind.wrap .i64 x1) > 255)) then
                8
              else
                0
          else
            bif (x0 == 106) then
              bif (decide ((IntKind.wrap .i64 x1) < 0)) then
                8
              else
                bif (decide ((IntKind.wrap .i64 x1) > 255)) then
                  8
                else
                  0
            else
              bif (x0 == 116) then
                bif (decide ((IntKind.wrap .i64 x1) < 0)) then
                  8
                else
                  bif (decide ((IntKind.wrap .i64 x1) > 64)) then
                    8
                  else
                    0
              else
                bif (x0 == 99) then
                  bif (decide ((IntKind.wrap .i64 x1) < 0)) then
                    8
                  else
                    bif (decide ((IntKind.wrap .i64 x1) > 7)) then
                      8
                    else
                      0
                else
                  bif (x0 == 98) then
                    bif (decide ((IntKind.wrap .i64 x1) < 0)) then
                      8
                    else
                      bif (decide ((IntKind.wrap .i64 x1) > 7)) then
                        8
                      else
                        0
                  else
                    bif (x0 == 107) then
                      bif (decide ((IntKind.wrap .i64 x1) < 0)) then
                        8
                      else
                        bif (decide ((IntKind.wrap .i64 x1) > 3)) then
                          8
                        else
                          0
                    else
                      bif (x0 == 112) then
                        bif (decide ((IntKind.wrap .i64 x1) < 0)) then
                          8
                        else
                          bif (decide ((IntKind.wrap .i64 x1) > 7)) then
                            8
                          else
                            0
                      else
                        bif (x0 == 109) then
                          bif (decide ((IntKind.wrap .i64 x1) < 0)) then
                            8
                          else
                            bif (decide ((IntKind.wrap .i64 x1) > 2)) then
                              8
                            else
                              0
                        else
                          bif (x0 == 110) then
                            bif (decide ((IntKind.wrap .i64 x1) < 1)) then
                              8
                            else
                              bif (decide ((IntKind.wrap .i64 x1) > 6)) then
                                8
                              else
                                0
                          else
                            bif (decide ((IntKind.wrap .i64 x1) < 0)) then
                              8
                            else
                              bif (decide ((IntKind.wrap .i64 x1) > 0)) then
                                8
                              else
                                0
theorem instr_wrong.v {Ω : Type} (x0 : Int) (x1 : Int) (k : Int → Option Ω) : instr_wrong.s x0 x1 k = k (instr_wrong.t x0 x1) := by
  delta instr_wrong.s instr_wrong.t; exact (cond_tot (cond_tot rfl (cond_tot rfl (cond_tot rfl rfl))) (cond_tot (cond_tot rfl (cond_tot rfl (cond_tot rfl rfl))) (cond_tot (cond_tot rfl (cond_tot rfl rfl)) (cond_tot (cond_tot rfl (cond_tot rfl rfl)) (cond_tot (cond_tot rfl (cond_tot rfl rfl)) (cond_tot (cond_tot rfl (cond_tot rfl rfl)) (cond_tot (cond_tot rfl (cond_tot rfl rfl)) (cond_tot (cond_tot rfl (cond_tot rfl rfl)) (cond_tot (cond_tot rfl (cond_tot rfl rfl)) (cond_tot (cond_tot rfl (cond_tot rfl rfl)) (cond_tot (cond_tot rfl (cond_tot rfl rfl)) (cond_tot (cond_tot rfl (cond_tot rfl rfl)) (cond_tot (cond_tot rfl (cond_tot rfl rfl)) (cond_tot rfl (cond_tot rfl rfl)))))))))))))))
theorem instr_wrong.c (x0 : Int) (x1 : Int) : Contract C 51 [(.v (.int .u8) (x0)), (.v (.int .u8) (x1))] (tupAV (.int .i64) [] (instr_wrong.t x0 x1)) :=
  contract_s (S := fun k => instr_wrong.s x0 x1 k) C_ok noS_ok (by kernel_rfl) (by kernel_rfl) (by kernel_rfl) (instr_wrong.ev ⟨1, fun _ => []⟩ x0 x1 (dec (.int .i64) [])) (instr_wrong.v x0 x1 some)
noncomputable def instr_wrong.e : Ent := argI (.int .u8) fun x0 => argI (.int .u8) fun x1 => endT (tupAV (.int .i64) [] (instr_wrong.t x0 x1))
theorem instr_wrong.e_ok : EntOK C 51 (fun {_} => instr_wrong.e) := entA_ok (argI_ok fun x0 => argI_ok fun x1 => endT_ok (instr_wrong.c x0 x1))

/-- becket instr.Check -/
noncomputable def instr_Check.sp : Spec := (orS 51 (fun {_} => instr_wrong.e) (orS 50 (fun {_} => instr_operands.e) (orS 49 (fun {_} => opcode_Form.e) noS)))
def instr_Check.F (fuel : Nat) : Fuel := ⟨fuel, fun r => bif r == 5 then [0, 1, 2, 4, 5, 6, 7, 8, 9, 10, 11, 12, 13, 16, 17, 18, 19, 20, 21, 22, 23, 24, 25, 26, 27] else []⟩
def instr_Check.E0 (e5_1 : ByteArray) (e5_2 : (List Int)) (e5_3 : T_s50) (s5 : Int) : List AV := [.dead, .dead, .dead, (.v .str (e5_1)), .dead, .dead, .dead, .dead, .dead, .dead, .dead, .dead, .dead, .dead, (.v (.arr 3 (.int .u8)) (e5_2)), (.v (.int .i64) (s5)), .dead, .dead, .dead, .dead, .dead, .dead, .dead, .dead, .dead, .dead, .dead, .dead]
def instr_Check.H0 (e5_1 : ByteArray) (e5_2 : (List Int)) (e5_3 : T_s50) (s5 : Int) : Heap := [(.box E_s50 e5_3 false)]
noncomputable def instr_Check.M0 {Ω : Type} (fuel : Nat) (e5_1 : ByteArray) (e5_2 : (List Int)) (e5_3 : T_s50)  (k : AV → Option Ω) (m : Nat) (s : Int) : Option Ω := loopK (fun env L k => evCode CK instr_Check.sp (instr_Check.F fuel) (cl (cl (cr (cl (cr (cr (cr (Tryd.f25.body.getD .skip)))))))) env L k) [true, true, true, false, true, true, true, true, true, true, true, true, true, true, false, false, true, true, true, true, true, true, true, true, true, true, true, true] 1 (blockK 0 (seqK (fun env L => evCode CK instr_Check.sp (instr_Check.F fuel) (cr (cr (cr (cr (Tryd.f25.body.getD .skip))))) env L (finK CK Tryd.f25 k)) (finK CK Tryd.f25 k))) m ((instr_Check.E0 e5_1 e5_2 e5_3) s) ((instr_Check.H0 e5_1 e5_2 e5_3) s)
def instr_Check.b0 {Ω : Type} (e5_1 : ByteArray) (e5_2 : (List Int)) (e5_3 : T_s50)   (k : Int → Option Ω) (r5 : Int → Option Ω) (s5 : Int) : Option Ω :=
  bif (decide (s5 < 3)) then
    bif (idxOK s5 3) then
      bif (idxOK s5 (e5_1).size) then
        bif ((instr_wrong.t ((bAt e5_1 (Int.toNat s5))) ((List.getD e5_2 (Int.toNat s5) 0))) != 0) then
          k (instr_wrong.t ((bAt e5_1 (Int.toNat s5))) ((List.getD e5_2 (Int.toNat s5) 0)))
        else
          r5 ((IntKind.wrap .i64 (s5 + 1)))
      else
        none
    else
      none
  else
    k 0
def instr_Check.B0 {Ω : Type} (fuel : Nat) (e5_1 : ByteArray) (e5_2 : (List Int)) (e5_3 : T_s50)  (k : Int → Option Ω) (r5 : Int → Option Ω) (s5 : Int) : Option Ω := instr_Check.b0 e5_1 e5_2 e5_3   k r5 s5
theorem instr_Check.l0 {Ω : Type} (fuel : Nat) (e5_1 : ByteArray) (e5_2 : (List Int)) (e5_3 : T_s50)  (k : AV → Option Ω) : ∀ m, (instr_Check.M0 fuel e5_1 e5_2 e5_3  k m) = iter (instr_Check.B0 fuel e5_1 e5_2 e5_3  (fun r => k (tupAV (.int .i64) [] r))) m :=
  loopK_iter (envOf := (instr_Check.E0 e5_1 e5_2 e5_3)) (LOf := (instr_Check.H0 e5_1 e5_2 e5_3)) (B := instr_Check.B0 fuel e5_1 e5_2 e5_3  (fun r => k (tupAV (.int .i64) [] r))) (fun R s => by kernel_rfl)
def instr_Check.sl {Ω : Type} (x0 : T_s50) (lp0 : ByteArray → (List Int) → T_s50 → Int → Option Ω) (k : Int → Option Ω) : Option Ω :=
  (opcode_Form.u (IntKind.wrap .i64 x0.1)).bind fun y1 =>
  bif ((y1).data.toList == ((bs [])).data.toList) then
    k 18
  else
    lp0 y1 (instr_operands.t x0) x0 (0)
def instr_Check.s {Ω : Type} (fuel : Nat) (x0 : T_s50) (k : Int → Option Ω) : Option Ω := instr_Check.sl x0 (fun e5_1 e5_2 e5_3 => (iter (instr_Check.B0 fuel e5_1 e5_2 e5_3  k) fuel)) k
theorem instr_Check.ev {Ω : Type} (fuel : Nat) (x0 : T_s50) (k : AV → Option Ω) : evFn CK instr_Check.sp (instr_Check.F fuel) Tryd.f25 (Tryd.f25.body.getD .skip) [(.v E_s50 (x0))] k = instr_Check.s fuel x0 (fun r => k (tupAV (.int .i64) [] r)) := by
  have h0 : evFn CK instr_Check.sp (instr_Check.F fuel) Tryd.f25 (Tryd.f25.body.getD .skip) [(.v E_s50 (x0))] k = instr_Check.sl x0 (fun e5_1 e5_2 e5_3 => (instr_Check.M0 fuel e5_1 e5_2 e5_3  k fuel)) (fun r => k (tupAV (.int .i64) [] r)) := by kernel_rfl
  have h1 : (fun e5_1 e5_2 e5_3 => (instr_Check.M0 fuel e5_1 e5_2 e5_3  k fuel)) = (fun e5_1 e5_2 e5_3 => (iter (instr_Check.B0 fuel e5_1 e5_2 e5_3  (fun r => k (tupAV (.int .i64) [] r))) fuel)) := funext fun e5_1 => funext fun e5_2 => funext fun e5_3 => instr_Check.l0 fuel e5_1 e5_2 e5_3   k fuel
  rw [h1] at h0
  exact h0
def instr_Check.g0 {Ω : Type} (e5_1 : ByteArray) (e5_2 : (List Int)) (e5_3 : T_s50)  (k : Int → Option Ω) : Nat → Int → Option Ω
  | 0, i5 =>
    k 0
  | d5 + 1, i5 =>
    bif (idxOK i5 3) then
      bif (idxOK i5 (e5_1).size) then
        bif ((instr_wrong.t ((bAt e5_1 (Int.toNat i5))) ((List.getD e5_2 (Int.toNat i5) 0))) != 0) then
          k (instr_wrong.t ((bAt e5_1 (Int.toNat i5))) ((List.getD e5_2 (Int.toNat i5) 0)))
        else
          instr_Check.g0 e5_1 e5_2 e5_3  k d5 (i5 + 1)
      else
        none
    else
      none
theorem instr_Check.h0 {Ω : Type} (e5_1 : ByteArray) (e5_2 : (List Int)) (e5_3 : T_s50)   (k : Int → Option Ω) (hN : (3 : Int) ≤ 9223372036854775807) : ∀ (m : Nat) (i : Int) (a : Unit), -9223372036854775808 ≤ i → Int.toNat ((3 : Int) - i) < m → Le (instr_Check.g0 e5_1 e5_2 e5_3  k (Int.toNat ((3 : Int) - i)) i) (iter (instr_Check.B0 BIG e5_1 e5_2 e5_3  k) m (i)) :=
  iter_count (3 : Int) (fun i5 => (decide (i5 < 3))) (fun i => rfl) (fun (i5 : Int) (a5 : Unit) => (i5)) (fun xs i5 a5 => instr_Check.g0 e5_1 e5_2 e5_3  k xs i5) (instr_Check.B0 BIG e5_1 e5_2 e5_3  k)
    (fun i5 a5 r h0 => (Le.fls h0 (Le.refl _)))
    (fun i5 d5 a5 r h0 hw ih => (Le.tru h0 (Le.cond (Le.cond (Le.cond (Le.refl _) (ih _ hw ())) Le.nil) Le.nil)))
    hN
def instr_Check.w {Ω : Type} (x0 : T_s50) (k : Int → Option Ω) : Option Ω :=
  (opcode_Form.u (IntKind.wrap .i64 x0.1)).bind fun y1 =>
  bif ((y1).data.toList == ((bs [])).data.toList) then
    k 18
  else
    instr_Check.g0 y1 (instr_operands.t x0) x0  k ((Int.toNat ((3 : Int) - 0))) 0
theorem instr_Check.le {Ω : Type} (x0 : T_s50) (k : Int → Option Ω) : Le (instr_Check.w x0 k) (instr_Check.s BIG x0 k) := by
  delta instr_Check.w instr_Check.s instr_Check.sl
  exact (Le.bnd fun y1 => (Le.cond (Le.refl _) (instr_Check.h0 _ _ _   k (by decide) BIG 0 () (by decide) (by decide))))
def instr_Check.u (x0 : T_s50) : Option (Int) := instr_Check.w x0 some
theorem instr_Check.c (x0 : T_s50) (r : Int) (h : instr_Check.u x0 = some r) : Contract CK 25 [(.v E_s50 (x0))] (tupAV (.int .i64) [] r) :=
  contract_s (S := fun k => instr_Check.s BIG x0 k) CK_ok (orS_ok (instr_wrong.e_ok.mono le_C_CK) (orS_ok (instr_operands.e_ok.mono le_C_CK) (orS_ok opcode_Form.e_ok noS_ok))) (by kernel_rfl) (by kernel_rfl) (by kernel_rfl) (instr_Check.ev BIG x0 (dec (.int .i64) [])) (instr_Check.le x0 some r h)
noncomputable def instr_Check.e : Ent := argI E_s50 fun x0 => endU (instr_Check.u x0) (tupAV (.int .i64) [])
theorem instr_Check.e_ok : EntOK CK 25 (fun {_} => instr_Check.e) := entA_ok (argI_ok fun x0 => endU_ok fun r h => instr_Check.c x0 r h)

/-- becket instr.Bytes -/
noncomputable def instr_Bytes.sp : Spec := noS
def instr_Bytes.s {Ω : Type} (x0 : T_s50) (k : ByteArray → Option Ω) : Option Ω :=
  k (ofBytes [x0.1, x0.2.1, x0.2.2.1, x0.2.2.2.1])
theorem instr_Bytes.ev {Ω : Type} (fuel : Fuel) (x0 : T_s50) (k : AV → Option Ω) : evFn C instr_Bytes.sp fuel Tryd.f40 (Tryd.f40.body.getD .skip) [(.v E_s50 (x0))] k = instr_Bytes.s x0 (fun r => k (tupAV .str [] r)) := by kernel_rfl
def instr_Bytes.t (x0 : T_s50) : ByteArray :=
  (ofBytes [x0.1, x0.2.1, x0.2.2.1, x0.2.2.2.1])
theorem instr_Bytes.v {Ω : Type} (x0 : T_s50) (k : ByteArray → Option Ω) : instr_Bytes.s x0 k = k (instr_Bytes.t x0) := by
  delta instr_Bytes.s instr_Bytes.t; exact rfl
theorem instr_Bytes.c (x0 : T_s50) : Contract C 40 [(.v E_s50 (x0))] (tupAV .str [] (instr_Bytes.t x0)) :=
  contract_s (S := fun k => instr_Bytes.s x0 k) C_ok noS_ok (by kernel_rfl) (by kernel_rfl) (by kernel_rfl) (instr_Bytes.ev ⟨1, fun _ => []⟩ x0 (dec .str [])) (instr_Bytes.v x0 some)
noncomputable def instr_Bytes.e : Ent := argI E_s50 fun x0 => endT (tupAV .str [] (instr_Bytes.t x0))
theorem instr_Bytes.e_ok : EntOK C 40 (fun {_} => instr_Bytes.e) := entA_ok (argI_ok fun x0 => endT_ok (instr_Bytes.c x0))

/-- becket becketref10.Bytes -/
noncomputable def ref10_Bytes.sp : Spec := noS
def ref10_Bytes.s {Ω : Type} (x0 : T_s50) (k : (List Int) → Option Ω) : Option Ω :=
  k [(IntKind.wrap .i64 x0.1), (IntKind.wrap .i64 x0.2.1), (IntKind.wrap .i64 x0.2.2.1), (IntKind.wrap .i64 x0.2.2.2.1)]
theorem ref10_Bytes.ev {Ω : Type} (fuel : Fuel) (x0 : T_s50) (k : AV → Option Ω) : evFn C ref10_Bytes.sp fuel Tryd.f55 (Tryd.f55.body.getD .skip) [(.v E_s50 (x0))] k = ref10_Bytes.s x0 (fun r => k (tupAV (.slice (.int .i64)) [] r)) := by kernel_rfl
def ref10_Bytes.t (x0 : T_s50) : (List Int) :=
  [(IntKind.wrap .i64 x0.1), (IntKind.wrap .i64 x0.2.1), (IntKind.wrap .i64 x0.2.2.1), (IntKind.wrap .i64 x0.2.2.2.1)]
theorem ref10_Bytes.v {Ω : Type} (x0 : T_s50) (k : (List Int) → Option Ω) : ref10_Bytes.s x0 k = k (ref10_Bytes.t x0) := by
  delta ref10_Bytes.s ref10_Bytes.t; exact rfl
theorem ref10_Bytes.c (x0 : T_s50) : Contract C 55 [(.v E_s50 (x0))] (tupAV (.slice (.int .i64)) [] (ref10_Bytes.t x0)) :=
  contract_s (S := fun k => ref10_Bytes.s x0 k) C_ok noS_ok (by kernel_rfl) (by kernel_rfl) (by kernel_rfl) (ref10_Bytes.ev ⟨1, fun _ => []⟩ x0 (dec (.slice (.int .i64)) [])) (ref10_Bytes.v x0 some)
noncomputable def ref10_Bytes.e : Ent := argI E_s50 fun x0 => endT (tupAV (.slice (.int .i64)) [] (ref10_Bytes.t x0))
theorem ref10_Bytes.e_ok : EntOK C 55 (fun {_} => ref10_Bytes.e) := entA_ok (argI_ok fun x0 => endT_ok (ref10_Bytes.c x0))

/-- becket becketref10.Place -/
noncomputable def ref10_Place.sp : Spec := (orS 55 (fun {_} => ref10_Bytes.e) (orS 44 (fun {_} => ref09_Of.e) noS))
def ref10_Place.F (fuel : Nat) : Fuel := ⟨fuel, fun r => bif r == 3 then [0, 2, 3, 6, 7, 8, 9, 10, 11, 12, 13, 14, 15, 16, 17, 18, 19, 20, 21, 22, 23, 24, 25, 26, 27] else []⟩
def ref10_Place.E0 (e3_1 : T_s50) (e3_2 : T_s81) (s3 : Int) : List AV := [.dead, (.ref 0 []), .dead, .dead, (.ref 1 []), (.v (.int .i64) (s3)), .dead, .dead, .dead, .dead, .dead, .dead, .dead, .dead, .dead, .dead, .dead, .dead, .dead, .dead, .dead, .dead, .dead, .dead, .dead, .dead, .dead, .dead]
def ref10_Place.H0 (e3_1 : T_s50) (e3_2 : T_s81) (s3 : Int) : Heap := [(.box E_s50 e3_1 false), (.box E_s81 e3_2 false)]
noncomputable def ref10_Place.M0 {Ω : Type} (fuel : Nat) (e3_1 : T_s50) (e3_2 : T_s81)  (k : AV → Option Ω) (m : Nat) (s : Int) : Option Ω := loopK (fun env L k => evCode C ref10_Place.sp (ref10_Place.F fuel) (cl (cl (cr (cl (cr (cr (Tryd.f45.body.getD .skip))))))) env L k) [true, false, true, true, false, false, true, true, true, true, true, true, true, true, true, true, true, true, true, true, true, true, true, true, true, true, true, true] 2 (blockK 0 (seqK (fun env L => evCode C ref10_Place.sp (ref10_Place.F fuel) (cr (cr (cr (Tryd.f45.body.getD .skip)))) env L (finK C Tryd.f45 k)) (finK C Tryd.f45 k))) m ((ref10_Place.E0 e3_1 e3_2) s) ((ref10_Place.H0 e3_1 e3_2) s)
def ref10_Place.b0 {Ω : Type} (e3_1 : T_s50) (e3_2 : T_s81)   (k : Int × Bool → Option Ω) (r3 : Int → Option Ω) (s3 : Int) : Option Ω :=
  bif (decide (s3 < ((e3_2.2.1).size : Int))) then
    bif (idxOK s3 (e3_2.2.1).size) then
      bif ((bAt e3_2.2.1 (Int.toNat s3)) == 116) then
        bif (idxOK (IntKind.wrap .i64 (s3 + 1)) (List.length (ref10_Bytes.t e3_1))) then
          k ((List.getD (ref10_Bytes.t e3_1) (Int.toNat (IntKind.wrap .i64 (s3 + 1))) 0), true)
        else
          none
      else
        r3 ((IntKind.wrap .i64 (s3 + 1)))
    else
      none
  else
    k (0, false)
def ref10_Place.B0 {Ω : Type} (fuel : Nat) (e3_1 : T_s50) (e3_2 : T_s81)  (k : Int × Bool → Option Ω) (r3 : Int → Option Ω) (s3 : Int) : Option Ω := ref10_Place.b0 e3_1 e3_2   k r3 s3
theorem ref10_Place.l0 {Ω : Type} (fuel : Nat) (e3_1 : T_s50) (e3_2 : T_s81)  (k : AV → Option Ω) : ∀ m, (ref10_Place.M0 fuel e3_1 e3_2  k m) = iter (ref10_Place.B0 fuel e3_1 e3_2  (fun r => k (tupAV (.int .i64) [.bool] r))) m :=
  loopK_iter (envOf := (ref10_Place.E0 e3_1 e3_2)) (LOf := (ref10_Place.H0 e3_1 e3_2)) (B := ref10_Place.B0 fuel e3_1 e3_2  (fun r => k (tupAV (.int .i64) [.bool] r))) (fun R s => by kernel_rfl)
def ref10_Place.sl {Ω : Type} (x0 : T_s50) (lp0 : T_s50 → T_s81 → Int → Option Ω) (k : Int × Bool → Option Ω) : Option Ω :=
  (ref09_Of.u (IntKind.wrap .i64 x0.1)).bind fun y1 =>
  lp0 x0 y1 (0)
def ref10_Place.s {Ω : Type} (fuel : Nat) (x0 : T_s50) (k : Int × Bool → Option Ω) : Option Ω := ref10_Place.sl x0 (fun e3_1 e3_2 => (iter (ref10_Place.B0 fuel e3_1 e3_2  k) fuel)) k
theorem ref10_Place.ev {Ω : Type} (fuel : Nat) (x0 : T_s50) (k : AV → Option Ω) : evFn C ref10_Place.sp (ref10_Place.F fuel) Tryd.f45 (Tryd.f45.body.getD .skip) [(.v E_s50 (x0))] k = ref10_Place.s fuel x0 (fun r => k (tupAV (.int .i64) [.bool] r)) := by
  have h0 : evFn C ref10_Place.sp (ref10_Place.F fuel) Tryd.f45 (Tryd.f45.body.getD .skip) [(.v E_s50 (x0))] k = ref10_Place.sl x0 (fun e3_1 e3_2 => (ref10_Place.M0 fuel e3_1 e3_2  k fuel)) (fun r => k (tupAV (.int .i64) [.bool] r)) := by kernel_rfl
  have h1 : (fun e3_1 e3_2 => (ref10_Place.M0 fuel e3_1 e3_2  k fuel)) = (fun e3_1 e3_2 => (iter (ref10_Place.B0 fuel e3_1 e3_2  (fun r => k (tupAV (.int .i64) [.bool] r))) fuel)) := funext fun e3_1 => funext fun e3_2 => ref10_Place.l0 fuel e3_1 e3_2   k fuel
  rw [h1] at h0
  exact h0
def ref10_Place.g0 {Ω : Type} (e3_1 : T_s50) (e3_2 : T_s81)  (k : Int × Bool → Option Ω) : Nat → Int → Option Ω
  | 0, i3 =>
    k (0, false)
  | d3 + 1, i3 =>
    bif (idxOK i3 (e3_2.2.1).size) then
      bif ((bAt e3_2.2.1 (Int.toNat i3)) == 116) then
        bif (idxOK (IntKind.wrap .i64 (i3 + 1)) (List.length (ref10_Bytes.t e3_1))) then
          k ((List.getD (ref10_Bytes.t e3_1) (Int.toNat (IntKind.wrap .i64 (i3 + 1))) 0), true)
        else
          none
      else
        ref10_Place.g0 e3_1 e3_2  k d3 (i3 + 1)
    else
      none
theorem ref10_Place.h0 {Ω : Type} (e3_1 : T_s50) (e3_2 : T_s81)   (k : Int × Bool → Option Ω) (hN : (((e3_2.2.1).size : Int) : Int) ≤ 9223372036854775807) : ∀ (m : Nat) (i : Int) (a : Unit), -9223372036854775808 ≤ i → Int.toNat ((((e3_2.2.1).size : Int) : Int) - i) < m → Le (ref10_Place.g0 e3_1 e3_2  k (Int.toNat ((((e3_2.2.1).size : Int) : Int) - i)) i) (iter (ref10_Place.B0 BIG e3_1 e3_2  k) m (i)) :=
  iter_count (((e3_2.2.1).size : Int) : Int) (fun i3 => (decide (i3 < ((e3_2.2.1).size : Int)))) (fun i => rfl) (fun (i3 : Int) (a3 : Unit) => (i3)) (fun xs i3 a3 => ref10_Place.g0 e3_1 e3_2  k xs i3) (ref10_Place.B0 BIG e3_1 e3_2  k)
    (fun i3 a3 r h0 => (Le.fls h0 (Le.refl _)))
    (fun i3 d3 a3 r h0 hw ih => (Le.tru h0 (Le.cond (Le.cond (Le.cond (Le.refl _) Le.nil) (ih _ hw ())) Le.nil)))
    hN
def ref10_Place.w {Ω : Type} (x0 : T_s50) (k : Int × Bool → Option Ω) : Option Ω :=
  (ref09_Of.u (IntKind.wrap .i64 x0.1)).bind fun y1 =>
  bif (decide (((y1.2.1).size : Int) ≤ 4611686018427387904)) then ref10_Place.g0 x0 y1  k ((Int.toNat (((y1.2.1).size : Int) - 0))) 0 else none
theorem ref10_Place.le {Ω : Type} (x0 : T_s50) (k : Int × Bool → Option Ω) : Le (ref10_Place.w x0 k) (ref10_Place.s BIG x0 k) := by
  delta ref10_Place.w ref10_Place.s ref10_Place.sl
  exact (Le.bnd fun y1 => (Le.gd fun hg => ref10_Place.h0 _ _   k (cnt_up hg) BIG 0 () (by decide) (cnt_big hg (by decide))))
def ref10_Place.u (x0 : T_s50) : Option (Int × Bool) := ref10_Place.w x0 some
theorem ref10_Place.c (x0 : T_s50) (r : Int × Bool) (h : ref10_Place.u x0 = some r) : Contract C 45 [(.v E_s50 (x0))] (tupAV (.int .i64) [.bool] r) :=
  contract_s (S := fun k => ref10_Place.s BIG x0 k) C_ok (orS_ok ref10_Bytes.e_ok (orS_ok ref09_Of.e_ok noS_ok)) (by kernel_rfl) (by kernel_rfl) (by kernel_rfl) (ref10_Place.ev BIG x0 (dec (.int .i64) [.bool])) (ref10_Place.le x0 some r h)
noncomputable def ref10_Place.e : Ent := argI E_s50 fun x0 => endU (ref10_Place.u x0) (tupAV (.int .i64) [.bool])
theorem ref10_Place.e_ok : EntOK C 45 (fun {_} => ref10_Place.e) := entA_ok (argI_ok fun x0 => endU_ok fun r h => ref10_Place.c x0 r h)

/-- becket instr.Read -/
noncomputable def instr_Read.sp : Spec := (orS 25 (fun {_} => instr_Check.e) noS)
def instr_Read.s {Ω : Type} (x0 : ByteArray) (x1 : Int) (k : T_s50 × Int → Option Ω) : Option Ω :=
  bif (decide (x1 < 0)) then
    k ((0, (0, (0, (0, ())))), 8)
  else
    bif (decide (x1 > ((x0).size : Int))) then
      k ((0, (0, (0, (0, ())))), 8)
    else
      bif (decide ((IntKind.wrap .i64 (((x0).size : Int) - x1)) < 4)) then
        k ((0, (0, (0, (0, ())))), 4)
      else
        bif (idxOK x1 (x0).size) then
          bif (idxOK (IntKind.wrap .i64 (x1 + 1)) (x0).size) then
            bif (idxOK (IntKind.wrap .i64 (x1 + 2)) (x0).size) then
              bif (idxOK (IntKind.wrap .i64 (x1 + 3)) (x0).size) then
                let v1 : T_s50 := ((bAt x0 (Int.toNat x1)), ((bAt x0 (Int.toNat (IntKind.wrap .i64 (x1 + 1)))), ((bAt x0 (Int.toNat (IntKind.wrap .i64 (x1 + 2)))), ((bAt x0 (Int.toNat (IntKind.wrap .i64 (x1 + 3)))), ()))))
                (instr_Check.u v1).bind fun y2 =>
                bif (y2 != 0) then
                  k ((0, (0, (0, (0, ())))), y2)
                else
                  let v3 : T_s50 := ((bAt x0 (Int.toNat x1)), ((bAt x0 (Int.toNat (IntKind.wrap .i64 (x1 + 1)))), ((bAt x0 (Int.toNat (IntKind.wrap .i64 (x1 + 2)))), ((bAt x0 (Int.toNat (IntKind.wrap .i64 (x1 + 3)))), ()))))
                  k (v3, 0)
              else
                none
            else
              none
          else
            none
        else
          none
theorem instr_Read.ev {Ω : Type} (fuel : Fuel) (x0 : ByteArray) (x1 : Int) (k : AV → Option Ω) : evFn CK instr_Read.sp fuel Tryd.f47 (Tryd.f47.body.getD .skip) [(.v .str (x0)), (.v (.int .i64) (x1))] k = instr_Read.s x0 x1 (fun r => k (tupAV E_s50 [(.int .i64)] r)) := by kernel_rfl
def instr_Read.u (x0 : ByteArray) (x1 : Int) : Option (T_s50 × Int) := instr_Read.s x0 x1 some
theorem instr_Read.c (x0 : ByteArray) (x1 : Int) (r : T_s50 × Int) (h : instr_Read.u x0 x1 = some r) : Contract CK 47 [(.v .str (x0)), (.v (.int .i64) (x1))] (tupAV E_s50 [(.int .i64)] r) :=
  contract_s (S := fun k => instr_Read.s x0 x1 k) CK_ok (orS_ok instr_Check.e_ok noS_ok) (by kernel_rfl) (by kernel_rfl) (by kernel_rfl) (instr_Read.ev ⟨1, fun _ => []⟩ x0 x1 (dec E_s50 [(.int .i64)])) h
noncomputable def instr_Read.e : Ent := argI .str fun x0 => argI (.int .i64) fun x1 => endU (instr_Read.u x0 x1) (tupAV E_s50 [(.int .i64)])
theorem instr_Read.e_ok : EntOK CK 47 (fun {_} => instr_Read.e) := entA_ok (argI_ok fun x0 => argI_ok fun x1 => endU_ok fun r h => instr_Read.c x0 x1 r h)

/-- becket becketref10.ends -/
noncomputable def ref10_ends.sp : Spec := noS
def ref10_ends.s {Ω : Type} (x0 : Int) (k : Int × Int → Option Ω) : Option Ω :=
  bif (x0 == 114) then
    k (0, 7)
  else
    bif (x0 == 116) then
      k (0, 64)
    else
      bif (x0 == 99) then
        k (0, 7)
      else
        bif (x0 == 98) then
          k (0, 7)
        else
          bif (x0 == 112) then
            k (0, 7)
          else
            bif (x0 == 107) then
              k (0, 3)
            else
              bif (x0 == 109) then
                k (0, 2)
              else
                bif (x0 == 110) then
                  k (1, 6)
                else
                  bif (x0 == 103) then
                    k (0, 8)
                  else
                    bif (x0 == 115) then
                      k (1, 255)
                    else
                      k (0, 255)
theorem ref10_ends.ev {Ω : Type} (fuel : Fuel) (x0 : Int) (k : AV → Option Ω) : evFn C ref10_ends.sp fuel Tryd.f86 (Tryd.f86.body.getD .skip) [(.v (.int .u8) (x0))] k = ref10_ends.s x0 (fun r => k (tupAV (.int .i64) [(.int .i64)] r)) := by kernel_rfl
def ref10_ends.t (x0 : Int) : Int × Int :=
  bif (x0 == 114) then
    (0, 7)
  else
    bif (x0 == 116) then
      (0, 64)
    else
      bif (x0 == 99) then
        (0, 7)
      else
        bif (x0 == 98) then
          (0, 7)
        else
          bif (x0 == 112) then
            (0, 7)
          else
            bif (x0 == 107) then
              (0, 3)
            else
              bif (x0 == 109) then
                (0, 2)
              else
                bif (x0 == 110) then
                  (1, 6)
                else
                  bif (x0 == 103) then
                    (0, 8)
                  else
                    bif (x0 == 115) then
                      (1, 255)
                    else
                      (0, 255)
theorem ref10_ends.v {Ω : Type} (x0 : Int) (k : Int × Int → Option Ω) : ref10_ends.s x0 k = k (ref10_ends.t x0) := by
  delta ref10_ends.s ref10_ends.t; exact (cond_tot rfl (cond_tot rfl (cond_tot rfl (cond_tot rfl (cond_tot rfl (cond_tot rfl (cond_tot rfl (cond_tot rfl (cond_tot rfl (cond_tot rfl rfl))))))))))
theorem ref10_ends.c (x0 : Int) : Contract C 86 [(.v (.int .u8) (x0))] (tupAV (.int .i64) [(.int .i64)] (ref10_ends.t x0)) :=
  contract_s (S := fun k => ref10_ends.s x0 k) C_ok noS_ok (by kernel_rfl) (by kernel_rfl) (by kernel_rfl) (ref10_ends.ev ⟨1, fun _ => []⟩ x0 (dec (.int .i64) [(.int .i64)])) (ref10_ends.v x0 some)
noncomputable def ref10_ends.e : Ent := argI (.int .u8) fun x0 => endT (tupAV (.int .i64) [(.int .i64)] (ref10_ends.t x0))
theorem ref10_ends.e_ok : EntOK C 86 (fun {_} => ref10_ends.e) := entA_ok (argI_ok fun x0 => endT_ok (ref10_ends.c x0))

/-- becket becketref10.Check -/
noncomputable def ref10_Check.sp : Spec := (orS 86 (fun {_} => ref10_ends.e) (orS 55 (fun {_} => ref10_Bytes.e) (orS 44 (fun {_} => ref09_Of.e) noS)))
def ref10_Check.F (fuel : Nat) : Fuel := ⟨fuel, fun r => bif r == 6 then [0, 1, 2, 6, 7, 8, 9, 10, 11, 12, 13, 14, 15, 16, 17, 18, 19, 20, 21, 22, 23, 24, 25, 26, 27, 28, 29, 30, 31, 32, 33, 34, 35, 36, 37, 38, 39, 40, 41, 42, 43, 44, 45, 46, 47, 48, 49, 50, 51, 52, 53, 54, 55] else []⟩
def ref10_Check.E0 (e6_1 : (List Int)) (e6_2 : T_s50) (e6_3 : T_s81) (s6 : Int) : List AV := [.dead, .dead, .dead, (.v (.slice (.int .i64)) (e6_1)), (.ref 1 []), (.v (.int .i64) (s6)), .dead, .dead, .dead, .dead, .dead, .dead, .dead, .dead, .dead, .dead, .dead, .dead, .dead, .dead, .dead, .dead, .dead, .dead, .dead, .dead, .dead, .dead, .dead, .dead, .dead, .dead, .dead, .dead, .dead, .dead, .dead, .dead, .dead, .dead, .dead, .dead, .dead, .dead, .dead, .dead, .dead, .dead, .dead, .dead, .dead, .dead, .dead, .dead, .dead, .dead]
def ref10_Check.H0 (e6_1 : (List Int)) (e6_2 : T_s50) (e6_3 : T_s81) (s6 : Int) : Heap := [(.box E_s50 e6_2 false), (.box E_s81 e6_3 false)]
noncomputable def ref10_Check.M0 {Ω : Type} (fuel : Nat) (e6_1 : (List Int)) (e6_2 : T_s50) (e6_3 : T_s81)  (k : AV → Option Ω) (m : Nat) (s : Int) : Option Ω := loopK (fun env L k => evCode C ref10_Check.sp (ref10_Check.F fuel) (cl (cl (cr (cl (cr (cr (cr (cr (Tryd.f54.body.getD .skip))))))))) env L k) [true, true, true, false, false, false, true, true, true, true, true, true, true, true, true, true, true, true, true, true, true, true, true, true, true, true, true, true, true, true, true, true, true, true, true, true, true, true, true, true, true, true, true, true, true, true, true, true, true, true, true, true, true, true, true, true] 2 (blockK 0 (seqK (fun env L => evCode C ref10_Check.sp (ref10_Check.F fuel) (cr (cr (cr (cr (cr (Tryd.f54.body.getD .skip)))))) env L (finK C Tryd.f54 k)) (finK C Tryd.f54 k))) m ((ref10_Check.E0 e6_1 e6_2 e6_3) s) ((ref10_Check.H0 e6_1 e6_2 e6_3) s)
def ref10_Check.b0 {Ω : Type} (e6_1 : (List Int)) (e6_2 : T_s50) (e6_3 : T_s81)   (k : Int → Option Ω) (r6 : Int → Option Ω) (s6 : Int) : Option Ω :=
  bif (decide (s6 < 3)) then
    bif (idxOK s6 (e6_3.2.1).size) then
      bif ((bAt e6_3.2.1 (Int.toNat s6)) == 45) then
        bif (idxOK (IntKind.wrap .i64 (s6 + 1)) (List.length e6_1)) then
          bif ((List.getD e6_1 (Int.toNat (IntKind.wrap .i64 (s6 + 1))) 0) != 0) then
            k 3
          else
            r6 ((IntKind.wrap .i64 (s6 + 1)))
        else
          none
      else
        bif (idxOK s6 (e6_3.2.1).size) then
          let v2 : Int × Int := (ref10_ends.t ((bAt e6_3.2.1 (Int.toNat s6))))
          bif (idxOK (IntKind.wrap .i64 (s6 + 1)) (List.length e6_1)) then
            bif (decide ((List.getD e6_1 (Int.toNat (IntKind.wrap .i64 (s6 + 1))) 0) < v2.1)) then
              k 8
            else
              bif (idxOK (IntKind.wrap .i64 (s6 + 1)) (List.length e6_1)) then
                bif (decide ((List.getD e6_1 (Int.toNat (IntKind.wrap .i64 (s6 + 1))) 0) > v2.2)) then
                  k 8
                else
                  r6 ((IntKind.wrap .i64 (s6 + 1)))
              else
                none
          else
            none
        else
          none
    else
      none
  else
    k 0
def ref10_Check.B0 {Ω : Type} (fuel : Nat) (e6_1 : (List Int)) (e6_2 : T_s50) (e6_3 : T_s81)  (k : Int → Option Ω) (r6 : Int → Option Ω) (s6 : Int) : Option Ω := ref10_Check.b0 e6_1 e6_2 e6_3   k r6 s6
theorem ref10_Check.l0 {Ω : Type} (fuel : Nat) (e6_1 : (List Int)) (e6_2 : T_s50) (e6_3 : T_s81)  (k : AV → Option Ω) : ∀ m, (ref10_Check.M0 fuel e6_1 e6_2 e6_3  k m) = iter (ref10_Check.B0 fuel e6_1 e6_2 e6_3  (fun r => k (tupAV (.int .i64) [] r))) m :=
  loopK_iter (envOf := (ref10_Check.E0 e6_1 e6_2 e6_3)) (LOf := (ref10_Check.H0 e6_1 e6_2 e6_3)) (B := ref10_Check.B0 fuel e6_1 e6_2 e6_3  (fun r => k (tupAV (.int .i64) [] r))) (fun R s => by kernel_rfl)
def ref10_Check.sl {Ω : Type} (x0 : T_s50) (lp0 : (List Int) → T_s50 → T_s81 → Int → Option Ω) (k : Int → Option Ω) : Option Ω :=
  bif (idxOK 0 (List.length (ref10_Bytes.t x0))) then
    (ref09_Of.u ((List.getD (ref10_Bytes.t x0) 0 0))).bind fun y1 =>
    bif (decide (y1.2.2.1 < 0)) then
      k 18
    else
      lp0 (ref10_Bytes.t x0) x0 y1 (0)
  else
    none
def ref10_Check.s {Ω : Type} (fuel : Nat) (x0 : T_s50) (k : Int → Option Ω) : Option Ω := ref10_Check.sl x0 (fun e6_1 e6_2 e6_3 => (iter (ref10_Check.B0 fuel e6_1 e6_2 e6_3  k) fuel)) k
theorem ref10_Check.ev {Ω : Type} (fuel : Nat) (x0 : T_s50) (k : AV → Option Ω) : evFn C ref10_Check.sp (ref10_Check.F fuel) Tryd.f54 (Tryd.f54.body.getD .skip) [(.v E_s50 (x0))] k = ref10_Check.s fuel x0 (fun r => k (tupAV (.int .i64) [] r)) := by
  have h0 : evFn C ref10_Check.sp (ref10_Check.F fuel) Tryd.f54 (Tryd.f54.body.getD .skip) [(.v E_s50 (x0))] k = ref10_Check.sl x0 (fun e6_1 e6_2 e6_3 => (ref10_Check.M0 fuel e6_1 e6_2 e6_3  k fuel)) (fun r => k (tupAV (.int .i64) [] r)) := by kernel_rfl
  have h1 : (fun e6_1 e6_2 e6_3 => (ref10_Check.M0 fuel e6_1 e6_2 e6_3  k fuel)) = (fun e6_1 e6_2 e6_3 => (iter (ref10_Check.B0 fuel e6_1 e6_2 e6_3  (fun r => k (tupAV (.int .i64) [] r))) fuel)) := funext fun e6_1 => funext fun e6_2 => funext fun e6_3 => ref10_Check.l0 fuel e6_1 e6_2 e6_3   k fuel
  rw [h1] at h0
  exact h0
def ref10_Check.g0 {Ω : Type} (e6_1 : (List Int)) (e6_2 : T_s50) (e6_3 : T_s81)  (k : Int → Option Ω) : Nat → Int → Option Ω
  | 0, i6 =>
    k 0
  | d6 + 1, i6 =>
    bif (idxOK i6 (e6_3.2.1).size) then
      bif ((bAt e6_3.2.1 (Int.toNat i6)) == 45) then
        bif (idxOK (IntKind.wrap .i64 (i6 + 1)) (List.length e6_1)) then
          bif ((List.getD e6_1 (Int.toNat (IntKind.wrap .i64 (i6 + 1))) 0) != 0) then
            k 3
          else
            ref10_Check.g0 e6_1 e6_2 e6_3  k d6 (i6 + 1)
        else
          none
      else
        bif (idxOK i6 (e6_3.2.1).size) then
          let v2 : Int × Int := (ref10_ends.t ((bAt e6_3.2.1 (Int.toNat i6))))
          bif (idxOK (IntKind.wrap .i64 (i6 + 1)) (List.length e6_1)) then
            bif (decide ((List.getD e6_1 (Int.toNat (IntKind.wrap .i64 (i6 + 1))) 0) < v2.1)) then
              k 8
            else
              bif (idxOK (IntKind.wrap .i64 (i6 + 1)) (List.length e6_1)) then
                bif (decide ((List.getD e6_1 (Int.toNat (IntKind.wrap .i64 (i6 + 1))) 0) > v2.2)) then
                  k 8
                else
                  ref10_Check.g0 e6_1 e6_2 e6_3  k d6 (i6 + 1)
              else
                none
          else
            none
        else
          none
    else
      none
theorem ref10_Check.h0 {Ω : Type} (e6_1 : (List Int)) (e6_2 : T_s50) (e6_3 : T_s81)   (k : Int → Option Ω) (hN : (3 : Int) ≤ 9223372036854775807) : ∀ (m : Nat) (i : Int) (a : Unit), -9223372036854775808 ≤ i → Int.toNat ((3 : Int) - i) < m → Le (ref10_Check.g0 e6_1 e6_2 e6_3  k (Int.toNat ((3 : Int) - i)) i) (iter (ref10_Check.B0 BIG e6_1 e6_2 e6_3  k) m (i)) :=
  iter_count (3 : Int) (fun i6 => (decide (i6 < 3))) (fun i => rfl) (fun (i6 : Int) (a6 : Unit) => (i6)) (fun xs i6 a6 => ref10_Check.g0 e6_1 e6_2 e6_3  k xs i6) (ref10_Check.B0 BIG e6_1 e6_2 e6_3  k)
    (fun i6 a6 r h0 => (Le.fls h0 (Le.refl _)))
    (fun i6 d6 a6 r h0 hw ih => (Le.tru h0 (Le.cond (Le.cond (Le.cond (Le.cond (Le.refl _) (ih _ hw ())) Le.nil) (Le.cond (let v2 : Int × Int := (ref10_ends.t ((bAt e6_3.2.1 (Int.toNat i6)))); (Le.cond (Le.cond (Le.refl _) (Le.cond (Le.cond (Le.refl _) (ih _ hw ())) Le.nil)) Le.nil)) Le.nil)) Le.nil)))
    hN
def ref10_Check.w {Ω : Type} (x0 : T_s50) (k : Int → Option Ω) : Option Ω :=
  bif (idxOK 0 (List.length (ref10_Bytes.t x0))) then
    (ref09_Of.u ((List.getD (ref10_Bytes.t x0) 0 0))).bind fun y1 =>
    bif (decide (y1.2.2.1 < 0)) then
      k 18
    else
      ref10_Check.g0 (ref10_Bytes.t x0) x0 y1  k ((Int.toNat ((3 : Int) - 0))) 0
  else
    none
theorem ref10_Check.le {Ω : Type} (x0 : T_s50) (k : Int → Option Ω) : Le (ref10_Check.w x0 k) (ref10_Check.s BIG x0 k) := by
  delta ref10_Check.w ref10_Check.s ref10_Check.sl
  exact (Le.cond (Le.bnd fun y1 => (Le.cond (Le.refl _) (ref10_Check.h0 _ _ _   k (by decide) BIG 0 () (by decide) (by decide)))) Le.nil)
def ref10_Check.u (x0 : T_s50) : Option (Int) := ref10_Check.w x0 some
theorem ref10_Check.c (x0 : T_s50) (r : Int) (h : ref10_Check.u x0 = some r) : Contract C 54 [(.v E_s50 (x0))] (tupAV (.int .i64) [] r) :=
  contract_s (S := fun k => ref10_Check.s BIG x0 k) C_ok (orS_ok ref10_ends.e_ok (orS_ok ref10_Bytes.e_ok (orS_ok ref09_Of.e_ok noS_ok))) (by kernel_rfl) (by kernel_rfl) (by kernel_rfl) (ref10_Check.ev BIG x0 (dec (.int .i64) [])) (ref10_Check.le x0 some r h)
noncomputable def ref10_Check.e : Ent := argI E_s50 fun x0 => endU (ref10_Check.u x0) (tupAV (.int .i64) [])
theorem ref10_Check.e_ok : EntOK C 54 (fun {_} => ref10_Check.e) := entA_ok (argI_ok fun x0 => endU_ok fun r h => ref10_Check.c x0 r h)

/-- becket becketref10.Read -/
noncomputable def ref10_Read.sp : Spec := (orS 54 (fun {_} => ref10_Check.e) noS)
def ref10_Read.s {Ω : Type} (x0 : ByteArray) (x1 : Int) (k : T_s50 × Int → Option Ω) : Option Ω :=
  bif (decide (x1 < 0)) then
    k ((0, (0, (0, (0, ())))), 8)
  else
    bif (decide (x1 > ((x0).size : Int))) then
      k ((0, (0, (0, (0, ())))), 8)
    else
      bif (decide ((IntKind.wrap .i64 (((x0).size : Int) - x1)) < 4)) then
        k ((0, (0, (0, (0, ())))), 4)
      else
        bif (idxOK x1 (x0).size) then
          bif (idxOK (IntKind.wrap .i64 (x1 + 1)) (x0).size) then
            bif (idxOK (IntKind.wrap .i64 (x1 + 2)) (x0).size) then
              bif (idxOK (IntKind.wrap .i64 (x1 + 3)) (x0).size) then
                let v1 : T_s50 := ((bAt x0 (Int.toNat x1)), ((bAt x0 (Int.toNat (IntKind.wrap .i64 (x1 + 1)))), ((bAt x0 (Int.toNat (IntKind.wrap .i64 (x1 + 2)))), ((bAt x0 (Int.toNat (IntKind.wrap .i64 (x1 + 3)))), ()))))
                (ref10_Check.u v1).bind fun y2 =>
                bif (y2 != 0) then
                  k ((0, (0, (0, (0, ())))), y2)
                else
                  let v3 : T_s50 := ((bAt x0 (Int.toNat x1)), ((bAt x0 (Int.toNat (IntKind.wrap .i64 (x1 + 1)))), ((bAt x0 (Int.toNat (IntKind.wrap .i64 (x1 + 2)))), ((bAt x0 (Int.toNat (IntKind.wrap .i64 (x1 + 3)))), ()))))
                  k (v3, 0)
              else
                none
            else
              none
          else
            none
        else
          none
theorem ref10_Read.ev {Ω : Type} (fuel : Fuel) (x0 : ByteArray) (x1 : Int) (k : AV → Option Ω) : evFn C ref10_Read.sp fuel Tryd.f48 (Tryd.f48.body.getD .skip) [(.v .str (x0)), (.v (.int .i64) (x1))] k = ref10_Read.s x0 x1 (fun r => k (tupAV E_s50 [(.int .i64)] r)) := by kernel_rfl
def ref10_Read.u (x0 : ByteArray) (x1 : Int) : Option (T_s50 × Int) := ref10_Read.s x0 x1 some
theorem ref10_Read.c (x0 : ByteArray) (x1 : Int) (r : T_s50 × Int) (h : ref10_Read.u x0 x1 = some r) : Contract C 48 [(.v .str (x0)), (.v (.int .i64) (x1))] (tupAV E_s50 [(.int .i64)] r) :=
  contract_s (S := fun k => ref10_Read.s x0 x1 k) C_ok (orS_ok ref10_Check.e_ok noS_ok) (by kernel_rfl) (by kernel_rfl) (by kernel_rfl) (ref10_Read.ev ⟨1, fun _ => []⟩ x0 x1 (dec E_s50 [(.int .i64)])) h
noncomputable def ref10_Read.e : Ent := argI .str fun x0 => argI (.int .i64) fun x1 => endU (ref10_Read.u x0 x1) (tupAV E_s50 [(.int .i64)])
theorem ref10_Read.e_ok : EntOK C 48 (fun {_} => ref10_Read.e) := entA_ok (argI_ok fun x0 => argI_ok fun x1 => endU_ok fun r h => ref10_Read.c x0 x1 r h)

/-- becket becketref10.Num -/
noncomputable def ref10_Num.sp : Spec := (orS 44 (fun {_} => ref09_Of.e) noS)
def ref10_Num.s {Ω : Type} (x0 : T_s50) (k : Int → Option Ω) : Option Ω :=
  (ref09_Of.u (IntKind.wrap .i64 x0.1)).bind fun y1 =>
  bif (decide (y1.2.2.1 < 0)) then
    k 0
  else
    bif (idxOK 1 (y1.2.1).size) then
      bif ((bAt y1.2.1 1) != 105) then
        k 0
      else
        let v2 : Int := (IntKind.wrap .i64 ((IntKind.wrap .i64 (256 * (IntKind.wrap .i64 x0.2.2.1))) + (IntKind.wrap .i64 x0.2.2.2.1)))
        bif (decide (v2 ≥ 32768)) then
          k (IntKind.wrap .i64 (v2 - 65536))
        else
          k v2
    else
      none
theorem ref10_Num.ev {Ω : Type} (fuel : Fuel) (x0 : T_s50) (k : AV → Option Ω) : evFn C ref10_Num.sp fuel Tryd.f57 (Tryd.f57.body.getD .skip) [(.v E_s50 (x0))] k = ref10_Num.s x0 (fun r => k (tupAV (.int .i64) [] r)) := by kernel_rfl
def ref10_Num.u (x0 : T_s50) : Option (Int) := ref10_Num.s x0 some
theorem ref10_Num.c (x0 : T_s50) (r : Int) (h : ref10_Num.u x0 = some r) : Contract C 57 [(.v E_s50 (x0))] (tupAV (.int .i64) [] r) :=
  contract_s (S := fun k => ref10_Num.s x0 k) C_ok (orS_ok ref09_Of.e_ok noS_ok) (by kernel_rfl) (by kernel_rfl) (by kernel_rfl) (ref10_Num.ev ⟨1, fun _ => []⟩ x0 (dec (.int .i64) [])) h
noncomputable def ref10_Num.e : Ent := argI E_s50 fun x0 => endU (ref10_Num.u x0) (tupAV (.int .i64) [])
theorem ref10_Num.e_ok : EntOK C 57 (fun {_} => ref10_Num.e) := entA_ok (argI_ok fun x0 => endU_ok fun r h => ref10_Num.c x0 r h)

/-- strings.IndexByte -/
noncomputable def strings_IndexByte.sp : Spec := (orS 112 (fun {_} => internal_stringslite_IndexByte.e) noS)
def strings_IndexByte.s {Ω : Type} (x0 : ByteArray) (x1 : Int) (k : Int → Option Ω) : Option Ω :=
  k (internal_stringslite_IndexByte.t x0 x1)
theorem strings_IndexByte.ev {Ω : Type} (fuel : Fuel) (x0 : ByteArray) (x1 : Int) (k : AV → Option Ω) : evFn C strings_IndexByte.sp fuel Tryd.f92 (Tryd.f92.body.getD .skip) [(.v .str (x0)), (.v (.int .u8) (x1))] k = strings_IndexByte.s x0 x1 (fun r => k (tupAV (.int .i64) [] r)) := by kernel_rfl
def strings_IndexByte.t (x0 : ByteArray) (x1 : Int) : Int :=
  (internal_stringslite_IndexByte.t x0 x1)
theorem strings_IndexByte.v {Ω : Type} (x0 : ByteArray) (x1 : Int) (k : Int → Option Ω) : strings_IndexByte.s x0 x1 k = k (strings_IndexByte.t x0 x1) := by
  delta strings_IndexByte.s strings_IndexByte.t; exact rfl
theorem strings_IndexByte.c (x0 : ByteArray) (x1 : Int) : Contract C 92 [(.v .str (x0)), (.v (.int .u8) (x1))] (tupAV (.int .i64) [] (strings_IndexByte.t x0 x1)) :=
  contract_s (S := fun k => strings_IndexByte.s x0 x1 k) C_ok (orS_ok internal_stringslite_IndexByte.e_ok noS_ok) (by kernel_rfl) (by kernel_rfl) (by kernel_rfl) (strings_IndexByte.ev ⟨1, fun _ => []⟩ x0 x1 (dec (.int .i64) [])) (strings_IndexByte.v x0 x1 some)
noncomputable def strings_IndexByte.e : Ent := argI .str fun x0 => argI (.int .u8) fun x1 => endT (tupAV (.int .i64) [] (strings_IndexByte.t x0 x1))
theorem strings_IndexByte.e_ok : EntOK C 92 (fun {_} => strings_IndexByte.e) := entA_ok (argI_ok fun x0 => argI_ok fun x1 => endT_ok (strings_IndexByte.c x0 x1))

/-- becket instr.Place -/
noncomputable def instr_Place.sp : Spec := (orS 92 (fun {_} => strings_IndexByte.e) (orS 50 (fun {_} => instr_operands.e) (orS 49 (fun {_} => opcode_Form.e) noS)))
def instr_Place.s {Ω : Type} (x0 : T_s50) (k : Int × Bool → Option Ω) : Option Ω :=
  (opcode_Form.u (IntKind.wrap .i64 x0.1)).bind fun y1 =>
  bif (decide ((strings_IndexByte.t y1 116) < 0)) then
    k (0, false)
  else
    bif (idxOK (strings_IndexByte.t y1 116) 3) then
      let v2 : Int := (IntKind.wrap .i64 (List.getD (instr_operands.t x0) (Int.toNat (strings_IndexByte.t y1 116)) 0))
      k (v2, true)
    else
      none
theorem instr_Place.ev {Ω : Type} (fuel : Fuel) (x0 : T_s50) (k : AV → Option Ω) : evFn CK instr_Place.sp fuel Tryd.f76 (Tryd.f76.body.getD .skip) [(.v E_s50 (x0))] k = instr_Place.s x0 (fun r => k (tupAV (.int .i64) [.bool] r)) := by kernel_rfl
def instr_Place.u (x0 : T_s50) : Option (Int × Bool) := instr_Place.s x0 some
theorem instr_Place.c (x0 : T_s50) (r : Int × Bool) (h : instr_Place.u x0 = some r) : Contract CK 76 [(.v E_s50 (x0))] (tupAV (.int .i64) [.bool] r) :=
  contract_s (S := fun k => instr_Place.s x0 k) CK_ok (orS_ok (strings_IndexByte.e_ok.mono le_C_CK) (orS_ok (instr_operands.e_ok.mono le_C_CK) (orS_ok opcode_Form.e_ok noS_ok))) (by kernel_rfl) (by kernel_rfl) (by kernel_rfl) (instr_Place.ev ⟨1, fun _ => []⟩ x0 (dec (.int .i64) [.bool])) h
noncomputable def instr_Place.e : Ent := argI E_s50 fun x0 => endU (instr_Place.u x0) (tupAV (.int .i64) [.bool])
theorem instr_Place.e_ok : EntOK CK 76 (fun {_} => instr_Place.e) := entA_ok (argI_ok fun x0 => endU_ok fun r h => instr_Place.c x0 r h)

/-- becket instr.Num -/
noncomputable def instr_Num.sp : Spec := (orS 105 (fun {_} => strings_Contains.e) (orS 49 (fun {_} => opcode_Form.e) noS))
def instr_Num.s {Ω : Type} (x0 : T_s50) (k : Int → Option Ω) : Option Ω :=
  (opcode_Form.u (IntKind.wrap .i64 x0.1)).bind fun y1 =>
  (strings_Contains.u y1 (bs [105, 106])).bind fun y2 =>
  bif (!y2) then
    k 0
  else
    let v3 : Int := (IntKind.wrap .u16 ((IntKind.wrap .u16 x0.2.2.1) * (2 ^ (min (Int.toNat 8) (IntKind.bits .u16)))))
    let v4 : Int := (IntKind.wrap .u16 (BitVec.ofInt (IntKind.bits .u16) v3 ||| BitVec.ofInt (IntKind.bits .u16) (IntKind.wrap .u16 x0.2.2.2.1)).toNat)
    k (IntKind.wrap .i64 (IntKind.wrap .i16 v4))
theorem instr_Num.ev {Ω : Type} (fuel : Fuel) (x0 : T_s50) (k : AV → Option Ω) : evFn CKM instr_Num.sp fuel Tryd.f83 (Tryd.f83.body.getD .skip) [(.v E_s50 (x0))] k = instr_Num.s x0 (fun r => k (tupAV (.int .i64) [] r)) := by kernel_rfl
def instr_Num.u (x0 : T_s50) : Option (Int) := instr_Num.s x0 some
theorem instr_Num.c (x0 : T_s50) (r : Int) (h : instr_Num.u x0 = some r) : Contract CKM 83 [(.v E_s50 (x0))] (tupAV (.int .i64) [] r) :=
  contract_s (S := fun k => instr_Num.s x0 k) CKM_ok (orS_ok (strings_Contains.e_ok.mono le_CM_CKM) (orS_ok (opcode_Form.e_ok.mono le_CK_CKM) noS_ok)) (by kernel_rfl) (by kernel_rfl) (by kernel_rfl) (instr_Num.ev ⟨1, fun _ => []⟩ x0 (dec (.int .i64) [])) h
noncomputable def instr_Num.e : Ent := argI E_s50 fun x0 => endU (instr_Num.u x0) (tupAV (.int .i64) [])
theorem instr_Num.e_ok : EntOK CKM 83 (fun {_} => instr_Num.e) := entA_ok (argI_ok fun x0 => endU_ok fun r h => instr_Num.c x0 r h)

end Go.Proofs.YthamolhikhcilaaDoor.K

/- What functions of the program come to, plainly. -/
import Derived.Test.YtmmooplcdkmapaaGreatDoorZ09
set_option maxRecDepth 100000
set_option linter.unusedVariables false
namespace Go.Proofs.YtmmooplcdkmapaaGreatDoor.K
open Go Go.RowKit

def instr_operands.s {Ω : Type} (x0 : T_s36) (k : (List Int) → Option Ω) : Option Ω :=
  k (List.set (List.set (List.set (List.replicate 3 0) 0 x0.2.1) 1 x0.2.2.1) 2 x0.2.2.2.1)
def instr_operands.t (x0 : T_s36) : (List Int) :=
  (List.set (List.set (List.set (List.replicate 3 0) 0 x0.2.1) 1 x0.2.2.1) 2 x0.2.2.2.1)
theorem instr_operands.v {Ω : Type} (x0 : T_s36) (k : (List Int) → Option Ω) : instr_operands.s x0 k = k (instr_operands.t x0) := by
  delta instr_operands.s instr_operands.t; exact rfl
noncomputable def instr_operands.n : En CKMP := mkT CKMP_ok (es := []) (ms := []) (fuel := ⟨1, fun _ => []⟩) 40 Tryz.f40 [.ai E_s36] (.arr 3 (.int .u8)) [] (fun x {Ω} k => instr_operands.s x.1 k) (fun x => instr_operands.t x.1) (fun x Ω k => by kernel_rfl) (fun x => instr_operands.v x.1 some) (by kernel_rfl) (by kernel_rfl)

def instr_wrong.s {Ω : Type} (x0 : Int) (x1 : Int) (k : Int → Option Ω) : Option Ω :=
  bif (x0 == 45) then
    bif (x1 != 0) then
      k 3
    else
      bif (decide ((IntKind.wrap .i64 x1) < 0)) then
        k 8
      else
        bif (decide ((IntKind.wrap .i64 x1) > 0)) then
          k 8
        else
          k 0
  else
    bif (x0 == 103) then
      bif (x1 == 8) then
        k 0
      else
        bif (decide ((IntKind.wrap .i64 x1) < 0)) then
          k 8
        else
          bif (decide ((IntKind.wrap .i64 x1) > 7)) then
            k 8
          else
            k 0
    else
      bif (x0 == 114) then
        bif (decide ((IntKind.wrap .i64 x1) < 0)) then
          k 8
        else
          bif (decide ((IntKind.wrap .i64 x1) > 7)) then
            k 8
          else
            k 0
      else
        bif (x0 == 115) then
          bif (decide ((IntKind.wrap .i64 x1) < 1)) then
            k 8
          else
            bif (decide ((IntKind.wrap .i64 x1) > 255)) then
              k 8
            else
              k 0
        else
          bif (x0 == 105) then
            bif (decide ((IntKind.wrap .i64 x1) < 0)) then
              k 8
            else
              bif (decide ((IntKind.wrap .i64 x1) > 255)) then
                k 8
              else
                k 0
          else
            bif (x0 == 106) then
              bif (decide ((IntKind.wrap .i64 x1) < 0)) then
                k 8
              else
                bif (decide ((IntKind.wrap .i64 x1) > 255)) then
                  k 8
                else
                  k 0
            else
              bif (x0 == 116) then
                bif (decide ((IntKind.wrap .i64 x1) < 0)) then
                  k 8
                else
                  bif (decide ((IntKind.wrap .i64 x1) > 64)) then
                    k 8
                  else
                    k 0
              else
                bif (x0 == 99) then
                  bif (decide ((IntKind.wrap .i64 x1) < 0)) then
                    k 8
                  else
                    bif (decide ((IntKind.wrap .i64 x1) > 7)) then
                      k 8
                    else
                      k 0
                else
                  bif (x0 == 98) then
                    bif (decide ((IntKind.wrap .i64 x1) < 0)) then
                      k 8
                    else
                      bif (decide ((IntKind.wrap .i64 x1) > 7)) then
                        k 8
                      else
                        k 0
                  else
                    bif (x0 == 107) then
                      bif (decide ((IntKind.wrap .i64 x1) < 0)) then
                        k 8
                      else
                        bif (decide ((IntKind.wrap .i64 x1) > 3)) then
                          k 8
                        else
                          k 0
                    else
                      bif (x0 == 112) then
                        bif (decide ((IntKind.wrap .i64 x1) < 0)) then
                          k 8
                        else
                          bif (decide ((IntKind.wrap .i64 x1) > 7)) then
                            k 8
                          else
                            k 0
                      else
                        bif (x0 == 109) then
                          bif (decide ((IntKind.wrap .i64 x1) < 0)) then
                            k 8
                          else
                            bif (decide ((IntKind.wrap .i64 x1) > 2)) then
                              k 8
                            else
                              k 0
                        else
                          bif (x0 == 110) then
                            bif (decide ((IntKind.wrap .i64 x1) < 1)) then
                              k 8
                            else
                              bif (decide ((IntKind.wrap .i64 x1) > 6)) then
                                k 8
                              else
                                k 0
                          else
                            bif (decide ((IntKind.wrap .i64 x1) < 0)) then
                              k 8
                            else
                              bif (decide ((IntKind.wrap .i64 x1) > 0)) then
                                k 8
                              else
                                k 0
def instr_wrong.t (x0 : Int) (x1 : Int) : Int :=
  bif (x0 == 45) then
    bif (x1 != 0) then
      3
    else
      bif (decide ((IntKind.wrap .i64 x1) < 0)) then
        8
      else
        bif (decide ((IntKind.wrap .i64 x1) > 0)) then
          8
        else
          0
  else
    bif (x0 == 103) then
      bif (x1 == 8) then
        0
      else
        bif (decide ((IntKind.wrap .i64 x1) < 0)) then
          8
        else
          bif (decide ((IntKind.wrap .i64 x1) > 7)) then
            8
          else
            0
    else
      bif (x0 == 114) then
        bif (decide ((IntKind.wrap .i64 x1) < 0)) then
          8
        else
          bif (decide ((IntKind.wrap .i64 x1) > 7)) then
            8
          else
            0
      else
        bif (x0 == 115) then
          bif (decide ((IntKind.wrap .i64 x1) < 1)) then
            8
          else
            bif (decide ((IntKind.wrap .i64 x1) > 255)) then
              8
            else
              0
        else
          bif (x0 == 105) then
            bif (decide ((IntKind.wrap .i64 x1) < 0)) then
              8
            else
              bif (decide ((IntKind.wrap .i64 x1) > 255)) then
                8
              else
                0
          else
            bif (x0 == 106) then
              bif (decide ((IntKind.wrap .i64 x1) < 0)) then
                8
              else
                bif (decide ((IntKind.wrap .i64 x1) > 255)) then
                  8
                else
                  0
            else
              bif (x0 == 116) then
                bif (decide ((IntKind.wrap .i64 x1) < 0)) then
                  8
                else
                  bif (decide ((IntKind.wrap .i64 x1) > 64)) then
                    8
                  else
                    0
              else
                bif (x0 == 99) then
                  bif (decide ((IntKind.wrap .i64 x1) < 0)) then
                    8
                  else
                    bif (decide ((IntKind.wrap .i64 x1) > 7)) then
                      8
                    else
                      0
                else
                  bif (x0 == 98) then
                    bif (decide ((IntKind.wrap .i64 x1) < 0)) then
                      8
                    else
                      bif (decide ((IntKind.wrap .i64 x1) > 7)) then
                        8
                      else
                        0
                  else
                    bif (x0 == 107) then
                      bif (decide ((IntKind.wrap .i64 x1) < 0)) then
                        8
                      else
                        bif (decide ((IntKind.wrap .i64 x1) > 3)) then
                          8
                        else
                          0
                    else
                      bif (x0 == 112) then
                        bif (decide ((IntKind.wrap .i64 x1) < 0)) then
                          8
                        else
                          bif (decide ((IntKind.wrap .i64 x1) > 7)) then
                            8
                          else
                            0
                      else
                        bif (x0 == 109) then
                          bif (decide ((IntKind.wrap .i64 x1) < 0)) then
                            8
                          else
                            bif (decide ((IntKind.wrap .i64 x1) > 2)) then
                              8
                            else
                              0
                        else
                          bif (x0 == 110) then
                            bif (decide ((IntKind.wrap .i64 x1) < 1)) then
                              8
                            else
                              bif (decide ((IntKind.wrap .i64 x1) > 6)) then
                                8
                              else
                                0
                          else
                            bif (decide ((IntKind.wrap .i64 x1) < 0)) then
                              8
                            else
                              bif (decide ((IntKind.wrap .i64 x1) > 0)) then
                                8
                              else
                                0
theorem instr_wrong.v {Ω : Type} (x0 : Int) (x1 : Int) (k : Int → Option Ω) : instr_wrong.s x0 x1 k = k (instr_wrong.t x0 x1) := by
  delta instr_wrong.s instr_wrong.t; exact (cond_tot (cond_tot rfl (cond_tot rfl (cond_tot rfl rfl))) (cond_tot (cond_tot rfl (cond_tot rfl (cond_tot rfl rfl))) (cond_tot (cond_tot rfl (cond_tot rfl rfl)) (cond_tot (cond_tot rfl (cond_tot rfl rfl)) (cond_tot (cond_tot rfl (cond_tot rfl rfl)) (cond_tot (cond_tot rfl (cond_tot rfl rfl)) (cond_tot (cond_tot rfl (cond_tot rfl rfl)) (cond_tot (cond_tot rfl (cond_tot rfl rfl)) (cond_tot (cond_tot rfl (cond_tot rfl rfl)) (cond_tot (cond_tot rfl (cond_tot rfl rfl)) (cond_tot (cond_tot rfl (cond_tot rfl rfl)) (cond_tot (cond_tot rfl (cond_tot rfl rfl)) (cond_tot (cond_tot rfl (cond_tot rfl rfl)) (cond_tot rfl (cond_tot rfl rfl)))))))))))))))
noncomputable def instr_wrong.n : En CKMP := mkT CKMP_ok (es := []) (ms := []) (fuel := ⟨1, fun _ => []⟩) 41 Tryz.f41 [.ai (.int .u8), .ai (.int .u8)] (.int .i64) [] (fun x {Ω} k => instr_wrong.s x.1 x.2.1 k) (fun x => instr_wrong.t x.1 x.2.1) (fun x Ω k => by kernel_rfl) (fun x => instr_wrong.v x.1 x.2.1 some) (by kernel_rfl) (by kernel_rfl)

def instr_Check.F (fuel : Nat) : Fuel := ⟨fuel, fun r => bif r == 5 then mL 0 28 268386295 else []⟩
noncomputable def instr_Check.V {Ω : Type} (fuel c : Nat) (env : List AV) (L : Heap) (k : Kont Ω) : Option Ω := evCode CKMP (spE (C := CKMP) [opcode_Form.n, instr_operands.n, instr_wrong.n] []) (instr_Check.F fuel) (pCo c Tryz.f17) env L k
def instr_Check.E0 (e5_1 : ByteArray) (e5_2 : (List Int)) (e5_3 : T_s36) (s5 : Int) : List AV := (dZ 3 ((.v .str (e5_1)) :: dZ 10 ((.v (.arr 3 (.int .u8)) (e5_2)) :: (.v (.int .i64) (s5)) :: dZ 12 ([]))))
def instr_Check.H0 (e5_1 : ByteArray) (e5_2 : (List Int)) (e5_3 : T_s36) (s5 : Int) : Heap := [(.box E_s36 e5_3 false)]
noncomputable def instr_Check.M0 {Ω : Type} (fuel : Nat) (e5_1 : ByteArray) (e5_2 : (List Int)) (e5_3 : T_s36)  (k : AV → Option Ω) (m : Nat) (s : Int) : Option Ω := loopK (instr_Check.V fuel 151) (mB 28 268386295) [] 1 (blockK 0 (sqK (instr_Check.V fuel 31) (finK CKMP Tryz.f17 k))) m ((instr_Check.E0 e5_1 e5_2 e5_3) s) ((instr_Check.H0 e5_1 e5_2 e5_3) s)
def instr_Check.b0 {Ω : Type} (e5_1 : ByteArray) (e5_2 : (List Int)) (e5_3 : T_s36)   (k : Int → Option Ω) (r5 : Int → Option Ω) (s5 : Int) : Option Ω :=
 bif (decide (s5 < 3)) then
  bif (idxOK s5 3) then
   bif (idxOK s5 (e5_1).size) then
    bif ((instr_wrong.t ((bAt e5_1 (Int.toNat s5))) ((List.getD e5_2 (Int.toNat s5) 0))) != 0) then
     k (instr_wrong.t ((bAt e5_1 (Int.toNat s5))) ((List.getD e5_2 (Int.toNat s5) 0)))
    else
     r5 ((IntKind.wrap .i64 (s5 + 1)))
   else
    none
  else
   none
 else
  k 0
theorem instr_Check.l0 {Ω : Type} (fuel : Nat) (e5_1 : ByteArray) (e5_2 : (List Int)) (e5_3 : T_s36)  (k : AV → Option Ω) : ∀ m, (instr_Check.M0 fuel e5_1 e5_2 e5_3  k m) = iter (instr_Check.b0 e5_1 e5_2 e5_3  (fun r => k (tupAV (.int .i64) [] r))) m :=
 loopK_iter (envOf := (instr_Check.E0 e5_1 e5_2 e5_3)) (LOf := (instr_Check.H0 e5_1 e5_2 e5_3)) (B := instr_Check.b0 e5_1 e5_2 e5_3  (fun r => k (tupAV (.int .i64) [] r))) (fun R s => by kernel_rfl)
def instr_Check.sl {Ω : Type} (x0 : T_s36) (lp0 : ByteArray → (List Int) → T_s36 → Int → Option Ω) (k : Int → Option Ω) : Option Ω :=
 (opcode_Form.u (IntKind.wrap .i64 x0.1)).bind fun y1 =>
 bif ((y1).data.toList == ((bs [])).data.toList) then
  k 18
 else
  lp0 y1 (instr_operands.t x0) x0 (0)
def instr_Check.g0 {Ω : Type} (e5_1 : ByteArray) (e5_2 : (List Int)) (e5_3 : T_s36)  (k : Int → Option Ω) : Nat → Int → Option Ω
  | 0, i5 =>
  k 0
  | d5 + 1, i5 =>
  bif (idxOK i5 3) then
   bif (idxOK i5 (e5_1).size) then
    bif ((instr_wrong.t ((bAt e5_1 (Int.toNat i5))) ((List.getD e5_2 (Int.toNat i5) 0))) != 0) then
     k (instr_wrong.t ((bAt e5_1 (Int.toNat i5))) ((List.getD e5_2 (Int.toNat i5) 0)))
    else
     instr_Check.g0 e5_1 e5_2 e5_3  k d5 (i5 + 1)
   else
    none
  else
   none
theorem instr_Check.h0 {Ω : Type} (e5_1 : ByteArray) (e5_2 : (List Int)) (e5_3 : T_s36)   (k : Int → Option Ω) (hN : (3 : Int) ≤ 9223372036854775807) : ∀ (m : Nat) (i : Int) (a : Unit), -9223372036854775808 ≤ i → Int.toNat ((3 : Int) - i) < m → Le (instr_Check.g0 e5_1 e5_2 e5_3  k (Int.toNat ((3 : Int) - i)) i) (iter (instr_Check.b0 e5_1 e5_2 e5_3  k) m (i)) :=
  iter_count (3 : Int) (fun i5 => (decide (i5 < 3))) (fun i => rfl) (fun (i5 : Int) (a5 : Unit) => (i5)) (fun xs i5 a5 => instr_Check.g0 e5_1 e5_2 e5_3  k xs i5) (instr_Check.b0 e5_1 e5_2 e5_3  k)
    (fun i5 a5 r h0 => (Le.fls h0 (Le.refl _)))
    (fun i5 d5 a5 r h0 hw ih => (Le.tru h0 (Le.cond (Le.cond (Le.cond (Le.refl _) (ih _ hw ())) Le.nil) Le.nil)))
    hN
def instr_Check.w {Ω : Type} (x0 : T_s36) (k : Int → Option Ω) : Option Ω :=
 (opcode_Form.u (IntKind.wrap .i64 x0.1)).bind fun y1 =>
 bif ((y1).data.toList == ((bs [])).data.toList) then
  k 18
 else
  instr_Check.g0 y1 (instr_operands.t x0) x0  k ((Int.toNat ((3 : Int) - 0))) 0
theorem instr_Check.ev {Ω : Type} (fuel : Nat) (x0 : T_s36) (k : AV → Option Ω) : evFn CKMP (spE (C := CKMP) [opcode_Form.n, instr_operands.n, instr_wrong.n] []) (instr_Check.F fuel) Tryz.f17 (Tryz.f17.body.getD .skip) [(.v E_s36 (x0))] k = instr_Check.sl x0 (fun e5_1 e5_2 e5_3 => (instr_Check.M0 fuel e5_1 e5_2 e5_3  k fuel)) (fun r => k (tupAV (.int .i64) [] r)) := by kernel_rfl
theorem instr_Check.le {Ω : Type} (x0 : T_s36) (k : AV → Option Ω) : Le (instr_Check.w x0 (fun r => k (tupAV (.int .i64) [] r))) (instr_Check.sl x0 (fun e5_1 e5_2 e5_3 => (instr_Check.M0 BIG e5_1 e5_2 e5_3  k BIG)) (fun r => k (tupAV (.int .i64) [] r))) := by
 have h1 := funext fun (e5_1 : ByteArray) => funext fun (e5_2 : (List Int)) => funext fun (e5_3 : T_s36) => instr_Check.l0 BIG e5_1 e5_2 e5_3   k BIG
 rw [h1]
 delta instr_Check.w instr_Check.sl
 exact (Le.bnd fun y1 => (Le.cond (Le.refl _) (instr_Check.h0 _ _ _   _ (by decide) BIG 0 () (by decide) (by decide))))
def instr_Check.u (x0 : T_s36) : Option (Int) := instr_Check.w x0 some
noncomputable def instr_Check.n : En CKMP := mkE CKMP_ok (es := [opcode_Form.n, instr_operands.n, instr_wrong.n]) (ms := []) (fuel := (instr_Check.F BIG)) 17 Tryz.f17 [.ai E_s36] (.int .i64) [] (fun x {Ω} k => instr_Check.w x.1 k) (fun x Ω k => leV (instr_Check.ev BIG x.1 k) (instr_Check.le x.1 k)) (by kernel_rfl) (by kernel_rfl)

def ref10_Bytes.s {Ω : Type} (x0 : T_s36) (k : (List Int) → Option Ω) : Option Ω :=
  k [(IntKind.wrap .i64 x0.1), (IntKind.wrap .i64 x0.2.1), (IntKind.wrap .i64 x0.2.2.1), (IntKind.wrap .i64 x0.2.2.2.1)]
def ref10_Bytes.t (x0 : T_s36) : (List Int) :=
  [(IntKind.wrap .i64 x0.1), (IntKind.wrap .i64 x0.2.1), (IntKind.wrap .i64 x0.2.2.1), (IntKind.wrap .i64 x0.2.2.2.1)]
theorem ref10_Bytes.v {Ω : Type} (x0 : T_s36) (k : (List Int) → Option Ω) : ref10_Bytes.s x0 k = k (ref10_Bytes.t x0) := by
  delta ref10_Bytes.s ref10_Bytes.t; exact rfl
noncomputable def ref10_Bytes.n : En CKMP := mkT CKMP_ok (es := []) (ms := []) (fuel := ⟨1, fun _ => []⟩) 29 Tryz.f29 [.ai E_s36] (.slice (.int .i64)) [] (fun x {Ω} k => ref10_Bytes.s x.1 k) (fun x => ref10_Bytes.t x.1) (fun x Ω k => by kernel_rfl) (fun x => ref10_Bytes.v x.1 some) (by kernel_rfl) (by kernel_rfl)

def ref10_ends.s {Ω : Type} (x0 : Int) (k : Int × Int → Option Ω) : Option Ω :=
  bif (x0 == 114) then
    k (0, 7)
  else
    bif (x0 == 116) then
      k (0, 64)
    else
      bif (x0 == 99) then
        k (0, 7)
      else
        bif (x0 == 98) then
          k (0, 7)
        else
          bif (x0 == 112) then
            k (0, 7)
          else
            bif (x0 == 107) then
              k (0, 3)
            else
              bif (x0 == 109) then
                k (0, 2)
              else
                bif (x0 == 110) then
                  k (1, 6)
                else
                  bif (x0 == 103) then
                    k (0, 8)
                  else
                    bif (x0 == 115) then
                      k (1, 255)
                    else
                      k (0, 255)
def ref10_ends.t (x0 : Int) : Int × Int :=
  bif (x0 == 114) then
    (0, 7)
  else
    bif (x0 == 116) then
      (0, 64)
    else
      bif (x0 == 99) then
        (0, 7)
      else
        bif (x0 == 98) then
          (0, 7)
        else
          bif (x0 == 112) then
            (0, 7)
          else
            bif (x0 == 107) then
              (0, 3)
            else
              bif (x0 == 109) then
                (0, 2)
              else
                bif (x0 == 110) then
                  (1, 6)
                else
                  bif (x0 == 103) then
                    (0, 8)
                  else
                    bif (x0 == 115) then
                      (1, 255)
                    else
                      (0, 255)
theorem ref10_ends.v {Ω : Type} (x0 : Int) (k : Int × Int → Option Ω) : ref10_ends.s x0 k = k (ref10_ends.t x0) := by
  delta ref10_ends.s ref10_ends.t; exact (cond_tot rfl (cond_tot rfl (cond_tot rfl (cond_tot rfl (cond_tot rfl (cond_tot rfl (cond_tot rfl (cond_tot rfl (cond_tot rfl (cond_tot rfl rfl))))))))))
noncomputable def ref10_ends.n : En CKMP := mkT CKMP_ok (es := []) (ms := []) (fuel := ⟨1, fun _ => []⟩) 54 Tryz.f54 [.ai (.int .u8)] (.int .i64) [(.int .i64)] (fun x {Ω} k => ref10_ends.s x.1 k) (fun x => ref10_ends.t x.1) (fun x Ω k => by kernel_rfl) (fun x => ref10_ends.v x.1 some) (by kernel_rfl) (by kernel_rfl)

def ref10_Check.F (fuel : Nat) : Fuel := ⟨fuel, fun r => bif r == 6 then mL 0 56 72057594037927879 else []⟩
noncomputable def ref10_Check.V {Ω : Type} (fuel c : Nat) (env : List AV) (L : Heap) (k : Kont Ω) : Option Ω := evCode CKMP (spE (C := CKMP) [ref09_Of.n, ref10_Bytes.n, ref10_ends.n] []) (ref10_Check.F fuel) (pCo c Tryz.f27) env L k
def ref10_Check.E0 (e6_1 : (List Int)) (e6_2 : T_s36) (e6_3 : T_s73) (s6 : Int) : List AV := (dZ 3 ((.v (.slice (.int .i64)) (e6_1)) :: (.ref 1 []) :: (.v (.int .i64) (s6)) :: dZ 50 ([])))
def ref10_Check.H0 (e6_1 : (List Int)) (e6_2 : T_s36) (e6_3 : T_s73) (s6 : Int) : Heap := [(.box E_s36 e6_2 false), (.box E_s73 e6_3 false)]
noncomputable def ref10_Check.M0 {Ω : Type} (fuel : Nat) (e6_1 : (List Int)) (e6_2 : T_s36) (e6_3 : T_s73)  (k : AV → Option Ω) (m : Nat) (s : Int) : Option Ω := loopK (ref10_Check.V fuel 303) (mB 56 72057594037927879) [] 2 (blockK 0 (sqK (ref10_Check.V fuel 63) (finK CKMP Tryz.f27 k))) m ((ref10_Check.E0 e6_1 e6_2 e6_3) s) ((ref10_Check.H0 e6_1 e6_2 e6_3) s)
def ref10_Check.b0 {Ω : Type} (e6_1 : (List Int)) (e6_2 : T_s36) (e6_3 : T_s73)   (k : Int → Option Ω) (r6 : Int → Option Ω) (s6 : Int) : Option Ω :=
 bif (decide (s6 < 3)) then
  bif (idxOK s6 (e6_3.2.1).size) then
   bif ((bAt e6_3.2.1 (Int.toNat s6)) == 45) then
    bif (idxOK (IntKind.wrap .i64 (s6 + 1)) (List.length e6_1)) then
     bif ((List.getD e6_1 (Int.toNat (IntKind.wrap .i64 (s6 + 1))) 0) != 0) then
      k 3
     else
      r6 ((IntKind.wrap .i64 (s6 + 1)))
    else
     none
   else
    bif (idxOK s6 (e6_3.2.1).size) then
     let v2 : Int × Int := (ref10_ends.t ((bAt e6_3.2.1 (Int.toNat s6))))
     bif (idxOK (IntKind.wrap .i64 (s6 + 1)) (List.length e6_1)) then
      bif (decide ((List.getD e6_1 (Int.toNat (IntKind.wrap .i64 (s6 + 1))) 0) < v2.1)) then
       k 8
      else
       bif (idxOK (IntKind.wrap .i64 (s6 + 1)) (List.length e6_1)) then
        bif (decide ((List.getD e6_1 (Int.toNat (IntKind.wrap .i64 (s6 + 1))) 0) > v2.2)) then
         k 8
        else
         r6 ((IntKind.wrap .i64 (s6 + 1)))
       else
        none
     else
      none
    else
     none
  else
   none
 else
  k 0
theorem ref10_Check.l0 {Ω : Type} (fuel : Nat) (e6_1 : (List Int)) (e6_2 : T_s36) (e6_3 : T_s73)  (k : AV → Option Ω) : ∀ m, (ref10_Check.M0 fuel e6_1 e6_2 e6_3  k m) = iter (ref10_Check.b0 e6_1 e6_2 e6_3  (fun r => k (tupAV (.int .i64) [] r))) m :=
 loopK_iter (envOf := (ref10_Check.E0 e6_1 e6_2 e6_3)) (LOf := (ref10_Check.H0 e6_1 e6_2 e6_3)) (B := ref10_Check.b0 e6_1 e6_2 e6_3  (fun r => k (tupAV (.int .i64) [] r))) (fun R s => by kernel_rfl)
def ref10_Check.sl {Ω : Type} (x0 : T_s36) (lp0 : (List Int) → T_s36 → T_s73 → Int → Option Ω) (k : Int → Option Ω) : Option Ω :=
 bif (idxOK 0 (List.length (ref10_Bytes.t x0))) then
  (ref09_Of.u ((List.getD (ref10_Bytes.t x0) 0 0))).bind fun y1 =>
  bif (decide (y1.2.2.1 < 0)) then
   k 18
  else
   lp0 (ref10_Bytes.t x0) x0 y1 (0)
 else
  none
def ref10_Check.g0 {Ω : Type} (e6_1 : (List Int)) (e6_2 : T_s36) (e6_3 : T_s73)  (k : Int → Option Ω) : Nat → Int → Option Ω
  | 0, i6 =>
  k 0
  | d6 + 1, i6 =>
  bif (idxOK i6 (e6_3.2.1).size) then
   bif ((bAt e6_3.2.1 (Int.toNat i6)) == 45) then
    bif (idxOK (IntKind.wrap .i64 (i6 + 1)) (List.length e6_1)) then
     bif ((List.getD e6_1 (Int.toNat (IntKind.wrap .i64 (i6 + 1))) 0) != 0) then
      k 3
     else
      ref10_Check.g0 e6_1 e6_2 e6_3  k d6 (i6 + 1)
    else
     none
   else
    bif (idxOK i6 (e6_3.2.1).size) then
     let v2 : Int × Int := (ref10_ends.t ((bAt e6_3.2.1 (Int.toNat i6))))
     bif (idxOK (IntKind.wrap .i64 (i6 + 1)) (List.length e6_1)) then
      bif (decide ((List.getD e6_1 (Int.toNat (IntKind.wrap .i64 (i6 + 1))) 0) < v2.1)) then
       k 8
      else
       bif (idxOK (IntKind.wrap .i64 (i6 + 1)) (List.length e6_1)) then
        bif (decide ((List.getD e6_1 (Int.toNat (IntKind.wrap .i64 (i6 + 1))) 0) > v2.2)) then
         k 8
        else
         ref10_Check.g0 e6_1 e6_2 e6_3  k d6 (i6 + 1)
       else
        none
     else
      none
    else
     none
  else
   none
theorem ref10_Check.h0 {Ω : Type} (e6_1 : (List Int)) (e6_2 : T_s36) (e6_3 : T_s73)   (k : Int → Option Ω) (hN : (3 : Int) ≤ 9223372036854775807) : ∀ (m : Nat) (i : Int) (a : Unit), -9223372036854775808 ≤ i → Int.toNat ((3 : Int) - i) < m → Le (ref10_Check.g0 e6_1 e6_2 e6_3  k (Int.toNat ((3 : Int) - i)) i) (iter (ref10_Check.b0 e6_1 e6_2 e6_3  k) m (i)) :=
  iter_count (3 : Int) (fun i6 => (decide (i6 < 3))) (fun i => rfl) (fun (i6 : Int) (a6 : Unit) => (i6)) (fun xs i6 a6 => ref10_Check.g0 e6_1 e6_2 e6_3  k xs i6) (ref10_Check.b0 e6_1 e6_2 e6_3  k)
    (fun i6 a6 r h0 => (Le.fls h0 (Le.refl _)))
    (fun i6 d6 a6 r h0 hw ih => (Le.tru h0 (Le.cond (Le.cond (Le.cond (Le.cond (Le.refl _) (ih _ hw ())) Le.nil) (Le.cond (let v2 : Int × Int := (ref10_ends.t ((bAt e6_3.2.1 (Int.toNat i6)))); (Le.cond (Le.cond (Le.refl _) (Le.cond (Le.cond (Le.refl _) (ih _ hw ())) Le.nil)) Le.nil)) Le.nil)) Le.nil)))
    hN
def ref10_Check.w {Ω : Type} (x0 : T_s36) (k : Int → Option Ω) : Option Ω :=
 bif (idxOK 0 (List.length (ref10_Bytes.t x0))) then
  (ref09_Of.u ((List.getD (ref10_Bytes.t x0) 0 0))).bind fun y1 =>
  bif (decide (y1.2.2.1 < 0)) then
   k 18
  else
   ref10_Check.g0 (ref10_Bytes.t x0) x0 y1  k ((Int.toNat ((3 : Int) - 0))) 0
 else
  none
theorem ref10_Check.ev {Ω : Type} (fuel : Nat) (x0 : T_s36) (k : AV → Option Ω) : evFn CKMP (spE (C := CKMP) [ref09_Of.n, ref10_Bytes.n, ref10_ends.n] []) (ref10_Check.F fuel) Tryz.f27 (Tryz.f27.body.getD .skip) [(.v E_s36 (x0))] k = ref10_Check.sl x0 (fun e6_1 e6_2 e6_3 => (ref10_Check.M0 fuel e6_1 e6_2 e6_3  k fuel)) (fun r => k (tupAV (.int .i64) [] r)) := by kernel_rfl
theorem ref10_Check.le {Ω : Type} (x0 : T_s36) (k : AV → Option Ω) : Le (ref10_Check.w x0 (fun r => k (tupAV (.int .i64) [] r))) (ref10_Check.sl x0 (fun e6_1 e6_2 e6_3 => (ref10_Check.M0 BIG e6_1 e6_2 e6_3  k BIG)) (fun r => k (tupAV (.int .i64) [] r))) := by
 have h1 := funext fun (e6_1 : (List Int)) => funext fun (e6_2 : T_s36) => funext fun (e6_3 : T_s73) => ref10_Check.l0 BIG e6_1 e6_2 e6_3   k BIG
 rw [h1]
 delta ref10_Check.w ref10_Check.sl
 exact (Le.cond (Le.bnd fun y1 => (Le.cond (Le.refl _) (ref10_Check.h0 _ _ _   _ (by decide) BIG 0 () (by decide) (by decide)))) Le.nil)
def ref10_Check.u (x0 : T_s36) : Option (Int) := ref10_Check.w x0 some
noncomputable def ref10_Check.n : En CKMP := mkE CKMP_ok (es := [ref09_Of.n, ref10_Bytes.n, ref10_ends.n]) (ms := []) (fuel := (ref10_Check.F BIG)) 27 Tryz.f27 [.ai E_s36] (.int .i64) [] (fun x {Ω} k => ref10_Check.w x.1 k) (fun x Ω k => leV (ref10_Check.ev BIG x.1 k) (ref10_Check.le x.1 k)) (by kernel_rfl) (by kernel_rfl)

def ref10_Num.s {Ω : Type} (x0 : T_s36) (k : Int → Option Ω) : Option Ω :=
  (ref09_Of.u (IntKind.wrap .i64 x0.1)).bind fun y1 =>
  bif (decide (y1.2.2.1 < 0)) then
    k 0
  else
    bif (idxOK 1 (y1.2.1).size) then
      bif ((bAt y1.2.1 1) != 105) then
        k 0
      else
        let v2 : Int := (IntKind.wrap .i64 ((IntKind.wrap .i64 (256 * (IntKind.wrap .i64 x0.2.2.1))) + (IntKind.wrap .i64 x0.2.2.2.1)))
        bif (decide (v2 ≥ 32768)) then
          k (IntKind.wrap .i64 (v2 - 65536))
        else
          k v2
    else
      none
def ref10_Num.u (x0 : T_s36) : Option (Int) := ref10_Num.s x0 some
noncomputable def ref10_Num.n : En CKMP := mkE CKMP_ok (es := [ref09_Of.n]) (ms := []) (fuel := ⟨1, fun _ => []⟩) 31 Tryz.f31 [.ai E_s36] (.int .i64) [] (fun x {Ω} k => ref10_Num.s x.1 k) (fun x Ω k => Le.of (by kernel_rfl)) (by kernel_rfl) (by kernel_rfl)

noncomputable def strings_Contains.n : En CKMP := En.of (g := 62) (e := fun {_} => strings_Contains.e) (strings_Contains.e_ok.mono le_CM_CKMP)
def instr_Num.s {Ω : Type} (x0 : T_s36) (k : Int → Option Ω) : Option Ω :=
  (opcode_Form.u (IntKind.wrap .i64 x0.1)).bind fun y1 =>
  (strings_Contains.u y1 (bs [105, 106])).bind fun y2 =>
  bif (!y2) then
    k 0
  else
    let v3 : Int := (IntKind.wrap .u16 ((IntKind.wrap .u16 x0.2.2.1) * (2 ^ (min (Int.toNat 8) (IntKind.bits .u16)))))
    let v4 : Int := (IntKind.wrap .u16 (BitVec.ofInt (IntKind.bits .u16) v3 ||| BitVec.ofInt (IntKind.bits .u16) (IntKind.wrap .u16 x0.2.2.2.1)).toNat)
    k (IntKind.wrap .i64 (IntKind.wrap .i16 v4))
def instr_Num.u (x0 : T_s36) : Option (Int) := instr_Num.s x0 some
noncomputable def instr_Num.n : En CKMP := mkE CKMP_ok (es := [opcode_Form.n, strings_Contains.n]) (ms := []) (fuel := ⟨1, fun _ => []⟩) 44 Tryz.f44 [.ai E_s36] (.int .i64) [] (fun x {Ω} k => instr_Num.s x.1 k) (fun x Ω k => Le.of (by kernel_rfl)) (by kernel_rfl) (by kernel_rfl)

end Go.Proofs.YtmmooplcdkmapaaGreatDoor.K

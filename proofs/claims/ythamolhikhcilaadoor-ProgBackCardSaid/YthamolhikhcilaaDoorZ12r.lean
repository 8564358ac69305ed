/- What functions of the program come to, plainly. -/
import Derived.Test.YthamolhikhcilaaDoorRe
set_option maxRecDepth 100000
set_option linter.unusedVariables false
namespace Go.Proofs.YthamolhikhcilaaDoor.K
open Go Go.RowKit

/-- becket becketlaw12.alive -/
noncomputable def law12_alive.sp : Spec := (orS 24 (fun {_} => ref11_Same.e) (orS 22 (fun {_} => prog_Read.e) (orS 20 (fun {_} => prog_Next.e) (orS 19 (fun {_} => ref02_Same.e) (orS 17 (fun {_} => prog_Reach.e) (orS 15 (fun {_} => prog_Bytes.e) (orS 13 (fun {_} => prog_Alts.e) (orS 11 (fun {_} => prog_Check.e) noS))))))))
def law12_alive.s {Ω : Type}  (k : Bool → Option Ω) : Option Ω :=
  (prog_Check.u ([(41, (0, (0, (1, ())))), (45, (0, (0, (8, ())))), (1, (0, (0, (0, ()))))])).bind fun y1 =>
  bif (subC (some (1)) none (List.length [(41, (0, (0, (1, ())))), (45, (0, (0, (8, ())))), (1, (0, (0, (0, ()))))])) then
    (prog_Check.u (((List.drop (subLo (some (1))) [(41, (0, (0, (1, ())))), (45, (0, (0, (8, ())))), (1, (0, (0, (0, ()))))]).take (subHi none (List.length [(41, (0, (0, (1, ())))), (45, (0, (0, (8, ())))), (1, (0, (0, (0, ()))))]) - subLo (some (1)))))).bind fun y2 =>
    (prog_Alts.u ([(41, (0, (0, (1, ())))), (45, (0, (0, (8, ())))), (1, (0, (0, (0, ()))))])).bind fun y3 =>
    (prog_Reach.u ([(41, (0, (0, (1, ())))), (45, (0, (0, (8, ())))), (1, (0, (0, (0, ()))))])).bind fun y4 =>
    (prog_Bytes.u ([(41, (0, (0, (1, ())))), (45, (0, (0, (8, ())))), (1, (0, (0, (0, ()))))])).bind fun y5 =>
    bif (decide (((bs [120])).size + (y5).size ≤ catMax)) then
      (prog_Read.u (((bs [120]) ++ y5)) 1).bind fun y6 =>
      bif (y1.1 == 0) then
        bif (y1.2 == 0) then
          bif (y2.1 == 0) then
            bif (y2.2 == 3) then
              bif (((List.length y3 : Nat) : Int) == 1) then
                bif (idxOK 0 (List.length y3)) then
                  bif (eqI E_s34 (List.getD y3 0 (0, (0, ()))) (0, (1, ()))) then
                    (prog_Next.u ([(41, (0, (0, (1, ())))), (45, (0, (0, (8, ())))), (1, (0, (0, (0, ()))))]) 0).bind fun y7 =>
                    (ref02_Same.u y7 ([2])).bind fun y8 =>
                    bif y8 then
                      bif (((List.length y4 : Nat) : Int) == 3) then
                        bif (idxOK 0 (List.length y4)) then
                          bif (List.getD y4 0 false) then
                            bif (idxOK 1 (List.length y4)) then
                              bif (!(List.getD y4 1 false)) then
                                bif (idxOK 2 (List.length y4)) then
                                  bif (List.getD y4 2 false) then
                                    (ref11_Same.u y6.1 ([(41, (0, (0, (1, ())))), (45, (0, (0, (8, ())))), (1, (0, (0, (0, ()))))])).bind fun y9 =>
                                    bif y9 then
                                      bif (y6.2.1 == 14) then
                                        k (y6.2.2 == 0)
                                      else
                                        k false
                                    else
                                      k false
                                  else
                                    k false
                                else
                                  none
                              else
                                k false
                            else
                              none
                          else
                            k false
                        else
                          none
                      else
                        k false
                    else
                      k false
                  else
                    k false
                else
                  none
              else
                k false
            else
              k false
          else
            k false
        else
          k false
      else
        k false
    else
      none
  else
    none
theorem law12_alive.ev {Ω : Type} (fuel : Fuel)  (k : AV → Option Ω) : evFn CK law12_alive.sp fuel Tryd.f10 (Tryd.f10.body.getD .skip) [] k = law12_alive.s  (fun r => k (tupAV .bool [] r)) := by kernel_rfl
def law12_alive.u  : Option (Bool) := law12_alive.s  some
theorem law12_alive.c  (r : Bool) (h : law12_alive.u  = some r) : Contract CK 10 [] (tupAV .bool [] r) :=
  contract_s (S := fun k => law12_alive.s  k) CK_ok (orS_ok (ref11_Same.e_ok.mono le_C_CK) (orS_ok prog_Read.e_ok (orS_ok prog_Next.e_ok (orS_ok (ref02_Same.e_ok.mono le_C_CK) (orS_ok prog_Reach.e_ok (orS_ok prog_Bytes.e_ok (orS_ok prog_Alts.e_ok (orS_ok prog_Check.e_ok noS_ok)))))))) (by kernel_rfl) (by kernel_rfl) (by kernel_rfl) (law12_alive.ev ⟨1, fun _ => []⟩  (dec .bool [])) h
noncomputable def law12_alive.e : Ent := endU (law12_alive.u ) (tupAV .bool [])
theorem law12_alive.e_ok : EntOK CK 10 (fun {_} => law12_alive.e) := entA_ok (endU_ok fun r h => law12_alive.c  r h)

/-- becket becketlaw12.ProgTells -/
noncomputable def law12_ProgTells.sp : Spec := (orS 16 (fun {_} => ref12_Bytes.e) (orS 15 (fun {_} => prog_Bytes.e) (orS 14 (fun {_} => ref12_Alts.e) (orS 13 (fun {_} => prog_Alts.e) (orS 12 (fun {_} => ref12_Check.e) (orS 11 (fun {_} => prog_Check.e) (orS 10 (fun {_} => law12_alive.e) noS)))))))
def law12_ProgTells.F (fuel : Nat) : Fuel := ⟨fuel, fun r => bif r == 9 then [0, 1, 2, 3, 4, 5, 6, 9, 10, 11, 12, 13, 14, 15, 16, 17, 18, 19, 20, 21, 22, 23, 24, 25, 26, 27, 28, 29, 30, 31, 32, 33, 34, 35, 36, 37, 38, 39, 40, 41, 42, 43, 44, 45, 46, 47, 48, 49, 50, 53, 54, 55, 56, 57, 58, 59, 60, 61, 62, 63, 64, 65] else []⟩
def law12_ProgTells.E0 (e9_1 : (List T_s34)) (e9_2 : (List T_s34)) (e9_3 : Int) (s9 : Int) : List AV := [.dead, .dead, .dead, .dead, .dead, .dead, .dead, (.v (.slice E_s34) (e9_1)), (.v (.slice E_s34) (e9_2)), .dead, .dead, .dead, .dead, .dead, .dead, .dead, .dead, .dead, .dead, .dead, .dead, .dead, .dead, .dead, .dead, .dead, .dead, .dead, .dead, .dead, .dead, .dead, .dead, .dead, .dead, .dead, .dead, .dead, .dead, .dead, .dead, .dead, .dead, .dead, .dead, .dead, .dead, .dead, .dead, .dead, .dead, (.v (.int .i64) (e9_3)), (.v (.int .i64) (s9)), .dead, .dead, .dead, .dead, .dead, .dead, .dead, .dead, .dead, .dead, .dead, .dead, .dead]
def law12_ProgTells.H0 (e9_1 : (List T_s34)) (e9_2 : (List T_s34)) (e9_3 : Int) (s9 : Int) : Heap := []
noncomputable def law12_ProgTells.M0 {Ω : Type} (fuel : Nat) (e9_1 : (List T_s34)) (e9_2 : (List T_s34)) (e9_3 : Int)  (k : AV → Option Ω) (m : Nat) (s : Int) : Option Ω := loopK (fun env L k => evCode CK law12_ProgTells.sp (law12_ProgTells.F fuel) (cl (cl (cr (cl (cr (cr (cr (cr (cr (cr (Tryd.f3.body.getD .skip))))))))))) env L k) [true, true, true, true, true, true, true, false, false, true, true, true, true, true, true, true, true, true, true, true, true, true, true, true, true, true, true, true, true, true, true, true, true, true, true, true, true, true, true, true, true, true, true, true, true, true, true, true, true, true, true, false, false, true, true, true, true, true, true, true, true, true, true, true, true, true] 0 (blockK 0 (seqK (fun env L => evCode CK law12_ProgTells.sp (law12_ProgTells.F fuel) (cr (cr (cr (cr (cr (cr (cr (Tryd.f3.body.getD .skip)))))))) env L (finK CK Tryd.f3 k)) (finK CK Tryd.f3 k))) m ((law12_ProgTells.E0 e9_1 e9_2 e9_3) s) ((law12_ProgTells.H0 e9_1 e9_2 e9_3) s)
def law12_ProgTells.b0 {Ω : Type} (e9_1 : (List T_s34)) (e9_2 : (List T_s34)) (e9_3 : Int)   (k : Bool → Option Ω) (r9 : Int → Option Ω) (s9 : Int) : Option Ω :=
  bif (decide (s9 < e9_3)) then
    bif (idxOK s9 (List.length e9_1)) then
      bif (idxOK s9 (List.length e9_2)) then
        let v8 : Bool := (!(eqI E_s34 (List.getD e9_1 (Int.toNat s9) (0, (0, ()))) (List.getD e9_2 (Int.toNat s9) (0, (0, ())))))
        bif v8 then
          k false
        else
          r9 ((IntKind.wrap .i64 (s9 + 1)))
      else
        none
    else
      none
  else
    law12_alive.u.bind fun y9 =>
    k y9
def law12_ProgTells.B0 {Ω : Type} (fuel : Nat) (e9_1 : (List T_s34)) (e9_2 : (List T_s34)) (e9_3 : Int)  (k : Bool → Option Ω) (r9 : Int → Option Ω) (s9 : Int) : Option Ω := law12_ProgTells.b0 e9_1 e9_2 e9_3   k r9 s9
theorem law12_ProgTells.l0 {Ω : Type} (fuel : Nat) (e9_1 : (List T_s34)) (e9_2 : (List T_s34)) (e9_3 : Int)  (k : AV → Option Ω) : ∀ m, (law12_ProgTells.M0 fuel e9_1 e9_2 e9_3  k m) = iter (law12_ProgTells.B0 fuel e9_1 e9_2 e9_3  (fun r => k (tupAV .bool [] r))) m :=
  loopK_iter (envOf := (law12_ProgTells.E0 e9_1 e9_2 e9_3)) (LOf := (law12_ProgTells.H0 e9_1 e9_2 e9_3)) (B := law12_ProgTells.B0 fuel e9_1 e9_2 e9_3  (fun r => k (tupAV .bool [] r))) (fun R s => by kernel_rfl)
def law12_ProgTells.sl {Ω : Type} (x0 : (List T_s50)) (lp0 : (List T_s34) → (List T_s34) → Int → Int → Option Ω) (k : Bool → Option Ω) : Option Ω :=
  bif (decide (((List.length x0 : Nat) : Int) > 70)) then
    law12_alive.u.bind fun y1 =>
    k y1
  else
    (prog_Check.u x0).bind fun y2 =>
    (ref12_Check.u x0).bind fun y3 =>
    (prog_Alts.u x0).bind fun y4 =>
    (ref12_Alts.u x0).bind fun y5 =>
    bif (y2.1 != y3.1) then
      k false
    else
      bif (y2.2 != y3.2) then
        k false
      else
        bif (((List.length y4 : Nat) : Int) != ((List.length y5 : Nat) : Int)) then
          k false
        else
          (prog_Bytes.u x0).bind fun y6 =>
          (ref12_Bytes.u x0).bind fun y7 =>
          bif (!((y6).data.toList == (y7).data.toList)) then
            k false
          else
            lp0 y4 y5 (((List.length y4 : Nat) : Int)) (0)
def law12_ProgTells.s {Ω : Type} (fuel : Nat) (x0 : (List T_s50)) (k : Bool → Option Ω) : Option Ω := law12_ProgTells.sl x0 (fun e9_1 e9_2 e9_3 => (iter (law12_ProgTells.B0 fuel e9_1 e9_2 e9_3  k) fuel)) k
theorem law12_ProgTells.ev {Ω : Type} (fuel : Nat) (x0 : (List T_s50)) (k : AV → Option Ω) : evFn CK law12_ProgTells.sp (law12_ProgTells.F fuel) Tryd.f3 (Tryd.f3.body.getD .skip) [(.v (.slice E_s50) (x0))] k = law12_ProgTells.s fuel x0 (fun r => k (tupAV .bool [] r)) := by
  have h0 : evFn CK law12_ProgTells.sp (law12_ProgTells.F fuel) Tryd.f3 (Tryd.f3.body.getD .skip) [(.v (.slice E_s50) (x0))] k = law12_ProgTells.sl x0 (fun e9_1 e9_2 e9_3 => (law12_ProgTells.M0 fuel e9_1 e9_2 e9_3  k fuel)) (fun r => k (tupAV .bool [] r)) := by kernel_rfl
  have h1 : (fun e9_1 e9_2 e9_3 => (law12_ProgTells.M0 fuel e9_1 e9_2 e9_3  k fuel)) = (fun e9_1 e9_2 e9_3 => (iter (law12_ProgTells.B0 fuel e9_1 e9_2 e9_3  (fun r => k (tupAV .bool [] r))) fuel)) := funext fun e9_1 => funext fun e9_2 => funext fun e9_3 => law12_ProgTells.l0 fuel e9_1 e9_2 e9_3   k fuel
  rw [h1] at h0
  exact h0
def law12_ProgTells.g0 {Ω : Type} (e9_1 : (List T_s34)) (e9_2 : (List T_s34))  (k : Bool → Option Ω) : List T_s34 → Int → Option Ω
  | [], i9 =>
    law12_alive.u.bind fun y9 =>
    k y9
  | x9 :: xs9, i9 =>
    bif (idxOK i9 (List.length e9_2)) then
      let v8 : Bool := (!(eqI E_s34 x9 (List.getD e9_2 (Int.toNat i9) (0, (0, ())))))
      bif v8 then
        k false
      else
        law12_ProgTells.g0 e9_1 e9_2  k xs9 (i9 + 1)
    else
      none
theorem law12_ProgTells.h0 {Ω : Type} (e9_1 : (List T_s34)) (e9_2 : (List T_s34))   (k : Bool → Option Ω) (hX : ((List.length e9_1 : Nat) : Int) ≤ 9223372036854775807) : ∀ (m : Nat) (i : Int) (a : Unit), 0 ≤ i → i ≤ ((List.length e9_1 : Nat) : Int) → ((List.length e9_1 : Nat) : Int) < m + i → Le (law12_ProgTells.g0 e9_1 e9_2  k (List.drop (Int.toNat i) e9_1) i) (iter (law12_ProgTells.B0 BIG e9_1 e9_2 (((List.length e9_1 : Nat) : Int))  k) m (i)) :=
  iter_list e9_1 (0, (0, ())) (fun (i9 : Int) (a9 : Unit) => (i9)) (fun xs i9 a9 => law12_ProgTells.g0 e9_1 e9_2  k xs i9) (law12_ProgTells.B0 BIG e9_1 e9_2 (((List.length e9_1 : Nat) : Int))  k)
    (fun i9 a9 r h0 => (Le.fls h0 (Le.bnd fun y9 => (Le.refl _))))
    (fun i9 xs9 a9 r h0 h1 hw ih => (Le.tru h0 (Le.tru h1 (Le.cond (let v8 : Bool := (!(eqI E_s34 (List.getD e9_1 (Int.toNat i9) (0, (0, ()))) (List.getD e9_2 (Int.toNat i9) (0, (0, ()))))); (Le.cond (Le.refl _) (ih _ hw ()))) Le.nil))))
    hX
def law12_ProgTells.w {Ω : Type} (x0 : (List T_s50)) (k : Bool → Option Ω) : Option Ω :=
  bif (decide (((List.length x0 : Nat) : Int) > 70)) then
    law12_alive.u.bind fun y1 =>
    k y1
  else
    (prog_Check.u x0).bind fun y2 =>
    (ref12_Check.u x0).bind fun y3 =>
    (prog_Alts.u x0).bind fun y4 =>
    (ref12_Alts.u x0).bind fun y5 =>
    bif (y2.1 != y3.1) then
      k false
    else
      bif (y2.2 != y3.2) then
        k false
      else
        bif (((List.length y4 : Nat) : Int) != ((List.length y5 : Nat) : Int)) then
          k false
        else
          (prog_Bytes.u x0).bind fun y6 =>
          (ref12_Bytes.u x0).bind fun y7 =>
          bif (!((y6).data.toList == (y7).data.toList)) then
            k false
          else
            bif decide (((List.length y4 : Nat) : Int) ≤ 4611686018427387904) then law12_ProgTells.g0 y4 y5  k y4 0 else none
theorem law12_ProgTells.le {Ω : Type} (x0 : (List T_s50)) (k : Bool → Option Ω) : Le (law12_ProgTells.w x0 k) (law12_ProgTells.s BIG x0 k) := by
  delta law12_ProgTells.w law12_ProgTells.s law12_ProgTells.sl
  exact (Le.cond (Le.bnd fun y1 => (Le.refl _)) (Le.bnd fun y2 => (Le.bnd fun y3 => (Le.bnd fun y4 => (Le.bnd fun y5 => (Le.cond (Le.refl _) (Le.cond (Le.refl _) (Le.cond (Le.refl _) (Le.bnd fun y6 => (Le.bnd fun y7 => (Le.cond (Le.refl _) (Le.gd fun hg => law12_ProgTells.h0 _ _   k (le_up (of_decide_eq_true hg)) BIG 0 () (by decide) (zero_le_len _) (big_list (of_decide_eq_true hg))))))))))))))
def law12_ProgTells.u (x0 : (List T_s50)) : Option (Bool) := law12_ProgTells.w x0 some
theorem law12_ProgTells.c (x0 : (List T_s50)) (r : Bool) (h : law12_ProgTells.u x0 = some r) : Contract CK 3 [(.v (.slice E_s50) (x0))] (tupAV .bool [] r) :=
  contract_s (S := fun k => law12_ProgTells.s BIG x0 k) CK_ok (orS_ok (ref12_Bytes.e_ok.mono le_C_CK) (orS_ok prog_Bytes.e_ok (orS_ok (ref12_Alts.e_ok.mono le_C_CK) (orS_ok prog_Alts.e_ok (orS_ok (ref12_Check.e_ok.mono le_C_CK) (orS_ok prog_Check.e_ok (orS_ok law12_alive.e_ok noS_ok))))))) (by kernel_rfl) (by kernel_rfl) (by kernel_rfl) (law12_ProgTells.ev BIG x0 (dec .bool [])) (law12_ProgTells.le x0 some r h)
noncomputable def law12_ProgTells.e : Ent := argI (.slice E_s50) fun x0 => endU (law12_ProgTells.u x0) (tupAV .bool [])
theorem law12_ProgTells.e_ok : EntOK CK 3 (fun {_} => law12_ProgTells.e) := entA_ok (argI_ok fun x0 => endU_ok fun r h => law12_ProgTells.c x0 r h)

/-- becket becketlaw12.ProgGoes -/
noncomputable def law12_ProgGoes.sp : Spec := (orS 21 (fun {_} => ref12_Next.e) (orS 20 (fun {_} => prog_Next.e) (orS 19 (fun {_} => ref02_Same.e) (orS 18 (fun {_} => ref12_Reach.e) (orS 17 (fun {_} => prog_Reach.e) (orS 10 (fun {_} => law12_alive.e) noS))))))
def law12_ProgGoes.F (fuel : Nat) : Fuel := ⟨fuel, fun r => bif r == 7 then [0, 1, 2, 3, 4, 7, 8, 9, 10, 11, 12, 13, 14, 15, 16, 17, 18, 19, 20, 21, 22, 23, 24, 25, 26, 27, 28, 29, 30, 31, 34, 35, 36, 37, 38, 39, 40, 41, 42, 43, 44, 45, 46] else []⟩
def law12_ProgGoes.E0 (e7_1 : (List Bool)) (e7_2 : (List Bool)) (e7_3 : Int) (s7 : Int) : List AV := [.dead, .dead, .dead, .dead, .dead, (.v (.slice .bool) (e7_1)), (.v (.slice .bool) (e7_2)), .dead, .dead, .dead, .dead, .dead, .dead, .dead, .dead, .dead, .dead, .dead, .dead, .dead, .dead, .dead, .dead, .dead, .dead, .dead, .dead, .dead, .dead, .dead, .dead, .dead, (.v (.int .i64) (e7_3)), (.v (.int .i64) (s7)), .dead, .dead, .dead, .dead, .dead, .dead, .dead, .dead, .dead, .dead, .dead, .dead, .dead]
def law12_ProgGoes.H0 (e7_1 : (List Bool)) (e7_2 : (List Bool)) (e7_3 : Int) (s7 : Int) : Heap := []
noncomputable def law12_ProgGoes.M0 {Ω : Type} (fuel : Nat) (e7_1 : (List Bool)) (e7_2 : (List Bool)) (e7_3 : Int)  (k : AV → Option Ω) (m : Nat) (s : Int) : Option Ω := loopK (fun env L k => evCode CK law12_ProgGoes.sp (law12_ProgGoes.F fuel) (cl (cl (cr (cl (cr (cr (cr (cr (Tryd.f4.body.getD .skip))))))))) env L k) [true, true, true, true, true, false, false, true, true, true, true, true, true, true, true, true, true, true, true, true, true, true, true, true, true, true, true, true, true, true, true, true, false, false, true, true, true, true, true, true, true, true, true, true, true, true, true] 0 (blockK 0 (seqK (fun env L => evCode CK law12_ProgGoes.sp (law12_ProgGoes.F fuel) (cr (cr (cr (cr (cr (Tryd.f4.body.getD .skip)))))) env L (finK CK Tryd.f4 k)) (finK CK Tryd.f4 k))) m ((law12_ProgGoes.E0 e7_1 e7_2 e7_3) s) ((law12_ProgGoes.H0 e7_1 e7_2 e7_3) s)
def law12_ProgGoes.b0 {Ω : Type} (e7_1 : (List Bool)) (e7_2 : (List Bool)) (e7_3 : Int)   (k : Bool → Option Ω) (r7 : Int → Option Ω) (s7 : Int) : Option Ω :=
  bif (decide (s7 < e7_3)) then
    bif (idxOK s7 (List.length e7_1)) then
      bif (idxOK s7 (List.length e7_2)) then
        bif (!(eqI .bool (List.getD e7_1 (Int.toNat s7) false) (List.getD e7_2 (Int.toNat s7) false))) then
          k false
        else
          r7 ((IntKind.wrap .i64 (s7 + 1)))
      else
        none
    else
      none
  else
    law12_alive.u.bind fun y7 =>
    k y7
def law12_ProgGoes.B0 {Ω : Type} (fuel : Nat) (e7_1 : (List Bool)) (e7_2 : (List Bool)) (e7_3 : Int)  (k : Bool → Option Ω) (r7 : Int → Option Ω) (s7 : Int) : Option Ω := law12_ProgGoes.b0 e7_1 e7_2 e7_3   k r7 s7
theorem law12_ProgGoes.l0 {Ω : Type} (fuel : Nat) (e7_1 : (List Bool)) (e7_2 : (List Bool)) (e7_3 : Int)  (k : AV → Option Ω) : ∀ m, (law12_ProgGoes.M0 fuel e7_1 e7_2 e7_3  k m) = iter (law12_ProgGoes.B0 fuel e7_1 e7_2 e7_3  (fun r => k (tupAV .bool [] r))) m :=
  loopK_iter (envOf := (law12_ProgGoes.E0 e7_1 e7_2 e7_3)) (LOf := (law12_ProgGoes.H0 e7_1 e7_2 e7_3)) (B := law12_ProgGoes.B0 fuel e7_1 e7_2 e7_3  (fun r => k (tupAV .bool [] r))) (fun R s => by kernel_rfl)
def law12_ProgGoes.sl {Ω : Type} (x0 : (List T_s50)) (x1 : Int) (lp0 : (List Bool) → (List Bool) → Int → Int → Option Ω) (k : Bool → Option Ω) : Option Ω :=
  bif (decide (((List.length x0 : Nat) : Int) > 70)) then
    law12_alive.u.bind fun y1 =>
    k y1
  else
    (prog_Reach.u x0).bind fun y2 =>
    (ref12_Reach.u x0).bind fun y3 =>
    bif (((List.length y2 : Nat) : Int) != ((List.length y3 : Nat) : Int)) then
      k false
    else
      (prog_Next.u x0 x1).bind fun y4 =>
      (ref12_Next.u x0 x1).bind fun y5 =>
      (ref02_Same.u y4 y5).bind fun y6 =>
      bif (!y6) then
        k false
      else
        lp0 y2 y3 (((List.length y2 : Nat) : Int)) (0)
def law12_ProgGoes.s {Ω : Type} (fuel : Nat) (x0 : (List T_s50)) (x1 : Int) (k : Bool → Option Ω) : Option Ω := law12_ProgGoes.sl x0 x1 (fun e7_1 e7_2 e7_3 => (iter (law12_ProgGoes.B0 fuel e7_1 e7_2 e7_3  k) fuel)) k
theorem law12_ProgGoes.ev {Ω : Type} (fuel : Nat) (x0 : (List T_s50)) (x1 : Int) (k : AV → Option Ω) : evFn CK law12_ProgGoes.sp (law12_ProgGoes.F fuel) Tryd.f4 (Tryd.f4.body.getD .skip) [(.v (.slice E_s50) (x0)), (.v (.int .i64) (x1))] k = law12_ProgGoes.s fuel x0 x1 (fun r => k (tupAV .bool [] r)) := by
  have h0 : evFn CK law12_ProgGoes.sp (law12_ProgGoes.F fuel) Tryd.f4 (Tryd.f4.body.getD .skip) [(.v (.slice E_s50) (x0)), (.v (.int .i64) (x1))] k = law12_ProgGoes.sl x0 x1 (fun e7_1 e7_2 e7_3 => (law12_ProgGoes.M0 fuel e7_1 e7_2 e7_3  k fuel)) (fun r => k (tupAV .bool [] r)) := by kernel_rfl
  have h1 : (fun e7_1 e7_2 e7_3 => (law12_ProgGoes.M0 fuel e7_1 e7_2 e7_3  k fuel)) = (fun e7_1 e7_2 e7_3 => (iter (law12_ProgGoes.B0 fuel e7_1 e7_2 e7_3  (fun r => k (tupAV .bool [] r))) fuel)) := funext fun e7_1 => funext fun e7_2 => funext fun e7_3 => law12_ProgGoes.l0 fuel e7_1 e7_2 e7_3   k fuel
  rw [h1] at h0
  exact h0
def law12_ProgGoes.g0 {Ω : Type} (e7_1 : (List Bool)) (e7_2 : (List Bool))  (k : Bool → Option Ω) : List Bool → Int → Option Ω
  | [], i7 =>
    law12_alive.u.bind fun y7 =>
    k y7
  | x7 :: xs7, i7 =>
    bif (idxOK i7 (List.length e7_2)) then
      bif (!(eqI .bool x7 (List.getD e7_2 (Int.toNat i7) false))) then
        k false
      else
        law12_ProgGoes.g0 e7_1 e7_2  k xs7 (i7 + 1)
    else
      none
theorem law12_ProgGoes.h0 {Ω : Type} (e7_1 : (List Bool)) (e7_2 : (List Bool))   (k : Bool → Option Ω) (hX : ((List.length e7_1 : Nat) : Int) ≤ 9223372036854775807) : ∀ (m : Nat) (i : Int) (a : Unit), 0 ≤ i → i ≤ ((List.length e7_1 : Nat) : Int) → ((List.length e7_1 : Nat) : Int) < m + i → Le (law12_ProgGoes.g0 e7_1 e7_2  k (List.drop (Int.toNat i) e7_1) i) (iter (law12_ProgGoes.B0 BIG e7_1 e7_2 (((List.length e7_1 : Nat) : Int))  k) m (i)) :=
  iter_list e7_1 false (fun (i7 : Int) (a7 : Unit) => (i7)) (fun xs i7 a7 => law12_ProgGoes.g0 e7_1 e7_2  k xs i7) (law12_ProgGoes.B0 BIG e7_1 e7_2 (((List.length e7_1 : Nat) : Int))  k)
    (fun i7 a7 r h0 => (Le.fls h0 (Le.bnd fun y7 => (Le.refl _))))
    (fun i7 xs7 a7 r h0 h1 hw ih => (Le.tru h0 (Le.tru h1 (Le.cond (Le.cond (Le.refl _) (ih _ hw ())) Le.nil))))
    hX
def law12_ProgGoes.w {Ω : Type} (x0 : (List T_s50)) (x1 : Int) (k : Bool → Option Ω) : Option Ω :=
  bif (decide (((List.length x0 : Nat) : Int) > 70)) then
    law12_alive.u.bind fun y1 =>
    k y1
  else
    (prog_Reach.u x0).bind fun y2 =>
    (ref12_Reach.u x0).bind fun y3 =>
    bif (((List.length y2 : Nat) : Int) != ((List.length y3 : Nat) : Int)) then
      k false
    else
      (prog_Next.u x0 x1).bind fun y4 =>
      (ref12_Next.u x0 x1).bind fun y5 =>
      (ref02_Same.u y4 y5).bind fun y6 =>
      bif (!y6) then
        k false
      else
        bif decide (((List.length y2 : Nat) : Int) ≤ 4611686018427387904) then law12_ProgGoes.g0 y2 y3  k y2 0 else none
theorem law12_ProgGoes.le {Ω : Type} (x0 : (List T_s50)) (x1 : Int) (k : Bool → Option Ω) : Le (law12_ProgGoes.w x0 x1 k) (law12_ProgGoes.s BIG x0 x1 k) := by
  delta law12_ProgGoes.w law12_ProgGoes.s law12_ProgGoes.sl
  exact (Le.cond (Le.bnd fun y1 => (Le.refl _)) (Le.bnd fun y2 => (Le.bnd fun y3 => (Le.cond (Le.refl _) (Le.bnd fun y4 => (Le.bnd fun y5 => (Le.bnd fun y6 => (Le.cond (Le.refl _) (Le.gd fun hg => law12_ProgGoes.h0 _ _   k (le_up (of_decide_eq_true hg)) BIG 0 () (by decide) (zero_le_len _) (big_list (of_decide_eq_true hg)))))))))))
def law12_ProgGoes.u (x0 : (List T_s50)) (x1 : Int) : Option (Bool) := law12_ProgGoes.w x0 x1 some
theorem law12_ProgGoes.c (x0 : (List T_s50)) (x1 : Int) (r : Bool) (h : law12_ProgGoes.u x0 x1 = some r) : Contract CK 4 [(.v (.slice E_s50) (x0)), (.v (.int .i64) (x1))] (tupAV .bool [] r) :=
  contract_s (S := fun k => law12_ProgGoes.s BIG x0 x1 k) CK_ok (orS_ok (ref12_Next.e_ok.mono le_C_CK) (orS_ok prog_Next.e_ok (orS_ok (ref02_Same.e_ok.mono le_C_CK) (orS_ok (ref12_Reach.e_ok.mono le_C_CK) (orS_ok prog_Reach.e_ok (orS_ok law12_alive.e_ok noS_ok)))))) (by kernel_rfl) (by kernel_rfl) (by kernel_rfl) (law12_ProgGoes.ev BIG x0 x1 (dec .bool [])) (law12_ProgGoes.le x0 x1 some r h)
noncomputable def law12_ProgGoes.e : Ent := argI (.slice E_s50) fun x0 => argI (.int .i64) fun x1 => endU (law12_ProgGoes.u x0 x1) (tupAV .bool [])
theorem law12_ProgGoes.e_ok : EntOK CK 4 (fun {_} => law12_ProgGoes.e) := entA_ok (argI_ok fun x0 => argI_ok fun x1 => endU_ok fun r h => law12_ProgGoes.c x0 x1 r h)

/-- becket becketlaw12.ProgReads -/
noncomputable def law12_ProgReads.sp : Spec := (orS 24 (fun {_} => ref11_Same.e) (orS 23 (fun {_} => ref12_Read.e) (orS 22 (fun {_} => prog_Read.e) (orS 10 (fun {_} => law12_alive.e) noS))))
def law12_ProgReads.s {Ω : Type} (x0 : ByteArray) (x1 : Int) (k : Bool → Option Ω) : Option Ω :=
  bif (decide (((x0).size : Int) > 400)) then
    law12_alive.u.bind fun y1 =>
    k y1
  else
    (prog_Read.u x0 x1).bind fun y2 =>
    (ref12_Read.u x0 x1).bind fun y3 =>
    (ref11_Same.u y2.1 y3.1).bind fun y4 =>
    bif y4 then
      bif (y2.2.1 == y3.2.1) then
        bif (y2.2.2 == y3.2.2) then
          law12_alive.u.bind fun y5 =>
          k y5
        else
          k false
      else
        k false
    else
      k false
theorem law12_ProgReads.ev {Ω : Type} (fuel : Fuel) (x0 : ByteArray) (x1 : Int) (k : AV → Option Ω) : evFn CK law12_ProgReads.sp fuel Tryd.f5 (Tryd.f5.body.getD .skip) [(.v .str (x0)), (.v (.int .i64) (x1))] k = law12_ProgReads.s x0 x1 (fun r => k (tupAV .bool [] r)) := by kernel_rfl
def law12_ProgReads.u (x0 : ByteArray) (x1 : Int) : Option (Bool) := law12_ProgReads.s x0 x1 some
theorem law12_ProgReads.c (x0 : ByteArray) (x1 : Int) (r : Bool) (h : law12_ProgReads.u x0 x1 = some r) : Contract CK 5 [(.v .str (x0)), (.v (.int .i64) (x1))] (tupAV .bool [] r) :=
  contract_s (S := fun k => law12_ProgReads.s x0 x1 k) CK_ok (orS_ok (ref11_Same.e_ok.mono le_C_CK) (orS_ok (ref12_Read.e_ok.mono le_C_CK) (orS_ok prog_Read.e_ok (orS_ok law12_alive.e_ok noS_ok)))) (by kernel_rfl) (by kernel_rfl) (by kernel_rfl) (law12_ProgReads.ev ⟨1, fun _ => []⟩ x0 x1 (dec .bool [])) h
noncomputable def law12_ProgReads.e : Ent := argI .str fun x0 => argI (.int .i64) fun x1 => endU (law12_ProgReads.u x0 x1) (tupAV .bool [])
theorem law12_ProgReads.e_ok : EntOK CK 5 (fun {_} => law12_ProgReads.e) := entA_ok (argI_ok fun x0 => argI_ok fun x1 => endU_ok fun r h => law12_ProgReads.c x0 x1 r h)

/-- becket becketlaw12.ProgBack -/
noncomputable def law12_ProgBack.sp : Spec := (orS 25 (fun {_} => instr_Check.e) (orS 24 (fun {_} => ref11_Same.e) (orS 22 (fun {_} => prog_Read.e) (orS 20 (fun {_} => prog_Next.e) (orS 17 (fun {_} => prog_Reach.e) (orS 15 (fun {_} => prog_Bytes.e) (orS 13 (fun {_} => prog_Alts.e) (orS 11 (fun {_} => prog_Check.e) (orS 10 (fun {_} => law12_alive.e) noS)))))))))
def law12_ProgBack.F (fuel : Nat) : Fuel := ⟨fuel, fun r => bif r == 15 then [1, 2, 3, 4, 5, 6, 7, 8, 9, 10, 11, 15, 16, 17, 18, 19, 20, 21, 22, 23, 24, 25, 26, 27, 28, 29, 30, 31, 32, 33, 34, 35, 36, 37, 38, 39, 40, 41, 42, 43, 44, 45, 46, 47, 48, 49, 50, 51, 52, 53, 54, 55, 56, 57, 58, 59, 60, 61, 62, 63, 64, 65, 66, 67, 68, 69, 70, 71, 72, 73, 74, 75, 76, 77, 78, 79, 80, 81, 82, 83, 84, 85, 86, 87, 88, 89, 90, 91, 92, 93, 94, 95, 96, 97, 98, 99, 103, 104, 105, 106, 107, 108, 109, 113, 114, 115, 116, 117, 118, 119, 120, 121, 122, 123, 124, 125, 126, 127, 128, 129, 130, 131, 132, 133, 134, 135, 136, 137, 138, 139, 140, 141, 142, 143, 144, 145, 146, 147, 148, 149, 150, 151, 152, 153, 154, 155, 156, 157, 158, 159, 160, 161, 162, 163, 164, 165, 166, 167] else bif r == 11 then [1, 2, 3, 4, 5, 6, 7, 8, 9, 10, 11, 13, 14, 15, 16, 17, 18, 19, 20, 21, 22, 23, 24, 25, 26, 27, 28, 29, 30, 31, 32, 33, 34, 35, 36, 37, 38, 39, 40, 41, 42, 43, 44, 45, 46, 47, 48, 49, 50, 51, 52, 53, 54, 55, 56, 57, 58, 59, 60, 61, 62, 63, 64, 65, 66, 67, 68, 69, 70, 71, 72, 73, 74, 75, 76, 77, 78, 79, 80, 81, 82, 83, 84, 85, 86, 87, 88, 89, 90, 91, 92, 93, 94, 95, 96, 97, 98, 99, 103, 104, 105, 106, 107, 108, 109, 110, 111, 112, 113, 114, 115, 116, 117, 118, 119, 120, 121, 122, 123, 124, 125, 126, 127, 128, 129, 130, 131, 132, 133, 134, 135, 136, 137, 138, 139, 140, 141, 142, 143, 144, 145, 146, 147, 148, 149, 150, 151, 152, 153, 154, 155, 156, 157, 158, 159, 160, 161, 162, 163, 164, 165, 166, 167] else []⟩
def law12_ProgBack.E0 (e11_1 : (List T_s50)) (e11_2 : (List Bool)) (e15_1 : Int) (e15_2 : Bool) (e11_3 : Int) (e15_3 : (List Int)) (e15_4 : Int) (s15 : Int) : List AV := [(.v (.slice E_s50) (e11_1)), .dead, .dead, .dead, .dead, .dead, .dead, .dead, .dead, .dead, .dead, .dead, (.v (.slice .bool) (e11_2)), (.v (.int .i64) (e15_1)), (.v .bool (e15_2)), .dead, .dead, .dead, .dead, .dead, .dead, .dead, .dead, .dead, .dead, .dead, .dead, .dead, .dead, .dead, .dead, .dead, .dead, .dead, .dead, .dead, .dead, .dead, .dead, .dead, .dead, .dead, .dead, .dead, .dead, .dead, .dead, .dead, .dead, .dead, .dead, .dead, .dead, .dead, .dead, .dead, .dead, .dead, .dead, .dead, .dead, .dead, .dead, .dead, .dead, .dead, .dead, .dead, .dead, .dead, .dead, .dead, .dead, .dead, .dead, .dead, .dead, .dead, .dead, .dead, .dead, .dead, .dead, .dead, .dead, .dead, .dead, .dead, .dead, .dead, .dead, .dead, .dead, .dead, .dead, .dead, .dead, .dead, .dead, .dead, (.v (.slice .bool) (e11_2)), (.v (.int .i64) (e11_3)), (.v (.int .i64) (e15_1)), .dead, .dead, .dead, .dead, .dead, .dead, .dead, (.v (.slice (.int .i64)) (e15_3)), (.v (.int .i64) (e15_4)), (.v (.int .i64) (s15)), .dead, .dead, .dead, .dead, .dead, .dead, .dead, .dead, .dead, .dead, .dead, .dead, .dead, .dead, .dead, .dead, .dead, .dead, .dead, .dead, .dead, .dead, .dead, .dead, .dead, .dead, .dead, .dead, .dead, .dead, .dead, .dead, .dead, .dead, .dead, .dead, .dead, .dead, .dead, .dead, .dead, .dead, .dead, .dead, .dead, .dead, .dead, .dead, .dead, .dead, .dead, .dead, .dead, .dead, .dead]
def law12_ProgBack.H0 (e11_1 : (List T_s50)) (e11_2 : (List Bool)) (e15_1 : Int) (e15_2 : Bool) (e11_3 : Int) (e15_3 : (List Int)) (e15_4 : Int) (s15 : Int) : Heap := []
noncomputable def law12_ProgBack.M0 {Ω : Type} (fuel : Nat) (e11_1 : (List T_s50)) (e11_2 : (List Bool)) (e15_1 : Int) (e15_2 : Bool) (e11_3 : Int) (e15_3 : (List Int)) (e15_4 : Int) (R11 : List AV → Heap → Option Ω) (k : AV → Option Ω) (m : Nat) (s : Int) : Option Ω := loopK (fun env L k => evCode CK law12_ProgBack.sp (law12_ProgBack.F fuel) (cl (cl (cr (cl (cr (cr (cl (cl (cr (cr (cl (cl (cr (cl (cr (cr (cr (cr (cr (cr (Tryd.f6.body.getD .skip))))))))))))))))))))) env L k) [false, true, true, true, true, true, true, true, true, true, true, true, false, false, false, true, true, true, true, true, true, true, true, true, true, true, true, true, true, true, true, true, true, true, true, true, true, true, true, true, true, true, true, true, true, true, true, true, true, true, true, true, true, true, true, true, true, true, true, true, true, true, true, true, true, true, true, true, true, true, true, true, true, true, true, true, true, true, true, true, true, true, true, true, true, true, true, true, true, true, true, true, true, true, true, true, true, true, true, true, false, false, false, true, true, true, true, true, true, true, false, false, false, true, true, true, true, true, true, true, true, true, true, true, true, true, true, true, true, true, true, true, true, true, true, true, true, true, true, true, true, true, true, true, true, true, true, true, true, true, true, true, true, true, true, true, true, true, true, true, true, true, true, true, true, true, true, true] 0 (blockK 2 (seqK (fun env L => evCode CK law12_ProgBack.sp (law12_ProgBack.F fuel) (cr (cr (cr (cl (cl (cr (cr (cl (cl (cr (cl (cr (cr (cr (cr (cr (cr (Tryd.f6.body.getD .skip)))))))))))))))))) env L (blockK 1 (seqK (fun env L => evCode CK law12_ProgBack.sp (law12_ProgBack.F fuel) (cr (cr (cr (cl (cl (cr (cl (cr (cr (cr (cr (cr (cr (Tryd.f6.body.getD .skip)))))))))))))) env L (loopC R11 [false, true, true, true, true, true, true, true, true, true, true, true, false, true, true, true, true, true, true, true, true, true, true, true, true, true, true, true, true, true, true, true, true, true, true, true, true, true, true, true, true, true, true, true, true, true, true, true, true, true, true, true, true, true, true, true, true, true, true, true, true, true, true, true, true, true, true, true, true, true, true, true, true, true, true, true, true, true, true, true, true, true, true, true, true, true, true, true, true, true, true, true, true, true, true, true, true, true, true, true, false, false, false, true, true, true, true, true, true, true, true, true, true, true, true, true, true, true, true, true, true, true, true, true, true, true, true, true, true, true, true, true, true, true, true, true, true, true, true, true, true, true, true, true, true, true, true, true, true, true, true, true, true, true, true, true, true, true, true, true, true, true, true, true, true, true, true, true] 0 (blockK 0 (seqK (fun env L => evCode CK law12_ProgBack.sp (law12_ProgBack.F fuel) (cr (cr (cr (cr (cr (cr (cr (Tryd.f6.body.getD .skip)))))))) env L (finK CK Tryd.f6 k)) (finK CK Tryd.f6 k))))) (loopC R11 [false, true, true, true, true, true, true, true, true, true, true, true, false, true, true, true, true, true, true, true, true, true, true, true, true, true, true, true, true, true, true, true, true, true, true, true, true, true, true, true, true, true, true, true, true, true, true, true, true, true, true, true, true, true, true, true, true, true, true, true, true, true, true, true, true, true, true, true, true, true, true, true, true, true, true, true, true, true, true, true, true, true, true, true, true, true, true, true, true, true, true, true, true, true, true, true, true, true, true, true, false, false, false, true, true, true, true, true, true, true, true, true, true, true, true, true, true, true, true, true, true, true, true, true, true, true, true, true, true, true, true, true, true, true, true, true, true, true, true, true, true, true, true, true, true, true, true, true, true, true, true, true, true, true, true, true, true, true, true, true, true, true, true, true, true, true, true, true] 0 (blockK 0 (seqK (fun env L => evCode CK law12_ProgBack.sp (law12_ProgBack.F fuel) (cr (cr (cr (cr (cr (cr (cr (Tryd.f6.body.getD .skip)))))))) env L (finK CK Tryd.f6 k)) (finK CK Tryd.f6 k))))))) (blockK 1 (seqK (fun env L => evCode CK law12_ProgBack.sp (law12_ProgBack.F fuel) (cr (cr (cr (cl (cl (cr (cl (cr (cr (cr (cr (cr (cr (Tryd.f6.body.getD .skip)))))))))))))) env L (loopC R11 [false, true, true, true, true, true, true, true, true, true, true, true, false, true, true, true, true, true, true, true, true, true, true, true, true, true, true, true, true, true, true, true, true, true, true, true, true, true, true, true, true, true, true, true, true, true, true, true, true, true, true, true, true, true, true, true, true, true, true, true, true, true, true, true, true, true, true, true, true, true, true, true, true, true, true, true, true, true, true, true, true, true, true, true, true, true, true, true, true, true, true, true, true, true, true, true, true, true, true, true, false, false, false, true, true, true, true, true, true, true, true, true, true, true, true, true, true, true, true, true, true, true, true, true, true, true, true, true, true, true, true, true, true, true, true, true, true, true, true, true, true, true, true, true, true, true, true, true, true, true, true, true, true, true, true, true, true, true, true, true, true, true, true, true, true, true, true, true] 0 (blockK 0 (seqK (fun env L => evCode CK law12_ProgBack.sp (law12_ProgBack.F fuel) (cr (cr (cr (cr (cr (cr (cr (Tryd.f6.body.getD .skip)))))))) env L (finK CK Tryd.f6 k)) (finK CK Tryd.f6 k))))) (loopC R11 [false, true, true, true, true, true, true, true, true, true, true, true, false, true, true, true, true, true, true, true, true, true, true, true, true, true, true, true, true, true, true, true, true, true, true, true, true, true, true, true, true, true, true, true, true, true, true, true, true, true, true, true, true, true, true, true, true, true, true, true, true, true, true, true, true, true, true, true, true, true, true, true, true, true, true, true, true, true, true, true, true, true, true, true, true, true, true, true, true, true, true, true, true, true, true, true, true, true, true, true, false, false, false, true, true, true, true, true, true, true, true, true, true, true, true, true, true, true, true, true, true, true, true, true, true, true, true, true, true, true, true, true, true, true, true, true, true, true, true, true, true, true, true, true, true, true, true, true, true, true, true, true, true, true, true, true, true, true, true, true, true, true, true, true, true, true, true, true] 0 (blockK 0 (seqK (fun env L => evCode CK law12_ProgBack.sp (law12_ProgBack.F fuel) (cr (cr (cr (cr (cr (cr (cr (Tryd.f6.body.getD .skip)))))))) env L (finK CK Tryd.f6 k)) (finK CK Tryd.f6 k)))))))) m ((law12_ProgBack.E0 e11_1 e11_2 e15_1 e15_2 e11_3 e15_3 e15_4) s) ((law12_ProgBack.H0 e11_1 e11_2 e15_1 e15_2 e11_3 e15_3 e15_4) s)
def law12_ProgBack.E1 (e11_1 : (List T_s50)) (e11_2 : (List Bool)) (e11_3 : Int) (s11 : Int) : List AV := [(.v (.slice E_s50) (e11_1)), .dead, .dead, .dead, .dead, .dead, .dead, .dead, .dead, .dead, .dead, .dead, (.v (.slice .bool) (e11_2)), .dead, .dead, .dead, .dead, .dead, .dead, .dead, .dead, .dead, .dead, .dead, .dead, .dead, .dead, .dead, .dead, .dead, .dead, .dead, .dead, .dead, .dead, .dead, .dead, .dead, .dead, .dead, .dead, .dead, .dead, .dead, .dead, .dead, .dead, .dead, .dead, .dead, .dead, .dead, .dead, .dead, .dead, .dead, .dead, .dead, .dead, .dead, .dead, .dead, .dead, .dead, .dead, .dead, .dead, .dead, .dead, .dead, .dead, .dead, .dead, .dead, .dead, .dead, .dead, .dead, .dead, .dead, .dead, .dead, .dead, .dead, .dead, .dead, .dead, .dead, .dead, .dead, .dead, .dead, .dead, .dead, .dead, .dead, .dead, .dead, .dead, .dead, (.v (.slice .bool) (e11_2)), (.v (.int .i64) (e11_3)), (.v (.int .i64) (s11)), .dead, .dead, .dead, .dead, .dead, .dead, .dead, .dead, .dead, .dead, .dead, .dead, .dead, .dead, .dead, .dead, .dead, .dead, .dead, .dead, .dead, .dead, .dead, .dead, .dead, .dead, .dead, .dead, .dead, .dead, .dead, .dead, .dead, .dead, .dead, .dead, .dead, .dead, .dead, .dead, .dead, .dead, .dead, .dead, .dead, .dead, .dead, .dead, .dead, .dead, .dead, .dead, .dead, .dead, .dead, .dead, .dead, .dead, .dead, .dead, .dead, .dead, .dead, .dead, .dead]
def law12_ProgBack.H1 (e11_1 : (List T_s50)) (e11_2 : (List Bool)) (e11_3 : Int) (s11 : Int) : Heap := []
noncomputable def law12_ProgBack.M1 {Ω : Type} (fuel : Nat) (e11_1 : (List T_s50)) (e11_2 : (List Bool)) (e11_3 : Int)  (k : AV → Option Ω) (m : Nat) (s : Int) : Option Ω := loopK (fun env L k => evCode CK law12_ProgBack.sp (law12_ProgBack.F fuel) (cl (cl (cr (cl (cr (cr (cr (cr (cr (cr (Tryd.f6.body.getD .skip))))))))))) env L k) [false, true, true, true, true, true, true, true, true, true, true, true, false, true, true, true, true, true, true, true, true, true, true, true, true, true, true, true, true, true, true, true, true, true, true, true, true, true, true, true, true, true, true, true, true, true, true, true, true, true, true, true, true, true, true, true, true, true, true, true, true, true, true, true, true, true, true, true, true, true, true, true, true, true, true, true, true, true, true, true, true, true, true, true, true, true, true, true, true, true, true, true, true, true, true, true, true, true, true, true, false, false, false, true, true, true, true, true, true, true, true, true, true, true, true, true, true, true, true, true, true, true, true, true, true, true, true, true, true, true, true, true, true, true, true, true, true, true, true, true, true, true, true, true, true, true, true, true, true, true, true, true, true, true, true, true, true, true, true, true, true, true, true, true, true, true, true, true] 0 (blockK 0 (seqK (fun env L => evCode CK law12_ProgBack.sp (law12_ProgBack.F fuel) (cr (cr (cr (cr (cr (cr (cr (Tryd.f6.body.getD .skip)))))))) env L (finK CK Tryd.f6 k)) (finK CK Tryd.f6 k))) m ((law12_ProgBack.E1 e11_1 e11_2 e11_3) s) ((law12_ProgBack.H1 e11_1 e11_2 e11_3) s)
def law12_ProgBack.b0 {Ω : Type} (e11_1 : (List T_s50)) (e11_2 : (List Bool)) (e15_1 : Int) (e15_2 : Bool) (e11_3 : Int) (e15_3 : (List Int)) (e15_4 : Int) (r11 : Int → Option Ω)  (k : Bool → Option Ω) (r15 : Int → Option Ω) (s15 : Int) : Option Ω :=
  bif (decide (s15 < e15_4)) then
    bif (idxOK s15 (List.length e15_3)) then
      bif (decide ((List.getD e15_3 (Int.toNat s15) 0) < 0)) then
        k false
      else
        bif (decide ((List.getD e15_3 (Int.toNat s15) 0) > ((List.length e11_1 : Nat) : Int))) then
          k false
        else
          bif e15_2 then
            bif (decide ((List.getD e15_3 (Int.toNat s15) 0) < ((List.length e11_1 : Nat) : Int))) then
              bif (idxOK (List.getD e15_3 (Int.toNat s15) 0) (List.length e11_2)) then
                bif (!(List.getD e11_2 (Int.toNat (List.getD e15_3 (Int.toNat s15) 0)) false)) then
                  k false
                else
                  bif (idxOK (List.getD e15_3 (Int.toNat s15) 0) (List.length e11_1)) then
                    let v15 : Bool := (decide ((List.getD e11_1 (Int.toNat (List.getD e15_3 (Int.toNat s15) 0)) (0, (0, (0, (0, ()))))).1 ≥ 42))
                    bif v15 then
                      bif (idxOK (List.getD e15_3 (Int.toNat s15) 0) (List.length e11_1)) then
                        let v16 : Bool := (decide ((List.getD e11_1 (Int.toNat (List.getD e15_3 (Int.toNat s15) 0)) (0, (0, (0, (0, ()))))).1 ≤ 45))
                        bif v16 then
                          k false
                        else
                          r15 ((IntKind.wrap .i64 (s15 + 1)))
                      else
                        none
                    else
                      r15 ((IntKind.wrap .i64 (s15 + 1)))
                  else
                    none
              else
                none
            else
              r15 ((IntKind.wrap .i64 (s15 + 1)))
          else
            r15 ((IntKind.wrap .i64 (s15 + 1)))
    else
      none
  else
    bif e15_2 then
      bif (idxOK e15_1 (List.length e11_1)) then
        (instr_Check.u ((List.getD e11_1 (Int.toNat e15_1) (0, (0, (0, (0, ()))))))).bind fun y17 =>
        bif (y17 != 0) then
          k false
        else
          r11 ((IntKind.wrap .i64 (e15_1 + 1)))
      else
        none
    else
      r11 ((IntKind.wrap .i64 (e15_1 + 1)))
def law12_ProgBack.B0 {Ω : Type} (fuel : Nat) (e11_1 : (List T_s50)) (e11_2 : (List Bool)) (e15_1 : Int) (e15_2 : Bool) (e11_3 : Int) (e15_3 : (List Int)) (e15_4 : Int) (r11 : Int → Option Ω) (k : Bool → Option Ω) (r15 : Int → Option Ω) (s15 : Int) : Option Ω := law12_ProgBack.b0 e11_1 e11_2 e15_1 e15_2 e11_3 e15_3 e15_4 r11  k r15 s15
def law12_ProgBack.b1 {Ω : Type} (e11_1 : (List T_s50)) (e11_2 : (List Bool)) (e11_3 : Int)  (lp0 : (List T_s50) → (List Bool) → Int → Bool → Int → (List Int) → Int → Int → Option Ω) (k : Bool → Option Ω) (r11 : Int → Option Ω) (s11 : Int) : Option Ω :=
  bif (decide (s11 < e11_3)) then
    bif (idxOK s11 (List.length e11_2)) then
      (prog_Next.u e11_1 s11).bind fun y14 =>
      lp0 e11_1 e11_2 s11 ((List.getD e11_2 (Int.toNat s11) false)) e11_3 y14 (((List.length y14 : Nat) : Int)) (0)
    else
      none
  else
    law12_alive.u.bind fun y18 =>
    k y18
def law12_ProgBack.B1 {Ω : Type} (fuel : Nat) (e11_1 : (List T_s50)) (e11_2 : (List Bool)) (e11_3 : Int)  (k : Bool → Option Ω) (r11 : Int → Option Ω) (s11 : Int) : Option Ω := law12_ProgBack.b1 e11_1 e11_2 e11_3  (fun e11_1 e11_2 e15_1 e15_2 e11_3 e15_3 e15_4 => (iter (law12_ProgBack.B0 fuel e11_1 e11_2 e15_1 e15_2 e11_3 e15_3 e15_4 r11 k) fuel)) k r11 s11
theorem law12_ProgBack.l0 {Ω : Type} (fuel : Nat) (e11_1 : (List T_s50)) (e11_2 : (List Bool)) (e15_1 : Int) (e15_2 : Bool) (e11_3 : Int) (e15_3 : (List Int)) (e15_4 : Int) (R11 : List AV → Heap → Option Ω) (k : AV → Option Ω) : ∀ m, (law12_ProgBack.M0 fuel e11_1 e11_2 e15_1 e15_2 e11_3 e15_3 e15_4 R11 k m) = iter (law12_ProgBack.B0 fuel e11_1 e11_2 e15_1 e15_2 e11_3 e15_3 e15_4 (fun s11 => R11 ((law12_ProgBack.E1 e11_1 e11_2 e11_3) s11) ((law12_ProgBack.H1 e11_1 e11_2 e11_3) s11)) (fun r => k (tupAV .bool [] r))) m :=
  loopK_iter (envOf := (law12_ProgBack.E0 e11_1 e11_2 e15_1 e15_2 e11_3 e15_3 e15_4)) (LOf := (law12_ProgBack.H0 e11_1 e11_2 e15_1 e15_2 e11_3 e15_3 e15_4)) (B := law12_ProgBack.B0 fuel e11_1 e11_2 e15_1 e15_2 e11_3 e15_3 e15_4 (fun s11 => R11 ((law12_ProgBack.E1 e11_1 e11_2 e11_3) s11) ((law12_ProgBack.H1 e11_1 e11_2 e11_3) s11)) (fun r => k (tupAV .bool [] r))) (fun R s => by kernel_rfl)
theorem law12_ProgBack.l1 {Ω : Type} (fuel : Nat) (e11_1 : (List T_s50)) (e11_2 : (List Bool)) (e11_3 : Int)  (k : AV → Option Ω) : ∀ m, (law12_ProgBack.M1 fuel e11_1 e11_2 e11_3  k m) = iter (law12_ProgBack.B1 fuel e11_1 e11_2 e11_3  (fun r => k (tupAV .bool [] r))) m :=
  loopK_iter (envOf := (law12_ProgBack.E1 e11_1 e11_2 e11_3)) (LOf := (law12_ProgBack.H1 e11_1 e11_2 e11_3)) (B := law12_ProgBack.B1 fuel e11_1 e11_2 e11_3  (fun r => k (tupAV .bool [] r))) (fun R s => by
    have h0 : evCode CK law12_ProgBack.sp (law12_ProgBack.F fuel) (cl (cl (cr (cl (cr (cr (cr (cr (cr (cr (Tryd.f6.body.getD .skip))))))))))) ((law12_ProgBack.E1 e11_1 e11_2 e11_3) s) ((law12_ProgBack.H1 e11_1 e11_2 e11_3) s) (loopC R [false, true, true, true, true, true, true, true, true, true, true, true, false, true, true, true, true, true, true, true, true, true, true, true, true, true, true, true, true, true, true, true, true, true, true, true, true, true, true, true, true, true, true, true, true, true, true, true, true, true, true, true, true, true, true, true, true, true, true, true, true, true, true, true, true, true, true, true, true, true, true, true, true, true, true, true, true, true, true, true, true, true, true, true, true, true, true, true, true, true, true, true, true, true, true, true, true, true, true, true, false, false, false, true, true, true, true, true, true, true, true, true, true, true, true, true, true, true, true, true, true, true, true, true, true, true, true, true, true, true, true, true, true, true, true, true, true, true, true, true, true, true, true, true, true, true, true, true, true, true, true, true, true, true, true, true, true, true, true, true, true, true, true, true, true, true, true, true] 0 (blockK 0 (seqK (fun env L => evCode CK law12_ProgBack.sp (law12_ProgBack.F fuel) (cr (cr (cr (cr (cr (cr (cr (Tryd.f6.body.getD .skip)))))))) env L (finK CK Tryd.f6 k)) (finK CK Tryd.f6 k)))) = law12_ProgBack.b1 e11_1 e11_2 e11_3  (fun e11_1 e11_2 e15_1 e15_2 e11_3 e15_3 e15_4 => (law12_ProgBack.M0 fuel e11_1 e11_2 e15_1 e15_2 e11_3 e15_3 e15_4 R k fuel)) (fun r => k (tupAV .bool [] r)) (fun s => R ((law12_ProgBack.E1 e11_1 e11_2 e11_3) s) ((law12_ProgBack.H1 e11_1 e11_2 e11_3) s)) s := by kernel_rfl
    have h1 : (fun e11_1 e11_2 e15_1 e15_2 e11_3 e15_3 e15_4 => (law12_ProgBack.M0 fuel e11_1 e11_2 e15_1 e15_2 e11_3 e15_3 e15_4 R k fuel)) = (fun e11_1 e11_2 e15_1 e15_2 e11_3 e15_3 e15_4 => (iter (law12_ProgBack.B0 fuel e11_1 e11_2 e15_1 e15_2 e11_3 e15_3 e15_4 (fun s11 => R ((law12_ProgBack.E1 e11_1 e11_2 e11_3) s11) ((law12_ProgBack.H1 e11_1 e11_2 e11_3) s11)) (fun r => k (tupAV .bool [] r))) fuel)) := funext fun e11_1 => funext fun e11_2 => funext fun e15_1 => funext fun e15_2 => funext fun e11_3 => funext fun e15_3 => funext fun e15_4 => law12_ProgBack.l0 fuel e11_1 e11_2 e15_1 e15_2 e11_3 e15_3 e15_4  R k fuel
    rw [h1] at h0
    exact h0)
def law12_ProgBack.sl {Ω : Type} (x0 : (List T_s50)) (x1 : ByteArray) (x2 : ByteArray) (lp1 : (List T_s50) → (List Bool) → Int → Int → Option Ω) (k : Bool → Option Ω) : Option Ω :=
  bif (decide (((List.length x0 : Nat) : Int) > 70)) then
    law12_alive.u.bind fun y1 =>
    k y1
  else
    bif (decide ((IntKind.wrap .i64 (((x1).size : Int) + ((x2).size : Int))) > 200)) then
      law12_alive.u.bind fun y2 =>
      k y2
    else
      (prog_Check.u x0).bind fun y3 =>
      bif (y3.2 != 0) then
        (prog_Bytes.u x0).bind fun y4 =>
        bif ((y4).data.toList == ((bs [])).data.toList) then
          (prog_Reach.u x0).bind fun y5 =>
          (prog_Alts.u x0).bind fun y6 =>
          let v7 : Bool := ((IntKind.wrap .i64 (((List.length y5 : Nat) : Int) + ((List.length y6 : Nat) : Int))) == 0)
          bif v7 then
            law12_alive.u.bind fun y8 =>
            k y8
          else
            k false
        else
          k false
      else
        (prog_Bytes.u x0).bind fun y9 =>
        bif (decide ((x1).size + (y9).size ≤ catMax)) then
          bif (decide (((x1 ++ y9)).size + (x2).size ≤ catMax)) then
            (prog_Read.u (((x1 ++ y9) ++ x2)) (((x1).size : Int))).bind fun y10 =>
            (prog_Reach.u x0).bind fun y11 =>
            bif (y10.2.2 != 0) then
              k false
            else
              (ref11_Same.u y10.1 x0).bind fun y12 =>
              bif (!y12) then
                k false
              else
                let v13 : Int := (IntKind.wrap .i64 ((IntKind.wrap .i64 (((x1).size : Int) + 1)) + (IntKind.wrap .i64 (4 * ((List.length x0 : Nat) : Int)))))
                bif (y10.2.1 != v13) then
                  k false
                else
                  bif (((List.length y11 : Nat) : Int) != ((List.length x0 : Nat) : Int)) then
                    k false
                  else
                    bif (idxOK 0 (List.length y11)) then
                      bif (!(List.getD y11 0 false)) then
                        k false
                      else
                        lp1 x0 y11 (((List.length y11 : Nat) : Int)) (0)
                    else
                      none
          else
            none
        else
          none
def law12_ProgBack.s {Ω : Type} (fuel : Nat) (x0 : (List T_s50)) (x1 : ByteArray) (x2 : ByteArray) (k : Bool → Option Ω) : Option Ω := law12_ProgBack.sl x0 x1 x2 (fun e11_1 e11_2 e11_3 => (iter (law12_ProgBack.B1 fuel e11_1 e11_2 e11_3  k) fuel)) k
theorem law12_ProgBack.ev {Ω : Type} (fuel : Nat) (x0 : (List T_s50)) (x1 : ByteArray) (x2 : ByteArray) (k : AV → Option Ω) : evFn CK law12_ProgBack.sp (law12_ProgBack.F fuel) Tryd.f6 (Tryd.f6.body.getD .skip) [(.v (.slice E_s50) (x0)), (.v .str (x1)), (.v .str (x2))] k = law12_ProgBack.s fuel x0 x1 x2 (fun r => k (tupAV .bool [] r)) := by
  have h0 : evFn CK law12_ProgBack.sp (law12_ProgBack.F fuel) Tryd.f6 (Tryd.f6.body.getD .skip) [(.v (.slice E_s50) (x0)), (.v .str (x1)), (.v .str (x2))] k = law12_ProgBack.sl x0 x1 x2 (fun e11_1 e11_2 e11_3 => (law12_ProgBack.M1 fuel e11_1 e11_2 e11_3  k fuel)) (fun r => k (tupAV .bool [] r)) := by kernel_rfl
  have h2 : (fun e11_1 e11_2 e11_3 => (law12_ProgBack.M1 fuel e11_1 e11_2 e11_3  k fuel)) = (fun e11_1 e11_2 e11_3 => (iter (law12_ProgBack.B1 fuel e11_1 e11_2 e11_3  (fun r => k (tupAV .bool [] r))) fuel)) := funext fun e11_1 => funext fun e11_2 => funext fun e11_3 => law12_ProgBack.l1 fuel e11_1 e11_2 e11_3   k fuel
  rw [h2] at h0
  exact h0
def law12_ProgBack.g0 {Ω : Type} (e11_1 : (List T_s50)) (e11_2 : (List Bool)) (e15_1 : Int) (e15_2 : Bool) (e11_3 : Int) (e15_3 : (List Int)) (r11 : Int → Option Ω) (k : Bool → Option Ω) : List Int → Option Ω
  | [] =>
    bif e15_2 then
      bif (idxOK e15_1 (List.length e11_1)) then
        (instr_Check.u ((List.getD e11_1 (Int.toNat e15_1) (0, (0, (0, (0, ()))))))).bind fun y17 =>
        bif (y17 != 0) then
          k false
        else
          r11 ((e15_1 + 1))
      else
        none
    else
      r11 ((e15_1 + 1))
  | x15 :: xs15 =>
    bif (decide (x15 < 0)) then
      k false
    else
      bif (decide (x15 > ((List.length e11_1 : Nat) : Int))) then
        k false
      else
        bif e15_2 then
          bif (decide (x15 < ((List.length e11_1 : Nat) : Int))) then
            bif (idxOK x15 (List.length e11_2)) then
              bif (!(List.getD e11_2 (Int.toNat x15) false)) then
                k false
              else
                bif (idxOK x15 (List.length e11_1)) then
                  let v15 : Bool := (decide ((List.getD e11_1 (Int.toNat x15) (0, (0, (0, (0, ()))))).1 ≥ 42))
                  bif v15 then
                    bif (idxOK x15 (List.length e11_1)) then
                      let v16 : Bool := (decide ((List.getD e11_1 (Int.toNat x15) (0, (0, (0, (0, ()))))).1 ≤ 45))
                      bif v16 then
                        k false
                      else
                        law12_ProgBack.g0 e11_1 e11_2 e15_1 e15_2 e11_3 e15_3 r11 k xs15
                    else
                      none
                  else
                    law12_ProgBack.g0 e11_1 e11_2 e15_1 e15_2 e11_3 e15_3 r11 k xs15
                else
                  none
            else
              none
          else
            law12_ProgBack.g0 e11_1 e11_2 e15_1 e15_2 e11_3 e15_3 r11 k xs15
        else
          law12_ProgBack.g0 e11_1 e11_2 e15_1 e15_2 e11_3 e15_3 r11 k xs15
theorem law12_ProgBack.h0 {Ω : Type} (e11_1 : (List T_s50)) (e11_2 : (List Bool)) (e15_1 : Int) (e15_2 : Bool) (e11_3 : Int) (e15_3 : (List Int)) (r11 : Int → Option Ω) (r11' : Int → Option Ω) (hr11 : ∀ q : Unit, Le (r11 ((e15_1 + 1))) (r11' ((IntKind.wrap .i64 (e15_1 + 1))))) (k : Bool → Option Ω) (hX : ((List.length e15_3 : Nat) : Int) ≤ 9223372036854775807) : ∀ (m : Nat) (i : Int) (a : Unit), 0 ≤ i → i ≤ ((List.length e15_3 : Nat) : Int) → ((List.length e15_3 : Nat) : Int) < m + i → Le (law12_ProgBack.g0 e11_1 e11_2 e15_1 e15_2 e11_3 e15_3 r11 k (List.drop (Int.toNat i) e15_3) ) (iter (law12_ProgBack.B0 BIG e11_1 e11_2 e15_1 e15_2 e11_3 e15_3 (((List.length e15_3 : Nat) : Int)) r11' k) m (i)) :=
  iter_list e15_3 0 (fun (i15 : Int) (a15 : Unit) => (i15)) (fun xs i15 a15 => law12_ProgBack.g0 e11_1 e11_2 e15_1 e15_2 e11_3 e15_3 r11 k xs ) (law12_ProgBack.B0 BIG e11_1 e11_2 e15_1 e15_2 e11_3 e15_3 (((List.length e15_3 : Nat) : Int)) r11' k)
    (fun i15 a15 r h0 => (Le.fls h0 (Le.cond (Le.cond (Le.bnd fun y17 => (Le.cond (Le.refl _) (hr11 ()))) Le.nil) (hr11 ()))))
    (fun i15 xs15 a15 r h0 h1 hw ih => (Le.tru h0 (Le.tru h1 (Le.cond (Le.refl _) (Le.cond (Le.refl _) (Le.cond (Le.cond (Le.cond (Le.cond (Le.refl _) (Le.cond (let v15 : Bool := (decide ((List.getD e11_1 (Int.toNat (List.getD e15_3 (Int.toNat i15) 0)) (0, (0, (0, (0, ()))))).1 ≥ 42)); (Le.cond (Le.cond (let v16 : Bool := (decide ((List.getD e11_1 (Int.toNat (List.getD e15_3 (Int.toNat i15) 0)) (0, (0, (0, (0, ()))))).1 ≤ 45)); (Le.cond (Le.refl _) (ih _ hw ()))) Le.nil) (ih _ hw ()))) Le.nil)) Le.nil) (ih _ hw ())) (ih _ hw ())))))))
    hX
def law12_ProgBack.g1 {Ω : Type} (e11_1 : (List T_s50)) (e11_2 : (List Bool))  (k : Bool → Option Ω) : List Bool → Int → Option Ω
  | [], i11 =>
    law12_alive.u.bind fun y18 =>
    k y18
  | x11 :: xs11, i11 =>
    (prog_Next.u e11_1 i11).bind fun y14 =>
    bif decide (((List.length y14 : Nat) : Int) ≤ 4611686018427387904) then law12_ProgBack.g0 e11_1 e11_2 i11 x11 (((List.length e11_2 : Nat) : Int)) y14 (fun q => law12_ProgBack.g1 e11_1 e11_2  k xs11 q) k y14  else none
theorem law12_ProgBack.h1 {Ω : Type} (e11_1 : (List T_s50)) (e11_2 : (List Bool))   (k : Bool → Option Ω) (hX : ((List.length e11_2 : Nat) : Int) ≤ 9223372036854775807) : ∀ (m : Nat) (i : Int) (a : Unit), 0 ≤ i → i ≤ ((List.length e11_2 : Nat) : Int) → ((List.length e11_2 : Nat) : Int) < m + i → Le (law12_ProgBack.g1 e11_1 e11_2  k (List.drop (Int.toNat i) e11_2) i) (iter (law12_ProgBack.B1 BIG e11_1 e11_2 (((List.length e11_2 : Nat) : Int))  k) m (i)) :=
  iter_list e11_2 false (fun (i11 : Int) (a11 : Unit) => (i11)) (fun xs i11 a11 => law12_ProgBack.g1 e11_1 e11_2  k xs i11) (law12_ProgBack.B1 BIG e11_1 e11_2 (((List.length e11_2 : Nat) : Int))  k)
    (fun i11 a11 r h0 => (Le.fls h0 (Le.bnd fun y18 => (Le.refl _))))
    (fun i11 xs11 a11 r h0 h1 hw ih => (Le.tru h0 (Le.tru h1 (Le.bnd fun y14 => (Le.gd fun hg => law12_ProgBack.h0 _ _ _ _ _ _ _ _ (fun q => ih _ hw q) k (le_up (of_decide_eq_true hg)) BIG 0 () (by decide) (zero_le_len _) (big_list (of_decide_eq_true hg)))))))
    hX
def law12_ProgBack.w {Ω : Type} (x0 : (List T_s50)) (x1 : ByteArray) (x2 : ByteArray) (k : Bool → Option Ω) : Option Ω :=
  bif (decide (((List.length x0 : Nat) : Int) > 70)) then
    law12_alive.u.bind fun y1 =>
    k y1
  else
    bif (decide ((IntKind.wrap .i64 (((x1).size : Int) + ((x2).size : Int))) > 200)) then
      law12_alive.u.bind fun y2 =>
      k y2
    else
      (prog_Check.u x0).bind fun y3 =>
      bif (y3.2 != 0) then
        (prog_Bytes.u x0).bind fun y4 =>
        bif ((y4).data.toList == ((bs [])).data.toList) then
          (prog_Reach.u x0).bind fun y5 =>
          (prog_Alts.u x0).bind fun y6 =>
          let v7 : Bool := ((IntKind.wrap .i64 (((List.length y5 : Nat) : Int) + ((List.length y6 : Nat) : Int))) == 0)
          bif v7 then
            law12_alive.u.bind fun y8 =>
            k y8
          else
            k false
        else
          k false
      else
        (prog_Bytes.u x0).bind fun y9 =>
        bif (decide ((x1).size + (y9).size ≤ catMax)) then
          bif (decide (((x1 ++ y9)).size + (x2).size ≤ catMax)) then
            (prog_Read.u (((x1 ++ y9) ++ x2)) (((x1).size : Int))).bind fun y10 =>
            (prog_Reach.u x0).bind fun y11 =>
            bif (y10.2.2 != 0) then
              k false
            else
              (ref11_Same.u y10.1 x0).bind fun y12 =>
              bif (!y12) then
                k false
              else
                let v13 : Int := (IntKind.wrap .i64 ((IntKind.wrap .i64 (((x1).size : Int) + 1)) + (IntKind.wrap .i64 (4 * ((List.length x0 : Nat) : Int)))))
                bif (y10.2.1 != v13) then
                  k false
                else
                  bif (((List.length y11 : Nat) : Int) != ((List.length x0 : Nat) : Int)) then
                    k false
                  else
                    bif (idxOK 0 (List.length y11)) then
                      bif (!(List.getD y11 0 false)) then
                        k false
                      else
                        bif decide (((List.length y11 : Nat) : Int) ≤ 4611686018427387904) then law12_ProgBack.g1 x0 y11  k y11 0 else none
                    else
                      none
          else
            none
        else
          none
theorem law12_ProgBack.le {Ω : Type} (x0 : (List T_s50)) (x1 : ByteArray) (x2 : ByteArray) (k : Bool → Option Ω) : Le (law12_ProgBack.w x0 x1 x2 k) (law12_ProgBack.s BIG x0 x1 x2 k) := by
  delta law12_ProgBack.w law12_ProgBack.s law12_ProgBack.sl
  exact (Le.cond (Le.bnd fun y1 => (Le.refl _)) (Le.cond (Le.bnd fun y2 => (Le.refl _)) (Le.bnd fun y3 => (Le.cond (Le.bnd fun y4 => (Le.cond (Le.bnd fun y5 => (Le.bnd fun y6 => (let v7 : Bool := ((IntKind.wrap .i64 (((List.length y5 : Nat) : Int) + ((List.length y6 : Nat) : Int))) == 0); (Le.cond (Le.bnd fun y8 => (Le.refl _)) (Le.refl _))))) (Le.refl _))) (Le.bnd fun y9 => (Le.cond (Le.cond (Le.bnd fun y10 => (Le.bnd fun y11 => (Le.cond (Le.refl _) (Le.bnd fun y12 => (Le.cond (Le.refl _) (let v13 : Int := (IntKind.wrap .i64 ((IntKind.wrap .i64 (((x1).size : Int) + 1)) + (IntKind.wrap .i64 (4 * ((List.length x0 : Nat) : Int))))); (Le.cond (Le.refl _) (Le.cond (Le.refl _) (Le.cond (Le.cond (Le.refl _) (Le.gd fun hg => law12_ProgBack.h1 _ _   k (le_up (of_decide_eq_true hg)) BIG 0 () (by decide) (zero_le_len _) (big_list (of_decide_eq_true hg)))) Le.nil))))))))) Le.nil) Le.nil))))))
def law12_ProgBack.u (x0 : (List T_s50)) (x1 : ByteArray) (x2 : ByteArray) : Option (Bool) := law12_ProgBack.w x0 x1 x2 some
theorem law12_ProgBack.c (x0 : (List T_s50)) (x1 : ByteArray) (x2 : ByteArray) (r : Bool) (h : law12_ProgBack.u x0 x1 x2 = some r) : Contract CK 6 [(.v (.slice E_s50) (x0)), (.v .str (x1)), (.v .str (x2))] (tupAV .bool [] r) :=
  contract_s (S := fun k => law12_ProgBack.s BIG x0 x1 x2 k) CK_ok (orS_ok instr_Check.e_ok (orS_ok (ref11_Same.e_ok.mono le_C_CK) (orS_ok prog_Read.e_ok (orS_ok prog_Next.e_ok (orS_ok prog_Reach.e_ok (orS_ok prog_Bytes.e_ok (orS_ok prog_Alts.e_ok (orS_ok prog_Check.e_ok (orS_ok law12_alive.e_ok noS_ok))))))))) (by kernel_rfl) (by kernel_rfl) (by kernel_rfl) (law12_ProgBack.ev BIG x0 x1 x2 (dec .bool [])) (law12_ProgBack.le x0 x1 x2 some r h)
noncomputable def law12_ProgBack.e : Ent := argI (.slice E_s50) fun x0 => argI .str fun x1 => argI .str fun x2 => endU (law12_ProgBack.u x0 x1 x2) (tupAV .bool [])
theorem law12_ProgBack.e_ok : EntOK CK 6 (fun {_} => law12_ProgBack.e) := entA_ok (argI_ok fun x0 => argI_ok fun x1 => argI_ok fun x2 => endU_ok fun r h => law12_ProgBack.c x0 x1 x2 r h)

end Go.Proofs.YthamolhikhcilaaDoor.K

/- What functions of the program come to, plainly. -/
import Derived.Test.YtmphlhnpichonaaDoorZ13a
set_option maxRecDepth 100000
set_option linter.unusedVariables false
namespace Go.Proofs.YtmphlhnpichonaaDoor.K
open Go Go.RowKit

/-- becket frame.Text -/
noncomputable def frame_Text.sp : Spec := (orS 61 (fun {_} => strings_Join.e) (orS 60 (fun {_} => frame_row.e) (orS 17 (fun {_} => frame_Fine.e) noS)))
def frame_Text.s {Ω : Type} (x0 : (Int × (Bool × ((List Int) × ((List Int) × (Int × ((List Int) × Unit))))))) (k : ByteArray → Option Ω) : Option Ω :=
  (frame_Fine.u x0).bind fun y1 =>
  bif (!y1) then
    k (bs [])
  else
    (frame_row.u (bs [112, 99]) ([x0.1])).bind fun y2 =>
    bif x0.2.1 then
      bif (decide (List.length [y2] + List.length [(bs [98, 97, 100])] ≤ rowMax)) then
        bif (subC none none 8) then
          (frame_row.u (bs [114]) (((List.drop (subLo none) x0.2.2.1).take (subHi none 8 - subLo none)))).bind fun y3 =>
          bif (subC none none 16) then
            (frame_row.u (bs [109]) (((List.drop (subLo none) x0.2.2.2.1).take (subHi none 16 - subLo none)))).bind fun y4 =>
            bif (subC none (some (x0.2.2.2.2.1)) 8) then
              (frame_row.u (bs [115]) (((List.drop (subLo none) x0.2.2.2.2.2.1).take (subHi (some (x0.2.2.2.2.1)) 8 - subLo none)))).bind fun y5 =>
              bif (decide (List.length ([y2] ++ [(bs [98, 97, 100])]) + List.length [y3, y4, y5] ≤ rowMax)) then
                (strings_Join.u ((([y2] ++ [(bs [98, 97, 100])]) ++ [y3, y4, y5])) (bs [32])).bind fun y6 =>
                k y6
              else
                none
            else
              none
          else
            none
        else
          none
      else
        none
    else
      bif (subC none none 8) then
        (frame_row.u (bs [114]) (((List.drop (subLo none) x0.2.2.1).take (subHi none 8 - subLo none)))).bind fun y7 =>
        bif (subC none none 16) then
          (frame_row.u (bs [109]) (((List.drop (subLo none) x0.2.2.2.1).take (subHi none 16 - subLo none)))).bind fun y8 =>
          bif (subC none (some (x0.2.2.2.2.1)) 8) then
            (frame_row.u (bs [115]) (((List.drop (subLo none) x0.2.2.2.2.2.1).take (subHi (some (x0.2.2.2.2.1)) 8 - subLo none)))).bind fun y9 =>
            bif (decide (List.length [y2] + List.length [y7, y8, y9] ≤ rowMax)) then
              (strings_Join.u ([y2] ++ [y7, y8, y9]) (bs [32])).bind fun y10 =>
              k y10
            else
              none
          else
            none
        else
          none
      else
        none
theorem frame_Text.ev {Ω : Type} (fuel : Fuel) (x0 : (Int × (Bool × ((List Int) × ((List Int) × (Int × ((List Int) × Unit))))))) (k : AV → Option Ω) : evFn CP (fun {_} => frame_Text.sp) fuel Tryd.f19 (Tryd.f19.body.getD .skip) [(.v (.pair (.int .i64) (.pair .bool (.pair (.arr 8 (.int .i64)) (.pair (.arr 16 (.int .i64)) (.pair (.int .i64) (.pair (.arr 8 (.int .i64)) .unit)))))) (x0))] k = frame_Text.s x0 (fun r => k (tupAV .str [] r)) := by kernel_rfl
def frame_Text.u (x0 : (Int × (Bool × ((List Int) × ((List Int) × (Int × ((List Int) × Unit))))))) : Option (ByteArray) := frame_Text.s x0 some
theorem frame_Text.c (x0 : (Int × (Bool × ((List Int) × ((List Int) × (Int × ((List Int) × Unit))))))) (r : ByteArray) (h : frame_Text.u x0 = some r) : Contract CP 19 [(.v (.pair (.int .i64) (.pair .bool (.pair (.arr 8 (.int .i64)) (.pair (.arr 16 (.int .i64)) (.pair (.int .i64) (.pair (.arr 8 (.int .i64)) .unit)))))) (x0))] (tupAV .str [] r) :=
  contract_s (S := fun k => frame_Text.s x0 k) CP_ok (orS_ok (strings_Join.e_ok.mono le_C_CP) (orS_ok frame_row.e_ok (orS_ok (frame_Fine.e_ok.mono le_C_CP) noS_ok))) (by kernel_rfl) (by kernel_rfl) (by kernel_rfl) (frame_Text.ev ⟨1, fun _ => []⟩ x0 (dec .str [])) h
noncomputable def frame_Text.e : Ent := argI (.pair (.int .i64) (.pair .bool (.pair (.arr 8 (.int .i64)) (.pair (.arr 16 (.int .i64)) (.pair (.int .i64) (.pair (.arr 8 (.int .i64)) .unit)))))) fun x0 => endU (frame_Text.u x0) (tupAV .str [])
theorem frame_Text.e_ok : EntOK CP 19 (fun {_} => frame_Text.e) := entA_ok (argI_ok fun x0 => endU_ok fun r h => frame_Text.c x0 r h)

/-- becket becketref13.number -/
noncomputable def ref13_number.sp : Spec := (orS 51 (fun {_} => ref08_Text.e) noS)
def ref13_number.s {Ω : Type} (x0 : Int) (k : ByteArray → Option Ω) : Option Ω :=
  (ref08_Text.u x0).bind fun y1 =>
  bif (decide (((bs [32])).size + (y1.1).size ≤ catMax)) then
    k ((bs [32]) ++ y1.1)
  else
    none
theorem ref13_number.ev {Ω : Type} (fuel : Fuel) (x0 : Int) (k : AV → Option Ω) : evFn C (fun {_} => ref13_number.sp) fuel Tryd.f62 (Tryd.f62.body.getD .skip) [(.v (.int .i64) (x0))] k = ref13_number.s x0 (fun r => k (tupAV .str [] r)) := by kernel_rfl
def ref13_number.u (x0 : Int) : Option (ByteArray) := ref13_number.s x0 some
theorem ref13_number.c (x0 : Int) (r : ByteArray) (h : ref13_number.u x0 = some r) : Contract C 62 [(.v (.int .i64) (x0))] (tupAV .str [] r) :=
  contract_s (S := fun k => ref13_number.s x0 k) C_ok (orS_ok ref08_Text.e_ok noS_ok) (by kernel_rfl) (by kernel_rfl) (by kernel_rfl) (ref13_number.ev ⟨1, fun _ => []⟩ x0 (dec .str [])) h
noncomputable def ref13_number.e : Ent := argI (.int .i64) fun x0 => endU (ref13_number.u x0) (tupAV .str [])
theorem ref13_number.e_ok : EntOK C 62 (fun {_} => ref13_number.e) := entA_ok (argI_ok fun x0 => endU_ok fun r h => ref13_number.c x0 r h)

/-- becket becketref13.Text -/
noncomputable def ref13_Text.sp : Spec := (orS 62 (fun {_} => ref13_number.e) (orS 18 (fun {_} => ref13_Fine.e) noS))
def ref13_Text.F (fuel : Nat) : Fuel := ⟨fuel, fun r => bif r == 18 then [0, 4, 5, 7, 8, 9, 10, 11, 12, 13, 14, 15, 16, 17, 18, 19, 20, 21, 22, 23, 24, 25, 26, 27, 28, 29, 30, 31, 32, 33, 34, 35, 36, 37, 38, 39, 40, 41, 42, 43, 44, 45] else bif r == 13 then [0, 4, 7, 8, 9, 10, 11, 12, 13, 14, 15, 16, 17, 18, 19, 20, 21, 22, 23, 24, 25, 26, 27, 28, 29, 30, 31, 32] else bif r == 8 then [0, 7, 8, 9, 10, 11, 12, 13, 14, 15, 16, 17, 18, 19] else []⟩
def ref13_Text.b0 {Ω : Type} (e8_1 : (Int × (Bool × ((List Int) × ((List Int) × (Int × ((List Int) × Unit)))))))   (k : ByteArray → Option Ω) (r18 : ByteArray × Int → Option Ω) (s18 : ByteArray × Int) : Option Ω :=
  bif (decide (s18.2 < e8_1.2.2.2.2.1)) then
    bif (idxOK s18.2 8) then
      (ref13_number.u ((List.getD e8_1.2.2.2.2.2.1 (Int.toNat s18.2) 0))).bind fun y5 =>
      bif (decide ((s18.1).size + (y5).size ≤ catMax)) then
        r18 ((s18.1 ++ y5), (IntKind.wrap .i64 (s18.2 + 1)))
      else
        none
    else
      none
  else
    k s18.1
def ref13_Text.B0 {Ω : Type} (fuel : Nat) (e8_1 : (Int × (Bool × ((List Int) × ((List Int) × (Int × ((List Int) × Unit)))))))  (k : ByteArray → Option Ω) (r18 : ByteArray × Int → Option Ω) (s18 : ByteArray × Int) : Option Ω := ref13_Text.b0 e8_1   k r18 s18
def ref13_Text.b1 {Ω : Type} (e8_1 : (Int × (Bool × ((List Int) × ((List Int) × (Int × ((List Int) × Unit)))))))  (lp0 : (Int × (Bool × ((List Int) × ((List Int) × (Int × ((List Int) × Unit)))))) → ByteArray × Int → Option Ω) (k : ByteArray → Option Ω) (r13 : ByteArray × Int → Option Ω) (s13 : ByteArray × Int) : Option Ω :=
  bif (decide (s13.2 < 16)) then
    bif (idxOK s13.2 16) then
      (ref13_number.u ((List.getD e8_1.2.2.2.1 (Int.toNat s13.2) 0))).bind fun y4 =>
      bif (decide ((s13.1).size + (y4).size ≤ catMax)) then
        r13 ((s13.1 ++ y4), (IntKind.wrap .i64 (s13.2 + 1)))
      else
        none
    else
      none
  else
    bif (decide ((s13.1).size + ((bs [32, 115])).size ≤ catMax)) then
      lp0 e8_1 ((s13.1 ++ (bs [32, 115])), 0)
    else
      none
def ref13_Text.B1 {Ω : Type} (fuel : Nat) (e8_1 : (Int × (Bool × ((List Int) × ((List Int) × (Int × ((List Int) × Unit)))))))  (k : ByteArray → Option Ω) (r13 : ByteArray × Int → Option Ω) (s13 : ByteArray × Int) : Option Ω := ref13_Text.b1 e8_1  (fun e8_1 => (iter (ref13_Text.B0 fuel e8_1  k) fuel)) k r13 s13
def ref13_Text.b2 {Ω : Type} (e8_1 : (Int × (Bool × ((List Int) × ((List Int) × (Int × ((List Int) × Unit)))))))  (lp1 : (Int × (Bool × ((List Int) × ((List Int) × (Int × ((List Int) × Unit)))))) → ByteArray × Int → Option Ω) (k : ByteArray → Option Ω) (r8 : ByteArray × Int → Option Ω) (s8 : ByteArray × Int) : Option Ω :=
  bif (decide (s8.2 < 8)) then
    bif (idxOK s8.2 8) then
      (ref13_number.u ((List.getD e8_1.2.2.1 (Int.toNat s8.2) 0))).bind fun y3 =>
      bif (decide ((s8.1).size + (y3).size ≤ catMax)) then
        r8 ((s8.1 ++ y3), (IntKind.wrap .i64 (s8.2 + 1)))
      else
        none
    else
      none
  else
    bif (decide ((s8.1).size + ((bs [32, 109])).size ≤ catMax)) then
      lp1 e8_1 ((s8.1 ++ (bs [32, 109])), 0)
    else
      none
def ref13_Text.B2 {Ω : Type} (fuel : Nat) (e8_1 : (Int × (Bool × ((List Int) × ((List Int) × (Int × ((List Int) × Unit)))))))  (k : ByteArray → Option Ω) (r8 : ByteArray × Int → Option Ω) (s8 : ByteArray × Int) : Option Ω := ref13_Text.b2 e8_1  (fun e8_1 => (iter (ref13_Text.B1 fuel e8_1  k) fuel)) k r8 s8
theorem ref13_Text.l0 {Ω : Type} (fuel : Nat) (e8_1 : (Int × (Bool × ((List Int) × ((List Int) × (Int × ((List Int) × Unit)))))))  (k : AV → Option Ω) : ∀ m, (fun s => loopK (fun env L k => evCode C (fun {_} => ref13_Text.sp) (ref13_Text.F fuel) (cl (cl (cr (cl (cr (cr (cr (cr (cr (cr (cr (cr (cr (Tryd.f20.body.getD .skip)))))))))))))) env L k) [true, false, false, false, true, true, false, true, true, true, true, true, true, true, true, true, true, true, true, true, true, true, true, true, true, true, true, true, true, true, true, true, true, true, true, true, true, true, true, true, true, true, true, true, true, true, true, true, true, true, true, true, true, true, true, true, true, true, true, true] 1 (blockK 4 (seqK (fun env L => evCode C (fun {_} => ref13_Text.sp) (ref13_Text.F fuel) (cr (cr (cr (cr (cr (cr (cr (cr (cr (cr (Tryd.f20.body.getD .skip))))))))))) env L (finK C Tryd.f20 k)) (finK C Tryd.f20 k))) m ((fun s18 => [.dead, (.ref 0 []), (.v .str (bs [])), (.v .str (s18.1)), .dead, .dead, (.v (.int .i64) (s18.2)), .dead, .dead, .dead, .dead, .dead, .dead, .dead, .dead, .dead, .dead, .dead, .dead, .dead, .dead, .dead, .dead, .dead, .dead, .dead, .dead, .dead, .dead, .dead, .dead, .dead, .dead, .dead, .dead, .dead, .dead, .dead, .dead, .dead, .dead, .dead, .dead, .dead, .dead, .dead, .dead, .dead, .dead, .dead, .dead, .dead, .dead, .dead, .dead, .dead, .dead, .dead, .dead, .dead]) s) ((fun s18 => [(.box (.pair (.int .i64) (.pair .bool (.pair (.arr 8 (.int .i64)) (.pair (.arr 16 (.int .i64)) (.pair (.int .i64) (.pair (.arr 8 (.int .i64)) .unit)))))) e8_1 false)]) s)) = iter (ref13_Text.B0 fuel e8_1  (fun r => k (tupAV .str [] r))) m :=
  loopK_iter (envOf := (fun s18 => [.dead, (.ref 0 []), (.v .str (bs [])), (.v .str (s18.1)), .dead, .dead, (.v (.int .i64) (s18.2)), .dead, .dead, .dead, .dead, .dead, .dead, .dead, .dead, .dead, .dead, .dead, .dead, .dead, .dead, .dead, .dead, .dead, .dead, .dead, .dead, .dead, .dead, .dead, .dead, .dead, .dead, .dead, .dead, .dead, .dead, .dead, .dead, .dead, .dead, .dead, .dead, .dead, .dead, .dead, .dead, .dead, .dead, .dead, .dead, .dead, .dead, .dead, .dead, .dead, .dead, .dead, .dead, .dead])) (LOf := (fun s18 => [(.box (.pair (.int .i64) (.pair .bool (.pair (.arr 8 (.int .i64)) (.pair (.arr 16 (.int .i64)) (.pair (.int .i64) (.pair (.arr 8 (.int .i64)) .unit)))))) e8_1 false)])) (B := ref13_Text.B0 fuel e8_1  (fun r => k (tupAV .str [] r))) (fun R s => by kernel_rfl)
theorem ref13_Text.l1 {Ω : Type} (fuel : Nat) (e8_1 : (Int × (Bool × ((List Int) × ((List Int) × (Int × ((List Int) × Unit)))))))  (k : AV → Option Ω) : ∀ m, (fun s => loopK (fun env L k => evCode C (fun {_} => ref13_Text.sp) (ref13_Text.F fuel) (cl (cl (cr (cl (cr (cr (cr (cr (cr (cr (cr (Tryd.f20.body.getD .skip)))))))))))) env L k) [true, false, false, false, true, false, true, true, true, true, true, true, true, true, true, true, true, true, true, true, true, true, true, true, true, true, true, true, true, true, true, true, true, true, true, true, true, true, true, true, true, true, true, true, true, true, true, true, true, true, true, true, true, true, true, true, true, true, true, true] 1 (blockK 2 (seqK (fun env L => evCode C (fun {_} => ref13_Text.sp) (ref13_Text.F fuel) (cr (cr (cr (cr (cr (cr (cr (cr (Tryd.f20.body.getD .skip))))))))) env L (finK C Tryd.f20 k)) (finK C Tryd.f20 k))) m ((fun s13 => [.dead, (.ref 0 []), (.v .str (bs [])), (.v .str (s13.1)), .dead, (.v (.int .i64) (s13.2)), .dead, .dead, .dead, .dead, .dead, .dead, .dead, .dead, .dead, .dead, .dead, .dead, .dead, .dead, .dead, .dead, .dead, .dead, .dead, .dead, .dead, .dead, .dead, .dead, .dead, .dead, .dead, .dead, .dead, .dead, .dead, .dead, .dead, .dead, .dead, .dead, .dead, .dead, .dead, .dead, .dead, .dead, .dead, .dead, .dead, .dead, .dead, .dead, .dead, .dead, .dead, .dead, .dead, .dead]) s) ((fun s13 => [(.box (.pair (.int .i64) (.pair .bool (.pair (.arr 8 (.int .i64)) (.pair (.arr 16 (.int .i64)) (.pair (.int .i64) (.pair (.arr 8 (.int .i64)) .unit)))))) e8_1 false)]) s)) = iter (ref13_Text.B1 fuel e8_1  (fun r => k (tupAV .str [] r))) m :=
  loopK_iter (envOf := (fun s13 => [.dead, (.ref 0 []), (.v .str (bs [])), (.v .str (s13.1)), .dead, (.v (.int .i64) (s13.2)), .dead, .dead, .dead, .dead, .dead, .dead, .dead, .dead, .dead, .dead, .dead, .dead, .dead, .dead, .dead, .dead, .dead, .dead, .dead, .dead, .dead, .dead, .dead, .dead, .dead, .dead, .dead, .dead, .dead, .dead, .dead, .dead, .dead, .dead, .dead, .dead, .dead, .dead, .dead, .dead, .dead, .dead, .dead, .dead, .dead, .dead, .dead, .dead, .dead, .dead, .dead, .dead, .dead, .dead])) (LOf := (fun s13 => [(.box (.pair (.int .i64) (.pair .bool (.pair (.arr 8 (.int .i64)) (.pair (.arr 16 (.int .i64)) (.pair (.int .i64) (.pair (.arr 8 (.int .i64)) .unit)))))) e8_1 false)])) (B := ref13_Text.B1 fuel e8_1  (fun r => k (tupAV .str [] r))) (fun R s => by
    have h0 : evCode C (fun {_} => ref13_Text.sp) (ref13_Text.F fuel) (cl (cl (cr (cl (cr (cr (cr (cr (cr (cr (cr (Tryd.f20.body.getD .skip)))))))))))) ((fun s13 => [.dead, (.ref 0 []), (.v .str (bs [])), (.v .str (s13.1)), .dead, (.v (.int .i64) (s13.2)), .dead, .dead, .dead, .dead, .dead, .dead, .dead, .dead, .dead, .dead, .dead, .dead, .dead, .dead, .dead, .dead, .dead, .dead, .dead, .dead, .dead, .dead, .dead, .dead, .dead, .dead, .dead, .dead, .dead, .dead, .dead, .dead, .dead, .dead, .dead, .dead, .dead, .dead, .dead, .dead, .dead, .dead, .dead, .dead, .dead, .dead, .dead, .dead, .dead, .dead, .dead, .dead, .dead, .dead]) s) ((fun s13 => [(.box (.pair (.int .i64) (.pair .bool (.pair (.arr 8 (.int .i64)) (.pair (.arr 16 (.int .i64)) (.pair (.int .i64) (.pair (.arr 8 (.int .i64)) .unit)))))) e8_1 false)]) s) (loopC R [true, false, false, false, true, false, true, true, true, true, true, true, true, true, true, true, true, true, true, true, true, true, true, true, true, true, true, true, true, true, true, true, true, true, true, true, true, true, true, true, true, true, true, true, true, true, true, true, true, true, true, true, true, true, true, true, true, true, true, true] 1 (blockK 2 (seqK (fun env L => evCode C (fun {_} => ref13_Text.sp) (ref13_Text.F fuel) (cr (cr (cr (cr (cr (cr (cr (cr (Tryd.f20.body.getD .skip))))))))) env L (finK C Tryd.f20 k)) (finK C Tryd.f20 k)))) = ref13_Text.b1 e8_1  (fun e8_1 => (fun s => loopK (fun env L k => evCode C (fun {_} => ref13_Text.sp) (ref13_Text.F fuel) (cl (cl (cr (cl (cr (cr (cr (cr (cr (cr (cr (cr (cr (Tryd.f20.body.getD .skip)))))))))))))) env L k) [true, false, false, false, true, true, false, true, true, true, true, true, true, true, true, true, true, true, true, true, true, true, true, true, true, true, true, true, true, true, true, true, true, true, true, true, true, true, true, true, true, true, true, true, true, true, true, true, true, true, true, true, true, true, true, true, true, true, true, true] 1 (blockK 4 (seqK (fun env L => evCode C (fun {_} => ref13_Text.sp) (ref13_Text.F fuel) (cr (cr (cr (cr (cr (cr (cr (cr (cr (cr (Tryd.f20.body.getD .skip))))))))))) env L (finK C Tryd.f20 k)) (finK C Tryd.f20 k))) fuel ((fun s18 => [.dead, (.ref 0 []), (.v .str (bs [])), (.v .str (s18.1)), .dead, .dead, (.v (.int .i64) (s18.2)), .dead, .dead, .dead, .dead, .dead, .dead, .dead, .dead, .dead, .dead, .dead, .dead, .dead, .dead, .dead, .dead, .dead, .dead, .dead, .dead, .dead, .dead, .dead, .dead, .dead, .dead, .dead, .dead, .dead, .dead, .dead, .dead, .dead, .dead, .dead, .dead, .dead, .dead, .dead, .dead, .dead, .dead, .dead, .dead, .dead, .dead, .dead, .dead, .dead, .dead, .dead, .dead, .dead]) s) ((fun s18 => [(.box (.pair (.int .i64) (.pair .bool (.pair (.arr 8 (.int .i64)) (.pair (.arr 16 (.int .i64)) (.pair (.int .i64) (.pair (.arr 8 (.int .i64)) .unit)))))) e8_1 false)]) s))) (fun r => k (tupAV .str [] r)) (fun s => R ((fun s13 => [.dead, (.ref 0 []), (.v .str (bs [])), (.v .str (s13.1)), .dead, (.v (.int .i64) (s13.2)), .dead, .dead, .dead, .dead, .dead, .dead, .dead, .dead, .dead, .dead, .dead, .dead, .dead, .dead, .dead, .dead, .dead, .dead, .dead, .dead, .dead, .dead, .dead, .dead, .dead, .dead, .dead, .dead, .dead, .dead, .dead, .dead, .dead, .dead, .dead, .dead, .dead, .dead, .dead, .dead, .dead, .dead, .dead, .dead, .dead, .dead, .dead, .dead, .dead, .dead, .dead, .dead, .dead, .dead]) s) ((fun s13 => [(.box (.pair (.int .i64) (.pair .bool (.pair (.arr 8 (.int .i64)) (.pair (.arr 16 (.int .i64)) (.pair (.int .i64) (.pair (.arr 8 (.int .i64)) .unit)))))) e8_1 false)]) s)) s := by kernel_rfl
    have h1 : (fun e8_1 => (fun s => loopK (fun env L k => evCode C (fun {_} => ref13_Text.sp) (ref13_Text.F fuel) (cl (cl (cr (cl (cr (cr (cr (cr (cr (cr (cr (cr (cr (Tryd.f20.body.getD .skip)))))))))))))) env L k) [true, false, false, false, true, true, false, true, true, true, true, true, true, true, true, true, true, true, true, true, true, true, true, true, true, true, true, true, true, true, true, true, true, true, true, true, true, true, true, true, true, true, true, true, true, true, true, true, true, true, true, true, true, true, true, true, true, true, true, true] 1 (blockK 4 (seqK (fun env L => evCode C (fun {_} => ref13_Text.sp) (ref13_Text.F fuel) (cr (cr (cr (cr (cr (cr (cr (cr (cr (cr (Tryd.f20.body.getD .skip))))))))))) env L (finK C Tryd.f20 k)) (finK C Tryd.f20 k))) fuel ((fun s18 => [.dead, (.ref 0 []), (.v .str (bs [])), (.v .str (s18.1)), .dead, .dead, (.v (.int .i64) (s18.2)), .dead, .dead, .dead, .dead, .dead, .dead, .dead, .dead, .dead, .dead, .dead, .dead, .dead, .dead, .dead, .dead, .dead, .dead, .dead, .dead, .dead, .dead, .dead, .dead, .dead, .dead, .dead, .dead, .dead, .dead, .dead, .dead, .dead, .dead, .dead, .dead, .dead, .dead, .dead, .dead, .dead, .dead, .dead, .dead, .dead, .dead, .dead, .dead, .dead, .dead, .dead, .dead, .dead]) s) ((fun s18 => [(.box (.pair (.int .i64) (.pair .bool (.pair (.arr 8 (.int .i64)) (.pair (.arr 16 (.int .i64)) (.pair (.int .i64) (.pair (.arr 8 (.int .i64)) .unit)))))) e8_1 false)]) s))) = (fun e8_1 => (iter (ref13_Text.B0 fuel e8_1  (fun r => k (tupAV .str [] r))) fuel)) := funext fun e8_1 => ref13_Text.l0 fuel e8_1   k fuel
    rw [h1] at h0
    exact h0)
theorem ref13_Text.l2 {Ω : Type} (fuel : Nat) (e8_1 : (Int × (Bool × ((List Int) × ((List Int) × (Int × ((List Int) × Unit)))))))  (k : AV → Option Ω) : ∀ m, (fun s => loopK (fun env L k => evCode C (fun {_} => ref13_Text.sp) (ref13_Text.F fuel) (cl (cl (cr (cl (cr (cr (cr (cr (cr (Tryd.f20.body.getD .skip)))))))))) env L k) [true, false, false, false, false, true, true, true, true, true, true, true, true, true, true, true, true, true, true, true, true, true, true, true, true, true, true, true, true, true, true, true, true, true, true, true, true, true, true, true, true, true, true, true, true, true, true, true, true, true, true, true, true, true, true, true, true, true, true, true] 1 (blockK 0 (seqK (fun env L => evCode C (fun {_} => ref13_Text.sp) (ref13_Text.F fuel) (cr (cr (cr (cr (cr (cr (Tryd.f20.body.getD .skip))))))) env L (finK C Tryd.f20 k)) (finK C Tryd.f20 k))) m ((fun s8 => [.dead, (.ref 0 []), (.v .str (bs [])), (.v .str (s8.1)), (.v (.int .i64) (s8.2)), .dead, .dead, .dead, .dead, .dead, .dead, .dead, .dead, .dead, .dead, .dead, .dead, .dead, .dead, .dead, .dead, .dead, .dead, .dead, .dead, .dead, .dead, .dead, .dead, .dead, .dead, .dead, .dead, .dead, .dead, .dead, .dead, .dead, .dead, .dead, .dead, .dead, .dead, .dead, .dead, .dead, .dead, .dead, .dead, .dead, .dead, .dead, .dead, .dead, .dead, .dead, .dead, .dead, .dead, .dead]) s) ((fun s8 => [(.box (.pair (.int .i64) (.pair .bool (.pair (.arr 8 (.int .i64)) (.pair (.arr 16 (.int .i64)) (.pair (.int .i64) (.pair (.arr 8 (.int .i64)) .unit)))))) e8_1 false)]) s)) = iter (ref13_Text.B2 fuel e8_1  (fun r => k (tupAV .str [] r))) m :=
  loopK_iter (envOf := (fun s8 => [.dead, (.ref 0 []), (.v .str (bs [])), (.v .str (s8.1)), (.v (.int .i64) (s8.2)), .dead, .dead, .dead, .dead, .dead, .dead, .dead, .dead, .dead, .dead, .dead, .dead, .dead, .dead, .dead, .dead, .dead, .dead, .dead, .dead, .dead, .dead, .dead, .dead, .dead, .dead, .dead, .dead, .dead, .dead, .dead, .dead, .dead, .dead, .dead, .dead, .dead, .dead, .dead, .dead, .dead, .dead, .dead, .dead, .dead, .dead, .dead, .dead, .dead, .dead, .dead, .dead, .dead, .dead, .dead])) (LOf := (fun s8 => [(.box (.pair (.int .i64) (.pair .bool (.pair (.arr 8 (.int .i64)) (.pair (.arr 16 (.int .i64)) (.pair (.int .i64) (.pair (.arr 8 (.int .i64)) .unit)))))) e8_1 false)])) (B := ref13_Text.B2 fuel e8_1  (fun r => k (tupAV .str [] r))) (fun R s => by
    have h0 : evCode C (fun {_} => ref13_Text.sp) (ref13_Text.F fuel) (cl (cl (cr (cl (cr (cr (cr (cr (cr (Tryd.f20.body.getD .skip)))))))))) ((fun s8 => [.dead, (.ref 0 []), (.v .str (bs [])), (.v .str (s8.1)), (.v (.int .i64) (s8.2)), .dead, .dead, .dead, .dead, .dead, .dead, .dead, .dead, .dead, .dead, .dead, .dead, .dead, .dead, .dead, .dead, .dead, .dead, .dead, .dead, .dead, .dead, .dead, .dead, .dead, .dead, .dead, .dead, .dead, .dead, .dead, .dead, .dead, .dead, .dead, .dead, .dead, .dead, .dead, .dead, .dead, .dead, .dead, .dead, .dead, .dead, .dead, .dead, .dead, .dead, .dead, .dead, .dead, .dead, .dead]) s) ((fun s8 => [(.box (.pair (.int .i64) (.pair .bool (.pair (.arr 8 (.int .i64)) (.pair (.arr 16 (.int .i64)) (.pair (.int .i64) (.pair (.arr 8 (.int .i64)) .unit)))))) e8_1 false)]) s) (loopC R [true, false, false, false, false, true, true, true, true, true, true, true, true, true, true, true, true, true, true, true, true, true, true, true, true, true, true, true, true, true, true, true, true, true, true, true, true, true, true, true, true, true, true, true, true, true, true, true, true, true, true, true, true, true, true, true, true, true, true, true] 1 (blockK 0 (seqK (fun env L => evCode C (fun {_} => ref13_Text.sp) (ref13_Text.F fuel) (cr (cr (cr (cr (cr (cr (Tryd.f20.body.getD .skip))))))) env L (finK C Tryd.f20 k)) (finK C Tryd.f20 k)))) = ref13_Text.b2 e8_1  (fun e8_1 => (fun s => loopK (fun env L k => evCode C (fun {_} => ref13_Text.sp) (ref13_Text.F fuel) (cl (cl (cr (cl (cr (cr (cr (cr (cr (cr (cr (Tryd.f20.body.getD .skip)))))))))))) env L k) [true, false, false, false, true, false, true, true, true, true, true, true, true, true, true, true, true, true, true, true, true, true, true, true, true, true, true, true, true, true, true, true, true, true, true, true, true, true, true, true, true, true, true, true, true, true, true, true, true, true, true, true, true, true, true, true, true, true, true, true] 1 (blockK 2 (seqK (fun env L => evCode C (fun {_} => ref13_Text.sp) (ref13_Text.F fuel) (cr (cr (cr (cr (cr (cr (cr (cr (Tryd.f20.body.getD .skip))))))))) env L (finK C Tryd.f20 k)) (finK C Tryd.f20 k))) fuel ((fun s13 => [.dead, (.ref 0 []), (.v .str (bs [])), (.v .str (s13.1)), .dead, (.v (.int .i64) (s13.2)), .dead, .dead, .dead, .dead, .dead, .dead, .dead, .dead, .dead, .dead, .dead, .dead, .dead, .dead, .dead, .dead, .dead, .dead, .dead, .dead, .dead, .dead, .dead, .dead, .dead, .dead, .dead, .dead, .dead, .dead, .dead, .dead, .dead, .dead, .dead, .dead, .dead, .dead, .dead, .dead, .dead, .dead, .dead, .dead, .dead, .dead, .dead, .dead, .dead, .dead, .dead, .dead, .dead, .dead]) s) ((fun s13 => [(.box (.pair (.int .i64) (.pair .bool (.pair (.arr 8 (.int .i64)) (.pair (.arr 16 (.int .i64)) (.pair (.int .i64) (.pair (.arr 8 (.int .i64)) .unit)))))) e8_1 false)]) s))) (fun r => k (tupAV .str [] r)) (fun s => R ((fun s8 => [.dead, (.ref 0 []), (.v .str (bs [])), (.v .str (s8.1)), (.v (.int .i64) (s8.2)), .dead, .dead, .dead, .dead, .dead, .dead, .dead, .dead, .dead, .dead, .dead, .dead, .dead, .dead, .dead, .dead, .dead, .dead, .dead, .dead, .dead, .dead, .dead, .dead, .dead, .dead, .dead, .dead, .dead, .dead, .dead, .dead, .dead, .dead, .dead, .dead, .dead, .dead, .dead, .dead, .dead, .dead, .dead, .dead, .dead, .dead, .dead, .dead, .dead, .dead, .dead, .dead, .dead, .dead, .dead]) s) ((fun s8 => [(.box (.pair (.int .i64) (.pair .bool (.pair (.arr 8 (.int .i64)) (.pair (.arr 16 (.int .i64)) (.pair (.int .i64) (.pair (.arr 8 (.int .i64)) .unit)))))) e8_1 false)]) s)) s := by kernel_rfl
    have h2 : (fun e8_1 => (fun s => loopK (fun env L k => evCode C (fun {_} => ref13_Text.sp) (ref13_Text.F fuel) (cl (cl (cr (cl (cr (cr (cr (cr (cr (cr (cr (Tryd.f20.body.getD .skip)))))))))))) env L k) [true, false, false, false, true, false, true, true, true, true, true, true, true, true, true, true, true, true, true, true, true, true, true, true, true, true, true, true, true, true, true, true, true, true, true, true, true, true, true, true, true, true, true, true, true, true, true, true, true, true, true, true, true, true, true, true, true, true, true, true] 1 (blockK 2 (seqK (fun env L => evCode C (fun {_} => ref13_Text.sp) (ref13_Text.F fuel) (cr (cr (cr (cr (cr (cr (cr (cr (Tryd.f20.body.getD .skip))))))))) env L (finK C Tryd.f20 k)) (finK C Tryd.f20 k))) fuel ((fun s13 => [.dead, (.ref 0 []), (.v .str (bs [])), (.v .str (s13.1)), .dead, (.v (.int .i64) (s13.2)), .dead, .dead, .dead, .dead, .dead, .dead, .dead, .dead, .dead, .dead, .dead, .dead, .dead, .dead, .dead, .dead, .dead, .dead, .dead, .dead, .dead, .dead, .dead, .dead, .dead, .dead, .dead, .dead, .dead, .dead, .dead, .dead, .dead, .dead, .dead, .dead, .dead, .dead, .dead, .dead, .dead, .dead, .dead, .dead, .dead, .dead, .dead, .dead, .dead, .dead, .dead, .dead, .dead, .dead]) s) ((fun s13 => [(.box (.pair (.int .i64) (.pair .bool (.pair (.arr 8 (.int .i64)) (.pair (.arr 16 (.int .i64)) (.pair (.int .i64) (.pair (.arr 8 (.int .i64)) .unit)))))) e8_1 false)]) s))) = (fun e8_1 => (iter (ref13_Text.B1 fuel e8_1  (fun r => k (tupAV .str [] r))) fuel)) := funext fun e8_1 => ref13_Text.l1 fuel e8_1   k fuel
    rw [h2] at h0
    exact h0)
def ref13_Text.sl {Ω : Type} (x0 : (Int × (Bool × ((List Int) × ((List Int) × (Int × ((List Int) × Unit))))))) (lp2 : (Int × (Bool × ((List Int) × ((List Int) × (Int × ((List Int) × Unit)))))) → ByteArray × Int → Option Ω) (k : ByteArray → Option Ω) : Option Ω :=
  (ref13_Fine.u x0).bind fun y1 =>
  bif (!y1) then
    k (bs [])
  else
    (ref13_number.u x0.1).bind fun y2 =>
    bif (decide (((bs [112, 99])).size + (y2).size ≤ catMax)) then
      bif x0.2.1 then
        bif (decide ((((bs [112, 99]) ++ y2)).size + ((bs [32, 98, 97, 100])).size ≤ catMax)) then
          bif (decide (((((bs [112, 99]) ++ y2) ++ (bs [32, 98, 97, 100]))).size + ((bs [32, 114])).size ≤ catMax)) then
            lp2 x0 (((((bs [112, 99]) ++ y2) ++ (bs [32, 98, 97, 100])) ++ (bs [32, 114])), 0)
          else
            none
        else
          none
      else
        bif (decide ((((bs [112, 99]) ++ y2)).size + ((bs [32, 114])).size ≤ catMax)) then
          lp2 x0 ((((bs [112, 99]) ++ y2) ++ (bs [32, 114])), 0)
        else
          none
    else
      none
def ref13_Text.s {Ω : Type} (fuel : Nat) (x0 : (Int × (Bool × ((List Int) × ((List Int) × (Int × ((List Int) × Unit))))))) (k : ByteArray → Option Ω) : Option Ω := ref13_Text.sl x0 (fun e8_1 => (iter (ref13_Text.B2 fuel e8_1  k) fuel)) k
theorem ref13_Text.ev {Ω : Type} (fuel : Nat) (x0 : (Int × (Bool × ((List Int) × ((List Int) × (Int × ((List Int) × Unit))))))) (k : AV → Option Ω) : evFn C (fun {_} => ref13_Text.sp) (ref13_Text.F fuel) Tryd.f20 (Tryd.f20.body.getD .skip) [(.v (.pair (.int .i64) (.pair .bool (.pair (.arr 8 (.int .i64)) (.pair (.arr 16 (.int .i64)) (.pair (.int .i64) (.pair (.arr 8 (.int .i64)) .unit)))))) (x0))] k = ref13_Text.s fuel x0 (fun r => k (tupAV .str [] r)) := by
  have h0 : evFn C (fun {_} => ref13_Text.sp) (ref13_Text.F fuel) Tryd.f20 (Tryd.f20.body.getD .skip) [(.v (.pair (.int .i64) (.pair .bool (.pair (.arr 8 (.int .i64)) (.pair (.arr 16 (.int .i64)) (.pair (.int .i64) (.pair (.arr 8 (.int .i64)) .unit)))))) (x0))] k = ref13_Text.sl x0 (fun e8_1 => (fun s => loopK (fun env L k => evCode C (fun {_} => ref13_Text.sp) (ref13_Text.F fuel) (cl (cl (cr (cl (cr (cr (cr (cr (cr (Tryd.f20.body.getD .skip)))))))))) env L k) [true, false, false, false, false, true, true, true, true, true, true, true, true, true, true, true, true, true, true, true, true, true, true, true, true, true, true, true, true, true, true, true, true, true, true, true, true, true, true, true, true, true, true, true, true, true, true, true, true, true, true, true, true, true, true, true, true, true, true, true] 1 (blockK 0 (seqK (fun env L => evCode C (fun {_} => ref13_Text.sp) (ref13_Text.F fuel) (cr (cr (cr (cr (cr (cr (Tryd.f20.body.getD .skip))))))) env L (finK C Tryd.f20 k)) (finK C Tryd.f20 k))) fuel ((fun s8 => [.dead, (.ref 0 []), (.v .str (bs [])), (.v .str (s8.1)), (.v (.int .i64) (s8.2)), .dead, .dead, .dead, .dead, .dead, .dead, .dead, .dead, .dead, .dead, .dead, .dead, .dead, .dead, .dead, .dead, .dead, .dead, .dead, .dead, .dead, .dead, .dead, .dead, .dead, .dead, .dead, .dead, .dead, .dead, .dead, .dead, .dead, .dead, .dead, .dead, .dead, .dead, .dead, .dead, .dead, .dead, .dead, .dead, .dead, .dead, .dead, .dead, .dead, .dead, .dead, .dead, .dead, .dead, .dead]) s) ((fun s8 => [(.box (.pair (.int .i64) (.pair .bool (.pair (.arr 8 (.int .i64)) (.pair (.arr 16 (.int .i64)) (.pair (.int .i64) (.pair (.arr 8 (.int .i64)) .unit)))))) e8_1 false)]) s))) (fun r => k (tupAV .str [] r)) := by kernel_rfl
  have h3 : (fun e8_1 => (fun s => loopK (fun env L k => evCode C (fun {_} => ref13_Text.sp) (ref13_Text.F fuel) (cl (cl (cr (cl (cr (cr (cr (cr (cr (Tryd.f20.body.getD .skip)))))))))) env L k) [true, false, false, false, false, true, true, true, true, true, true, true, true, true, true, true, true, true, true, true, true, true, true, true, true, true, true, true, true, true, true, true, true, true, true, true, true, true, true, true, true, true, true, true, true, true, true, true, true, true, true, true, true, true, true, true, true, true, true, true] 1 (blockK 0 (seqK (fun env L => evCode C (fun {_} => ref13_Text.sp) (ref13_Text.F fuel) (cr (cr (cr (cr (cr (cr (Tryd.f20.body.getD .skip))))))) env L (finK C Tryd.f20 k)) (finK C Tryd.f20 k))) fuel ((fun s8 => [.dead, (.ref 0 []), (.v .str (bs [])), (.v .str (s8.1)), (.v (.int .i64) (s8.2)), .dead, .dead, .dead, .dead, .dead, .dead, .dead, .dead, .dead, .dead, .dead, .dead, .dead, .dead, .dead, .dead, .dead, .dead, .dead, .dead, .dead, .dead, .dead, .dead, .dead, .dead, .dead, .dead, .dead, .dead, .dead, .dead, .dead, .dead, .dead, .dead, .dead, .dead, .dead, .dead, .dead, .dead, .dead, .dead, .dead, .dead, .dead, .dead, .dead, .dead, .dead, .dead, .dead, .dead, .dead]) s) ((fun s8 => [(.box (.pair (.int .i64) (.pair .bool (.pair (.arr 8 (.int .i64)) (.pair (.arr 16 (.int .i64)) (.pair (.int .i64) (.pair (.arr 8 (.int .i64)) .unit)))))) e8_1 false)]) s))) = (fun e8_1 => (iter (ref13_Text.B2 fuel e8_1  (fun r => k (tupAV .str [] r))) fuel)) := funext fun e8_1 => ref13_Text.l2 fuel e8_1   k fuel
  rw [h3] at h0
  exact h0
def ref13_Text.g0 {Ω : Type} (e8_1 : (Int × (Bool × ((List Int) × ((List Int) × (Int × ((List Int) × Unit)))))))  (k : ByteArray → Option Ω) : Nat → ByteArray → Int → Option Ω
  | 0, a18_0, i18 =>
    k a18_0
  | d18 + 1, a18_0, i18 =>
    bif (idxOK i18 8) then
      (ref13_number.u ((List.getD e8_1.2.2.2.2.2.1 (Int.toNat i18) 0))).bind fun y5 =>
      bif (decide ((a18_0).size + (y5).size ≤ catMax)) then
        ref13_Text.g0 e8_1  k d18 (a18_0 ++ y5) (i18 + 1)
      else
        none
    else
      none
theorem ref13_Text.h0 {Ω : Type} (e8_1 : (Int × (Bool × ((List Int) × ((List Int) × (Int × ((List Int) × Unit)))))))   (k : ByteArray → Option Ω) (hN : (e8_1.2.2.2.2.1 : Int) ≤ 9223372036854775807) : ∀ (m : Nat) (i : Int) (a : ByteArray), -9223372036854775808 ≤ i → Int.toNat ((e8_1.2.2.2.2.1 : Int) - i) < m → Le (ref13_Text.g0 e8_1  k (Int.toNat ((e8_1.2.2.2.2.1 : Int) - i)) a i) (iter (ref13_Text.B0 BIG e8_1  k) m (a, i)) :=
  iter_count (e8_1.2.2.2.2.1 : Int) (fun i18 => (decide (i18 < e8_1.2.2.2.2.1))) (fun i => rfl) (fun (i18 : Int) (a18 : ByteArray) => (a18, i18)) (fun xs i18 a18 => ref13_Text.g0 e8_1  k xs a18 i18) (ref13_Text.B0 BIG e8_1  k)
    (fun i18 a18 r h0 => (Le.fls h0 (Le.refl _)))
    (fun i18 d18 a18 r h0 hw ih => (Le.tru h0 (Le.cond (Le.bnd fun y5 => (Le.cond (ih _ hw ((a18 ++ y5))) Le.nil)) Le.nil)))
    hN
def ref13_Text.g1 {Ω : Type} (e8_1 : (Int × (Bool × ((List Int) × ((List Int) × (Int × ((List Int) × Unit)))))))  (k : ByteArray → Option Ω) : Nat → ByteArray → Int → Option Ω
  | 0, a13_0, i13 =>
    bif (decide ((a13_0).size + ((bs [32, 115])).size ≤ catMax)) then
      bif (decide (e8_1.2.2.2.2.1 ≤ 4611686018427387904)) then ref13_Text.g0 e8_1  k ((Int.toNat (e8_1.2.2.2.2.1 - 0))) ((a13_0 ++ (bs [32, 115]))) 0 else none
    else
      none
  | d13 + 1, a13_0, i13 =>
    bif (idxOK i13 16) then
      (ref13_number.u ((List.getD e8_1.2.2.2.1 (Int.toNat i13) 0))).bind fun y4 =>
      bif (decide ((a13_0).size + (y4).size ≤ catMax)) then
        ref13_Text.g1 e8_1  k d13 (a13_0 ++ y4) (i13 + 1)
      else
        none
    else
      none
theorem ref13_Text.h1 {Ω : Type} (e8_1 : (Int × (Bool × ((List Int) × ((List Int) × (Int × ((List Int) × Unit)))))))   (k : ByteArray → Option Ω) (hN : (16 : Int) ≤ 9223372036854775807) : ∀ (m : Nat) (i : Int) (a : ByteArray), -9223372036854775808 ≤ i → Int.toNat ((16 : Int) - i) < m → Le (ref13_Text.g1 e8_1  k (Int.toNat ((16 : Int) - i)) a i) (iter (ref13_Text.B1 BIG e8_1  k) m (a, i)) :=
  iter_count (16 : Int) (fun i13 => (decide (i13 < 16))) (fun i => rfl) (fun (i13 : Int) (a13 : ByteArray) => (a13, i13)) (fun xs i13 a13 => ref13_Text.g1 e8_1  k xs a13 i13) (ref13_Text.B1 BIG e8_1  k)
    (fun i13 a13 r h0 => (Le.fls h0 (Le.cond (Le.gd fun hg => ref13_Text.h0 _   k (cnt_up hg) BIG 0 ((a13 ++ (bs [32, 115]))) (by decide) (cnt_big hg (by decide))) Le.nil)))
    (fun i13 d13 a13 r h0 hw ih => (Le.tru h0 (Le.cond (Le.bnd fun y4 => (Le.cond (ih _ hw ((a13 ++ y4))) Le.nil)) Le.nil)))
    hN
def ref13_Text.g2 {Ω : Type} (e8_1 : (Int × (Bool × ((List Int) × ((List Int) × (Int × ((List Int) × Unit)))))))  (k : ByteArray → Option Ω) : Nat → ByteArray → Int → Option Ω
  | 0, a8_0, i8 =>
    bif (decide ((a8_0).size + ((bs [32, 109])).size ≤ catMax)) then
      ref13_Text.g1 e8_1  k ((Int.toNat ((16 : Int) - 0))) ((a8_0 ++ (bs [32, 109]))) 0
    else
      none
  | d8 + 1, a8_0, i8 =>
    bif (idxOK i8 8) then
      (ref13_number.u ((List.getD e8_1.2.2.1 (Int.toNat i8) 0))).bind fun y3 =>
      bif (decide ((a8_0).size + (y3).size ≤ catMax)) then
        ref13_Text.g2 e8_1  k d8 (a8_0 ++ y3) (i8 + 1)
      else
        none
    else
      none
theorem ref13_Text.h2 {Ω : Type} (e8_1 : (Int × (Bool × ((List Int) × ((List Int) × (Int × ((List Int) × Unit)))))))   (k : ByteArray → Option Ω) (hN : (8 : Int) ≤ 9223372036854775807) : ∀ (m : Nat) (i : Int) (a : ByteArray), -9223372036854775808 ≤ i → Int.toNat ((8 : Int) - i) < m → Le (ref13_Text.g2 e8_1  k (Int.toNat ((8 : Int) - i)) a i) (iter (ref13_Text.B2 BIG e8_1  k) m (a, i)) :=
  iter_count (8 : Int) (fun i8 => (decide (i8 < 8))) (fun i => rfl) (fun (i8 : Int) (a8 : ByteArray) => (a8, i8)) (fun xs i8 a8 => ref13_Text.g2 e8_1  k xs a8 i8) (ref13_Text.B2 BIG e8_1  k)
    (fun i8 a8 r h0 => (Le.fls h0 (Le.cond (ref13_Text.h1 _   k (by decide) BIG 0 ((a8 ++ (bs [32, 109]))) (by decide) (by decide)) Le.nil)))
    (fun i8 d8 a8 r h0 hw ih => (Le.tru h0 (Le.cond (Le.bnd fun y3 => (Le.cond (ih _ hw ((a8 ++ y3))) Le.nil)) Le.nil)))
    hN
def ref13_Text.w {Ω : Type} (x0 : (Int × (Bool × ((List Int) × ((List Int) × (Int × ((List Int) × Unit))))))) (k : ByteArray → Option Ω) : Option Ω :=
  (ref13_Fine.u x0).bind fun y1 =>
  bif (!y1) then
    k (bs [])
  else
    (ref13_number.u x0.1).bind fun y2 =>
    bif (decide (((bs [112, 99])).size + (y2).size ≤ catMax)) then
      bif x0.2.1 then
        bif (decide ((((bs [112, 99]) ++ y2)).size + ((bs [32, 98, 97, 100])).size ≤ catMax)) then
          bif (decide (((((bs [112, 99]) ++ y2) ++ (bs [32, 98, 97, 100]))).size + ((bs [32, 114])).size ≤ catMax)) then
            ref13_Text.g2 x0  k ((Int.toNat ((8 : Int) - 0))) (((((bs [112, 99]) ++ y2) ++ (bs [32, 98, 97, 100])) ++ (bs [32, 114]))) 0
          else
            none
        else
          none
      else
        bif (decide ((((bs [112, 99]) ++ y2)).size + ((bs [32, 114])).size ≤ catMax)) then
          ref13_Text.g2 x0  k ((Int.toNat ((8 : Int) - 0))) ((((bs [112, 99]) ++ y2) ++ (bs [32, 114]))) 0
        else
          none
    else
      none
theorem ref13_Text.le {Ω : Type} (x0 : (Int × (Bool × ((List Int) × ((List Int) × (Int × ((List Int) × Unit))))))) (k : ByteArray → Option Ω) : Le (ref13_Text.w x0 k) (ref13_Text.s BIG x0 k) := by
  delta ref13_Text.w ref13_Text.s ref13_Text.sl
  exact (Le.bnd fun y1 => (Le.cond (Le.refl _) (Le.bnd fun y2 => (Le.cond (Le.cond (Le.cond (Le.cond (ref13_Text.h2 _   k (by decide) BIG 0 (((((bs [112, 99]) ++ y2) ++ (bs [32, 98, 97, 100])) ++ (bs [32, 114]))) (by decide) (by decide)) Le.nil) Le.nil) (Le.cond (ref13_Text.h2 _   k (by decide) BIG 0 ((((bs [112, 99]) ++ y2) ++ (bs [32, 114]))) (by decide) (by decide)) Le.nil)) Le.nil))))
def ref13_Text.u (x0 : (Int × (Bool × ((List Int) × ((List Int) × (Int × ((List Int) × Unit))))))) : Option (ByteArray) := ref13_Text.w x0 some
theorem ref13_Text.c (x0 : (Int × (Bool × ((List Int) × ((List Int) × (Int × ((List Int) × Unit))))))) (r : ByteArray) (h : ref13_Text.u x0 = some r) : Contract C 20 [(.v (.pair (.int .i64) (.pair .bool (.pair (.arr 8 (.int .i64)) (.pair (.arr 16 (.int .i64)) (.pair (.int .i64) (.pair (.arr 8 (.int .i64)) .unit)))))) (x0))] (tupAV .str [] r) :=
  contract_s (S := fun k => ref13_Text.s BIG x0 k) C_ok (orS_ok ref13_number.e_ok (orS_ok ref13_Fine.e_ok noS_ok)) (by kernel_rfl) (by kernel_rfl) (by kernel_rfl) (ref13_Text.ev BIG x0 (dec .str [])) (ref13_Text.le x0 some r h)
noncomputable def ref13_Text.e : Ent := argI (.pair (.int .i64) (.pair .bool (.pair (.arr 8 (.int .i64)) (.pair (.arr 16 (.int .i64)) (.pair (.int .i64) (.pair (.arr 8 (.int .i64)) .unit)))))) fun x0 => endU (ref13_Text.u x0) (tupAV .str [])
theorem ref13_Text.e_ok : EntOK C 20 (fun {_} => ref13_Text.e) := entA_ok (argI_ok fun x0 => endU_ok fun r h => ref13_Text.c x0 r h)

/-- becket frame.Call -/
noncomputable def frame_Call.sp : Spec := (orS 56 (fun {_} => frame_place.e) (orS 17 (fun {_} => frame_Fine.e) noS))
def frame_Call.s {Ω : Type} (x0 : (Int × (Bool × ((List Int) × ((List Int) × (Int × ((List Int) × Unit))))))) (x1 : Int) (k : (Int × (Bool × ((List Int) × ((List Int) × (Int × ((List Int) × Unit)))))) × Int → Option Ω) : Option Ω :=
  (frame_Fine.u x0).bind fun y1 =>
  bif (!y1) then
    k (x0, 1)
  else
    bif (x0.2.2.2.2.1 == 8) then
      k (x0, 19)
    else
      bif (!(frame_place.t x1)) then
        k (x0, 8)
      else
        bif (!(frame_place.t ((IntKind.wrap .i64 (x0.1 + 1))))) then
          k (x0, 8)
        else
          bif (idxOK x0.2.2.2.2.1 8) then
            let v2 : (Int × (Bool × ((List Int) × ((List Int) × (Int × ((List Int) × Unit)))))) := (x1, (x0.2.1, (x0.2.2.1, (x0.2.2.2.1, ((IntKind.wrap .i64 (x0.2.2.2.2.1 + 1)), ((List.set x0.2.2.2.2.2.1 (Int.toNat x0.2.2.2.2.1) (IntKind.wrap .i64 (x0.1 + 1))), x0.2.2.2.2.2.2))))))
            k (v2, 0)
          else
            none
theorem frame_Call.ev {Ω : Type} (fuel : Fuel) (x0 : (Int × (Bool × ((List Int) × ((List Int) × (Int × ((List Int) × Unit))))))) (x1 : Int) (k : AV → Option Ω) : evFn C (fun {_} => frame_Call.sp) fuel Tryd.f24 (Tryd.f24.body.getD .skip) [(.v (.pair (.int .i64) (.pair .bool (.pair (.arr 8 (.int .i64)) (.pair (.arr 16 (.int .i64)) (.pair (.int .i64) (.pair (.arr 8 (.int .i64)) .unit)))))) (x0)), (.v (.int .i64) (x1))] k = frame_Call.s x0 x1 (fun r => k (tupAV (.pair (.int .i64) (.pair .bool (.pair (.arr 8 (.int .i64)) (.pair (.arr 16 (.int .i64)) (.pair (.int .i64) (.pair (.arr 8 (.int .i64)) .unit)))))) [(.int .i64)] r)) := by kernel_rfl
def frame_Call.u (x0 : (Int × (Bool × ((List Int) × ((List Int) × (Int × ((List Int) × Unit))))))) (x1 : Int) : Option ((Int × (Bool × ((List Int) × ((List Int) × (Int × ((List Int) × Unit)))))) × Int) := frame_Call.s x0 x1 some
theorem frame_Call.c (x0 : (Int × (Bool × ((List Int) × ((List Int) × (Int × ((List Int) × Unit))))))) (x1 : Int) (r : (Int × (Bool × ((List Int) × ((List Int) × (Int × ((List Int) × Unit)))))) × Int) (h : frame_Call.u x0 x1 = some r) : Contract C 24 [(.v (.pair (.int .i64) (.pair .bool (.pair (.arr 8 (.int .i64)) (.pair (.arr 16 (.int .i64)) (.pair (.int .i64) (.pair (.arr 8 (.int .i64)) .unit)))))) (x0)), (.v (.int .i64) (x1))] (tupAV (.pair (.int .i64) (.pair .bool (.pair (.arr 8 (.int .i64)) (.pair (.arr 16 (.int .i64)) (.pair (.int .i64) (.pair (.arr 8 (.int .i64)) .unit)))))) [(.int .i64)] r) :=
  contract_s (S := fun k => frame_Call.s x0 x1 k) C_ok (orS_ok frame_place.e_ok (orS_ok frame_Fine.e_ok noS_ok)) (by kernel_rfl) (by kernel_rfl) (by kernel_rfl) (frame_Call.ev ⟨1, fun _ => []⟩ x0 x1 (dec (.pair (.int .i64) (.pair .bool (.pair (.arr 8 (.int .i64)) (.pair (.arr 16 (.int .i64)) (.pair (.int .i64) (.pair (.arr 8 (.int .i64)) .unit)))))) [(.int .i64)])) h
noncomputable def frame_Call.e : Ent := argI (.pair (.int .i64) (.pair .bool (.pair (.arr 8 (.int .i64)) (.pair (.arr 16 (.int .i64)) (.pair (.int .i64) (.pair (.arr 8 (.int .i64)) .unit)))))) fun x0 => argI (.int .i64) fun x1 => endU (frame_Call.u x0 x1) (tupAV (.pair (.int .i64) (.pair .bool (.pair (.arr 8 (.int .i64)) (.pair (.arr 16 (.int .i64)) (.pair (.int .i64) (.pair (.arr 8 (.int .i64)) .unit)))))) [(.int .i64)])
theorem frame_Call.e_ok : EntOK C 24 (fun {_} => frame_Call.e) := entA_ok (argI_ok fun x0 => argI_ok fun x1 => endU_ok fun r h => frame_Call.c x0 x1 r h)

/-- becket frame.Ret -/
noncomputable def frame_Ret.sp : Spec := (orS 17 (fun {_} => frame_Fine.e) noS)
def frame_Ret.s {Ω : Type} (x0 : (Int × (Bool × ((List Int) × ((List Int) × (Int × ((List Int) × Unit))))))) (k : (Int × (Bool × ((List Int) × ((List Int) × (Int × ((List Int) × Unit)))))) × Int → Option Ω) : Option Ω :=
  (frame_Fine.u x0).bind fun y1 =>
  bif (!y1) then
    k (x0, 1)
  else
    bif (x0.2.2.2.2.1 == 0) then
      k (x0, 19)
    else
      bif (idxOK (IntKind.wrap .i64 (x0.2.2.2.2.1 - 1)) 8) then
        bif (idxOK (IntKind.wrap .i64 (x0.2.2.2.2.1 - 1)) 8) then
          let v2 : (Int × (Bool × ((List Int) × ((List Int) × (Int × ((List Int) × Unit)))))) := ((List.getD x0.2.2.2.2.2.1 (Int.toNat (IntKind.wrap .i64 (x0.2.2.2.2.1 - 1))) 0), (x0.2.1, (x0.2.2.1, (x0.2.2.2.1, ((IntKind.wrap .i64 (x0.2.2.2.2.1 - 1)), ((List.set x0.2.2.2.2.2.1 (Int.toNat (IntKind.wrap .i64 (x0.2.2.2.2.1 - 1))) 0), x0.2.2.2.2.2.2))))))
          k (v2, 0)
        else
          none
      else
        none
theorem frame_Ret.ev {Ω : Type} (fuel : Fuel) (x0 : (Int × (Bool × ((List Int) × ((List Int) × (Int × ((List Int) × Unit))))))) (k : AV → Option Ω) : evFn C (fun {_} => frame_Ret.sp) fuel Tryd.f26 (Tryd.f26.body.getD .skip) [(.v (.pair (.int .i64) (.pair .bool (.pair (.arr 8 (.int .i64)) (.pair (.arr 16 (.int .i64)) (.pair (.int .i64) (.pair (.arr 8 (.int .i64)) .unit)))))) (x0))] k = frame_Ret.s x0 (fun r => k (tupAV (.pair (.int .i64) (.pair .bool (.pair (.arr 8 (.int .i64)) (.pair (.arr 16 (.int .i64)) (.pair (.int .i64) (.pair (.arr 8 (.int .i64)) .unit)))))) [(.int .i64)] r)) := by kernel_rfl
def frame_Ret.u (x0 : (Int × (Bool × ((List Int) × ((List Int) × (Int × ((List Int) × Unit))))))) : Option ((Int × (Bool × ((List Int) × ((List Int) × (Int × ((List Int) × Unit)))))) × Int) := frame_Ret.s x0 some
theorem frame_Ret.c (x0 : (Int × (Bool × ((List Int) × ((List Int) × (Int × ((List Int) × Unit))))))) (r : (Int × (Bool × ((List Int) × ((List Int) × (Int × ((List Int) × Unit)))))) × Int) (h : frame_Ret.u x0 = some r) : Contract C 26 [(.v (.pair (.int .i64) (.pair .bool (.pair (.arr 8 (.int .i64)) (.pair (.arr 16 (.int .i64)) (.pair (.int .i64) (.pair (.arr 8 (.int .i64)) .unit)))))) (x0))] (tupAV (.pair (.int .i64) (.pair .bool (.pair (.arr 8 (.int .i64)) (.pair (.arr 16 (.int .i64)) (.pair (.int .i64) (.pair (.arr 8 (.int .i64)) .unit)))))) [(.int .i64)] r) :=
  contract_s (S := fun k => frame_Ret.s x0 k) C_ok (orS_ok frame_Fine.e_ok noS_ok) (by kernel_rfl) (by kernel_rfl) (by kernel_rfl) (frame_Ret.ev ⟨1, fun _ => []⟩ x0 (dec (.pair (.int .i64) (.pair .bool (.pair (.arr 8 (.int .i64)) (.pair (.arr 16 (.int .i64)) (.pair (.int .i64) (.pair (.arr 8 (.int .i64)) .unit)))))) [(.int .i64)])) h
noncomputable def frame_Ret.e : Ent := argI (.pair (.int .i64) (.pair .bool (.pair (.arr 8 (.int .i64)) (.pair (.arr 16 (.int .i64)) (.pair (.int .i64) (.pair (.arr 8 (.int .i64)) .unit)))))) fun x0 => endU (frame_Ret.u x0) (tupAV (.pair (.int .i64) (.pair .bool (.pair (.arr 8 (.int .i64)) (.pair (.arr 16 (.int .i64)) (.pair (.int .i64) (.pair (.arr 8 (.int .i64)) .unit)))))) [(.int .i64)])
theorem frame_Ret.e_ok : EntOK C 26 (fun {_} => frame_Ret.e) := entA_ok (argI_ok fun x0 => endU_ok fun r h => frame_Ret.c x0 r h)

/-- becket frame.at -/
noncomputable def frame_at.sp : Spec := (orS 52 (fun {_} => word_Fine.e) (orS 17 (fun {_} => frame_Fine.e) noS))
def frame_at.s {Ω : Type} (x0 : (Int × (Bool × ((List Int) × ((List Int) × (Int × ((List Int) × Unit))))))) (x1 : Int) (x2 : Int) (x3 : Int) (k : Int → Option Ω) : Option Ω :=
  (frame_Fine.u x0).bind fun y1 =>
  bif (!y1) then
    k 1
  else
    bif (decide (x1 < 0)) then
      k 8
    else
      bif (decide (x1 ≥ x2)) then
        k 8
      else
        bif (!(word_Fine.t x3)) then
          k 8
        else
          k 0
theorem frame_at.ev {Ω : Type} (fuel : Fuel) (x0 : (Int × (Bool × ((List Int) × ((List Int) × (Int × ((List Int) × Unit))))))) (x1 : Int) (x2 : Int) (x3 : Int) (k : AV → Option Ω) : evFn C (fun {_} => frame_at.sp) fuel Tryd.f63 (Tryd.f63.body.getD .skip) [(.v (.pair (.int .i64) (.pair .bool (.pair (.arr 8 (.int .i64)) (.pair (.arr 16 (.int .i64)) (.pair (.int .i64) (.pair (.arr 8 (.int .i64)) .unit)))))) (x0)), (.v (.int .i64) (x1)), (.v (.int .i64) (x2)), (.v (.int .i64) (x3))] k = frame_at.s x0 x1 x2 x3 (fun r => k (tupAV (.int .i64) [] r)) := by kernel_rfl
def frame_at.u (x0 : (Int × (Bool × ((List Int) × ((List Int) × (Int × ((List Int) × Unit))))))) (x1 : Int) (x2 : Int) (x3 : Int) : Option (Int) := frame_at.s x0 x1 x2 x3 some
theorem frame_at.c (x0 : (Int × (Bool × ((List Int) × ((List Int) × (Int × ((List Int) × Unit))))))) (x1 : Int) (x2 : Int) (x3 : Int) (r : Int) (h : frame_at.u x0 x1 x2 x3 = some r) : Contract C 63 [(.v (.pair (.int .i64) (.pair .bool (.pair (.arr 8 (.int .i64)) (.pair (.arr 16 (.int .i64)) (.pair (.int .i64) (.pair (.arr 8 (.int .i64)) .unit)))))) (x0)), (.v (.int .i64) (x1)), (.v (.int .i64) (x2)), (.v (.int .i64) (x3))] (tupAV (.int .i64) [] r) :=
  contract_s (S := fun k => frame_at.s x0 x1 x2 x3 k) C_ok (orS_ok word_Fine.e_ok (orS_ok frame_Fine.e_ok noS_ok)) (by kernel_rfl) (by kernel_rfl) (by kernel_rfl) (frame_at.ev ⟨1, fun _ => []⟩ x0 x1 x2 x3 (dec (.int .i64) [])) h
noncomputable def frame_at.e : Ent := argI (.pair (.int .i64) (.pair .bool (.pair (.arr 8 (.int .i64)) (.pair (.arr 16 (.int .i64)) (.pair (.int .i64) (.pair (.arr 8 (.int .i64)) .unit)))))) fun x0 => argI (.int .i64) fun x1 => argI (.int .i64) fun x2 => argI (.int .i64) fun x3 => endU (frame_at.u x0 x1 x2 x3) (tupAV (.int .i64) [])
theorem frame_at.e_ok : EntOK C 63 (fun {_} => frame_at.e) := entA_ok (argI_ok fun x0 => argI_ok fun x1 => argI_ok fun x2 => argI_ok fun x3 => endU_ok fun r h => frame_at.c x0 x1 x2 x3 r h)

/-- becket frame.Store -/
noncomputable def frame_Store.sp : Spec := (orS 63 (fun {_} => frame_at.e) noS)
def frame_Store.s {Ω : Type} (x0 : (Int × (Bool × ((List Int) × ((List Int) × (Int × ((List Int) × Unit))))))) (x1 : Int) (x2 : Int) (k : (Int × (Bool × ((List Int) × ((List Int) × (Int × ((List Int) × Unit)))))) × Int → Option Ω) : Option Ω :=
  (frame_at.u x0 x1 16 x2).bind fun y1 =>
  bif (y1 == 0) then
    bif (idxOK x1 16) then
      k ((x0.1, (x0.2.1, (x0.2.2.1, ((List.set x0.2.2.2.1 (Int.toNat x1) x2), x0.2.2.2.2)))), y1)
    else
      none
  else
    k (x0, y1)
theorem frame_Store.ev {Ω : Type} (fuel : Fuel) (x0 : (Int × (Bool × ((List Int) × ((List Int) × (Int × ((List Int) × Unit))))))) (x1 : Int) (x2 : Int) (k : AV → Option Ω) : evFn C (fun {_} => frame_Store.sp) fuel Tryd.f34 (Tryd.f34.body.getD .skip) [(.v (.pair (.int .i64) (.pair .bool (.pair (.arr 8 (.int .i64)) (.pair (.arr 16 (.int .i64)) (.pair (.int .i64) (.pair (.arr 8 (.int .i64)) .unit)))))) (x0)), (.v (.int .i64) (x1)), (.v (.int .i64) (x2))] k = frame_Store.s x0 x1 x2 (fun r => k (tupAV (.pair (.int .i64) (.pair .bool (.pair (.arr 8 (.int .i64)) (.pair (.arr 16 (.int .i64)) (.pair (.int .i64) (.pair (.arr 8 (.int .i64)) .unit)))))) [(.int .i64)] r)) := by kernel_rfl
def frame_Store.u (x0 : (Int × (Bool × ((List Int) × ((List Int) × (Int × ((List Int) × Unit))))))) (x1 : Int) (x2 : Int) : Option ((Int × (Bool × ((List Int) × ((List Int) × (Int × ((List Int) × Unit)))))) × Int) := frame_Store.s x0 x1 x2 some
theorem frame_Store.c (x0 : (Int × (Bool × ((List Int) × ((List Int) × (Int × ((List Int) × Unit))))))) (x1 : Int) (x2 : Int) (r : (Int × (Bool × ((List Int) × ((List Int) × (Int × ((List Int) × Unit)))))) × Int) (h : frame_Store.u x0 x1 x2 = some r) : Contract C 34 [(.v (.pair (.int .i64) (.pair .bool (.pair (.arr 8 (.int .i64)) (.pair (.arr 16 (.int .i64)) (.pair (.int .i64) (.pair (.arr 8 (.int .i64)) .unit)))))) (x0)), (.v (.int .i64) (x1)), (.v (.int .i64) (x2))] (tupAV (.pair (.int .i64) (.pair .bool (.pair (.arr 8 (.int .i64)) (.pair (.arr 16 (.int .i64)) (.pair (.int .i64) (.pair (.arr 8 (.int .i64)) .unit)))))) [(.int .i64)] r) :=
  contract_s (S := fun k => frame_Store.s x0 x1 x2 k) C_ok (orS_ok frame_at.e_ok noS_ok) (by kernel_rfl) (by kernel_rfl) (by kernel_rfl) (frame_Store.ev ⟨1, fun _ => []⟩ x0 x1 x2 (dec (.pair (.int .i64) (.pair .bool (.pair (.arr 8 (.int .i64)) (.pair (.arr 16 (.int .i64)) (.pair (.int .i64) (.pair (.arr 8 (.int .i64)) .unit)))))) [(.int .i64)])) h
noncomputable def frame_Store.e : Ent := argI (.pair (.int .i64) (.pair .bool (.pair (.arr 8 (.int .i64)) (.pair (.arr 16 (.int .i64)) (.pair (.int .i64) (.pair (.arr 8 (.int .i64)) .unit)))))) fun x0 => argI (.int .i64) fun x1 => argI (.int .i64) fun x2 => endU (frame_Store.u x0 x1 x2) (tupAV (.pair (.int .i64) (.pair .bool (.pair (.arr 8 (.int .i64)) (.pair (.arr 16 (.int .i64)) (.pair (.int .i64) (.pair (.arr 8 (.int .i64)) .unit)))))) [(.int .i64)])
theorem frame_Store.e_ok : EntOK C 34 (fun {_} => frame_Store.e) := entA_ok (argI_ok fun x0 => argI_ok fun x1 => argI_ok fun x2 => endU_ok fun r h => frame_Store.c x0 x1 x2 r h)

/-- becket frame.Load -/
noncomputable def frame_Load.sp : Spec := (orS 63 (fun {_} => frame_at.e) noS)
def frame_Load.s {Ω : Type} (x0 : (Int × (Bool × ((List Int) × ((List Int) × (Int × ((List Int) × Unit))))))) (x1 : Int) (k : Int × Int → Option Ω) : Option Ω :=
  (frame_at.u x0 x1 16 0).bind fun y1 =>
  bif (y1 != 0) then
    k (0, y1)
  else
    bif (idxOK x1 16) then
      k ((List.getD x0.2.2.2.1 (Int.toNat x1) 0), 0)
    else
      none
theorem frame_Load.ev {Ω : Type} (fuel : Fuel) (x0 : (Int × (Bool × ((List Int) × ((List Int) × (Int × ((List Int) × Unit))))))) (x1 : Int) (k : AV → Option Ω) : evFn C (fun {_} => frame_Load.sp) fuel Tryd.f30 (Tryd.f30.body.getD .skip) [(.v (.pair (.int .i64) (.pair .bool (.pair (.arr 8 (.int .i64)) (.pair (.arr 16 (.int .i64)) (.pair (.int .i64) (.pair (.arr 8 (.int .i64)) .unit)))))) (x0)), (.v (.int .i64) (x1))] k = frame_Load.s x0 x1 (fun r => k (tupAV (.int .i64) [(.int .i64)] r)) := by kernel_rfl
def frame_Load.u (x0 : (Int × (Bool × ((List Int) × ((List Int) × (Int × ((List Int) × Unit))))))) (x1 : Int) : Option (Int × Int) := frame_Load.s x0 x1 some
theorem frame_Load.c (x0 : (Int × (Bool × ((List Int) × ((List Int) × (Int × ((List Int) × Unit))))))) (x1 : Int) (r : Int × Int) (h : frame_Load.u x0 x1 = some r) : Contract C 30 [(.v (.pair (.int .i64) (.pair .bool (.pair (.arr 8 (.int .i64)) (.pair (.arr 16 (.int .i64)) (.pair (.int .i64) (.pair (.arr 8 (.int .i64)) .unit)))))) (x0)), (.v (.int .i64) (x1))] (tupAV (.int .i64) [(.int .i64)] r) :=
  contract_s (S := fun k => frame_Load.s x0 x1 k) C_ok (orS_ok frame_at.e_ok noS_ok) (by kernel_rfl) (by kernel_rfl) (by kernel_rfl) (frame_Load.ev ⟨1, fun _ => []⟩ x0 x1 (dec (.int .i64) [(.int .i64)])) h
noncomputable def frame_Load.e : Ent := argI (.pair (.int .i64) (.pair .bool (.pair (.arr 8 (.int .i64)) (.pair (.arr 16 (.int .i64)) (.pair (.int .i64) (.pair (.arr 8 (.int .i64)) .unit)))))) fun x0 => argI (.int .i64) fun x1 => endU (frame_Load.u x0 x1) (tupAV (.int .i64) [(.int .i64)])
theorem frame_Load.e_ok : EntOK C 30 (fun {_} => frame_Load.e) := entA_ok (argI_ok fun x0 => argI_ok fun x1 => endU_ok fun r h => frame_Load.c x0 x1 r h)

/-- becket becketlaw13.alive -/
noncomputable def law13_alive.sp : Spec := (orS 34 (fun {_} => frame_Store.e) (orS 30 (fun {_} => frame_Load.e) (orS 26 (fun {_} => frame_Ret.e) (orS 24 (fun {_} => frame_Call.e) (orS 19 (fun {_} => frame_Text.e) (orS 17 (fun {_} => frame_Fine.e) (orS 15 (fun {_} => frame_New.e) noS)))))))
def law13_alive.s {Ω : Type}  (k : Bool → Option Ω) : Option Ω :=
  let v1 : (Int × (Bool × ((List Int) × ((List Int) × (Int × ((List Int) × Unit)))))) × Int := (frame_New.t 7)
  (frame_Call.u v1.1 9).bind fun y2 =>
  (frame_Ret.u y2.1).bind fun y3 =>
  (frame_Store.u y3.1 15 (-1)).bind fun y4 =>
  (frame_Load.u y4.1 15).bind fun y5 =>
  (frame_Ret.u v1.1).bind fun y6 =>
  bif (v1.2 == 0) then
    (frame_Fine.u v1.1).bind fun y7 =>
    bif y7 then
      bif (y2.2 == 0) then
        bif (y2.1.1 == 9) then
          bif (y2.1.2.2.2.2.1 == 1) then
            bif (y3.2 == 0) then
              bif (y3.1.1 == 1) then
                bif (y3.1.2.2.2.2.1 == 0) then
                  bif (y4.2 == 0) then
                    bif (y5.1 == (-1)) then
                      bif (y5.2 == 0) then
                        bif (y6.2 == 19) then
                          (frame_Text.u v1.1).bind fun y8 =>
                          k (((y8).size : Int) == 58)
                        else
                          k false
                      else
                        k false
                    else
                      k false
                  else
                    k false
                else
                  k false
              else
                k false
            else
              k false
          else
            k false
        else
          k false
      else
        k false
    else
      k false
  else
    k false
theorem law13_alive.ev {Ω : Type} (fuel : Fuel)  (k : AV → Option Ω) : evFn CP (fun {_} => law13_alive.sp) fuel Tryd.f21 (Tryd.f21.body.getD .skip) [] k = law13_alive.s  (fun r => k (tupAV .bool [] r)) := by kernel_rfl
def law13_alive.u  : Option (Bool) := law13_alive.s  some
theorem law13_alive.c  (r : Bool) (h : law13_alive.u  = some r) : Contract CP 21 [] (tupAV .bool [] r) :=
  contract_s (S := fun k => law13_alive.s  k) CP_ok (orS_ok (frame_Store.e_ok.mono le_C_CP) (orS_ok (frame_Load.e_ok.mono le_C_CP) (orS_ok (frame_Ret.e_ok.mono le_C_CP) (orS_ok (frame_Call.e_ok.mono le_C_CP) (orS_ok frame_Text.e_ok (orS_ok (frame_Fine.e_ok.mono le_C_CP) (orS_ok (frame_New.e_ok.mono le_C_CP) noS_ok))))))) (by kernel_rfl) (by kernel_rfl) (by kernel_rfl) (law13_alive.ev ⟨1, fun _ => []⟩  (dec .bool [])) h
noncomputable def law13_alive.e : Ent := endU (law13_alive.u ) (tupAV .bool [])
theorem law13_alive.e_ok : EntOK CP 21 (fun {_} => law13_alive.e) := entA_ok (endU_ok fun r h => law13_alive.c  r h)

/-- becket becketlaw13.FrameMakes -/
noncomputable def law13_FrameMakes.sp : Spec := (orS 21 (fun {_} => law13_alive.e) (orS 20 (fun {_} => ref13_Text.e) (orS 19 (fun {_} => frame_Text.e) (orS 18 (fun {_} => ref13_Fine.e) (orS 17 (fun {_} => frame_Fine.e) (orS 16 (fun {_} => ref13_New.e) (orS 15 (fun {_} => frame_New.e) noS)))))))
def law13_FrameMakes.s {Ω : Type} (x0 : Int) (x1 : (Int × (Bool × ((List Int) × ((List Int) × (Int × ((List Int) × Unit))))))) (k : Bool → Option Ω) : Option Ω :=
  let v1 : (Int × (Bool × ((List Int) × ((List Int) × (Int × ((List Int) × Unit)))))) × Int := (frame_New.t x0)
  let v2 : (Int × (Bool × ((List Int) × ((List Int) × (Int × ((List Int) × Unit)))))) × Int := (ref13_New.t x0)
  let v3 : Bool := (eqI (.pair (.int .i64) (.pair .bool (.pair (.arr 8 (.int .i64)) (.pair (.arr 16 (.int .i64)) (.pair (.int .i64) (.pair (.arr 8 (.int .i64)) .unit)))))) v1.1 v2.1)
  bif v3 then
    bif (v1.2 == v2.2) then
      (frame_Fine.u x1).bind fun y4 =>
      (ref13_Fine.u x1).bind fun y5 =>
      bif (eqI .bool y4 y5) then
        (frame_Text.u x1).bind fun y6 =>
        (ref13_Text.u x1).bind fun y7 =>
        bif ((y6).data.toList == (y7).data.toList) then
          law13_alive.u.bind fun y8 =>
          k y8
        else
          k false
      else
        k false
    else
      k false
  else
    k false
theorem law13_FrameMakes.ev {Ω : Type} (fuel : Fuel) (x0 : Int) (x1 : (Int × (Bool × ((List Int) × ((List Int) × (Int × ((List Int) × Unit))))))) (k : AV → Option Ω) : evFn CP (fun {_} => law13_FrameMakes.sp) fuel Tryd.f3 (Tryd.f3.body.getD .skip) [(.v (.int .i64) (x0)), (.v (.pair (.int .i64) (.pair .bool (.pair (.arr 8 (.int .i64)) (.pair (.arr 16 (.int .i64)) (.pair (.int .i64) (.pair (.arr 8 (.int .i64)) .unit)))))) (x1))] k = law13_FrameMakes.s x0 x1 (fun r => k (tupAV .bool [] r)) := by kernel_rfl
def law13_FrameMakes.u (x0 : Int) (x1 : (Int × (Bool × ((List Int) × ((List Int) × (Int × ((List Int) × Unit))))))) : Option (Bool) := law13_FrameMakes.s x0 x1 some
theorem law13_FrameMakes.c (x0 : Int) (x1 : (Int × (Bool × ((List Int) × ((List Int) × (Int × ((List Int) × Unit))))))) (r : Bool) (h : law13_FrameMakes.u x0 x1 = some r) : Contract CP 3 [(.v (.int .i64) (x0)), (.v (.pair (.int .i64) (.pair .bool (.pair (.arr 8 (.int .i64)) (.pair (.arr 16 (.int .i64)) (.pair (.int .i64) (.pair (.arr 8 (.int .i64)) .unit)))))) (x1))] (tupAV .bool [] r) :=
  contract_s (S := fun k => law13_FrameMakes.s x0 x1 k) CP_ok (orS_ok law13_alive.e_ok (orS_ok (ref13_Text.e_ok.mono le_C_CP) (orS_ok frame_Text.e_ok (orS_ok (ref13_Fine.e_ok.mono le_C_CP) (orS_ok (frame_Fine.e_ok.mono le_C_CP) (orS_ok (ref13_New.e_ok.mono le_C_CP) (orS_ok (frame_New.e_ok.mono le_C_CP) noS_ok))))))) (by kernel_rfl) (by kernel_rfl) (by kernel_rfl) (law13_FrameMakes.ev ⟨1, fun _ => []⟩ x0 x1 (dec .bool [])) h
noncomputable def law13_FrameMakes.e : Ent := argI (.int .i64) fun x0 => argI (.pair (.int .i64) (.pair .bool (.pair (.arr 8 (.int .i64)) (.pair (.arr 16 (.int .i64)) (.pair (.int .i64) (.pair (.arr 8 (.int .i64)) .unit)))))) fun x1 => endU (law13_FrameMakes.u x0 x1) (tupAV .bool [])
theorem law13_FrameMakes.e_ok : EntOK CP 3 (fun {_} => law13_FrameMakes.e) := entA_ok (argI_ok fun x0 => argI_ok fun x1 => endU_ok fun r h => law13_FrameMakes.c x0 x1 r h)

/-- becket frame.Go -/
noncomputable def frame_Go.sp : Spec := (orS 56 (fun {_} => frame_place.e) (orS 17 (fun {_} => frame_Fine.e) noS))
def frame_Go.s {Ω : Type} (x0 : (Int × (Bool × ((List Int) × ((List Int) × (Int × ((List Int) × Unit))))))) (x1 : Int) (k : (Int × (Bool × ((List Int) × ((List Int) × (Int × ((List Int) × Unit)))))) × Int → Option Ω) : Option Ω :=
  (frame_Fine.u x0).bind fun y1 =>
  bif (!y1) then
    k (x0, 1)
  else
    bif (!(frame_place.t x1)) then
      k (x0, 8)
    else
      k ((x1, x0.2), 0)
theorem frame_Go.ev {Ω : Type} (fuel : Fuel) (x0 : (Int × (Bool × ((List Int) × ((List Int) × (Int × ((List Int) × Unit))))))) (x1 : Int) (k : AV → Option Ω) : evFn C (fun {_} => frame_Go.sp) fuel Tryd.f22 (Tryd.f22.body.getD .skip) [(.v (.pair (.int .i64) (.pair .bool (.pair (.arr 8 (.int .i64)) (.pair (.arr 16 (.int .i64)) (.pair (.int .i64) (.pair (.arr 8 (.int .i64)) .unit)))))) (x0)), (.v (.int .i64) (x1))] k = frame_Go.s x0 x1 (fun r => k (tupAV (.pair (.int .i64) (.pair .bool (.pair (.arr 8 (.int .i64)) (.pair (.arr 16 (.int .i64)) (.pair (.int .i64) (.pair (.arr 8 (.int .i64)) .unit)))))) [(.int .i64)] r)) := by kernel_rfl
def frame_Go.u (x0 : (Int × (Bool × ((List Int) × ((List Int) × (Int × ((List Int) × Unit))))))) (x1 : Int) : Option ((Int × (Bool × ((List Int) × ((List Int) × (Int × ((List Int) × Unit)))))) × Int) := frame_Go.s x0 x1 some
theorem frame_Go.c (x0 : (Int × (Bool × ((List Int) × ((List Int) × (Int × ((List Int) × Unit))))))) (x1 : Int) (r : (Int × (Bool × ((List Int) × ((List Int) × (Int × ((List Int) × Unit)))))) × Int) (h : frame_Go.u x0 x1 = some r) : Contract C 22 [(.v (.pair (.int .i64) (.pair .bool (.pair (.arr 8 (.int .i64)) (.pair (.arr 16 (.int .i64)) (.pair (.int .i64) (.pair (.arr 8 (.int .i64)) .unit)))))) (x0)), (.v (.int .i64) (x1))] (tupAV (.pair (.int .i64) (.pair .bool (.pair (.arr 8 (.int .i64)) (.pair (.arr 16 (.int .i64)) (.pair (.int .i64) (.pair (.arr 8 (.int .i64)) .unit)))))) [(.int .i64)] r) :=
  contract_s (S := fun k => frame_Go.s x0 x1 k) C_ok (orS_ok frame_place.e_ok (orS_ok frame_Fine.e_ok noS_ok)) (by kernel_rfl) (by kernel_rfl) (by kernel_rfl) (frame_Go.ev ⟨1, fun _ => []⟩ x0 x1 (dec (.pair (.int .i64) (.pair .bool (.pair (.arr 8 (.int .i64)) (.pair (.arr 16 (.int .i64)) (.pair (.int .i64) (.pair (.arr 8 (.int .i64)) .unit)))))) [(.int .i64)])) h
noncomputable def frame_Go.e : Ent := argI (.pair (.int .i64) (.pair .bool (.pair (.arr 8 (.int .i64)) (.pair (.arr 16 (.int .i64)) (.pair (.int .i64) (.pair (.arr 8 (.int .i64)) .unit)))))) fun x0 => argI (.int .i64) fun x1 => endU (frame_Go.u x0 x1) (tupAV (.pair (.int .i64) (.pair .bool (.pair (.arr 8 (.int .i64)) (.pair (.arr 16 (.int .i64)) (.pair (.int .i64) (.pair (.arr 8 (.int .i64)) .unit)))))) [(.int .i64)])
theorem frame_Go.e_ok : EntOK C 22 (fun {_} => frame_Go.e) := entA_ok (argI_ok fun x0 => argI_ok fun x1 => endU_ok fun r h => frame_Go.c x0 x1 r h)

/-- becket becketref13.Go -/
noncomputable def ref13_Go.sp : Spec := (orS 59 (fun {_} => ref13_Place.e) (orS 18 (fun {_} => ref13_Fine.e) noS))
def ref13_Go.s {Ω : Type} (x0 : (Int × (Bool × ((List Int) × ((List Int) × (Int × ((List Int) × Unit))))))) (x1 : Int) (k : (Int × (Bool × ((List Int) × ((List Int) × (Int × ((List Int) × Unit)))))) × Int → Option Ω) : Option Ω :=
  (ref13_Fine.u x0).bind fun y1 =>
  bif (!y1) then
    k (x0, 1)
  else
    bif (!(ref13_Place.t x1)) then
      k (x0, 8)
    else
      k ((x1, x0.2), 0)
theorem ref13_Go.ev {Ω : Type} (fuel : Fuel) (x0 : (Int × (Bool × ((List Int) × ((List Int) × (Int × ((List Int) × Unit))))))) (x1 : Int) (k : AV → Option Ω) : evFn C (fun {_} => ref13_Go.sp) fuel Tryd.f23 (Tryd.f23.body.getD .skip) [(.v (.pair (.int .i64) (.pair .bool (.pair (.arr 8 (.int .i64)) (.pair (.arr 16 (.int .i64)) (.pair (.int .i64) (.pair (.arr 8 (.int .i64)) .unit)))))) (x0)), (.v (.int .i64) (x1))] k = ref13_Go.s x0 x1 (fun r => k (tupAV (.pair (.int .i64) (.pair .bool (.pair (.arr 8 (.int .i64)) (.pair (.arr 16 (.int .i64)) (.pair (.int .i64) (.pair (.arr 8 (.int .i64)) .unit)))))) [(.int .i64)] r)) := by kernel_rfl
def ref13_Go.u (x0 : (Int × (Bool × ((List Int) × ((List Int) × (Int × ((List Int) × Unit))))))) (x1 : Int) : Option ((Int × (Bool × ((List Int) × ((List Int) × (Int × ((List Int) × Unit)))))) × Int) := ref13_Go.s x0 x1 some
theorem ref13_Go.c (x0 : (Int × (Bool × ((List Int) × ((List Int) × (Int × ((List Int) × Unit))))))) (x1 : Int) (r : (Int × (Bool × ((List Int) × ((List Int) × (Int × ((List Int) × Unit)))))) × Int) (h : ref13_Go.u x0 x1 = some r) : Contract C 23 [(.v (.pair (.int .i64) (.pair .bool (.pair (.arr 8 (.int .i64)) (.pair (.arr 16 (.int .i64)) (.pair (.int .i64) (.pair (.arr 8 (.int .i64)) .unit)))))) (x0)), (.v (.int .i64) (x1))] (tupAV (.pair (.int .i64) (.pair .bool (.pair (.arr 8 (.int .i64)) (.pair (.arr 16 (.int .i64)) (.pair (.int .i64) (.pair (.arr 8 (.int .i64)) .unit)))))) [(.int .i64)] r) :=
  contract_s (S := fun k => ref13_Go.s x0 x1 k) C_ok (orS_ok ref13_Place.e_ok (orS_ok ref13_Fine.e_ok noS_ok)) (by kernel_rfl) (by kernel_rfl) (by kernel_rfl) (ref13_Go.ev ⟨1, fun _ => []⟩ x0 x1 (dec (.pair (.int .i64) (.pair .bool (.pair (.arr 8 (.int .i64)) (.pair (.arr 16 (.int .i64)) (.pair (.int .i64) (.pair (.arr 8 (.int .i64)) .unit)))))) [(.int .i64)])) h
noncomputable def ref13_Go.e : Ent := argI (.pair (.int .i64) (.pair .bool (.pair (.arr 8 (.int .i64)) (.pair (.arr 16 (.int .i64)) (.pair (.int .i64) (.pair (.arr 8 (.int .i64)) .unit)))))) fun x0 => argI (.int .i64) fun x1 => endU (ref13_Go.u x0 x1) (tupAV (.pair (.int .i64) (.pair .bool (.pair (.arr 8 (.int .i64)) (.pair (.arr 16 (.int .i64)) (.pair (.int .i64) (.pair (.arr 8 (.int .i64)) .unit)))))) [(.int .i64)])
theorem ref13_Go.e_ok : EntOK C 23 (fun {_} => ref13_Go.e) := entA_ok (argI_ok fun x0 => argI_ok fun x1 => endU_ok fun r h => ref13_Go.c x0 x1 r h)

/-- becket becketref13.Call -/
noncomputable def ref13_Call.sp : Spec := (orS 59 (fun {_} => ref13_Place.e) (orS 18 (fun {_} => ref13_Fine.e) noS))
def ref13_Call.s {Ω : Type} (x0 : (Int × (Bool × ((List Int) × ((List Int) × (Int × ((List Int) × Unit))))))) (x1 : Int) (k : (Int × (Bool × ((List Int) × ((List Int) × (Int × ((List Int) × Unit)))))) × Int → Option Ω) : Option Ω :=
  (ref13_Fine.u x0).bind fun y1 =>
  bif (!y1) then
    k (x0, 1)
  else
    bif (x0.2.2.2.2.1 == 8) then
      k (x0, 19)
    else
      bif (!(ref13_Place.t x1)) then
        k (x0, 8)
      else
        bif (x0.1 == 64) then
          k (x0, 8)
        else
          bif (idxOK x0.2.2.2.2.1 8) then
            let v2 : (Int × (Bool × ((List Int) × ((List Int) × (Int × ((List Int) × Unit)))))) := (x1, (x0.2.1, (x0.2.2.1, (x0.2.2.2.1, ((IntKind.wrap .i64 (x0.2.2.2.2.1 + 1)), ((List.set x0.2.2.2.2.2.1 (Int.toNat x0.2.2.2.2.1) (IntKind.wrap .i64 (x0.1 + 1))), x0.2.2.2.2.2.2))))))
            k (v2, 0)
          else
            none
theorem ref13_Call.ev {Ω : Type} (fuel : Fuel) (x0 : (Int × (Bool × ((List Int) × ((List Int) × (Int × ((List Int) × Unit))))))) (x1 : Int) (k : AV → Option Ω) : evFn C (fun {_} => ref13_Call.sp) fuel Tryd.f25 (Tryd.f25.body.getD .skip) [(.v (.pair (.int .i64) (.pair .bool (.pair (.arr 8 (.int .i64)) (.pair (.arr 16 (.int .i64)) (.pair (.int .i64) (.pair (.arr 8 (.int .i64)) .unit)))))) (x0)), (.v (.int .i64) (x1))] k = ref13_Call.s x0 x1 (fun r => k (tupAV (.pair (.int .i64) (.pair .bool (.pair (.arr 8 (.int .i64)) (.pair (.arr 16 (.int .i64)) (.pair (.int .i64) (.pair (.arr 8 (.int .i64)) .unit)))))) [(.int .i64)] r)) := by kernel_rfl
def ref13_Call.u (x0 : (Int × (Bool × ((List Int) × ((List Int) × (Int × ((List Int) × Unit))))))) (x1 : Int) : Option ((Int × (Bool × ((List Int) × ((List Int) × (Int × ((List Int) × Unit)))))) × Int) := ref13_Call.s x0 x1 some
theorem ref13_Call.c (x0 : (Int × (Bool × ((List Int) × ((List Int) × (Int × ((List Int) × Unit))))))) (x1 : Int) (r : (Int × (Bool × ((List Int) × ((List Int) × (Int × ((List Int) × Unit)))))) × Int) (h : ref13_Call.u x0 x1 = some r) : Contract C 25 [(.v (.pair (.int .i64) (.pair .bool (.pair (.arr 8 (.int .i64)) (.pair (.arr 16 (.int .i64)) (.pair (.int .i64) (.pair (.arr 8 (.int .i64)) .unit)))))) (x0)), (.v (.int .i64) (x1))] (tupAV (.pair (.int .i64) (.pair .bool (.pair (.arr 8 (.int .i64)) (.pair (.arr 16 (.int .i64)) (.pair (.int .i64) (.pair (.arr 8 (.int .i64)) .unit)))))) [(.int .i64)] r) :=
  contract_s (S := fun k => ref13_Call.s x0 x1 k) C_ok (orS_ok ref13_Place.e_ok (orS_ok ref13_Fine.e_ok noS_ok)) (by kernel_rfl) (by kernel_rfl) (by kernel_rfl) (ref13_Call.ev ⟨1, fun _ => []⟩ x0 x1 (dec (.pair (.int .i64) (.pair .bool (.pair (.arr 8 (.int .i64)) (.pair (.arr 16 (.int .i64)) (.pair (.int .i64) (.pair (.arr 8 (.int .i64)) .unit)))))) [(.int .i64)])) h
noncomputable def ref13_Call.e : Ent := argI (.pair (.int .i64) (.pair .bool (.pair (.arr 8 (.int .i64)) (.pair (.arr 16 (.int .i64)) (.pair (.int .i64) (.pair (.arr 8 (.int .i64)) .unit)))))) fun x0 => argI (.int .i64) fun x1 => endU (ref13_Call.u x0 x1) (tupAV (.pair (.int .i64) (.pair .bool (.pair (.arr 8 (.int .i64)) (.pair (.arr 16 (.int .i64)) (.pair (.int .i64) (.pair (.arr 8 (.int .i64)) .unit)))))) [(.int .i64)])
theorem ref13_Call.e_ok : EntOK C 25 (fun {_} => ref13_Call.e) := entA_ok (argI_ok fun x0 => argI_ok fun x1 => endU_ok fun r h => ref13_Call.c x0 x1 r h)

/-- becket becketref13.Ret -/
noncomputable def ref13_Ret.sp : Spec := (orS 18 (fun {_} => ref13_Fine.e) noS)
def ref13_Ret.s {Ω : Type} (x0 : (Int × (Bool × ((List Int) × ((List Int) × (Int × ((List Int) × Unit))))))) (k : (Int × (Bool × ((List Int) × ((List Int) × (Int × ((List Int) × Unit)))))) × Int → Option Ω) : Option Ω :=
  (ref13_Fine.u x0).bind fun y1 =>
  bif (!y1) then
    k (x0, 1)
  else
    bif (x0.2.2.2.2.1 == 0) then
      k (x0, 19)
    else
      bif (idxOK (IntKind.wrap .i64 (x0.2.2.2.2.1 - 1)) 8) then
        bif (idxOK (IntKind.wrap .i64 (x0.2.2.2.2.1 - 1)) 8) then
          let v2 : (Int × (Bool × ((List Int) × ((List Int) × (Int × ((List Int) × Unit)))))) := ((List.getD x0.2.2.2.2.2.1 (Int.toNat (IntKind.wrap .i64 (x0.2.2.2.2.1 - 1))) 0), (x0.2.1, (x0.2.2.1, (x0.2.2.2.1, ((IntKind.wrap .i64 (x0.2.2.2.2.1 - 1)), ((List.set x0.2.2.2.2.2.1 (Int.toNat (IntKind.wrap .i64 (x0.2.2.2.2.1 - 1))) 0), x0.2.2.2.2.2.2))))))
          k (v2, 0)
        else
          none
      else
        none
theorem ref13_Ret.ev {Ω : Type} (fuel : Fuel) (x0 : (Int × (Bool × ((List Int) × ((List Int) × (Int × ((List Int) × Unit))))))) (k : AV → Option Ω) : evFn C (fun {_} => ref13_Ret.sp) fuel Tryd.f27 (Tryd.f27.body.getD .skip) [(.v (.pair (.int .i64) (.pair .bool (.pair (.arr 8 (.int .i64)) (.pair (.arr 16 (.int .i64)) (.pair (.int .i64) (.pair (.arr 8 (.int .i64)) .unit)))))) (x0))] k = ref13_Ret.s x0 (fun r => k (tupAV (.pair (.int .i64) (.pair .bool (.pair (.arr 8 (.int .i64)) (.pair (.arr 16 (.int .i64)) (.pair (.int .i64) (.pair (.arr 8 (.int .i64)) .unit)))))) [(.int .i64)] r)) := by kernel_rfl
def ref13_Ret.u (x0 : (Int × (Bool × ((List Int) × ((List Int) × (Int × ((List Int) × Unit))))))) : Option ((Int × (Bool × ((List Int) × ((List Int) × (Int × ((List Int) × Unit)))))) × Int) := ref13_Ret.s x0 some
theorem ref13_Ret.c (x0 : (Int × (Bool × ((List Int) × ((List Int) × (Int × ((List Int) × Unit))))))) (r : (Int × (Bool × ((List Int) × ((List Int) × (Int × ((List Int) × Unit)))))) × Int) (h : ref13_Ret.u x0 = some r) : Contract C 27 [(.v (.pair (.int .i64) (.pair .bool (.pair (.arr 8 (.int .i64)) (.pair (.arr 16 (.int .i64)) (.pair (.int .i64) (.pair (.arr 8 (.int .i64)) .unit)))))) (x0))] (tupAV (.pair (.int .i64) (.pair .bool (.pair (.arr 8 (.int .i64)) (.pair (.arr 16 (.int .i64)) (.pair (.int .i64) (.pair (.arr 8 (.int .i64)) .unit)))))) [(.int .i64)] r) :=
  contract_s (S := fun k => ref13_Ret.s x0 k) C_ok (orS_ok ref13_Fine.e_ok noS_ok) (by kernel_rfl) (by kernel_rfl) (by kernel_rfl) (ref13_Ret.ev ⟨1, fun _ => []⟩ x0 (dec (.pair (.int .i64) (.pair .bool (.pair (.arr 8 (.int .i64)) (.pair (.arr 16 (.int .i64)) (.pair (.int .i64) (.pair (.arr 8 (.int .i64)) .unit)))))) [(.int .i64)])) h
noncomputable def ref13_Ret.e : Ent := argI (.pair (.int .i64) (.pair .bool (.pair (.arr 8 (.int .i64)) (.pair (.arr 16 (.int .i64)) (.pair (.int .i64) (.pair (.arr 8 (.int .i64)) .unit)))))) fun x0 => endU (ref13_Ret.u x0) (tupAV (.pair (.int .i64) (.pair .bool (.pair (.arr 8 (.int .i64)) (.pair (.arr 16 (.int .i64)) (.pair (.int .i64) (.pair (.arr 8 (.int .i64)) .unit)))))) [(.int .i64)])
theorem ref13_Ret.e_ok : EntOK C 27 (fun {_} => ref13_Ret.e) := entA_ok (argI_ok fun x0 => endU_ok fun r h => ref13_Ret.c x0 r h)

/-- becket becketlaw13.FrameGoes -/
noncomputable def law13_FrameGoes.sp : Spec := (orS 27 (fun {_} => ref13_Ret.e) (orS 26 (fun {_} => frame_Ret.e) (orS 25 (fun {_} => ref13_Call.e) (orS 24 (fun {_} => frame_Call.e) (orS 23 (fun {_} => ref13_Go.e) (orS 22 (fun {_} => frame_Go.e) (orS 21 (fun {_} => law13_alive.e) noS)))))))
def law13_FrameGoes.s {Ω : Type} (x0 : (Int × (Bool × ((List Int) × ((List Int) × (Int × ((List Int) × Unit))))))) (x1 : Int) (k : Bool → Option Ω) : Option Ω :=
  (frame_Go.u x0 x1).bind fun y1 =>
  (ref13_Go.u x0 x1).bind fun y2 =>
  (frame_Call.u x0 x1).bind fun y3 =>
  (ref13_Call.u x0 x1).bind fun y4 =>
  (frame_Ret.u x0).bind fun y5 =>
  (ref13_Ret.u x0).bind fun y6 =>
  let v7 : Bool := (eqI (.pair (.int .i64) (.pair .bool (.pair (.arr 8 (.int .i64)) (.pair (.arr 16 (.int .i64)) (.pair (.int .i64) (.pair (.arr 8 (.int .i64)) .unit)))))) y1.1 y2.1)
  bif v7 then
    bif (y1.2 == y2.2) then
      let v8 : Bool := (eqI (.pair (.int .i64) (.pair .bool (.pair (.arr 8 (.int .i64)) (.pair (.arr 16 (.int .i64)) (.pair (.int .i64) (.pair (.arr 8 (.int .i64)) .unit)))))) y3.1 y4.1)
      bif v8 then
        bif (y3.2 == y4.2) then
          let v9 : Bool := (eqI (.pair (.int .i64) (.pair .bool (.pair (.arr 8 (.int .i64)) (.pair (.arr 16 (.int .i64)) (.pair (.int .i64) (.pair (.arr 8 (.int .i64)) .unit)))))) y5.1 y6.1)
          bif v9 then
            bif (y5.2 == y6.2) then
              law13_alive.u.bind fun y10 =>
              k y10
            else
              k false
          else
            k false
        else
          k false
      else
        k false
    else
      k false
  else
    k false
theorem law13_FrameGoes.ev {Ω : Type} (fuel : Fuel) (x0 : (Int × (Bool × ((List Int) × ((List Int) × (Int × ((List Int) × Unit))))))) (x1 : Int) (k : AV → Option Ω) : evFn CP (fun {_} => law13_FrameGoes.sp) fuel Tryd.f4 (Tryd.f4.body.getD .skip) [(.v (.pair (.int .i64) (.pair .bool (.pair (.arr 8 (.int .i64)) (.pair (.arr 16 (.int .i64)) (.pair (.int .i64) (.pair (.arr 8 (.int .i64)) .unit)))))) (x0)), (.v (.int .i64) (x1))] k = law13_FrameGoes.s x0 x1 (fun r => k (tupAV .bool [] r)) := by kernel_rfl
def law13_FrameGoes.u (x0 : (Int × (Bool × ((List Int) × ((List Int) × (Int × ((List Int) × Unit))))))) (x1 : Int) : Option (Bool) := law13_FrameGoes.s x0 x1 some
theorem law13_FrameGoes.c (x0 : (Int × (Bool × ((List Int) × ((List Int) × (Int × ((List Int) × Unit))))))) (x1 : Int) (r : Bool) (h : law13_FrameGoes.u x0 x1 = some r) : Contract CP 4 [(.v (.pair (.int .i64) (.pair .bool (.pair (.arr 8 (.int .i64)) (.pair (.arr 16 (.int .i64)) (.pair (.int .i64) (.pair (.arr 8 (.int .i64)) .unit)))))) (x0)), (.v (.int .i64) (x1))] (tupAV .bool [] r) :=
  contract_s (S := fun k => law13_FrameGoes.s x0 x1 k) CP_ok (orS_ok (ref13_Ret.e_ok.mono le_C_CP) (orS_ok (frame_Ret.e_ok.mono le_C_CP) (orS_ok (ref13_Call.e_ok.mono le_C_CP) (orS_ok (frame_Call.e_ok.mono le_C_CP) (orS_ok (ref13_Go.e_ok.mono le_C_CP) (orS_ok (frame_Go.e_ok.mono le_C_CP) (orS_ok law13_alive.e_ok noS_ok))))))) (by kernel_rfl) (by kernel_rfl) (by kernel_rfl) (law13_FrameGoes.ev ⟨1, fun _ => []⟩ x0 x1 (dec .bool [])) h
noncomputable def law13_FrameGoes.e : Ent := argI (.pair (.int .i64) (.pair .bool (.pair (.arr 8 (.int .i64)) (.pair (.arr 16 (.int .i64)) (.pair (.int .i64) (.pair (.arr 8 (.int .i64)) .unit)))))) fun x0 => argI (.int .i64) fun x1 => endU (law13_FrameGoes.u x0 x1) (tupAV .bool [])
theorem law13_FrameGoes.e_ok : EntOK CP 4 (fun {_} => law13_FrameGoes.e) := entA_ok (argI_ok fun x0 => argI_ok fun x1 => endU_ok fun r h => law13_FrameGoes.c x0 x1 r h)

/-- becket frame.Get -/
noncomputable def frame_Get.sp : Spec := (orS 63 (fun {_} => frame_at.e) noS)
def frame_Get.s {Ω : Type} (x0 : (Int × (Bool × ((List Int) × ((List Int) × (Int × ((List Int) × Unit))))))) (x1 : Int) (k : Int × Int → Option Ω) : Option Ω :=
  (frame_at.u x0 x1 8 0).bind fun y1 =>
  bif (y1 != 0) then
    k (0, y1)
  else
    bif (idxOK x1 8) then
      k ((List.getD x0.2.2.1 (Int.toNat x1) 0), 0)
    else
      none
theorem frame_Get.ev {Ω : Type} (fuel : Fuel) (x0 : (Int × (Bool × ((List Int) × ((List Int) × (Int × ((List Int) × Unit))))))) (x1 : Int) (k : AV → Option Ω) : evFn C (fun {_} => frame_Get.sp) fuel Tryd.f28 (Tryd.f28.body.getD .skip) [(.v (.pair (.int .i64) (.pair .bool (.pair (.arr 8 (.int .i64)) (.pair (.arr 16 (.int .i64)) (.pair (.int .i64) (.pair (.arr 8 (.int .i64)) .unit)))))) (x0)), (.v (.int .i64) (x1))] k = frame_Get.s x0 x1 (fun r => k (tupAV (.int .i64) [(.int .i64)] r)) := by kernel_rfl
def frame_Get.u (x0 : (Int × (Bool × ((List Int) × ((List Int) × (Int × ((List Int) × Unit))))))) (x1 : Int) : Option (Int × Int) := frame_Get.s x0 x1 some
theorem frame_Get.c (x0 : (Int × (Bool × ((List Int) × ((List Int) × (Int × ((List Int) × Unit))))))) (x1 : Int) (r : Int × Int) (h : frame_Get.u x0 x1 = some r) : Contract C 28 [(.v (.pair (.int .i64) (.pair .bool (.pair (.arr 8 (.int .i64)) (.pair (.arr 16 (.int .i64)) (.pair (.int .i64) (.pair (.arr 8 (.int .i64)) .unit)))))) (x0)), (.v (.int .i64) (x1))] (tupAV (.int .i64) [(.int .i64)] r) :=
  contract_s (S := fun k => frame_Get.s x0 x1 k) C_ok (orS_ok frame_at.e_ok noS_ok) (by kernel_rfl) (by kernel_rfl) (by kernel_rfl) (frame_Get.ev ⟨1, fun _ => []⟩ x0 x1 (dec (.int .i64) [(.int .i64)])) h
noncomputable def frame_Get.e : Ent := argI (.pair (.int .i64) (.pair .bool (.pair (.arr 8 (.int .i64)) (.pair (.arr 16 (.int .i64)) (.pair (.int .i64) (.pair (.arr 8 (.int .i64)) .unit)))))) fun x0 => argI (.int .i64) fun x1 => endU (frame_Get.u x0 x1) (tupAV (.int .i64) [(.int .i64)])
theorem frame_Get.e_ok : EntOK C 28 (fun {_} => frame_Get.e) := entA_ok (argI_ok fun x0 => argI_ok fun x1 => endU_ok fun r h => frame_Get.c x0 x1 r h)

/-- becket becketref13.Get -/
noncomputable def ref13_Get.sp : Spec := (orS 18 (fun {_} => ref13_Fine.e) noS)
def ref13_Get.s {Ω : Type} (x0 : (Int × (Bool × ((List Int) × ((List Int) × (Int × ((List Int) × Unit))))))) (x1 : Int) (k : Int × Int → Option Ω) : Option Ω :=
  (ref13_Fine.u x0).bind fun y1 =>
  bif (!y1) then
    k (0, 1)
  else
    bif (decide (x1 < 0)) then
      k (0, 8)
    else
      bif (decide (x1 > 7)) then
        k (0, 8)
      else
        bif (idxOK x1 8) then
          k ((List.getD x0.2.2.1 (Int.toNat x1) 0), 0)
        else
          none
theorem ref13_Get.ev {Ω : Type} (fuel : Fuel) (x0 : (Int × (Bool × ((List Int) × ((List Int) × (Int × ((List Int) × Unit))))))) (x1 : Int) (k : AV → Option Ω) : evFn C (fun {_} => ref13_Get.sp) fuel Tryd.f29 (Tryd.f29.body.getD .skip) [(.v (.pair (.int .i64) (.pair .bool (.pair (.arr 8 (.int .i64)) (.pair (.arr 16 (.int .i64)) (.pair (.int .i64) (.pair (.arr 8 (.int .i64)) .unit)))))) (x0)), (.v (.int .i64) (x1))] k = ref13_Get.s x0 x1 (fun r => k (tupAV (.int .i64) [(.int .i64)] r)) := by kernel_rfl
def ref13_Get.u (x0 : (Int × (Bool × ((List Int) × ((List Int) × (Int × ((List Int) × Unit))))))) (x1 : Int) : Option (Int × Int) := ref13_Get.s x0 x1 some
theorem ref13_Get.c (x0 : (Int × (Bool × ((List Int) × ((List Int) × (Int × ((List Int) × Unit))))))) (x1 : Int) (r : Int × Int) (h : ref13_Get.u x0 x1 = some r) : Contract C 29 [(.v (.pair (.int .i64) (.pair .bool (.pair (.arr 8 (.int .i64)) (.pair (.arr 16 (.int .i64)) (.pair (.int .i64) (.pair (.arr 8 (.int .i64)) .unit)))))) (x0)), (.v (.int .i64) (x1))] (tupAV (.int .i64) [(.int .i64)] r) :=
  contract_s (S := fun k => ref13_Get.s x0 x1 k) C_ok (orS_ok ref13_Fine.e_ok noS_ok) (by kernel_rfl) (by kernel_rfl) (by kernel_rfl) (ref13_Get.ev ⟨1, fun _ => []⟩ x0 x1 (dec (.int .i64) [(.int .i64)])) h
noncomputable def ref13_Get.e : Ent := argI (.pair (.int .i64) (.pair .bool (.pair (.arr 8 (.int .i64)) (.pair (.arr 16 (.int .i64)) (.pair (.int .i64) (.pair (.arr 8 (.int .i64)) .unit)))))) fun x0 => argI (.int .i64) fun x1 => endU (ref13_Get.u x0 x1) (tupAV (.int .i64) [(.int .i64)])
theorem ref13_Get.e_ok : EntOK C 29 (fun {_} => ref13_Get.e) := entA_ok (argI_ok fun x0 => argI_ok fun x1 => endU_ok fun r h => ref13_Get.c x0 x1 r h)

/-- becket becketref13.Load -/
noncomputable def ref13_Load.sp : Spec := (orS 18 (fun {_} => ref13_Fine.e) noS)
def ref13_Load.s {Ω : Type} (x0 : (Int × (Bool × ((List Int) × ((List Int) × (Int × ((List Int) × Unit))))))) (x1 : Int) (k : Int × Int → Option Ω) : Option Ω :=
  (ref13_Fine.u x0).bind fun y1 =>
  bif (!y1) then
    k (0, 1)
  else
    bif (decide (x1 < 0)) then
      k (0, 8)
    else
      bif (decide (x1 > 15)) then
        k (0, 8)
      else
        bif (idxOK x1 16) then
          k ((List.getD x0.2.2.2.1 (Int.toNat x1) 0), 0)
        else
          none
theorem ref13_Load.ev {Ω : Type} (fuel : Fuel) (x0 : (Int × (Bool × ((List Int) × ((List Int) × (Int × ((List Int) × Unit))))))) (x1 : Int) (k : AV → Option Ω) : evFn C (fun {_} => ref13_Load.sp) fuel Tryd.f31 (Tryd.f31.body.getD .skip) [(.v (.pair (.int .i64) (.pair .bool (.pair (.arr 8 (.int .i64)) (.pair (.arr 16 (.int .i64)) (.pair (.int .i64) (.pair (.arr 8 (.int .i64)) .unit)))))) (x0)), (.v (.int .i64) (x1))] k = ref13_Load.s x0 x1 (fun r => k (tupAV (.int .i64) [(.int .i64)] r)) := by kernel_rfl
def ref13_Load.u (x0 : (Int × (Bool × ((List Int) × ((List Int) × (Int × ((List Int) × Unit))))))) (x1 : Int) : Option (Int × Int) := ref13_Load.s x0 x1 some
theorem ref13_Load.c (x0 : (Int × (Bool × ((List Int) × ((List Int) × (Int × ((List Int) × Unit))))))) (x1 : Int) (r : Int × Int) (h : ref13_Load.u x0 x1 = some r) : Contract C 31 [(.v (.pair (.int .i64) (.pair .bool (.pair (.arr 8 (.int .i64)) (.pair (.arr 16 (.int .i64)) (.pair (.int .i64) (.pair (.arr 8 (.int .i64)) .unit)))))) (x0)), (.v (.int .i64) (x1))] (tupAV (.int .i64) [(.int .i64)] r) :=
  contract_s (S := fun k => ref13_Load.s x0 x1 k) C_ok (orS_ok ref13_Fine.e_ok noS_ok) (by kernel_rfl) (by kernel_rfl) (by kernel_rfl) (ref13_Load.ev ⟨1, fun _ => []⟩ x0 x1 (dec (.int .i64) [(.int .i64)])) h
noncomputable def ref13_Load.e : Ent := argI (.pair (.int .i64) (.pair .bool (.pair (.arr 8 (.int .i64)) (.pair (.arr 16 (.int .i64)) (.pair (.int .i64) (.pair (.arr 8 (.int .i64)) .unit)))))) fun x0 => argI (.int .i64) fun x1 => endU (ref13_Load.u x0 x1) (tupAV (.int .i64) [(.int .i64)])
theorem ref13_Load.e_ok : EntOK C 31 (fun {_} => ref13_Load.e) := entA_ok (argI_ok fun x0 => argI_ok fun x1 => endU_ok fun r h => ref13_Load.c x0 x1 r h)

/-- becket frame.Set -/
noncomputable def frame_Set.sp : Spec := (orS 63 (fun {_} => frame_at.e) noS)
def frame_Set.s {Ω : Type} (x0 : (Int × (Bool × ((List Int) × ((List Int) × (Int × ((List Int) × Unit))))))) (x1 : Int) (x2 : Int) (k : (Int × (Bool × ((List Int) × ((List Int) × (Int × ((List Int) × Unit)))))) × Int → Option Ω) : Option Ω :=
  (frame_at.u x0 x1 8 x2).bind fun y1 =>
  bif (y1 == 0) then
    bif (idxOK x1 8) then
      k ((x0.1, (x0.2.1, ((List.set x0.2.2.1 (Int.toNat x1) x2), x0.2.2.2))), y1)
    else
      none
  else
    k (x0, y1)
theorem frame_Set.ev {Ω : Type} (fuel : Fuel) (x0 : (Int × (Bool × ((List Int) × ((List Int) × (Int × ((List Int) × Unit))))))) (x1 : Int) (x2 : Int) (k : AV → Option Ω) : evFn C (fun {_} => frame_Set.sp) fuel Tryd.f32 (Tryd.f32.body.getD .skip) [(.v (.pair (.int .i64) (.pair .bool (.pair (.arr 8 (.int .i64)) (.pair (.arr 16 (.int .i64)) (.pair (.int .i64) (.pair (.arr 8 (.int .i64)) .unit)))))) (x0)), (.v (.int .i64) (x1)), (.v (.int .i64) (x2))] k = frame_Set.s x0 x1 x2 (fun r => k (tupAV (.pair (.int .i64) (.pair .bool (.pair (.arr 8 (.int .i64)) (.pair (.arr 16 (.int .i64)) (.pair (.int .i64) (.pair (.arr 8 (.int .i64)) .unit)))))) [(.int .i64)] r)) := by kernel_rfl
def frame_Set.u (x0 : (Int × (Bool × ((List Int) × ((List Int) × (Int × ((List Int) × Unit))))))) (x1 : Int) (x2 : Int) : Option ((Int × (Bool × ((List Int) × ((List Int) × (Int × ((List Int) × Unit)))))) × Int) := frame_Set.s x0 x1 x2 some
theorem frame_Set.c (x0 : (Int × (Bool × ((List Int) × ((List Int) × (Int × ((List Int) × Unit))))))) (x1 : Int) (x2 : Int) (r : (Int × (Bool × ((List Int) × ((List Int) × (Int × ((List Int) × Unit)))))) × Int) (h : frame_Set.u x0 x1 x2 = some r) : Contract C 32 [(.v (.pair (.int .i64) (.pair .bool (.pair (.arr 8 (.int .i64)) (.pair (.arr 16 (.int .i64)) (.pair (.int .i64) (.pair (.arr 8 (.int .i64)) .unit)))))) (x0)), (.v (.int .i64) (x1)), (.v (.int .i64) (x2))] (tupAV (.pair (.int .i64) (.pair .bool (.pair (.arr 8 (.int .i64)) (.pair (.arr 16 (.int .i64)) (.pair (.int .i64) (.pair (.arr 8 (.int .i64)) .unit)))))) [(.int .i64)] r) :=
  contract_s (S := fun k => frame_Set.s x0 x1 x2 k) C_ok (orS_ok frame_at.e_ok noS_ok) (by kernel_rfl) (by kernel_rfl) (by kernel_rfl) (frame_Set.ev ⟨1, fun _ => []⟩ x0 x1 x2 (dec (.pair (.int .i64) (.pair .bool (.pair (.arr 8 (.int .i64)) (.pair (.arr 16 (.int .i64)) (.pair (.int .i64) (.pair (.arr 8 (.int .i64)) .unit)))))) [(.int .i64)])) h
noncomputable def frame_Set.e : Ent := argI (.pair (.int .i64) (.pair .bool (.pair (.arr 8 (.int .i64)) (.pair (.arr 16 (.int .i64)) (.pair (.int .i64) (.pair (.arr 8 (.int .i64)) .unit)))))) fun x0 => argI (.int .i64) fun x1 => argI (.int .i64) fun x2 => endU (frame_Set.u x0 x1 x2) (tupAV (.pair (.int .i64) (.pair .bool (.pair (.arr 8 (.int .i64)) (.pair (.arr 16 (.int .i64)) (.pair (.int .i64) (.pair (.arr 8 (.int .i64)) .unit)))))) [(.int .i64)])
theorem frame_Set.e_ok : EntOK C 32 (fun {_} => frame_Set.e) := entA_ok (argI_ok fun x0 => argI_ok fun x1 => argI_ok fun x2 => endU_ok fun r h => frame_Set.c x0 x1 x2 r h)

end Go.Proofs.YtmphlhnpichonaaDoor.K

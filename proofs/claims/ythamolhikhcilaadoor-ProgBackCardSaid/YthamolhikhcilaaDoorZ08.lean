/- What functions of the program come to, plainly. -/
import Derived.Test.YthamolhikhcilaaDoorZ02
set_option maxRecDepth 100000
set_option linter.unusedVariables false
namespace Go.Proofs.YthamolhikhcilaaDoor.K
open Go Go.RowKit

/-- becket becketref08.Fine -/
noncomputable def ref08_Fine.sp : Spec := noS
def ref08_Fine.s {Ω : Type} (x0 : Int) (k : Bool → Option Ω) : Option Ω :=
  bif (decide (x0 ≥ (-2147483648))) then
    k (decide (x0 ≤ 2147483647))
  else
    k false
theorem ref08_Fine.ev {Ω : Type} (fuel : Fuel) (x0 : Int) (k : AV → Option Ω) : evFn C ref08_Fine.sp fuel Tryd.f87 (Tryd.f87.body.getD .skip) [(.v (.int .i64) (x0))] k = ref08_Fine.s x0 (fun r => k (tupAV .bool [] r)) := by kernel_rfl
def ref08_Fine.t (x0 : Int) : Bool :=
  bif (decide (x0 ≥ (-2147483648))) then
    (decide (x0 ≤ 2147483647))
  else
    false
theorem ref08_Fine.v {Ω : Type} (x0 : Int) (k : Bool → Option Ω) : ref08_Fine.s x0 k = k (ref08_Fine.t x0) := by
  delta ref08_Fine.s ref08_Fine.t; exact (cond_tot rfl rfl)
theorem ref08_Fine.c (x0 : Int) : Contract C 87 [(.v (.int .i64) (x0))] (tupAV .bool [] (ref08_Fine.t x0)) :=
  contract_s (S := fun k => ref08_Fine.s x0 k) C_ok noS_ok (by kernel_rfl) (by kernel_rfl) (by kernel_rfl) (ref08_Fine.ev ⟨1, fun _ => []⟩ x0 (dec .bool [])) (ref08_Fine.v x0 some)
noncomputable def ref08_Fine.e : Ent := argI (.int .i64) fun x0 => endT (tupAV .bool [] (ref08_Fine.t x0))
theorem ref08_Fine.e_ok : EntOK C 87 (fun {_} => ref08_Fine.e) := entA_ok (argI_ok fun x0 => endT_ok (ref08_Fine.c x0))

/-- becket becketref08.Text -/
noncomputable def ref08_Text.sp : Spec := (orS 87 (fun {_} => ref08_Fine.e) (orS 58 (fun {_} => ref01_Digits.e) noS))
def ref08_Text.s {Ω : Type} (x0 : Int) (k : ByteArray × Int → Option Ω) : Option Ω :=
  bif (!(ref08_Fine.t x0)) then
    k ((bs []), 8)
  else
    bif (decide (x0 < 0)) then
      (ref01_Digits.u ((IntKind.wrap .i64 (0 - x0)))).bind fun y1 =>
      bif (decide (((bs [45])).size + (y1).size ≤ catMax)) then
        k (((bs [45]) ++ y1), 0)
      else
        none
    else
      (ref01_Digits.u x0).bind fun y2 =>
      k (y2, 0)
theorem ref08_Text.ev {Ω : Type} (fuel : Fuel) (x0 : Int) (k : AV → Option Ω) : evFn C ref08_Text.sp fuel Tryd.f56 (Tryd.f56.body.getD .skip) [(.v (.int .i64) (x0))] k = ref08_Text.s x0 (fun r => k (tupAV .str [(.int .i64)] r)) := by kernel_rfl
def ref08_Text.u (x0 : Int) : Option (ByteArray × Int) := ref08_Text.s x0 some
theorem ref08_Text.c (x0 : Int) (r : ByteArray × Int) (h : ref08_Text.u x0 = some r) : Contract C 56 [(.v (.int .i64) (x0))] (tupAV .str [(.int .i64)] r) :=
  contract_s (S := fun k => ref08_Text.s x0 k) C_ok (orS_ok ref08_Fine.e_ok (orS_ok ref01_Digits.e_ok noS_ok)) (by kernel_rfl) (by kernel_rfl) (by kernel_rfl) (ref08_Text.ev ⟨1, fun _ => []⟩ x0 (dec .str [(.int .i64)])) h
noncomputable def ref08_Text.e : Ent := argI (.int .i64) fun x0 => endU (ref08_Text.u x0) (tupAV .str [(.int .i64)])
theorem ref08_Text.e_ok : EntOK C 56 (fun {_} => ref08_Text.e) := entA_ok (argI_ok fun x0 => endU_ok fun r h => ref08_Text.c x0 r h)

/-- becket word.Fine -/
noncomputable def word_Fine.sp : Spec := noS
def word_Fine.s {Ω : Type} (x0 : Int) (k : Bool → Option Ω) : Option Ω :=
  bif (decide (x0 ≥ (-2147483648))) then
    k (decide (x0 ≤ 2147483647))
  else
    k false
theorem word_Fine.ev {Ω : Type} (fuel : Fuel) (x0 : Int) (k : AV → Option Ω) : evFn C word_Fine.sp fuel Tryd.f103 (Tryd.f103.body.getD .skip) [(.v (.int .i64) (x0))] k = word_Fine.s x0 (fun r => k (tupAV .bool [] r)) := by kernel_rfl
def word_Fine.t (x0 : Int) : Bool :=
  bif (decide (x0 ≥ (-2147483648))) then
    (decide (x0 ≤ 2147483647))
  else
    false
theorem word_Fine.v {Ω : Type} (x0 : Int) (k : Bool → Option Ω) : word_Fine.s x0 k = k (word_Fine.t x0) := by
  delta word_Fine.s word_Fine.t; exact (cond_tot rfl rfl)
theorem word_Fine.c (x0 : Int) : Contract C 103 [(.v (.int .i64) (x0))] (tupAV .bool [] (word_Fine.t x0)) :=
  contract_s (S := fun k => word_Fine.s x0 k) C_ok noS_ok (by kernel_rfl) (by kernel_rfl) (by kernel_rfl) (word_Fine.ev ⟨1, fun _ => []⟩ x0 (dec .bool [])) (word_Fine.v x0 some)
noncomputable def word_Fine.e : Ent := argI (.int .i64) fun x0 => endT (tupAV .bool [] (word_Fine.t x0))
theorem word_Fine.e_ok : EntOK C 103 (fun {_} => word_Fine.e) := entA_ok (argI_ok fun x0 => endT_ok (word_Fine.c x0))

/-- becket word.Text -/
noncomputable def word_Text.sp : Spec := (orS 104 (fun {_} => strconv_Itoa.e) (orS 103 (fun {_} => word_Fine.e) noS))
def word_Text.s {Ω : Type} (x0 : Int) (k : ByteArray × Int → Option Ω) : Option Ω :=
  bif (!(word_Fine.t x0)) then
    k ((bs []), 8)
  else
    (strconv_Itoa.u x0).bind fun y1 =>
    k (y1, 0)
theorem word_Text.ev {Ω : Type} (fuel : Fuel) (x0 : Int) (k : AV → Option Ω) : evFn CP word_Text.sp fuel Tryd.f82 (Tryd.f82.body.getD .skip) [(.v (.int .i64) (x0))] k = word_Text.s x0 (fun r => k (tupAV .str [(.int .i64)] r)) := by kernel_rfl
def word_Text.u (x0 : Int) : Option (ByteArray × Int) := word_Text.s x0 some
theorem word_Text.c (x0 : Int) (r : ByteArray × Int) (h : word_Text.u x0 = some r) : Contract CP 82 [(.v (.int .i64) (x0))] (tupAV .str [(.int .i64)] r) :=
  contract_s (S := fun k => word_Text.s x0 k) CP_ok (orS_ok strconv_Itoa.e_ok (orS_ok (word_Fine.e_ok.mono le_C_CP) noS_ok)) (by kernel_rfl) (by kernel_rfl) (by kernel_rfl) (word_Text.ev ⟨1, fun _ => []⟩ x0 (dec .str [(.int .i64)])) h
noncomputable def word_Text.e : Ent := argI (.int .i64) fun x0 => endU (word_Text.u x0) (tupAV .str [(.int .i64)])
theorem word_Text.e_ok : EntOK CP 82 (fun {_} => word_Text.e) := entA_ok (argI_ok fun x0 => endU_ok fun r h => word_Text.c x0 r h)

/-- becket becketref08.Parse -/
noncomputable def ref08_Parse.sp : Spec := (orS 113 (fun {_} => ref01_Plain.e) (orS 87 (fun {_} => ref08_Fine.e) noS))
def ref08_Parse.F (fuel : Nat) : Fuel := ⟨fuel, fun r => bif r == 11 then [1, 2, 3, 5, 6, 9, 10, 11, 12, 13, 14, 15, 16, 17, 18, 19, 20, 21, 22, 23, 24, 25, 26, 27, 28, 29, 30, 31, 32, 33, 34, 35, 36, 37, 38, 39, 40, 41, 42, 43, 44, 45, 46, 47, 48, 49, 50, 51, 52, 53, 54, 55, 56, 57] else []⟩
def ref08_Parse.E0 (e11_1 : ByteArray) (e11_2 : Bool) (s11 : Int × Int) : List AV := [(.v .str (e11_1)), .dead, .dead, .dead, (.v .bool (e11_2)), .dead, .dead, (.v (.int .i64) (s11.1)), (.v (.int .i64) (s11.2)), .dead, .dead, .dead, .dead, .dead, .dead, .dead, .dead, .dead, .dead, .dead, .dead, .dead, .dead, .dead, .dead, .dead, .dead, .dead, .dead, .dead, .dead, .dead, .dead, .dead, .dead, .dead, .dead, .dead, .dead, .dead, .dead, .dead, .dead, .dead, .dead, .dead, .dead, .dead, .dead, .dead, .dead, .dead, .dead, .dead, .dead, .dead, .dead, .dead]
def ref08_Parse.H0 (e11_1 : ByteArray) (e11_2 : Bool) (s11 : Int × Int) : Heap := []
noncomputable def ref08_Parse.M0 {Ω : Type} (fuel : Nat) (e11_1 : ByteArray) (e11_2 : Bool)  (k : AV → Option Ω) (m : Nat) (s : Int × Int) : Option Ω := loopK (fun env L k => evCode C ref08_Parse.sp (ref08_Parse.F fuel) (cl (cl (cr (cl (cr (cr (cr (cr (cr (cr (cr (Tryd.f94.body.getD .skip)))))))))))) env L k) [false, true, true, true, false, true, true, false, false, true, true, true, true, true, true, true, true, true, true, true, true, true, true, true, true, true, true, true, true, true, true, true, true, true, true, true, true, true, true, true, true, true, true, true, true, true, true, true, true, true, true, true, true, true, true, true, true, true] 0 (blockK 0 (seqK (fun env L => evCode C ref08_Parse.sp (ref08_Parse.F fuel) (cr (cr (cr (cr (cr (cr (cr (cr (Tryd.f94.body.getD .skip))))))))) env L (finK C Tryd.f94 k)) (finK C Tryd.f94 k))) m ((ref08_Parse.E0 e11_1 e11_2) s) ((ref08_Parse.H0 e11_1 e11_2) s)
def ref08_Parse.E1 (e11_1 : ByteArray) (s11 : Int × Int) : List AV := [(.v .str (e11_1)), .dead, .dead, .dead, (.v .bool (false)), .dead, .dead, (.v (.int .i64) (s11.1)), (.v (.int .i64) (s11.2)), .dead, .dead, .dead, .dead, .dead, .dead, .dead, .dead, .dead, .dead, .dead, .dead, .dead, .dead, .dead, .dead, .dead, .dead, .dead, .dead, .dead, .dead, .dead, .dead, .dead, .dead, .dead, .dead, .dead, .dead, .dead, .dead, .dead, .dead, .dead, .dead, .dead, .dead, .dead, .dead, .dead, .dead, .dead, .dead, .dead, .dead, .dead, .dead, .dead]
def ref08_Parse.H1 (e11_1 : ByteArray) (s11 : Int × Int) : Heap := []
noncomputable def ref08_Parse.M1 {Ω : Type} (fuel : Nat) (e11_1 : ByteArray)  (k : AV → Option Ω) (m : Nat) (s : Int × Int) : Option Ω := loopK (fun env L k => evCode C ref08_Parse.sp (ref08_Parse.F fuel) (cl (cl (cr (cl (cr (cr (cr (cr (cr (cr (cr (Tryd.f94.body.getD .skip)))))))))))) env L k) [false, true, true, true, false, true, true, false, false, true, true, true, true, true, true, true, true, true, true, true, true, true, true, true, true, true, true, true, true, true, true, true, true, true, true, true, true, true, true, true, true, true, true, true, true, true, true, true, true, true, true, true, true, true, true, true, true, true] 0 (blockK 0 (seqK (fun env L => evCode C ref08_Parse.sp (ref08_Parse.F fuel) (cr (cr (cr (cr (cr (cr (cr (cr (Tryd.f94.body.getD .skip))))))))) env L (finK C Tryd.f94 k)) (finK C Tryd.f94 k))) m ((ref08_Parse.E1 e11_1) s) ((ref08_Parse.H1 e11_1) s)
def ref08_Parse.b0 {Ω : Type} (e11_1 : ByteArray) (e11_2 : Bool)   (k : Int × Int → Option Ω) (r11 : Int × Int → Option Ω) (s11 : Int × Int) : Option Ω :=
  bif (decide (s11.2 < ((e11_1).size : Int))) then
    bif (idxOK s11.2 (e11_1).size) then
      let v2 : Int := (IntKind.wrap .i64 ((IntKind.wrap .i64 (10 * s11.1)) + (IntKind.wrap .i64 (IntKind.wrap .u8 ((bAt e11_1 (Int.toNat s11.2)) - 48)))))
      r11 (v2, (IntKind.wrap .i64 (s11.2 + 1)))
    else
      none
  else
    bif e11_2 then
      bif (!(ref08_Fine.t ((IntKind.wrap .i64 (0 - s11.1))))) then
        k (0, 8)
      else
        k ((IntKind.wrap .i64 (0 - s11.1)), 0)
    else
      bif (!(ref08_Fine.t s11.1)) then
        k (0, 8)
      else
        k (s11.1, 0)
def ref08_Parse.B0 {Ω : Type} (fuel : Nat) (e11_1 : ByteArray) (e11_2 : Bool)  (k : Int × Int → Option Ω) (r11 : Int × Int → Option Ω) (s11 : Int × Int) : Option Ω := ref08_Parse.b0 e11_1 e11_2   k r11 s11
def ref08_Parse.b1 {Ω : Type} (e11_1 : ByteArray)   (k : Int × Int → Option Ω) (r11 : Int × Int → Option Ω) (s11 : Int × Int) : Option Ω :=
  bif (decide (s11.2 < ((e11_1).size : Int))) then
    bif (idxOK s11.2 (e11_1).size) then
      let v8 : Int := (IntKind.wrap .i64 ((IntKind.wrap .i64 (10 * s11.1)) + (IntKind.wrap .i64 (IntKind.wrap .u8 ((bAt e11_1 (Int.toNat s11.2)) - 48)))))
      r11 (v8, (IntKind.wrap .i64 (s11.2 + 1)))
    else
      none
  else
    bif (!(ref08_Fine.t s11.1)) then
      k (0, 8)
    else
      k (s11.1, 0)
def ref08_Parse.B1 {Ω : Type} (fuel : Nat) (e11_1 : ByteArray)  (k : Int × Int → Option Ω) (r11 : Int × Int → Option Ω) (s11 : Int × Int) : Option Ω := ref08_Parse.b1 e11_1   k r11 s11
theorem ref08_Parse.l0 {Ω : Type} (fuel : Nat) (e11_1 : ByteArray) (e11_2 : Bool)  (k : AV → Option Ω) : ∀ m, (ref08_Parse.M0 fuel e11_1 e11_2  k m) = iter (ref08_Parse.B0 fuel e11_1 e11_2  (fun r => k (tupAV (.int .i64) [(.int .i64)] r))) m :=
  loopK_iter (envOf := (ref08_Parse.E0 e11_1 e11_2)) (LOf := (ref08_Parse.H0 e11_1 e11_2)) (B := ref08_Parse.B0 fuel e11_1 e11_2  (fun r => k (tupAV (.int .i64) [(.int .i64)] r))) (fun R s => by kernel_rfl)
theorem ref08_Parse.l1 {Ω : Type} (fuel : Nat) (e11_1 : ByteArray)  (k : AV → Option Ω) : ∀ m, (ref08_Parse.M1 fuel e11_1  k m) = iter (ref08_Parse.B1 fuel e11_1  (fun r => k (tupAV (.int .i64) [(.int .i64)] r))) m :=
  loopK_iter (envOf := (ref08_Parse.E1 e11_1)) (LOf := (ref08_Parse.H1 e11_1)) (B := ref08_Parse.B1 fuel e11_1  (fun r => k (tupAV (.int .i64) [(.int .i64)] r))) (fun R s => by kernel_rfl)
def ref08_Parse.sl {Ω : Type} (x0 : ByteArray) (lp0 : ByteArray → Bool → Int × Int → Option Ω) (lp1 : ByteArray → Int × Int → Option Ω) (k : Int × Int → Option Ω) : Option Ω :=
  bif (decide (((x0).size : Int) > 0)) then
    bif (idxOK 0 (x0).size) then
      bif ((bAt x0 0) == 45) then
        bif (subC (some (1)) none (x0).size) then
          (ref01_Plain.u ((subS (some (1)) none x0))).bind fun y1 =>
          bif (!y1.2) then
            k (0, 3)
          else
            bif ((bAt x0 0) == 45) then
              bif (((subS (some (1)) none x0)).data.toList == ((bs [48])).data.toList) then
                k (0, 3)
              else
                bif (decide ((((subS (some (1)) none x0)).size : Int) > 10)) then
                  k (0, 8)
                else
                  lp0 ((subS (some (1)) none x0)) (((bAt x0 0) == 45)) (0, 0)
            else
              bif (decide ((((subS (some (1)) none x0)).size : Int) > 10)) then
                k (0, 8)
              else
                lp0 ((subS (some (1)) none x0)) (((bAt x0 0) == 45)) (0, 0)
        else
          none
      else
        (ref01_Plain.u x0).bind fun y4 =>
        bif (!y4.2) then
          k (0, 3)
        else
          bif ((bAt x0 0) == 45) then
            bif ((x0).data.toList == ((bs [48])).data.toList) then
              k (0, 3)
            else
              bif (decide (((x0).size : Int) > 10)) then
                k (0, 8)
              else
                lp0 x0 (((bAt x0 0) == 45)) (0, 0)
          else
            bif (decide (((x0).size : Int) > 10)) then
              k (0, 8)
            else
              lp0 x0 (((bAt x0 0) == 45)) (0, 0)
    else
      none
  else
    (ref01_Plain.u x0).bind fun y7 =>
    bif (!y7.2) then
      k (0, 3)
    else
      bif (decide (((x0).size : Int) > 10)) then
        k (0, 8)
      else
        lp1 x0 (0, 0)
def ref08_Parse.s {Ω : Type} (fuel : Nat) (x0 : ByteArray) (k : Int × Int → Option Ω) : Option Ω := ref08_Parse.sl x0 (fun e11_1 e11_2 => (iter (ref08_Parse.B0 fuel e11_1 e11_2  k) fuel)) (fun e11_1 => (iter (ref08_Parse.B1 fuel e11_1  k) fuel)) k
theorem ref08_Parse.ev {Ω : Type} (fuel : Nat) (x0 : ByteArray) (k : AV → Option Ω) : evFn C ref08_Parse.sp (ref08_Parse.F fuel) Tryd.f94 (Tryd.f94.body.getD .skip) [(.v .str (x0))] k = ref08_Parse.s fuel x0 (fun r => k (tupAV (.int .i64) [(.int .i64)] r)) := by
  have h0 : evFn C ref08_Parse.sp (ref08_Parse.F fuel) Tryd.f94 (Tryd.f94.body.getD .skip) [(.v .str (x0))] k = ref08_Parse.sl x0 (fun e11_1 e11_2 => (ref08_Parse.M0 fuel e11_1 e11_2  k fuel)) (fun e11_1 => (ref08_Parse.M1 fuel e11_1  k fuel)) (fun r => k (tupAV (.int .i64) [(.int .i64)] r)) := by kernel_rfl
  have h1 : (fun e11_1 e11_2 => (ref08_Parse.M0 fuel e11_1 e11_2  k fuel)) = (fun e11_1 e11_2 => (iter (ref08_Parse.B0 fuel e11_1 e11_2  (fun r => k (tupAV (.int .i64) [(.int .i64)] r))) fuel)) := funext fun e11_1 => funext fun e11_2 => ref08_Parse.l0 fuel e11_1 e11_2   k fuel
  have h2 : (fun e11_1 => (ref08_Parse.M1 fuel e11_1  k fuel)) = (fun e11_1 => (iter (ref08_Parse.B1 fuel e11_1  (fun r => k (tupAV (.int .i64) [(.int .i64)] r))) fuel)) := funext fun e11_1 => ref08_Parse.l1 fuel e11_1   k fuel
  rw [h1, h2] at h0
  exact h0
def ref08_Parse.g0 {Ω : Type} (e11_1 : ByteArray) (e11_2 : Bool)  (k : Int × Int → Option Ω) : Nat → Int → Int → Option Ω
  | 0, a11_0, i11 =>
    bif e11_2 then
      bif (!(ref08_Fine.t ((IntKind.wrap .i64 (0 - a11_0))))) then
        k (0, 8)
      else
        k ((IntKind.wrap .i64 (0 - a11_0)), 0)
    else
      bif (!(ref08_Fine.t a11_0)) then
        k (0, 8)
      else
        k (a11_0, 0)
  | d11 + 1, a11_0, i11 =>
    bif (idxOK i11 (e11_1).size) then
      let v2 : Int := (IntKind.wrap .i64 ((IntKind.wrap .i64 (10 * a11_0)) + (IntKind.wrap .i64 (IntKind.wrap .u8 ((bAt e11_1 (Int.toNat i11)) - 48)))))
      ref08_Parse.g0 e11_1 e11_2  k d11 v2 (i11 + 1)
    else
      none
theorem ref08_Parse.h0 {Ω : Type} (e11_1 : ByteArray) (e11_2 : Bool)   (k : Int × Int → Option Ω) (hN : (((e11_1).size : Int) : Int) ≤ 9223372036854775807) : ∀ (m : Nat) (i : Int) (a : Int), -9223372036854775808 ≤ i → Int.toNat ((((e11_1).size : Int) : Int) - i) < m → Le (ref08_Parse.g0 e11_1 e11_2  k (Int.toNat ((((e11_1).size : Int) : Int) - i)) a i) (iter (ref08_Parse.B0 BIG e11_1 e11_2  k) m (a, i)) :=
  iter_count (((e11_1).size : Int) : Int) (fun i11 => (decide (i11 < ((e11_1).size : Int)))) (fun i => rfl) (fun (i11 : Int) (a11 : Int) => (a11, i11)) (fun xs i11 a11 => ref08_Parse.g0 e11_1 e11_2  k xs a11 i11) (ref08_Parse.B0 BIG e11_1 e11_2  k)
    (fun i11 a11 r h0 => (Le.fls h0 (Le.cond (Le.cond (Le.refl _) (Le.refl _)) (Le.cond (Le.refl _) (Le.refl _)))))
    (fun i11 d11 a11 r h0 hw ih => (Le.tru h0 (Le.cond (let v2 : Int := (IntKind.wrap .i64 ((IntKind.wrap .i64 (10 * a11)) + (IntKind.wrap .i64 (IntKind.wrap .u8 ((bAt e11_1 (Int.toNat i11)) - 48))))); (ih _ hw (v2))) Le.nil)))
    hN
def ref08_Parse.g1 {Ω : Type} (e11_1 : ByteArray)  (k : Int × Int → Option Ω) : Nat → Int → Int → Option Ω
  | 0, a11_0, i11 =>
    bif (!(ref08_Fine.t a11_0)) then
      k (0, 8)
    else
      k (a11_0, 0)
  | d11 + 1, a11_0, i11 =>
    bif (idxOK i11 (e11_1).size) then
      let v8 : Int := (IntKind.wrap .i64 ((IntKind.wrap .i64 (10 * a11_0)) + (IntKind.wrap .i64 (IntKind.wrap .u8 ((bAt e11_1 (Int.toNat i11)) - 48)))))
      ref08_Parse.g1 e11_1  k d11 v8 (i11 + 1)
    else
      none
theorem ref08_Parse.h1 {Ω : Type} (e11_1 : ByteArray)   (k : Int × Int → Option Ω) (hN : (((e11_1).size : Int) : Int) ≤ 9223372036854775807) : ∀ (m : Nat) (i : Int) (a : Int), -9223372036854775808 ≤ i → Int.toNat ((((e11_1).size : Int) : Int) - i) < m → Le (ref08_Parse.g1 e11_1  k (Int.toNat ((((e11_1).size : Int) : Int) - i)) a i) (iter (ref08_Parse.B1 BIG e11_1  k) m (a, i)) :=
  iter_count (((e11_1).size : Int) : Int) (fun i11 => (decide (i11 < ((e11_1).size : Int)))) (fun i => rfl) (fun (i11 : Int) (a11 : Int) => (a11, i11)) (fun xs i11 a11 => ref08_Parse.g1 e11_1  k xs a11 i11) (ref08_Parse.B1 BIG e11_1  k)
    (fun i11 a11 r h0 => (Le.fls h0 (Le.cond (Le.refl _) (Le.refl _))))
    (fun i11 d11 a11 r h0 hw ih => (Le.tru h0 (Le.cond (let v8 : Int := (IntKind.wrap .i64 ((IntKind.wrap .i64 (10 * a11)) + (IntKind.wrap .i64 (IntKind.wrap .u8 ((bAt e11_1 (Int.toNat i11)) - 48))))); (ih _ hw (v8))) Le.nil)))
    hN
def ref08_Parse.w {Ω : Type} (x0 : ByteArray) (k : Int × Int → Option Ω) : Option Ω :=
  bif (decide (((x0).size : Int) > 0)) then
    bif (idxOK 0 (x0).size) then
      bif ((bAt x0 0) == 45) then
        bif (subC (some (1)) none (x0).size) then
          (ref01_Plain.u ((subS (some (1)) none x0))).bind fun y1 =>
          bif (!y1.2) then
            k (0, 3)
          else
            bif ((bAt x0 0) == 45) then
              bif (((subS (some (1)) none x0)).data.toList == ((bs [48])).data.toList) then
                k (0, 3)
              else
                bif (decide ((((subS (some (1)) none x0)).size : Int) > 10)) then
                  k (0, 8)
                else
                  bif (decide (((((subS (some (1)) none x0))).size : Int) ≤ 4611686018427387904)) then ref08_Parse.g0 ((subS (some (1)) none x0)) (((bAt x0 0) == 45))  k ((Int.toNat (((((subS (some (1)) none x0))).size : Int) - 0))) 0 0 else none
            else
              bif (decide ((((subS (some (1)) none x0)).size : Int) > 10)) then
                k (0, 8)
              else
                bif (decide (((((subS (some (1)) none x0))).size : Int) ≤ 4611686018427387904)) then ref08_Parse.g0 ((subS (some (1)) none x0)) (((bAt x0 0) == 45))  k ((Int.toNat (((((subS (some (1)) none x0))).size : Int) - 0))) 0 0 else none
        else
          none
      else
        (ref01_Plain.u x0).bind fun y4 =>
        bif (!y4.2) then
          k (0, 3)
        else
          bif ((bAt x0 0) == 45) then
            bif ((x0).data.toList == ((bs [48])).data.toList) then
              k (0, 3)
            else
              bif (decide (((x0).size : Int) > 10)) then
                k (0, 8)
              else
                bif (decide (((x0).size : Int) ≤ 4611686018427387904)) then ref08_Parse.g0 x0 (((bAt x0 0) == 45))  k ((Int.toNat (((x0).size : Int) - 0))) 0 0 else none
          else
            bif (decide (((x0).size : Int) > 10)) then
              k (0, 8)
            else
              bif (decide (((x0).size : Int) ≤ 4611686018427387904)) then ref08_Parse.g0 x0 (((bAt x0 0) == 45))  k ((Int.toNat (((x0).size : Int) - 0))) 0 0 else none
    else
      none
  else
    (ref01_Plain.u x0).bind fun y7 =>
    bif (!y7.2) then
      k (0, 3)
    else
      bif (decide (((x0).size : Int) > 10)) then
        k (0, 8)
      else
        bif (decide (((x0).size : Int) ≤ 4611686018427387904)) then ref08_Parse.g1 x0  k ((Int.toNat (((x0).size : Int) - 0))) 0 0 else none
theorem ref08_Parse.le {Ω : Type} (x0 : ByteArray) (k : Int × Int → Option Ω) : Le (ref08_Parse.w x0 k) (ref08_Parse.s BIG x0 k) := by
  delta ref08_Parse.w ref08_Parse.s ref08_Parse.sl
  exact (Le.cond (Le.cond (Le.cond (Le.cond (Le.bnd fun y1 => (Le.cond (Le.refl _) (Le.cond (Le.cond (Le.refl _) (Le.cond (Le.refl _) (Le.gd fun hg => ref08_Parse.h0 _ _   k (cnt_up hg) BIG 0 (0) (by decide) (cnt_big hg (by decide))))) (Le.cond (Le.refl _) (Le.gd fun hg => ref08_Parse.h0 _ _   k (cnt_up hg) BIG 0 (0) (by decide) (cnt_big hg (by decide))))))) Le.nil) (Le.bnd fun y4 => (Le.cond (Le.refl _) (Le.cond (Le.cond (Le.refl _) (Le.cond (Le.refl _) (Le.gd fun hg => ref08_Parse.h0 _ _   k (cnt_up hg) BIG 0 (0) (by decide) (cnt_big hg (by decide))))) (Le.cond (Le.refl _) (Le.gd fun hg => ref08_Parse.h0 _ _   k (cnt_up hg) BIG 0 (0) (by decide) (cnt_big hg (by decide)))))))) Le.nil) (Le.bnd fun y7 => (Le.cond (Le.refl _) (Le.cond (Le.refl _) (Le.gd fun hg => ref08_Parse.h1 _   k (cnt_up hg) BIG 0 (0) (by decide) (cnt_big hg (by decide)))))))
def ref08_Parse.u (x0 : ByteArray) : Option (Int × Int) := ref08_Parse.w x0 some
theorem ref08_Parse.c (x0 : ByteArray) (r : Int × Int) (h : ref08_Parse.u x0 = some r) : Contract C 94 [(.v .str (x0))] (tupAV (.int .i64) [(.int .i64)] r) :=
  contract_s (S := fun k => ref08_Parse.s BIG x0 k) C_ok (orS_ok ref01_Plain.e_ok (orS_ok ref08_Fine.e_ok noS_ok)) (by kernel_rfl) (by kernel_rfl) (by kernel_rfl) (ref08_Parse.ev BIG x0 (dec (.int .i64) [(.int .i64)])) (ref08_Parse.le x0 some r h)
noncomputable def ref08_Parse.e : Ent := argI .str fun x0 => endU (ref08_Parse.u x0) (tupAV (.int .i64) [(.int .i64)])
theorem ref08_Parse.e_ok : EntOK C 94 (fun {_} => ref08_Parse.e) := entA_ok (argI_ok fun x0 => endU_ok fun r h => ref08_Parse.c x0 r h)

/-- internal stringslite.HasPrefix -/
noncomputable def internal_stringslite_HasPrefix.sp : Spec := noS
def internal_stringslite_HasPrefix.s {Ω : Type} (x0 : ByteArray) (x1 : ByteArray) (k : Bool → Option Ω) : Option Ω :=
  bif (decide (((x0).size : Int) ≥ ((x1).size : Int))) then
    bif (subC none (some (((x1).size : Int))) (x0).size) then
      k (((subS none (some (((x1).size : Int))) x0)).data.toList == (x1).data.toList)
    else
      none
  else
    k false
theorem internal_stringslite_HasPrefix.ev {Ω : Type} (fuel : Fuel) (x0 : ByteArray) (x1 : ByteArray) (k : AV → Option Ω) : evFn C internal_stringslite_HasPrefix.sp fuel Tryd.f135 (Tryd.f135.body.getD .skip) [(.v .str (x0)), (.v .str (x1))] k = internal_stringslite_HasPrefix.s x0 x1 (fun r => k (tupAV .bool [] r)) := by kernel_rfl
def internal_stringslite_HasPrefix.u (x0 : ByteArray) (x1 : ByteArray) : Option (Bool) := internal_stringslite_HasPrefix.s x0 x1 some
theorem internal_stringslite_HasPrefix.c (x0 : ByteArray) (x1 : ByteArray) (r : Bool) (h : internal_stringslite_HasPrefix.u x0 x1 = some r) : Contract C 135 [(.v .str (x0)), (.v .str (x1))] (tupAV .bool [] r) :=
  contract_s (S := fun k => internal_stringslite_HasPrefix.s x0 x1 k) C_ok noS_ok (by kernel_rfl) (by kernel_rfl) (by kernel_rfl) (internal_stringslite_HasPrefix.ev ⟨1, fun _ => []⟩ x0 x1 (dec .bool [])) h
noncomputable def internal_stringslite_HasPrefix.e : Ent := argI .str fun x0 => argI .str fun x1 => endU (internal_stringslite_HasPrefix.u x0 x1) (tupAV .bool [])
theorem internal_stringslite_HasPrefix.e_ok : EntOK C 135 (fun {_} => internal_stringslite_HasPrefix.e) := entA_ok (argI_ok fun x0 => argI_ok fun x1 => endU_ok fun r h => internal_stringslite_HasPrefix.c x0 x1 r h)

/-- internal stringslite.CutPrefix -/
noncomputable def internal_stringslite_CutPrefix.sp : Spec := (orS 135 (fun {_} => internal_stringslite_HasPrefix.e) noS)
def internal_stringslite_CutPrefix.s {Ω : Type} (x0 : ByteArray) (x1 : ByteArray) (k : ByteArray × Bool → Option Ω) : Option Ω :=
  (internal_stringslite_HasPrefix.u x0 x1).bind fun y1 =>
  bif (!y1) then
    k (x0, false)
  else
    bif (subC (some (((x1).size : Int))) none (x0).size) then
      k ((subS (some (((x1).size : Int))) none x0), true)
    else
      none
theorem internal_stringslite_CutPrefix.ev {Ω : Type} (fuel : Fuel) (x0 : ByteArray) (x1 : ByteArray) (k : AV → Option Ω) : evFn C internal_stringslite_CutPrefix.sp fuel Tryd.f134 (Tryd.f134.body.getD .skip) [(.v .str (x0)), (.v .str (x1))] k = internal_stringslite_CutPrefix.s x0 x1 (fun r => k (tupAV .str [.bool] r)) := by kernel_rfl
def internal_stringslite_CutPrefix.u (x0 : ByteArray) (x1 : ByteArray) : Option (ByteArray × Bool) := internal_stringslite_CutPrefix.s x0 x1 some
theorem internal_stringslite_CutPrefix.c (x0 : ByteArray) (x1 : ByteArray) (r : ByteArray × Bool) (h : internal_stringslite_CutPrefix.u x0 x1 = some r) : Contract C 134 [(.v .str (x0)), (.v .str (x1))] (tupAV .str [.bool] r) :=
  contract_s (S := fun k => internal_stringslite_CutPrefix.s x0 x1 k) C_ok (orS_ok internal_stringslite_HasPrefix.e_ok noS_ok) (by kernel_rfl) (by kernel_rfl) (by kernel_rfl) (internal_stringslite_CutPrefix.ev ⟨1, fun _ => []⟩ x0 x1 (dec .str [.bool])) h
noncomputable def internal_stringslite_CutPrefix.e : Ent := argI .str fun x0 => argI .str fun x1 => endU (internal_stringslite_CutPrefix.u x0 x1) (tupAV .str [.bool])
theorem internal_stringslite_CutPrefix.e_ok : EntOK C 134 (fun {_} => internal_stringslite_CutPrefix.e) := entA_ok (argI_ok fun x0 => argI_ok fun x1 => endU_ok fun r h => internal_stringslite_CutPrefix.c x0 x1 r h)

/-- strings.CutPrefix -/
noncomputable def strings_CutPrefix.sp : Spec := (orS 134 (fun {_} => internal_stringslite_CutPrefix.e) noS)
def strings_CutPrefix.s {Ω : Type} (x0 : ByteArray) (x1 : ByteArray) (k : ByteArray × Bool → Option Ω) : Option Ω :=
  (internal_stringslite_CutPrefix.u x0 x1).bind fun y1 =>
  k (y1.1, y1.2)
theorem strings_CutPrefix.ev {Ω : Type} (fuel : Fuel) (x0 : ByteArray) (x1 : ByteArray) (k : AV → Option Ω) : evFn C strings_CutPrefix.sp fuel Tryd.f110 (Tryd.f110.body.getD .skip) [(.v .str (x0)), (.v .str (x1))] k = strings_CutPrefix.s x0 x1 (fun r => k (tupAV .str [.bool] r)) := by kernel_rfl
def strings_CutPrefix.u (x0 : ByteArray) (x1 : ByteArray) : Option (ByteArray × Bool) := strings_CutPrefix.s x0 x1 some
theorem strings_CutPrefix.c (x0 : ByteArray) (x1 : ByteArray) (r : ByteArray × Bool) (h : strings_CutPrefix.u x0 x1 = some r) : Contract C 110 [(.v .str (x0)), (.v .str (x1))] (tupAV .str [.bool] r) :=
  contract_s (S := fun k => strings_CutPrefix.s x0 x1 k) C_ok (orS_ok internal_stringslite_CutPrefix.e_ok noS_ok) (by kernel_rfl) (by kernel_rfl) (by kernel_rfl) (strings_CutPrefix.ev ⟨1, fun _ => []⟩ x0 x1 (dec .str [.bool])) h
noncomputable def strings_CutPrefix.e : Ent := argI .str fun x0 => argI .str fun x1 => endU (strings_CutPrefix.u x0 x1) (tupAV .str [.bool])
theorem strings_CutPrefix.e_ok : EntOK C 110 (fun {_} => strings_CutPrefix.e) := entA_ok (argI_ok fun x0 => argI_ok fun x1 => endU_ok fun r h => strings_CutPrefix.c x0 x1 r h)

/-- becket word.whole -/
noncomputable def word_whole.sp : Spec := noS
def word_whole.F (fuel : Nat) : Fuel := ⟨fuel, fun r => bif r == 2 then [1, 2, 3, 4, 5, 9, 10, 11, 12, 13, 14, 15, 16, 17, 18, 19, 20, 21, 22, 23, 24, 25, 26, 27, 28, 29] else []⟩
def word_whole.E0 (e2_1 : ByteArray) (e2_2 : (List Int)) (e2_3 : Int) (s2 : Int) : List AV := [(.v .str (e2_1)), .dead, .dead, .dead, .dead, .dead, (.v (.slice (.int .u8)) (e2_2)), (.v (.int .i64) (e2_3)), (.v (.int .i64) (s2)), .dead, .dead, .dead, .dead, .dead, .dead, .dead, .dead, .dead, .dead, .dead, .dead, .dead, .dead, .dead, .dead, .dead, .dead, .dead, .dead, .dead]
def word_whole.H0 (e2_1 : ByteArray) (e2_2 : (List Int)) (e2_3 : Int) (s2 : Int) : Heap := []
noncomputable def word_whole.M0 {Ω : Type} (fuel : Nat) (e2_1 : ByteArray) (e2_2 : (List Int)) (e2_3 : Int)  (k : AV → Option Ω) (m : Nat) (s : Int) : Option Ω := loopK (fun env L k => evCode C word_whole.sp (word_whole.F fuel) (cl (cl (cr (cl (cr (Tryd.f132.body.getD .skip)))))) env L k) [false, true, true, true, true, true, false, false, false, true, true, true, true, true, true, true, true, true, true, true, true, true, true, true, true, true, true, true, true, true] 0 (blockK 0 (seqK (fun env L => evCode C word_whole.sp (word_whole.F fuel) (cr (cr (Tryd.f132.body.getD .skip))) env L (finK C Tryd.f132 k)) (finK C Tryd.f132 k))) m ((word_whole.E0 e2_1 e2_2 e2_3) s) ((word_whole.H0 e2_1 e2_2 e2_3) s)
def word_whole.b0 {Ω : Type} (e2_1 : ByteArray) (e2_2 : (List Int)) (e2_3 : Int)   (k : Bool → Option Ω) (r2 : Int → Option Ω) (s2 : Int) : Option Ω :=
  bif (decide (s2 < e2_3)) then
    bif (idxOK s2 (List.length e2_2)) then
      bif (decide ((List.getD e2_2 (Int.toNat s2) 0) < 48)) then
        k false
      else
        bif (decide ((List.getD e2_2 (Int.toNat s2) 0) > 57)) then
          k false
        else
          r2 ((IntKind.wrap .i64 (s2 + 1)))
    else
      none
  else
    bif ((e2_1).data.toList == ((bs [48])).data.toList) then
      k true
    else
      bif (!((e2_1).data.toList == ((bs [])).data.toList)) then
        bif (idxOK 0 (e2_1).size) then
          k ((bAt e2_1 0) != 48)
        else
          none
      else
        k false
def word_whole.B0 {Ω : Type} (fuel : Nat) (e2_1 : ByteArray) (e2_2 : (List Int)) (e2_3 : Int)  (k : Bool → Option Ω) (r2 : Int → Option Ω) (s2 : Int) : Option Ω := word_whole.b0 e2_1 e2_2 e2_3   k r2 s2
theorem word_whole.l0 {Ω : Type} (fuel : Nat) (e2_1 : ByteArray) (e2_2 : (List Int)) (e2_3 : Int)  (k : AV → Option Ω) : ∀ m, (word_whole.M0 fuel e2_1 e2_2 e2_3  k m) = iter (word_whole.B0 fuel e2_1 e2_2 e2_3  (fun r => k (tupAV .bool [] r))) m :=
  loopK_iter (envOf := (word_whole.E0 e2_1 e2_2 e2_3)) (LOf := (word_whole.H0 e2_1 e2_2 e2_3)) (B := word_whole.B0 fuel e2_1 e2_2 e2_3  (fun r => k (tupAV .bool [] r))) (fun R s => by kernel_rfl)
def word_whole.sl {Ω : Type} (x0 : ByteArray) (lp0 : ByteArray → (List Int) → Int → Int → Option Ω) (k : Bool → Option Ω) : Option Ω :=
  lp0 x0 (bytesI x0) (((List.length (bytesI x0) : Nat) : Int)) (0)
def word_whole.s {Ω : Type} (fuel : Nat) (x0 : ByteArray) (k : Bool → Option Ω) : Option Ω := word_whole.sl x0 (fun e2_1 e2_2 e2_3 => (iter (word_whole.B0 fuel e2_1 e2_2 e2_3  k) fuel)) k
theorem word_whole.ev {Ω : Type} (fuel : Nat) (x0 : ByteArray) (k : AV → Option Ω) : evFn C word_whole.sp (word_whole.F fuel) Tryd.f132 (Tryd.f132.body.getD .skip) [(.v .str (x0))] k = word_whole.s fuel x0 (fun r => k (tupAV .bool [] r)) := by
  have h0 : evFn C word_whole.sp (word_whole.F fuel) Tryd.f132 (Tryd.f132.body.getD .skip) [(.v .str (x0))] k = word_whole.sl x0 (fun e2_1 e2_2 e2_3 => (word_whole.M0 fuel e2_1 e2_2 e2_3  k fuel)) (fun r => k (tupAV .bool [] r)) := by kernel_rfl
  have h1 : (fun e2_1 e2_2 e2_3 => (word_whole.M0 fuel e2_1 e2_2 e2_3  k fuel)) = (fun e2_1 e2_2 e2_3 => (iter (word_whole.B0 fuel e2_1 e2_2 e2_3  (fun r => k (tupAV .bool [] r))) fuel)) := funext fun e2_1 => funext fun e2_2 => funext fun e2_3 => word_whole.l0 fuel e2_1 e2_2 e2_3   k fuel
  rw [h1] at h0
  exact h0
def word_whole.g0 {Ω : Type} (e2_1 : ByteArray) (e2_2 : (List Int))  (k : Bool → Option Ω) : List Int → Option Ω
  | [] =>
    bif ((e2_1).data.toList == ((bs [48])).data.toList) then
      k true
    else
      bif (!((e2_1).data.toList == ((bs [])).data.toList)) then
        bif (idxOK 0 (e2_1).size) then
          k ((bAt e2_1 0) != 48)
        else
          none
      else
        k false
  | x2 :: xs2 =>
    bif (decide (x2 < 48)) then
      k false
    else
      bif (decide (x2 > 57)) then
        k false
      else
        word_whole.g0 e2_1 e2_2  k xs2
theorem word_whole.h0 {Ω : Type} (e2_1 : ByteArray) (e2_2 : (List Int))   (k : Bool → Option Ω) (hX : ((List.length e2_2 : Nat) : Int) ≤ 9223372036854775807) : ∀ (m : Nat) (i : Int) (a : Unit), 0 ≤ i → i ≤ ((List.length e2_2 : Nat) : Int) → ((List.length e2_2 : Nat) : Int) < m + i → Le (word_whole.g0 e2_1 e2_2  k (List.drop (Int.toNat i) e2_2) ) (iter (word_whole.B0 BIG e2_1 e2_2 (((List.length e2_2 : Nat) : Int))  k) m (i)) :=
  iter_list e2_2 0 (fun (i2 : Int) (a2 : Unit) => (i2)) (fun xs i2 a2 => word_whole.g0 e2_1 e2_2  k xs ) (word_whole.B0 BIG e2_1 e2_2 (((List.length e2_2 : Nat) : Int))  k)
    (fun i2 a2 r h0 => (Le.fls h0 (Le.cond (Le.refl _) (Le.cond (Le.cond (Le.refl _) Le.nil) (Le.refl _)))))
    (fun i2 xs2 a2 r h0 h1 hw ih => (Le.tru h0 (Le.tru h1 (Le.cond (Le.refl _) (Le.cond (Le.refl _) (ih _ hw ()))))))
    hX
def word_whole.w {Ω : Type} (x0 : ByteArray) (k : Bool → Option Ω) : Option Ω :=
  bif decide (((List.length (bytesI x0) : Nat) : Int) ≤ 4611686018427387904) then word_whole.g0 x0 (bytesI x0)  k (bytesI x0)  else none
theorem word_whole.le {Ω : Type} (x0 : ByteArray) (k : Bool → Option Ω) : Le (word_whole.w x0 k) (word_whole.s BIG x0 k) := by
  delta word_whole.w word_whole.s word_whole.sl
  exact (Le.gd fun hg => word_whole.h0 _ _   k (le_up (of_decide_eq_true hg)) BIG 0 () (by decide) (zero_le_len _) (big_list (of_decide_eq_true hg)))
def word_whole.u (x0 : ByteArray) : Option (Bool) := word_whole.w x0 some
theorem word_whole.c (x0 : ByteArray) (r : Bool) (h : word_whole.u x0 = some r) : Contract C 132 [(.v .str (x0))] (tupAV .bool [] r) :=
  contract_s (S := fun k => word_whole.s BIG x0 k) C_ok noS_ok (by kernel_rfl) (by kernel_rfl) (by kernel_rfl) (word_whole.ev BIG x0 (dec .bool [])) (word_whole.le x0 some r h)
noncomputable def word_whole.e : Ent := argI .str fun x0 => endU (word_whole.u x0) (tupAV .bool [])
theorem word_whole.e_ok : EntOK C 132 (fun {_} => word_whole.e) := entA_ok (argI_ok fun x0 => endU_ok fun r h => word_whole.c x0 r h)

/-- becket word.Parse -/
noncomputable def word_Parse.sp : Spec := (orS 133 (fun {_} => strconv_Atoi.e) (orS 132 (fun {_} => word_whole.e) (orS 110 (fun {_} => strings_CutPrefix.e) (orS 103 (fun {_} => word_Fine.e) noS))))
def word_Parse.s {Ω : Type} (x0 : ByteArray) (k : Int × Int → Option Ω) : Option Ω :=
  (strings_CutPrefix.u x0 (bs [45])).bind fun y1 =>
  (word_whole.u y1.1).bind fun y2 =>
  bif (!y2) then
    k (0, 3)
  else
    bif y1.2 then
      bif ((y1.1).data.toList == ((bs [48])).data.toList) then
        k (0, 3)
      else
        bif (decide (((y1.1).size : Int) ≤ 10)) then
          (strconv_Atoi.u y1.1).bind fun y3 =>
          bif y1.2 then
            bif (!(word_Fine.t ((IntKind.wrap .i64 (0 - y3.1))))) then
              k (0, 8)
            else
              k ((IntKind.wrap .i64 (0 - y3.1)), 0)
          else
            bif (!(word_Fine.t y3.1)) then
              k (0, 8)
            else
              k (y3.1, 0)
        else
          bif y1.2 then
            bif (!(word_Fine.t (-2147483649))) then
              k (0, 8)
            else
              k ((-2147483649), 0)
          else
            bif (!(word_Fine.t 2147483649)) then
              k (0, 8)
            else
              k (2147483649, 0)
    else
      bif (decide (((y1.1).size : Int) ≤ 10)) then
        (strconv_Atoi.u y1.1).bind fun y4 =>
        bif y1.2 then
          bif (!(word_Fine.t ((IntKind.wrap .i64 (0 - y4.1))))) then
            k (0, 8)
          else
            k ((IntKind.wrap .i64 (0 - y4.1)), 0)
        else
          bif (!(word_Fine.t y4.1)) then
            k (0, 8)
          else
            k (y4.1, 0)
      else
        bif y1.2 then
          bif (!(word_Fine.t (-2147483649))) then
            k (0, 8)
          else
            k ((-2147483649), 0)
        else
          bif (!(word_Fine.t 2147483649)) then
            k (0, 8)
          else
            k (2147483649, 0)
theorem word_Parse.ev {Ω : Type} (fuel : Fuel) (x0 : ByteArray) (k : AV → Option Ω) : evFn C word_Parse.sp fuel Tryd.f109 (Tryd.f109.body.getD .skip) [(.v .str (x0))] k = word_Parse.s x0 (fun r => k (tupAV (.int .i64) [(.int .i64)] r)) := by kernel_rfl
def word_Parse.u (x0 : ByteArray) : Option (Int × Int) := word_Parse.s x0 some
theorem word_Parse.c (x0 : ByteArray) (r : Int × Int) (h : word_Parse.u x0 = some r) : Contract C 109 [(.v .str (x0))] (tupAV (.int .i64) [(.int .i64)] r) :=
  contract_s (S := fun k => word_Parse.s x0 k) C_ok (orS_ok strconv_Atoi.e_ok (orS_ok word_whole.e_ok (orS_ok strings_CutPrefix.e_ok (orS_ok word_Fine.e_ok noS_ok)))) (by kernel_rfl) (by kernel_rfl) (by kernel_rfl) (word_Parse.ev ⟨1, fun _ => []⟩ x0 (dec (.int .i64) [(.int .i64)])) h
noncomputable def word_Parse.e : Ent := argI .str fun x0 => endU (word_Parse.u x0) (tupAV (.int .i64) [(.int .i64)])
theorem word_Parse.e_ok : EntOK C 109 (fun {_} => word_Parse.e) := entA_ok (argI_ok fun x0 => endU_ok fun r h => word_Parse.c x0 r h)

end Go.Proofs.YthamolhikhcilaaDoor.K

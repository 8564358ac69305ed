/- What functions of the program come to, plainly. -/
import Derived.Test.YtaednhofihnfkaaDoorZ01
set_option maxRecDepth 100000
set_option linter.unusedVariables false
namespace Go.Proofs.YtaednhofihnfkaaDoor.K
open Go Go.RowKit

/-- becket becketref08.Fine -/
noncomputable def ref08_Fine.sp : Spec := noS
def ref08_Fine.s {Ω : Type} (x0 : Int) (k : Bool → Option Ω) : Option Ω :=
  bif (decide (x0 ≥ (-2147483648))) then
    k (decide (x0 ≤ 2147483647))
  else
    k false
theorem ref08_Fine.ev {Ω : Type} (fuel : Fuel) (x0 : Int) (k : AV → Option Ω) : evFn C ref08_Fine.sp fuel Tryd.f39 (Tryd.f39.body.getD .skip) [(.v (.int .i64) (x0))] k = ref08_Fine.s x0 (fun r => k (tupAV .bool [] r)) := by kernel_rfl
def ref08_Fine.t (x0 : Int) : Bool :=
  bif (decide (x0 ≥ (-2147483648))) then
    (decide (x0 ≤ 2147483647))
  else
    false
theorem ref08_Fine.v {Ω : Type} (x0 : Int) (k : Bool → Option Ω) : ref08_Fine.s x0 k = k (ref08_Fine.t x0) := by
  delta ref08_Fine.s ref08_Fine.t; exact (cond_tot rfl rfl)
theorem ref08_Fine.c (x0 : Int) : Contract C 39 [(.v (.int .i64) (x0))] (tupAV .bool [] (ref08_Fine.t x0)) :=
  contract_s (S := fun k => ref08_Fine.s x0 k) C_ok noS_ok (by kernel_rfl) (by kernel_rfl) (by kernel_rfl) (ref08_Fine.ev ⟨1, fun _ => []⟩ x0 (dec .bool [])) (ref08_Fine.v x0 some)
noncomputable def ref08_Fine.e : Ent := argI (.int .i64) fun x0 => endT (tupAV .bool [] (ref08_Fine.t x0))
theorem ref08_Fine.e_ok : EntOK C 39 (fun {_} => ref08_Fine.e) := entA_ok (argI_ok fun x0 => endT_ok (ref08_Fine.c x0))

/-- becket word.Fine -/
noncomputable def word_Fine.sp : Spec := noS
def word_Fine.s {Ω : Type} (x0 : Int) (k : Bool → Option Ω) : Option Ω :=
  bif (decide (x0 ≥ (-2147483648))) then
    k (decide (x0 ≤ 2147483647))
  else
    k false
theorem word_Fine.ev {Ω : Type} (fuel : Fuel) (x0 : Int) (k : AV → Option Ω) : evFn C word_Fine.sp fuel Tryd.f73 (Tryd.f73.body.getD .skip) [(.v (.int .i64) (x0))] k = word_Fine.s x0 (fun r => k (tupAV .bool [] r)) := by kernel_rfl
def word_Fine.t (x0 : Int) : Bool :=
  bif (decide (x0 ≥ (-2147483648))) then
    (decide (x0 ≤ 2147483647))
  else
    false
theorem word_Fine.v {Ω : Type} (x0 : Int) (k : Bool → Option Ω) : word_Fine.s x0 k = k (word_Fine.t x0) := by
  delta word_Fine.s word_Fine.t; exact (cond_tot rfl rfl)
theorem word_Fine.c (x0 : Int) : Contract C 73 [(.v (.int .i64) (x0))] (tupAV .bool [] (word_Fine.t x0)) :=
  contract_s (S := fun k => word_Fine.s x0 k) C_ok noS_ok (by kernel_rfl) (by kernel_rfl) (by kernel_rfl) (word_Fine.ev ⟨1, fun _ => []⟩ x0 (dec .bool [])) (word_Fine.v x0 some)
noncomputable def word_Fine.e : Ent := argI (.int .i64) fun x0 => endT (tupAV .bool [] (word_Fine.t x0))
theorem word_Fine.e_ok : EntOK C 73 (fun {_} => word_Fine.e) := entA_ok (argI_ok fun x0 => endT_ok (word_Fine.c x0))

/-- becket word.Text -/
noncomputable def word_Text.sp : Spec := (orS 74 (fun {_} => strconv_Itoa.e) (orS 73 (fun {_} => word_Fine.e) noS))
def word_Text.s {Ω : Type} (x0 : Int) (k : ByteArray × Int → Option Ω) : Option Ω :=
  bif (!(word_Fine.t x0)) then
    k ((bs []), 8)
  else
    (strconv_Itoa.u x0).bind fun y1 =>
    k (y1, 0)
theorem word_Text.ev {Ω : Type} (fuel : Fuel) (x0 : Int) (k : AV → Option Ω) : evFn CP word_Text.sp fuel Tryd.f59 (Tryd.f59.body.getD .skip) [(.v (.int .i64) (x0))] k = word_Text.s x0 (fun r => k (tupAV .str [(.int .i64)] r)) := by kernel_rfl
def word_Text.u (x0 : Int) : Option (ByteArray × Int) := word_Text.s x0 some
theorem word_Text.c (x0 : Int) (r : ByteArray × Int) (h : word_Text.u x0 = some r) : Contract CP 59 [(.v (.int .i64) (x0))] (tupAV .str [(.int .i64)] r) :=
  contract_s (S := fun k => word_Text.s x0 k) CP_ok (orS_ok strconv_Itoa.e_ok (orS_ok (word_Fine.e_ok.mono le_C_CP) noS_ok)) (by kernel_rfl) (by kernel_rfl) (by kernel_rfl) (word_Text.ev ⟨1, fun _ => []⟩ x0 (dec .str [(.int .i64)])) h
noncomputable def word_Text.e : Ent := argI (.int .i64) fun x0 => endU (word_Text.u x0) (tupAV .str [(.int .i64)])
theorem word_Text.e_ok : EntOK CP 59 (fun {_} => word_Text.e) := entA_ok (argI_ok fun x0 => endU_ok fun r h => word_Text.c x0 r h)

/-- becket becketref08.Text -/
noncomputable def ref08_Text.sp : Spec := (orS 48 (fun {_} => ref01_Digits.e) (orS 39 (fun {_} => ref08_Fine.e) noS))
def ref08_Text.s {Ω : Type} (x0 : Int) (k : ByteArray × Int → Option Ω) : Option Ω :=
  bif (!(ref08_Fine.t x0)) then
    k ((bs []), 8)
  else
    bif (decide (x0 < 0)) then
      (ref01_Digits.u ((IntKind.wrap .i64 (0 - x0)))).bind fun y1 =>
      bif (decide (((bs [45])).size + (y1).size ≤ catMax)) then
        k (((bs [45]) ++ y1), 0)
      else
        none
    else
      (ref01_Digits.u x0).bind fun y2 =>
      k (y2, 0)
theorem ref08_Text.ev {Ω : Type} (fuel : Fuel) (x0 : Int) (k : AV → Option Ω) : evFn C ref08_Text.sp fuel Tryd.f60 (Tryd.f60.body.getD .skip) [(.v (.int .i64) (x0))] k = ref08_Text.s x0 (fun r => k (tupAV .str [(.int .i64)] r)) := by kernel_rfl
def ref08_Text.u (x0 : Int) : Option (ByteArray × Int) := ref08_Text.s x0 some
theorem ref08_Text.c (x0 : Int) (r : ByteArray × Int) (h : ref08_Text.u x0 = some r) : Contract C 60 [(.v (.int .i64) (x0))] (tupAV .str [(.int .i64)] r) :=
  contract_s (S := fun k => ref08_Text.s x0 k) C_ok (orS_ok ref01_Digits.e_ok (orS_ok ref08_Fine.e_ok noS_ok)) (by kernel_rfl) (by kernel_rfl) (by kernel_rfl) (ref08_Text.ev ⟨1, fun _ => []⟩ x0 (dec .str [(.int .i64)])) h
noncomputable def ref08_Text.e : Ent := argI (.int .i64) fun x0 => endU (ref08_Text.u x0) (tupAV .str [(.int .i64)])
theorem ref08_Text.e_ok : EntOK C 60 (fun {_} => ref08_Text.e) := entA_ok (argI_ok fun x0 => endU_ok fun r h => ref08_Text.c x0 r h)

/-- internal stringslite.HasPrefix -/
noncomputable def internal_stringslite_HasPrefix.sp : Spec := noS
def internal_stringslite_HasPrefix.s {Ω : Type} (x0 : ByteArray) (x1 : ByteArray) (k : Bool → Option Ω) : Option Ω :=
  bif (decide (((x0).size : Int) ≥ ((x1).size : Int))) then
    bif (subC none (some (((x1).size : Int))) (x0).size) then
      k (((subS none (some (((x1).size : Int))) x0)).data.toList == (x1).data.toList)
    else
      none
  else
    k false
theorem internal_stringslite_HasPrefix.ev {Ω : Type} (fuel : Fuel) (x0 : ByteArray) (x1 : ByteArray) (k : AV → Option Ω) : evFn C internal_stringslite_HasPrefix.sp fuel Tryd.f80 (Tryd.f80.body.getD .skip) [(.v .str (x0)), (.v .str (x1))] k = internal_stringslite_HasPrefix.s x0 x1 (fun r => k (tupAV .bool [] r)) := by kernel_rfl
def internal_stringslite_HasPrefix.u (x0 : ByteArray) (x1 : ByteArray) : Option (Bool) := internal_stringslite_HasPrefix.s x0 x1 some
theorem internal_stringslite_HasPrefix.c (x0 : ByteArray) (x1 : ByteArray) (r : Bool) (h : internal_stringslite_HasPrefix.u x0 x1 = some r) : Contract C 80 [(.v .str (x0)), (.v .str (x1))] (tupAV .bool [] r) :=
  contract_s (S := fun k => internal_stringslite_HasPrefix.s x0 x1 k) C_ok noS_ok (by kernel_rfl) (by kernel_rfl) (by kernel_rfl) (internal_stringslite_HasPrefix.ev ⟨1, fun _ => []⟩ x0 x1 (dec .bool [])) h
noncomputable def internal_stringslite_HasPrefix.e : Ent := argI .str fun x0 => argI .str fun x1 => endU (internal_stringslite_HasPrefix.u x0 x1) (tupAV .bool [])
theorem internal_stringslite_HasPrefix.e_ok : EntOK C 80 (fun {_} => internal_stringslite_HasPrefix.e) := by
  refine entA_ok ?_
  refine argI_ok fun x0 => ?_
  refine argI_ok fun x1 => ?_
  refine endU_ok fun r h => ?_
  exact internal_stringslite_HasPrefix.c x0 x1 r h

/-- internal stringslite.CutPrefix -/
noncomputable def internal_stringslite_CutPrefix.sp : Spec := (orS 80 (fun {_} => internal_stringslite_HasPrefix.e) noS)
def internal_stringslite_CutPrefix.s {Ω : Type} (x0 : ByteArray) (x1 : ByteArray) (k : ByteArray × Bool → Option Ω) : Option Ω :=
  (internal_stringslite_HasPrefix.u x0 x1).bind fun y1 =>
  bif (!y1) then
    k (x0, false)
  else
    bif (subC (some (((x1).size : Int))) none (x0).size) then
      k ((subS (some (((x1).size : Int))) none x0), true)
    else
      none
theorem internal_stringslite_CutPrefix.ev {Ω : Type} (fuel : Fuel) (x0 : ByteArray) (x1 : ByteArray) (k : AV → Option Ω) : evFn C internal_stringslite_CutPrefix.sp fuel Tryd.f66 (Tryd.f66.body.getD .skip) [(.v .str (x0)), (.v .str (x1))] k = internal_stringslite_CutPrefix.s x0 x1 (fun r => k (tupAV .str [.bool] r)) := by kernel_rfl
def internal_stringslite_CutPrefix.u (x0 : ByteArray) (x1 : ByteArray) : Option (ByteArray × Bool) := internal_stringslite_CutPrefix.s x0 x1 some
theorem internal_stringslite_CutPrefix.c (x0 : ByteArray) (x1 : ByteArray) (r : ByteArray × Bool) (h : internal_stringslite_CutPrefix.u x0 x1 = some r) : Contract C 66 [(.v .str (x0)), (.v .str (x1))] (tupAV .str [.bool] r) :=
  contract_s (S := fun k => internal_stringslite_CutPrefix.s x0 x1 k) C_ok (orS_ok internal_stringslite_HasPrefix.e_ok noS_ok) (by kernel_rfl) (by kernel_rfl) (by kernel_rfl) (internal_stringslite_CutPrefix.ev ⟨1, fun _ => []⟩ x0 x1 (dec .str [.bool])) h
noncomputable def internal_stringslite_CutPrefix.e : Ent := argI .str fun x0 => argI .str fun x1 => endU (internal_stringslite_CutPrefix.u x0 x1) (tupAV .str [.bool])
theorem internal_stringslite_CutPrefix.e_ok : EntOK C 66 (fun {_} => internal_stringslite_CutPrefix.e) := by
  refine entA_ok ?_
  refine argI_ok fun x0 => ?_
  refine argI_ok fun x1 => ?_
  refine endU_ok fun r h => ?_
  exact internal_stringslite_CutPrefix.c x0 x1 r h

/-- strings.CutPrefix -/
noncomputable def strings_CutPrefix.sp : Spec := (orS 66 (fun {_} => internal_stringslite_CutPrefix.e) noS)
def strings_CutPrefix.s {Ω : Type} (x0 : ByteArray) (x1 : ByteArray) (k : ByteArray × Bool → Option Ω) : Option Ω :=
  (internal_stringslite_CutPrefix.u x0 x1).bind fun y1 =>
  k (y1.1, y1.2)
theorem strings_CutPrefix.ev {Ω : Type} (fuel : Fuel) (x0 : ByteArray) (x1 : ByteArray) (k : AV → Option Ω) : evFn C strings_CutPrefix.sp fuel Tryd.f52 (Tryd.f52.body.getD .skip) [(.v .str (x0)), (.v .str (x1))] k = strings_CutPrefix.s x0 x1 (fun r => k (tupAV .str [.bool] r)) := by kernel_rfl
def strings_CutPrefix.u (x0 : ByteArray) (x1 : ByteArray) : Option (ByteArray × Bool) := strings_CutPrefix.s x0 x1 some
theorem strings_CutPrefix.c (x0 : ByteArray) (x1 : ByteArray) (r : ByteArray × Bool) (h : strings_CutPrefix.u x0 x1 = some r) : Contract C 52 [(.v .str (x0)), (.v .str (x1))] (tupAV .str [.bool] r) :=
  contract_s (S := fun k => strings_CutPrefix.s x0 x1 k) C_ok (orS_ok internal_stringslite_CutPrefix.e_ok noS_ok) (by kernel_rfl) (by kernel_rfl) (by kernel_rfl) (strings_CutPrefix.ev ⟨1, fun _ => []⟩ x0 x1 (dec .str [.bool])) h
noncomputable def strings_CutPrefix.e : Ent := argI .str fun x0 => argI .str fun x1 => endU (strings_CutPrefix.u x0 x1) (tupAV .str [.bool])
theorem strings_CutPrefix.e_ok : EntOK C 52 (fun {_} => strings_CutPrefix.e) := by
  refine entA_ok ?_
  refine argI_ok fun x0 => ?_
  refine argI_ok fun x1 => ?_
  refine endU_ok fun r h => ?_
  exact strings_CutPrefix.c x0 x1 r h

/-- becket word.whole -/
noncomputable def word_whole.sp : Spec := noS
def word_whole.F (fuel : Nat) : Fuel := ⟨fuel, fun r => bif r == 2 then [1, 2, 3, 4, 5, 9, 10, 11, 12, 13, 14, 15, 16, 17, 18, 19, 20, 21, 22, 23, 24, 25, 26, 27, 28, 29] else []⟩
def word_whole.E0 (e2_1 : ByteArray) (e2_2 : (List Int)) (e2_3 : Int) (s2 : Int) : List AV := [(.v .str (e2_1)), .dead, .dead, .dead, .dead, .dead, (.v (.slice (.int .u8)) (e2_2)), (.v (.int .i64) (e2_3)), (.v (.int .i64) (s2)), .dead, .dead, .dead, .dead, .dead, .dead, .dead, .dead, .dead, .dead, .dead, .dead, .dead, .dead, .dead, .dead, .dead, .dead, .dead, .dead, .dead]
def word_whole.H0 (e2_1 : ByteArray) (e2_2 : (List Int)) (e2_3 : Int) (s2 : Int) : Heap := []
noncomputable def word_whole.M0 {Ω : Type} (fuel : Nat) (e2_1 : ByteArray) (e2_2 : (List Int)) (e2_3 : Int)  (k : AV → Option Ω) (m : Nat) (s : Int) : Option Ω := loopK (fun env L k => evCode C word_whole.sp (word_whole.F fuel) (cl (cl (cr (cl (cr (Tryd.f81.body.getD .skip)))))) env L k) [false, true, true, true, true, true, false, false, false, true, true, true, true, true, true, true, true, true, true, true, true, true, true, true, true, true, true, true, true, true] [] 0 (blockK 0 (seqK (fun env L => evCode C word_whole.sp (word_whole.F fuel) (cr (cr (Tryd.f81.body.getD .skip))) env L (finK C Tryd.f81 k)) (finK C Tryd.f81 k))) m ((word_whole.E0 e2_1 e2_2 e2_3) s) ((word_whole.H0 e2_1 e2_2 e2_3) s)
def word_whole.b0 {Ω : Type} (e2_1 : ByteArray) (e2_2 : (List Int)) (e2_3 : Int)   (k : Bool → Option Ω) (r2 : Int → Option Ω) (s2 : Int) : Option Ω :=
  bif (decide (s2 < e2_3)) then
    bif (idxOK s2 (List.length e2_2)) then
      bif (decide ((List.getD e2_2 (Int.toNat s2) 0) < 48)) then
        k false
      else
        bif (decide ((List.getD e2_2 (Int.toNat s2) 0) > 57)) then
          k false
        else
          r2 ((IntKind.wrap .i64 (s2 + 1)))
    else
      none
  else
    bif ((e2_1).data.toList == ((bs [48])).data.toList) then
      k true
    else
      bif (!((e2_1).data.toList == ((bs [])).data.toList)) then
        bif (idxOK 0 (e2_1).size) then
          k ((bAt e2_1 0) != 48)
        else
          none
      else
        k false
def word_whole.B0 {Ω : Type} (fuel : Nat) (e2_1 : ByteArray) (e2_2 : (List Int)) (e2_3 : Int)  (k : Bool → Option Ω) (r2 : Int → Option Ω) (s2 : Int) : Option Ω := word_whole.b0 e2_1 e2_2 e2_3   k r2 s2
theorem word_whole.l0 {Ω : Type} (fuel : Nat) (e2_1 : ByteArray) (e2_2 : (List Int)) (e2_3 : Int)  (k : AV → Option Ω) : ∀ m, (word_whole.M0 fuel e2_1 e2_2 e2_3  k m) = iter (word_whole.B0 fuel e2_1 e2_2 e2_3  (fun r => k (tupAV .bool [] r))) m :=
  loopK_iter (envOf := (word_whole.E0 e2_1 e2_2 e2_3)) (LOf := (word_whole.H0 e2_1 e2_2 e2_3)) (B := word_whole.B0 fuel e2_1 e2_2 e2_3  (fun r => k (tupAV .bool [] r))) (fun R s => by kernel_rfl)
def word_whole.sl {Ω : Type} (x0 : ByteArray) (lp0 : ByteArray → (List Int) → Int → Int → Option Ω) (k : Bool → Option Ω) : Option Ω :=
  lp0 x0 (bytesI x0) (((List.length (bytesI x0) : Nat) : Int)) (0)
def word_whole.s {Ω : Type} (fuel : Nat) (x0 : ByteArray) (k : Bool → Option Ω) : Option Ω := word_whole.sl x0 (fun e2_1 e2_2 e2_3 => (iter (word_whole.B0 fuel e2_1 e2_2 e2_3  k) fuel)) k
theorem word_whole.ev {Ω : Type} (fuel : Nat) (x0 : ByteArray) (k : AV → Option Ω) : evFn C word_whole.sp (word_whole.F fuel) Tryd.f81 (Tryd.f81.body.getD .skip) [(.v .str (x0))] k = word_whole.s fuel x0 (fun r => k (tupAV .bool [] r)) := by
  have h0 : evFn C word_whole.sp (word_whole.F fuel) Tryd.f81 (Tryd.f81.body.getD .skip) [(.v .str (x0))] k = word_whole.sl x0 (fun e2_1 e2_2 e2_3 => (word_whole.M0 fuel e2_1 e2_2 e2_3  k fuel)) (fun r => k (tupAV .bool [] r)) := by kernel_rfl
  have h1 : (fun e2_1 e2_2 e2_3 => (word_whole.M0 fuel e2_1 e2_2 e2_3  k fuel)) = (fun e2_1 e2_2 e2_3 => (iter (word_whole.B0 fuel e2_1 e2_2 e2_3  (fun r => k (tupAV .bool [] r))) fuel)) := funext fun e2_1 => funext fun e2_2 => funext fun e2_3 => word_whole.l0 fuel e2_1 e2_2 e2_3   k fuel
  rw [h1] at h0
  exact h0
def word_whole.g0 {Ω : Type} (e2_1 : ByteArray) (e2_2 : (List Int))  (k : Bool → Option Ω) : List Int → Option Ω
  | [] =>
    bif ((e2_1).data.toList == ((bs [48])).data.toList) then
      k true
    else
      bif (!((e2_1).data.toList == ((bs [])).data.toList)) then
        bif (idxOK 0 (e2_1).size) then
          k ((bAt e2_1 0) != 48)
        else
          none
      else
        k false
  | x2 :: xs2 =>
    bif (decide (x2 < 48)) then
      k false
    else
      bif (decide (x2 > 57)) then
        k false
      else
        word_whole.g0 e2_1 e2_2  k xs2
theorem word_whole.h0 {Ω : Type} (e2_1 : ByteArray) (e2_2 : (List Int))   (k : Bool → Option Ω) (hX : ((List.length e2_2 : Nat) : Int) ≤ 9223372036854775807) : ∀ (m : Nat) (i : Int) (a : Unit), 0 ≤ i → i ≤ ((List.length e2_2 : Nat) : Int) → ((List.length e2_2 : Nat) : Int) < m + i → Le (word_whole.g0 e2_1 e2_2  k (List.drop (Int.toNat i) e2_2) ) (iter (word_whole.B0 BIG e2_1 e2_2 (((List.length e2_2 : Nat) : Int))  k) m (i)) :=
  iter_list e2_2 0 (fun (i2 : Int) (a2 : Unit) => (i2)) (fun xs i2 a2 => word_whole.g0 e2_1 e2_2  k xs ) (word_whole.B0 BIG e2_1 e2_2 (((List.length e2_2 : Nat) : Int))  k)
    (fun i2 a2 r h0 => (Le.fls h0 (Le.cond (Le.refl _) (Le.cond (Le.cond (Le.refl _) Le.nil) (Le.refl _)))))
    (fun i2 xs2 a2 r h0 h1 hw ih => (Le.tru h0 (Le.tru h1 (Le.cond (Le.refl _) (Le.cond (Le.refl _) (ih _ hw ()))))))
    hX
def word_whole.w {Ω : Type} (x0 : ByteArray) (k : Bool → Option Ω) : Option Ω :=
  bif decide (((List.length (bytesI x0) : Nat) : Int) ≤ 4611686018427387904) then word_whole.g0 x0 (bytesI x0)  k (bytesI x0)  else none
theorem word_whole.le {Ω : Type} (x0 : ByteArray) (k : Bool → Option Ω) : Le (word_whole.w x0 k) (word_whole.s BIG x0 k) := by
  delta word_whole.w word_whole.s word_whole.sl
  exact (Le.gd fun hg => word_whole.h0 _ _   k (le_up (of_decide_eq_true hg)) BIG 0 () (by decide) (zero_le_len _) (big_list (of_decide_eq_true hg)))
def word_whole.u (x0 : ByteArray) : Option (Bool) := word_whole.w x0 some
theorem word_whole.c (x0 : ByteArray) (r : Bool) (h : word_whole.u x0 = some r) : Contract C 81 [(.v .str (x0))] (tupAV .bool [] r) :=
  contract_s (S := fun k => word_whole.s BIG x0 k) C_ok noS_ok (by kernel_rfl) (by kernel_rfl) (by kernel_rfl) (word_whole.ev BIG x0 (dec .bool [])) (word_whole.le x0 some r h)
noncomputable def word_whole.e : Ent := argI .str fun x0 => endU (word_whole.u x0) (tupAV .bool [])
theorem word_whole.e_ok : EntOK C 81 (fun {_} => word_whole.e) := entA_ok (argI_ok fun x0 => endU_ok fun r h => word_whole.c x0 r h)

/-- becket word.Parse -/
noncomputable def word_Parse.sp : Spec := (orS 82 (fun {_} => strconv_Atoi.e) (orS 81 (fun {_} => word_whole.e) (orS 73 (fun {_} => word_Fine.e) (orS 52 (fun {_} => strings_CutPrefix.e) noS))))
def word_Parse.s {Ω : Type} (x0 : ByteArray) (k : Int × Int → Option Ω) : Option Ω :=
  (strings_CutPrefix.u x0 (bs [45])).bind fun y1 =>
  (word_whole.u y1.1).bind fun y2 =>
  bif (!y2) then
    k (0, 3)
  else
    bif y1.2 then
      bif ((y1.1).data.toList == ((bs [48])).data.toList) then
        k (0, 3)
      else
        bif (decide (((y1.1).size : Int) ≤ 10)) then
          (strconv_Atoi.u y1.1).bind fun y3 =>
          bif y1.2 then
            bif (!(word_Fine.t ((IntKind.wrap .i64 (0 - y3.1))))) then
              k (0, 8)
            else
              k ((IntKind.wrap .i64 (0 - y3.1)), 0)
          else
            bif (!(word_Fine.t y3.1)) then
              k (0, 8)
            else
              k (y3.1, 0)
        else
          bif y1.2 then
            bif (!(word_Fine.t (-2147483649))) then
              k (0, 8)
            else
              k ((-2147483649), 0)
          else
            bif (!(word_Fine.t 2147483649)) then
              k (0, 8)
            else
              k (2147483649, 0)
    else
      bif (decide (((y1.1).size : Int) ≤ 10)) then
        (strconv_Atoi.u y1.1).bind fun y4 =>
        bif y1.2 then
          bif (!(word_Fine.t ((IntKind.wrap .i64 (0 - y4.1))))) then
            k (0, 8)
          else
            k ((IntKind.wrap .i64 (0 - y4.1)), 0)
        else
          bif (!(word_Fine.t y4.1)) then
            k (0, 8)
          else
            k (y4.1, 0)
      else
        bif y1.2 then
          bif (!(word_Fine.t (-2147483649))) then
            k (0, 8)
          else
            k ((-2147483649), 0)
        else
          bif (!(word_Fine.t 2147483649)) then
            k (0, 8)
          else
            k (2147483649, 0)
theorem word_Parse.ev {Ω : Type} (fuel : Fuel) (x0 : ByteArray) (k : AV → Option Ω) : evFn C word_Parse.sp fuel Tryd.f67 (Tryd.f67.body.getD .skip) [(.v .str (x0))] k = word_Parse.s x0 (fun r => k (tupAV (.int .i64) [(.int .i64)] r)) := by kernel_rfl
def word_Parse.u (x0 : ByteArray) : Option (Int × Int) := word_Parse.s x0 some
theorem word_Parse.c (x0 : ByteArray) (r : Int × Int) (h : word_Parse.u x0 = some r) : Contract C 67 [(.v .str (x0))] (tupAV (.int .i64) [(.int .i64)] r) :=
  contract_s (S := fun k => word_Parse.s x0 k) C_ok (orS_ok strconv_Atoi.e_ok (orS_ok word_whole.e_ok (orS_ok word_Fine.e_ok (orS_ok strings_CutPrefix.e_ok noS_ok)))) (by kernel_rfl) (by kernel_rfl) (by kernel_rfl) (word_Parse.ev ⟨1, fun _ => []⟩ x0 (dec (.int .i64) [(.int .i64)])) h
noncomputable def word_Parse.e : Ent := argI .str fun x0 => endU (word_Parse.u x0) (tupAV (.int .i64) [(.int .i64)])
theorem word_Parse.e_ok : EntOK C 67 (fun {_} => word_Parse.e) := entA_ok (argI_ok fun x0 => endU_ok fun r h => word_Parse.c x0 r h)

end Go.Proofs.YtaednhofihnfkaaDoor.K

/- What functions of the program come to, plainly. -/
import Derived.Test.YtmphlhnpichonaaDoorZ08a
set_option maxRecDepth 100000
set_option linter.unusedVariables false
namespace Go.Proofs.YtmphlhnpichonaaDoor.K
open Go Go.RowKit

/-- becket becketlaw08.WordReads -/
noncomputable def law08_WordReads.sp : Spec := (orS 45 (fun {_} => ref08_Parse.e) (orS 44 (fun {_} => word_Parse.e) (orS 43 (fun {_} => law08_alive.e) noS)))
def law08_WordReads.s {Ω : Type} (x0 : ByteArray) (k : Bool → Option Ω) : Option Ω :=
  bif (decide (((x0).size : Int) > 200)) then
    law08_alive.u.bind fun y1 =>
    k y1
  else
    (word_Parse.u x0).bind fun y2 =>
    (ref08_Parse.u x0).bind fun y3 =>
    bif (y2.1 == y3.1) then
      bif (y2.2 == y3.2) then
        law08_alive.u.bind fun y4 =>
        k y4
      else
        k false
    else
      k false
theorem law08_WordReads.ev {Ω : Type} (fuel : Fuel) (x0 : ByteArray) (k : AV → Option Ω) : evFn CP (fun {_} => law08_WordReads.sp) fuel Tryd.f12 (Tryd.f12.body.getD .skip) [(.v .str (x0))] k = law08_WordReads.s x0 (fun r => k (tupAV .bool [] r)) := by kernel_rfl
def law08_WordReads.u (x0 : ByteArray) : Option (Bool) := law08_WordReads.s x0 some
theorem law08_WordReads.c (x0 : ByteArray) (r : Bool) (h : law08_WordReads.u x0 = some r) : Contract CP 12 [(.v .str (x0))] (tupAV .bool [] r) :=
  contract_s (S := fun k => law08_WordReads.s x0 k) CP_ok (orS_ok (ref08_Parse.e_ok.mono le_C_CP) (orS_ok (word_Parse.e_ok.mono le_C_CP) (orS_ok law08_alive.e_ok noS_ok))) (by kernel_rfl) (by kernel_rfl) (by kernel_rfl) (law08_WordReads.ev ⟨1, fun _ => []⟩ x0 (dec .bool [])) h
noncomputable def law08_WordReads.e : Ent := argI .str fun x0 => endU (law08_WordReads.u x0) (tupAV .bool [])
theorem law08_WordReads.e_ok : EntOK CP 12 (fun {_} => law08_WordReads.e) := entA_ok (argI_ok fun x0 => endU_ok fun r h => law08_WordReads.c x0 r h)

/-- becket becketlaw08.WordLaws -/
noncomputable def law08_WordLaws.sp : Spec := (orS 46 (fun {_} => word_Text.e) (orS 44 (fun {_} => word_Parse.e) (orS 43 (fun {_} => law08_alive.e) (orS 41 (fun {_} => word_Do.e) noS))))
def law08_WordLaws.s {Ω : Type} (x0 : Int) (x1 : Int) (k : Bool → Option Ω) : Option Ω :=
  (word_Do.u 1 (IntKind.wrap .i64 x0) (IntKind.wrap .i64 x1)).bind fun y1 =>
  (word_Do.u 1 (IntKind.wrap .i64 x1) (IntKind.wrap .i64 x0)).bind fun y2 =>
  (word_Do.u 2 y1.1 (IntKind.wrap .i64 x1)).bind fun y3 =>
  (word_Do.u 3 (IntKind.wrap .i64 x0) (IntKind.wrap .i64 x1)).bind fun y4 =>
  (word_Do.u 3 (IntKind.wrap .i64 x1) (IntKind.wrap .i64 x0)).bind fun y5 =>
  (word_Text.u (IntKind.wrap .i64 x0)).bind fun y6 =>
  (word_Parse.u y6.1).bind fun y7 =>
  bif (y1.2 != 0) then
    k false
  else
    bif (y2.2 != 0) then
      k false
    else
      bif (y3.2 != 0) then
        k false
      else
        bif (y4.2 != 0) then
          k false
        else
          bif (y5.2 != 0) then
            k false
          else
            bif (y6.2 != 0) then
              k false
            else
              bif (y7.2 != 0) then
                k false
              else
                bif (y1.1 != y2.1) then
                  k false
                else
                  bif (y3.1 != (IntKind.wrap .i64 x0)) then
                    k false
                  else
                    bif (y4.1 != y5.1) then
                      k false
                    else
                      bif (y7.1 != (IntKind.wrap .i64 x0)) then
                        k false
                      else
                        bif ((IntKind.wrap .i64 x1) == 0) then
                          law08_alive.u.bind fun y8 =>
                          k y8
                        else
                          (word_Do.u 4 (IntKind.wrap .i64 x0) (IntKind.wrap .i64 x1)).bind fun y9 =>
                          (word_Do.u 5 (IntKind.wrap .i64 x0) (IntKind.wrap .i64 x1)).bind fun y10 =>
                          (word_Do.u 3 y9.1 (IntKind.wrap .i64 x1)).bind fun y11 =>
                          (word_Do.u 1 y11.1 y10.1).bind fun y12 =>
                          bif (y9.2 == 0) then
                            bif (y10.2 == 0) then
                              bif (y11.2 == 0) then
                                bif (y12.2 == 0) then
                                  bif (y12.1 == (IntKind.wrap .i64 x0)) then
                                    law08_alive.u.bind fun y13 =>
                                    k y13
                                  else
                                    k false
                                else
                                  k false
                              else
                                k false
                            else
                              k false
                          else
                            k false
theorem law08_WordLaws.ev {Ω : Type} (fuel : Fuel) (x0 : Int) (x1 : Int) (k : AV → Option Ω) : evFn CP (fun {_} => law08_WordLaws.sp) fuel Tryd.f13 (Tryd.f13.body.getD .skip) [(.v (.int .i32) (x0)), (.v (.int .i32) (x1))] k = law08_WordLaws.s x0 x1 (fun r => k (tupAV .bool [] r)) := by kernel_rfl
def law08_WordLaws.u (x0 : Int) (x1 : Int) : Option (Bool) := law08_WordLaws.s x0 x1 some
theorem law08_WordLaws.c (x0 : Int) (x1 : Int) (r : Bool) (h : law08_WordLaws.u x0 x1 = some r) : Contract CP 13 [(.v (.int .i32) (x0)), (.v (.int .i32) (x1))] (tupAV .bool [] r) :=
  contract_s (S := fun k => law08_WordLaws.s x0 x1 k) CP_ok (orS_ok word_Text.e_ok (orS_ok (word_Parse.e_ok.mono le_C_CP) (orS_ok law08_alive.e_ok (orS_ok (word_Do.e_ok.mono le_C_CP) noS_ok)))) (by kernel_rfl) (by kernel_rfl) (by kernel_rfl) (law08_WordLaws.ev ⟨1, fun _ => []⟩ x0 x1 (dec .bool [])) h
noncomputable def law08_WordLaws.e : Ent := argI (.int .i32) fun x0 => argI (.int .i32) fun x1 => endU (law08_WordLaws.u x0 x1) (tupAV .bool [])
theorem law08_WordLaws.e_ok : EntOK CP 13 (fun {_} => law08_WordLaws.e) := entA_ok (argI_ok fun x0 => argI_ok fun x1 => endU_ok fun r h => law08_WordLaws.c x0 x1 r h)

/-- becket word.Not -/
noncomputable def word_Not.sp : Spec := (orS 41 (fun {_} => word_Do.e) noS)
def word_Not.s {Ω : Type} (x0 : Int) (k : Int × Int → Option Ω) : Option Ω :=
  (word_Do.u 8 x0 (-1)).bind fun y1 =>
  k (y1.1, y1.2)
theorem word_Not.ev {Ω : Type} (fuel : Fuel) (x0 : Int) (k : AV → Option Ω) : evFn C (fun {_} => word_Not.sp) fuel Tryd.f47 (Tryd.f47.body.getD .skip) [(.v (.int .i64) (x0))] k = word_Not.s x0 (fun r => k (tupAV (.int .i64) [(.int .i64)] r)) := by kernel_rfl
def word_Not.u (x0 : Int) : Option (Int × Int) := word_Not.s x0 some
theorem word_Not.c (x0 : Int) (r : Int × Int) (h : word_Not.u x0 = some r) : Contract C 47 [(.v (.int .i64) (x0))] (tupAV (.int .i64) [(.int .i64)] r) :=
  contract_s (S := fun k => word_Not.s x0 k) C_ok (orS_ok word_Do.e_ok noS_ok) (by kernel_rfl) (by kernel_rfl) (by kernel_rfl) (word_Not.ev ⟨1, fun _ => []⟩ x0 (dec (.int .i64) [(.int .i64)])) h
noncomputable def word_Not.e : Ent := argI (.int .i64) fun x0 => endU (word_Not.u x0) (tupAV (.int .i64) [(.int .i64)])
theorem word_Not.e_ok : EntOK C 47 (fun {_} => word_Not.e) := entA_ok (argI_ok fun x0 => endU_ok fun r h => word_Not.c x0 r h)

/-- becket becketref08.Not -/
noncomputable def ref08_Not.sp : Spec := (orS 53 (fun {_} => ref08_Fine.e) noS)
def ref08_Not.s {Ω : Type} (x0 : Int) (k : Int × Int → Option Ω) : Option Ω :=
  bif (!(ref08_Fine.t x0)) then
    k (0, 8)
  else
    k ((IntKind.wrap .i64 ((-1) - x0)), 0)
theorem ref08_Not.ev {Ω : Type} (fuel : Fuel) (x0 : Int) (k : AV → Option Ω) : evFn C (fun {_} => ref08_Not.sp) fuel Tryd.f48 (Tryd.f48.body.getD .skip) [(.v (.int .i64) (x0))] k = ref08_Not.s x0 (fun r => k (tupAV (.int .i64) [(.int .i64)] r)) := by kernel_rfl
def ref08_Not.t (x0 : Int) : Int × Int :=
  bif (!(ref08_Fine.t x0)) then
    (0, 8)
  else
    ((IntKind.wrap .i64 ((-1) - x0)), 0)
theorem ref08_Not.v {Ω : Type} (x0 : Int) (k : Int × Int → Option Ω) : ref08_Not.s x0 k = k (ref08_Not.t x0) := by
  delta ref08_Not.s ref08_Not.t; exact (cond_tot rfl rfl)
theorem ref08_Not.c (x0 : Int) : Contract C 48 [(.v (.int .i64) (x0))] (tupAV (.int .i64) [(.int .i64)] (ref08_Not.t x0)) :=
  contract_s (S := fun k => ref08_Not.s x0 k) C_ok (orS_ok ref08_Fine.e_ok noS_ok) (by kernel_rfl) (by kernel_rfl) (by kernel_rfl) (ref08_Not.ev ⟨1, fun _ => []⟩ x0 (dec (.int .i64) [(.int .i64)])) (ref08_Not.v x0 some)
noncomputable def ref08_Not.e : Ent := argI (.int .i64) fun x0 => endT (tupAV (.int .i64) [(.int .i64)] (ref08_Not.t x0))
theorem ref08_Not.e_ok : EntOK C 48 (fun {_} => ref08_Not.e) := entA_ok (argI_ok fun x0 => endT_ok (ref08_Not.c x0))

/-- becket word.Neg -/
noncomputable def word_Neg.sp : Spec := (orS 41 (fun {_} => word_Do.e) noS)
def word_Neg.s {Ω : Type} (x0 : Int) (k : Int × Int → Option Ω) : Option Ω :=
  (word_Do.u 2 0 x0).bind fun y1 =>
  k (y1.1, y1.2)
theorem word_Neg.ev {Ω : Type} (fuel : Fuel) (x0 : Int) (k : AV → Option Ω) : evFn C (fun {_} => word_Neg.sp) fuel Tryd.f49 (Tryd.f49.body.getD .skip) [(.v (.int .i64) (x0))] k = word_Neg.s x0 (fun r => k (tupAV (.int .i64) [(.int .i64)] r)) := by kernel_rfl
def word_Neg.u (x0 : Int) : Option (Int × Int) := word_Neg.s x0 some
theorem word_Neg.c (x0 : Int) (r : Int × Int) (h : word_Neg.u x0 = some r) : Contract C 49 [(.v (.int .i64) (x0))] (tupAV (.int .i64) [(.int .i64)] r) :=
  contract_s (S := fun k => word_Neg.s x0 k) C_ok (orS_ok word_Do.e_ok noS_ok) (by kernel_rfl) (by kernel_rfl) (by kernel_rfl) (word_Neg.ev ⟨1, fun _ => []⟩ x0 (dec (.int .i64) [(.int .i64)])) h
noncomputable def word_Neg.e : Ent := argI (.int .i64) fun x0 => endU (word_Neg.u x0) (tupAV (.int .i64) [(.int .i64)])
theorem word_Neg.e_ok : EntOK C 49 (fun {_} => word_Neg.e) := entA_ok (argI_ok fun x0 => endU_ok fun r h => word_Neg.c x0 r h)

/-- becket becketref08.Neg -/
noncomputable def ref08_Neg.sp : Spec := (orS 55 (fun {_} => ref08_Wrap.e) (orS 53 (fun {_} => ref08_Fine.e) noS))
def ref08_Neg.s {Ω : Type} (x0 : Int) (k : Int × Int → Option Ω) : Option Ω :=
  bif (!(ref08_Fine.t x0)) then
    k (0, 8)
  else
    k ((ref08_Wrap.t ((IntKind.wrap .i64 (0 - x0)))), 0)
theorem ref08_Neg.ev {Ω : Type} (fuel : Fuel) (x0 : Int) (k : AV → Option Ω) : evFn C (fun {_} => ref08_Neg.sp) fuel Tryd.f50 (Tryd.f50.body.getD .skip) [(.v (.int .i64) (x0))] k = ref08_Neg.s x0 (fun r => k (tupAV (.int .i64) [(.int .i64)] r)) := by kernel_rfl
def ref08_Neg.t (x0 : Int) : Int × Int :=
  bif (!(ref08_Fine.t x0)) then
    (0, 8)
  else
    ((ref08_Wrap.t ((IntKind.wrap .i64 (0 - x0)))), 0)
theorem ref08_Neg.v {Ω : Type} (x0 : Int) (k : Int × Int → Option Ω) : ref08_Neg.s x0 k = k (ref08_Neg.t x0) := by
  delta ref08_Neg.s ref08_Neg.t; exact (cond_tot rfl rfl)
theorem ref08_Neg.c (x0 : Int) : Contract C 50 [(.v (.int .i64) (x0))] (tupAV (.int .i64) [(.int .i64)] (ref08_Neg.t x0)) :=
  contract_s (S := fun k => ref08_Neg.s x0 k) C_ok (orS_ok ref08_Wrap.e_ok (orS_ok ref08_Fine.e_ok noS_ok)) (by kernel_rfl) (by kernel_rfl) (by kernel_rfl) (ref08_Neg.ev ⟨1, fun _ => []⟩ x0 (dec (.int .i64) [(.int .i64)])) (ref08_Neg.v x0 some)
noncomputable def ref08_Neg.e : Ent := argI (.int .i64) fun x0 => endT (tupAV (.int .i64) [(.int .i64)] (ref08_Neg.t x0))
theorem ref08_Neg.e_ok : EntOK C 50 (fun {_} => ref08_Neg.e) := entA_ok (argI_ok fun x0 => endT_ok (ref08_Neg.c x0))

/-- becket becketref08.Text -/
noncomputable def ref08_Text.sp : Spec := (orS 79 (fun {_} => ref01_Digits.e) (orS 53 (fun {_} => ref08_Fine.e) noS))
def ref08_Text.s {Ω : Type} (x0 : Int) (k : ByteArray × Int → Option Ω) : Option Ω :=
  bif (!(ref08_Fine.t x0)) then
    k ((bs []), 8)
  else
    bif (decide (x0 < 0)) then
      (ref01_Digits.u ((IntKind.wrap .i64 (0 - x0)))).bind fun y1 =>
      bif (decide (((bs [45])).size + (y1).size ≤ catMax)) then
        k (((bs [45]) ++ y1), 0)
      else
        none
    else
      (ref01_Digits.u x0).bind fun y2 =>
      k (y2, 0)
theorem ref08_Text.ev {Ω : Type} (fuel : Fuel) (x0 : Int) (k : AV → Option Ω) : evFn C (fun {_} => ref08_Text.sp) fuel Tryd.f51 (Tryd.f51.body.getD .skip) [(.v (.int .i64) (x0))] k = ref08_Text.s x0 (fun r => k (tupAV .str [(.int .i64)] r)) := by kernel_rfl
def ref08_Text.u (x0 : Int) : Option (ByteArray × Int) := ref08_Text.s x0 some
theorem ref08_Text.c (x0 : Int) (r : ByteArray × Int) (h : ref08_Text.u x0 = some r) : Contract C 51 [(.v (.int .i64) (x0))] (tupAV .str [(.int .i64)] r) :=
  contract_s (S := fun k => ref08_Text.s x0 k) C_ok (orS_ok ref01_Digits.e_ok (orS_ok ref08_Fine.e_ok noS_ok)) (by kernel_rfl) (by kernel_rfl) (by kernel_rfl) (ref08_Text.ev ⟨1, fun _ => []⟩ x0 (dec .str [(.int .i64)])) h
noncomputable def ref08_Text.e : Ent := argI (.int .i64) fun x0 => endU (ref08_Text.u x0) (tupAV .str [(.int .i64)])
theorem ref08_Text.e_ok : EntOK C 51 (fun {_} => ref08_Text.e) := entA_ok (argI_ok fun x0 => endU_ok fun r h => ref08_Text.c x0 r h)

/-- becket becketlaw08.WordOne -/
noncomputable def law08_WordOne.sp : Spec := (orS 55 (fun {_} => ref08_Wrap.e) (orS 54 (fun {_} => word_Wrap.e) (orS 53 (fun {_} => ref08_Fine.e) (orS 52 (fun {_} => word_Fine.e) (orS 51 (fun {_} => ref08_Text.e) (orS 50 (fun {_} => ref08_Neg.e) (orS 49 (fun {_} => word_Neg.e) (orS 48 (fun {_} => ref08_Not.e) (orS 47 (fun {_} => word_Not.e) (orS 46 (fun {_} => word_Text.e) (orS 43 (fun {_} => law08_alive.e) noS)))))))))))
def law08_WordOne.s {Ω : Type} (x0 : Int) (k : Bool → Option Ω) : Option Ω :=
  (word_Not.u x0).bind fun y1 =>
  let v2 : Int × Int := (ref08_Not.t x0)
  (word_Neg.u x0).bind fun y3 =>
  let v4 : Int × Int := (ref08_Neg.t x0)
  (word_Text.u x0).bind fun y5 =>
  (ref08_Text.u x0).bind fun y6 =>
  bif (eqI .bool (word_Fine.t x0) (ref08_Fine.t x0)) then
    bif ((word_Wrap.t x0) == (ref08_Wrap.t x0)) then
      bif (y1.1 == v2.1) then
        bif (y1.2 == v2.2) then
          bif (y3.1 == v4.1) then
            bif (y3.2 == v4.2) then
              bif ((y5.1).data.toList == (y6.1).data.toList) then
                bif (y5.2 == y6.2) then
                  law08_alive.u.bind fun y7 =>
                  k y7
                else
                  k false
              else
                k false
            else
              k false
          else
            k false
        else
          k false
      else
        k false
    else
      k false
  else
    k false
theorem law08_WordOne.ev {Ω : Type} (fuel : Fuel) (x0 : Int) (k : AV → Option Ω) : evFn CP (fun {_} => law08_WordOne.sp) fuel Tryd.f14 (Tryd.f14.body.getD .skip) [(.v (.int .i64) (x0))] k = law08_WordOne.s x0 (fun r => k (tupAV .bool [] r)) := by kernel_rfl
def law08_WordOne.u (x0 : Int) : Option (Bool) := law08_WordOne.s x0 some
theorem law08_WordOne.c (x0 : Int) (r : Bool) (h : law08_WordOne.u x0 = some r) : Contract CP 14 [(.v (.int .i64) (x0))] (tupAV .bool [] r) :=
  contract_s (S := fun k => law08_WordOne.s x0 k) CP_ok (orS_ok (ref08_Wrap.e_ok.mono le_C_CP) (orS_ok (word_Wrap.e_ok.mono le_C_CP) (orS_ok (ref08_Fine.e_ok.mono le_C_CP) (orS_ok (word_Fine.e_ok.mono le_C_CP) (orS_ok (ref08_Text.e_ok.mono le_C_CP) (orS_ok (ref08_Neg.e_ok.mono le_C_CP) (orS_ok (word_Neg.e_ok.mono le_C_CP) (orS_ok (ref08_Not.e_ok.mono le_C_CP) (orS_ok (word_Not.e_ok.mono le_C_CP) (orS_ok word_Text.e_ok (orS_ok law08_alive.e_ok noS_ok))))))))))) (by kernel_rfl) (by kernel_rfl) (by kernel_rfl) (law08_WordOne.ev ⟨1, fun _ => []⟩ x0 (dec .bool [])) h
noncomputable def law08_WordOne.e : Ent := argI (.int .i64) fun x0 => endU (law08_WordOne.u x0) (tupAV .bool [])
theorem law08_WordOne.e_ok : EntOK CP 14 (fun {_} => law08_WordOne.e) := entA_ok (argI_ok fun x0 => endU_ok fun r h => law08_WordOne.c x0 r h)

end Go.Proofs.YtmphlhnpichonaaDoor.K

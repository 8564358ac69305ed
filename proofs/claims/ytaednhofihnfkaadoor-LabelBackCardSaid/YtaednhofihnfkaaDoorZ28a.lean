/- What functions of the program come to, plainly. -/
import Derived.Test.YtaednhofihnfkaaDoorEv
set_option maxRecDepth 100000
set_option linter.unusedVariables false
namespace Go.Proofs.YtaednhofihnfkaaDoor.K
open Go Go.RowKit

/-- becket event.in -/
noncomputable def event_in.sp : Spec := noS
def event_in.s {Ω : Type} (x0 : Int) (x1 : Int) (k : Bool → Option Ω) : Option Ω :=
  bif (decide (x0 ≥ 0)) then
    k (decide (x0 < x1))
  else
    k false
theorem event_in.ev {Ω : Type} (fuel : Fuel) (x0 : Int) (x1 : Int) (k : AV → Option Ω) : evFn C event_in.sp fuel Tryd.f49 (Tryd.f49.body.getD .skip) [(.v (.int .i64) (x0)), (.v (.int .i64) (x1))] k = event_in.s x0 x1 (fun r => k (tupAV .bool [] r)) := by kernel_rfl
def event_in.t (x0 : Int) (x1 : Int) : Bool :=
  bif (decide (x0 ≥ 0)) then
    (decide (x0 < x1))
  else
    false
theorem event_in.v {Ω : Type} (x0 : Int) (x1 : Int) (k : Bool → Option Ω) : event_in.s x0 x1 k = k (event_in.t x0 x1) := by
  delta event_in.s event_in.t; exact (cond_tot rfl rfl)
theorem event_in.c (x0 : Int) (x1 : Int) : Contract C 49 [(.v (.int .i64) (x0)), (.v (.int .i64) (x1))] (tupAV .bool [] (event_in.t x0 x1)) :=
  contract_s (S := fun k => event_in.s x0 x1 k) C_ok noS_ok (by kernel_rfl) (by kernel_rfl) (by kernel_rfl) (event_in.ev ⟨1, fun _ => []⟩ x0 x1 (dec .bool [])) (event_in.v x0 x1 some)
noncomputable def event_in.e : Ent := argI (.int .i64) fun x0 => argI (.int .i64) fun x1 => endT (tupAV .bool [] (event_in.t x0 x1))
theorem event_in.e_ok : EntOK C 49 (fun {_} => event_in.e) := entA_ok (argI_ok fun x0 => argI_ok fun x1 => endT_ok (event_in.c x0 x1))

/-- becket event.things -/
noncomputable def event_things.sp : Spec := noS
def event_things.s {Ω : Type} (x0 : Int) (k : Int → Option Ω) : Option Ω :=
  bif (x0 == 1) then
    k 8
  else
    k 8
theorem event_things.ev {Ω : Type} (fuel : Fuel) (x0 : Int) (k : AV → Option Ω) : evFn C event_things.sp fuel Tryd.f50 (Tryd.f50.body.getD .skip) [(.v (.int .i64) (x0))] k = event_things.s x0 (fun r => k (tupAV (.int .i64) [] r)) := by kernel_rfl
def event_things.t (x0 : Int) : Int :=
  bif (x0 == 1) then
    8
  else
    8
theorem event_things.v {Ω : Type} (x0 : Int) (k : Int → Option Ω) : event_things.s x0 k = k (event_things.t x0) := by
  delta event_things.s event_things.t; exact (cond_tot rfl rfl)
theorem event_things.c (x0 : Int) : Contract C 50 [(.v (.int .i64) (x0))] (tupAV (.int .i64) [] (event_things.t x0)) :=
  contract_s (S := fun k => event_things.s x0 k) C_ok noS_ok (by kernel_rfl) (by kernel_rfl) (by kernel_rfl) (event_things.ev ⟨1, fun _ => []⟩ x0 (dec (.int .i64) [])) (event_things.v x0 some)
noncomputable def event_things.e : Ent := argI (.int .i64) fun x0 => endT (tupAV (.int .i64) [] (event_things.t x0))
theorem event_things.e_ok : EntOK C 50 (fun {_} => event_things.e) := entA_ok (argI_ok fun x0 => endT_ok (event_things.c x0))

/-- becket event.Check -/
noncomputable def event_Check.sp : Spec := (orS 50 (fun {_} => event_things.e) (orS 49 (fun {_} => event_in.e) noS))
def event_Check.s {Ω : Type} (x0 : T_s22) (k : Int → Option Ω) : Option Ω :=
  bif (decide (x0.1 < 1)) then
    k 12
  else
    bif (decide (x0.1 > 8)) then
      k 12
    else
      bif (event_in.t x0.2.2.1 16) then
        bif (decide (x0.1 ≤ 4)) then
          bif (!(event_in.t x0.2.1 (event_things.t x0.1))) then
            k 8
          else
            bif (!(eqI E_s22 (x0.1, (x0.2.1, (0, (0, ())))) x0)) then
              k 3
            else
              k 0
        else
          bif (!(event_in.t x0.2.2.2.1 6)) then
            k 8
          else
            bif (!(eqI E_s22 (x0.1, (0, (x0.2.2.1, (x0.2.2.2.1, ())))) x0)) then
              k 3
            else
              k 0
      else
        bif (decide (x0.1 ≤ 4)) then
          bif (!(event_in.t x0.2.1 (event_things.t x0.1))) then
            k 8
          else
            bif (!(eqI E_s22 (x0.1, (x0.2.1, (0, (0, ())))) x0)) then
              k 3
            else
              k 0
        else
          k 8
theorem event_Check.ev {Ω : Type} (fuel : Fuel) (x0 : T_s22) (k : AV → Option Ω) : evFn C event_Check.sp fuel Tryd.f21 (Tryd.f21.body.getD .skip) [(.v E_s22 (x0))] k = event_Check.s x0 (fun r => k (tupAV (.int .i64) [] r)) := by kernel_rfl
def event_Check.t (x0 : T_s22) : Int :=
  bif (decide (x0.1 < 1)) then
    12
  else
    bif (decide (x0.1 > 8)) then
      12
    else
      bif (event_in.t x0.2.2.1 16) then
        bif (decide (x0.1 ≤ 4)) then
          bif (!(event_in.t x0.2.1 (event_things.t x0.1))) then
            8
          else
            bif (!(eqI E_s22 (x0.1, (x0.2.1, (0, (0, ())))) x0)) then
              3
            else
              0
        else
          bif (!(event_in.t x0.2.2.2.1 6)) then
            8
          else
            bif (!(eqI E_s22 (x0.1, (0, (x0.2.2.1, (x0.2.2.2.1, ())))) x0)) then
              3
            else
              0
      else
        bif (decide (x0.1 ≤ 4)) then
          bif (!(event_in.t x0.2.1 (event_things.t x0.1))) then
            8
          else
            bif (!(eqI E_s22 (x0.1, (x0.2.1, (0, (0, ())))) x0)) then
              3
            else
              0
        else
          8
theorem event_Check.v {Ω : Type} (x0 : T_s22) (k : Int → Option Ω) : event_Check.s x0 k = k (event_Check.t x0) := by
  delta event_Check.s event_Check.t; exact (cond_tot rfl (cond_tot rfl (cond_tot (cond_tot (cond_tot rfl (cond_tot rfl rfl)) (cond_tot rfl (cond_tot rfl rfl))) (cond_tot (cond_tot rfl (cond_tot rfl rfl)) rfl))))
theorem event_Check.c (x0 : T_s22) : Contract C 21 [(.v E_s22 (x0))] (tupAV (.int .i64) [] (event_Check.t x0)) :=
  contract_s (S := fun k => event_Check.s x0 k) C_ok (orS_ok event_things.e_ok (orS_ok event_in.e_ok noS_ok)) (by kernel_rfl) (by kernel_rfl) (by kernel_rfl) (event_Check.ev ⟨1, fun _ => []⟩ x0 (dec (.int .i64) [])) (event_Check.v x0 some)
noncomputable def event_Check.e : Ent := argI E_s22 fun x0 => endT (tupAV (.int .i64) [] (event_Check.t x0))
theorem event_Check.e_ok : EntOK C 21 (fun {_} => event_Check.e) := entA_ok (argI_ok fun x0 => endT_ok (event_Check.c x0))

/-- becket event.number -/
noncomputable def event_number.sp : Spec := (orS 59 (fun {_} => word_Text.e) noS)
def event_number.s {Ω : Type} (x0 : Int) (k : ByteArray → Option Ω) : Option Ω :=
  (word_Text.u x0).bind fun y1 =>
  k y1.1
theorem event_number.ev {Ω : Type} (fuel : Fuel) (x0 : Int) (k : AV → Option Ω) : evFn CP event_number.sp fuel Tryd.f45 (Tryd.f45.body.getD .skip) [(.v (.int .i64) (x0))] k = event_number.s x0 (fun r => k (tupAV .str [] r)) := by kernel_rfl
def event_number.u (x0 : Int) : Option (ByteArray) := event_number.s x0 some
theorem event_number.c (x0 : Int) (r : ByteArray) (h : event_number.u x0 = some r) : Contract CP 45 [(.v (.int .i64) (x0))] (tupAV .str [] r) :=
  contract_s (S := fun k => event_number.s x0 k) CP_ok (orS_ok word_Text.e_ok noS_ok) (by kernel_rfl) (by kernel_rfl) (by kernel_rfl) (event_number.ev ⟨1, fun _ => []⟩ x0 (dec .str [])) h
noncomputable def event_number.e : Ent := argI (.int .i64) fun x0 => endU (event_number.u x0) (tupAV .str [])
theorem event_number.e_ok : EntOK CP 45 (fun {_} => event_number.e) := entA_ok (argI_ok fun x0 => endU_ok fun r h => event_number.c x0 r h)

/-- becket event.Text -/
noncomputable def event_Text.sp : Spec := (orS 45 (fun {_} => event_number.e) (orS 44 (fun {_} => strings_Split.e) (orS 21 (fun {_} => event_Check.e) noS)))
def event_Text.s {Ω : Type} (x0 : T_s22) (k : ByteArray × Int → Option Ω) : Option Ω :=
  bif ((event_Check.t x0) != 0) then
    k ((bs []), (event_Check.t x0))
  else
    (strings_Split.u (bs [102, 105, 114, 101, 32, 112, 97, 115, 115, 32, 112, 117, 116, 32, 116, 97, 107, 101, 32, 98, 97, 110, 101, 32, 100, 117, 101, 32, 103, 111, 110, 101, 32, 102, 114, 101, 101]) (bs [32])).bind fun y1 =>
    bif (idxOK (IntKind.wrap .i64 (x0.1 - 1)) (List.length y1)) then
      bif (decide (x0.1 ≤ 4)) then
        bif (decide (((List.getD y1 (Int.toNat (IntKind.wrap .i64 (x0.1 - 1))) (bs []))).size + ((bs [32])).size ≤ catMax)) then
          bif (subC (some ((IntKind.wrap .i64 (x0.1 - 1)))) (some (x0.1)) ((bs [98, 99, 99, 99])).size) then
            bif (decide ((((List.getD y1 (Int.toNat (IntKind.wrap .i64 (x0.1 - 1))) (bs [])) ++ (bs [32]))).size + ((subS (some ((IntKind.wrap .i64 (x0.1 - 1)))) (some (x0.1)) (bs [98, 99, 99, 99]))).size ≤ catMax)) then
              let v2 : ByteArray := (((List.getD y1 (Int.toNat (IntKind.wrap .i64 (x0.1 - 1))) (bs [])) ++ (bs [32])) ++ (subS (some ((IntKind.wrap .i64 (x0.1 - 1)))) (some (x0.1)) (bs [98, 99, 99, 99])))
              (event_number.u x0.2.1).bind fun y3 =>
              bif (decide ((v2).size + (y3).size ≤ catMax)) then
                k ((v2 ++ y3), 0)
              else
                none
            else
              none
          else
            none
        else
          none
      else
        bif (decide (((List.getD y1 (Int.toNat (IntKind.wrap .i64 (x0.1 - 1))) (bs []))).size + ((bs [32])).size ≤ catMax)) then
          (event_number.u x0.2.2.1).bind fun y4 =>
          bif (decide ((((List.getD y1 (Int.toNat (IntKind.wrap .i64 (x0.1 - 1))) (bs [])) ++ (bs [32]))).size + (y4).size ≤ catMax)) then
            bif (decide (((((List.getD y1 (Int.toNat (IntKind.wrap .i64 (x0.1 - 1))) (bs [])) ++ (bs [32])) ++ y4)).size + ((bs [46])).size ≤ catMax)) then
              let v5 : ByteArray := ((((List.getD y1 (Int.toNat (IntKind.wrap .i64 (x0.1 - 1))) (bs [])) ++ (bs [32])) ++ y4) ++ (bs [46]))
              (event_number.u x0.2.2.2.1).bind fun y6 =>
              bif (decide ((v5).size + (y6).size ≤ catMax)) then
                k ((v5 ++ y6), 0)
              else
                none
            else
              none
          else
            none
        else
          none
    else
      none
theorem event_Text.ev {Ω : Type} (fuel : Fuel) (x0 : T_s22) (k : AV → Option Ω) : evFn CMP event_Text.sp fuel Tryd.f19 (Tryd.f19.body.getD .skip) [(.v E_s22 (x0))] k = event_Text.s x0 (fun r => k (tupAV .str [(.int .i64)] r)) := by kernel_rfl
def event_Text.u (x0 : T_s22) : Option (ByteArray × Int) := event_Text.s x0 some
theorem event_Text.c (x0 : T_s22) (r : ByteArray × Int) (h : event_Text.u x0 = some r) : Contract CMP 19 [(.v E_s22 (x0))] (tupAV .str [(.int .i64)] r) :=
  contract_s (S := fun k => event_Text.s x0 k) CMP_ok (orS_ok (event_number.e_ok.mono le_CP_CMP) (orS_ok (strings_Split.e_ok.mono le_CM_CMP) (orS_ok (event_Check.e_ok.mono le_C_CMP) noS_ok))) (by kernel_rfl) (by kernel_rfl) (by kernel_rfl) (event_Text.ev ⟨1, fun _ => []⟩ x0 (dec .str [(.int .i64)])) h
noncomputable def event_Text.e : Ent := argI E_s22 fun x0 => endU (event_Text.u x0) (tupAV .str [(.int .i64)])
theorem event_Text.e_ok : EntOK CMP 19 (fun {_} => event_Text.e) := entA_ok (argI_ok fun x0 => endU_ok fun r h => event_Text.c x0 r h)

/-- becket becketref28.Check -/
noncomputable def ref28_Check.sp : Spec := noS
def ref28_Check.s {Ω : Type} (x0 : T_s22) (k : Int → Option Ω) : Option Ω :=
  bif (decide (x0.1 < 1)) then
    k 12
  else
    bif (decide (x0.1 > 8)) then
      k 12
    else
      bif (decide (x0.1 ≤ 4)) then
        bif (decide (x0.2.1 < 0)) then
          k 8
        else
          bif (decide (x0.2.1 > 7)) then
            k 8
          else
            bif (x0.2.2.1 != 0) then
              k 3
            else
              bif (x0.2.2.2.1 != 0) then
                k 3
              else
                k 0
      else
        bif (decide (x0.2.2.1 < 0)) then
          k 8
        else
          bif (decide (x0.2.2.1 > 15)) then
            k 8
          else
            bif (decide (x0.2.2.2.1 < 0)) then
              k 8
            else
              bif (decide (x0.2.2.2.1 > 5)) then
                k 8
              else
                bif (x0.2.1 != 0) then
                  k 3
                else
                  k 0
theorem ref28_Check.ev {Ω : Type} (fuel : Fuel) (x0 : T_s22) (k : AV → Option Ω) : evFn C ref28_Check.sp fuel Tryd.f22 (Tryd.f22.body.getD .skip) [(.v E_s22 (x0))] k = ref28_Check.s x0 (fun r => k (tupAV (.int .i64) [] r)) := by kernel_rfl
def ref28_Check.t (x0 : T_s22) : Int :=
  bif (decide (x0.1 < 1)) then
    12
  else
    bif (decide (x0.1 > 8)) then
      12
    else
      bif (decide (x0.1 ≤ 4)) then
        bif (decide (x0.2.1 < 0)) then
          8
        else
          bif (decide (x0.2.1 > 7)) then
            8
          else
            bif (x0.2.2.1 != 0) then
              3
            else
              bif (x0.2.2.2.1 != 0) then
                3
              else
                0
      else
        bif (decide (x0.2.2.1 < 0)) then
          8
        else
          bif (decide (x0.2.2.1 > 15)) then
            8
          else
            bif (decide (x0.2.2.2.1 < 0)) then
              8
            else
              bif (decide (x0.2.2.2.1 > 5)) then
                8
              else
                bif (x0.2.1 != 0) then
                  3
                else
                  0
theorem ref28_Check.v {Ω : Type} (x0 : T_s22) (k : Int → Option Ω) : ref28_Check.s x0 k = k (ref28_Check.t x0) := by
  delta ref28_Check.s ref28_Check.t; exact (cond_tot rfl (cond_tot rfl (cond_tot (cond_tot rfl (cond_tot rfl (cond_tot rfl (cond_tot rfl rfl)))) (cond_tot rfl (cond_tot rfl (cond_tot rfl (cond_tot rfl (cond_tot rfl rfl))))))))
theorem ref28_Check.c (x0 : T_s22) : Contract C 22 [(.v E_s22 (x0))] (tupAV (.int .i64) [] (ref28_Check.t x0)) :=
  contract_s (S := fun k => ref28_Check.s x0 k) C_ok noS_ok (by kernel_rfl) (by kernel_rfl) (by kernel_rfl) (ref28_Check.ev ⟨1, fun _ => []⟩ x0 (dec (.int .i64) [])) (ref28_Check.v x0 some)
noncomputable def ref28_Check.e : Ent := argI E_s22 fun x0 => endT (tupAV (.int .i64) [] (ref28_Check.t x0))
theorem ref28_Check.e_ok : EntOK C 22 (fun {_} => ref28_Check.e) := entA_ok (argI_ok fun x0 => endT_ok (ref28_Check.c x0))

/-- becket becketref28.Names -/
noncomputable def ref28_Names.sp : Spec := noS
def ref28_Names.s {Ω : Type}  (k : (List ByteArray) → Option Ω) : Option Ω :=
  k [(bs [102, 105, 114, 101]), (bs [112, 97, 115, 115]), (bs [112, 117, 116]), (bs [116, 97, 107, 101]), (bs [98, 97, 110, 101]), (bs [100, 117, 101]), (bs [103, 111, 110, 101]), (bs [102, 114, 101, 101])]
theorem ref28_Names.ev {Ω : Type} (fuel : Fuel)  (k : AV → Option Ω) : evFn C ref28_Names.sp fuel Tryd.f46 (Tryd.f46.body.getD .skip) [] k = ref28_Names.s  (fun r => k (tupAV (.slice .str) [] r)) := by kernel_rfl
def ref28_Names.t  : (List ByteArray) :=
  [(bs [102, 105, 114, 101]), (bs [112, 97, 115, 115]), (bs [112, 117, 116]), (bs [116, 97, 107, 101]), (bs [98, 97, 110, 101]), (bs [100, 117, 101]), (bs [103, 111, 110, 101]), (bs [102, 114, 101, 101])]
theorem ref28_Names.v {Ω : Type}  (k : (List ByteArray) → Option Ω) : ref28_Names.s  k = k (ref28_Names.t ) := by
  delta ref28_Names.s ref28_Names.t; exact rfl
theorem ref28_Names.c  : Contract C 46 [] (tupAV (.slice .str) [] (ref28_Names.t )) :=
  contract_s (S := fun k => ref28_Names.s  k) C_ok noS_ok (by kernel_rfl) (by kernel_rfl) (by kernel_rfl) (ref28_Names.ev ⟨1, fun _ => []⟩  (dec (.slice .str) [])) (ref28_Names.v  some)
noncomputable def ref28_Names.e : Ent := endT (tupAV (.slice .str) [] (ref28_Names.t ))
theorem ref28_Names.e_ok : EntOK C 46 (fun {_} => ref28_Names.e) := entA_ok (endT_ok (ref28_Names.c ))

/-- becket becketref28.Marks -/
noncomputable def ref28_Marks.sp : Spec := noS
def ref28_Marks.s {Ω : Type}  (k : (List ByteArray) → Option Ω) : Option Ω :=
  k [(bs [98]), (bs [99]), (bs [99]), (bs [99])]
theorem ref28_Marks.ev {Ω : Type} (fuel : Fuel)  (k : AV → Option Ω) : evFn C ref28_Marks.sp fuel Tryd.f47 (Tryd.f47.body.getD .skip) [] k = ref28_Marks.s  (fun r => k (tupAV (.slice .str) [] r)) := by kernel_rfl
def ref28_Marks.t  : (List ByteArray) :=
  [(bs [98]), (bs [99]), (bs [99]), (bs [99])]
theorem ref28_Marks.v {Ω : Type}  (k : (List ByteArray) → Option Ω) : ref28_Marks.s  k = k (ref28_Marks.t ) := by
  delta ref28_Marks.s ref28_Marks.t; exact rfl
theorem ref28_Marks.c  : Contract C 47 [] (tupAV (.slice .str) [] (ref28_Marks.t )) :=
  contract_s (S := fun k => ref28_Marks.s  k) C_ok noS_ok (by kernel_rfl) (by kernel_rfl) (by kernel_rfl) (ref28_Marks.ev ⟨1, fun _ => []⟩  (dec (.slice .str) [])) (ref28_Marks.v  some)
noncomputable def ref28_Marks.e : Ent := endT (tupAV (.slice .str) [] (ref28_Marks.t ))
theorem ref28_Marks.e_ok : EntOK C 47 (fun {_} => ref28_Marks.e) := entA_ok (endT_ok (ref28_Marks.c ))

/-- becket becketref28.Text -/
noncomputable def ref28_Text.sp : Spec := (orS 48 (fun {_} => ref01_Digits.e) (orS 47 (fun {_} => ref28_Marks.e) (orS 46 (fun {_} => ref28_Names.e) (orS 22 (fun {_} => ref28_Check.e) noS))))
def ref28_Text.s {Ω : Type} (x0 : T_s22) (k : ByteArray × Int → Option Ω) : Option Ω :=
  bif ((ref28_Check.t x0) != 0) then
    k ((bs []), (ref28_Check.t x0))
  else
    bif (idxOK (IntKind.wrap .i64 (x0.1 - 1)) (List.length ref28_Names.t)) then
      bif (decide (((List.getD ref28_Names.t (Int.toNat (IntKind.wrap .i64 (x0.1 - 1))) (bs []))).size + ((bs [32])).size ≤ catMax)) then
        let v1 : ByteArray := ((List.getD ref28_Names.t (Int.toNat (IntKind.wrap .i64 (x0.1 - 1))) (bs [])) ++ (bs [32]))
        bif (decide (x0.1 ≤ 4)) then
          bif (idxOK (IntKind.wrap .i64 (x0.1 - 1)) (List.length ref28_Marks.t)) then
            bif (decide ((v1).size + ((List.getD ref28_Marks.t (Int.toNat (IntKind.wrap .i64 (x0.1 - 1))) (bs []))).size ≤ catMax)) then
              (ref01_Digits.u x0.2.1).bind fun y2 =>
              bif (decide (((v1 ++ (List.getD ref28_Marks.t (Int.toNat (IntKind.wrap .i64 (x0.1 - 1))) (bs [])))).size + (y2).size ≤ catMax)) then
                let v3 : ByteArray := ((v1 ++ (List.getD ref28_Marks.t (Int.toNat (IntKind.wrap .i64 (x0.1 - 1))) (bs []))) ++ y2)
                k (v3, 0)
              else
                none
            else
              none
          else
            none
        else
          (ref01_Digits.u x0.2.2.1).bind fun y4 =>
          bif (decide ((v1).size + (y4).size ≤ catMax)) then
            bif (decide (((v1 ++ y4)).size + ((bs [46])).size ≤ catMax)) then
              (ref01_Digits.u x0.2.2.2.1).bind fun y5 =>
              bif (decide ((((v1 ++ y4) ++ (bs [46]))).size + (y5).size ≤ catMax)) then
                k ((((v1 ++ y4) ++ (bs [46])) ++ y5), 0)
              else
                none
            else
              none
          else
            none
      else
        none
    else
      none
theorem ref28_Text.ev {Ω : Type} (fuel : Fuel) (x0 : T_s22) (k : AV → Option Ω) : evFn C ref28_Text.sp fuel Tryd.f20 (Tryd.f20.body.getD .skip) [(.v E_s22 (x0))] k = ref28_Text.s x0 (fun r => k (tupAV .str [(.int .i64)] r)) := by kernel_rfl
def ref28_Text.u (x0 : T_s22) : Option (ByteArray × Int) := ref28_Text.s x0 some
theorem ref28_Text.c (x0 : T_s22) (r : ByteArray × Int) (h : ref28_Text.u x0 = some r) : Contract C 20 [(.v E_s22 (x0))] (tupAV .str [(.int .i64)] r) :=
  contract_s (S := fun k => ref28_Text.s x0 k) C_ok (orS_ok ref01_Digits.e_ok (orS_ok ref28_Marks.e_ok (orS_ok ref28_Names.e_ok (orS_ok ref28_Check.e_ok noS_ok)))) (by kernel_rfl) (by kernel_rfl) (by kernel_rfl) (ref28_Text.ev ⟨1, fun _ => []⟩ x0 (dec .str [(.int .i64)])) h
noncomputable def ref28_Text.e : Ent := argI E_s22 fun x0 => endU (ref28_Text.u x0) (tupAV .str [(.int .i64)])
theorem ref28_Text.e_ok : EntOK C 20 (fun {_} => ref28_Text.e) := entA_ok (argI_ok fun x0 => endU_ok fun r h => ref28_Text.c x0 r h)

/-- internal stringslite.Index -/
noncomputable def internal_stringslite_Index.sp : Spec := (orS 95 (fun {_} => internal_stringslite_IndexByte.e) noS)
def internal_stringslite_Index.s {Ω : Type} (x0 : ByteArray) (x1 : ByteArray) (k : Int → Option Ω) : Option Ω :=
  bif (((x1).size : Int) == 0) then
    k 0
  else
    bif ((x1).data.toList == (x0).data.toList) then
      k 0
    else
      bif (((x1).size : Int) == 1) then
        bif (idxOK 0 (x1).size) then
          k (internal_stringslite_IndexByte.t x0 (bAt x1 0))
        else
          none
      else
        bif (decide (((x1).size : Int) ≥ ((x0).size : Int))) then
          k (-1)
        else
          none
theorem internal_stringslite_Index.ev {Ω : Type} (fuel : Fuel) (x0 : ByteArray) (x1 : ByteArray) (k : AV → Option Ω) : evFn C internal_stringslite_Index.sp fuel Tryd.f76 (Tryd.f76.body.getD .skip) [(.v .str (x0)), (.v .str (x1))] k = internal_stringslite_Index.s x0 x1 (fun r => k (tupAV (.int .i64) [] r)) := by kernel_rfl
def internal_stringslite_Index.u (x0 : ByteArray) (x1 : ByteArray) : Option (Int) := internal_stringslite_Index.s x0 x1 some
theorem internal_stringslite_Index.c (x0 : ByteArray) (x1 : ByteArray) (r : Int) (h : internal_stringslite_Index.u x0 x1 = some r) : Contract C 76 [(.v .str (x0)), (.v .str (x1))] (tupAV (.int .i64) [] r) :=
  contract_s (S := fun k => internal_stringslite_Index.s x0 x1 k) C_ok (orS_ok internal_stringslite_IndexByte.e_ok noS_ok) (by kernel_rfl) (by kernel_rfl) (by kernel_rfl) (internal_stringslite_Index.ev ⟨1, fun _ => []⟩ x0 x1 (dec (.int .i64) [])) h
noncomputable def internal_stringslite_Index.e : Ent := argI .str fun x0 => argI .str fun x1 => endU (internal_stringslite_Index.u x0 x1) (tupAV (.int .i64) [])
theorem internal_stringslite_Index.e_ok : EntOK C 76 (fun {_} => internal_stringslite_Index.e) := by
  refine entA_ok ?_
  refine argI_ok fun x0 => ?_
  refine argI_ok fun x1 => ?_
  refine endU_ok fun r h => ?_
  exact internal_stringslite_Index.c x0 x1 r h

/-- internal stringslite.Cut -/
noncomputable def internal_stringslite_Cut.sp : Spec := (orS 76 (fun {_} => internal_stringslite_Index.e) noS)
def internal_stringslite_Cut.s {Ω : Type} (x0 : ByteArray) (x1 : ByteArray) (k : ByteArray × ByteArray × Bool → Option Ω) : Option Ω :=
  (internal_stringslite_Index.u x0 x1).bind fun y1 =>
  bif (decide (y1 ≥ 0)) then
    bif (subC none (some (y1)) (x0).size) then
      bif (subC (some ((IntKind.wrap .i64 (y1 + ((x1).size : Int))))) none (x0).size) then
        k ((subS none (some (y1)) x0), (subS (some ((IntKind.wrap .i64 (y1 + ((x1).size : Int))))) none x0), true)
      else
        none
    else
      none
  else
    k (x0, (bs []), false)
theorem internal_stringslite_Cut.ev {Ω : Type} (fuel : Fuel) (x0 : ByteArray) (x1 : ByteArray) (k : AV → Option Ω) : evFn C internal_stringslite_Cut.sp fuel Tryd.f64 (Tryd.f64.body.getD .skip) [(.v .str (x0)), (.v .str (x1))] k = internal_stringslite_Cut.s x0 x1 (fun r => k (tupAV .str [.str, .bool] r)) := by kernel_rfl
def internal_stringslite_Cut.u (x0 : ByteArray) (x1 : ByteArray) : Option (ByteArray × ByteArray × Bool) := internal_stringslite_Cut.s x0 x1 some
theorem internal_stringslite_Cut.c (x0 : ByteArray) (x1 : ByteArray) (r : ByteArray × ByteArray × Bool) (h : internal_stringslite_Cut.u x0 x1 = some r) : Contract C 64 [(.v .str (x0)), (.v .str (x1))] (tupAV .str [.str, .bool] r) :=
  contract_s (S := fun k => internal_stringslite_Cut.s x0 x1 k) C_ok (orS_ok internal_stringslite_Index.e_ok noS_ok) (by kernel_rfl) (by kernel_rfl) (by kernel_rfl) (internal_stringslite_Cut.ev ⟨1, fun _ => []⟩ x0 x1 (dec .str [.str, .bool])) h
noncomputable def internal_stringslite_Cut.e : Ent := argI .str fun x0 => argI .str fun x1 => endU (internal_stringslite_Cut.u x0 x1) (tupAV .str [.str, .bool])
theorem internal_stringslite_Cut.e_ok : EntOK C 64 (fun {_} => internal_stringslite_Cut.e) := by
  refine entA_ok ?_
  refine argI_ok fun x0 => ?_
  refine argI_ok fun x1 => ?_
  refine endU_ok fun r h => ?_
  exact internal_stringslite_Cut.c x0 x1 r h

/-- strings.Cut -/
noncomputable def strings_Cut.sp : Spec := (orS 64 (fun {_} => internal_stringslite_Cut.e) noS)
def strings_Cut.s {Ω : Type} (x0 : ByteArray) (x1 : ByteArray) (k : ByteArray × ByteArray × Bool → Option Ω) : Option Ω :=
  (internal_stringslite_Cut.u x0 x1).bind fun y1 =>
  k (y1.1, y1.2.1, y1.2.2)
theorem strings_Cut.ev {Ω : Type} (fuel : Fuel) (x0 : ByteArray) (x1 : ByteArray) (k : AV → Option Ω) : evFn C strings_Cut.sp fuel Tryd.f43 (Tryd.f43.body.getD .skip) [(.v .str (x0)), (.v .str (x1))] k = strings_Cut.s x0 x1 (fun r => k (tupAV .str [.str, .bool] r)) := by kernel_rfl
def strings_Cut.u (x0 : ByteArray) (x1 : ByteArray) : Option (ByteArray × ByteArray × Bool) := strings_Cut.s x0 x1 some
theorem strings_Cut.c (x0 : ByteArray) (x1 : ByteArray) (r : ByteArray × ByteArray × Bool) (h : strings_Cut.u x0 x1 = some r) : Contract C 43 [(.v .str (x0)), (.v .str (x1))] (tupAV .str [.str, .bool] r) :=
  contract_s (S := fun k => strings_Cut.s x0 x1 k) C_ok (orS_ok internal_stringslite_Cut.e_ok noS_ok) (by kernel_rfl) (by kernel_rfl) (by kernel_rfl) (strings_Cut.ev ⟨1, fun _ => []⟩ x0 x1 (dec .str [.str, .bool])) h
noncomputable def strings_Cut.e : Ent := argI .str fun x0 => argI .str fun x1 => endU (strings_Cut.u x0 x1) (tupAV .str [.str, .bool])
theorem strings_Cut.e_ok : EntOK C 43 (fun {_} => strings_Cut.e) := by
  refine entA_ok ?_
  refine argI_ok fun x0 => ?_
  refine argI_ok fun x1 => ?_
  refine endU_ok fun r h => ?_
  exact strings_Cut.c x0 x1 r h

/-- slices.Index   string,string  -/
noncomputable def slices_Index_string_string.sp : Spec := noS
def slices_Index_string_string.F (fuel : Nat) : Fuel := ⟨fuel, fun r => bif r == 2 then [2, 3, 4, 5, 6, 9, 10, 11, 12, 13, 14, 15, 16, 17, 18] else []⟩
def slices_Index_string_string.E0 (e2_1 : (List ByteArray)) (e2_2 : ByteArray) (e2_3 : Int) (s2 : Int) : List AV := [(.v (.slice .str) (e2_1)), (.v .str (e2_2)), .dead, .dead, .dead, .dead, .dead, (.v (.int .i64) (e2_3)), (.v (.int .i64) (s2)), .dead, .dead, .dead, .dead, .dead, .dead, .dead, .dead, .dead, .dead]
def slices_Index_string_string.H0 (e2_1 : (List ByteArray)) (e2_2 : ByteArray) (e2_3 : Int) (s2 : Int) : Heap := []
noncomputable def slices_Index_string_string.M0 {Ω : Type} (fuel : Nat) (e2_1 : (List ByteArray)) (e2_2 : ByteArray) (e2_3 : Int)  (k : AV → Option Ω) (m : Nat) (s : Int) : Option Ω := loopK (fun env L k => evCode C slices_Index_string_string.sp (slices_Index_string_string.F fuel) (cl (cl (cr (cl (cr (Tryd.f51.body.getD .skip)))))) env L k) [false, false, true, true, true, true, true, false, false, true, true, true, true, true, true, true, true, true, true] [] 0 (blockK 0 (seqK (fun env L => evCode C slices_Index_string_string.sp (slices_Index_string_string.F fuel) (cr (cr (Tryd.f51.body.getD .skip))) env L (finK C Tryd.f51 k)) (finK C Tryd.f51 k))) m ((slices_Index_string_string.E0 e2_1 e2_2 e2_3) s) ((slices_Index_string_string.H0 e2_1 e2_2 e2_3) s)
def slices_Index_string_string.b0 {Ω : Type} (e2_1 : (List ByteArray)) (e2_2 : ByteArray) (e2_3 : Int)   (k : Int → Option Ω) (r2 : Int → Option Ω) (s2 : Int) : Option Ω :=
  bif (decide (s2 < e2_3)) then
    bif (idxOK s2 (List.length e2_1)) then
      bif ((e2_2).data.toList == ((List.getD e2_1 (Int.toNat s2) (bs []))).data.toList) then
        k s2
      else
        r2 ((IntKind.wrap .i64 (s2 + 1)))
    else
      none
  else
    k (-1)
def slices_Index_string_string.B0 {Ω : Type} (fuel : Nat) (e2_1 : (List ByteArray)) (e2_2 : ByteArray) (e2_3 : Int)  (k : Int → Option Ω) (r2 : Int → Option Ω) (s2 : Int) : Option Ω := slices_Index_string_string.b0 e2_1 e2_2 e2_3   k r2 s2
theorem slices_Index_string_string.l0 {Ω : Type} (fuel : Nat) (e2_1 : (List ByteArray)) (e2_2 : ByteArray) (e2_3 : Int)  (k : AV → Option Ω) : ∀ m, (slices_Index_string_string.M0 fuel e2_1 e2_2 e2_3  k m) = iter (slices_Index_string_string.B0 fuel e2_1 e2_2 e2_3  (fun r => k (tupAV (.int .i64) [] r))) m :=
  loopK_iter (envOf := (slices_Index_string_string.E0 e2_1 e2_2 e2_3)) (LOf := (slices_Index_string_string.H0 e2_1 e2_2 e2_3)) (B := slices_Index_string_string.B0 fuel e2_1 e2_2 e2_3  (fun r => k (tupAV (.int .i64) [] r))) (fun R s => by kernel_rfl)
def slices_Index_string_string.sl {Ω : Type} (x0 : (List ByteArray)) (x1 : ByteArray) (lp0 : (List ByteArray) → ByteArray → Int → Int → Option Ω) (k : Int → Option Ω) : Option Ω :=
  lp0 x0 x1 (((List.length x0 : Nat) : Int)) (0)
def slices_Index_string_string.s {Ω : Type} (fuel : Nat) (x0 : (List ByteArray)) (x1 : ByteArray) (k : Int → Option Ω) : Option Ω := slices_Index_string_string.sl x0 x1 (fun e2_1 e2_2 e2_3 => (iter (slices_Index_string_string.B0 fuel e2_1 e2_2 e2_3  k) fuel)) k
theorem slices_Index_string_string.ev {Ω : Type} (fuel : Nat) (x0 : (List ByteArray)) (x1 : ByteArray) (k : AV → Option Ω) : evFn C slices_Index_string_string.sp (slices_Index_string_string.F fuel) Tryd.f51 (Tryd.f51.body.getD .skip) [(.v (.slice .str) (x0)), (.v .str (x1))] k = slices_Index_string_string.s fuel x0 x1 (fun r => k (tupAV (.int .i64) [] r)) := by
  have h0 : evFn C slices_Index_string_string.sp (slices_Index_string_string.F fuel) Tryd.f51 (Tryd.f51.body.getD .skip) [(.v (.slice .str) (x0)), (.v .str (x1))] k = slices_Index_string_string.sl x0 x1 (fun e2_1 e2_2 e2_3 => (slices_Index_string_string.M0 fuel e2_1 e2_2 e2_3  k fuel)) (fun r => k (tupAV (.int .i64) [] r)) := by kernel_rfl
  have h1 : (fun e2_1 e2_2 e2_3 => (slices_Index_string_string.M0 fuel e2_1 e2_2 e2_3  k fuel)) = (fun e2_1 e2_2 e2_3 => (iter (slices_Index_string_string.B0 fuel e2_1 e2_2 e2_3  (fun r => k (tupAV (.int .i64) [] r))) fuel)) := funext fun e2_1 => funext fun e2_2 => funext fun e2_3 => slices_Index_string_string.l0 fuel e2_1 e2_2 e2_3   k fuel
  rw [h1] at h0
  exact h0
def slices_Index_string_string.g0 {Ω : Type} (e2_1 : (List ByteArray)) (e2_2 : ByteArray)  (k : Int → Option Ω) : List ByteArray → Int → Option Ω
  | [], i2 =>
    k (-1)
  | x2 :: xs2, i2 =>
    bif ((e2_2).data.toList == (x2).data.toList) then
      k i2
    else
      slices_Index_string_string.g0 e2_1 e2_2  k xs2 (i2 + 1)
theorem slices_Index_string_string.h0 {Ω : Type} (e2_1 : (List ByteArray)) (e2_2 : ByteArray)   (k : Int → Option Ω) (hX : ((List.length e2_1 : Nat) : Int) ≤ 9223372036854775807) : ∀ (m : Nat) (i : Int) (a : Unit), 0 ≤ i → i ≤ ((List.length e2_1 : Nat) : Int) → ((List.length e2_1 : Nat) : Int) < m + i → Le (slices_Index_string_string.g0 e2_1 e2_2  k (List.drop (Int.toNat i) e2_1) i) (iter (slices_Index_string_string.B0 BIG e2_1 e2_2 (((List.length e2_1 : Nat) : Int))  k) m (i)) :=
  iter_list e2_1 (bs []) (fun (i2 : Int) (a2 : Unit) => (i2)) (fun xs i2 a2 => slices_Index_string_string.g0 e2_1 e2_2  k xs i2) (slices_Index_string_string.B0 BIG e2_1 e2_2 (((List.length e2_1 : Nat) : Int))  k)
    (fun i2 a2 r h0 => (Le.fls h0 (Le.refl _)))
    (fun i2 xs2 a2 r h0 h1 hw ih => (Le.tru h0 (Le.tru h1 (Le.cond (Le.refl _) (ih _ hw ())))))
    hX
def slices_Index_string_string.w {Ω : Type} (x0 : (List ByteArray)) (x1 : ByteArray) (k : Int → Option Ω) : Option Ω :=
  bif decide (((List.length x0 : Nat) : Int) ≤ 4611686018427387904) then slices_Index_string_string.g0 x0 x1  k x0 0 else none
theorem slices_Index_string_string.le {Ω : Type} (x0 : (List ByteArray)) (x1 : ByteArray) (k : Int → Option Ω) : Le (slices_Index_string_string.w x0 x1 k) (slices_Index_string_string.s BIG x0 x1 k) := by
  delta slices_Index_string_string.w slices_Index_string_string.s slices_Index_string_string.sl
  exact (Le.gd fun hg => slices_Index_string_string.h0 _ _   k (le_up (of_decide_eq_true hg)) BIG 0 () (by decide) (zero_le_len _) (big_list (of_decide_eq_true hg)))
def slices_Index_string_string.u (x0 : (List ByteArray)) (x1 : ByteArray) : Option (Int) := slices_Index_string_string.w x0 x1 some
theorem slices_Index_string_string.c (x0 : (List ByteArray)) (x1 : ByteArray) (r : Int) (h : slices_Index_string_string.u x0 x1 = some r) : Contract C 51 [(.v (.slice .str) (x0)), (.v .str (x1))] (tupAV (.int .i64) [] r) :=
  contract_s (S := fun k => slices_Index_string_string.s BIG x0 x1 k) C_ok noS_ok (by kernel_rfl) (by kernel_rfl) (by kernel_rfl) (slices_Index_string_string.ev BIG x0 x1 (dec (.int .i64) [])) (slices_Index_string_string.le x0 x1 some r h)
noncomputable def slices_Index_string_string.e : Ent := argI (.slice .str) fun x0 => argI .str fun x1 => endU (slices_Index_string_string.u x0 x1) (tupAV (.int .i64) [])
theorem slices_Index_string_string.e_ok : EntOK C 51 (fun {_} => slices_Index_string_string.e) := by
  refine entA_ok ?_
  refine argI_ok fun x0 => ?_
  refine argI_ok fun x1 => ?_
  refine endU_ok fun r h => ?_
  exact slices_Index_string_string.c x0 x1 r h

/-- strings.HasPrefix -/
noncomputable def strings_HasPrefix.sp : Spec := (orS 80 (fun {_} => internal_stringslite_HasPrefix.e) noS)
def strings_HasPrefix.s {Ω : Type} (x0 : ByteArray) (x1 : ByteArray) (k : Bool → Option Ω) : Option Ω :=
  (internal_stringslite_HasPrefix.u x0 x1).bind fun y1 =>
  k y1
theorem strings_HasPrefix.ev {Ω : Type} (fuel : Fuel) (x0 : ByteArray) (x1 : ByteArray) (k : AV → Option Ω) : evFn C strings_HasPrefix.sp fuel Tryd.f68 (Tryd.f68.body.getD .skip) [(.v .str (x0)), (.v .str (x1))] k = strings_HasPrefix.s x0 x1 (fun r => k (tupAV .bool [] r)) := by kernel_rfl
def strings_HasPrefix.u (x0 : ByteArray) (x1 : ByteArray) : Option (Bool) := strings_HasPrefix.s x0 x1 some
theorem strings_HasPrefix.c (x0 : ByteArray) (x1 : ByteArray) (r : Bool) (h : strings_HasPrefix.u x0 x1 = some r) : Contract C 68 [(.v .str (x0)), (.v .str (x1))] (tupAV .bool [] r) :=
  contract_s (S := fun k => strings_HasPrefix.s x0 x1 k) C_ok (orS_ok internal_stringslite_HasPrefix.e_ok noS_ok) (by kernel_rfl) (by kernel_rfl) (by kernel_rfl) (strings_HasPrefix.ev ⟨1, fun _ => []⟩ x0 x1 (dec .bool [])) h
noncomputable def strings_HasPrefix.e : Ent := argI .str fun x0 => argI .str fun x1 => endU (strings_HasPrefix.u x0 x1) (tupAV .bool [])
theorem strings_HasPrefix.e_ok : EntOK C 68 (fun {_} => strings_HasPrefix.e) := by
  refine entA_ok ?_
  refine argI_ok fun x0 => ?_
  refine argI_ok fun x1 => ?_
  refine endU_ok fun r h => ?_
  exact strings_HasPrefix.c x0 x1 r h

/-- becket event.whole -/
noncomputable def event_whole.sp : Spec := (orS 68 (fun {_} => strings_HasPrefix.e) (orS 67 (fun {_} => word_Parse.e) noS))
def event_whole.s {Ω : Type} (x0 : ByteArray) (k : Int × Int → Option Ω) : Option Ω :=
  (word_Parse.u x0).bind fun y1 =>
  bif (y1.2 == 0) then
    bif (decide (y1.1 < 0)) then
      k (0, 3)
    else
      (strings_HasPrefix.u x0 (bs [45])).bind fun y2 =>
      bif y2 then
        k (0, 3)
      else
        k (y1.1, y1.2)
  else
    (strings_HasPrefix.u x0 (bs [45])).bind fun y3 =>
    bif y3 then
      k (0, 3)
    else
      k (y1.1, y1.2)
theorem event_whole.ev {Ω : Type} (fuel : Fuel) (x0 : ByteArray) (k : AV → Option Ω) : evFn C event_whole.sp fuel Tryd.f53 (Tryd.f53.body.getD .skip) [(.v .str (x0))] k = event_whole.s x0 (fun r => k (tupAV (.int .i64) [(.int .i64)] r)) := by kernel_rfl
def event_whole.u (x0 : ByteArray) : Option (Int × Int) := event_whole.s x0 some
theorem event_whole.c (x0 : ByteArray) (r : Int × Int) (h : event_whole.u x0 = some r) : Contract C 53 [(.v .str (x0))] (tupAV (.int .i64) [(.int .i64)] r) :=
  contract_s (S := fun k => event_whole.s x0 k) C_ok (orS_ok strings_HasPrefix.e_ok (orS_ok word_Parse.e_ok noS_ok)) (by kernel_rfl) (by kernel_rfl) (by kernel_rfl) (event_whole.ev ⟨1, fun _ => []⟩ x0 (dec (.int .i64) [(.int .i64)])) h
noncomputable def event_whole.e : Ent := argI .str fun x0 => endU (event_whole.u x0) (tupAV (.int .i64) [(.int .i64)])
theorem event_whole.e_ok : EntOK C 53 (fun {_} => event_whole.e) := entA_ok (argI_ok fun x0 => endU_ok fun r h => event_whole.c x0 r h)

/-- becket event.pair -/
noncomputable def event_pair.sp : Spec := (orS 53 (fun {_} => event_whole.e) (orS 43 (fun {_} => strings_Cut.e) noS))
def event_pair.s {Ω : Type} (x0 : ByteArray) (k : Int × Int × Int → Option Ω) : Option Ω :=
  (strings_Cut.u x0 (bs [46])).bind fun y1 =>
  (event_whole.u y1.1).bind fun y2 =>
  (event_whole.u y1.2.1).bind fun y3 =>
  bif (!y1.2.2) then
    k (0, 0, 3)
  else
    bif (y2.2 == 3) then
      k (0, 0, 3)
    else
      bif (y3.2 == 3) then
        k (0, 0, 3)
      else
        bif (y2.2 != 0) then
          k (0, 0, 8)
        else
          bif (y3.2 != 0) then
            k (0, 0, 8)
          else
            k (y2.1, y3.1, 0)
theorem event_pair.ev {Ω : Type} (fuel : Fuel) (x0 : ByteArray) (k : AV → Option Ω) : evFn C event_pair.sp fuel Tryd.f54 (Tryd.f54.body.getD .skip) [(.v .str (x0))] k = event_pair.s x0 (fun r => k (tupAV (.int .i64) [(.int .i64), (.int .i64)] r)) := by kernel_rfl
def event_pair.u (x0 : ByteArray) : Option (Int × Int × Int) := event_pair.s x0 some
theorem event_pair.c (x0 : ByteArray) (r : Int × Int × Int) (h : event_pair.u x0 = some r) : Contract C 54 [(.v .str (x0))] (tupAV (.int .i64) [(.int .i64), (.int .i64)] r) :=
  contract_s (S := fun k => event_pair.s x0 k) C_ok (orS_ok event_whole.e_ok (orS_ok strings_Cut.e_ok noS_ok)) (by kernel_rfl) (by kernel_rfl) (by kernel_rfl) (event_pair.ev ⟨1, fun _ => []⟩ x0 (dec (.int .i64) [(.int .i64), (.int .i64)])) h
noncomputable def event_pair.e : Ent := argI .str fun x0 => endU (event_pair.u x0) (tupAV (.int .i64) [(.int .i64), (.int .i64)])
theorem event_pair.e_ok : EntOK C 54 (fun {_} => event_pair.e) := entA_ok (argI_ok fun x0 => endU_ok fun r h => event_pair.c x0 r h)

/-- becket event.Parse -/
noncomputable def event_Parse.sp : Spec := (orS 54 (fun {_} => event_pair.e) (orS 53 (fun {_} => event_whole.e) (orS 52 (fun {_} => strings_CutPrefix.e) (orS 51 (fun {_} => slices_Index_string_string.e) (orS 44 (fun {_} => strings_Split.e) (orS 43 (fun {_} => strings_Cut.e) (orS 21 (fun {_} => event_Check.e) noS)))))))
def event_Parse.s {Ω : Type} (x0 : ByteArray) (k : T_s22 × Int → Option Ω) : Option Ω :=
  (strings_Cut.u x0 (bs [32])).bind fun y1 =>
  (strings_Split.u (bs [102, 105, 114, 101, 32, 112, 97, 115, 115, 32, 112, 117, 116, 32, 116, 97, 107, 101, 32, 98, 97, 110, 101, 32, 100, 117, 101, 32, 103, 111, 110, 101, 32, 102, 114, 101, 101]) (bs [32])).bind fun y2 =>
  (slices_Index_string_string.u y2 y1.1).bind fun y3 =>
  bif ((IntKind.wrap .i64 (1 + y3)) == 0) then
    k ((0, (0, (0, (0, ())))), 12)
  else
    bif (!y1.2.2) then
      k ((0, (0, (0, (0, ())))), 3)
    else
      bif (decide ((IntKind.wrap .i64 (1 + y3)) ≤ 4)) then
        bif (subC (some ((IntKind.wrap .i64 ((IntKind.wrap .i64 (1 + y3)) - 1)))) (some ((IntKind.wrap .i64 (1 + y3)))) ((bs [98, 99, 99, 99])).size) then
          let v4 : ByteArray := (subS (some ((IntKind.wrap .i64 ((IntKind.wrap .i64 (1 + y3)) - 1)))) (some ((IntKind.wrap .i64 (1 + y3)))) (bs [98, 99, 99, 99]))
          (strings_CutPrefix.u y1.2.1 v4).bind fun y5 =>
          bif (!y5.2) then
            k ((0, (0, (0, (0, ())))), 3)
          else
            (event_whole.u y5.1).bind fun y6 =>
            bif (y6.2 == 0) then
              bif ((event_Check.t (((IntKind.wrap .i64 (1 + y3)), (y6.1, (0, (0, ())))))) != 0) then
                k ((0, (0, (0, (0, ())))), (event_Check.t (((IntKind.wrap .i64 (1 + y3)), (y6.1, (0, (0, ())))))))
              else
                k (((IntKind.wrap .i64 (1 + y3)), (y6.1, (0, (0, ())))), 0)
            else
              bif (y6.2 != 0) then
                k ((0, (0, (0, (0, ())))), y6.2)
              else
                k (((IntKind.wrap .i64 (1 + y3)), (y6.1, (0, (0, ())))), 0)
        else
          none
      else
        (event_pair.u y1.2.1).bind fun y7 =>
        bif (y7.2.2 == 0) then
          bif ((event_Check.t (((IntKind.wrap .i64 (1 + y3)), (0, (y7.1, (y7.2.1, ())))))) != 0) then
            k ((0, (0, (0, (0, ())))), (event_Check.t (((IntKind.wrap .i64 (1 + y3)), (0, (y7.1, (y7.2.1, ())))))))
          else
            k (((IntKind.wrap .i64 (1 + y3)), (0, (y7.1, (y7.2.1, ())))), 0)
        else
          bif (y7.2.2 != 0) then
            k ((0, (0, (0, (0, ())))), y7.2.2)
          else
            k (((IntKind.wrap .i64 (1 + y3)), (0, (y7.1, (y7.2.1, ())))), 0)
theorem event_Parse.ev {Ω : Type} (fuel : Fuel) (x0 : ByteArray) (k : AV → Option Ω) : evFn CM event_Parse.sp fuel Tryd.f24 (Tryd.f24.body.getD .skip) [(.v .str (x0))] k = event_Parse.s x0 (fun r => k (tupAV E_s22 [(.int .i64)] r)) := by kernel_rfl
def event_Parse.u (x0 : ByteArray) : Option (T_s22 × Int) := event_Parse.s x0 some
theorem event_Parse.c (x0 : ByteArray) (r : T_s22 × Int) (h : event_Parse.u x0 = some r) : Contract CM 24 [(.v .str (x0))] (tupAV E_s22 [(.int .i64)] r) :=
  contract_s (S := fun k => event_Parse.s x0 k) CM_ok (orS_ok (event_pair.e_ok.mono le_C_CM) (orS_ok (event_whole.e_ok.mono le_C_CM) (orS_ok (strings_CutPrefix.e_ok.mono le_C_CM) (orS_ok (slices_Index_string_string.e_ok.mono le_C_CM) (orS_ok strings_Split.e_ok (orS_ok (strings_Cut.e_ok.mono le_C_CM) (orS_ok (event_Check.e_ok.mono le_C_CM) noS_ok))))))) (by kernel_rfl) (by kernel_rfl) (by kernel_rfl) (event_Parse.ev ⟨1, fun _ => []⟩ x0 (dec E_s22 [(.int .i64)])) h
noncomputable def event_Parse.e : Ent := argI .str fun x0 => endU (event_Parse.u x0) (tupAV E_s22 [(.int .i64)])
theorem event_Parse.e_ok : EntOK CM 24 (fun {_} => event_Parse.e) := entA_ok (argI_ok fun x0 => endU_ok fun r h => event_Parse.c x0 r h)

/-- becket event.Sort -/
noncomputable def event_Sort.sp : Spec := (fxS 57 (fun {_} => slices_SortFunc_ev.fx) (fxS 56 (fun {_} => slices_Clone_56.fx) noS))
def event_Sort.s {Ω : Type} (x0 : (List T_s22)) (k : (List T_s22) → Option Ω) : Option Ω :=
  bif (decide (List.length x0 ≤ rowMax)) then
    bif (decide (List.length x0 ≤ rowMax)) then
      k (sortB evLe x0)
    else
      none
  else
    none
theorem event_Sort.ev {Ω : Type} (fuel : Fuel) (x0 : (List T_s22)) (k : AV → Option Ω) : evFn C event_Sort.sp fuel Tryd.f28 (Tryd.f28.body.getD .skip) [(.v (.slice E_s22) (x0))] k = event_Sort.s x0 (fun r => k (tupAV (.slice E_s22) [] r)) := by kernel_rfl
def event_Sort.u (x0 : (List T_s22)) : Option ((List T_s22)) := event_Sort.s x0 some
theorem event_Sort.c (x0 : (List T_s22)) (r : (List T_s22)) (h : event_Sort.u x0 = some r) : Contract C 28 [(.v (.slice E_s22) (x0))] (tupAV (.slice E_s22) [] r) :=
  contract_s (S := fun k => event_Sort.s x0 k) C_ok (fxS_ok slices_SortFunc_ev.fx_ok (fxS_ok slices_Clone_56.fx_ok noS_ok)) (by kernel_rfl) (by kernel_rfl) (by kernel_rfl) (event_Sort.ev ⟨1, fun _ => []⟩ x0 (dec (.slice E_s22) [])) h
noncomputable def event_Sort.e : Ent := argI (.slice E_s22) fun x0 => endU (event_Sort.u x0) (tupAV (.slice E_s22) [])
theorem event_Sort.e_ok : EntOK C 28 (fun {_} => event_Sort.e) := entA_ok (argI_ok fun x0 => endU_ok fun r h => event_Sort.c x0 r h)

/-- cmp.isNaN int  -/
noncomputable def cmp_isNaN_int.sp : Spec := noS
def cmp_isNaN_int.s {Ω : Type} (x0 : Int) (k : Bool → Option Ω) : Option Ω :=
  k (x0 != x0)
theorem cmp_isNaN_int.ev {Ω : Type} (fuel : Fuel) (x0 : Int) (k : AV → Option Ω) : evFn C cmp_isNaN_int.sp fuel Tryd.f93 (Tryd.f93.body.getD .skip) [(.v (.int .i64) (x0))] k = cmp_isNaN_int.s x0 (fun r => k (tupAV .bool [] r)) := by kernel_rfl
def cmp_isNaN_int.t (x0 : Int) : Bool :=
  (x0 != x0)
theorem cmp_isNaN_int.v {Ω : Type} (x0 : Int) (k : Bool → Option Ω) : cmp_isNaN_int.s x0 k = k (cmp_isNaN_int.t x0) := by
  delta cmp_isNaN_int.s cmp_isNaN_int.t; exact rfl
theorem cmp_isNaN_int.c (x0 : Int) : Contract C 93 [(.v (.int .i64) (x0))] (tupAV .bool [] (cmp_isNaN_int.t x0)) :=
  contract_s (S := fun k => cmp_isNaN_int.s x0 k) C_ok noS_ok (by kernel_rfl) (by kernel_rfl) (by kernel_rfl) (cmp_isNaN_int.ev ⟨1, fun _ => []⟩ x0 (dec .bool [])) (cmp_isNaN_int.v x0 some)
noncomputable def cmp_isNaN_int.e : Ent := argI (.int .i64) fun x0 => endT (tupAV .bool [] (cmp_isNaN_int.t x0))
theorem cmp_isNaN_int.e_ok : EntOK C 93 (fun {_} => cmp_isNaN_int.e) := entA_ok (argI_ok fun x0 => endT_ok (cmp_isNaN_int.c x0))

/-- cmp.Compare int  -/
noncomputable def cmp_Compare_int.sp : Spec := (orS 93 (fun {_} => cmp_isNaN_int.e) noS)
def cmp_Compare_int.s {Ω : Type} (x0 : Int) (x1 : Int) (k : Int → Option Ω) : Option Ω :=
  bif (cmp_isNaN_int.t x0) then
    bif (cmp_isNaN_int.t x1) then
      k 0
    else
      k (-1)
  else
    bif (cmp_isNaN_int.t x1) then
      k 1
    else
      bif (decide (x0 < x1)) then
        k (-1)
      else
        bif (decide (x0 > x1)) then
          k 1
        else
          k 0
theorem cmp_Compare_int.ev {Ω : Type} (fuel : Fuel) (x0 : Int) (x1 : Int) (k : AV → Option Ω) : evFn C cmp_Compare_int.sp fuel Tryd.f72 (Tryd.f72.body.getD .skip) [(.v (.int .i64) (x0)), (.v (.int .i64) (x1))] k = cmp_Compare_int.s x0 x1 (fun r => k (tupAV (.int .i64) [] r)) := by kernel_rfl
def cmp_Compare_int.t (x0 : Int) (x1 : Int) : Int :=
  bif (cmp_isNaN_int.t x0) then
    bif (cmp_isNaN_int.t x1) then
      0
    else
      (-1)
  else
    bif (cmp_isNaN_int.t x1) then
      1
    else
      bif (decide (x0 < x1)) then
        (-1)
      else
        bif (decide (x0 > x1)) then
          1
        else
          0
theorem cmp_Compare_int.v {Ω : Type} (x0 : Int) (x1 : Int) (k : Int → Option Ω) : cmp_Compare_int.s x0 x1 k = k (cmp_Compare_int.t x0 x1) := by
  delta cmp_Compare_int.s cmp_Compare_int.t; exact (cond_tot (cond_tot rfl rfl) (cond_tot rfl (cond_tot rfl (cond_tot rfl rfl))))
theorem cmp_Compare_int.c (x0 : Int) (x1 : Int) : Contract C 72 [(.v (.int .i64) (x0)), (.v (.int .i64) (x1))] (tupAV (.int .i64) [] (cmp_Compare_int.t x0 x1)) :=
  contract_s (S := fun k => cmp_Compare_int.s x0 x1 k) C_ok (orS_ok cmp_isNaN_int.e_ok noS_ok) (by kernel_rfl) (by kernel_rfl) (by kernel_rfl) (cmp_Compare_int.ev ⟨1, fun _ => []⟩ x0 x1 (dec (.int .i64) [])) (cmp_Compare_int.v x0 x1 some)
noncomputable def cmp_Compare_int.e : Ent := argI (.int .i64) fun x0 => argI (.int .i64) fun x1 => endT (tupAV (.int .i64) [] (cmp_Compare_int.t x0 x1))
theorem cmp_Compare_int.e_ok : EntOK C 72 (fun {_} => cmp_Compare_int.e) := entA_ok (argI_ok fun x0 => argI_ok fun x1 => endT_ok (cmp_Compare_int.c x0 x1))

/-- cmp.Or int  -/
noncomputable def cmp_Or_int.sp : Spec := noS
def cmp_Or_int.F (fuel : Nat) : Fuel := ⟨fuel, fun r => bif r == 3 then [0, 1, 2, 4, 5, 9, 10, 11, 12, 13, 14, 15, 16, 17] else []⟩
def cmp_Or_int.E0 (e3_1 : (List Int)) (e3_2 : Int) (s3 : Int) : List AV := [.dead, .dead, .dead, (.v (.int .i64) (0)), .dead, .dead, (.v (.slice (.int .i64)) (e3_1)), (.v (.int .i64) (e3_2)), (.v (.int .i64) (s3)), .dead, .dead, .dead, .dead, .dead, .dead, .dead, .dead, .dead]
def cmp_Or_int.H0 (e3_1 : (List Int)) (e3_2 : Int) (s3 : Int) : Heap := []
noncomputable def cmp_Or_int.M0 {Ω : Type} (fuel : Nat) (e3_1 : (List Int)) (e3_2 : Int)  (k : AV → Option Ω) (m : Nat) (s : Int) : Option Ω := loopK (fun env L k => evCode C cmp_Or_int.sp (cmp_Or_int.F fuel) (cl (cl (cr (cl (cr (cr (Tryd.f71.body.getD .skip))))))) env L k) [true, true, true, false, true, true, false, false, false, true, true, true, true, true, true, true, true, true] [] 0 (blockK 0 (seqK (fun env L => evCode C cmp_Or_int.sp (cmp_Or_int.F fuel) (cr (cr (cr (Tryd.f71.body.getD .skip)))) env L (finK C Tryd.f71 k)) (finK C Tryd.f71 k))) m ((cmp_Or_int.E0 e3_1 e3_2) s) ((cmp_Or_int.H0 e3_1 e3_2) s)
def cmp_Or_int.b0 {Ω : Type} (e3_1 : (List Int)) (e3_2 : Int)   (k : Int → Option Ω) (r3 : Int → Option Ω) (s3 : Int) : Option Ω :=
  bif (decide (s3 < e3_2)) then
    bif (idxOK s3 (List.length e3_1)) then
      bif ((List.getD e3_1 (Int.toNat s3) 0) != 0) then
        k (List.getD e3_1 (Int.toNat s3) 0)
      else
        r3 ((IntKind.wrap .i64 (s3 + 1)))
    else
      none
  else
    k 0
def cmp_Or_int.B0 {Ω : Type} (fuel : Nat) (e3_1 : (List Int)) (e3_2 : Int)  (k : Int → Option Ω) (r3 : Int → Option Ω) (s3 : Int) : Option Ω := cmp_Or_int.b0 e3_1 e3_2   k r3 s3
theorem cmp_Or_int.l0 {Ω : Type} (fuel : Nat) (e3_1 : (List Int)) (e3_2 : Int)  (k : AV → Option Ω) : ∀ m, (cmp_Or_int.M0 fuel e3_1 e3_2  k m) = iter (cmp_Or_int.B0 fuel e3_1 e3_2  (fun r => k (tupAV (.int .i64) [] r))) m :=
  loopK_iter (envOf := (cmp_Or_int.E0 e3_1 e3_2)) (LOf := (cmp_Or_int.H0 e3_1 e3_2)) (B := cmp_Or_int.B0 fuel e3_1 e3_2  (fun r => k (tupAV (.int .i64) [] r))) (fun R s => by kernel_rfl)
def cmp_Or_int.sl {Ω : Type} (x0 : (List Int)) (lp0 : (List Int) → Int → Int → Option Ω) (k : Int → Option Ω) : Option Ω :=
  lp0 x0 (((List.length x0 : Nat) : Int)) (0)
def cmp_Or_int.s {Ω : Type} (fuel : Nat) (x0 : (List Int)) (k : Int → Option Ω) : Option Ω := cmp_Or_int.sl x0 (fun e3_1 e3_2 => (iter (cmp_Or_int.B0 fuel e3_1 e3_2  k) fuel)) k
theorem cmp_Or_int.ev {Ω : Type} (fuel : Nat) (x0 : (List Int)) (k : AV → Option Ω) : evFn C cmp_Or_int.sp (cmp_Or_int.F fuel) Tryd.f71 (Tryd.f71.body.getD .skip) [(.v (.slice (.int .i64)) (x0))] k = cmp_Or_int.s fuel x0 (fun r => k (tupAV (.int .i64) [] r)) := by
  have h0 : evFn C cmp_Or_int.sp (cmp_Or_int.F fuel) Tryd.f71 (Tryd.f71.body.getD .skip) [(.v (.slice (.int .i64)) (x0))] k = cmp_Or_int.sl x0 (fun e3_1 e3_2 => (cmp_Or_int.M0 fuel e3_1 e3_2  k fuel)) (fun r => k (tupAV (.int .i64) [] r)) := by kernel_rfl
  have h1 : (fun e3_1 e3_2 => (cmp_Or_int.M0 fuel e3_1 e3_2  k fuel)) = (fun e3_1 e3_2 => (iter (cmp_Or_int.B0 fuel e3_1 e3_2  (fun r => k (tupAV (.int .i64) [] r))) fuel)) := funext fun e3_1 => funext fun e3_2 => cmp_Or_int.l0 fuel e3_1 e3_2   k fuel
  rw [h1] at h0
  exact h0
def cmp_Or_int.g0 {Ω : Type} (e3_1 : (List Int))  (k : Int → Option Ω) : List Int → Option Ω
  | [] =>
    k 0
  | x3 :: xs3 =>
    bif (x3 != 0) then
      k x3
    else
      cmp_Or_int.g0 e3_1  k xs3
theorem cmp_Or_int.h0 {Ω : Type} (e3_1 : (List Int))   (k : Int → Option Ω) (hX : ((List.length e3_1 : Nat) : Int) ≤ 9223372036854775807) : ∀ (m : Nat) (i : Int) (a : Unit), 0 ≤ i → i ≤ ((List.length e3_1 : Nat) : Int) → ((List.length e3_1 : Nat) : Int) < m + i → Le (cmp_Or_int.g0 e3_1  k (List.drop (Int.toNat i) e3_1) ) (iter (cmp_Or_int.B0 BIG e3_1 (((List.length e3_1 : Nat) : Int))  k) m (i)) :=
  iter_list e3_1 0 (fun (i3 : Int) (a3 : Unit) => (i3)) (fun xs i3 a3 => cmp_Or_int.g0 e3_1  k xs ) (cmp_Or_int.B0 BIG e3_1 (((List.length e3_1 : Nat) : Int))  k)
    (fun i3 a3 r h0 => (Le.fls h0 (Le.refl _)))
    (fun i3 xs3 a3 r h0 h1 hw ih => (Le.tru h0 (Le.tru h1 (Le.cond (Le.refl _) (ih _ hw ())))))
    hX
def cmp_Or_int.w {Ω : Type} (x0 : (List Int)) (k : Int → Option Ω) : Option Ω :=
  bif decide (((List.length x0 : Nat) : Int) ≤ 4611686018427387904) then cmp_Or_int.g0 x0  k x0  else none
theorem cmp_Or_int.le {Ω : Type} (x0 : (List Int)) (k : Int → Option Ω) : Le (cmp_Or_int.w x0 k) (cmp_Or_int.s BIG x0 k) := by
  delta cmp_Or_int.w cmp_Or_int.s cmp_Or_int.sl
  exact (Le.gd fun hg => cmp_Or_int.h0 _   k (le_up (of_decide_eq_true hg)) BIG 0 () (by decide) (zero_le_len _) (big_list (of_decide_eq_true hg)))
def cmp_Or_int.u (x0 : (List Int)) : Option (Int) := cmp_Or_int.w x0 some
theorem cmp_Or_int.c (x0 : (List Int)) (r : Int) (h : cmp_Or_int.u x0 = some r) : Contract C 71 [(.v (.slice (.int .i64)) (x0))] (tupAV (.int .i64) [] r) :=
  contract_s (S := fun k => cmp_Or_int.s BIG x0 k) C_ok noS_ok (by kernel_rfl) (by kernel_rfl) (by kernel_rfl) (cmp_Or_int.ev BIG x0 (dec (.int .i64) [])) (cmp_Or_int.le x0 some r h)
noncomputable def cmp_Or_int.e : Ent := argI (.slice (.int .i64)) fun x0 => endU (cmp_Or_int.u x0) (tupAV (.int .i64) [])
theorem cmp_Or_int.e_ok : EntOK C 71 (fun {_} => cmp_Or_int.e) := entA_ok (argI_ok fun x0 => endU_ok fun r h => cmp_Or_int.c x0 r h)

/-- becket event.compare -/
noncomputable def event_compare.sp : Spec := (orS 72 (fun {_} => cmp_Compare_int.e) (orS 71 (fun {_} => cmp_Or_int.e) noS))
def event_compare.s {Ω : Type} (x0 : T_s22) (x1 : T_s22) (k : Int → Option Ω) : Option Ω :=
  (cmp_Or_int.u ([(cmp_Compare_int.t x0.1 x1.1), (cmp_Compare_int.t x0.2.1 x1.2.1), (cmp_Compare_int.t x0.2.2.1 x1.2.2.1), (cmp_Compare_int.t x0.2.2.2.1 x1.2.2.2.1)])).bind fun y1 =>
  k y1
theorem event_compare.ev {Ω : Type} (fuel : Fuel) (x0 : T_s22) (x1 : T_s22) (k : AV → Option Ω) : evFn C event_compare.sp fuel Tryd.f58 (Tryd.f58.body.getD .skip) [(.v E_s22 (x0)), (.v E_s22 (x1))] k = event_compare.s x0 x1 (fun r => k (tupAV (.int .i64) [] r)) := by kernel_rfl
def event_compare.u (x0 : T_s22) (x1 : T_s22) : Option (Int) := event_compare.s x0 x1 some
theorem event_compare.c (x0 : T_s22) (x1 : T_s22) (r : Int) (h : event_compare.u x0 x1 = some r) : Contract C 58 [(.v E_s22 (x0)), (.v E_s22 (x1))] (tupAV (.int .i64) [] r) :=
  contract_s (S := fun k => event_compare.s x0 x1 k) C_ok (orS_ok cmp_Compare_int.e_ok (orS_ok cmp_Or_int.e_ok noS_ok)) (by kernel_rfl) (by kernel_rfl) (by kernel_rfl) (event_compare.ev ⟨1, fun _ => []⟩ x0 x1 (dec (.int .i64) [])) h
noncomputable def event_compare.e : Ent := argI E_s22 fun x0 => argI E_s22 fun x1 => endU (event_compare.u x0 x1) (tupAV (.int .i64) [])
theorem event_compare.e_ok : EntOK C 58 (fun {_} => event_compare.e) := by
  refine entA_ok ?_
  refine argI_ok fun x0 => ?_
  refine argI_ok fun x1 => ?_
  refine endU_ok fun r h => ?_
  exact event_compare.c x0 x1 r h

/-- becket event.Less -/
noncomputable def event_Less.sp : Spec := (orS 58 (fun {_} => event_compare.e) noS)
def event_Less.s {Ω : Type} (x0 : T_s22) (x1 : T_s22) (k : Bool → Option Ω) : Option Ω :=
  (event_compare.u x0 x1).bind fun y1 =>
  k (decide (y1 < 0))
theorem event_Less.ev {Ω : Type} (fuel : Fuel) (x0 : T_s22) (x1 : T_s22) (k : AV → Option Ω) : evFn C event_Less.sp fuel Tryd.f31 (Tryd.f31.body.getD .skip) [(.v E_s22 (x0)), (.v E_s22 (x1))] k = event_Less.s x0 x1 (fun r => k (tupAV .bool [] r)) := by kernel_rfl
def event_Less.u (x0 : T_s22) (x1 : T_s22) : Option (Bool) := event_Less.s x0 x1 some
theorem event_Less.c (x0 : T_s22) (x1 : T_s22) (r : Bool) (h : event_Less.u x0 x1 = some r) : Contract C 31 [(.v E_s22 (x0)), (.v E_s22 (x1))] (tupAV .bool [] r) :=
  contract_s (S := fun k => event_Less.s x0 x1 k) C_ok (orS_ok event_compare.e_ok noS_ok) (by kernel_rfl) (by kernel_rfl) (by kernel_rfl) (event_Less.ev ⟨1, fun _ => []⟩ x0 x1 (dec .bool [])) h
noncomputable def event_Less.e : Ent := argI E_s22 fun x0 => argI E_s22 fun x1 => endU (event_Less.u x0 x1) (tupAV .bool [])
theorem event_Less.e_ok : EntOK C 31 (fun {_} => event_Less.e) := by
  refine entA_ok ?_
  refine argI_ok fun x0 => ?_
  refine argI_ok fun x1 => ?_
  refine endU_ok fun r h => ?_
  exact event_Less.c x0 x1 r h

/-- becket becketlaw28.alive -/
noncomputable def law28_alive.sp : Spec := (orS 31 (fun {_} => event_Less.e) (orS 28 (fun {_} => event_Sort.e) (orS 24 (fun {_} => event_Parse.e) (orS 21 (fun {_} => event_Check.e) (orS 19 (fun {_} => event_Text.e) noS)))))
def law28_alive.s {Ω : Type}  (k : Bool → Option Ω) : Option Ω :=
  (event_Text.u ((5, (0, (3, (0, ())))))).bind fun y1 =>
  (event_Parse.u (bs [116, 97, 107, 101, 32, 99, 49])).bind fun y2 =>
  (event_Parse.u (bs [116, 97, 107, 101, 32, 49])).bind fun y3 =>
  (event_Parse.u (bs [102, 105, 114, 101, 32, 98, 56])).bind fun y4 =>
  (event_Sort.u ([(6, (0, (2, (0, ())))), y2.1])).bind fun y5 =>
  bif ((y1.1).data.toList == ((bs [98, 97, 110, 101, 32, 51, 46, 48])).data.toList) then
    bif (y1.2 == 0) then
      bif (eqI E_s22 y2.1 (4, (1, (0, (0, ()))))) then
        bif (y2.2 == 0) then
          bif (y3.2 == 3) then
            bif (y4.2 == 8) then
              bif (((List.length y5 : Nat) : Int) == 2) then
                bif (idxOK 0 (List.length y5)) then
                  bif (eqI E_s22 (List.getD y5 0 (0, (0, (0, (0, ()))))) y2.1) then
                    bif (idxOK 0 (List.length y5)) then
                      bif (idxOK 1 (List.length y5)) then
                        (event_Less.u ((List.getD y5 0 (0, (0, (0, (0, ())))))) ((List.getD y5 1 (0, (0, (0, (0, ()))))))).bind fun y6 =>
                        bif y6 then
                          k (bif ((event_Check.t ((0, (0, (0, (0, ())))))) == 12) then true else false)
                        else
                          k false
                      else
                        none
                    else
                      none
                  else
                    k false
                else
                  none
              else
                k false
            else
              k false
          else
            k false
        else
          k false
      else
        k false
    else
      k false
  else
    k false
theorem law28_alive.ev {Ω : Type} (fuel : Fuel)  (k : AV → Option Ω) : evFn CMP law28_alive.sp fuel Tryd.f23 (Tryd.f23.body.getD .skip) [] k = law28_alive.s  (fun r => k (tupAV .bool [] r)) := by kernel_rfl
def law28_alive.u  : Option (Bool) := law28_alive.s  some
theorem law28_alive.c  (r : Bool) (h : law28_alive.u  = some r) : Contract CMP 23 [] (tupAV .bool [] r) :=
  contract_s (S := fun k => law28_alive.s  k) CMP_ok (orS_ok (event_Less.e_ok.mono le_C_CMP) (orS_ok (event_Sort.e_ok.mono le_C_CMP) (orS_ok (event_Parse.e_ok.mono le_CM_CMP) (orS_ok (event_Check.e_ok.mono le_C_CMP) (orS_ok event_Text.e_ok noS_ok))))) (by kernel_rfl) (by kernel_rfl) (by kernel_rfl) (law28_alive.ev ⟨1, fun _ => []⟩  (dec .bool [])) h
noncomputable def law28_alive.e : Ent := endU (law28_alive.u ) (tupAV .bool [])
theorem law28_alive.e_ok : EntOK CMP 23 (fun {_} => law28_alive.e) := entA_ok (endU_ok fun r h => law28_alive.c  r h)

/-- becket becketlaw28.EventTells -/
noncomputable def law28_EventTells.sp : Spec := (orS 23 (fun {_} => law28_alive.e) (orS 22 (fun {_} => ref28_Check.e) (orS 21 (fun {_} => event_Check.e) (orS 20 (fun {_} => ref28_Text.e) (orS 19 (fun {_} => event_Text.e) noS)))))
def law28_EventTells.s {Ω : Type} (x0 : T_s22) (k : Bool → Option Ω) : Option Ω :=
  (event_Text.u x0).bind fun y1 =>
  (ref28_Text.u x0).bind fun y2 =>
  bif ((event_Check.t x0) == (ref28_Check.t x0)) then
    bif ((y1.1).data.toList == (y2.1).data.toList) then
      bif (y1.2 == y2.2) then
        law28_alive.u.bind fun y3 =>
        k y3
      else
        k false
    else
      k false
  else
    k false
theorem law28_EventTells.ev {Ω : Type} (fuel : Fuel) (x0 : T_s22) (k : AV → Option Ω) : evFn CMP law28_EventTells.sp fuel Tryd.f5 (Tryd.f5.body.getD .skip) [(.v E_s22 (x0))] k = law28_EventTells.s x0 (fun r => k (tupAV .bool [] r)) := by kernel_rfl
def law28_EventTells.u (x0 : T_s22) : Option (Bool) := law28_EventTells.s x0 some
theorem law28_EventTells.c (x0 : T_s22) (r : Bool) (h : law28_EventTells.u x0 = some r) : Contract CMP 5 [(.v E_s22 (x0))] (tupAV .bool [] r) :=
  contract_s (S := fun k => law28_EventTells.s x0 k) CMP_ok (orS_ok law28_alive.e_ok (orS_ok (ref28_Check.e_ok.mono le_C_CMP) (orS_ok (event_Check.e_ok.mono le_C_CMP) (orS_ok (ref28_Text.e_ok.mono le_C_CMP) (orS_ok event_Text.e_ok noS_ok))))) (by kernel_rfl) (by kernel_rfl) (by kernel_rfl) (law28_EventTells.ev ⟨1, fun _ => []⟩ x0 (dec .bool [])) h
noncomputable def law28_EventTells.e : Ent := argI E_s22 fun x0 => endU (law28_EventTells.u x0) (tupAV .bool [])
theorem law28_EventTells.e_ok : EntOK CMP 5 (fun {_} => law28_EventTells.e) := entA_ok (argI_ok fun x0 => endU_ok fun r h => law28_EventTells.c x0 r h)

end Go.Proofs.YtaednhofihnfkaaDoor.K

/- What functions of the program come to, plainly. -/
import Derived.Test.YtmphlhnpichonaaDoorZ01
set_option maxRecDepth 100000
set_option linter.unusedVariables false
namespace Go.Proofs.YtmphlhnpichonaaDoor.K
open Go Go.RowKit

/-- becket word.Fine -/
noncomputable def word_Fine.sp : Spec := noS
def word_Fine.s {Ω : Type} (x0 : Int) (k : Bool → Option Ω) : Option Ω :=
  bif (decide (x0 ≥ (-2147483648))) then
    k (decide (x0 ≤ 2147483647))
  else
    k false
theorem word_Fine.ev {Ω : Type} (fuel : Fuel) (x0 : Int) (k : AV → Option Ω) : evFn C (fun {_} => word_Fine.sp) fuel Tryd.f52 (Tryd.f52.body.getD .skip) [(.v (.int .i64) (x0))] k = word_Fine.s x0 (fun r => k (tupAV .bool [] r)) := by kernel_rfl
def word_Fine.t (x0 : Int) : Bool :=
  bif (decide (x0 ≥ (-2147483648))) then
    (decide (x0 ≤ 2147483647))
  else
    false
theorem word_Fine.v {Ω : Type} (x0 : Int) (k : Bool → Option Ω) : word_Fine.s x0 k = k (word_Fine.t x0) := by
  delta word_Fine.s word_Fine.t; exact (cond_tot rfl rfl)
theorem word_Fine.c (x0 : Int) : Contract C 52 [(.v (.int .i64) (x0))] (tupAV .bool [] (word_Fine.t x0)) :=
  contract_s (S := fun k => word_Fine.s x0 k) C_ok noS_ok (by kernel_rfl) (by kernel_rfl) (by kernel_rfl) (word_Fine.ev ⟨1, fun _ => []⟩ x0 (dec .bool [])) (word_Fine.v x0 some)
noncomputable def word_Fine.e : Ent := argI (.int .i64) fun x0 => endT (tupAV .bool [] (word_Fine.t x0))
theorem word_Fine.e_ok : EntOK C 52 (fun {_} => word_Fine.e) := entA_ok (argI_ok fun x0 => endT_ok (word_Fine.c x0))

/-- becket word.truth -/
noncomputable def word_truth.sp : Spec := noS
def word_truth.s {Ω : Type} (x0 : Bool) (k : Int → Option Ω) : Option Ω :=
  bif x0 then
    k 1
  else
    k 0
theorem word_truth.ev {Ω : Type} (fuel : Fuel) (x0 : Bool) (k : AV → Option Ω) : evFn C (fun {_} => word_truth.sp) fuel Tryd.f95 (Tryd.f95.body.getD .skip) [(.v .bool (x0))] k = word_truth.s x0 (fun r => k (tupAV (.int .i64) [] r)) := by kernel_rfl
def word_truth.t (x0 : Bool) : Int :=
  bif x0 then
    1
  else
    0
theorem word_truth.v {Ω : Type} (x0 : Bool) (k : Int → Option Ω) : word_truth.s x0 k = k (word_truth.t x0) := by
  delta word_truth.s word_truth.t; exact (cond_tot rfl rfl)
theorem word_truth.c (x0 : Bool) : Contract C 95 [(.v .bool (x0))] (tupAV (.int .i64) [] (word_truth.t x0)) :=
  contract_s (S := fun k => word_truth.s x0 k) C_ok noS_ok (by kernel_rfl) (by kernel_rfl) (by kernel_rfl) (word_truth.ev ⟨1, fun _ => []⟩ x0 (dec (.int .i64) [])) (word_truth.v x0 some)
noncomputable def word_truth.e : Ent := argI .bool fun x0 => endT (tupAV (.int .i64) [] (word_truth.t x0))
theorem word_truth.e_ok : EntOK C 95 (fun {_} => word_truth.e) := entA_ok (argI_ok fun x0 => endT_ok (word_truth.c x0))

/-- becket word.reckoned -/
noncomputable def word_reckoned.sp : Spec := (orS 95 (fun {_} => word_truth.e) noS)
def word_reckoned.s {Ω : Type} (x0 : Int) (x1 : Int) (x2 : Int) (k : Int → Option Ω) : Option Ω :=
  bif (x0 == 1) then
    k (IntKind.wrap .i64 (x1 + x2))
  else
    bif (x0 == 2) then
      k (IntKind.wrap .i64 (x1 - x2))
    else
      bif (x0 == 3) then
        k (IntKind.wrap .i64 (x1 * x2))
      else
        bif (x0 == 4) then
          bif (!(x2 == 0)) then
            k (IntKind.wrap .i64 (Int.tdiv x1 x2))
          else
            none
        else
          bif (x0 == 5) then
            bif (!(x2 == 0)) then
              k (Int.tmod x1 x2)
            else
              none
          else
            bif (x0 == 6) then
              let v1 : Int := (IntKind.wrap .i64 (BitVec.ofInt (IntKind.bits .i64) x1 &&& BitVec.ofInt (IntKind.bits .i64) x2).toNat)
              k v1
            else
              bif (x0 == 7) then
                let v2 : Int := (IntKind.wrap .i64 (BitVec.ofInt (IntKind.bits .i64) x1 ||| BitVec.ofInt (IntKind.bits .i64) x2).toNat)
                k v2
              else
                bif (x0 == 8) then
                  let v3 : Int := (IntKind.wrap .i64 (BitVec.ofInt (IntKind.bits .i64) x1 ^^^ BitVec.ofInt (IntKind.bits .i64) x2).toNat)
                  k v3
                else
                  bif (x0 == 9) then
                    let v4 : Int := (IntKind.wrap .i64 (BitVec.ofInt (IntKind.bits .i64) x2 &&& BitVec.ofInt (IntKind.bits .i64) 31).toNat)
                    bif (decide ((0 : Int) ≤ v4)) then
                      k (IntKind.wrap .i64 (x1 * (2 ^ (min (Int.toNat v4) (IntKind.bits .i64)))))
                    else
                      none
                  else
                    bif (x0 == 10) then
                      let v5 : Int := (IntKind.wrap .i64 (BitVec.ofInt (IntKind.bits .i64) x2 &&& BitVec.ofInt (IntKind.bits .i64) 31).toNat)
                      bif (decide ((0 : Int) ≤ v5)) then
                        k (Int.fdiv x1 (2 ^ (min (Int.toNat v5) (IntKind.bits .i64))))
                      else
                        none
                    else
                      bif (x0 == 11) then
                        k (word_truth.t ((decide (x1 < x2))))
                      else
                        k (word_truth.t (x1 == x2))
theorem word_reckoned.ev {Ω : Type} (fuel : Fuel) (x0 : Int) (x1 : Int) (x2 : Int) (k : AV → Option Ω) : evFn C (fun {_} => word_reckoned.sp) fuel Tryd.f69 (Tryd.f69.body.getD .skip) [(.v (.int .i64) (x0)), (.v (.int .i64) (x1)), (.v (.int .i64) (x2))] k = word_reckoned.s x0 x1 x2 (fun r => k (tupAV (.int .i64) [] r)) := by kernel_rfl
def word_reckoned.u (x0 : Int) (x1 : Int) (x2 : Int) : Option (Int) := word_reckoned.s x0 x1 x2 some
theorem word_reckoned.c (x0 : Int) (x1 : Int) (x2 : Int) (r : Int) (h : word_reckoned.u x0 x1 x2 = some r) : Contract C 69 [(.v (.int .i64) (x0)), (.v (.int .i64) (x1)), (.v (.int .i64) (x2))] (tupAV (.int .i64) [] r) :=
  contract_s (S := fun k => word_reckoned.s x0 x1 x2 k) C_ok (orS_ok word_truth.e_ok noS_ok) (by kernel_rfl) (by kernel_rfl) (by kernel_rfl) (word_reckoned.ev ⟨1, fun _ => []⟩ x0 x1 x2 (dec (.int .i64) [])) h
noncomputable def word_reckoned.e : Ent := argI (.int .i64) fun x0 => argI (.int .i64) fun x1 => argI (.int .i64) fun x2 => endU (word_reckoned.u x0 x1 x2) (tupAV (.int .i64) [])
theorem word_reckoned.e_ok : EntOK C 69 (fun {_} => word_reckoned.e) := entA_ok (argI_ok fun x0 => argI_ok fun x1 => argI_ok fun x2 => endU_ok fun r h => word_reckoned.c x0 x1 x2 r h)

/-- becket word.Wrap -/
noncomputable def word_Wrap.sp : Spec := noS
def word_Wrap.s {Ω : Type} (x0 : Int) (k : Int → Option Ω) : Option Ω :=
  k (IntKind.wrap .i64 (IntKind.wrap .i32 x0))
theorem word_Wrap.ev {Ω : Type} (fuel : Fuel) (x0 : Int) (k : AV → Option Ω) : evFn C (fun {_} => word_Wrap.sp) fuel Tryd.f54 (Tryd.f54.body.getD .skip) [(.v (.int .i64) (x0))] k = word_Wrap.s x0 (fun r => k (tupAV (.int .i64) [] r)) := by kernel_rfl
def word_Wrap.t (x0 : Int) : Int :=
  (IntKind.wrap .i64 (IntKind.wrap .i32 x0))
theorem word_Wrap.v {Ω : Type} (x0 : Int) (k : Int → Option Ω) : word_Wrap.s x0 k = k (word_Wrap.t x0) := by
  delta word_Wrap.s word_Wrap.t; exact rfl
theorem word_Wrap.c (x0 : Int) : Contract C 54 [(.v (.int .i64) (x0))] (tupAV (.int .i64) [] (word_Wrap.t x0)) :=
  contract_s (S := fun k => word_Wrap.s x0 k) C_ok noS_ok (by kernel_rfl) (by kernel_rfl) (by kernel_rfl) (word_Wrap.ev ⟨1, fun _ => []⟩ x0 (dec (.int .i64) [])) (word_Wrap.v x0 some)
noncomputable def word_Wrap.e : Ent := argI (.int .i64) fun x0 => endT (tupAV (.int .i64) [] (word_Wrap.t x0))
theorem word_Wrap.e_ok : EntOK C 54 (fun {_} => word_Wrap.e) := entA_ok (argI_ok fun x0 => endT_ok (word_Wrap.c x0))

/-- becket word.Do -/
noncomputable def word_Do.sp : Spec := (orS 69 (fun {_} => word_reckoned.e) (orS 54 (fun {_} => word_Wrap.e) (orS 52 (fun {_} => word_Fine.e) noS)))
def word_Do.s {Ω : Type} (x0 : Int) (x1 : Int) (x2 : Int) (k : Int × Int → Option Ω) : Option Ω :=
  bif (decide (x0 < 1)) then
    k (0, 1)
  else
    bif (decide (x0 > 12)) then
      k (0, 1)
    else
      bif (!(word_Fine.t x1)) then
        k (0, 8)
      else
        bif (!(word_Fine.t x2)) then
          k (0, 8)
        else
          bif (x0 == 4) then
            bif (x2 == 0) then
              k (0, 16)
            else
              (word_reckoned.u x0 x1 x2).bind fun y1 =>
              k ((word_Wrap.t y1), 0)
          else
            bif (x0 == 5) then
              bif (x2 == 0) then
                k (0, 16)
              else
                (word_reckoned.u x0 x1 x2).bind fun y2 =>
                k ((word_Wrap.t y2), 0)
            else
              (word_reckoned.u x0 x1 x2).bind fun y3 =>
              k ((word_Wrap.t y3), 0)
theorem word_Do.ev {Ω : Type} (fuel : Fuel) (x0 : Int) (x1 : Int) (x2 : Int) (k : AV → Option Ω) : evFn C (fun {_} => word_Do.sp) fuel Tryd.f41 (Tryd.f41.body.getD .skip) [(.v (.int .i64) (x0)), (.v (.int .i64) (x1)), (.v (.int .i64) (x2))] k = word_Do.s x0 x1 x2 (fun r => k (tupAV (.int .i64) [(.int .i64)] r)) := by kernel_rfl
def word_Do.u (x0 : Int) (x1 : Int) (x2 : Int) : Option (Int × Int) := word_Do.s x0 x1 x2 some
theorem word_Do.c (x0 : Int) (x1 : Int) (x2 : Int) (r : Int × Int) (h : word_Do.u x0 x1 x2 = some r) : Contract C 41 [(.v (.int .i64) (x0)), (.v (.int .i64) (x1)), (.v (.int .i64) (x2))] (tupAV (.int .i64) [(.int .i64)] r) :=
  contract_s (S := fun k => word_Do.s x0 x1 x2 k) C_ok (orS_ok word_reckoned.e_ok (orS_ok word_Wrap.e_ok (orS_ok word_Fine.e_ok noS_ok))) (by kernel_rfl) (by kernel_rfl) (by kernel_rfl) (word_Do.ev ⟨1, fun _ => []⟩ x0 x1 x2 (dec (.int .i64) [(.int .i64)])) h
noncomputable def word_Do.e : Ent := argI (.int .i64) fun x0 => argI (.int .i64) fun x1 => argI (.int .i64) fun x2 => endU (word_Do.u x0 x1 x2) (tupAV (.int .i64) [(.int .i64)])
theorem word_Do.e_ok : EntOK C 41 (fun {_} => word_Do.e) := entA_ok (argI_ok fun x0 => argI_ok fun x1 => argI_ok fun x2 => endU_ok fun r h => word_Do.c x0 x1 x2 r h)

/-- becket becketref08.Fine -/
noncomputable def ref08_Fine.sp : Spec := noS
def ref08_Fine.s {Ω : Type} (x0 : Int) (k : Bool → Option Ω) : Option Ω :=
  bif (decide (x0 ≥ (-2147483648))) then
    k (decide (x0 ≤ 2147483647))
  else
    k false
theorem ref08_Fine.ev {Ω : Type} (fuel : Fuel) (x0 : Int) (k : AV → Option Ω) : evFn C (fun {_} => ref08_Fine.sp) fuel Tryd.f53 (Tryd.f53.body.getD .skip) [(.v (.int .i64) (x0))] k = ref08_Fine.s x0 (fun r => k (tupAV .bool [] r)) := by kernel_rfl
def ref08_Fine.t (x0 : Int) : Bool :=
  bif (decide (x0 ≥ (-2147483648))) then
    (decide (x0 ≤ 2147483647))
  else
    false
theorem ref08_Fine.v {Ω : Type} (x0 : Int) (k : Bool → Option Ω) : ref08_Fine.s x0 k = k (ref08_Fine.t x0) := by
  delta ref08_Fine.s ref08_Fine.t; exact (cond_tot rfl rfl)
theorem ref08_Fine.c (x0 : Int) : Contract C 53 [(.v (.int .i64) (x0))] (tupAV .bool [] (ref08_Fine.t x0)) :=
  contract_s (S := fun k => ref08_Fine.s x0 k) C_ok noS_ok (by kernel_rfl) (by kernel_rfl) (by kernel_rfl) (ref08_Fine.ev ⟨1, fun _ => []⟩ x0 (dec .bool [])) (ref08_Fine.v x0 some)
noncomputable def ref08_Fine.e : Ent := argI (.int .i64) fun x0 => endT (tupAV .bool [] (ref08_Fine.t x0))
theorem ref08_Fine.e_ok : EntOK C 53 (fun {_} => ref08_Fine.e) := entA_ok (argI_ok fun x0 => endT_ok (ref08_Fine.c x0))

/-- becket becketref08.Wrap -/
noncomputable def ref08_Wrap.sp : Spec := noS
def ref08_Wrap.s {Ω : Type} (x0 : Int) (k : Int → Option Ω) : Option Ω :=
  bif (decide ((Int.tmod x0 4294967296) < 0)) then
    bif (decide ((IntKind.wrap .i64 ((Int.tmod x0 4294967296) + 4294967296)) > 2147483647)) then
      let v1 : Int := (IntKind.wrap .i64 ((IntKind.wrap .i64 ((Int.tmod x0 4294967296) + 4294967296)) - 4294967296))
      k v1
    else
      k (IntKind.wrap .i64 ((Int.tmod x0 4294967296) + 4294967296))
  else
    bif (decide ((Int.tmod x0 4294967296) > 2147483647)) then
      k (IntKind.wrap .i64 ((Int.tmod x0 4294967296) - 4294967296))
    else
      k (Int.tmod x0 4294967296)
theorem ref08_Wrap.ev {Ω : Type} (fuel : Fuel) (x0 : Int) (k : AV → Option Ω) : evFn C (fun {_} => ref08_Wrap.sp) fuel Tryd.f55 (Tryd.f55.body.getD .skip) [(.v (.int .i64) (x0))] k = ref08_Wrap.s x0 (fun r => k (tupAV (.int .i64) [] r)) := by kernel_rfl
def ref08_Wrap.t (x0 : Int) : Int :=
  bif (decide ((Int.tmod x0 4294967296) < 0)) then
    bif (decide ((IntKind.wrap .i64 ((Int.tmod x0 4294967296) + 4294967296)) > 2147483647)) then
      let v1 : Int := (IntKind.wrap .i64 ((IntKind.wrap .i64 ((Int.tmod x0 4294967296) + 4294967296)) - 4294967296))
      v1
    else
      (IntKind.wrap .i64 ((Int.tmod x0 4294967296) + 4294967296))
  else
    bif (decide ((Int.tmod x0 4294967296) > 2147483647)) then
      (IntKind.wrap .i64 ((Int.tmod x0 4294967296) - 4294967296))
    else
      (Int.tmod x0 4294967296)
theorem ref08_Wrap.v {Ω : Type} (x0 : Int) (k : Int → Option Ω) : ref08_Wrap.s x0 k = k (ref08_Wrap.t x0) := by
  delta ref08_Wrap.s ref08_Wrap.t; exact (cond_tot (cond_tot rfl rfl) (cond_tot rfl rfl))
theorem ref08_Wrap.c (x0 : Int) : Contract C 55 [(.v (.int .i64) (x0))] (tupAV (.int .i64) [] (ref08_Wrap.t x0)) :=
  contract_s (S := fun k => ref08_Wrap.s x0 k) C_ok noS_ok (by kernel_rfl) (by kernel_rfl) (by kernel_rfl) (ref08_Wrap.ev ⟨1, fun _ => []⟩ x0 (dec (.int .i64) [])) (ref08_Wrap.v x0 some)
noncomputable def ref08_Wrap.e : Ent := argI (.int .i64) fun x0 => endT (tupAV (.int .i64) [] (ref08_Wrap.t x0))
theorem ref08_Wrap.e_ok : EntOK C 55 (fun {_} => ref08_Wrap.e) := entA_ok (argI_ok fun x0 => endT_ok (ref08_Wrap.c x0))

/-- becket becketref08.up -/
noncomputable def ref08_up.sp : Spec := noS
def ref08_up.s {Ω : Type} (x0 : Int) (k : Int → Option Ω) : Option Ω :=
  bif (decide (x0 < 0)) then
    k (IntKind.wrap .i64 (x0 + 4294967296))
  else
    k x0
theorem ref08_up.ev {Ω : Type} (fuel : Fuel) (x0 : Int) (k : AV → Option Ω) : evFn C (fun {_} => ref08_up.sp) fuel Tryd.f71 (Tryd.f71.body.getD .skip) [(.v (.int .i64) (x0))] k = ref08_up.s x0 (fun r => k (tupAV (.int .i64) [] r)) := by kernel_rfl
def ref08_up.t (x0 : Int) : Int :=
  bif (decide (x0 < 0)) then
    (IntKind.wrap .i64 (x0 + 4294967296))
  else
    x0
theorem ref08_up.v {Ω : Type} (x0 : Int) (k : Int → Option Ω) : ref08_up.s x0 k = k (ref08_up.t x0) := by
  delta ref08_up.s ref08_up.t; exact (cond_tot rfl rfl)
theorem ref08_up.c (x0 : Int) : Contract C 71 [(.v (.int .i64) (x0))] (tupAV (.int .i64) [] (ref08_up.t x0)) :=
  contract_s (S := fun k => ref08_up.s x0 k) C_ok noS_ok (by kernel_rfl) (by kernel_rfl) (by kernel_rfl) (ref08_up.ev ⟨1, fun _ => []⟩ x0 (dec (.int .i64) [])) (ref08_up.v x0 some)
noncomputable def ref08_up.e : Ent := argI (.int .i64) fun x0 => endT (tupAV (.int .i64) [] (ref08_up.t x0))
theorem ref08_up.e_ok : EntOK C 71 (fun {_} => ref08_up.e) := entA_ok (argI_ok fun x0 => endT_ok (ref08_up.c x0))

/-- becket becketref08.moved -/
noncomputable def ref08_moved.sp : Spec := (orS 55 (fun {_} => ref08_Wrap.e) noS)
def ref08_moved.F (fuel : Nat) : Fuel := ⟨fuel, fun r => bif r == 2 then [3, 4, 5] else []⟩
def ref08_moved.b0 {Ω : Type} (e2_1 : Int) (e2_2 : Bool)   (k : Int → Option Ω) (r2 : Int × Int → Option Ω) (s2 : Int × Int) : Option Ω :=
  bif (decide (s2.2 < e2_1)) then
    bif (!e2_2) then
      r2 ((ref08_Wrap.t ((IntKind.wrap .i64 (2 * s2.1)))), (IntKind.wrap .i64 (s2.2 + 1)))
    else
      bif (decide (s2.1 < 0)) then
        bif ((Int.tmod s2.1 2) != 0) then
          r2 ((IntKind.wrap .i64 ((IntKind.wrap .i64 (Int.tdiv s2.1 2)) - 1)), (IntKind.wrap .i64 (s2.2 + 1)))
        else
          r2 ((IntKind.wrap .i64 (Int.tdiv s2.1 2)), (IntKind.wrap .i64 (s2.2 + 1)))
      else
        r2 ((IntKind.wrap .i64 (Int.tdiv s2.1 2)), (IntKind.wrap .i64 (s2.2 + 1)))
  else
    k s2.1
def ref08_moved.B0 {Ω : Type} (fuel : Nat) (e2_1 : Int) (e2_2 : Bool)  (k : Int → Option Ω) (r2 : Int × Int → Option Ω) (s2 : Int × Int) : Option Ω := ref08_moved.b0 e2_1 e2_2   k r2 s2
theorem ref08_moved.l0 {Ω : Type} (fuel : Nat) (e2_1 : Int) (e2_2 : Bool)  (k : AV → Option Ω) : ∀ m, (fun s => loopK (fun env L k => evCode C (fun {_} => ref08_moved.sp) (ref08_moved.F fuel) (cl (cl (cr (cl (cr (Tryd.f70.body.getD .skip)))))) env L k) [false, false, false, true, true, true, false, false, true, true, true, true, true, true, true, true, true, true, true, true, true, true, true, true, true, true, true, true, true, true, true] 0 (blockK 0 (seqK (fun env L => evCode C (fun {_} => ref08_moved.sp) (ref08_moved.F fuel) (cr (cr (Tryd.f70.body.getD .skip))) env L (finK C Tryd.f70 k)) (finK C Tryd.f70 k))) m ((fun s2 => [(.v (.int .i64) (s2.1)), (.v (.int .i64) (e2_1)), (.v .bool (e2_2)), .dead, .dead, .dead, (.v (.int .i64) (0)), (.v (.int .i64) (s2.2)), .dead, .dead, .dead, .dead, .dead, .dead, .dead, .dead, .dead, .dead, .dead, .dead, .dead, .dead, .dead, .dead, .dead, .dead, .dead, .dead, .dead, .dead, .dead]) s) ((fun s2 => []) s)) = iter (ref08_moved.B0 fuel e2_1 e2_2  (fun r => k (tupAV (.int .i64) [] r))) m :=
  loopK_iter (envOf := (fun s2 => [(.v (.int .i64) (s2.1)), (.v (.int .i64) (e2_1)), (.v .bool (e2_2)), .dead, .dead, .dead, (.v (.int .i64) (0)), (.v (.int .i64) (s2.2)), .dead, .dead, .dead, .dead, .dead, .dead, .dead, .dead, .dead, .dead, .dead, .dead, .dead, .dead, .dead, .dead, .dead, .dead, .dead, .dead, .dead, .dead, .dead])) (LOf := (fun s2 => [])) (B := ref08_moved.B0 fuel e2_1 e2_2  (fun r => k (tupAV (.int .i64) [] r))) (fun R s => by kernel_rfl)
def ref08_moved.sl {Ω : Type} (x0 : Int) (x1 : Int) (x2 : Bool) (lp0 : Int → Bool → Int × Int → Option Ω) (k : Int → Option Ω) : Option Ω :=
  lp0 x1 x2 (x0, 0)
def ref08_moved.s {Ω : Type} (fuel : Nat) (x0 : Int) (x1 : Int) (x2 : Bool) (k : Int → Option Ω) : Option Ω := ref08_moved.sl x0 x1 x2 (fun e2_1 e2_2 => (iter (ref08_moved.B0 fuel e2_1 e2_2  k) fuel)) k
theorem ref08_moved.ev {Ω : Type} (fuel : Nat) (x0 : Int) (x1 : Int) (x2 : Bool) (k : AV → Option Ω) : evFn C (fun {_} => ref08_moved.sp) (ref08_moved.F fuel) Tryd.f70 (Tryd.f70.body.getD .skip) [(.v (.int .i64) (x0)), (.v (.int .i64) (x1)), (.v .bool (x2))] k = ref08_moved.s fuel x0 x1 x2 (fun r => k (tupAV (.int .i64) [] r)) := by
  have h0 : evFn C (fun {_} => ref08_moved.sp) (ref08_moved.F fuel) Tryd.f70 (Tryd.f70.body.getD .skip) [(.v (.int .i64) (x0)), (.v (.int .i64) (x1)), (.v .bool (x2))] k = ref08_moved.sl x0 x1 x2 (fun e2_1 e2_2 => (fun s => loopK (fun env L k => evCode C (fun {_} => ref08_moved.sp) (ref08_moved.F fuel) (cl (cl (cr (cl (cr (Tryd.f70.body.getD .skip)))))) env L k) [false, false, false, true, true, true, false, false, true, true, true, true, true, true, true, true, true, true, true, true, true, true, true, true, true, true, true, true, true, true, true] 0 (blockK 0 (seqK (fun env L => evCode C (fun {_} => ref08_moved.sp) (ref08_moved.F fuel) (cr (cr (Tryd.f70.body.getD .skip))) env L (finK C Tryd.f70 k)) (finK C Tryd.f70 k))) fuel ((fun s2 => [(.v (.int .i64) (s2.1)), (.v (.int .i64) (e2_1)), (.v .bool (e2_2)), .dead, .dead, .dead, (.v (.int .i64) (0)), (.v (.int .i64) (s2.2)), .dead, .dead, .dead, .dead, .dead, .dead, .dead, .dead, .dead, .dead, .dead, .dead, .dead, .dead, .dead, .dead, .dead, .dead, .dead, .dead, .dead, .dead, .dead]) s) ((fun s2 => []) s))) (fun r => k (tupAV (.int .i64) [] r)) := by kernel_rfl
  have h1 : (fun e2_1 e2_2 => (fun s => loopK (fun env L k => evCode C (fun {_} => ref08_moved.sp) (ref08_moved.F fuel) (cl (cl (cr (cl (cr (Tryd.f70.body.getD .skip)))))) env L k) [false, false, false, true, true, true, false, false, true, true, true, true, true, true, true, true, true, true, true, true, true, true, true, true, true, true, true, true, true, true, true] 0 (blockK 0 (seqK (fun env L => evCode C (fun {_} => ref08_moved.sp) (ref08_moved.F fuel) (cr (cr (Tryd.f70.body.getD .skip))) env L (finK C Tryd.f70 k)) (finK C Tryd.f70 k))) fuel ((fun s2 => [(.v (.int .i64) (s2.1)), (.v (.int .i64) (e2_1)), (.v .bool (e2_2)), .dead, .dead, .dead, (.v (.int .i64) (0)), (.v (.int .i64) (s2.2)), .dead, .dead, .dead, .dead, .dead, .dead, .dead, .dead, .dead, .dead, .dead, .dead, .dead, .dead, .dead, .dead, .dead, .dead, .dead, .dead, .dead, .dead, .dead]) s) ((fun s2 => []) s))) = (fun e2_1 e2_2 => (iter (ref08_moved.B0 fuel e2_1 e2_2  (fun r => k (tupAV (.int .i64) [] r))) fuel)) := funext fun e2_1 => funext fun e2_2 => ref08_moved.l0 fuel e2_1 e2_2   k fuel
  rw [h1] at h0
  exact h0
def ref08_moved.g0 {Ω : Type} (e2_1 : Int) (e2_2 : Bool)  (k : Int → Option Ω) : Nat → Int → Option Ω
  | 0, a2_0 =>
    k a2_0
  | d2 + 1, a2_0 =>
    bif (!e2_2) then
      ref08_moved.g0 e2_1 e2_2  k d2 ((ref08_Wrap.t ((IntKind.wrap .i64 (2 * a2_0)))))
    else
      bif (decide (a2_0 < 0)) then
        bif ((Int.tmod a2_0 2) != 0) then
          ref08_moved.g0 e2_1 e2_2  k d2 ((IntKind.wrap .i64 ((IntKind.wrap .i64 (Int.tdiv a2_0 2)) - 1)))
        else
          ref08_moved.g0 e2_1 e2_2  k d2 ((IntKind.wrap .i64 (Int.tdiv a2_0 2)))
      else
        ref08_moved.g0 e2_1 e2_2  k d2 ((IntKind.wrap .i64 (Int.tdiv a2_0 2)))
theorem ref08_moved.h0 {Ω : Type} (e2_1 : Int) (e2_2 : Bool)   (k : Int → Option Ω) (hN : (e2_1 : Int) ≤ 9223372036854775807) : ∀ (m : Nat) (i : Int) (a : Int), -9223372036854775808 ≤ i → Int.toNat ((e2_1 : Int) - i) < m → Le (ref08_moved.g0 e2_1 e2_2  k (Int.toNat ((e2_1 : Int) - i)) a) (iter (ref08_moved.B0 BIG e2_1 e2_2  k) m (a, i)) :=
  iter_count (e2_1 : Int) (fun i2 => (decide (i2 < e2_1))) (fun i => rfl) (fun (i2 : Int) (a2 : Int) => (a2, i2)) (fun xs i2 a2 => ref08_moved.g0 e2_1 e2_2  k xs a2) (ref08_moved.B0 BIG e2_1 e2_2  k)
    (fun i2 a2 r h0 => (Le.fls h0 (Le.refl _)))
    (fun i2 d2 a2 r h0 hw ih => (Le.tru h0 (Le.cond (ih _ hw ((ref08_Wrap.t ((IntKind.wrap .i64 (2 * a2)))))) (Le.cond (Le.cond (ih _ hw ((IntKind.wrap .i64 ((IntKind.wrap .i64 (Int.tdiv a2 2)) - 1)))) (ih _ hw ((IntKind.wrap .i64 (Int.tdiv a2 2))))) (ih _ hw ((IntKind.wrap .i64 (Int.tdiv a2 2))))))))
    hN
def ref08_moved.w {Ω : Type} (x0 : Int) (x1 : Int) (x2 : Bool) (k : Int → Option Ω) : Option Ω :=
  bif (decide (x1 ≤ 4611686018427387904)) then ref08_moved.g0 x1 x2  k ((Int.toNat (x1 - 0))) x0 else none
theorem ref08_moved.le {Ω : Type} (x0 : Int) (x1 : Int) (x2 : Bool) (k : Int → Option Ω) : Le (ref08_moved.w x0 x1 x2 k) (ref08_moved.s BIG x0 x1 x2 k) := by
  delta ref08_moved.w ref08_moved.s ref08_moved.sl
  exact (Le.gd fun hg => ref08_moved.h0 _ _   k (cnt_up hg) BIG 0 (x0) (by decide) (cnt_big hg (by decide)))
def ref08_moved.u (x0 : Int) (x1 : Int) (x2 : Bool) : Option (Int) := ref08_moved.w x0 x1 x2 some
theorem ref08_moved.c (x0 : Int) (x1 : Int) (x2 : Bool) (r : Int) (h : ref08_moved.u x0 x1 x2 = some r) : Contract C 70 [(.v (.int .i64) (x0)), (.v (.int .i64) (x1)), (.v .bool (x2))] (tupAV (.int .i64) [] r) :=
  contract_s (S := fun k => ref08_moved.s BIG x0 x1 x2 k) C_ok (orS_ok ref08_Wrap.e_ok noS_ok) (by kernel_rfl) (by kernel_rfl) (by kernel_rfl) (ref08_moved.ev BIG x0 x1 x2 (dec (.int .i64) [])) (ref08_moved.le x0 x1 x2 some r h)
noncomputable def ref08_moved.e : Ent := argI (.int .i64) fun x0 => argI (.int .i64) fun x1 => argI .bool fun x2 => endU (ref08_moved.u x0 x1 x2) (tupAV (.int .i64) [])
theorem ref08_moved.e_ok : EntOK C 70 (fun {_} => ref08_moved.e) := entA_ok (argI_ok fun x0 => argI_ok fun x1 => argI_ok fun x2 => endU_ok fun r h => ref08_moved.c x0 x1 x2 r h)

/-- becket becketref08.truth -/
noncomputable def ref08_truth.sp : Spec := noS
def ref08_truth.s {Ω : Type} (x0 : Bool) (k : Int → Option Ω) : Option Ω :=
  bif x0 then
    k 1
  else
    k 0
theorem ref08_truth.ev {Ω : Type} (fuel : Fuel) (x0 : Bool) (k : AV → Option Ω) : evFn C (fun {_} => ref08_truth.sp) fuel Tryd.f72 (Tryd.f72.body.getD .skip) [(.v .bool (x0))] k = ref08_truth.s x0 (fun r => k (tupAV (.int .i64) [] r)) := by kernel_rfl
def ref08_truth.t (x0 : Bool) : Int :=
  bif x0 then
    1
  else
    0
theorem ref08_truth.v {Ω : Type} (x0 : Bool) (k : Int → Option Ω) : ref08_truth.s x0 k = k (ref08_truth.t x0) := by
  delta ref08_truth.s ref08_truth.t; exact (cond_tot rfl rfl)
theorem ref08_truth.c (x0 : Bool) : Contract C 72 [(.v .bool (x0))] (tupAV (.int .i64) [] (ref08_truth.t x0)) :=
  contract_s (S := fun k => ref08_truth.s x0 k) C_ok noS_ok (by kernel_rfl) (by kernel_rfl) (by kernel_rfl) (ref08_truth.ev ⟨1, fun _ => []⟩ x0 (dec (.int .i64) [])) (ref08_truth.v x0 some)
noncomputable def ref08_truth.e : Ent := argI .bool fun x0 => endT (tupAV (.int .i64) [] (ref08_truth.t x0))
theorem ref08_truth.e_ok : EntOK C 72 (fun {_} => ref08_truth.e) := entA_ok (argI_ok fun x0 => endT_ok (ref08_truth.c x0))

/-- becket becketref08.bits -/
noncomputable def ref08_bits.sp : Spec := (orS 71 (fun {_} => ref08_up.e) (orS 55 (fun {_} => ref08_Wrap.e) noS))
def ref08_bits.F (fuel : Nat) : Fuel := ⟨fuel, fun r => bif r == 4 then [3, 4, 5, 13, 14, 15, 16] else []⟩
def ref08_bits.b0 {Ω : Type} (e4_1 : Int)   (k : Int → Option Ω) (r4 : Int × Int × Int × Int × Int → Option Ω) (s4 : Int × Int × Int × Int × Int) : Option Ω :=
  bif (decide (s4.2.2.2.2 < 32)) then
    bif (e4_1 == 7) then
      bif (e4_1 == 8) then
        bif ((IntKind.wrap .i64 ((Int.tmod s4.1 2) + (Int.tmod s4.2.1 2))) == 1) then
          r4 ((IntKind.wrap .i64 (Int.tdiv s4.1 2)), (IntKind.wrap .i64 (Int.tdiv s4.2.1 2)), (IntKind.wrap .i64 (s4.2.2.1 + s4.2.2.2.1)), (IntKind.wrap .i64 (2 * s4.2.2.2.1)), (IntKind.wrap .i64 (s4.2.2.2.2 + 1)))
        else
          r4 ((IntKind.wrap .i64 (Int.tdiv s4.1 2)), (IntKind.wrap .i64 (Int.tdiv s4.2.1 2)), s4.2.2.1, (IntKind.wrap .i64 (2 * s4.2.2.2.1)), (IntKind.wrap .i64 (s4.2.2.2.2 + 1)))
      else
        bif (decide ((IntKind.wrap .i64 ((Int.tmod s4.1 2) + (Int.tmod s4.2.1 2))) > 0)) then
          r4 ((IntKind.wrap .i64 (Int.tdiv s4.1 2)), (IntKind.wrap .i64 (Int.tdiv s4.2.1 2)), (IntKind.wrap .i64 (s4.2.2.1 + s4.2.2.2.1)), (IntKind.wrap .i64 (2 * s4.2.2.2.1)), (IntKind.wrap .i64 (s4.2.2.2.2 + 1)))
        else
          r4 ((IntKind.wrap .i64 (Int.tdiv s4.1 2)), (IntKind.wrap .i64 (Int.tdiv s4.2.1 2)), s4.2.2.1, (IntKind.wrap .i64 (2 * s4.2.2.2.1)), (IntKind.wrap .i64 (s4.2.2.2.2 + 1)))
    else
      bif (e4_1 == 8) then
        bif ((IntKind.wrap .i64 ((Int.tmod s4.1 2) + (Int.tmod s4.2.1 2))) == 1) then
          r4 ((IntKind.wrap .i64 (Int.tdiv s4.1 2)), (IntKind.wrap .i64 (Int.tdiv s4.2.1 2)), (IntKind.wrap .i64 (s4.2.2.1 + s4.2.2.2.1)), (IntKind.wrap .i64 (2 * s4.2.2.2.1)), (IntKind.wrap .i64 (s4.2.2.2.2 + 1)))
        else
          r4 ((IntKind.wrap .i64 (Int.tdiv s4.1 2)), (IntKind.wrap .i64 (Int.tdiv s4.2.1 2)), s4.2.2.1, (IntKind.wrap .i64 (2 * s4.2.2.2.1)), (IntKind.wrap .i64 (s4.2.2.2.2 + 1)))
      else
        bif ((IntKind.wrap .i64 ((Int.tmod s4.1 2) + (Int.tmod s4.2.1 2))) == 2) then
          r4 ((IntKind.wrap .i64 (Int.tdiv s4.1 2)), (IntKind.wrap .i64 (Int.tdiv s4.2.1 2)), (IntKind.wrap .i64 (s4.2.2.1 + s4.2.2.2.1)), (IntKind.wrap .i64 (2 * s4.2.2.2.1)), (IntKind.wrap .i64 (s4.2.2.2.2 + 1)))
        else
          r4 ((IntKind.wrap .i64 (Int.tdiv s4.1 2)), (IntKind.wrap .i64 (Int.tdiv s4.2.1 2)), s4.2.2.1, (IntKind.wrap .i64 (2 * s4.2.2.2.1)), (IntKind.wrap .i64 (s4.2.2.2.2 + 1)))
  else
    k (ref08_Wrap.t s4.2.2.1)
def ref08_bits.B0 {Ω : Type} (fuel : Nat) (e4_1 : Int)  (k : Int → Option Ω) (r4 : Int × Int × Int × Int × Int → Option Ω) (s4 : Int × Int × Int × Int × Int) : Option Ω := ref08_bits.b0 e4_1   k r4 s4
theorem ref08_bits.l0 {Ω : Type} (fuel : Nat) (e4_1 : Int)  (k : AV → Option Ω) : ∀ m, (fun s => loopK (fun env L k => evCode C (fun {_} => ref08_bits.sp) (ref08_bits.F fuel) (cl (cl (cr (cl (cr (cr (cr (Tryd.f73.body.getD .skip)))))))) env L k) [false, false, false, true, true, true, false, false, false, false, true, true, true, true, true, true, true, true, true, true, true, true, true, true, true, true, true, true, true, true, true, true, true, true, true, true, true, true, true, true, true, true, true, true, true, true, true, true, true, true, true, true, true] 0 (blockK 0 (seqK (fun env L => evCode C (fun {_} => ref08_bits.sp) (ref08_bits.F fuel) (cr (cr (cr (cr (Tryd.f73.body.getD .skip))))) env L (finK C Tryd.f73 k)) (finK C Tryd.f73 k))) m ((fun s4 => [(.v (.int .i64) (e4_1)), (.v (.int .i64) (s4.1)), (.v (.int .i64) (s4.2.1)), .dead, .dead, .dead, (.v (.int .i64) (0)), (.v (.int .i64) (s4.2.2.1)), (.v (.int .i64) (s4.2.2.2.1)), (.v (.int .i64) (s4.2.2.2.2)), .dead, .dead, .dead, .dead, .dead, .dead, .dead, .dead, .dead, .dead, .dead, .dead, .dead, .dead, .dead, .dead, .dead, .dead, .dead, .dead, .dead, .dead, .dead, .dead, .dead, .dead, .dead, .dead, .dead, .dead, .dead, .dead, .dead, .dead, .dead, .dead, .dead, .dead, .dead, .dead, .dead, .dead, .dead]) s) ((fun s4 => []) s)) = iter (ref08_bits.B0 fuel e4_1  (fun r => k (tupAV (.int .i64) [] r))) m :=
  loopK_iter (envOf := (fun s4 => [(.v (.int .i64) (e4_1)), (.v (.int .i64) (s4.1)), (.v (.int .i64) (s4.2.1)), .dead, .dead, .dead, (.v (.int .i64) (0)), (.v (.int .i64) (s4.2.2.1)), (.v (.int .i64) (s4.2.2.2.1)), (.v (.int .i64) (s4.2.2.2.2)), .dead, .dead, .dead, .dead, .dead, .dead, .dead, .dead, .dead, .dead, .dead, .dead, .dead, .dead, .dead, .dead, .dead, .dead, .dead, .dead, .dead, .dead, .dead, .dead, .dead, .dead, .dead, .dead, .dead, .dead, .dead, .dead, .dead, .dead, .dead, .dead, .dead, .dead, .dead, .dead, .dead, .dead, .dead])) (LOf := (fun s4 => [])) (B := ref08_bits.B0 fuel e4_1  (fun r => k (tupAV (.int .i64) [] r))) (fun R s => by kernel_rfl)
def ref08_bits.sl {Ω : Type} (x0 : Int) (x1 : Int) (x2 : Int) (lp0 : Int → Int × Int × Int × Int × Int → Option Ω) (k : Int → Option Ω) : Option Ω :=
  lp0 x0 ((ref08_up.t x1), (ref08_up.t x2), 0, 1, 0)
def ref08_bits.s {Ω : Type} (fuel : Nat) (x0 : Int) (x1 : Int) (x2 : Int) (k : Int → Option Ω) : Option Ω := ref08_bits.sl x0 x1 x2 (fun e4_1 => (iter (ref08_bits.B0 fuel e4_1  k) fuel)) k
theorem ref08_bits.ev {Ω : Type} (fuel : Nat) (x0 : Int) (x1 : Int) (x2 : Int) (k : AV → Option Ω) : evFn C (fun {_} => ref08_bits.sp) (ref08_bits.F fuel) Tryd.f73 (Tryd.f73.body.getD .skip) [(.v (.int .i64) (x0)), (.v (.int .i64) (x1)), (.v (.int .i64) (x2))] k = ref08_bits.s fuel x0 x1 x2 (fun r => k (tupAV (.int .i64) [] r)) := by
  have h0 : evFn C (fun {_} => ref08_bits.sp) (ref08_bits.F fuel) Tryd.f73 (Tryd.f73.body.getD .skip) [(.v (.int .i64) (x0)), (.v (.int .i64) (x1)), (.v (.int .i64) (x2))] k = ref08_bits.sl x0 x1 x2 (fun e4_1 => (fun s => loopK (fun env L k => evCode C (fun {_} => ref08_bits.sp) (ref08_bits.F fuel) (cl (cl (cr (cl (cr (cr (cr (Tryd.f73.body.getD .skip)))))))) env L k) [false, false, false, true, true, true, false, false, false, false, true, true, true, true, true, true, true, true, true, true, true, true, true, true, true, true, true, true, true, true, true, true, true, true, true, true, true, true, true, true, true, true, true, true, true, true, true, true, true, true, true, true, true] 0 (blockK 0 (seqK (fun env L => evCode C (fun {_} => ref08_bits.sp) (ref08_bits.F fuel) (cr (cr (cr (cr (Tryd.f73.body.getD .skip))))) env L (finK C Tryd.f73 k)) (finK C Tryd.f73 k))) fuel ((fun s4 => [(.v (.int .i64) (e4_1)), (.v (.int .i64) (s4.1)), (.v (.int .i64) (s4.2.1)), .dead, .dead, .dead, (.v (.int .i64) (0)), (.v (.int .i64) (s4.2.2.1)), (.v (.int .i64) (s4.2.2.2.1)), (.v (.int .i64) (s4.2.2.2.2)), .dead, .dead, .dead, .dead, .dead, .dead, .dead, .dead, .dead, .dead, .dead, .dead, .dead, .dead, .dead, .dead, .dead, .dead, .dead, .dead, .dead, .dead, .dead, .dead, .dead, .dead, .dead, .dead, .dead, .dead, .dead, .dead, .dead, .dead, .dead, .dead, .dead, .dead, .dead, .dead, .dead, .dead, .dead]) s) ((fun s4 => []) s))) (fun r => k (tupAV (.int .i64) [] r)) := by kernel_rfl
  have h1 : (fun e4_1 => (fun s => loopK (fun env L k => evCode C (fun {_} => ref08_bits.sp) (ref08_bits.F fuel) (cl (cl (cr (cl (cr (cr (cr (Tryd.f73.body.getD .skip)))))))) env L k) [false, false, false, true, true, true, false, false, false, false, true, true, true, true, true, true, true, true, true, true, true, true, true, true, true, true, true, true, true, true, true, true, true, true, true, true, true, true, true, true, true, true, true, true, true, true, true, true, true, true, true, true, true] 0 (blockK 0 (seqK (fun env L => evCode C (fun {_} => ref08_bits.sp) (ref08_bits.F fuel) (cr (cr (cr (cr (Tryd.f73.body.getD .skip))))) env L (finK C Tryd.f73 k)) (finK C Tryd.f73 k))) fuel ((fun s4 => [(.v (.int .i64) (e4_1)), (.v (.int .i64) (s4.1)), (.v (.int .i64) (s4.2.1)), .dead, .dead, .dead, (.v (.int .i64) (0)), (.v (.int .i64) (s4.2.2.1)), (.v (.int .i64) (s4.2.2.2.1)), (.v (.int .i64) (s4.2.2.2.2)), .dead, .dead, .dead, .dead, .dead, .dead, .dead, .dead, .dead, .dead, .dead, .dead, .dead, .dead, .dead, .dead, .dead, .dead, .dead, .dead, .dead, .dead, .dead, .dead, .dead, .dead, .dead, .dead, .dead, .dead, .dead, .dead, .dead, .dead, .dead, .dead, .dead, .dead, .dead, .dead, .dead, .dead, .dead]) s) ((fun s4 => []) s))) = (fun e4_1 => (iter (ref08_bits.B0 fuel e4_1  (fun r => k (tupAV (.int .i64) [] r))) fuel)) := funext fun e4_1 => ref08_bits.l0 fuel e4_1   k fuel
  rw [h1] at h0
  exact h0
def ref08_bits.g0 {Ω : Type} (e4_1 : Int)  (k : Int → Option Ω) : Nat → Int → Int → Int → Int → Option Ω
  | 0, a4_0, a4_1, a4_2, a4_3 =>
    k (ref08_Wrap.t a4_2)
  | d4 + 1, a4_0, a4_1, a4_2, a4_3 =>
    bif (e4_1 == 7) then
      bif (e4_1 == 8) then
        bif ((IntKind.wrap .i64 ((Int.tmod a4_0 2) + (Int.tmod a4_1 2))) == 1) then
          ref08_bits.g0 e4_1  k d4 ((IntKind.wrap .i64 (Int.tdiv a4_0 2))) ((IntKind.wrap .i64 (Int.tdiv a4_1 2))) ((IntKind.wrap .i64 (a4_2 + a4_3))) ((IntKind.wrap .i64 (2 * a4_3)))
        else
          ref08_bits.g0 e4_1  k d4 ((IntKind.wrap .i64 (Int.tdiv a4_0 2))) ((IntKind.wrap .i64 (Int.tdiv a4_1 2))) a4_2 ((IntKind.wrap .i64 (2 * a4_3)))
      else
        bif (decide ((IntKind.wrap .i64 ((Int.tmod a4_0 2) + (Int.tmod a4_1 2))) > 0)) then
          ref08_bits.g0 e4_1  k d4 ((IntKind.wrap .i64 (Int.tdiv a4_0 2))) ((IntKind.wrap .i64 (Int.tdiv a4_1 2))) ((IntKind.wrap .i64 (a4_2 + a4_3))) ((IntKind.wrap .i64 (2 * a4_3)))
        else
          ref08_bits.g0 e4_1  k d4 ((IntKind.wrap .i64 (Int.tdiv a4_0 2))) ((IntKind.wrap .i64 (Int.tdiv a4_1 2))) a4_2 ((IntKind.wrap .i64 (2 * a4_3)))
    else
      bif (e4_1 == 8) then
        bif ((IntKind.wrap .i64 ((Int.tmod a4_0 2) + (Int.tmod a4_1 2))) == 1) then
          ref08_bits.g0 e4_1  k d4 ((IntKind.wrap .i64 (Int.tdiv a4_0 2))) ((IntKind.wrap .i64 (Int.tdiv a4_1 2))) ((IntKind.wrap .i64 (a4_2 + a4_3))) ((IntKind.wrap .i64 (2 * a4_3)))
        else
          ref08_bits.g0 e4_1  k d4 ((IntKind.wrap .i64 (Int.tdiv a4_0 2))) ((IntKind.wrap .i64 (Int.tdiv a4_1 2))) a4_2 ((IntKind.wrap .i64 (2 * a4_3)))
      else
        bif ((IntKind.wrap .i64 ((Int.tmod a4_0 2) + (Int.tmod a4_1 2))) == 2) then
          ref08_bits.g0 e4_1  k d4 ((IntKind.wrap .i64 (Int.tdiv a4_0 2))) ((IntKind.wrap .i64 (Int.tdiv a4_1 2))) ((IntKind.wrap .i64 (a4_2 + a4_3))) ((IntKind.wrap .i64 (2 * a4_3)))
        else
          ref08_bits.g0 e4_1  k d4 ((IntKind.wrap .i64 (Int.tdiv a4_0 2))) ((IntKind.wrap .i64 (Int.tdiv a4_1 2))) a4_2 ((IntKind.wrap .i64 (2 * a4_3)))
theorem ref08_bits.h0 {Ω : Type} (e4_1 : Int)   (k : Int → Option Ω) (hN : (32 : Int) ≤ 9223372036854775807) : ∀ (m : Nat) (i : Int) (a : Int × Int × Int × Int), -9223372036854775808 ≤ i → Int.toNat ((32 : Int) - i) < m → Le (ref08_bits.g0 e4_1  k (Int.toNat ((32 : Int) - i)) a.1 a.2.1 a.2.2.1 a.2.2.2) (iter (ref08_bits.B0 BIG e4_1  k) m (a.1, a.2.1, a.2.2.1, a.2.2.2, i)) :=
  iter_count (32 : Int) (fun i4 => (decide (i4 < 32))) (fun i => rfl) (fun (i4 : Int) (a4 : Int × Int × Int × Int) => (a4.1, a4.2.1, a4.2.2.1, a4.2.2.2, i4)) (fun xs i4 a4 => ref08_bits.g0 e4_1  k xs a4.1 a4.2.1 a4.2.2.1 a4.2.2.2) (ref08_bits.B0 BIG e4_1  k)
    (fun i4 a4 r h0 => (Le.fls h0 (Le.refl _)))
    (fun i4 d4 a4 r h0 hw ih => (Le.tru h0 (Le.cond (Le.cond (Le.cond (ih _ hw ((IntKind.wrap .i64 (Int.tdiv a4.1 2)), (IntKind.wrap .i64 (Int.tdiv a4.2.1 2)), (IntKind.wrap .i64 (a4.2.2.1 + a4.2.2.2)), (IntKind.wrap .i64 (2 * a4.2.2.2)))) (ih _ hw ((IntKind.wrap .i64 (Int.tdiv a4.1 2)), (IntKind.wrap .i64 (Int.tdiv a4.2.1 2)), a4.2.2.1, (IntKind.wrap .i64 (2 * a4.2.2.2))))) (Le.cond (ih _ hw ((IntKind.wrap .i64 (Int.tdiv a4.1 2)), (IntKind.wrap .i64 (Int.tdiv a4.2.1 2)), (IntKind.wrap .i64 (a4.2.2.1 + a4.2.2.2)), (IntKind.wrap .i64 (2 * a4.2.2.2)))) (ih _ hw ((IntKind.wrap .i64 (Int.tdiv a4.1 2)), (IntKind.wrap .i64 (Int.tdiv a4.2.1 2)), a4.2.2.1, (IntKind.wrap .i64 (2 * a4.2.2.2)))))) (Le.cond (Le.cond (ih _ hw ((IntKind.wrap .i64 (Int.tdiv a4.1 2)), (IntKind.wrap .i64 (Int.tdiv a4.2.1 2)), (IntKind.wrap .i64 (a4.2.2.1 + a4.2.2.2)), (IntKind.wrap .i64 (2 * a4.2.2.2)))) (ih _ hw ((IntKind.wrap .i64 (Int.tdiv a4.1 2)), (IntKind.wrap .i64 (Int.tdiv a4.2.1 2)), a4.2.2.1, (IntKind.wrap .i64 (2 * a4.2.2.2))))) (Le.cond (ih _ hw ((IntKind.wrap .i64 (Int.tdiv a4.1 2)), (IntKind.wrap .i64 (Int.tdiv a4.2.1 2)), (IntKind.wrap .i64 (a4.2.2.1 + a4.2.2.2)), (IntKind.wrap .i64 (2 * a4.2.2.2)))) (ih _ hw ((IntKind.wrap .i64 (Int.tdiv a4.1 2)), (IntKind.wrap .i64 (Int.tdiv a4.2.1 2)), a4.2.2.1, (IntKind.wrap .i64 (2 * a4.2.2.2)))))))))
    hN
def ref08_bits.w {Ω : Type} (x0 : Int) (x1 : Int) (x2 : Int) (k : Int → Option Ω) : Option Ω :=
  ref08_bits.g0 x0  k ((Int.toNat ((32 : Int) - 0))) (ref08_up.t x1) (ref08_up.t x2) 0 1
theorem ref08_bits.le {Ω : Type} (x0 : Int) (x1 : Int) (x2 : Int) (k : Int → Option Ω) : Le (ref08_bits.w x0 x1 x2 k) (ref08_bits.s BIG x0 x1 x2 k) := by
  delta ref08_bits.w ref08_bits.s ref08_bits.sl
  exact (ref08_bits.h0 _   k (by decide) BIG 0 ((ref08_up.t x1), (ref08_up.t x2), 0, 1) (by decide) (by decide))
def ref08_bits.u (x0 : Int) (x1 : Int) (x2 : Int) : Option (Int) := ref08_bits.w x0 x1 x2 some
theorem ref08_bits.c (x0 : Int) (x1 : Int) (x2 : Int) (r : Int) (h : ref08_bits.u x0 x1 x2 = some r) : Contract C 73 [(.v (.int .i64) (x0)), (.v (.int .i64) (x1)), (.v (.int .i64) (x2))] (tupAV (.int .i64) [] r) :=
  contract_s (S := fun k => ref08_bits.s BIG x0 x1 x2 k) C_ok (orS_ok ref08_up.e_ok (orS_ok ref08_Wrap.e_ok noS_ok)) (by kernel_rfl) (by kernel_rfl) (by kernel_rfl) (ref08_bits.ev BIG x0 x1 x2 (dec (.int .i64) [])) (ref08_bits.le x0 x1 x2 some r h)
noncomputable def ref08_bits.e : Ent := argI (.int .i64) fun x0 => argI (.int .i64) fun x1 => argI (.int .i64) fun x2 => endU (ref08_bits.u x0 x1 x2) (tupAV (.int .i64) [])
theorem ref08_bits.e_ok : EntOK C 73 (fun {_} => ref08_bits.e) := entA_ok (argI_ok fun x0 => argI_ok fun x1 => argI_ok fun x2 => endU_ok fun r h => ref08_bits.c x0 x1 x2 r h)

/-- becket becketref08.Do -/
noncomputable def ref08_Do.sp : Spec := (orS 73 (fun {_} => ref08_bits.e) (orS 72 (fun {_} => ref08_truth.e) (orS 71 (fun {_} => ref08_up.e) (orS 70 (fun {_} => ref08_moved.e) (orS 55 (fun {_} => ref08_Wrap.e) (orS 53 (fun {_} => ref08_Fine.e) noS))))))
def ref08_Do.s {Ω : Type} (x0 : Int) (x1 : Int) (x2 : Int) (k : Int × Int → Option Ω) : Option Ω :=
  bif (decide (x0 < 1)) then
    k (0, 1)
  else
    bif (decide (x0 > 12)) then
      k (0, 1)
    else
      bif (!(ref08_Fine.t x1)) then
        k (0, 8)
      else
        bif (!(ref08_Fine.t x2)) then
          k (0, 8)
        else
          bif (x0 == 4) then
            bif (x2 == 0) then
              k (0, 16)
            else
              bif (x0 == 1) then
                k ((ref08_Wrap.t ((IntKind.wrap .i64 (x1 + x2)))), 0)
              else
                bif (x0 == 2) then
                  k ((ref08_Wrap.t ((IntKind.wrap .i64 (x1 - x2)))), 0)
                else
                  bif (x0 == 3) then
                    k ((ref08_Wrap.t ((IntKind.wrap .i64 (x1 * x2)))), 0)
                  else
                    bif (x0 == 4) then
                      bif (!(x2 == 0)) then
                        k ((ref08_Wrap.t ((IntKind.wrap .i64 (Int.tdiv x1 x2)))), 0)
                      else
                        none
                    else
                      bif (x0 == 5) then
                        bif (!(x2 == 0)) then
                          k ((IntKind.wrap .i64 (x1 - (IntKind.wrap .i64 (x2 * (IntKind.wrap .i64 (Int.tdiv x1 x2)))))), 0)
                        else
                          none
                      else
                        bif (x0 == 9) then
                          (ref08_moved.u x1 ((Int.tmod (ref08_up.t x2) 32)) false).bind fun y1 =>
                          k (y1, 0)
                        else
                          bif (x0 == 10) then
                            (ref08_moved.u x1 ((Int.tmod (ref08_up.t x2) 32)) true).bind fun y2 =>
                            k (y2, 0)
                          else
                            bif (x0 == 11) then
                              k ((ref08_truth.t ((decide (x1 < x2)))), 0)
                            else
                              bif (x0 == 12) then
                                k ((ref08_truth.t (x1 == x2)), 0)
                              else
                                (ref08_bits.u x0 x1 x2).bind fun y3 =>
                                k (y3, 0)
          else
            bif (x0 == 5) then
              bif (x2 == 0) then
                k (0, 16)
              else
                bif (x0 == 1) then
                  k ((ref08_Wrap.t ((IntKind.wrap .i64 (x1 + x2)))), 0)
                else
                  bif (x0 == 2) then
                    k ((ref08_Wrap.t ((IntKind.wrap .i64 (x1 - x2)))), 0)
                  else
                    bif (x0 == 3) then
                      k ((ref08_Wrap.t ((IntKind.wrap .i64 (x1 * x2)))), 0)
                    else
                      bif (x0 == 4) then
                        bif (!(x2 == 0)) then
                          k ((ref08_Wrap.t ((IntKind.wrap .i64 (Int.tdiv x1 x2)))), 0)
                        else
                          none
                      else
                        bif (x0 == 5) then
                          bif (!(x2 == 0)) then
                            k ((IntKind.wrap .i64 (x1 - (IntKind.wrap .i64 (x2 * (IntKind.wrap .i64 (Int.tdiv x1 x2)))))), 0)
                          else
                            none
                        else
                          bif (x0 == 9) then
                            (ref08_moved.u x1 ((Int.tmod (ref08_up.t x2) 32)) false).bind fun y4 =>
                            k (y4, 0)
                          else
                            bif (x0 == 10) then
                              (ref08_moved.u x1 ((Int.tmod (ref08_up.t x2) 32)) true).bind fun y5 =>
                              k (y5, 0)
                            else
                              bif (x0 == 11) then
                                k ((ref08_truth.t ((decide (x1 < x2)))), 0)
                              else
                                bif (x0 == 12) then
                                  k ((ref08_truth.t (x1 == x2)), 0)
                                else
                                  (ref08_bits.u x0 x1 x2).bind fun y6 =>
                                  k (y6, 0)
            else
              bif (x0 == 1) then
                k ((ref08_Wrap.t ((IntKind.wrap .i64 (x1 + x2)))), 0)
              else
                bif (x0 == 2) then
                  k ((ref08_Wrap.t ((IntKind.wrap .i64 (x1 - x2)))), 0)
                else
                  bif (x0 == 3) then
                    k ((ref08_Wrap.t ((IntKind.wrap .i64 (x1 * x2)))), 0)
                  else
                    bif (x0 == 4) then
                      bif (!(x2 == 0)) then
                        k ((ref08_Wrap.t ((IntKind.wrap .i64 (Int.tdiv x1 x2)))), 0)
                      else
                        none
                    else
                      bif (x0 == 5) then
                        bif (!(x2 == 0)) then
                          k ((IntKind.wrap .i64 (x1 - (IntKind.wrap .i64 (x2 * (IntKind.wrap .i64 (Int.tdiv x1 x2)))))), 0)
                        else
                          none
                      else
                        bif (x0 == 9) then
                          (ref08_moved.u x1 ((Int.tmod (ref08_up.t x2) 32)) false).bind fun y7 =>
                          k (y7, 0)
                        else
                          bif (x0 == 10) then
                            (ref08_moved.u x1 ((Int.tmod (ref08_up.t x2) 32)) true).bind fun y8 =>
                            k (y8, 0)
                          else
                            bif (x0 == 11) then
                              k ((ref08_truth.t ((decide (x1 < x2)))), 0)
                            else
                              bif (x0 == 12) then
                                k ((ref08_truth.t (x1 == x2)), 0)
                              else
                                (ref08_bits.u x0 x1 x2).bind fun y9 =>
                                k (y9, 0)
theorem ref08_Do.ev {Ω : Type} (fuel : Fuel) (x0 : Int) (x1 : Int) (x2 : Int) (k : AV → Option Ω) : evFn C (fun {_} => ref08_Do.sp) fuel Tryd.f42 (Tryd.f42.body.getD .skip) [(.v (.int .i64) (x0)), (.v (.int .i64) (x1)), (.v (.int .i64) (x2))] k = ref08_Do.s x0 x1 x2 (fun r => k (tupAV (.int .i64) [(.int .i64)] r)) := by kernel_rfl
def ref08_Do.u (x0 : Int) (x1 : Int) (x2 : Int) : Option (Int × Int) := ref08_Do.s x0 x1 x2 some
theorem ref08_Do.c (x0 : Int) (x1 : Int) (x2 : Int) (r : Int × Int) (h : ref08_Do.u x0 x1 x2 = some r) : Contract C 42 [(.v (.int .i64) (x0)), (.v (.int .i64) (x1)), (.v (.int .i64) (x2))] (tupAV (.int .i64) [(.int .i64)] r) :=
  contract_s (S := fun k => ref08_Do.s x0 x1 x2 k) C_ok (orS_ok ref08_bits.e_ok (orS_ok ref08_truth.e_ok (orS_ok ref08_up.e_ok (orS_ok ref08_moved.e_ok (orS_ok ref08_Wrap.e_ok (orS_ok ref08_Fine.e_ok noS_ok)))))) (by kernel_rfl) (by kernel_rfl) (by kernel_rfl) (ref08_Do.ev ⟨1, fun _ => []⟩ x0 x1 x2 (dec (.int .i64) [(.int .i64)])) h
noncomputable def ref08_Do.e : Ent := argI (.int .i64) fun x0 => argI (.int .i64) fun x1 => argI (.int .i64) fun x2 => endU (ref08_Do.u x0 x1 x2) (tupAV (.int .i64) [(.int .i64)])
theorem ref08_Do.e_ok : EntOK C 42 (fun {_} => ref08_Do.e) := entA_ok (argI_ok fun x0 => argI_ok fun x1 => argI_ok fun x2 => endU_ok fun r h => ref08_Do.c x0 x1 x2 r h)

/-- becket word.Text -/
noncomputable def word_Text.sp : Spec := (orS 78 (fun {_} => strconv_Itoa.e) (orS 52 (fun {_} => word_Fine.e) noS))
def word_Text.s {Ω : Type} (x0 : Int) (k : ByteArray × Int → Option Ω) : Option Ω :=
  bif (!(word_Fine.t x0)) then
    k ((bs []), 8)
  else
    (strconv_Itoa.u x0).bind fun y1 =>
    k (y1, 0)
theorem word_Text.ev {Ω : Type} (fuel : Fuel) (x0 : Int) (k : AV → Option Ω) : evFn CP (fun {_} => word_Text.sp) fuel Tryd.f46 (Tryd.f46.body.getD .skip) [(.v (.int .i64) (x0))] k = word_Text.s x0 (fun r => k (tupAV .str [(.int .i64)] r)) := by kernel_rfl
def word_Text.u (x0 : Int) : Option (ByteArray × Int) := word_Text.s x0 some
theorem word_Text.c (x0 : Int) (r : ByteArray × Int) (h : word_Text.u x0 = some r) : Contract CP 46 [(.v (.int .i64) (x0))] (tupAV .str [(.int .i64)] r) :=
  contract_s (S := fun k => word_Text.s x0 k) CP_ok (orS_ok strconv_Itoa.e_ok (orS_ok (word_Fine.e_ok.mono le_C_CP) noS_ok)) (by kernel_rfl) (by kernel_rfl) (by kernel_rfl) (word_Text.ev ⟨1, fun _ => []⟩ x0 (dec .str [(.int .i64)])) h
noncomputable def word_Text.e : Ent := argI (.int .i64) fun x0 => endU (word_Text.u x0) (tupAV .str [(.int .i64)])
theorem word_Text.e_ok : EntOK CP 46 (fun {_} => word_Text.e) := entA_ok (argI_ok fun x0 => endU_ok fun r h => word_Text.c x0 r h)

/-- internal stringslite.HasPrefix -/
noncomputable def internal_stringslite_HasPrefix.sp : Spec := noS
def internal_stringslite_HasPrefix.s {Ω : Type} (x0 : ByteArray) (x1 : ByteArray) (k : Bool → Option Ω) : Option Ω :=
  bif (decide (((x0).size : Int) ≥ ((x1).size : Int))) then
    bif (subC none (some (((x1).size : Int))) (x0).size) then
      k (((subS none (some (((x1).size : Int))) x0)).data.toList == (x1).data.toList)
    else
      none
  else
    k false
theorem internal_stringslite_HasPrefix.ev {Ω : Type} (fuel : Fuel) (x0 : ByteArray) (x1 : ByteArray) (k : AV → Option Ω) : evFn C (fun {_} => internal_stringslite_HasPrefix.sp) fuel Tryd.f112 (Tryd.f112.body.getD .skip) [(.v .str (x0)), (.v .str (x1))] k = internal_stringslite_HasPrefix.s x0 x1 (fun r => k (tupAV .bool [] r)) := by kernel_rfl
def internal_stringslite_HasPrefix.u (x0 : ByteArray) (x1 : ByteArray) : Option (Bool) := internal_stringslite_HasPrefix.s x0 x1 some
theorem internal_stringslite_HasPrefix.c (x0 : ByteArray) (x1 : ByteArray) (r : Bool) (h : internal_stringslite_HasPrefix.u x0 x1 = some r) : Contract C 112 [(.v .str (x0)), (.v .str (x1))] (tupAV .bool [] r) :=
  contract_s (S := fun k => internal_stringslite_HasPrefix.s x0 x1 k) C_ok noS_ok (by kernel_rfl) (by kernel_rfl) (by kernel_rfl) (internal_stringslite_HasPrefix.ev ⟨1, fun _ => []⟩ x0 x1 (dec .bool [])) h
noncomputable def internal_stringslite_HasPrefix.e : Ent := argI .str fun x0 => argI .str fun x1 => endU (internal_stringslite_HasPrefix.u x0 x1) (tupAV .bool [])
theorem internal_stringslite_HasPrefix.e_ok : EntOK C 112 (fun {_} => internal_stringslite_HasPrefix.e) := entA_ok (argI_ok fun x0 => argI_ok fun x1 => endU_ok fun r h => internal_stringslite_HasPrefix.c x0 x1 r h)

/-- internal stringslite.CutPrefix -/
noncomputable def internal_stringslite_CutPrefix.sp : Spec := (orS 112 (fun {_} => internal_stringslite_HasPrefix.e) noS)
def internal_stringslite_CutPrefix.s {Ω : Type} (x0 : ByteArray) (x1 : ByteArray) (k : ByteArray × Bool → Option Ω) : Option Ω :=
  (internal_stringslite_HasPrefix.u x0 x1).bind fun y1 =>
  bif (!y1) then
    k (x0, false)
  else
    bif (subC (some (((x1).size : Int))) none (x0).size) then
      k ((subS (some (((x1).size : Int))) none x0), true)
    else
      none
theorem internal_stringslite_CutPrefix.ev {Ω : Type} (fuel : Fuel) (x0 : ByteArray) (x1 : ByteArray) (k : AV → Option Ω) : evFn C (fun {_} => internal_stringslite_CutPrefix.sp) fuel Tryd.f96 (Tryd.f96.body.getD .skip) [(.v .str (x0)), (.v .str (x1))] k = internal_stringslite_CutPrefix.s x0 x1 (fun r => k (tupAV .str [.bool] r)) := by kernel_rfl
def internal_stringslite_CutPrefix.u (x0 : ByteArray) (x1 : ByteArray) : Option (ByteArray × Bool) := internal_stringslite_CutPrefix.s x0 x1 some
theorem internal_stringslite_CutPrefix.c (x0 : ByteArray) (x1 : ByteArray) (r : ByteArray × Bool) (h : internal_stringslite_CutPrefix.u x0 x1 = some r) : Contract C 96 [(.v .str (x0)), (.v .str (x1))] (tupAV .str [.bool] r) :=
  contract_s (S := fun k => internal_stringslite_CutPrefix.s x0 x1 k) C_ok (orS_ok internal_stringslite_HasPrefix.e_ok noS_ok) (by kernel_rfl) (by kernel_rfl) (by kernel_rfl) (internal_stringslite_CutPrefix.ev ⟨1, fun _ => []⟩ x0 x1 (dec .str [.bool])) h
noncomputable def internal_stringslite_CutPrefix.e : Ent := argI .str fun x0 => argI .str fun x1 => endU (internal_stringslite_CutPrefix.u x0 x1) (tupAV .str [.bool])
theorem internal_stringslite_CutPrefix.e_ok : EntOK C 96 (fun {_} => internal_stringslite_CutPrefix.e) := entA_ok (argI_ok fun x0 => argI_ok fun x1 => endU_ok fun r h => internal_stringslite_CutPrefix.c x0 x1 r h)

/-- strings.CutPrefix -/
noncomputable def strings_CutPrefix.sp : Spec := (orS 96 (fun {_} => internal_stringslite_CutPrefix.e) noS)
def strings_CutPrefix.s {Ω : Type} (x0 : ByteArray) (x1 : ByteArray) (k : ByteArray × Bool → Option Ω) : Option Ω :=
  (internal_stringslite_CutPrefix.u x0 x1).bind fun y1 =>
  k (y1.1, y1.2)
theorem strings_CutPrefix.ev {Ω : Type} (fuel : Fuel) (x0 : ByteArray) (x1 : ByteArray) (k : AV → Option Ω) : evFn C (fun {_} => strings_CutPrefix.sp) fuel Tryd.f74 (Tryd.f74.body.getD .skip) [(.v .str (x0)), (.v .str (x1))] k = strings_CutPrefix.s x0 x1 (fun r => k (tupAV .str [.bool] r)) := by kernel_rfl
def strings_CutPrefix.u (x0 : ByteArray) (x1 : ByteArray) : Option (ByteArray × Bool) := strings_CutPrefix.s x0 x1 some
theorem strings_CutPrefix.c (x0 : ByteArray) (x1 : ByteArray) (r : ByteArray × Bool) (h : strings_CutPrefix.u x0 x1 = some r) : Contract C 74 [(.v .str (x0)), (.v .str (x1))] (tupAV .str [.bool] r) :=
  contract_s (S := fun k => strings_CutPrefix.s x0 x1 k) C_ok (orS_ok internal_stringslite_CutPrefix.e_ok noS_ok) (by kernel_rfl) (by kernel_rfl) (by kernel_rfl) (strings_CutPrefix.ev ⟨1, fun _ => []⟩ x0 x1 (dec .str [.bool])) h
noncomputable def strings_CutPrefix.e : Ent := argI .str fun x0 => argI .str fun x1 => endU (strings_CutPrefix.u x0 x1) (tupAV .str [.bool])
theorem strings_CutPrefix.e_ok : EntOK C 74 (fun {_} => strings_CutPrefix.e) := entA_ok (argI_ok fun x0 => argI_ok fun x1 => endU_ok fun r h => strings_CutPrefix.c x0 x1 r h)

/-- becket word.whole -/
noncomputable def word_whole.sp : Spec := noS
def word_whole.F (fuel : Nat) : Fuel := ⟨fuel, fun r => bif r == 2 then [1, 3, 5] else []⟩
def word_whole.b0 {Ω : Type} (e2_1 : ByteArray) (e2_2 : (List Int)) (e2_3 : Int)   (k : Bool → Option Ω) (r2 : Int → Option Ω) (s2 : Int) : Option Ω :=
  bif (decide (s2 < e2_3)) then
    bif (idxOK s2 (List.length e2_2)) then
      bif (decide ((List.getD e2_2 (Int.toNat s2) 0) < 48)) then
        k false
      else
        bif (decide ((List.getD e2_2 (Int.toNat s2) 0) > 57)) then
          k false
        else
          r2 ((IntKind.wrap .i64 (s2 + 1)))
    else
      none
  else
    bif ((e2_1).data.toList == ((bs [48])).data.toList) then
      k true
    else
      bif (!((e2_1).data.toList == ((bs [])).data.toList)) then
        bif (idxOK 0 (e2_1).size) then
          k ((bAt e2_1 0) != 48)
        else
          none
      else
        k false
def word_whole.B0 {Ω : Type} (fuel : Nat) (e2_1 : ByteArray) (e2_2 : (List Int)) (e2_3 : Int)  (k : Bool → Option Ω) (r2 : Int → Option Ω) (s2 : Int) : Option Ω := word_whole.b0 e2_1 e2_2 e2_3   k r2 s2
theorem word_whole.l0 {Ω : Type} (fuel : Nat) (e2_1 : ByteArray) (e2_2 : (List Int)) (e2_3 : Int)  (k : AV → Option Ω) : ∀ m, (fun s => loopK (fun env L k => evCode C (fun {_} => word_whole.sp) (word_whole.F fuel) (cl (cl (cr (cl (cr (Tryd.f75.body.getD .skip)))))) env L k) [false, true, false, true, true, true, false, false, false, true, true, true, true, true, true, true, true, true, true, true, true, true, true, true, true, true, true, true, true, true] 0 (blockK 0 (seqK (fun env L => evCode C (fun {_} => word_whole.sp) (word_whole.F fuel) (cr (cr (Tryd.f75.body.getD .skip))) env L (finK C Tryd.f75 k)) (finK C Tryd.f75 k))) m ((fun s2 => [(.v .str (e2_1)), .dead, (.v .bool (false)), .dead, .dead, .dead, (.v (.slice (.int .u8)) (e2_2)), (.v (.int .i64) (e2_3)), (.v (.int .i64) (s2)), .dead, .dead, .dead, .dead, .dead, .dead, .dead, .dead, .dead, .dead, .dead, .dead, .dead, .dead, .dead, .dead, .dead, .dead, .dead, .dead, .dead]) s) ((fun s2 => []) s)) = iter (word_whole.B0 fuel e2_1 e2_2 e2_3  (fun r => k (tupAV .bool [] r))) m :=
  loopK_iter (envOf := (fun s2 => [(.v .str (e2_1)), .dead, (.v .bool (false)), .dead, .dead, .dead, (.v (.slice (.int .u8)) (e2_2)), (.v (.int .i64) (e2_3)), (.v (.int .i64) (s2)), .dead, .dead, .dead, .dead, .dead, .dead, .dead, .dead, .dead, .dead, .dead, .dead, .dead, .dead, .dead, .dead, .dead, .dead, .dead, .dead, .dead])) (LOf := (fun s2 => [])) (B := word_whole.B0 fuel e2_1 e2_2 e2_3  (fun r => k (tupAV .bool [] r))) (fun R s => by kernel_rfl)
def word_whole.sl {Ω : Type} (x0 : ByteArray) (lp0 : ByteArray → (List Int) → Int → Int → Option Ω) (k : Bool → Option Ω) : Option Ω :=
  lp0 x0 (bytesI x0) (((List.length (bytesI x0) : Nat) : Int)) (0)
def word_whole.s {Ω : Type} (fuel : Nat) (x0 : ByteArray) (k : Bool → Option Ω) : Option Ω := word_whole.sl x0 (fun e2_1 e2_2 e2_3 => (iter (word_whole.B0 fuel e2_1 e2_2 e2_3  k) fuel)) k
theorem word_whole.ev {Ω : Type} (fuel : Nat) (x0 : ByteArray) (k : AV → Option Ω) : evFn C (fun {_} => word_whole.sp) (word_whole.F fuel) Tryd.f75 (Tryd.f75.body.getD .skip) [(.v .str (x0))] k = word_whole.s fuel x0 (fun r => k (tupAV .bool [] r)) := by
  have h0 : evFn C (fun {_} => word_whole.sp) (word_whole.F fuel) Tryd.f75 (Tryd.f75.body.getD .skip) [(.v .str (x0))] k = word_whole.sl x0 (fun e2_1 e2_2 e2_3 => (fun s => loopK (fun env L k => evCode C (fun {_} => word_whole.sp) (word_whole.F fuel) (cl (cl (cr (cl (cr (Tryd.f75.body.getD .skip)))))) env L k) [false, true, false, true, true, true, false, false, false, true, true, true, true, true, true, true, true, true, true, true, true, true, true, true, true, true, true, true, true, true] 0 (blockK 0 (seqK (fun env L => evCode C (fun {_} => word_whole.sp) (word_whole.F fuel) (cr (cr (Tryd.f75.body.getD .skip))) env L (finK C Tryd.f75 k)) (finK C Tryd.f75 k))) fuel ((fun s2 => [(.v .str (e2_1)), .dead, (.v .bool (false)), .dead, .dead, .dead, (.v (.slice (.int .u8)) (e2_2)), (.v (.int .i64) (e2_3)), (.v (.int .i64) (s2)), .dead, .dead, .dead, .dead, .dead, .dead, .dead, .dead, .dead, .dead, .dead, .dead, .dead, .dead, .dead, .dead, .dead, .dead, .dead, .dead, .dead]) s) ((fun s2 => []) s))) (fun r => k (tupAV .bool [] r)) := by kernel_rfl
  have h1 : (fun e2_1 e2_2 e2_3 => (fun s => loopK (fun env L k => evCode C (fun {_} => word_whole.sp) (word_whole.F fuel) (cl (cl (cr (cl (cr (Tryd.f75.body.getD .skip)))))) env L k) [false, true, false, true, true, true, false, false, false, true, true, true, true, true, true, true, true, true, true, true, true, true, true, true, true, true, true, true, true, true] 0 (blockK 0 (seqK (fun env L => evCode C (fun {_} => word_whole.sp) (word_whole.F fuel) (cr (cr (Tryd.f75.body.getD .skip))) env L (finK C Tryd.f75 k)) (finK C Tryd.f75 k))) fuel ((fun s2 => [(.v .str (e2_1)), .dead, (.v .bool (false)), .dead, .dead, .dead, (.v (.slice (.int .u8)) (e2_2)), (.v (.int .i64) (e2_3)), (.v (.int .i64) (s2)), .dead, .dead, .dead, .dead, .dead, .dead, .dead, .dead, .dead, .dead, .dead, .dead, .dead, .dead, .dead, .dead, .dead, .dead, .dead, .dead, .dead]) s) ((fun s2 => []) s))) = (fun e2_1 e2_2 e2_3 => (iter (word_whole.B0 fuel e2_1 e2_2 e2_3  (fun r => k (tupAV .bool [] r))) fuel)) := funext fun e2_1 => funext fun e2_2 => funext fun e2_3 => word_whole.l0 fuel e2_1 e2_2 e2_3   k fuel
  rw [h1] at h0
  exact h0
def word_whole.g0 {Ω : Type} (e2_1 : ByteArray) (e2_2 : (List Int))  (k : Bool → Option Ω) : List Int → Option Ω
  | [] =>
    bif ((e2_1).data.toList == ((bs [48])).data.toList) then
      k true
    else
      bif (!((e2_1).data.toList == ((bs [])).data.toList)) then
        bif (idxOK 0 (e2_1).size) then
          k ((bAt e2_1 0) != 48)
        else
          none
      else
        k false
  | x2 :: xs2 =>
    bif (decide (x2 < 48)) then
      k false
    else
      bif (decide (x2 > 57)) then
        k false
      else
        word_whole.g0 e2_1 e2_2  k xs2
theorem word_whole.h0 {Ω : Type} (e2_1 : ByteArray) (e2_2 : (List Int))   (k : Bool → Option Ω) (hX : ((List.length e2_2 : Nat) : Int) ≤ 9223372036854775807) : ∀ (m : Nat) (i : Int) (a : Unit), 0 ≤ i → i ≤ ((List.length e2_2 : Nat) : Int) → ((List.length e2_2 : Nat) : Int) < m + i → Le (word_whole.g0 e2_1 e2_2  k (List.drop (Int.toNat i) e2_2) ) (iter (word_whole.B0 BIG e2_1 e2_2 (((List.length e2_2 : Nat) : Int))  k) m (i)) :=
  iter_list e2_2 0 (fun (i2 : Int) (a2 : Unit) => (i2)) (fun xs i2 a2 => word_whole.g0 e2_1 e2_2  k xs ) (word_whole.B0 BIG e2_1 e2_2 (((List.length e2_2 : Nat) : Int))  k)
    (fun i2 a2 r h0 => (Le.fls h0 (Le.cond (Le.refl _) (Le.cond (Le.cond (Le.refl _) Le.nil) (Le.refl _)))))
    (fun i2 xs2 a2 r h0 h1 hw ih => (Le.tru h0 (Le.tru h1 (Le.cond (Le.refl _) (Le.cond (Le.refl _) (ih _ hw ()))))))
    hX
def word_whole.w {Ω : Type} (x0 : ByteArray) (k : Bool → Option Ω) : Option Ω :=
  bif decide (((List.length (bytesI x0) : Nat) : Int) ≤ 4611686018427387904) then word_whole.g0 x0 (bytesI x0)  k (bytesI x0)  else none
theorem word_whole.le {Ω : Type} (x0 : ByteArray) (k : Bool → Option Ω) : Le (word_whole.w x0 k) (word_whole.s BIG x0 k) := by
  delta word_whole.w word_whole.s word_whole.sl
  exact (Le.gd fun hg => word_whole.h0 _ _   k (le_up (of_decide_eq_true hg)) BIG 0 () (by decide) (zero_le_len _) (big_list (of_decide_eq_true hg)))
def word_whole.u (x0 : ByteArray) : Option (Bool) := word_whole.w x0 some
theorem word_whole.c (x0 : ByteArray) (r : Bool) (h : word_whole.u x0 = some r) : Contract C 75 [(.v .str (x0))] (tupAV .bool [] r) :=
  contract_s (S := fun k => word_whole.s BIG x0 k) C_ok noS_ok (by kernel_rfl) (by kernel_rfl) (by kernel_rfl) (word_whole.ev BIG x0 (dec .bool [])) (word_whole.le x0 some r h)
noncomputable def word_whole.e : Ent := argI .str fun x0 => endU (word_whole.u x0) (tupAV .bool [])
theorem word_whole.e_ok : EntOK C 75 (fun {_} => word_whole.e) := entA_ok (argI_ok fun x0 => endU_ok fun r h => word_whole.c x0 r h)

/-- becket word.Parse -/
noncomputable def word_Parse.sp : Spec := (orS 76 (fun {_} => strconv_Atoi.e) (orS 75 (fun {_} => word_whole.e) (orS 74 (fun {_} => strings_CutPrefix.e) (orS 52 (fun {_} => word_Fine.e) noS))))
def word_Parse.s {Ω : Type} (x0 : ByteArray) (k : Int × Int → Option Ω) : Option Ω :=
  (strings_CutPrefix.u x0 (bs [45])).bind fun y1 =>
  (word_whole.u y1.1).bind fun y2 =>
  bif (!y2) then
    k (0, 3)
  else
    bif y1.2 then
      bif ((y1.1).data.toList == ((bs [48])).data.toList) then
        k (0, 3)
      else
        bif (decide (((y1.1).size : Int) ≤ 10)) then
          (strconv_Atoi.u y1.1).bind fun y3 =>
          bif y1.2 then
            bif (!(word_Fine.t ((IntKind.wrap .i64 (0 - y3.1))))) then
              k (0, 8)
            else
              k ((IntKind.wrap .i64 (0 - y3.1)), 0)
          else
            bif (!(word_Fine.t y3.1)) then
              k (0, 8)
            else
              k (y3.1, 0)
        else
          bif y1.2 then
            bif (!(word_Fine.t (-2147483649))) then
              k (0, 8)
            else
              k ((-2147483649), 0)
          else
            bif (!(word_Fine.t 2147483649)) then
              k (0, 8)
            else
              k (2147483649, 0)
    else
      bif (decide (((y1.1).size : Int) ≤ 10)) then
        (strconv_Atoi.u y1.1).bind fun y4 =>
        bif y1.2 then
          bif (!(word_Fine.t ((IntKind.wrap .i64 (0 - y4.1))))) then
            k (0, 8)
          else
            k ((IntKind.wrap .i64 (0 - y4.1)), 0)
        else
          bif (!(word_Fine.t y4.1)) then
            k (0, 8)
          else
            k (y4.1, 0)
      else
        bif y1.2 then
          bif (!(word_Fine.t (-2147483649))) then
            k (0, 8)
          else
            k ((-2147483649), 0)
        else
          bif (!(word_Fine.t 2147483649)) then
            k (0, 8)
          else
            k (2147483649, 0)
theorem word_Parse.ev {Ω : Type} (fuel : Fuel) (x0 : ByteArray) (k : AV → Option Ω) : evFn C (fun {_} => word_Parse.sp) fuel Tryd.f44 (Tryd.f44.body.getD .skip) [(.v .str (x0))] k = word_Parse.s x0 (fun r => k (tupAV (.int .i64) [(.int .i64)] r)) := by kernel_rfl
def word_Parse.u (x0 : ByteArray) : Option (Int × Int) := word_Parse.s x0 some
theorem word_Parse.c (x0 : ByteArray) (r : Int × Int) (h : word_Parse.u x0 = some r) : Contract C 44 [(.v .str (x0))] (tupAV (.int .i64) [(.int .i64)] r) :=
  contract_s (S := fun k => word_Parse.s x0 k) C_ok (orS_ok strconv_Atoi.e_ok (orS_ok word_whole.e_ok (orS_ok strings_CutPrefix.e_ok (orS_ok word_Fine.e_ok noS_ok)))) (by kernel_rfl) (by kernel_rfl) (by kernel_rfl) (word_Parse.ev ⟨1, fun _ => []⟩ x0 (dec (.int .i64) [(.int .i64)])) h
noncomputable def word_Parse.e : Ent := argI .str fun x0 => endU (word_Parse.u x0) (tupAV (.int .i64) [(.int .i64)])
theorem word_Parse.e_ok : EntOK C 44 (fun {_} => word_Parse.e) := entA_ok (argI_ok fun x0 => endU_ok fun r h => word_Parse.c x0 r h)

/-- becket becketlaw08.alive -/
noncomputable def law08_alive.sp : Spec := (orS 52 (fun {_} => word_Fine.e) (orS 46 (fun {_} => word_Text.e) (orS 44 (fun {_} => word_Parse.e) (orS 41 (fun {_} => word_Do.e) noS))))
def law08_alive.s {Ω : Type}  (k : Bool → Option Ω) : Option Ω :=
  (word_Do.u 1 2147483647 1).bind fun y1 =>
  (word_Do.u 4 (-7) 2).bind fun y2 =>
  (word_Do.u 10 (-8) 1).bind fun y3 =>
  (word_Do.u 5 1 0).bind fun y4 =>
  (word_Text.u (-12)).bind fun y5 =>
  (word_Parse.u (bs [45, 49, 50])).bind fun y6 =>
  bif (y1.1 == (-2147483648)) then
    bif (y1.2 == 0) then
      bif (y2.1 == (-3)) then
        bif (y2.2 == 0) then
          bif (y3.1 == (-4)) then
            bif (y3.2 == 0) then
              bif (y4.2 == 16) then
                bif ((y5.1).data.toList == ((bs [45, 49, 50])).data.toList) then
                  bif (y5.2 == 0) then
                    bif (y6.1 == (-12)) then
                      bif (y6.2 == 0) then
                        k (bif (word_Fine.t y1.1) then true else false)
                      else
                        k false
                    else
                      k false
                  else
                    k false
                else
                  k false
              else
                k false
            else
              k false
          else
            k false
        else
          k false
      else
        k false
    else
      k false
  else
    k false
theorem law08_alive.ev {Ω : Type} (fuel : Fuel)  (k : AV → Option Ω) : evFn CP (fun {_} => law08_alive.sp) fuel Tryd.f43 (Tryd.f43.body.getD .skip) [] k = law08_alive.s  (fun r => k (tupAV .bool [] r)) := by kernel_rfl
def law08_alive.u  : Option (Bool) := law08_alive.s  some
theorem law08_alive.c  (r : Bool) (h : law08_alive.u  = some r) : Contract CP 43 [] (tupAV .bool [] r) :=
  contract_s (S := fun k => law08_alive.s  k) CP_ok (orS_ok (word_Fine.e_ok.mono le_C_CP) (orS_ok word_Text.e_ok (orS_ok (word_Parse.e_ok.mono le_C_CP) (orS_ok (word_Do.e_ok.mono le_C_CP) noS_ok)))) (by kernel_rfl) (by kernel_rfl) (by kernel_rfl) (law08_alive.ev ⟨1, fun _ => []⟩  (dec .bool [])) h
noncomputable def law08_alive.e : Ent := endU (law08_alive.u ) (tupAV .bool [])
theorem law08_alive.e_ok : EntOK CP 43 (fun {_} => law08_alive.e) := entA_ok (endU_ok fun r h => law08_alive.c  r h)

/-- becket becketlaw08.WordDoes -/
noncomputable def law08_WordDoes.sp : Spec := (orS 43 (fun {_} => law08_alive.e) (orS 42 (fun {_} => ref08_Do.e) (orS 41 (fun {_} => word_Do.e) noS)))
def law08_WordDoes.s {Ω : Type} (x0 : Int) (x1 : Int) (x2 : Int) (k : Bool → Option Ω) : Option Ω :=
  (word_Do.u x0 x1 x2).bind fun y1 =>
  (ref08_Do.u x0 x1 x2).bind fun y2 =>
  bif (y1.1 == y2.1) then
    bif (y1.2 == y2.2) then
      law08_alive.u.bind fun y3 =>
      k y3
    else
      k false
  else
    k false
theorem law08_WordDoes.ev {Ω : Type} (fuel : Fuel) (x0 : Int) (x1 : Int) (x2 : Int) (k : AV → Option Ω) : evFn CP (fun {_} => law08_WordDoes.sp) fuel Tryd.f11 (Tryd.f11.body.getD .skip) [(.v (.int .i64) (x0)), (.v (.int .i64) (x1)), (.v (.int .i64) (x2))] k = law08_WordDoes.s x0 x1 x2 (fun r => k (tupAV .bool [] r)) := by kernel_rfl
def law08_WordDoes.u (x0 : Int) (x1 : Int) (x2 : Int) : Option (Bool) := law08_WordDoes.s x0 x1 x2 some
theorem law08_WordDoes.c (x0 : Int) (x1 : Int) (x2 : Int) (r : Bool) (h : law08_WordDoes.u x0 x1 x2 = some r) : Contract CP 11 [(.v (.int .i64) (x0)), (.v (.int .i64) (x1)), (.v (.int .i64) (x2))] (tupAV .bool [] r) :=
  contract_s (S := fun k => law08_WordDoes.s x0 x1 x2 k) CP_ok (orS_ok law08_alive.e_ok (orS_ok (ref08_Do.e_ok.mono le_C_CP) (orS_ok (word_Do.e_ok.mono le_C_CP) noS_ok))) (by kernel_rfl) (by kernel_rfl) (by kernel_rfl) (law08_WordDoes.ev ⟨1, fun _ => []⟩ x0 x1 x2 (dec .bool [])) h
noncomputable def law08_WordDoes.e : Ent := argI (.int .i64) fun x0 => argI (.int .i64) fun x1 => argI (.int .i64) fun x2 => endU (law08_WordDoes.u x0 x1 x2) (tupAV .bool [])
theorem law08_WordDoes.e_ok : EntOK CP 11 (fun {_} => law08_WordDoes.e) := entA_ok (argI_ok fun x0 => argI_ok fun x1 => argI_ok fun x2 => endU_ok fun r h => law08_WordDoes.c x0 x1 x2 r h)

/-- becket becketref08.Parse -/
noncomputable def ref08_Parse.sp : Spec := (orS 77 (fun {_} => ref01_Plain.e) (orS 53 (fun {_} => ref08_Fine.e) noS))
def ref08_Parse.F (fuel : Nat) : Fuel := ⟨fuel, fun r => bif r == 11 then [1, 5, 6, 9, 10, 11, 12, 13, 14, 15, 16, 17, 18, 19, 20, 21, 22, 23, 24, 25, 26, 27, 28, 29, 30, 31, 32, 33, 34, 35, 36] else []⟩
def ref08_Parse.b0 {Ω : Type} (e11_1 : ByteArray) (e11_2 : Bool)   (k : Int × Int → Option Ω) (r11 : Int × Int → Option Ω) (s11 : Int × Int) : Option Ω :=
  bif (decide (s11.2 < ((e11_1).size : Int))) then
    bif (idxOK s11.2 (e11_1).size) then
      let v2 : Int := (IntKind.wrap .i64 ((IntKind.wrap .i64 (10 * s11.1)) + (IntKind.wrap .i64 (IntKind.wrap .u8 ((bAt e11_1 (Int.toNat s11.2)) - 48)))))
      r11 (v2, (IntKind.wrap .i64 (s11.2 + 1)))
    else
      none
  else
    bif e11_2 then
      bif (!(ref08_Fine.t ((IntKind.wrap .i64 (0 - s11.1))))) then
        k (0, 8)
      else
        k ((IntKind.wrap .i64 (0 - s11.1)), 0)
    else
      bif (!(ref08_Fine.t s11.1)) then
        k (0, 8)
      else
        k (s11.1, 0)
def ref08_Parse.B0 {Ω : Type} (fuel : Nat) (e11_1 : ByteArray) (e11_2 : Bool)  (k : Int × Int → Option Ω) (r11 : Int × Int → Option Ω) (s11 : Int × Int) : Option Ω := ref08_Parse.b0 e11_1 e11_2   k r11 s11
def ref08_Parse.b1 {Ω : Type} (e11_1 : ByteArray)   (k : Int × Int → Option Ω) (r11 : Int × Int → Option Ω) (s11 : Int × Int) : Option Ω :=
  bif (decide (s11.2 < ((e11_1).size : Int))) then
    bif (idxOK s11.2 (e11_1).size) then
      let v8 : Int := (IntKind.wrap .i64 ((IntKind.wrap .i64 (10 * s11.1)) + (IntKind.wrap .i64 (IntKind.wrap .u8 ((bAt e11_1 (Int.toNat s11.2)) - 48)))))
      r11 (v8, (IntKind.wrap .i64 (s11.2 + 1)))
    else
      none
  else
    bif (!(ref08_Fine.t s11.1)) then
      k (0, 8)
    else
      k (s11.1, 0)
def ref08_Parse.B1 {Ω : Type} (fuel : Nat) (e11_1 : ByteArray)  (k : Int × Int → Option Ω) (r11 : Int × Int → Option Ω) (s11 : Int × Int) : Option Ω := ref08_Parse.b1 e11_1   k r11 s11
theorem ref08_Parse.l0 {Ω : Type} (fuel : Nat) (e11_1 : ByteArray) (e11_2 : Bool)  (k : AV → Option Ω) : ∀ m, (fun s => loopK (fun env L k => evCode C (fun {_} => ref08_Parse.sp) (ref08_Parse.F fuel) (cl (cl (cr (cl (cr (cr (cr (cr (cr (cr (cr (Tryd.f45.body.getD .skip)))))))))))) env L k) [false, true, false, false, false, true, true, false, false, true, true, true, true, true, true, true, true, true, true, true, true, true, true, true, true, true, true, true, true, true, true, true, true, true, true, true, true, true, true, true, true, true, true, true, true, true, true, true, true, true, true, true, true, true, true, true, true, true] 0 (blockK 0 (seqK (fun env L => evCode C (fun {_} => ref08_Parse.sp) (ref08_Parse.F fuel) (cr (cr (cr (cr (cr (cr (cr (cr (Tryd.f45.body.getD .skip))))))))) env L (finK C Tryd.f45 k)) (finK C Tryd.f45 k))) m ((fun s11 => [(.v .str (e11_1)), .dead, (.v (.int .i64) (0)), (.v (.int .i64) (0)), (.v .bool (e11_2)), .dead, .dead, (.v (.int .i64) (s11.1)), (.v (.int .i64) (s11.2)), .dead, .dead, .dead, .dead, .dead, .dead, .dead, .dead, .dead, .dead, .dead, .dead, .dead, .dead, .dead, .dead, .dead, .dead, .dead, .dead, .dead, .dead, .dead, .dead, .dead, .dead, .dead, .dead, .dead, .dead, .dead, .dead, .dead, .dead, .dead, .dead, .dead, .dead, .dead, .dead, .dead, .dead, .dead, .dead, .dead, .dead, .dead, .dead, .dead]) s) ((fun s11 => []) s)) = iter (ref08_Parse.B0 fuel e11_1 e11_2  (fun r => k (tupAV (.int .i64) [(.int .i64)] r))) m :=
  loopK_iter (envOf := (fun s11 => [(.v .str (e11_1)), .dead, (.v (.int .i64) (0)), (.v (.int .i64) (0)), (.v .bool (e11_2)), .dead, .dead, (.v (.int .i64) (s11.1)), (.v (.int .i64) (s11.2)), .dead, .dead, .dead, .dead, .dead, .dead, .dead, .dead, .dead, .dead, .dead, .dead, .dead, .dead, .dead, .dead, .dead, .dead, .dead, .dead, .dead, .dead, .dead, .dead, .dead, .dead, .dead, .dead, .dead, .dead, .dead, .dead, .dead, .dead, .dead, .dead, .dead, .dead, .dead, .dead, .dead, .dead, .dead, .dead, .dead, .dead, .dead, .dead, .dead])) (LOf := (fun s11 => [])) (B := ref08_Parse.B0 fuel e11_1 e11_2  (fun r => k (tupAV (.int .i64) [(.int .i64)] r))) (fun R s => by kernel_rfl)
theorem ref08_Parse.l1 {Ω : Type} (fuel : Nat) (e11_1 : ByteArray)  (k : AV → Option Ω) : ∀ m, (fun s => loopK (fun env L k => evCode C (fun {_} => ref08_Parse.sp) (ref08_Parse.F fuel) (cl (cl (cr (cl (cr (cr (cr (cr (cr (cr (cr (Tryd.f45.body.getD .skip)))))))))))) env L k) [false, true, false, false, false, true, true, false, false, true, true, true, true, true, true, true, true, true, true, true, true, true, true, true, true, true, true, true, true, true, true, true, true, true, true, true, true, true, true, true, true, true, true, true, true, true, true, true, true, true, true, true, true, true, true, true, true, true] 0 (blockK 0 (seqK (fun env L => evCode C (fun {_} => ref08_Parse.sp) (ref08_Parse.F fuel) (cr (cr (cr (cr (cr (cr (cr (cr (Tryd.f45.body.getD .skip))))))))) env L (finK C Tryd.f45 k)) (finK C Tryd.f45 k))) m ((fun s11 => [(.v .str (e11_1)), .dead, (.v (.int .i64) (0)), (.v (.int .i64) (0)), (.v .bool (false)), .dead, .dead, (.v (.int .i64) (s11.1)), (.v (.int .i64) (s11.2)), .dead, .dead, .dead, .dead, .dead, .dead, .dead, .dead, .dead, .dead, .dead, .dead, .dead, .dead, .dead, .dead, .dead, .dead, .dead, .dead, .dead, .dead, .dead, .dead, .dead, .dead, .dead, .dead, .dead, .dead, .dead, .dead, .dead, .dead, .dead, .dead, .dead, .dead, .dead, .dead, .dead, .dead, .dead, .dead, .dead, .dead, .dead, .dead, .dead]) s) ((fun s11 => []) s)) = iter (ref08_Parse.B1 fuel e11_1  (fun r => k (tupAV (.int .i64) [(.int .i64)] r))) m :=
  loopK_iter (envOf := (fun s11 => [(.v .str (e11_1)), .dead, (.v (.int .i64) (0)), (.v (.int .i64) (0)), (.v .bool (false)), .dead, .dead, (.v (.int .i64) (s11.1)), (.v (.int .i64) (s11.2)), .dead, .dead, .dead, .dead, .dead, .dead, .dead, .dead, .dead, .dead, .dead, .dead, .dead, .dead, .dead, .dead, .dead, .dead, .dead, .dead, .dead, .dead, .dead, .dead, .dead, .dead, .dead, .dead, .dead, .dead, .dead, .dead, .dead, .dead, .dead, .dead, .dead, .dead, .dead, .dead, .dead, .dead, .dead, .dead, .dead, .dead, .dead, .dead, .dead])) (LOf := (fun s11 => [])) (B := ref08_Parse.B1 fuel e11_1  (fun r => k (tupAV (.int .i64) [(.int .i64)] r))) (fun R s => by kernel_rfl)
def ref08_Parse.sl {Ω : Type} (x0 : ByteArray) (lp0 : ByteArray → Bool → Int × Int → Option Ω) (lp1 : ByteArray → Int × Int → Option Ω) (k : Int × Int → Option Ω) : Option Ω :=
  bif (decide (((x0).size : Int) > 0)) then
    bif (idxOK 0 (x0).size) then
      bif ((bAt x0 0) == 45) then
        bif (subC (some (1)) none (x0).size) then
          (ref01_Plain.u ((subS (some (1)) none x0))).bind fun y1 =>
          bif (!y1.2) then
            k (0, 3)
          else
            bif ((bAt x0 0) == 45) then
              bif (((subS (some (1)) none x0)).data.toList == ((bs [48])).data.toList) then
                k (0, 3)
              else
                bif (decide ((((subS (some (1)) none x0)).size : Int) > 10)) then
                  k (0, 8)
                else
                  lp0 ((subS (some (1)) none x0)) (((bAt x0 0) == 45)) (0, 0)
            else
              bif (decide ((((subS (some (1)) none x0)).size : Int) > 10)) then
                k (0, 8)
              else
                lp0 ((subS (some (1)) none x0)) (((bAt x0 0) == 45)) (0, 0)
        else
          none
      else
        (ref01_Plain.u x0).bind fun y4 =>
        bif (!y4.2) then
          k (0, 3)
        else
          bif ((bAt x0 0) == 45) then
            bif ((x0).data.toList == ((bs [48])).data.toList) then
              k (0, 3)
            else
              bif (decide (((x0).size : Int) > 10)) then
                k (0, 8)
              else
                lp0 x0 (((bAt x0 0) == 45)) (0, 0)
          else
            bif (decide (((x0).size : Int) > 10)) then
              k (0, 8)
            else
              lp0 x0 (((bAt x0 0) == 45)) (0, 0)
    else
      none
  else
    (ref01_Plain.u x0).bind fun y7 =>
    bif (!y7.2) then
      k (0, 3)
    else
      bif (decide (((x0).size : Int) > 10)) then
        k (0, 8)
      else
        lp1 x0 (0, 0)
def ref08_Parse.s {Ω : Type} (fuel : Nat) (x0 : ByteArray) (k : Int × Int → Option Ω) : Option Ω := ref08_Parse.sl x0 (fun e11_1 e11_2 => (iter (ref08_Parse.B0 fuel e11_1 e11_2  k) fuel)) (fun e11_1 => (iter (ref08_Parse.B1 fuel e11_1  k) fuel)) k
theorem ref08_Parse.ev {Ω : Type} (fuel : Nat) (x0 : ByteArray) (k : AV → Option Ω) : evFn C (fun {_} => ref08_Parse.sp) (ref08_Parse.F fuel) Tryd.f45 (Tryd.f45.body.getD .skip) [(.v .str (x0))] k = ref08_Parse.s fuel x0 (fun r => k (tupAV (.int .i64) [(.int .i64)] r)) := by
  have h0 : evFn C (fun {_} => ref08_Parse.sp) (ref08_Parse.F fuel) Tryd.f45 (Tryd.f45.body.getD .skip) [(.v .str (x0))] k = ref08_Parse.sl x0 (fun e11_1 e11_2 => (fun s => loopK (fun env L k => evCode C (fun {_} => ref08_Parse.sp) (ref08_Parse.F fuel) (cl (cl (cr (cl (cr (cr (cr (cr (cr (cr (cr (Tryd.f45.body.getD .skip)))))))))))) env L k) [false, true, false, false, false, true, true, false, false, true, true, true, true, true, true, true, true, true, true, true, true, true, true, true, true, true, true, true, true, true, true, true, true, true, true, true, true, true, true, true, true, true, true, true, true, true, true, true, true, true, true, true, true, true, true, true, true, true] 0 (blockK 0 (seqK (fun env L => evCode C (fun {_} => ref08_Parse.sp) (ref08_Parse.F fuel) (cr (cr (cr (cr (cr (cr (cr (cr (Tryd.f45.body.getD .skip))))))))) env L (finK C Tryd.f45 k)) (finK C Tryd.f45 k))) fuel ((fun s11 => [(.v .str (e11_1)), .dead, (.v (.int .i64) (0)), (.v (.int .i64) (0)), (.v .bool (e11_2)), .dead, .dead, (.v (.int .i64) (s11.1)), (.v (.int .i64) (s11.2)), .dead, .dead, .dead, .dead, .dead, .dead, .dead, .dead, .dead, .dead, .dead, .dead, .dead, .dead, .dead, .dead, .dead, .dead, .dead, .dead, .dead, .dead, .dead, .dead, .dead, .dead, .dead, .dead, .dead, .dead, .dead, .dead, .dead, .dead, .dead, .dead, .dead, .dead, .dead, .dead, .dead, .dead, .dead, .dead, .dead, .dead, .dead, .dead, .dead]) s) ((fun s11 => []) s))) (fun e11_1 => (fun s => loopK (fun env L k => evCode C (fun {_} => ref08_Parse.sp) (ref08_Parse.F fuel) (cl (cl (cr (cl (cr (cr (cr (cr (cr (cr (cr (Tryd.f45.body.getD .skip)))))))))))) env L k) [false, true, false, false, false, true, true, false, false, true, true, true, true, true, true, true, true, true, true, true, true, true, true, true, true, true, true, true, true, true, true, true, true, true, true, true, true, true, true, true, true, true, true, true, true, true, true, true, true, true, true, true, true, true, true, true, true, true] 0 (blockK 0 (seqK (fun env L => evCode C (fun {_} => ref08_Parse.sp) (ref08_Parse.F fuel) (cr (cr (cr (cr (cr (cr (cr (cr (Tryd.f45.body.getD .skip))))))))) env L (finK C Tryd.f45 k)) (finK C Tryd.f45 k))) fuel ((fun s11 => [(.v .str (e11_1)), .dead, (.v (.int .i64) (0)), (.v (.int .i64) (0)), (.v .bool (false)), .dead, .dead, (.v (.int .i64) (s11.1)), (.v (.int .i64) (s11.2)), .dead, .dead, .dead, .dead, .dead, .dead, .dead, .dead, .dead, .dead, .dead, .dead, .dead, .dead, .dead, .dead, .dead, .dead, .dead, .dead, .dead, .dead, .dead, .dead, .dead, .dead, .dead, .dead, .dead, .dead, .dead, .dead, .dead, .dead, .dead, .dead, .dead, .dead, .dead, .dead, .dead, .dead, .dead, .dead, .dead, .dead, .dead, .dead, .dead]) s) ((fun s11 => []) s))) (fun r => k (tupAV (.int .i64) [(.int .i64)] r)) := by kernel_rfl
  have h1 : (fun e11_1 e11_2 => (fun s => loopK (fun env L k => evCode C (fun {_} => ref08_Parse.sp) (ref08_Parse.F fuel) (cl (cl (cr (cl (cr (cr (cr (cr (cr (cr (cr (Tryd.f45.body.getD .skip)))))))))))) env L k) [false, true, false, false, false, true, true, false, false, true, true, true, true, true, true, true, true, true, true, true, true, true, true, true, true, true, true, true, true, true, true, true, true, true, true, true, true, true, true, true, true, true, true, true, true, true, true, true, true, true, true, true, true, true, true, true, true, true] 0 (blockK 0 (seqK (fun env L => evCode C (fun {_} => ref08_Parse.sp) (ref08_Parse.F fuel) (cr (cr (cr (cr (cr (cr (cr (cr (Tryd.f45.body.getD .skip))))))))) env L (finK C Tryd.f45 k)) (finK C Tryd.f45 k))) fuel ((fun s11 => [(.v .str (e11_1)), .dead, (.v (.int .i64) (0)), (.v (.int .i64) (0)), (.v .bool (e11_2)), .dead, .dead, (.v (.int .i64) (s11.1)), (.v (.int .i64) (s11.2)), .dead, .dead, .dead, .dead, .dead, .dead, .dead, .dead, .dead, .dead, .dead, .dead, .dead, .dead, .dead, .dead, .dead, .dead, .dead, .dead, .dead, .dead, .dead, .dead, .dead, .dead, .dead, .dead, .dead, .dead, .dead, .dead, .dead, .dead, .dead, .dead, .dead, .dead, .dead, .dead, .dead, .dead, .dead, .dead, .dead, .dead, .dead, .dead, .dead]) s) ((fun s11 => []) s))) = (fun e11_1 e11_2 => (iter (ref08_Parse.B0 fuel e11_1 e11_2  (fun r => k (tupAV (.int .i64) [(.int .i64)] r))) fuel)) := funext fun e11_1 => funext fun e11_2 => ref08_Parse.l0 fuel e11_1 e11_2   k fuel
  have h2 : (fun e11_1 => (fun s => loopK (fun env L k => evCode C (fun {_} => ref08_Parse.sp) (ref08_Parse.F fuel) (cl (cl (cr (cl (cr (cr (cr (cr (cr (cr (cr (Tryd.f45.body.getD .skip)))))))))))) env L k) [false, true, false, false, false, true, true, false, false, true, true, true, true, true, true, true, true, true, true, true, true, true, true, true, true, true, true, true, true, true, true, true, true, true, true, true, true, true, true, true, true, true, true, true, true, true, true, true, true, true, true, true, true, true, true, true, true, true] 0 (blockK 0 (seqK (fun env L => evCode C (fun {_} => ref08_Parse.sp) (ref08_Parse.F fuel) (cr (cr (cr (cr (cr (cr (cr (cr (Tryd.f45.body.getD .skip))))))))) env L (finK C Tryd.f45 k)) (finK C Tryd.f45 k))) fuel ((fun s11 => [(.v .str (e11_1)), .dead, (.v (.int .i64) (0)), (.v (.int .i64) (0)), (.v .bool (false)), .dead, .dead, (.v (.int .i64) (s11.1)), (.v (.int .i64) (s11.2)), .dead, .dead, .dead, .dead, .dead, .dead, .dead, .dead, .dead, .dead, .dead, .dead, .dead, .dead, .dead, .dead, .dead, .dead, .dead, .dead, .dead, .dead, .dead, .dead, .dead, .dead, .dead, .dead, .dead, .dead, .dead, .dead, .dead, .dead, .dead, .dead, .dead, .dead, .dead, .dead, .dead, .dead, .dead, .dead, .dead, .dead, .dead, .dead, .dead]) s) ((fun s11 => []) s))) = (fun e11_1 => (iter (ref08_Parse.B1 fuel e11_1  (fun r => k (tupAV (.int .i64) [(.int .i64)] r))) fuel)) := funext fun e11_1 => ref08_Parse.l1 fuel e11_1   k fuel
  rw [h1, h2] at h0
  exact h0
def ref08_Parse.g0 {Ω : Type} (e11_1 : ByteArray) (e11_2 : Bool)  (k : Int × Int → Option Ω) : Nat → Int → Int → Option Ω
  | 0, a11_0, i11 =>
    bif e11_2 then
      bif (!(ref08_Fine.t ((IntKind.wrap .i64 (0 - a11_0))))) then
        k (0, 8)
      else
        k ((IntKind.wrap .i64 (0 - a11_0)), 0)
    else
      bif (!(ref08_Fine.t a11_0)) then
        k (0, 8)
      else
        k (a11_0, 0)
  | d11 + 1, a11_0, i11 =>
    bif (idxOK i11 (e11_1).size) then
      let v2 : Int := (IntKind.wrap .i64 ((IntKind.wrap .i64 (10 * a11_0)) + (IntKind.wrap .i64 (IntKind.wrap .u8 ((bAt e11_1 (Int.toNat i11)) - 48)))))
      ref08_Parse.g0 e11_1 e11_2  k d11 v2 (i11 + 1)
    else
      none
theorem ref08_Parse.h0 {Ω : Type} (e11_1 : ByteArray) (e11_2 : Bool)   (k : Int × Int → Option Ω) (hN : (((e11_1).size : Int) : Int) ≤ 9223372036854775807) : ∀ (m : Nat) (i : Int) (a : Int), -9223372036854775808 ≤ i → Int.toNat ((((e11_1).size : Int) : Int) - i) < m → Le (ref08_Parse.g0 e11_1 e11_2  k (Int.toNat ((((e11_1).size : Int) : Int) - i)) a i) (iter (ref08_Parse.B0 BIG e11_1 e11_2  k) m (a, i)) :=
  iter_count (((e11_1).size : Int) : Int) (fun i11 => (decide (i11 < ((e11_1).size : Int)))) (fun i => rfl) (fun (i11 : Int) (a11 : Int) => (a11, i11)) (fun xs i11 a11 => ref08_Parse.g0 e11_1 e11_2  k xs a11 i11) (ref08_Parse.B0 BIG e11_1 e11_2  k)
    (fun i11 a11 r h0 => (Le.fls h0 (Le.cond (Le.cond (Le.refl _) (Le.refl _)) (Le.cond (Le.refl _) (Le.refl _)))))
    (fun i11 d11 a11 r h0 hw ih => (Le.tru h0 (Le.cond (let v2 : Int := (IntKind.wrap .i64 ((IntKind.wrap .i64 (10 * a11)) + (IntKind.wrap .i64 (IntKind.wrap .u8 ((bAt e11_1 (Int.toNat i11)) - 48))))); (ih _ hw (v2))) Le.nil)))
    hN
def ref08_Parse.g1 {Ω : Type} (e11_1 : ByteArray)  (k : Int × Int → Option Ω) : Nat → Int → Int → Option Ω
  | 0, a11_0, i11 =>
    bif (!(ref08_Fine.t a11_0)) then
      k (0, 8)
    else
      k (a11_0, 0)
  | d11 + 1, a11_0, i11 =>
    bif (idxOK i11 (e11_1).size) then
      let v8 : Int := (IntKind.wrap .i64 ((IntKind.wrap .i64 (10 * a11_0)) + (IntKind.wrap .i64 (IntKind.wrap .u8 ((bAt e11_1 (Int.toNat i11)) - 48)))))
      ref08_Parse.g1 e11_1  k d11 v8 (i11 + 1)
    else
      none
theorem ref08_Parse.h1 {Ω : Type} (e11_1 : ByteArray)   (k : Int × Int → Option Ω) (hN : (((e11_1).size : Int) : Int) ≤ 9223372036854775807) : ∀ (m : Nat) (i : Int) (a : Int), -9223372036854775808 ≤ i → Int.toNat ((((e11_1).size : Int) : Int) - i) < m → Le (ref08_Parse.g1 e11_1  k (Int.toNat ((((e11_1).size : Int) : Int) - i)) a i) (iter (ref08_Parse.B1 BIG e11_1  k) m (a, i)) :=
  iter_count (((e11_1).size : Int) : Int) (fun i11 => (decide (i11 < ((e11_1).size : Int)))) (fun i => rfl) (fun (i11 : Int) (a11 : Int) => (a11, i11)) (fun xs i11 a11 => ref08_Parse.g1 e11_1  k xs a11 i11) (ref08_Parse.B1 BIG e11_1  k)
    (fun i11 a11 r h0 => (Le.fls h0 (Le.cond (Le.refl _) (Le.refl _))))
    (fun i11 d11 a11 r h0 hw ih => (Le.tru h0 (Le.cond (let v8 : Int := (IntKind.wrap .i64 ((IntKind.wrap .i64 (10 * a11)) + (IntKind.wrap .i64 (IntKind.wrap .u8 ((bAt e11_1 (Int.toNat i11)) - 48))))); (ih _ hw (v8))) Le.nil)))
    hN
def ref08_Parse.w {Ω : Type} (x0 : ByteArray) (k : Int × Int → Option Ω) : Option Ω :=
  bif (decide (((x0).size : Int) > 0)) then
    bif (idxOK 0 (x0).size) then
      bif ((bAt x0 0) == 45) then
        bif (subC (some (1)) none (x0).size) then
          (ref01_Plain.u ((subS (some (1)) none x0))).bind fun y1 =>
          bif (!y1.2) then
            k (0, 3)
          else
            bif ((bAt x0 0) == 45) then
              bif (((subS (some (1)) none x0)).data.toList == ((bs [48])).data.toList) then
                k (0, 3)
              else
                bif (decide ((((subS (some (1)) none x0)).size : Int) > 10)) then
                  k (0, 8)
                else
                  bif (decide (((((subS (some (1)) none x0))).size : Int) ≤ 4611686018427387904)) then ref08_Parse.g0 ((subS (some (1)) none x0)) (((bAt x0 0) == 45))  k ((Int.toNat (((((subS (some (1)) none x0))).size : Int) - 0))) 0 0 else none
            else
              bif (decide ((((subS (some (1)) none x0)).size : Int) > 10)) then
                k (0, 8)
              else
                bif (decide (((((subS (some (1)) none x0))).size : Int) ≤ 4611686018427387904)) then ref08_Parse.g0 ((subS (some (1)) none x0)) (((bAt x0 0) == 45))  k ((Int.toNat (((((subS (some (1)) none x0))).size : Int) - 0))) 0 0 else none
        else
          none
      else
        (ref01_Plain.u x0).bind fun y4 =>
        bif (!y4.2) then
          k (0, 3)
        else
          bif ((bAt x0 0) == 45) then
            bif ((x0).data.toList == ((bs [48])).data.toList) then
              k (0, 3)
            else
              bif (decide (((x0).size : Int) > 10)) then
                k (0, 8)
              else
                bif (decide (((x0).size : Int) ≤ 4611686018427387904)) then ref08_Parse.g0 x0 (((bAt x0 0) == 45))  k ((Int.toNat (((x0).size : Int) - 0))) 0 0 else none
          else
            bif (decide (((x0).size : Int) > 10)) then
              k (0, 8)
            else
              bif (decide (((x0).size : Int) ≤ 4611686018427387904)) then ref08_Parse.g0 x0 (((bAt x0 0) == 45))  k ((Int.toNat (((x0).size : Int) - 0))) 0 0 else none
    else
      none
  else
    (ref01_Plain.u x0).bind fun y7 =>
    bif (!y7.2) then
      k (0, 3)
    else
      bif (decide (((x0).size : Int) > 10)) then
        k (0, 8)
      else
        bif (decide (((x0).size : Int) ≤ 4611686018427387904)) then ref08_Parse.g1 x0  k ((Int.toNat (((x0).size : Int) - 0))) 0 0 else none
theorem ref08_Parse.le {Ω : Type} (x0 : ByteArray) (k : Int × Int → Option Ω) : Le (ref08_Parse.w x0 k) (ref08_Parse.s BIG x0 k) := by
  delta ref08_Parse.w ref08_Parse.s ref08_Parse.sl
  exact (Le.cond (Le.cond (Le.cond (Le.cond (Le.bnd fun y1 => (Le.cond (Le.refl _) (Le.cond (Le.cond (Le.refl _) (Le.cond (Le.refl _) (Le.gd fun hg => ref08_Parse.h0 _ _   k (cnt_up hg) BIG 0 (0) (by decide) (cnt_big hg (by decide))))) (Le.cond (Le.refl _) (Le.gd fun hg => ref08_Parse.h0 _ _   k (cnt_up hg) BIG 0 (0) (by decide) (cnt_big hg (by decide))))))) Le.nil) (Le.bnd fun y4 => (Le.cond (Le.refl _) (Le.cond (Le.cond (Le.refl _) (Le.cond (Le.refl _) (Le.gd fun hg => ref08_Parse.h0 _ _   k (cnt_up hg) BIG 0 (0) (by decide) (cnt_big hg (by decide))))) (Le.cond (Le.refl _) (Le.gd fun hg => ref08_Parse.h0 _ _   k (cnt_up hg) BIG 0 (0) (by decide) (cnt_big hg (by decide)))))))) Le.nil) (Le.bnd fun y7 => (Le.cond (Le.refl _) (Le.cond (Le.refl _) (Le.gd fun hg => ref08_Parse.h1 _   k (cnt_up hg) BIG 0 (0) (by decide) (cnt_big hg (by decide)))))))
def ref08_Parse.u (x0 : ByteArray) : Option (Int × Int) := ref08_Parse.w x0 some
theorem ref08_Parse.c (x0 : ByteArray) (r : Int × Int) (h : ref08_Parse.u x0 = some r) : Contract C 45 [(.v .str (x0))] (tupAV (.int .i64) [(.int .i64)] r) :=
  contract_s (S := fun k => ref08_Parse.s BIG x0 k) C_ok (orS_ok ref01_Plain.e_ok (orS_ok ref08_Fine.e_ok noS_ok)) (by kernel_rfl) (by kernel_rfl) (by kernel_rfl) (ref08_Parse.ev BIG x0 (dec (.int .i64) [(.int .i64)])) (ref08_Parse.le x0 some r h)
noncomputable def ref08_Parse.e : Ent := argI .str fun x0 => endU (ref08_Parse.u x0) (tupAV (.int .i64) [(.int .i64)])
theorem ref08_Parse.e_ok : EntOK C 45 (fun {_} => ref08_Parse.e) := entA_ok (argI_ok fun x0 => endU_ok fun r h => ref08_Parse.c x0 r h)

end Go.Proofs.YtmphlhnpichonaaDoor.K

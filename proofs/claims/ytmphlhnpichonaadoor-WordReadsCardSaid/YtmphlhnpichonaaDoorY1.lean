/- What functions of the program come to. -/
import Derived.Test.YtmphlhnpichonaaDoorH1
set_option maxRecDepth 100000
set_option linter.unusedVariables false
namespace Go.Proofs.YtmphlhnpichonaaDoor.K
open Go Go.RowKit

/-- becket word.Fine -/
def s52 {Ω : Type} (x0 : Int) (k : Bool → Option Ω) : Option Ω :=
  bif (decide (x0 ≥ (-2147483648))) then
    k (decide (x0 ≤ 2147483647))
  else
    k false
def t52 (x0 : Int) : Bool :=
  bif (decide (x0 ≥ (-2147483648))) then
    (decide (x0 ≤ 2147483647))
  else
    false
theorem v52 {Ω : Type} (x0 : Int) (k : Bool → Option Ω) : s52 x0 k = k (t52 x0) := by
  delta s52 t52; exact (cond_tot rfl rfl)
noncomputable def sp52 : Spec := noS
theorem ev52 {Ω : Type} (fuel : Fuel) (x0 : Int) (k : AV → Option Ω) : evFn C (fun {_} => sp52) fuel Tryd.f52 (Tryd.f52.body.getD .skip) [.v (.int .i64) x0] k = s52 x0 (fun r => k (.v .bool r)) := by kernel_rfl
theorem c52 (x0 : Int) : Contract C 52 [.v (.int .i64) x0] (.v .bool (t52 x0)) :=
  contract_of (spec := fun {_} => sp52) (fuel := ⟨1, fun _ => []⟩) C_ok noS_ok (by kernel_rfl) (by kernel_rfl) (by kernel_rfl) (by rw [ev52, v52])
noncomputable def e52 : Ent := fun {_} => ent1 (.int .i64) (fun x0 => true) (fun x0 => .v .bool (t52 x0))
theorem e52_ok : EntOK C 52 (fun {_} => e52) := ent1_ok fun x0 h => c52 x0

/-- becket becketref08.Fine -/
def s53 {Ω : Type} (x0 : Int) (k : Bool → Option Ω) : Option Ω :=
  bif (decide (x0 ≥ (-2147483648))) then
    k (decide (x0 ≤ 2147483647))
  else
    k false
def t53 (x0 : Int) : Bool :=
  bif (decide (x0 ≥ (-2147483648))) then
    (decide (x0 ≤ 2147483647))
  else
    false
theorem v53 {Ω : Type} (x0 : Int) (k : Bool → Option Ω) : s53 x0 k = k (t53 x0) := by
  delta s53 t53; exact (cond_tot rfl rfl)
noncomputable def sp53 : Spec := noS
theorem ev53 {Ω : Type} (fuel : Fuel) (x0 : Int) (k : AV → Option Ω) : evFn C (fun {_} => sp53) fuel Tryd.f53 (Tryd.f53.body.getD .skip) [.v (.int .i64) x0] k = s53 x0 (fun r => k (.v .bool r)) := by kernel_rfl
theorem c53 (x0 : Int) : Contract C 53 [.v (.int .i64) x0] (.v .bool (t53 x0)) :=
  contract_of (spec := fun {_} => sp53) (fuel := ⟨1, fun _ => []⟩) C_ok noS_ok (by kernel_rfl) (by kernel_rfl) (by kernel_rfl) (by rw [ev53, v53])
noncomputable def e53 : Ent := fun {_} => ent1 (.int .i64) (fun x0 => true) (fun x0 => .v .bool (t53 x0))
theorem e53_ok : EntOK C 53 (fun {_} => e53) := ent1_ok fun x0 h => c53 x0

/-- becket word.Wrap -/
def s54 {Ω : Type} (x0 : Int) (k : Int → Option Ω) : Option Ω :=
  k (IntKind.wrap .i64 (IntKind.wrap .i32 x0))
def t54 (x0 : Int) : Int :=
  (IntKind.wrap .i64 (IntKind.wrap .i32 x0))
theorem v54 {Ω : Type} (x0 : Int) (k : Int → Option Ω) : s54 x0 k = k (t54 x0) := by
  delta s54 t54; exact rfl
noncomputable def sp54 : Spec := noS
theorem ev54 {Ω : Type} (fuel : Fuel) (x0 : Int) (k : AV → Option Ω) : evFn C (fun {_} => sp54) fuel Tryd.f54 (Tryd.f54.body.getD .skip) [.v (.int .i64) x0] k = s54 x0 (fun r => k (.v (.int .i64) r)) := by kernel_rfl
theorem c54 (x0 : Int) : Contract C 54 [.v (.int .i64) x0] (.v (.int .i64) (t54 x0)) :=
  contract_of (spec := fun {_} => sp54) (fuel := ⟨1, fun _ => []⟩) C_ok noS_ok (by kernel_rfl) (by kernel_rfl) (by kernel_rfl) (by rw [ev54, v54])
noncomputable def e54 : Ent := fun {_} => ent1 (.int .i64) (fun x0 => true) (fun x0 => .v (.int .i64) (t54 x0))
theorem e54_ok : EntOK C 54 (fun {_} => e54) := ent1_ok fun x0 h => c54 x0

/-- becket becketref08.Wrap -/
def s55 {Ω : Type} (x0 : Int) (k : Int → Option Ω) : Option Ω :=
  bif (decide ((Int.tmod x0 4294967296) < 0)) then
    bif (decide ((IntKind.wrap .i64 ((Int.tmod x0 4294967296) + 4294967296)) > 2147483647)) then
      let v1 : Int := (IntKind.wrap .i64 ((IntKind.wrap .i64 ((Int.tmod x0 4294967296) + 4294967296)) - 4294967296))
      k v1
    else
      k (IntKind.wrap .i64 ((Int.tmod x0 4294967296) + 4294967296))
  else
    bif (decide ((Int.tmod x0 4294967296) > 2147483647)) then
      k (IntKind.wrap .i64 ((Int.tmod x0 4294967296) - 4294967296))
    else
      k (Int.tmod x0 4294967296)
def t55 (x0 : Int) : Int :=
  bif (decide ((Int.tmod x0 4294967296) < 0)) then
    bif (decide ((IntKind.wrap .i64 ((Int.tmod x0 4294967296) + 4294967296)) > 2147483647)) then
      let v1 : Int := (IntKind.wrap .i64 ((IntKind.wrap .i64 ((Int.tmod x0 4294967296) + 4294967296)) - 4294967296))
      v1
    else
      (IntKind.wrap .i64 ((Int.tmod x0 4294967296) + 4294967296))
  else
    bif (decide ((Int.tmod x0 4294967296) > 2147483647)) then
      (IntKind.wrap .i64 ((Int.tmod x0 4294967296) - 4294967296))
    else
      (Int.tmod x0 4294967296)
theorem v55 {Ω : Type} (x0 : Int) (k : Int → Option Ω) : s55 x0 k = k (t55 x0) := by
  delta s55 t55; exact (cond_tot (cond_tot rfl rfl) (cond_tot rfl rfl))
noncomputable def sp55 : Spec := noS
theorem ev55 {Ω : Type} (fuel : Fuel) (x0 : Int) (k : AV → Option Ω) : evFn C (fun {_} => sp55) fuel Tryd.f55 (Tryd.f55.body.getD .skip) [.v (.int .i64) x0] k = s55 x0 (fun r => k (.v (.int .i64) r)) := by kernel_rfl
theorem c55 (x0 : Int) : Contract C 55 [.v (.int .i64) x0] (.v (.int .i64) (t55 x0)) :=
  contract_of (spec := fun {_} => sp55) (fuel := ⟨1, fun _ => []⟩) C_ok noS_ok (by kernel_rfl) (by kernel_rfl) (by kernel_rfl) (by rw [ev55, v55])
noncomputable def e55 : Ent := fun {_} => ent1 (.int .i64) (fun x0 => true) (fun x0 => .v (.int .i64) (t55 x0))
theorem e55_ok : EntOK C 55 (fun {_} => e55) := ent1_ok fun x0 h => c55 x0

/-- becket becketref08.up -/
def s71 {Ω : Type} (x0 : Int) (k : Int → Option Ω) : Option Ω :=
  bif (decide (x0 < 0)) then
    k (IntKind.wrap .i64 (x0 + 4294967296))
  else
    k x0
def t71 (x0 : Int) : Int :=
  bif (decide (x0 < 0)) then
    (IntKind.wrap .i64 (x0 + 4294967296))
  else
    x0
theorem v71 {Ω : Type} (x0 : Int) (k : Int → Option Ω) : s71 x0 k = k (t71 x0) := by
  delta s71 t71; exact (cond_tot rfl rfl)
noncomputable def sp71 : Spec := noS
theorem ev71 {Ω : Type} (fuel : Fuel) (x0 : Int) (k : AV → Option Ω) : evFn C (fun {_} => sp71) fuel Tryd.f71 (Tryd.f71.body.getD .skip) [.v (.int .i64) x0] k = s71 x0 (fun r => k (.v (.int .i64) r)) := by kernel_rfl
theorem c71 (x0 : Int) : Contract C 71 [.v (.int .i64) x0] (.v (.int .i64) (t71 x0)) :=
  contract_of (spec := fun {_} => sp71) (fuel := ⟨1, fun _ => []⟩) C_ok noS_ok (by kernel_rfl) (by kernel_rfl) (by kernel_rfl) (by rw [ev71, v71])
noncomputable def e71 : Ent := fun {_} => ent1 (.int .i64) (fun x0 => true) (fun x0 => .v (.int .i64) (t71 x0))
theorem e71_ok : EntOK C 71 (fun {_} => e71) := ent1_ok fun x0 h => c71 x0

/-- becket becketref08.truth -/
def s72 {Ω : Type} (x0 : Bool) (k : Int → Option Ω) : Option Ω :=
  bif x0 then
    k 1
  else
    k 0
def t72 (x0 : Bool) : Int :=
  bif x0 then
    1
  else
    0
theorem v72 {Ω : Type} (x0 : Bool) (k : Int → Option Ω) : s72 x0 k = k (t72 x0) := by
  delta s72 t72; exact (cond_tot rfl rfl)
noncomputable def sp72 : Spec := noS
theorem ev72 {Ω : Type} (fuel : Fuel) (x0 : Bool) (k : AV → Option Ω) : evFn C (fun {_} => sp72) fuel Tryd.f72 (Tryd.f72.body.getD .skip) [.v .bool x0] k = s72 x0 (fun r => k (.v (.int .i64) r)) := by kernel_rfl
theorem c72 (x0 : Bool) : Contract C 72 [.v .bool x0] (.v (.int .i64) (t72 x0)) :=
  contract_of (spec := fun {_} => sp72) (fuel := ⟨1, fun _ => []⟩) C_ok noS_ok (by kernel_rfl) (by kernel_rfl) (by kernel_rfl) (by rw [ev72, v72])
noncomputable def e72 : Ent := fun {_} => ent1 .bool (fun x0 => true) (fun x0 => .v (.int .i64) (t72 x0))
theorem e72_ok : EntOK C 72 (fun {_} => e72) := ent1_ok fun x0 h => c72 x0

/-- becket word.truth -/
def s95 {Ω : Type} (x0 : Bool) (k : Int → Option Ω) : Option Ω :=
  bif x0 then
    k 1
  else
    k 0
def t95 (x0 : Bool) : Int :=
  bif x0 then
    1
  else
    0
theorem v95 {Ω : Type} (x0 : Bool) (k : Int → Option Ω) : s95 x0 k = k (t95 x0) := by
  delta s95 t95; exact (cond_tot rfl rfl)
noncomputable def sp95 : Spec := noS
theorem ev95 {Ω : Type} (fuel : Fuel) (x0 : Bool) (k : AV → Option Ω) : evFn C (fun {_} => sp95) fuel Tryd.f95 (Tryd.f95.body.getD .skip) [.v .bool x0] k = s95 x0 (fun r => k (.v (.int .i64) r)) := by kernel_rfl
theorem c95 (x0 : Bool) : Contract C 95 [.v .bool x0] (.v (.int .i64) (t95 x0)) :=
  contract_of (spec := fun {_} => sp95) (fuel := ⟨1, fun _ => []⟩) C_ok noS_ok (by kernel_rfl) (by kernel_rfl) (by kernel_rfl) (by rw [ev95, v95])
noncomputable def e95 : Ent := fun {_} => ent1 .bool (fun x0 => true) (fun x0 => .v (.int .i64) (t95 x0))
theorem e95_ok : EntOK C 95 (fun {_} => e95) := ent1_ok fun x0 h => c95 x0

/-- becket word.reckoned -/
def s69 {Ω : Type} (x0 : Int) (x1 : Int) (x2 : Int) (k : Int → Option Ω) : Option Ω :=
  bif (x0 == 1) then
    k (IntKind.wrap .i64 (x1 + x2))
  else
    bif (x0 == 2) then
      k (IntKind.wrap .i64 (x1 - x2))
    else
      bif (x0 == 3) then
        k (IntKind.wrap .i64 (x1 * x2))
      else
        bif (x0 == 4) then
          bif (!(x2 == 0)) then
            k (IntKind.wrap .i64 (Int.tdiv x1 x2))
          else
            none
        else
          bif (x0 == 5) then
            bif (!(x2 == 0)) then
              k (Int.tmod x1 x2)
            else
              none
          else
            bif (x0 == 6) then
              let v1 : Int := (IntKind.wrap .i64 (BitVec.ofInt (IntKind.bits .i64) x1 &&& BitVec.ofInt (IntKind.bits .i64) x2).toNat)
              k v1
            else
              bif (x0 == 7) then
                let v2 : Int := (IntKind.wrap .i64 (BitVec.ofInt (IntKind.bits .i64) x1 ||| BitVec.ofInt (IntKind.bits .i64) x2).toNat)
                k v2
              else
                bif (x0 == 8) then
                  let v3 : Int := (IntKind.wrap .i64 (BitVec.ofInt (IntKind.bits .i64) x1 ^^^ BitVec.ofInt (IntKind.bits .i64) x2).toNat)
                  k v3
                else
                  bif (x0 == 9) then
                    let v4 : Int := (IntKind.wrap .i64 (BitVec.ofInt (IntKind.bits .i64) x2 &&& BitVec.ofInt (IntKind.bits .i64) 31).toNat)
                    bif (decide ((0 : Int) ≤ v4)) then
                      k (IntKind.wrap .i64 (x1 * (2 ^ (min (Int.toNat v4) (IntKind.bits .i64)))))
                    else
                      none
                  else
                    bif (x0 == 10) then
                      let v5 : Int := (IntKind.wrap .i64 (BitVec.ofInt (IntKind.bits .i64) x2 &&& BitVec.ofInt (IntKind.bits .i64) 31).toNat)
                      bif (decide ((0 : Int) ≤ v5)) then
                        k (Int.fdiv x1 (2 ^ (min (Int.toNat v5) (IntKind.bits .i64))))
                      else
                        none
                    else
                      bif (x0 == 11) then
                        k (t95 ((decide (x1 < x2))))
                      else
                        k (t95 ((x1 == x2)))
def t69 (x0 : Int) (x1 : Int) (x2 : Int) : Int :=
  bif (x0 == 1) then
    (IntKind.wrap .i64 (x1 + x2))
  else
    bif (x0 == 2) then
      (IntKind.wrap .i64 (x1 - x2))
    else
      bif (x0 == 3) then
        (IntKind.wrap .i64 (x1 * x2))
      else
        bif (x0 == 4) then
          bif (!(x2 == 0)) then
            (IntKind.wrap .i64 (Int.tdiv x1 x2))
          else
            0
        else
          bif (x0 == 5) then
            bif (!(x2 == 0)) then
              (Int.tmod x1 x2)
            else
              0
          else
            bif (x0 == 6) then
              let v1 : Int := (IntKind.wrap .i64 (BitVec.ofInt (IntKind.bits .i64) x1 &&& BitVec.ofInt (IntKind.bits .i64) x2).toNat)
              v1
            else
              bif (x0 == 7) then
                let v2 : Int := (IntKind.wrap .i64 (BitVec.ofInt (IntKind.bits .i64) x1 ||| BitVec.ofInt (IntKind.bits .i64) x2).toNat)
                v2
              else
                bif (x0 == 8) then
                  let v3 : Int := (IntKind.wrap .i64 (BitVec.ofInt (IntKind.bits .i64) x1 ^^^ BitVec.ofInt (IntKind.bits .i64) x2).toNat)
                  v3
                else
                  bif (x0 == 9) then
                    let v4 : Int := (IntKind.wrap .i64 (BitVec.ofInt (IntKind.bits .i64) x2 &&& BitVec.ofInt (IntKind.bits .i64) 31).toNat)
                    bif (decide ((0 : Int) ≤ v4)) then
                      (IntKind.wrap .i64 (x1 * (2 ^ (min (Int.toNat v4) (IntKind.bits .i64)))))
                    else
                      0
                  else
                    bif (x0 == 10) then
                      let v5 : Int := (IntKind.wrap .i64 (BitVec.ofInt (IntKind.bits .i64) x2 &&& BitVec.ofInt (IntKind.bits .i64) 31).toNat)
                      bif (decide ((0 : Int) ≤ v5)) then
                        (Int.fdiv x1 (2 ^ (min (Int.toNat v5) (IntKind.bits .i64))))
                      else
                        0
                    else
                      bif (x0 == 11) then
                        (t95 ((decide (x1 < x2))))
                      else
                        (t95 ((x1 == x2)))
def p69 (x0 : Int) (x1 : Int) (x2 : Int) : Bool :=
  bif (x0 == 1) then
    true
  else
    bif (x0 == 2) then
      true
    else
      bif (x0 == 3) then
        true
      else
        bif (x0 == 4) then
          bif (!(x2 == 0)) then
            true
          else
            false
        else
          bif (x0 == 5) then
            bif (!(x2 == 0)) then
              true
            else
              false
          else
            bif (x0 == 6) then
              let v1 : Int := (IntKind.wrap .i64 (BitVec.ofInt (IntKind.bits .i64) x1 &&& BitVec.ofInt (IntKind.bits .i64) x2).toNat)
              true
            else
              bif (x0 == 7) then
                let v2 : Int := (IntKind.wrap .i64 (BitVec.ofInt (IntKind.bits .i64) x1 ||| BitVec.ofInt (IntKind.bits .i64) x2).toNat)
                true
              else
                bif (x0 == 8) then
                  let v3 : Int := (IntKind.wrap .i64 (BitVec.ofInt (IntKind.bits .i64) x1 ^^^ BitVec.ofInt (IntKind.bits .i64) x2).toNat)
                  true
                else
                  bif (x0 == 9) then
                    let v4 : Int := (IntKind.wrap .i64 (BitVec.ofInt (IntKind.bits .i64) x2 &&& BitVec.ofInt (IntKind.bits .i64) 31).toNat)
                    bif (decide ((0 : Int) ≤ v4)) then
                      true
                    else
                      false
                  else
                    bif (x0 == 10) then
                      let v5 : Int := (IntKind.wrap .i64 (BitVec.ofInt (IntKind.bits .i64) x2 &&& BitVec.ofInt (IntKind.bits .i64) 31).toNat)
                      bif (decide ((0 : Int) ≤ v5)) then
                        true
                      else
                        false
                    else
                      bif (x0 == 11) then
                        true
                      else
                        true
theorem v69 {Ω : Type} (x0 : Int) (x1 : Int) (x2 : Int) (k : Int → Option Ω) : s69 x0 x1 x2 k = bif p69 x0 x1 x2 then k (t69 x0 x1 x2) else none := by
  delta s69 t69 p69; exact (cond_pre rfl (cond_pre rfl (cond_pre rfl (cond_pre (cond_pre rfl rfl) (cond_pre (cond_pre rfl rfl) (cond_pre rfl (cond_pre rfl (cond_pre rfl (cond_pre (cond_pre rfl rfl) (cond_pre (cond_pre rfl rfl) (cond_pre rfl rfl)))))))))))
noncomputable def sp69 : Spec := (orS 95 (fun {_} => e95) noS)
theorem ev69 {Ω : Type} (fuel : Fuel) (x0 : Int) (x1 : Int) (x2 : Int) (k : AV → Option Ω) : evFn C (fun {_} => sp69) fuel Tryd.f69 (Tryd.f69.body.getD .skip) [.v (.int .i64) x0, .v (.int .i64) x1, .v (.int .i64) x2] k = s69 x0 x1 x2 (fun r => k (.v (.int .i64) r)) := by kernel_rfl
theorem c69 (x0 : Int) (x1 : Int) (x2 : Int) (hp : p69 x0 x1 x2 = true) : Contract C 69 [.v (.int .i64) x0, .v (.int .i64) x1, .v (.int .i64) x2] (.v (.int .i64) (t69 x0 x1 x2)) :=
  contract_of (spec := fun {_} => sp69) (fuel := ⟨1, fun _ => []⟩) C_ok (orS_ok e95_ok noS_ok) (by kernel_rfl) (by kernel_rfl) (by kernel_rfl) (by rw [ev69, v69]; rw [hp]; rfl)
noncomputable def e69 : Ent := fun {_} => ent3 (.int .i64) (.int .i64) (.int .i64) (fun x0 x1 x2 => p69 x0 x1 x2) (fun x0 x1 x2 => .v (.int .i64) (t69 x0 x1 x2))
theorem e69_ok : EntOK C 69 (fun {_} => e69) := ent3_ok fun x0 x1 x2 h => c69 x0 x1 x2 h

/-- becket word.Do -/
def s41 {Ω : Type} (x0 : Int) (x1 : Int) (x2 : Int) (k : Int × Int → Option Ω) : Option Ω :=
  bif (decide (x0 < 1)) then
    k (0, 1)
  else
    bif (decide (x0 > 12)) then
      k (0, 1)
    else
      bif (!(t52 (x1))) then
        k (0, 8)
      else
        bif (!(t52 (x2))) then
          k (0, 8)
        else
          bif (x0 == 4) then
            bif (x2 == 0) then
              k (0, 16)
            else
              bif (p69 (x0) (x1) (x2)) then
                k ((t54 ((t69 (x0) (x1) (x2)))), 0)
              else
                none
          else
            bif (x0 == 5) then
              bif (x2 == 0) then
                k (0, 16)
              else
                bif (p69 (x0) (x1) (x2)) then
                  k ((t54 ((t69 (x0) (x1) (x2)))), 0)
                else
                  none
            else
              bif (p69 (x0) (x1) (x2)) then
                k ((t54 ((t69 (x0) (x1) (x2)))), 0)
              else
                none
def t41 (x0 : Int) (x1 : Int) (x2 : Int) : Int × Int :=
  bif (decide (x0 < 1)) then
    (0, 1)
  else
    bif (decide (x0 > 12)) then
      (0, 1)
    else
      bif (!(t52 (x1))) then
        (0, 8)
      else
        bif (!(t52 (x2))) then
          (0, 8)
        else
          bif (x0 == 4) then
            bif (x2 == 0) then
              (0, 16)
            else
              bif (p69 (x0) (x1) (x2)) then
                ((t54 ((t69 (x0) (x1) (x2)))), 0)
              else
                (0, 0)
          else
            bif (x0 == 5) then
              bif (x2 == 0) then
                (0, 16)
              else
                bif (p69 (x0) (x1) (x2)) then
                  ((t54 ((t69 (x0) (x1) (x2)))), 0)
                else
                  (0, 0)
            else
              bif (p69 (x0) (x1) (x2)) then
                ((t54 ((t69 (x0) (x1) (x2)))), 0)
              else
                (0, 0)
def p41 (x0 : Int) (x1 : Int) (x2 : Int) : Bool :=
  bif (decide (x0 < 1)) then
    true
  else
    bif (decide (x0 > 12)) then
      true
    else
      bif (!(t52 (x1))) then
        true
      else
        bif (!(t52 (x2))) then
          true
        else
          bif (x0 == 4) then
            bif (x2 == 0) then
              true
            else
              bif (p69 (x0) (x1) (x2)) then
                true
              else
                false
          else
            bif (x0 == 5) then
              bif (x2 == 0) then
                true
              else
                bif (p69 (x0) (x1) (x2)) then
                  true
                else
                  false
            else
              bif (p69 (x0) (x1) (x2)) then
                true
              else
                false
theorem v41 {Ω : Type} (x0 : Int) (x1 : Int) (x2 : Int) (k : Int × Int → Option Ω) : s41 x0 x1 x2 k = bif p41 x0 x1 x2 then k (t41 x0 x1 x2) else none := by
  delta s41 t41 p41; exact (cond_pre rfl (cond_pre rfl (cond_pre rfl (cond_pre rfl (cond_pre (cond_pre rfl (cond_pre rfl rfl)) (cond_pre (cond_pre rfl (cond_pre rfl rfl)) (cond_pre rfl rfl)))))))
noncomputable def sp41 : Spec := (orS 69 (fun {_} => e69) (orS 54 (fun {_} => e54) (orS 52 (fun {_} => e52) noS)))
theorem ev41 {Ω : Type} (fuel : Fuel) (x0 : Int) (x1 : Int) (x2 : Int) (k : AV → Option Ω) : evFn C (fun {_} => sp41) fuel Tryd.f41 (Tryd.f41.body.getD .skip) [.v (.int .i64) x0, .v (.int .i64) x1, .v (.int .i64) x2] k = s41 x0 x1 x2 (fun r => k (.tup [.v (.int .i64) r.1, .v (.int .i64) r.2])) := by kernel_rfl
theorem c41 (x0 : Int) (x1 : Int) (x2 : Int) (hp : p41 x0 x1 x2 = true) : Contract C 41 [.v (.int .i64) x0, .v (.int .i64) x1, .v (.int .i64) x2] (.tup [.v (.int .i64) (t41 x0 x1 x2).1, .v (.int .i64) (t41 x0 x1 x2).2]) :=
  contract_of (spec := fun {_} => sp41) (fuel := ⟨1, fun _ => []⟩) C_ok (orS_ok e69_ok (orS_ok e54_ok (orS_ok e52_ok noS_ok))) (by kernel_rfl) (by kernel_rfl) (by kernel_rfl) (by rw [ev41, v41]; rw [hp]; rfl)
noncomputable def e41 : Ent := fun {_} => ent3 (.int .i64) (.int .i64) (.int .i64) (fun x0 x1 x2 => p41 x0 x1 x2) (fun x0 x1 x2 => .tup [.v (.int .i64) (t41 x0 x1 x2).1, .v (.int .i64) (t41 x0 x1 x2).2])
theorem e41_ok : EntOK C 41 (fun {_} => e41) := ent3_ok fun x0 x1 x2 h => c41 x0 x1 x2 h

/-- internal stringslite.HasPrefix -/
def s112 {Ω : Type} (x0 : ByteArray) (x1 : ByteArray) (k : Bool → Option Ω) : Option Ω :=
  bif (decide (((x0).size : Int) ≥ ((x1).size : Int))) then
    bif (subC none (some (((x1).size : Int))) (x0).size) then
      k (((subS none (some (((x1).size : Int))) x0)).data.toList == (x1).data.toList)
    else
      none
  else
    k false
def t112 (x0 : ByteArray) (x1 : ByteArray) : Bool :=
  bif (decide (((x0).size : Int) ≥ ((x1).size : Int))) then
    bif (subC none (some (((x1).size : Int))) (x0).size) then
      (((subS none (some (((x1).size : Int))) x0)).data.toList == (x1).data.toList)
    else
      false
  else
    false
def p112 (x0 : ByteArray) (x1 : ByteArray) : Bool :=
  bif (decide (((x0).size : Int) ≥ ((x1).size : Int))) then
    bif (subC none (some (((x1).size : Int))) (x0).size) then
      true
    else
      false
  else
    true
theorem v112 {Ω : Type} (x0 : ByteArray) (x1 : ByteArray) (k : Bool → Option Ω) : s112 x0 x1 k = bif p112 x0 x1 then k (t112 x0 x1) else none := by
  delta s112 t112 p112; exact (cond_pre (cond_pre rfl rfl) rfl)
noncomputable def sp112 : Spec := noS
theorem ev112 {Ω : Type} (fuel : Fuel) (x0 : ByteArray) (x1 : ByteArray) (k : AV → Option Ω) : evFn C (fun {_} => sp112) fuel Tryd.f112 (Tryd.f112.body.getD .skip) [.v .str x0, .v .str x1] k = s112 x0 x1 (fun r => k (.v .bool r)) := by kernel_rfl
theorem c112 (x0 : ByteArray) (x1 : ByteArray) (hp : p112 x0 x1 = true) : Contract C 112 [.v .str x0, .v .str x1] (.v .bool (t112 x0 x1)) :=
  contract_of (spec := fun {_} => sp112) (fuel := ⟨1, fun _ => []⟩) C_ok noS_ok (by kernel_rfl) (by kernel_rfl) (by kernel_rfl) (by rw [ev112, v112]; rw [hp]; rfl)
noncomputable def e112 : Ent := fun {_} => ent2 .str .str (fun x0 x1 => p112 x0 x1) (fun x0 x1 => .v .bool (t112 x0 x1))
theorem e112_ok : EntOK C 112 (fun {_} => e112) := ent2_ok fun x0 x1 h => c112 x0 x1 h

/-- internal stringslite.CutPrefix -/
def s96 {Ω : Type} (x0 : ByteArray) (x1 : ByteArray) (k : ByteArray × Bool → Option Ω) : Option Ω :=
  bif (p112 (x0) (x1)) then
    bif (!(t112 (x0) (x1))) then
      k (x0, false)
    else
      bif (subC (some (((x1).size : Int))) none (x0).size) then
        k ((subS (some (((x1).size : Int))) none x0), true)
      else
        none
  else
    none
def t96 (x0 : ByteArray) (x1 : ByteArray) : ByteArray × Bool :=
  bif (p112 (x0) (x1)) then
    bif (!(t112 (x0) (x1))) then
      (x0, false)
    else
      bif (subC (some (((x1).size : Int))) none (x0).size) then
        ((subS (some (((x1).size : Int))) none x0), true)
      else
        ((bs []), false)
  else
    ((bs []), false)
def p96 (x0 : ByteArray) (x1 : ByteArray) : Bool :=
  bif (p112 (x0) (x1)) then
    bif (!(t112 (x0) (x1))) then
      true
    else
      bif (subC (some (((x1).size : Int))) none (x0).size) then
        true
      else
        false
  else
    false
theorem v96 {Ω : Type} (x0 : ByteArray) (x1 : ByteArray) (k : ByteArray × Bool → Option Ω) : s96 x0 x1 k = bif p96 x0 x1 then k (t96 x0 x1) else none := by
  delta s96 t96 p96; exact (cond_pre (cond_pre rfl (cond_pre rfl rfl)) rfl)
noncomputable def sp96 : Spec := (orS 112 (fun {_} => e112) noS)
theorem ev96 {Ω : Type} (fuel : Fuel) (x0 : ByteArray) (x1 : ByteArray) (k : AV → Option Ω) : evFn C (fun {_} => sp96) fuel Tryd.f96 (Tryd.f96.body.getD .skip) [.v .str x0, .v .str x1] k = s96 x0 x1 (fun r => k (.tup [.v .str r.1, .v .bool r.2])) := by kernel_rfl
theorem c96 (x0 : ByteArray) (x1 : ByteArray) (hp : p96 x0 x1 = true) : Contract C 96 [.v .str x0, .v .str x1] (.tup [.v .str (t96 x0 x1).1, .v .bool (t96 x0 x1).2]) :=
  contract_of (spec := fun {_} => sp96) (fuel := ⟨1, fun _ => []⟩) C_ok (orS_ok e112_ok noS_ok) (by kernel_rfl) (by kernel_rfl) (by kernel_rfl) (by rw [ev96, v96]; rw [hp]; rfl)
noncomputable def e96 : Ent := fun {_} => ent2 .str .str (fun x0 x1 => p96 x0 x1) (fun x0 x1 => .tup [.v .str (t96 x0 x1).1, .v .bool (t96 x0 x1).2])
theorem e96_ok : EntOK C 96 (fun {_} => e96) := ent2_ok fun x0 x1 h => c96 x0 x1 h

/-- strings.CutPrefix -/
def s74 {Ω : Type} (x0 : ByteArray) (x1 : ByteArray) (k : ByteArray × Bool → Option Ω) : Option Ω :=
  bif (p96 (x0) (x1)) then
    k ((t96 (x0) (x1)).1, (t96 (x0) (x1)).2)
  else
    none
def t74 (x0 : ByteArray) (x1 : ByteArray) : ByteArray × Bool :=
  bif (p96 (x0) (x1)) then
    ((t96 (x0) (x1)).1, (t96 (x0) (x1)).2)
  else
    ((bs []), false)
def p74 (x0 : ByteArray) (x1 : ByteArray) : Bool :=
  bif (p96 (x0) (x1)) then
    true
  else
    false
theorem v74 {Ω : Type} (x0 : ByteArray) (x1 : ByteArray) (k : ByteArray × Bool → Option Ω) : s74 x0 x1 k = bif p74 x0 x1 then k (t74 x0 x1) else none := by
  delta s74 t74 p74; exact (cond_pre rfl rfl)
noncomputable def sp74 : Spec := (orS 96 (fun {_} => e96) noS)
theorem ev74 {Ω : Type} (fuel : Fuel) (x0 : ByteArray) (x1 : ByteArray) (k : AV → Option Ω) : evFn C (fun {_} => sp74) fuel Tryd.f74 (Tryd.f74.body.getD .skip) [.v .str x0, .v .str x1] k = s74 x0 x1 (fun r => k (.tup [.v .str r.1, .v .bool r.2])) := by kernel_rfl
theorem c74 (x0 : ByteArray) (x1 : ByteArray) (hp : p74 x0 x1 = true) : Contract C 74 [.v .str x0, .v .str x1] (.tup [.v .str (t74 x0 x1).1, .v .bool (t74 x0 x1).2]) :=
  contract_of (spec := fun {_} => sp74) (fuel := ⟨1, fun _ => []⟩) C_ok (orS_ok e96_ok noS_ok) (by kernel_rfl) (by kernel_rfl) (by kernel_rfl) (by rw [ev74, v74]; rw [hp]; rfl)
noncomputable def e74 : Ent := fun {_} => ent2 .str .str (fun x0 x1 => p74 x0 x1) (fun x0 x1 => .tup [.v .str (t74 x0 x1).1, .v .bool (t74 x0 x1).2])
theorem e74_ok : EntOK C 74 (fun {_} => e74) := ent2_ok fun x0 x1 h => c74 x0 x1 h

/-- becket word.Text -/
def s46 {Ω : Type} (x0 : Int) (k : ByteArray × Int → Option Ω) : Option Ω :=
  bif (!(t52 (x0))) then
    k ((bs []), 8)
  else
    bif (p78 (x0)) then
      k ((t78 (x0)), 0)
    else
      none
def t46 (x0 : Int) : ByteArray × Int :=
  bif (!(t52 (x0))) then
    ((bs []), 8)
  else
    bif (p78 (x0)) then
      ((t78 (x0)), 0)
    else
      ((bs []), 0)
def p46 (x0 : Int) : Bool :=
  bif (!(t52 (x0))) then
    true
  else
    bif (p78 (x0)) then
      true
    else
      false
theorem v46 {Ω : Type} (x0 : Int) (k : ByteArray × Int → Option Ω) : s46 x0 k = bif p46 x0 then k (t46 x0) else none := by
  delta s46 t46 p46; exact (cond_pre rfl (cond_pre rfl rfl))
noncomputable def sp46 : Spec := (orS 78 (fun {_} => e78) (orS 52 (fun {_} => e52) noS))
theorem ev46 {Ω : Type} (fuel : Fuel) (x0 : Int) (k : AV → Option Ω) : evFn C1 (fun {_} => sp46) fuel Tryd.f46 (Tryd.f46.body.getD .skip) [.v (.int .i64) x0] k = s46 x0 (fun r => k (.tup [.v .str r.1, .v (.int .i64) r.2])) := by kernel_rfl
theorem c46 (x0 : Int) (hp : p46 x0 = true) : Contract C1 46 [.v (.int .i64) x0] (.tup [.v .str (t46 x0).1, .v (.int .i64) (t46 x0).2]) :=
  contract_of (spec := fun {_} => sp46) (fuel := ⟨1, fun _ => []⟩) C1_ok (orS_ok e78_ok (orS_ok (e52_ok.mono C_le) noS_ok)) (by kernel_rfl) (by kernel_rfl) (by kernel_rfl) (by rw [ev46, v46]; rw [hp]; rfl)
noncomputable def e46 : Ent := fun {_} => ent1 (.int .i64) (fun x0 => p46 x0) (fun x0 => .tup [.v .str (t46 x0).1, .v (.int .i64) (t46 x0).2])
theorem e46_ok : EntOK C1 46 (fun {_} => e46) := ent1_ok fun x0 h => c46 x0 h

/-- becket becketref08.moved -/
noncomputable def sp70 : Spec := (orS 55 (fun {_} => e55) noS)
def F70 (fuel : Nat) : Fuel := ⟨fuel, fun r => []⟩
def b70_0 {Ω : Type} (x1 : Int) (x2 : Bool)   (k : Int → Option Ω) (r2 : Int × Int → Option Ω) (s2 : Int × Int) : Option Ω :=
  bif (decide (s2.2 < x1)) then
    bif (!x2) then
      r2 ((t55 ((IntKind.wrap .i64 (2 * s2.1)))), (IntKind.wrap .i64 (s2.2 + 1)))
    else
      bif (decide (s2.1 < 0)) then
        bif ((Int.tmod s2.1 2) != 0) then
          r2 ((IntKind.wrap .i64 ((IntKind.wrap .i64 (Int.tdiv s2.1 2)) - 1)), (IntKind.wrap .i64 (s2.2 + 1)))
        else
          r2 ((IntKind.wrap .i64 (Int.tdiv s2.1 2)), (IntKind.wrap .i64 (s2.2 + 1)))
      else
        r2 ((IntKind.wrap .i64 (Int.tdiv s2.1 2)), (IntKind.wrap .i64 (s2.2 + 1)))
  else
    k s2.1
def lc70_0 (x1 : Int) (x2 : Bool) (s2 : Int × Int) : Bool :=
  bif (decide (s2.2 < x1)) then
    bif (!x2) then
      true
    else
      bif (decide (s2.1 < 0)) then
        bif ((Int.tmod s2.1 2) != 0) then
          true
        else
          true
      else
        true
  else
    false
def ln70_0 (x1 : Int) (x2 : Bool) (s2 : Int × Int) : Int × Int :=
  bif (decide (s2.2 < x1)) then
    bif (!x2) then
      ((t55 ((IntKind.wrap .i64 (2 * s2.1)))), (IntKind.wrap .i64 (s2.2 + 1)))
    else
      bif (decide (s2.1 < 0)) then
        bif ((Int.tmod s2.1 2) != 0) then
          ((IntKind.wrap .i64 ((IntKind.wrap .i64 (Int.tdiv s2.1 2)) - 1)), (IntKind.wrap .i64 (s2.2 + 1)))
        else
          ((IntKind.wrap .i64 (Int.tdiv s2.1 2)), (IntKind.wrap .i64 (s2.2 + 1)))
      else
        ((IntKind.wrap .i64 (Int.tdiv s2.1 2)), (IntKind.wrap .i64 (s2.2 + 1)))
  else
    s2
def lx70_0 {Ω : Type} (x1 : Int) (x2 : Bool)   (k : Int → Option Ω) (s2 : Int × Int) : Option Ω :=
  bif (decide (s2.2 < x1)) then
    bif (!x2) then
      none
    else
      bif (decide (s2.1 < 0)) then
        bif ((Int.tmod s2.1 2) != 0) then
          none
        else
          none
      else
        none
  else
    k s2.1
theorem ld70_0 {Ω : Type} (x1 : Int) (x2 : Bool)   (k : Int → Option Ω) (r2 : Int × Int → Option Ω) (s2 : Int × Int) : b70_0 x1 x2   k r2 s2 = bif lc70_0 x1 x2 s2 then r2 (ln70_0 x1 x2 s2) else lx70_0 x1 x2   k s2 := by
  delta b70_0 lc70_0 ln70_0 lx70_0; exact (cond_rnd (cond_rnd (show _ = bif true then r2 _ else none from rfl) (cond_rnd (cond_rnd (show _ = bif true then r2 _ else none from rfl) (show _ = bif true then r2 _ else none from rfl)) (show _ = bif true then r2 _ else none from rfl))) (show _ = bif false then r2 s2 else _ from rfl))
def B70_0 {Ω : Type} (fuel : Nat) (x1 : Int) (x2 : Bool)  (k : Int → Option Ω) (r2 : Int × Int → Option Ω) (s2 : Int × Int) : Option Ω := b70_0 x1 x2   k r2 s2
theorem l70_0 {Ω : Type} (fuel : Nat) (x1 : Int) (x2 : Bool)  (k : AV → Option Ω) : ∀ m, (fun s => loopK (fun env L k => evCode C (fun {_} => sp70) (F70 fuel) (cl (cl (cr (cl (cr (Tryd.f70.body.getD .skip)))))) env L k) [false, false, false, true, true, true, false, false, true, true, true, true, true, true, true, true, true, true, true, true, true, true, true, true, true, true, true, true, true, true, true] 0 (blockK 0 (seqK (fun env L => evCode C (fun {_} => sp70) (F70 fuel) (cr (cr (Tryd.f70.body.getD .skip))) env L (finK C Tryd.f70 k)) (finK C Tryd.f70 k))) m ((fun s2 => [(.v (.int .i64) (s2.1)), (.v (.int .i64) (x1)), (.v .bool (x2)), .dead, .dead, .dead, (.v (.int .i64) (0)), (.v (.int .i64) (s2.2)), .dead, .dead, .dead, .dead, .dead, .dead, .dead, .dead, .dead, .dead, .dead, .dead, .dead, .dead, .dead, .dead, .dead, .dead, .dead, .dead, .dead, .dead, .dead]) s) ((fun s2 => []) s)) = iter (B70_0 fuel x1 x2  (fun r => k (.v (.int .i64) r))) m :=
  loopK_iter (envOf := (fun s2 => [(.v (.int .i64) (s2.1)), (.v (.int .i64) (x1)), (.v .bool (x2)), .dead, .dead, .dead, (.v (.int .i64) (0)), (.v (.int .i64) (s2.2)), .dead, .dead, .dead, .dead, .dead, .dead, .dead, .dead, .dead, .dead, .dead, .dead, .dead, .dead, .dead, .dead, .dead, .dead, .dead, .dead, .dead, .dead, .dead])) (LOf := (fun s2 => [])) (B := B70_0 fuel x1 x2  (fun r => k (.v (.int .i64) r))) (fun R s => by kernel_rfl)
def sl70 {Ω : Type} (x0 : Int) (x1 : Int) (x2 : Bool) (lp0 : Int → Bool → Int × Int → Option Ω) (k : Int → Option Ω) : Option Ω :=
  lp0 (x1) (x2) (x0, 0)
def s70 {Ω : Type} (fuel : Nat) (x0 : Int) (x1 : Int) (x2 : Bool) (k : Int → Option Ω) : Option Ω := sl70 x0 x1 x2 (fun x1 x2 => iter (B70_0 fuel x1 x2  k) fuel) k
theorem ev70 {Ω : Type} (fuel : Nat) (x0 : Int) (x1 : Int) (x2 : Bool) (k : AV → Option Ω) : evFn C (fun {_} => sp70) (F70 fuel) Tryd.f70 (Tryd.f70.body.getD .skip) [.v (.int .i64) x0, .v (.int .i64) x1, .v .bool x2] k = s70 fuel x0 x1 x2 (fun r => k (.v (.int .i64) r)) := by
  have h0 : evFn C (fun {_} => sp70) (F70 fuel) Tryd.f70 (Tryd.f70.body.getD .skip) [.v (.int .i64) x0, .v (.int .i64) x1, .v .bool x2] k = sl70 x0 x1 x2 (fun x1 x2 => fun s => loopK (fun env L k => evCode C (fun {_} => sp70) (F70 fuel) (cl (cl (cr (cl (cr (Tryd.f70.body.getD .skip)))))) env L k) [false, false, false, true, true, true, false, false, true, true, true, true, true, true, true, true, true, true, true, true, true, true, true, true, true, true, true, true, true, true, true] 0 (blockK 0 (seqK (fun env L => evCode C (fun {_} => sp70) (F70 fuel) (cr (cr (Tryd.f70.body.getD .skip))) env L (finK C Tryd.f70 k)) (finK C Tryd.f70 k))) fuel ((fun s2 => [(.v (.int .i64) (s2.1)), (.v (.int .i64) (x1)), (.v .bool (x2)), .dead, .dead, .dead, (.v (.int .i64) (0)), (.v (.int .i64) (s2.2)), .dead, .dead, .dead, .dead, .dead, .dead, .dead, .dead, .dead, .dead, .dead, .dead, .dead, .dead, .dead, .dead, .dead, .dead, .dead, .dead, .dead, .dead, .dead]) s) ((fun s2 => []) s)) (fun r => k (.v (.int .i64) r)) := by kernel_rfl
  have h1 : (fun x1 x2 => fun s => loopK (fun env L k => evCode C (fun {_} => sp70) (F70 fuel) (cl (cl (cr (cl (cr (Tryd.f70.body.getD .skip)))))) env L k) [false, false, false, true, true, true, false, false, true, true, true, true, true, true, true, true, true, true, true, true, true, true, true, true, true, true, true, true, true, true, true] 0 (blockK 0 (seqK (fun env L => evCode C (fun {_} => sp70) (F70 fuel) (cr (cr (Tryd.f70.body.getD .skip))) env L (finK C Tryd.f70 k)) (finK C Tryd.f70 k))) fuel ((fun s2 => [(.v (.int .i64) (s2.1)), (.v (.int .i64) (x1)), (.v .bool (x2)), .dead, .dead, .dead, (.v (.int .i64) (0)), (.v (.int .i64) (s2.2)), .dead, .dead, .dead, .dead, .dead, .dead, .dead, .dead, .dead, .dead, .dead, .dead, .dead, .dead, .dead, .dead, .dead, .dead, .dead, .dead, .dead, .dead, .dead]) s) ((fun s2 => []) s)) = (fun x1 x2 => iter (B70_0 fuel x1 x2  (fun r => k (.v (.int .i64) r))) fuel) := funext fun x1 => funext fun x2 => l70_0 fuel x1 x2 k fuel
  rw [h1] at h0
  exact h0

/-- becket becketref08.bits -/
noncomputable def sp73 : Spec := (orS 71 (fun {_} => e71) (orS 55 (fun {_} => e55) noS))
def F73 (fuel : Nat) : Fuel := ⟨fuel, fun r => []⟩
def b73_0 {Ω : Type} (x0 : Int) (x1 : Int) (c1 : Int) (x2 : Int) (c2 : Int)   (k : Int → Option Ω) (r2 : Int × Int × Int × Int × Int → Option Ω) (s2 : Int × Int × Int × Int × Int) : Option Ω :=
  bif (decide (s2.2.2.2.2 < 32)) then
    bif (x0 == 7) then
      bif (x0 == 8) then
        bif ((IntKind.wrap .i64 ((Int.tmod s2.1 2) + (Int.tmod s2.2.1 2))) == 1) then
          r2 ((IntKind.wrap .i64 (Int.tdiv s2.1 2)), (IntKind.wrap .i64 (Int.tdiv s2.2.1 2)), (IntKind.wrap .i64 (s2.2.2.1 + s2.2.2.2.1)), (IntKind.wrap .i64 (2 * s2.2.2.2.1)), (IntKind.wrap .i64 (s2.2.2.2.2 + 1)))
        else
          r2 ((IntKind.wrap .i64 (Int.tdiv s2.1 2)), (IntKind.wrap .i64 (Int.tdiv s2.2.1 2)), s2.2.2.1, (IntKind.wrap .i64 (2 * s2.2.2.2.1)), (IntKind.wrap .i64 (s2.2.2.2.2 + 1)))
      else
        bif (decide ((IntKind.wrap .i64 ((Int.tmod s2.1 2) + (Int.tmod s2.2.1 2))) > 0)) then
          r2 ((IntKind.wrap .i64 (Int.tdiv s2.1 2)), (IntKind.wrap .i64 (Int.tdiv s2.2.1 2)), (IntKind.wrap .i64 (s2.2.2.1 + s2.2.2.2.1)), (IntKind.wrap .i64 (2 * s2.2.2.2.1)), (IntKind.wrap .i64 (s2.2.2.2.2 + 1)))
        else
          r2 ((IntKind.wrap .i64 (Int.tdiv s2.1 2)), (IntKind.wrap .i64 (Int.tdiv s2.2.1 2)), s2.2.2.1, (IntKind.wrap .i64 (2 * s2.2.2.2.1)), (IntKind.wrap .i64 (s2.2.2.2.2 + 1)))
    else
      bif (x0 == 8) then
        bif ((IntKind.wrap .i64 ((Int.tmod s2.1 2) + (Int.tmod s2.2.1 2))) == 1) then
          r2 ((IntKind.wrap .i64 (Int.tdiv s2.1 2)), (IntKind.wrap .i64 (Int.tdiv s2.2.1 2)), (IntKind.wrap .i64 (s2.2.2.1 + s2.2.2.2.1)), (IntKind.wrap .i64 (2 * s2.2.2.2.1)), (IntKind.wrap .i64 (s2.2.2.2.2 + 1)))
        else
          r2 ((IntKind.wrap .i64 (Int.tdiv s2.1 2)), (IntKind.wrap .i64 (Int.tdiv s2.2.1 2)), s2.2.2.1, (IntKind.wrap .i64 (2 * s2.2.2.2.1)), (IntKind.wrap .i64 (s2.2.2.2.2 + 1)))
      else
        bif ((IntKind.wrap .i64 ((Int.tmod s2.1 2) + (Int.tmod s2.2.1 2))) == 2) then
          r2 ((IntKind.wrap .i64 (Int.tdiv s2.1 2)), (IntKind.wrap .i64 (Int.tdiv s2.2.1 2)), (IntKind.wrap .i64 (s2.2.2.1 + s2.2.2.2.1)), (IntKind.wrap .i64 (2 * s2.2.2.2.1)), (IntKind.wrap .i64 (s2.2.2.2.2 + 1)))
        else
          r2 ((IntKind.wrap .i64 (Int.tdiv s2.1 2)), (IntKind.wrap .i64 (Int.tdiv s2.2.1 2)), s2.2.2.1, (IntKind.wrap .i64 (2 * s2.2.2.2.1)), (IntKind.wrap .i64 (s2.2.2.2.2 + 1)))
  else
    k (t55 (s2.2.2.1))
def lc73_0 (x0 : Int) (x1 : Int) (c1 : Int) (x2 : Int) (c2 : Int) (s2 : Int × Int × Int × Int × Int) : Bool :=
  bif (decide (s2.2.2.2.2 < 32)) then
    bif (x0 == 7) then
      bif (x0 == 8) then
        bif ((IntKind.wrap .i64 ((Int.tmod s2.1 2) + (Int.tmod s2.2.1 2))) == 1) then
          true
        else
          true
      else
        bif (decide ((IntKind.wrap .i64 ((Int.tmod s2.1 2) + (Int.tmod s2.2.1 2))) > 0)) then
          true
        else
          true
    else
      bif (x0 == 8) then
        bif ((IntKind.wrap .i64 ((Int.tmod s2.1 2) + (Int.tmod s2.2.1 2))) == 1) then
          true
        else
          true
      else
        bif ((IntKind.wrap .i64 ((Int.tmod s2.1 2) + (Int.tmod s2.2.1 2))) == 2) then
          true
        else
          true
  else
    false
def ln73_0 (x0 : Int) (x1 : Int) (c1 : Int) (x2 : Int) (c2 : Int) (s2 : Int × Int × Int × Int × Int) : Int × Int × Int × Int × Int :=
  bif (decide (s2.2.2.2.2 < 32)) then
    bif (x0 == 7) then
      bif (x0 == 8) then
        bif ((IntKind.wrap .i64 ((Int.tmod s2.1 2) + (Int.tmod s2.2.1 2))) == 1) then
          ((IntKind.wrap .i64 (Int.tdiv s2.1 2)), (IntKind.wrap .i64 (Int.tdiv s2.2.1 2)), (IntKind.wrap .i64 (s2.2.2.1 + s2.2.2.2.1)), (IntKind.wrap .i64 (2 * s2.2.2.2.1)), (IntKind.wrap .i64 (s2.2.2.2.2 + 1)))
        else
          ((IntKind.wrap .i64 (Int.tdiv s2.1 2)), (IntKind.wrap .i64 (Int.tdiv s2.2.1 2)), s2.2.2.1, (IntKind.wrap .i64 (2 * s2.2.2.2.1)), (IntKind.wrap .i64 (s2.2.2.2.2 + 1)))
      else
        bif (decide ((IntKind.wrap .i64 ((Int.tmod s2.1 2) + (Int.tmod s2.2.1 2))) > 0)) then
          ((IntKind.wrap .i64 (Int.tdiv s2.1 2)), (IntKind.wrap .i64 (Int.tdiv s2.2.1 2)), (IntKind.wrap .i64 (s2.2.2.1 + s2.2.2.2.1)), (IntKind.wrap .i64 (2 * s2.2.2.2.1)), (IntKind.wrap .i64 (s2.2.2.2.2 + 1)))
        else
          ((IntKind.wrap .i64 (Int.tdiv s2.1 2)), (IntKind.wrap .i64 (Int.tdiv s2.2.1 2)), s2.2.2.1, (IntKind.wrap .i64 (2 * s2.2.2.2.1)), (IntKind.wrap .i64 (s2.2.2.2.2 + 1)))
    else
      bif (x0 == 8) then
        bif ((IntKind.wrap .i64 ((Int.tmod s2.1 2) + (Int.tmod s2.2.1 2))) == 1) then
          ((IntKind.wrap .i64 (Int.tdiv s2.1 2)), (IntKind.wrap .i64 (Int.tdiv s2.2.1 2)), (IntKind.wrap .i64 (s2.2.2.1 + s2.2.2.2.1)), (IntKind.wrap .i64 (2 * s2.2.2.2.1)), (IntKind.wrap .i64 (s2.2.2.2.2 + 1)))
        else
          ((IntKind.wrap .i64 (Int.tdiv s2.1 2)), (IntKind.wrap .i64 (Int.tdiv s2.2.1 2)), s2.2.2.1, (IntKind.wrap .i64 (2 * s2.2.2.2.1)), (IntKind.wrap .i64 (s2.2.2.2.2 + 1)))
      else
        bif ((IntKind.wrap .i64 ((Int.tmod s2.1 2) + (Int.tmod s2.2.1 2))) == 2) then
          ((IntKind.wrap .i64 (Int.tdiv s2.1 2)), (IntKind.wrap .i64 (Int.tdiv s2.2.1 2)), (IntKind.wrap .i64 (s2.2.2.1 + s2.2.2.2.1)), (IntKind.wrap .i64 (2 * s2.2.2.2.1)), (IntKind.wrap .i64 (s2.2.2.2.2 + 1)))
        else
          ((IntKind.wrap .i64 (Int.tdiv s2.1 2)), (IntKind.wrap .i64 (Int.tdiv s2.2.1 2)), s2.2.2.1, (IntKind.wrap .i64 (2 * s2.2.2.2.1)), (IntKind.wrap .i64 (s2.2.2.2.2 + 1)))
  else
    s2
def lx73_0 {Ω : Type} (x0 : Int) (x1 : Int) (c1 : Int) (x2 : Int) (c2 : Int)   (k : Int → Option Ω) (s2 : Int × Int × Int × Int × Int) : Option Ω :=
  bif (decide (s2.2.2.2.2 < 32)) then
    bif (x0 == 7) then
      bif (x0 == 8) then
        bif ((IntKind.wrap .i64 ((Int.tmod s2.1 2) + (Int.tmod s2.2.1 2))) == 1) then
          none
        else
          none
      else
        bif (decide ((IntKind.wrap .i64 ((Int.tmod s2.1 2) + (Int.tmod s2.2.1 2))) > 0)) then
          none
        else
          none
    else
      bif (x0 == 8) then
        bif ((IntKind.wrap .i64 ((Int.tmod s2.1 2) + (Int.tmod s2.2.1 2))) == 1) then
          none
        else
          none
      else
        bif ((IntKind.wrap .i64 ((Int.tmod s2.1 2) + (Int.tmod s2.2.1 2))) == 2) then
          none
        else
          none
  else
    k (t55 (s2.2.2.1))
theorem ld73_0 {Ω : Type} (x0 : Int) (x1 : Int) (c1 : Int) (x2 : Int) (c2 : Int)   (k : Int → Option Ω) (r2 : Int × Int × Int × Int × Int → Option Ω) (s2 : Int × Int × Int × Int × Int) : b73_0 x0 x1 c1 x2 c2   k r2 s2 = bif lc73_0 x0 x1 c1 x2 c2 s2 then r2 (ln73_0 x0 x1 c1 x2 c2 s2) else lx73_0 x0 x1 c1 x2 c2   k s2 := by
  delta b73_0 lc73_0 ln73_0 lx73_0; exact (cond_rnd (cond_rnd (cond_rnd (cond_rnd (show _ = bif true then r2 _ else none from rfl) (show _ = bif true then r2 _ else none from rfl)) (cond_rnd (show _ = bif true then r2 _ else none from rfl) (show _ = bif true then r2 _ else none from rfl))) (cond_rnd (cond_rnd (show _ = bif true then r2 _ else none from rfl) (show _ = bif true then r2 _ else none from rfl)) (cond_rnd (show _ = bif true then r2 _ else none from rfl) (show _ = bif true then r2 _ else none from rfl)))) (show _ = bif false then r2 s2 else _ from rfl))
def B73_0 {Ω : Type} (fuel : Nat) (x0 : Int) (x1 : Int) (c1 : Int) (x2 : Int) (c2 : Int)  (k : Int → Option Ω) (r2 : Int × Int × Int × Int × Int → Option Ω) (s2 : Int × Int × Int × Int × Int) : Option Ω := b73_0 x0 x1 c1 x2 c2   k r2 s2
theorem l73_0 {Ω : Type} (fuel : Nat) (x0 : Int) (x1 : Int) (c1 : Int) (x2 : Int) (c2 : Int)  (k : AV → Option Ω) : ∀ m, (fun s => loopK (fun env L k => evCode C (fun {_} => sp73) (F73 fuel) (cl (cl (cr (cl (cr (cr (cr (Tryd.f73.body.getD .skip)))))))) env L k) [false, false, false, true, true, true, false, false, false, false, true, true, true, false, false, false, false, true, true, true, true, true, true, true, true, true, true, true, true, true, true, true, true, true, true, true, true, true, true, true, true, true, true, true, true, true, true, true, true, true, true, true, true] 0 (blockK 0 (seqK (fun env L => evCode C (fun {_} => sp73) (F73 fuel) (cr (cr (cr (cr (Tryd.f73.body.getD .skip))))) env L (finK C Tryd.f73 k)) (finK C Tryd.f73 k))) m ((fun s2 => [(.v (.int .i64) (x0)), (.v (.int .i64) (s2.1)), (.v (.int .i64) (s2.2.1)), .dead, .dead, .dead, (.v (.int .i64) (0)), (.v (.int .i64) (s2.2.2.1)), (.v (.int .i64) (s2.2.2.2.1)), (.v (.int .i64) (s2.2.2.2.2)), .dead, .dead, .dead, (.v (.int .i64) (x1)), (.v (.int .i64) (c1)), (.v (.int .i64) (x2)), (.v (.int .i64) (c2)), .dead, .dead, .dead, .dead, .dead, .dead, .dead, .dead, .dead, .dead, .dead, .dead, .dead, .dead, .dead, .dead, .dead, .dead, .dead, .dead, .dead, .dead, .dead, .dead, .dead, .dead, .dead, .dead, .dead, .dead, .dead, .dead, .dead, .dead, .dead, .dead]) s) ((fun s2 => []) s)) = iter (B73_0 fuel x0 x1 c1 x2 c2  (fun r => k (.v (.int .i64) r))) m :=
  loopK_iter (envOf := (fun s2 => [(.v (.int .i64) (x0)), (.v (.int .i64) (s2.1)), (.v (.int .i64) (s2.2.1)), .dead, .dead, .dead, (.v (.int .i64) (0)), (.v (.int .i64) (s2.2.2.1)), (.v (.int .i64) (s2.2.2.2.1)), (.v (.int .i64) (s2.2.2.2.2)), .dead, .dead, .dead, (.v (.int .i64) (x1)), (.v (.int .i64) (c1)), (.v (.int .i64) (x2)), (.v (.int .i64) (c2)), .dead, .dead, .dead, .dead, .dead, .dead, .dead, .dead, .dead, .dead, .dead, .dead, .dead, .dead, .dead, .dead, .dead, .dead, .dead, .dead, .dead, .dead, .dead, .dead, .dead, .dead, .dead, .dead, .dead, .dead, .dead, .dead, .dead, .dead, .dead, .dead])) (LOf := (fun s2 => [])) (B := B73_0 fuel x0 x1 c1 x2 c2  (fun r => k (.v (.int .i64) r))) (fun R s => by kernel_rfl)
def sl73 {Ω : Type} (x0 : Int) (x1 : Int) (x2 : Int) (lp0 : Int → Int → Int → Int → Int → Int × Int × Int × Int × Int → Option Ω) (k : Int → Option Ω) : Option Ω :=
  lp0 (x0) (x1) ((t71 (x1))) (x2) ((t71 (x2))) ((t71 (x1)), (t71 (x2)), 0, 1, 0)
def s73 {Ω : Type} (fuel : Nat) (x0 : Int) (x1 : Int) (x2 : Int) (k : Int → Option Ω) : Option Ω := sl73 x0 x1 x2 (fun x0 x1 c1 x2 c2 => iter (B73_0 fuel x0 x1 c1 x2 c2  k) fuel) k
theorem ev73 {Ω : Type} (fuel : Nat) (x0 : Int) (x1 : Int) (x2 : Int) (k : AV → Option Ω) : evFn C (fun {_} => sp73) (F73 fuel) Tryd.f73 (Tryd.f73.body.getD .skip) [.v (.int .i64) x0, .v (.int .i64) x1, .v (.int .i64) x2] k = s73 fuel x0 x1 x2 (fun r => k (.v (.int .i64) r)) := by
  have h0 : evFn C (fun {_} => sp73) (F73 fuel) Tryd.f73 (Tryd.f73.body.getD .skip) [.v (.int .i64) x0, .v (.int .i64) x1, .v (.int .i64) x2] k = sl73 x0 x1 x2 (fun x0 x1 c1 x2 c2 => fun s => loopK (fun env L k => evCode C (fun {_} => sp73) (F73 fuel) (cl (cl (cr (cl (cr (cr (cr (Tryd.f73.body.getD .skip)))))))) env L k) [false, false, false, true, true, true, false, false, false, false, true, true, true, false, false, false, false, true, true, true, true, true, true, true, true, true, true, true, true, true, true, true, true, true, true, true, true, true, true, true, true, true, true, true, true, true, true, true, true, true, true, true, true] 0 (blockK 0 (seqK (fun env L => evCode C (fun {_} => sp73) (F73 fuel) (cr (cr (cr (cr (Tryd.f73.body.getD .skip))))) env L (finK C Tryd.f73 k)) (finK C Tryd.f73 k))) fuel ((fun s2 => [(.v (.int .i64) (x0)), (.v (.int .i64) (s2.1)), (.v (.int .i64) (s2.2.1)), .dead, .dead, .dead, (.v (.int .i64) (0)), (.v (.int .i64) (s2.2.2.1)), (.v (.int .i64) (s2.2.2.2.1)), (.v (.int .i64) (s2.2.2.2.2)), .dead, .dead, .dead, (.v (.int .i64) (x1)), (.v (.int .i64) (c1)), (.v (.int .i64) (x2)), (.v (.int .i64) (c2)), .dead, .dead, .dead, .dead, .dead, .dead, .dead, .dead, .dead, .dead, .dead, .dead, .dead, .dead, .dead, .dead, .dead, .dead, .dead, .dead, .dead, .dead, .dead, .dead, .dead, .dead, .dead, .dead, .dead, .dead, .dead, .dead, .dead, .dead, .dead, .dead]) s) ((fun s2 => []) s)) (fun r => k (.v (.int .i64) r)) := by kernel_rfl
  have h1 : (fun x0 x1 c1 x2 c2 => fun s => loopK (fun env L k => evCode C (fun {_} => sp73) (F73 fuel) (cl (cl (cr (cl (cr (cr (cr (Tryd.f73.body.getD .skip)))))))) env L k) [false, false, false, true, true, true, false, false, false, false, true, true, true, false, false, false, false, true, true, true, true, true, true, true, true, true, true, true, true, true, true, true, true, true, true, true, true, true, true, true, true, true, true, true, true, true, true, true, true, true, true, true, true] 0 (blockK 0 (seqK (fun env L => evCode C (fun {_} => sp73) (F73 fuel) (cr (cr (cr (cr (Tryd.f73.body.getD .skip))))) env L (finK C Tryd.f73 k)) (finK C Tryd.f73 k))) fuel ((fun s2 => [(.v (.int .i64) (x0)), (.v (.int .i64) (s2.1)), (.v (.int .i64) (s2.2.1)), .dead, .dead, .dead, (.v (.int .i64) (0)), (.v (.int .i64) (s2.2.2.1)), (.v (.int .i64) (s2.2.2.2.1)), (.v (.int .i64) (s2.2.2.2.2)), .dead, .dead, .dead, (.v (.int .i64) (x1)), (.v (.int .i64) (c1)), (.v (.int .i64) (x2)), (.v (.int .i64) (c2)), .dead, .dead, .dead, .dead, .dead, .dead, .dead, .dead, .dead, .dead, .dead, .dead, .dead, .dead, .dead, .dead, .dead, .dead, .dead, .dead, .dead, .dead, .dead, .dead, .dead, .dead, .dead, .dead, .dead, .dead, .dead, .dead, .dead, .dead, .dead, .dead]) s) ((fun s2 => []) s)) = (fun x0 x1 c1 x2 c2 => iter (B73_0 fuel x0 x1 c1 x2 c2  (fun r => k (.v (.int .i64) r))) fuel) := funext fun x0 => funext fun x1 => funext fun c1 => funext fun x2 => funext fun c2 => l73_0 fuel x0 x1 c1 x2 c2 k fuel
  rw [h1] at h0
  exact h0

/-- becket word.whole -/
noncomputable def sp75 : Spec := noS
def F75 (fuel : Nat) : Fuel := ⟨fuel, fun r => []⟩
def b75_0 {Ω : Type} (x0 : ByteArray) (c1 : (List Int)) (c2 : Int)   (k : Bool → Option Ω) (r2 : Int → Option Ω) (s2 : Int) : Option Ω :=
  bif (decide (s2 < c2)) then
    bif (idxOK s2 (List.length c1)) then
      bif (decide ((List.getD c1 (Int.toNat s2) 0) < 48)) then
        k false
      else
        bif (decide ((List.getD c1 (Int.toNat s2) 0) > 57)) then
          k false
        else
          r2 ((IntKind.wrap .i64 (s2 + 1)))
    else
      none
  else
    bif ((x0).data.toList == ((bs [48])).data.toList) then
      k true
    else
      bif (!((x0).data.toList == ((bs [])).data.toList)) then
        bif (idxOK 0 (x0).size) then
          k ((bAt x0 0) != 48)
        else
          none
      else
        k false
def lc75_0 (x0 : ByteArray) (c1 : (List Int)) (c2 : Int) (s2 : Int) : Bool :=
  bif (decide (s2 < c2)) then
    bif (idxOK s2 (List.length c1)) then
      bif (decide ((List.getD c1 (Int.toNat s2) 0) < 48)) then
        false
      else
        bif (decide ((List.getD c1 (Int.toNat s2) 0) > 57)) then
          false
        else
          true
    else
      false
  else
    bif ((x0).data.toList == ((bs [48])).data.toList) then
      false
    else
      bif (!((x0).data.toList == ((bs [])).data.toList)) then
        bif (idxOK 0 (x0).size) then
          false
        else
          false
      else
        false
def ln75_0 (x0 : ByteArray) (c1 : (List Int)) (c2 : Int) (s2 : Int) : Int :=
  bif (decide (s2 < c2)) then
    bif (idxOK s2 (List.length c1)) then
      bif (decide ((List.getD c1 (Int.toNat s2) 0) < 48)) then
        s2
      else
        bif (decide ((List.getD c1 (Int.toNat s2) 0) > 57)) then
          s2
        else
          ((IntKind.wrap .i64 (s2 + 1)))
    else
      s2
  else
    bif ((x0).data.toList == ((bs [48])).data.toList) then
      s2
    else
      bif (!((x0).data.toList == ((bs [])).data.toList)) then
        bif (idxOK 0 (x0).size) then
          s2
        else
          s2
      else
        s2
def lx75_0 {Ω : Type} (x0 : ByteArray) (c1 : (List Int)) (c2 : Int)   (k : Bool → Option Ω) (s2 : Int) : Option Ω :=
  bif (decide (s2 < c2)) then
    bif (idxOK s2 (List.length c1)) then
      bif (decide ((List.getD c1 (Int.toNat s2) 0) < 48)) then
        k false
      else
        bif (decide ((List.getD c1 (Int.toNat s2) 0) > 57)) then
          k false
        else
          none
    else
      none
  else
    bif ((x0).data.toList == ((bs [48])).data.toList) then
      k true
    else
      bif (!((x0).data.toList == ((bs [])).data.toList)) then
        bif (idxOK 0 (x0).size) then
          k ((bAt x0 0) != 48)
        else
          none
      else
        k false
theorem ld75_0 {Ω : Type} (x0 : ByteArray) (c1 : (List Int)) (c2 : Int)   (k : Bool → Option Ω) (r2 : Int → Option Ω) (s2 : Int) : b75_0 x0 c1 c2   k r2 s2 = bif lc75_0 x0 c1 c2 s2 then r2 (ln75_0 x0 c1 c2 s2) else lx75_0 x0 c1 c2   k s2 := by
  delta b75_0 lc75_0 ln75_0 lx75_0; exact (cond_rnd (cond_rnd (cond_rnd (show _ = bif false then r2 s2 else _ from rfl) (cond_rnd (show _ = bif false then r2 s2 else _ from rfl) (show _ = bif true then r2 _ else none from rfl))) (show _ = bif false then r2 s2 else _ from rfl)) (cond_rnd (show _ = bif false then r2 s2 else _ from rfl) (cond_rnd (cond_rnd (show _ = bif false then r2 s2 else _ from rfl) (show _ = bif false then r2 s2 else _ from rfl)) (show _ = bif false then r2 s2 else _ from rfl))))
def B75_0 {Ω : Type} (fuel : Nat) (x0 : ByteArray) (c1 : (List Int)) (c2 : Int)  (k : Bool → Option Ω) (r2 : Int → Option Ω) (s2 : Int) : Option Ω := b75_0 x0 c1 c2   k r2 s2
theorem l75_0 {Ω : Type} (fuel : Nat) (x0 : ByteArray) (c1 : (List Int)) (c2 : Int)  (k : AV → Option Ω) : ∀ m, (fun s => loopK (fun env L k => evCode C (fun {_} => sp75) (F75 fuel) (cl (cl (cr (cl (cr (Tryd.f75.body.getD .skip)))))) env L k) [false, true, false, true, true, false, false, false, false, true, true, true, true, true, true, true, true, true, true, true, true, true, true, true, true, true, true, true, true, true] 0 (blockK 0 (seqK (fun env L => evCode C (fun {_} => sp75) (F75 fuel) (cr (cr (Tryd.f75.body.getD .skip))) env L (finK C Tryd.f75 k)) (finK C Tryd.f75 k))) m ((fun s2 => [(.v .str (x0)), .dead, (.v .bool (false)), .dead, .dead, (.v .str (x0)), (.v (.slice (.int .u8)) (c1)), (.v (.int .i64) (c2)), (.v (.int .i64) (s2)), .dead, .dead, .dead, .dead, .dead, .dead, .dead, .dead, .dead, .dead, .dead, .dead, .dead, .dead, .dead, .dead, .dead, .dead, .dead, .dead, .dead]) s) ((fun s2 => []) s)) = iter (B75_0 fuel x0 c1 c2  (fun r => k (.v .bool r))) m :=
  loopK_iter (envOf := (fun s2 => [(.v .str (x0)), .dead, (.v .bool (false)), .dead, .dead, (.v .str (x0)), (.v (.slice (.int .u8)) (c1)), (.v (.int .i64) (c2)), (.v (.int .i64) (s2)), .dead, .dead, .dead, .dead, .dead, .dead, .dead, .dead, .dead, .dead, .dead, .dead, .dead, .dead, .dead, .dead, .dead, .dead, .dead, .dead, .dead])) (LOf := (fun s2 => [])) (B := B75_0 fuel x0 c1 c2  (fun r => k (.v .bool r))) (fun R s => by kernel_rfl)
def sl75 {Ω : Type} (x0 : ByteArray) (lp0 : ByteArray → (List Int) → Int → Int → Option Ω) (k : Bool → Option Ω) : Option Ω :=
  lp0 (x0) ((bytesI x0)) (((List.length (bytesI x0) : Nat) : Int)) (0)
def s75 {Ω : Type} (fuel : Nat) (x0 : ByteArray) (k : Bool → Option Ω) : Option Ω := sl75 x0 (fun x0 c1 c2 => iter (B75_0 fuel x0 c1 c2  k) fuel) k
theorem ev75 {Ω : Type} (fuel : Nat) (x0 : ByteArray) (k : AV → Option Ω) : evFn C (fun {_} => sp75) (F75 fuel) Tryd.f75 (Tryd.f75.body.getD .skip) [.v .str x0] k = s75 fuel x0 (fun r => k (.v .bool r)) := by
  have h0 : evFn C (fun {_} => sp75) (F75 fuel) Tryd.f75 (Tryd.f75.body.getD .skip) [.v .str x0] k = sl75 x0 (fun x0 c1 c2 => fun s => loopK (fun env L k => evCode C (fun {_} => sp75) (F75 fuel) (cl (cl (cr (cl (cr (Tryd.f75.body.getD .skip)))))) env L k) [false, true, false, true, true, false, false, false, false, true, true, true, true, true, true, true, true, true, true, true, true, true, true, true, true, true, true, true, true, true] 0 (blockK 0 (seqK (fun env L => evCode C (fun {_} => sp75) (F75 fuel) (cr (cr (Tryd.f75.body.getD .skip))) env L (finK C Tryd.f75 k)) (finK C Tryd.f75 k))) fuel ((fun s2 => [(.v .str (x0)), .dead, (.v .bool (false)), .dead, .dead, (.v .str (x0)), (.v (.slice (.int .u8)) (c1)), (.v (.int .i64) (c2)), (.v (.int .i64) (s2)), .dead, .dead, .dead, .dead, .dead, .dead, .dead, .dead, .dead, .dead, .dead, .dead, .dead, .dead, .dead, .dead, .dead, .dead, .dead, .dead, .dead]) s) ((fun s2 => []) s)) (fun r => k (.v .bool r)) := by kernel_rfl
  have h1 : (fun x0 c1 c2 => fun s => loopK (fun env L k => evCode C (fun {_} => sp75) (F75 fuel) (cl (cl (cr (cl (cr (Tryd.f75.body.getD .skip)))))) env L k) [false, true, false, true, true, false, false, false, false, true, true, true, true, true, true, true, true, true, true, true, true, true, true, true, true, true, true, true, true, true] 0 (blockK 0 (seqK (fun env L => evCode C (fun {_} => sp75) (F75 fuel) (cr (cr (Tryd.f75.body.getD .skip))) env L (finK C Tryd.f75 k)) (finK C Tryd.f75 k))) fuel ((fun s2 => [(.v .str (x0)), .dead, (.v .bool (false)), .dead, .dead, (.v .str (x0)), (.v (.slice (.int .u8)) (c1)), (.v (.int .i64) (c2)), (.v (.int .i64) (s2)), .dead, .dead, .dead, .dead, .dead, .dead, .dead, .dead, .dead, .dead, .dead, .dead, .dead, .dead, .dead, .dead, .dead, .dead, .dead, .dead, .dead]) s) ((fun s2 => []) s)) = (fun x0 c1 c2 => iter (B75_0 fuel x0 c1 c2  (fun r => k (.v .bool r))) fuel) := funext fun x0 => funext fun c1 => funext fun c2 => l75_0 fuel x0 c1 c2 k fuel
  rw [h1] at h0
  exact h0

end Go.Proofs.YtmphlhnpichonaaDoor.K

/- What functions of the program come to. -/
import Derived.Test.YtmphlhnpichonaaDoorP8c
set_option maxRecDepth 100000
set_option linter.unusedVariables false
namespace Go.Proofs.YtmphlhnpichonaaDoor.K
open Go Go.RowKit

/-- becket becketref01.Plain -/
noncomputable def sp77 : Spec := noS
def F77 (fuel : Nat) : Fuel := ⟨fuel, fun r => bif r == 5 then [1, 6, 7, 8, 9, 10, 11, 12, 13, 14, 15, 16, 17] else []⟩
def b77_0 {Ω : Type} (e5_1 : ByteArray)   (k : Int × Bool → Option Ω) (r5 : Int × Int → Option Ω) (s5 : Int × Int) : Option Ω :=
  bif (decide (s5.2 < ((e5_1).size : Int))) then
    bif (idxOK s5.2 (e5_1).size) then
      bif (decide ((bAt e5_1 (Int.toNat s5.2)) < 48)) then
        k (0, false)
      else
        bif (idxOK s5.2 (e5_1).size) then
          bif (decide ((bAt e5_1 (Int.toNat s5.2)) > 57)) then
            k (0, false)
          else
            bif (idxOK s5.2 (e5_1).size) then
              let v1 : Int := (IntKind.wrap .i64 ((IntKind.wrap .i64 (10 * s5.1)) + (IntKind.wrap .i64 (IntKind.wrap .u8 ((bAt e5_1 (Int.toNat s5.2)) - 48)))))
              r5 ((if (1000000000 : Int) < v1 then 1000000000 else v1), (IntKind.wrap .i64 (s5.2 + 1)))
            else
              none
        else
          none
    else
      none
  else
    k (s5.1, true)
def lc77_0 (e5_1 : ByteArray) (s5 : Int × Int) : Bool :=
  bif (decide (s5.2 < ((e5_1).size : Int))) then
    bif (idxOK s5.2 (e5_1).size) then
      bif (decide ((bAt e5_1 (Int.toNat s5.2)) < 48)) then
        false
      else
        bif (idxOK s5.2 (e5_1).size) then
          bif (decide ((bAt e5_1 (Int.toNat s5.2)) > 57)) then
            false
          else
            bif (idxOK s5.2 (e5_1).size) then
              let v1 : Int := (IntKind.wrap .i64 ((IntKind.wrap .i64 (10 * s5.1)) + (IntKind.wrap .i64 (IntKind.wrap .u8 ((bAt e5_1 (Int.toNat s5.2)) - 48)))))
              true
            else
              false
        else
          false
    else
      false
  else
    false
def ln77_0 (e5_1 : ByteArray) (s5 : Int × Int) : Int × Int :=
  bif (decide (s5.2 < ((e5_1).size : Int))) then
    bif (idxOK s5.2 (e5_1).size) then
      bif (decide ((bAt e5_1 (Int.toNat s5.2)) < 48)) then
        s5
      else
        bif (idxOK s5.2 (e5_1).size) then
          bif (decide ((bAt e5_1 (Int.toNat s5.2)) > 57)) then
            s5
          else
            bif (idxOK s5.2 (e5_1).size) then
              let v1 : Int := (IntKind.wrap .i64 ((IntKind.wrap .i64 (10 * s5.1)) + (IntKind.wrap .i64 (IntKind.wrap .u8 ((bAt e5_1 (Int.toNat s5.2)) - 48)))))
              ((if (1000000000 : Int) < v1 then 1000000000 else v1), (IntKind.wrap .i64 (s5.2 + 1)))
            else
              s5
        else
          s5
    else
      s5
  else
    s5
def lx77_0 {Ω : Type} (e5_1 : ByteArray)   (k : Int × Bool → Option Ω) (s5 : Int × Int) : Option Ω :=
  bif (decide (s5.2 < ((e5_1).size : Int))) then
    bif (idxOK s5.2 (e5_1).size) then
      bif (decide ((bAt e5_1 (Int.toNat s5.2)) < 48)) then
        k (0, false)
      else
        bif (idxOK s5.2 (e5_1).size) then
          bif (decide ((bAt e5_1 (Int.toNat s5.2)) > 57)) then
            k (0, false)
          else
            bif (idxOK s5.2 (e5_1).size) then
              let v1 : Int := (IntKind.wrap .i64 ((IntKind.wrap .i64 (10 * s5.1)) + (IntKind.wrap .i64 (IntKind.wrap .u8 ((bAt e5_1 (Int.toNat s5.2)) - 48)))))
              none
            else
              none
        else
          none
    else
      none
  else
    k (s5.1, true)
theorem ld77_0 {Ω : Type} (e5_1 : ByteArray)   (k : Int × Bool → Option Ω) (r5 : Int × Int → Option Ω) (s5 : Int × Int) : b77_0 e5_1   k r5 s5 = bif lc77_0 e5_1 s5 then r5 (ln77_0 e5_1 s5) else lx77_0 e5_1   k s5 := by
  delta b77_0 lc77_0 ln77_0 lx77_0; exact (cond_rnd (cond_rnd (cond_rnd (show _ = bif false then r5 s5 else _ from rfl) (cond_rnd (cond_rnd (show _ = bif false then r5 s5 else _ from rfl) (cond_rnd (show _ = bif true then r5 _ else none from rfl) (show _ = bif false then r5 s5 else _ from rfl))) (show _ = bif false then r5 s5 else _ from rfl))) (show _ = bif false then r5 s5 else _ from rfl)) (show _ = bif false then r5 s5 else _ from rfl))
def B77_0 {Ω : Type} (fuel : Nat) (e5_1 : ByteArray)  (k : Int × Bool → Option Ω) (r5 : Int × Int → Option Ω) (s5 : Int × Int) : Option Ω := b77_0 e5_1   k r5 s5
theorem l77_0 {Ω : Type} (fuel : Nat) (e5_1 : ByteArray)  (k : AV → Option Ω) : ∀ m, (fun s => loopK (fun env L k => evCode C (fun {_} => sp77) (F77 fuel) (cl (cl (cr (cl (cr (cr (cr (Tryd.f77.body.getD .skip)))))))) env L k) [false, true, false, false, false, false, true, true, true, true, true, true, true, true, true, true, true, true, true, true, true, true, true, true, true, true, true, true, true, true, true, true, true, true, true, true, true, true, true, true, true, true, true, true] 0 (blockK 0 (seqK (fun env L => evCode C (fun {_} => sp77) (F77 fuel) (cr (cr (cr (cr (Tryd.f77.body.getD .skip))))) env L (finK C Tryd.f77 k)) (finK C Tryd.f77 k))) m ((fun s5 => [(.v .str (e5_1)), .dead, (.v (.int .i64) (0)), (.v .bool (false)), (.v (.int .i64) (s5.1)), (.v (.int .i64) (s5.2)), .dead, .dead, .dead, .dead, .dead, .dead, .dead, .dead, .dead, .dead, .dead, .dead, .dead, .dead, .dead, .dead, .dead, .dead, .dead, .dead, .dead, .dead, .dead, .dead, .dead, .dead, .dead, .dead, .dead, .dead, .dead, .dead, .dead, .dead, .dead, .dead, .dead, .dead]) s) ((fun s5 => []) s)) = iter (B77_0 fuel e5_1  (fun r => k (.tup [.v (.int .i64) r.1, .v .bool r.2]))) m :=
  loopK_iter (envOf := (fun s5 => [(.v .str (e5_1)), .dead, (.v (.int .i64) (0)), (.v .bool (false)), (.v (.int .i64) (s5.1)), (.v (.int .i64) (s5.2)), .dead, .dead, .dead, .dead, .dead, .dead, .dead, .dead, .dead, .dead, .dead, .dead, .dead, .dead, .dead, .dead, .dead, .dead, .dead, .dead, .dead, .dead, .dead, .dead, .dead, .dead, .dead, .dead, .dead, .dead, .dead, .dead, .dead, .dead, .dead, .dead, .dead, .dead])) (LOf := (fun s5 => [])) (B := B77_0 fuel e5_1  (fun r => k (.tup [.v (.int .i64) r.1, .v .bool r.2]))) (fun R s => by kernel_rfl)
def sl77 {Ω : Type} (x0 : ByteArray) (lp0 : ByteArray → Int × Int → Option Ω) (k : Int × Bool → Option Ω) : Option Ω :=
  bif ((x0).data.toList == ((bs [])).data.toList) then
    k (0, false)
  else
    bif (idxOK 0 (x0).size) then
      bif ((bAt x0 0) == 48) then
        bif (decide (((x0).size : Int) > 1)) then
          k (0, false)
        else
          lp0 (x0) (0, 0)
      else
        lp0 (x0) (0, 0)
    else
      none
def s77 {Ω : Type} (fuel : Nat) (x0 : ByteArray) (k : Int × Bool → Option Ω) : Option Ω := sl77 x0 (fun e5_1 => iter (B77_0 fuel e5_1  k) fuel) k
theorem ev77 {Ω : Type} (fuel : Nat) (x0 : ByteArray) (k : AV → Option Ω) : evFn C (fun {_} => sp77) (F77 fuel) Tryd.f77 (Tryd.f77.body.getD .skip) [.v .str x0] k = s77 fuel x0 (fun r => k (.tup [.v (.int .i64) r.1, .v .bool r.2])) := by
  have h0 : evFn C (fun {_} => sp77) (F77 fuel) Tryd.f77 (Tryd.f77.body.getD .skip) [.v .str x0] k = sl77 x0 (fun e5_1 => fun s => loopK (fun env L k => evCode C (fun {_} => sp77) (F77 fuel) (cl (cl (cr (cl (cr (cr (cr (Tryd.f77.body.getD .skip)))))))) env L k) [false, true, false, false, false, false, true, true, true, true, true, true, true, true, true, true, true, true, true, true, true, true, true, true, true, true, true, true, true, true, true, true, true, true, true, true, true, true, true, true, true, true, true, true] 0 (blockK 0 (seqK (fun env L => evCode C (fun {_} => sp77) (F77 fuel) (cr (cr (cr (cr (Tryd.f77.body.getD .skip))))) env L (finK C Tryd.f77 k)) (finK C Tryd.f77 k))) fuel ((fun s5 => [(.v .str (e5_1)), .dead, (.v (.int .i64) (0)), (.v .bool (false)), (.v (.int .i64) (s5.1)), (.v (.int .i64) (s5.2)), .dead, .dead, .dead, .dead, .dead, .dead, .dead, .dead, .dead, .dead, .dead, .dead, .dead, .dead, .dead, .dead, .dead, .dead, .dead, .dead, .dead, .dead, .dead, .dead, .dead, .dead, .dead, .dead, .dead, .dead, .dead, .dead, .dead, .dead, .dead, .dead, .dead, .dead]) s) ((fun s5 => []) s)) (fun r => k (.tup [.v (.int .i64) r.1, .v .bool r.2])) := by kernel_rfl
  have h1 : (fun e5_1 => fun s => loopK (fun env L k => evCode C (fun {_} => sp77) (F77 fuel) (cl (cl (cr (cl (cr (cr (cr (Tryd.f77.body.getD .skip)))))))) env L k) [false, true, false, false, false, false, true, true, true, true, true, true, true, true, true, true, true, true, true, true, true, true, true, true, true, true, true, true, true, true, true, true, true, true, true, true, true, true, true, true, true, true, true, true] 0 (blockK 0 (seqK (fun env L => evCode C (fun {_} => sp77) (F77 fuel) (cr (cr (cr (cr (Tryd.f77.body.getD .skip))))) env L (finK C Tryd.f77 k)) (finK C Tryd.f77 k))) fuel ((fun s5 => [(.v .str (e5_1)), .dead, (.v (.int .i64) (0)), (.v .bool (false)), (.v (.int .i64) (s5.1)), (.v (.int .i64) (s5.2)), .dead, .dead, .dead, .dead, .dead, .dead, .dead, .dead, .dead, .dead, .dead, .dead, .dead, .dead, .dead, .dead, .dead, .dead, .dead, .dead, .dead, .dead, .dead, .dead, .dead, .dead, .dead, .dead, .dead, .dead, .dead, .dead, .dead, .dead, .dead, .dead, .dead, .dead]) s) ((fun s5 => []) s)) = (fun e5_1 => iter (B77_0 fuel e5_1  (fun r => k (.tup [.v (.int .i64) r.1, .v .bool r.2]))) fuel) := funext fun e5_1 => l77_0 fuel e5_1 k fuel
  rw [h1] at h0
  exact h0

/-- becket becketref01.Digits -/
noncomputable def sp79 : Spec := noS
def F79 (fuel : Nat) : Fuel := ⟨fuel, fun r => bif r == 2 then [1] else []⟩
def b79_0 {Ω : Type}    (k : ByteArray → Option Ω) (r2 : Int × ByteArray → Option Ω) (s2 : Int × ByteArray) : Option Ω :=
  bif (decide (s2.1 > 9)) then
    bif (decide (((ofBytes [(IntKind.wrap .u8 (IntKind.wrap .i64 (48 + (Int.tmod s2.1 10))))])).size + (s2.2).size ≤ catMax)) then
      r2 ((IntKind.wrap .i64 (Int.tdiv s2.1 10)), ((ofBytes [(IntKind.wrap .u8 (IntKind.wrap .i64 (48 + (Int.tmod s2.1 10))))]) ++ s2.2))
    else
      none
  else
    bif (decide (((ofBytes [(IntKind.wrap .u8 (IntKind.wrap .i64 (48 + s2.1)))])).size + (s2.2).size ≤ catMax)) then
      k ((ofBytes [(IntKind.wrap .u8 (IntKind.wrap .i64 (48 + s2.1)))]) ++ s2.2)
    else
      none
def lc79_0  (s2 : Int × ByteArray) : Bool :=
  bif (decide (s2.1 > 9)) then
    bif (decide (((ofBytes [(IntKind.wrap .u8 (IntKind.wrap .i64 (48 + (Int.tmod s2.1 10))))])).size + (s2.2).size ≤ catMax)) then
      true
    else
      false
  else
    bif (decide (((ofBytes [(IntKind.wrap .u8 (IntKind.wrap .i64 (48 + s2.1)))])).size + (s2.2).size ≤ catMax)) then
      false
    else
      false
def ln79_0  (s2 : Int × ByteArray) : Int × ByteArray :=
  bif (decide (s2.1 > 9)) then
    bif (decide (((ofBytes [(IntKind.wrap .u8 (IntKind.wrap .i64 (48 + (Int.tmod s2.1 10))))])).size + (s2.2).size ≤ catMax)) then
      ((IntKind.wrap .i64 (Int.tdiv s2.1 10)), ((ofBytes [(IntKind.wrap .u8 (IntKind.wrap .i64 (48 + (Int.tmod s2.1 10))))]) ++ s2.2))
    else
      s2
  else
    bif (decide (((ofBytes [(IntKind.wrap .u8 (IntKind.wrap .i64 (48 + s2.1)))])).size + (s2.2).size ≤ catMax)) then
      s2
    else
      s2
def lx79_0 {Ω : Type}    (k : ByteArray → Option Ω) (s2 : Int × ByteArray) : Option Ω :=
  bif (decide (s2.1 > 9)) then
    bif (decide (((ofBytes [(IntKind.wrap .u8 (IntKind.wrap .i64 (48 + (Int.tmod s2.1 10))))])).size + (s2.2).size ≤ catMax)) then
      none
    else
      none
  else
    bif (decide (((ofBytes [(IntKind.wrap .u8 (IntKind.wrap .i64 (48 + s2.1)))])).size + (s2.2).size ≤ catMax)) then
      k ((ofBytes [(IntKind.wrap .u8 (IntKind.wrap .i64 (48 + s2.1)))]) ++ s2.2)
    else
      none
theorem ld79_0 {Ω : Type}    (k : ByteArray → Option Ω) (r2 : Int × ByteArray → Option Ω) (s2 : Int × ByteArray) : b79_0    k r2 s2 = bif lc79_0  s2 then r2 (ln79_0  s2) else lx79_0    k s2 := by
  delta b79_0 lc79_0 ln79_0 lx79_0; exact (cond_rnd (cond_rnd (show _ = bif true then r2 _ else none from rfl) (show _ = bif false then r2 s2 else _ from rfl)) (cond_rnd (show _ = bif false then r2 s2 else _ from rfl) (show _ = bif false then r2 s2 else _ from rfl)))
def B79_0 {Ω : Type} (fuel : Nat)   (k : ByteArray → Option Ω) (r2 : Int × ByteArray → Option Ω) (s2 : Int × ByteArray) : Option Ω := b79_0    k r2 s2
theorem l79_0 {Ω : Type} (fuel : Nat)   (k : AV → Option Ω) : ∀ m, (fun s => loopK (fun env L k => evCode C (fun {_} => sp79) (F79 fuel) (cl (cl (cl (cr (cr (Tryd.f79.body.getD .skip)))))) env L k) [false, true, false, false, true, true, true, true, true, true, true, true, true, true, true, true, true, true, true, true, true, true, true] 0 (blockK 0 (seqK (fun env L => evCode C (fun {_} => sp79) (F79 fuel) (cr (cr (cr (Tryd.f79.body.getD .skip)))) env L (finK C Tryd.f79 k)) (finK C Tryd.f79 k))) m ((fun s2 => [(.v (.int .i64) (s2.1)), .dead, (.v .str (bs [])), (.v .str (s2.2)), .dead, .dead, .dead, .dead, .dead, .dead, .dead, .dead, .dead, .dead, .dead, .dead, .dead, .dead, .dead, .dead, .dead, .dead, .dead]) s) ((fun s2 => []) s)) = iter (B79_0 fuel   (fun r => k (.v .str r))) m :=
  loopK_iter (envOf := (fun s2 => [(.v (.int .i64) (s2.1)), .dead, (.v .str (bs [])), (.v .str (s2.2)), .dead, .dead, .dead, .dead, .dead, .dead, .dead, .dead, .dead, .dead, .dead, .dead, .dead, .dead, .dead, .dead, .dead, .dead, .dead])) (LOf := (fun s2 => [])) (B := B79_0 fuel   (fun r => k (.v .str r))) (fun R s => by kernel_rfl)
def sl79 {Ω : Type} (x0 : Int) (lp0 : Int × ByteArray → Option Ω) (k : ByteArray → Option Ω) : Option Ω :=
  lp0 (x0, (bs []))
def s79 {Ω : Type} (fuel : Nat) (x0 : Int) (k : ByteArray → Option Ω) : Option Ω := sl79 x0 (iter (B79_0 fuel k) fuel) k
theorem ev79 {Ω : Type} (fuel : Nat) (x0 : Int) (k : AV → Option Ω) : evFn C (fun {_} => sp79) (F79 fuel) Tryd.f79 (Tryd.f79.body.getD .skip) [.v (.int .i64) x0] k = s79 fuel x0 (fun r => k (.v .str r)) := by
  have h0 : evFn C (fun {_} => sp79) (F79 fuel) Tryd.f79 (Tryd.f79.body.getD .skip) [.v (.int .i64) x0] k = sl79 x0 (fun s => loopK (fun env L k => evCode C (fun {_} => sp79) (F79 fuel) (cl (cl (cl (cr (cr (Tryd.f79.body.getD .skip)))))) env L k) [false, true, false, false, true, true, true, true, true, true, true, true, true, true, true, true, true, true, true, true, true, true, true] 0 (blockK 0 (seqK (fun env L => evCode C (fun {_} => sp79) (F79 fuel) (cr (cr (cr (Tryd.f79.body.getD .skip)))) env L (finK C Tryd.f79 k)) (finK C Tryd.f79 k))) fuel ((fun s2 => [(.v (.int .i64) (s2.1)), .dead, (.v .str (bs [])), (.v .str (s2.2)), .dead, .dead, .dead, .dead, .dead, .dead, .dead, .dead, .dead, .dead, .dead, .dead, .dead, .dead, .dead, .dead, .dead, .dead, .dead]) s) ((fun s2 => []) s)) (fun r => k (.v .str r)) := by kernel_rfl
  have h1 := l79_0 fuel  k fuel
  rw [h1] at h0
  exact h0

/-- becket word.Not -/
def s47 {Ω : Type} (x0 : Int) (k : Int × Int → Option Ω) : Option Ω :=
  bif (p41 (8) (x0) ((-1))) then
    k ((t41 (8) (x0) ((-1))).1, (t41 (8) (x0) ((-1))).2)
  else
    none
def t47 (x0 : Int) : Int × Int :=
  bif (p41 (8) (x0) ((-1))) then
    ((t41 (8) (x0) ((-1))).1, (t41 (8) (x0) ((-1))).2)
  else
    (0, 0)
def p47 (x0 : Int) : Bool :=
  bif (p41 (8) (x0) ((-1))) then
    true
  else
    false
theorem v47 {Ω : Type} (x0 : Int) (k : Int × Int → Option Ω) : s47 x0 k = bif p47 x0 then k (t47 x0) else none := by
  delta s47 t47 p47; exact (cond_pre rfl rfl)
noncomputable def sp47 : Spec := (orS 41 (fun {_} => e41) noS)
theorem ev47 {Ω : Type} (fuel : Fuel) (x0 : Int) (k : AV → Option Ω) : evFn C (fun {_} => sp47) fuel Tryd.f47 (Tryd.f47.body.getD .skip) [.v (.int .i64) x0] k = s47 x0 (fun r => k (.tup [.v (.int .i64) r.1, .v (.int .i64) r.2])) := by kernel_rfl
theorem c47 (x0 : Int) (hp : p47 x0 = true) : Contract C 47 [.v (.int .i64) x0] (.tup [.v (.int .i64) (t47 x0).1, .v (.int .i64) (t47 x0).2]) :=
  contract_of (spec := fun {_} => sp47) (fuel := ⟨1, fun _ => []⟩) C_ok (orS_ok e41_ok noS_ok) (by kernel_rfl) (by kernel_rfl) (by kernel_rfl) (by rw [ev47, v47]; rw [hp]; rfl)
noncomputable def e47 : Ent := fun {_} => ent1 (.int .i64) (fun x0 => p47 x0) (fun x0 => .tup [.v (.int .i64) (t47 x0).1, .v (.int .i64) (t47 x0).2])
theorem e47_ok : EntOK C 47 (fun {_} => e47) := ent1_ok fun x0 h => c47 x0 h

/-- becket becketref08.Not -/
def s48 {Ω : Type} (x0 : Int) (k : Int × Int → Option Ω) : Option Ω :=
  bif (!(t53 (x0))) then
    k (0, 8)
  else
    k ((IntKind.wrap .i64 ((-1) - x0)), 0)
def t48 (x0 : Int) : Int × Int :=
  bif (!(t53 (x0))) then
    (0, 8)
  else
    ((IntKind.wrap .i64 ((-1) - x0)), 0)
theorem v48 {Ω : Type} (x0 : Int) (k : Int × Int → Option Ω) : s48 x0 k = k (t48 x0) := by
  delta s48 t48; exact (cond_tot rfl rfl)
noncomputable def sp48 : Spec := (orS 53 (fun {_} => e53) noS)
theorem ev48 {Ω : Type} (fuel : Fuel) (x0 : Int) (k : AV → Option Ω) : evFn C (fun {_} => sp48) fuel Tryd.f48 (Tryd.f48.body.getD .skip) [.v (.int .i64) x0] k = s48 x0 (fun r => k (.tup [.v (.int .i64) r.1, .v (.int .i64) r.2])) := by kernel_rfl
theorem c48 (x0 : Int) : Contract C 48 [.v (.int .i64) x0] (.tup [.v (.int .i64) (t48 x0).1, .v (.int .i64) (t48 x0).2]) :=
  contract_of (spec := fun {_} => sp48) (fuel := ⟨1, fun _ => []⟩) C_ok (orS_ok e53_ok noS_ok) (by kernel_rfl) (by kernel_rfl) (by kernel_rfl) (by rw [ev48, v48])
noncomputable def e48 : Ent := fun {_} => ent1 (.int .i64) (fun x0 => true) (fun x0 => .tup [.v (.int .i64) (t48 x0).1, .v (.int .i64) (t48 x0).2])
theorem e48_ok : EntOK C 48 (fun {_} => e48) := ent1_ok fun x0 h => c48 x0

/-- becket word.Neg -/
def s49 {Ω : Type} (x0 : Int) (k : Int × Int → Option Ω) : Option Ω :=
  bif (p41 (2) (0) (x0)) then
    k ((t41 (2) (0) (x0)).1, (t41 (2) (0) (x0)).2)
  else
    none
def t49 (x0 : Int) : Int × Int :=
  bif (p41 (2) (0) (x0)) then
    ((t41 (2) (0) (x0)).1, (t41 (2) (0) (x0)).2)
  else
    (0, 0)
def p49 (x0 : Int) : Bool :=
  bif (p41 (2) (0) (x0)) then
    true
  else
    false
theorem v49 {Ω : Type} (x0 : Int) (k : Int × Int → Option Ω) : s49 x0 k = bif p49 x0 then k (t49 x0) else none := by
  delta s49 t49 p49; exact (cond_pre rfl rfl)
noncomputable def sp49 : Spec := (orS 41 (fun {_} => e41) noS)
theorem ev49 {Ω : Type} (fuel : Fuel) (x0 : Int) (k : AV → Option Ω) : evFn C (fun {_} => sp49) fuel Tryd.f49 (Tryd.f49.body.getD .skip) [.v (.int .i64) x0] k = s49 x0 (fun r => k (.tup [.v (.int .i64) r.1, .v (.int .i64) r.2])) := by kernel_rfl
theorem c49 (x0 : Int) (hp : p49 x0 = true) : Contract C 49 [.v (.int .i64) x0] (.tup [.v (.int .i64) (t49 x0).1, .v (.int .i64) (t49 x0).2]) :=
  contract_of (spec := fun {_} => sp49) (fuel := ⟨1, fun _ => []⟩) C_ok (orS_ok e41_ok noS_ok) (by kernel_rfl) (by kernel_rfl) (by kernel_rfl) (by rw [ev49, v49]; rw [hp]; rfl)
noncomputable def e49 : Ent := fun {_} => ent1 (.int .i64) (fun x0 => p49 x0) (fun x0 => .tup [.v (.int .i64) (t49 x0).1, .v (.int .i64) (t49 x0).2])
theorem e49_ok : EntOK C 49 (fun {_} => e49) := ent1_ok fun x0 h => c49 x0 h

/-- becket becketref08.Neg -/
def s50 {Ω : Type} (x0 : Int) (k : Int × Int → Option Ω) : Option Ω :=
  bif (!(t53 (x0))) then
    k (0, 8)
  else
    k ((t55 ((IntKind.wrap .i64 (0 - x0)))), 0)
def t50 (x0 : Int) : Int × Int :=
  bif (!(t53 (x0))) then
    (0, 8)
  else
    ((t55 ((IntKind.wrap .i64 (0 - x0)))), 0)
theorem v50 {Ω : Type} (x0 : Int) (k : Int × Int → Option Ω) : s50 x0 k = k (t50 x0) := by
  delta s50 t50; exact (cond_tot rfl rfl)
noncomputable def sp50 : Spec := (orS 55 (fun {_} => e55) (orS 53 (fun {_} => e53) noS))
theorem ev50 {Ω : Type} (fuel : Fuel) (x0 : Int) (k : AV → Option Ω) : evFn C (fun {_} => sp50) fuel Tryd.f50 (Tryd.f50.body.getD .skip) [.v (.int .i64) x0] k = s50 x0 (fun r => k (.tup [.v (.int .i64) r.1, .v (.int .i64) r.2])) := by kernel_rfl
theorem c50 (x0 : Int) : Contract C 50 [.v (.int .i64) x0] (.tup [.v (.int .i64) (t50 x0).1, .v (.int .i64) (t50 x0).2]) :=
  contract_of (spec := fun {_} => sp50) (fuel := ⟨1, fun _ => []⟩) C_ok (orS_ok e55_ok (orS_ok e53_ok noS_ok)) (by kernel_rfl) (by kernel_rfl) (by kernel_rfl) (by rw [ev50, v50])
noncomputable def e50 : Ent := fun {_} => ent1 (.int .i64) (fun x0 => true) (fun x0 => .tup [.v (.int .i64) (t50 x0).1, .v (.int .i64) (t50 x0).2])
theorem e50_ok : EntOK C 50 (fun {_} => e50) := ent1_ok fun x0 h => c50 x0

end Go.Proofs.YtmphlhnpichonaaDoor.K

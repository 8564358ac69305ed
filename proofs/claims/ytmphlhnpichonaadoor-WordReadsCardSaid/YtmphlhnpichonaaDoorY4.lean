/- What functions of the program come to. -/
import Derived.Test.YtmphlhnpichonaaDoorQ3
import Derived.Test.YtmphlhnpichonaaDoorY3
set_option maxRecDepth 100000
set_option linter.unusedVariables false
namespace Go.Proofs.YtmphlhnpichonaaDoor.K
open Go Go.RowKit

/-- becket becketref08.Parse -/
noncomputable def sp45 : Spec := (orS 77 (fun {_} => e77) (orS 53 (fun {_} => e53) noS))
def F45 (fuel : Nat) : Fuel := ⟨fuel, fun r => bif r == 11 then [1, 5, 6, 9, 10, 11, 12, 13, 14, 15, 16, 17, 18, 19, 20, 21, 22, 23, 24, 25, 26, 27, 28, 29, 30, 31, 32, 33, 34, 35, 36] else []⟩
def b45_0 {Ω : Type} (e11_1 : ByteArray) (e11_2 : Bool)   (k : Int × Int → Option Ω) (r11 : Int × Int → Option Ω) (s11 : Int × Int) : Option Ω :=
  bif (decide (s11.2 < ((e11_1).size : Int))) then
    bif (idxOK s11.2 (e11_1).size) then
      let v1 : Int := (IntKind.wrap .i64 ((IntKind.wrap .i64 (10 * s11.1)) + (IntKind.wrap .i64 (IntKind.wrap .u8 ((bAt e11_1 (Int.toNat s11.2)) - 48)))))
      r11 (v1, (IntKind.wrap .i64 (s11.2 + 1)))
    else
      none
  else
    bif e11_2 then
      bif (!(t53 ((IntKind.wrap .i64 (0 - s11.1))))) then
        k (0, 8)
      else
        k ((IntKind.wrap .i64 (0 - s11.1)), 0)
    else
      bif (!(t53 (s11.1))) then
        k (0, 8)
      else
        k (s11.1, 0)
def lc45_0 (e11_1 : ByteArray) (e11_2 : Bool) (s11 : Int × Int) : Bool :=
  bif (decide (s11.2 < ((e11_1).size : Int))) then
    bif (idxOK s11.2 (e11_1).size) then
      let v1 : Int := (IntKind.wrap .i64 ((IntKind.wrap .i64 (10 * s11.1)) + (IntKind.wrap .i64 (IntKind.wrap .u8 ((bAt e11_1 (Int.toNat s11.2)) - 48)))))
      true
    else
      false
  else
    bif e11_2 then
      bif (!(t53 ((IntKind.wrap .i64 (0 - s11.1))))) then
        false
      else
        false
    else
      bif (!(t53 (s11.1))) then
        false
      else
        false
def ln45_0 (e11_1 : ByteArray) (e11_2 : Bool) (s11 : Int × Int) : Int × Int :=
  bif (decide (s11.2 < ((e11_1).size : Int))) then
    bif (idxOK s11.2 (e11_1).size) then
      let v1 : Int := (IntKind.wrap .i64 ((IntKind.wrap .i64 (10 * s11.1)) + (IntKind.wrap .i64 (IntKind.wrap .u8 ((bAt e11_1 (Int.toNat s11.2)) - 48)))))
      (v1, (IntKind.wrap .i64 (s11.2 + 1)))
    else
      s11
  else
    bif e11_2 then
      bif (!(t53 ((IntKind.wrap .i64 (0 - s11.1))))) then
        s11
      else
        s11
    else
      bif (!(t53 (s11.1))) then
        s11
      else
        s11
def lx45_0 {Ω : Type} (e11_1 : ByteArray) (e11_2 : Bool)   (k : Int × Int → Option Ω) (s11 : Int × Int) : Option Ω :=
  bif (decide (s11.2 < ((e11_1).size : Int))) then
    bif (idxOK s11.2 (e11_1).size) then
      let v1 : Int := (IntKind.wrap .i64 ((IntKind.wrap .i64 (10 * s11.1)) + (IntKind.wrap .i64 (IntKind.wrap .u8 ((bAt e11_1 (Int.toNat s11.2)) - 48)))))
      none
    else
      none
  else
    bif e11_2 then
      bif (!(t53 ((IntKind.wrap .i64 (0 - s11.1))))) then
        k (0, 8)
      else
        k ((IntKind.wrap .i64 (0 - s11.1)), 0)
    else
      bif (!(t53 (s11.1))) then
        k (0, 8)
      else
        k (s11.1, 0)
theorem ld45_0 {Ω : Type} (e11_1 : ByteArray) (e11_2 : Bool)   (k : Int × Int → Option Ω) (r11 : Int × Int → Option Ω) (s11 : Int × Int) : b45_0 e11_1 e11_2   k r11 s11 = bif lc45_0 e11_1 e11_2 s11 then r11 (ln45_0 e11_1 e11_2 s11) else lx45_0 e11_1 e11_2   k s11 := by
  delta b45_0 lc45_0 ln45_0 lx45_0; exact (cond_rnd (cond_rnd (show _ = bif true then r11 _ else none from rfl) (show _ = bif false then r11 s11 else _ from rfl)) (cond_rnd (cond_rnd (show _ = bif false then r11 s11 else _ from rfl) (show _ = bif false then r11 s11 else _ from rfl)) (cond_rnd (show _ = bif false then r11 s11 else _ from rfl) (show _ = bif false then r11 s11 else _ from rfl))))
def B45_0 {Ω : Type} (fuel : Nat) (e11_1 : ByteArray) (e11_2 : Bool)  (k : Int × Int → Option Ω) (r11 : Int × Int → Option Ω) (s11 : Int × Int) : Option Ω := b45_0 e11_1 e11_2   k r11 s11
def b45_1 {Ω : Type} (e11_1 : ByteArray)   (k : Int × Int → Option Ω) (r11 : Int × Int → Option Ω) (s11 : Int × Int) : Option Ω :=
  bif (decide (s11.2 < ((e11_1).size : Int))) then
    bif (idxOK s11.2 (e11_1).size) then
      let v5 : Int := (IntKind.wrap .i64 ((IntKind.wrap .i64 (10 * s11.1)) + (IntKind.wrap .i64 (IntKind.wrap .u8 ((bAt e11_1 (Int.toNat s11.2)) - 48)))))
      r11 (v5, (IntKind.wrap .i64 (s11.2 + 1)))
    else
      none
  else
    bif (!(t53 (s11.1))) then
      k (0, 8)
    else
      k (s11.1, 0)
def lc45_1 (e11_1 : ByteArray) (s11 : Int × Int) : Bool :=
  bif (decide (s11.2 < ((e11_1).size : Int))) then
    bif (idxOK s11.2 (e11_1).size) then
      let v5 : Int := (IntKind.wrap .i64 ((IntKind.wrap .i64 (10 * s11.1)) + (IntKind.wrap .i64 (IntKind.wrap .u8 ((bAt e11_1 (Int.toNat s11.2)) - 48)))))
      true
    else
      false
  else
    bif (!(t53 (s11.1))) then
      false
    else
      false
def ln45_1 (e11_1 : ByteArray) (s11 : Int × Int) : Int × Int :=
  bif (decide (s11.2 < ((e11_1).size : Int))) then
    bif (idxOK s11.2 (e11_1).size) then
      let v5 : Int := (IntKind.wrap .i64 ((IntKind.wrap .i64 (10 * s11.1)) + (IntKind.wrap .i64 (IntKind.wrap .u8 ((bAt e11_1 (Int.toNat s11.2)) - 48)))))
      (v5, (IntKind.wrap .i64 (s11.2 + 1)))
    else
      s11
  else
    bif (!(t53 (s11.1))) then
      s11
    else
      s11
def lx45_1 {Ω : Type} (e11_1 : ByteArray)   (k : Int × Int → Option Ω) (s11 : Int × Int) : Option Ω :=
  bif (decide (s11.2 < ((e11_1).size : Int))) then
    bif (idxOK s11.2 (e11_1).size) then
      let v5 : Int := (IntKind.wrap .i64 ((IntKind.wrap .i64 (10 * s11.1)) + (IntKind.wrap .i64 (IntKind.wrap .u8 ((bAt e11_1 (Int.toNat s11.2)) - 48)))))
      none
    else
      none
  else
    bif (!(t53 (s11.1))) then
      k (0, 8)
    else
      k (s11.1, 0)
theorem ld45_1 {Ω : Type} (e11_1 : ByteArray)   (k : Int × Int → Option Ω) (r11 : Int × Int → Option Ω) (s11 : Int × Int) : b45_1 e11_1   k r11 s11 = bif lc45_1 e11_1 s11 then r11 (ln45_1 e11_1 s11) else lx45_1 e11_1   k s11 := by
  delta b45_1 lc45_1 ln45_1 lx45_1; exact (cond_rnd (cond_rnd (show _ = bif true then r11 _ else none from rfl) (show _ = bif false then r11 s11 else _ from rfl)) (cond_rnd (show _ = bif false then r11 s11 else _ from rfl) (show _ = bif false then r11 s11 else _ from rfl)))
def B45_1 {Ω : Type} (fuel : Nat) (e11_1 : ByteArray)  (k : Int × Int → Option Ω) (r11 : Int × Int → Option Ω) (s11 : Int × Int) : Option Ω := b45_1 e11_1   k r11 s11
theorem l45_0 {Ω : Type} (fuel : Nat) (e11_1 : ByteArray) (e11_2 : Bool)  (k : AV → Option Ω) : ∀ m, (fun s => loopK (fun env L k => evCode C (fun {_} => sp45) (F45 fuel) (cl (cl (cr (cl (cr (cr (cr (cr (cr (cr (cr (Tryd.f45.body.getD .skip)))))))))))) env L k) [false, true, false, false, false, true, true, false, false, true, true, true, true, true, true, true, true, true, true, true, true, true, true, true, true, true, true, true, true, true, true, true, true, true, true, true, true, true, true, true, true, true, true, true, true, true, true, true, true, true, true, true, true, true, true, true, true, true] 0 (blockK 0 (seqK (fun env L => evCode C (fun {_} => sp45) (F45 fuel) (cr (cr (cr (cr (cr (cr (cr (cr (Tryd.f45.body.getD .skip))))))))) env L (finK C Tryd.f45 k)) (finK C Tryd.f45 k))) m ((fun s11 => [(.v .str (e11_1)), .dead, (.v (.int .i64) (0)), (.v (.int .i64) (0)), (.v .bool (e11_2)), .dead, .dead, (.v (.int .i64) (s11.1)), (.v (.int .i64) (s11.2)), .dead, .dead, .dead, .dead, .dead, .dead, .dead, .dead, .dead, .dead, .dead, .dead, .dead, .dead, .dead, .dead, .dead, .dead, .dead, .dead, .dead, .dead, .dead, .dead, .dead, .dead, .dead, .dead, .dead, .dead, .dead, .dead, .dead, .dead, .dead, .dead, .dead, .dead, .dead, .dead, .dead, .dead, .dead, .dead, .dead, .dead, .dead, .dead, .dead]) s) ((fun s11 => []) s)) = iter (B45_0 fuel e11_1 e11_2  (fun r => k (.tup [.v (.int .i64) r.1, .v (.int .i64) r.2]))) m :=
  loopK_iter (envOf := (fun s11 => [(.v .str (e11_1)), .dead, (.v (.int .i64) (0)), (.v (.int .i64) (0)), (.v .bool (e11_2)), .dead, .dead, (.v (.int .i64) (s11.1)), (.v (.int .i64) (s11.2)), .dead, .dead, .dead, .dead, .dead, .dead, .dead, .dead, .dead, .dead, .dead, .dead, .dead, .dead, .dead, .dead, .dead, .dead, .dead, .dead, .dead, .dead, .dead, .dead, .dead, .dead, .dead, .dead, .dead, .dead, .dead, .dead, .dead, .dead, .dead, .dead, .dead, .dead, .dead, .dead, .dead, .dead, .dead, .dead, .dead, .dead, .dead, .dead, .dead])) (LOf := (fun s11 => [])) (B := B45_0 fuel e11_1 e11_2  (fun r => k (.tup [.v (.int .i64) r.1, .v (.int .i64) r.2]))) (fun R s => by kernel_rfl)
theorem l45_1 {Ω : Type} (fuel : Nat) (e11_1 : ByteArray)  (k : AV → Option Ω) : ∀ m, (fun s => loopK (fun env L k => evCode C (fun {_} => sp45) (F45 fuel) (cl (cl (cr (cl (cr (cr (cr (cr (cr (cr (cr (Tryd.f45.body.getD .skip)))))))))))) env L k) [false, true, false, false, false, true, true, false, false, true, true, true, true, true, true, true, true, true, true, true, true, true, true, true, true, true, true, true, true, true, true, true, true, true, true, true, true, true, true, true, true, true, true, true, true, true, true, true, true, true, true, true, true, true, true, true, true, true] 0 (blockK 0 (seqK (fun env L => evCode C (fun {_} => sp45) (F45 fuel) (cr (cr (cr (cr (cr (cr (cr (cr (Tryd.f45.body.getD .skip))))))))) env L (finK C Tryd.f45 k)) (finK C Tryd.f45 k))) m ((fun s11 => [(.v .str (e11_1)), .dead, (.v (.int .i64) (0)), (.v (.int .i64) (0)), (.v .bool (false)), .dead, .dead, (.v (.int .i64) (s11.1)), (.v (.int .i64) (s11.2)), .dead, .dead, .dead, .dead, .dead, .dead, .dead, .dead, .dead, .dead, .dead, .dead, .dead, .dead, .dead, .dead, .dead, .dead, .dead, .dead, .dead, .dead, .dead, .dead, .dead, .dead, .dead, .dead, .dead, .dead, .dead, .dead, .dead, .dead, .dead, .dead, .dead, .dead, .dead, .dead, .dead, .dead, .dead, .dead, .dead, .dead, .dead, .dead, .dead]) s) ((fun s11 => []) s)) = iter (B45_1 fuel e11_1  (fun r => k (.tup [.v (.int .i64) r.1, .v (.int .i64) r.2]))) m :=
  loopK_iter (envOf := (fun s11 => [(.v .str (e11_1)), .dead, (.v (.int .i64) (0)), (.v (.int .i64) (0)), (.v .bool (false)), .dead, .dead, (.v (.int .i64) (s11.1)), (.v (.int .i64) (s11.2)), .dead, .dead, .dead, .dead, .dead, .dead, .dead, .dead, .dead, .dead, .dead, .dead, .dead, .dead, .dead, .dead, .dead, .dead, .dead, .dead, .dead, .dead, .dead, .dead, .dead, .dead, .dead, .dead, .dead, .dead, .dead, .dead, .dead, .dead, .dead, .dead, .dead, .dead, .dead, .dead, .dead, .dead, .dead, .dead, .dead, .dead, .dead, .dead, .dead])) (LOf := (fun s11 => [])) (B := B45_1 fuel e11_1  (fun r => k (.tup [.v (.int .i64) r.1, .v (.int .i64) r.2]))) (fun R s => by kernel_rfl)
def sl45 {Ω : Type} (x0 : ByteArray) (lp0 : ByteArray → Bool → Int × Int → Option Ω) (lp1 : ByteArray → Int × Int → Option Ω) (k : Int × Int → Option Ω) : Option Ω :=
  bif (decide (((x0).size : Int) > 0)) then
    bif (idxOK 0 (x0).size) then
      bif ((bAt x0 0) == 45) then
        bif (subC (some (1)) none (x0).size) then
          bif (p77 ((subS (some (1)) none x0))) then
            bif (!(t77 ((subS (some (1)) none x0))).2) then
              k (0, 3)
            else
              bif ((bAt x0 0) == 45) then
                bif (((subS (some (1)) none x0)).data.toList == ((bs [48])).data.toList) then
                  k (0, 3)
                else
                  bif (decide ((((subS (some (1)) none x0)).size : Int) > 10)) then
                    k (0, 8)
                  else
                    lp0 ((subS (some (1)) none x0)) (((bAt x0 0) == 45)) (0, 0)
              else
                bif (decide ((((subS (some (1)) none x0)).size : Int) > 10)) then
                  k (0, 8)
                else
                  lp0 ((subS (some (1)) none x0)) (((bAt x0 0) == 45)) (0, 0)
          else
            none
        else
          none
      else
        bif (p77 (x0)) then
          bif (!(t77 (x0)).2) then
            k (0, 3)
          else
            bif ((bAt x0 0) == 45) then
              bif ((x0).data.toList == ((bs [48])).data.toList) then
                k (0, 3)
              else
                bif (decide (((x0).size : Int) > 10)) then
                  k (0, 8)
                else
                  lp0 (x0) (((bAt x0 0) == 45)) (0, 0)
            else
              bif (decide (((x0).size : Int) > 10)) then
                k (0, 8)
              else
                lp0 (x0) (((bAt x0 0) == 45)) (0, 0)
        else
          none
    else
      none
  else
    bif (p77 (x0)) then
      bif (!(t77 (x0)).2) then
        k (0, 3)
      else
        bif (decide (((x0).size : Int) > 10)) then
          k (0, 8)
        else
          lp1 (x0) (0, 0)
    else
      none
def s45 {Ω : Type} (fuel : Nat) (x0 : ByteArray) (k : Int × Int → Option Ω) : Option Ω := sl45 x0 (fun e11_1 e11_2 => iter (B45_0 fuel e11_1 e11_2  k) fuel) (fun e11_1 => iter (B45_1 fuel e11_1  k) fuel) k
theorem ev45 {Ω : Type} (fuel : Nat) (x0 : ByteArray) (k : AV → Option Ω) : evFn C (fun {_} => sp45) (F45 fuel) Tryd.f45 (Tryd.f45.body.getD .skip) [.v .str x0] k = s45 fuel x0 (fun r => k (.tup [.v (.int .i64) r.1, .v (.int .i64) r.2])) := by
  have h0 : evFn C (fun {_} => sp45) (F45 fuel) Tryd.f45 (Tryd.f45.body.getD .skip) [.v .str x0] k = sl45 x0 (fun e11_1 e11_2 => fun s => loopK (fun env L k => evCode C (fun {_} => sp45) (F45 fuel) (cl (cl (cr (cl (cr (cr (cr (cr (cr (cr (cr (Tryd.f45.body.getD .skip)))))))))))) env L k) [false, true, false, false, false, true, true, false, false, true, true, true, true, true, true, true, true, true, true, true, true, true, true, true, true, true, true, true, true, true, true, true, true, true, true, true, true, true, true, true, true, true, true, true, true, true, true, true, true, true, true, true, true, true, true, true, true, true] 0 (blockK 0 (seqK (fun env L => evCode C (fun {_} => sp45) (F45 fuel) (cr (cr (cr (cr (cr (cr (cr (cr (Tryd.f45.body.getD .skip))))))))) env L (finK C Tryd.f45 k)) (finK C Tryd.f45 k))) fuel ((fun s11 => [(.v .str (e11_1)), .dead, (.v (.int .i64) (0)), (.v (.int .i64) (0)), (.v .bool (e11_2)), .dead, .dead, (.v (.int .i64) (s11.1)), (.v (.int .i64) (s11.2)), .dead, .dead, .dead, .dead, .dead, .dead, .dead, .dead, .dead, .dead, .dead, .dead, .dead, .dead, .dead, .dead, .dead, .dead, .dead, .dead, .dead, .dead, .dead, .dead, .dead, .dead, .dead, .dead, .dead, .dead, .dead, .dead, .dead, .dead, .dead, .dead, .dead, .dead, .dead, .dead, .dead, .dead, .dead, .dead, .dead, .dead, .dead, .dead, .dead]) s) ((fun s11 => []) s)) (fun e11_1 => fun s => loopK (fun env L k => evCode C (fun {_} => sp45) (F45 fuel) (cl (cl (cr (cl (cr (cr (cr (cr (cr (cr (cr (Tryd.f45.body.getD .skip)))))))))))) env L k) [false, true, false, false, false, true, true, false, false, true, true, true, true, true, true, true, true, true, true, true, true, true, true, true, true, true, true, true, true, true, true, true, true, true, true, true, true, true, true, true, true, true, true, true, true, true, true, true, true, true, true, true, true, true, true, true, true, true] 0 (blockK 0 (seqK (fun env L => evCode C (fun {_} => sp45) (F45 fuel) (cr (cr (cr (cr (cr (cr (cr (cr (Tryd.f45.body.getD .skip))))))))) env L (finK C Tryd.f45 k)) (finK C Tryd.f45 k))) fuel ((fun s11 => [(.v .str (e11_1)), .dead, (.v (.int .i64) (0)), (.v (.int .i64) (0)), (.v .bool (false)), .dead, .dead, (.v (.int .i64) (s11.1)), (.v (.int .i64) (s11.2)), .dead, .dead, .dead, .dead, .dead, .dead, .dead, .dead, .dead, .dead, .dead, .dead, .dead, .dead, .dead, .dead, .dead, .dead, .dead, .dead, .dead, .dead, .dead, .dead, .dead, .dead, .dead, .dead, .dead, .dead, .dead, .dead, .dead, .dead, .dead, .dead, .dead, .dead, .dead, .dead, .dead, .dead, .dead, .dead, .dead, .dead, .dead, .dead, .dead]) s) ((fun s11 => []) s)) (fun r => k (.tup [.v (.int .i64) r.1, .v (.int .i64) r.2])) := by kernel_rfl
  have h1 : (fun e11_1 e11_2 => fun s => loopK (fun env L k => evCode C (fun {_} => sp45) (F45 fuel) (cl (cl (cr (cl (cr (cr (cr (cr (cr (cr (cr (Tryd.f45.body.getD .skip)))))))))))) env L k) [false, true, false, false, false, true, true, false, false, true, true, true, true, true, true, true, true, true, true, true, true, true, true, true, true, true, true, true, true, true, true, true, true, true, true, true, true, true, true, true, true, true, true, true, true, true, true, true, true, true, true, true, true, true, true, true, true, true] 0 (blockK 0 (seqK (fun env L => evCode C (fun {_} => sp45) (F45 fuel) (cr (cr (cr (cr (cr (cr (cr (cr (Tryd.f45.body.getD .skip))))))))) env L (finK C Tryd.f45 k)) (finK C Tryd.f45 k))) fuel ((fun s11 => [(.v .str (e11_1)), .dead, (.v (.int .i64) (0)), (.v (.int .i64) (0)), (.v .bool (e11_2)), .dead, .dead, (.v (.int .i64) (s11.1)), (.v (.int .i64) (s11.2)), .dead, .dead, .dead, .dead, .dead, .dead, .dead, .dead, .dead, .dead, .dead, .dead, .dead, .dead, .dead, .dead, .dead, .dead, .dead, .dead, .dead, .dead, .dead, .dead, .dead, .dead, .dead, .dead, .dead, .dead, .dead, .dead, .dead, .dead, .dead, .dead, .dead, .dead, .dead, .dead, .dead, .dead, .dead, .dead, .dead, .dead, .dead, .dead, .dead]) s) ((fun s11 => []) s)) = (fun e11_1 e11_2 => iter (B45_0 fuel e11_1 e11_2  (fun r => k (.tup [.v (.int .i64) r.1, .v (.int .i64) r.2]))) fuel) := funext fun e11_1 => funext fun e11_2 => l45_0 fuel e11_1 e11_2 k fuel
  have h2 : (fun e11_1 => fun s => loopK (fun env L k => evCode C (fun {_} => sp45) (F45 fuel) (cl (cl (cr (cl (cr (cr (cr (cr (cr (cr (cr (Tryd.f45.body.getD .skip)))))))))))) env L k) [false, true, false, false, false, true, true, false, false, true, true, true, true, true, true, true, true, true, true, true, true, true, true, true, true, true, true, true, true, true, true, true, true, true, true, true, true, true, true, true, true, true, true, true, true, true, true, true, true, true, true, true, true, true, true, true, true, true] 0 (blockK 0 (seqK (fun env L => evCode C (fun {_} => sp45) (F45 fuel) (cr (cr (cr (cr (cr (cr (cr (cr (Tryd.f45.body.getD .skip))))))))) env L (finK C Tryd.f45 k)) (finK C Tryd.f45 k))) fuel ((fun s11 => [(.v .str (e11_1)), .dead, (.v (.int .i64) (0)), (.v (.int .i64) (0)), (.v .bool (false)), .dead, .dead, (.v (.int .i64) (s11.1)), (.v (.int .i64) (s11.2)), .dead, .dead, .dead, .dead, .dead, .dead, .dead, .dead, .dead, .dead, .dead, .dead, .dead, .dead, .dead, .dead, .dead, .dead, .dead, .dead, .dead, .dead, .dead, .dead, .dead, .dead, .dead, .dead, .dead, .dead, .dead, .dead, .dead, .dead, .dead, .dead, .dead, .dead, .dead, .dead, .dead, .dead, .dead, .dead, .dead, .dead, .dead, .dead, .dead]) s) ((fun s11 => []) s)) = (fun e11_1 => iter (B45_1 fuel e11_1  (fun r => k (.tup [.v (.int .i64) r.1, .v (.int .i64) r.2]))) fuel) := funext fun e11_1 => l45_1 fuel e11_1 k fuel
  rw [h1, h2] at h0
  exact h0

end Go.Proofs.YtmphlhnpichonaaDoor.K

/- Handles, plainly. -/
import Derived.Test.YtmmooplcdkmapaaGreatDoorZ01
import Derived.Test.YtmmooplcdkmapaaGreatDoorDig
import Derived.Laws.RangeAny
import Derived.Lib.IndexLaws
import Derived.KernelRfl
set_option maxRecDepth 100000
set_option linter.unusedVariables false
set_option linter.unusedSimpArgs false
namespace Go.Proofs.YtmmooplcdkmapaaGreatDoor.K
open Go

/-- The handle of a slot and a generation. -/
def mkH (s g : Int) : Int × Int := if 0 ≤ s ∧ s ≤ 4095 ∧ 1 ≤ g ∧ g ≤ 65535 then (g * 4096 + s, 0) else (0, 8)
/-- Is a number a handle? -/
def fineH (h : Int) : Bool := decide (4096 ≤ h ∧ h ≤ 268435455)
theorem fineH_iff {h : Int} : fineH h = true ↔ 4096 ≤ h ∧ h ≤ 268435455 := by unfold fineH; simp
/-- The handle of the next generation. -/
def nextH (h : Int) : Int × Int := bif fineH h then (bif h / 4096 == 65535 then (0, 14) else (h + 4096, 0)) else (0, 8)
theorem txt_nn {n : Int} (h : 0 ≤ n) : (txt n).data.toList = Lib.decDigits n.toNat := by
  rw [txt_list]; unfold Lib.itoa; rw [if_neg (by omega)]
theorem txt_bs {n : Int} (h : 0 ≤ n) : bs (Lib.decDigits n.toNat) = txt n := ba_ext (by rw [bs_list, txt_nn h])
theorem itoa_u {n : Int} (h0 : 0 ≤ n) (h1 : n ≤ 1099511627776) : strconv_Itoa.u n = some (txt n) := by
  unfold strconv_Itoa.u
  rw [decide_eq_true (show -9223372036854775808 ≤ n by omega), decide_eq_true (show n ≤ 9223372036854775807 by omega)]
  rfl
theorem digits_txt {n : Int} (h0 : 0 ≤ n) (h1 : n ≤ 1099511627776) : ref01_Digits.u n = some (txt n) := by
  rw [digits_u h0 h1, txt_bs h0]
theorem txt_short {n : Int} (h0 : 0 ≤ n) (h1 : n ≤ 2147483648) : (txt n).size ≤ 10 := by
  rw [size_list, txt_nn h0]; exact dd_short (by omega)
/-- A handle's text. -/
def textH (h : Int) : ByteArray × Int := bif fineH h then ((txt (h % 4096) ++ bs [46]) ++ txt (h / 4096), 0) else (bs [], 8)
end Go.Proofs.YtmmooplcdkmapaaGreatDoor.K

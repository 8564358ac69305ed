/- Instructions, plainly: the place. -/
import Derived.Test.YtmmooplcdkmapaaGreatDoorL10a
set_option maxRecDepth 100000
set_option linter.unusedVariables false
set_option linter.unusedSimpArgs false
namespace Go.Proofs.YtmmooplcdkmapaaGreatDoor.K
open Go

/-- The place that an instruction leads to. -/
def plcF (x : In) : Int × Bool := bif opcode_fine.t x.1 then
    (bif bAt (lineOf x.1).2.1 0 == 116 then (x.2.1, true) else bif bAt (lineOf x.1).2.1 1 == 116 then (x.2.2.1, true) else bif bAt (lineOf x.1).2.1 2 == 116 then (x.2.2.2.1, true) else (0, false))
  else (0, false)
theorem u8_beq (a : UInt8) (n : Nat) (h : n < 256) : (a == UInt8.ofNat n) = ((a.toNat : Int) == (n : Int)) := by
  rw [Bool.eq_iff_iff]
  simp only [beq_iff_eq]
  constructor
  · rintro rfl; rw [UInt8.toNat_ofNat']; omega
  · intro e
    apply UInt8.toNat_inj.1
    rw [UInt8.toNat_ofNat']; omega
end Go.Proofs.YtmmooplcdkmapaaGreatDoor.K

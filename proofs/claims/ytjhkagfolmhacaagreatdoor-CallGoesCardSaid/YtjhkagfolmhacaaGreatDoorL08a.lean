/- Words, plainly: their texts. -/
import Derived.Test.YtjhkagfolmhacaaGreatDoorZ08
import Derived.Test.YtjhkagfolmhacaaGreatDoorBas
import Derived.Lib.ItoaNum
import Derived.IntWalk
set_option maxRecDepth 100000
set_option linter.unusedVariables false
set_option linter.unusedSimpArgs false
namespace Go.Proofs.YtjhkagfolmhacaaGreatDoor.K
open Go

theorem fine_eq : ref08_Fine.t = word_Fine.t := rfl
theorem fine_iff {x : Int} : word_Fine.t x = true ↔ -2147483648 ≤ x ∧ x ≤ 2147483647 := by
  unfold word_Fine.t
  by_cases h : x ≥ -2147483648
  · simp [h]
  · simp [h]
theorem fine0 : word_Fine.t 0 = true := by decide

theorem ba_ext {a b : ByteArray} (h : a.data.toList = b.data.toList) : a = b := by
  cases a; cases b
  congr 1
  exact Array.toList_inj.1 h
theorem bs_list (l : List UInt8) : (bs l).data.toList = l := rfl
theorem bs_size (l : List UInt8) : (bs l).size = l.length := rfl
theorem size_list (s : ByteArray) : s.size = s.data.toList.length := by rw [Array.length_toList]; rfl
theorem of1 (c : Int) : (ofBytes [c]).data.toList = [UInt8.ofNat c.toNat] := rfl
theorem of1_size (c : Int) : (ofBytes [c]).size = 1 := rfl
theorem app_list (a b : ByteArray) : (a ++ b).data.toList = a.data.toList ++ b.data.toList := by simp
theorem w8 {c : Int} (h0 : 0 ≤ c) (h1 : c < 256) : IntKind.wrap .u8 c = c := by
  simp [IntKind.wrap, IntKind.bits, IntKind.signed]
  omega
theorem digit_of {v : Int} (h0 : 0 ≤ v) (h1 : v ≤ 9) : IntKind.wrap .u8 (IntKind.wrap .i64 (48 + v)) = 48 + v := by
  rw [wrap_in (by omega) (by omega), w8 (by omega) (by omega)]

theorem dd_len : ∀ (n u : Nat), u ≤ n → (Lib.decDigits u).length ≤ u + 1
  | 0, u, h => by rw [Lib.decDigits, dif_pos (by omega)]; simp
  | n + 1, u, h => by
    rw [Lib.decDigits]
    split
    · simp
    · have := dd_len n (u / 10) (by omega)
      simp only [List.length_append, List.length_singleton]
      omega

/-- A number's text. -/
def txt (n : Int) : ByteArray := ⟨(Lib.itoa n).toArray⟩
theorem txt_list (n : Int) : (txt n).data.toList = Lib.itoa n := by simp [txt]

theorem itoa_len {n : Int} (h : word_Fine.t n = true) : (Lib.itoa n).length ≤ 4294967296 := by
  have hf := fine_iff.1 h
  unfold Lib.itoa
  split
  · have := dd_len n.natAbs n.natAbs (Nat.le_refl _)
    simp only [List.length_cons]; omega
  · have := dd_len n.toNat n.toNat (Nat.le_refl _)
    omega

def textOf (n : Int) : ByteArray × Int := bif word_Fine.t n then (txt n, 0) else (bs [], 8)
end Go.Proofs.YtjhkagfolmhacaaGreatDoor.K

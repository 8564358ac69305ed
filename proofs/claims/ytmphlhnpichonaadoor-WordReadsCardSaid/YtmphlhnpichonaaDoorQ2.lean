/- The digits and the plain numbers of the reference: what they come to. -/
import Derived.Test.YtmphlhnpichonaaDoorQ1
import Derived.Test.YtmphlhnpichonaaDoorP8
import Derived.Lib.ItoaNum
set_option maxRecDepth 100000
set_option linter.unusedVariables false
set_option linter.unusedSimpArgs false
namespace Go.Proofs.YtmphlhnpichonaaDoor.K
open Go

theorem ba_ext {a b : ByteArray} (h : a.data.toList = b.data.toList) : a = b := by
  cases a; cases b
  congr 1
  exact Array.toList_inj.1 h
theorem bs_list (l : List UInt8) : (bs l).data.toList = l := rfl
theorem of1 (c : Int) : (ofBytes [c]).data.toList = [UInt8.ofNat c.toNat] := rfl
theorem of1_size (c : Int) : (ofBytes [c]).size = 1 := rfl
theorem app_list (a b : ByteArray) : (a ++ b).data.toList = a.data.toList ++ b.data.toList := by simp
theorem w8 {c : Int} (h0 : 0 ≤ c) (h1 : c < 256) : IntKind.wrap .u8 c = c := by
  simp [IntKind.wrap, IntKind.bits, IntKind.signed]
  omega

def t79 (x0 : Int) : ByteArray := bs (Lib.decDigits x0.toNat)
def p79 (x0 : Int) : Bool := decide (0 ≤ x0) && decide (x0 ≤ 1099511627776)
theorem digit_of {v : Int} (h0 : 0 ≤ v) (h1 : v ≤ 9) : IntKind.wrap .u8 (IntKind.wrap .i64 (48 + v)) = 48 + v := by
  rw [wrap_in (by omega) (by omega), w8 (by omega) (by omega)]

theorem s79_eq {Ω : Type} (x0 : Int) (k : ByteArray → Option Ω) (hp : p79 x0 = true) : s79 (x0.toNat + 1) x0 k = k (t79 x0) := by
  simp only [p79, Bool.and_eq_true, decide_eq_true_eq] at hp
  unfold s79 sl79
  have := iter_to (B := B79_0 (x0.toNat + 1) k) (fun r s => ld79_0 k r s) (fun s => 0 ≤ s.1 ∧ s.1 ≤ 1099511627776 ∧ (s.2.size : Int) + s.1 ≤ 2199023255552) (fun s => s.1.toNat) (fun s => k (bs (Lib.decDigits s.1.toNat ++ s.2.data.toList)))
    (by
      rintro ⟨v, acc⟩ ⟨h0, h1, h2⟩ hc
      simp only at h0 h1 h2
      have hgt : v > 9 := by
        rcases Int.lt_or_le 9 v with h | h
        · exact h
        · have hn : ¬ v > 9 := by omega
          simp only [lc79_0, hn, decide_false, cond_false] at hc
          revert hc
          cases decide ((ofBytes [IntKind.wrap .u8 (IntKind.wrap .i64 (48 + v))]).size + acc.size ≤ catMax) <;> simp
      have hcat : decide ((ofBytes [IntKind.wrap .u8 (IntKind.wrap .i64 (48 + Int.tmod v 10))]).size + acc.size ≤ catMax) = true := by
        rw [of1_size]; unfold catMax; simp; omega
      have hd := tdiv_lit v 10
      have hm := tmod_lit v 10
      rw [if_pos h0] at hd hm
      have hd' : Int.tdiv v 10 = v / 10 := hd
      have hm' : Int.tmod v 10 = v % 10 := hm
      have hn : ln79_0 (v, acc) = (v / 10, ofBytes [48 + v % 10] ++ acc) := by
        simp only [ln79_0, hgt, decide_true, cond_true, hcat]
        rw [hd', hm', digit_of (by omega) (by omega), wrap_in (by omega) (by omega)]
      rw [hn]
      refine ⟨⟨by simp only; omega, by simp only; omega, ?_⟩, by simp only; omega, ?_⟩
      · simp only [ByteArray.size_append, of1_size]
        omega
      · simp only
        congr 2
        rw [app_list, of1]
        conv => rhs; rw [Lib.decDigits, dif_neg (by omega)]
        rw [List.append_assoc]
        congr 2
        · omega
        · congr 2
          omega)
    (by
      rintro ⟨v, acc⟩ ⟨h0, h1, h2⟩ hc
      simp only at h0 h1 h2
      have hcat : decide ((ofBytes [IntKind.wrap .u8 (IntKind.wrap .i64 (48 + Int.tmod v 10))]).size + acc.size ≤ catMax) = true := by
        rw [of1_size]; unfold catMax; simp; omega
      have hcat2 : decide ((ofBytes [IntKind.wrap .u8 (IntKind.wrap .i64 (48 + v))]).size + acc.size ≤ catMax) = true := by
        rw [of1_size]; unfold catMax; simp; omega
      have hle : ¬ v > 9 := by
        intro h
        simp only [lc79_0, h, decide_true, cond_true, hcat] at hc
        cases hc
      simp only [lx79_0, hle, decide_false, cond_false, hcat2, cond_true]
      congr 1
      apply ba_ext
      rw [app_list, of1, digit_of (by omega) (by omega), bs_list, Lib.decDigits, dif_pos (by omega)]
      congr 3
      omega)
    (x0.toNat + 1) (x0, bs []) ⟨hp.1, hp.2, by show ((0 : Nat) : Int) + x0 ≤ _; omega⟩ (by simp only; omega)
  refine Eq.trans this ?_
  simp [t79, bs]

theorem c79 (x0 : Int) (hp : p79 x0 = true) : Contract C 79 [.v (.int .i64) x0] (.v .str (t79 x0)) :=
  contract_of (spec := fun {_} => sp79) (fuel := F79 (x0.toNat + 1)) C_ok noS_ok (by kernel_rfl) (by kernel_rfl) (by kernel_rfl) (by rw [ev79, s79_eq x0 _ hp])
noncomputable def e79 : Ent := fun {_} => ent1 (.int .i64) (fun x0 => p79 x0) (fun x0 => .v .str (t79 x0))
theorem e79_ok : EntOK C 79 (fun {_} => e79) := ent1_ok fun x0 h => c79 x0 h
end Go.Proofs.YtmphlhnpichonaaDoor.K

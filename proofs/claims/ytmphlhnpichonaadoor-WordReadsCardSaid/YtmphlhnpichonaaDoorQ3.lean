/- The plain numbers of the reference: what they come to. -/
import Derived.Test.YtmphlhnpichonaaDoorQ2
set_option maxRecDepth 100000
set_option linter.unusedVariables false
set_option linter.unusedSimpArgs false
namespace Go.Proofs.YtmphlhnpichonaaDoor.K
open Go

/-- becketref01.Plain -/
def capf (a c : Int) : Int := if (1000000000 : Int) < 10 * a + (c - 48) then 1000000000 else 10 * a + (c - 48)
def t77 (s : ByteArray) : Int × Bool :=
  bif s.data.toList == (bs []).data.toList then (0, false)
  else bif (bAt s 0 == 48) && decide ((s.size : Int) > 1) then (0, false)
  else bif (bytesI s).all dig then ((bytesI s).foldl capf 0, true) else (0, false)
def p77 (s : ByteArray) : Bool := decide (s.size ≤ 4611686018427387904)

theorem bAt_get (s : ByteArray) (i : Nat) : (bytesI s).getD i 0 = bAt s i := by
  unfold bytesI bAt
  simp only [List.getD_eq_getElem?_getD, List.getElem?_map]
  cases s.data.toList[i]? <;> rfl
theorem bAt_lt (s : ByteArray) (i : Nat) : 0 ≤ bAt s i ∧ bAt s i < 256 := by
  unfold bAt
  have := (s.data.toList.getD i 0).toNat_lt
  omega
theorem drop_bytes (s : ByteArray) {i : Int} (h0 : 0 ≤ i) (h : i < (s.size : Nat)) : (bytesI s).drop i.toNat = bAt s i.toNat :: (bytesI s).drop (i + 1).toNat := by
  have hi : i.toNat < (bytesI s).length := by rw [bytesI_len]; omega
  rw [show (i + 1).toNat = i.toNat + 1 by omega, List.drop_eq_getElem_cons hi, ← bAt_get]
  simp [List.getD, hi]

theorem loop77 {Ω : Type} (fuel : Nat) (s : ByteArray) (k : Int × Bool → Option Ω) (hs : s.size ≤ 4611686018427387904) (m : Nat) (hm : s.size < m) :
    iter (B77_0 fuel s k) m (0, 0) = k (bif (bytesI s).all dig then ((bytesI s).foldl capf 0, true) else (0, false)) := by
  have := iter_to (B := B77_0 fuel s k) (fun r i => ld77_0 s k r i) (fun q => 0 ≤ q.2 ∧ q.2 ≤ (s.size : Nat) ∧ 0 ≤ q.1 ∧ q.1 ≤ 1000000000) (fun q => ((s.size : Int) - q.2).toNat)
    (fun q => k (bif ((bytesI s).drop q.2.toNat).all dig then (((bytesI s).drop q.2.toNat).foldl capf q.1, true) else (0, false)))
    (by
      rintro ⟨v, i⟩ ⟨h0, h1, h2, h3⟩ hc
      simp only at h0 h1 h2 h3
      have hlt : i < (s.size : Nat) := by
        rcases Int.lt_or_le i (s.size : Nat) with h | h
        · exact h
        · simp [lc77_0, show ¬ i < ((s.size : Nat) : Int) by omega] at hc
      have hok : idxOK i s.size = true := by simp [idxOK]; omega
      have hb := bAt_lt s i.toNat
      have hd := drop_bytes s h0 hlt
      have hw : IntKind.wrap .i64 (i + 1) = i + 1 := wrap_in (by omega) (by omega)
      have hdig : dig (bAt s i.toNat) = true := by
        unfold dig
        revert hc
        simp only [lc77_0, hlt, decide_true, cond_true, hok]
        cases decide (bAt s i.toNat < 48) <;> cases decide (bAt s i.toNat > 57) <;> simp
      have hge : ¬ bAt s i.toNat < 48 := by
        intro h
        simp [dig, h] at hdig
      have hle : ¬ bAt s i.toNat > 57 := by
        intro h
        simp [dig, hge, h] at hdig
      have hn : ln77_0 s (v, i) = (capf v (bAt s i.toNat), i + 1) := by
        simp only [ln77_0, hlt, decide_true, cond_true, hok, hge, hle, decide_false, cond_false, hw]
        rw [w8 (by omega) (by omega), wrap_in (x := bAt s i.toNat - 48) (by omega) (by omega), wrap_in (x := 10 * v) (by omega) (by omega), wrap_in (x := 10 * v + (bAt s i.toNat - 48)) (by omega) (by omega)]
        rfl
      rw [hn]
      have hcap : 0 ≤ capf v (bAt s i.toNat) ∧ capf v (bAt s i.toNat) ≤ 1000000000 := by
        unfold capf
        split <;> omega
      refine ⟨⟨by simp only; omega, by simp only; omega, hcap.1, hcap.2⟩, by simp only; omega, ?_⟩
      simp only
      rw [hd, List.all_cons, hdig, Bool.true_and, List.foldl_cons])
    (by
      rintro ⟨v, i⟩ ⟨h0, h1, h2, h3⟩ hc
      simp only at h0 h1 h2 h3
      rcases Int.lt_or_le i (s.size : Nat) with hlt | hge
      · have hok : idxOK i s.size = true := by simp [idxOK]; omega
        have hd := drop_bytes s h0 hlt
        simp only [lc77_0, hlt, decide_true, cond_true, hok] at hc
        simp only [lx77_0, hlt, decide_true, cond_true, hok]
        have hdig : dig (bAt s i.toNat) = false := by
          unfold dig
          revert hc
          cases decide (bAt s i.toNat < 48) <;> cases decide (bAt s i.toNat > 57) <;> simp
        rw [hd, List.all_cons, hdig, Bool.false_and]
        revert hc
        cases decide (bAt s i.toNat < 48) <;> cases decide (bAt s i.toNat > 57) <;> simp
      · simp only [lx77_0, show ¬ i < ((s.size : Nat) : Int) by omega, decide_false, cond_false]
        rw [List.drop_eq_nil_of_le (by rw [bytesI_len]; omega)]
        rfl)
    m (0, 0) ⟨by simp only; omega, by simp only; omega, by simp only; omega, by simp only; omega⟩ (by simp only; omega)
  refine Eq.trans this ?_
  rfl

theorem s77_eq {Ω : Type} (s : ByteArray) (k : Int × Bool → Option Ω) (hp : p77 s = true) : s77 (s.size + 1) s k = k (t77 s) := by
  simp only [p77, decide_eq_true_eq] at hp
  unfold s77 sl77 t77
  have hl := loop77 (s.size + 1) s k hp (s.size + 1) (by omega)
  cases h1 : (s.data.toList == (bs []).data.toList) with
  | true => rfl
  | false =>
    have hz : idxOK 0 s.size = true := by
      have : s.size ≠ 0 := by
        intro h
        have h2 : s.data.toList = [] := List.length_eq_zero_iff.1 h
        rw [h2] at h1
        exact absurd h1 (by decide)
      simp [idxOK]; omega
    simp only [cond_false, hz, cond_true]
    cases (bAt s 0 == 48) with
    | false => simp only [cond_false, Bool.false_and]; exact hl
    | true =>
      cases decide ((s.size : Int) > 1) with
      | true => rfl
      | false => simp only [cond_false, cond_true, Bool.true_and]; exact hl

theorem c77 (s : ByteArray) (hp : p77 s = true) : Contract C 77 [.v .str s] (.tup [.v (.int .i64) (t77 s).1, .v .bool (t77 s).2]) :=
  contract_of (spec := fun {_} => sp77) (fuel := F77 (s.size + 1)) C_ok noS_ok (by kernel_rfl) (by kernel_rfl) (by kernel_rfl) (by rw [ev77, s77_eq s _ hp])
noncomputable def e77 : Ent := fun {_} => ent1 .str (fun s => p77 s) (fun s => .tup [.v (.int .i64) (t77 s).1, .v .bool (t77 s).2])
theorem e77_ok : EntOK C 77 (fun {_} => e77) := ent1_ok fun s h => c77 s h
end Go.Proofs.YtmphlhnpichonaaDoor.K

/- The loops of the words: what they come to. -/
import Derived.Test.YtmphlhnpichonaaDoorY1
import Derived.IntWalk
set_option maxRecDepth 100000
set_option linter.unusedVariables false
set_option linter.unusedSimpArgs false
namespace Go.Proofs.YtmphlhnpichonaaDoor.K
open Go

/-- becketref08.moved -/
def st70 (x2 : Bool) (v : Int) : Int :=
  bif !x2 then t55 (IntKind.wrap .i64 (2 * v))
  else bif decide (v < 0) then (bif (Int.tmod v 2) != 0 then IntKind.wrap .i64 (IntKind.wrap .i64 (Int.tdiv v 2) - 1) else IntKind.wrap .i64 (Int.tdiv v 2))
  else IntKind.wrap .i64 (Int.tdiv v 2)
def t70 (x0 x1 : Int) (x2 : Bool) : Int := rep (st70 x2) x1.toNat x0
def p70 (x0 x1 : Int) (x2 : Bool) : Bool := decide (0 ≤ x1) && decide (x1 ≤ 1000)

theorem s70_eq {Ω : Type} (x0 x1 : Int) (x2 : Bool) (k : Int → Option Ω) (hp : p70 x0 x1 x2 = true) : s70 2000 x0 x1 x2 k = k (t70 x0 x1 x2) := by
  simp only [p70, Bool.and_eq_true, decide_eq_true_eq] at hp
  unfold s70 sl70
  have := iter_to (B := B70_0 2000 x1 x2 k) (fun r s => ld70_0 x1 x2 k r s) (fun s => 0 ≤ s.2 ∧ s.2 ≤ x1) (fun s => (x1 - s.2).toNat) (fun s => k (rep (st70 x2) (x1 - s.2).toNat s.1))
    (by
      rintro ⟨v, i⟩ ⟨h0, h1⟩ hc
      simp only at h0 h1
      have hlt : i < x1 := by
        rcases Int.lt_or_le i x1 with h | h
        · exact h
        · simp [lc70_0, show ¬ i < x1 by omega] at hc
      have hn : ln70_0 x1 x2 (v, i) = (st70 x2 v, i + 1) := by
        have hw : IntKind.wrap .i64 (i + 1) = i + 1 := wrap_in (by omega) (by omega)
        simp only [ln70_0, hlt, decide_true, cond_true, hw, st70]
        cases x2 <;> simp only [Bool.not_false, Bool.not_true, cond_true, cond_false]
        cases decide (v < 0) <;> simp only [cond_true, cond_false]
        cases ((Int.tmod v 2) != 0) <;> rfl
      rw [hn]
      refine ⟨⟨by simp only; omega, by simp only; omega⟩, by simp only; omega, ?_⟩
      simp only
      rw [show (x1 - i).toNat = (x1 - (i + 1)).toNat + 1 by omega]
      rfl)
    (by
      rintro ⟨v, i⟩ ⟨h0, h1⟩ hc
      simp only at h0 h1
      have hge : ¬ i < x1 := by
        intro h
        simp [lc70_0, h] at hc
      simp only [lx70_0, hge, decide_false, cond_false]
      rw [show (x1 - i).toNat = 0 by omega]
      rfl)
    2000 (x0, 0) ⟨by simp only; omega, by simp only; omega⟩ (by simp only; omega)
  refine Eq.trans this ?_
  simp only [t70, Int.sub_zero]

theorem c70 (x0 x1 : Int) (x2 : Bool) (hp : p70 x0 x1 x2 = true) : Contract C 70 [.v (.int .i64) x0, .v (.int .i64) x1, .v .bool x2] (.v (.int .i64) (t70 x0 x1 x2)) :=
  contract_of (spec := fun {_} => sp70) (fuel := F70 2000) C_ok (orS_ok e55_ok noS_ok) (by kernel_rfl) (by kernel_rfl) (by kernel_rfl) (by rw [ev70, s70_eq x0 x1 x2 _ hp])
noncomputable def e70 : Ent := fun {_} => ent3 (.int .i64) (.int .i64) .bool (fun x0 x1 x2 => p70 x0 x1 x2) (fun x0 x1 x2 => .v (.int .i64) (t70 x0 x1 x2))
theorem e70_ok : EntOK C 70 (fun {_} => e70) := ent3_ok fun x0 x1 x2 h => c70 x0 x1 x2 h

/-- becketref08.bits: a round -/
abbrev S73 := Int × Int × Int × Int × Int
def bit73 (x0 a b : Int) : Bool :=
  bif x0 == 8 then ((IntKind.wrap .i64 (Int.tmod a 2 + Int.tmod b 2)) == 1)
  else bif x0 == 7 then decide ((IntKind.wrap .i64 (Int.tmod a 2 + Int.tmod b 2)) > 0)
  else ((IntKind.wrap .i64 (Int.tmod a 2 + Int.tmod b 2)) == 2)
def st73 (x0 : Int) (s : S73) : S73 :=
  (IntKind.wrap .i64 (Int.tdiv s.1 2), IntKind.wrap .i64 (Int.tdiv s.2.1 2), bif bit73 x0 s.1 s.2.1 then IntKind.wrap .i64 (s.2.2.1 + s.2.2.2.1) else s.2.2.1, IntKind.wrap .i64 (2 * s.2.2.2.1), s.2.2.2.2 + 1)
def t73 (x0 x1 x2 : Int) : Int := t55 (rep (st73 x0) 32 (t71 x1, t71 x2, 0, 1, 0)).2.2.1

theorem s73_eq {Ω : Type} (x0 x1 x2 : Int) (k : Int → Option Ω) : s73 100 x0 x1 x2 k = k (t73 x0 x1 x2) := by
  unfold s73 sl73
  have := iter_to (B := B73_0 100 x0 x1 (t71 x1) x2 (t71 x2) k) (fun r s => ld73_0 x0 x1 (t71 x1) x2 (t71 x2) k r s) (fun s => 0 ≤ s.2.2.2.2 ∧ s.2.2.2.2 ≤ 32) (fun s => (32 - s.2.2.2.2).toNat) (fun s => k (t55 (rep (st73 x0) (32 - s.2.2.2.2).toNat s).2.2.1))
    (by
      rintro ⟨a, b, c, d, i⟩ ⟨h0, h1⟩ hc
      simp only at h0 h1
      have hlt : i < 32 := by
        rcases Int.lt_or_le i 32 with h | h
        · exact h
        · simp [lc73_0, show ¬ i < 32 by omega] at hc
      have hn : ln73_0 x0 x1 (t71 x1) x2 (t71 x2) (a, b, c, d, i) = st73 x0 (a, b, c, d, i) := by
        have hw : IntKind.wrap .i64 (i + 1) = i + 1 := wrap_in (by omega) (by omega)
        simp only [ln73_0, hlt, decide_true, cond_true, hw, st73, bit73]
        generalize ((IntKind.wrap .i64 (Int.tmod a 2 + Int.tmod b 2)) == 1) = X1
        generalize ((IntKind.wrap .i64 (Int.tmod a 2 + Int.tmod b 2)) == 2) = X2
        generalize decide ((IntKind.wrap .i64 (Int.tmod a 2 + Int.tmod b 2)) > 0) = X3
        cases (x0 == 7) <;> cases (x0 == 8) <;> cases X1 <;> cases X2 <;> cases X3 <;> rfl
      rw [hn]
      refine ⟨⟨by simp only [st73]; omega, by simp only [st73]; omega⟩, by simp only [st73]; omega, ?_⟩
      simp only
      rw [show (32 - i).toNat = (32 - (st73 x0 (a, b, c, d, i)).2.2.2.2).toNat + 1 by simp only [st73]; omega]
      rfl)
    (by
      rintro ⟨a, b, c, d, i⟩ ⟨h0, h1⟩ hc
      simp only at h0 h1
      have hge : ¬ i < 32 := by
        intro h
        simp only [lc73_0, h, decide_true, cond_true] at hc
        revert hc
        cases (x0 == 7) <;> cases (x0 == 8) <;> simp
      simp only [lx73_0, hge, decide_false, cond_false]
      rw [show (32 - i).toNat = 0 by omega]
      rfl)
    100 (t71 x1, t71 x2, 0, 1, 0) ⟨by simp only; omega, by simp only; omega⟩ (by simp only; omega)
  exact this

theorem c73 (x0 x1 x2 : Int) : Contract C 73 [.v (.int .i64) x0, .v (.int .i64) x1, .v (.int .i64) x2] (.v (.int .i64) (t73 x0 x1 x2)) :=
  contract_of (spec := fun {_} => sp73) (fuel := F73 100) C_ok (orS_ok e71_ok (orS_ok e55_ok noS_ok)) (by kernel_rfl) (by kernel_rfl) (by kernel_rfl) (by rw [ev73, s73_eq])
noncomputable def e73 : Ent := fun {_} => ent3 (.int .i64) (.int .i64) (.int .i64) (fun x0 x1 x2 => true) (fun x0 x1 x2 => .v (.int .i64) (t73 x0 x1 x2))
theorem e73_ok : EntOK C 73 (fun {_} => e73) := ent3_ok fun x0 x1 x2 h => c73 x0 x1 x2

/-- word.whole -/
def dig (c : Int) : Bool := bif decide (c < 48) then false else bif decide (c > 57) then false else true
def tail75 (s : ByteArray) : Bool := bif (s.data.toList == (bs [48]).data.toList) then true else bif !(s.data.toList == (bs []).data.toList) then (bAt s 0 != 48) else false
def t75 (s : ByteArray) : Bool := bif (bytesI s).all dig then tail75 s else false
def p75 (s : ByteArray) : Bool := decide (s.size ≤ 4611686018427387904)

theorem s75_eq {Ω : Type} (s : ByteArray) (k : Bool → Option Ω) (hp : p75 s = true) : s75 (s.size + 1) s k = k (t75 s) := by
  simp only [p75, decide_eq_true_eq] at hp
  unfold s75 sl75
  have hlen := bytesI_len s
  have := iter_to (B := B75_0 (s.size + 1) s (bytesI s) ((List.length (bytesI s) : Nat) : Int) k) (fun r i => ld75_0 s (bytesI s) ((List.length (bytesI s) : Nat) : Int) k r i) (fun i => 0 ≤ i ∧ i ≤ (bytesI s).length) (fun i => ((bytesI s).length - i).toNat)
    (fun i => k (bif ((bytesI s).drop i.toNat).all dig then tail75 s else false))
    (by
      rintro i ⟨h0, h1⟩ hc
      have hlt : i < ((bytesI s).length : Nat) := by
        rcases Int.lt_or_le i ((bytesI s).length : Nat) with h | h
        · exact h
        · simp [lc75_0, show ¬ i < ((bytesI s).length : Nat) by omega] at hc
      have hok : idxOK i (bytesI s).length = true := by simp [idxOK]; omega
      have hi : i.toNat < (bytesI s).length := by omega
      have hd : (bytesI s).drop i.toNat = (bytesI s).getD i.toNat 0 :: (bytesI s).drop (i + 1).toNat := by
        rw [show (i + 1).toNat = i.toNat + 1 by omega, List.drop_eq_getElem_cons hi]
        simp [List.getD, hi]
      have hw : IntKind.wrap .i64 (i + 1) = i + 1 := wrap_in (by omega) (by omega)
      simp only [lc75_0, hlt, decide_true, cond_true, hok] at hc
      simp only [ln75_0, hlt, decide_true, cond_true, hok, hw]
      have hdig : dig ((bytesI s).getD i.toNat 0) = true := by
        unfold dig
        revert hc
        cases decide ((bytesI s).getD i.toNat 0 < 48) <;> cases decide ((bytesI s).getD i.toNat 0 > 57) <;> simp
      have hn : ∀ b1 b2 : Bool, (bif b1 then false else bif b2 then false else true) = true → (bif b1 then i else bif b2 then i else i + 1) = i + 1 := by
        intro b1 b2; cases b1 <;> cases b2 <;> simp
      rw [hn _ _ hc]
      refine ⟨⟨by omega, by omega⟩, by omega, ?_⟩
      rw [hd, List.all_cons, hdig, Bool.true_and])
    (by
      rintro i ⟨h0, h1⟩ hc
      rcases Int.lt_or_le i ((bytesI s).length : Nat) with hlt | hge
      · have hok : idxOK i (bytesI s).length = true := by simp [idxOK]; omega
        have hi : i.toNat < (bytesI s).length := by omega
        have hd : (bytesI s).drop i.toNat = (bytesI s).getD i.toNat 0 :: (bytesI s).drop (i + 1).toNat := by
          rw [show (i + 1).toNat = i.toNat + 1 by omega, List.drop_eq_getElem_cons hi]
          simp [List.getD, hi]
        simp only [lc75_0, hlt, decide_true, cond_true, hok] at hc
        simp only [lx75_0, hlt, decide_true, cond_true, hok]
        have hdig : dig ((bytesI s).getD i.toNat 0) = false := hc
        rw [hd, List.all_cons, hdig, Bool.false_and]
        revert hc
        cases decide ((bytesI s).getD i.toNat 0 < 48) <;> cases decide ((bytesI s).getD i.toNat 0 > 57) <;> simp
      · simp only [lx75_0, show ¬ i < ((bytesI s).length : Nat) by omega, decide_false, cond_false]
        rw [show i.toNat = (bytesI s).length by omega, List.drop_length, List.all_nil, cond_true]
        unfold tail75
        cases h1 : (s.data.toList == (bs [48]).data.toList) with
        | true => rfl
        | false =>
          cases h2 : (s.data.toList == (bs []).data.toList) with
          | true => rfl
          | false =>
            have hz : idxOK 0 s.size = true := by
              have : s.size ≠ 0 := by
                intro h
                have : s.data.toList = [] := by
                  have hs : s.data.toList.length = 0 := h
                  exact List.length_eq_zero_iff.1 hs
                rw [this] at h2
                exact absurd h2 (by decide)
              simp [idxOK]; omega
            simp only [hz, Bool.not_false, cond_true, cond_false])
    (s.size + 1) 0 ⟨by omega, by omega⟩ (by simp only [hlen]; omega)
  refine Eq.trans this ?_
  rfl

theorem c75 (s : ByteArray) (hp : p75 s = true) : Contract C 75 [.v .str s] (.v .bool (t75 s)) :=
  contract_of (spec := fun {_} => sp75) (fuel := F75 (s.size + 1)) C_ok noS_ok (by kernel_rfl) (by kernel_rfl) (by kernel_rfl) (by rw [ev75, s75_eq s _ hp])
noncomputable def e75 : Ent := fun {_} => ent1 .str (fun s => p75 s) (fun s => .v .bool (t75 s))
theorem e75_ok : EntOK C 75 (fun {_} => e75) := ent1_ok fun s h => c75 s h
end Go.Proofs.YtmphlhnpichonaaDoor.K

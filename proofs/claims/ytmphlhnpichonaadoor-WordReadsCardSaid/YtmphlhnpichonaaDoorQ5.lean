/- The reference's Parse: what it comes to. -/
import Derived.Test.YtmphlhnpichonaaDoorQ4
set_option maxRecDepth 100000
set_option linter.unusedVariables false
set_option linter.unusedSimpArgs false
namespace Go.Proofs.YtmphlhnpichonaaDoor.K
open Go

def neg45 (s : ByteArray) : Bool := decide ((s.size : Int) > 0) && (bAt s 0 == 45)
def rest45 (s : ByteArray) : ByteArray := bif neg45 s then subS (some 1) none s else s
def t45 (s : ByteArray) : Int × Int :=
  bif !(t77 (rest45 s)).2 then (0, 3)
  else bif neg45 s && ((rest45 s).data.toList == (bs [48]).data.toList) then (0, 3)
  else bif decide (((rest45 s).size : Int) > 10) then (0, 8)
  else fin45 (neg45 s) ((bytesI (rest45 s)).foldl stp 0)
def p45 (s : ByteArray) : Bool := decide (s.size ≤ 4611686018427387904)

theorem rest_size (s : ByteArray) : (rest45 s).size ≤ s.size := by
  unfold rest45
  cases neg45 s with
  | false => exact Nat.le_refl _
  | true =>
    show (s.extract 1 s.size).size ≤ s.size
    simp

theorem s45_eq {Ω : Type} (s : ByteArray) (k : Int × Int → Option Ω) (hp : p45 s = true) : s45 12 s k = k (t45 s) := by
  simp only [p45, decide_eq_true_eq] at hp
  have hl : ∀ (r : ByteArray) (b : Bool), decide ((r.size : Int) > 10) = false → iter (B45_0 12 r b k) 12 (0, 0) = k (fin45 b ((bytesI r).foldl stp 0)) := by
    intro r b hr
    have hr' : ¬ (r.size : Int) > 10 := by simpa using hr
    exact loop45_0 12 r b k (by omega) 12 (by omega)
  have hl1 : ∀ (r : ByteArray), decide ((r.size : Int) > 10) = false → iter (B45_1 12 r k) 12 (0, 0) = k (fin45 false ((bytesI r).foldl stp 0)) := fun r hr => hl r false hr
  have hr := rest_size s
  have hp77 : p77 (rest45 s) = true := by unfold p77; exact decide_eq_true (by omega)
  unfold s45 sl45 t45
  cases hz : decide ((s.size : Int) > 0) with
  | false =>
    have hn : neg45 s = false := by unfold neg45; rw [hz, Bool.false_and]
    have hrs : rest45 s = s := by unfold rest45; rw [hn]; rfl
    rw [hrs] at hp77 ⊢
    simp only [hn, hp77, cond_true, cond_false, Bool.false_and]
    cases (t77 s).2 with
    | false => rfl
    | true =>
      simp only [Bool.not_true, cond_false]
      cases h10 : decide ((s.size : Int) > 10) with
      | true => rfl
      | false => exact hl1 s h10
  | true =>
    have hz' : (s.size : Int) > 0 := by simpa using hz
    have hi : idxOK 0 s.size = true := by simp [idxOK]; omega
    have hsub : subC (some 1) none s.size = true := by simp [subC]; omega
    simp only [cond_true, hi]
    cases hb : (bAt s 0 == 45) with
    | false =>
      have hn : neg45 s = false := by unfold neg45; rw [hb, Bool.and_false]
      have hrs : rest45 s = s := by unfold rest45; rw [hn]; rfl
      rw [hrs] at hp77 ⊢
      simp only [hn, hp77, cond_true, cond_false, Bool.false_and]
      cases (t77 s).2 with
      | false => rfl
      | true =>
        simp only [Bool.not_true, cond_false]
        cases h10 : decide ((s.size : Int) > 10) with
        | true => rfl
        | false => exact hl s false h10
    | true =>
      have hn : neg45 s = true := by unfold neg45; rw [hz, hb]; rfl
      have hrs : rest45 s = subS (some 1) none s := by unfold rest45; rw [hn]; rfl
      rw [hrs] at hp77 ⊢
      simp only [hn, hp77, hsub, cond_true, cond_false, Bool.true_and]
      cases (t77 (subS (some 1) none s)).2 with
      | false => rfl
      | true =>
        simp only [Bool.not_true, cond_false]
        cases ((subS (some 1) none s).data.toList == (bs [48]).data.toList) with
        | true => rfl
        | false =>
          simp only [cond_false]
          cases h10 : decide (((subS (some 1) none s).size : Int) > 10) with
          | true => rfl
          | false => exact hl _ true h10

theorem c45 (s : ByteArray) (hp : p45 s = true) : Contract C 45 [.v .str s] (.tup [.v (.int .i64) (t45 s).1, .v (.int .i64) (t45 s).2]) :=
  contract_of (spec := fun {_} => sp45) (fuel := F45 12) C_ok (orS_ok e77_ok (orS_ok e53_ok noS_ok)) (by kernel_rfl) (by kernel_rfl) (by kernel_rfl) (by rw [ev45, s45_eq s _ hp])
noncomputable def e45 : Ent := fun {_} => ent1 .str (fun s => p45 s) (fun s => .tup [.v (.int .i64) (t45 s).1, .v (.int .i64) (t45 s).2])
theorem e45_ok : EntOK C 45 (fun {_} => e45) := ent1_ok fun s h => c45 s h
end Go.Proofs.YtmphlhnpichonaaDoor.K

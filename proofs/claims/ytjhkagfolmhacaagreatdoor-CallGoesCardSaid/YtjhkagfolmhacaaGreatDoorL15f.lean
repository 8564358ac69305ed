/- Who is answered or woken goes on: an alt's guards have rising numbers. -/
import Derived.Test.YtjhkagfolmhacaaGreatDoorL15e
set_option maxRecDepth 100000
set_option linter.unusedVariables false
set_option linter.unusedSimpArgs false
namespace Go.Proofs.YtjhkagfolmhacaaGreatDoor.K
open Go

/-- A guard that may wake. -/
def GOK (g : Gd) : Prop := 0 ≤ g.2.2.2.2.1 ∧ g.2.2.2.2.1 < 6 ∧ 0 ≤ g.2.2.2.1 ∧ g.2.2.2.1 < 8
theorem gd_no (y : In) (f : Fr) (now i : Int) : (gdOf y f now i).2.2.2.2.1 = i := by
  unfold gdOf
  cases (y.1 == 42) <;> cases (y.1 == 43) <;> cases (y.1 == 44) <;> rfl
theorem gd_ok {y : In} (hy : chk y = 0) (hg : isG y = true) (hi : InOK y) (f : Fr) (now : Int) {i : Nat} (h6 : i < 6) : GOK (gdOf y f now (i : Int)) := by
  have hn := gd_no y f now (i : Int)
  obtain ⟨o, a, b, c, u⟩ := y
  have h4 := isG_ops hg
  simp only at h4
  have rb := (reg_at hy).2.1
  refine ⟨by rw [hn]; omega, by rw [hn]; omega, ?_⟩
  have hb := hi.b
  simp only at hb rb
  rcases h4 with rfl | rfl | rfl | rfl
  · have h1 := idxOK_iff.1 (rb rfl)
    show 0 ≤ IntKind.wrap .i64 b ∧ IntKind.wrap .i64 b < 8
    rw [wrapN ⟨by omega, by omega⟩]; omega
  · exact ⟨Int.le_refl 0, (show (0 : Int) < 8 by decide)⟩
  · exact ⟨Int.le_refl 0, (show (0 : Int) < 8 by decide)⟩
  · exact ⟨Int.le_refl 0, (show (0 : Int) < 8 by decide)⟩
def Rising (l : List Gd) : Prop := l.Pairwise fun a b => a.2.2.2.2.1 < b.2.2.2.2.1
theorem alt_rise {l : List In} (h : PrOK l) {f : Fr} {now : Int} (hn : ref05_Fine.t now = true) (hr : RegsOK f) {p c : Nat} (hp : f.1 = (p : Int)) (hl : l.length ≤ 64) (hpc : p + 1 + c ≤ l.length) (hc6 : c ≤ 6)
    (hG : ∀ i, i < c → chk (l.getD (p + 1 + i) noIn) = 0 ∧ isG (l.getD (p + 1 + i) noIn) = true) {x : In} (e2 : Int) :
    ∀ (d i : Nat) (acc r : List Gd), i + d = c → call_asker_some.g0 ((l.take (p + 1 + c)).drop (p + 1)) e2 (x, (f, (now, ()))) some d (i : Int) acc = some r → Rising acc → (∀ g ∈ acc, GOK g ∧ g.2.2.2.2.1 < i) → Rising r ∧ ∀ g ∈ r, GOK g
  | 0, i, acc, r, h1, h2, h3, h4 => by
    cases h2
    exact ⟨h3, fun g hg => (h4 g hg).1⟩
  | d + 1, i, acc, r, h1, h2, h3, h4 => by
    have hic : i < c := by omega
    obtain ⟨hy, hg⟩ := hG i hic
    have hgl : ((l.take (p + 1 + c)).drop (p + 1)).length = c := by simp; omega
    have hge : List.getD ((l.take (p + 1 + c)).drop (p + 1)) i noIn = l.getD (p + 1 + i) noIn := by
      rw [List.getD_eq_getElem?_getD, List.getD_eq_getElem?_getD, List.getElem?_drop, List.getElem?_take, if_pos (by omega)]
    have hi1 : idxOK (i : Int) (List.length ((l.take (p + 1 + c)).drop (p + 1))) = true := by rw [hgl]; exact idxOK_of (by omega) (by omega)
    have hsucc : (i : Int) + 1 = ((i + 1 : Nat) : Int) := by omega
    simp only [call_asker_some.g0, hi1, cond_true, Int.toNat_natCast] at h2
    rw [show List.getD ((l.take (p + 1 + c)).drop (p + 1)) i ((0, (0, (0, (0, ())))) : In) = l.getD (p + 1 + i) noIn from hge] at h2
    have hyk := h.at (p + 1 + i)
    generalize l.getD (p + 1 + i) noIn = y at *
    obtain ⟨c0, c8⟩ := guard_c hy hg
    have up : ∀ g ∈ acc, GOK g ∧ g.2.2.2.2.1 < ((i + 1 : Nat) : Int) := fun g hg => ⟨(h4 g hg).1, by have := (h4 g hg).2; omega⟩
    have step : ((call_asker_one.u (y, (f, (now, ())))).bind fun y5 =>
        bif (decide (List.length acc + List.length [((y5.1, (y5.2.1, (y5.2.2.1, (y5.2.2.2.1, ((i : Int), y5.2.2.2.2.2))))) : Gd)] ≤ rowMax)) then
          call_asker_some.g0 ((l.take (p + 1 + c)).drop (p + 1)) e2 (x, (f, (now, ()))) some d ((i : Int) + 1) (acc ++ [(y5.1, (y5.2.1, (y5.2.2.1, (y5.2.2.2.1, ((i : Int), y5.2.2.2.2.2)))))])
        else none) = some r → Rising r ∧ ∀ g ∈ r, GOK g := by
      intro hq
      rw [one_g hy hg hn hr, Option.bind_some] at hq
      obtain ⟨_, hq⟩ := ite_some hq
      have e : (((gdOf y f now 0).1, ((gdOf y f now 0).2.1, ((gdOf y f now 0).2.2.1, ((gdOf y f now 0).2.2.2.1, ((i : Int), (gdOf y f now 0).2.2.2.2.2))))) : Gd) = gdOf y f now i := by
        unfold gdOf
        cases (y.1 == 42) <;> cases (y.1 == 43) <;> cases (y.1 == 44) <;> rfl
      rw [e, hsucc] at hq
      have hno := gd_no y f now (i : Int)
      refine alt_rise h hn hr hp hl hpc hc6 hG e2 d (i + 1) _ r (by omega) hq ?_ ?_
      · unfold Rising
        rw [List.pairwise_append]
        refine ⟨h3, by simp, fun a ha b hb => ?_⟩
        rw [List.mem_singleton.1 hb, hno]
        exact (h4 a ha).2
      · intro g hgm
        rcases List.mem_append.1 hgm with hgm | hgm
        · exact up g hgm
        · rw [List.mem_singleton.1 hgm]
          exact ⟨gd_ok hy hg hyk f now (by omega), by rw [hno]; omega⟩
    by_cases h8 : y.2.2.2.1 = 8
    · have b1 : (y.2.2.2.1 != 8) = false := by rw [h8]; rfl
      rw [b1] at h2
      simp only [cond_false] at h2
      exact step h2
    · have b1 : (y.2.2.2.1 != 8) = true := bne_iff_ne.2 h8
      have b3 : idxOK y.2.2.2.1 8 = true := idxOK_of c0 (by omega)
      rw [b1, b3] at h2
      simp only [cond_true] at h2
      cases hz : (List.getD f.2.2.1 (Int.toNat y.2.2.2.1) 0 == 0) with
      | true =>
        rw [hz, cond_true, hsucc] at h2
        exact alt_rise h hn hr hp hl hpc hc6 hG e2 d (i + 1) acc r (by omega) h2 h3 up
      | false =>
        rw [hz, cond_false] at h2
        exact step h2
end Go.Proofs.YtjhkagfolmhacaaGreatDoor.K

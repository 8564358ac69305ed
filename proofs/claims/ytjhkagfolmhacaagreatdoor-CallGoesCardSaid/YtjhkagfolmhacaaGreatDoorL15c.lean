/- What a process asks for, plainly: an alt's guards; the law. -/
import Derived.Test.YtjhkagfolmhacaaGreatDoorL15b
set_option maxRecDepth 100000
set_option linter.unusedVariables false
set_option linter.unusedSimpArgs false
namespace Go.Proofs.YtjhkagfolmhacaaGreatDoor.K
open Go

theorem go_wr {l : List In} (h : PrOK l) (hl : l.length ≤ 64) : ∀ (xs : List In) (a : Nat), l.drop a = xs → ∀ v, ref12_Check.g0 l some xs (a : Int) = some v → v.2 = 0 → ∀ j, a ≤ j → j < l.length → ∃ own, wrF l j own = 0
  | [], a, hd, v, _, _, j, h1, h2 => by have := List.drop_eq_nil_iff.1 hd; omega
  | x :: xs, a, hd, v, hv, h0, j, h1, h2 => by
    have ha : a < l.length := by
      rcases Nat.lt_or_ge a l.length with hlt | hge
      · exact hlt
      · rw [List.drop_eq_nil_of_le hge] at hd; cases hd
    have hd' : l.drop (a + 1) = xs := by
      rw [List.drop_eq_getElem_cons ha] at hd
      cases hd; rfl
    simp only [ref12_Check.g0, one_u h hl ha, Option.bind_some] at hv
    cases hw : (wrF l a (ownF l a a) != 0) with
    | true =>
      rw [hw, cond_true] at hv
      cases hv
      simp only at h0
      rw [h0] at hw; cases hw
    | false =>
      rw [hw, cond_false] at hv
      by_cases e : j = a
      · subst e; exact ⟨_, by simpa using hw⟩
      · exact go_wr h hl xs (a + 1) hd' v (by rw [show ((a + 1 : Nat) : Int) = (a : Int) + 1 by omega]; exact hv) h0 j (by omega) h2
theorem ok_wr {l : List In} (h : PrOK l) (ho : okPr l = true) {a : Nat} (ha : a < l.length) : l.length ≤ 64 ∧ ∃ own, wrF l a own = 0 := by
  obtain ⟨v, v1, v2⟩ := check_law h
  have hv0 : v.2 = 0 := by unfold okPr at ho; rw [v1] at ho; simpa using ho
  unfold ref12_Check.u ref12_Check.w at v2
  cases h0 : (((List.length l : Nat) : Int) == 0) with
  | true => have := beq_iff_eq.1 h0; omega
  | false =>
    cases h1 : decide (((List.length l : Nat) : Int) > 64) with
    | true =>
      rw [h0, h1] at v2
      cases v2
      cases hv0
    | false =>
      have hl : l.length ≤ 64 := by have := of_decide_eq_false h1; omega
      rw [h0, h1] at v2
      simp only [cond_false, dec_len hl (by decide), cond_true] at v2
      exact ⟨hl, go_wr h hl l 0 rfl v v2 hv0 a (by omega) ha⟩
theorem alt_gd {l : List In} {a : Nat} {own : Bool} (h : wrF l a own = 0) (h41 : (l.getD a noIn).1 = 41) : gdF l a (l.getD a noIn).2.2.2.1.toNat = true := by
  have hc := wr_chk h
  unfold wrF at h
  rw [hc, bne_self_eq_false, cond_false] at h
  cases hg : (isG (l.getD a noIn) && !own) with
  | true => rw [hg] at h; cases h
  | false =>
    rw [hg, cond_false, beq_iff_eq.2 h41, Bool.true_and] at h
    cases hd : gdF l a (l.getD a noIn).2.2.2.1.toNat with
    | true => rfl
    | false => rw [hd] at h; cases h
theorem guards4 : ((List.range 48).all fun n => !((lineOf (n : Int)).2.2.1 == 3) || ((n == 42) || (n == 43) || (n == 44) || (n == 45))) = true := by kernel_rfl
theorem isG_ops {y : In} (h : isG y = true) : y.1 = 42 ∨ y.1 = 43 ∨ y.1 = 44 ∨ y.1 = 45 := by
  unfold isG at h
  cases hf : opcode_fine.t y.1 with
  | false => rw [hf] at h; cases h
  | true =>
    rw [hf, cond_true] at h
    have hr := opfine_iff.1 hf
    have := List.all_eq_true.1 guards4 y.1.toNat (List.mem_range.2 (by omega))
    rw [show ((y.1.toNat : Nat) : Int) = y.1 by omega, h] at this
    simp only [Bool.not_true, Bool.false_or, Bool.or_eq_true, beq_iff_eq] at this
    omega

/-- A guard of an alt: what it is, at its place. -/
def gdOf (y : In) (f : Fr) (now i : Int) : Gd :=
  bif y.1 == 42 then (1, (IntKind.wrap .i64 y.2.1, (0, (IntKind.wrap .i64 y.2.2.1, (i, ()))))) else
  bif y.1 == 43 then (3, (IntKind.wrap .i64 y.2.1, (0, (0, (i, ()))))) else
  bif y.1 == 44 then (4, (0, ((ref05_After.t now (List.getD f.2.2.1 (Int.toNat y.2.1) 0)).1, (0, (i, ()))))) else (5, (0, (0, (0, (i, ())))))
def RegsOK (f : Fr) : Prop := ∀ k, -2147483648 ≤ List.getD f.2.2.1 k 0 ∧ List.getD f.2.2.1 k 0 ≤ 2147483647
theorem one_g {y : In} (hy : chk y = 0) (hg : isG y = true) {f : Fr} {now : Int} (hn : ref05_Fine.t now = true) (hr : RegsOK f) : call_asker_one.u (y, (f, (now, ()))) = some (gdOf y f now 0) := by
  obtain ⟨o, a, b, c, u⟩ := y
  have h4 := isG_ops hg
  simp only at h4
  have ra := (reg_at hy).1
  rcases h4 with rfl | rfl | rfl | rfl
  · exact one_42 f now a b c
  · exact one_43 f now a b c
  · rw [one_44, dead_u hn hr (ra rfl)]; rfl
  · exact one_45 f now a b c
/-- The reference's way from a guard on. -/
def refTail (y : In) (f : Fr) (now i : Int) (acc : List Gd) (K : List Gd → Option (List Gd)) : Option (List Gd) :=
  (ref09_Of.u (IntKind.wrap .i64 y.1)).bind fun y7 =>
    bif ((y7.1).data.toList == ((bs [103, 105, 110])).data.toList) then
      bif (decide (List.length acc + List.length [((1, ((IntKind.wrap .i64 y.2.1), (0, ((IntKind.wrap .i64 y.2.2.1), (i, ()))))) : Gd)] ≤ rowMax)) then K (acc ++ [(1, ((IntKind.wrap .i64 y.2.1), (0, ((IntKind.wrap .i64 y.2.2.1), (i, ())))))]) else none
    else
      bif ((y7.1).data.toList == ((bs [103, 98, 97, 114])).data.toList) then
        bif (decide (List.length acc + List.length [((3, ((IntKind.wrap .i64 y.2.1), (0, (0, (i, ()))))) : Gd)] ≤ rowMax)) then K (acc ++ [(3, ((IntKind.wrap .i64 y.2.1), (0, (0, (i, ())))))]) else none
      else
        bif ((y7.1).data.toList == ((bs [103, 116, 105, 109, 101])).data.toList) then
          bif (decide (List.length acc + List.length [((4, (0, ((ref05_After.t now (List.getD f.2.2.1 (Int.toNat (Int.tmod y.2.1 8)) 0)).1, (0, (i, ()))))) : Gd)] ≤ rowMax)) then K (acc ++ [(4, (0, ((ref05_After.t now (List.getD f.2.2.1 (Int.toNat (Int.tmod y.2.1 8)) 0)).1, (0, (i, ())))))]) else none
        else
          bif (decide (List.length acc + List.length [((5, (0, (0, (0, (i, ()))))) : Gd)] ≤ rowMax)) then K (acc ++ [(5, (0, (0, (0, (i, ())))))]) else none
theorem tail_eq {y : In} (hy : chk y = 0) (hg : isG y = true) (f : Fr) (now i : Int) {acc : List Gd} (ha : acc.length ≤ 1000) (K : List Gd → Option (List Gd)) : refTail y f now i acc K = K (acc ++ [gdOf y f now i]) := by
  obtain ⟨o, a, b, c, u⟩ := y
  have h4 := isG_ops hg
  simp only at h4
  have ra := (reg_at hy).1
  have hd : decide (acc.length + 1 ≤ rowMax) = true := decide_eq_true (by unfold rowMax; omega)
  rcases h4 with rfl | rfl | rfl | rfl
  · show (bif decide (acc.length + 1 ≤ rowMax) then K _ else none) = _
    rw [hd]; rfl
  · show (bif decide (acc.length + 1 ≤ rowMax) then K _ else none) = _
    rw [hd]; rfl
  · have e := tmod_id (ra rfl)
    simp only at e
    show (bif decide (acc.length + 1 ≤ rowMax) then K (acc ++ [(4, (0, ((ref05_After.t now (List.getD f.2.2.1 (Int.toNat (Int.tmod a 8)) 0)).1, (0, (i, ())))))]) else none) = _
    rw [hd, e]; rfl
  · show (bif decide (acc.length + 1 ≤ rowMax) then K _ else none) = _
    rw [hd]; rfl
theorem guard_c {y : In} (hy : chk y = 0) (hg : isG y = true) : 0 ≤ y.2.2.2.1 ∧ y.2.2.2.1 ≤ 8 := by
  obtain ⟨_, _, _, h2⟩ := chk_parts hy
  obtain ⟨o, a, b, c, u⟩ := y
  have h4 := isG_ops hg
  simp only at h4 h2 ⊢
  have key : wrongR 103 c = 0 → 0 ≤ c ∧ c ≤ 8 := by
    intro h
    rw [wrongR_of (lo := 0) (hi := 8) rfl rfl] at h
    by_cases h1 : c < 0
    · rw [decide_eq_true h1] at h; cases h
    · by_cases h3 : c > 8
      · rw [decide_eq_false h1, decide_eq_true h3] at h; cases h
      · omega
  rcases h4 with rfl | rfl | rfl | rfl <;> exact key h2

theorem alt_go {l : List In} (h : PrOK l) {f : Fr} {now : Int} (hn : ref05_Fine.t now = true) (hr : RegsOK f) {p c : Nat} (hp : f.1 = (p : Int)) (hl : l.length ≤ 64) (hpc : p + 1 + c ≤ l.length)
    (hG : ∀ i, i < c → chk (l.getD (p + 1 + i) noIn) = 0 ∧ isG (l.getD (p + 1 + i) noIn) = true) {x : In} (e2 : Int) (e4 : In) :
    ∀ (d i : Nat) (acc : List Gd), i + d = c → acc.length ≤ i → ∃ r, call_asker_some.g0 ((l.take (p + 1 + c)).drop (p + 1)) e2 (x, (f, (now, ()))) some d (i : Int) acc = some r ∧ ref15_guards.g0 l now f e4 some d (i : Int) acc = some r ∧ r.length ≤ 1000
  | 0, i, acc, h1, h2 => ⟨acc, rfl, rfl, by omega⟩
  | d + 1, i, acc, h1, h2 => by
    have hic : i < c := by omega
    obtain ⟨hy, hg⟩ := hG i hic
    have hgl : ((l.take (p + 1 + c)).drop (p + 1)).length = c := by simp; omega
    have hge : List.getD ((l.take (p + 1 + c)).drop (p + 1)) i noIn = l.getD (p + 1 + i) noIn := by
      rw [List.getD_eq_getElem?_getD, List.getD_eq_getElem?_getD, List.getElem?_drop, List.getElem?_take, if_pos (by omega)]
    have hi1 : idxOK (i : Int) (List.length ((l.take (p + 1 + c)).drop (p + 1))) = true := by rw [hgl]; exact idxOK_of (by omega) (by omega)
    have w1 : IntKind.wrap .i64 (f.1 + 1) = (p : Int) + 1 := by rw [hp]; exact wrapN ⟨by omega, by omega⟩
    have w2 : IntKind.wrap .i64 ((p : Int) + 1 + (i : Int)) = ((p + 1 + i : Nat) : Int) := by rw [wrapN ⟨by omega, by omega⟩]; omega
    have hi2 : idxOK ((p + 1 + i : Nat) : Int) (List.length l) = true := idxOK_of (by omega) (by omega)
    have hsucc : (i : Int) + 1 = ((i + 1 : Nat) : Int) := by omega
    simp only [call_asker_some.g0, ref15_guards.g0, hi1, w1, w2, hi2, cond_true, Int.toNat_natCast]
    rw [show List.getD ((l.take (p + 1 + c)).drop (p + 1)) i ((0, (0, (0, (0, ())))) : In) = l.getD (p + 1 + i) noIn from hge, show List.getD l (p + 1 + i) ((0, (0, (0, (0, ())))) : In) = l.getD (p + 1 + i) noIn from rfl]
    have hyk := h.at (p + 1 + i)
    generalize l.getD (p + 1 + i) noIn = y at *
    obtain ⟨c0, c8⟩ := guard_c hy hg
    have step : ∃ r, ((call_asker_one.u (y, (f, (now, ())))).bind fun y5 =>
        bif (decide (List.length acc + List.length [((y5.1, (y5.2.1, (y5.2.2.1, (y5.2.2.2.1, ((i : Int), y5.2.2.2.2.2))))) : Gd)] ≤ rowMax)) then
          call_asker_some.g0 ((l.take (p + 1 + c)).drop (p + 1)) e2 (x, (f, (now, ()))) some d ((i : Int) + 1) (acc ++ [(y5.1, (y5.2.1, (y5.2.2.1, (y5.2.2.2.1, ((i : Int), y5.2.2.2.2.2)))))])
        else none) = some r ∧ refTail y f now i acc (fun z => ref15_guards.g0 l now f e4 some d ((i : Int) + 1) z) = some r ∧ r.length ≤ 1000 := by
      rw [one_g hy hg hn hr, tail_eq hy hg f now i (by omega)]
      obtain ⟨r, r1, r2, r3⟩ := alt_go h hn hr hp hl hpc hG (x := x) e2 e4 d (i + 1) (acc ++ [gdOf y f now i]) (by omega) (by simp; omega)
      refine ⟨r, ?_, ?_, r3⟩
      · rw [Option.bind_some]
        show (bif decide (acc.length + 1 ≤ rowMax) then _ else none) = _
        rw [decide_eq_true (show acc.length + 1 ≤ rowMax by unfold rowMax; omega), cond_true, hsucc]
        have : (((gdOf y f now 0).1, ((gdOf y f now 0).2.1, ((gdOf y f now 0).2.2.1, ((gdOf y f now 0).2.2.2.1, ((i : Int), (gdOf y f now 0).2.2.2.2.2))))) : Gd) = gdOf y f now i := by
          unfold gdOf
          cases (y.1 == 42) <;> cases (y.1 == 43) <;> cases (y.1 == 44) <;> rfl
        rw [this]; exact r1
      · rw [hsucc]; exact r2
    by_cases h8 : y.2.2.2.1 = 8
    · have b1 : (y.2.2.2.1 != 8) = false := by rw [h8]; rfl
      have b2 : decide (y.2.2.2.1 < 8) = false := decide_eq_false (by omega)
      rw [b1, b2]
      simp only [cond_false, tmod_idx hyk.a.1, cond_true]
      exact step
    · have b1 : (y.2.2.2.1 != 8) = true := bne_iff_ne.2 h8
      have b2 : decide (y.2.2.2.1 < 8) = true := decide_eq_true (by omega)
      have b3 : idxOK y.2.2.2.1 8 = true := idxOK_of c0 (by omega)
      rw [b1, b2, b3]
      simp only [cond_true]
      cases hz : (List.getD f.2.2.1 (Int.toNat y.2.2.2.1) 0 == 0) with
      | true =>
        simp only [cond_true]
        rw [hsucc]
        exact alt_go h hn hr hp hl hpc hG e2 e4 d (i + 1) acc (by omega) (by omega)
      | false =>
        simp only [cond_false, tmod_idx hyk.a.1, cond_true]
        exact step
end Go.Proofs.YtjhkagfolmhacaaGreatDoor.K

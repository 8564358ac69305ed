/- Who is answered or woken goes on: CallGoes. -/
import Derived.Test.YtjhkagfolmhacaaGreatDoorL15h
set_option maxRecDepth 100000
set_option linter.unusedVariables false
set_option linter.unusedSimpArgs false
namespace Go.Proofs.YtjhkagfolmhacaaGreatDoor.K
open Go

theorem gets_r {l : List In} (h : PrOK l) {f : Fr} {x : In} (hA : Asked l f x) (hw : call_waits.t x = false) : ∃ r, call_gets.u x = some r ∧ (r = -1 ∨ idxOK r 8 = true) ∧ (x.1 == 41) = false := by
  have hc : chk x = 0 := by rw [← hA.here]; exact ok_chk h hA.ok hA.hi
  have hi : InOK x := by rw [← hA.here]; exact h.at _
  have hop := asks_ops (chk_parts hc).1 hA.asks
  obtain ⟨ra, rb, rc⟩ := reg_at hc
  obtain ⟨o, a, b, c, u⟩ := x
  have ha := hi.a
  simp only at hop ra rb rc ha
  have wa : IntKind.wrap .i64 a = a := wrapN ⟨by omega, by omega⟩
  rcases hop with rfl | rfl | rfl | rfl | rfl | rfl | rfl | rfl | rfl | rfl | rfl | rfl | rfl | rfl | rfl | rfl | rfl
  · exact ⟨-1, (by rw [gets_27, ra rfl]; rfl), .inl rfl, rfl⟩
  · exact ⟨IntKind.wrap .i64 a, (gets_28 a b c), .inr (by rw [wa]; exact ra rfl), rfl⟩
  · exact ⟨IntKind.wrap .i64 a, (gets_29 a b c), .inr (by rw [wa]; exact ra rfl), rfl⟩
  · exact ⟨IntKind.wrap .i64 a, (by rw [gets_30, rc rfl]; rfl), .inr (by rw [wa]; exact ra rfl), rfl⟩
  · cases hw
  · cases hw
  · cases hw
  · cases hw
  · exact ⟨-1, (by rw [gets_35, rb rfl]; rfl), .inl rfl, rfl⟩
  · exact ⟨-1, (gets_36 a b c), .inl rfl, rfl⟩
  · exact ⟨-1, (gets_37 a b c), .inl rfl, rfl⟩
  · cases hw
  · exact ⟨-1, (gets_39 a b c), .inl rfl, rfl⟩
  · exact ⟨IntKind.wrap .i64 a, (gets_40 a b c), .inr (by rw [wa]; exact ra rfl), rfl⟩
  · cases hw
  · exact ⟨IntKind.wrap .i64 a, (gets_46 a b c), .inr (by rw [wa]; exact ra rfl), rfl⟩
  · exact ⟨IntKind.wrap .i64 a, (gets_47 a b c), .inr (by rw [wa]; exact ra rfl), rfl⟩

theorem rise_go {l : List In} {e2 e3 : Int} {e4 : Bool} {e5 : List Gd} {e7 : Fr × (Gd × (Int × (Bool × Unit)))} {f : Fr} {v : AskT} (hr : Rising v.2.2.2.2.2.1) (hl : v.2.2.2.2.2.1.length ≤ 1000) : ∀ (xs : List Gd) (i : Nat), v.2.2.2.2.2.1.drop i = xs → law15_CallGoes.g0 l e2 e3 e4 e5 e7 f v some xs (i : Int) = law15_CallGoes.g0 l e2 e3 e4 e5 e7 f v some [] 0
  | [], i, h => rfl
  | x :: xs, i, h => by
    have hn : i < v.2.2.2.2.2.1.length := by
      rcases Nat.lt_or_ge i v.2.2.2.2.2.1.length with h' | h'
      · exact h'
      · rw [List.drop_eq_nil_of_le h'] at h; cases h
    have h1 := List.drop_eq_getElem_cons hn
    rw [h] at h1
    cases h1
    have ih := rise_go (l := l) (e2 := e2) (e3 := e3) (e4 := e4) (e5 := e5) (e7 := e7) (f := f) hr hl (v.2.2.2.2.2.1.drop (i + 1)) (i + 1) rfl
    rw [show ((i + 1 : Nat) : Int) = (i : Int) + 1 by omega] at ih
    conv => lhs; rw [law15_CallGoes.g0]
    by_cases h0 : (i : Int) > 0
    · have w1 : IntKind.wrap .i64 ((i : Int) - 1) = ((i - 1 : Nat) : Int) := by rw [wrapN ⟨by omega, by omega⟩]; omega
      rw [decide_eq_true h0, cond_true, w1, idxOK_of (show 0 ≤ ((i - 1 : Nat) : Int) by omega) (show ((i - 1 : Nat) : Int) < ((List.length v.2.2.2.2.2.1 : Nat) : Int) by omega), cond_true, Int.toNat_natCast]
      have hlt := List.pairwise_iff_getElem.1 hr (i - 1) i (by omega) hn (by omega)
      have hg : List.getD v.2.2.2.2.2.1 (i - 1) ((0, (0, (0, (0, (0, ()))))) : Gd) = v.2.2.2.2.2.1[i - 1]'(by omega) := by
        rw [List.getD_eq_getElem?_getD, List.getElem?_eq_getElem (by omega)]; rfl
      simp only [hg]
      rw [decide_eq_false (by omega), cond_false]
      exact ih
    · rw [decide_eq_false h0, cond_false]
      exact ih
theorem end_went {l : List In} {f f' : Fr} {x : In} (h : PrOK l) (hF : FrOK f) (hA : Asked l f x) (hp : 0 ≤ f.1 ∧ f.1 ≤ 64) (hw : Went x f f') : ((prog_Next.u l f.1).bind fun y8 => (ref02_Same.u ([f'.1]) y8).bind fun y9 => bif y9 then bif (eqI (.arr 16 (.int .i64)) f'.2.2.2.1 f.2.2.2.1) then bif (f'.2.2.2.2.1 == f.2.2.2.2.1) then bif (eqI (.arr 8 (.int .i64)) f'.2.2.2.2.2.1 f.2.2.2.2.2.1) then (frame_Fine.u f').bind fun y10 => bif y10 then law15_alive.u.bind fun y11 => some y11 else some false else some false else some false else some false else some false) = some true := by
  rw [next_u h hA hp, hw.at_, hw.rest]
  simp only [Option.bind_some]
  rw [same_u (l := [onP x f]) (show 1 ≤ 1000000 by decide)]
  simp only [Option.bind_some, cond_true, beq_self_eq_true]
  rw [show eqI (.arr 16 (.int .i64)) f.2.2.2.1 f.2.2.2.1 = true from eqI_self (.arr 16 (.int .i64)) _ rfl, show eqI (.arr 8 (.int .i64)) f.2.2.2.2.2.1 f.2.2.2.2.2.1 = true from eqI_self (.arr 8 (.int .i64)) _ rfl, frame_fine hw.ok, hw.fine, alive15]
  rfl
theorem law_goes15 {l : List In} (h : PrOK l) {f : Fr} (hF : FrOK f) (g : Gd) (n : Int) (bad : Bool) {z : Int} (hz : 0 ≤ z ∧ z ≤ 255) : law15_CallGoes.u l (f, (g, (n, (bad, ())))) z = some true := by
  unfold law15_CallGoes.u law15_CallGoes.w
  rw [alive15]
  cases decide (((List.length l : Nat) : Int) > 70) with
  | true => rfl
  | false =>
    rw [cond_false]
    obtain ⟨v, v1, v2, v3⟩ := asking h hF
    rw [callof_u fine0now v1]
    by_cases hv : v.2 = 0
    · obtain ⟨x, e⟩ := v
      simp only at hv
      subst hv
      have hA : Asked l f x := v3 rfl
      obtain ⟨q, q1, q2⟩ := ask_more h hA fine0now (regs_of hA.fine)
      obtain ⟨hl, _⟩ := ok_wr h hA.ok hA.hi
      have hp : 0 ≤ f.1 ∧ f.1 ≤ 64 := by have := hA.lo; have := hA.hi; omega
      rw [q1]
      simp only [Option.bind_some, bne_self_eq_false, cond_false]
      have hlen := q2.len
      rw [decide_eq_true (show ((List.length q.2.2.2.2.2.1 : Nat) : Int) ≤ 4611686018427387904 by omega), cond_true]
      refine Eq.trans (rise_go q2.rise q2.len q.2.2.2.2.2.1 0 rfl) ?_
      rw [law15_CallGoes.g0]
      obtain ⟨y, y1, _⟩ := answer_law h hF (IntKind.wrap .i64 (IntKind.wrap .i32 n))
      have hi : InOK x := by rw [← hA.here]; exact h.at _
      have hnx := next_u h hA hp
      have hcc := hi.c
      have hw : IntKind.wrap .i64 (IntKind.wrap .i32 n) = IntKind.wrap .i32 n ∧ word_Fine.t (IntKind.wrap .i32 n) = true := by
        have hb : -2147483648 ≤ IntKind.wrap .i32 n ∧ IntKind.wrap .i32 n ≤ 2147483647 := by rw [w32]; exact bm_range n
        exact ⟨wrapN ⟨by omega, by omega⟩, fine_iff.2 hb⟩
      rw [hw.1] at y1 ⊢
      have hc : chk x = 0 := by rw [← hA.here]; exact ok_chk h hA.ok hA.hi
      have hplace : frame_place.t (onP x f) = true := by
        have hlt := hA.hi
        unfold onP
        cases h41 : (x.1 == 41) with
        | false => exact place_range.2 (by show 0 ≤ f.1 + 1 ∧ f.1 + 1 ≤ 64; omega)
        | true =>
          obtain ⟨_, own, hwr⟩ := ok_wr h hA.ok hA.hi
          have hgd := alt_gd hwr (by rw [hA.here]; exact beq_iff_eq.1 h41)
          rw [hA.here, ← gd_slice hlt, Bool.and_eq_true] at hgd
          have := of_decide_eq_true hgd.1
          exact place_range.2 (by show 0 ≤ f.1 + 1 + x.2.2.2.1 ∧ f.1 + 1 + x.2.2.2.1 ≤ 64; omega)
      cases hgs : decide (((List.length q.2.2.2.2.2.1 : Nat) : Int) > 0) with
      | false =>
        have hnil : q.2.2.2.2.2.1 = [] := by
          have := of_decide_eq_false hgs
          exact List.eq_nil_of_length_eq_zero (by omega)
        rcases q2.kind with ⟨k1, _⟩ | ⟨k1, k2⟩
        · obtain ⟨r, r1, r2, r3⟩ := gets_r h hA k1
          have hon : onP x f = f.1 + 1 := by unfold onP; rw [r3]; rfl
          obtain ⟨f', a1, a2⟩ := ans_went hF hA.fine r3 (by rw [← hon]; exact hplace) hw.2 r2
          have ha : call_Answer.u l f (IntKind.wrap .i32 n) = some (f', 0) := by
            unfold call_Answer.u call_Answer.s
            rw [v1]
            simp only [Option.bind_some, bne_self_eq_false, cond_false, k1, r1]
            exact a1
          rw [ha]
          simp only [Option.bind_some, cond_false, bne_self_eq_false, beq_self_eq_true, cond_true]
          exact end_went h hF hA hp a2
        · have ha : call_Answer.u l f (IntKind.wrap .i32 n) = some (f, 13) := by
            unfold call_Answer.u call_Answer.s
            rw [v1]
            simp only [Option.bind_some, bne_self_eq_false, cond_false, k1, cond_true]
          rw [ha, k2 hnil]
          simp only [Option.bind_some, cond_false]
          rw [alive15]
          rfl
      | true =>
        have hpos := of_decide_eq_true hgs
        rw [y1]
        simp only [Option.bind_some, cond_true]
        have wz : IntKind.wrap .i64 z = z := wrapN ⟨by omega, by omega⟩
        have hne : (((List.length q.2.2.2.2.2.1 : Nat) : Int) == 0) = false := beq_eq_false_iff_ne.2 (by omega)
        have m1 := Int.tmod_nonneg ((List.length q.2.2.2.2.2.1 : Nat) : Int) hz.1
        have m2 := Int.tmod_lt_of_pos z hpos
        rw [hne, wz, idxOK_of m1 m2]
        simp only [Bool.not_false, cond_true]
        have hmem : List.getD q.2.2.2.2.2.1 (Int.toNat (Int.tmod z ((List.length q.2.2.2.2.2.1 : Nat) : Int))) ((0, (0, (0, (0, (0, ()))))) : Gd) ∈ q.2.2.2.2.2.1 := by
          rw [List.getD_eq_getElem?_getD, List.getElem?_eq_getElem (by omega)]
          exact List.getElem_mem _
        have hk : call_waits.t x = true := by
          rcases q2.kind with ⟨_, k2⟩ | ⟨k1, _⟩
          · rw [k2] at hpos; exact absurd hpos (by decide)
          · exact k1
        have h41 : (x.1 == 41) = true → idxOK x.2.1 8 = true := by
          intro e
          refine (reg_at hc).1 ?_
          rw [beq_iff_eq.1 e]; rfl
        obtain ⟨f', a1, a2⟩ := wake_u v1 hk hF hA.fine hp hi hplace h41 (q2.ok _ hmem) hw.2 bad
        rw [a1]
        simp only [Option.bind_some, beq_self_eq_true, cond_true]
        exact end_went h hF hA hp a2
    · have hb := bne_iff_ne.2 hv
      unfold ofB
      rw [hb]
      simp only [cond_true, Option.bind_some]
      rw [hb]
      rfl
abbrev tyWk : ETy := .pair tyFr (.pair tyGd (.pair (.int .i64) (.pair .bool .unit)))
theorem row_CallGoes (xs : Args [.slice tyIn, tyWk, .int .u8]) (h : fitsA _ xs) : law15_CallGoes.u xs.1 xs.2.1 xs.2.2.1 = some true := law_goes15 (prOK15 h.1) (frOK_of h.2.1.1) xs.2.1.2.1 xs.2.1.2.2.1 xs.2.1.2.2.2.1 (u8_of h.2.2.1)
end Go.Proofs.YtjhkagfolmhacaaGreatDoor.K

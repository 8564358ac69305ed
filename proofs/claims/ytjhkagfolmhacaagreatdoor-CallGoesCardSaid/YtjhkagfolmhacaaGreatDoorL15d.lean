/- What a process asks for: the law. -/
import Derived.Test.YtjhkagfolmhacaaGreatDoorL15c
set_option maxRecDepth 100000
set_option linter.unusedVariables false
set_option linter.unusedSimpArgs false
namespace Go.Proofs.YtjhkagfolmhacaaGreatDoor.K
open Go

theorem gds_41 {l : List In} {f : Fr} {now a b c : Int} (h0 : idxOK f.1 (List.length l) = true) (hx : List.getD l (Int.toNat f.1) noIn = (41, (a, (b, (c, ()))))) (ha : 0 ≤ a) (hb : 0 ≤ b) : ref15_guards.u l f now = bif decide (IntKind.wrap .i64 c ≤ 4611686018427387904) then ref15_guards.g0 l now f (41, (a, (b, (c, ())))) some (Int.toNat (IntKind.wrap .i64 c - 0)) 0 [] else none := by
  unfold ref15_guards.u ref15_guards.w
  rw [h0, cond_true, hx]
  simp only [tmod_idx ha, tmod_idx hb, cond_true]
  kernel_rfl
theorem alt_u {l : List In} (h : PrOK l) {f : Fr} {a b c now : Int} (hA : Asked l f (41, (a, (b, (c, ()))))) (hn : ref05_Fine.t now = true) (hr : RegsOK f) : ∃ gs, call_asker_some.u ((41, (a, (b, (c, ())))), (f, (now, ()))) l = some gs ∧ ref15_guards.u l f now = some gs ∧ gs.length ≤ 1000 := by
  obtain ⟨p, hp⟩ := Int.eq_ofNat_of_zero_le hA.lo
  have hpt : f.1.toNat = p := by omega
  have hlt : p < l.length := by have := hA.hi; omega
  have hx : l.getD p noIn = (41, (a, (b, (c, ())))) := by rw [← hpt]; exact hA.here
  obtain ⟨hl, own, hw⟩ := ok_wr h hA.ok hlt
  have hgd := alt_gd hw (by rw [hx])
  have hi := h.at p
  rw [hx] at hgd hi
  have c0 := hi.c
  obtain ⟨C, hC⟩ := Int.eq_ofNat_of_zero_le c0.1
  simp only at hC c0 hgd
  subst hC
  rw [Int.toNat_natCast, ← gd_slice hlt, Bool.and_eq_true] at hgd
  obtain ⟨g1, g2⟩ := hgd
  have hpc := of_decide_eq_true g1
  have hG : ∀ i, i < C → chk (l.getD (p + 1 + i) noIn) = 0 ∧ isG (l.getD (p + 1 + i) noIn) = true := by
    intro i hic
    refine ⟨ok_chk h hA.ok (by omega), ?_⟩
    have hlen : i < ((l.take (p + 1 + C)).drop (p + 1)).length := by simp; omega
    have := List.all_eq_true.1 g2 _ (List.getElem_mem hlen)
    rw [List.getElem_drop, List.getElem_take] at this
    rw [List.getD_eq_getElem?_getD, List.getElem?_eq_getElem (by omega)]
    exact this
  have w1 : IntKind.wrap .i64 (f.1 + 1) = (p : Int) + 1 := by rw [hp]; exact wrapN ⟨by omega, by omega⟩
  have wc : IntKind.wrap .i64 (C : Int) = (C : Int) := wrapN ⟨by omega, by omega⟩
  have w2 : IntKind.wrap .i64 ((p : Int) + 1 + (C : Int)) = (p : Int) + 1 + (C : Int) := wrapN ⟨by omega, by omega⟩
  obtain ⟨gs, r1, r2, r3⟩ := alt_go h hn hr hp hl hpc hG (x := (41, (a, (b, ((C : Int), ()))))) (C : Int) (41, (a, (b, ((C : Int), ())))) C 0 [] (by omega) (by simp)
  refine ⟨gs, ?_, ?_, r3⟩
  · unfold call_asker_some.u call_asker_some.w
    simp only [w1, wc, w2]
    have d2 : subC (some ((p : Int) + 1)) (some ((p : Int) + 1 + (C : Int))) (List.length l) = true := by simp [subC]; omega
    have d3 : subL (some ((p : Int) + 1)) (some ((p : Int) + 1 + (C : Int))) l = (l.take (p + 1 + C)).drop (p + 1) := by
      rw [subL_eq]
      simp only [subHi, subLo]
      rw [show Int.toNat ((p : Int) + 1) = p + 1 by omega, show Int.toNat ((p : Int) + 1 + (C : Int)) = p + 1 + C by omega]
    have hgl : ((l.take (p + 1 + C)).drop (p + 1)).length = C := by simp; omega
    rw [d2, d3, hgl, cond_true, decide_eq_true (show (C : Int) ≤ 4611686018427387904 by omega), cond_true, Int.sub_zero, Int.toNat_natCast]
    exact r1
  · rw [gds_41 (by rw [hp]; exact idxOK_of (by omega) (by omega)) (by rw [hpt]; exact hx) hi.a.1 hi.b.1, wc, decide_eq_true (show (C : Int) ≤ 4611686018427387904 by omega), cond_true, Int.sub_zero, Int.toNat_natCast]
    exact r2

def askOps : List Nat := [27, 28, 29, 30, 31, 32, 33, 34, 35, 36, 37, 38, 39, 40, 41, 46, 47]
theorem asks_tab : ((List.range 48).all fun n => !(asksO ((n : Int), (0, (0, (0, ()))))) || askOps.contains n) = true := by kernel_rfl
theorem asks_ops {x : In} (hf : opcode_fine.t x.1 = true) (h : asksO x = true) : x.1 = 27 ∨ x.1 = 28 ∨ x.1 = 29 ∨ x.1 = 30 ∨ x.1 = 31 ∨ x.1 = 32 ∨ x.1 = 33 ∨ x.1 = 34 ∨ x.1 = 35 ∨ x.1 = 36 ∨ x.1 = 37 ∨ x.1 = 38 ∨ x.1 = 39 ∨ x.1 = 40 ∨ x.1 = 41 ∨ x.1 = 46 ∨ x.1 = 47 := by
  have hr := opfine_iff.1 hf
  have := List.all_eq_true.1 asks_tab x.1.toNat (List.mem_range.2 (by omega))
  have e : asksO (((x.1.toNat : Nat) : Int), (0, (0, (0, ())))) = asksO x := by unfold asksO; rw [show ((x.1.toNat : Nat) : Int) = x.1 by omega]
  rw [e, h, Bool.not_true, Bool.false_or, List.contains_iff_mem] at this
  simp only [askOps, List.mem_cons, List.not_mem_nil, or_false] at this
  omega

theorem ask_known {l : List In} (h : PrOK l) {f : Fr} {now : Int} {x : In} (hA : Asked l f x) (hn : ref05_Fine.t now = true) (hr : RegsOK f) : ∃ v : AskT × Int, ofB l f now (x, 0) = some v ∧ refB l f now (x, 0) = some v ∧ v.1.2.2.2.2.2.1.length ≤ 1000000 := by
  have hc : chk x = 0 := by rw [← hA.here]; exact ok_chk h hA.ok hA.hi
  have hi : InOK x := by rw [← hA.here]; exact h.at _
  have h0 : idxOK f.1 (List.length l) = true := idxOK_of hA.lo (by have := hA.hi; have := hA.lo; omega)
  have hop := asks_ops (chk_parts hc).1 hA.asks
  obtain ⟨ra, rb, rc⟩ := reg_at hc
  obtain ⟨o, a, b, c, u⟩ := x
  have hx : List.getD l (Int.toNat f.1) noIn = (o, (a, (b, (c, ())))) := hA.here
  have ha := hi.a.1
  have hb := hi.b.1
  simp only at hop ra rb rc ha hb
  rcases hop with rfl | rfl | rfl | rfl | rfl | rfl | rfl | rfl | rfl | rfl | rfl | rfl | rfl | rfl | rfl | rfl | rfl
  · rw [of_27, ref_27, ra rfl]; exact ⟨_, rfl, rfl, Nat.zero_le _⟩
  · rw [of_28, ref_28]; exact ⟨_, rfl, rfl, Nat.zero_le _⟩
  · rw [of_29, ref_29]; exact ⟨_, rfl, rfl, Nat.zero_le _⟩
  · rw [of_30, ref_30, rc rfl]; exact ⟨_, rfl, rfl, Nat.zero_le _⟩
  · rw [ofw_31, refw_31, one_31, gds_31 h0 hx ha hb, tmod_id (ra rfl), ra rfl]; exact ⟨_, rfl, rfl, (show 1 ≤ 1000000 by decide)⟩
  · rw [ofw_32, refw_32, one_32, dead_u hn hr (ra rfl), gds_32 h0 hx ha hb, tmod_id (ra rfl)]; exact ⟨_, rfl, rfl, (show 1 ≤ 1000000 by decide)⟩
  · rw [ofw_33, refw_33, one_33, gds_33 h0 hx ha hb, tmod_id (rb rfl), rb rfl]; exact ⟨_, rfl, rfl, (show 1 ≤ 1000000 by decide)⟩
  · rw [ofw_34, refw_34, one_34, gds_34 h0 hx ha hb]; exact ⟨_, rfl, rfl, (show 1 ≤ 1000000 by decide)⟩
  · rw [of_35, ref_35, rb rfl]; exact ⟨_, rfl, rfl, Nat.zero_le _⟩
  · rw [of_36, ref_36]; exact ⟨_, rfl, rfl, Nat.zero_le _⟩
  · rw [of_37, ref_37]; exact ⟨_, rfl, rfl, Nat.zero_le _⟩
  · rw [ofw_38, refw_38, one_38, gds_38 h0 hx ha hb]; exact ⟨_, rfl, rfl, (show 1 ≤ 1000000 by decide)⟩
  · rw [of_39, ref_39]; exact ⟨_, rfl, rfl, Nat.zero_le _⟩
  · rw [of_40, ref_40]; exact ⟨_, rfl, rfl, Nat.zero_le _⟩
  · obtain ⟨gs, g1, g2, g3⟩ := alt_u h hA hn hr
    rw [of_41, ref_41, g1, g2]
    exact ⟨_, rfl, rfl, Nat.le_trans g3 (by decide)⟩
  · rw [of_46, ref_46]; exact ⟨_, rfl, rfl, Nat.zero_le _⟩
  · rw [of_47, ref_47]; exact ⟨_, rfl, rfl, Nat.zero_le _⟩

theorem regs_of {f : Fr} (h : FrFine f = true) : RegsOK f := by
  unfold FrFine at h
  simp only [Bool.and_eq_true] at h
  have hr := h.1.2.1
  intro k
  rw [List.getD_eq_getElem?_getD]
  cases hx : (f.2.2.1 : List Int)[k]? with
  | none => exact ⟨by decide, by decide⟩
  | some y => exact fine_iff.1 (List.all_eq_true.1 hr y (List.mem_of_getElem? hx))
theorem ask_law {l : List In} (h : PrOK l) {f : Fr} (hF : FrOK f) (now : Int) : ∃ v : AskT × Int, call_Of.u l f now = some v ∧ ref15_Of.u l f now = some v ∧ v.1.2.2.2.2.2.1.length ≤ 1000000 := by
  obtain ⟨v, v1, v2, v3⟩ := asking h hF
  cases hn : ref05_Fine.t now with
  | false =>
    unfold call_Of.u call_Of.s ref15_Of.u ref15_Of.s
    rw [cfine_eq, hn, v2]
    exact ⟨_, rfl, rfl, Nat.zero_le _⟩
  | true =>
    rw [callof_u hn v1, refof_u hn v2]
    by_cases hz : v.2 = 0
    · obtain ⟨x, e⟩ := v
      simp only at hz
      subst hz
      exact ask_known h (v3 rfl) hn (regs_of (v3 rfl).fine)
    · have hb := bne_iff_ne.2 hz
      unfold ofB refB
      rw [hb]
      exact ⟨_, rfl, rfl, Nat.zero_le _⟩
theorem alive15 : law15_alive.u = some true := by kernel_rfl
theorem law_asks {l : List In} (h : PrOK l) {f : Fr} (hF : FrOK f) (now : Int) : law15_CallAsks.u l f now = some true := by
  unfold law15_CallAsks.u law15_CallAsks.s
  rw [alive15]
  obtain ⟨v, v1, v2, v3⟩ := ask_law h hF now
  cases decide (((List.length l : Nat) : Int) > 70) with
  | true => rfl
  | false =>
    simp only [cond_false, v1, v2, Option.bind_some, sameA_u v3, cond_true, beq_self_eq_true]
theorem prOK15 {l : List In} (h : fits (.slice tyIn) l) : PrOK l := fun x hx => inOK_of (h.2 x hx)
theorem row_CallAsks (xs : Args [.slice tyIn, tyFr, .int .i64]) (h : fitsA _ xs) : law15_CallAsks.u xs.1 xs.2.1 xs.2.2.1 = some true := law_asks (prOK15 h.1) (frOK_of h.2.1) _
end Go.Proofs.YtjhkagfolmhacaaGreatDoor.K

/- Who is answered or woken goes on: the law. -/
import Derived.Test.YtjhkagfolmhacaaGreatDoorL15g
set_option maxRecDepth 100000
set_option linter.unusedVariables false
set_option linter.unusedSimpArgs false
namespace Go.Proofs.YtjhkagfolmhacaaGreatDoor.K
open Go

theorem alt_more {l : List In} (h : PrOK l) {f : Fr} {a b c now : Int} (hA : Asked l f (41, (a, (b, (c, ()))))) (hn : ref05_Fine.t now = true) (hr : RegsOK f) {gs : List Gd} (hs : call_asker_some.u ((41, (a, (b, (c, ())))), (f, (now, ()))) l = some gs) : Rising gs ∧ ∀ g ∈ gs, GOK g := by
  obtain ⟨p, hp⟩ := Int.eq_ofNat_of_zero_le hA.lo
  have hpt : f.1.toNat = p := by omega
  have hlt : p < l.length := by have := hA.hi; omega
  have hx : l.getD p noIn = (41, (a, (b, (c, ())))) := by rw [← hpt]; exact hA.here
  obtain ⟨hl, own, hw⟩ := ok_wr h hA.ok hlt
  have hgd := alt_gd hw (by rw [hx])
  have hck := ok_chk h hA.ok hlt
  have hi := h.at p
  rw [hx] at hgd hi hck
  have c0 := hi.c
  have c6 : c ≤ 6 := by
    have h2 : wrongR 110 c = 0 := (chk_parts hck).2.2.2
    rw [wrongR_of (lo := 1) (hi := 6) rfl rfl] at h2
    by_cases h1 : c < 1
    · omega
    · by_cases h3 : c > 6
      · rw [decide_eq_false h1, decide_eq_true h3] at h2; cases h2
      · omega
  obtain ⟨C, hC⟩ := Int.eq_ofNat_of_zero_le c0.1
  simp only at hC c0 hgd
  subst hC
  rw [Int.toNat_natCast, ← gd_slice hlt, Bool.and_eq_true] at hgd
  obtain ⟨g1, g2⟩ := hgd
  have hpc := of_decide_eq_true g1
  have hG : ∀ i, i < C → chk (l.getD (p + 1 + i) noIn) = 0 ∧ isG (l.getD (p + 1 + i) noIn) = true := by
    intro i hic
    refine ⟨ok_chk h hA.ok (by omega), ?_⟩
    have hlen : i < ((l.take (p + 1 + C)).drop (p + 1)).length := by simp; omega
    have := List.all_eq_true.1 g2 _ (List.getElem_mem hlen)
    rw [List.getElem_drop, List.getElem_take] at this
    rw [List.getD_eq_getElem?_getD, List.getElem?_eq_getElem (by omega)]
    exact this
  have w1 : IntKind.wrap .i64 (f.1 + 1) = (p : Int) + 1 := by rw [hp]; exact wrapN ⟨by omega, by omega⟩
  have wc : IntKind.wrap .i64 (C : Int) = (C : Int) := wrapN ⟨by omega, by omega⟩
  have w2 : IntKind.wrap .i64 ((p : Int) + 1 + (C : Int)) = (p : Int) + 1 + (C : Int) := wrapN ⟨by omega, by omega⟩
  unfold call_asker_some.u call_asker_some.w at hs
  simp only [w1, wc, w2] at hs
  have d2 : subC (some ((p : Int) + 1)) (some ((p : Int) + 1 + (C : Int))) (List.length l) = true := by simp [subC]; omega
  have d3 : subL (some ((p : Int) + 1)) (some ((p : Int) + 1 + (C : Int))) l = (l.take (p + 1 + C)).drop (p + 1) := by
    rw [subL_eq]
    simp only [subHi, subLo]
    rw [show Int.toNat ((p : Int) + 1) = p + 1 by omega, show Int.toNat ((p : Int) + 1 + (C : Int)) = p + 1 + C by omega]
  have hgl : ((l.take (p + 1 + C)).drop (p + 1)).length = C := by simp; omega
  rw [d2, d3, hgl, cond_true, decide_eq_true (show (C : Int) ≤ 4611686018427387904 by omega), cond_true, Int.sub_zero, Int.toNat_natCast] at hs
  exact alt_rise h hn hr hp hl hpc (by omega) hG (C : Int) C 0 [] gs (by omega) hs List.Pairwise.nil (fun g hg => by cases hg)

/-- What an ask's guards are. -/
structure More (x : In) (v : AskT) : Prop where
  len : v.2.2.2.2.2.1.length ≤ 1000
  rise : Rising v.2.2.2.2.2.1
  ok : ∀ g ∈ v.2.2.2.2.2.1, GOK g
  kind : (call_waits.t x = false ∧ v.2.2.2.2.2.1 = []) ∨ (call_waits.t x = true ∧ (v.2.2.2.2.2.1 = [] → v.1 = 41))
theorem more_one {x : In} {v : AskT} {g : Gd} (hv : v.2.2.2.2.2.1 = [g]) (hg : GOK g) (hw : call_waits.t x = true) : More x v := by
  refine ⟨by rw [hv]; exact (show 1 ≤ 1000 by decide), by rw [hv]; exact List.pairwise_singleton _ _, fun g' hg' => ?_, .inr ⟨hw, fun e => by rw [hv] at e; cases e⟩⟩
  rw [hv] at hg'
  rw [List.mem_singleton.1 hg']; exact hg
theorem more_none {x : In} {v : AskT} (hv : v.2.2.2.2.2.1 = []) (hw : call_waits.t x = false) : More x v :=
  ⟨by rw [hv]; exact Nat.zero_le _, by rw [hv]; exact List.Pairwise.nil, fun g hg => (by rw [hv] at hg; cases hg), .inl ⟨hw, hv⟩⟩
theorem gok0 {k o v r : Int} (h0 : 0 ≤ r) (h1 : r < 8) : GOK (k, (o, (v, (r, (0, ()))))) := ⟨Int.le_refl 0, (show (0 : Int) < 6 by decide), h0, h1⟩
theorem ask_more {l : List In} (h : PrOK l) {f : Fr} {now : Int} {x : In} (hA : Asked l f x) (hn : ref05_Fine.t now = true) (hr : RegsOK f) : ∃ v : AskT, ofB l f now (x, 0) = some (v, 0) ∧ More x v := by
  have hc : chk x = 0 := by rw [← hA.here]; exact ok_chk h hA.ok hA.hi
  have hi : InOK x := by rw [← hA.here]; exact h.at _
  have hop := asks_ops (chk_parts hc).1 hA.asks
  obtain ⟨ra, rb, rc⟩ := reg_at hc
  obtain ⟨o, a, b, c, u⟩ := x
  have ha := hi.a
  have hb := hi.b
  simp only at hop ra rb rc ha hb
  have wa : IntKind.wrap .i64 a = a := wrapN ⟨by omega, by omega⟩
  have wb : IntKind.wrap .i64 b = b := wrapN ⟨by omega, by omega⟩
  have ia : idxOK a 8 = true → 0 ≤ IntKind.wrap .i64 a ∧ IntKind.wrap .i64 a < 8 := fun h => by rw [wa]; have := idxOK_iff.1 h; omega
  have ib : idxOK b 8 = true → 0 ≤ IntKind.wrap .i64 b ∧ IntKind.wrap .i64 b < 8 := fun h => by rw [wb]; have := idxOK_iff.1 h; omega
  have z8 : (0 : Int) < 8 := by decide
  rcases hop with rfl | rfl | rfl | rfl | rfl | rfl | rfl | rfl | rfl | rfl | rfl | rfl | rfl | rfl | rfl | rfl | rfl
  · rw [of_27, ra rfl]; exact ⟨_, rfl, more_none rfl rfl⟩
  · rw [of_28]; exact ⟨_, rfl, more_none rfl rfl⟩
  · rw [of_29]; exact ⟨_, rfl, more_none rfl rfl⟩
  · rw [of_30, rc rfl]; exact ⟨_, rfl, more_none rfl rfl⟩
  · rw [ofw_31, one_31, ra rfl]; exact ⟨_, rfl, more_one rfl (gok0 (ia (ra rfl)).1 (ia (ra rfl)).2) rfl⟩
  · rw [ofw_32, one_32, dead_u hn hr (ra rfl)]; exact ⟨_, rfl, more_one rfl (gok0 (Int.le_refl 0) z8) rfl⟩
  · rw [ofw_33, one_33, rb rfl]; exact ⟨_, rfl, more_one rfl (gok0 (Int.le_refl 0) z8) rfl⟩
  · rw [ofw_34, one_34]; exact ⟨_, rfl, more_one rfl (gok0 (ib (rb rfl)).1 (ib (rb rfl)).2) rfl⟩
  · rw [of_35, rb rfl]; exact ⟨_, rfl, more_none rfl rfl⟩
  · rw [of_36]; exact ⟨_, rfl, more_none rfl rfl⟩
  · rw [of_37]; exact ⟨_, rfl, more_none rfl rfl⟩
  · rw [ofw_38, one_38]; exact ⟨_, rfl, more_one rfl (gok0 (Int.le_refl 0) z8) rfl⟩
  · rw [of_39]; exact ⟨_, rfl, more_none rfl rfl⟩
  · rw [of_40]; exact ⟨_, rfl, more_none rfl rfl⟩
  · obtain ⟨gs, g1, _, g3⟩ := alt_u h hA hn hr
    obtain ⟨m1, m2⟩ := alt_more h hA hn hr g1
    rw [of_41, g1]
    exact ⟨_, rfl, ⟨g3, m1, m2, .inr ⟨rfl, fun _ => rfl⟩⟩⟩
  · rw [of_46]; exact ⟨_, rfl, more_none rfl rfl⟩
  · rw [of_47]; exact ⟨_, rfl, more_none rfl rfl⟩

theorem ans_went {x : In} {f : Fr} (hF : FrOK f) (hf : FrFine f = true) (h41 : (x.1 == 41) = false) (hp : frame_place.t (f.1 + 1) = true) {n : Int} (hn : word_Fine.t n = true) {r : Int} (hr : r = -1 ∨ idxOK r 8 = true) : ∃ f', ansB f n r = some (f', 0) ∧ Went x f f' := by
  have hw : IntKind.wrap .i64 (f.1 + 1) = f.1 + 1 := wrapN (by have := place_range.1 hp; exact ⟨by omega, by omega⟩)
  have hon : onP x f = f.1 + 1 := by unfold onP; rw [h41]; rfl
  have ra := regs_all hf
  unfold ansB
  rw [hw]
  rcases hr with rfl | hr
  · rw [show ((-1 : Int) != -1) = false from rfl, cond_false, go_u (bad_ok hF) (bad_fine hf) hp]
    exact ⟨_, rfl, hon.symm, fine_sets hf hp ra false, ⟨hF.r, hF.m, hF.s⟩, rfl⟩
  · obtain ⟨h0, h1⟩ := idxOK_iff.1 hr
    rw [bne_iff_ne.2 (show r ≠ -1 by omega), cond_true, set_u hF hf h0 (by omega) hn]
    simp only [Option.bind_some, bne_self_eq_false, cond_false]
    rw [go_u (f := (f.1, (false, ((List.set f.2.2.1 r.toNat n), f.2.2.2)))) (bad_ok (set_ok hF r.toNat n)) (bad_fine (set_fine hf r.toNat hn)) hp]
    exact ⟨_, rfl, hon.symm, fine_sets hf hp (all_set _ ra hn) false, ⟨by simpa using hF.r, hF.m, hF.s⟩, rfl⟩
end Go.Proofs.YtjhkagfolmhacaaGreatDoor.K

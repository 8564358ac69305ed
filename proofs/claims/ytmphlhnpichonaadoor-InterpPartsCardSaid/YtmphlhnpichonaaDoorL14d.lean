/- Runs of steps, plainly. -/
import Derived.Test.YtmphlhnpichonaaDoorL14c
import Derived.KernelRfl
set_option maxRecDepth 100000
set_option linter.unusedVariables false
set_option linter.unusedSimpArgs false
namespace Go.Proofs.YtmphlhnpichonaaDoor.K
open Go

abbrev eq14 (f g : Fr) : Bool := eqI (.pair (.int .i64) (.pair .bool (.pair (.arr 8 (.int .i64)) (.pair (.arr 16 (.int .i64)) (.pair (.int .i64) (.pair (.arr 8 (.int .i64)) .unit)))))) f g
theorem eq14_self (f : Fr) : eq14 f f = true := eqFr f

/-- A run of 'd' steps, of which 'i' were done. -/
def RG (l : List In) (d : Nat) (i : Int) (f : Fr) : Option (Fr × Int × Int × Int) := interp_Run.g0 l 0 [] [] some d 0 0 i f
theorem rg_e (l : List In) (e : Int) (e3 e4 : List Int) : ∀ (d : Nat) (a b i : Int) (f : Fr), interp_Run.g0 l e e3 e4 some d a b i f = interp_Run.g0 l 0 [] [] some d a b i f
  | 0, _, _, _, _ => rfl
  | d + 1, a, b, i, f => by
    simp only [interp_Run.g0, rg_e l e e3 e4 d]
theorem rg_succ {l : List In} (h : PrOK l) {f : Fr} (hF : FrOK f) (d : Nat) {i : Int} (h0 : 0 ≤ i) (h1 : i ≤ 100000) : ∃ w, interp_Step.u l f = some w ∧ SOK f w ∧ ref14_Step.u l f = some w ∧ RG l (d + 1) i f = bif w.2.1 != 0 then some (w.1, w.2.1, w.2.2, i) else RG l d (i + 1) w.1 := by
  obtain ⟨w, w1, w2, w3⟩ := step_law h hF
  refine ⟨w, w1, w3, w2, ?_⟩
  unfold RG
  simp only [interp_Run.g0, w1, Option.bind_some, wrapN (x := i + 1) ⟨by omega, by omega⟩]
  cases hz : (w.2.1 != 0) with
  | true => rfl
  | false =>
    have e0 : w.2.1 = 0 := by simpa using hz
    rw [e0, (w3.one e0).1]

theorem run_go {l : List In} (h : PrOK l) (e : Int) (e3 e4 : List Int) : ∀ (d : Nat) (i : Int) (f : Fr), FrOK f → 0 ≤ i → i + d ≤ 10000 → ∃ v, RG l d i f = some v ∧ ref14_Run.g0 l e e3 e4 some d i f = some v
  | 0, i, f, hF, _, _ => ⟨_, rfl, rfl⟩
  | d + 1, i, f, hF, h0, h1 => by
    obtain ⟨w, w1, w3, w2, w4⟩ := rg_succ h hF d h0 (by omega)
    rw [w4]
    simp only [ref14_Run.g0, w2, Option.bind_some, decide_eq_true (show i < 10000 by omega), cond_true]
    cases hz : (w.2.1 != 0) with
    | true => exact ⟨_, rfl, rfl⟩
    | false => exact run_go h e e3 e4 d (i + 1) w.1 w3.ok (by omega) (by omega)

theorem run_u {l : List In} {n : Int} (h1 : n ≤ 10000) (f : Fr) : interp_Run.u l f n = RG l n.toNat 0 f := by
  unfold interp_Run.u interp_Run.w
  have e1 : (if (10000 : Int) < n then (10000 : Int) else n) = n := if_neg (by omega)
  rw [e1]
  by_cases h0 : n > 0
  · rw [if_pos h0]
    simp only [decide_eq_true (show n ≤ 4611686018427387904 by omega), cond_true, Int.sub_zero]
    exact rg_e ..
  · rw [if_neg h0]
    rw [show n.toNat = 0 by omega]
    rfl

theorem law_runs {l : List In} (h : PrOK l) {f : Fr} (hF : FrOK f) (n : Int) : law14_InterpRuns.u l f n = some true := by
  unfold law14_InterpRuns.u law14_InterpRuns.s
  rw [alive14]
  cases decide (((List.length l : Nat) : Int) > 70) with
  | true => rfl
  | false =>
    cases hn : decide (n > 300) with
    | true => rfl
    | false =>
      have hn' := of_decide_eq_false hn
      have hr : ref14_Run.u l f n = ref14_Run.g0 l n (List.replicate 8 0) (List.replicate 16 0) some n.toNat 0 f := by
        unfold ref14_Run.u ref14_Run.w
        rw [decide_eq_true (show n ≤ 4611686018427387904 by omega), cond_true, Int.sub_zero]
      obtain ⟨v, v1, v2⟩ := run_go h n (List.replicate 8 0) (List.replicate 16 0) n.toNat 0 f hF (by omega) (by omega)
      rw [run_u (by omega), v1, hr, v2]
      have he : eqI (.pair (.int .i64) (.pair .bool (.pair (.arr 8 (.int .i64)) (.pair (.arr 16 (.int .i64)) (.pair (.int .i64) (.pair (.arr 8 (.int .i64)) .unit)))))) v.1 v.1 = true := eqFr v.1
      simp only [Option.bind_some, he, beq_self_eq_true, cond_true, cond_false]

/-- A run in two parts. -/
structure Parts (l : List In) (d : Nat) (i : Int) (f : Fr) (v : Fr × Int × Int × Int) : Prop where
  run : RG l d i f = some v
  ok : FrOK v.1
  lo : i ≤ v.2.2.2
  hi : v.2.2.2 ≤ i + d
  less : v.2.2.2 < i + d → ∀ e, RG l (d + e) i f = some v
  all : v.2.2.2 = i + d → ∀ e, RG l (d + e) i f = RG l e (i + d) v.1
theorem parts_go {l : List In} (h : PrOK l) : ∀ (d : Nat) (i : Int) (f : Fr), FrOK f → 0 ≤ i → i + d ≤ 10000 → ∃ v, Parts l d i f v
  | 0, i, f, hF, h0, h1 => by
    refine ⟨(f, 0, 0, i), rfl, hF, by simp only; omega, by simp only; omega, fun h => by simp only at h; omega, fun _ e => ?_⟩
    rw [Nat.zero_add]
    simp only [Int.ofNat_eq_natCast, Int.natCast_zero, Int.add_zero]
  | d + 1, i, f, hF, h0, h1 => by
    obtain ⟨w, w1, w3, w2, w4⟩ := rg_succ h hF d h0 (by omega)
    have w5 : ∀ e, RG l (d + e + 1) i f = bif w.2.1 != 0 then some (w.1, w.2.1, w.2.2, i) else RG l (d + e) (i + 1) w.1 := fun e => by
      obtain ⟨u, u1, u3, u2, u4⟩ := rg_succ h hF (d + e) h0 (by omega)
      rw [w1] at u1; cases u1
      exact u4
    cases hz : (w.2.1 != 0) with
    | true =>
      rw [hz, cond_true] at w4
      refine ⟨_, w4, w3.ok, by simp only; omega, by simp only; omega, fun _ e => ?_, fun h => by simp only at h; omega⟩
      rw [show d + 1 + e = d + e + 1 by omega, w5, hz, cond_true]
    | false =>
      rw [hz, cond_false] at w4
      obtain ⟨v, hv⟩ := parts_go h d (i + 1) w.1 w3.ok (by omega) (by omega)
      refine ⟨v, w4.trans hv.run, hv.ok, by have := hv.lo; omega, by have := hv.hi; omega, fun hl e => ?_, fun he e => ?_⟩
      · rw [show d + 1 + e = d + e + 1 by omega, w5, hz, cond_false]
        exact hv.less (by omega) e
      · rw [show d + 1 + e = d + e + 1 by omega, w5, hz, cond_false, hv.all (by omega) e]
        congr 1; omega
theorem shift_go {l : List In} (h : PrOK l) : ∀ (d : Nat) (i j : Int) (f : Fr), FrOK f → 0 ≤ i → 0 ≤ j → i + j + d ≤ 10000 → ∀ v, RG l d i f = some v → RG l d (i + j) f = some (v.1, v.2.1, v.2.2.1, v.2.2.2 + j)
  | 0, i, j, f, hF, h0, h1, h2, v, hv => by cases hv; rfl
  | d + 1, i, j, f, hF, h0, h1, h2, v, hv => by
    obtain ⟨w, w1, w3, w2, w4⟩ := rg_succ h hF d h0 (by omega)
    obtain ⟨u, u1, u3, u2, u4⟩ := rg_succ h hF d (i := i + j) (by omega) (by omega)
    rw [w1] at u1; cases u1
    rw [w4] at hv
    rw [u4]
    cases hz : (w.2.1 != 0) with
    | true =>
      rw [hz, cond_true] at hv
      cases hv
      rfl
    | false =>
      rw [hz, cond_false] at hv
      rw [cond_false, show i + j + 1 = (i + 1) + j by omega]
      exact shift_go h d (i + 1) j w.1 w3.ok (by omega) h1 (by omega) v hv

theorem law_parts {l : List In} (h : PrOK l) {f : Fr} (hF : FrOK f) (x : List Int) (hx : ∀ i, 0 ≤ x.getD i 0 ∧ x.getD i 0 ≤ 255) : law14_InterpParts.u l f x = some true := by
  unfold law14_InterpParts.u law14_InterpParts.s
  rw [alive14]
  have w0 : IntKind.wrap .i64 (List.getD x 0 0) = List.getD x 0 0 := wrapN ⟨by have := hx 0; omega, by have := hx 0; omega⟩
  have w1 : IntKind.wrap .i64 (List.getD x 1 0) = List.getD x 1 0 := wrapN ⟨by have := hx 1; omega, by have := hx 1; omega⟩
  simp only [w0, w1]
  obtain ⟨m, hm, hm2⟩ : ∃ m : Nat, (if (200 : Int) < List.getD x 0 0 then (200 : Int) else List.getD x 0 0) = (m : Int) ∧ m ≤ 200 := by
    have := hx 0
    by_cases e : (200 : Int) < List.getD x 0 0
    · exact ⟨200, by rw [if_pos e]; rfl, by omega⟩
    · exact ⟨(List.getD x 0 0).toNat, by rw [if_neg e]; omega, by omega⟩
  obtain ⟨n, hn, hn2⟩ : ∃ n : Nat, (if (200 : Int) < List.getD x 1 0 then (200 : Int) else List.getD x 1 0) = (n : Int) ∧ n ≤ 200 := by
    have := hx 1
    by_cases e : (200 : Int) < List.getD x 1 0
    · exact ⟨200, by rw [if_pos e]; rfl, by omega⟩
    · exact ⟨(List.getD x 1 0).toNat, by rw [if_neg e]; omega, by omega⟩
  rw [hm, hn]
  cases decide (((List.length l : Nat) : Int) > 70) with
  | true => rfl
  | false =>
    rw [cond_false]
    have hs : IntKind.wrap .i64 ((m : Int) + (n : Int)) = ((m + n : Nat) : Int) := by rw [wrapN ⟨by omega, by omega⟩]; omega
    obtain ⟨v, hv⟩ := parts_go h m 0 f hF (by omega) (by omega)
    obtain ⟨u, hu⟩ := parts_go h n 0 v.1 hv.ok (by omega) (by omega)
    rw [hs, run_u (by omega), run_u (n := ((m + n : Nat) : Int)) (by omega), Int.toNat_natCast, Int.toNat_natCast, hv.run]
    simp only [Option.bind_some]
    rw [run_u (by omega), Int.toNat_natCast, hu.run]
    simp only [Option.bind_some]
    have hvl := hv.lo
    have hvh := hv.hi
    have hul := hu.lo
    have huh := hu.hi
    cases hlt : decide (v.2.2.2 < (m : Int)) with
    | true =>
      have hlt' := of_decide_eq_true hlt
      rw [hv.less (by omega) n]
      have he : eqI (.pair (.int .i64) (.pair .bool (.pair (.arr 8 (.int .i64)) (.pair (.arr 16 (.int .i64)) (.pair (.int .i64) (.pair (.arr 8 (.int .i64)) .unit)))))) v.1 v.1 = true := eqFr v.1
      simp only [Option.bind_some, he, beq_self_eq_true, cond_true]
    | false =>
      have hlt' := of_decide_eq_false hlt
      have hm' : v.2.2.2 = (m : Int) := by omega
      rw [hv.all (by omega) n, shift_go h n 0 (m : Int) v.1 hv.ok (by omega) (by omega) (by omega) u hu.run]
      have he : eqI (.pair (.int .i64) (.pair .bool (.pair (.arr 8 (.int .i64)) (.pair (.arr 16 (.int .i64)) (.pair (.int .i64) (.pair (.arr 8 (.int .i64)) .unit)))))) u.1 u.1 = true := eqFr u.1
      have hw : IntKind.wrap .i64 (v.2.2.2 + u.2.2.2) = u.2.2.2 + (m : Int) := by rw [wrapN ⟨by omega, by omega⟩]; omega
      simp only [Option.bind_some, he, beq_self_eq_true, cond_true, cond_false, hw]

/-- How many cells differ. -/
def cnt (l' l : List Int) : Nat → Nat → Nat
  | 0, _ => 0
  | d + 1, i => (bif l'.getD i 0 != l.getD i 0 then 1 else 0) + cnt l' l d (i + 1)
theorem cnt_self (l : List Int) : ∀ d i, cnt l l d i = 0
  | 0, _ => rfl
  | d + 1, i => by
    simp only [cnt, cnt_self l d]
    rw [show (l.getD i 0 != l.getD i 0) = false by simp]
    rfl
theorem getD_ne {l : List Int} {j i : Nat} {x : Int} (h : j ≠ i) : (l.set j x).getD i 0 = l.getD i 0 := by
  simp only [List.getD_eq_getElem?_getD, List.getElem?_set]
  simp [h]
theorem cnt_past (l : List Int) (j : Nat) (x : Int) : ∀ d i, j < i → cnt (l.set j x) l d i = 0
  | 0, _, _ => rfl
  | d + 1, i, h => by
    simp only [cnt, cnt_past l j x d (i + 1) (by omega), getD_ne (show j ≠ i by omega)]
    rw [show (l.getD i 0 != l.getD i 0) = false by simp]
    rfl
theorem cnt_set (l : List Int) (j : Nat) (x : Int) : ∀ d i, cnt (l.set j x) l d i ≤ 1
  | 0, _ => by simp only [cnt]; omega
  | d + 1, i => by
    simp only [cnt]
    by_cases e : j = i
    · subst e
      rw [cnt_past l j x d (j + 1) (by omega)]
      cases ((l.set j x).getD j 0 != l.getD j 0) <;> simp
    · rw [getD_ne e, show (l.getD i 0 != l.getD i 0) = false by simp]
      simp only [cond_false, Nat.zero_add]
      exact cnt_set l j x d (i + 1)

theorem one_g0 {f g : Fr} (h : One f g) (hG : FrOK g) : ∀ (d i : Nat) (a : Nat), i + d ≤ 16 → a ≤ 100 → a + cnt g.2.2.2.1 f.2.2.2.1 d i ≤ 1 → law14_InterpOne.g0 0 f g some d (a : Int) (i : Int) = some true
  | 0, i, a, h0, h1, h2 => by
    obtain ⟨p1, p2, p3⟩ := FrFine_parts h.fine
    have hs := h.sp
    simp only [law14_InterpOne.g0, frame_fine hG, h.fine, Option.bind_some, alive14]
    rw [decide_eq_true (show (a : Int) ≤ 1 by simp only [cnt] at h2; omega), wrapN (x := g.2.2.2.2.1 - f.2.2.2.2.1) ⟨by omega, by omega⟩, wrapN (x := f.2.2.2.2.1 - g.2.2.2.2.1) ⟨by omega, by omega⟩, decide_eq_true hs.1, decide_eq_true hs.2, h.bad, show eqI .bool f.2.1 f.2.1 = true by rw [eqI_bool]; simp]
    rfl
  | d + 1, i, a, h0, h1, h2 => by
    simp only [law14_InterpOne.g0, idxOK_of (show 0 ≤ (i : Int) by omega) (show (i : Int) < ((16 : Nat) : Int) by omega), cond_true, Int.toNat_natCast]
    simp only [cnt] at h2
    cases hc : (List.getD g.2.2.2.1 i 0 != List.getD f.2.2.2.1 i 0) with
    | true =>
      rw [hc, cond_true] at h2
      rw [cond_true, wrapN (x := (a : Int) + 1) ⟨by omega, by omega⟩]
      exact one_g0 h hG d (i + 1) (a + 1) (by omega) (by omega) (by omega)
    | false =>
      rw [hc, cond_false] at h2
      rw [cond_false]
      exact one_g0 h hG d (i + 1) a (by omega) (by omega) (by omega)
theorem one_g1 {f g : Fr} (h : One f g) (hG : FrOK g) (M : Nat) (hM : cnt g.2.2.2.1 f.2.2.2.1 16 0 ≤ M) (d : Nat) : ∀ (i : Nat) (a : Nat), i + d ≤ 8 → a ≤ 50 → a + cnt g.2.2.1 f.2.2.1 d i + M ≤ 1 → law14_InterpOne.g1 0 f g some d (a : Int) (i : Int) = some true := by
  induction d with
  | zero =>
    intro i a h0 h1 h2
    rw [law14_InterpOne.g1]
    have h3 : a + cnt g.2.2.2.1 f.2.2.2.1 16 0 ≤ 1 := by rw [cnt] at h2; omega
    have := one_g0 h hG 16 0 a (Nat.le_refl _) (by omega) h3
    rw [show Int.toNat ((16 : Int) - 0) = 16 from rfl]
    exact this
  | succ d ih =>
    intro i a h0 h1 h2
    rw [law14_InterpOne.g1]
    simp only [idxOK_of (show 0 ≤ (i : Int) by omega) (show (i : Int) < ((8 : Nat) : Int) by omega), cond_true, Int.toNat_natCast]
    rw [cnt] at h2
    cases hc : (List.getD g.2.2.1 i 0 != List.getD f.2.2.1 i 0) with
    | true =>
      rw [hc, cond_true] at h2
      rw [cond_true, wrapN (x := (a : Int) + 1) ⟨by omega, by omega⟩]
      exact ih (i + 1) (a + 1) (by omega) (by omega) (by omega)
    | false =>
      rw [hc, cond_false] at h2
      rw [cond_false]
      exact ih (i + 1) a (by omega) (by omega) (by omega)

theorem law_one {l : List In} (h : PrOK l) {f : Fr} (hF : FrOK f) : law14_InterpOne.u l f = some true := by
  unfold law14_InterpOne.u law14_InterpOne.w
  rw [alive14]
  obtain ⟨w, w1, w2, w3⟩ := step_law h hF
  rw [w1]
  cases decide (((List.length l : Nat) : Int) > 70) with
  | true => rfl
  | false =>
    simp only [cond_false, Option.bind_some]
    cases hz : (w.2.1 != 0) with
    | true =>
      obtain ⟨q1, q2⟩ := w3.not (by simpa using hz)
      have he : eqI (.pair (.int .i64) (.pair .bool (.pair (.arr 8 (.int .i64)) (.pair (.arr 16 (.int .i64)) (.pair (.int .i64) (.pair (.arr 8 (.int .i64)) .unit)))))) f f = true := eqFr f
      rw [q1, q2, he, show eqI .bool (w.2.2 != 0) (w.2.2 != 0) = true by rw [eqI_bool]; simp]
      rfl
    | false =>
      obtain ⟨q1, q2⟩ := w3.one (by simpa using hz)
      rw [q1, cond_false]
      have hc : cnt w.1.2.2.1 f.2.2.1 8 0 + cnt w.1.2.2.2.1 f.2.2.2.1 16 0 ≤ 1 := by
        rcases q2.cells with ⟨⟨i, x, c1⟩, c2⟩ | ⟨c1, i, x, c2⟩
        · rw [c1, c2, cnt_self f.2.2.2.1 16 0]
          have := cnt_set f.2.2.1 i x 8 0
          omega
        · rw [c1, c2, cnt_self f.2.2.1 8 0]
          have := cnt_set f.2.2.2.1 i x 16 0
          omega
      have := one_g1 q2 w3.ok _ (Nat.le_refl _) 8 0 0 (Nat.le_refl _) (by omega) (by omega)
      rw [show Int.toNat ((8 : Int) - 0) = 8 from rfl]
      exact this

abbrev tyIn : ETy := .pair (.int .u8) (.pair (.int .u8) (.pair (.int .u8) (.pair (.int .u8) .unit)))
theorem prOK_of {l : List In} (h : fits (.slice tyIn) l) : PrOK l := fun x hx => by
  have := h.2 x hx
  have a := bounds_u8 (show (Lit.int .u8 x.1).wf = true from this.1)
  have b := bounds_u8 (show (Lit.int .u8 x.2.1).wf = true from this.2.1)
  have c := bounds_u8 (show (Lit.int .u8 x.2.2.1).wf = true from this.2.2.1)
  have d := bounds_u8 (show (Lit.int .u8 x.2.2.2.1).wf = true from this.2.2.2.1)
  exact ⟨by omega, by omega, by omega, by omega⟩
theorem row_InterpSteps (xs : Args [.slice tyIn, tyFr]) (h : fitsA _ xs) : law14_InterpSteps.u xs.1 xs.2.1 = some true := law_steps (prOK_of h.1) (frOK_of h.2.1)
theorem row_InterpRuns (xs : Args [.slice tyIn, tyFr, .int .i64]) (h : fitsA _ xs) : law14_InterpRuns.u xs.1 xs.2.1 xs.2.2.1 = some true := law_runs (prOK_of h.1) (frOK_of h.2.1) _
theorem row_InterpOne (xs : Args [.slice tyIn, tyFr]) (h : fitsA _ xs) : law14_InterpOne.u xs.1 xs.2.1 = some true := law_one (prOK_of h.1) (frOK_of h.2.1)
theorem row_InterpParts (xs : Args [.slice tyIn, tyFr, .arr 2 (.int .u8)]) (h : fitsA _ xs) : law14_InterpParts.u xs.1 xs.2.1 xs.2.2.1 = some true := law_parts (prOK_of h.1) (frOK_of h.2.1) _ fun i => by
  rw [List.getD_eq_getElem?_getD]
  cases hx : (xs.2.2.1 : List Int)[i]? with
  | none => exact ⟨by decide, by decide⟩
  | some y =>
    have := bounds_u8 (show (Lit.int .u8 y).wf = true from h.2.2.1.2 y (List.mem_of_getElem? hx))
    simp only [Option.getD_some]
    omega
end Go.Proofs.YtmphlhnpichonaaDoor.K

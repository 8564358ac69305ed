/- Operations that only read, continued: operators, parts, places, what lies at a place. -/
import Derived.Test.YtmphlhnpichonaaDoorK5
set_option maxHeartbeats 40000
set_option linter.unusedVariables false
set_option linter.unusedSimpArgs false
namespace Go.Proofs.YtmphlhnpichonaaDoor.K
open Go Go.RowKit

section
variable {C : Cfg} {m : Nat → Value} {L : Heap} {w : World} {S : Nat → Nat → Prop}

theorem eqGuard_ok {op : BinOp} {t : TypeId} {x y : Operand} {a b : Value} (h : C.P.eqGuardType C.P.depth t = false) (ha : a ≠ .nilIface) : (eqGuard op t x y a b).run C.P w = .ok () w := by
  unfold eqGuard
  split
  all_goals simp only [Bool.not_true, Bool.not_false, Bool.false_eq_true, if_false, if_true]
  all_goals first
    | rfl
    | (split
       · exact absurd rfl ha
       · simp [h, Sem.run_pure, program, Sem.run]
       · simp [Sem.run_pure])

theorem noAgg_guard {op : BinOp} {t : TypeId} {x y : Operand} {a b : Value} (ha : a ≠ .nilIface) (hb : ∀ c, a ≠ .agg c) : (eqGuard op t x y a b).run C.P w = .ok () w := by
  unfold eqGuard
  split
  all_goals simp only [Bool.not_true, Bool.not_false, Bool.false_eq_true, if_false, if_true]
  all_goals first
    | rfl
    | (split
       · exact absurd rfl ha
       · exact absurd rfl (hb _)
       · simp [Sem.run_pure])

theorem gives_guarded {op : BinOp} {t : TypeId} {x y : Operand} {a b : Value} {r : R} (hg : (eqGuard op t x y a b).run C.P w = .ok () w) (h : Gives C m L w S (binOp op t a b) r) :
    Gives C m L w S (do eqGuard op t x y a b; binOp op t a b) r := by
  intro z hz
  obtain ⟨u, h1, h2⟩ := h z hz
  exact ⟨u, by simp only [Sem.run_bind, hg, Result.andThen_ok, h1], h2⟩

theorem gives_eqOp {op : BinOp} {t : TypeId} {τ : ETy} {x y : τ.I} {u v : Value} {xo yo : Operand} (hx : RepV w S τ x u) (hy : RepV w S τ y v)
    (hbin : binOp .eql t u v = (do pure (.bool (← Op.equal t u v)))) (hbin' : binOp .neq t u v = (do pure (.bool (!(← Op.equal t u v))))) (hu : u ≠ .nilIface) :
    Gives C m L w S (do eqGuard op t xo yo u v; binOp op t u v) (eqOp C op t τ x y) := by
  unfold eqOp
  split
  · rename_i h
    simp only [Bool.and_eq_true, Bool.not_eq_true', decide_eq_true_eq] at h
    obtain ⟨⟨h1, h2⟩, h3⟩ := h
    obtain ⟨cx, hx1, rfl⟩ := hx
    obtain ⟨cy, hy1, rfl⟩ := hy
    have e := run_eqI (P := C.P) (w := w) (D := Op.maxDepth) h1 h3 hx1 hy1
    cases op <;> first
      | exact gives_none
      | (refine gives_guarded (eqGuard_ok h2 hu) (gives_ok1 ?_ (rep_bool.2 rfl)); rw [hbin]; simp only [Op.equal, Sem.run_bind, e, Result.andThen_ok, Sem.run_pure])
      | (refine gives_guarded (eqGuard_ok h2 hu) (gives_ok1 ?_ (rep_bool.2 rfl)); rw [hbin']; simp only [Op.equal, Sem.run_bind, e, Result.andThen_ok, Sem.run_pure])
  · exact gives_none

theorem rep_agg {τ : ETy} {x : τ.I} {u : Value} (ha : τ.agg = true) (h : RepV w S τ x u) : ∃ cs : List Value, u = .agg cs.toArray ∧ RepC w S τ x cs := by
  obtain ⟨cs, h1, rfl⟩ := h
  exact ⟨cs, by simp [valOf, ha], h1⟩

theorem gives_bin {op : BinOp} {t : TypeId} {a b : AV} {u v : Value} {xo yo : Operand} (hx : RepA m L w S a u) (hy : RepA m L w S b v) :
    Gives C m L w S (do eqGuard op t xo yo u v; binOp op t u v) (binA C op t a b) := by
  have aggcase : ∀ (τ : ETy), τ.agg = true → ∀ (x : τ.I) (σ : ETy) (y : σ.I), RepA m L w S (.v τ x) u → RepA m L w S (.v σ y) v → 
      Gives C m L w S (do eqGuard op t xo yo u v; binOp op t u v) ((castI σ τ y).bind fun y => eqOp C op t τ x y) := by
    intro τ ha x σ y hx hy
    cases hc : castI σ τ y with
    | some y' =>
      obtain ⟨rfl, rfl⟩ := castI_eq hc
      simp only [Option.bind_some]
      rw [rep_v] at hx hy
      obtain ⟨cx, rfl, hx1⟩ := rep_agg ha hx
      obtain ⟨cy, rfl, hy1⟩ := rep_agg ha hy
      exact gives_eqOp hx hy rfl rfl (by simp)
    | none => exact gives_none
  unfold binA
  split
  · rename_i k x k' y
    rw [rep_int] at hx hy
    subst hx; subst hy
    refine gives_guarded wf_noagg ?_
    split
    · refine gives_if (u := .int k _) (fun h => ?_) (rep_int.2 rfl)
      have h' : ¬ (y : Int) < 0 := Int.not_lt.2 (of_decide_eq_true h)
      simp [binOp, Op.shift, h', Sem.run_pure]
    · refine gives_if (u := .int k _) (fun h => ?_) (rep_int.2 rfl)
      have h' : ¬ (y : Int) < 0 := Int.not_lt.2 (of_decide_eq_true h)
      simp [binOp, Op.shift, h', Sem.run_pure]
    · rename_i h1 h2
      split
      · rename_i e; subst e
        exact gives_intOp (by cases op <;> first | rfl | exact absurd rfl h1 | exact absurd rfl h2)
      · exact gives_none
  · rename_i x y
    have hx' := hx; have hy' := hy
    rw [rep_bool] at hx' hy'
    subst hx'; subst hy'
    rw [rep_v] at hx hy
    exact gives_eqOp hx hy rfl rfl (by simp)
  · rename_i x y
    rw [rep_str] at hx hy
    subst hx; subst hy
    refine gives_guarded (noAgg_guard (by simp) (by simp)) ?_
    by_cases hs : isShift op = true
    · have : strOp op x y = none := by cases op <;> simp [isShift] at hs <;> rfl
      rw [this]; exact gives_none
    · exact gives_strOp (by simpa using hs)
  · rename_i a b x σ y
    exact aggcase (.pair a b) rfl x σ y hx hy
  · rename_i n e x σ y
    exact aggcase (.arr n e) rfl x σ y hx hy
  · exact gives_none

theorem gives_un {op : UnOp} {a : AV} {u : Value} (hx : RepA m L w S a u) : Gives C m L w S (Op.unary op u) (unA op a) := by
  unfold unA
  split
  · rename_i k x
    rw [rep_int] at hx
    subst hx
    cases op <;> first | exact gives_none | exact gives_ok1 rfl (rep_int.2 rfl)
  · rename_i b
    rw [rep_bool] at hx
    subst hx
    cases op <;> first | exact gives_none | exact gives_ok1 rfl (rep_bool.2 rfl)
  · exact gives_none

theorem und_int {t : TypeId} {k : IntKind} (h : GoodTy C.P t (.int k)) : C.P.underlying t = some (.int k) := by
  obtain ⟨d, hd, _ha, h2⟩ := h.und
  cases d <;> simp [descOK] at h2
  subst h2; exact hd

theorem und_str {t : TypeId} (h : GoodTy C.P t .str) : C.P.underlying t = some .string := by
  obtain ⟨d, hd, _ha, h2⟩ := h.und
  cases d <;> simp [descOK] at h2
  exact hd

theorem isAgg_of {te : TypeId} {e : ETy} (h : (C.P.underlying te).map aggD = some e.agg) (w : World) : (isAgg te).run C.P w = .ok e.agg w := by
  cases hu : C.P.underlying te with
  | none => simp [hu] at h
  | some d =>
    simp [hu] at h
    simp only [isAgg, Sem.run_bind, run_underlying hu, Result.andThen_ok]
    cases d <;> simp [aggD] at h <;> simp [← h, Sem.run_pure]

theorem und_slice {t : TypeId} {e : ETy} (h : GoodTy C.P t (.slice e)) : ∃ te i, C.P.underlying t = some (.slice te) ∧ C.P.info? te = some i ∧ i.size = e.size ∧ i.bytes ≤ 65536 ∧ (C.P.underlying te).map aggD = some e.agg := by
  obtain ⟨d, hd, _ha, h2⟩ := h.und
  clear _ha
  cases d <;> simp [descOK] at h2
  rename_i te
  obtain ⟨⟨⟨i, hi, h3⟩, h5⟩, h4⟩ := h2
  simp [hi] at h4
  exact ⟨te, i, hd, hi, h3, h4, by simpa using h5⟩

theorem und_arr {t : TypeId} {n : Nat} {e : ETy} (h : GoodTy C.P t (.arr n e)) : ∃ te i, C.P.underlying t = some (.array n te) ∧ C.P.info? te = some i ∧ i.size = e.size ∧ (C.P.underlying te).map aggD = some e.agg := by
  obtain ⟨d, hd, _ha, h2⟩ := h.und
  clear _ha
  cases d <;> simp [descOK] at h2
  rename_i m te
  obtain ⟨⟨rfl, i, hi, h3⟩, h4⟩ := h2
  exact ⟨te, i, hd, hi, h3, by simpa using h4⟩

theorem gives_conv (hC : C.OK) {s d : TypeId} {a : AV} {u : Value} (hx : RepA m L w S a u) : Gives C m L w S (convert s d u) (convA C s d a) := by
  unfold convA
  split
  · rename_i k x
    rw [rep_int] at hx
    subst hx
    split
    · rename_i k1 k2 h1 h2
      refine gives_ok1 ?_ (rep_int.2 rfl)
      simp [convert, run_underlying (und_int (hC.ty _ _ h1)), run_underlying (und_int (hC.ty _ _ h2)), Conv.intToInt, Sem.run_pure]
    · exact gives_none
  · rename_i x
    rw [rep_str] at hx
    subst hx
    split
    · rename_i h1 h2
      refine gives_ok1 ?_ (rep_str.2 rfl)
      simp [convert, run_underlying (und_str (hC.ty _ _ h1)), run_underlying (und_str (hC.ty _ _ h2)), Sem.run_pure]
    · exact gives_none
  · exact gives_none

/-! ### Parts of values -/
def extractA (i : Nat) : AV → R
  | .tup l => (l[i]?).map fun a => (true, a)
  | _ => none

theorem repAs_get : ∀ {l : List AV} {vs : List Value}, RepAs m L w S l vs → ∀ (i : Nat) (a : AV), l[i]? = some a → ∃ u, vs[i]? = some u ∧ RepA m L w S a u
  | [], vs, h, i, a, hi => by simp at hi
  | x :: l, vs, h, 0, a, hi => by
    simp only [RepAs] at h
    obtain ⟨u, r, rfl, h1, h2⟩ := h
    simp at hi; subst hi
    exact ⟨u, by simp, h1⟩
  | x :: l, vs, h, i + 1, a, hi => by
    simp only [RepAs] at h
    obtain ⟨u, r, rfl, h1, h2⟩ := h
    simpa using repAs_get h2 i a (by simpa using hi)

theorem gives_extract {i : Nat} {a : AV} {u : Value} (hx : RepA m L w S a u) : Gives C m L w S (Instr.extract u i) (extractA i a) := by
  unfold extractA
  split
  · rename_i l
    simp only [RepA] at hx
    obtain ⟨vs, rfl, h⟩ := hx
    intro b hb
    simp only [Option.map_eq_some_iff, Prod.mk.injEq, true_and] at hb
    obtain ⟨a, ha, rfl⟩ := hb
    obtain ⟨u, hu, hr⟩ := repAs_get h i a ha
    exact ⟨u, by simp [Instr.extract, hu, Sem.run_pure], hr⟩
  · exact gives_none

theorem tyP_fld_none {τ : ETy} {i : Nat} (h : tyP τ [.fld i] = none) : tyP τ [.fld (i + 1)] = none := by
  induction τ generalizing i with
  | pair a b iha ihb => cases i with
    | zero => simp [tyP] at h
    | succ i => simp only [tyP] at h ⊢; exact ihb h
  | _ => simp [tyP]

/-- A field of a struct's type: which part it is. -/
theorem field_of {t : TypeId} {τ σ : ETy} (h : GoodTy C.P t τ) {f : Nat} (hs : tyP τ [.fld f] = some σ) :
    ∃ fs fd i, C.P.underlying t = some (.struct fs) ∧ fs[f]? = some fd ∧ fd.offset = off τ [.fld f] ∧ C.P.info? fd.type = some i ∧ i.size = σ.size ∧ (C.P.underlying fd.type).map aggD = some σ.agg := by
  obtain ⟨d, hd, _ha, h2⟩ := h.und
  have hp : ∃ a b, τ = .pair a b := by
    cases τ with
    | pair a b => exact ⟨a, b, rfl⟩
    | _ => simp [tyP] at hs
  obtain ⟨a, b, rfl⟩ := hp
  cases d <;> simp [descOK] at h2
  rename_i fs
  have key : ∀ (l : List Field) (k : Nat), fieldsOK C.P (.pair a b) k l = true → ∀ j σ, tyP (.pair a b) [.fld (k + j)] = some σ → ∃ g i, l[j]? = some g ∧ g.offset = off (.pair a b) [.fld (k + j)] ∧ C.P.info? g.type = some i ∧ i.size = σ.size ∧ (C.P.underlying g.type).map aggD = some σ.agg := by
    intro l
    induction l with
    | nil =>
      intro k hk j σ hj
      simp only [fieldsOK, Option.isNone_iff_eq_none] at hk
      exfalso
      have : ∀ j, tyP (.pair a b) [.fld (k + j)] = none := by
        intro j
        induction j with
        | zero => exact hk
        | succ j ih => exact tyP_fld_none ih
      rw [this j] at hj
      cases hj
    | cons g l ih =>
      intro k hk j σ hj
      simp only [fieldsOK, Bool.and_eq_true] at hk
      cases j with
      | zero =>
        rw [Nat.add_zero] at hj
        obtain ⟨hk, _⟩ := hk
        rw [hj] at hk
        simp only [Bool.and_eq_true, beq_iff_eq] at hk
        obtain ⟨⟨h1, h2⟩, h4⟩ := hk
        obtain ⟨i, h2, h3⟩ := Option.map_eq_some_iff.1 h2
        rw [Nat.add_zero]
        exact ⟨g, i, rfl, h1, h2, h3, h4⟩
      | succ j =>
        have := ih (k + 1) hk.2 j σ (by rwa [show k + 1 + j = k + (j + 1) by omega])
        rw [show k + 1 + j = k + (j + 1) by omega] at this
        obtain ⟨g', i', q1, q⟩ := this
        exact ⟨g', i', by simpa using q1, q⟩
  obtain ⟨g, i, h1, h3, h4, h5, h6⟩ := key fs.toList 0 h2.2 f σ (by rw [Nat.zero_add]; exact hs)
  rw [Nat.zero_add] at h3
  exact ⟨fs, g, i, hd, by simpa using h1, h3, h4, h5, h6⟩
end
end Go.Proofs.YtmphlhnpichonaaDoor.K

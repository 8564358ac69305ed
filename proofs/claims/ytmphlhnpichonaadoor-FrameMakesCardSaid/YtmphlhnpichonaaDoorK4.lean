/- Operations on values alone: what they give, and that the model's own give the same. -/
import Derived.Test.YtmphlhnpichonaaDoorK3
import Derived.ChangeKeysEq
import Derived.Laws.BytesArg
set_option linter.unusedVariables false
set_option linter.unusedSimpArgs false
namespace Go.Proofs.YtmphlhnpichonaaDoor.K
open Go Go.RowKit

/-! ### Equality of data -/
def eqI : (τ : ETy) → τ.I → τ.I → Bool
  | .int _, x, y => (x : Int) == y
  | .bool, x, y => (x : Bool) == y
  | .str, x, y => ByteArray.toList x == ByteArray.toList y
  | .raw _, _, _ => false
  | .unit, _, _ => true
  | .pair a b, x, y => eqI a x.1 y.1 && eqI b x.2 y.2
  | .arr n e, xs, ys => go (eqI e) n xs ys
  | .slice _, _, _ => false
where go {α : Type} (f : α → α → Bool) : Nat → List α → List α → Bool
  | n + 1, x :: xs, y :: ys => f x y && go f n xs ys
  | _, _, _ => true

mutual
def eqOK (P : Program) : ETy → TypeId → Bool
  | .int k, t => match P.underlying t with | some (.int k') => decide (k = k') | _ => false
  | .bool, t => match P.underlying t with | some .bool => true | _ => false
  | .str, t => match P.underlying t with | some .string => true | _ => false
  | .arr n e, t => match P.underlying t with | some (.array m te) => m == n && (P.info? te).isSome && P.cellsOf te == e.size && eqOK P e te | _ => false
  | .unit, t => match P.underlying t with | some (.struct fs) => !P.stoodInHeld t && fs.toList.isEmpty | _ => false
  | .pair a b, t => match P.underlying t with
      | some (.struct fs) => !P.stoodInHeld t && (match fs.toList with
        | f :: r => f.name != "_" && f.offset == 0 && (P.info? f.type).isSome && P.cellsOf f.type == a.size && eqOK P a f.type && eqF P b a.size r
        | [] => false)
      | _ => false
  | _, _ => false
def eqF (P : Program) : ETy → Nat → List Field → Bool
  | .unit, _, r => r.isEmpty
  | .pair a b, o, f :: r => f.name != "_" && f.offset == o && (P.info? f.type).isSome && P.cellsOf f.type == a.size && eqOK P a f.type && eqF P b (o + a.size) r
  | _, _, _ => false
end

def ETy.deep : ETy → Nat
  | .pair a b => max a.deep b.deep + 1
  | .arr _ e => e.deep + 1
  | _ => 1

section
variable {P : Program} {w w' : World} {S S' : Nat → Nat → Prop} {t : TypeId} {τ : ETy}

theorem eqOK_agg (h : eqOK P τ t = true) (w : World) : (isAgg t).run P w = .ok τ.agg w := by
  have : ∃ d, P.underlying t = some d ∧ aggD d = τ.agg := by
    cases hu : P.underlying t with
    | none => cases τ <;> simp [eqOK, hu] at h
    | some d => refine ⟨d, rfl, ?_⟩; cases τ <;> cases d <;> simp [eqOK, hu] at h <;> rfl
  obtain ⟨d, hd, ha⟩ := this
  simp only [isAgg, Sem.run_bind, run_underlying hd, Result.andThen_ok]
  cases d <;> simp [aggD] at ha <;> simp [← ha, Sem.run_pure]

theorem run_part' {xs : Array Value} {pre mid post : List Value} (hx : xs.toList = pre ++ mid ++ post) (ha : (isAgg t).run P w = .ok τ.agg w) (hi : (P.info? t).isSome = true) (hs : P.cellsOf t = τ.size) (hl : mid.length = τ.size) :
    (part t xs pre.length).run P w = .ok (valOf τ mid) w := by
  obtain ⟨i, hi⟩ := Option.isSome_iff_exists.1 hi
  simp only [part, Sem.run_bind, ha, Result.andThen_ok]
  obtain rfl : xs = (pre ++ mid ++ post).toArray := by rw [← hx]
  unfold valOf
  cases hag : τ.agg with
  | true =>
    simp only [if_true, Sem.run_bind, run_sizeOf w hi, Result.andThen_ok, Sem.run_pure, hs]
    congr 2
    apply Array.ext'
    simp only [Array.toList_extract, List.extract_eq_take_drop]
    rw [List.append_assoc, List.drop_left, show pre.length + τ.size - pre.length = mid.length by omega, List.take_left]
  | false =>
    have h1 : mid.length = 1 := by rw [hl]; cases τ <;> simp [ETy.agg] at hag <;> rfl
    obtain ⟨c, rfl⟩ := List.length_eq_one_iff.1 h1
    simp [Sem.run_pure]

mutual
theorem run_eqI : ∀ {τ : ETy} {t : TypeId} {D : Nat} {x y : τ.I} {cx cy : List Value}, eqOK P τ t = true → τ.deep ≤ D → RepC w S τ x cx → RepC w S' τ y cy →
    (Op.equalIn D t (valOf τ cx) (valOf τ cy)).run P w = .ok (eqI τ x y) w
  | τ, t, 0, x, y, cx, cy, h, hd, hx, hy => by exact absurd hd (by cases τ <;> simp [ETy.deep])
  | .int k, t, D + 1, x, y, cx, cy, h, hd, hx, hy => by
    simp only [RepC] at hx hy
    subst hx; subst hy
    cases hu : P.underlying t with
    | none => simp [eqOK, hu] at h
    | some d =>
      cases d <;> simp [eqOK, hu] at h
      subst h
      have := run_equalIn_int w D t k k x y hu
      simpa [valOf, ETy.agg, eqI] using this
  | .bool, t, D + 1, x, y, cx, cy, h, hd, hx, hy => by
    simp only [RepC] at hx hy
    subst hx; subst hy
    cases hu : P.underlying t with
    | none => simp [eqOK, hu] at h
    | some d =>
      cases d <;> simp [eqOK, hu] at h
      exact run_equalIn_bool w D t x y hu
  | .str, t, D + 1, x, y, cx, cy, h, hd, hx, hy => by
    simp only [RepC] at hx hy
    subst hx; subst hy
    cases hu : P.underlying t with
    | none => simp [eqOK, hu] at h
    | some d =>
      cases d <;> simp [eqOK, hu] at h
      exact run_equalIn_string w D t x y hu
  | .unit, t, D + 1, x, y, cx, cy, h, hd, hx, hy => by
    simp only [RepC] at hx hy
    subst hx; subst hy
    cases hu : P.underlying t with
    | none => simp [eqOK, hu] at h
    | some d =>
      cases d <;> simp [eqOK, hu] at h
      rename_i fs
      have hfs : P.fieldsOf t = fs := by simp [Program.fieldsOf, hu]
      have := run_equalIn_struct w D t (#[] : Array Value) #[] (by rw [hfs]; exact hu) h.1
      simp only [valOf, ETy.agg, if_true, eqI]
      rw [this, hfs]
      simp [h.2, Op.eqFields, Sem.run_pure]
  | .pair a b, t, D + 1, x, y, cx, cy, h, hd, hx, hy => by
    obtain ⟨c1, d1, rfl, hx1, hx2⟩ := hx
    obtain ⟨c2, d2, rfl, hy1, hy2⟩ := hy
    cases hu : P.underlying t with
    | none => simp [eqOK, hu] at h
    | some d =>
      cases d <;> simp [eqOK, hu] at h
      rename_i fs
      have hfs : P.fieldsOf t = fs := by simp [Program.fieldsOf, hu]
      obtain ⟨h0, h⟩ := h
      have hst := run_equalIn_struct w D t (c1 ++ d1).toArray (c2 ++ d2).toArray (by rw [hfs]; exact hu) h0
      simp only [valOf, ETy.agg, if_true, eqI]
      rw [hst, hfs]
      cases hl : fs.toList with
      | nil => simp [hl] at h
      | cons f r =>
        simp only [hl, Bool.and_eq_true, bne_iff_ne, ne_eq, beq_iff_eq] at h
        obtain ⟨⟨⟨⟨⟨n1, n2⟩, n3⟩, n4⟩, n5⟩, n6⟩ := h
        have hd1 : a.deep ≤ D := by simp only [ETy.deep] at hd; omega
        have hd2 : b.deep ≤ D := by simp only [ETy.deep] at hd; omega
        have e := run_eqI n5 hd1 hx1 hy1
        have g := run_eqF (xs := (c1 ++ d1).toArray) (ys := (c2 ++ d2).toArray) (p1 := c1) (p2 := c2) n6 hd2 hx2 hy2 rfl rfl hx1.length hy1.length
        have p1 := run_part' (P := P) (w := w) (t := f.type) (τ := a) (xs := (c1 ++ d1).toArray) (pre := []) (mid := c1) (post := d1) (by simp) (eqOK_agg n5 w) n3 n4 hx1.length
        have p2 := run_part' (P := P) (w := w) (t := f.type) (τ := a) (xs := (c2 ++ d2).toArray) (pre := []) (mid := c2) (post := d2) (by simp) (eqOK_agg n5 w) n3 n4 hy1.length
        simp only [List.length_nil] at p1 p2
        simp only [Op.eqFields, n1, n2, ne_eq, not_false_eq_true, if_true, Sem.run_bind, p1, p2, e, Result.andThen_ok]
        cases he : eqI a x.1 y.1
        · simp [Sem.run_pure]
        · simpa using g
  | .arr n e, t, D + 1, x, y, cx, cy, h, hd, hx, hy => by
    cases hu : P.underlying t with
    | none => simp [eqOK, hu] at h
    | some d =>
      cases d <;> simp [eqOK, hu] at h
      rename_i m te
      obtain ⟨⟨⟨rfl, n2⟩, n3⟩, n4⟩ := h
      obtain ⟨i, hi⟩ := Option.isSome_iff_exists.1 n2
      have hst := run_equalIn_array w D (t := t) (e := te) (n := m) (i := i) cx.toArray cy.toArray hu hi
      have hd1 : e.deep ≤ D := by simp only [ETy.deep] at hd; omega
      simp only [valOf, ETy.agg, if_true, eqI]
      rw [hst, n3, List.range_eq_range']
      have := run_eqIt (e := e) (te := te) (D := D) (fun {x y cx cy} hx hy => run_eqI n4 hd1 hx hy) n4 (by rw [hi]; rfl) n3 m 0 x y [] [] cx cy cx.toArray cy.toArray (by simp) (by simp) (by simp) (by simp) hx hy
      exact this
theorem run_eqF : ∀ {b : ETy} {o : Nat} {r : List Field} {D : Nat} {x y : b.I} {p1 p2 c1 c2 : List Value} {xs ys : Array Value}, eqF P b o r = true → b.deep ≤ D → RepC w S b x c1 → RepC w S' b y c2 →
    xs = (p1 ++ c1).toArray → ys = (p2 ++ c2).toArray → p1.length = o → p2.length = o → (Op.eqFields D xs ys r).run P w = .ok (eqI b x y) w
  | .unit, o, r, D, x, y, p1, p2, c1, c2, xs, ys, h, hd, hx, hy, e1, e2, e3, e4 => by
    simp [eqF] at h
    subst h
    simp [Op.eqFields, Sem.run_pure, eqI]
  | .pair a b, o, f :: r, D, x, y, p1, p2, c1, c2, xs, ys, h, hd, hx, hy, e1, e2, e3, e4 => by
    obtain ⟨c1, d1, rfl, hx1, hx2⟩ := hx
    obtain ⟨c2, d2, rfl, hy1, hy2⟩ := hy
    subst e1; subst e2
    simp only [eqF, Bool.and_eq_true, bne_iff_ne, ne_eq, beq_iff_eq] at h
    obtain ⟨⟨⟨⟨⟨n1, n2⟩, n3⟩, n4⟩, n5⟩, n6⟩ := h
    have hd1 : a.deep ≤ D := by simp only [ETy.deep] at hd; omega
    have hd2 : b.deep ≤ D := by simp only [ETy.deep] at hd; omega
    have e := run_eqI n5 hd1 hx1 hy1
    have g := run_eqF (xs := (p1 ++ (c1 ++ d1)).toArray) (ys := (p2 ++ (c2 ++ d2)).toArray) (p1 := p1 ++ c1) (p2 := p2 ++ c2) n6 hd2 hx2 hy2 (by simp) (by simp) (by simp [e3, hx1.length]) (by simp [e4, hy1.length])
    have q1 := run_part' (P := P) (w := w) (t := f.type) (τ := a) (xs := (p1 ++ (c1 ++ d1)).toArray) (pre := p1) (mid := c1) (post := d1) (by simp) (eqOK_agg n5 w) n3 n4 hx1.length
    have q2 := run_part' (P := P) (w := w) (t := f.type) (τ := a) (xs := (p2 ++ (c2 ++ d2)).toArray) (pre := p2) (mid := c2) (post := d2) (by simp) (eqOK_agg n5 w) n3 n4 hy1.length
    rw [e3] at q1
    rw [e4] at q2
    simp only [Op.eqFields, n1, n2, ne_eq, not_false_eq_true, if_true, Sem.run_bind, q1, q2, e, Result.andThen_ok, eqI]
    cases he : eqI a x.1 y.1
    · simp [Sem.run_pure]
    · simpa using g
  | .pair a b, o, [], D, x, y, p1, p2, c1, c2, xs, ys, h, hd, hx, hy, e1, e2, e3, e4 => by simp [eqF] at h
  | .int _, o, r, D, x, y, p1, p2, c1, c2, xs, ys, h, hd, hx, hy, e1, e2, e3, e4 => by simp [eqF] at h
  | .bool, o, r, D, x, y, p1, p2, c1, c2, xs, ys, h, hd, hx, hy, e1, e2, e3, e4 => by simp [eqF] at h
  | .str, o, r, D, x, y, p1, p2, c1, c2, xs, ys, h, hd, hx, hy, e1, e2, e3, e4 => by simp [eqF] at h
  | .raw _, o, r, D, x, y, p1, p2, c1, c2, xs, ys, h, hd, hx, hy, e1, e2, e3, e4 => by simp [eqF] at h
  | .arr _ _, o, r, D, x, y, p1, p2, c1, c2, xs, ys, h, hd, hx, hy, e1, e2, e3, e4 => by simp [eqF] at h
  | .slice _, o, r, D, x, y, p1, p2, c1, c2, xs, ys, h, hd, hx, hy, e1, e2, e3, e4 => by simp [eqF] at h
theorem run_eqIt {e : ETy} {te : TypeId} {D : Nat} (ih : ∀ {x y : e.I} {cx cy : List Value}, RepC w S e x cx → RepC w S' e y cy → (Op.equalIn D te (valOf e cx) (valOf e cy)).run P w = .ok (eqI e x y) w)
    (ho : eqOK P e te = true) (hi : (P.info? te).isSome = true) (hs : P.cellsOf te = e.size) : ∀ (n k : Nat) (x y : List e.I) (p1 p2 c1 c2 : List Value) (xs ys : Array Value),
    xs = (p1 ++ c1).toArray → ys = (p2 ++ c2).toArray → p1.length = k * e.size → p2.length = k * e.size → RepC w S (.arr n e) x c1 → RepC w S' (.arr n e) y c2 →
    (Op.eqItems D te e.size xs ys (List.range' k n)).run P w = .ok (eqI.go (eqI e) n x y) w
  | 0, k, x, y, p1, p2, c1, c2, xs, ys, e1, e2, e3, e4, hx, hy => by simp [Op.eqItems, Sem.run_pure, eqI.go]
  | n + 1, k, x, y, p1, p2, c1, c2, xs, ys, e1, e2, e3, e4, hx, hy => by
    obtain ⟨l1, h1⟩ := hx
    obtain ⟨l2, h2⟩ := hy
    cases x with
    | nil => simp at l1
    | cons x xt =>
    cases y with
    | nil => simp at l2
    | cons y yt =>
      obtain ⟨c1, d1, rfl, hx1, hx2⟩ := h1
      obtain ⟨c2, d2, rfl, hy1, hy2⟩ := h2
      subst e1; subst e2
      have e0 := ih hx1 hy1
      have g := run_eqIt ih ho hi hs n (k + 1) xt yt (p1 ++ c1) (p2 ++ c2) d1 d2 (p1 ++ (c1 ++ d1)).toArray (p2 ++ (c2 ++ d2)).toArray (by simp) (by simp)
        (by simp [e3, hx1.length, Nat.succ_mul]) (by simp [e4, hy1.length, Nat.succ_mul]) ⟨by simpa using l1, hx2⟩ ⟨by simpa using l2, hy2⟩
      have q1 := run_part' (P := P) (w := w) (t := te) (τ := e) (xs := (p1 ++ (c1 ++ d1)).toArray) (pre := p1) (mid := c1) (post := d1) (by simp) (eqOK_agg ho w) hi hs hx1.length
      have q2 := run_part' (P := P) (w := w) (t := te) (τ := e) (xs := (p2 ++ (c2 ++ d2)).toArray) (pre := p2) (mid := c2) (post := d2) (by simp) (eqOK_agg ho w) hi hs hy1.length
      rw [e3] at q1
      rw [e4] at q2
      simp only [List.range'_succ, Op.eqItems, Sem.run_bind, q1, q2, e0, Result.andThen_ok, eqI.go]
      cases he : eqI e x y
      · simp [Sem.run_pure]
      · simpa using g
end
end
end Go.Proofs.YtmphlhnpichonaaDoor.K

/- Programs, plainly: the places that are come to; what follows. -/
import Derived.Test.YthamolhikhcilaaDoorL12c
import Derived.Test.YthamolhikhcilaaDoorL02
set_option maxRecDepth 100000
set_option linter.unusedVariables false
set_option linter.unusedSimpArgs false
namespace Go.Proofs.YthamolhikhcilaaDoor.K
open Go

/-! ### Lists of truths -/
abbrev on (ws : List Bool) (v : Nat) : Bool := ws.getD v false
structure ExtB (ws ws' : List Bool) : Prop where
  len : ws'.length = ws.length
  up : ∀ v, on ws v = true → on ws' v = true
theorem ExtB.refl (ws : List Bool) : ExtB ws ws := ⟨rfl, fun _ h => h⟩
theorem ExtB.trans {a b c : List Bool} (h : ExtB a b) (k : ExtB b c) : ExtB a c := ⟨k.len.trans h.len, fun v hv => k.up v (h.up v hv)⟩
theorem on_lt {ws : List Bool} {v : Nat} (h : on ws v = true) : v < ws.length := by
  rcases Nat.lt_or_ge v ws.length with h' | h'
  · exact h'
  · rw [on, List.getD_eq_getElem?_getD, List.getElem?_eq_none h'] at h; cases h
theorem on_set (ws : List Bool) (i v : Nat) : on (ws.set i true) v = (on ws v || (decide (v = i) && decide (i < ws.length))) := by
  unfold on
  rw [List.getD_eq_getElem?_getD, List.getD_eq_getElem?_getD, List.getElem?_set]
  by_cases h : i = v
  · subst h
    by_cases h2 : i < ws.length
    · simp [h2]
    · simp [h2, List.getElem?_eq_none (Nat.le_of_not_lt h2)]
  · rw [if_neg h]
    simp [Ne.symm h]
theorem ext_set (ws : List Bool) (i : Nat) : ExtB ws (ws.set i true) := ⟨by simp, fun v h => by rw [on_set, h]; rfl⟩
/-- How many are false. -/
def cnt : List Bool → Nat
  | [] => 0
  | b :: ws => cnt ws + (bif b then 0 else 1)
theorem cnt_le : ∀ {ws ws' : List Bool}, ExtB ws ws' → cnt ws' ≤ cnt ws ∧ (cnt ws' = cnt ws → ws' = ws)
  | [], [], h => ⟨Nat.le_refl _, fun _ => rfl⟩
  | [], b :: ws', h => by have := h.len; simp at this
  | b :: ws, [], h => by have := h.len; simp at this
  | b :: ws, b' :: ws', h => by
    have h' : ExtB ws ws' := ⟨by simpa using h.len, fun v hv => by simpa [on] using h.up (v + 1) (by simpa [on] using hv)⟩
    obtain ⟨i1, i2⟩ := cnt_le h'
    have h0 : b = true → b' = true := fun e => by simpa [on] using h.up 0 (by simpa [on] using e)
    simp only [cnt]
    cases b <;> cases b' <;> simp at h0 ⊢
    · exact ⟨i1, i2⟩
    · exact ⟨by omega, by omega⟩
    · exact ⟨i1, i2⟩
theorem cnt_set : ∀ {ws : List Bool} {i : Nat}, i < ws.length → on ws i = false → cnt (ws.set i true) + 1 = cnt ws
  | b :: ws, 0, h, h0 => by
    have : b = false := by simpa [on] using h0
    subst this; simp [cnt]
  | b :: ws, i + 1, h, h0 => by
    have := cnt_set (ws := ws) (i := i) (by simpa using h) (by simpa [on] using h0)
    simp only [List.set_cons_succ, cnt]
    omega
theorem cnt_len : ∀ ws : List Bool, cnt ws ≤ ws.length
  | [] => Nat.le_refl _
  | b :: ws => by have := cnt_len ws; cases b <;> simp [cnt] <;> omega
theorem cnt_zero : ∀ {ws : List Bool}, cnt ws = 0 → ∀ v, v < ws.length → on ws v = true
  | b :: ws, h, v, hv => by
    simp only [cnt] at h
    have hb : b = true := by cases b with | true => rfl | false => simp at h
    cases v with
    | zero => simp [on, hb]
    | succ v => simpa [on] using cnt_zero (ws := ws) (by omega) v (by simpa using hv)

section
variable {l : List In} (hl : FinePr l)

include hl in
theorem okPr_of : okPr l = true := hl.ok

/-- The steps from a place. -/
def Steps (l : List In) (v : Nat) (t : Nat) : Prop := (t : Int) ∈ nextF l v ∧ t < l.length
/-- ClosedP under them. -/
def ClosedP (l : List In) (P : Nat → Prop) : Prop := ∀ v, v < l.length → P v → ∀ t, Steps l v t → P t
/-- The places that are come to. -/
structure Good (l : List In) (ws : List Bool) : Prop where
  len : ws.length = l.length
  zero : on ws 0 = true
  closed : ClosedP l fun v => on ws v = true
  least : ∀ P : Nat → Prop, P 0 → ClosedP l P → ∀ v, on ws v = true → P v
theorem Good.unique {ws ws' : List Bool} (h : Good l ws) (k : Good l ws') : ws = ws' := by
  refine List.ext_getElem (h.len.trans k.len.symm) fun i h1 h2 => ?_
  have e1 := h.least _ k.zero k.closed i
  have e2 := k.least _ h.zero h.closed i
  simp only [on, List.getD_eq_getElem?_getD, List.getElem?_eq_getElem h1, List.getElem?_eq_getElem h2, Option.getD_some] at e1 e2
  cases a : ws[i] <;> cases b : ws'[i] <;> simp_all

/-! ### The closure -/
/-- What going through leaves. -/
structure Gone (l : List In) (ws ws' : List Bool) (from_ : Nat → Prop) : Prop where
  ext : ExtB ws ws'
  closed : ∀ v, on ws' v = true → on ws v = false → ∀ t, Steps l v t → on ws' t = true
  least : ∀ P : Nat → Prop, (∀ t, from_ t → t < l.length → P t) → ClosedP l P → ∀ v, on ws' v = true → on ws v = false → P v
  has : ∀ t, from_ t → t < l.length → on ws' t = true

include hl in
theorem come_ok : ∀ (k : Nat) (ws : List Bool) (at_ : Nat), ws.length = l.length → at_ ≤ l.length → cnt ws < k → ∃ ws', comeU l k ws (at_ : Int) = some ws' ∧ Gone l ws ws' fun t => t = at_
  | 0, ws, at_, h1, h2, h3 => by omega
  | k + 1, ws, at_, h1, h2, h3 => by
    unfold comeU
    by_cases he : at_ = l.length
    · refine ⟨ws, by rw [show ((at_ : Int) == (l.length : Int)) = true by simp [he], cond_true], ExtB.refl _, fun v a b => (by rw [a] at b; cases b), fun P hp hc v a b => (by rw [a] at b; cases b), fun t e ht => (by omega)⟩
    · have ha : at_ < l.length := by omega
      rw [show ((at_ : Int) == (l.length : Int)) = false by simp; omega, cond_false, idxOK_nat (by omega), cond_true, Int.toNat_natCast]
      cases hw : ws.getD at_ false with
      | true =>
        exact ⟨ws, rfl, ExtB.refl _, fun v a b => (by rw [a] at b; cases b), fun P hp hc v a b => (by rw [a] at b; cases b), fun t e ht => (by subst e; exact hw)⟩
      | false =>
        have hlen := next_len l at_
        rw [cond_false, next_u hl.pr (by have := hl.len; omega) ha, Option.bind_some, decide_eq_true (by omega), cond_true]
        have hc := cnt_set (by omega) hw
        -- through all of them
        have all : ∀ (ts : List Int) (vs : List Bool), vs.length = l.length → cnt vs < k → (∀ t ∈ ts, 0 ≤ t ∧ t ≤ (l.length : Int)) → ∃ ws', ts.foldlM (comeU l k) vs = some ws' ∧ Gone l vs ws' fun t => (t : Int) ∈ ts := by
          intro ts
          induction ts with
          | nil => exact fun vs _ _ _ => ⟨vs, rfl, ExtB.refl _, fun v a b => (by rw [a] at b; cases b), fun P hp hc v a b => (by rw [a] at b; cases b), fun t e ht => (by cases e)⟩
          | cons t ts ih =>
            intro vs hvl hvc hb
            obtain ⟨t0, t1⟩ := hb t (by simp)
            obtain ⟨n, rfl⟩ := Int.eq_ofNat_of_zero_le t0
            obtain ⟨w1, e1, g1⟩ := come_ok k vs n hvl (by omega) hvc
            obtain ⟨w2, e2, g2⟩ := ih w1 (g1.ext.len.trans hvl) (Nat.lt_of_le_of_lt (cnt_le g1.ext).1 hvc) (fun t ht => hb t (List.mem_cons_of_mem _ ht))
            refine ⟨w2, by rw [List.foldlM_cons, e1]; exact e2, g1.ext.trans g2.ext, fun v a b s hs => ?_, fun P hp hc v a b => ?_, fun s hs hsl => ?_⟩
            · cases hv : on w1 v with
              | true => exact g2.ext.up _ (g1.closed v hv b s hs)
              | false => exact g2.closed v a hv s hs
            · cases hv : on w1 v with
              | true => exact g1.least P (fun t e ht => hp t (by subst e; simp) ht) hc v hv b
              | false => exact g2.least P (fun t e ht => hp t (List.mem_cons_of_mem _ e) ht) hc v a hv
            · rcases List.mem_cons.1 hs with e | e
              · exact g2.ext.up _ (g1.has s (by omega) hsl)
              · exact g2.has s e hsl
        obtain ⟨w2, e2, g2⟩ := all (nextF l at_) (ws.set at_ true) (by simpa using h1) (by omega) (fun t ht => ⟨(hl.next ha ht).1, (hl.next ha ht).2.1⟩)
        refine ⟨w2, e2, (ext_set ws at_).trans g2.ext, fun v a b s hs => ?_, fun P hp hc v a b => ?_, fun t e ht => ?_⟩
        · by_cases hv : v = at_
          · subst hv; exact g2.has s hs.1 hs.2
          · exact g2.closed v a (by rw [on_set, b]; simp [hv]) s hs
        · have h0 : P at_ := hp at_ rfl ha
          by_cases hv : v = at_
          · subst hv; exact h0
          · exact g2.least P (fun t ht htl => hc at_ ha h0 t ⟨ht, htl⟩) hc v a (by rw [on_set, b]; simp [hv])
        · subst e
          exact g2.ext.up _ (by rw [on_set]; simp; omega)

include hl in
theorem reach_good : ∃ ws, prog_Reach.u l = some ws ∧ Good l ws := by
  have hn : ∀ v, on (List.replicate l.length false) v = false := fun v => by
    unfold on
    rw [List.getD_eq_getElem?_getD, List.getElem?_replicate]
    split <;> rfl
  have hc := cnt_len (List.replicate l.length false)
  rw [List.length_replicate] at hc
  have hlen := hl.len
  obtain ⟨ws, e, g⟩ := come_ok hl 70 (List.replicate l.length false) 0 (by simp) (Nat.zero_le _) (by omega)
  have h0 := g.has 0 rfl hl.pos
  refine ⟨ws, ?_, ⟨by simpa using g.ext.len, h0, fun v hv a t ht => g.closed v a (hn v) t ht, fun P hp hc v a => g.least P (fun t e _ => by subst e; exact hp) hc v a (hn v)⟩⟩
  unfold prog_Reach.u
  have hk : okPr l = true := okPr_of hl
  rw [fine_u hl.pr, Option.bind_some, hk, Bool.not_true, cond_false, decide_eq_true (by omega), cond_true]
  exact e

/-! ### By rounds -/
def marksF (n : Nat) : List Bool → List Int → List Bool
  | ws, [] => ws
  | ws, t :: ts => marksF n (bif decide (t < (n : Int)) then ws.set t.toNat true else ws) ts
def roundF (l : List In) : Nat → Nat → List Bool → List Bool
  | 0, _, ws => ws
  | m + 1, i, ws => roundF l m (i + 1) (bif on ws i then marksF l.length ws (nextF l i) else ws)
def rounds (l : List In) : Nat → List Bool → List Bool
  | 0, ws => ws
  | r + 1, ws => rounds l r (roundF l l.length 0 ws)
theorem mark_ext (n : Nat) : ∀ (ts : List Int) (ws : List Bool), ExtB ws (marksF n ws ts)
  | [], ws => ExtB.refl _
  | t :: ts, ws => by
    refine ExtB.trans ?_ (mark_ext n ts _)
    cases decide (t < (n : Int)) with
    | true => exact ext_set _ _
    | false => exact ExtB.refl _
theorem mark_has (n : Nat) : ∀ (ts : List Int) (ws : List Bool), ws.length = n → ∀ t : Nat, (t : Int) ∈ ts → t < n → on (marksF n ws ts) t = true
  | t0 :: ts, ws, h, t, ht, hn => by
    rcases List.mem_cons.1 ht with e | e
    · subst e
      refine (mark_ext n ts _).up t ?_
      rw [decide_eq_true (by omega), cond_true, Int.toNat_natCast, on_set]
      simp; omega
    · refine mark_has n ts _ ?_ t e hn
      cases decide (t0 < (n : Int)) with
      | true => simpa using h
      | false => exact h
theorem mark_sound (n : Nat) (P : Nat → Prop) : ∀ (ts : List Int) (ws : List Bool), (∀ t ∈ ts, 0 ≤ t) → (∀ v, on ws v = true → P v) → (∀ t : Nat, (t : Int) ∈ ts → t < n → P t) → ∀ v, on (marksF n ws ts) v = true → P v
  | [], ws, h0, h1, h2, v, hv => h1 v hv
  | t0 :: ts, ws, h0, h1, h2, v, hv => by
    refine mark_sound n P ts _ (fun t ht => h0 t (List.mem_cons_of_mem _ ht)) ?_ (fun t ht => h2 t (List.mem_cons_of_mem _ ht)) v hv
    intro u hu
    by_cases hlt : t0 < (n : Int)
    · rw [decide_eq_true hlt, cond_true, on_set] at hu
      rcases Bool.or_eq_true _ _ ▸ hu with hu | hu
      · exact h1 u hu
      · have hp := h0 t0 (by simp)
        have : u = t0.toNat := by simp at hu; exact hu.1
        exact h2 u (by rw [this, Int.toNat_of_nonneg hp]; simp) (by omega)
    · rw [decide_eq_false hlt, cond_false] at hu
      exact h1 u hu
theorem round_ext (l : List In) : ∀ (m i : Nat) (ws : List Bool), ExtB ws (roundF l m i ws)
  | 0, i, ws => ExtB.refl _
  | m + 1, i, ws => by
    refine ExtB.trans ?_ (round_ext l m (i + 1) _)
    cases on ws i with
    | true => exact mark_ext _ _ _
    | false => exact ExtB.refl _
theorem round_has (l : List In) : ∀ (m i : Nat) (ws : List Bool), ws.length = l.length → ∀ v, i ≤ v → v < i + m → on ws v = true → ∀ t, Steps l v t → on (roundF l m i ws) t = true
  | 0, i, ws, h, v, h1, h2, hv, t, ht => by omega
  | m + 1, i, ws, h, v, h1, h2, hv, t, ht => by
    rcases Nat.eq_or_lt_of_le h1 with rfl | h3
    · refine (round_ext l m (i + 1) _).up t ?_
      rw [hv, cond_true]
      exact mark_has _ _ _ h t ht.1 ht.2
    · refine round_has l m (i + 1) _ ?_ v h3 (by omega) ?_ t ht
      · cases on ws i with
        | true => exact (mark_ext _ _ _).len.trans h
        | false => exact h
      · cases on ws i with
        | true => exact (mark_ext _ _ _).up v hv
        | false => exact hv
include hl in
theorem round_sound (P : Nat → Prop) (hc : ClosedP l P) : ∀ (m i : Nat) (ws : List Bool), i + m ≤ l.length → (∀ v, on ws v = true → P v) → ∀ v, on (roundF l m i ws) v = true → P v
  | 0, i, ws, h, h1, v, hv => h1 v hv
  | m + 1, i, ws, h, h1, v, hv => by
    refine round_sound P hc m (i + 1) _ (by omega) ?_ v hv
    cases hw : on ws i with
    | true =>
      rw [cond_true]
      exact mark_sound _ P _ _ (fun t ht => (hl.next (show i < l.length by omega) ht).1) h1 (fun t ht htl => hc i (show i < l.length by omega) (h1 i hw) t ⟨ht, htl⟩)
    | false => exact h1
theorem rounds_same {ws : List Bool} (h : roundF l l.length 0 ws = ws) : ∀ r, rounds l r ws = ws
  | 0 => rfl
  | r + 1 => by show rounds l r (roundF l l.length 0 ws) = ws; rw [h]; exact rounds_same h r
theorem rounds_closed : ∀ (r : Nat) (ws : List Bool), ws.length = l.length → cnt ws ≤ r → ClosedP l (fun v => on (rounds l r ws) v = true) ∧ ExtB ws (rounds l r ws)
  | 0, ws, h, hc => ⟨fun v hv _ t ht => cnt_zero (ws := ws) (by omega) t (by rw [h]; exact ht.2), ExtB.refl _⟩
  | r + 1, ws, h, hc => by
    have he := round_ext l l.length 0 ws
    obtain ⟨c1, c2⟩ := cnt_le he
    by_cases hs : roundF l l.length 0 ws = ws
    · refine ⟨?_, by rw [rounds_same hs]; exact ExtB.refl _⟩
      intro v hv a t ht
      rw [rounds_same hs] at a ⊢
      have := round_has l l.length 0 ws h v (Nat.zero_le _) (by omega) a t ht
      rwa [hs] at this
    · have : cnt (roundF l l.length 0 ws) ≠ cnt ws := fun e => hs (c2 e)
      obtain ⟨a1, a2⟩ := rounds_closed r (roundF l l.length 0 ws) (he.len.trans h) (by omega)
      exact ⟨a1, he.trans a2⟩
include hl in
theorem rounds_sound (P : Nat → Prop) (hc : ClosedP l P) : ∀ (r : Nat) (ws : List Bool), (∀ v, on ws v = true → P v) → ∀ v, on (rounds l r ws) v = true → P v
  | 0, ws, h1, v, hv => h1 v hv
  | r + 1, ws, h1, v, hv => rounds_sound P hc r _ (round_sound hl P hc l.length 0 ws (by omega) h1) v hv

theorem refg0 (e9 e14 : Int) (e : List Int) (r9 : Int × List Bool → Option (List Bool)) : ∀ (ts : List Int) (ws : List Bool), ws.length = l.length → (∀ t ∈ ts, 0 ≤ t) → ref12_Reach.g0 l e9 e14 e r9 some ts ws = r9 (e14 + 1, marksF l.length ws ts)
  | [], ws, h, h0 => rfl
  | t :: ts, ws, h, h0 => by
    have ht := h0 t (by simp)
    have h0' := fun t' ht' => h0 t' (List.mem_cons_of_mem _ ht')
    unfold ref12_Reach.g0
    by_cases hlt : t < ((List.length l : Nat) : Int)
    · rw [decide_eq_true hlt, cond_true, idxOK_of ht (by omega), cond_true, refg0 e9 e14 e r9 ts _ (by simpa using h) h0']
      rw [marksF, decide_eq_true hlt, cond_true]
    · rw [decide_eq_false hlt, cond_false, refg0 e9 e14 e r9 ts _ h h0']
      rw [marksF, decide_eq_false hlt, cond_false]
include hl in
theorem refg1 (e9 : Int) (r6 : Int × List Bool → Option (List Bool)) : ∀ (xs : List In) (i : Nat) (ws : List Bool), l.drop i = xs → i + xs.length = l.length → ws.length = l.length → ref12_Reach.g1 l e9 r6 some xs (i : Int) ws = r6 (e9 + 1, roundF l xs.length i ws)
  | [], i, ws, hd, hx, h => rfl
  | x :: xs, i, ws, hd, hx, h => by
    simp only [List.length_cons] at hx ⊢
    have hi : i < l.length := by omega
    have hd2 : l.drop (i + 1) = xs := by
      have := List.drop_eq_getElem_cons hi
      rw [hd] at this
      cases this; rfl
    unfold ref12_Reach.g1 roundF
    rw [idxOK_nat (by omega), cond_true, Int.toNat_natCast]
    cases hw : ws.getD i false with
    | false =>
      rw [show on ws i = false from hw, cond_false, Bool.not_false, cond_true]
      exact refg1 e9 r6 xs (i + 1) ws hd2 (by omega) h
    | true =>
      have hlen := next_len l i
      have := hl.len
      rw [show on ws i = true from hw, cond_true, Bool.not_true, cond_false, refnext_u hl.pr (by omega) (okPr_of hl) hi, Option.bind_some, decide_eq_true (by omega), cond_true, refg0 _ _ _ _ _ _ h (fun t ht => (hl.next hi ht).1)]
      exact refg1 e9 r6 xs (i + 1) _ hd2 (by omega) ((mark_ext _ _ _).len.trans h)
include hl in
theorem refg2 : ∀ (xs : List In) (e : Int) (ws : List Bool), ws.length = l.length → ref12_Reach.g2 l some xs e ws = some (rounds l xs.length ws)
  | [], e, ws, h => rfl
  | x :: xs, e, ws, h => by
    have := hl.len
    unfold ref12_Reach.g2
    rw [decide_eq_true (by omega), cond_true]
    have h1 := refg1 hl e (fun q => ref12_Reach.g2 l some xs q.1 q.2) l 0 ws rfl (by omega) h
    refine h1.trans ?_
    exact refg2 xs (e + 1) _ ((round_ext l l.length 0 ws).len.trans h)
include hl in
theorem refreach_good : ∃ ws, ref12_Reach.u l = some ws ∧ Good l ws := by
  have hlen := hl.len
  have hpos := hl.pos
  obtain ⟨W, hW⟩ : ∃ W, (List.replicate l.length false).set 0 true = W := ⟨_, rfl⟩
  have wl : W.length = l.length := by rw [← hW]; simp
  have w0 : ∀ v, on W v = true ↔ v = 0 := by
    intro v
    rw [← hW, on_set]
    have : on (List.replicate l.length false) v = false := by
      unfold on
      rw [List.getD_eq_getElem?_getD, List.getElem?_replicate]
      split <;> rfl
    rw [this]
    simp; omega
  have hc := cnt_len W
  obtain ⟨c1, c2⟩ := rounds_closed (l := l) l.length W wl (by omega)
  refine ⟨rounds l l.length W, ?_, ⟨c2.len.trans wl, c2.up 0 ((w0 0).2 rfl), c1, fun P hp hP v hv => rounds_sound hl P hP l.length W (fun v hv => by rw [(w0 v).1 hv]; exact hp) v hv⟩⟩
  unfold ref12_Reach.u ref12_Reach.w
  rw [reffine_u hl.pr, Option.bind_some, okPr_of hl, Bool.not_true, cond_false]
  have d1 : (decide (((List.length l : Nat) : Int) = ((List.length l : Nat) : Int)) && decide ((0 : Int) ≤ ((List.length l : Nat) : Int)) && decide (((List.length l : Nat) : Int) ≤ (2147483648 : Int))) = true := by
    rw [decide_eq_true rfl, decide_eq_true (show (0 : Int) ≤ ((List.length l : Nat) : Int) by omega), decide_eq_true (show ((List.length l : Nat) : Int) ≤ 2147483648 by omega)]; rfl
  rw [d1, cond_true, Int.toNat_natCast, List.length_replicate, idxOK_of (Int.le_refl 0) (by omega), cond_true, decide_eq_true (by omega), cond_true, hW]
  exact refg2 hl l 0 W wl
end

/-! ### The laws -/
theorem goes_go (ys : List Bool) : ∀ (xs : List Bool) (n : Nat), ys.drop n = xs → law12_ProgGoes.g0 ys ys some xs (n : Int) = some true
  | [], n, h => by simp only [law12_ProgGoes.g0, alive12, Option.bind_some]
  | x :: xs, n, h => by
    have hn : n < ys.length := by
      rcases Nat.lt_or_ge n ys.length with h' | h'
      · exact h'
      · rw [List.drop_eq_nil_of_le h'] at h; cases h
    have h1 := List.drop_eq_getElem_cons hn
    rw [h] at h1
    cases h1
    have hx : List.getD ys (Int.toNat (n : Int)) false = ys[n] := by
      rw [Int.toNat_natCast, List.getD_eq_getElem?_getD, List.getElem?_eq_getElem hn]; rfl
    have he : eqI .bool ys[n] ys[n] = true := by show (ys[n] == ys[n]) = true; simp
    simp only [law12_ProgGoes.g0, idxOK_nat hn, cond_true, hx, he, Bool.not_true, cond_false]
    exact goes_go ys _ (n + 1) rfl

theorem reach_none {l : List In} (h : PrOK l) (hk : okPr l = false) : prog_Reach.u l = some [] := by
  unfold prog_Reach.u
  rw [fine_u h, hk]; rfl
theorem refreach_none {l : List In} (h : PrOK l) (hk : okPr l = false) : ref12_Reach.u l = some [] := by
  unfold ref12_Reach.u ref12_Reach.w
  rw [reffine_u h, hk]; rfl
/-- Where one may go on, from any number. -/
def NextF (l : List In) (i : Int) : List Int := if 0 ≤ i ∧ i < (l.length : Int) ∧ okPr l = true then nextF l i.toNat else []
theorem NextF_len (l : List In) (i : Int) : (NextF l i).length ≤ 2 := by
  unfold NextF
  split
  · exact next_len _ _
  · simp
theorem Next_u {l : List In} (h : PrOK l) (hl : l.length ≤ 1000) (i : Int) : prog_Next.u l i = some (NextF l i) ∧ ref12_Next.u l i = some (NextF l i) := by
  unfold NextF
  by_cases h0 : i < 0
  · rw [if_neg (by omega)]
    unfold prog_Next.u prog_Next.s ref12_Next.u ref12_Next.s
    rw [decide_eq_true h0]
    exact ⟨rfl, rfl⟩
  by_cases h1 : i ≥ ((List.length l : Nat) : Int)
  · rw [if_neg (by omega)]
    unfold prog_Next.u prog_Next.s ref12_Next.u ref12_Next.s
    rw [decide_eq_false h0, decide_eq_true h1]
    exact ⟨rfl, rfl⟩
  obtain ⟨n, rfl⟩ := Int.eq_ofNat_of_zero_le (show 0 ≤ i by omega)
  cases hk : okPr l with
  | false =>
    rw [if_neg (by simp)]
    unfold prog_Next.u prog_Next.s ref12_Next.u ref12_Next.s
    rw [decide_eq_false h0, decide_eq_false h1, fine_u h, reffine_u h, hk]
    exact ⟨rfl, rfl⟩
  | true =>
    rw [if_pos ⟨by omega, by omega, rfl⟩, Int.toNat_natCast]
    refine ⟨?_, refnext_u h hl hk (by omega)⟩
    unfold prog_Next.u prog_Next.s
    rw [decide_eq_false h0, decide_eq_false h1, fine_u h, hk, cond_false, cond_false, Option.bind_some, Bool.not_true, cond_false, next_u h hl (by omega)]
    rfl
theorem law_ProgGoes {l : List In} (h : PrOK l) (i : Int) : law12_ProgGoes.u l i = some true := by
  unfold law12_ProgGoes.u law12_ProgGoes.w
  by_cases hl : ((l.length : Nat) : Int) > 70
  · simp only [hl, decide_true, cond_true, alive12, Option.bind_some]
  · have key : ∃ ws : List Bool, prog_Reach.u l = some ws ∧ ref12_Reach.u l = some ws ∧ ws.length ≤ 70 := by
      cases hk : okPr l with
      | false => exact ⟨[], reach_none h hk, refreach_none h hk, by simp⟩
      | true =>
        have hf := finePr_of h hk
        obtain ⟨w1, e1, g1⟩ := reach_good hf
        obtain ⟨w2, e2, g2⟩ := refreach_good hf
        have := g1.unique g2
        subst this
        exact ⟨w1, e1, e2, by rw [g1.len]; omega⟩
    obtain ⟨ws, e1, e2, e3⟩ := key
    obtain ⟨n1, n2⟩ := Next_u h (by omega) i
    simp only [hl, decide_false, cond_false, e1, e2, n1, n2, Option.bind_some, bne_self_eq_false, same_u (show (NextF l i).length ≤ 1000000 by have := NextF_len l i; omega), Bool.not_true, dec_len e3 (by decide), cond_true]
    exact goes_go ws ws 0 rfl
theorem row_ProgGoes (xs : Args [.slice tyIn, .int .i64]) (h : fitsA _ xs) : law12_ProgGoes.u xs.1 xs.2.1 = some true := law_ProgGoes (prOK_of h.1) _
end Go.Proofs.YthamolhikhcilaaDoor.K

/- Arguments: what is read of them is data. -/
import Derived.Test.YtmphlhnpichonaaDoorK30
import Derived.OpenShut
import Derived.DataReads
set_option maxHeartbeats 400000
set_option linter.unusedVariables false
set_option linter.unusedSimpArgs false
namespace Go.Proofs.YtmphlhnpichonaaDoor.K
open Go Go.RowKit

mutual
/-- Does a type's row, and all below it, fit the type of data? -/
def dOK (P : Program) : ETy → TypeId → Bool
  | .int k, t => match P.underlying t with | some (.int k') => decide (k' = k) | _ => false
  | .bool, t => match P.underlying t with | some .bool => true | _ => false
  | .str, t => match P.underlying t with | some .string => true | _ => false
  | .arr n e, t => match P.underlying t with | some (.array m te) => m == n && P.cellsOf te == e.size && P.cellsOf t == n * e.size && dOK P e te | _ => false
  | .slice e, t => match P.underlying t with | some (.slice te) => P.cellsOf te == e.size && decide (0 < e.size) && dOK P e te | _ => false
  | .unit, t => match P.underlying t with | some (.struct fs) => P.cellsOf t == 0 && fs.toList.isEmpty | _ => false
  | .pair a b, t => match P.underlying t with
    | some (.struct fs) => P.cellsOf t == a.size + b.size && (match fs.toList with
      | f :: r => f.offset == 0 && P.cellsOf f.type == a.size && dOK P a f.type && dF P b (0 + a.size) r
      | [] => false)
    | _ => false
  | .raw _, _ => false
def dF (P : Program) : ETy → Nat → List Field → Bool
  | .unit, _, r => r.isEmpty
  | .pair a b, o, f :: r => f.offset == o && P.cellsOf f.type == a.size && dOK P a f.type && dF P b (o + a.size) r
  | _, _, _ => false
end

theorem dF_of {P : Program} {a b : ETy} {l : List Field} (h : (match l with
      | f :: r => f.offset == 0 && P.cellsOf f.type == a.size && dOK P a f.type && dF P b (0 + a.size) r
      | [] => false) = true) : dF P (.pair a b) 0 l = true := by
  cases l with
  | nil => cases h
  | cons f r => unfold dF; exact h

/-- What may be handed over: numbers of their kinds, arrays of their lengths. -/
def fits : (τ : ETy) → τ.I → Prop
  | .int k, n => (Lit.int k n).wf = true
  | .bool, _ => True
  | .str, s => s.size ≤ maxLen
  | .raw _, _ => True
  | .unit, _ => True
  | .pair a b, x => fits a x.1 ∧ fits b x.2
  | .arr n e, xs => List.length xs = n ∧ ∀ x ∈ xs, fits e x
  | .slice e, xs => List.length xs ≤ maxLen ∧ ∀ x ∈ xs, fits e x

theorem RepC.more {w : World} {S S' : Nat → Nat → Prop} (hs : ∀ b o, S b o → S' b o) {τ : ETy} {x : τ.I} {cs : List Value} (h : RepC w S τ x cs) : RepC w S' τ x cs :=
  RepC.safe ⟨hs, fun _ _ _ => rfl⟩ h

theorem chunks {α : Type} {R : α → List Value → Prop} {Q : α → Prop} {s : Nat} : ∀ (n : Nat) (cs : List Value), cs.length = n * s → (∀ i, i < n → ∃ y, R y ((cs.drop (i * s)).take s) ∧ Q y) → ∃ ys : List α, ys.length = n ∧ RepL R ys cs ∧ ∀ y ∈ ys, Q y
  | 0, cs, hl, _ => ⟨[], rfl, List.eq_nil_of_length_eq_zero (by simpa using hl), by simp⟩
  | n + 1, cs, hl, h => by
    obtain ⟨y, h1, h2⟩ := h 0 (by omega)
    obtain ⟨ys, e1, e2, e3⟩ := chunks (R := R) (Q := Q) (s := s) n (cs.drop s) (by rw [List.length_drop, hl, Nat.succ_mul]; omega) (fun i hi => by
      obtain ⟨z, z1, z2⟩ := h (i + 1) (by omega)
      refine ⟨z, ?_, z2⟩
      rw [List.drop_drop]
      rwa [show s + i * s = (i + 1) * s by rw [Nat.succ_mul]; omega])
    refine ⟨y :: ys, by simp [e1], ⟨cs.take s, cs.drop s, (List.take_append_drop s cs).symm, by simpa using h1, e2⟩, ?_⟩
    intro z hz
    rcases List.mem_cons.1 hz with rfl | hz
    · exact h2
    · exact e3 z hz

section
variable {H : Type} {enc : TypeId × Value → H} {P : Program} {w : World} {base : Nat} {spare : Nat → Bool} {held : Bool}

theorem take_drop_all {α : Type} {l : List α} {n : Nat} (h : l.length = n) : (l.drop 0).take n = l := by
  rw [List.drop_zero, List.take_of_length_le (by omega)]

theorem add_add (a : Addr) (m n : Nat) : (a.add m).add n = a.add (m + n) := by
  unfold Addr.add
  by_cases h1 : m = 0
  · subst h1; simp
  · by_cases h2 : n = 0
    · subst h2; simp
    · simp [h1, h2, Nat.add_assoc]

theorem rows_rep {α : Type} {R : α → List Value → Prop} {Q : α → Prop} {s : Nat} : ∀ (n : Nat) {a : Addr}, (∀ i, i < n → ∃ (y : α) (ci : List Value), R y ci ∧ Q y ∧ w.cells? base (a.add (i * s)) s = some ci) →
    ∃ (ys : List α) (ds : List Value), ys.length = n ∧ RepL R ys ds ∧ (∀ y ∈ ys, Q y) ∧ ∀ j (h : j < ds.length), w.cell? (a.add j) = some ds[j]
  | 0, a, _ => ⟨[], [], rfl, rfl, by simp, by simp⟩
  | n + 1, a, h => by
    obtain ⟨y, c, h1, h2, h3⟩ := h 0 (by omega)
    obtain ⟨_, hc, hcell⟩ := World.cells?_some h3
    obtain ⟨ys, ds, e1, e2, e3, e4⟩ := rows_rep (R := R) (Q := Q) (s := s) n (a := a.add s) (fun i hi => by
      obtain ⟨z, d, z1, z2, z3⟩ := h (i + 1) (by omega)
      refine ⟨z, d, z1, z2, ?_⟩
      rw [add_add, show s + i * s = (i + 1) * s by rw [Nat.succ_mul]; omega]
      exact z3)
    refine ⟨y :: ys, c ++ ds, by simp [e1], ⟨c, ds, rfl, h1, e2⟩, ?_, fun j hj => ?_⟩
    · intro z hz
      rcases List.mem_cons.1 hz with rfl | hz
      · exact h2
      · exact e3 z hz
    · rcases Nat.lt_or_ge j c.length with hlt | hge
      · rw [List.getElem_append_left hlt]
        have := hcell j (by omega)
        rw [Nat.zero_mul, add_add, Nat.zero_add] at this
        rw [this, List.getElem?_eq_getElem hlt]
      · rw [List.getElem_append_right hge]
        have hlt : j - c.length < ds.length := by rw [List.length_append] at hj; omega
        have := e4 (j - c.length) hlt
        rw [add_add, show s + (j - c.length) = j by omega] at this
        exact this

mutual
theorem trod_rep : ∀ {τ : ETy} {t : TypeId} {fuel : Nat} {cs : List Value} {x : DataW H × List MemPlace}, dOK P τ t = true → DataW.trod enc P w base spare held fuel t cs = some x →
    ∃ y : τ.I, RepC w (fun b o => MemPlace.cell b o ∈ x.2) τ y cs ∧ fits τ y
  | .int k, t, fuel, cs, x, hd, h => by
    unfold dOK at hd
    split at hd
    · rename_i k' hu
      obtain rfl : k' = k := by simpa using hd
      obtain ⟨n, rfl, rfl, hw⟩ := DataW.trod_int hu h
      exact ⟨n, rfl, hw⟩
    · cases hd
  | .bool, t, fuel, cs, x, hd, h => by
    unfold dOK at hd
    split at hd
    · rename_i hu
      obtain ⟨b, rfl, rfl⟩ := DataW.trod_bool hu h
      exact ⟨b, rfl, trivial⟩
    · cases hd
  | .str, t, fuel, cs, x, hd, h => by
    unfold dOK at hd
    split at hd
    · rename_i hu
      obtain ⟨b, rfl, rfl, hs⟩ := DataW.trod_string hu h
      exact ⟨b, rfl, hs⟩
    · cases hd
  | .raw k, t, fuel, cs, x, hd, h => by unfold dOK at hd; cases hd
  | .unit, t, fuel, cs, x, hd, h => by
    unfold dOK at hd
    split at hd
    · rename_i fs hu
      simp only [Bool.and_eq_true, beq_iff_eq] at hd
      obtain ⟨xs, n, _, rfl, hl, _⟩ := DataW.trod_struct hu h
      exact ⟨(), List.eq_nil_of_length_eq_zero (by rw [hl, hd.1]), trivial⟩
    · cases hd
  | .pair a b, t, fuel, cs, x, hd, h => by
    unfold dOK at hd
    split at hd
    · rename_i fs hu
      simp only [Bool.and_eq_true, beq_iff_eq] at hd
      obtain ⟨xs, n, _, rfl, hl, hxs, hf⟩ := DataW.trod_struct hu h
      have := trodF_rep (b := .pair a b) (o := 0) (r := fs.toList) (xs := xs) (cs := cs) (fuel := n) (dF_of hd.2) (by rw [hl, hd.1, Nat.zero_add]; rfl) (by rw [hxs, Array.length_toList]) (fun i f hi => by
        simpa using hf i f (by simpa using hi))
      simpa using this
    · cases hd
  | .arr n e, t, fuel, cs, x, hd, h => by
    unfold dOK at hd
    split at hd
    · rename_i m te hu
      simp only [Bool.and_eq_true, beq_iff_eq] at hd
      obtain ⟨⟨⟨rfl, h1⟩, h2⟩, h3⟩ := hd
      obtain ⟨xs, m', _, rfl, hl, hxs, hf⟩ := DataW.trod_array hu h
      obtain ⟨ys, e1, e2, e3⟩ := chunks (R := RepC w (fun b o => MemPlace.cell b o ∈ xs.flatMap (·.2)) e) (Q := fits e) (s := e.size) m cs (by rw [hl, h2]) (fun i hi => by
        have hi2 := hf i hi
        rw [h1] at hi2
        have hlt : i < xs.length := by omega
        rw [List.getElem?_eq_getElem hlt] at hi2
        obtain ⟨y, y1, y2⟩ := trod_rep (τ := e) h3 hi2
        exact ⟨y, y1.more (fun b o hb => List.mem_flatMap.2 ⟨xs[i], List.getElem_mem hlt, hb⟩), y2⟩)
      exact ⟨ys, ⟨e1, e2⟩, e1, e3⟩
    · cases hd
  | .slice e, t, fuel, cs, x, hd, h => by
    unfold dOK at hd
    split at hd
    · rename_i te hu
      simp only [Bool.and_eq_true, beq_iff_eq, decide_eq_true_eq] at hd
      obtain ⟨⟨h1, h2⟩, h3⟩ := hd
      rcases DataW.trod_slice hu h with ⟨rfl, rfl⟩ | ⟨a, len, cap, elems, rest, n, _, rfl, rfl, hb, hl, hm, hlen, hel, _, _⟩
      · exact ⟨[], ⟨none, 0, rfl, Nat.le_refl _, .inl rfl⟩, Nat.zero_le _, fun y hy => by cases hy⟩
      · rw [h1] at hel ⊢
        have each : ∀ i, i < len → ∃ (y : e.I) (ci : List Value), RepC w (fun b o => MemPlace.cell b o ∈ MemPlace.row a ((elems.length + rest.length) * e.size) ++ (elems ++ rest).flatMap (·.2)) e y ci ∧ fits e y ∧ w.cells? base (a.add (i * e.size)) e.size = some ci := by
          intro i hi
          have hlt : i < elems.length := by omega
          have q := hel i hi
          rw [List.getElem?_eq_getElem hlt] at q
          obtain ⟨ci, q1, q2⟩ := Option.bind_eq_some_iff.1 q
          obtain ⟨y, y1, y2⟩ := trod_rep (τ := e) h3 q2
          exact ⟨y, ci, y1.more (fun b o hb => List.mem_append_right _ (List.mem_flatMap.2 ⟨elems[i], List.mem_append_left _ (List.getElem_mem hlt), hb⟩)), y2, q1⟩
        obtain ⟨ys, ds, e1, e2, e3, e4⟩ := rows_rep (w := w) (base := base) (a := a) (s := e.size) (R := RepC w (fun b o => MemPlace.cell b o ∈ MemPlace.row a ((elems.length + rest.length) * e.size) ++ (elems ++ rest).flatMap (·.2)) e) (Q := fits e) len each
        refine ⟨ys, ⟨some a, cap, by rw [e1], by rw [e1]; exact hl, ?_⟩, by rw [e1]; omega, e3⟩
        cases hys : ys with
        | nil => exact .inl rfl
        | cons y0 yt =>
          right
          rw [← hys]
          have hd0 : ds.length = ys.length * e.size := RepL.length (fun x c h => RepC.length h) e2
          have hpos : 0 < ds.length := by rw [hd0, hys, List.length_cons, Nat.succ_mul]; omega
          have hsp : a.spot = none := by
            have := e4 0 hpos
            unfold World.cell? at this
            cases hs : a.spot with
            | none => rfl
            | some q =>
              have hq : (a.add 0).spot.isSome = true := by unfold Addr.add; rw [if_pos rfl, hs]; rfl
              split at this
              · rw [hq] at this; simp at this
              · cases this
          obtain ⟨ab, ao, asp⟩ := a
          simp only at hsp
          subst hsp
          refine ⟨ab, ao, ds, rfl, e2, fun j hj => ⟨?_, ?_⟩⟩
          · have := e4 j hj
            rw [add_at] at this
            exact this
          · refine List.mem_append_left _ (List.mem_map.2 ⟨j, List.mem_range.2 ?_, rfl⟩)
            rw [hd0, e1, ← hlen] at hj
            rw [Nat.add_mul]
            omega
    · cases hd
theorem trodF_rep : ∀ {b : ETy} {o : Nat} {r : List Field} {xs : List (DataW H × List MemPlace)} {cs : List Value} {fuel : Nat}, dF P b o r = true → cs.length = o + b.size → xs.length = r.length →
    (∀ (i : Nat) (f : Field), r[i]? = some f → DataW.trod enc P w base spare held fuel f.type ((cs.drop f.offset).take (P.cellsOf f.type)) = xs[i]?) →
    ∃ y : b.I, RepC w (fun b' o' => MemPlace.cell b' o' ∈ xs.flatMap (·.2)) b y (cs.drop o) ∧ fits b y
  | .unit, o, r, xs, cs, fuel, hd, hl, _, _ => by
    refine ⟨(), ?_, trivial⟩
    show List.drop o cs = []
    rw [List.drop_eq_nil_of_le (by rw [hl]; exact Nat.le_refl _)]
  | .pair a b, o, [], xs, cs, fuel, hd, hl, hn, hf => by unfold dF at hd; cases hd
  | .pair a b, o, f :: r, xs, cs, fuel, hd, hl, hn, hf => by
    unfold dF at hd
    simp only [Bool.and_eq_true, beq_iff_eq] at hd
    obtain ⟨⟨⟨h1, h2⟩, h3⟩, h4⟩ := hd
    have hsz : (ETy.pair a b).size = a.size + b.size := rfl
    have h0 := hf 0 f rfl
    rw [h1, h2] at h0
    cases hx : xs with
    | nil =>
      rw [hx] at hn
      cases hn
    | cons x0 xs' =>
      rw [hx] at h0
      obtain ⟨y, y1, y2⟩ := trod_rep (τ := a) h3 (show _ = some x0 from h0)
      obtain ⟨z, z1, z2⟩ := trodF_rep (b := b) (o := o + a.size) (r := r) (xs := xs') (cs := cs) (fuel := fuel) h4 (by rw [hl, hsz]; omega) (by rw [hx] at hn; simpa using hn) (fun i g hg => by
        have := hf (i + 1) g (by simpa using hg)
        rw [this, hx]; rfl)
      refine ⟨(y, z), ⟨(cs.drop o).take a.size, cs.drop (o + a.size), ?_, y1.more (fun b o hb => ?_), z1.more (fun b o hb => ?_)⟩, y2, z2⟩
      · rw [← List.drop_drop, List.take_append_drop]
      · exact List.mem_flatMap.2 ⟨x0, by simp, hb⟩
      · obtain ⟨q, q1, q2⟩ := List.mem_flatMap.1 hb
        exact List.mem_flatMap.2 ⟨q, List.mem_cons_of_mem _ q1, q2⟩
  | .int _, _, _, _, _, _, hd, _, _, _ | .bool, _, _, _, _, _, hd, _, _, _ | .str, _, _, _, _, _, hd, _, _, _ | .raw _, _, _, _, _, _, hd, _, _, _ | .arr _ _, _, _, _, _, _, hd, _, _, _ | .slice _, _, _, _, _, _, hd, _, _, _ => by
    unfold dF at hd; cases hd
end
end
end Go.Proofs.YtmphlhnpichonaaDoor.K

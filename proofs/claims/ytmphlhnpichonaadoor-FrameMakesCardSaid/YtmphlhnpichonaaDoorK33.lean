/- Tables: what a row says of a package's variable, as data. -/
import Derived.Test.YtmphlhnpichonaaDoorK32
import Derived.LaidLaws
import Derived.Lay
set_option maxHeartbeats 400000
set_option linter.unusedVariables false
set_option linter.unusedSimpArgs false
namespace Go.Proofs.YtmphlhnpichonaaDoor.K
open Go Go.RowKit

/-- The cells of a datum with nothing behind it. -/
def cellsI : (τ : ETy) → τ.I → List Value
  | .int k, n => [.int k n]
  | .bool, b => [.bool b]
  | .str, s => [.string s]
  | .raw _, x => [x]
  | .unit, _ => []
  | .pair a b, x => cellsI a x.1 ++ cellsI b x.2
  | .arr n e, xs => List.flatMap (cellsI e) xs
  | .slice _, _ => []
def okI : (τ : ETy) → τ.I → Bool
  | .int _, _ => true
  | .bool, _ => true
  | .str, _ => true
  | .raw _, _ => false
  | .unit, _ => true
  | .pair a b, x => okI a x.1 && okI b x.2
  | .arr n e, xs => List.length xs == n && List.all xs (okI e)
  | .slice _, _ => false
theorem rep_cells {w : World} {S : Nat → Nat → Prop} : ∀ (τ : ETy) (x : τ.I), okI τ x = true → RepC w S τ x (cellsI τ x)
  | .int k, n, _ => rfl
  | .bool, b, _ => rfl
  | .str, s, _ => rfl
  | .raw _, x, h => by cases h
  | .unit, _, _ => rfl
  | .pair a b, x, h => by
    simp only [okI, Bool.and_eq_true] at h
    exact ⟨_, _, rfl, rep_cells a x.1 h.1, rep_cells b x.2 h.2⟩
  | .arr n e, xs, h => by
    simp only [okI, Bool.and_eq_true, beq_iff_eq, List.all_eq_true] at h
    refine ⟨h.1, ?_⟩
    have key : ∀ l : List e.I, (∀ x ∈ l, okI e x = true) → RepL (RepC w S e) l (List.flatMap (cellsI e) l) := by
      intro l
      induction l with
      | nil => intro _; rfl
      | cons y l ih => intro hl; exact ⟨_, _, List.flatMap_cons, rep_cells e y (hl y (by simp)), ih fun z hz => hl z (List.mem_cons_of_mem _ hz)⟩
    exact key xs h.2
  | .slice _, _, h => by cases h

def flatT : ETy → Bool
  | .raw _ => false
  | .slice _ => false
  | .pair a b => flatT a && flatT b
  | .arr _ e => flatT e
  | _ => true
/-- The cells that a laid datum tells. -/
def flatL : ETy → DataW Unit → List Value
  | .int _, .lit x => [x.toCell]
  | .bool, .lit x => [x.toCell]
  | .str, .lit x => [x.toCell]
  | .pair a b, .agg (d :: ds) => flatL a d ++ flatL b (.agg ds)
  | .arr _ e, .agg ds => ds.flatMap (flatL e)
  | _, _ => []

theorem chunks_flat {α : Type} {f : α → List Value} {s : Nat} : ∀ (xs : List α) (cs : List Value), cs.length = xs.length * s → (∀ i (h : i < xs.length), (cs.drop (i * s)).take s = f xs[i]) → cs = xs.flatMap f
  | [], cs, hl, _ => List.eq_nil_of_length_eq_zero (by simpa using hl)
  | x :: xs, cs, hl, h => by
    have h0 := h 0 (by simp)
    have hr := chunks_flat (f := f) (s := s) xs (cs.drop s) (by rw [List.length_drop, hl, List.length_cons, Nat.succ_mul]; omega) (fun i hi => by
      have := h (i + 1) (by simpa using hi)
      rw [List.drop_drop, show s + i * s = (i + 1) * s by rw [Nat.succ_mul]; omega]
      simpa using this)
    rw [List.flatMap_cons, ← hr]
    have h0' : cs.take s = f x := by simpa using h0
    rw [← h0', List.take_append_drop]

section
variable {P : Program} {w : World} {base : Nat} {spare : Nat → Bool} {held : Bool}
mutual
theorem trod_flat : ∀ {τ : ETy} {t : TypeId} {fuel : Nat} {cs : List Value} {x : DataW Unit × List MemPlace}, dOK P τ t = true → flatT τ = true → DataW.trod (fun _ => ()) P w base spare held fuel t cs = some x → cs = flatL τ x.1
  | .int k, t, fuel, cs, x, hd, _, h => by
    unfold dOK at hd
    split at hd
    · rename_i k' hu
      obtain ⟨n, rfl, rfl, hw⟩ := DataW.trod_int hu h
      rfl
    · cases hd
  | .bool, t, fuel, cs, x, hd, _, h => by
    unfold dOK at hd
    split at hd
    · rename_i hu
      obtain ⟨b, rfl, rfl⟩ := DataW.trod_bool hu h
      rfl
    · cases hd
  | .str, t, fuel, cs, x, hd, _, h => by
    unfold dOK at hd
    split at hd
    · rename_i hu
      obtain ⟨b, rfl, rfl, hs⟩ := DataW.trod_string hu h
      simp [flatL, Lit.toCell]
    · cases hd
  | .raw k, t, fuel, cs, x, hd, _, h => by unfold dOK at hd; cases hd
  | .slice e, t, fuel, cs, x, _, hf, h => by cases hf
  | .unit, t, fuel, cs, x, hd, _, h => by
    unfold dOK at hd
    split at hd
    · rename_i fs hu
      simp only [Bool.and_eq_true, beq_iff_eq] at hd
      obtain ⟨xs, n, _, rfl, hl, _⟩ := DataW.trod_struct hu h
      have e : cs = [] := List.eq_nil_of_length_eq_zero (by rw [hl, hd.1])
      rw [e]
      simp [flatL]
    · cases hd
  | .pair a b, t, fuel, cs, x, hd, hf, h => by
    unfold dOK at hd
    split at hd
    · rename_i fs hu
      simp only [Bool.and_eq_true, beq_iff_eq] at hd
      obtain ⟨xs, n, _, rfl, hl, hxs, hfs⟩ := DataW.trod_struct hu h
      have := trodF_flat (b := .pair a b) (o := 0) (r := fs.toList) (xs := xs) (cs := cs) (fuel := n) (dF_of hd.2) hf (by rw [hl, hd.1, Nat.zero_add]; rfl) (by rw [hxs, Array.length_toList]) (fun i f hi => by
        simpa using hfs i f (by simpa using hi))
      simpa using this
    · cases hd
  | .arr n e, t, fuel, cs, x, hd, hf, h => by
    unfold dOK at hd
    split at hd
    · rename_i m te hu
      simp only [Bool.and_eq_true, beq_iff_eq] at hd
      obtain ⟨⟨⟨rfl, h1⟩, h2⟩, h3⟩ := hd
      obtain ⟨xs, m', _, rfl, hl, hxs, hfs⟩ := DataW.trod_array hu h
      have := chunks_flat (f := fun y : DataW Unit × List MemPlace => flatL e y.1) (s := e.size) xs cs (by rw [hl, h2, hxs]) (fun i hi => by
        have hi2 := hfs i (by omega)
        rw [h1, List.getElem?_eq_getElem hi] at hi2
        exact trod_flat (τ := e) h3 hf hi2)
      rw [this]
      simp only [flatL, List.flatMap_map]
    · cases hd
theorem trodF_flat : ∀ {b : ETy} {o : Nat} {r : List Field} {xs : List (DataW Unit × List MemPlace)} {cs : List Value} {fuel : Nat}, dF P b o r = true → flatT b = true → cs.length = o + b.size → xs.length = r.length →
    (∀ (i : Nat) (f : Field), r[i]? = some f → DataW.trod (fun _ => ()) P w base spare held fuel f.type ((cs.drop f.offset).take (P.cellsOf f.type)) = xs[i]?) → cs.drop o = flatL b (.agg (xs.map (·.1)))
  | .unit, o, r, xs, cs, fuel, hd, _, hl, _, _ => by
    rw [List.drop_eq_nil_of_le (by rw [hl]; exact Nat.le_refl _)]
    simp [flatL]
  | .pair a b, o, [], xs, cs, fuel, hd, _, hl, hn, hf => by unfold dF at hd; cases hd
  | .pair a b, o, f :: r, xs, cs, fuel, hd, ht, hl, hn, hf => by
    unfold dF at hd
    simp only [Bool.and_eq_true, beq_iff_eq] at hd
    obtain ⟨⟨⟨h1, h2⟩, h3⟩, h4⟩ := hd
    simp only [flatT, Bool.and_eq_true] at ht
    have hsz : (ETy.pair a b).size = a.size + b.size := rfl
    have h0 := hf 0 f rfl
    rw [h1, h2] at h0
    cases hx : xs with
    | nil => rw [hx] at hn; cases hn
    | cons x0 xs' =>
      rw [hx] at h0
      have q1 := trod_flat (τ := a) h3 ht.1 (show _ = some x0 from h0)
      have q2 := trodF_flat (b := b) (o := o + a.size) (r := r) (xs := xs') (cs := cs) (fuel := fuel) h4 ht.2 (by rw [hl, hsz]; omega) (by rw [hx] at hn; simpa using hn) (fun i g hg => by
        have := hf (i + 1) g (by simpa using hg)
        rw [this, hx]; rfl)
      simp only [List.map_cons, flatL]
      rw [← q1, ← q2, ← List.drop_drop, List.take_append_drop]
  | .int _, _, _, _, _, _, hd, _, _, _, _ | .bool, _, _, _, _, _, hd, _, _, _, _ | .str, _, _, _, _, _, hd, _, _, _, _ | .raw _, _, _, _, _, _, hd, _, _, _, _ | .arr _ _, _, _, _, _, _, hd, _, _, _, _ | .slice _, _, _, _, _, _, hd, _, _, _, _ => by
    unfold dF at hd; cases hd
end

theorem laid_at {n : String} {d : DataW Unit} : ∀ {l : List (String × DataW Unit)} {ps : List MemPlace}, (n, d) ∈ l → DataW.LaidVars P w l ps →
    ∃ g t cs fuel p, P.globalNamed n = some g ∧ (P.globals[g]?).map (·.type) = some t ∧ w.var? P n = some cs ∧ DataW.trod (fun _ => ()) P w 0 (fun _ => true) false fuel t cs.toList = some (d, p)
  | [], ps, h, _ => by cases h
  | (n', d') :: l, ps, h, hl => by
    obtain ⟨g, t, cs, fuel, p, q, h1, h2, h3, h4, h5, _⟩ := hl
    rcases List.mem_cons.1 h with e | h
    · cases e; exact ⟨g, t, cs, fuel, p, h1, h2, h3, h4⟩
    · exact laid_at h h5

/-- A table of a row's list, as data. -/
theorem tab_laid {n : String} {d : DataW Unit} {l : List (String × DataW Unit)} {g : Nat} {t : TypeId} {τ : ETy} {x : τ.I} (hm : (n, d) ∈ l) (h : laidMet P l w) (hg : P.globalNamed n = some g) (ht : (P.globals[g]?).map (·.type) = some t)
    (hd : dOK P τ t = true) (hf : flatT τ = true) (hx : okI τ x = true) (he : flatL τ d = cellsI τ x) : ∃ cs el fr, w.heap[g]? = some (.cells (cs : List Value).toArray el fr) ∧ ∀ S, RepC w S τ x cs := by
  obtain ⟨ps, hl, _⟩ := h
  obtain ⟨g', t', cs, fuel, p, h1, h2, h3, h4⟩ := laid_at hm hl
  rw [hg] at h1; cases h1
  rw [ht] at h2; cases h2
  have hcs := trod_flat hd hf h4
  unfold World.var? at h3
  rw [hg] at h3
  simp only [Option.bind_some] at h3
  split at h3
  · rename_i cs' el fr hh
    cases h3
    refine ⟨cs.toList, el, fr, by simpa using hh, fun S => ?_⟩
    rw [hcs]
    show RepC w S τ x (flatL τ d)
    rw [he]
    exact rep_cells τ x hx
  · cases h3
end

theorem glob_of {C : Cfg} {W : World} (h : ∀ g d, C.G g = some d → ∃ cs el fr, W.heap[g]? = some (.cells (cs : List Value).toArray el fr) ∧ ∀ S, RepC W S d.τ d.x cs) :
    GlobOK C W.heap.size W (fun b _ => (C.G b).isSome = true ∧ b < W.heap.size) := by
  intro g d hg
  obtain ⟨cs, el, fr, h1, h2⟩ := h g d hg
  have hlt : g < W.heap.size := (Array.getElem?_eq_some_iff.1 h1).1
  exact ⟨hlt, cs, el, fr, h1, h2 _, fun j _ => ⟨by rw [hg]; rfl, hlt⟩⟩
end Go.Proofs.YtmphlhnpichonaaDoor.K

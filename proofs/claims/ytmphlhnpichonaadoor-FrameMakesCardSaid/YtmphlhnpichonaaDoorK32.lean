/- Rows: from a law's contract to what its row asks. -/
import Derived.Test.YtmphlhnpichonaaDoorK31
import Derived.Carry
import Derived.ProofKit
set_option maxHeartbeats 400000
set_option linter.unusedVariables false
set_option linter.unusedSimpArgs false
namespace Go.Proofs.YtmphlhnpichonaaDoor.K
open Go Go.RowKit Go.ChangeShapes Go.WideShapes

/-- Arguments, one behind the other. -/
@[reducible] def Args : List ETy → Type
  | [] => Unit
  | τ :: r => τ.I × Args r
def avsOf : (l : List ETy) → Args l → List AV
  | [], _ => []
  | τ :: r, x => .v τ x.1 :: avsOf r x.2
def fitsA : (l : List ETy) → Args l → Prop
  | [], _ => True
  | τ :: r, x => fits τ x.1 ∧ fitsA r x.2
def dOKs (P : Program) : List ETy → List TypeId → Bool
  | [], [] => true
  | τ :: r, t :: ts => dOK P τ t && dOKs P r ts
  | _, _ => false

section
variable {H : Type} {enc : TypeId × Value → H} {P : Program} {w : World}

theorem val_of_cells {r : Reach} {b : Nat} {τ : ETy} {t : TypeId} {v : Value} (hd : dOK P τ t = true) (hv : Value.okWide P w r b t v) : v = valOf τ v.cells.toList := by
  cases τ with
  | int k =>
    unfold dOK at hd; split at hd
    · rename_i hu; obtain ⟨n, rfl⟩ := okWide_int hu hv; rfl
    · cases hd
  | bool =>
    unfold dOK at hd; split at hd
    · rename_i hu; obtain ⟨n, rfl⟩ := okWide_bool hu hv; rfl
    · cases hd
  | str =>
    unfold dOK at hd; split at hd
    · rename_i hu; obtain ⟨n, rfl⟩ := okWide_string hu hv; rfl
    · cases hd
  | raw k => unfold dOK at hd; cases hd
  | slice e =>
    unfold dOK at hd; split at hd
    · rename_i hu; obtain ⟨a, len, cap, rfl⟩ := okWide_slice hu hv; rfl
    · cases hd
  | unit =>
    unfold dOK at hd; split at hd
    · rename_i hu; obtain ⟨cs, rfl, _⟩ := okWide_struct hu hv; rfl
    · cases hd
  | pair a b =>
    unfold dOK at hd; split at hd
    · rename_i hu; obtain ⟨cs, rfl, _⟩ := okWide_struct hu hv; rfl
    · cases hd
  | arr n e =>
    unfold dOK at hd; split at hd
    · rename_i hu
      unfold Value.okWide at hv
      rw [hu] at hv
      obtain ⟨cs, rfl, _⟩ := hv
      rfl
    · cases hd

theorem RepAs.more {S S' : Nat → Nat → Prop} (hs : ∀ b o, S b o → S' b o) : ∀ {l : List ETy} {xs : Args l} {us : List Value}, RepAs m0 [] w S (avsOf l xs) us → RepAs m0 [] w S' (avsOf l xs) us
  | [], xs, us, h => by simp only [avsOf, RepAs] at h ⊢; exact h
  | τ :: r, xs, us, h => by
    simp only [avsOf, RepAs] at h ⊢
    obtain ⟨u, q, rfl, h1, h2⟩ := h
    rw [rep_v] at h1
    obtain ⟨cs, h3, h4⟩ := h1
    exact ⟨u, q, rfl, by rw [rep_v]; exact ⟨cs, h3.more hs, h4⟩, RepAs.more hs h2⟩

theorem args_rep {r0 : Reach} {b0 : Nat} {base : Nat} {spare : Nat → Bool} {held : Bool} : ∀ {l : List ETy} {ts : List TypeId} {vs : List Value} {ds : List (DataW H)} {ps : List MemPlace}, dOKs P l ts = true → (∀ (j : Nat) t v, ts[j]? = some t → vs[j]? = some v → Value.okWide P w r0 b0 t v) → DataW.TrodAll enc P w base spare held ts vs ds ps →
    ∃ xs : Args l, RepAs m0 [] w (fun b o => MemPlace.cell b o ∈ ps) (avsOf l xs) vs ∧ fitsA l xs
  | [], [], vs, ds, ps, _, _, h => by
    obtain ⟨rfl, rfl, rfl⟩ := trodAll_nil h
    exact ⟨(), by simp only [avsOf, RepAs], trivial⟩
  | τ :: r, t :: ts, vs, ds, ps, hd, hv, h => by
    simp only [dOKs, Bool.and_eq_true] at hd
    obtain ⟨v, vs1, d, ds1, a, b, rfl, rfl, rfl, ⟨fuel, h1⟩, h2⟩ := trodAll_cons h
    obtain ⟨y, y1, y2⟩ := trod_rep hd.1 h1
    obtain ⟨xs, x1, x2⟩ := args_rep hd.2 (fun j t' v' h1 h2 => hv (j + 1) t' v' (by simpa using h1) (by simpa using h2)) h2
    refine ⟨(y, xs), ?_, y2, x2⟩
    simp only [avsOf, RepAs]
    refine ⟨v, vs1, rfl, ?_, RepAs.more (fun b o hb => List.mem_append_right _ hb) x1⟩
    rw [rep_v]
    have hv : v = valOf τ v.cells.toList := val_of_cells hd.1 (hv 0 t v rfl rfl)
    exact ⟨v.cells.toList, y1.more (fun b o hb => List.mem_append_left _ hb), hv⟩
  | [], _ :: _, _, _, _, hd, _, _ => by cases hd
  | _ :: _, [], _, _, _, hd, _, _ => by cases hd

theorem below_all (hl : laidOutB P = true) {W W' : World} (hb : Below W.heap.size W W') : ∀ {ts : List TypeId} {vs : List Value} {ds : List (DataW H)} {ps : List MemPlace}, (ts.all fun t => P.readableRec t && decide (t < P.types.size)) = true →
    DataW.TrodAll enc P W 0 (fun _ => true) true ts vs ds ps → (∀ x ∈ ps, x.block < W.heap.size) → DataW.TrodAll enc P W' 0 (fun b => decide (b < W.heap.size)) true ts vs ds ps
  | [], vs, ds, ps, _, h, _ => by
    obtain ⟨rfl, rfl, rfl⟩ := trodAll_nil h
    exact trodAll_mk0
  | t :: ts, vs, ds, ps, hr, h, hlt => by
    simp only [List.all_cons, Bool.and_eq_true, decide_eq_true_eq] at hr
    obtain ⟨v, vs1, d, ds1, a, b, rfl, rfl, rfl, h1, h2⟩ := trodAll_cons h
    exact ⟨a, b, Below.trod hl hr.1.1 hr.1.2 h1 hb (fun x hx => hlt x (List.mem_append_left _ hx)), below_all hl hb hr.2 h2 (fun x hx => hlt x (List.mem_append_right _ hx)), rfl⟩
end

theorem GlobOK.more {C : Cfg} {B : Nat} {w : World} {S S' : Nat → Nat → Prop} (h : GlobOK C B w S) (hs : ∀ b o, S b o → S' b o) : GlobOK C B w S' :=
  fun g d hg => by
    obtain ⟨h1, cs, el, fr, h2, h3, h4⟩ := h g d hg
    exact ⟨h1, cs, el, fr, h2, h3.more hs, fun j hj => hs _ _ (h4 j hj)⟩

/-- A law, called: it returns true, and nothing of what was there is turned. -/
theorem law_calls {r0 : Reach} {b0 : Nat} {H : Type} {enc : TypeId × Value → H} {C : Cfg} {f : FuncId} {l : List ETy} {ts : List TypeId} {vs : List Value} {ds : List (DataW H)} {p : List MemPlace} {W : World} {S0 : Nat → Nat → Prop}
    (hG : GlobOK C W.heap.size W S0) (hS : ∀ b o, S0 b o → b < W.heap.size) (hd : dOKs C.P l ts = true) (hl : laidOutB C.P = true) (hr : (ts.all fun t => C.P.readableRec t && decide (t < C.P.types.size)) = true)
    (hc : ∀ xs : Args l, fitsA l xs → Contract C f (avsOf l xs) (.v .bool true)) (hv : ∀ (j : Nat) t v, ts[j]? = some t → vs[j]? = some v → Value.okWide C.P W r0 b0 t v) (hA : DataW.TrodAll enc C.P W 0 (fun _ => true) true ts vs ds p) (hlt : ∀ x ∈ p, x.block < W.heap.size) :
    Calls C.P f vs.toArray W fun e W' => e = .returned (.bool true) ∧ Below W.heap.size W W' ∧ DataW.TrodAll enc C.P W' 0 (fun b => decide (b < W.heap.size)) true ts vs ds p := by
  obtain ⟨xs, h1, h2⟩ := args_rep hd hv hA
  refine ((hc xs h2).runs W (fun b o => S0 b o ∨ MemPlace.cell b o ∈ p) vs ?_ (hG.more fun b o h => .inl h) (RepAs.more (fun b o h => .inr h) h1)).mono ?_
  · intro b o h
    rcases h with h | h
    · exact hS b o h
    · exact hlt _ h
  · rintro e W' ⟨u, S', rfl, hb, _, _, hu⟩
    rw [rep_bool] at hu
    subst hu
    exact ⟨rfl, hb, below_all hl hb hr hA hlt⟩
end Go.Proofs.YtmphlhnpichonaaDoor.K

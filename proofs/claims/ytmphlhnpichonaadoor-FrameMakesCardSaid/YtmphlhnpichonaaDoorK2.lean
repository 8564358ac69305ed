/- Reading, writing and making memory of typed data, at the level of the world. -/
import Derived.Test.YtmphlhnpichonaaDoorK1
set_option linter.unusedVariables false
set_option linter.unusedSimpArgs false
namespace Go.Proofs.YtmphlhnpichonaaDoor.K
open Go Go.RowKit

/-- The cells of the zero datum. -/
def zc : ETy → List Value
  | .int k => [.int k 0]
  | .bool => [.bool false]
  | .str => [.string ⟨#[]⟩]
  | .raw k => [k.zero]
  | .unit => []
  | .pair a b => zc a ++ zc b
  | .arr n e => (List.replicate n (zc e)).flatten
  | .slice _ => [.slice none 0 0]

def valOf (τ : ETy) (cs : List Value) : Value := if τ.agg then .agg cs.toArray else cs.headD undef

/-- A value that is a datum. -/
def RepV (w : World) (S : Nat → Nat → Prop) (τ : ETy) (x : τ.I) (v : Value) : Prop := ∃ cs, RepC w S τ x cs ∧ v = valOf τ cs

def aggD : TypeDesc → Bool
  | .struct _ | .array _ _ => true
  | _ => false

def fieldsOK (P : Program) (τ : ETy) : Nat → List Field → Bool
  | i, [] => (tyP τ [.fld i]).isNone
  | i, f :: fs => (match tyP τ [.fld i] with
      | some σ => f.offset == off τ [.fld i] && (P.info? f.type).map (·.size) == some σ.size && (P.underlying f.type).map aggD == some σ.agg
      | none => false) && fieldsOK P τ (i + 1) fs

def ETy.str? : ETy → Bool
  | .pair _ _ => true
  | .unit => true
  | _ => false

@[simp] theorem str_slice (e : ETy) : (ETy.slice e).str? = false := rfl
@[simp] theorem str_arr (n : Nat) (e : ETy) : (ETy.arr n e).str? = false := rfl
@[simp] theorem str_int (k : IntKind) : (ETy.int k).str? = false := rfl
@[simp] theorem str_str : (ETy.str).str? = false := rfl
@[simp] theorem str_bool : (ETy.bool).str? = false := rfl
@[simp] theorem str_raw (k : RK) : (ETy.raw k).str? = false := rfl

/-- What a type's row says fits the type of data. -/
def descOK (P : Program) (τ : ETy) : TypeDesc → Bool
  | .struct fs => τ.str? && fieldsOK P τ 0 fs.toList
  | .array n e => match τ with | .arr m σ => m == n && (P.info? e).map (·.size) == some σ.size && (P.underlying e).map aggD == some σ.agg | _ => false
  | .slice e => match τ with | .slice σ => (P.info? e).map (·.size) == some σ.size && (P.underlying e).map aggD == some σ.agg && (match (P.info? e).map (·.bytes) with | some b => decide (b ≤ 65536) | none => false) | _ => false
  | .int k => decide (τ = .int k)
  | .bool => decide (τ = .bool)
  | .string => decide (τ = .str)
  | .interface _ => decide (τ = .raw .iface)
  | .func .. => decide (τ = .raw .func)
  | .pointer _ => decide (τ = .raw .ptr)
  | _ => false

structure GoodTy (P : Program) (t : TypeId) (τ : ETy) : Prop where
  info : (P.info? t).map (fun i => (i.size, i.zero)) = some (τ.size, some (valOf τ (zc τ)))
  desc : (P.underlying t).map (fun d => (aggD d, descOK P τ d)) = some (τ.agg, true)

section
variable {P : Program} {w w' : World} {S S' : Nat → Nat → Prop} {t : TypeId} {τ : ETy}

theorem RepL.replicate {α : Type} {R : α → List Value → Prop} {x : α} {c : List Value} (h : R x c) : ∀ n, RepL R (List.replicate n x) (List.replicate n c).flatten
  | 0 => rfl
  | n + 1 => ⟨c, _, by simp [List.replicate_succ], h, RepL.replicate h n⟩

theorem repC_zero : ∀ τ : ETy, RepC w S τ τ.z (zc τ)
  | .int _ => rfl
  | .bool => rfl
  | .str => rfl
  | .raw k => ⟨rfl, k.zero_one⟩
  | .unit => rfl
  | .pair a b => ⟨_, _, rfl, repC_zero a, repC_zero b⟩
  | .arr n e => ⟨by simp [ETy.z], RepL.replicate (repC_zero e) n⟩
  | .slice _ => ⟨none, 0, rfl, Nat.le_refl _, .inl rfl⟩

theorem cells_of_one {u : Value} (h : u.oneCell' = true) : u.cells = #[u] := by
  cases u <;> first | rfl | (simp [Value.oneCell'] at h)

theorem cells_valOf {x : τ.I} {cs : List Value} (h : RepC w S τ x cs) : (valOf τ cs).cells = cs.toArray := by
  unfold valOf
  split
  · rfl
  · rename_i ha
    have hl := h.length
    have h1 := h.one
    cases τ <;> simp [ETy.agg] at ha <;> (simp only [ETy.size] at hl; obtain ⟨c, rfl⟩ := List.length_eq_one_iff.1 hl; simpa using cells_of_one (h1 c (by simp)))

theorem GoodTy.size (h : GoodTy P t τ) : ∃ i, P.info? t = some i ∧ i.size = τ.size ∧ i.zero = some (valOf τ (zc τ)) := by
  have := h.info
  cases hi : P.info? t with
  | none => simp [hi] at this
  | some i => simp [hi] at this; exact ⟨i, rfl, this.1, this.2⟩

theorem GoodTy.und (h : GoodTy P t τ) : ∃ d, P.underlying t = some d ∧ aggD d = τ.agg ∧ descOK P τ d = true := by
  have := h.desc
  cases hi : P.underlying t with
  | none => simp [hi] at this
  | some d => simp [hi] at this; exact ⟨d, rfl, this.1, this.2⟩

theorem run_sizeOf' (h : GoodTy P t τ) (w : World) : (sizeOf t).run P w = .ok τ.size w := by
  obtain ⟨i, hi, hs, _⟩ := h.size
  rw [run_sizeOf w hi]
  simp [Program.cellsOf, hi, hs]

theorem run_isAgg' (h : GoodTy P t τ) (w : World) : (isAgg t).run P w = .ok τ.agg w := by
  obtain ⟨d, hd, ha, _⟩ := h.und
  simp only [isAgg, Sem.run_bind, run_underlying hd, Result.andThen_ok]
  cases d <;> simp [aggD] at ha <;> simp [← ha, Sem.run_pure]

theorem run_zeroValue' (h : GoodTy P t τ) (w : World) : (zeroValue t).run P w = .ok (valOf τ (zc τ)) w := by
  obtain ⟨i, hi, _, hz⟩ := h.size
  simp only [zeroValue, Sem.run_bind, run_typeInfo w hi, Result.andThen_ok, hz]
  rfl

theorem add_at (b o j : Nat) : (⟨b, o, none⟩ : Addr).add j = ⟨b, o + j, none⟩ := by unfold Addr.add; split <;> simp_all

/-- Cells in a row. -/
def CellsAt (w : World) (b o : Nat) (cs : List Value) : Prop := ∀ j (h : j < cs.length), w.cell? ⟨b, o + j, none⟩ = some cs[j]

theorem run_load_at {a : Addr} {v : Value} (h : w.cell? a = some v) : (load a).run P w = .ok v w := by
  simp [load, Sem.run, h]

theorem run_loadCellsFrom (b o : Nat) : ∀ (cs : List Value) (i : Nat) (acc : Array Value), (∀ j (h : j < cs.length), w.cell? ⟨b, o + i + j, none⟩ = some cs[j]) →
    (loadCellsFrom ⟨b, o, none⟩ i cs.length acc).run P w = .ok (acc ++ cs.toArray) w
  | [], i, acc, h => by simp [loadCellsFrom, Sem.run_pure]
  | c :: cs, i, acc, h => by
    have h0 := h 0 (by simp)
    simp only [List.length_cons, loadCellsFrom, Sem.run_bind, add_at]
    rw [run_load_at (by simpa using h0), Result.andThen_ok]
    rw [run_loadCellsFrom b o cs (i + 1) (acc.push c) (fun j hj => by
      have := h (j + 1) (by simpa using hj)
      rw [show o + (i + 1) + j = o + i + (j + 1) by omega]; simpa using this)]
    simp

theorem run_loadVar' (h : GoodTy P t τ) {b o : Nat} {cs : List Value} (hl : cs.length = τ.size) (hc : CellsAt w b o cs) : (loadVar t ⟨b, o, none⟩).run P w = .ok (valOf τ cs) w := by
  simp only [loadVar, Sem.run_bind, run_isAgg' h, Result.andThen_ok]
  unfold valOf
  cases ha : τ.agg with
  | true =>
    simp only [if_true, Sem.run_bind, run_sizeOf' h, Result.andThen_ok, loadCells]
    rw [← hl, run_loadCellsFrom b o cs 0 #[] (fun j hj => by simpa using hc j hj)]
    simp [Sem.run_pure]
  | false =>
    have h1 : cs.length = 1 := by cases τ <;> simp [ETy.agg] at ha <;> simpa [ETy.size] using hl
    obtain ⟨c, rfl⟩ := List.length_eq_one_iff.1 h1
    simp only [Bool.false_eq_true, if_false]
    rw [run_load_at (by simpa using hc 0 (by simp))]
    rfl

/-- What a write into one block leaves. -/
structure Wrote (b : Nat) (cs' : List Value) (elem : TypeId) (fr : Nat × Nat) (w w' : World) : Prop where
  here : w'.heap[b]? = some (.cells cs'.toArray elem fr)
  there : ∀ k, k ≠ b → w'.heap[k]? = w.heap[k]?
  size : w'.heap.size = w.heap.size
  os : w'.os = w.os
  tape : w'.tape = w.tape
  output : w'.output = w.output

theorem cell_of_block {b : Nat} {cs : Array Value} {elem : TypeId} {fr : Nat × Nat} (h : w.heap[b]? = some (.cells cs elem fr)) (o : Nat) : w.cell? ⟨b, o, none⟩ = cs[o]? := by
  simp [World.cell?, h]

theorem frozen_of_block {b : Nat} {cs : Array Value} {elem : TypeId} {fr : Nat × Nat} (h : w.heap[b]? = some (.cells cs elem fr)) (o : Nat) : w.frozen? ⟨b, o, none⟩ = (decide (fr.1 ≤ o) && decide (o < fr.2)) := by
  simp [World.frozen?, h]

theorem heap_setCells_ne (b : Nat) : ∀ (vs : List Value) (o : Nat) (w : World) (k : Nat), k ≠ b → (w.setCells b o vs).heap[k]? = w.heap[k]?
  | [], _, _, _, _ => rfl
  | v :: r, o, w, k, h => by
    rw [World.setCells, heap_setCells_ne b r _ _ k h]
    exact Below.heap_setCell _ _ _ _ h

theorem setCells_same (b : Nat) : ∀ (vs : List Value) (o : Nat) (w : World), (w.setCells b o vs).heap.size = w.heap.size ∧ (w.setCells b o vs).os = w.os ∧ (w.setCells b o vs).tape = w.tape ∧ (w.setCells b o vs).output = w.output
  | [], _, _ => ⟨rfl, rfl, rfl, rfl⟩
  | v :: r, o, w => by
    obtain ⟨h1, h2, h3, h4⟩ := setCells_same b r (o + 1) (w.setCell ⟨b, o, none⟩ v)
    exact ⟨by rw [World.setCells, h1, World.size_setCell], h2, h3, h4⟩

theorem heap_setCells_at (b : Nat) : ∀ (vs : List Value) (o : Nat) (w : World) (pre mid post : List Value) (elem : TypeId) (fr : Nat × Nat), w.heap[b]? = some (.cells (pre ++ mid ++ post).toArray elem fr) → pre.length = o → mid.length = vs.length →
    (w.setCells b o vs).heap[b]? = some (.cells (pre ++ vs ++ post).toArray elem fr)
  | [], o, w, pre, mid, post, elem, fr, h, h1, h2 => by
    obtain rfl : mid = [] := List.length_eq_zero_iff.1 (by simpa using h2)
    simpa [World.setCells] using h
  | v :: r, o, w, pre, m :: mid, post, elem, fr, h, h1, h2 => by
    rw [World.setCells]
    have hb : (w.setCell ⟨b, o, none⟩ v).heap[b]? = some (.cells ((pre ++ [v]) ++ mid ++ post).toArray elem fr) := by
      simp only [World.setCell, Array.getElem?_modify, if_true, h, Option.map_some, Option.isSome_none, Bool.false_eq_true, if_false]
      congr 2
      subst h1
      simp
    have := heap_setCells_at b r (o + 1) _ (pre ++ [v]) mid post elem fr hb (by simp [h1]) (by simpa using h2)
    simpa using this
  | v :: r, o, w, pre, [], post, elem, fr, h, h1, h2 => by simp at h2

theorem run_storeVar' (h : GoodTy P t τ) {b : Nat} {pre mid post : List Value} {elem : TypeId} {fr : Nat × Nat} (hb : w.heap[b]? = some (.cells (pre ++ mid ++ post).toArray elem fr))
    (hfr : ∀ o, o < (pre ++ mid ++ post).length → ¬ (fr.1 ≤ o ∧ o < fr.2)) {x : τ.I} {m : List Value} (hm : RepC w' S τ x m) (hl : mid.length = τ.size) :
    ∃ w2, (storeVar t ⟨b, pre.length, none⟩ (valOf τ m)).run P w = .ok () w2 ∧ Wrote b (pre ++ m ++ post) elem fr w w2 := by
  have hml := hm.length
  have hcell : ∀ j, j < m.length → (w.cell? ⟨b, pre.length + 0 + j, none⟩).isSome = true := by
    intro j hj
    rw [cell_of_block hb]
    simp
    omega
  have hun : ∀ j, j < m.length → w.frozen? ⟨b, pre.length + 0 + j, none⟩ = false := by
    intro j hj
    rw [frozen_of_block hb]
    have := hfr (pre.length + 0 + j) (by simp; omega)
    simp only [Bool.and_eq_false_iff, decide_eq_false_iff_not]
    omega
  refine ⟨w.setCells b (pre.length + 0) m, ?_, ?_⟩
  · simp only [storeVar, Sem.run_bind, run_sizeOf' h, Result.andThen_ok, cells_valOf hm]
    simp only [List.size_toArray, hml, ne_eq, not_true_eq_false, if_false, Sem.run_pure, Result.andThen_ok]
    exact run_storeCells_cells b pre.length m 0 w hcell hun (fun u hu => hm.one u hu)
  · obtain ⟨s1, s2, s3, s4⟩ := setCells_same b m (pre.length + 0) w
    exact ⟨heap_setCells_at b m _ w pre mid post elem fr hb rfl (by omega), fun k hk => heap_setCells_ne b m _ w k hk, s1, s2, s3, s4⟩
end
end Go.Proofs.YtmphlhnpichonaaDoor.K

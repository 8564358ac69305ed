/- Operations that make memory. Operations that make memory, continued: that the model's own do as is said. Writes and appends: that the model's own do as is said. Appends; all operations that turn memory, by their form in the program. Conversions, among them those between a string and its bytes. Operations as they stand in a region: those that read, those that turn memory, calls. -/
import Derived.Test.YtmmooplcdkmapaaGreatDoorKB
import Derived.Maps.AppendAt
import Derived.Laws.Tables
import Derived.Lib.ConvBytes
import Derived.Laws.BytesString
import Derived.Laws.MakeOwn
import Derived.Laws.OwnMore
set_option maxHeartbeats 400000
set_option linter.unusedVariables false
set_option linter.unusedSimpArgs false
namespace Go.Proofs.YtmmooplcdkmapaaGreatDoor.K
open Go Go.RowKit

abbrev A3 := Option (Bool × AV × Heap)

/-- A datum, its parts set one by one. -/
def setParts (T : ETy) (st : Nat → PStep) (L : Heap) : T.I → List (Nat × AV) → Option T.I
  | x, [] => some x
  | x, (i, a) :: r => (tyP T [st i]).bind fun σ => (liftA L σ a).bind fun y => (setP T x [st i] ⟨σ, y⟩).bind fun x' => setParts T st L x' r

def okSt (T : ETy) (st : Nat → PStep) : List (Nat × AV) → Bool
  | [] => true
  | (i, _) :: r => (match T, st i with | .arr n _, .idx j => decide (j < n) | _, _ => true) && okSt T st r

def buildA (C : Cfg) (L : Heap) (t : TypeId) (parts : List (Nat × AV)) : A3 :=
  (C.Ty t).bind fun τ =>
    let L1 := markL L (parts.map (·.2))
    match τ with
    | .pair a b => (setParts (.pair a b) .fld L1 (ETy.pair a b).z parts).map fun x => (true, .v (.pair a b) x, L1)
    | .arr n e => if okSt (.arr n e) .idx parts then (setParts (.arr n e) .idx L1 (ETy.arr n e).z parts).map fun x => (true, .v (.arr n e) x, L1) else none
    | _ => none

def elId (C : Cfg) (t : TypeId) : Option TypeId := match C.P.underlying t with | some (.slice e) => some e | _ => none

def buildSliceA (C : Cfg) (L : Heap) (id : Nat) (t : TypeId) (len : Nat) (parts : List (Nat × AV)) : A3 :=
  (C.Ty t).bind fun τ => (elId C t).bind fun te =>
    let L1 := markL L (parts.map (·.2))
    match τ with
    | .slice e => if okSt (.arr len e) .idx parts && decide (C.Ty te = some e) && !(e.size == 0) && decide (len * e.size ≤ 16777216) then (setParts (.arr len e) .idx L1 (ETy.arr len e).z parts).map fun x => (true, .rs id, L1.set id (.row te e x false)) else none
    | _ => none

def allocA (C : Cfg) (L : Heap) (id : Nat) (t : TypeId) : A3 := match C.Ob t with
  | some te => some (true, .ref id [], L.set id (.obj (.bld t te ⟨#[]⟩)))
  | none => (C.Ty t).map fun τ => (true, .ref id [], L.set id (.box τ τ.z false))

def boxA (C : Cfg) (L : Heap) (id : Nat) (t : TypeId) (a : AV) : A3 :=
  (C.Ty t).bind fun τ =>
    let L1 := mark1' L a
    (liftA L1 τ a).map fun x => (true, .ref id [], L1.set id (.box τ x false))
where mark1' (L : Heap) (a : AV) : Heap := markL L [a]

/-- A slice that is made: a row of zeros. -/
def makeA (C : Cfg) (L : Heap) (id : Nat) (t : TypeId) (l c : AV) : A3 :=
  match C.Ty t, elId C t with
  | some (.slice e), some te => if decide (C.Ty te = some e) && !(e.size == 0) then
      match l, c with
      | .v (.int _) n, .v (.int _) k => some (decide ((n : Int) = k) && decide ((0 : Int) ≤ n) && decide (n ≤ (2147483648 : Int)), .rs id, L.set id (.row te e (List.replicate (Int.toNat n) e.z) false))
      | _, _ => none
    else none
  | _, _ => none

/-- A nil slice in a variable: a row of its own, empty. -/
def nilRowA (C : Cfg) (L : Heap) (id : Nat) (t : TypeId) : A3 :=
  match C.Ty t, elId C t with
  | some (.slice e), some te => some (true, .rs id, L.set id (.row te e [] false))
  | _, _ => none

def storeA (C : Cfg) (L : Heap) (t : TypeId) (p a : AV) : A3 :=
  (C.Ty t).bind fun τ =>
    let L1 := markL L [a]
    (liftA L1 τ a).bind fun y =>
      match p with
      | .ref id q => match L1[id]? with
        | some (.box T x false) => (setP T x q ⟨τ, y⟩).map fun x' => (true, .dead, L1.set id (.box T x' false))
        | _ => none
      | .rref id i q => match L1[id]? with
        | some (.row te e xs false) => (setP e (xs.getD i e.z) q ⟨τ, y⟩).map fun x' => (true, .dead, L1.set id (.row te e (xs.set i x') false))
        | _ => none
      | _ => none

def All2 {α β : Type} (R : α → β → Prop) : List α → List β → Prop
  | [], [] => True
  | x :: xs, y :: ys => R x y ∧ All2 R xs ys
  | _, _ => False

theorem getP_some : ∀ {T : ETy} {x : T.I} {s : PStep} {σ : ETy}, tyP T [s] = some σ → ∃ d, getP T x [s] = some d
  | .pair a b, x, .fld 0, σ, h => ⟨_, by simp only [getP]; rfl⟩
  | .pair a b, x, .fld (k + 1), σ, h => by simp only [tyP] at h; simp only [getP]; exact getP_some h
  | .arr n e, x, .idx i, σ, h => ⟨_, by simp only [getP]; rfl⟩
  | .int _, _, .fld _, _, h | .int _, _, .idx _, _, h | .bool, _, .fld _, _, h | .bool, _, .idx _, _, h
  | .str, _, .fld _, _, h | .str, _, .idx _, _, h | .raw _, _, .fld _, _, h | .raw _, _, .idx _, _, h
  | .unit, _, .fld _, _, h | .unit, _, .idx _, _, h | .slice _, _, .fld _, _, h | .slice _, _, .idx _, _, h
  | .pair _ _, _, .idx _, _, h | .arr _ _, _, .fld _, _, h => by simp [tyP] at h

theorem getP_of_set : ∀ {T : ETy} {x y : T.I} {p : List PStep} {e : Dat}, setP T x p e = some y → ∃ d, getP T x p = some d
  | T, x, y, [], e, h => ⟨_, by simp only [getP]; rfl⟩
  | .pair a b, x, y, .fld 0 :: p, e, h => by
    simp only [setP, Option.map_eq_some_iff] at h
    obtain ⟨z, hz, _⟩ := h
    simp only [getP]
    exact getP_of_set hz
  | .pair a b, x, y, .fld (k + 1) :: p, e, h => by
    simp only [setP, Option.map_eq_some_iff] at h
    obtain ⟨z, hz, _⟩ := h
    simp only [getP]
    exact getP_of_set hz
  | .arr n c, x, y, .idx i :: p, e, h => by
    simp only [setP, Option.map_eq_some_iff] at h
    obtain ⟨z, hz, _⟩ := h
    simp only [getP]
    exact getP_of_set hz
  | .int _, _, _, .fld _ :: _, _, h | .int _, _, _, .idx _ :: _, _, h | .bool, _, _, .fld _ :: _, _, h | .bool, _, _, .idx _ :: _, _, h
  | .str, _, _, .fld _ :: _, _, h | .str, _, _, .idx _ :: _, _, h | .raw _, _, _, .fld _ :: _, _, h | .raw _, _, _, .idx _ :: _, _, h
  | .unit, _, _, .fld _ :: _, _, h | .unit, _, _, .idx _ :: _, _, h | .slice _, _, _, .fld _ :: _, _, h | .slice _, _, _, .idx _ :: _, _, h
  | .pair _ _, _, _, .idx _ :: _, _, h | .arr _ _, _, _, .fld _ :: _, _, h => by simp [setP] at h

section
variable {C : Cfg} {B : Nat} {m : Nat → Value} {L : Heap} {w w' : World} {S S' : Nat → Nat → Prop}

theorem fold_set : ∀ (ms pre mid post : List Value) (o k : Nat), pre.length = o + k → mid.length = ms.length →
    (ms.zipIdx k).foldl (fun cs (c, j) => cs.setIfInBounds (o + j) c) (pre ++ mid ++ post).toArray = (pre ++ ms ++ post).toArray
  | [], pre, mid, post, o, k, h1, h2 => by
    obtain rfl : mid = [] := List.length_eq_zero_iff.1 (by simpa using h2)
    simp
  | c :: ms, pre, [], post, o, k, h1, h2 => by simp at h2
  | c :: ms, pre, d :: mid, post, o, k, h1, h2 => by
    have ih := fold_set ms (pre ++ [c]) mid post o (k + 1) (by simp [h1]; omega) (by simpa using h2)
    simp only [List.zipIdx_cons, List.foldl_cons] at ih ⊢
    have e : ((pre ++ d :: mid ++ post).toArray.setIfInBounds (o + k) c) = (pre ++ [c] ++ mid ++ post).toArray := by
      rw [← h1]
      simp
    rw [e, ih]
    simp

/-- Parts set one by one: the model's 'fill' and the datum's go together. -/
theorem fill_rep {T : ETy} {st : Nat → PStep} {place : Nat → Option (Nat × Nat)} (hp : ∀ i σ, tyP T [st i] = some σ → (match T, st i with | .arr n _, .idx j => decide (j < n) | _, _ => true) = true → place i = some (off T [st i], σ.size) ∧ okP T [st i]) :
    ∀ {parts : List (Nat × AV)} {vs : List (Nat × Value)} {x x' : T.I} {cs : List Value}, okSt T st parts = true → RepC w S T x cs →
      (All2 (fun (p : Nat × AV) (q : Nat × Value) => p.1 = q.1 ∧ ∀ σ y, liftA L σ p.2 = some y → RepV w S σ y q.2) parts vs) → setParts T st L x parts = some x' →
      ∃ cs', Instr.fill place cs.toArray vs = some cs'.toArray ∧ RepC w S T x' cs'
  | [], [], x, x', cs, ho, hr, hv, hs => by
    simp only [setParts, Option.some.injEq] at hs
    subst hs
    exact ⟨cs, rfl, hr⟩
  | (i, a) :: parts, (j, v) :: vs, x, x', cs, ho, hr, hv, hs => by
    obtain ⟨⟨rfl, h1⟩, h2⟩ := hv
    simp only [setParts] at hs
    cases hσ : tyP T [st i] with
    | none => rw [hσ] at hs; cases hs
    | some σ =>
      rw [hσ] at hs
      simp only [Option.bind_some] at hs
      cases hy : liftA L σ a with
      | none => rw [hy] at hs; cases hs
      | some y =>
        rw [hy] at hs
        simp only [Option.bind_some] at hs
        cases hx : setP T x [st i] ⟨σ, y⟩ with
        | none => rw [hx] at hs; cases hs
        | some x1 =>
          rw [hx] at hs
          simp only [Option.bind_some] at hs
          simp only [okSt, Bool.and_eq_true] at ho
          obtain ⟨p1, p2⟩ := hp i σ hσ ho.1
          obtain ⟨ms, hm, rfl⟩ := h1 σ y hy
          have hg : ∃ d, getP T x [st i] = some d := getP_some hσ
          obtain ⟨d, hd⟩ := hg
          have hdτ : d.τ = σ := by have := getP_ty hd; rw [hσ] at this; cases this; rfl
          obtain ⟨pre, mid, post, rfl, e1, e2, e3⟩ := getP_rep p2 hr hd
          obtain ⟨_, e4⟩ := e3 ⟨σ, y⟩ x1 ms hm hx
          obtain ⟨cs', f1, f2⟩ := fill_rep hp ho.2 e4 h2 hs
          refine ⟨cs', ?_, f2⟩
          rw [Instr.fill, p1]
          simp only
          rw [cells_valOf hm]
          have hml := hm.length
          have hmid := e2.length
          rw [hdτ] at hmid
          rw [if_neg (by simp [hml]; omega)]
          rw [← e1]
          have := fold_set ms pre mid post pre.length 0 (by simp) (by omega)
          rw [← Array.foldl_toList, Array.toList_zipIdx, this]
          exact f1
  | [], _ :: _, x, x', cs, ho, hr, hv, hs => by cases hv
  | _ :: _, [], x, x', cs, ho, hr, hv, hs => by cases hv
end
end Go.Proofs.YtmmooplcdkmapaaGreatDoor.K

set_option maxHeartbeats 400000
set_option linter.unusedVariables false
set_option linter.unusedSimpArgs false
namespace Go.Proofs.YtmmooplcdkmapaaGreatDoor.K
open Go Go.RowKit

section
variable {C : Cfg} {B : Nat} {m : Nat → Value} {L : Heap} {w w' : World} {S S' : Nat → Nat → Prop}

/-- What an operation that turns memory comes to. -/
def Does (C : Cfg) (B : Nat) (X : Nat → Bool) (m : Nat → Value) (L : Heap) (w : World) (S : Nat → Nat → Prop) (s : Sem Value) (av : AV) (L' : Heap) : Prop :=
  ∃ u m' w' S', s.run C.P w = .ok u w' ∧ Goes B X m L w S m' L' w' S' ∧ RepA m' L' w' S' av u

theorem mark_resv {l : List AV} {id : Nat} : ∀ {L : Heap}, L[id]? = some .resv → (markL L l)[id]? = some .resv := by
  induction l with
  | nil => exact fun h => h
  | cons a l ih =>
    intro L h
    unfold markL
    split
    · rename_i j hj
      apply ih
      unfold mark1
      cases hL : L[j]? with
      | none => exact h
      | some s =>
        rw [get_set ⟨_, hL⟩]
        split
        · rename_i e; subst e; rw [h] at hL; cases hL; rfl
        · exact h
    · exact ih h

theorem goes_noX {X : Nat → Bool} {m1 : Nat → Value} {L1 : Heap} {w1 : World} {S1 : Nat → Nat → Prop} (hX : ∀ i, X i = false) (hg : Goes B X m L w S m1 L1 w1 S1) {a : AV} {u : Value} (h : RepA m L w S a u) : RepA m1 L1 w1 S1 a u := by
  refine RepA.go hg.safe hg.ext ?_ h
  have : ∀ (f : Bool → Nat → Bool), (∀ r i, f r i = true) → (∀ a : AV, a.ids f = true) := by
    intro f hf a
    exact AV.rec (motive_1 := fun a => a.ids f = true) (motive_2 := fun l => AV.idsL f l = true) (fun _ _ => by simp only [AV.ids]) (fun _ => by simp only [AV.ids]) (fun _ _ _ => by simp only [AV.ids]) (fun _ _ => by simp only [AV.ids]; exact hf _ _) (fun _ _ _ => by simp only [AV.ids]; exact hf _ _)
      (fun _ _ _ _ => by simp only [AV.ids]; exact hf _ _) (fun _ => by simp only [AV.ids]; exact hf _ _) (fun _ _ _ => by simp only [AV.ids]; exact hf _ _) (fun _ _ h => by simp only [AV.ids]; exact h) (fun _ _ h => by simp only [AV.ids]; exact h) (fun _ h => by simp only [AV.ids]; exact h) (fun _ _ hs => by simp only [AV.ids, List.all_eq_true]; rintro ⟨_, r⟩ _; cases r <;> first | rfl | exact hf _ _) (by simp only [AV.ids]) (by simp only [AV.idsL])
      (fun a l h1 h2 => by simp only [AV.idsL, h1, h2, Bool.and_self]) a
  exact this _ (fun r i => by simp [noX, hX]) a

theorem all2_parts {σ : Operand → Value} {ρ : Operand → AV} {m1 : Nat → Value} {L1 : Heap} {w1 : World} {S1 : Nat → Nat → Prop} (hI : Inv B m1 L1 w1 S1) (h : ∀ x, RepA m1 L1 w1 S1 (ρ x) (σ x)) : ∀ (parts : List (Nat × Operand)), (∀ p ∈ parts, ∀ id, markA (ρ p.2) = some id → Kept m1 L1 S1 id) →
    All2 (fun (p : Nat × AV) (q : Nat × Value) => p.1 = q.1 ∧ ∀ τ y, liftA L1 τ p.2 = some y → RepV w1 S1 τ y q.2) (parts.map fun (i, x) => (i, ρ x)) (parts.map fun (i, x) => (i, σ x))
  | [], hk => trivial
  | (i, x) :: r, hk => ⟨⟨rfl, fun τ y hy => lift_rep hI (h x) (fun id hid => hk (i, x) (by simp) id hid) hy⟩, all2_parts hI h r (fun p hp => hk p (List.mem_cons_of_mem _ hp))⟩

theorem map_snd (ρ : Operand → AV) (parts : List (Nat × Operand)) : (parts.map fun (i, x) => (i, ρ x)).map (·.2) = parts.map fun p => ρ p.2 := by simp

theorem places_of {τ : ETy} : ∀ (fs : List Field) (k : Nat), fieldsOK C.P τ k fs = true → ∃ places : List (Nat × Nat), fs.mapM (fun f => (C.P.info? f.type).map fun i => (f.offset, i.size)) = some places ∧ ∀ j σ, tyP τ [.fld (k + j)] = some σ → places[j]? = some (off τ [.fld (k + j)], σ.size)
  | [], k, h => by
    refine ⟨[], by simp, fun j σ hj => ?_⟩
    exfalso
    simp only [fieldsOK, Option.isNone_iff_eq_none] at h
    have : ∀ j, tyP τ [.fld (k + j)] = none := by
      intro j
      induction j with
      | zero => exact h
      | succ j ih => exact tyP_fld_none ih
    rw [this j] at hj
    cases hj
  | f :: fs, k, h => by
    simp only [fieldsOK, Bool.and_eq_true] at h
    obtain ⟨h1, h2⟩ := h
    obtain ⟨places, q1, q2⟩ := places_of fs (k + 1) h2
    cases hty : tyP τ [.fld k] with
    | none => rw [hty] at h1; cases h1
    | some σ =>
      rw [hty] at h1
      simp only [Bool.and_eq_true, beq_iff_eq] at h1
      obtain ⟨⟨e1, e2⟩, e3⟩ := h1
      obtain ⟨i, hi, e2⟩ := Option.map_eq_some_iff.1 e2
      refine ⟨(f.offset, i.size) :: places, by simp [List.mapM_cons, hi, q1], fun j σ' hj => ?_⟩
      cases j with
      | zero =>
        rw [Nat.add_zero, hty] at hj
        cases hj
        simp [e1, e2]
      | succ j =>
        have := q2 j σ' (by rwa [show k + 1 + j = k + (j + 1) by omega])
        rw [show k + 1 + j = k + (j + 1) by omega] at this
        simpa using this

theorem does_build (hC : C.OK) (hI : Inv B m L w S) {ρ : Operand → AV} {σ : Operand → Value} (h : ∀ x, RepA m L w S (ρ x) (σ x)) {t : TypeId} {parts : Array (Nat × Operand)} {av : AV} {L' : Heap}
    (hb : buildA C L t (parts.toList.map fun (i, x) => (i, ρ x)) = some (true, av, L')) : Does C B (fun _ => false) m L w S (Instr.build t (parts.map fun (i, x) => (i, σ x))) av L' := by
  unfold buildA at hb
  cases hτ : C.Ty t with
  | none => rw [hτ] at hb; cases hb
  | some τ =>
    rw [hτ] at hb
    simp only [Option.bind_some, map_snd] at hb
    obtain ⟨S1, g1, _, k1⟩ := markL_goes (m := m) (w := w) (fun _ => false) (parts.toList.map fun p => ρ p.2) hI
    have h1 : ∀ x, RepA m (markL L (parts.toList.map fun p => ρ p.2)) w S1 (ρ x) (σ x) := fun x => goes_noX (fun _ => rfl) g1 (h x)
    have hall := all2_parts g1.inv h1 parts.toList (fun p hp id hid => k1 (ρ p.2) (List.mem_map_of_mem (f := fun p => ρ p.2) hp) id hid)
    have hG := hC.ty _ _ hτ
    have hparts : (parts.map fun (i, x) => (i, σ x)).toList = parts.toList.map fun (i, x) => (i, σ x) := by simp
    split at hb
    · rename_i a b
      cases hs : setParts (.pair a b) .fld (markL L (parts.toList.map fun p => ρ p.2)) (ETy.pair a b).z (parts.toList.map fun (i, x) => (i, ρ x)) with
      | none => rw [hs] at hb; cases hb
      | some x =>
        rw [hs] at hb
        simp only [Option.map_some, Option.some.injEq, Prod.mk.injEq, true_and] at hb
        obtain ⟨rfl, rfl⟩ := hb
        obtain ⟨d, hd, ha, hk⟩ := hG.und
        cases d <;> simp [descOK] at hk
        rename_i fs
        obtain ⟨places, hp1, hp2⟩ := places_of fs.toList 0 hk.2
        obtain ⟨cs', f1, f2⟩ := fill_rep (S := S1) (w := w) (place := (places.toArray[·]?)) (fun i σ' hσ _ => ⟨by have := hp2 i σ' (by rw [Nat.zero_add]; exact hσ); rw [Nat.zero_add] at this; simpa using this, okP_fld hσ⟩) (by
            have : ∀ l : List (Nat × AV), okSt (.pair a b) .fld l = true := by
              intro l
              induction l with
              | nil => rfl
              | cons p l ih => obtain ⟨i, v⟩ := p; simp [okSt, ih]
            exact this _) (repC_zero (.pair a b)) hall hs
        obtain ⟨inf, hi, _, hz⟩ := hG.size
        refine ⟨.agg cs'.toArray, m, w, S1, run_build w t _ _ ?_, g1, ?_⟩
        · unfold Program.built
          simp only [hi, hd, hz, hp1]
          rw [hparts]
          exact f1
        · rw [rep_v]; exact ⟨cs', f2, rfl⟩
    · rename_i n e
      split at hb
      · rename_i hok
        cases hs : setParts (.arr n e) .idx (markL L (parts.toList.map fun p => ρ p.2)) (ETy.arr n e).z (parts.toList.map fun (i, x) => (i, ρ x)) with
        | none => rw [hs] at hb; cases hb
        | some x =>
          rw [hs] at hb
          simp only [Option.map_some, Option.some.injEq, Prod.mk.injEq, true_and] at hb
          obtain ⟨rfl, rfl⟩ := hb
          obtain ⟨te, inf, hu, hinf, hsz, hag⟩ := und_arr hG
          have hce : C.P.cellsOf te = e.size := by simp [Program.cellsOf, hinf, hsz]
          obtain ⟨cs', f1, f2⟩ := fill_rep (S := S1) (w := w) (place := fun i => some (i * e.size, e.size)) (fun i σ' hσ hlt => by
              simp only [tyP, Option.some.injEq] at hσ
              subst hσ
              simp only [decide_eq_true_eq] at hlt
              exact ⟨by simp [off], okP_idx hlt⟩) hok (repC_zero (.arr n e)) hall hs
          refine ⟨.agg cs'.toArray, m, w, S1, ?_, g1, ?_⟩
          · simp only [Instr.build, Sem.run_bind, run_zeroValue' hG, Result.andThen_ok, run_underlying hu, run_sizeOf w hinf, hce]
            rw [hparts]
            have hz : (valOf (.arr n e) (zc (.arr n e))).cells = (zc (.arr n e)).toArray := rfl
            rw [hz, f1]
            rfl
          · rw [rep_v]; exact ⟨cs', f2, rfl⟩
      · cases hb
    · cases hb

theorem cells_zc_arr (len : Nat) (e : ETy) (hz : (zc e).length = e.size) : (Array.range (len * e.size)).map ((zc e).toArray[· % (zc e).toArray.size]!) = (zc (.arr len e)).toArray := by
  simp only [zc]
  apply Array.ext'
  simp only [Array.toList_map, Array.toList_range]
  induction len with
  | zero => simp
  | succ n ih =>
    by_cases hs : e.size = 0
    · have : zc e = [] := List.eq_nil_of_length_eq_zero (by omega)
      simp [hs, this]
    · rw [List.replicate_succ', List.flatten_append, ← ih, Nat.succ_mul, List.range_add, List.map_append, List.map_map]
      congr 1
      simp only [List.flatten_cons, List.flatten_nil, List.append_nil]
      apply List.ext_getElem (by simp [hz])
      intro j h1 h2
      simp only [List.getElem_map, List.getElem_range, Function.comp_apply, List.size_toArray, hz]
      have hj : j < e.size := by simpa using h1
      have hm : (n * e.size + j) % e.size = j := by rw [Nat.mul_comm, Nat.mul_add_mod, Nat.mod_eq_of_lt hj]
      rw [hm]
      simp [getElem!_pos, h2]

theorem zc_length : ∀ e : ETy, (zc e).length = e.size := fun e => (repC_zero (w := default) (S := fun _ _ => False) e).length

theorem elId_eq {t te : TypeId} (h : elId C t = some te) : C.P.underlying t = some (.slice te) := by
  unfold elId at h
  split at h
  · rename_i e he; cases h; exact he
  · cases h

theorem does_alloc (hC : C.OK) (hI : Inv B m L w S) {t : TypeId} {id : Nat} (hid : L[id]? = some .resv) {av : AV} {L' : Heap} (hb : allocA C L id t = some (true, av, L')) : Does C B (fun _ => false) m L w S (Instr.alloc t true (.tuple #[])) av L' := by
  unfold allocA at hb
  cases hob : C.Ob t with
  | some te =>
    rw [hob] at hb
    simp only [Option.some.injEq, Prod.mk.injEq, true_and] at hb
    obtain ⟨rfl, rfl⟩ := hb
    have hG := hC.ob _ _ hob
    have hg := Grows.alloc w (.cells (zc (.pair (.raw .ptr) (.pair (.slice (.int .u8)) .unit))).toArray t (0, 0))
    have go := Goes.fresh' (s := .obj (.bld t te ⟨#[]⟩)) (v := .tuple #[.pointer (some ⟨w.heap.size, 0, none⟩), .slice none 0 0]) hI hg hid (by intro b hb; rw [blks_pair] at hb; simp [blk] at hb; omega)
      (by intro T x ro e; cases e) (by intro t e xs ro e; cases e)
      (by
        intro o e
        cases e
        exact ⟨w.heap.size, .slice none 0 0, .pointer none, rfl, hI.base, .inl rfl, heap_alloc_new w _, World.ownsRow_nil _ _ _ _, by simp [blk]⟩) (fun _ => false)
    refine ⟨.pointer (some ⟨w.heap.size, 0, none⟩), _, _, _, ?_, go, ?_⟩
    · simp only [Instr.alloc, Sem.run_bind, run_zeroValue' hG, Result.andThen_ok, newVar, newRow, cells_valOf (repC_zero (w := w) (S := S) _)]
      rfl
    · simp only [RepA]
      refine ⟨.obj (.bld t te ⟨#[]⟩), by rw [get_set ⟨_, hid⟩, if_pos rfl], by simp, ?_, ?_⟩
      · intro T e; cases e
      · intro o e; exact ⟨trivial, .slice none 0 0, upd_same _ _ _⟩
  | none =>
  rw [hob] at hb
  dsimp only at hb
  cases hτ : C.Ty t with
  | none => rw [hτ] at hb; cases hb
  | some τ =>
    rw [hτ] at hb
    simp only [Option.map_some, Option.some.injEq, Prod.mk.injEq, true_and] at hb
    obtain ⟨rfl, rfl⟩ := hb
    have hG := hC.ty _ _ hτ
    have hg := Grows.alloc w (.cells (zc τ).toArray t (0, 0))
    have go := Goes.fresh (s := .box τ τ.z false) (v := .pointer (some ⟨w.heap.size, 0, none⟩)) hI hg hid (by intro b hb; simp [blk] at hb; omega)
      (by
        intro T x ro e
        cases e
        exact ⟨w.heap.size, zc τ, t, (0, 0), rfl, hI.base, heap_alloc_new w _, fun o _ => by simp, repC_zero τ⟩)
      (by intro t e xs ro e; cases e) (fun _ => false)
    refine ⟨.pointer (some ⟨w.heap.size, 0, none⟩), _, _, _, ?_, go, ?_⟩
    · simp only [Instr.alloc, Sem.run_bind, run_zeroValue' hG, Result.andThen_ok, newVar, newRow, cells_valOf (repC_zero (w := w) (S := S) τ)]
      rfl
    · simp only [RepA]
      refine ⟨.box τ τ.z false, by rw [get_set ⟨_, hid⟩, if_pos rfl], by simp, ?_, by intro o e; cases e⟩
      intro T e
      cases e
      exact ⟨by simp [okP], w.heap.size, upd_same _ _ _, by simp [off]⟩

theorem does_box (hC : C.OK) (hI : Inv B m L w S) {a : AV} {u : Value} (ha : RepA m L w S a u) {t : TypeId} {id : Nat} (hid : L[id]? = some .resv) {av : AV} {L' : Heap} (hb : boxA C L id t a = some (true, av, L')) : Does C B (fun _ => false) m L w S (Instr.box t u) av L' := by
  unfold boxA boxA.mark1' at hb
  cases hτ : C.Ty t with
  | none => rw [hτ] at hb; cases hb
  | some τ =>
    rw [hτ] at hb
    simp only [Option.bind_some] at hb
    obtain ⟨S1, g1, _, k1⟩ := markL_goes (m := m) (w := w) (fun _ => false) [a] hI
    have ha1 := goes_noX (fun _ => rfl) g1 ha
    cases hl : liftA (markL L [a]) τ a with
    | none => rw [hl] at hb; cases hb
    | some x =>
      rw [hl] at hb
      simp only [Option.map_some, Option.some.injEq, Prod.mk.injEq, true_and] at hb
      obtain ⟨rfl, rfl⟩ := hb
      have hr := lift_rep g1.inv ha1 (k1 a (by simp)) hl
      obtain ⟨cs, hc, rfl⟩ := hr
      have hid1 := mark_resv (l := [a]) hid
      have hg := Grows.alloc w (.cells cs.toArray t (0, 0))
      have go := Goes.fresh (s := .box τ x false) (v := .pointer (some ⟨w.heap.size, 0, none⟩)) g1.inv hg hid1 (by intro b hb; simp [blk] at hb; omega)
        (by
          intro T y ro e
          cases e
          exact ⟨w.heap.size, cs, t, (0, 0), rfl, hI.base, heap_alloc_new w _, fun o _ => by simp, hc.safe (hg.safe g1.inv)⟩)
        (by intro t e xs ro e; cases e) (fun _ => false)
      refine ⟨.pointer (some ⟨w.heap.size, 0, none⟩), _, _, _, ?_, g1.trans go, ?_⟩
      · simp only [Instr.box, Sem.run_bind, newVar, newRow, cells_valOf hc]
        rfl
      · simp only [RepA]
        refine ⟨.box τ x false, by rw [get_set ⟨_, hid1⟩, if_pos rfl], by simp, ?_, by intro o e; cases e⟩
        intro T e
        cases e
        exact ⟨by simp [okP], w.heap.size, upd_same _ _ _, by simp [off]⟩

theorem does_nilRow (hC : C.OK) (hI : Inv B m L w S) {t : TypeId} {id : Nat} (hid : L[id]? = some .resv) {av : AV} {L' : Heap} (hb : nilRowA C L id t = some (true, av, L')) :
    ∃ m', Goes B (fun _ => false) m L w S m' L' w S ∧ RepA m' L' w S av (.slice none 0 0) := by
  unfold nilRowA at hb
  split at hb
  · rename_i e te h1 h2
    simp only [Option.some.injEq, Prod.mk.injEq, true_and] at hb
    obtain ⟨rfl, rfl⟩ := hb
    have go := Goes.fresh (s := .row te e [] false) (v := .slice none 0 0) hI (Grows.refl w) hid (by intro b hb; simp [blk] at hb) (by intro T x ro e; cases e)
      (by
        intro t e xs ro e'
        cases e'
        exact ⟨[], World.ownsRow_nil w B _ _, rfl⟩) (fun _ => false)
    refine ⟨_, go, ?_⟩
    simp only [RepA]
    refine ⟨.row te e [] false, by rw [get_set ⟨_, hid⟩, if_pos rfl], by simp, fun t e xs ro e' => ?_⟩
    exact (upd_same _ _ _).symm
  · cases hb

theorem does_buildSlice (hC : C.OK) (hI : Inv B m L w S) {ρ : Operand → AV} {σ : Operand → Value} (h : ∀ x, RepA m L w S (ρ x) (σ x)) {t : TypeId} {len id : Nat} (hid : L[id]? = some .resv) {parts : Array (Nat × Operand)} {av : AV} {L' : Heap}
    (hb : buildSliceA C L id t len (parts.toList.map fun (i, x) => (i, ρ x)) = some (true, av, L')) : Does C B (fun _ => false) m L w S (Instr.buildSlice t len (parts.map fun (i, x) => (i, σ x))) av L' := by
  unfold buildSliceA at hb
  cases hτ : C.Ty t with
  | none => rw [hτ] at hb; cases hb
  | some τ =>
    cases hte : elId C t with
    | none => rw [hτ, hte] at hb; cases hb
    | some te =>
      rw [hτ, hte] at hb
      simp only [Option.bind_some, map_snd] at hb
      obtain ⟨S1, g1, _, k1⟩ := markL_goes (m := m) (w := w) (fun _ => false) (parts.toList.map fun p => ρ p.2) hI
      have h1 : ∀ x, RepA m (markL L (parts.toList.map fun p => ρ p.2)) w S1 (ρ x) (σ x) := fun x => goes_noX (fun _ => rfl) g1 (h x)
      have hall := all2_parts g1.inv h1 parts.toList (fun p hp id hid => k1 (ρ p.2) (List.mem_map_of_mem (f := fun p => ρ p.2) hp) id hid)
      have hparts : (parts.map fun (i, x) => (i, σ x)).toList = parts.toList.map fun (i, x) => (i, σ x) := by simp
      have hu := elId_eq hte
      split at hb
      · rename_i e
        split at hb
        · rename_i hok
          simp only [Bool.and_eq_true, decide_eq_true_eq, Bool.not_eq_true', beq_eq_false_iff_ne, ne_eq] at hok
          obtain ⟨⟨⟨ok1, ok2⟩, ok3⟩, ok4⟩ := hok
          cases hs : setParts (.arr len e) .idx (markL L (parts.toList.map fun p => ρ p.2)) (ETy.arr len e).z (parts.toList.map fun (i, x) => (i, ρ x)) with
          | none => rw [hs] at hb; cases hb
          | some x =>
            rw [hs] at hb
            simp only [Option.map_some, Option.some.injEq, Prod.mk.injEq, true_and] at hb
            obtain ⟨rfl, rfl⟩ := hb
            have hGe := hC.ty _ _ ok2
            obtain ⟨inf, hinf, hsz, hz⟩ := hGe.size
            have hce : C.P.cellsOf te = e.size := by simp [Program.cellsOf, hinf, hsz]
            obtain ⟨cs', f1, f2⟩ := fill_rep (S := S1) (w := w) (place := fun i => some (i * e.size, e.size)) (fun i σ' hσ hlt => by
                simp only [tyP, Option.some.injEq] at hσ
                subst hσ
                simp only [decide_eq_true_eq] at hlt
                exact ⟨by simp [off], okP_idx hlt⟩) ok1 (repC_zero (.arr len e)) hall hs
            have hxl : List.length x = len := f2.1
            have hid1 := mark_resv (l := parts.toList.map fun p => ρ p.2) hid
            have hg := Grows.alloc w (.cells cs'.toArray te (0, 0))
            have hcl := f2.length
            simp only [ETy.size] at hcl
            have go := Goes.fresh (s := .row te e x false) (v := .slice (some ⟨w.heap.size, 0, none⟩) len len) g1.inv hg hid1 (by intro b hb; simp [blk] at hb; omega)
              (by intro T y ro e; cases e)
              (by
                intro t e xs ro e'
                cases e'
                refine ⟨cs', ⟨by rw [hcl, hxl], .inr ⟨w.heap.size, len, cs'.toArray, by rw [hxl], hI.base, heap_alloc_new w _, by omega, ?_, by simp [hcl], ?_⟩⟩, RepL.mono (fun x c h => h.safe (hg.safe g1.inv)) f2.2⟩
                · have : len ≤ len * e.size := Nat.le_mul_of_pos_right _ (by omega)
                  simp only [maxLen]; omega
                · rw [hxl, ← hcl]; simp) (fun _ => false)
            refine ⟨.slice (some ⟨w.heap.size, 0, none⟩) len len, _, _, _, ?_, g1.trans go, ?_⟩
            · have hsmall : ¬ len * e.size > 2 ^ 24 := by omega
              simp only [Instr.buildSlice, Sem.run_bind, run_underlying hu, Result.andThen_ok, run_sizeOf w hinf, hce, hsmall, if_false]
              by_cases h0 : len * e.size = 0
              · have hl0 : len = 0 := by
                  rcases Nat.mul_eq_zero.1 h0 with h | h
                  · exact h
                  · exact absurd h ok3
                subst hl0
                have hcs : cs' = [] := List.eq_nil_of_length_eq_zero (by omega)
                subst hcs
                have f1' : Instr.fill (fun i => some (i * e.size, e.size)) #[] (parts.toList.map fun (i, x) => (i, σ x)) = some #[] := by simpa [zc] using f1
                simp only [Nat.zero_mul, if_true, Sem.run_bind, Sem.run_pure, Result.andThen_ok, hparts]
                have e0 : (Array.range 0).map (fun x => (#[] : Array Value)[x % (#[] : Array Value).size]!) = #[] := by simp
                rw [e0, f1']
                rfl
              · simp only [h0, if_false, Sem.run_bind, run_zeroValue' hGe, Result.andThen_ok, Sem.run_pure, cells_valOf (repC_zero (w := w) (S := S) e), hparts]
                rw [cells_zc_arr len e (zc_length e), f1]
                rfl
            · simp only [RepA]
              refine ⟨.row te e x false, by rw [get_set ⟨_, hid1⟩, if_pos rfl], by simp, fun t e xs ro e' => ?_⟩
              exact (upd_same _ _ _).symm
        · cases hb
      · cases hb
end
end Go.Proofs.YtmmooplcdkmapaaGreatDoor.K

set_option maxHeartbeats 400000
set_option linter.unusedVariables false
set_option linter.unusedSimpArgs false
namespace Go.Proofs.YtmmooplcdkmapaaGreatDoor.K
open Go Go.RowKit

def rowMax : Nat := 2147483648

/-- Just the links that fit are kept. -/
def keepH (f : Nat → Bool) (hs : List (Nat × Option Nat)) : List (Nat × Option Nat) := hs.map fun p => (p.1, match p.2 with | some j => bif f j then some j else none | none => none)
def Slot.keep (f : Nat → Bool) : Slot → Slot
  | .lbx T x hs => .lbx T x (keepH f hs)
  | s => s
def keepL (f : Nat → Bool) (L : Heap) : Heap := L.map (Slot.keep f)
/-- The links to a row that is turned are gone. -/
def killL (i : Nat) (L : Heap) : Heap := keepL (fun j => !(j == i)) L
theorem lk_keep (f : Nat → Bool) (o : Nat) : ∀ hs : List (Nat × Option Nat), lk (keepH f hs) o = (lk hs o).map fun r => match r with | some j => bif f j then some j else none | none => none
  | [] => rfl
  | (a, r) :: l => by
    show lk ((a, _) :: keepH f l) o = _
    simp only [lk]
    rw [lk_keep f o l]
    cases (a == o) <;> rfl
theorem lk_keep_none {f : Nat → Bool} {o : Nat} {hs : List (Nat × Option Nat)} (h : lk (keepH f hs) o = none) : lk hs o = none := by
  rw [lk_keep] at h; simpa using h
theorem lk_keep_some {f : Nat → Bool} {o rid : Nat} {hs : List (Nat × Option Nat)} (h : lk (keepH f hs) o = some (some rid)) : lk hs o = some (some rid) ∧ f rid = true := by
  rw [lk_keep] at h
  obtain ⟨r, h1, h2⟩ := Option.map_eq_some_iff.1 h
  cases r with
  | none => cases h2
  | some j =>
    have h2 : (bif f j then some j else (none : Option Nat)) = some rid := h2
    cases hj : f j with
    | true => rw [hj] at h2; cases h2; exact ⟨h1, hj⟩
    | false => rw [hj] at h2; cases h2
theorem keep_get {f : Nat → Bool} {j : Nat} {L : Heap} {s : Slot} (h : (keepL f L)[j]? = some s) : ∃ r, L[j]? = some r ∧ r.keep f = s := by
  unfold keepL at h
  rw [List.getElem?_map] at h
  exact Option.map_eq_some_iff.1 h
theorem get_keep {f : Nat → Bool} {j : Nat} {L : Heap} {s : Slot} (h : L[j]? = some s) : (keepL f L)[j]? = some (s.keep f) := by
  unfold keepL
  rw [List.getElem?_map, h]; rfl
theorem keep_live (f : Nat → Bool) (s : Slot) : (s.keep f).live = s.live := by cases s <;> rfl
theorem keep_ro (f : Nat → Bool) (s : Slot) : (s.keep f).ro = s.ro := by cases s <;> rfl
theorem keep_cells (f : Nat → Bool) (s : Slot) : (s.keep f).cells = s.cells := by cases s <;> rfl
theorem keep_bty (f : Nat → Bool) (s : Slot) : (s.keep f).bty = s.bty := by cases s <;> rfl
theorem keep_resv {f : Nat → Bool} {s : Slot} : s.keep f = .resv ↔ s = .resv := by cases s <;> simp [Slot.keep]
theorem keep_keeps {f : Nat → Bool} {j : Nat} {L : Heap} (h : L[j]? = some .resv) : (keepL f L)[j]? = some .resv := get_keep h
theorem Ext.keep {X : Nat → Bool} {m m' : Nat → Value} {L L' : Heap} (f : Nat → Bool) (h : Ext X m L m' L') : Ext X m L m' (keepL f L') := by
  refine ⟨fun id s hs hr => ?_⟩
  obtain ⟨s', e1, r1, b1, o1, w1⟩ := h.ext id s hs hr
  refine ⟨_, get_keep e1, fun e => r1 (keep_resv.1 e), fun T e => b1 T (by rw [← e, keep_bty]), fun o e => o1 o ?_, fun t e xs ro hx q => w1 t e xs ro hx ?_⟩
  · cases s' <;> simp [Slot.keep] at e ⊢; exact e
  · cases s' <;> simp [Slot.keep] at q ⊢; exact q
theorem Inv.keep_of {B : Nat} {m : Nat → Value} {L : Heap} {w : World} {S : Nat → Nat → Prop} {f : Nat → Bool} (base : B ≤ w.heap.size)
    (box : ∀ (id : Nat) (T : ETy) (x : T.I) (ro : Bool), L[id]? = some (.box T x ro) → ∃ b cs el fr, m id = .pointer (some ⟨b, 0, none⟩) ∧ B ≤ b ∧ w.heap[b]? = some (.cells cs.toArray el fr) ∧ (∀ o, o < cs.length → ¬ (fr.1 ≤ o ∧ o < fr.2)) ∧ RepC w S T x cs)
    (row : ∀ (id : Nat) (t : TypeId) (e : ETy) (xs : List e.I) (ro : Bool), L[id]? = some (.row t e xs ro) → ∃ cs, w.ownsRow B t e.size (m id) xs.length cs ∧ RepL (RepC w S e) xs cs)
    (obj : ∀ (id : Nat) (o : Obj'), L[id]? = some (.obj o) → ObjOK B (m id) w o)
    (lbx : ∀ (id : Nat) (T : ETy) (x : T.I) (hs : List (Nat × Option Nat)), L[id]? = some (.lbx T x hs) → LbxOK B m (keepL f L) (m id) w S T x (keepH f hs))
    (apart : ∀ (i j : Nat) (s r : Slot), i ≠ j → L[i]? = some s → L[j]? = some r → s.live = true → r.live = true → ∀ b, b ∈ blks (m i) → b ∈ blks (m j) → False)
    (prot : ∀ b o, S b o → b < w.heap.size ∧ ∀ (i : Nat) (s : Slot), L[i]? = some s → s.live = true → b ∈ blks (m i) → s.ro = true ∧ o < s.cells) : Inv B m (keepL f L) w S := by
  refine ⟨base, fun id T x ro h => ?_, fun id t e xs ro h => ?_, fun id o h => ?_, fun id T x hs h => ?_, fun a b s r hne h1 h2 l1 l2 => ?_, fun b o h => ⟨(prot b o h).1, fun a s hs hl hb => ?_⟩⟩
  · obtain ⟨r, h1, h2⟩ := keep_get h
    cases r <;> simp [Slot.keep] at h2
    obtain ⟨rfl, h2, rfl⟩ := h2
    cases h2
    exact box id _ _ _ h1
  · obtain ⟨r, h1, h2⟩ := keep_get h
    cases r <;> simp [Slot.keep] at h2
    obtain ⟨rfl, rfl, h2, rfl⟩ := h2
    cases h2
    exact row id _ _ _ _ h1
  · obtain ⟨r, h1, h2⟩ := keep_get h
    cases r <;> simp [Slot.keep] at h2
    subst h2
    exact obj id _ h1
  · obtain ⟨r, h1, h2⟩ := keep_get h
    cases r <;> simp [Slot.keep] at h2
    obtain ⟨rfl, h2, rfl⟩ := h2
    cases h2
    exact lbx id _ _ _ h1
  · obtain ⟨s1, e1, rfl⟩ := keep_get h1
    obtain ⟨s2, e2, rfl⟩ := keep_get h2
    rw [keep_live] at l1 l2
    exact apart a b s1 s2 hne e1 e2 l1 l2
  · obtain ⟨s1, e1, rfl⟩ := keep_get hs
    rw [keep_live] at hl
    rw [keep_ro, keep_cells]
    exact (prot b o h).2 a s1 e1 hl hb

def appendA (C : Cfg) (L : Heap) (id : Nat) (t : TypeId) (s x : AV) : A3 :=
  match C.Ty t, elId C t with
  | some (.slice e), some te =>
    if decide (C.Ty te = some e) && !(e.size == 0) then
      (liftA L (.slice e) x).bind fun ys =>
        match s with
        | .rs i => match L[i]? with
          | some (.row te' e' xs ro) => if te' = te then (castI (.slice e) (.slice e') ys).map fun ys => (decide (List.length xs + List.length ys ≤ rowMax), .rs i, killL i (L.set i (.row te' e' (xs ++ ys) ro))) else none
          | _ => none
        | .cst (.slice none 0 0) => some (decide (List.length ys ≤ rowMax), .rs id, L.set id (.row te e ys false))
        | _ => none
    else none
  | _, _ => none

section
variable {C : Cfg} {B : Nat} {m : Nat → Value} {L : Heap} {w w' : World} {S S' : Nat → Nat → Prop}

theorem does_store (hC : C.OK) (hI : Inv B m L w S) {t : TypeId} {p a : AV} {up ua : Value} (hp : RepA m L w S p up) (ha : RepA m L w S a ua) {av : AV} {L' : Heap} (hb : storeA C L t p a = some (true, av, L')) :
    ∃ m' w' S', (Instr.storeAt t up ua).run C.P w = .ok () w' ∧ Goes B (fun _ => false) m L w S m' L' w' S' ∧ av = .dead := by
  unfold storeA at hb
  cases hτ : C.Ty t with
  | none => rw [hτ] at hb; cases hb
  | some τ =>
    rw [hτ] at hb
    simp only [Option.bind_some] at hb
    obtain ⟨S1, g1, _, k1⟩ := markL_goes (m := m) (w := w) (fun _ => false) [a] hI
    have ha1 := goes_noX (fun _ => rfl) g1 ha
    have hp1 := goes_noX (fun _ => rfl) g1 hp
    cases hl : liftA (markL L [a]) τ a with
    | none => rw [hl] at hb; cases hb
    | some y =>
      rw [hl] at hb
      simp only [Option.bind_some] at hb
      have hr := lift_rep g1.inv ha1 (k1 a (by simp)) hl
      obtain ⟨ms, hm, rfl⟩ := hr
      have hml := hm.length
      split at hb
      · rename_i id q
        split at hb
        · rename_i T x hL
          cases hset : setP T x q ⟨τ, y⟩ with
          | none => rw [hset] at hb; cases hb
          | some x' =>
            rw [hset] at hb
            simp only [Option.map_some, Option.some.injEq, Prod.mk.injEq, true_and] at hb
            obtain ⟨rfl, rfl⟩ := hb
            simp only [RepA] at hp1
            obtain ⟨s, h1, h2, h3⟩ := hp1
            rw [hL] at h1; cases h1
            obtain ⟨h0, b, hmid, rfl⟩ := h3.1 T rfl
            obtain ⟨b', cs, el, fr, hm', hB, hb, hfr, hr⟩ := g1.inv.box id T x false hL
            rw [hmid] at hm'; cases hm'
            have hgp : ∃ d, getP T x q = some d := getP_of_set hset
            obtain ⟨d, hd⟩ := hgp
            obtain ⟨pre, mid, post, rfl, e2, e3, e4⟩ := getP_rep h0 hr hd
            obtain ⟨f1, f2⟩ := e4 ⟨τ, y⟩ x' ms hm hset
            have f1 : τ = d.τ := f1
            have hmidl := e3.length
            rw [← f1] at hmidl
            obtain ⟨w2, r1, r2⟩ := run_storeVar' (hC.ty _ _ hτ) (P := C.P) hb hfr hm hmidl
            rw [e2] at r1
            refine ⟨m, w2, S1, by simp only [Instr.storeAt, Instr.sureAddr, Sem.run_bind, Sem.run_pure, Result.andThen_ok]; exact r1, g1.trans ?_, rfl⟩
            have hsz := f2.length
            refine Goes.wrote (s' := .box T x' false) g1.inv hL rfl rfl (by rw [hmid]; rfl) r2 ⟨rfl, rfl⟩ ?_ (by intro t e xs ro e; cases e) _
            intro T' x'' ro' e
            cases e
            refine ⟨⟨x, rfl⟩, fun o ho => hfr o ?_, f2⟩
            simp only [List.length_append] at ho ⊢
            omega
        · cases hb
      · rename_i id i q
        split at hb
        · rename_i te e xs hL
          cases hset : setP e (xs.getD i e.z) q ⟨τ, y⟩ with
          | none => rw [hset] at hb; cases hb
          | some x' =>
            rw [hset] at hb
            simp only [Option.map_some, Option.some.injEq, Prod.mk.injEq, true_and] at hb
            obtain ⟨rfl, rfl⟩ := hb
            simp only [RepA] at hp1
            obtain ⟨s, h1, h2, h3⟩ := hp1
            rw [hL] at h1; cases h1
            obtain ⟨hi, h0, b, n, c, hmid, rfl⟩ := h3 te e xs false rfl
            obtain ⟨cs, ho, hr⟩ := g1.inv.row id te e xs false hL
            obtain ⟨d, hd⟩ := getP_of_set hset
            obtain ⟨pre, mid, post, rfl, e2, e3, e4⟩ := RepL.at_ (s := e.size) (fun x c h => RepC.length h) e.z i hr hi
            obtain ⟨pre', mid', post', rfl, e2', e3', e4'⟩ := getP_rep h0 e3 hd
            obtain ⟨f1, f2⟩ := e4' ⟨τ, y⟩ x' ms hm hset
            have f3 := e4 x' _ f2
            have f1 : τ = d.τ := f1
            have hmidl := e3'.length
            rw [← f1] at hmidl
            rcases ho.2 with ⟨hv, hn⟩ | ⟨g, cap, cur, hv, hg, hh, hle, hmx, hcs, htk⟩
            · omega
            · rw [hmid] at hv
              cases hv
              have hcur : cur = ((pre ++ pre') ++ mid' ++ (post' ++ post ++ cur.toList.drop (xs.length * e.size))).toArray := by
                apply Array.ext'
                have : cur.toList = cur.toList.take (xs.length * e.size) ++ cur.toList.drop (xs.length * e.size) := (List.take_append_drop _ _).symm
                refine this.trans ?_
                rw [htk]
                simp
              rw [hcur] at hh
              obtain ⟨w2, r1, r2⟩ := run_storeVar' (hC.ty _ _ hτ) (P := C.P) hh (by intro o _; simp) hm hmidl
              rw [List.length_append, e2, e2'] at r1
              refine ⟨m, w2, S1, by simp only [Instr.storeAt, Instr.sureAddr, Sem.run_bind, Sem.run_pure, Result.andThen_ok]; exact r1, g1.trans ?_, rfl⟩
              refine Goes.wrote (s' := .row te e (xs.set i x') false) g1.inv hL rfl rfl (by rw [hmid]; rfl) r2 ⟨rfl, by simp [Slot.cells]⟩ (by intro T x ro e; cases e) ?_ _
              intro t' e' xs' ro' e
              cases e
              refine ⟨⟨xs, rfl, by simp⟩, pre ++ (pre' ++ ms ++ post') ++ post, ⟨?_, .inr ⟨b, c, _, ?_, hg, r2.here, ?_, hmx, ?_, ?_⟩⟩, f3⟩
              · have := RepL.length (fun x c h => RepC.length h) f3
                exact this
              · rw [hmid]; simp
              · simpa using hle
              · have hs := congrArg Array.size hcur
                simp only [List.size_toArray, List.length_append] at hs
                rw [← hcs, hs]
                simp only [List.size_toArray, List.length_append]
                omega
              · have hl3 := RepL.length (fun x c h => RepC.length h) f3
                rw [← hl3]
                simp only [List.append_assoc]
                rw [show pre ++ (pre' ++ (ms ++ (post' ++ (post ++ List.drop (xs.length * e.size) cur.toList)))) = (pre ++ (pre' ++ (ms ++ (post' ++ post)))) ++ List.drop (xs.length * e.size) cur.toList by simp]
                exact List.take_left' rfl
        · cases hb
      · cases hb

/-- What a slice's value is, seen from its datum: where its elements lie. -/
theorem src_rep' (hI : Inv B m L w S) {τ : ETy} {y : τ.I} {a : AV} {u : Value} (hx : RepA m L w S a u) (hl : liftA L τ a = some y) : ∀ (e : ETy) (he : τ = .slice e) (ys : List e.I), castI τ (.slice e) y = some ys →
    ∃ A c, u = .slice A ys.length c ∧ (ys = [] ∨ ∃ b o ds, A = some ⟨b, o, none⟩ ∧ RepL (RepC w S e) ys ds ∧ ∀ j (h : j < ds.length), w.cell? ⟨b, o + j, none⟩ = some ds[j]) := by
  unfold liftA at hl
  split at hl
  · obtain ⟨e1, rfl⟩ := castI_eq hl
    subst e1
    intro e he ys hys
    subst he
    obtain ⟨_, rfl⟩ := castI_eq hys
    rw [rep_v] at hx
    obtain ⟨cs, hr, rfl⟩ := hx
    obtain ⟨A, cap, rfl, hcap, hr⟩ := hr
    refine ⟨A, cap, rfl, hr.imp (fun h => h) ?_⟩
    rintro ⟨b, o, ds, rfl, h1, h2⟩
    exact ⟨b, o, ds, rfl, h1, fun j hj => (h2 j hj).1⟩
  · simp only [RepA] at hx
    subst hx
    split at hl
    · cases hl
      intro e he ys hys
      cases he
      obtain ⟨_, rfl⟩ := castI_eq hys
      exact ⟨none, 0, rfl, .inl rfl⟩
    · cases hl
  · rename_i id
    split at hl
    · rename_i t e' xs ro hL
      obtain ⟨e1, rfl⟩ := castI_eq hl
      subst e1
      intro e he ys hys
      cases he
      obtain ⟨_, rfl⟩ := castI_eq hys
      simp only [RepA] at hx
      obtain ⟨s, h1, h2, h3⟩ := hx
      rw [hL] at h1; cases h1
      obtain rfl := h3 t _ _ ro rfl
      obtain ⟨cs, ho, hr⟩ := hI.row id t _ _ ro hL
      rcases ho.2 with ⟨hv, hn⟩ | ⟨g, cap, cur, hv, hg, hh, hle, _⟩
      · refine ⟨none, 0, ?_, .inl (List.eq_nil_of_length_eq_zero hn)⟩
        rw [hv]; exact congrArg (fun k => Value.slice none k 0) hn.symm
      · exact ⟨some ⟨g, 0, none⟩, cap, by rw [hv], .inr ⟨g, 0, cs, rfl, hr, row_cells ho hv⟩⟩
    · cases hl
  · rename_i id p lo n
    split at hl
    · rename_i T z ro hL
      cases hg : getP T z p with
      | none => rw [hg] at hl; cases hl
      | some d =>
        rw [hg] at hl
        simp only [Option.bind_some] at hl
        split at hl
        · rename_i N e' xs
          obtain ⟨e1, rfl⟩ := castI_eq hl
          subst e1
          intro e he ys hys
          cases he
          obtain ⟨_, rfl⟩ := castI_eq hys
          simp only [RepA] at hx
          obtain ⟨s, h1, h2, h3⟩ := hx
          rw [hL] at h1; cases h1
          obtain ⟨h0, hn, b, A, cap, hcap, hm, rfl, hA⟩ := h3 T rfl N _ (getP_ty hg)
          obtain ⟨b', cs, el, fr, hm', hB, hb, hfr, hr⟩ := hI.box id T z ro hL
          rw [hm] at hm'; cases hm'
          obtain ⟨pre, mid, post, rfl, e2, e3, _⟩ := getP_rep h0 hr hg
          obtain ⟨hxl, hxr⟩ := e3
          have hxl : List.length xs = N := hxl
          have hlen : ((List.drop lo xs).take n).length = n := by simp; omega
          refine ⟨A, cap, congrArg (fun k => Value.slice A k cap) hlen.symm, ?_⟩
          rcases hA with rfl | rfl
          · left; exact List.take_zero
          · right
            have t1 := (RepL.take (s := e'.size) (fun x c h => RepC.length h) lo hxr).2
            have t2 := (RepL.take (s := e'.size) (fun x c h => RepC.length h) n t1).1
            refine ⟨_, _, _, rfl, t2, fun j hj => ?_⟩
            simp only [List.length_take, List.length_drop] at hj
            have hcell := cellsAt_mid (cellsAt_block hb) (lo * e'.size + j) (by omega)
            rw [Nat.zero_add, e2] at hcell
            rw [Nat.add_assoc]
            simpa using hcell
        · cases hl
    · cases hl
  · rename_i id lo n
    split at hl
    · rename_i t e' xs ro hL
      obtain ⟨e1, rfl⟩ := castI_eq hl
      subst e1
      intro e he ys hys
      cases he
      obtain ⟨_, rfl⟩ := castI_eq hys
      simp only [RepA] at hx
      obtain ⟨s, h1, h2, h3⟩ := hx
      rw [hL] at h1; cases h1
      obtain ⟨hn, A, c, hc, rfl, hA⟩ := h3 t _ _ ro rfl
      obtain ⟨cs, ho, hr⟩ := hI.row id t _ _ ro hL
      have hcl := RepL.length (fun x c h => RepC.length h) hr
      have hlen : ((List.drop lo xs).take n).length = n := by simp; omega
      refine ⟨A, c, congrArg (fun k => Value.slice A k c) hlen.symm, ?_⟩
      rcases hA with rfl | ⟨b, k, c1, hm, rfl⟩
      · left; exact List.take_zero
      · right
        have t1 := (RepL.take (s := e'.size) (fun x c h => RepC.length h) lo hr).2
        have t2 := (RepL.take (s := e'.size) (fun x c h => RepC.length h) n t1).1
        refine ⟨b, lo * e'.size, _, rfl, t2, fun j hj => ?_⟩
        simp only [List.length_take, List.length_drop] at hj
        have hcell := row_cells ho hm (lo * e'.size + j) (by omega)
        rw [Nat.zero_add] at hcell
        simpa using hcell
    · cases hl
  · obtain ⟨e1, rfl⟩ := castI_eq hl
    subst e1
    intro e he
    cases he
  · cases hl

theorem src_rep (hI : Inv B m L w S) {e : ETy} {ys : List e.I} {a : AV} {u : Value} (hx : RepA m L w S a u) (hl : liftA L (.slice e) a = some ys) :
    ∃ A c, u = .slice A ys.length c ∧ (ys = [] ∨ ∃ b o ds, A = some ⟨b, o, none⟩ ∧ RepL (RepC w S e) ys ds ∧ ∀ j (h : j < ds.length), w.cell? ⟨b, o + j, none⟩ = some ds[j]) :=
  src_rep' hI hx hl e rfl ys (by simp [castI])

theorem run_append_nothing {t te ty : TypeId} {v : Value} {n c sz : Nat} {cs : List Value} {inf : TypeInfo} (hu : C.P.underlying t = some (.slice te)) (hinf : C.P.info? te = some inf) (ho : w.ownsRow B te sz v n cs) :
    (Builtin.append_ #[t, t] ty #[v, .slice none 0 c]).run C.P w = .ok v w := by
  rcases ho.2 with ⟨rfl, rfl⟩ | ⟨g, cap, cur, rfl, hb, hg, hnc, _⟩
  · simp [Builtin.append_, run_underlying hu, sizeOf, typeInfo, hinf, Builtin.lenOf, Builtin.firstCells]
  · simp [Builtin.append_, run_underlying hu, sizeOf, typeInfo, hinf, Builtin.lenOf, Builtin.firstCells, hnc, storeCells]

/-- Onto a row of the call's own: what the model's append leaves. -/
theorem run_append_row (hC : C.OK) (hI : Inv B m L w S) {t te ty : TypeId} {e : ETy} {v : Value} {n c : Nat} {cs : List Value} {ys : List e.I} {A : Option Addr} (hu : C.P.underlying t = some (.slice te)) (hty : C.Ty t = some (.slice e)) (hte : C.Ty te = some e) (hz : e.size ≠ 0)
    (ho : w.ownsRow B te e.size v n cs) (hbound : n + ys.length ≤ rowMax) (hsrc : ys = [] ∨ ∃ b o ds, A = some ⟨b, o, none⟩ ∧ RepL (RepC w S e) ys ds ∧ ∀ j (h : j < ds.length), w.cell? ⟨b, o + j, none⟩ = some ds[j]) :
    ∃ v' w' ds, (Builtin.append_ #[t, t] ty #[v, .slice A ys.length c]).run C.P w = .ok v' w' ∧ w'.ownsRow B te e.size v' (n + ys.length) (cs ++ ds) ∧ w.grownBy w' v.ownBlock ∧ (v'.ownBlock = v.ownBlock ∨ (v'.ownBlock = some w.heap.size ∧ ∀ k, k < w.heap.size → w'.heap[k]? = w.heap[k]?)) ∧ RepL (RepC w S e) ys ds := by
  obtain ⟨te', inf, hu', hinf, hsz, hby, _⟩ := und_slice (hC.ty _ _ hty)
  rw [hu] at hu'; cases hu'
  obtain ⟨inf', hinf', _, hzero⟩ := (hC.ty _ _ hte).size
  rw [hinf] at hinf'; cases hinf'
  have hzc : (valOf e (zc e)).cells.size = e.size := by rw [cells_valOf (repC_zero (w := w) (S := S) e)]; simpa using zc_length e
  unfold rowMax at hbound
  cases A with
  | none =>
    have hys : ys = [] := by
      rcases hsrc with h | ⟨_, _, _, h, _⟩
      · exact h
      · cases h
    subst hys
    refine ⟨v, w, [], run_append_nothing hu hinf ho, by simpa using ho, ⟨rfl, rfl, rfl, Nat.le_refl _, fun _ _ _ => rfl⟩, .inl rfl, rfl⟩
  | some ad =>
    obtain ⟨ds, h1, h2⟩ : ∃ ds, RepL (RepC w S e) ys ds ∧ ∀ j u, ds[j]? = some u → w.cell? (ad.add j) = some u := by
      rcases hsrc with rfl | ⟨b, o, ds, h, h1, h2⟩
      · exact ⟨[], rfl, fun j u h => by simp at h⟩
      · cases h
        refine ⟨ds, h1, fun j u hj => ?_⟩
        obtain ⟨hlt, rfl⟩ := List.getElem?_eq_some_iff.1 hj
        rw [add_at]; exact h2 j hlt
    have hl := RepL.length (fun x c h => RepC.length h) h1
    have hby2 : (n + ys.length) * inf.bytes ≤ 140737488355328 := by
      calc (n + ys.length) * inf.bytes ≤ 2147483648 * 65536 := Nat.mul_le_mul hbound hby
        _ = 140737488355328 := rfl
    obtain ⟨v', w', r1, r2, r3, _, r5⟩ := run_append_own_at (P := C.P) w B t ty te inf _ e.size inf.bytes hu hinf hzero hsz rfl hzc (by omega) v n cs ho ad ys.length c ds hl h2 (RepL.one (fun x c h => RepC.one h) h1)
      (by simp only [maxLen]; omega) hby2 hI.base
    refine ⟨v', w', ds, r1, r2, r3, ?_, h1⟩
    rcases r5 with r5 | r5
    · exact .inl r5
    · right
      refine ⟨r5, ?_⟩
      rcases ho.2 with ⟨rfl, rfl⟩ | ⟨g, cap, cur, rfl, hbg, hg, hnc, hcm, hcs, htake⟩
      · intro k hk
        exact r3.block k hk (by simp [Value.ownBlock])
      · by_cases hroom : n + ys.length ≤ cap
        · exfalso
          have hr := run_append_room (P := C.P) w t ty te inf hu hinf g n cap cur hg ad ys.length c ds (by rw [hsz]; exact hl) h2 (RepL.one (fun x c h => RepC.one h) h1) hroom
            (by rw [hl, hcs, hsz, ← Nat.add_mul]; exact Nat.mul_le_mul_right _ hroom)
          rw [r1] at hr
          injection hr with hv hw
          rw [hv] at r5
          simp only [Value.ownBlock, Option.some.injEq] at r5
          have := (Array.getElem?_eq_some_iff.1 hg).1
          omega
        · have holds : ∀ j u, cs[j]? = some u → w.cell? ((⟨g, 0, none⟩ : Addr).add j) = some u := ho.cells (g := g) rfl
          have hr := run_append_grow (P := C.P) w t ty te inf _ hu hinf hzero ⟨g, 0, none⟩ n cap cs (by rw [hsz]; exact ho.1) holds ad ys.length c ds (by rw [hsz]; exact hl) h2 (by omega) (by simp only [maxLen] at hcm; omega) (growslice_fits (by omega) hby2)
          rw [r1] at hr
          injection hr with hv hw
          intro k hk
          rw [hw]
          exact Below.heap_alloc w.drew _ k hk
end
end Go.Proofs.YtmmooplcdkmapaaGreatDoor.K

set_option maxHeartbeats 400000
set_option linter.unusedVariables false
set_option linter.unusedSimpArgs false
namespace Go.Proofs.YtmmooplcdkmapaaGreatDoor.K
open Go Go.RowKit

section
variable {C : Cfg} {B : Nat} {m : Nat → Value} {L : Heap} {w w' : World} {S S' : Nat → Nat → Prop}

/-- A row of one's own has grown, in its place or into a new block. -/
theorem Goes.rowed (hI : Inv B m L w S) {id : Nat} {t : TypeId} {e : ETy} {xs xs' : List e.I} {ro : Bool} {v' : Value} {cs cs' : List Value} (hid : L[id]? = some (.row t e xs ro)) (hle : xs.length ≤ xs'.length)
    (hg : w.grownBy w' (m id).ownBlock) (ho : w.ownsRow B t e.size (m id) xs.length cs) (hr : RepL (RepC w S e) xs cs) (ho' : w'.ownsRow B t e.size v' xs'.length (cs ++ cs')) (hr' : RepL (RepC w S e) xs' (cs ++ cs'))
    (hat : v'.ownBlock = (m id).ownBlock ∨ (v'.ownBlock = some w.heap.size ∧ ∀ k, k < w.heap.size → w'.heap[k]? = w.heap[k]?)) : Goes B (fun i => i == id) m L w S (upd m id v') (killL id (L.set id (.row t e xs' ro))) w' S := by
  have gs := get_set (s := .row t e xs' ro) ⟨_, hid⟩
  rw [blk_own ho] at hg hat
  rw [blk_own ho'] at hat
  have hcl := RepL.length (fun x c h => RepC.length h) hr
  have hold : ∀ k, k < w.heap.size → blk (m id) ≠ some k → w'.heap[k]? = w.heap[k]? := fun k hk hne => hg.block k hk (fun e => hne e.symm)
  have hsafe : Safe S S w w' := by
    refine ⟨fun _ _ h => h, fun b o h => ?_⟩
    obtain ⟨p1, p2⟩ := hI.prot b o h
    by_cases hb : blk (m id) = some b
    · obtain ⟨q1, q2⟩ := p2 id _ hid rfl (in_blk hb)
      simp only [Slot.cells] at q2
      rcases hat with h' | ⟨_, h'⟩
      · have hb' : blk v' = some b := h'.trans hb
        have c1 : w.cell? ⟨b, o, none⟩ = cs[o]? := by
          have hlt : o < cs.length := by omega
          have := ho.cells (g := b) (by rw [blk_own ho]; exact hb) o cs[o] (by simp)
          rw [add_at, Nat.zero_add] at this
          rw [this]; simp
        have c2 : w'.cell? ⟨b, o, none⟩ = cs[o]? := by
          have hlt : o < cs.length := by omega
          have := ho'.cells (g := b) (by rw [blk_own ho']; exact hb') o cs[o] (by rw [List.getElem?_append_left (by omega)]; simp)
          rw [add_at, Nat.zero_add] at this
          rw [this]; simp
        rw [c1, c2]
      · exact World.cell?_of_block (a := ⟨b, o, none⟩) (h' b p1)
    · exact World.cell?_of_block (a := ⟨b, o, none⟩) (hold b p1 hb)
  have hfar : ∀ j r, j ≠ id → L[j]? = some r → r.live = true → ∀ b, b ∈ blks (m j) → w'.heap[b]? = w.heap[b]? := by
    intro j r hj hr hl b hb
    exact hold b (hI.lt hr hl hb).2 (fun e => hI.apart j id r _ hj hr hid hl rfl b hb (in_blk e))
  have hat' : blk v' = blk (m id) ∨ blk v' = some w.heap.size := hat.imp (fun h => h) (fun h => h.1)
  have hap : ∀ j r, j ≠ id → L[j]? = some r → r.live = true → ∀ b, b ∈ blks (m j) → b ∈ blks v' → False := by
    intro j r hj hr hl b hb e
    have e := blk_in (single_row ho') e
    rcases hat' with h | h
    · exact hI.apart j id r _ hj hr hid hl rfl b hb (in_blk (h.symm.trans e))
    · have := (hI.lt hr hl hb).2
      rw [h] at e
      cases e
      omega
  have he : Ext (fun i => i == id) m L (upd m id v') (L.set id (.row t e xs' ro)) := by
    refine ⟨?_⟩
    intro j r hr hne
    by_cases e1 : j = id
    · subst e1
      rw [hid] at hr; cases hr
      refine ⟨.row t e xs' ro, by rw [gs, if_pos rfl], by simp, ?_, ?_, ?_⟩
      · intro T h; cases h
      · intro o h; cases h
      · intro t e xs ro hx h; simp at hx
    · exact ⟨r, by rw [gs, if_neg e1]; exact hr, hne, fun T h => ⟨upd_ne e1, h⟩, fun o h => ⟨fun u sv h => ⟨sv, by rw [upd_ne e1]; exact h⟩, o, h⟩, fun t e xs ro _ h => ⟨upd_ne e1, xs, ro, h, Nat.le_refl _⟩⟩
  refine ⟨Inv.keep_of (Nat.le_trans hI.base hg.size) ?_ ?_ ?_ ?_ ?_ ?_, hsafe, ⟨hg.os, hg.tape, hg.output, hg.size, fun k hk => hold k (Nat.lt_of_lt_of_le hk hI.base) (fun e => by have := (hI.lt hid rfl (in_blk e)).1; omega)⟩, he.keep _, fun _ _ h => .inl h⟩
  · intro j T x ro' h
    rw [gs] at h
    split at h
    · cases h
    · rename_i e'
      obtain ⟨b, ds, el, fr, hm, h4, h5, h6, h7⟩ := hI.box j T x ro' h
      exact ⟨b, ds, el, fr, by rw [upd_ne e']; exact hm, h4, by rw [hfar j _ e' h rfl b (by rw [hm]; exact in_ptr _ _)]; exact h5, h6, h7.safe hsafe⟩
  · intro j t' e' ys ro' h
    rw [gs] at h
    split at h
    · rename_i e2; subst e2
      cases h
      rw [upd_same]
      exact ⟨_, ho', RepL.mono (fun x c h => h.safe hsafe) hr'⟩
    · rename_i e2
      rw [upd_ne e2]
      obtain ⟨ds, h1, h2⟩ := hI.row j t' e' ys ro' h
      refine ⟨ds, ⟨h1.1, h1.2.imp (fun h => h) ?_⟩, RepL.mono (fun x c h => h.safe hsafe) h2⟩
      rintro ⟨g, cap, cur, hv, hgB, hh, r⟩
      exact ⟨g, cap, cur, hv, hgB, by rw [hfar j _ e2 h rfl g (by rw [hv]; exact in_slc _ _ _ _)]; exact hh, r⟩
  · intro j o h
    rw [gs] at h
    split at h
    · cases h
    · rename_i e2
      rw [upd_ne e2]
      exact (hI.obj j o h).kept fun b hb => hfar j _ e2 h rfl b hb
  · intro j T x h q
    rw [gs] at q
    split at q
    · cases q
    · rename_i e2
      rw [upd_ne e2]
      exact (hI.lbx j T x h q).go hsafe (he.keep _) (fun b hb => hfar j _ e2 q rfl b hb) (fun o h => lk_keep_none h) (fun o rid h => ⟨(lk_keep_some h).1, by simpa using (lk_keep_some h).2⟩)
  · intro i j s1 s2 hne h1 h2 l1 l2
    rw [gs] at h1 h2
    split at h1
    · rename_i e1; subst e1
      split at h2
      · rename_i e2; exact absurd e2.symm hne
      · rename_i e2
        rw [upd_same, upd_ne e2]
        exact fun b h h' => hap j s2 e2 h2 l2 b h' h
    · rename_i e1
      split at h2
      · rename_i e2; subst e2
        rw [upd_same, upd_ne e1]
        exact hap i s1 e1 h1 l1
      · rename_i e2
        rw [upd_ne e1, upd_ne e2]
        exact hI.apart i j s1 s2 hne h1 h2 l1 l2
  · intro b o h
    obtain ⟨p1, p2⟩ := hI.prot b o h
    refine ⟨Nat.lt_of_lt_of_le p1 hg.size, fun i r hr hl hb => ?_⟩
    rw [gs] at hr
    split at hr
    · rename_i e1; subst e1
      cases hr
      rw [upd_same] at hb
      have hb := blk_in (single_row ho') hb
      rcases hat' with h' | h'
      · obtain ⟨q1, q2⟩ := p2 i _ hid rfl (in_blk (h' ▸ hb))
        simp only [Slot.cells] at q2
        refine ⟨q1, ?_⟩
        simp only [Slot.cells]
        exact Nat.lt_of_lt_of_le q2 (Nat.mul_le_mul_right _ hle)
      · rw [h'] at hb
        cases hb
        omega
    · rename_i e1
      rw [upd_ne e1] at hb
      exact p2 i r hr hl hb

/-- The rows that an append turns. -/
def rowOf : AV → Nat → Bool
  | .rs i, j => j == i
  | _, _ => false

theorem does_append (hC : C.OK) (hI : Inv B m L w S) {t ty : TypeId} {id : Nat} (hid : L[id]? = some .resv) {s x : AV} {us ux : Value} (hs : RepA m L w S s us) (hx : RepA m L w S x ux) {av : AV} {L' : Heap} (hb : appendA C L id t s x = some (true, av, L')) :
    Does C B (rowOf s) m L w S (Builtin.append_ #[t, t] ty #[us, ux]) av L' := by
  unfold appendA at hb
  split at hb
  · rename_i e te hty hte
    split at hb
    · rename_i hok
      simp only [Bool.and_eq_true, decide_eq_true_eq, Bool.not_eq_true', beq_eq_false_iff_ne, ne_eq] at hok
      have hu := elId_eq hte
      cases hl : liftA L (.slice e) x with
      | none => rw [hl] at hb; cases hb
      | some ys =>
        rw [hl] at hb
        simp only [Option.bind_some] at hb
        obtain ⟨A, c, rfl, hsrc⟩ := src_rep hI hx hl
        split at hb
        · rename_i i
          split at hb
          · rename_i te' e' xs ro hL
            split at hb
            · rename_i hte'
              subst hte'
              cases hcast : castI (.slice e) (.slice e') ys with
              | none => rw [hcast] at hb; cases hb
              | some ys' =>
                rw [hcast] at hb
                obtain ⟨he, rfl⟩ := castI_eq hcast
                cases he
                simp only [Option.map_some, Option.some.injEq, Prod.mk.injEq, decide_eq_true_eq] at hb
                obtain ⟨hbd, rfl, rfl⟩ := hb
                simp only [RepA] at hs
                obtain ⟨sl, h1, h2, h3⟩ := hs
                rw [hL] at h1; cases h1
                obtain rfl := h3 te' e xs ro rfl
                obtain ⟨cs, ho, hr⟩ := hI.row i te' e xs ro hL
                obtain ⟨v', w', ds, r1, r2, r3, r4, r5⟩ := run_append_row (ty := ty) (c := c) hC hI hu hty hok.1 hok.2 ho hbd hsrc
                have go := Goes.rowed (xs' := xs ++ ys) hI hL (by simp) r3 ho hr (by simpa using r2) (RepL.append hr r5) r4
                refine ⟨v', _, w', S, r1, go, ?_⟩
                simp only [RepA]
                refine ⟨_, get_keep (by rw [get_set ⟨_, hL⟩, if_pos rfl]), by simp [Slot.keep], fun t e xs ro e' => ?_⟩
                exact (upd_same _ _ _).symm
            · cases hb
          · cases hb
        · simp only [RepA] at hs
          subst hs
          simp only [Option.some.injEq, Prod.mk.injEq, decide_eq_true_eq] at hb
          obtain ⟨hbd, rfl, rfl⟩ := hb
          obtain ⟨v', w', ds, r1, r2, r3, r4, r5⟩ := run_append_row (ty := ty) (c := c) hC hI hu hty hok.1 hok.2 (World.ownsRow_nil w B te e.size) (by simpa using hbd) hsrc
          have hg : Grows w w' := ⟨r3.os, r3.tape, r3.output, r3.size, fun k hk => r3.block k hk (by simp [Value.ownBlock])⟩
          have hblk := blk_own r2
          simp only [Nat.zero_add, List.nil_append] at r2
          have go := Goes.fresh (s := .row te e ys false) (v := v') hI hg hid (by
              intro b hb
              rw [← hblk] at hb
              rcases r4 with h | ⟨h, _⟩
              · rw [h] at hb; simp [Value.ownBlock] at hb
              · rw [h] at hb; cases hb; exact Nat.le_refl _) (by intro T y ro e; cases e)
            (by
              intro t e xs ro e'
              cases e'
              exact ⟨ds, r2, RepL.mono (fun x c h => h.safe (hg.safe hI)) r5⟩) (rowOf (.cst (.slice none 0 0))) (single_row r2)
          refine ⟨v', _, w', S, r1, go, ?_⟩
          simp only [RepA]
          refine ⟨_, by rw [get_set ⟨_, hid⟩, if_pos rfl], by simp, fun t e xs ro e' => ?_⟩
          exact (upd_same _ _ _).symm
        · cases hb
    · cases hb
  · cases hb
end
end Go.Proofs.YtmmooplcdkmapaaGreatDoor.K

set_option maxHeartbeats 400000
set_option linter.unusedVariables false
set_option linter.unusedSimpArgs false
namespace Go.Proofs.YtmmooplcdkmapaaGreatDoor.K
open Go Go.RowKit

def bytesI (s : ByteArray) : List Int := s.data.toList.map fun b => (b.toNat : Int)
def ofBytes (xs : List Int) : ByteArray := xs.foldl (fun r n => r.push (UInt8.ofNat n.toNat)) ByteArray.empty

def toBytesA (C : Cfg) (src dst : TypeId) (s : ByteArray) : R :=
  match C.Ty src, C.Ty dst, elId C dst with
  | some .str, some (.slice (.int .u8)), some te => if C.Ty te = some (.int .u8) then ok1 (.v (.slice (.int .u8)) (bytesI s)) else none
  | _, _, _ => none

def toStrA (C : Cfg) (src dst : TypeId) (xs : List Int) : R :=
  match C.Ty src, C.Ty dst, elId C src with
  | some (.slice (.int .u8)), some .str, some te => if C.Ty te = some (.int .u8) then ok1 (.v .str (ofBytes xs)) else none
  | _, _, _ => none

def isStrTy (C : Cfg) (t : TypeId) : Bool := match C.Ty t with | some .str => true | _ => false

def convB (C : Cfg) (L : Heap) (src dst : TypeId) : AV → A3
  | .v (.int k) x => (convA C src dst (.v (.int k) x)).map fun r => (r.1, r.2, L)
  | .v .str s => bif isStrTy C dst then (convA C src dst (.v .str s)).map fun r => (r.1, r.2, L) else (toBytesA C src dst s).map fun r => (r.1, r.2, L)
  | a => (liftA L (.slice (.int .u8)) a).bind fun xs => (toStrA C src dst xs).map fun r => (r.1, r.2, L)

section
variable {C : Cfg} {B : Nat} {m : Nat → Value} {L : Heap} {w : World} {S : Nat → Nat → Prop}

theorem grows_bytes (w : World) (e : TypeId) (s : ByteArray) : Grows w (Lib.bytesWorld w e s) := by
  have h1 := Lib.bytesWorld_size w e s
  refine ⟨?_, ?_, ?_, by omega, fun k hk => Lib.bytesWorld_at_old w e s k hk⟩
  all_goals
    unfold Lib.bytesWorld World.freeze
    split <;> rfl

theorem bytesI_len (s : ByteArray) : (bytesI s).length = s.size := by
  unfold bytesI
  rw [List.length_map, Array.length_toList]; rfl

theorem repL_ints {k : IntKind} : ∀ (l : List Int), RepL (RepC w S (.int k)) l (l.map (Value.int k))
  | [] => rfl
  | x :: l => ⟨[.int k x], l.map (Value.int k), rfl, rfl, repL_ints l⟩

theorem repL_ints_eq {k : IntKind} : ∀ {l : List Int} {cs : List Value}, RepL (RepC w S (.int k)) l cs → cs = l.map (Value.int k)
  | [], cs, h => h
  | x :: l, cs, h => by
    obtain ⟨c, d, rfl, h1, h2⟩ := h
    rw [repL_ints_eq h2]
    have : c = [.int k x] := h1
    rw [this]; rfl

/-- The bytes of a string: a new row, to be read. -/
theorem does_bytes (hC : C.OK) (hI : Inv B m L w S) {src dst : TypeId} {s : ByteArray} {av : AV} (hb : toBytesA C src dst s = some (true, av)) : Does C B (fun _ => false) m L w S (convert src dst (.string s)) av L := by
  unfold toBytesA at hb
  split at hb
  · rename_i te h1 h2 h3
    split at hb
    · rename_i h4
      cases hb
      have hs := und_str (hC.ty _ _ h1)
      have hd := elId_eq h3
      have he := und_int (hC.ty _ _ h4)
      have hrun := Lib.run_convert_string_bytes w src dst te s hs hd he
      have hg := grows_bytes w te s
      let S' : Nat → Nat → Prop := fun b o => S b o ∨ (b = w.heap.size ∧ o < s.size)
      have hsafe : Safe S S' w (Lib.bytesWorld w te s) := ⟨fun _ _ h => .inl h, fun b o h => hg.cell (hI.prot b o h).1⟩
      have hI' := hI.grows hg
      have hsz := Lib.bytesWorld_size w te s
      refine ⟨_, m, _, S', hrun, ⟨⟨hI'.base, ?_, ?_, hI'.obj, fun id T x h q => (hI'.lbx id T x h q).same ⟨fun _ _ h => .inl h, fun _ _ _ => rfl⟩ (Ext.refl _ _ _) fun _ _ => rfl, hI'.apart, ?_⟩, hsafe, hg.below hI.base, Ext.refl _ _ _, ?_⟩, ?_⟩
      · intro id T x ro hL
        obtain ⟨b, cs, el, fr, q1, q2, q3, q4, q5⟩ := hI.box id T x ro hL
        exact ⟨b, cs, el, fr, q1, q2, by rw [hg.block b (Array.getElem?_eq_some_iff.1 q3).1]; exact q3, q4, q5.safe hsafe⟩
      · intro id t e xs ro hL
        obtain ⟨cs, q1, q2⟩ := hI.row id t e xs ro hL
        exact ⟨cs, row_grows hg q1, RepL.mono (fun x c h => h.safe hsafe) q2⟩
      · intro b o hs'
        rcases hs' with hs' | ⟨rfl, ho⟩
        · exact hI'.prot b o hs'
        · refine ⟨by omega, fun i sl hL hl hbk => ?_⟩
          have := (hI.lt hL hl hbk).2
          omega
      · intro b o hs'
        rcases hs' with hs' | ⟨rfl, ho⟩
        · exact .inl hs'
        · exact .inr hI.base
      · rw [rep_v]
        refine ⟨[_], ⟨some ⟨w.heap.size, 0, none⟩, grownCap w s.size 0 te, ?_, ?_, ?_⟩, rfl⟩
        · rw [bytesI_len]
        · rw [bytesI_len]; exact grownCap_ge w s.size 0 te
        · refine .inr ⟨w.heap.size, 0, _, rfl, repL_ints (bytesI s), fun j hj => ?_⟩
          have hj' : j < s.size := by simpa [bytesI_len] using hj
          refine ⟨?_, .inr ⟨rfl, by omega⟩⟩
          rw [Nat.zero_add, Lib.bytesWorld_cell w te s j hj']
          have hj2 : j < s.data.size := hj'
          simp [bytesI, List.getD, hj2, Array.getElem?_eq_getElem hj2]
    · cases hb
  · cases hb

theorem does_str (hC : C.OK) (hI : Inv B m L w S) {src dst : TypeId} {a : AV} {u : Value} (hx : RepA m L w S a u) {xs : List Int} (hl : liftA L (.slice (.int .u8)) a = some xs) {av : AV} (hb : toStrA C src dst xs = some (true, av)) :
    (convert src dst u).run C.P w = .ok (.string (ofBytes xs)) w ∧ av = .v .str (ofBytes xs) := by
  unfold toStrA at hb
  split at hb
  · rename_i te h1 h2 h3
    split at hb
    · rename_i h4
      cases hb
      refine ⟨?_, rfl⟩
      obtain ⟨A, c, rfl, hr⟩ := src_rep hI hx hl
      rw [run_convert_bytes_string w src dst te A xs.length c (elId_eq h3) (und_int (hC.ty _ _ h4)) (und_str (hC.ty _ _ h2))]
      rcases hr with rfl | ⟨b, o, ds, rfl, h5, h6⟩
      · cases A with
        | none => rfl
        | some a0 => exact run_bytesToString w a0 0 c [] (by simp [loadCells, loadCellsFrom, Sem.run_pure])
      · rw [repL_ints_eq h5] at h6
        refine run_bytesToString w _ _ c xs ?_
        have := run_loadCells_list (P := C.P) (w := w) ⟨b, o, none⟩ (xs.map (Value.int .u8)) (fun j v hj => by
          obtain ⟨hlt, rfl⟩ := List.getElem?_eq_some_iff.1 hj
          rw [add_at]; exact h6 j hlt)
        simpa using this
    · cases hb
  · cases hb

theorem does_conv (hC : C.OK) (hI : Inv B m L w S) {src dst : TypeId} {a : AV} {u : Value} (hx : RepA m L w S a u) {av : AV} {L' : Heap} (hb : convB C L src dst a = some (true, av, L')) : L' = L ∧ Does C B (fun _ => false) m L w S (convert src dst u) av L := by
  have rd : (convA C src dst a).map (fun r => (r.1, r.2, L)) = some (true, av, L') → L' = L ∧ Does C B (fun _ => false) m L w S (convert src dst u) av L := by
    intro h
    obtain ⟨⟨c, a'⟩, h1, h2⟩ := Option.map_eq_some_iff.1 h
    simp only [Prod.mk.injEq] at h2
    obtain ⟨rfl, rfl, rfl⟩ := h2
    obtain ⟨u', r1, r2⟩ := gives_conv hC hx _ h1
    exact ⟨rfl, u', m, w, S, r1, ⟨hI, Safe.refl _ _, Below.refl _ _, Ext.refl _ _ _, fun _ _ h => .inl h⟩, r2⟩
  unfold convB at hb
  split at hb
  · exact rd hb
  · cases hs : isStrTy C dst with
    | true => rw [hs] at hb; exact rd hb
    | false =>
      rw [hs] at hb
      obtain ⟨⟨c, a'⟩, h1, h2⟩ := Option.map_eq_some_iff.1 hb
      simp only [Prod.mk.injEq] at h2
      obtain ⟨rfl, rfl, rfl⟩ := h2
      rw [rep_str] at hx
      subst hx
      exact ⟨rfl, does_bytes hC hI h1⟩
  · obtain ⟨xs, hl, hb⟩ := Option.bind_eq_some_iff.1 hb
    obtain ⟨⟨c, a'⟩, h1, h2⟩ := Option.map_eq_some_iff.1 hb
    simp only [Prod.mk.injEq] at h2
    obtain ⟨rfl, rfl, rfl⟩ := h2
    obtain ⟨r1, rfl⟩ := does_str hC hI hx hl h1
    exact ⟨rfl, _, m, w, S, r1, ⟨hI, Safe.refl _ _, Below.refl _ _, Ext.refl _ _ _, fun _ _ h => .inl h⟩, rep_str.2 rfl⟩

theorem convB_L {src dst : TypeId} {a av : AV} {c : Bool} {L' : Heap} (hb : convB C L src dst a = some (c, av, L')) : L' = L := by
  have fin : ∀ {o : R}, o.map (fun r => (r.1, r.2, L)) = some (c, av, L') → L' = L := by
    intro o h
    obtain ⟨r, _, h2⟩ := Option.map_eq_some_iff.1 h
    simp only [Prod.mk.injEq] at h2
    exact h2.2.2.symm
  unfold convB at hb
  split at hb
  · exact fin hb
  · cases hs : isStrTy C dst with
    | true => rw [hs] at hb; exact fin hb
    | false => rw [hs] at hb; exact fin hb
  · obtain ⟨xs, _, hb⟩ := Option.bind_eq_some_iff.1 hb
    exact fin hb

theorem convA_v {src dst : TypeId} {a av : AV} {c : Bool} (h : convA C src dst a = some (c, av)) : ∃ τ x, av = .v τ x := by
  unfold convA at h
  split at h
  · split at h
    · cases h; exact ⟨_, _, rfl⟩
    · cases h; exact ⟨_, _, rfl⟩
    · cases h
  · split at h
    · cases h; exact ⟨_, _, rfl⟩
    · cases h
  · cases h

theorem toStrA_v {src dst : TypeId} {xs : List Int} {r : Bool × AV} (h : toStrA C src dst xs = some r) : ∃ τ x, r.2 = .v τ x := by
  unfold toStrA at h
  split at h
  · split at h
    · cases h; exact ⟨_, _, rfl⟩
    · cases h
  · cases h

theorem convB_v {src dst : TypeId} {σ : ETy} {y : σ.I} {av : AV} {c : Bool} {L' : Heap} (hb : convB C L src dst (.v σ y) = some (c, av, L')) : (∃ τ x, av = .v τ x) ∧ ∀ L2, convB C L2 src dst (.v σ y) = some (c, av, L2) := by
  have fin : ∀ {o : R}, (∀ r, o = some r → ∃ τ x, r.2 = .v τ x) → o.map (fun r => (r.1, r.2, L)) = some (c, av, L') → (∃ τ x, av = .v τ x) ∧ ∀ L2 : Heap, o.map (fun r => (r.1, r.2, L2)) = some (c, av, L2) := by
    intro o ho h
    obtain ⟨r, h1, h2⟩ := Option.map_eq_some_iff.1 h
    simp only [Prod.mk.injEq] at h2
    obtain ⟨rfl, rfl, _⟩ := h2
    subst h1
    exact ⟨ho r rfl, fun _ => rfl⟩
  unfold convB at hb ⊢
  split at hb
  · exact fin (fun r hr => convA_v hr) hb
  · cases hs : isStrTy C dst with
    | true => rw [hs] at hb; exact fin (fun r hr => convA_v hr) hb
    | false =>
      rw [hs] at hb
      refine fin (fun r hr => ?_) hb
      unfold toBytesA at hr
      split at hr
      · split at hr
        · cases hr; exact ⟨_, _, rfl⟩
        · cases hr
      · cases hr
  · obtain ⟨xs, h1, hb⟩ := Option.bind_eq_some_iff.1 hb
    have h1' : ∀ L2, liftA L2 (.slice (.int .u8)) (.v σ y) = some xs := fun L2 => h1
    simp only [h1', Option.bind_some]
    refine fin (fun r hr => ?_) hb
    unfold toStrA at hr
    split at hr
    · split at hr
      · cases hr; exact ⟨_, _, rfl⟩
      · cases hr
    · cases hr
end
end Go.Proofs.YtmmooplcdkmapaaGreatDoor.K

set_option maxHeartbeats 400000
set_option linter.unusedVariables false
set_option linter.unusedSimpArgs false
namespace Go.Proofs.YtmmooplcdkmapaaGreatDoor.K
open Go Go.RowKit

def act (C : Cfg) (ρ : Operand → AV) (L : Heap) (id : Nat) (ty : TypeId) : Op → A3
  | .alloc t => allocA C L id t
  | .box t x => boxA C L id t (ρ x)
  | .build t parts => buildA C L t (parts.toList.map fun (i, x) => (i, ρ x))
  | .buildSlice t len parts => buildSliceA C L id t len (parts.toList.map fun (i, x) => (i, ρ x))
  | .store t p x => storeA C L t (ρ p) (ρ x)
  | .move (.const (.slice none 0 0)) => nilRowA C L id ty
  | .assign (.const (.slice none 0 0)) => nilRowA C L id ty
  | .call ⟨.builtin .append, args, ts⟩ => match args.toList, ts.toList with
    | [s, x], [t, t'] => if t = t' then appendA C L id t (ρ s) (ρ x) else none
    | _, _ => none
  | .convert s d x => convB C L s d (ρ x)
  | .makeSlice t l c => makeA C L id t (ρ l) (ρ c)
  | _ => none

def rowsOf (ρ : Operand → AV) : Op → Nat → Bool
  | .call ⟨.builtin .append, args, ts⟩ => match args.toList with
    | [s, _] => rowOf (ρ s)
    | _ => fun _ => false
  | _ => fun _ => false

/-- Does the operation want a place of its own? -/
def wantsId : Op → Bool
  | .alloc _ => true
  | .box _ _ => true
  | .buildSlice _ _ _ => true
  | .move (.const (.slice none 0 0)) => true
  | .assign (.const (.slice none 0 0)) => true
  | .call ⟨.builtin .append, _, _⟩ => true
  | .makeSlice _ _ _ => true
  | _ => false

theorem rep_get {c : List Value} {k : Nat} (hk : c.length = k) : ∀ (n t : Nat), t < n * k → (List.replicate n c).flatten[t]? = c[t % k]?
  | 0, t, h => by simp at h
  | n + 1, t, h => by
    rw [List.replicate_succ, List.flatten_cons]
    rcases Nat.lt_or_ge t k with ht | ht
    · rw [List.getElem?_append_left (by rw [hk]; exact ht), Nat.mod_eq_of_lt ht]
    · rw [List.getElem?_append_right (by rw [hk]; exact ht), hk, rep_get hk n (t - k) (by rw [Nat.succ_mul] at h; omega), Nat.mod_eq_sub_mod ht]
theorem made_eq {c : List Value} {k : Nat} (hk : c.length = k) (n : Nat) : (madeCells c.toArray (n * k)).toList = (List.replicate n c).flatten := by
  apply List.ext_getElem?
  intro t
  rcases Nat.lt_or_ge t (n * k) with h | h
  · have k0 : 0 < k := by
      rcases Nat.eq_zero_or_pos k with e | e
      · subst e; simp at h
      · exact e
    rw [rep_get hk n t h]
    have hm : t % k < c.length := by rw [hk]; exact Nat.mod_lt _ k0
    simp only [madeCells, Array.toList_map, List.getElem?_map, Array.getElem?_toList]
    rw [Array.getElem?_eq_getElem (by simpa using h)]
    simp only [Array.getElem_range, Option.map_some, List.size_toArray, hk]
    rw [List.getElem?_eq_getElem hm, getElem!_pos _ _ (by simpa using hm)]
    simp
  · rw [Array.getElem?_toList, Array.getElem?_eq_none (by rw [size_madeCells]; exact h), List.getElem?_eq_none]
    simp [hk]; exact h

section
variable {C : Cfg} {B : Nat} {m : Nat → Value} {L : Heap} {w w' : World} {S S' : Nat → Nat → Prop}
theorem make_fits {b : Nat} (hb : b ≤ 65536) (k : Int) (h0 : 0 ≤ k) (h : k ≤ 2147483648) : (b : Int) * k ≤ 281474976710656 ∧ k ≤ 9223372036854775807 ∧ k.toNat ≤ maxLen := by
  obtain ⟨n, rfl⟩ := Int.eq_ofNat_of_zero_le h0
  have h2 : n ≤ 2147483648 := by omega
  have := Nat.mul_le_mul hb h2
  have hm : maxLen = 2 ^ 63 - 1 := rfl
  refine ⟨?_, by omega, by simp only [Int.toNat_natCast]; omega⟩
  have : ((b * n : Nat) : Int) ≤ 281474976710656 := by omega
  rwa [Int.natCast_mul] at this
theorem does_make (hC : C.OK) (hI : Inv B m L w S) {t : TypeId} {id : Nat} (hid : L[id]? = some .resv) {l c : AV} {ul uc : Value} (hl : RepA m L w S l ul) (hc : RepA m L w S c uc) {av : AV} {L' : Heap} (hb : makeA C L id t l c = some (true, av, L')) :
    Does C B (fun _ => false) m L w S (Instr.makeSlice t ul uc) av L' := by
  unfold makeA at hb
  split at hb
  · rename_i e te hty hte
    split at hb
    · rename_i hok
      simp only [Bool.and_eq_true, decide_eq_true_eq, Bool.not_eq_true', beq_eq_false_iff_ne, ne_eq] at hok
      split at hb
      · rename_i k1 n k2 k
        simp only [Option.some.injEq, Prod.mk.injEq, Bool.and_eq_true, decide_eq_true_eq] at hb
        obtain ⟨⟨⟨hnk, h0⟩, hmx⟩, rfl, rfl⟩ := hb
        rw [rep_int] at hl hc
        subst hl hc
        have hnk : k = n := hnk.symm
        subst hnk
        have hu := elId_eq hte
        obtain ⟨te', inf, hu', hinf, hsz, hby, _⟩ := und_slice (hC.ty _ _ hty)
        rw [hu] at hu'; cases hu'
        obtain ⟨inf', hinf', _, hzero⟩ := (hC.ty _ _ hok.1).size
        rw [hinf] at hinf'; cases hinf'
        have hcell : (valOf e (zc e)).cells = (zc e).toArray := cells_valOf (repC_zero (w := w) (S := S) e)
        obtain ⟨f1, f2, f3⟩ := make_fits hby k h0 hmx
        have hr := run_make (P := C.P) w t te inf _ hu hinf hzero k1 k2 k k h0 (Int.le_refl _) f1 f2
        rw [hcell, hsz] at hr
        have hme := made_eq (zc_length e) (Int.toNat k)
        have ho := World.ownsRow_lit (base := w.heap.size) (e := te) (size := e.size) w (madeCells (zc e).toArray (Int.toNat k * e.size)) (Int.toNat k) (Nat.le_refl _) f3 (size_madeCells _ _)
        have hg : Grows w (w.alloc (.cells (madeCells (zc e).toArray (Int.toNat k * e.size)) te)) := Grows.alloc w _
        have ho' : (w.alloc (.cells (madeCells (zc e).toArray (Int.toNat k * e.size)) te)).ownsRow B te e.size (.slice (some ⟨w.heap.size, 0, none⟩) (Int.toNat k) (Int.toNat k)) (Int.toNat k) (List.replicate (Int.toNat k) (zc e)).flatten := by
          rw [← hme]
          refine ⟨ho.1, ho.2.imp (fun h => h) ?_⟩
          rintro ⟨g, cap, cur, hv, hB, r⟩
          exact ⟨g, cap, cur, hv, Nat.le_trans hI.base hB, r⟩
        have go := Goes.fresh (s := .row te e (List.replicate (Int.toNat k) e.z) false) (v := .slice (some ⟨w.heap.size, 0, none⟩) (Int.toNat k) (Int.toNat k)) hI hg hid (by
            intro b hb; cases hb; exact Nat.le_refl _) (by intro T y ro h; cases h) (by
            intro t' e' ys ro h
            cases h
            refine ⟨(List.replicate (Int.toNat k) (zc e)).flatten, ?_, RepL.replicate (repC_zero e) _⟩
            rw [List.length_replicate]
            exact ho') (fun _ => false)
        refine ⟨_, _, _, S, hr, go, ?_⟩
        simp only [RepA]
        refine ⟨_, by rw [get_set ⟨_, hid⟩, if_pos rfl], by simp, fun t e xs ro e' => ?_⟩
        exact (upd_same _ _ _).symm
      · cases hb
    · cases hb
  · cases hb
end

section
variable {C : Cfg} {B : Nat} {m : Nat → Value} {L : Heap} {w w' : World} {S S' : Nat → Nat → Prop}

/-- What an operation of a region comes to. -/
def OpDoes (C : Cfg) (B : Nat) (X : Nat → Bool) (m : Nat → Value) (L : Heap) (w : World) (S : Nat → Nat → Prop) (a : Act) (o : Oper) (av : AV) (L' : Heap) : Prop :=
  ∀ (next : Act → World → Prop) (Q : Exit → Act → World → Prop), (∀ u m' w' S', Goes B X m L w S m' L' w' S' → RepA m' L' w' S' av u → next (a.put o.dst u) w') → o.wp C.P a w next Q

theorem opDoes_of {X : Nat → Bool} {a : Act} {o : Oper} {av : AV} {L' : Heap} {s : Sem Value} (hs : execOp a.eval o = (do pure (.value (← s)))) (h : Does C B X m L w S s av L') : OpDoes C B X m L w S a o av L' := by
  intro next Q hn
  obtain ⟨u, m', w', S', h1, h2, h3⟩ := h
  unfold Oper.wp
  rw [hs]
  simp only [Sem.run_bind, h1, Result.andThen_ok, Sem.run_pure, Oper.upon]
  exact hn u m' w' S' h2 h3

theorem opDoes_rop (hC : C.OK) (hI : Inv B m L w S) {ρ : Operand → AV} {a : Act} (h : ∀ x, RepA m L w S (ρ x) (a.eval x)) {o : Oper} {av : AV} (hr : rop C ρ L o.op = some (true, av)) (X : Nat → Bool) : OpDoes C B X m L w S a o av L := by
  intro next Q hn
  obtain ⟨u, h1, h2⟩ := rop_gives hC hI h o av hr
  unfold Oper.wp
  rw [h1]
  exact hn u m w S ⟨hI, Safe.refl _ _, Below.refl _ _, Ext.refl _ _ _, fun _ _ h => .inl h⟩ h2

theorem opDoes_act (hC : C.OK) (hI : Inv B m L w S) {ρ : Operand → AV} {a : Act} (hρ : ∀ c, ρ (.const c) = constA c) (h : ∀ x, RepA m L w S (ρ x) (a.eval x)) {o : Oper} {id : Nat} (hid : wantsId o.op = true → L[id]? = some .resv) {av : AV} {L' : Heap}
    (ha : act C ρ L id o.type o.op = some (true, av, L')) : OpDoes C B (rowsOf ρ o.op) m L w S a o av L' := by
  unfold act at ha
  split at ha <;> rename_i ho
  · rename_i t
    refine opDoes_of (by unfold execOp; rw [ho]) ?_
    rw [ho] at hid ⊢
    exact does_alloc hC hI (hid rfl) ha
  · rename_i t x
    refine opDoes_of (s := Instr.box t (a.eval x)) (by unfold execOp; rw [ho]) ?_
    rw [ho] at hid ⊢
    exact does_box hC hI (h x) (hid rfl) ha
  · rename_i t parts
    refine opDoes_of (s := Instr.build t (parts.map fun (i, x) => (i, a.eval x))) (by unfold execOp; rw [ho]) ?_
    rw [ho]
    exact does_build hC hI h ha
  · rename_i t len parts
    refine opDoes_of (s := Instr.buildSlice t len (parts.map fun (i, x) => (i, a.eval x))) (by unfold execOp; rw [ho]) ?_
    rw [ho] at hid ⊢
    exact does_buildSlice hC hI h (hid rfl) ha
  · rename_i t p x
    obtain ⟨m', w', S', h1, h2, rfl⟩ := does_store hC hI (h p) (h x) ha
    intro next Q hn
    unfold Oper.wp execOp
    rw [ho] at hn ⊢
    simp only [Sem.run_bind, h1, Result.andThen_ok, Sem.run_pure, Oper.upon]
    exact hn undef m' w' S' h2 (by simp only [RepA])
  · obtain ⟨m', h1, h2⟩ := does_nilRow hC hI (by rw [ho] at hid; exact hid rfl) ha
    intro next Q hn
    unfold Oper.wp execOp
    rw [ho] at hn ⊢
    exact hn _ m' w S h1 h2
  · obtain ⟨m', h1, h2⟩ := does_nilRow hC hI (by rw [ho] at hid; exact hid rfl) ha
    intro next Q hn
    unfold Oper.wp execOp
    rw [ho] at hn ⊢
    exact hn _ m' w S h1 h2
  · rename_i args ts
    split at ha
    · rename_i s x t t' e1 e2
      split at ha
      · rename_i htt
        subst htt
        have hargs : args = #[s, x] := by rw [← Array.toArray_toList (xs := args), e1]
        have hts : ts = #[t, t] := by rw [← Array.toArray_toList (xs := ts), e2]
        subst hargs; subst hts
        have hd := does_append (ty := o.type) hC hI (by rw [ho] at hid; exact hid rfl) (h s) (h x) ha
        intro next Q hn
        obtain ⟨u, m', w', S', h1, h2, h3⟩ := hd
        unfold Oper.wp execOp
        rw [ho] at hn ⊢
        simp only [resolve, Sem.run_bind, Sem.run_pure, Result.andThen_ok, invoke, builtin, List.map_toArray, List.map_cons, List.map_nil, h1, Oper.upon]
        exact hn u m' w' S' h2 h3
      · cases ha
    · cases ha
  · rename_i s d x
    obtain ⟨rfl, h1⟩ := does_conv hC hI (h x) ha
    refine opDoes_of (s := convert s d (a.eval x)) (by unfold execOp; rw [ho]) ?_
    rw [ho]
    exact h1
  · rename_i t l c
    refine opDoes_of (s := Instr.makeSlice t (a.eval l) (a.eval c)) (by unfold execOp; rw [ho]) ?_
    rw [ho] at hid ⊢
    exact does_make hC hI (hid rfl) (h l) (h c) ha
  · cases ha
end
end Go.Proofs.YtmmooplcdkmapaaGreatDoor.K

/- Operations that make memory, continued: that the model's own do as is said. -/
import Derived.Test.YtmphlhnpichonaaDoorK13
import Derived.Laws.Tables
set_option maxHeartbeats 400000
set_option linter.unusedVariables false
set_option linter.unusedSimpArgs false
namespace Go.Proofs.YtmphlhnpichonaaDoor.K
open Go Go.RowKit

section
variable {C : Cfg} {B : Nat} {m : Nat → Value} {L : Heap} {w w' : World} {S S' : Nat → Nat → Prop}

/-- What an operation that turns memory comes to. -/
def Does (C : Cfg) (B : Nat) (X : Nat → Bool) (m : Nat → Value) (L : Heap) (w : World) (S : Nat → Nat → Prop) (s : Sem Value) (av : AV) (L' : Heap) : Prop :=
  ∃ u m' w' S', s.run C.P w = .ok u w' ∧ Goes B X m L w S m' L' w' S' ∧ RepA m' L' w' S' av u

theorem mark_resv {l : List AV} {id : Nat} : ∀ {L : Heap}, L[id]? = some .resv → (markL L l)[id]? = some .resv := by
  induction l with
  | nil => exact fun h => h
  | cons a l ih =>
    intro L h
    unfold markL
    split
    · rename_i j hj
      apply ih
      unfold mark1
      cases hL : L[j]? with
      | none => exact h
      | some s =>
        rw [get_set ⟨_, hL⟩]
        split
        · rename_i e; subst e; rw [h] at hL; cases hL; rfl
        · exact h
    · exact ih h

theorem goes_noX {X : Nat → Bool} {m1 : Nat → Value} {L1 : Heap} {w1 : World} {S1 : Nat → Nat → Prop} (hX : ∀ i, X i = false) (hg : Goes B X m L w S m1 L1 w1 S1) {a : AV} {u : Value} (h : RepA m L w S a u) : RepA m1 L1 w1 S1 a u := by
  refine RepA.go hg.safe hg.ext ?_ h
  have : ∀ (f : Bool → Nat → Bool), (∀ r i, f r i = true) → (∀ a : AV, a.ids f = true) := by
    intro f hf a
    exact AV.rec (motive_1 := fun a => a.ids f = true) (motive_2 := fun l => AV.idsL f l = true) (fun _ _ => by simp only [AV.ids]) (fun _ => by simp only [AV.ids]) (fun _ _ _ => by simp only [AV.ids]) (fun _ _ => by simp only [AV.ids]; exact hf _ _) (fun _ _ _ => by simp only [AV.ids]; exact hf _ _)
      (fun _ _ _ _ => by simp only [AV.ids]; exact hf _ _) (fun _ => by simp only [AV.ids]; exact hf _ _) (fun _ _ h => by simp only [AV.ids]; exact h) (fun _ h => by simp only [AV.ids]; exact h) (by simp only [AV.ids]) (by simp only [AV.idsL])
      (fun a l h1 h2 => by simp only [AV.idsL, h1, h2, Bool.and_self]) a
  exact this _ (fun r i => by simp [noX, hX]) a

theorem all2_parts {σ : Operand → Value} {ρ : Operand → AV} {m1 : Nat → Value} {L1 : Heap} {w1 : World} {S1 : Nat → Nat → Prop} (hI : Inv B m1 L1 w1 S1) (h : ∀ x, RepA m1 L1 w1 S1 (ρ x) (σ x)) : ∀ (parts : List (Nat × Operand)), (∀ p ∈ parts, ∀ id, markA (ρ p.2) = some id → Kept m1 L1 S1 id) →
    All2 (fun (p : Nat × AV) (q : Nat × Value) => p.1 = q.1 ∧ ∀ τ y, liftA L1 τ p.2 = some y → RepV w1 S1 τ y q.2) (parts.map fun (i, x) => (i, ρ x)) (parts.map fun (i, x) => (i, σ x))
  | [], hk => trivial
  | (i, x) :: r, hk => ⟨⟨rfl, fun τ y hy => lift_rep hI (h x) (fun id hid => hk (i, x) (by simp) id hid) hy⟩, all2_parts hI h r (fun p hp => hk p (List.mem_cons_of_mem _ hp))⟩

theorem map_snd (ρ : Operand → AV) (parts : List (Nat × Operand)) : (parts.map fun (i, x) => (i, ρ x)).map (·.2) = parts.map fun p => ρ p.2 := by simp

theorem places_of {τ : ETy} : ∀ (fs : List Field) (k : Nat), fieldsOK C.P τ k fs = true → ∃ places : List (Nat × Nat), fs.mapM (fun f => (C.P.info? f.type).map fun i => (f.offset, i.size)) = some places ∧ ∀ j σ, tyP τ [.fld (k + j)] = some σ → places[j]? = some (off τ [.fld (k + j)], σ.size)
  | [], k, h => by
    refine ⟨[], by simp, fun j σ hj => ?_⟩
    exfalso
    simp only [fieldsOK, Option.isNone_iff_eq_none] at h
    have : ∀ j, tyP τ [.fld (k + j)] = none := by
      intro j
      induction j with
      | zero => exact h
      | succ j ih => exact tyP_fld_none ih
    rw [this j] at hj
    cases hj
  | f :: fs, k, h => by
    simp only [fieldsOK, Bool.and_eq_true] at h
    obtain ⟨h1, h2⟩ := h
    obtain ⟨places, q1, q2⟩ := places_of fs (k + 1) h2
    cases hty : tyP τ [.fld k] with
    | none => rw [hty] at h1; cases h1
    | some σ =>
      rw [hty] at h1
      simp only [Bool.and_eq_true, beq_iff_eq] at h1
      obtain ⟨⟨e1, e2⟩, e3⟩ := h1
      obtain ⟨i, hi, e2⟩ := Option.map_eq_some_iff.1 e2
      refine ⟨(f.offset, i.size) :: places, by simp [List.mapM_cons, hi, q1], fun j σ' hj => ?_⟩
      cases j with
      | zero =>
        rw [Nat.add_zero, hty] at hj
        cases hj
        simp [e1, e2]
      | succ j =>
        have := q2 j σ' (by rwa [show k + 1 + j = k + (j + 1) by omega])
        rw [show k + 1 + j = k + (j + 1) by omega] at this
        simpa using this

theorem does_build (hC : C.OK) (hI : Inv B m L w S) {ρ : Operand → AV} {σ : Operand → Value} (h : ∀ x, RepA m L w S (ρ x) (σ x)) {t : TypeId} {parts : Array (Nat × Operand)} {av : AV} {L' : Heap}
    (hb : buildA C L t (parts.toList.map fun (i, x) => (i, ρ x)) = some (true, av, L')) : Does C B (fun _ => false) m L w S (Instr.build t (parts.map fun (i, x) => (i, σ x))) av L' := by
  unfold buildA at hb
  cases hτ : C.Ty t with
  | none => rw [hτ] at hb; cases hb
  | some τ =>
    rw [hτ] at hb
    simp only [Option.bind_some, map_snd] at hb
    obtain ⟨S1, g1, _, k1⟩ := markL_goes (m := m) (w := w) (fun _ => false) (parts.toList.map fun p => ρ p.2) hI
    have h1 : ∀ x, RepA m (markL L (parts.toList.map fun p => ρ p.2)) w S1 (ρ x) (σ x) := fun x => goes_noX (fun _ => rfl) g1 (h x)
    have hall := all2_parts g1.inv h1 parts.toList (fun p hp id hid => k1 (ρ p.2) (List.mem_map_of_mem (f := fun p => ρ p.2) hp) id hid)
    have hG := hC.ty _ _ hτ
    have hparts : (parts.map fun (i, x) => (i, σ x)).toList = parts.toList.map fun (i, x) => (i, σ x) := by simp
    split at hb
    · rename_i a b
      cases hs : setParts (.pair a b) .fld (markL L (parts.toList.map fun p => ρ p.2)) (ETy.pair a b).z (parts.toList.map fun (i, x) => (i, ρ x)) with
      | none => rw [hs] at hb; cases hb
      | some x =>
        rw [hs] at hb
        simp only [Option.map_some, Option.some.injEq, Prod.mk.injEq, true_and] at hb
        obtain ⟨rfl, rfl⟩ := hb
        obtain ⟨d, hd, ha, hk⟩ := hG.und
        cases d <;> simp [descOK] at hk
        rename_i fs
        obtain ⟨places, hp1, hp2⟩ := places_of fs.toList 0 hk.2
        obtain ⟨cs', f1, f2⟩ := fill_rep (S := S1) (w := w) (place := (places.toArray[·]?)) (fun i σ' hσ _ => ⟨by have := hp2 i σ' (by rw [Nat.zero_add]; exact hσ); rw [Nat.zero_add] at this; simpa using this, okP_fld hσ⟩) (by
            have : ∀ l : List (Nat × AV), okSt (.pair a b) .fld l = true := by
              intro l
              induction l with
              | nil => rfl
              | cons p l ih => obtain ⟨i, v⟩ := p; simp [okSt, ih]
            exact this _) (repC_zero (.pair a b)) hall hs
        obtain ⟨inf, hi, _, hz⟩ := hG.size
        refine ⟨.agg cs'.toArray, m, w, S1, run_build w t _ _ ?_, g1, ?_⟩
        · unfold Program.built
          simp only [hi, hd, hz, hp1]
          rw [hparts]
          exact f1
        · rw [rep_v]; exact ⟨cs', f2, rfl⟩
    · rename_i n e
      split at hb
      · rename_i hok
        cases hs : setParts (.arr n e) .idx (markL L (parts.toList.map fun p => ρ p.2)) (ETy.arr n e).z (parts.toList.map fun (i, x) => (i, ρ x)) with
        | none => rw [hs] at hb; cases hb
        | some x =>
          rw [hs] at hb
          simp only [Option.map_some, Option.some.injEq, Prod.mk.injEq, true_and] at hb
          obtain ⟨rfl, rfl⟩ := hb
          obtain ⟨te, inf, hu, hinf, hsz, hag⟩ := und_arr hG
          have hce : C.P.cellsOf te = e.size := by simp [Program.cellsOf, hinf, hsz]
          obtain ⟨cs', f1, f2⟩ := fill_rep (S := S1) (w := w) (place := fun i => some (i * e.size, e.size)) (fun i σ' hσ hlt => by
              simp only [tyP, Option.some.injEq] at hσ
              subst hσ
              simp only [decide_eq_true_eq] at hlt
              exact ⟨by simp [off], okP_idx hlt⟩) hok (repC_zero (.arr n e)) hall hs
          refine ⟨.agg cs'.toArray, m, w, S1, ?_, g1, ?_⟩
          · simp only [Instr.build, Sem.run_bind, run_zeroValue' hG, Result.andThen_ok, run_underlying hu, run_sizeOf w hinf, hce]
            rw [hparts]
            have hz : (valOf (.arr n e) (zc (.arr n e))).cells = (zc (.arr n e)).toArray := rfl
            rw [hz, f1]
            rfl
          · rw [rep_v]; exact ⟨cs', f2, rfl⟩
      · cases hb
    · cases hb

theorem cells_zc_arr (len : Nat) (e : ETy) (hz : (zc e).length = e.size) : (Array.range (len * e.size)).map ((zc e).toArray[· % (zc e).toArray.size]!) = (zc (.arr len e)).toArray := by
  simp only [zc]
  apply Array.ext'
  simp only [Array.toList_map, Array.toList_range]
  induction len with
  | zero => simp
  | succ n ih =>
    by_cases hs : e.size = 0
    · have : zc e = [] := List.eq_nil_of_length_eq_zero (by omega)
      simp [hs, this]
    · rw [List.replicate_succ', List.flatten_append, ← ih, Nat.succ_mul, List.range_add, List.map_append, List.map_map]
      congr 1
      simp only [List.flatten_cons, List.flatten_nil, List.append_nil]
      apply List.ext_getElem (by simp [hz])
      intro j h1 h2
      simp only [List.getElem_map, List.getElem_range, Function.comp_apply, List.size_toArray, hz]
      have hj : j < e.size := by simpa using h1
      have hm : (n * e.size + j) % e.size = j := by rw [Nat.mul_comm, Nat.mul_add_mod, Nat.mod_eq_of_lt hj]
      rw [hm]
      simp [getElem!_pos, h2]

theorem zc_length : ∀ e : ETy, (zc e).length = e.size := fun e => (repC_zero (w := default) (S := fun _ _ => False) e).length

theorem elId_eq {t te : TypeId} (h : elId C t = some te) : C.P.underlying t = some (.slice te) := by
  unfold elId at h
  split at h
  · rename_i e he; cases h; exact he
  · cases h

theorem does_alloc (hC : C.OK) (hI : Inv B m L w S) {t : TypeId} {id : Nat} (hid : L[id]? = some .resv) {av : AV} {L' : Heap} (hb : allocA C L id t = some (true, av, L')) : Does C B (fun _ => false) m L w S (Instr.alloc t true (.tuple #[])) av L' := by
  unfold allocA at hb
  cases hτ : C.Ty t with
  | none => rw [hτ] at hb; cases hb
  | some τ =>
    rw [hτ] at hb
    simp only [Option.map_some, Option.some.injEq, Prod.mk.injEq, true_and] at hb
    obtain ⟨rfl, rfl⟩ := hb
    have hG := hC.ty _ _ hτ
    have hg := Grows.alloc w (.cells (zc τ).toArray t (0, 0))
    have go := Goes.fresh (s := .box τ τ.z false) (v := .pointer (some ⟨w.heap.size, 0, none⟩)) hI hg hid (by intro b hb; simp [blk] at hb; omega)
      (by
        intro T x ro e
        cases e
        exact ⟨w.heap.size, zc τ, t, (0, 0), rfl, hI.base, heap_alloc_new w _, fun o _ => by simp, repC_zero τ⟩)
      (by intro t e xs ro e; cases e) (fun _ => false)
    refine ⟨.pointer (some ⟨w.heap.size, 0, none⟩), _, _, _, ?_, go, ?_⟩
    · simp only [Instr.alloc, Sem.run_bind, run_zeroValue' hG, Result.andThen_ok, newVar, newRow, cells_valOf (repC_zero (w := w) (S := S) τ)]
      rfl
    · simp only [RepA]
      refine ⟨.box τ τ.z false, by rw [get_set ⟨_, hid⟩, if_pos rfl], by simp, fun T x ro e => ?_⟩
      cases e
      exact ⟨by simp [okP], w.heap.size, upd_same _ _ _, by simp [off]⟩

theorem does_box (hC : C.OK) (hI : Inv B m L w S) {a : AV} {u : Value} (ha : RepA m L w S a u) {t : TypeId} {id : Nat} (hid : L[id]? = some .resv) {av : AV} {L' : Heap} (hb : boxA C L id t a = some (true, av, L')) : Does C B (fun _ => false) m L w S (Instr.box t u) av L' := by
  unfold boxA boxA.mark1' at hb
  cases hτ : C.Ty t with
  | none => rw [hτ] at hb; cases hb
  | some τ =>
    rw [hτ] at hb
    simp only [Option.bind_some] at hb
    obtain ⟨S1, g1, _, k1⟩ := markL_goes (m := m) (w := w) (fun _ => false) [a] hI
    have ha1 := goes_noX (fun _ => rfl) g1 ha
    cases hl : liftA (markL L [a]) τ a with
    | none => rw [hl] at hb; cases hb
    | some x =>
      rw [hl] at hb
      simp only [Option.map_some, Option.some.injEq, Prod.mk.injEq, true_and] at hb
      obtain ⟨rfl, rfl⟩ := hb
      have hr := lift_rep g1.inv ha1 (k1 a (by simp)) hl
      obtain ⟨cs, hc, rfl⟩ := hr
      have hid1 := mark_resv (l := [a]) hid
      have hg := Grows.alloc w (.cells cs.toArray t (0, 0))
      have go := Goes.fresh (s := .box τ x false) (v := .pointer (some ⟨w.heap.size, 0, none⟩)) g1.inv hg hid1 (by intro b hb; simp [blk] at hb; omega)
        (by
          intro T y ro e
          cases e
          exact ⟨w.heap.size, cs, t, (0, 0), rfl, hI.base, heap_alloc_new w _, fun o _ => by simp, hc.safe (hg.safe g1.inv)⟩)
        (by intro t e xs ro e; cases e) (fun _ => false)
      refine ⟨.pointer (some ⟨w.heap.size, 0, none⟩), _, _, _, ?_, g1.trans go, ?_⟩
      · simp only [Instr.box, Sem.run_bind, newVar, newRow, cells_valOf hc]
        rfl
      · simp only [RepA]
        refine ⟨.box τ x false, by rw [get_set ⟨_, hid1⟩, if_pos rfl], by simp, fun T y ro e => ?_⟩
        cases e
        exact ⟨by simp [okP], w.heap.size, upd_same _ _ _, by simp [off]⟩

theorem does_nilRow (hC : C.OK) (hI : Inv B m L w S) {t : TypeId} {id : Nat} (hid : L[id]? = some .resv) {av : AV} {L' : Heap} (hb : nilRowA C L id t = some (true, av, L')) :
    ∃ m', Goes B (fun _ => false) m L w S m' L' w S ∧ RepA m' L' w S av (.slice none 0 0) := by
  unfold nilRowA at hb
  split at hb
  · rename_i e te h1 h2
    simp only [Option.some.injEq, Prod.mk.injEq, true_and] at hb
    obtain ⟨rfl, rfl⟩ := hb
    have go := Goes.fresh (s := .row te e [] false) (v := .slice none 0 0) hI (Grows.refl w) hid (by intro b hb; simp [blk] at hb) (by intro T x ro e; cases e)
      (by
        intro t e xs ro e'
        cases e'
        exact ⟨[], World.ownsRow_nil w B _ _, rfl⟩) (fun _ => false)
    refine ⟨_, go, ?_⟩
    simp only [RepA]
    refine ⟨.row te e [] false, by rw [get_set ⟨_, hid⟩, if_pos rfl], by simp, fun t e xs ro e' => ?_⟩
    exact (upd_same _ _ _).symm
  · cases hb

theorem does_buildSlice (hC : C.OK) (hI : Inv B m L w S) {ρ : Operand → AV} {σ : Operand → Value} (h : ∀ x, RepA m L w S (ρ x) (σ x)) {t : TypeId} {len id : Nat} (hid : L[id]? = some .resv) {parts : Array (Nat × Operand)} {av : AV} {L' : Heap}
    (hb : buildSliceA C L id t len (parts.toList.map fun (i, x) => (i, ρ x)) = some (true, av, L')) : Does C B (fun _ => false) m L w S (Instr.buildSlice t len (parts.map fun (i, x) => (i, σ x))) av L' := by
  unfold buildSliceA at hb
  cases hτ : C.Ty t with
  | none => rw [hτ] at hb; cases hb
  | some τ =>
    cases hte : elId C t with
    | none => rw [hτ, hte] at hb; cases hb
    | some te =>
      rw [hτ, hte] at hb
      simp only [Option.bind_some, map_snd] at hb
      obtain ⟨S1, g1, _, k1⟩ := markL_goes (m := m) (w := w) (fun _ => false) (parts.toList.map fun p => ρ p.2) hI
      have h1 : ∀ x, RepA m (markL L (parts.toList.map fun p => ρ p.2)) w S1 (ρ x) (σ x) := fun x => goes_noX (fun _ => rfl) g1 (h x)
      have hall := all2_parts g1.inv h1 parts.toList (fun p hp id hid => k1 (ρ p.2) (List.mem_map_of_mem (f := fun p => ρ p.2) hp) id hid)
      have hparts : (parts.map fun (i, x) => (i, σ x)).toList = parts.toList.map fun (i, x) => (i, σ x) := by simp
      have hu := elId_eq hte
      split at hb
      · rename_i e
        split at hb
        · rename_i hok
          simp only [Bool.and_eq_true, decide_eq_true_eq, Bool.not_eq_true', beq_eq_false_iff_ne, ne_eq] at hok
          obtain ⟨⟨⟨ok1, ok2⟩, ok3⟩, ok4⟩ := hok
          cases hs : setParts (.arr len e) .idx (markL L (parts.toList.map fun p => ρ p.2)) (ETy.arr len e).z (parts.toList.map fun (i, x) => (i, ρ x)) with
          | none => rw [hs] at hb; cases hb
          | some x =>
            rw [hs] at hb
            simp only [Option.map_some, Option.some.injEq, Prod.mk.injEq, true_and] at hb
            obtain ⟨rfl, rfl⟩ := hb
            have hGe := hC.ty _ _ ok2
            obtain ⟨inf, hinf, hsz, hz⟩ := hGe.size
            have hce : C.P.cellsOf te = e.size := by simp [Program.cellsOf, hinf, hsz]
            obtain ⟨cs', f1, f2⟩ := fill_rep (S := S1) (w := w) (place := fun i => some (i * e.size, e.size)) (fun i σ' hσ hlt => by
                simp only [tyP, Option.some.injEq] at hσ
                subst hσ
                simp only [decide_eq_true_eq] at hlt
                exact ⟨by simp [off], okP_idx hlt⟩) ok1 (repC_zero (.arr len e)) hall hs
            have hxl : List.length x = len := f2.1
            have hid1 := mark_resv (l := parts.toList.map fun p => ρ p.2) hid
            have hg := Grows.alloc w (.cells cs'.toArray te (0, 0))
            have hcl := f2.length
            simp only [ETy.size] at hcl
            have go := Goes.fresh (s := .row te e x false) (v := .slice (some ⟨w.heap.size, 0, none⟩) len len) g1.inv hg hid1 (by intro b hb; simp [blk] at hb; omega)
              (by intro T y ro e; cases e)
              (by
                intro t e xs ro e'
                cases e'
                refine ⟨cs', ⟨by rw [hcl, hxl], .inr ⟨w.heap.size, len, cs'.toArray, by rw [hxl], hI.base, heap_alloc_new w _, by omega, ?_, by simp [hcl], ?_⟩⟩, RepL.mono (fun x c h => h.safe (hg.safe g1.inv)) f2.2⟩
                · have : len ≤ len * e.size := Nat.le_mul_of_pos_right _ (by omega)
                  simp only [maxLen]; omega
                · rw [hxl, ← hcl]; simp) (fun _ => false)
            refine ⟨.slice (some ⟨w.heap.size, 0, none⟩) len len, _, _, _, ?_, g1.trans go, ?_⟩
            · have hsmall : ¬ len * e.size > 2 ^ 24 := by omega
              simp only [Instr.buildSlice, Sem.run_bind, run_underlying hu, Result.andThen_ok, run_sizeOf w hinf, hce, hsmall, if_false]
              by_cases h0 : len * e.size = 0
              · have hl0 : len = 0 := by
                  rcases Nat.mul_eq_zero.1 h0 with h | h
                  · exact h
                  · exact absurd h ok3
                subst hl0
                have hcs : cs' = [] := List.eq_nil_of_length_eq_zero (by omega)
                subst hcs
                have f1' : Instr.fill (fun i => some (i * e.size, e.size)) #[] (parts.toList.map fun (i, x) => (i, σ x)) = some #[] := by simpa [zc] using f1
                simp only [Nat.zero_mul, if_true, Sem.run_bind, Sem.run_pure, Result.andThen_ok, hparts]
                have e0 : (Array.range 0).map (fun x => (#[] : Array Value)[x % (#[] : Array Value).size]!) = #[] := by simp
                rw [e0, f1']
                rfl
              · simp only [h0, if_false, Sem.run_bind, run_zeroValue' hGe, Result.andThen_ok, Sem.run_pure, cells_valOf (repC_zero (w := w) (S := S) e), hparts]
                rw [cells_zc_arr len e (zc_length e), f1]
                rfl
            · simp only [RepA]
              refine ⟨.row te e x false, by rw [get_set ⟨_, hid1⟩, if_pos rfl], by simp, fun t e xs ro e' => ?_⟩
              exact (upd_same _ _ _).symm
        · cases hb
      · cases hb
end
end Go.Proofs.YtmphlhnpichonaaDoor.K

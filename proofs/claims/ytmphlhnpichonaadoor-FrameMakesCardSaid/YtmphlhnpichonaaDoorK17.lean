/- Operations as they stand in a region: those that read, those that turn memory, calls. -/
import Derived.Test.YtmphlhnpichonaaDoorK165
set_option maxHeartbeats 400000
set_option linter.unusedVariables false
set_option linter.unusedSimpArgs false
namespace Go.Proofs.YtmphlhnpichonaaDoor.K
open Go Go.RowKit

def act (C : Cfg) (ρ : Operand → AV) (L : Heap) (id : Nat) (ty : TypeId) : Op → A3
  | .alloc t => allocA C L id t
  | .box t x => boxA C L id t (ρ x)
  | .build t parts => buildA C L t (parts.toList.map fun (i, x) => (i, ρ x))
  | .buildSlice t len parts => buildSliceA C L id t len (parts.toList.map fun (i, x) => (i, ρ x))
  | .store t p x => storeA C L t (ρ p) (ρ x)
  | .move (.const (.slice none 0 0)) => nilRowA C L id ty
  | .assign (.const (.slice none 0 0)) => nilRowA C L id ty
  | .call ⟨.builtin .append, args, ts⟩ => match args.toList, ts.toList with
    | [s, x], [t, t'] => if t = t' then appendA C L id t (ρ s) (ρ x) else none
    | _, _ => none
  | .convert s d x => convB C L s d (ρ x)
  | _ => none

def rowsOf (ρ : Operand → AV) : Op → Nat → Bool
  | .call ⟨.builtin .append, args, ts⟩ => match args.toList with
    | [s, _] => rowOf (ρ s)
    | _ => fun _ => false
  | _ => fun _ => false

/-- Does the operation want a place of its own? -/
def wantsId : Op → Bool
  | .alloc _ => true
  | .box _ _ => true
  | .buildSlice _ _ _ => true
  | .move (.const (.slice none 0 0)) => true
  | .assign (.const (.slice none 0 0)) => true
  | .call ⟨.builtin .append, _, _⟩ => true
  | _ => false

section
variable {C : Cfg} {B : Nat} {m : Nat → Value} {L : Heap} {w w' : World} {S S' : Nat → Nat → Prop}

/-- What an operation of a region comes to. -/
def OpDoes (C : Cfg) (B : Nat) (X : Nat → Bool) (m : Nat → Value) (L : Heap) (w : World) (S : Nat → Nat → Prop) (a : Act) (o : Oper) (av : AV) (L' : Heap) : Prop :=
  ∀ (next : Act → World → Prop) (Q : Exit → Act → World → Prop), (∀ u m' w' S', Goes B X m L w S m' L' w' S' → RepA m' L' w' S' av u → next (a.put o.dst u) w') → o.wp C.P a w next Q

theorem opDoes_of {X : Nat → Bool} {a : Act} {o : Oper} {av : AV} {L' : Heap} {s : Sem Value} (hs : execOp a.eval o = (do pure (.value (← s)))) (h : Does C B X m L w S s av L') : OpDoes C B X m L w S a o av L' := by
  intro next Q hn
  obtain ⟨u, m', w', S', h1, h2, h3⟩ := h
  unfold Oper.wp
  rw [hs]
  simp only [Sem.run_bind, h1, Result.andThen_ok, Sem.run_pure, Oper.upon]
  exact hn u m' w' S' h2 h3

theorem opDoes_rop (hC : C.OK) (hI : Inv B m L w S) {ρ : Operand → AV} {a : Act} (h : ∀ x, RepA m L w S (ρ x) (a.eval x)) {o : Oper} {av : AV} (hr : rop C ρ L o.op = some (true, av)) (X : Nat → Bool) : OpDoes C B X m L w S a o av L := by
  intro next Q hn
  obtain ⟨u, h1, h2⟩ := rop_gives hC hI h o av hr
  unfold Oper.wp
  rw [h1]
  exact hn u m w S ⟨hI, Safe.refl _ _, Below.refl _ _, Ext.refl _ _ _, fun _ _ h => .inl h⟩ h2

theorem opDoes_act (hC : C.OK) (hI : Inv B m L w S) {ρ : Operand → AV} {a : Act} (hρ : ∀ c, ρ (.const c) = constA c) (h : ∀ x, RepA m L w S (ρ x) (a.eval x)) {o : Oper} {id : Nat} (hid : wantsId o.op = true → L[id]? = some .resv) {av : AV} {L' : Heap}
    (ha : act C ρ L id o.type o.op = some (true, av, L')) : OpDoes C B (rowsOf ρ o.op) m L w S a o av L' := by
  unfold act at ha
  split at ha <;> rename_i ho
  · rename_i t
    refine opDoes_of (by unfold execOp; rw [ho]) ?_
    rw [ho] at hid ⊢
    exact does_alloc hC hI (hid rfl) ha
  · rename_i t x
    refine opDoes_of (s := Instr.box t (a.eval x)) (by unfold execOp; rw [ho]) ?_
    rw [ho] at hid ⊢
    exact does_box hC hI (h x) (hid rfl) ha
  · rename_i t parts
    refine opDoes_of (s := Instr.build t (parts.map fun (i, x) => (i, a.eval x))) (by unfold execOp; rw [ho]) ?_
    rw [ho]
    exact does_build hC hI h ha
  · rename_i t len parts
    refine opDoes_of (s := Instr.buildSlice t len (parts.map fun (i, x) => (i, a.eval x))) (by unfold execOp; rw [ho]) ?_
    rw [ho] at hid ⊢
    exact does_buildSlice hC hI h (hid rfl) ha
  · rename_i t p x
    obtain ⟨m', w', S', h1, h2, rfl⟩ := does_store hC hI (h p) (h x) ha
    intro next Q hn
    unfold Oper.wp execOp
    rw [ho] at hn ⊢
    simp only [Sem.run_bind, h1, Result.andThen_ok, Sem.run_pure, Oper.upon]
    exact hn undef m' w' S' h2 (by simp only [RepA])
  · obtain ⟨m', h1, h2⟩ := does_nilRow hC hI (by rw [ho] at hid; exact hid rfl) ha
    intro next Q hn
    unfold Oper.wp execOp
    rw [ho] at hn ⊢
    exact hn _ m' w S h1 h2
  · obtain ⟨m', h1, h2⟩ := does_nilRow hC hI (by rw [ho] at hid; exact hid rfl) ha
    intro next Q hn
    unfold Oper.wp execOp
    rw [ho] at hn ⊢
    exact hn _ m' w S h1 h2
  · rename_i args ts
    split at ha
    · rename_i s x t t' e1 e2
      split at ha
      · rename_i htt
        subst htt
        have hargs : args = #[s, x] := by rw [← Array.toArray_toList (xs := args), e1]
        have hts : ts = #[t, t] := by rw [← Array.toArray_toList (xs := ts), e2]
        subst hargs; subst hts
        have hd := does_append (ty := o.type) hC hI (by rw [ho] at hid; exact hid rfl) (h s) (h x) ha
        intro next Q hn
        obtain ⟨u, m', w', S', h1, h2, h3⟩ := hd
        unfold Oper.wp execOp
        rw [ho] at hn ⊢
        simp only [resolve, Sem.run_bind, Sem.run_pure, Result.andThen_ok, invoke, builtin, List.map_toArray, List.map_cons, List.map_nil, h1, Oper.upon]
        exact hn u m' w' S' h2 h3
      · cases ha
    · cases ha
  · rename_i s d x
    obtain ⟨rfl, h1⟩ := does_conv hC hI (h x) ha
    refine opDoes_of (s := convert s d (a.eval x)) (by unfold execOp; rw [ho]) ?_
    rw [ho]
    exact h1
  · cases ha
end
end Go.Proofs.YtmphlhnpichonaaDoor.K

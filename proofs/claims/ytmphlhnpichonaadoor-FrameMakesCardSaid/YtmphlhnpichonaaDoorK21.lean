/- Regions that draw their order: which operations may change places, and that the text's order says all. -/
import Derived.Test.YtmphlhnpichonaaDoorK20
set_option maxHeartbeats 400000
set_option linter.unusedVariables false
set_option linter.unusedSimpArgs false
namespace Go.Proofs.YtmphlhnpichonaaDoor.K
open Go Go.RowKit

def noOwn (a : AV) : Bool := (ownOf a).isEmpty

/-- Operations whose answer hangs on no content of the call's own blocks. -/
def shapeOnly : Op → Bool
  | .load _ _ => false
  | .call _ => false
  | .alloc _ => false
  | .box _ _ => false
  | .build _ _ => false
  | .buildSlice _ _ _ => false
  | .store _ _ _ => false
  | .move (.const (.slice none 0 0)) => false
  | .assign (.const (.slice none 0 0)) => false
  | .slice _ _ _ _ _ => true
  | _ => true

def isStore : Op → Bool
  | .store _ _ _ => true
  | _ => false

def actOK (ρ : Operand → AV) : Op → Bool
  | .alloc _ => true
  | .box _ x => noOwn (ρ x)
  | .build _ parts => parts.toList.all fun (_, x) => noOwn (ρ x)
  | .buildSlice _ _ parts => parts.toList.all fun (_, x) => noOwn (ρ x)
  | .store _ _ x => noOwn (ρ x)
  | .move (.const (.slice none 0 0)) => true
  | .assign (.const (.slice none 0 0)) => true
  | .convert _ _ x => match ρ x with | .v _ _ => true | _ => false
  | _ => false

def callOwnless (ρ : Operand → AV) : Op → Bool
  | .call ⟨.value f, args, _⟩ => (args.toList.all fun x => noOwn (ρ x)) && (match fnOf (ρ f) with | .fn _ caps => caps.all noOwn | _ => false)
  | _ => false

def noIds (a : AV) : Bool := a.ids fun _ _ => false

def evOpD {Ω : Type} (C : Cfg) (spec : Spec) (o : Oper) (id : Nat) (env : List AV) (L : Heap) (k : List AV → Heap → Option Ω) : Option Ω :=
  bif isCall o.op then
    match callA C (evA C env) L o.op with
    | some (g, bs, L1) => spec g bs fun av => bif (av.flat || callOwnless (evA C env) o.op) && noIds av then k (envPut env o.dst av) L else none
    | none => none
  else bif isAct o.op then
    bif actOK (evA C env) o.op then
      match act C (evA C env) L id o.type o.op with
      | some (c, av, L') => bif c then k (envPut env o.dst av) L' else none
      | none => none
    else none
  else
    match rop C (evA C env) L o.op with
    | some (c, av) => bif c then k (envPut env o.dst av) L else none
    | none => none

def OpRelD (C : Cfg) (o : Oper) (id : Nat) (env : List AV) (L : Heap) (env' : List AV) (L' : Heap) : Prop :=
  (isCall o.op = true ∧ ∃ g bs L1 av, callA C (evA C env) L o.op = some (g, bs, L1) ∧ Contract C g bs av ∧ (av.flat = true ∨ callOwnless (evA C env) o.op = true) ∧ noIds av = true ∧ env' = envPut env o.dst av ∧ L' = L) ∨
  (isCall o.op = false ∧ isAct o.op = true ∧ actOK (evA C env) o.op = true ∧ ∃ av, act C (evA C env) L id o.type o.op = some (true, av, L') ∧ env' = envPut env o.dst av) ∨
  (isCall o.op = false ∧ isAct o.op = false ∧ ∃ av, rop C (evA C env) L o.op = some (true, av) ∧ env' = envPut env o.dst av ∧ L' = L)

section
variable {Ω : Type} {C : Cfg} {B : Nat} {w0 : World} {S0 : Nat → Nat → Prop} {spec : Spec}

theorem noOwn_mark {a : AV} (h : noOwn a = true) : markA a = none := by
  cases a <;> simp [noOwn, ownOf] at h <;> rfl

theorem flatMap_noOwn {l : List AV} (h : l.all noOwn = true) : l.flatMap ownOf = [] := by
  induction l with
  | nil => rfl
  | cons a l ih =>
    simp only [List.all_cons, Bool.and_eq_true] at h
    have : ownOf a = [] := by simpa [noOwn] using h.1
    rw [List.flatMap_cons, this, ih h.2]; rfl

theorem callOwnless_L {ρ : Operand → AV} {L L1 : Heap} {op : Op} {g : FuncId} {bs : List AV} (h : callA C ρ L op = some (g, bs, L1)) (hc : callOwnless ρ op = true) : L1 = L := by
  unfold callA at h
  unfold callOwnless at hc
  split at h
  · simp only [Bool.and_eq_true] at hc
    split at h
    · rename_i hf
      rw [hf] at hc
      simp only at hc
      simp only [Option.map_eq_some_iff, Prod.mk.injEq] at h
      obtain ⟨x, _, _, _, rfl⟩ := h
      rw [flatMap_noOwn]
      · rfl
      · rw [List.all_append, Bool.and_eq_true]
        refine ⟨?_, hc.2⟩
        rw [List.all_map]; exact hc.1
    · cases h
  · cases h

theorem actOK_notAppend {ρ : Operand → AV} {op : Op} (h : actOK ρ op = true) : isAppend op = false := by
  unfold actOK at h
  split at h <;> first | rfl | (cases h)

theorem OpRelD.rel {o : Oper} {id : Nat} {env env' : List AV} {L L' : Heap} (h : OpRelD C o id env L env' L') : OpRel C o id env L env' L' := by
  rcases h with ⟨hc, g, bs, L1, av, h1, h2, h3, _, rfl, rfl⟩ | ⟨hc, ha, hok, av, h1, rfl⟩ | h
  · refine .inl ⟨hc, g, bs, L1, av, h1, h2, rfl, ?_⟩
    rcases h3 with h3 | h3
    · rw [h3]; rfl
    · rw [callOwnless_L h1 h3]; simp
  · refine .inr (.inl ⟨hc, ha, av, h1, ?_⟩)
    rw [actOK_notAppend hok]; rfl
  · exact .inr (.inr h)

/-! ### What an operation's answer hangs on -/
def open1 (L : Heap) : Bool → Nat → Bool := fun _ id => match L[id]? with | some .resv => false | none => false | _ => true

/-- The blocks read alike at the places that an abstract value leads to. -/
theorem ids_get {L : Heap} {j : Nat} {s : Slot} (hj : L[j]? = some .resv) {id : Nat} {b : Bool} (h : open1 L b id = true) : (L.set j s)[id]? = L[id]? := by
  have : id ≠ j := by
    rintro rfl
    unfold open1 at h
    rw [hj] at h
    cases h
  rw [List.getElem?_set_ne (Ne.symm this)]

theorem rop_resv {ρ : Operand → AV} {L : Heap} {j : Nat} {s : Slot} (hj : L[j]? = some .resv) {op : Op} (h : ∀ x ∈ op.operands, (ρ x).ids (open1 L) = true) : rop C ρ (L.set j s) op = rop C ρ L op := by
  have get1 : ∀ {a : AV} {id : Nat} {p : List PStep}, a.ids (open1 L) = true → a = .ref id p → (L.set j s)[id]? = L[id]? := by
    rintro a id p h rfl; simp only [AV.ids] at h; exact ids_get hj h
  have get2 : ∀ {a : AV} {id i : Nat} {p : List PStep}, a.ids (open1 L) = true → a = .rref id i p → (L.set j s)[id]? = L[id]? := by
    rintro a id i p h rfl; simp only [AV.ids] at h; exact ids_get hj h
  have get3 : ∀ {a : AV} {id lo n : Nat} {p : List PStep}, a.ids (open1 L) = true → a = .ls id p lo n → (L.set j s)[id]? = L[id]? := by
    rintro a id lo n p h rfl; simp only [AV.ids] at h; exact ids_get hj h
  have get4 : ∀ {a : AV} {id : Nat}, a.ids (open1 L) = true → a = .rs id → (L.set j s)[id]? = L[id]? := by
    rintro a id h rfl; simp only [AV.ids] at h; exact ids_get hj h
  unfold rop
  split
  case h_10 =>
    rename_i t x f
    have hx := h x (by simp [Op.operands])
    unfold fieldAddrA
    split <;> first | rfl | (rw [get1 hx (by assumption)]) | (rw [get2 hx (by assumption)])
  case h_11 =>
    rename_i t x i
    have hx := h x (by simp [Op.operands])
    unfold indexAddrA
    split <;> first | rfl | (rw [get1 hx (by assumption)]) | (rw [get2 hx (by assumption)]) | (rw [get3 hx (by assumption)]) | (rw [get4 hx (by assumption)])
  case h_12 =>
    rename_i t x
    have hx := h x (by simp [Op.operands])
    unfold loadA
    split <;> first | rfl | (rw [get1 hx (by assumption)]) | (rw [get2 hx (by assumption)])
  case h_13 =>
    rename_i t x lo hi
    have hx := h x (by simp [Op.operands])
    unfold sliceA
    congr 1; funext l; congr 1; funext q
    split <;> first | rfl | (rw [get1 hx (by assumption)]) | (rw [get3 hx (by assumption)])
  case h_14 =>
    rename_i x
    have hx := h x (by simp [Op.operands])
    unfold nilA
    split <;> first | rfl | (rw [get1 hx (by assumption)]) | (rw [get2 hx (by assumption)])
  case h_16 =>
    rename_i b args ts
    unfold builtinA
    split
    · split
      · rename_i t ts' a as' e1 e2
        have ha : a.ids (open1 L) = true := by
          cases hargs : args.toList with
          | nil => rw [hargs] at e2; cases e2
          | cons y ys =>
            rw [hargs] at e2
            simp only [List.map_cons, List.cons.injEq] at e2
            rw [← e2.1]
            exact h y (by simp only [Op.operands, Call.operands]; rw [Array.mem_append]; right; rw [← Array.mem_toList_iff, hargs]; simp)
        unfold lenA
        split <;> first | rfl | (split <;> first | rfl | (rw [get3 ha rfl]) | (rw [get4 ha rfl]))
      · rfl
    · rfl
    · rfl
    · rfl
  all_goals rfl
end
end Go.Proofs.YtmphlhnpichonaaDoor.K

/- Regions that draw their order, continued: the walk in whatever order. Regions that draw their order: the walk; regions of either kind. Regions of either kind: the evaluator is right. Code: the evaluator, what it comes to, and that the model comes to the same. Functions: what a body comes to is what the function gives. Entries: what is known of a function, ready for its callers. -/
import Derived.Test.YtmmooplcdkmapaaGreatDoorKD
import Derived.LoopN
import Derived.Scope
set_option maxHeartbeats 400000
set_option linter.unusedVariables false
set_option linter.unusedSimpArgs false
namespace Go.Proofs.YtmmooplcdkmapaaGreatDoor.K
open Go Go.RowKit

section
variable {Ω : Type} {C : Cfg} {B : Nat} {w0 : World} {S0 : Nat → Nat → Prop} {spec : Spec}

theorem rop_shape {ρ : Operand → AV} {L : Heap} {i : Nat} {s0 s1 : Slot} (hi : L[i]? = some s0) (hsh : sameShape s0 s1) {op : Op} (h : shapeOnly op = true) (hnc : isCall op = false) : rop C ρ (L.set i s1) op = rop C ρ L op := by
  have gs := get_set (s := s1) ⟨_, hi⟩
  have key : ∀ (id : Nat), (∃ s r, L[id]? = some s ∧ (L.set i s1)[id]? = some r ∧ (s = r ∨ sameShape s r)) ∨ (L[id]? = none ∧ (L.set i s1)[id]? = none) := by
    intro id
    rw [gs]
    split
    · rename_i e; subst e; exact .inl ⟨s0, s1, hi, rfl, .inr hsh⟩
    · cases hL : L[id]? with
      | none => exact .inr ⟨rfl, rfl⟩
      | some s => exact .inl ⟨s, s, rfl, rfl, .inl rfl⟩
  have boxes : ∀ {α : Type} (id : Nat) (f : ETy → α) (g : α), (match (L.set i s1)[id]? with | some (.box T _ _) => f T | _ => g) = (match L[id]? with | some (.box T _ _) => f T | _ => g) := by
    intro α id f g
    rcases key id with ⟨s, r, h1, h2, rfl | h3⟩ | ⟨h1, h2⟩
    · rw [h1, h2]
    · rw [h1, h2]
      cases s with
      | box T x ro => obtain ⟨y, ro', rfl⟩ := h3; rfl
      | row t e xs ro => obtain ⟨y, ro', rfl, _⟩ := h3; rfl
      | obj o => cases h3
      | lbx T x q => cases h3
      | gone => cases h3
      | resv => cases h3
    · rw [h1, h2]
  have rows : ∀ {α : Type} (id : Nat) (f : ETy → Nat → α) (g : α), (match (L.set i s1)[id]? with | some (.row _ e xs _) => f e (List.length xs) | _ => g) = (match L[id]? with | some (.row _ e xs _) => f e (List.length xs) | _ => g) := by
    intro α id f g
    rcases key id with ⟨s, r, h1, h2, rfl | h3⟩ | ⟨h1, h2⟩
    · rw [h1, h2]
    · rw [h1, h2]
      cases s with
      | box T x ro => obtain ⟨y, ro', rfl⟩ := h3; rfl
      | row t e xs ro => obtain ⟨y, ro', rfl, hl⟩ := h3; simp only [hl]
      | obj o => cases h3
      | lbx T x q => cases h3
      | gone => cases h3
      | resv => cases h3
    · rw [h1, h2]
  unfold rop
  split
  case h_10 =>
    unfold fieldAddrA
    split <;> first | rfl | exact boxes _ _ _ | exact rows _ (fun e _ => _) _
  case h_11 =>
    unfold indexAddrA
    split
    case h_5 =>
      rename_i id k ix e1 e2
      rcases key id with ⟨s, r, h1, h2, rfl | h3⟩ | ⟨h1, h2⟩
      · rw [h1, h2]
      · rw [h1, h2]
        cases s with
        | box T x ro => obtain ⟨y, ro', rfl⟩ := h3; rfl
        | row t e xs ro => obtain ⟨y, ro', rfl, hl⟩ := h3; simp only [hl]
        | obj o => cases h3
        | lbx T x q => cases h3
        | gone => cases h3
        | resv => cases h3
      · rw [h1, h2]
    all_goals first | rfl | exact boxes _ _ _ | exact rows _ (fun e _ => _) _
  case h_12 => simp [shapeOnly] at h
  case h_13 =>
    unfold sliceA
    congr 1; funext l; congr 1; funext q
    split
    case h_5 =>
      rename_i id e1
      rcases key id with ⟨s, r, h1, h2, rfl | h3⟩ | ⟨h1, h2⟩
      · rw [h1, h2]
      · rw [h1, h2]
        cases s with
        | box T x ro => obtain ⟨y, ro', rfl⟩ := h3; rfl
        | row t e xs ro => obtain ⟨y, ro', rfl, hl⟩ := h3; simp only [hl]
        | obj o => cases h3
        | lbx T x q => cases h3
        | gone => cases h3
        | resv => cases h3
      · rw [h1, h2]
    all_goals first | rfl | exact boxes _ _ _ | exact rows _ (fun e _ => _) _
  case h_14 =>
    unfold nilA
    split <;> first | rfl | exact boxes _ (fun _ => _) _ | exact rows _ (fun _ _ => _) _
  case h_16 => simp [shapeOnly] at h
  all_goals rfl

theorem readsRow_get {ρ : Operand → AV} {L : Heap} {j : Nat} {s : Slot} {op : Op} (hcl : ∀ x ∈ op.operands, (ρ x).ids (open1 L) = true) (hj : L[j]? = some .resv) : ∀ i, readsRow ρ op = some i → (L.set j s)[i]? = L[i]? := by
  intro i h
  unfold readsRow at h
  split at h
  · rename_i a b x
    split at h
    · rename_i i' hx
      cases h
      have := hcl x (by simp [Op.operands])
      rw [hx] at this
      simp only [AV.ids] at this
      exact ids_get hj this
    · cases h
  · cases h

/-- A place that comes to be used later does not matter. -/
theorem OpVal.later {o : Oper} {id j : Nat} {ρ : Operand → AV} {L L' : Heap} {av : AV} {s : Slot} (hcl : ∀ x ∈ o.op.operands, (ρ x).ids (open1 L) = true) (hj : L[j]? = some .resv) (hne : wantsId o.op = true → j ≠ id) (hns : isStore o.op = false) (h : OpVal C o id ρ L av L') :
    OpVal C o id ρ (L.set j s) av (L'.set j s) := by
  rcases h with ⟨h1, ⟨g, bs, h2, h3⟩, h4, h5, rfl⟩ | ⟨h1, h2, h3, h4⟩ | ⟨h1, h2, h3, rfl⟩
  · exact .inl ⟨h1, ⟨g, bs, by rw [callA_resv hj hcl]; exact h2, h3⟩, h4, h5, rfl⟩
  · refine .inr (.inl ⟨h1, h2, h3, ?_⟩)
    rcases act_slot h3 hns h4 with ⟨rfl, _, h⟩ | ⟨hw, _, r, _, rfl, h⟩
    · exact h _ (readsRow_get hcl hj)
    · rw [h, List.set_comm _ _ (Ne.symm (hne hw))]
  · exact .inr (.inr ⟨h1, h2, by rw [rop_resv hj hcl]; exact h3, rfl⟩)

theorem OpVal.sooner {o : Oper} {id j : Nat} {ρ : Operand → AV} {L L2 : Heap} {av : AV} {s : Slot} (hcl : ∀ x ∈ o.op.operands, (ρ x).ids (open1 L) = true) (hj : L[j]? = some .resv) (hne : wantsId o.op = true → j ≠ id) (hns : isStore o.op = false) (h : OpVal C o id ρ (L.set j s) av L2) :
    ∃ L', OpVal C o id ρ L av L' ∧ L2 = L'.set j s := by
  rcases h with ⟨h1, ⟨g, bs, h2, h3⟩, h4, h5, rfl⟩ | ⟨h1, h2, h3, h4⟩ | ⟨h1, h2, h3, rfl⟩
  · exact ⟨L, .inl ⟨h1, ⟨g, bs, by rw [← callA_resv hj hcl]; exact h2, h3⟩, h4, h5, rfl⟩, rfl⟩
  · rcases act_slot h3 hns h4 with ⟨rfl, _, h⟩ | ⟨hw, _, r, _, rfl, h⟩
    · exact ⟨L, .inr (.inl ⟨h1, h2, h3, h L fun i hi => (readsRow_get hcl hj i hi).symm⟩), rfl⟩
    · exact ⟨L.set id r, .inr (.inl ⟨h1, h2, h3, h L⟩), by rw [List.set_comm _ _ (Ne.symm (hne hw))]⟩
  · exact ⟨L, .inr (.inr ⟨h1, h2, by rw [← rop_resv hj hcl]; exact h3, rfl⟩), rfl⟩

/-- What an operation does to the blocks. -/
theorem OpVal.eff {o : Oper} {id : Nat} {ρ : Operand → AV} {L L' : Heap} {av : AV} (h : OpVal C o id ρ L av L') :
    L' = L ∨ (wantsId o.op = true ∧ isStore o.op = false ∧ ∃ s : Slot, s.live = true ∧ L' = L.set id s) ∨ (isStore o.op = true ∧ ∃ i s0 s1, L[i]? = some s0 ∧ sameShape s0 s1 ∧ s1.live = true ∧ L' = L.set i s1) := by
  rcases h with ⟨_, _, _, _, rfl⟩ | ⟨h1, h2, h3, h4⟩ | ⟨_, _, _, rfl⟩
  · exact .inl rfl
  · cases hs : isStore o.op with
    | true =>
      obtain ⟨_, i, s0, s1, q⟩ := store_slot h3 hs h4
      exact .inr (.inr ⟨rfl, i, s0, s1, q⟩)
    | false =>
      rcases act_slot h3 hs h4 with ⟨rfl, _, _⟩ | ⟨hw, _, s, hl, rfl, _⟩
      · exact .inl rfl
      · exact .inr (.inl ⟨hw, rfl, s, hl, rfl⟩)
  · exact .inl rfl

theorem wants_not_store {op : Op} (h : isStore op = true) : wantsId op = false := by cases op <;> simp [isStore] at h; rfl

theorem act_of_wants {op : Op} (h : wantsId op = true) : isAct op = true := by
  unfold wantsId at h
  split at h <;> first | rfl | cases h

/-- Two that may change places. -/
theorem OpVal.swap {ops : Array Oper} {x p : Oper} {ix ip : Nat} {ρ : Operand → AV} {L L1 L2 : Heap} {ax ap : AV} (hc : compat ops x p = true)
    (hclx : ∀ y ∈ x.op.operands, (ρ y).ids (open1 L) = true) (hclp : ∀ y ∈ p.op.operands, (ρ y).ids (open1 L) = true)
    (hrx : wantsId x.op = true → L[ix]? = some .resv) (hrp : wantsId p.op = true → L[ip]? = some .resv) (hne : wantsId x.op = true → wantsId p.op = true → ix ≠ ip)
    (h1 : OpVal C x ix ρ L ax L1) (h2 : OpVal C p ip ρ L1 ap L2) : ∃ L1', OpVal C p ip ρ L ap L1' ∧ OpVal C x ix ρ L1' ax L2 := by
  unfold compat at hc
  simp only [Bool.and_eq_true, Bool.or_eq_true, Bool.not_eq_true'] at hc
  obtain ⟨⟨_, hsx⟩, hsp⟩ := hc
  rcases h1.eff with rfl | ⟨hwx, hnsx, sx, hlx, rfl⟩ | ⟨hsx', i, s0, s1, hi, hsh, hl, rfl⟩
  · -- x turns nothing
    refine ⟨L2, h2, ?_⟩
    rcases h2.eff with rfl | ⟨hwp, hnsp, sp, hlp, rfl⟩ | ⟨hsp', i, s0, s1, hi, hsh, hl, rfl⟩
    · exact h1
    · have hnsx : isStore x.op = false := by
        cases hs : isStore x.op with
        | false => rfl
        | true =>
          have := hsx.resolve_left (by rw [hs]; simp)
          rw [act_of_wants hwp] at this
          exact absurd this.2 (by simp)
      exact h1.later hclx (hrp hwp) (fun hw => Ne.symm (hne hw hwp)) hnsx
    · have hxs := hsp.resolve_left (by rw [hsp']; simp)
      rcases h1 with ⟨h, _⟩ | ⟨_, h, _⟩ | ⟨q1, q2, q3, _⟩
      · rw [hxs.1.2] at h; cases h
      · rw [hxs.2] at h; cases h
      · exact .inr (.inr ⟨q1, q2, by rw [rop_shape hi hsh hxs.1.1 q1]; exact q3, rfl⟩)
  · -- x makes a block
    have hnsp : isStore p.op = false := by
      cases hs : isStore p.op with
      | false => rfl
      | true =>
        have := hsp.resolve_left (by rw [hs]; simp)
        rw [act_of_wants hwx] at this
        exact absurd this.2 (by simp)
    obtain ⟨L', q1, rfl⟩ := h2.sooner hclp (hrx hwx) (fun hw => hne hwx hw) hnsp
    refine ⟨L', q1, ?_⟩
    rcases h1 with ⟨h, _⟩ | ⟨k1, k2, k3, k4⟩ | ⟨_, h, _⟩
    · have := act_of_wants hwx
      cases hop : x.op <;> simp [hop, isCall, isAct] at h this <;> (rename_i cc; cases cc with | mk ce aa tt => cases ce <;> simp at h this)
    · rcases act_slot k3 hnsx k4 with ⟨hL, _, _⟩ | ⟨_, _, r, hr, hL, k⟩
      · exfalso
        have := congrArg (fun l : Heap => l[ix]?) hL
        rw [get_set ⟨_, hrx hwx⟩, if_pos rfl, hrx hwx] at this
        cases this
        simp [Slot.live] at hlx
      · have hrs : r = sx := by
          have := congrArg (fun l : Heap => l[ix]?) hL
          rw [get_set ⟨_, hrx hwx⟩, get_set ⟨_, hrx hwx⟩, if_pos rfl, if_pos rfl] at this
          cases this; rfl
        subst hrs
        exact .inr (.inl ⟨k1, k2, k3, k L'⟩)
    · rw [act_of_wants hwx] at h; cases h
  · -- x writes
    have hps := hsx.resolve_left (by rw [hsx']; simp)
    rcases h2 with ⟨h, _⟩ | ⟨_, h, _⟩ | ⟨q1, q2, q3, rfl⟩
    · rw [hps.1.2] at h; cases h
    · rw [hps.2] at h; cases h
    · exact ⟨L, .inr (.inr ⟨q1, q2, by rw [← rop_shape hi hsh hps.1.1 q1]; exact q3, rfl⟩), h1⟩

/-- Where an operation reads, or writes. -/
inductive Foot where
  | none | still | rd (id : Nat) | wr (id : Nat)
def placeId : AV → Option Nat
  | .ref id _ => some id
  | .rref id _ _ => some id
  | _ => Option.none
def footOf (ρ : Operand → AV) : Op → Foot
  | .load _ a => match ρ a with
    | .vp .. => .still
    | b => match placeId b with | some id => .rd id | Option.none => .none
  | .store _ a _ => match placeId (ρ a) with | some id => .wr id | Option.none => .none
  | .convert _ _ a => match ρ a with | .rs _ => .none | _ => .still
  | _ => .none
def feetOK : Foot → Foot → Bool
  | .rd i, .wr j => i != j
  | .wr i, .rd j => i != j
  | .still, .wr _ => true
  | .wr _, .still => true
  | _, _ => false

theorem foot_wr {ρ : Operand → AV} {op : Op} {j : Nat} (h : footOf ρ op = .wr j) : ∃ t a y, op = .store t a y ∧ placeId (ρ a) = some j := by
  unfold footOf at h
  split at h
  · split at h
    · cases h
    · split at h <;> cases h
  · rename_i t a y
    split at h
    · rename_i id hid; cases h; exact ⟨t, a, y, rfl, hid⟩
    · cases h
  · split at h <;> cases h
  · cases h
theorem foot_rd {ρ : Operand → AV} {op : Op} {j : Nat} (h : footOf ρ op = .rd j) : ∃ t a, op = .load t a ∧ placeId (ρ a) = some j := by
  unfold footOf at h
  split at h
  · rename_i t a
    split at h
    · cases h
    · split at h
      · rename_i id hid; cases h; exact ⟨t, a, rfl, hid⟩
      · cases h
  · split at h <;> cases h
  · split at h <;> cases h
  · cases h
theorem foot_still {ρ : Operand → AV} {op : Op} (h : footOf ρ op = .still) : (∃ t a T x p, op = .load t a ∧ ρ a = .vp T x p) ∨ ∃ s d a, op = .convert s d a ∧ readsRow ρ op = none := by
  unfold footOf at h
  split at h
  · rename_i t a
    split at h
    · rename_i T x p hx; exact .inl ⟨t, a, T, x, p, rfl, hx⟩
    · split at h <;> cases h
  · split at h <;> cases h
  · rename_i s d a
    split at h
    · cases h
    · rename_i hne
      refine .inr ⟨_, _, _, rfl, ?_⟩
      show (match ρ a with | .rs i => some i | _ => none) = none
      cases hx : ρ a with
      | rs i => exact absurd hx (hne i)
      | _ => rfl
  · cases h

/-- A write turns its own block, and no other. -/
theorem store_at {ρ : Operand → AV} {L L' : Heap} {id j : Nat} {ty t : TypeId} {a y : Operand} {av : AV} (hj : placeId (ρ a) = some j) (hok : noOwn (ρ y) = true) (h : act C ρ L id ty (.store t a y) = some (true, av, L')) : ∃ s, L' = L.set j s := by
  unfold act at h
  simp only at h
  unfold storeA at h
  have hm : markL L [ρ y] = L := markL_noOwn (by simpa using hok)
  simp only [Option.bind_eq_some_iff, hm] at h
  obtain ⟨τ, hτ, z, hz, h⟩ := h
  split at h
  · rename_i id' q he
    rw [he] at hj; cases hj
    split at h
    · simp only [Option.map_eq_some_iff, Prod.mk.injEq, true_and] at h
      obtain ⟨z, hz, rfl, rfl⟩ := h
      exact ⟨_, rfl⟩
    · cases h
  · rename_i id' i q he
    rw [he] at hj; cases hj
    split at h
    · simp only [Option.map_eq_some_iff, Prod.mk.injEq, true_and] at h
      obtain ⟨z, hz, rfl, rfl⟩ := h
      exact ⟨_, rfl⟩
    · cases h
  · cases h
theorem load_away {ρ : Operand → AV} {L : Heap} {i j : Nat} {t : TypeId} {a : Operand} {s : Slot} (hi : placeId (ρ a) = some i) (hne : i ≠ j) : rop C ρ (L.set j s) (.load t a) = rop C ρ L (.load t a) := by
  have e : (L.set j s)[i]? = L[i]? := by rw [List.getElem?_set_ne (Ne.symm hne)]
  unfold rop
  simp only
  unfold loadA
  cases hx : ρ a <;> rw [hx] at hi <;> simp only [placeId] at hi <;> cases hi <;> simp only [e]
theorem load_vp {ρ : Operand → AV} {L L' : Heap} {t : TypeId} {a : Operand} {T : ETy} {x : T.I} {p : List PStep} (h : ρ a = .vp T x p) : rop C ρ L' (.load t a) = rop C ρ L (.load t a) := by
  unfold rop
  simp only
  unfold loadA
  rw [h]

/-- An operation that stands still goes on anywhere. -/
theorem OpVal.still {o : Oper} {id : Nat} {ρ : Operand → AV} {L L' L2 : Heap} {av : AV} (hf : footOf ρ o.op = .still) (h : OpVal C o id ρ L av L') : L' = L ∧ OpVal C o id ρ L2 av L2 := by
  rcases foot_still hf with ⟨t, a, T, x, p, ho, hv⟩ | ⟨s, d, a, ho, hrr⟩
  · rcases h with ⟨h, _⟩ | ⟨_, h, _⟩ | ⟨h1, h2, h3, rfl⟩
    · rw [ho] at h; cases h
    · rw [ho] at h; cases h
    · refine ⟨rfl, .inr (.inr ⟨h1, h2, ?_, rfl⟩)⟩
      rw [ho] at h3 ⊢
      exact (load_vp hv).trans h3
  · rcases h with ⟨h, _⟩ | ⟨h1, h2, h3, h4⟩ | ⟨_, h, _⟩
    · rw [ho] at h; cases h
    · have hns : isStore o.op = false := by rw [ho]; rfl
      rcases act_slot h3 hns h4 with ⟨rfl, _, h⟩ | ⟨hw, _⟩
      · exact ⟨rfl, .inr (.inl ⟨h1, h2, h3, h L2 fun i hi => by rw [hrr] at hi; cases hi⟩)⟩
      · rw [ho] at hw; cases hw
    · rw [ho] at h; cases h
theorem OpVal.rd {o : Oper} {id i j : Nat} {ρ : Operand → AV} {L L' : Heap} {av : AV} {s : Slot} (hf : footOf ρ o.op = .rd i) (hne : i ≠ j) (h : OpVal C o id ρ L av L') : L' = L ∧ OpVal C o id ρ (L.set j s) av (L.set j s) := by
  obtain ⟨t, a, ho, hi⟩ := foot_rd hf
  rcases h with ⟨h, _⟩ | ⟨_, h, _⟩ | ⟨h1, h2, h3, rfl⟩
  · rw [ho] at h; cases h
  · rw [ho] at h; cases h
  · refine ⟨rfl, .inr (.inr ⟨h1, h2, ?_, rfl⟩)⟩
    rw [ho] at h3 ⊢
    rw [load_away hi hne]
    exact h3
theorem OpVal.rd' {o : Oper} {id i j : Nat} {ρ : Operand → AV} {L L' : Heap} {av : AV} {s : Slot} (hf : footOf ρ o.op = .rd i) (hne : i ≠ j) (h : OpVal C o id ρ (L.set j s) av L') : L' = L.set j s ∧ OpVal C o id ρ L av L := by
  obtain ⟨t, a, ho, hi⟩ := foot_rd hf
  rcases h with ⟨h, _⟩ | ⟨_, h, _⟩ | ⟨h1, h2, h3, rfl⟩
  · rw [ho] at h; cases h
  · rw [ho] at h; cases h
  · refine ⟨rfl, .inr (.inr ⟨h1, h2, ?_, rfl⟩)⟩
    rw [ho] at h3 ⊢
    rw [load_away hi hne] at h3
    exact h3
theorem OpVal.wr {o : Oper} {id j : Nat} {ρ : Operand → AV} {L L' : Heap} {av : AV} (hf : footOf ρ o.op = .wr j) (h : OpVal C o id ρ L av L') : ∃ s, L' = L.set j s := by
  obtain ⟨t, a, y, ho, hj⟩ := foot_wr hf
  rcases h with ⟨h, _⟩ | ⟨h1, h2, h3, h4⟩ | ⟨_, h, _⟩
  · rw [ho] at h; cases h
  · rw [ho] at h3 h4
    exact store_at hj h3 h4
  · rw [ho] at h; cases h

theorem OpVal.swapF {x p : Oper} {ix ip : Nat} {ρ : Operand → AV} {L L1 L2 : Heap} {ax ap : AV} {fx fp : Foot} (hx : footOf ρ x.op = fx) (hp : footOf ρ p.op = fp) (hok : feetOK fx fp = true)
    (h1 : OpVal C x ix ρ L ax L1) (h2 : OpVal C p ip ρ L1 ap L2) : ∃ L1', OpVal C p ip ρ L ap L1' ∧ OpVal C x ix ρ L1' ax L2 := by
  unfold feetOK at hok
  split at hok
  · rename_i i j
    have hne : i ≠ j := by simpa using hok
    obtain ⟨rfl, _⟩ := h1.rd (s := .gone) hx hne
    obtain ⟨s, rfl⟩ := h2.wr hp
    exact ⟨_, h2, (h1.rd hx hne).2⟩
  · rename_i i j
    have hne : i ≠ j := by simpa using hok
    obtain ⟨s, rfl⟩ := h1.wr hx
    obtain ⟨rfl, h3⟩ := h2.rd' hp (Ne.symm hne)
    exact ⟨L, h3, h1⟩
  · have e := (h1.still (L2 := L) hx).1
    rw [e] at h2
    exact ⟨L2, h2, (h1.still hx).2⟩
  · have e := (h2.still (L2 := L1) hp).1
    rw [e]
    exact ⟨L, (h2.still hp).2, h1⟩
  · cases hok

theorem foot_congr {ρ ρ' : Operand → AV} {op : Op} (h : ∀ x ∈ op.operands, ρ x = ρ' x) : footOf ρ op = footOf ρ' op := by
  unfold footOf
  split
  · rename_i t a
    rw [h a (by simp [Op.operands])]
  · rename_i t a y
    rw [h a (by simp [Op.operands])]
  · rename_i s d a
    rw [h a (by simp [Op.operands])]
  · rfl
theorem foot_env {ops : Array Oper} {o : Oper} {env : List AV} {d : Option Tmp} {a : AV} (hd : ∀ e, d = some e → e ∉ o.looksAt ops) : footOf (evA C (envPut env d a)) o.op = footOf (evA C env) o.op := by
  refine foot_congr fun x hx => evA_put fun e hde hxe => ?_
  subst hxe
  exact hd e hde (mem_looks hx)

theorem StepVal.swap {ops : Array Oper} {x p : Oper} {ix ip : Nat} {env : List AV} {L L1 L2 : Heap} {ax ap : AV} {fx fp : Foot} (hfx : footOf (evA C env) x.op = fx) (hfp : footOf (evA C (envPut env x.dst ax)) p.op = fp) (hc : (compat ops x p || (x.apart ops p && feetOK fx fp)) = true) (hcl : Closed env L)
    (hrx : wantsId x.op = true → L[ix]? = some .resv) (hrp : wantsId p.op = true → L[ip]? = some .resv) (hne : wantsId x.op = true → wantsId p.op = true → ix ≠ ip)
    (h1 : StepVal C ops x ix env L ax L1) (h2 : StepVal C ops p ip (envPut env x.dst ax) L1 ap L2) :
    ∃ L1', (footOf (evA C env) p.op = fp ∧ footOf (evA C (envPut env p.dst ap)) x.op = fx) ∧ StepVal C ops p ip env L ap L1' ∧ StepVal C ops x ix (envPut env p.dst ap) L1' ax L2 ∧ envPut (envPut env p.dst ap) x.dst ax = envPut (envPut env x.dst ax) p.dst ap := by
  have hap : x.apart ops p = true := by
    rw [Bool.or_eq_true, Bool.and_eq_true] at hc
    rcases hc with hc | hc
    · unfold compat at hc; simp only [Bool.and_eq_true] at hc; exact hc.1.1
    · exact hc.1
  obtain ⟨a1, a2, a3⟩ := Oper.apart_spec hap
  rw [StepVal.env a1] at h2
  rw [foot_env a1] at hfp
  have henv : envPut (envPut env p.dst ap) x.dst ax = envPut (envPut env x.dst ax) p.dst ap := by
    cases hx : x.dst with
    | none => rfl
    | some d => cases hp : p.dst with
      | none => rfl
      | some e => exact List.set_comm _ _ (fun h => a2 d hx (by rw [hp, h]))
  have key : ∃ L1', StepVal C ops p ip env L ap L1' ∧ StepVal C ops x ix env L1' ax L2 := by
    have hev : ∀ y, (evA C env y).ids (open1 L) = true := evA_ids hcl
    rcases h1 with ⟨wx, h1⟩ | ⟨wx, rfl, rfl⟩ <;> rcases h2 with ⟨wp, h2⟩ | ⟨wp, rfl, rfl⟩
    · rw [Bool.or_eq_true, Bool.and_eq_true] at hc
      rcases hc with hc | hc
      · obtain ⟨L1', q1, q2⟩ := OpVal.swap hc (fun y _ => hev y) (fun y _ => hev y) hrx hrp hne h1 h2
        exact ⟨L1', .inl ⟨wp, q1⟩, .inl ⟨wx, q2⟩⟩
      · obtain ⟨L1', q1, q2⟩ := OpVal.swapF hfx hfp hc.2 h1 h2
        exact ⟨L1', .inl ⟨wp, q1⟩, .inl ⟨wx, q2⟩⟩
    · exact ⟨L, .inr ⟨wp, rfl, rfl⟩, .inl ⟨wx, h1⟩⟩
    · exact ⟨L2, .inl ⟨wp, h2⟩, .inr ⟨wx, rfl, rfl⟩⟩
    · exact ⟨_, .inr ⟨wp, rfl, rfl⟩, .inr ⟨wx, rfl, rfl⟩⟩
  obtain ⟨L1', k1, k2⟩ := key
  exact ⟨L1', ⟨hfp, by rw [foot_env a3]; exact hfx⟩, k1, (StepVal.env a3).2 k2, henv⟩
end
end Go.Proofs.YtmmooplcdkmapaaGreatDoor.K

set_option maxHeartbeats 400000
set_option linter.unusedVariables false
set_option linter.unusedSimpArgs false
namespace Go.Proofs.YtmmooplcdkmapaaGreatDoor.K
open Go Go.RowKit

/-- An operation, its number, its place. -/
structure It where
  i : Nat
  o : Oper
  id : Nat
  f : Foot

/-- Does an edge lead from the one to the other? -/
def edgeTo (ops : Array Oper) (j k : Nat) : Bool := match ops[k]? with
  | some o => o.after.toList.any fun e => Region.binds .any e && e.on == j
  | none => false
/-- Do all that stand ahead lead to it, and it to all that stand behind? -/
def isBar (ops : Array Oper) (p : Nat) : Bool :=
  ((List.range p).all fun j => (List.range (p + 1)).any fun k => decide (j < k) && edgeTo ops j k) &&
  ((List.range ops.size).all fun q => decide (q ≤ p) || (List.range q).any fun j => decide (p ≤ j) && edgeTo ops j q)
def isInl (spec : Spec) (ρ : Operand → AV) (op : Op) : Bool := match rawA ρ op with
  | some (g, _) => spec.isI g
  | none => false
def useBar (spec : Spec) (ops : Array Oper) (i : Nat) (ρ : Operand → AV) (op : Op) : Bool :=
  (bif isCall op then (!callOwnless ρ op || isInl spec ρ op) else isAct op && !actOK ρ op) && isBar ops i

def RunD (C : Cfg) (ops : Array Oper) : List It → List AV → Heap → List AV → Heap → Prop
  | [], env, L, env', L' => env' = env ∧ L' = L
  | t :: rest, env, L, env', L' => (∃ av L1, footOf (evA C env) t.o.op = t.f ∧ StepVal C ops t.o t.id env L av L1 ∧ RunD C ops rest (envPut env t.o.dst av) L1 env' L') ∨
      (isBar ops t.i = true ∧ ∃ env1 L1, StepRel C ops t.o t.id env L env1 L1 ∧ RunD C ops rest env1 L1 env' L')

def items : List Oper → List Foot → Nat → Nat → List It
  | [], _, _, _ => []
  | o :: r, fs, i, id => ⟨i, o, id, fs.headD .none⟩ :: items r fs.tail (i + 1) (nextId o id)

/-- May two change places? -/
def compat2 (ops : Array Oper) (x p : It) : Bool := compat ops x.o p.o || (x.o.apart ops p.o && feetOK x.f p.f)
/-- May any two that no edge orders change places? Do all edges lead back? -/
def pairsOK (ops : Array Oper) (p : It) : List It → Bool
  | [] => true
  | x :: r => (p.o.after.toList.any (fun e => Region.binds .any e && e.on == x.i) || compat2 ops x p) && pairsOK ops p r
def drawOK (ops : Array Oper) : List It → List It → Bool
  | _, [] => true
  | before, p :: r => pairsOK ops p before && p.o.after.toList.all (fun e => !Region.binds .any e || decide (e.on < p.i)) && drawOK ops (before ++ [p]) r

def evOpX {Ω : Type} (C : Cfg) (spec : Spec) (ops : Array Oper) (i : Nat) (o : Oper) (id : Nat) (env : List AV) (L : Heap) (k : List AV → Heap → Option Ω) : Option Ω :=
  bif useBar spec ops i (evA C env) o.op then evOp C spec o id env L k else evOpD C spec o id env L k

/-- The operations of a region, in the text's order, where the order is drawn. -/
def evOpsD {Ω : Type} (C : Cfg) (spec : Spec) (ops : Array Oper) (id0 : Nat) : List Foot → List Oper → Nat → Nat → List AV → Heap → (List AV → Heap → Option Ω) → Option Ω
  | acc, [], _, _, env, L, k => bif drawOK ops [] (items ops.toList acc 0 id0) then k env L else none
  | acc, o :: rest, i, id, env, L, k =>
    match o.guard with
    | none => evOpX C spec ops i o id env L fun env' L' => evOpsD C spec ops id0 (acc ++ [footOf (evA C env) o.op]) rest (i + 1) (nextId o id) env' L' k
    | some (j, want) => match gTmp ops j with
      | none => none
      | some d => match env.getD d .dead with
        | .v .bool b => bif b then
            (bif want then evOpX C spec ops i o id (env.set d (.v .bool true)) L fun env' L' => evOpsD C spec ops id0 (acc ++ [footOf (evA C env) o.op]) rest (i + 1) (nextId o id) env' L' k
              else evOpsD C spec ops id0 (acc ++ [footOf (evA C env) o.op]) rest (i + 1) (nextId o id) (envPut (env.set d (.v .bool true)) o.dst und) L k)
          else
            (bif want then evOpsD C spec ops id0 (acc ++ [footOf (evA C env) o.op]) rest (i + 1) (nextId o id) (envPut (env.set d (.v .bool false)) o.dst und) L k
              else evOpX C spec ops i o id (env.set d (.v .bool false)) L fun env' L' => evOpsD C spec ops id0 (acc ++ [footOf (evA C env) o.op]) rest (i + 1) (nextId o id) env' L' k)
        | .cst (.tuple _) => evOpsD C spec ops id0 (acc ++ [footOf (evA C env) o.op]) rest (i + 1) (nextId o id) (envPut env o.dst und) L k
        | _ => none

def evRegion {Ω : Type} (C : Cfg) (spec : Spec) (ops : Array Oper) (draw : Bool) (env : List AV) (L : Heap) (k : List AV → Heap → Option Ω) : Option Ω :=
  bif draw then evOpsD C spec ops L.length [] ops.toList 0 L.length env (L ++ List.replicate (cntIds ops.toList) .resv) k
  else evOps C spec ops ops.toList L.length env (L ++ List.replicate (cntIds ops.toList) .resv) k

section
variable {Ω : Type} {C : Cfg} {B : Nat} {w0 : World} {S0 : Nat → Nat → Prop} {spec : Spec}

theorem evOpD_val (hS : SpecOK C spec) {o : Oper} {id : Nat} {env : List AV} {L : Heap} {k : List AV → Heap → Option Ω} {r : Ω} (h : evOpD C spec o id env L k = some r) : ∃ av L', OpVal C o id (evA C env) L av L' ∧ k (envPut env o.dst av) L' = some r := by
  unfold evOpD at h
  cases hc : isCall o.op with
  | true =>
    rw [hc] at h
    simp only [cond_true] at h
    split at h
    · rename_i g bs L1 hca
      obtain ⟨av, h1, h2⟩ := hS.con g bs _ r h
      cases hcond : (av.flat || callOwnless (evA C env) o.op) && noIds av with
      | true =>
        rw [hcond] at h1
        simp only [cond_true] at h1
        simp only [Bool.and_eq_true, Bool.or_eq_true] at hcond
        exact ⟨av, L, .inl ⟨hc, ⟨g, bs, by rw [hca]; rfl, h2⟩, hcond.1, hcond.2, rfl⟩, h1⟩
      | false => rw [hcond] at h1; cases h1
    · cases h
  | false =>
    rw [hc] at h
    simp only [cond_false] at h
    cases ha : isAct o.op with
    | true =>
      rw [ha] at h
      simp only [cond_true] at h
      cases hok : actOK (evA C env) o.op with
      | true =>
        rw [hok] at h
        simp only [cond_true] at h
        split at h
        · rename_i c av L' hact
          cases c with
          | true => exact ⟨av, L', .inr (.inl ⟨hc, ha, hok, hact⟩), h⟩
          | false => cases h
        · cases h
      | false => rw [hok] at h; cases h
    | false =>
      rw [ha] at h
      simp only [cond_false] at h
      split at h
      · rename_i c av hrop
        cases c with
        | true => exact ⟨av, L, .inr (.inr ⟨hc, ha, hrop, rfl⟩), h⟩
        | false => cases h
      · cases h

theorem ite_some' {p : Bool} {x : Option Ω} {r : Ω} (h : (bif p then x else none) = some r) : p = true ∧ x = some r := by
  cases p with
  | true => exact ⟨rfl, h⟩
  | false => cases h

theorem step_of_want {ops : Array Oper} {o : Oper} {id : Nat} {env env1 : List AV} {L L1 : Heap} (hw : wantB ops o env = some true) (h : OpRel C o id env L env1 L1) : StepRel C ops o id env L env1 L1 := by
  unfold StepRel
  unfold wantB at hw
  split at hw
  · rename_i hg; (try simp only [hg]); exact h
  · rename_i j want hg
    (try simp only [hg])
    split at hw
    · rename_i d hd
      split at hw
      · rename_i b hb
        simp only [Option.some.injEq, beq_iff_eq] at hw
        exact ⟨d, hd, .inl ⟨b, hb, by rw [if_pos hw]; exact h⟩⟩
      · cases hw
      · cases hw
    · cases hw

theorem evOpsD_run (hS : SpecOK C spec) {ops : Array Oper} {id0 : Nat} : ∀ {l : List Oper} {acc : List Foot} {i id : Nat} {env : List AV} {L : Heap} {k : List AV → Heap → Option Ω} {r : Ω}, evOpsD C spec ops id0 acc l i id env L k = some r →
    ∃ env' L' fl, RunD C ops (items l fl i id) env L env' L' ∧ fl.length = l.length ∧ drawOK ops [] (items ops.toList (acc ++ fl) 0 id0) = true ∧ k env' L' = some r
  | [], acc, i, id, env, L, k, r, h => by
    simp only [evOpsD] at h
    obtain ⟨h1, h2⟩ := ite_some' h
    exact ⟨env, L, [], ⟨rfl, rfl⟩, rfl, by rw [List.append_nil]; exact h1, h2⟩
  | o :: rest, acc, i, id, env, L, k, r, h => by
    simp only [evOpsD] at h
    have go : wantB ops o env = some true → evOpX C spec ops i o id env L (fun env' L' => evOpsD C spec ops id0 (acc ++ [footOf (evA C env) o.op]) rest (i + 1) (nextId o id) env' L' k) = some r →
        ∃ env' L' fl, RunD C ops (items (o :: rest) fl i id) env L env' L' ∧ fl.length = (o :: rest).length ∧ drawOK ops [] (items ops.toList (acc ++ fl) 0 id0) = true ∧ k env' L' = some r := by
      intro hw h
      unfold evOpX at h
      cases hu : useBar spec ops i (evA C env) o.op with
      | true =>
        rw [hu] at h
        simp only [cond_true] at h
        obtain ⟨env1, L1, h1, h2⟩ := evOp_rel hS h
        obtain ⟨env', L', fl, h3, h4, h5, h6⟩ := evOpsD_run hS h2
        have hb : isBar ops i = true := by
          unfold useBar at hu
          simp only [Bool.and_eq_true] at hu
          exact hu.2
        exact ⟨env', L', _ :: fl, .inr ⟨hb, env1, L1, step_of_want hw h1, h3⟩, by simp [h4], by simpa using h5, h6⟩
      | false =>
        rw [hu] at h
        simp only [cond_false] at h
        obtain ⟨av, L1, h1, h2⟩ := evOpD_val hS h
        obtain ⟨env', L', fl, h3, h4, h5, h6⟩ := evOpsD_run hS h2
        exact ⟨env', L', _ :: fl, .inl ⟨av, L1, rfl, .inl ⟨hw, h1⟩, h3⟩, by simp [h4], by simpa using h5, h6⟩
    have stay : wantB ops o env = some false → evOpsD C spec ops id0 (acc ++ [footOf (evA C env) o.op]) rest (i + 1) (nextId o id) (envPut env o.dst und) L k = some r →
        ∃ env' L' fl, RunD C ops (items (o :: rest) fl i id) env L env' L' ∧ fl.length = (o :: rest).length ∧ drawOK ops [] (items ops.toList (acc ++ fl) 0 id0) = true ∧ k env' L' = some r := by
      intro hw h
      obtain ⟨env', L', fl, h3, h4, h5, h6⟩ := evOpsD_run hS h
      exact ⟨env', L', _ :: fl, .inl ⟨und, L, rfl, .inr ⟨hw, rfl, rfl⟩, h3⟩, by simp [h4], by simpa using h5, h6⟩
    split at h
    · rename_i hg
      exact go (by unfold wantB; rw [hg]) h
    · rename_i j want hg
      cases hd : gTmp ops j with
      | none => rw [hd] at h; cases h
      | some d =>
        rw [hd] at h
        simp only at h
        split at h
        · rename_i b hb
          have hw : wantB ops o env = some (b == want) := by unfold wantB; rw [hg]; simp only [hd]; rw [hb]
          cases b with
          | true =>
            rw [set_getD hb (by simp)] at h
            simp only [cond_true] at h
            cases want with
            | true => exact go hw (by simpa using h)
            | false => exact stay hw (by simpa using h)
          | false =>
            rw [set_getD hb (by simp)] at h
            simp only [cond_false] at h
            cases want with
            | true => exact stay hw (by simpa using h)
            | false => exact go hw (by simpa using h)
        · rename_i c hb
          exact stay (by unfold wantB; rw [hg]; simp only [hd]; rw [hb]) h
        · cases h

theorem OpVal.rel {o : Oper} {id : Nat} {env : List AV} {L L' : Heap} {av : AV} (h : OpVal C o id (evA C env) L av L') : OpRel C o id env L (envPut env o.dst av) L' := by
  rcases h with ⟨hc, ⟨g, bs, h1, h2⟩, h3, _, rfl⟩ | ⟨hc, ha, hok, h1⟩ | ⟨hc, ha, h1, rfl⟩
  · obtain ⟨⟨g', bs', L1⟩, hca, he⟩ := Option.map_eq_some_iff.1 h1
    simp only [Prod.mk.injEq] at he
    obtain ⟨rfl, rfl⟩ := he
    refine .inl ⟨hc, _, _, L1, av, hca, h2, rfl, ?_⟩
    rcases h3 with h3 | h3
    · rw [h3]; rfl
    · rw [callOwnless_L hca h3]; simp
  · refine .inr (.inl ⟨hc, ha, appOK_not (actOK_notAppend hok), av, h1, ?_⟩)
    rw [actOK_notAppend hok]; rfl
  · exact .inr (.inr (.inl ⟨hc, ha, av, h1, rfl, rfl⟩))

theorem StepVal.rel {ops : Array Oper} {o : Oper} {id : Nat} {env : List AV} {L L' : Heap} {av : AV} (h : StepVal C ops o id env L av L') : StepRel C ops o id env L (envPut env o.dst av) L' := by
  unfold StepRel
  rcases h with ⟨hw, h⟩ | ⟨hw, rfl, rfl⟩
  · unfold wantB at hw
    split at hw
    · rename_i hg; (try simp only [hg]); exact h.rel
    · rename_i j want hg
      (try simp only [hg])
      split at hw
      · rename_i d hd
        split at hw
        · rename_i b hb
          simp only [Option.some.injEq, beq_iff_eq] at hw
          exact ⟨d, hd, .inl ⟨b, hb, by rw [if_pos hw]; exact h.rel⟩⟩
        · cases hw
        · cases hw
      · cases hw
  · unfold wantB at hw
    split at hw
    · cases hw
    · rename_i j want hg
      (try simp only [hg])
      split at hw
      · rename_i d hd
        split at hw
        · rename_i b hb
          simp only [Option.some.injEq, beq_eq_false_iff_ne, ne_eq] at hw
          exact ⟨d, hd, .inl ⟨b, hb, by rw [if_neg hw]; first | exact ⟨rfl, rfl⟩ | simp⟩⟩
        · rename_i c hb
          exact ⟨d, hd, .inr ⟨⟨c, hb⟩, by simp⟩⟩
        · cases hw
      · cases hw

theorem open1_set {L : Heap} {id : Nat} {s : Slot} (hl : s.live = true) (hx : ∃ r, L[id]? = some r) : ∀ b i, open1 L b i = true → open1 (L.set id s) b i = true := by
  intro b i h
  unfold open1 at h ⊢
  rw [get_set hx]
  by_cases e : i = id
  · rw [if_pos e]
    cases s <;> first | rfl | (simp [Slot.live] at hl)
  · rw [if_neg e]; exact h

theorem Closed.put {env : List AV} {L : Heap} {d : Option Tmp} {a : AV} (h : Closed env L) (ha : a.ids (open1 L) = true) : Closed (envPut env d a) L := by
  intro t
  cases d with
  | none => exact h t
  | some e =>
    simp only [envPut, List.getD_eq_getElem?_getD]
    by_cases he : t = e
    · subst he
      rcases Nat.lt_or_ge t env.length with hlt | hge
      · rw [List.getElem?_set_self hlt]; exact ha
      · rw [List.getElem?_eq_none (by simpa using hge)]; simp only [Option.getD_none, AV.ids]
    · rw [List.getElem?_set_ne (Ne.symm he), ← List.getD_eq_getElem?_getD]; exact h t

theorem StepVal.closed {ops : Array Oper} {o : Oper} {id : Nat} {env : List AV} {L L' : Heap} {av : AV} (h : StepVal C ops o id env L av L') (hcl : Closed env L) (hid : wantsId o.op = true → L[id]? = some .resv) : Closed (envPut env o.dst av) L' := by
  have mono : ∀ {L'}, (∀ b i, open1 L b i = true → open1 L' b i = true) → av.ids (open1 L') = true → Closed (envPut env o.dst av) L' := fun hm ha => Closed.put (fun t => ids_mono hm (hcl t)) ha
  rcases h with ⟨_, h⟩ | ⟨_, rfl, rfl⟩
  · rcases h with ⟨_, _, _, h4, rfl⟩ | ⟨h1, h2, h3, h4⟩ | ⟨_, _, h3, rfl⟩
    · exact mono (fun _ _ h => h) (ids_mono (fun _ _ h => by cases h) h4)
    · cases hs : isStore o.op with
      | true =>
        obtain ⟨rfl, i, s0, s1, q1, q2, q3, rfl⟩ := store_slot h3 hs h4
        exact mono (open1_set q3 ⟨_, q1⟩) (by simp only [AV.ids])
      | false =>
        rcases act_slot h3 hs h4 with ⟨rfl, ⟨τ, x, rfl⟩, _⟩ | ⟨hw, hav, s, hl, rfl, _⟩
        · exact mono (fun _ _ h => h) (by simp only [AV.ids])
        · refine mono (open1_set hl ⟨_, hid hw⟩) ?_
          have : ∀ b, open1 (L.set id s) b id = true := by
            intro b
            unfold open1
            rw [get_set ⟨_, hid hw⟩, if_pos rfl]
            cases s <;> first | rfl | (simp [Slot.live] at hl)
          rcases hav with rfl | rfl <;> simp only [AV.ids] <;> exact this _
    · exact mono (fun _ _ h => h) (rop_ids (fun x _ => evA_ids hcl x) h3 (fun i => Iff.rfl))
  · exact Closed.put hcl (by simp only [und, AV.ids])

theorem RepE.closed {m : Nat → Value} {L : Heap} {w : World} {S : Nat → Nat → Prop} {env : List AV} {tmps : Array Value} (h : RepE m L w S env tmps) : Closed env L := by
  have key : ∀ (a : AV), ∀ u, RepA m L w S a u → a.ids (open1 L) = true := by
    intro a
    refine AV.rec (motive_1 := fun a => ∀ u, RepA m L w S a u → a.ids (open1 L) = true) (motive_2 := fun l => ∀ us, RepAs m L w S l us → AV.idsL (open1 L) l = true) ?_ ?_ ?_ ?_ ?_ ?_ ?_ ?_ ?_ ?_ ?_ ?_ ?_ ?_ ?_ a
    · intro τ x u _; simp only [AV.ids]
    · intro c u _; simp only [AV.ids]
    · intro T x p u _; simp only [AV.ids]
    · intro id p u h; simp only [RepA] at h; obtain ⟨s, h1, h2, _⟩ := h; simp only [AV.ids, open1, h1]; cases s <;> first | rfl | exact absurd rfl h2
    · intro id i p u h; simp only [RepA] at h; obtain ⟨s, h1, h2, _⟩ := h; simp only [AV.ids, open1, h1]; cases s <;> first | rfl | exact absurd rfl h2
    · intro id p lo n u h; simp only [RepA] at h; obtain ⟨s, h1, h2, _⟩ := h; simp only [AV.ids, open1, h1]; cases s <;> first | rfl | exact absurd rfl h2
    · intro id u h; simp only [RepA] at h; obtain ⟨s, h1, h2, _⟩ := h; simp only [AV.ids, open1, h1]; cases s <;> first | rfl | exact absurd rfl h2
    · intro id lo n u h; simp only [RepA] at h; obtain ⟨s, h1, h2, _⟩ := h; simp only [AV.ids, open1, h1]; cases s <;> first | rfl | exact absurd rfl h2
    · intro f caps ih u h; simp only [RepA] at h; obtain ⟨vs, _, h⟩ := h; simp only [AV.ids]; exact ih vs h
    · intro f caps ih u h; simp only [RepA] at h; obtain ⟨vs, _, h⟩ := h; simp only [AV.ids]; exact ih vs h
    · intro l ih u h; simp only [RepA] at h; obtain ⟨vs, _, h⟩ := h; simp only [AV.ids]; exact ih vs h
    · intro T x hs u h
      simp only [RepA] at h
      obtain ⟨_, cs, ds, _, _, _, _, _, h6⟩ := h
      simp only [AV.ids, List.all_eq_true]
      rintro ⟨o, _ | j⟩ hp
      · rfl
      · obtain ⟨v, _, s, h1, h2, _⟩ := h6 o j hp
        simp only [open1, h1]
        cases s <;> first | rfl | exact absurd rfl h2
    · intro u _; simp only [AV.ids]
    · intro us _; simp only [AV.idsL]
    · intro a l ih1 ih2 us h
      simp only [RepAs] at h
      obtain ⟨u, r, _, h1, h2⟩ := h
      simp only [AV.idsL, ih1 u h1, ih2 r h2, Bool.and_self]
  exact fun t => key _ _ (h.at_ t)

/-- The places of what is left are reserved, each for itself. -/
def Rsv (L : Heap) (l : List It) : Prop := (∀ t ∈ l, wantsId t.o.op = true → L[t.id]? = some .resv) ∧ l.Pairwise fun s t => wantsId s.o.op = true → wantsId t.o.op = true → s.id ≠ t.id

theorem moveFront {ops : Array Oper} {p : It} {post : List It} (hp : isBar ops p.i = false) : ∀ {pre : List It} {env env' : List AV} {L L' : Heap}, (∀ x ∈ pre, compat2 ops x p = true) → (∀ x ∈ pre, isBar ops x.i = false) → Closed env L → Rsv L (pre ++ p :: post) → RunD C ops (pre ++ p :: post) env L env' L' → RunD C ops (p :: (pre ++ post)) env L env' L'
  | [], env, env', L, L', _, _, _, _, h => h
  | x :: pre, env, env', L, L', hc, hb, hcl, hr, h => by
    rcases h with ⟨ax, L1, hfx, h1, h2⟩ | ⟨hbx, _⟩
    · obtain ⟨hr1, hr2⟩ := hr
      rw [List.cons_append, List.pairwise_cons] at hr2
      have hxid := hr1 x (by simp)
      have hr' : Rsv L1 (pre ++ p :: post) := by
        refine ⟨fun t ht hw => ?_, hr2.2⟩
        exact h1.rel.keeps (fun hwx => Ne.symm (hr2.1 t ht hwx hw)) (hr1 t (List.mem_cons_of_mem _ ht) hw)
      rcases moveFront hp (fun y hy => hc y (List.mem_cons_of_mem _ hy)) (fun y hy => hb y (List.mem_cons_of_mem _ hy)) (h1.closed hcl hxid) hr' h2 with ⟨ap, L2, hfp, h3, h4⟩ | ⟨hbp, _⟩
      · obtain ⟨L1', ⟨g1, g2⟩, q1, q2, q3⟩ := StepVal.swap hfx hfp (hc x (by simp)) hcl hxid (hr1 p (by simp)) (fun hw hwp => hr2.1 p (by simp) hw hwp) h1 h3
        exact .inl ⟨ap, L1', g1, q1, .inl ⟨ax, L2, g2, q2, by rw [q3]; exact h4⟩⟩
      · rw [hp] at hbp; cases hbp
    · rw [hb x (by simp)] at hbx; cases hbx
end
end Go.Proofs.YtmmooplcdkmapaaGreatDoor.K

set_option maxHeartbeats 400000
set_option linter.unusedVariables false
set_option linter.unusedSimpArgs false
namespace Go.Proofs.YtmmooplcdkmapaaGreatDoor.K
open Go Go.RowKit

section
variable {Ω : Type} {C : Cfg} {B : Nat} {w0 : World} {S0 : Nat → Nat → Prop} {ms : Nat → Value} {Ls : Heap} {spec : Spec}

theorem pairs_at {ops : Array Oper} {p : It} : ∀ {l : List It}, pairsOK ops p l = true → ∀ x ∈ l, (∃ e ∈ p.o.after, Region.binds .any e = true ∧ e.on = x.i) ∨ compat2 ops x p = true
  | [], h, x, hx => by cases hx
  | y :: l, h, x, hx => by
    simp only [pairsOK, Bool.and_eq_true, Bool.or_eq_true] at h
    rcases List.mem_cons.1 hx with rfl | hx
    · rcases h.1 with h | h
      · obtain ⟨e, he, h⟩ := List.any_eq_true.1 h
        simp only [Bool.and_eq_true, beq_iff_eq] at h
        exact .inl ⟨e, Array.mem_toList_iff.1 he, h.1, h.2⟩
      · exact .inr h
    · exact pairs_at h.2 x hx

theorem draw_at {ops : Array Oper} : ∀ {r before : List It}, drawOK ops before r = true → ∀ (k : Nat) (p : It), r[k]? = some p → pairsOK ops p (before ++ r.take k) = true ∧ ∀ e ∈ p.o.after, Region.binds .any e = true → e.on < p.i
  | [], before, _, k, p, h => by simp at h
  | q :: r, before, h, 0, p, hp => by
    simp only [drawOK, Bool.and_eq_true, List.all_eq_true, Bool.or_eq_true, Bool.not_eq_true', decide_eq_true_eq] at h
    simp at hp; subst hp
    refine ⟨by simpa using h.1.1, fun e he hb => ?_⟩
    have := h.1.2 e (Array.mem_toList_iff.2 he)
    rcases this with h | h
    · rw [hb] at h; cases h
    · exact h
  | q :: r, before, h, k + 1, p, hp => by
    simp only [drawOK, Bool.and_eq_true] at h
    obtain ⟨h1, h2⟩ := draw_at h.2 k p (by simpa using hp)
    exact ⟨by simpa using h1, h2⟩

theorem items_at : ∀ {l : List Oper} {fs : List Foot} {i id : Nat} {t : It}, t ∈ items l fs i id → i ≤ t.i ∧ l[t.i - i]? = some t.o ∧ id ≤ t.id ∧ (wantsId t.o.op = true → t.id < id + cntIds l)
  | [], fs, i, id, t, h => by simp [items] at h
  | o :: l, fs, i, id, t, h => by
    simp only [items, List.mem_cons] at h
    rcases h with rfl | h
    · refine ⟨Nat.le_refl _, by simp, Nat.le_refl _, fun hw => ?_⟩
      simp only [cntIds, hw, cond_true]; omega
    · obtain ⟨h1, h2, h3, h4⟩ := items_at h
      have hn : id ≤ nextId o id := by unfold nextId; cases wantsId o.op <;> simp
      refine ⟨by omega, ?_, by omega, fun hw => ?_⟩
      · rw [show t.i - i = (t.i - (i + 1)) + 1 by omega]; simpa using h2
      · have := h4 hw
        simp only [cntIds]
        unfold nextId at this
        cases hwo : wantsId o.op <;> simp only [hwo, cond_true, cond_false] at this ⊢ <;> omega

theorem items_sorted : ∀ (l : List Oper) (fs : List Foot) (i id : Nat), (items l fs i id).Pairwise fun s t => s.i < t.i ∧ (wantsId s.o.op = true → wantsId t.o.op = true → s.id ≠ t.id)
  | [], _, _, _ => by simp [items]
  | o :: l, fs, i, id => by
    rw [items, List.pairwise_cons]
    refine ⟨fun t ht => ?_, items_sorted l _ _ _⟩
    obtain ⟨h1, _, h3, _⟩ := items_at ht
    refine ⟨by simp only; omega, fun hw _ => ?_⟩
    simp only at hw ⊢
    unfold nextId at h3
    rw [hw] at h3
    simp only [cond_true] at h3
    omega

theorem items_all : ∀ (l : List Oper) (fs : List Foot) (i id k : Nat), k < l.length → ∃ t, (items l fs i id)[k]? = some t ∧ t.i = i + k
  | [], _, _, _, k, h => by simp at h
  | o :: l, fs, i, id, 0, _ => ⟨⟨i, o, id, fs.headD .none⟩, by simp [items], rfl⟩
  | o :: l, fs, i, id, k + 1, h => by
    obtain ⟨t, h1, h2⟩ := items_all l fs.tail (i + 1) (nextId o id) k (by simpa using h)
    exact ⟨t, by simpa [items] using h1, by omega⟩

theorem items_len : ∀ (l : List Oper) (fs : List Foot) (i id : Nat), (items l fs i id).length = l.length
  | [], _, _, _ => rfl
  | o :: l, fs, i, id => by simp [items, items_len l]

theorem items_ix {l : List Oper} {fs : List Foot} {id : Nat} {t : It} (h : t ∈ items l fs 0 id) : (items l fs 0 id)[t.i]? = some t := by
  obtain ⟨k, hk, e⟩ := List.getElem_of_mem h
  obtain ⟨s, h1, h2⟩ := items_all l fs 0 id k (by rw [items_len] at hk; exact hk)
  rw [List.getElem?_eq_getElem hk] at h1
  cases h1
  rw [e] at h2
  rw [h2, Nat.zero_add, List.getElem?_eq_getElem hk, e]

theorem edge_spec {ops : Array Oper} {j k : Nat} (h : edgeTo ops j k = true) : ∃ o, ops[k]? = some o ∧ ∃ e ∈ o.after, Region.binds .any e = true ∧ e.on = j := by
  unfold edgeTo at h
  split at h
  · rename_i o ho
    obtain ⟨e, he, h⟩ := List.any_eq_true.1 h
    simp only [Bool.and_eq_true, beq_iff_eq] at h
    exact ⟨o, ho, e, Array.mem_toList_iff.1 he, h.1, h.2⟩
  · cases h

theorem bar_ahead {ops : Array Oper} {p j : Nat} (h : isBar ops p = true) (hj : j < p) : ∃ k, j < k ∧ k ≤ p ∧ edgeTo ops j k = true := by
  unfold isBar at h
  simp only [Bool.and_eq_true, List.all_eq_true, List.any_eq_true, List.mem_range, decide_eq_true_eq] at h
  obtain ⟨k, hk, h1, h2⟩ := h.1 j hj
  exact ⟨k, h1, by omega, h2⟩
theorem bar_behind {ops : Array Oper} {p q : Nat} (h : isBar ops p = true) (hq : p < q) (hs : q < ops.size) : ∃ j, p ≤ j ∧ j < q ∧ edgeTo ops j q = true := by
  unfold isBar at h
  simp only [Bool.and_eq_true, List.all_eq_true, List.any_eq_true, List.mem_range, decide_eq_true_eq, Bool.or_eq_true] at h
  rcases h.2 q hs with h1 | ⟨j, hj, h1, h2⟩
  · omega
  · exact ⟨j, h1, hj, h2⟩

/-- What is left: whoever waits for one that is left is left. -/
def Left (ops : Array Oper) (rem : List It) : Prop := ∀ x ∈ rem, ∀ k, k < ops.size → edgeTo ops x.i k = true → ∃ t ∈ rem, t.i = k

theorem left_all {ops : Array Oper} (fs : List Foot) (id : Nat) : Left ops (items ops.toList fs 0 id) := fun x hx k hk _ => by
  obtain ⟨t, ht, e⟩ := items_all ops.toList fs 0 id k (by simpa using hk)
  exact ⟨t, List.mem_of_getElem? ht, by omega⟩

theorem run_wpAny (hC : C.OK) {ops : Array Oper} {id0 : Nat} {fs : List Foot} (hd : drawOK ops [] (items ops.toList fs 0 id0) = true) {env' : List AV} {L' : Heap} {Q : Exit → Act → World → Prop} (hQ : ∀ a' w', St C B w0 S0 ms Ls env' L' a' w' → Q .normal a' w') : ∀ (n : Nat) (rem : List It) (listed : Array Bool) {env : List AV} {L : Heap} {a : Act} {w : World},
    rem.length = n → (∀ t ∈ rem, t ∈ items ops.toList fs 0 id0) → (rem.Pairwise fun s t => s.i < t.i) → listed.size = ops.size → (∀ i, i < ops.size → (listed.getD i true = false ↔ ∃ t ∈ rem, t.i = i)) →
    Left ops rem → RunD C ops rem env L env' L' → Rsv L rem → St C B w0 S0 ms Ls env L a w → wpAny C.P .any ops Q n listed a w := by
  intro n
  have hat : ∀ {t : It}, t ∈ items ops.toList fs 0 id0 → ops[t.i]? = some t.o ∧ t.i < ops.size := by
    intro t ht
    obtain ⟨_, h, _⟩ := items_at ht
    simp only [Nat.sub_zero, Array.getElem?_toList] at h
    exact ⟨h, (Array.getElem?_eq_some_iff.1 h).1⟩
  have hempty : ∀ (rem : List It) (listed : Array Bool), (∀ t ∈ rem, t ∈ items ops.toList fs 0 id0) → (rem.Pairwise fun s t => s.i < t.i) → listed.size = ops.size → (∀ i, i < ops.size → (listed.getD i true = false ↔ ∃ t ∈ rem, t.i = i)) → Region.ready .any ops listed = [] → rem = [] := by
    intro rem listed hin hs hsz hl hr
    cases rem with
    | nil => rfl
    | cons t r =>
      exfalso
      obtain ⟨ho, hlt⟩ := hat (hin t (by simp))
      have hmem : t.i ∈ Region.ready .any ops listed := by
        rw [mem_ready]
        refine ⟨(hl t.i hlt).2 ⟨t, by simp, rfl⟩, t.o, ho, fun e he hb => ?_⟩
        have hlt2 := (draw_at hd t.i t (items_ix (hin t (by simp)))).2 e he hb
        have helt : e.on < ops.size := by omega
        cases hle : listed.getD e.on true with
        | false =>
          obtain ⟨t', ht', hti⟩ := (hl e.on helt).1 hle
          rcases List.mem_cons.1 ht' with rfl | ht'
          · omega
          · have := (List.pairwise_cons.1 hs).1 t' ht'
            omega
        | true =>
          have : e.on < listed.size := by omega
          simp only [Array.getD, this, dif_pos] at hle ⊢
          exact hle
      rw [hr] at hmem
      cases hmem
  induction n with
  | zero =>
    intro rem listed env L a w hn hin hs hsz hl hleft hrun hrs hst
    obtain rfl : rem = [] := List.eq_nil_of_length_eq_zero hn
    obtain ⟨rfl, rfl⟩ := hrun
    refine ⟨?_, hQ a w hst⟩
    cases hr : Region.ready .any ops listed with
    | nil => rfl
    | cons i l =>
      have hi : i ∈ Region.ready .any ops listed := by rw [hr]; simp
      rw [mem_ready] at hi
      obtain ⟨h1, o, h2, _⟩ := hi
      obtain ⟨t, ht, _⟩ := (hl i (Array.getElem?_eq_some_iff.1 h2).1).1 h1
      cases ht
  | succ n ih =>
    intro rem listed env L a w hn hin hs hsz hl hleft hrun hrs hst
    refine ⟨fun hr => ?_, fun i hi => ?_⟩
    · obtain rfl := hempty rem listed hin hs hsz hl hr
      simp at hn
    · rw [mem_ready] at hi
      obtain ⟨h1, o, h2, h3⟩ := hi
      have hlt := (Array.getElem?_eq_some_iff.1 h2).1
      obtain ⟨t, ht, rfl⟩ := (hl i hlt).1 h1
      have hto := (hat (hin t ht)).1
      rw [h2] at hto; cases hto
      obtain ⟨pre, post, rfl⟩ := List.append_of_mem ht
      have hcomp : ∀ x ∈ pre, compat2 ops x t = true := by
        intro x hx
        have hxi := hin x (by simp [hx])
        obtain ⟨hxo, hxlt⟩ := hat hxi
        have hlt2 : x.i < t.i := by
          rw [List.pairwise_append] at hs
          exact hs.2.2 x hx t (by simp)
        have hp := (draw_at hd t.i t (items_ix (hin t (by simp)))).1
        rw [List.nil_append] at hp
        have hxl : x ∈ (items ops.toList fs 0 id0).take t.i := by
          refine List.mem_of_getElem? (i := x.i) ?_
          rw [List.getElem?_take, if_pos hlt2]
          exact items_ix hxi
        rcases pairs_at hp x hxl with ⟨e, he, hb, hon⟩ | h
        · exfalso
          have hl1 := h3 e he hb
          have hl2 := (hl x.i hxlt).2 ⟨x, by simp [hx], rfl⟩
          rw [hon] at hl1
          have : x.i < listed.size := by omega
          simp only [Array.getD, this, dif_pos] at hl1 hl2
          rw [hl1] at hl2; cases hl2
        · exact h
      obtain ⟨m, S, hI, hE, hst2⟩ := hst
      have hcl := hE.closed
      have hst : St C B w0 S0 ms Ls env L a w := ⟨m, S, hI, hE, hst2⟩
      have hnoe : ∀ x ∈ pre ++ t :: post, edgeTo ops x.i t.i = true → False := by
        intro x hx he
        obtain ⟨o', ho', e, he1, he2, he3⟩ := edge_spec he
        rw [h2] at ho'; cases ho'
        have hl1 := h3 e he1 he2
        have hxlt := (hat (hin x hx)).2
        have hl2 := (hl x.i hxlt).2 ⟨x, hx, rfl⟩
        rw [he3] at hl1
        have : x.i < listed.size := by omega
        simp only [Array.getD, this, dif_pos] at hl1 hl2
        rw [hl1] at hl2; cases hl2
      have hone : ∃ env1 L1, StepRel C ops t.o t.id env L env1 L1 ∧ RunD C ops (pre ++ post) env1 L1 env' L' := by
        cases hpre : pre with
        | nil =>
          rw [hpre] at hrun
          rcases hrun with ⟨av, L1, _, q1, q2⟩ | ⟨_, env1, L1, q1, q2⟩
          · exact ⟨_, L1, q1.rel, q2⟩
          · exact ⟨env1, L1, q1, q2⟩
        | cons y0 pre0 =>
          rw [← hpre]
          have hy0 : y0 ∈ pre := by rw [hpre]; simp
          have hlt0 : ∀ x ∈ pre, x.i < t.i := by
            intro x hx
            rw [List.pairwise_append] at hs
            exact hs.2.2 x hx t (by simp)
          have hbt : isBar ops t.i = false := by
            cases hb : isBar ops t.i with
            | false => rfl
            | true =>
              exfalso
              have key : ∀ n, ∀ x ∈ pre ++ t :: post, x.i < t.i → t.i - x.i ≤ n → False := by
                intro n
                induction n with
                | zero => intro x hx h1 h2; omega
                | succ n ihn =>
                  intro x hx h1 h2'
                  obtain ⟨k, k1, k2, k3⟩ := bar_ahead hb h1
                  rcases Nat.lt_or_ge k t.i with hk | hk
                  · obtain ⟨z, hz, rfl⟩ := hleft x hx k (by omega) k3
                    exact ihn z hz hk (by omega)
                  · obtain rfl : k = t.i := by omega
                    exact hnoe x hx k3
              exact key _ y0 (by simp [hy0]) (hlt0 y0 hy0) (Nat.le_refl _)
          have hbp : ∀ x ∈ pre, isBar ops x.i = false := by
            intro x hx
            cases hb : isBar ops x.i with
            | false => rfl
            | true =>
              exfalso
              have key : ∀ n q, q ≤ n → x.i ≤ q → q < ops.size → ∃ z ∈ pre ++ t :: post, z.i = q := by
                intro n
                induction n with
                | zero =>
                  intro q h1 h2' h3'
                  exact ⟨x, by simp [hx], by omega⟩
                | succ n ihn =>
                  intro q h1 h2' h3'
                  rcases Nat.lt_or_ge x.i q with hq | hq
                  · obtain ⟨j, j1, j2, j3⟩ := bar_behind hb hq h3'
                    obtain ⟨z, hz, rfl⟩ := ihn j (by omega) j1 (by omega)
                    exact hleft z hz q h3' j3
                  · exact ⟨x, by simp [hx], by omega⟩
              obtain ⟨j, j1, j2, j3⟩ := bar_behind hb (hlt0 x hx) hlt
              obtain ⟨z, hz, rfl⟩ := key j j (Nat.le_refl _) j1 (by omega)
              exact hnoe z hz j3
          rcases moveFront hbt hcomp hbp hcl hrs hrun with ⟨av, L1, _, q1, q2⟩ | ⟨hb, _⟩
          · exact ⟨_, L1, q1.rel, q2⟩
          · rw [hbt] at hb; cases hb
      obtain ⟨env1, L1, q1, q2⟩ := hone
      have hrs2 : Rsv L1 (pre ++ post) := by
        obtain ⟨r1, r2⟩ := hrs
        have r2' : (t :: (pre ++ post)).Pairwise fun s t => wantsId s.o.op = true → wantsId t.o.op = true → s.id ≠ t.id := by
          have hperm : (pre ++ t :: post).Perm (t :: (pre ++ post)) := List.perm_middle
          exact (hperm.pairwise_iff (fun h hw1 hw2 => Ne.symm (h hw2 hw1))).1 r2
        rw [List.pairwise_cons] at r2'
        refine ⟨fun s hs' hw => ?_, r2'.2⟩
        exact q1.keeps (fun hwt => Ne.symm (r2'.1 s hs' hwt hw)) (r1 s (by rcases List.mem_append.1 hs' with h | h <;> simp [h]) hw)
      have hsub : (pre ++ post).Sublist (pre ++ t :: post) := List.Sublist.append (List.Sublist.refl pre) (List.sublist_cons_self t post)
      have hleft2 : Left ops (pre ++ post) := by
        intro x hx k hk he
        obtain ⟨z, hz, rfl⟩ := hleft x (hsub.subset hx) k hk he
        rcases List.mem_append.1 hz with h | h
        · exact ⟨z, by simp [h], rfl⟩
        · rcases List.mem_cons.1 h with rfl | h
          · exact (hnoe x (hsub.subset hx) he).elim
          · exact ⟨z, by simp [h], rfl⟩
      have hnext : ∀ a' w', St C B w0 S0 ms Ls env1 L1 a' w' → wpAny C.P .any ops Q n (listed.setIfInBounds t.i true) a' w' := by
        intro a' w' hst'
        refine ih (pre ++ post) _ (by simp at hn ⊢; omega) (fun s hs' => hin s (hsub.subset hs')) (hs.sublist hsub) (by simpa using hsz) (fun i hi => ?_) hleft2 q2 hrs2 hst'
        by_cases hit : t.i = i
        · subst hit
          have e1 : (listed.setIfInBounds t.i true).getD t.i true = true := by
            have : t.i < listed.size := by omega
            simp [Array.getD, this]
          rw [e1]
          simp only [Bool.true_eq_false, false_iff]
          rintro ⟨s, hs', hsi⟩
          rw [List.pairwise_append] at hs
          rcases List.mem_append.1 hs' with h | h
          · have := hs.2.2 s h t (by simp); omega
          · have := (List.pairwise_cons.1 hs.2.1).1 s h; omega
        · rw [getD_set_ne true hit, hl i hi]
          constructor
          · rintro ⟨s, hs', hsi⟩
            rcases List.mem_append.1 hs' with h | h
            · exact ⟨s, by simp [h], hsi⟩
            · rcases List.mem_cons.1 h with rfl | h
              · exact absurd hsi hit
              · exact ⟨s, by simp [h], hsi⟩
          · rintro ⟨s, hs', hsi⟩
            exact ⟨s, hsub.subset hs', hsi⟩
      have hw := step_wp (ops := ops) (Q := Q) hC (hrs.1 t (by simp)) q1 hst hnext
      unfold wpOp
      rw [h2]
      simp only
      split
      · rename_i hwant; rw [if_pos hwant] at hw; exact .inl hw
      · rename_i hwant; rw [if_neg hwant] at hw; exact hw

end
end Go.Proofs.YtmmooplcdkmapaaGreatDoor.K

set_option maxHeartbeats 400000
set_option linter.unusedVariables false
set_option linter.unusedSimpArgs false
namespace Go.Proofs.YtmmooplcdkmapaaGreatDoor.K
open Go Go.RowKit

inductive Ex where
  | normal | exit (id : Nat) | ret

def Ex.to : Ex → Exit
  | .normal => .normal
  | .exit id => .exit id
  | .ret => .ret

def isDead : AV → Bool
  | .dead => true
  | .cst (.tuple _) => true
  | _ => false

/-- At a round's end: what was not there when the loop began is forgotten. -/
def forget (h0 : Nat) : List Bool → List AV → List AV
  | _, [] => []
  | false :: ms, a :: as => (bif a.ids (fun _ id => decide (id < h0)) then a else .dead) :: forget h0 ms as
  | _ :: ms, _ :: as => .dead :: forget h0 ms as
  | [], _ :: as => .dead :: forget h0 [] as

/-- How many rounds a loop is given; and what a loop (told by its first region) may forget. -/
structure Fuel where
  n : Nat
  drop : Nat → List Nat

def firstReg : Code → Nat
  | .region id _ _ => id
  | .seq x _ => firstReg x
  | .block _ c => firstReg c
  | .cond _ x _ => firstReg x
  | .loop c => firstReg c
  | .scope c => firstReg c
  | _ => 0

def maskOf (drop : List Nat) : Nat → List AV → List Bool
  | _, [] => []
  | i, a :: as => (isDead a || drop.elem i) :: maskOf drop (i + 1) as

/-- Temporaries that are told from a million on: rows that are read only from the loop on. -/
def frzOf : List Nat → List Nat
  | [] => []
  | t :: ts => bif Nat.ble 1000000 t then (t - 1000000) :: frzOf ts else frzOf ts
/-- Rows of one's own as the data that they hold. -/
def frzL : List Nat → List AV → Heap → List AV × Heap
  | [], env, L => (env, L)
  | t :: ts, env, L => match env.getD t .dead with
    | .rs id => match L[id]? with
      | some (.row _ e xs _) => frzL ts (env.set t (.v (.slice e) xs)) (mark1 L id)
      | _ => frzL ts env L
    | _ => frzL ts env L

abbrev Kont (Ω : Type) := Ex → List AV → Heap → Option Ω

/-- What was there when a loop began. -/
def cutL (h0 : Nat) (L : Heap) : Heap := keepL (fun j => Nat.blt j h0) (L.take h0)
def seqK {Ω : Type} (f : List AV → Heap → Option Ω) (k : Kont Ω) : Kont Ω
  | .normal, env, L => f env L
  | .exit id, env, L => k (.exit id) env L
  | .ret, env, L => k .ret env L

def blockK {Ω : Type} (id : Nat) (k : Kont Ω) : Kont Ω
  | .normal, env, L => k .normal env L
  | .exit i, env, L => bif i == id then k .normal env L else k (.exit i) env L
  | .ret, env, L => k .ret env L

def loopC {Ω : Type} (R : List AV → Heap → Option Ω) (mask : List Bool) (fz : List Nat) (h0 : Nat) (k : Kont Ω) : Kont Ω
  | .normal, env, L => R (forget h0 mask (frzL fz env L).1) (cutL h0 (frzL fz env L).2)
  | .exit id, env, L => k (.exit id) env L
  | .ret, env, L => k .ret env L

def loopK {Ω : Type} (body : List AV → Heap → Kont Ω → Option Ω) (mask : List Bool) (fz : List Nat) (h0 : Nat) (k : Kont Ω) : Nat → List AV → Heap → Option Ω
  | 0, _, _ => none
  | n + 1, env, L => body env L (loopC (loopK body mask fz h0 k n) mask fz h0 k)

def iter {Ω σ : Type} (B : (σ → Option Ω) → σ → Option Ω) : Nat → σ → Option Ω
  | 0, _ => none
  | n + 1, s => B (iter B n) s

/-- A loop whose state is a datum. -/
theorem loopK_iter {Ω σ : Type} {body : List AV → Heap → Kont Ω → Option Ω} {mask : List Bool} {fz : List Nat} {h0 : Nat} {k : Kont Ω} {envOf : σ → List AV} {LOf : σ → Heap} {B : (σ → Option Ω) → σ → Option Ω}
    (step : ∀ R s, body (envOf s) (LOf s) (loopC R mask fz h0 k) = B (fun s' => R (envOf s') (LOf s')) s) : ∀ n, (fun s => loopK body mask fz h0 k n (envOf s) (LOf s)) = iter B n
  | 0 => rfl
  | n + 1 => by
    funext s
    show body (envOf s) (LOf s) (loopC (loopK body mask fz h0 k n) mask fz h0 k) = B (iter B n) s
    rw [step, loopK_iter step n]

/-- Parts of a code. -/
def cl : Code → Code
  | .seq x _ => x
  | .cond _ x _ => x
  | .block _ c => c
  | .loop c => c
  | .scope c => c
  | c => c
def cr : Code → Code
  | .seq _ y => y
  | .cond _ _ y => y
  | c => c

def condEnv (env : List AV) : Operand → Bool → List AV
  | .tmp t, b => env.set t (.v .bool b)
  | _, _ => env

def evCode {Ω : Type} (C : Cfg) (spec : Spec) (fuel : Fuel) : Code → List AV → Heap → Kont Ω → Option Ω
  | .skip, env, L, k => k .normal env L
  | .label _, env, L, k => k .normal env L
  | .region _ ops draw, env, L, k => evRegion C spec ops draw env L (k .normal)
  | .seq x y, env, L, k => evCode C spec fuel x env L (seqK (fun env L => evCode C spec fuel y env L k) k)
  | .cond c x y, env, L, k => match evA C env c with
    | .v .bool b => bif b then evCode C spec fuel x (condEnv env c true) L k else evCode C spec fuel y (condEnv env c false) L k
    | _ => none
  | .block id c, env, L, k => evCode C spec fuel c env L (blockK id k)
  | .loop c, env, L, k => loopK (fun env L k => evCode C spec fuel c env L k) (maskOf (fuel.drop (firstReg c)) 0 env) (frzOf (fuel.drop (firstReg c))) L.length k fuel.n (forget L.length (maskOf (fuel.drop (firstReg c)) 0 env) (frzL (frzOf (fuel.drop (firstReg c))) env L).1) (frzL (frzOf (fuel.drop (firstReg c))) env L).2
  | .exit id, env, L, k => k (.exit id) env L
  | .ret, env, L, k => k .ret env L
  | .scope c, env, L, k => evCode C spec fuel c env L k
  | _, _, _, _ => none

def RegRel (C : Cfg) (ops : Array Oper) (draw : Bool) (env : List AV) (L : Heap) (env' : List AV) (L' : Heap) : Prop :=
  if draw then ∃ fs, drawOK ops [] (items ops.toList fs 0 L.length) = true ∧ RunD C ops (items ops.toList fs 0 L.length) env (L ++ List.replicate (cntIds ops.toList) .resv) env' L'
  else RunRel C ops (withIds ops.toList L.length) env (L ++ List.replicate (cntIds ops.toList) .resv) env' L'

mutual
inductive CodeRel (C : Cfg) : Code → List AV → Heap → Ex → List AV → Heap → Prop
  | skip {env L} : CodeRel C .skip env L .normal env L
  | label {l env L} : CodeRel C (.label l) env L .normal env L
  | exit {id env L} : CodeRel C (.exit id) env L (.exit id) env L
  | ret {env L} : CodeRel C .ret env L .ret env L
  | region {id ops draw env L env' L'} (h : RegRel C ops draw env L env' L') : CodeRel C (.region id ops draw) env L .normal env' L'
  | seqN {x y env L env1 L1 e env2 L2} (h : CodeRel C x env L .normal env1 L1) (k : CodeRel C y env1 L1 e env2 L2) : CodeRel C (.seq x y) env L e env2 L2
  | seqX {x y env L e env1 L1} (h : CodeRel C x env L e env1 L1) (he : e ≠ .normal) : CodeRel C (.seq x y) env L e env1 L1
  | cond {c x y env L b e env1 L1} (hc : evA C env c = .v .bool b) (h : CodeRel C (if b then x else y) env L e env1 L1) : CodeRel C (.cond c x y) env L e env1 L1
  | blockHit {id c env L env1 L1} (h : CodeRel C c env L (.exit id) env1 L1) : CodeRel C (.block id c) env L .normal env1 L1
  | blockOut {id c env L e env1 L1} (h : CodeRel C c env L e env1 L1) (he : e ≠ .exit id) : CodeRel C (.block id c) env L e env1 L1
  | scope {c env L e env1 L1} (h : CodeRel C c env L e env1 L1) : CodeRel C (.scope c) env L e env1 L1
  | loop {c mask fz env L e env1 L1} (h : LoopRel C c mask L.length (forget L.length mask (frzL fz env L).1) (frzL fz env L).2 e env1 L1) : CodeRel C (.loop c) env L e env1 L1
inductive LoopRel (C : Cfg) : Code → List Bool → Nat → List AV → Heap → Ex → List AV → Heap → Prop
  | stop {c mask h0 env L e env1 L1} (h : CodeRel C c env L e env1 L1) (he : e ≠ .normal) : LoopRel C c mask h0 env L e env1 L1
  | more {c mask fz h0 env L env1 L1 e env2 L2} (h : CodeRel C c env L .normal env1 L1) (k : LoopRel C c mask h0 (forget h0 mask (frzL fz env1 L1).1) (cutL h0 (frzL fz env1 L1).2) e env2 L2) : LoopRel C c mask h0 env L e env2 L2
end

section
variable {Ω : Type} {C : Cfg} {B : Nat} {w0 : World} {S0 : Nat → Nat → Prop} {ms : Nat → Value} {Ls : Heap} {spec : Spec}

theorem evRegion_rel (hS : SpecOK C spec) {ops : Array Oper} {draw : Bool} {env : List AV} {L : Heap} {k : List AV → Heap → Option Ω} {r : Ω} (h : evRegion C spec ops draw env L k = some r) : ∃ env' L', RegRel C ops draw env L env' L' ∧ k env' L' = some r := by
  unfold evRegion at h
  unfold RegRel
  cases draw with
  | false =>
    simp only [cond_false] at h
    obtain ⟨env', L', h1, h2⟩ := evOps_rel hS h
    exact ⟨env', L', by simpa using h1, h2⟩
  | true =>
    simp only [cond_true] at h
    obtain ⟨env', L', fl, h1, _, h3, h2⟩ := evOpsD_run hS h
    exact ⟨env', L', by
      simp only [if_true]
      exact ⟨fl, by simpa using h3, h1⟩, h2⟩

theorem condEnv_same {env : List AV} {c : Operand} {b : Bool} (h : evA C env c = .v .bool b) : condEnv env c b = env := by
  cases c with
  | tmp t => exact set_getD h (by simp)
  | _ => rfl

theorem loopK_rel {body : List AV → Heap → Kont Ω → Option Ω} {c : Code} (hb : ∀ {env L k r}, body env L k = some r → ∃ e env' L', CodeRel C c env L e env' L' ∧ k e env' L' = some r) {mask : List Bool} {fz : List Nat} {h0 : Nat} {k : Ex → List AV → Heap → Option Ω} {r : Ω} :
    ∀ {n : Nat} {env : List AV} {L : Heap}, loopK body mask fz h0 k n env L = some r → ∃ e env' L', LoopRel C c mask h0 env L e env' L' ∧ k e env' L' = some r
  | 0, env, L, h => by simp [loopK] at h
  | n + 1, env, L, h => by
    simp only [loopK] at h
    obtain ⟨e, env1, L1, h1, h2⟩ := hb h
    cases e with
    | normal =>
      obtain ⟨e, env', L', h3, h4⟩ := loopK_rel hb h2
      exact ⟨e, env', L', .more h1 h3, h4⟩
    | exit id => exact ⟨_, _, _, .stop h1 (by simp), h2⟩
    | ret => exact ⟨_, _, _, .stop h1 (by simp), h2⟩

theorem evCode_rel (hS : SpecOK C spec) {fuel : Fuel} : ∀ {c : Code} {env : List AV} {L : Heap} {k : Ex → List AV → Heap → Option Ω} {r : Ω}, evCode C spec fuel c env L k = some r → ∃ e env' L', CodeRel C c env L e env' L' ∧ k e env' L' = some r
  | .skip, env, L, k, r, h => ⟨_, _, _, .skip, h⟩
  | .label _, env, L, k, r, h => ⟨_, _, _, .label, h⟩
  | .exit _, env, L, k, r, h => ⟨_, _, _, .exit, h⟩
  | .ret, env, L, k, r, h => ⟨_, _, _, .ret, h⟩
  | .region _ ops draw, env, L, k, r, h => by
    simp only [evCode] at h
    obtain ⟨env', L', h1, h2⟩ := evRegion_rel hS h
    exact ⟨_, _, _, .region h1, h2⟩
  | .seq x y, env, L, k, r, h => by
    simp only [evCode] at h
    obtain ⟨e, env1, L1, h1, h2⟩ := evCode_rel hS h
    cases e with
    | normal =>
      obtain ⟨e, env', L', h3, h4⟩ := evCode_rel hS h2
      exact ⟨e, env', L', .seqN h1 h3, h4⟩
    | exit id => exact ⟨_, _, _, .seqX h1 (by simp), h2⟩
    | ret => exact ⟨_, _, _, .seqX h1 (by simp), h2⟩
  | .cond c x y, env, L, k, r, h => by
    simp only [evCode] at h
    split at h
    · rename_i b hb
      cases b with
      | true =>
        rw [condEnv_same hb] at h
        obtain ⟨e, env', L', h1, h2⟩ := evCode_rel hS (c := x) (by simpa using h)
        exact ⟨e, env', L', .cond hb (by simpa using h1), h2⟩
      | false =>
        rw [condEnv_same hb] at h
        obtain ⟨e, env', L', h1, h2⟩ := evCode_rel hS (c := y) (by simpa using h)
        exact ⟨e, env', L', .cond hb (by simpa using h1), h2⟩
    · cases h
  | .block id c, env, L, k, r, h => by
    simp only [evCode] at h
    obtain ⟨e, env1, L1, h1, h2⟩ := evCode_rel hS h
    cases e with
    | normal => exact ⟨_, _, _, .blockOut h1 (by simp), h2⟩
    | exit i =>
      by_cases hi : i = id
      · subst hi
        exact ⟨_, _, _, .blockHit h1, by simpa [blockK] using h2⟩
      · refine ⟨_, _, _, .blockOut h1 (by simpa using hi), ?_⟩
        have : (i == id) = false := by simpa using hi
        simpa [blockK, this] using h2
    | ret => exact ⟨_, _, _, .blockOut h1 (by simp), h2⟩
  | .loop c, env, L, k, r, h => by
    simp only [evCode] at h
    obtain ⟨e, env', L', h1, h2⟩ := loopK_rel (c := c) (fun h => evCode_rel hS h) h
    exact ⟨e, env', L', .loop h1, h2⟩
  | .rangeFunc .., env, L, k, r, h => by simp [evCode] at h
  | .scope c, env, L, k, r, h => by
    simp only [evCode] at h
    obtain ⟨e, env1, L1, h1, h2⟩ := evCode_rel hS h
    exact ⟨_, _, _, .scope h1, h2⟩
  | .goto _, env, L, k, r, h => by simp [evCode] at h
  | .refuse _, env, L, k, r, h => by simp [evCode] at h

theorem reg_wp (hC : C.OK) {rid : Nat} {ops : Array Oper} {draw : Bool} {env env' : List AV} {L L' : Heap} (h : RegRel C ops draw env L env' L') {a : Act} {w : World} (hst : St C B w0 S0 ms Ls env L a w)
    {Q : Exit → Act → World → Prop} (hQ : ∀ a' w', St C B w0 S0 ms Ls env' L' a' w' → Q .normal a' w') : (Code.region rid ops draw).wp C.P Q a w := by
  unfold RegRel at h
  have hmore := hst.more (cntIds ops.toList)
  have hres : ∀ i, i < cntIds ops.toList → (L ++ List.replicate (cntIds ops.toList) .resv)[L.length + i]? = some .resv := by
    intro i hi
    rw [List.getElem?_append_right (by omega), List.getElem?_replicate, if_pos (by omega)]
  cases draw with
  | false =>
    simp only [Bool.false_eq_true, if_false] at h
    exact wp_region_list (run_wpList hC hQ ops.toList L.length h hres hmore)
  | true =>
    simp only [if_true] at h
    obtain ⟨fs, hd, h1⟩ := h
    refine wp_region_any hC.mixed (run_wpAny (id0 := L.length) hC hd hQ ops.size (items ops.toList fs 0 L.length) _ ?_ (fun t h => h) ?_ (by simp) (fun i hi => ?_) (left_all _ _) h1 ⟨?_, ?_⟩ hmore.drew)
    · rw [items_len]; simp
    · exact (items_sorted _ _ _ _).imp fun h => h.1
    · have e1 : (Array.replicate ops.size false).getD i true = false := by simp [Array.getD, hi]
      rw [e1]
      simp only [true_iff]
      obtain ⟨t, q1, q2⟩ := items_all ops.toList fs 0 L.length i (by simpa using hi)
      exact ⟨t, List.mem_of_getElem? q1, by omega⟩
    · intro t ht hw
      obtain ⟨_, _, q3, q4⟩ := items_at ht
      have := hres (t.id - L.length) (by have := q4 hw; omega)
      rwa [show L.length + (t.id - L.length) = t.id by omega] at this
    · exact (items_sorted _ _ _ _).imp fun h => h.2

theorem cut_get {L : Heap} {h0 i : Nat} {s : Slot} (h : (cutL h0 L)[i]? = some s) : ∃ r, L[i]? = some r ∧ i < h0 ∧ r.keep (fun j => Nat.blt j h0) = s := by
  obtain ⟨r, h1, h2⟩ := keep_get h
  rw [List.getElem?_take] at h1
  split at h1
  · rename_i hi; exact ⟨r, h1, hi, h2⟩
  · cases h1
theorem get_cut {L : Heap} {h0 i : Nat} {s : Slot} (h : L[i]? = some s) (hi : i < h0) : (cutL h0 L)[i]? = some (s.keep (fun j => Nat.blt j h0)) :=
  get_keep (by rw [List.getElem?_take, if_pos hi]; exact h)
theorem keep_row {f : Nat → Bool} {r : Slot} {t : TypeId} {e : ETy} {xs : List e.I} {ro : Bool} (h : r.keep f = .row t e xs ro) : r = .row t e xs ro := by
  cases r <;> simp [Slot.keep] at h ⊢; exact h
theorem keep_obj {f : Nat → Bool} {r : Slot} {o : Obj'} (h : r.keep f = .obj o) : r = .obj o := by
  cases r <;> simp [Slot.keep] at h ⊢; exact h
theorem keep_box {f : Nat → Bool} {r : Slot} {T : ETy} {x : T.I} {ro : Bool} (h : r.keep f = .box T x ro) : r = .box T x ro := by
  cases r <;> simp [Slot.keep] at h ⊢; exact h
theorem keep_lbx {f : Nat → Bool} {r : Slot} {T : ETy} {x : T.I} {hs : List (Nat × Option Nat)} (h : r.keep f = .lbx T x hs) : ∃ q, r = .lbx T x q ∧ hs = keepH f q := by
  cases r <;> simp [Slot.keep] at h
  obtain ⟨rfl, h, rfl⟩ := h
  cases h
  exact ⟨_, rfl, rfl⟩

mutual
theorem RepA.take {m : Nat → Value} {L : Heap} {w : World} {S : Nat → Nat → Prop} {h0 : Nat} : ∀ {a : AV} {u : Value}, a.ids (fun _ id => decide (id < h0)) = true → RepA m L w S a u → RepA m (cutL h0 L) w S a u
  | .v τ x, u, _, h => by rw [rep_v] at h ⊢; exact h
  | .cst c, u, _, h => by simp only [RepA] at h ⊢; exact h
  | .vp T x p, u, _, h => by simp only [RepA] at h ⊢; exact h
  | .ref id p, u, hx, h => by
    simp only [AV.ids, decide_eq_true_eq] at hx
    simp only [RepA] at h ⊢
    obtain ⟨s, h1, h2, h3, h4⟩ := h
    exact ⟨_, get_cut h1 hx, fun e => h2 (keep_resv.1 e), fun T e => h3 T (by rw [← e, keep_bty]), fun o e => h4 o (keep_obj e)⟩
  | .rref id i p, u, hx, h => by
    simp only [AV.ids, decide_eq_true_eq] at hx
    simp only [RepA] at h ⊢
    obtain ⟨s, h1, h2, h3⟩ := h
    exact ⟨_, get_cut h1 hx, fun e => h2 (keep_resv.1 e), fun t e xs ro q => h3 t e xs ro (keep_row q)⟩
  | .ls id p lo n, u, hx, h => by
    simp only [AV.ids, decide_eq_true_eq] at hx
    simp only [RepA] at h ⊢
    obtain ⟨s, h1, h2, h3⟩ := h
    exact ⟨_, get_cut h1 hx, fun e => h2 (keep_resv.1 e), fun T e => h3 T (by rw [← e, keep_bty])⟩
  | .rs id, u, hx, h => by
    simp only [AV.ids, decide_eq_true_eq] at hx
    simp only [RepA] at h ⊢
    obtain ⟨s, h1, h2, h3⟩ := h
    exact ⟨_, get_cut h1 hx, fun e => h2 (keep_resv.1 e), fun t e xs ro q => h3 t e xs ro (keep_row q)⟩
  | .lr id lo n, u, hx, h => by
    simp only [AV.ids, decide_eq_true_eq] at hx
    simp only [RepA] at h ⊢
    obtain ⟨s, h1, h2, h3⟩ := h
    exact ⟨_, get_cut h1 hx, fun e => h2 (keep_resv.1 e), fun t e xs ro q => h3 t e xs ro (keep_row q)⟩
  | .fn f caps, u, hx, h => by
    simp only [RepA] at h ⊢
    obtain ⟨vs, e, h1⟩ := h
    exact ⟨vs, e, RepAs.take (by simpa [AV.ids] using hx) h1⟩
  | .bm f l, u, hx, h => by
    simp only [RepA] at h ⊢
    obtain ⟨vs, e, h1⟩ := h
    exact ⟨vs, e, RepAs.take (by simpa [AV.ids] using hx) h1⟩
  | .tup l, u, hx, h => by
    simp only [RepA] at h ⊢
    obtain ⟨vs, e, h1⟩ := h
    exact ⟨vs, e, RepAs.take (by simpa [AV.ids] using hx) h1⟩
  | .bt T x q, u, hx, h => by
    simp only [RepA] at h ⊢
    simp only [AV.ids, List.all_eq_true] at hx
    obtain ⟨k0, cs, ds, h1, h2, h3, h4, h5, h6⟩ := h
    refine ⟨k0, cs, ds, h1, h2, h3, h4, h5, fun o rid hr => ?_⟩
    obtain ⟨v, k1, s, k2, k3, k4⟩ := h6 o rid hr
    have hlt : rid < h0 := by simpa using hx _ hr
    exact ⟨v, k1, _, get_cut k2 hlt, fun e => k3 (keep_resv.1 e), fun t e xs ro q => k4 t e xs ro (keep_row q)⟩
  | .dead, u, _, h => by simp only [RepA]
theorem RepAs.take {m : Nat → Value} {L : Heap} {w : World} {S : Nat → Nat → Prop} {h0 : Nat} : ∀ {a : List AV} {u : List Value}, AV.idsL (fun _ id => decide (id < h0)) a = true → RepAs m L w S a u → RepAs m (cutL h0 L) w S a u
  | [], u, _, h => by simp only [RepAs] at h ⊢; exact h
  | x :: xs, u, hx, h => by
    simp only [AV.idsL, Bool.and_eq_true] at hx
    simp only [RepAs] at h ⊢
    obtain ⟨y, r, rfl, h1, h2⟩ := h
    exact ⟨y, r, rfl, h1.take hx.1, RepAs.take hx.2 h2⟩
end

theorem LinkOK.cut {m : Nat → Value} {L : Heap} {h0 rid : Nat} {u : Value} (hr : rid < h0) (h : LinkOK m L rid u) : LinkOK m (cutL h0 L) rid u := by
  obtain ⟨s, h1, h2, h3⟩ := h
  exact ⟨_, get_cut h1 hr, fun e => h2 (keep_resv.1 e), fun t e xs ro q => h3 t e xs ro (keep_row q)⟩
theorem Inv.take {m : Nat → Value} {L : Heap} {w : World} {S : Nat → Nat → Prop} (h : Inv B m L w S) (h0 : Nat) : Inv B m (cutL h0 L) w S where
  base := h.base
  box id T x ro e := by
    obtain ⟨r, h1, _, h2⟩ := cut_get e
    rw [keep_box h2] at h1
    exact h.box id T x ro h1
  row id t e xs ro q := by
    obtain ⟨r, h1, _, h2⟩ := cut_get q
    rw [keep_row h2] at h1
    exact h.row id t e xs ro h1
  obj id o e := by
    obtain ⟨r, h1, _, h2⟩ := cut_get e
    rw [keep_obj h2] at h1
    exact h.obj id o h1
  lbx id T x hs e := by
    obtain ⟨r, h1, _, h2⟩ := cut_get e
    obtain ⟨q, rfl, rfl⟩ := keep_lbx h2
    obtain ⟨b, cs, ds, el, fr, k1, k2, k3, k4, k5, k6, k6', k7, k8⟩ := h.lbx id T x q h1
    refine ⟨b, cs, ds, el, fr, k1, k2, k3, k4, k5, k6, k6', fun o ho => k7 o (lk_keep_none ho), fun o rid hr => ?_⟩
    obtain ⟨u, q1, q2⟩ := k8 o rid (lk_keep_some hr).1
    exact ⟨u, q1, q2.cut (by have := (lk_keep_some hr).2; simp [Nat.blt] at this; omega)⟩
  apart i j s r hij e1 e2 l1 l2 := by
    obtain ⟨s1, h1, _, rfl⟩ := cut_get e1
    obtain ⟨s2, h2, _, rfl⟩ := cut_get e2
    rw [keep_live] at l1 l2
    exact h.apart i j s1 s2 hij h1 h2 l1 l2
  prot b o hs := ⟨(h.prot b o hs).1, fun i s e hl hb => by
    obtain ⟨s1, h1, _, rfl⟩ := cut_get e
    rw [keep_live] at hl
    rw [keep_ro, keep_cells]
    exact (h.prot b o hs).2 i s1 h1 hl hb⟩

theorem forget_len {h0 : Nat} : ∀ {mask : List Bool} {env : List AV}, (forget h0 mask env).length = env.length
  | mask, [] => by cases mask with | nil => rfl | cons b _ => cases b <;> rfl
  | [], a :: as => by simp [forget, forget_len]
  | false :: ms, a :: as => by simp [forget, forget_len]
  | true :: ms, a :: as => by simp [forget, forget_len]

theorem forget_at {m : Nat → Value} {L : Heap} {w : World} {S : Nat → Nat → Prop} {h0 : Nat} : ∀ {mask : List Bool} {env : List AV} {t : Nat} {u : Value}, RepA m L w S (env.getD t .dead) u → RepA m (cutL h0 L) w S ((forget h0 mask env).getD t .dead) u
  | mask, [], t, u, h => by cases mask with | nil => simp [forget, RepA] | cons b _ => cases b <;> simp [forget, RepA]
  | [], a :: as, 0, u, h => by simp [forget, RepA]
  | [], a :: as, t + 1, u, h => by simpa [forget] using forget_at (mask := []) (env := as) (t := t) (by simpa using h)
  | true :: ms, a :: as, 0, u, h => by simp [forget, RepA]
  | true :: ms, a :: as, t + 1, u, h => by simpa [forget] using forget_at (mask := ms) (env := as) (t := t) (by simpa using h)
  | false :: ms, a :: as, t + 1, u, h => by simpa [forget] using forget_at (mask := ms) (env := as) (t := t) (by simpa using h)
  | false :: ms, a :: as, 0, u, h => by
    have h : RepA m L w S a u := by simpa using h
    simp only [forget, List.getD_cons_zero]
    cases hx : a.ids (fun _ id => decide (id < h0)) with
    | true => exact h.take hx
    | false => simp only [cond_false, RepA]

theorem forget_at0 {m : Nat → Value} {L : Heap} {w : World} {S : Nat → Nat → Prop} {h0 : Nat} : ∀ {mask : List Bool} {env : List AV} {t : Nat} {u : Value}, RepA m L w S (env.getD t .dead) u → RepA m L w S ((forget h0 mask env).getD t .dead) u
  | mask, [], t, u, h => by cases mask with | nil => simp [forget, RepA] | cons b _ => cases b <;> simp [forget, RepA]
  | [], a :: as, 0, u, h => by simp [forget, RepA]
  | [], a :: as, t + 1, u, h => by simpa [forget] using forget_at0 (mask := []) (env := as) (t := t) (by simpa using h)
  | true :: ms, a :: as, 0, u, h => by simp [forget, RepA]
  | true :: ms, a :: as, t + 1, u, h => by simpa [forget] using forget_at0 (mask := ms) (env := as) (t := t) (by simpa using h)
  | false :: ms, a :: as, t + 1, u, h => by simpa [forget] using forget_at0 (mask := ms) (env := as) (t := t) (by simpa using h)
  | false :: ms, a :: as, 0, u, h => by
    have h : RepA m L w S a u := by simpa using h
    simp only [forget, List.getD_cons_zero]
    cases hx : a.ids (fun _ id => decide (id < h0)) with
    | true => exact h
    | false => simp only [cond_false, RepA]

/-- Some blocks lie ahead of a place. -/
def Past (Ls : Heap) (h0 : Nat) : Prop := ∀ (id : Nat) (s : Slot), Ls[id]? = some s → s ≠ .resv → id < h0
theorem St.past {env : List AV} {L : Heap} {a : Act} {w : World} (h : St C B w0 S0 ms Ls env L a w) : Past Ls L.length := by
  obtain ⟨m, S, hI, hE, hG, hb, hs, hnew, hx, hd⟩ := h
  intro id s hs hr
  obtain ⟨s', q1, _⟩ := hx.ext id s hs hr
  exact (List.getElem?_eq_some_iff.1 q1).1

theorem St.forget0 {env : List AV} {L : Heap} {a : Act} {w : World} (h : St C B w0 S0 ms Ls env L a w) (h0 : Nat) (mask : List Bool) : St C B w0 S0 ms Ls (forget h0 mask env) L a w := by
  obtain ⟨m, S, hI, hE, hG, hb, hs, hnew, hx, hd⟩ := h
  exact ⟨m, S, hI, ⟨by rw [forget_len]; exact hE.size, fun t => forget_at0 (hE.at_ t)⟩, hG, hb, hs, hnew, hx, hd⟩

theorem St.forget {env : List AV} {L : Heap} {a : Act} {w : World} (h : St C B w0 S0 ms Ls env L a w) (h0 : Nat) (hp : Past Ls h0) (mask : List Bool) : St C B w0 S0 ms Ls (forget h0 mask env) (cutL h0 L) a w := by
  obtain ⟨m, S, hI, hE, hG, hb, hs, hnew, hx, hd⟩ := h
  refine ⟨m, S, hI.take h0, ⟨by rw [forget_len]; exact hE.size, fun t => forget_at (hE.at_ t)⟩, hG, hb, hs, hnew, ⟨fun id s hs hr => ?_⟩, hd⟩
  obtain ⟨s', q1, q2, q3, q4, q5⟩ := hx.ext id s hs hr
  exact ⟨_, get_cut q1 (hp id s hs hr), fun e => q2 (keep_resv.1 e), fun T e => q3 T (by rw [← e, keep_bty]), fun o e => q4 o (keep_obj e), fun t e xs ro hX q => q5 t e xs ro hX (keep_row q)⟩

theorem frzL_len : ∀ (fz : List Nat) (env : List AV) (L : Heap), (frzL fz env L).2.length = L.length
  | [], env, L => rfl
  | t :: ts, env, L => by
    unfold frzL
    split
    · split
      · rw [frzL_len ts]
        unfold mark1
        split
        · simp
        · rfl
      · exact frzL_len ts env L
    · exact frzL_len ts env L
theorem St.frz : ∀ (fz : List Nat) {env : List AV} {L : Heap} {a : Act} {w : World}, St C B w0 S0 ms Ls env L a w → St C B w0 S0 ms Ls (frzL fz env L).1 (frzL fz env L).2 a w
  | [], env, L, a, w, h => h
  | t :: ts, env, L, a, w, h => by
    unfold frzL
    split
    · rename_i id ht
      split
      · rename_i te e xs ro hL
        refine St.frz ts ?_
        obtain ⟨m, S, hI, hE, hG, hb, hs, hnew, hx, hd⟩ := h
        obtain ⟨S', g, hk⟩ := mark1_goes (m := m) (w := w) hI id (fun _ => false)
        have hE' := hE.go0 (fun _ => rfl) g
        have hr := hE'.at_ t
        rw [ht] at hr
        have hlift : liftA (mark1 L id) (.slice e) (.rs id) = some xs := by
          unfold liftA mark1
          rw [hL]
          simp only [get_set ⟨_, hL⟩, if_pos, Slot.mark]
          simp [castI]
        have hv := lift_rep g.inv hr (fun j hj => by cases hj; exact hk) hlift
        refine ⟨m, S', g.inv, ⟨by rw [List.length_set]; exact hE'.size, fun q => ?_⟩, hG.go g.safe g.below, hb.trans g.below, hs.trans g.safe, fun b o h => (g.new b o h).elim (hnew b o) .inr, hx.trans (g.ext.mono fun _ h => by cases h), hd⟩
        by_cases hq : t = q
        · subst hq
          by_cases hlt : t < env.length
          · simp only [List.getD_eq_getElem?_getD, List.getElem?_set_self hlt, Option.getD_some]
            rw [rep_v]; exact hv
          · simp only [List.getD_eq_getElem?_getD]
            rw [List.getElem?_eq_none (by simp; omega)]
            simp only [Option.getD_none, RepA]
        · have := hE'.at_ q
          simp only [List.getD_eq_getElem?_getD, List.getElem?_set_ne hq] at this ⊢
          exact this
      · exact St.frz ts h
    · exact St.frz ts h

theorem Ex.then_ne {e : Ex} (h : e ≠ .normal) {K : Act → World → Prop} {Q : Exit → Act → World → Prop} {a : Act} {w : World} (hq : Q e.to a w) : Exit.then K Q e.to a w := by
  cases e with
  | normal => exact absurd rfl h
  | exit id => exact hq
  | ret => exact hq

theorem Ex.inBlock_ne {e : Ex} {id : Nat} (h : e ≠ .exit id) {Q : Exit → Act → World → Prop} {a : Act} {w : World} (hq : Q e.to a w) : Exit.inBlock id Q e.to a w := by
  cases e with
  | normal => exact hq
  | exit i =>
    have : i ≠ id := fun e => h (by rw [e])
    simp [Ex.to, Exit.inBlock, this] at hq ⊢
    exact hq
  | ret => exact hq

theorem Ex.noGoto {e : Ex} {Q : Exit → Act → World → Prop} {a : Act} {w : World} (hq : Q e.to a w) : Exit.noGoto Q e.to a w := by
  cases e <;> exact hq

mutual
theorem code_wp (hC : C.OK) {c : Code} {env : List AV} {L : Heap} {e : Ex} {env' : List AV} {L' : Heap} : CodeRel C c env L e env' L' → ∀ (a : Act) (w : World) (Q : Exit → Act → World → Prop), St C B w0 S0 ms Ls env L a w → (∀ a' w', St C B w0 S0 ms Ls env' L' a' w' → Q e.to a' w') → c.wp C.P Q a w
  | .skip, a, w, Q, hst, hQ => wp_skip (hQ a w hst)
  | .label, a, w, Q, hst, hQ => wp_label (hQ a w hst)
  | .exit, a, w, Q, hst, hQ => wp_exit (hQ a w hst)
  | .ret, a, w, Q, hst, hQ => wp_ret (hQ a w hst)
  | .region h, a, w, Q, hst, hQ => reg_wp hC h hst hQ
  | .seqN h k, a, w, Q, hst, hQ => wp_seq (code_wp hC h a w _ hst fun a' w' hst' => code_wp hC k a' w' Q hst' hQ)
  | .seqX h he, a, w, Q, hst, hQ => wp_seq (code_wp hC h a w _ hst fun a' w' hst' => Ex.then_ne he (hQ a' w' hst'))
  | .cond (c := c) (b := b) hc h, a, w, Q, hst, hQ => by
    have hst' := hst
    obtain ⟨m, S, hI, hE, hG, _⟩ := hst'
    have hev := hE.eval hG c
    rw [hc, rep_bool] at hev
    exact wp_cond (t := b) hev (code_wp hC h a w Q hst hQ)
  | .blockHit h, a, w, Q, hst, hQ => wp_block (code_wp hC h a w _ hst fun a' w' hst' => by
      have := hQ a' w' hst'
      simpa [Ex.to, Exit.inBlock] using this)
  | .blockOut h he, a, w, Q, hst, hQ => wp_block (code_wp hC h a w _ hst fun a' w' hst' => Ex.inBlock_ne he (hQ a' w' hst'))
  | .scope h, a, w, Q, hst, hQ => wp_scope_straight (code_wp hC h a w _ hst fun a' w' hst' => Ex.noGoto (hQ a' w' hst'))
  | .loop h, a, w, Q, hst, hQ => by
    obtain ⟨n, hn⟩ := loop_wp hC h
    rename_i mask fz
    have hst' := (hst.frz fz).forget0 L.length mask
    exact wp_loop_rounds n (hn a w Q hst.past hst' hQ)
theorem loop_wp (hC : C.OK) {c : Code} {mask : List Bool} {h0 : Nat} {env : List AV} {L : Heap} {e : Ex} {env' : List AV} {L' : Heap} : LoopRel C c mask h0 env L e env' L' → ∃ n, ∀ (a : Act) (w : World) (Q : Exit → Act → World → Prop), Past Ls h0 → St C B w0 S0 ms Ls env L a w → (∀ a' w', St C B w0 S0 ms Ls env' L' a' w' → Q e.to a' w') → Code.rounds C.P c Q n a w
  | .stop h he => ⟨1, fun a w Q _ hst hQ => code_wp hC h a w _ hst fun a' w' hst' => Ex.then_ne he (hQ a' w' hst')⟩
  | .more h k => by
    obtain ⟨n, hn⟩ := loop_wp hC k
    exact ⟨n + 1, fun a w Q hp hst hQ => code_wp hC h a w _ hst fun a' w' hst' => hn a' w' Q hp ((hst'.frz _).forget _ hp _) hQ⟩
end
end
end Go.Proofs.YtmmooplcdkmapaaGreatDoor.K

set_option maxHeartbeats 400000
set_option linter.unusedVariables false
set_option linter.unusedSimpArgs false
namespace Go.Proofs.YtmmooplcdkmapaaGreatDoor.K
open Go Go.RowKit

def resA (C : Cfg) (env : List AV) (L : Heap) : ResultVar → Option AV
  | .tmp t => some (env.getD t .dead)
  | .cell a t => (loadA C t L (env.getD a .dead)).bind fun r => bif r.1 then some r.2 else none

def resL (C : Cfg) (env : List AV) (L : Heap) : List ResultVar → Option (List AV)
  | [] => some []
  | r :: l => (resA C env L r).bind fun a => (resL C env L l).map fun as => a :: as

def tupA : List AV → AV
  | [b] => b
  | bs => .tup bs

def fnRes (C : Cfg) (fn : Func) (env : List AV) (L : Heap) : Option AV :=
  (resL C env L fn.results.toList).bind fun as => (handL C (markIds L (as.flatMap ownOf)) fn.resultTypes.toList as).map tupA

def finK {Ω : Type} (C : Cfg) (fn : Func) (k : AV → Option Ω) : Kont Ω
  | .exit _, _, _ => none
  | .normal, env, L => (fnRes C fn env L).bind k
  | .ret, env, L => (fnRes C fn env L).bind k

/-- A function's body on what it is handed. -/
def evFn {Ω : Type} (C : Cfg) (spec : Spec) (fuel : Fuel) (fn : Func) (c : Code) (args : List AV) (k : AV → Option Ω) : Option Ω :=
  evCode C spec fuel c (args ++ List.replicate (fn.ntmps - args.length) .dead) [] (finK C fn k)

section
variable {Ω : Type} {C : Cfg} {spec : Spec}

def rvSem (tmps : Array Value) : ResultVar → Sem Value
  | .tmp t => pure (tmps.getD t undef)
  | .cell a t => do loadVar t (← asAddr (tmps.getD a undef))

theorem results_eq (fn : Func) (tmps : Array Value) : results fn tmps = (do
  let vs ← fn.results.mapM (rvSem tmps)
  pure (if h : vs.size = 1 then vs[0] else .tuple vs)) := rfl

theorem load_addr {P : Program} {t : TypeId} {x u : Value} {w w' : World} (h : (Instr.loadAt t x).run P w = .ok u w') : (do loadVar t (← asAddr x) : Sem Value).run P w = .ok u w' := by
  unfold Instr.loadAt at h
  unfold Instr.sureAddr at h
  split at h
  · simpa [asAddr] using h
  · simp [stuck] at h

theorem resL_gives (hC : C.OK) {B : Nat} {m : Nat → Value} {L : Heap} {w : World} {S : Nat → Nat → Prop} {env : List AV} {tmps : Array Value} (hI : Inv B m L w S) (hE : RepE m L w S env tmps) : ∀ {l : List ResultVar} {as : List AV}, resL C env L l = some as →
    ∃ us, (l.mapM (rvSem tmps)).run C.P w = .ok us w ∧ RepAs m L w S as us
  | [], as, h => by
    simp only [resL, Option.some.injEq] at h
    subst h
    exact ⟨[], by simp, by simp only [RepAs]⟩
  | r :: l, as, h => by
    simp only [resL, Option.bind_eq_some_iff, Option.map_eq_some_iff] at h
    obtain ⟨a, h1, as', h2, rfl⟩ := h
    obtain ⟨us, e1, e2⟩ := resL_gives hC hI hE h2
    cases r with
    | tmp t =>
      simp only [resA, Option.some.injEq] at h1
      subst h1
      refine ⟨tmps.getD t undef :: us, ?_, ?_⟩
      · simp only [List.mapM_cons, rvSem, Sem.run_bind, Sem.run_pure, Result.andThen_ok, e1]
      · simp only [RepAs]; exact ⟨_, _, rfl, hE.at_ t, e2⟩
    | cell x t =>
      simp only [resA, Option.bind_eq_some_iff] at h1
      obtain ⟨⟨b, a'⟩, h3, h4⟩ := h1
      cases b with
      | false => cases h4
      | true =>
        simp only [cond_true, Option.some.injEq] at h4
        subst h4
        obtain ⟨u, r1, r2⟩ := gives_load hC hI (hE.at_ x) _ h3
        refine ⟨u :: us, ?_, ?_⟩
        · have r3 : (rvSem tmps (.cell x t)).run C.P w = .ok u w := load_addr r1
          simp only [List.mapM_cons, Sem.run_bind, r3, Sem.run_pure, Result.andThen_ok, e1]
        · simp only [RepAs]; exact ⟨_, _, rfl, r2, e2⟩

theorem repAs_len {m : Nat → Value} {L : Heap} {w : World} {S : Nat → Nat → Prop} : ∀ {as : List AV} {us : List Value}, RepAs m L w S as us → as.length = us.length
  | [], us, h => by simp only [RepAs] at h; subst h; rfl
  | a :: as, us, h => by
    simp only [RepAs] at h
    obtain ⟨u, r, rfl, _, h2⟩ := h
    simp [repAs_len h2]

theorem repAs_getD {m : Nat → Value} {L : Heap} {w : World} {S : Nat → Nat → Prop} (n : Nat) : ∀ {as : List AV} {us : List Value}, RepAs m L w S as us → ∀ t, RepA m L w S ((as ++ List.replicate n AV.dead).getD t .dead) ((us ++ List.replicate n undef).getD t undef)
  | [], us, h, t => by
    have : (([] : List AV) ++ List.replicate n AV.dead).getD t .dead = .dead := by
      simp only [List.nil_append, List.getD_eq_getElem?_getD, List.getElem?_replicate]
      split <;> rfl
    rw [this]; simp only [RepA]
  | a :: as, us, h, t => by
    simp only [RepAs] at h
    obtain ⟨u, r, rfl, h1, h2⟩ := h
    cases t with
    | zero => simpa using h1
    | succ t => simpa using repAs_getD n h2 t

theorem tup_rep {m : Nat → Value} {L : Heap} {w : World} {S : Nat → Nat → Prop} {bs : List AV} {us : List Value} (h : RepAs m L w S bs us) : RepA m L w S (tupA bs) (if h : us.toArray.size = 1 then us.toArray[0] else .tuple us.toArray) := by
  match bs, us, h with
  | [], us, h => simp only [RepAs] at h; subst h; simp only [tupA, RepA]; exact ⟨[], rfl, by simp only [RepAs]⟩
  | [b], us, h =>
    simp only [RepAs] at h
    obtain ⟨u, r, rfl, h1, rfl⟩ := h
    simpa [tupA] using h1
  | b :: c :: bs, us, h =>
    have h' := h
    simp only [RepAs] at h
    obtain ⟨u, r, rfl, h1, u2, r2, rfl, h2⟩ := h
    simp only [tupA, RepA]
    exact ⟨_, by simp, h'⟩

theorem fn_contract (hC : C.OK) (hS : SpecOK C spec) {fuel : Fuel} {f : FuncId} {fn : Func} {c : Code} (hf : C.P.funcs[f]? = some fn) (hb : fn.body = some c) (hn : (fn.name == "runtime.NumGoroutine") = false)
    {args : List AV} {k : AV → Option Ω} {r : Ω} (h : evFn C spec fuel fn c args k = some r) : ∃ av, k av = some r ∧ Contract C f args av := by
  unfold evFn at h
  obtain ⟨e, env', L', h1, h2⟩ := evCode_rel hS h
  have h3 : e ≠ .exit 0 → ∃ av, fnRes C fn env' L' = some av ∧ k av = some r ∧ ∀ i, e ≠ .exit i := by
    intro _
    cases e with
    | exit i => cases h2
    | normal => obtain ⟨av, p, q⟩ := Option.bind_eq_some_iff.1 h2; exact ⟨av, p, q, by simp⟩
    | ret => obtain ⟨av, p, q⟩ := Option.bind_eq_some_iff.1 h2; exact ⟨av, p, q, by simp⟩
  obtain ⟨av, h4, h5, hne⟩ := h3 (fun e0 => by subst e0; cases h2)
  refine ⟨av, h5, ⟨fun us w => ?_, fun w S us hlt hG hrep => ?_⟩⟩
  · have hpn : (program.run C.P w : Result Program) = .ok C.P w := rfl
    simp only [callFunc, Sem.run_bind, hpn, Result.andThen_ok, hf, hn, hb, Bool.false_eq_true, if_false, Option.isNone_some, Sem.run_pure]
  · refine calls_of_wp hf hb ?_
    have hlen := repAs_len hrep
    have hst : St C w.heap.size w S m0 [] (args ++ List.replicate (fn.ntmps - args.length) .dead) [] { tmps := us.toArray ++ Array.replicate (fn.ntmps - us.toArray.size) undef, defers := [] } w := by
      refine ⟨m0, S, ⟨Nat.le_refl _, by simp, by simp, by simp, by simp, by simp, fun b o hs => ⟨hlt b o hs, by simp⟩⟩, ⟨by simp [hlen], fun t => ?_⟩, hG, Below.refl _ _, Safe.refl _ _, fun _ _ h => .inl h, ⟨by simp⟩, rfl⟩
      have := repAs_getD (fn.ntmps - args.length) hrep t
      rw [List.getD_eq_getElem?_getD (l := us ++ _)] at this
      have harr : us.toArray ++ Array.replicate (fn.ntmps - us.toArray.size) undef = (us ++ List.replicate (fn.ntmps - us.length) undef).toArray := by apply Array.ext'; simp
      show RepA m0 [] w S _ ((us.toArray ++ Array.replicate (fn.ntmps - us.toArray.size) undef).getD t undef)
      rw [harr, Array.getD_eq_getD_getElem?, List.getElem?_toArray, ← hlen]
      exact this
    refine code_wp hC h1 _ w _ hst ?_
    intro a' w' hst'
    obtain ⟨m, S', hI, hE, hG', hbel, hsafe, hnew, _, hd⟩ := hst'
    have hpost : a'.defers = [] ∧ ∃ v, (results fn a'.tmps).run C.P w' = .ok v w' ∧ ∃ u S2, Ending.returned v = .returned u ∧ Below w.heap.size w w' ∧ Safe S S2 w w' ∧ (∀ b o, S2 b o → (S b o ∨ w.heap.size ≤ b) ∧ b < w'.heap.size) ∧ RepA m0 [] w' S2 av u := by
      refine ⟨hd, ?_⟩
      simp only [fnRes, Option.bind_eq_some_iff, Option.map_eq_some_iff] at h4
      obtain ⟨as, q1, bs, q2, rfl⟩ := h4
      obtain ⟨us', r1, r2⟩ := resL_gives hC hI hE q1
      obtain ⟨S1, g1, _, k1⟩ := markIds_goes (m := m) (w := w') (fun _ => false) (as.flatMap ownOf) hI
      have r3 := noX_L (fun _ => rfl) g1 r2
      have r4 := handL_rep (C := C) g1.inv r3 (fun a ha id hid => k1 id (List.mem_flatMap.2 ⟨a, ha, hid⟩)) q2
      refine ⟨_, ?_, _, S1, rfl, hbel, hsafe.trans g1.safe, fun b o hs => ⟨?_, (g1.inv.prot b o hs).1⟩, tup_rep r4⟩
      · rw [results_eq, Array.mapM_eq_mapM_toList]
        simp only [bind_map_left, Sem.run_bind, r1, Result.andThen_ok, Sem.run_pure]
      · rcases g1.new b o hs with h | h
        · exact hnew b o h
        · exact .inr h
    cases e with
    | exit i => exact absurd rfl (hne i)
    | normal => exact hpost
    | ret => exact hpost
end
end Go.Proofs.YtmmooplcdkmapaaGreatDoor.K

set_option maxHeartbeats 400000
set_option linter.unusedVariables false
set_option linter.unusedSimpArgs false
namespace Go.Proofs.YtmmooplcdkmapaaGreatDoor.K
open Go Go.RowKit

def bs (l : List UInt8) : ByteArray := ⟨l.toArray⟩

def getI (τ : ETy) : AV → Option τ.I
  | .v σ x => castI σ τ x
  | _ => none

theorem getI_eq {τ : ETy} {a : AV} {x : τ.I} (h : getI τ a = some x) : a = .v τ x := by
  cases a with
  | v σ y =>
    obtain ⟨e, rfl⟩ := castI_eq h
    subst e
    rfl
  | _ => simp [getI] at h

abbrev Ent := ∀ {Ω : Type}, List AV → (AV → Option Ω) → Option Ω

def EntOK (C : Cfg) (g : FuncId) (e : Ent) : Prop := ∀ {Ω : Type} (bs : List AV) (k : AV → Option Ω) (r : Ω), e bs k = some r → ∃ av, k av = some r ∧ Contract C g bs av

def noS : Spec := ⟨fun _ _ _ => none, fun _ => false, fun _ _ _ _ => none⟩
def orS (g0 : FuncId) (e : Ent) (rest : Spec) : Spec := ⟨fun g bs k => bif g == g0 then e bs k else rest.con g bs k, rest.isI, rest.inl⟩

theorem noS_ok {C : Cfg} : SpecOK C noS := ⟨fun _ _ _ _ h => (by cases h), fun _ _ _ _ _ h => by cases h⟩
theorem orS_ok {C : Cfg} {g0 : FuncId} {e : Ent} {rest : Spec} (h : EntOK C g0 e) (hr : SpecOK C rest) : SpecOK C (orS g0 e rest) := by
  refine ⟨?_, hr.inl⟩
  intro Ω g bs k r hk
  have key : ∀ b : Bool, (g == g0) = b → (bif b then e bs k else rest.con g bs k) = some r → ∃ av, k av = some r ∧ Contract C g bs av := by
    intro b hb hq
    cases b with
    | true =>
      obtain rfl : g = g0 := by simpa using hb
      exact h bs k r hq
    | false => exact hr.con g bs k r hq
  exact key _ rfl hk

/-- What is known under fewer tables is known under more. -/
structure Cfg.le (C C' : Cfg) : Prop where
  P : C.P = C'.P
  G : ∀ g d, C.G g = some d → C'.G g = some d
  M : ∀ g, C.M g = true → C'.M g = true

theorem Contract.mono {C C' : Cfg} (hl : C.le C') {f : FuncId} {args : List AV} {av : AV} (h : Contract C f args av) : Contract C' f args av where
  enters us w := by rw [← hl.P]; exact h.enters us w
  runs w S us hlt hG hr := by
    rw [← hl.P]
    exact h.runs w S us hlt ⟨fun g d hg => hG.tab g d (hl.G g d hg), fun g hg => hG.any g (hl.M g hg)⟩ hr

theorem EntOK.mono {C C' : Cfg} (hl : C.le C') {g : FuncId} {e : Ent} (h : EntOK C g e) : EntOK C' g e := by
  intro Ω bs k r hk
  obtain ⟨av, h1, h2⟩ := h bs k r hk
  exact ⟨av, h1, h2.mono hl⟩

def ent0 (p : Bool) (f : AV) : Ent := fun bs k => match bs with
  | [] => bif p then k f else none
  | _ => none
def ent1 (τ1 : ETy) (p : τ1.I → Bool) (f : τ1.I → AV) : Ent := fun bs k => match bs with
  | [a] => (getI τ1 a).bind fun x => bif p x then k (f x) else none
  | _ => none
def ent2 (τ1 τ2 : ETy) (p : τ1.I → τ2.I → Bool) (f : τ1.I → τ2.I → AV) : Ent := fun bs k => match bs with
  | [a, b] => (getI τ1 a).bind fun x => (getI τ2 b).bind fun y => bif p x y then k (f x y) else none
  | _ => none
def ent3 (τ1 τ2 τ3 : ETy) (p : τ1.I → τ2.I → τ3.I → Bool) (f : τ1.I → τ2.I → τ3.I → AV) : Ent := fun bs k => match bs with
  | [a, b, c] => (getI τ1 a).bind fun x => (getI τ2 b).bind fun y => (getI τ3 c).bind fun z => bif p x y z then k (f x y z) else none
  | _ => none
def ent4 (τ1 τ2 τ3 τ4 : ETy) (p : τ1.I → τ2.I → τ3.I → τ4.I → Bool) (f : τ1.I → τ2.I → τ3.I → τ4.I → AV) : Ent := fun bs k => match bs with
  | [a, b, c, d] => (getI τ1 a).bind fun x => (getI τ2 b).bind fun y => (getI τ3 c).bind fun z => (getI τ4 d).bind fun t => bif p x y z t then k (f x y z t) else none
  | _ => none
def ent5 (τ1 τ2 τ3 τ4 τ5 : ETy) (p : τ1.I → τ2.I → τ3.I → τ4.I → τ5.I → Bool) (f : τ1.I → τ2.I → τ3.I → τ4.I → τ5.I → AV) : Ent := fun bs k => match bs with
  | [a, b, c, d, e] => (getI τ1 a).bind fun x => (getI τ2 b).bind fun y => (getI τ3 c).bind fun z => (getI τ4 d).bind fun t => (getI τ5 e).bind fun u => bif p x y z t u then k (f x y z t u) else none
  | _ => none

section
variable {C : Cfg} {g : FuncId}

theorem ite_some {Ω : Type} {p : Bool} {x : Option Ω} {r : Ω} (h : (bif p then x else none) = some r) : p = true ∧ x = some r := by
  cases p with
  | true => exact ⟨rfl, h⟩
  | false => cases h

theorem ent0_ok {p : Bool} {f : AV} (h : p = true → Contract C g [] f) : EntOK C g (ent0 p f) := by
  intro Ω bs k r hk
  match bs, hk with
  | [], hk =>
    obtain ⟨h1, h2⟩ := ite_some hk
    exact ⟨_, h2, h h1⟩
theorem ent1_ok {τ1 : ETy} {p : τ1.I → Bool} {f : τ1.I → AV} (h : ∀ x, p x = true → Contract C g [.v τ1 x] (f x)) : EntOK C g (ent1 τ1 p f) := by
  intro Ω bs k r hk
  match bs, hk with
  | [a], hk =>
    obtain ⟨x, e1, hk⟩ := Option.bind_eq_some_iff.1 hk
    obtain ⟨h1, h2⟩ := ite_some hk
    rw [getI_eq e1]
    exact ⟨_, h2, h x h1⟩
theorem ent2_ok {τ1 τ2 : ETy} {p : τ1.I → τ2.I → Bool} {f : τ1.I → τ2.I → AV} (h : ∀ x y, p x y = true → Contract C g [.v τ1 x, .v τ2 y] (f x y)) : EntOK C g (ent2 τ1 τ2 p f) := by
  intro Ω bs k r hk
  match bs, hk with
  | [a, b], hk =>
    obtain ⟨x, e1, hk⟩ := Option.bind_eq_some_iff.1 hk
    obtain ⟨y, e2, hk⟩ := Option.bind_eq_some_iff.1 hk
    obtain ⟨h1, h2⟩ := ite_some hk
    rw [getI_eq e1, getI_eq e2]
    exact ⟨_, h2, h x y h1⟩
theorem ent3_ok {τ1 τ2 τ3 : ETy} {p : τ1.I → τ2.I → τ3.I → Bool} {f : τ1.I → τ2.I → τ3.I → AV} (h : ∀ x y z, p x y z = true → Contract C g [.v τ1 x, .v τ2 y, .v τ3 z] (f x y z)) : EntOK C g (ent3 τ1 τ2 τ3 p f) := by
  intro Ω bs k r hk
  match bs, hk with
  | [a, b, c], hk =>
    obtain ⟨x, e1, hk⟩ := Option.bind_eq_some_iff.1 hk
    obtain ⟨y, e2, hk⟩ := Option.bind_eq_some_iff.1 hk
    obtain ⟨z, e3, hk⟩ := Option.bind_eq_some_iff.1 hk
    obtain ⟨h1, h2⟩ := ite_some hk
    rw [getI_eq e1, getI_eq e2, getI_eq e3]
    exact ⟨_, h2, h x y z h1⟩
theorem ent4_ok {τ1 τ2 τ3 τ4 : ETy} {p : τ1.I → τ2.I → τ3.I → τ4.I → Bool} {f : τ1.I → τ2.I → τ3.I → τ4.I → AV} (h : ∀ x y z t, p x y z t = true → Contract C g [.v τ1 x, .v τ2 y, .v τ3 z, .v τ4 t] (f x y z t)) : EntOK C g (ent4 τ1 τ2 τ3 τ4 p f) := by
  intro Ω bs k r hk
  match bs, hk with
  | [a, b, c, d], hk =>
    obtain ⟨x, e1, hk⟩ := Option.bind_eq_some_iff.1 hk
    obtain ⟨y, e2, hk⟩ := Option.bind_eq_some_iff.1 hk
    obtain ⟨z, e3, hk⟩ := Option.bind_eq_some_iff.1 hk
    obtain ⟨t, e4, hk⟩ := Option.bind_eq_some_iff.1 hk
    obtain ⟨h1, h2⟩ := ite_some hk
    rw [getI_eq e1, getI_eq e2, getI_eq e3, getI_eq e4]
    exact ⟨_, h2, h x y z t h1⟩
theorem ent5_ok {τ1 τ2 τ3 τ4 τ5 : ETy} {p : τ1.I → τ2.I → τ3.I → τ4.I → τ5.I → Bool} {f : τ1.I → τ2.I → τ3.I → τ4.I → τ5.I → AV} (h : ∀ x y z t u, p x y z t u = true → Contract C g [.v τ1 x, .v τ2 y, .v τ3 z, .v τ4 t, .v τ5 u] (f x y z t u)) : EntOK C g (ent5 τ1 τ2 τ3 τ4 τ5 p f) := by
  intro Ω bs k r hk
  match bs, hk with
  | [a, b, c, d, e], hk =>
    obtain ⟨x, e1, hk⟩ := Option.bind_eq_some_iff.1 hk
    obtain ⟨y, e2, hk⟩ := Option.bind_eq_some_iff.1 hk
    obtain ⟨z, e3, hk⟩ := Option.bind_eq_some_iff.1 hk
    obtain ⟨t, e4, hk⟩ := Option.bind_eq_some_iff.1 hk
    obtain ⟨u, e5, hk⟩ := Option.bind_eq_some_iff.1 hk
    obtain ⟨h1, h2⟩ := ite_some hk
    rw [getI_eq e1, getI_eq e2, getI_eq e3, getI_eq e4, getI_eq e5]
    exact ⟨_, h2, h x y z t u h1⟩
end

section
variable {Ω β : Type} {k : β → Option Ω}
theorem cond_tot {c : Bool} {X Y : Option Ω} {a b : β} (hX : X = k a) (hY : Y = k b) : (bif c then X else Y) = k (bif c then a else b) := by
  cases c <;> assumption
theorem cond_pre {c p q : Bool} {X Y : Option Ω} {a b : β} (hX : X = bif p then k a else none) (hY : Y = bif q then k b else none) : (bif c then X else Y) = bif (bif c then p else q) then k (bif c then a else b) else none := by
  cases c <;> assumption
end

section
variable {Ω σ : Type} {r : σ → Option Ω}
theorem cond_rnd {b c1 c2 : Bool} {X Y e1 e2 : Option Ω} {n1 n2 : σ} (hX : X = bif c1 then r n1 else e1) (hY : Y = bif c2 then r n2 else e2) :
    (bif b then X else Y) = bif (bif b then c1 else c2) then r (bif b then n1 else n2) else (bif b then e1 else e2) := by
  cases b <;> assumption

/-- A loop that turns while c, by its invariant: Q is what comes of a state. -/
theorem iter_to {B : (σ → Option Ω) → σ → Option Ω} {c : σ → Bool} {f : σ → σ} {e : σ → Option Ω} (hB : ∀ r s, B r s = bif c s then r (f s) else e s) (I : σ → Prop) (μ : σ → Nat) (Q : σ → Option Ω)
    (hI : ∀ s, I s → c s = true → I (f s) ∧ μ (f s) < μ s ∧ Q (f s) = Q s) (hE : ∀ s, I s → c s = false → e s = Q s) : ∀ (m : Nat) (s : σ), I s → μ s < m → iter B m s = Q s
  | 0, s, _, h => by omega
  | m + 1, s, hs, h => by
    show B (iter B m) s = Q s
    rw [hB]
    cases hc : c s with
    | true =>
      obtain ⟨h1, h2, h3⟩ := hI s hs hc
      rw [cond_true, iter_to hB I μ Q hI hE m (f s) h1 (by omega), h3]
    | false => rw [cond_false]; exact hE s hs hc
end

def rep {α : Type} (f : α → α) : Nat → α → α
  | 0, x => x
  | n + 1, x => rep f n (f x)

theorem wrap_in {x : Int} (h0 : -9223372036854775808 ≤ x) (h1 : x ≤ 9223372036854775807) : IntKind.wrap .i64 x = x := by
  simp [IntKind.wrap, IntKind.bits, IntKind.signed, IntKind.min, IntKind.max] <;> omega

/-- From what a body comes to, to the contract. -/
theorem contract_of {C : Cfg} {spec : Spec} (hC : C.OK) (hS : SpecOK C spec) {fuel : Fuel} {f : FuncId} {fn : Func} (hf : C.P.funcs[f]? = some fn) (hb : fn.body.isSome = true) (hn : (fn.name == "runtime.NumGoroutine") = false)
    {args : List AV} {av : AV} (h : evFn C spec fuel fn (fn.body.getD .skip) args some = some av) : Contract C f args av := by
  obtain ⟨c, hc⟩ := Option.isSome_iff_exists.1 hb
  rw [hc] at h
  obtain ⟨av', h1, h2⟩ := fn_contract hC hS hf hc hn h
  cases h1
  exact h2
end Go.Proofs.YtmmooplcdkmapaaGreatDoor.K

/- What functions of the program come to, and their laws. -/
import Derived.Test.YtlcomipbinfooaaGreatDoorKD
import Derived.LoopN
import Derived.Scope
import Derived.SizedLaws
import Derived.OpenShut
import Derived.DataReads
import Derived.Carry
import Derived.ProofKit
import Derived.LaidLaws
import Derived.Lay
import Derived.Handed
namespace Go.Proofs.YtlcomipbinfooaaGreatDoor.K
open Go Go.RowKit
section
set_option linter.unusedVariables false
set_option linter.unusedSimpArgs false
set_option maxHeartbeats 400000
section
variable {Ω : Type} {C : Cfg} {B : Nat} {w0 : World} {S0 : Nat → Nat → Prop} {spec : Spec}
theorem rop_shape {ρ : Operand → AV} {L : Heap} {i : Nat} {s0 s1 : Slot} (hi : L[i]? = some s0) (hsh : sameShape s0 s1) {op : Op} (h : shapeOnly op = true) (hnc : isCall op = false) : rop C ρ (L.set i s1) op = rop C ρ L op := by
  have gs := get_set (s := s1) ⟨_, hi⟩
  have key : ∀ (id : Nat), (∃ s r, L[id]? = some s ∧ (L.set i s1)[id]? = some r ∧ (s = r ∨ sameShape s r)) ∨ (L[id]? = none ∧ (L.set i s1)[id]? = none) := by
    intro id
    rw [gs]
    split
    · rename_i e; subst e; exact .inl ⟨s0, s1, hi, rfl, .inr hsh⟩
    · cases hL : L[id]? with
      | none => exact .inr ⟨rfl, rfl⟩
      | some s => exact .inl ⟨s, s, rfl, rfl, .inl rfl⟩
  have boxes : ∀ {α : Type} (id : Nat) (f : ETy → α) (g : α), (match (L.set i s1)[id]? with | some (.box T _ _) => f T | _ => g) = (match L[id]? with | some (.box T _ _) => f T | _ => g) := by
    intro α id f g
    rcases key id with ⟨s, r, h1, h2, rfl | h3⟩ | ⟨h1, h2⟩
    · rw [h1, h2]
    · rw [h1, h2]
      cases s with
      | box T x ro => obtain ⟨y, ro', rfl⟩ := h3; rfl
      | row t e xs ro => obtain ⟨y, ro', rfl, _⟩ := h3; rfl
      | obj o => cases h3
      | lbx T x q => cases h3
      | gone => cases h3
      | resv => cases h3
    · rw [h1, h2]
  have rows : ∀ {α : Type} (id : Nat) (f : ETy → Nat → α) (g : α), (match (L.set i s1)[id]? with | some (.row _ e xs _) => f e (List.length xs) | _ => g) = (match L[id]? with | some (.row _ e xs _) => f e (List.length xs) | _ => g) := by
    intro α id f g
    rcases key id with ⟨s, r, h1, h2, rfl | h3⟩ | ⟨h1, h2⟩
    · rw [h1, h2]
    · rw [h1, h2]
      cases s with
      | box T x ro => obtain ⟨y, ro', rfl⟩ := h3; rfl
      | row t e xs ro => obtain ⟨y, ro', rfl, hl⟩ := h3; simp only [hl]
      | obj o => cases h3
      | lbx T x q => cases h3
      | gone => cases h3
      | resv => cases h3
    · rw [h1, h2]
  unfold rop
  split
  case h_10 =>
    unfold fieldAddrA
    split <;> first | rfl | exact boxes _ _ _ | exact rows _ (fun e _ => _) _
  case h_11 =>
    unfold indexAddrA
    split
    case h_5 =>
      rename_i id k ix e1 e2
      rcases key id with ⟨s, r, h1, h2, rfl | h3⟩ | ⟨h1, h2⟩
      · rw [h1, h2]
      · rw [h1, h2]
        cases s with
        | box T x ro => obtain ⟨y, ro', rfl⟩ := h3; rfl
        | row t e xs ro => obtain ⟨y, ro', rfl, hl⟩ := h3; simp only [hl]
        | obj o => cases h3
        | lbx T x q => cases h3
        | gone => cases h3
        | resv => cases h3
      · rw [h1, h2]
    all_goals first | rfl | exact boxes _ _ _ | exact rows _ (fun e _ => _) _
  case h_12 => simp [shapeOnly] at h
  case h_13 =>
    unfold sliceA
    congr 1; funext l; congr 1; funext q
    split
    case h_5 =>
      rename_i id e1
      rcases key id with ⟨s, r, h1, h2, rfl | h3⟩ | ⟨h1, h2⟩
      · rw [h1, h2]
      · rw [h1, h2]
        cases s with
        | box T x ro => obtain ⟨y, ro', rfl⟩ := h3; rfl
        | row t e xs ro => obtain ⟨y, ro', rfl, hl⟩ := h3; simp only [hl]
        | obj o => cases h3
        | lbx T x q => cases h3
        | gone => cases h3
        | resv => cases h3
      · rw [h1, h2]
    all_goals first | rfl | exact boxes _ _ _ | exact rows _ (fun e _ => _) _
  case h_14 =>
    unfold nilA
    split <;> first | rfl | exact boxes _ (fun _ => _) _ | exact rows _ (fun _ _ => _) _
  case h_16 => simp [shapeOnly] at h
  all_goals rfl
theorem ropL_shape {ρ : Operand → AV} {L : Heap} {i : Nat} {s0 s1 : Slot} (hi : L[i]? = some s0) (hsh : sameShape s0 s1) {op : Op} : ropL C ρ (L.set i s1) op = ropL C ρ L op := by
  have gs := get_set (s := s1) ⟨_, hi⟩
  have key : ∀ {α : Type} (id : Nat) (f : ∀ T : ETy, T.I → List (Nat × Option Nat) → Option α), (match (L.set i s1)[id]? with | some (.lbx T x hs) => f T x hs | _ => none) = (match L[id]? with | some (.lbx T x hs) => f T x hs | _ => none) := by
    intro α id f
    by_cases e : id = i
    · subst e
      rw [gs, if_pos rfl, hi]
      cases s0 with
      | box T x ro => obtain ⟨y, ro', rfl⟩ := hsh; rfl
      | row t e xs ro => obtain ⟨y, ro', rfl, _⟩ := hsh; rfl
      | obj o => cases hsh
      | lbx T x q => cases hsh
      | gone => cases hsh
      | resv => cases hsh
    · rw [gs, if_neg e]
  unfold ropL
  split
  · split
    · exact key _ fun T _ _ => _
    · rfl
  · split
    · exact key _ fun T x hs => _
    · rfl
  · rfl
theorem ropD_shape {ρ : Operand → AV} {L : Heap} {i : Nat} {s0 s1 : Slot} (hi : L[i]? = some s0) (hsh : sameShape s0 s1) {op : Op} (h : shapeOnly op = true) (hnc : isCall op = false) : ropD C ρ (L.set i s1) op = ropD C ρ L op :=
  ropD_eq (ropL_shape hi hsh) (rop_shape hi hsh h hnc)
theorem readsRow_get {ρ : Operand → AV} {L : Heap} {j : Nat} {s : Slot} {op : Op} (hcl : ∀ x ∈ op.operands, (ρ x).ids (open1 L) = true) (hj : L[j]? = some .resv) : ∀ i, readsRow ρ op = some i → (L.set j s)[i]? = L[i]? := by
  intro i h
  unfold readsRow at h
  split at h
  · rename_i a b x
    split at h
    · rename_i i' hx
      cases h
      have := hcl x (by simp [Op.operands])
      rw [hx] at this
      simp only [AV.ids] at this
      exact ids_get hj this
    · cases h
  · cases h
theorem OpVal.later {o : Oper} {id j : Nat} {ρ : Operand → AV} {L L' : Heap} {av : AV} {s : Slot} (hcl : ∀ x ∈ o.op.operands, (ρ x).ids (open1 L) = true) (hj : L[j]? = some .resv) (hne : wantsId o.op = true → j ≠ id) (hns : isStore o.op = false) (h : OpVal C o id ρ L av L') :
    OpVal C o id ρ (L.set j s) av (L'.set j s) := by
  rcases h with ⟨h1, ⟨g, bs, h2, h3⟩, h4, h5, rfl⟩ | ⟨h1, h2, h3, h4⟩ | ⟨h1, h2, h3, rfl⟩
  · exact .inl ⟨h1, ⟨g, bs, by rw [callA_resv hj hcl]; exact h2, h3⟩, h4, h5, rfl⟩
  · refine .inr (.inl ⟨h1, h2, h3, ?_⟩)
    rcases act_slot h3 hns h4 with ⟨rfl, _, h⟩ | ⟨hw, _, r, _, rfl, h⟩
    · exact h _ (readsRow_get hcl hj)
    · rw [h, List.set_comm _ _ (Ne.symm (hne hw))]
  · exact .inr (.inr ⟨h1, h2, by rw [ropD_resv hj hcl]; exact h3, rfl⟩)
theorem OpVal.sooner {o : Oper} {id j : Nat} {ρ : Operand → AV} {L L2 : Heap} {av : AV} {s : Slot} (hcl : ∀ x ∈ o.op.operands, (ρ x).ids (open1 L) = true) (hj : L[j]? = some .resv) (hne : wantsId o.op = true → j ≠ id) (hns : isStore o.op = false) (h : OpVal C o id ρ (L.set j s) av L2) :
    ∃ L', OpVal C o id ρ L av L' ∧ L2 = L'.set j s := by
  rcases h with ⟨h1, ⟨g, bs, h2, h3⟩, h4, h5, rfl⟩ | ⟨h1, h2, h3, h4⟩ | ⟨h1, h2, h3, rfl⟩
  · exact ⟨L, .inl ⟨h1, ⟨g, bs, by rw [← callA_resv hj hcl]; exact h2, h3⟩, h4, h5, rfl⟩, rfl⟩
  · rcases act_slot h3 hns h4 with ⟨rfl, _, h⟩ | ⟨hw, _, r, _, rfl, h⟩
    · exact ⟨L, .inr (.inl ⟨h1, h2, h3, h L fun i hi => (readsRow_get hcl hj i hi).symm⟩), rfl⟩
    · exact ⟨L.set id r, .inr (.inl ⟨h1, h2, h3, h L⟩), by rw [List.set_comm _ _ (Ne.symm (hne hw))]⟩
  · exact ⟨L, .inr (.inr ⟨h1, h2, by rw [← ropD_resv hj hcl]; exact h3, rfl⟩), rfl⟩
theorem OpVal.eff {o : Oper} {id : Nat} {ρ : Operand → AV} {L L' : Heap} {av : AV} (h : OpVal C o id ρ L av L') :
    L' = L ∨ (wantsId o.op = true ∧ isStore o.op = false ∧ ∃ s : Slot, s.live = true ∧ L' = L.set id s) ∨ (isStore o.op = true ∧ ∃ i s0 s1, L[i]? = some s0 ∧ sameShape s0 s1 ∧ s1.live = true ∧ L' = L.set i s1) := by
  rcases h with ⟨_, _, _, _, rfl⟩ | ⟨h1, h2, h3, h4⟩ | ⟨_, _, _, rfl⟩
  · exact .inl rfl
  · cases hs : isStore o.op with
    | true =>
      obtain ⟨_, i, s0, s1, q⟩ := store_slot h3 hs h4
      exact .inr (.inr ⟨rfl, i, s0, s1, q⟩)
    | false =>
      rcases act_slot h3 hs h4 with ⟨rfl, _, _⟩ | ⟨hw, _, s, hl, rfl, _⟩
      · exact .inl rfl
      · exact .inr (.inl ⟨hw, rfl, s, plain_live hl, rfl⟩)
  · exact .inl rfl
theorem act_of_wants {op : Op} (h : wantsId op = true) : isAct op = true := by
  unfold wantsId at h
  split at h <;> first | rfl | cases h
theorem OpVal.swap {ops : Array Oper} {x p : Oper} {ix ip : Nat} {ρ : Operand → AV} {L L1 L2 : Heap} {ax ap : AV} (hc : compat ops x p = true)
    (hclx : ∀ y ∈ x.op.operands, (ρ y).ids (open1 L) = true) (hclp : ∀ y ∈ p.op.operands, (ρ y).ids (open1 L) = true)
    (hrx : wantsId x.op = true → L[ix]? = some .resv) (hrp : wantsId p.op = true → L[ip]? = some .resv) (hne : wantsId x.op = true → wantsId p.op = true → ix ≠ ip)
    (h1 : OpVal C x ix ρ L ax L1) (h2 : OpVal C p ip ρ L1 ap L2) : ∃ L1', OpVal C p ip ρ L ap L1' ∧ OpVal C x ix ρ L1' ax L2 := by
  unfold compat at hc
  simp only [Bool.and_eq_true, Bool.or_eq_true, Bool.not_eq_true'] at hc
  obtain ⟨⟨_, hsx⟩, hsp⟩ := hc
  rcases h1.eff with rfl | ⟨hwx, hnsx, sx, hlx, rfl⟩ | ⟨hsx', i, s0, s1, hi, hsh, hl, rfl⟩
  · -- x turns nothing
    refine ⟨L2, h2, ?_⟩
    rcases h2.eff with rfl | ⟨hwp, hnsp, sp, hlp, rfl⟩ | ⟨hsp', i, s0, s1, hi, hsh, hl, rfl⟩
    · exact h1
    · have hnsx : isStore x.op = false := by
        cases hs : isStore x.op with
        | false => rfl
        | true =>
          have := hsx.resolve_left (by rw [hs]; simp)
          rw [act_of_wants hwp] at this
          exact absurd this.2 (by simp)
      exact h1.later hclx (hrp hwp) (fun hw => Ne.symm (hne hw hwp)) hnsx
    · have hxs := hsp.resolve_left (by rw [hsp']; simp)
      rcases h1 with ⟨h, _⟩ | ⟨_, h, _⟩ | ⟨q1, q2, q3, _⟩
      · rw [hxs.1.2] at h; cases h
      · rw [hxs.2] at h; cases h
      · exact .inr (.inr ⟨q1, q2, by rw [ropD_shape hi hsh hxs.1.1 q1]; exact q3, rfl⟩)
  · -- x makes a block
    have hnsp : isStore p.op = false := by
      cases hs : isStore p.op with
      | false => rfl
      | true =>
        have := hsp.resolve_left (by rw [hs]; simp)
        rw [act_of_wants hwx] at this
        exact absurd this.2 (by simp)
    obtain ⟨L', q1, rfl⟩ := h2.sooner hclp (hrx hwx) (fun hw => hne hwx hw) hnsp
    refine ⟨L', q1, ?_⟩
    rcases h1 with ⟨h, _⟩ | ⟨k1, k2, k3, k4⟩ | ⟨_, h, _⟩
    · have := act_of_wants hwx
      cases hop : x.op <;> simp [hop, isCall, isAct] at h this <;> (rename_i cc; cases cc with | mk ce aa tt => cases ce <;> simp at h this)
    · rcases act_slot k3 hnsx k4 with ⟨hL, _, _⟩ | ⟨_, _, r, hr, hL, k⟩
      · exfalso
        have := congrArg (fun l : Heap => l[ix]?) hL
        rw [get_set ⟨_, hrx hwx⟩, if_pos rfl, hrx hwx] at this
        cases this
        simp [Slot.live] at hlx
      · have hrs : r = sx := by
          have := congrArg (fun l : Heap => l[ix]?) hL
          rw [get_set ⟨_, hrx hwx⟩, get_set ⟨_, hrx hwx⟩, if_pos rfl, if_pos rfl] at this
          cases this; rfl
        subst hrs
        exact .inr (.inl ⟨k1, k2, k3, k L'⟩)
    · rw [act_of_wants hwx] at h; cases h
  · -- x writes
    have hps := hsx.resolve_left (by rw [hsx']; simp)
    rcases h2 with ⟨h, _⟩ | ⟨_, h, _⟩ | ⟨q1, q2, q3, rfl⟩
    · rw [hps.1.2] at h; cases h
    · rw [hps.2] at h; cases h
    · exact ⟨L, .inr (.inr ⟨q1, q2, by rw [← ropD_shape hi hsh hps.1.1 q1]; exact q3, rfl⟩), h1⟩
inductive Foot where
  | none | still | rd (id : Nat) | wr (id : Nat)
def placeId : AV → Option Nat
  | .ref id _ => some id
  | .rref id _ _ => some id
  | _ => Option.none
def footOf (ρ : Operand → AV) : Op → Foot
  | .load _ a => match ρ a with
    | .vp .. => .still
    | b => match placeId b with | some id => .rd id | Option.none => .none
  | .store _ a _ => match placeId (ρ a) with | some id => .wr id | Option.none => .none
  | .convert _ _ a => match ρ a with | .rs _ => .none | _ => .still
  | _ => .none
def feetOK : Foot → Foot → Bool
  | .rd i, .wr j => i != j
  | .wr i, .rd j => i != j
  | .still, .wr _ => true
  | .wr _, .still => true
  | _, _ => false
theorem foot_wr {ρ : Operand → AV} {op : Op} {j : Nat} (h : footOf ρ op = .wr j) : ∃ t a y, op = .store t a y ∧ placeId (ρ a) = some j := by
  unfold footOf at h
  split at h
  · split at h
    · cases h
    · split at h <;> cases h
  · rename_i t a y
    split at h
    · rename_i id hid; cases h; exact ⟨t, a, y, rfl, hid⟩
    · cases h
  · split at h <;> cases h
  · cases h
theorem foot_rd {ρ : Operand → AV} {op : Op} {j : Nat} (h : footOf ρ op = .rd j) : ∃ t a, op = .load t a ∧ placeId (ρ a) = some j := by
  unfold footOf at h
  split at h
  · rename_i t a
    split at h
    · cases h
    · split at h
      · rename_i id hid; cases h; exact ⟨t, a, rfl, hid⟩
      · cases h
  · split at h <;> cases h
  · split at h <;> cases h
  · cases h
theorem foot_still {ρ : Operand → AV} {op : Op} (h : footOf ρ op = .still) : (∃ t a T x p, op = .load t a ∧ ρ a = .vp T x p) ∨ ∃ s d a, op = .convert s d a ∧ readsRow ρ op = none := by
  unfold footOf at h
  split at h
  · rename_i t a
    split at h
    · rename_i T x p hx; exact .inl ⟨t, a, T, x, p, rfl, hx⟩
    · split at h <;> cases h
  · split at h <;> cases h
  · rename_i s d a
    split at h
    · cases h
    · rename_i hne
      refine .inr ⟨_, _, _, rfl, ?_⟩
      show (match ρ a with | .rs i => some i | _ => none) = none
      cases hx : ρ a with
      | rs i => exact absurd hx (hne i)
      | _ => rfl
  · cases h
theorem store_at {ρ : Operand → AV} {L L' : Heap} {id j : Nat} {ty t : TypeId} {a y : Operand} {av : AV} (hj : placeId (ρ a) = some j) (hok : noOwn (ρ y) = true) (h : actV C ρ L id ty (.store t a y) = some (true, av, L')) : ∃ s, L' = L.set j s := by
  unfold actV at h
  simp only [isMake, cond_false] at h
  unfold act at h
  simp only at h
  unfold storeA at h
  have hm : markL L [ρ y] = L := markL_noOwn (by simpa using hok)
  simp only [Option.bind_eq_some_iff, hm] at h
  obtain ⟨τ, hτ, z, hz, h⟩ := h
  split at h
  · rename_i id' q he
    rw [he] at hj; cases hj
    split at h
    · simp only [Option.map_eq_some_iff, Prod.mk.injEq, true_and] at h
      obtain ⟨z, hz, rfl, rfl⟩ := h
      exact ⟨_, rfl⟩
    · cases h
  · rename_i id' i q he
    rw [he] at hj; cases hj
    split at h
    · simp only [Option.map_eq_some_iff, Prod.mk.injEq, true_and] at h
      obtain ⟨z, hz, rfl, rfl⟩ := h
      exact ⟨_, rfl⟩
    · cases h
  · cases h
theorem load_away {ρ : Operand → AV} {L : Heap} {i j : Nat} {t : TypeId} {a : Operand} {s : Slot} (hi : placeId (ρ a) = some i) (hne : i ≠ j) : ropD C ρ (L.set j s) (.load t a) = ropD C ρ L (.load t a) := by
  have e : (L.set j s)[i]? = L[i]? := by rw [List.getElem?_set_ne (Ne.symm hne)]
  refine ropD_eq ?_ ?_
  · unfold ropL
    simp only
    cases hx : ρ a <;> rw [hx] at hi <;> simp only [placeId] at hi <;> cases hi <;> simp only [e]
  unfold rop
  simp only
  unfold loadA
  cases hx : ρ a <;> rw [hx] at hi <;> simp only [placeId] at hi <;> cases hi <;> simp only [e]
theorem load_vp {ρ : Operand → AV} {L L' : Heap} {t : TypeId} {a : Operand} {T : ETy} {x : T.I} {p : List PStep} (h : ρ a = .vp T x p) : ropD C ρ L' (.load t a) = ropD C ρ L (.load t a) := by
  refine ropD_eq (by unfold ropL; simp only [h]) ?_
  unfold rop
  simp only
  unfold loadA
  rw [h]
theorem OpVal.still {o : Oper} {id : Nat} {ρ : Operand → AV} {L L' L2 : Heap} {av : AV} (hf : footOf ρ o.op = .still) (h : OpVal C o id ρ L av L') : L' = L ∧ OpVal C o id ρ L2 av L2 := by
  rcases foot_still hf with ⟨t, a, T, x, p, ho, hv⟩ | ⟨s, d, a, ho, hrr⟩
  · rcases h with ⟨h, _⟩ | ⟨_, h, _⟩ | ⟨h1, h2, h3, rfl⟩
    · rw [ho] at h; cases h
    · rw [ho] at h; cases h
    · refine ⟨rfl, .inr (.inr ⟨h1, h2, ?_, rfl⟩)⟩
      rw [ho] at h3 ⊢
      exact (load_vp hv).trans h3
  · rcases h with ⟨h, _⟩ | ⟨h1, h2, h3, h4⟩ | ⟨_, h, _⟩
    · rw [ho] at h; cases h
    · have hns : isStore o.op = false := by rw [ho]; rfl
      rcases act_slot h3 hns h4 with ⟨rfl, _, h⟩ | ⟨hw, _⟩
      · exact ⟨rfl, .inr (.inl ⟨h1, h2, h3, h L2 fun i hi => by rw [hrr] at hi; cases hi⟩)⟩
      · rw [ho] at hw; cases hw
    · rw [ho] at h; cases h
theorem OpVal.rd {o : Oper} {id i j : Nat} {ρ : Operand → AV} {L L' : Heap} {av : AV} {s : Slot} (hf : footOf ρ o.op = .rd i) (hne : i ≠ j) (h : OpVal C o id ρ L av L') : L' = L ∧ OpVal C o id ρ (L.set j s) av (L.set j s) := by
  obtain ⟨t, a, ho, hi⟩ := foot_rd hf
  rcases h with ⟨h, _⟩ | ⟨_, h, _⟩ | ⟨h1, h2, h3, rfl⟩
  · rw [ho] at h; cases h
  · rw [ho] at h; cases h
  · refine ⟨rfl, .inr (.inr ⟨h1, h2, ?_, rfl⟩)⟩
    rw [ho] at h3 ⊢
    rw [load_away hi hne]
    exact h3
theorem OpVal.rd' {o : Oper} {id i j : Nat} {ρ : Operand → AV} {L L' : Heap} {av : AV} {s : Slot} (hf : footOf ρ o.op = .rd i) (hne : i ≠ j) (h : OpVal C o id ρ (L.set j s) av L') : L' = L.set j s ∧ OpVal C o id ρ L av L := by
  obtain ⟨t, a, ho, hi⟩ := foot_rd hf
  rcases h with ⟨h, _⟩ | ⟨_, h, _⟩ | ⟨h1, h2, h3, rfl⟩
  · rw [ho] at h; cases h
  · rw [ho] at h; cases h
  · refine ⟨rfl, .inr (.inr ⟨h1, h2, ?_, rfl⟩)⟩
    rw [ho] at h3 ⊢
    rw [load_away hi hne] at h3
    exact h3
theorem OpVal.wr {o : Oper} {id j : Nat} {ρ : Operand → AV} {L L' : Heap} {av : AV} (hf : footOf ρ o.op = .wr j) (h : OpVal C o id ρ L av L') : ∃ s, L' = L.set j s := by
  obtain ⟨t, a, y, ho, hj⟩ := foot_wr hf
  rcases h with ⟨h, _⟩ | ⟨h1, h2, h3, h4⟩ | ⟨_, h, _⟩
  · rw [ho] at h; cases h
  · rw [ho] at h3 h4
    exact store_at hj h3 h4
  · rw [ho] at h; cases h
theorem OpVal.swapF {x p : Oper} {ix ip : Nat} {ρ : Operand → AV} {L L1 L2 : Heap} {ax ap : AV} {fx fp : Foot} (hx : footOf ρ x.op = fx) (hp : footOf ρ p.op = fp) (hok : feetOK fx fp = true)
    (h1 : OpVal C x ix ρ L ax L1) (h2 : OpVal C p ip ρ L1 ap L2) : ∃ L1', OpVal C p ip ρ L ap L1' ∧ OpVal C x ix ρ L1' ax L2 := by
  unfold feetOK at hok
  split at hok
  · rename_i i j
    have hne : i ≠ j := by simpa using hok
    obtain ⟨rfl, _⟩ := h1.rd (s := .gone) hx hne
    obtain ⟨s, rfl⟩ := h2.wr hp
    exact ⟨_, h2, (h1.rd hx hne).2⟩
  · rename_i i j
    have hne : i ≠ j := by simpa using hok
    obtain ⟨s, rfl⟩ := h1.wr hx
    obtain ⟨rfl, h3⟩ := h2.rd' hp (Ne.symm hne)
    exact ⟨L, h3, h1⟩
  · have e := (h1.still (L2 := L) hx).1
    rw [e] at h2
    exact ⟨L2, h2, (h1.still hx).2⟩
  · have e := (h2.still (L2 := L1) hp).1
    rw [e]
    exact ⟨L, (h2.still hp).2, h1⟩
  · cases hok
theorem foot_congr {ρ ρ' : Operand → AV} {op : Op} (h : ∀ x ∈ op.operands, ρ x = ρ' x) : footOf ρ op = footOf ρ' op := by
  unfold footOf
  split
  · rename_i t a
    rw [h a (by simp [Op.operands])]
  · rename_i t a y
    rw [h a (by simp [Op.operands])]
  · rename_i s d a
    rw [h a (by simp [Op.operands])]
  · rfl
theorem foot_env {ops : Array Oper} {o : Oper} {env : List AV} {d : Option Tmp} {a : AV} (hd : ∀ e, d = some e → e ∉ o.looksAt ops) : footOf (evA C (envPut env d a)) o.op = footOf (evA C env) o.op := by
  refine foot_congr fun x hx => evA_put fun e hde hxe => ?_
  subst hxe
  exact hd e hde (mem_looks hx)
theorem StepVal.swap {ops : Array Oper} {x p : Oper} {ix ip : Nat} {env : List AV} {L L1 L2 : Heap} {ax ap : AV} {fx fp : Foot} (hfx : footOf (evA C env) x.op = fx) (hfp : footOf (evA C (envPut env x.dst ax)) p.op = fp) (hc : (compat ops x p || (x.apart ops p && feetOK fx fp)) = true) (hcl : Closed env L)
    (hrx : wantsId x.op = true → L[ix]? = some .resv) (hrp : wantsId p.op = true → L[ip]? = some .resv) (hne : wantsId x.op = true → wantsId p.op = true → ix ≠ ip)
    (h1 : StepVal C ops x ix env L ax L1) (h2 : StepVal C ops p ip (envPut env x.dst ax) L1 ap L2) :
    ∃ L1', (footOf (evA C env) p.op = fp ∧ footOf (evA C (envPut env p.dst ap)) x.op = fx) ∧ StepVal C ops p ip env L ap L1' ∧ StepVal C ops x ix (envPut env p.dst ap) L1' ax L2 ∧ envPut (envPut env p.dst ap) x.dst ax = envPut (envPut env x.dst ax) p.dst ap := by
  have hap : x.apart ops p = true := by
    rw [Bool.or_eq_true, Bool.and_eq_true] at hc
    rcases hc with hc | hc
    · unfold compat at hc; simp only [Bool.and_eq_true] at hc; exact hc.1.1
    · exact hc.1
  obtain ⟨a1, a2, a3⟩ := Oper.apart_spec hap
  rw [StepVal.env a1] at h2
  rw [foot_env a1] at hfp
  have henv : envPut (envPut env p.dst ap) x.dst ax = envPut (envPut env x.dst ax) p.dst ap := by
    cases hx : x.dst with
    | none => rfl
    | some d => cases hp : p.dst with
      | none => rfl
      | some e => exact List.set_comm _ _ (fun h => a2 d hx (by rw [hp, h]))
  have key : ∃ L1', StepVal C ops p ip env L ap L1' ∧ StepVal C ops x ix env L1' ax L2 := by
    have hev : ∀ y, (evA C env y).ids (open1 L) = true := evA_ids hcl
    rcases h1 with ⟨wx, h1⟩ | ⟨wx, rfl, rfl⟩ <;> rcases h2 with ⟨wp, h2⟩ | ⟨wp, rfl, rfl⟩
    · rw [Bool.or_eq_true, Bool.and_eq_true] at hc
      rcases hc with hc | hc
      · obtain ⟨L1', q1, q2⟩ := OpVal.swap hc (fun y _ => hev y) (fun y _ => hev y) hrx hrp hne h1 h2
        exact ⟨L1', .inl ⟨wp, q1⟩, .inl ⟨wx, q2⟩⟩
      · obtain ⟨L1', q1, q2⟩ := OpVal.swapF hfx hfp hc.2 h1 h2
        exact ⟨L1', .inl ⟨wp, q1⟩, .inl ⟨wx, q2⟩⟩
    · exact ⟨L, .inr ⟨wp, rfl, rfl⟩, .inl ⟨wx, h1⟩⟩
    · exact ⟨L2, .inl ⟨wp, h2⟩, .inr ⟨wx, rfl, rfl⟩⟩
    · exact ⟨_, .inr ⟨wp, rfl, rfl⟩, .inr ⟨wx, rfl, rfl⟩⟩
  obtain ⟨L1', k1, k2⟩ := key
  exact ⟨L1', ⟨hfp, by rw [foot_env a3]; exact hfx⟩, k1, (StepVal.env a3).2 k2, henv⟩
end
end
section
set_option linter.unusedVariables false
set_option linter.unusedSimpArgs false
set_option maxHeartbeats 400000
structure It where
  i : Nat
  o : Oper
  id : Nat
  f : Foot
def edgeTo (ops : Array Oper) (j k : Nat) : Bool := match ops[k]? with
  | some o => o.after.toList.any fun e => Region.binds .any e && e.on == j
  | none => false
def isBar (ops : Array Oper) (p : Nat) : Bool :=
  ((List.range p).all fun j => (List.range (p + 1)).any fun k => decide (j < k) && edgeTo ops j k) &&
  ((List.range ops.size).all fun q => decide (q ≤ p) || (List.range q).any fun j => decide (p ≤ j) && edgeTo ops j q)
def isInl (spec : Spec) (ρ : Operand → AV) (op : Op) : Bool := match rawA ρ op with
  | some (g, _) => spec.isI g
  | none => false
def useBar (spec : Spec) (ops : Array Oper) (i : Nat) (ρ : Operand → AV) (op : Op) : Bool :=
  (bif isCall op then (!callOwnless ρ op || isInl spec ρ op) else isAct op && (!actOK ρ op || isMake op)) && isBar ops i
def RunD (C : Cfg) (ops : Array Oper) : List It → List AV → Heap → List AV → Heap → Prop
  | [], env, L, env', L' => env' = env ∧ L' = L
  | t :: rest, env, L, env', L' => (∃ av L1, footOf (evA C env) t.o.op = t.f ∧ StepVal C ops t.o t.id env L av L1 ∧ RunD C ops rest (envPut env t.o.dst av) L1 env' L') ∨
      (isBar ops t.i = true ∧ ∃ env1 L1, StepRel C ops t.o t.id env L env1 L1 ∧ RunD C ops rest env1 L1 env' L')
def items : List Oper → List Foot → Nat → Nat → List It
  | [], _, _, _ => []
  | o :: r, fs, i, id => ⟨i, o, id, fs.headD .none⟩ :: items r fs.tail (i + 1) (nextId o id)
def compat2 (ops : Array Oper) (x p : It) : Bool := compat ops x.o p.o || (x.o.apart ops p.o && feetOK x.f p.f)
def pairsOK (ops : Array Oper) (p : It) : List It → Bool
  | [] => true
  | x :: r => (p.o.after.toList.any (fun e => Region.binds .any e && e.on == x.i) || compat2 ops x p) && pairsOK ops p r
def drawOK (ops : Array Oper) : List It → List It → Bool
  | _, [] => true
  | before, p :: r => pairsOK ops p before && p.o.after.toList.all (fun e => !Region.binds .any e || decide (e.on < p.i)) && drawOK ops (before ++ [p]) r
def isBz (C : Cfg) (env : List AV) : Op → Bool
  | .store _ _ x => match evB C env x with | .bz _ _ _ => true | _ => false
  | _ => false
def evOpX {Ω : Type} (C : Cfg) (spec : Spec) (ops : Array Oper) (i : Nat) (o : Oper) (id : Nat) (env : List AV) (L : Heap) (k : List AV → Heap → Option Ω) : Option Ω :=
  bif useBar spec ops i (evA C env) o.op || (isBz C env o.op && isBar ops i) then evOp C spec o id env L k else evOpD C spec o id env L k
def evOpsD {Ω : Type} (C : Cfg) (spec : Spec) (ops : Array Oper) (id0 : Nat) : List Foot → List Oper → Nat → Nat → List AV → Heap → (List AV → Heap → Option Ω) → Option Ω
  | acc, [], _, _, env, L, k => bif drawOK ops [] (items ops.toList acc 0 id0) then k env L else none
  | acc, o :: rest, i, id, env, L, k =>
    match o.guard with
    | none => evOpX C spec ops i o id env L fun env' L' => evOpsD C spec ops id0 (acc ++ [footOf (evA C env) o.op]) rest (i + 1) (nextId o id) env' L' k
    | some (j, want) => match gTmp ops j with
      | none => none
      | some d => match env.getD d .dead with
        | .v .bool b => bif b then
            (bif want then evOpX C spec ops i o id (env.set d (.v .bool true)) L fun env' L' => evOpsD C spec ops id0 (acc ++ [footOf (evA C env) o.op]) rest (i + 1) (nextId o id) env' L' k
              else evOpsD C spec ops id0 (acc ++ [footOf (evA C env) o.op]) rest (i + 1) (nextId o id) (envPut (env.set d (.v .bool true)) o.dst und) L k)
          else
            (bif want then evOpsD C spec ops id0 (acc ++ [footOf (evA C env) o.op]) rest (i + 1) (nextId o id) (envPut (env.set d (.v .bool false)) o.dst und) L k
              else evOpX C spec ops i o id (env.set d (.v .bool false)) L fun env' L' => evOpsD C spec ops id0 (acc ++ [footOf (evA C env) o.op]) rest (i + 1) (nextId o id) env' L' k)
        | .cst (.tuple _) => evOpsD C spec ops id0 (acc ++ [footOf (evA C env) o.op]) rest (i + 1) (nextId o id) (envPut env o.dst und) L k
        | _ => none
def evRegion {Ω : Type} (C : Cfg) (spec : Spec) (ops : Array Oper) (draw : Bool) (env : List AV) (L : Heap) (k : List AV → Heap → Option Ω) : Option Ω :=
  bif draw then evOpsD C spec ops L.length [] ops.toList 0 L.length env (L ++ List.replicate (cntIds ops.toList) .resv) k
  else evOps C spec ops ops.toList L.length env (L ++ List.replicate (cntIds ops.toList) .resv) k
section
variable {Ω : Type} {C : Cfg} {B : Nat} {w0 : World} {S0 : Nat → Nat → Prop} {spec : Spec}
theorem evOpD_val (hS : SpecOK C spec) {o : Oper} {id : Nat} {env : List AV} {L : Heap} {k : List AV → Heap → Option Ω} {r : Ω} (h : evOpD C spec o id env L k = some r) : ∃ av L', OpVal C o id (evA C env) L av L' ∧ k (envPut env o.dst av) L' = some r := by
  unfold evOpD at h
  cases hc : isCall o.op with
  | true =>
    rw [hc] at h
    simp only [cond_true] at h
    split at h
    · rename_i g bs L1 hca
      obtain ⟨av, h1, h2⟩ := hS.con g bs _ r h
      cases hcond : (av.flat || callOwnless (evA C env) o.op) && noIds av with
      | true =>
        rw [hcond] at h1
        simp only [cond_true] at h1
        simp only [Bool.and_eq_true, Bool.or_eq_true] at hcond
        exact ⟨av, L, .inl ⟨hc, ⟨g, bs, by rw [hca]; rfl, h2⟩, hcond.1, hcond.2, rfl⟩, h1⟩
      | false => rw [hcond] at h1; cases h1
    · cases h
  | false =>
    rw [hc] at h
    simp only [cond_false] at h
    cases ha : isAct o.op with
    | true =>
      rw [ha] at h
      simp only [cond_true] at h
      cases hok : actOK (evA C env) o.op with
      | true =>
        rw [hok] at h
        simp only [cond_true] at h
        split at h
        · rename_i c av L' hact
          cases c with
          | true => exact ⟨av, L', .inr (.inl ⟨hc, ha, hok, hact⟩), h⟩
          | false => cases h
        · cases h
      | false => rw [hok] at h; cases h
    | false =>
      rw [ha] at h
      simp only [cond_false] at h
      split at h
      · rename_i c av hrop
        cases c with
        | true => exact ⟨av, L, .inr (.inr ⟨hc, ha, hrop, rfl⟩), h⟩
        | false => cases h
      · cases h
theorem ite_some' {p : Bool} {x : Option Ω} {r : Ω} (h : (bif p then x else none) = some r) : p = true ∧ x = some r := by
  cases p with
  | true => exact ⟨rfl, h⟩
  | false => cases h
theorem step_of_want {ops : Array Oper} {o : Oper} {id : Nat} {env env1 : List AV} {L L1 : Heap} (hw : wantB ops o env = some true) (h : OpRel C o id env L env1 L1) : StepRel C ops o id env L env1 L1 := by
  unfold StepRel
  unfold wantB at hw
  split at hw
  · rename_i hg; (try simp only [hg]); exact h
  · rename_i j want hg
    (try simp only [hg])
    split at hw
    · rename_i d hd
      split at hw
      · rename_i b hb
        simp only [Option.some.injEq, beq_iff_eq] at hw
        exact ⟨d, hd, .inl ⟨b, hb, by rw [if_pos hw]; exact h⟩⟩
      · cases hw
      · cases hw
    · cases hw
theorem evOpsD_run (hS : SpecOK C spec) {ops : Array Oper} {id0 : Nat} : ∀ {l : List Oper} {acc : List Foot} {i id : Nat} {env : List AV} {L : Heap} {k : List AV → Heap → Option Ω} {r : Ω}, evOpsD C spec ops id0 acc l i id env L k = some r →
    ∃ env' L' fl, RunD C ops (items l fl i id) env L env' L' ∧ fl.length = l.length ∧ drawOK ops [] (items ops.toList (acc ++ fl) 0 id0) = true ∧ k env' L' = some r
  | [], acc, i, id, env, L, k, r, h => by
    simp only [evOpsD] at h
    obtain ⟨h1, h2⟩ := ite_some' h
    exact ⟨env, L, [], ⟨rfl, rfl⟩, rfl, by rw [List.append_nil]; exact h1, h2⟩
  | o :: rest, acc, i, id, env, L, k, r, h => by
    simp only [evOpsD] at h
    have go : wantB ops o env = some true → evOpX C spec ops i o id env L (fun env' L' => evOpsD C spec ops id0 (acc ++ [footOf (evA C env) o.op]) rest (i + 1) (nextId o id) env' L' k) = some r →
        ∃ env' L' fl, RunD C ops (items (o :: rest) fl i id) env L env' L' ∧ fl.length = (o :: rest).length ∧ drawOK ops [] (items ops.toList (acc ++ fl) 0 id0) = true ∧ k env' L' = some r := by
      intro hw h
      unfold evOpX at h
      cases hu : useBar spec ops i (evA C env) o.op || (isBz C env o.op && isBar ops i) with
      | true =>
        rw [hu] at h
        simp only [cond_true] at h
        obtain ⟨env1, L1, h1, h2⟩ := evOp_rel hS h
        obtain ⟨env', L', fl, h3, h4, h5, h6⟩ := evOpsD_run hS h2
        have hb : isBar ops i = true := by
          unfold useBar at hu
          simp only [Bool.and_eq_true, Bool.or_eq_true] at hu
          exact hu.elim (·.2) (·.2)
        exact ⟨env', L', _ :: fl, .inr ⟨hb, env1, L1, step_of_want hw h1, h3⟩, by simp [h4], by simpa using h5, h6⟩
      | false =>
        rw [hu] at h
        simp only [cond_false] at h
        obtain ⟨av, L1, h1, h2⟩ := evOpD_val hS h
        obtain ⟨env', L', fl, h3, h4, h5, h6⟩ := evOpsD_run hS h2
        exact ⟨env', L', _ :: fl, .inl ⟨av, L1, rfl, .inl ⟨hw, h1⟩, h3⟩, by simp [h4], by simpa using h5, h6⟩
    have stay : wantB ops o env = some false → evOpsD C spec ops id0 (acc ++ [footOf (evA C env) o.op]) rest (i + 1) (nextId o id) (envPut env o.dst und) L k = some r →
        ∃ env' L' fl, RunD C ops (items (o :: rest) fl i id) env L env' L' ∧ fl.length = (o :: rest).length ∧ drawOK ops [] (items ops.toList (acc ++ fl) 0 id0) = true ∧ k env' L' = some r := by
      intro hw h
      obtain ⟨env', L', fl, h3, h4, h5, h6⟩ := evOpsD_run hS h
      exact ⟨env', L', _ :: fl, .inl ⟨und, L, rfl, .inr ⟨hw, rfl, rfl⟩, h3⟩, by simp [h4], by simpa using h5, h6⟩
    split at h
    · rename_i hg
      exact go (by unfold wantB; rw [hg]) h
    · rename_i j want hg
      cases hd : gTmp ops j with
      | none => rw [hd] at h; cases h
      | some d =>
        rw [hd] at h
        simp only at h
        split at h
        · rename_i b hb
          have hw : wantB ops o env = some (b == want) := by unfold wantB; rw [hg]; simp only [hd]; rw [hb]
          cases b with
          | true =>
            rw [set_getD hb (by simp)] at h
            simp only [cond_true] at h
            cases want with
            | true => exact go hw (by simpa using h)
            | false => exact stay hw (by simpa using h)
          | false =>
            rw [set_getD hb (by simp)] at h
            simp only [cond_false] at h
            cases want with
            | true => exact stay hw (by simpa using h)
            | false => exact go hw (by simpa using h)
        · rename_i c hb
          exact stay (by unfold wantB; rw [hg]; simp only [hd]; rw [hb]) h
        · cases h
theorem datA_ref {a : AV} {j : Nat} {q : List PStep} (h : datA a = .ref j q) : a = .ref j q := by
  unfold datA at h
  split at h
  · cases h
  · exact h
theorem ropL_lop {env : List AV} {L : Heap} {id : Nat} {op : Op} {c : Bool} {av : AV} (h : ropL C (evA C env) L op = some (c, av)) : lop C (evB C env) L id op = some (c, av, L) := by
  unfold ropL at h
  split at h
  · rename_i t p f
    split at h
    · rename_i j q hp
      have hp : evB C env p = .ref j q := datA_ref hp
      split at h
      · rename_i T x hs hj
        simp only [lop, hp, hj]
        obtain ⟨τ, h1, h2⟩ := Option.bind_eq_some_iff.1 h
        rw [h1, Option.bind_some]
        split at h2
        · rename_i hc
          rw [if_pos hc]
          obtain ⟨σ, h3, h4⟩ := Option.bind_eq_some_iff.1 h2
          rw [h3, Option.bind_some]
          split at h4
          · cases h4
          · rename_i hz
            rw [if_neg hz]; cases h4; rfl
        · cases h2
      · cases h
    · cases h
  · rename_i t p
    split at h
    · rename_i j q hp
      have hp : evB C env p = .ref j q := datA_ref hp
      split at h
      · rename_i T x hs hj
        simp only [lop, hp, hj]
        obtain ⟨d, h1, h2⟩ := Option.bind_eq_some_iff.1 h
        rw [h1, Option.bind_some]
        split at h2
        · rename_i hc
          rw [if_pos hc]
          cases hf : freeH hs (lowP T q) (widP T q) with
          | true => rw [hf] at h2; cases h2; rfl
          | false =>
            rw [hf] at h2
            rw [cond_false] at h2 ⊢
            split at h2
            · rename_i rid e hl hd
              simp only [hl, hd]
              cases h2; rfl
            · cases h2
        · cases h2
      · cases h
    · cases h
  · cases h
theorem OpVal.rel {o : Oper} {id : Nat} {env : List AV} {L L' : Heap} {av : AV} (h : OpVal C o id (evA C env) L av L') : OpRel C o id env L (envPut env o.dst av) L' := by
  rcases h with ⟨hc, ⟨g, bs, h1, h2⟩, h3, _, rfl⟩ | ⟨hc, ha, hok, h1⟩ | ⟨hc, ha, h1, rfl⟩
  · obtain ⟨⟨g', bs', L1⟩, hca, he⟩ := Option.map_eq_some_iff.1 h1
    simp only [Prod.mk.injEq] at he
    obtain ⟨rfl, rfl⟩ := he
    refine .inl ⟨hc, _, _, L1, av, hca, h2, rfl, ?_⟩
    rcases h3 with h3 | h3
    · rw [h3]; rfl
    · rw [callOwnless_L hca h3]; simp
  · unfold actV at h1
    cases hmk : isMake o.op with
    | true =>
      rw [hmk, cond_true] at h1
      obtain ⟨⟨b, v⟩, h2, h3⟩ := Option.map_eq_some_iff.1 h1
      simp only [Prod.mk.injEq] at h3
      obtain ⟨rfl, rfl, rfl⟩ := h3
      exact .inr (.inr (.inr (.inr (.inr ⟨hc, _, h2, rfl, rfl⟩))))
    | false =>
      rw [hmk, cond_false] at h1
      refine .inr (.inl ⟨hc, ha, appOK_not (actOK_notAppend hok), av, h1, ?_⟩)
      rw [actOK_notAppend hok]; rfl
  · rcases ropD_or h1 with h1 | ⟨_, h1⟩
    · exact .inr (.inr (.inr (.inr (.inl ⟨hc, av, ropL_lop h1, rfl⟩))))
    · exact .inr (.inr (.inl ⟨hc, ha, av, h1, rfl, rfl⟩))
theorem StepVal.rel {ops : Array Oper} {o : Oper} {id : Nat} {env : List AV} {L L' : Heap} {av : AV} (h : StepVal C ops o id env L av L') : StepRel C ops o id env L (envPut env o.dst av) L' := by
  unfold StepRel
  rcases h with ⟨hw, h⟩ | ⟨hw, rfl, rfl⟩
  · unfold wantB at hw
    split at hw
    · rename_i hg; (try simp only [hg]); exact h.rel
    · rename_i j want hg
      (try simp only [hg])
      split at hw
      · rename_i d hd
        split at hw
        · rename_i b hb
          simp only [Option.some.injEq, beq_iff_eq] at hw
          exact ⟨d, hd, .inl ⟨b, hb, by rw [if_pos hw]; exact h.rel⟩⟩
        · cases hw
        · cases hw
      · cases hw
  · unfold wantB at hw
    split at hw
    · cases hw
    · rename_i j want hg
      (try simp only [hg])
      split at hw
      · rename_i d hd
        split at hw
        · rename_i b hb
          simp only [Option.some.injEq, beq_eq_false_iff_ne, ne_eq] at hw
          exact ⟨d, hd, .inl ⟨b, hb, by rw [if_neg hw]; first | exact ⟨rfl, rfl⟩ | simp⟩⟩
        · rename_i c hb
          exact ⟨d, hd, .inr ⟨⟨c, hb⟩, by simp⟩⟩
        · cases hw
      · cases hw
theorem open1_set {L : Heap} {id : Nat} {s : Slot} (hl : s.live = true) (hx : ∃ r, L[id]? = some r) : ∀ b i, open1 L b i = true → open1 (L.set id s) b i = true := by
  intro b i h
  unfold open1 at h ⊢
  rw [get_set hx]
  by_cases e : i = id
  · rw [if_pos e]
    cases s <;> first | rfl | (simp [Slot.live] at hl)
  · rw [if_neg e]; exact h
theorem Closed.put {env : List AV} {L : Heap} {d : Option Tmp} {a : AV} (h : Closed env L) (ha : a.ids (open1 L) = true) : Closed (envPut env d a) L := by
  refine ⟨fun t => ?_, h.lk⟩
  cases d with
  | none => exact h.av t
  | some e =>
    simp only [envPut, List.getD_eq_getElem?_getD]
    by_cases he : t = e
    · subst he
      rcases Nat.lt_or_ge t env.length with hlt | hge
      · rw [List.getElem?_set_self hlt]; exact ha
      · rw [List.getElem?_eq_none (by simpa using hge)]; simp only [Option.getD_none, AV.ids]
    · rw [List.getElem?_set_ne (Ne.symm he), ← List.getD_eq_getElem?_getD]; exact h.av t
theorem ropL_ids {env : List AV} {L : Heap} {op : Op} {c : Bool} {av : AV} (hcl : Closed env L) (h : ropL C (evA C env) L op = some (c, av)) : av.ids (open1 L) = true := by
  unfold ropL at h
  split at h
  · rename_i t p f
    split at h
    · rename_i j q hp
      have hi : (AV.ref j q).ids (open1 L) = true := by rw [← hp]; exact evA_ids hcl p
      split at h
      · obtain ⟨τ, h1, h2⟩ := Option.bind_eq_some_iff.1 h
        split at h2
        · obtain ⟨σ, h3, h4⟩ := Option.bind_eq_some_iff.1 h2
          split at h4 <;> cases h4
          simp only [AV.ids] at hi ⊢; exact hi
        · cases h2
      · cases h
    · cases h
  · rename_i t p
    split at h
    · rename_i j q hp
      split at h
      · rename_i T x hs hj
        obtain ⟨d, h1, h2⟩ := Option.bind_eq_some_iff.1 h
        split at h2
        · cases hf : freeH hs (lowP T q) (widP T q) with
          | true => rw [hf] at h2; cases h2; simp only [AV.ids]
          | false =>
            rw [hf, cond_false] at h2
            split at h2
            · rename_i rid e hl hd
              cases h2
              simp only [AV.ids]
              exact hcl.lk j T x hs hj _ rid hl
            · cases h2
        · cases h2
      · cases h
    · cases h
  · cases h
theorem StepVal.closed {ops : Array Oper} {o : Oper} {id : Nat} {env : List AV} {L L' : Heap} {av : AV} (h : StepVal C ops o id env L av L') (hcl : Closed env L) (hid : wantsId o.op = true → L[id]? = some .resv) : Closed (envPut env o.dst av) L' := by
  have mono : ∀ {L' : Heap}, (∀ b i, open1 L b i = true → open1 L' b i = true) → (∀ (j : Nat) (T : ETy) (x : T.I) (hs : List (Nat × Option Nat)), L'[j]? = some (.lbx T x hs) → L[j]? = some (.lbx T x hs)) → av.ids (open1 L') = true → Closed (envPut env o.dst av) L' := fun hm hold ha => Closed.put ⟨fun t => ids_mono hm (hcl.av t), fun j T x hs hj o rid hr => hm _ _ (hcl.lk j T x hs (hold j T x hs hj) o rid hr)⟩ ha
  rcases h with ⟨_, h⟩ | ⟨_, rfl, rfl⟩
  · rcases h with ⟨_, _, _, h4, rfl⟩ | ⟨h1, h2, h3, h4⟩ | ⟨_, _, h3, rfl⟩
    · exact mono (fun _ _ h => h) (fun _ _ _ _ h => h) (ids_mono (fun _ _ h => by cases h) h4)
    · cases hs : isStore o.op with
      | true =>
        obtain ⟨rfl, i, s0, s1, q1, q2, q3, rfl⟩ := store_slot h3 hs h4
        refine mono (open1_set q3 ⟨_, q1⟩) (fun j T x hs hj => ?_) (by simp only [AV.ids])
        rw [get_set ⟨_, q1⟩] at hj
        split at hj
        · cases hj
          cases s0 with
          | box T x ro => obtain ⟨y, ro', h⟩ := q2; cases h
          | row t e xs ro => obtain ⟨y, ro', h, _⟩ := q2; cases h
          | obj o => cases q2
          | lbx T x q => cases q2
          | gone => cases q2
          | resv => cases q2
        · exact hj
      | false =>
        rcases act_slot h3 hs h4 with ⟨rfl, hids, _⟩ | ⟨hw, hav, s, hl, rfl, _⟩
        · exact mono (fun _ _ h => h) (fun _ _ _ _ h => h) (hids _)
        · refine mono (open1_set (plain_live hl) ⟨_, hid hw⟩) (fun j T x hs hj => ?_) ?_
          · rw [get_set ⟨_, hid hw⟩] at hj
            split at hj
            · cases hj; simp [Slot.plain] at hl
            · exact hj
          have : ∀ b, open1 (L.set id s) b id = true := by
            intro b
            unfold open1
            rw [get_set ⟨_, hid hw⟩, if_pos rfl]
            cases s <;> first | rfl | (simp [Slot.plain] at hl)
          rcases hav with rfl | rfl <;> simp only [AV.ids] <;> exact this _
    · refine mono (fun _ _ h => h) (fun _ _ _ _ h => h) ?_
      rcases ropD_or h3 with h3 | ⟨_, h3⟩
      · exact ropL_ids hcl h3
      · exact rop_ids (fun x _ => evA_ids hcl x) h3 (fun i => Iff.rfl)
  · exact Closed.put hcl (by simp only [und, AV.ids])
theorem RepE.closed {m : Nat → Value} {L : Heap} {w : World} {S : Nat → Nat → Prop} {env : List AV} {tmps : Array Value} (hI : Inv B m L w S) (h : RepE m L w S env tmps) : Closed env L := by
  have key : ∀ (a : AV), ∀ u, RepA m L w S a u → a.ids (open1 L) = true := by
    intro a
    refine AV.rec (motive_1 := fun a => ∀ u, RepA m L w S a u → a.ids (open1 L) = true) (motive_2 := fun l => ∀ us, RepAs m L w S l us → AV.idsL (open1 L) l = true) ?_ ?_ ?_ ?_ ?_ ?_ ?_ ?_ ?_ ?_ ?_ ?_ ?_ ?_ ?_ ?_ a
    · intro τ x u _; simp only [AV.ids]
    · intro c u _; simp only [AV.ids]
    · intro T x p u _; simp only [AV.ids]
    · intro id p u h; simp only [RepA] at h; obtain ⟨s, h1, h2, _⟩ := h; simp only [AV.ids, open1, h1]; cases s <;> first | rfl | exact absurd rfl h2
    · intro id i p u h; simp only [RepA] at h; obtain ⟨s, h1, h2, _⟩ := h; simp only [AV.ids, open1, h1]; cases s <;> first | rfl | exact absurd rfl h2
    · intro id p lo n u h; simp only [RepA] at h; obtain ⟨s, h1, h2, _⟩ := h; simp only [AV.ids, open1, h1]; cases s <;> first | rfl | exact absurd rfl h2
    · intro id u h; simp only [RepA] at h; obtain ⟨s, h1, h2, _⟩ := h; simp only [AV.ids, open1, h1]; cases s <;> first | rfl | exact absurd rfl h2
    · intro id lo n u h; simp only [RepA] at h; obtain ⟨s, h1, h2, _⟩ := h; simp only [AV.ids, open1, h1]; cases s <;> first | rfl | exact absurd rfl h2
    · intro f caps ih u h; simp only [RepA] at h; obtain ⟨vs, _, h⟩ := h; simp only [AV.ids]; exact ih vs h
    · intro f caps ih u h; simp only [RepA] at h; obtain ⟨vs, _, h⟩ := h; simp only [AV.ids]; exact ih vs h
    · intro l ih u h; simp only [RepA] at h; obtain ⟨vs, _, h⟩ := h; simp only [AV.ids]; exact ih vs h
    · intro T x hs u h
      simp only [RepA] at h
      obtain ⟨_, cs, ds, _, _, _, _, _, h6⟩ := h
      simp only [AV.ids, List.all_eq_true]
      rintro ⟨o, _ | j⟩ hp
      · rfl
      · obtain ⟨v, _, s, h1, h2, _⟩ := h6 o j hp
        simp only [open1, h1]
        cases s <;> first | rfl | exact absurd rfl h2
    · intro T x os u _; simp only [AV.ids]
    · intro u _; simp only [AV.ids]
    · intro us _; simp only [AV.idsL]
    · intro a l ih1 ih2 us h
      simp only [RepAs] at h
      obtain ⟨u, r, _, h1, h2⟩ := h
      simp only [AV.idsL, ih1 u h1, ih2 r h2, Bool.and_self]
  refine ⟨fun t => key _ _ (h.at_ t), fun j T x hs hj o rid hr => ?_⟩
  obtain ⟨_, _, _, _, _, _, _, _, _, _, _, _, _, h8⟩ := hI.lbx j T x hs hj
  obtain ⟨u, _, s, h1, h2, _⟩ := h8 o rid hr
  simp only [open1, h1]
  cases s <;> first | rfl | exact absurd rfl h2
def Rsv (L : Heap) (l : List It) : Prop := (∀ t ∈ l, wantsId t.o.op = true → L[t.id]? = some .resv) ∧ l.Pairwise fun s t => wantsId s.o.op = true → wantsId t.o.op = true → s.id ≠ t.id
theorem moveFront {ops : Array Oper} {p : It} {post : List It} (hp : isBar ops p.i = false) : ∀ {pre : List It} {env env' : List AV} {L L' : Heap}, (∀ x ∈ pre, compat2 ops x p = true) → (∀ x ∈ pre, isBar ops x.i = false) → Closed env L → Rsv L (pre ++ p :: post) → RunD C ops (pre ++ p :: post) env L env' L' → RunD C ops (p :: (pre ++ post)) env L env' L'
  | [], env, env', L, L', _, _, _, _, h => h
  | x :: pre, env, env', L, L', hc, hb, hcl, hr, h => by
    rcases h with ⟨ax, L1, hfx, h1, h2⟩ | ⟨hbx, _⟩
    · obtain ⟨hr1, hr2⟩ := hr
      rw [List.cons_append, List.pairwise_cons] at hr2
      have hxid := hr1 x (by simp)
      have hr' : Rsv L1 (pre ++ p :: post) := by
        refine ⟨fun t ht hw => ?_, hr2.2⟩
        exact h1.rel.keeps (fun hwx => Ne.symm (hr2.1 t ht hwx hw)) (hr1 t (List.mem_cons_of_mem _ ht) hw)
      rcases moveFront hp (fun y hy => hc y (List.mem_cons_of_mem _ hy)) (fun y hy => hb y (List.mem_cons_of_mem _ hy)) (h1.closed hcl hxid) hr' h2 with ⟨ap, L2, hfp, h3, h4⟩ | ⟨hbp, _⟩
      · obtain ⟨L1', ⟨g1, g2⟩, q1, q2, q3⟩ := StepVal.swap hfx hfp (hc x (by simp)) hcl hxid (hr1 p (by simp)) (fun hw hwp => hr2.1 p (by simp) hw hwp) h1 h3
        exact .inl ⟨ap, L1', g1, q1, .inl ⟨ax, L2, g2, q2, by rw [q3]; exact h4⟩⟩
      · rw [hp] at hbp; cases hbp
    · rw [hb x (by simp)] at hbx; cases hbx
end
end
section
set_option linter.unusedVariables false
set_option linter.unusedSimpArgs false
set_option maxHeartbeats 400000
section
variable {Ω : Type} {C : Cfg} {B : Nat} {w0 : World} {S0 : Nat → Nat → Prop} {ms : Nat → Value} {Ls : Heap} {spec : Spec}
theorem pairs_at {ops : Array Oper} {p : It} : ∀ {l : List It}, pairsOK ops p l = true → ∀ x ∈ l, (∃ e ∈ p.o.after, Region.binds .any e = true ∧ e.on = x.i) ∨ compat2 ops x p = true
  | [], h, x, hx => by cases hx
  | y :: l, h, x, hx => by
    simp only [pairsOK, Bool.and_eq_true, Bool.or_eq_true] at h
    rcases List.mem_cons.1 hx with rfl | hx
    · rcases h.1 with h | h
      · obtain ⟨e, he, h⟩ := List.any_eq_true.1 h
        simp only [Bool.and_eq_true, beq_iff_eq] at h
        exact .inl ⟨e, Array.mem_toList_iff.1 he, h.1, h.2⟩
      · exact .inr h
    · exact pairs_at h.2 x hx
theorem draw_at {ops : Array Oper} : ∀ {r before : List It}, drawOK ops before r = true → ∀ (k : Nat) (p : It), r[k]? = some p → pairsOK ops p (before ++ r.take k) = true ∧ ∀ e ∈ p.o.after, Region.binds .any e = true → e.on < p.i
  | [], before, _, k, p, h => by simp at h
  | q :: r, before, h, 0, p, hp => by
    simp only [drawOK, Bool.and_eq_true, List.all_eq_true, Bool.or_eq_true, Bool.not_eq_true', decide_eq_true_eq] at h
    simp at hp; subst hp
    refine ⟨by simpa using h.1.1, fun e he hb => ?_⟩
    have := h.1.2 e (Array.mem_toList_iff.2 he)
    rcases this with h | h
    · rw [hb] at h; cases h
    · exact h
  | q :: r, before, h, k + 1, p, hp => by
    simp only [drawOK, Bool.and_eq_true] at h
    obtain ⟨h1, h2⟩ := draw_at h.2 k p (by simpa using hp)
    exact ⟨by simpa using h1, h2⟩
theorem items_at : ∀ {l : List Oper} {fs : List Foot} {i id : Nat} {t : It}, t ∈ items l fs i id → i ≤ t.i ∧ l[t.i - i]? = some t.o ∧ id ≤ t.id ∧ (wantsId t.o.op = true → t.id < id + cntIds l)
  | [], fs, i, id, t, h => by simp [items] at h
  | o :: l, fs, i, id, t, h => by
    simp only [items, List.mem_cons] at h
    rcases h with rfl | h
    · refine ⟨Nat.le_refl _, by simp, Nat.le_refl _, fun hw => ?_⟩
      simp only [cntIds, hw, cond_true]; omega
    · obtain ⟨h1, h2, h3, h4⟩ := items_at h
      have hn : id ≤ nextId o id := by unfold nextId; cases wantsId o.op <;> simp
      refine ⟨by omega, ?_, by omega, fun hw => ?_⟩
      · rw [show t.i - i = (t.i - (i + 1)) + 1 by omega]; simpa using h2
      · have := h4 hw
        simp only [cntIds]
        unfold nextId at this
        cases hwo : wantsId o.op <;> simp only [hwo, cond_true, cond_false] at this ⊢ <;> omega
theorem items_sorted : ∀ (l : List Oper) (fs : List Foot) (i id : Nat), (items l fs i id).Pairwise fun s t => s.i < t.i ∧ (wantsId s.o.op = true → wantsId t.o.op = true → s.id ≠ t.id)
  | [], _, _, _ => by simp [items]
  | o :: l, fs, i, id => by
    rw [items, List.pairwise_cons]
    refine ⟨fun t ht => ?_, items_sorted l _ _ _⟩
    obtain ⟨h1, _, h3, _⟩ := items_at ht
    refine ⟨by simp only; omega, fun hw _ => ?_⟩
    simp only at hw ⊢
    unfold nextId at h3
    rw [hw] at h3
    simp only [cond_true] at h3
    omega
theorem items_all : ∀ (l : List Oper) (fs : List Foot) (i id k : Nat), k < l.length → ∃ t, (items l fs i id)[k]? = some t ∧ t.i = i + k
  | [], _, _, _, k, h => by simp at h
  | o :: l, fs, i, id, 0, _ => ⟨⟨i, o, id, fs.headD .none⟩, by simp [items], rfl⟩
  | o :: l, fs, i, id, k + 1, h => by
    obtain ⟨t, h1, h2⟩ := items_all l fs.tail (i + 1) (nextId o id) k (by simpa using h)
    exact ⟨t, by simpa [items] using h1, by omega⟩
theorem items_len : ∀ (l : List Oper) (fs : List Foot) (i id : Nat), (items l fs i id).length = l.length
  | [], _, _, _ => rfl
  | o :: l, fs, i, id => by simp [items, items_len l]
theorem items_ix {l : List Oper} {fs : List Foot} {id : Nat} {t : It} (h : t ∈ items l fs 0 id) : (items l fs 0 id)[t.i]? = some t := by
  obtain ⟨k, hk, e⟩ := List.getElem_of_mem h
  obtain ⟨s, h1, h2⟩ := items_all l fs 0 id k (by rw [items_len] at hk; exact hk)
  rw [List.getElem?_eq_getElem hk] at h1
  cases h1
  rw [e] at h2
  rw [h2, Nat.zero_add, List.getElem?_eq_getElem hk, e]
theorem edge_spec {ops : Array Oper} {j k : Nat} (h : edgeTo ops j k = true) : ∃ o, ops[k]? = some o ∧ ∃ e ∈ o.after, Region.binds .any e = true ∧ e.on = j := by
  unfold edgeTo at h
  split at h
  · rename_i o ho
    obtain ⟨e, he, h⟩ := List.any_eq_true.1 h
    simp only [Bool.and_eq_true, beq_iff_eq] at h
    exact ⟨o, ho, e, Array.mem_toList_iff.1 he, h.1, h.2⟩
  · cases h
theorem bar_ahead {ops : Array Oper} {p j : Nat} (h : isBar ops p = true) (hj : j < p) : ∃ k, j < k ∧ k ≤ p ∧ edgeTo ops j k = true := by
  unfold isBar at h
  simp only [Bool.and_eq_true, List.all_eq_true, List.any_eq_true, List.mem_range, decide_eq_true_eq] at h
  obtain ⟨k, hk, h1, h2⟩ := h.1 j hj
  exact ⟨k, h1, by omega, h2⟩
theorem bar_behind {ops : Array Oper} {p q : Nat} (h : isBar ops p = true) (hq : p < q) (hs : q < ops.size) : ∃ j, p ≤ j ∧ j < q ∧ edgeTo ops j q = true := by
  unfold isBar at h
  simp only [Bool.and_eq_true, List.all_eq_true, List.any_eq_true, List.mem_range, decide_eq_true_eq, Bool.or_eq_true] at h
  rcases h.2 q hs with h1 | ⟨j, hj, h1, h2⟩
  · omega
  · exact ⟨j, h1, hj, h2⟩
def Left (ops : Array Oper) (rem : List It) : Prop := ∀ x ∈ rem, ∀ k, k < ops.size → edgeTo ops x.i k = true → ∃ t ∈ rem, t.i = k
theorem left_all {ops : Array Oper} (fs : List Foot) (id : Nat) : Left ops (items ops.toList fs 0 id) := fun x hx k hk _ => by
  obtain ⟨t, ht, e⟩ := items_all ops.toList fs 0 id k (by simpa using hk)
  exact ⟨t, List.mem_of_getElem? ht, by omega⟩
theorem run_wpAny (hC : C.OK) {ops : Array Oper} {id0 : Nat} {fs : List Foot} (hd : drawOK ops [] (items ops.toList fs 0 id0) = true) {env' : List AV} {L' : Heap} {Q : Exit → Act → World → Prop} (hQ : ∀ a' w', St C B w0 S0 ms Ls env' L' a' w' → Q .normal a' w') : ∀ (n : Nat) (rem : List It) (listed : Array Bool) {env : List AV} {L : Heap} {a : Act} {w : World},
    rem.length = n → (∀ t ∈ rem, t ∈ items ops.toList fs 0 id0) → (rem.Pairwise fun s t => s.i < t.i) → listed.size = ops.size → (∀ i, i < ops.size → (listed.getD i true = false ↔ ∃ t ∈ rem, t.i = i)) →
    Left ops rem → RunD C ops rem env L env' L' → Rsv L rem → St C B w0 S0 ms Ls env L a w → wpAny C.P .any ops Q n listed a w := by
  intro n
  have hat : ∀ {t : It}, t ∈ items ops.toList fs 0 id0 → ops[t.i]? = some t.o ∧ t.i < ops.size := by
    intro t ht
    obtain ⟨_, h, _⟩ := items_at ht
    simp only [Nat.sub_zero, Array.getElem?_toList] at h
    exact ⟨h, (Array.getElem?_eq_some_iff.1 h).1⟩
  have hempty : ∀ (rem : List It) (listed : Array Bool), (∀ t ∈ rem, t ∈ items ops.toList fs 0 id0) → (rem.Pairwise fun s t => s.i < t.i) → listed.size = ops.size → (∀ i, i < ops.size → (listed.getD i true = false ↔ ∃ t ∈ rem, t.i = i)) → Region.ready .any ops listed = [] → rem = [] := by
    intro rem listed hin hs hsz hl hr
    cases rem with
    | nil => rfl
    | cons t r =>
      exfalso
      obtain ⟨ho, hlt⟩ := hat (hin t (by simp))
      have hmem : t.i ∈ Region.ready .any ops listed := by
        rw [mem_ready]
        refine ⟨(hl t.i hlt).2 ⟨t, by simp, rfl⟩, t.o, ho, fun e he hb => ?_⟩
        have hlt2 := (draw_at hd t.i t (items_ix (hin t (by simp)))).2 e he hb
        have helt : e.on < ops.size := by omega
        cases hle : listed.getD e.on true with
        | false =>
          obtain ⟨t', ht', hti⟩ := (hl e.on helt).1 hle
          rcases List.mem_cons.1 ht' with rfl | ht'
          · omega
          · have := (List.pairwise_cons.1 hs).1 t' ht'
            omega
        | true =>
          have : e.on < listed.size := by omega
          simp only [Array.getD, this, dif_pos] at hle ⊢
          exact hle
      rw [hr] at hmem
      cases hmem
  induction n with
  | zero =>
    intro rem listed env L a w hn hin hs hsz hl hleft hrun hrs hst
    obtain rfl : rem = [] := List.eq_nil_of_length_eq_zero hn
    obtain ⟨rfl, rfl⟩ := hrun
    refine ⟨?_, hQ a w hst⟩
    cases hr : Region.ready .any ops listed with
    | nil => rfl
    | cons i l =>
      have hi : i ∈ Region.ready .any ops listed := by rw [hr]; simp
      rw [mem_ready] at hi
      obtain ⟨h1, o, h2, _⟩ := hi
      obtain ⟨t, ht, _⟩ := (hl i (Array.getElem?_eq_some_iff.1 h2).1).1 h1
      cases ht
  | succ n ih =>
    intro rem listed env L a w hn hin hs hsz hl hleft hrun hrs hst
    refine ⟨fun hr => ?_, fun i hi => ?_⟩
    · obtain rfl := hempty rem listed hin hs hsz hl hr
      simp at hn
    · rw [mem_ready] at hi
      obtain ⟨h1, o, h2, h3⟩ := hi
      have hlt := (Array.getElem?_eq_some_iff.1 h2).1
      obtain ⟨t, ht, rfl⟩ := (hl i hlt).1 h1
      have hto := (hat (hin t ht)).1
      rw [h2] at hto; cases hto
      obtain ⟨pre, post, rfl⟩ := List.append_of_mem ht
      have hcomp : ∀ x ∈ pre, compat2 ops x t = true := by
        intro x hx
        have hxi := hin x (by simp [hx])
        obtain ⟨hxo, hxlt⟩ := hat hxi
        have hlt2 : x.i < t.i := by
          rw [List.pairwise_append] at hs
          exact hs.2.2 x hx t (by simp)
        have hp := (draw_at hd t.i t (items_ix (hin t (by simp)))).1
        rw [List.nil_append] at hp
        have hxl : x ∈ (items ops.toList fs 0 id0).take t.i := by
          refine List.mem_of_getElem? (i := x.i) ?_
          rw [List.getElem?_take, if_pos hlt2]
          exact items_ix hxi
        rcases pairs_at hp x hxl with ⟨e, he, hb, hon⟩ | h
        · exfalso
          have hl1 := h3 e he hb
          have hl2 := (hl x.i hxlt).2 ⟨x, by simp [hx], rfl⟩
          rw [hon] at hl1
          have : x.i < listed.size := by omega
          simp only [Array.getD, this, dif_pos] at hl1 hl2
          rw [hl1] at hl2; cases hl2
        · exact h
      obtain ⟨m, S, hI, hE, hst2⟩ := hst
      have hcl := RepE.closed hI hE
      have hst : St C B w0 S0 ms Ls env L a w := ⟨m, S, hI, hE, hst2⟩
      have hnoe : ∀ x ∈ pre ++ t :: post, edgeTo ops x.i t.i = true → False := by
        intro x hx he
        obtain ⟨o', ho', e, he1, he2, he3⟩ := edge_spec he
        rw [h2] at ho'; cases ho'
        have hl1 := h3 e he1 he2
        have hxlt := (hat (hin x hx)).2
        have hl2 := (hl x.i hxlt).2 ⟨x, hx, rfl⟩
        rw [he3] at hl1
        have : x.i < listed.size := by omega
        simp only [Array.getD, this, dif_pos] at hl1 hl2
        rw [hl1] at hl2; cases hl2
      have hone : ∃ env1 L1, StepRel C ops t.o t.id env L env1 L1 ∧ RunD C ops (pre ++ post) env1 L1 env' L' := by
        cases hpre : pre with
        | nil =>
          rw [hpre] at hrun
          rcases hrun with ⟨av, L1, _, q1, q2⟩ | ⟨_, env1, L1, q1, q2⟩
          · exact ⟨_, L1, q1.rel, q2⟩
          · exact ⟨env1, L1, q1, q2⟩
        | cons y0 pre0 =>
          rw [← hpre]
          have hy0 : y0 ∈ pre := by rw [hpre]; simp
          have hlt0 : ∀ x ∈ pre, x.i < t.i := by
            intro x hx
            rw [List.pairwise_append] at hs
            exact hs.2.2 x hx t (by simp)
          have hbt : isBar ops t.i = false := by
            cases hb : isBar ops t.i with
            | false => rfl
            | true =>
              exfalso
              have key : ∀ n, ∀ x ∈ pre ++ t :: post, x.i < t.i → t.i - x.i ≤ n → False := by
                intro n
                induction n with
                | zero => intro x hx h1 h2; omega
                | succ n ihn =>
                  intro x hx h1 h2'
                  obtain ⟨k, k1, k2, k3⟩ := bar_ahead hb h1
                  rcases Nat.lt_or_ge k t.i with hk | hk
                  · obtain ⟨z, hz, rfl⟩ := hleft x hx k (by omega) k3
                    exact ihn z hz hk (by omega)
                  · obtain rfl : k = t.i := by omega
                    exact hnoe x hx k3
              exact key _ y0 (by simp [hy0]) (hlt0 y0 hy0) (Nat.le_refl _)
          have hbp : ∀ x ∈ pre, isBar ops x.i = false := by
            intro x hx
            cases hb : isBar ops x.i with
            | false => rfl
            | true =>
              exfalso
              have key : ∀ n q, q ≤ n → x.i ≤ q → q < ops.size → ∃ z ∈ pre ++ t :: post, z.i = q := by
                intro n
                induction n with
                | zero =>
                  intro q h1 h2' h3'
                  exact ⟨x, by simp [hx], by omega⟩
                | succ n ihn =>
                  intro q h1 h2' h3'
                  rcases Nat.lt_or_ge x.i q with hq | hq
                  · obtain ⟨j, j1, j2, j3⟩ := bar_behind hb hq h3'
                    obtain ⟨z, hz, rfl⟩ := ihn j (by omega) j1 (by omega)
                    exact hleft z hz q h3' j3
                  · exact ⟨x, by simp [hx], by omega⟩
              obtain ⟨j, j1, j2, j3⟩ := bar_behind hb (hlt0 x hx) hlt
              obtain ⟨z, hz, rfl⟩ := key j j (Nat.le_refl _) j1 (by omega)
              exact hnoe z hz j3
          rcases moveFront hbt hcomp hbp hcl hrs hrun with ⟨av, L1, _, q1, q2⟩ | ⟨hb, _⟩
          · exact ⟨_, L1, q1.rel, q2⟩
          · rw [hbt] at hb; cases hb
      obtain ⟨env1, L1, q1, q2⟩ := hone
      have hrs2 : Rsv L1 (pre ++ post) := by
        obtain ⟨r1, r2⟩ := hrs
        have r2' : (t :: (pre ++ post)).Pairwise fun s t => wantsId s.o.op = true → wantsId t.o.op = true → s.id ≠ t.id := by
          have hperm : (pre ++ t :: post).Perm (t :: (pre ++ post)) := List.perm_middle
          exact (hperm.pairwise_iff (fun h hw1 hw2 => Ne.symm (h hw2 hw1))).1 r2
        rw [List.pairwise_cons] at r2'
        refine ⟨fun s hs' hw => ?_, r2'.2⟩
        exact q1.keeps (fun hwt => Ne.symm (r2'.1 s hs' hwt hw)) (r1 s (by rcases List.mem_append.1 hs' with h | h <;> simp [h]) hw)
      have hsub : (pre ++ post).Sublist (pre ++ t :: post) := List.Sublist.append (List.Sublist.refl pre) (List.sublist_cons_self t post)
      have hleft2 : Left ops (pre ++ post) := by
        intro x hx k hk he
        obtain ⟨z, hz, rfl⟩ := hleft x (hsub.subset hx) k hk he
        rcases List.mem_append.1 hz with h | h
        · exact ⟨z, by simp [h], rfl⟩
        · rcases List.mem_cons.1 h with rfl | h
          · exact (hnoe x (hsub.subset hx) he).elim
          · exact ⟨z, by simp [h], rfl⟩
      have hnext : ∀ a' w', St C B w0 S0 ms Ls env1 L1 a' w' → wpAny C.P .any ops Q n (listed.setIfInBounds t.i true) a' w' := by
        intro a' w' hst'
        refine ih (pre ++ post) _ (by simp at hn ⊢; omega) (fun s hs' => hin s (hsub.subset hs')) (hs.sublist hsub) (by simpa using hsz) (fun i hi => ?_) hleft2 q2 hrs2 hst'
        by_cases hit : t.i = i
        · subst hit
          have e1 : (listed.setIfInBounds t.i true).getD t.i true = true := by
            have : t.i < listed.size := by omega
            simp [Array.getD, this]
          rw [e1]
          simp only [Bool.true_eq_false, false_iff]
          rintro ⟨s, hs', hsi⟩
          rw [List.pairwise_append] at hs
          rcases List.mem_append.1 hs' with h | h
          · have := hs.2.2 s h t (by simp); omega
          · have := (List.pairwise_cons.1 hs.2.1).1 s h; omega
        · rw [getD_set_ne true hit, hl i hi]
          constructor
          · rintro ⟨s, hs', hsi⟩
            rcases List.mem_append.1 hs' with h | h
            · exact ⟨s, by simp [h], hsi⟩
            · rcases List.mem_cons.1 h with rfl | h
              · exact absurd hsi hit
              · exact ⟨s, by simp [h], hsi⟩
          · rintro ⟨s, hs', hsi⟩
            exact ⟨s, hsub.subset hs', hsi⟩
      have hw := step_wp (ops := ops) (Q := Q) hC (hrs.1 t (by simp)) q1 hst hnext
      unfold wpOp
      rw [h2]
      simp only
      split
      · rename_i hwant; rw [if_pos hwant] at hw; exact .inl hw
      · rename_i hwant; rw [if_neg hwant] at hw; exact hw
end
end
section
set_option linter.unusedVariables false
set_option linter.unusedSimpArgs false
set_option maxHeartbeats 400000
def pureAct (ρ : Operand → AV) : Op → Bool
  | .build _ parts => parts.toList.all fun (_, x) => noOwn (ρ x)
  | .convert _ _ x => match ρ x with | .v _ _ => true | .rs _ => true | _ => false
  | _ => false
def evOpP {Ω : Type} (C : Cfg) (spec : Spec) (o : Oper) (id : Nat) (env : List AV) (L : Heap) (k : List AV → Option Ω) : Option Ω :=
  bif isCall o.op then
    match callA C (evA C env) L o.op with
    | some (g, bs, _) => spec.con g bs fun av => bif av.flat && noIds av then k (envPut env o.dst av) else none
    | none => none
  else bif isAct o.op then
    bif pureAct (evA C env) o.op then
      match act C (evA C env) L id o.type o.op with
      | some (c, av, _) => bif c then k (envPut env o.dst av) else none
      | none => none
    else none
  else
    match ropD C (evA C env) L o.op with
    | some (c, av) => bif c then k (envPut env o.dst av) else none
    | none => none
def evOpsP {Ω : Type} (C : Cfg) (spec : Spec) (ops : Array Oper) (draw : Bool) (id0 : Nat) : List Foot → List Oper → Nat → Nat → List AV → Heap → (List AV → Option Ω) → Option Ω
  | acc, [], _, _, env, L, k => bif draw then (bif drawOK ops [] (items ops.toList acc 0 id0) then k env else none) else k env
  | acc, o :: rest, i, id, env, L, k =>
    match o.guard with
    | none => evOpP C spec o id env L fun env' => evOpsP C spec ops draw id0 (acc ++ [footOf (evA C env) o.op]) rest (i + 1) (nextId o id) env' L k
    | some (j, want) => match gTmp ops j with
      | none => none
      | some d => match env.getD d .dead with
        | .v .bool b => bif b then
            (bif want then evOpP C spec o id (env.set d (.v .bool true)) L fun env' => evOpsP C spec ops draw id0 (acc ++ [footOf (evA C env) o.op]) rest (i + 1) (nextId o id) env' L k
              else evOpsP C spec ops draw id0 (acc ++ [footOf (evA C env) o.op]) rest (i + 1) (nextId o id) (envPut (env.set d (.v .bool true)) o.dst und) L k)
          else
            (bif want then evOpsP C spec ops draw id0 (acc ++ [footOf (evA C env) o.op]) rest (i + 1) (nextId o id) (envPut (env.set d (.v .bool false)) o.dst und) L k
              else evOpP C spec o id (env.set d (.v .bool false)) L fun env' => evOpsP C spec ops draw id0 (acc ++ [footOf (evA C env) o.op]) rest (i + 1) (nextId o id) env' L k)
        | .cst (.tuple _) => evOpsP C spec ops draw id0 (acc ++ [footOf (evA C env) o.op]) rest (i + 1) (nextId o id) (envPut env o.dst und) L k
        | _ => none
def evRegionP {Ω : Type} (C : Cfg) (spec : Spec) (ops : Array Oper) (draw : Bool) (env : List AV) (L : Heap) (k : List AV → Option Ω) : Option Ω :=
  bif cntIds ops.toList == 0 then evOpsP C spec ops draw L.length [] ops.toList 0 L.length env L k else none
def dstsL : List Oper → List Nat
  | [] => []
  | o :: r => match o.dst with | some d => d :: dstsL r | none => dstsL r
section
variable {Ω : Type} {C : Cfg} {spec : Spec}
theorem evOpP_val (hS : SpecOK C spec) {o : Oper} {id : Nat} {env : List AV} {L : Heap} {k : List AV → Option Ω} {r : Ω} (h : evOpP C spec o id env L k = some r) : ∃ av, OpVal C o id (evA C env) L av L ∧ k (envPut env o.dst av) = some r := by
  unfold evOpP at h
  cases hc : isCall o.op with
  | true =>
    rw [hc] at h
    simp only [cond_true] at h
    split at h
    · rename_i g bs L1 hca
      obtain ⟨av, h1, h2⟩ := hS.con g bs _ r h
      cases hcond : av.flat && noIds av with
      | true =>
        rw [hcond, cond_true] at h1
        rw [Bool.and_eq_true] at hcond
        exact ⟨av, .inl ⟨hc, ⟨g, bs, by rw [hca]; rfl, h2⟩, .inl hcond.1, hcond.2, rfl⟩, h1⟩
      | false => rw [hcond] at h1; cases h1
    · cases h
  | false =>
    rw [hc] at h
    simp only [cond_false] at h
    cases ha : isAct o.op with
    | true =>
      rw [ha] at h
      simp only [cond_true] at h
      cases hok : pureAct (evA C env) o.op with
      | true =>
        rw [hok, cond_true] at h
        split at h
        · rename_i c av L' hact
          cases c with
          | false => cases h
          | true =>
            have hok0 := hok
            have hL : actOK (evA C env) o.op = true ∧ L' = L := by
              unfold pureAct at hok
              split at hok
              · rename_i t parts ho
                refine ⟨by rw [ho]; exact hok, ?_⟩
                rw [ho] at hact
                obtain ⟨_, p2⟩ := parts_noOwn hok
                have hact : buildA C L t (parts.toList.map fun (i, x) => (i, evA C env x)) = some (true, av, L') := hact
                unfold buildA at hact
                rw [markL_noOwn p2] at hact
                obtain ⟨τ, _, h1⟩ := Option.bind_eq_some_iff.1 hact
                dsimp only at h1
                split at h1
                · obtain ⟨x, _, h2⟩ := Option.map_eq_some_iff.1 h1; cases h2; rfl
                · split at h1
                  · obtain ⟨x, _, h2⟩ := Option.map_eq_some_iff.1 h1; cases h2; rfl
                  · cases h1
                · cases h1
              · rename_i s d x ho
                refine ⟨by rw [ho]; exact hok, ?_⟩
                rw [ho] at hact
                have hact : convB C L s d (evA C env x) = some (true, av, L') := hact
                unfold convB at hact
                split at hact
                · obtain ⟨q, _, h2⟩ := Option.map_eq_some_iff.1 hact; simp only [Prod.mk.injEq] at h2; exact h2.2.2.symm
                · cases hb : isStrTy C d with
                  | true => rw [hb, cond_true] at hact; obtain ⟨q, _, h2⟩ := Option.map_eq_some_iff.1 hact; simp only [Prod.mk.injEq] at h2; exact h2.2.2.symm
                  | false => rw [hb, cond_false] at hact; obtain ⟨q, _, h2⟩ := Option.map_eq_some_iff.1 hact; simp only [Prod.mk.injEq] at h2; exact h2.2.2.symm
                · obtain ⟨xs, _, h1⟩ := Option.bind_eq_some_iff.1 hact
                  obtain ⟨q, _, h2⟩ := Option.map_eq_some_iff.1 h1; simp only [Prod.mk.injEq] at h2; exact h2.2.2.symm
              · cases hok
            obtain ⟨k1, rfl⟩ := hL
            have hnm : isMake o.op = false := by
              cases hop : o.op <;> first | rfl | (rw [hop] at hok0; simp [pureAct] at hok0)
            exact ⟨av, .inr (.inl ⟨hc, ha, k1, by unfold actV; rw [hnm, cond_false]; exact hact⟩), h⟩
        · cases h
      | false => rw [hok] at h; cases h
    | false =>
      rw [ha] at h
      simp only [cond_false] at h
      split at h
      · rename_i c av hrop
        cases c with
        | true => exact ⟨av, .inr (.inr ⟨hc, ha, hrop, rfl⟩), h⟩
        | false => cases h
      · cases h
theorem put_away {env : List AV} {d : Option Tmp} {a : AV} {t : Nat} (h : ∀ e, d = some e → t ≠ e) : (envPut env d a).getD t .dead = env.getD t .dead := by
  cases d with
  | none => rfl
  | some e =>
    have := h e rfl
    simp only [envPut, List.getD_eq_getElem?_getD, List.getElem?_set_ne (Ne.symm this)]
theorem put_len {env : List AV} {d : Option Tmp} {a : AV} : (envPut env d a).length = env.length := by cases d <;> simp [envPut]
theorem dsts_mem {o : Oper} {r : List Oper} {t : Nat} (h : t ∉ dstsL (o :: r)) : (∀ e, o.dst = some e → t ≠ e) ∧ t ∉ dstsL r := by
  unfold dstsL at h
  split at h
  · rename_i d hd
    simp only [List.mem_cons, not_or] at h
    exact ⟨fun e he => by rw [hd] at he; cases he; exact h.1, h.2⟩
  · rename_i hd
    exact ⟨fun e he => (by rw [hd] at he; cases he), h⟩
theorem evOpsP_run (hS : SpecOK C spec) {ops : Array Oper} {draw : Bool} {id0 : Nat} : ∀ {l : List Oper} {acc : List Foot} {i id : Nat} {env : List AV} {L : Heap} {k : List AV → Option Ω} {r : Ω}, evOpsP C spec ops draw id0 acc l i id env L k = some r →
    ∃ env' fl, RunD C ops (items l fl i id) env L env' L ∧ RunRel C ops (withIds l id) env L env' L ∧ fl.length = l.length ∧ (draw = true → drawOK ops [] (items ops.toList (acc ++ fl) 0 id0) = true) ∧ env'.length = env.length ∧ (∀ t, t ∉ dstsL l → env'.getD t .dead = env.getD t .dead) ∧ k env' = some r
  | [], acc, i, id, env, L, k, r, h => by
    simp only [evOpsP] at h
    cases draw with
    | true =>
      rw [cond_true] at h
      obtain ⟨h1, h2⟩ := ite_some' h
      exact ⟨env, [], ⟨rfl, rfl⟩, ⟨rfl, rfl⟩, rfl, fun _ => by rw [List.append_nil]; exact h1, rfl, fun _ _ => rfl, h2⟩
    | false => exact ⟨env, [], ⟨rfl, rfl⟩, ⟨rfl, rfl⟩, rfl, fun h => (by cases h), rfl, fun _ _ => rfl, h⟩
  | o :: rest, acc, i, id, env, L, k, r, h => by
    simp only [evOpsP] at h
    have step : ∀ {av : AV}, StepVal C ops o id env L av L → evOpsP C spec ops draw id0 (acc ++ [footOf (evA C env) o.op]) rest (i + 1) (nextId o id) (envPut env o.dst av) L k = some r →
        ∃ env' fl, RunD C ops (items (o :: rest) fl i id) env L env' L ∧ RunRel C ops (withIds (o :: rest) id) env L env' L ∧ fl.length = (o :: rest).length ∧ (draw = true → drawOK ops [] (items ops.toList (acc ++ fl) 0 id0) = true) ∧ env'.length = env.length ∧ (∀ t, t ∉ dstsL (o :: rest) → env'.getD t .dead = env.getD t .dead) ∧ k env' = some r := by
      intro av hv h
      obtain ⟨env', fl, h1, h2, h3, h4, h5, h6, h7⟩ := evOpsP_run hS h
      exact ⟨env', _ :: fl, .inl ⟨av, L, rfl, hv, h1⟩, ⟨_, L, hv.rel, h2⟩, by simp [h3], fun hd => by simpa using h4 hd, h5.trans put_len, fun t ht => (h6 t (dsts_mem ht).2).trans (put_away (dsts_mem ht).1), h7⟩
    have go : wantB ops o env = some true → evOpP C spec o id env L (fun env' => evOpsP C spec ops draw id0 (acc ++ [footOf (evA C env) o.op]) rest (i + 1) (nextId o id) env' L k) = some r → (∃ env' fl, RunD C ops (items (o :: rest) fl i id) env L env' L ∧ RunRel C ops (withIds (o :: rest) id) env L env' L ∧ fl.length = (o :: rest).length ∧ (draw = true → drawOK ops [] (items ops.toList (acc ++ fl) 0 id0) = true) ∧ env'.length = env.length ∧ (∀ t, t ∉ dstsL (o :: rest) → env'.getD t .dead = env.getD t .dead) ∧ k env' = some r) := fun hw h => by
      obtain ⟨av, h1, h2⟩ := evOpP_val hS h
      exact step (.inl ⟨hw, h1⟩) h2
    have stay : wantB ops o env = some false → evOpsP C spec ops draw id0 (acc ++ [footOf (evA C env) o.op]) rest (i + 1) (nextId o id) (envPut env o.dst und) L k = some r → (∃ env' fl, RunD C ops (items (o :: rest) fl i id) env L env' L ∧ RunRel C ops (withIds (o :: rest) id) env L env' L ∧ fl.length = (o :: rest).length ∧ (draw = true → drawOK ops [] (items ops.toList (acc ++ fl) 0 id0) = true) ∧ env'.length = env.length ∧ (∀ t, t ∉ dstsL (o :: rest) → env'.getD t .dead = env.getD t .dead) ∧ k env' = some r) := fun hw h => step (.inr ⟨hw, rfl, rfl⟩) h
    split at h
    · rename_i hg
      exact go (by unfold wantB; rw [hg]) h
    · rename_i j want hg
      cases hd : gTmp ops j with
      | none => rw [hd] at h; cases h
      | some d =>
        rw [hd] at h
        simp only at h
        split at h
        · rename_i b hb
          have hw : wantB ops o env = some (b == want) := by unfold wantB; rw [hg]; simp only [hd]; rw [hb]
          cases b with
          | true =>
            rw [set_getD hb (by simp)] at h
            simp only [cond_true] at h
            cases want with
            | true => exact go hw (by simpa using h)
            | false => exact stay hw (by simpa using h)
          | false =>
            rw [set_getD hb (by simp)] at h
            simp only [cond_false] at h
            cases want with
            | true => exact stay hw (by simpa using h)
            | false => exact go hw (by simpa using h)
        · rename_i c hb
          exact stay (by unfold wantB; rw [hg]; simp only [hd]; rw [hb]) h
        · cases h
end
end
section
set_option linter.unusedVariables false
set_option linter.unusedSimpArgs false
set_option maxHeartbeats 400000
inductive Ex where
  | normal | exit (id : Nat) | ret
def Ex.to : Ex → Exit
  | .normal => .normal
  | .exit id => .exit id
  | .ret => .ret
def isDead : AV → Bool
  | .dead => true
  | .cst (.tuple _) => true
  | _ => false
def forget (h0 : Nat) : List Bool → List AV → List AV
  | _, [] => []
  | false :: ms, a :: as => (bif a.ids (fun _ id => decide (id < h0)) then a else .dead) :: forget h0 ms as
  | _ :: ms, _ :: as => .dead :: forget h0 ms as
  | [], _ :: as => .dead :: forget h0 [] as
structure Fuel where
  n : Nat
  drop : Nat → List Nat
def firstReg : Code → Nat
  | .region id _ _ => id
  | .seq x _ => firstReg x
  | .block _ c => firstReg c
  | .cond _ x _ => firstReg x
  | .loop c => firstReg c
  | .scope c => firstReg c
  | _ => 0
def maskOf (drop : List Nat) : Nat → List AV → List Bool
  | _, [] => []
  | i, a :: as => (isDead a || drop.elem i) :: maskOf drop (i + 1) as
def frzOf : List Nat → List Nat
  | [] => []
  | t :: ts => bif Nat.ble 1000000 t then (t - 1000000) :: frzOf ts else frzOf ts
def renL (t id0 : Nat) (env : List AV) (L : Heap) : List AV × Heap :=
  match env.getD t .dead with
  | .rs id => bif id == id0 then (env, L) else match L[id]?, L[id0]? with
    | some (.row te e xs ro), some .gone => ((env.map (scrubA (fun i => i == id0))).set t (.rs id0), keepL (fun j => !(j == id0 || j == id)) ((L.set id .gone).set id0 (.row te e xs ro)))
    | _, _ => (env, L)
  | _ => (env, L)
def frzL : List Nat → List AV → Heap → List AV × Heap
  | [], env, L => (env, L)
  | t :: ts, env, L => bif Nat.ble 1000000 t then frzL ts (renL (t % 1000) ((t - 1000000) / 1000) env L).1 (renL (t % 1000) ((t - 1000000) / 1000) env L).2 else match env.getD t .dead with
    | .rs id => match L[id]? with
      | some (.row _ e xs _) => frzL ts (env.set t (.v (.slice e) xs)) (mark1 L id)
      | _ => frzL ts env L
    | _ => frzL ts env L
def renOK (C : Cfg) : List Nat → Bool
  | [] => true
  | t :: ts => bif Nat.ble 1000000 t then C.Y ((t - 1000000) / 1000) && renOK C ts else renOK C ts
abbrev Kont (Ω : Type) := Ex → List AV → Heap → Option Ω
def cutL (h0 : Nat) (L : Heap) : Heap := keepL (fun j => Nat.blt j h0) (L.take h0)
def seqK {Ω : Type} (f : List AV → Heap → Option Ω) (k : Kont Ω) : Kont Ω
  | .normal, env, L => f env L
  | .exit id, env, L => k (.exit id) env L
  | .ret, env, L => k .ret env L
def blockK {Ω : Type} (id : Nat) (k : Kont Ω) : Kont Ω
  | .normal, env, L => k .normal env L
  | .exit i, env, L => bif i == id then k .normal env L else k (.exit i) env L
  | .ret, env, L => k .ret env L
def loopC {Ω : Type} (R : List AV → Heap → Option Ω) (mask : List Bool) (fz : List Nat) (h0 : Nat) (k : Kont Ω) : Kont Ω
  | .normal, env, L => R (forget h0 mask (frzL fz env L).1) (cutL h0 (frzL fz env L).2)
  | .exit id, env, L => k (.exit id) env L
  | .ret, env, L => k .ret env L
def loopK {Ω : Type} (body : List AV → Heap → Kont Ω → Option Ω) (mask : List Bool) (fz : List Nat) (h0 : Nat) (k : Kont Ω) : Nat → List AV → Heap → Option Ω
  | 0, _, _ => none
  | n + 1, env, L => body env L (loopC (loopK body mask fz h0 k n) mask fz h0 k)
def iter {Ω σ : Type} (B : (σ → Option Ω) → σ → Option Ω) : Nat → σ → Option Ω
  | 0, _ => none
  | n + 1, s => B (iter B n) s
theorem loopK_iter {Ω σ : Type} {body : List AV → Heap → Kont Ω → Option Ω} {mask : List Bool} {fz : List Nat} {h0 : Nat} {k : Kont Ω} {envOf : σ → List AV} {LOf : σ → Heap} {B : (σ → Option Ω) → σ → Option Ω}
    (step : ∀ R s, body (envOf s) (LOf s) (loopC R mask fz h0 k) = B (fun s' => R (envOf s') (LOf s')) s) : ∀ n, (fun s => loopK body mask fz h0 k n (envOf s) (LOf s)) = iter B n
  | 0 => rfl
  | n + 1 => by
    funext s
    show body (envOf s) (LOf s) (loopC (loopK body mask fz h0 k n) mask fz h0 k) = B (iter B n) s
    rw [step, loopK_iter step n]
def cl : Code → Code
  | .seq x _ => x
  | .cond _ x _ => x
  | .block _ c => c
  | .loop c => c
  | .scope c => c
  | c => c
def cr : Code → Code
  | .seq _ y => y
  | .cond _ _ y => y
  | c => c
def condEnv (env : List AV) : Operand → Bool → List AV
  | .tmp t, b => env.set t (.v .bool b)
  | _, _ => env
def jKey (x y : Code) : Nat := 1000000 + 1000 * firstReg x + firstReg y
def jTy (C : Cfg) : List Nat → List (Nat × ETy)
  | [] => []
  | v :: r => bif Nat.blt v 1000 then jTy C r else match C.Ty (v / 1000 - 1) with
    | some τ => (v % 1000, τ) :: jTy C r
    | none => jTy C r
@[reducible] def JI : List (Nat × ETy) → Type
  | [] => Unit
  | p :: r => p.2.I × JI r
def getJ (τ : ETy) : AV → Option τ.I
  | .v σ x => castI σ τ x
  | _ => none
def grabJ : (l : List (Nat × ETy)) → List AV → Option (JI l)
  | [], _ => some ()
  | p :: r, env => (getJ p.2 (env.getD p.1 .dead)).bind fun x => (grabJ r env).bind fun y => some (x, y)
def putJ : (l : List (Nat × ETy)) → JI l → List AV → List AV
  | [], _, env => env
  | p :: r, x, env => putJ r x.2 (env.set p.1 (.v p.2 x.1))
def killJ : List Nat → List AV → List AV
  | [], env => env
  | v :: r, env => killJ r (env.set (v % 1000) .dead)
def dstsC : Code → List Nat
  | .region _ ops _ => dstsL ops.toList
  | .seq x y => dstsC x ++ dstsC y
  | .cond _ x y => dstsC x ++ dstsC y
  | _ => []
def jOK (l : List Nat) (c : Code) : Bool := (dstsC c).all fun t => l.any fun v => v % 1000 == t
def evP {Ω : Type} (C : Cfg) (spec : Spec) : Code → List AV → Heap → (List AV → Option Ω) → Option Ω
  | .skip, env, _, k => k env
  | .label _, env, _, k => k env
  | .region _ ops draw, env, L, k => evRegionP C spec ops draw env L k
  | .seq x y, env, L, k => evP C spec x env L fun env => evP C spec y env L k
  | .cond c x y, env, L, k => match evA C env c with
    | .v .bool b => bif b then evP C spec x (condEnv env c true) L k else evP C spec y (condEnv env c false) L k
    | _ => none
  | _, _, _, _ => none
def isNilN : List Nat → Bool
  | [] => true
  | _ => false
def frzB : List Nat → Heap → Heap
  | [], L => L
  | i :: l, L => frzB l (frzN 0 i 6 L)
theorem frzB_keeps {j : Nat} : ∀ (l : List Nat) {L : Heap}, L[j]? = some .resv → (frzB l L)[j]? = some .resv
  | [], _, h => h
  | _ :: l, _, h => frzB_keeps l (frzN_keeps 6 h)
def evCode {Ω : Type} (C : Cfg) (spec : Spec) (fuel : Fuel) : Code → List AV → Heap → Kont Ω → Option Ω
  | .skip, env, L, k => k .normal env L
  | .label _, env, L, k => k .normal env L
  | .region id ops draw, env, L, k => bif isNilN (fuel.drop (2000000 + id)) then evRegion C spec ops draw env (frzB (fuel.drop (3000000 + id)) L) (k .normal)
    else bif jOK (fuel.drop (2000000 + id)) (.region id ops draw) then
      (evRegionP C spec ops draw env L (grabJ (jTy C (fuel.drop (2000000 + id))))).bind fun s => k .normal (putJ (jTy C (fuel.drop (2000000 + id))) s (killJ (fuel.drop (2000000 + id)) env)) L
    else none
  | .seq x y, env, L, k => evCode C spec fuel x env L (seqK (fun env L => evCode C spec fuel y env L k) k)
  | .cond c x y, env, L, k => match evA C env c with
    | .v .bool b => bif isNilN (fuel.drop (jKey x y)) then (bif b then evCode C spec fuel x (condEnv env c true) L k else evCode C spec fuel y (condEnv env c false) L k)
      else bif jOK (fuel.drop (jKey x y)) x && jOK (fuel.drop (jKey x y)) y then
        (bif b then evP C spec x (condEnv env c true) L (grabJ (jTy C (fuel.drop (jKey x y)))) else evP C spec y (condEnv env c false) L (grabJ (jTy C (fuel.drop (jKey x y))))).bind fun s => k .normal (putJ (jTy C (fuel.drop (jKey x y))) s (killJ (fuel.drop (jKey x y)) env)) L
      else none
    | _ => none
  | .block id c, env, L, k => evCode C spec fuel c env L (blockK id k)
  | .loop c, env, L, k => bif renOK C (frzOf (fuel.drop (firstReg c))) then loopK (fun env L k => evCode C spec fuel c env L k) (maskOf (fuel.drop (firstReg c)) 0 env) (frzOf (fuel.drop (firstReg c))) L.length k fuel.n (forget L.length (maskOf (fuel.drop (firstReg c)) 0 env) (frzL (frzOf (fuel.drop (firstReg c))) env L).1) (frzL (frzOf (fuel.drop (firstReg c))) env L).2 else none
  | .exit id, env, L, k => k (.exit id) env L
  | .ret, env, L, k => k .ret env L
  | .scope c, env, L, k => evCode C spec fuel c env L k
  | _, _, _, _ => none
def RegRel (C : Cfg) (ops : Array Oper) (draw : Bool) (env : List AV) (L : Heap) (env' : List AV) (L' : Heap) : Prop :=
  if draw then ∃ fs, drawOK ops [] (items ops.toList fs 0 L.length) = true ∧ RunD C ops (items ops.toList fs 0 L.length) env (L ++ List.replicate (cntIds ops.toList) .resv) env' L'
  else RunRel C ops (withIds ops.toList L.length) env (L ++ List.replicate (cntIds ops.toList) .resv) env' L'
mutual
inductive CodeRel (C : Cfg) : Code → List AV → Heap → Ex → List AV → Heap → Prop
  | skip {env L} : CodeRel C .skip env L .normal env L
  | label {l env L} : CodeRel C (.label l) env L .normal env L
  | exit {id env L} : CodeRel C (.exit id) env L (.exit id) env L
  | ret {env L} : CodeRel C .ret env L .ret env L
  | region {id ops draw env L env' L'} (h : RegRel C ops draw env L env' L') : CodeRel C (.region id ops draw) env L .normal env' L'
  | seqN {x y env L env1 L1 e env2 L2} (h : CodeRel C x env L .normal env1 L1) (k : CodeRel C y env1 L1 e env2 L2) : CodeRel C (.seq x y) env L e env2 L2
  | seqX {x y env L e env1 L1} (h : CodeRel C x env L e env1 L1) (he : e ≠ .normal) : CodeRel C (.seq x y) env L e env1 L1
  | cond {c x y env L b e env1 L1} (hc : evA C env c = .v .bool b) (h : CodeRel C (if b then x else y) env L e env1 L1) : CodeRel C (.cond c x y) env L e env1 L1
  | blockHit {id c env L env1 L1} (h : CodeRel C c env L (.exit id) env1 L1) : CodeRel C (.block id c) env L .normal env1 L1
  | blockOut {id c env L e env1 L1} (h : CodeRel C c env L e env1 L1) (he : e ≠ .exit id) : CodeRel C (.block id c) env L e env1 L1
  | scope {c env L e env1 L1} (h : CodeRel C c env L e env1 L1) : CodeRel C (.scope c) env L e env1 L1
  | weak {c env L e env1 env2 L1} (h : CodeRel C c env L e env1 L1) (hl : env2.length = env1.length) (hw : ∀ t, env2.getD t .dead = env1.getD t .dead ∨ env2.getD t .dead = .dead) : CodeRel C c env L e env2 L1
  | frz {c env L l e env1 L1} (h : CodeRel C c env (frzB l L) e env1 L1) : CodeRel C c env L e env1 L1
  | loop {c mask fz env L e env1 L1} (hr : renOK C fz = true) (h : LoopRel C c mask L.length (forget L.length mask (frzL fz env L).1) (frzL fz env L).2 e env1 L1) : CodeRel C (.loop c) env L e env1 L1
inductive LoopRel (C : Cfg) : Code → List Bool → Nat → List AV → Heap → Ex → List AV → Heap → Prop
  | stop {c mask h0 env L e env1 L1} (h : CodeRel C c env L e env1 L1) (he : e ≠ .normal) : LoopRel C c mask h0 env L e env1 L1
  | more {c mask fz h0 env L env1 L1 e env2 L2} (hr : renOK C fz = true) (h : CodeRel C c env L .normal env1 L1) (k : LoopRel C c mask h0 (forget h0 mask (frzL fz env1 L1).1) (cutL h0 (frzL fz env1 L1).2) e env2 L2) : LoopRel C c mask h0 env L e env2 L2
end
section
variable {Ω : Type} {C : Cfg} {B : Nat} {w0 : World} {S0 : Nat → Nat → Prop} {ms : Nat → Value} {Ls : Heap} {spec : Spec}
theorem evRegion_rel (hS : SpecOK C spec) {ops : Array Oper} {draw : Bool} {env : List AV} {L : Heap} {k : List AV → Heap → Option Ω} {r : Ω} (h : evRegion C spec ops draw env L k = some r) : ∃ env' L', RegRel C ops draw env L env' L' ∧ k env' L' = some r := by
  unfold evRegion at h
  unfold RegRel
  cases draw with
  | false =>
    simp only [cond_false] at h
    obtain ⟨env', L', h1, h2⟩ := evOps_rel hS h
    exact ⟨env', L', by simpa using h1, h2⟩
  | true =>
    simp only [cond_true] at h
    obtain ⟨env', L', fl, h1, _, h3, h2⟩ := evOpsD_run hS h
    exact ⟨env', L', by
      simp only [if_true]
      exact ⟨fl, by simpa using h3, h1⟩, h2⟩
theorem condEnv_same {env : List AV} {c : Operand} {b : Bool} (h : evA C env c = .v .bool b) : condEnv env c b = env := by
  cases c with
  | tmp t => exact set_getD (datA_bool h) (by simp)
  | _ => rfl
theorem getJ_eq {τ : ETy} {a : AV} {x : τ.I} (h : getJ τ a = some x) : a = .v τ x := by
  cases a with
  | v σ y =>
    obtain ⟨e1, e2⟩ := castI_eq (show castI σ τ y = some x from h)
    subst e1; subst e2; rfl
  | _ => cases h
theorem putJ_len : ∀ {l : List (Nat × ETy)} {s : JI l} {env : List AV}, (putJ l s env).length = env.length
  | [], _, _ => rfl
  | p :: r, x, env => by unfold putJ; rw [putJ_len, List.length_set]
theorem killJ_len : ∀ {l : List Nat} {env : List AV}, (killJ l env).length = env.length
  | [], _ => rfl
  | v :: r, env => by unfold killJ; rw [killJ_len, List.length_set]
theorem set_get (env : List AV) (i t : Nat) (a : AV) : (env.set i a).getD t .dead = a ∧ i = t ∨ (env.set i a).getD t .dead = env.getD t .dead := by
  by_cases h : i = t
  · subst h
    by_cases hl : i < env.length
    · exact .inl ⟨by simp only [List.getD_eq_getElem?_getD, List.getElem?_set_self hl, Option.getD_some], rfl⟩
    · exact .inr (by simp only [List.getD_eq_getElem?_getD]; rw [List.getElem?_eq_none (by simp; omega), List.getElem?_eq_none (by omega)])
  · exact .inr (by simp only [List.getD_eq_getElem?_getD, List.getElem?_set_ne h])
theorem putJ_get {env1 : List AV} : ∀ {l : List (Nat × ETy)} {s : JI l} {env : List AV}, grabJ l env1 = some s → ∀ t, (putJ l s env).getD t .dead = env1.getD t .dead ∨ (putJ l s env).getD t .dead = env.getD t .dead
  | [], _, _, _, t => .inr rfl
  | p :: r, x, env, h, t => by
    unfold grabJ at h
    obtain ⟨y, h1, h⟩ := Option.bind_eq_some_iff.1 h
    obtain ⟨z, h2, h⟩ := Option.bind_eq_some_iff.1 h
    cases h
    unfold putJ
    rcases putJ_get (env := env.set p.1 (.v p.2 y)) h2 t with h3 | h3
    · exact .inl h3
    · rcases set_get env p.1 t (.v p.2 y) with ⟨h4, h5⟩ | h4
      · subst h5
        exact .inl (h3.trans (h4.trans (getJ_eq h1).symm))
      · exact .inr (h3.trans h4)
theorem killJ_get : ∀ {l : List Nat} {env : List AV} (t : Nat), (killJ l env).getD t .dead = .dead ∨ ((killJ l env).getD t .dead = env.getD t .dead ∧ ∀ v ∈ l, v % 1000 ≠ t)
  | [], env, t => .inr ⟨rfl, fun v h => (by cases h)⟩
  | v :: r, env, t => by
    unfold killJ
    rcases killJ_get (l := r) (env := env.set (v % 1000) .dead) t with h | ⟨h, h2⟩
    · exact .inl h
    · rcases set_get env (v % 1000) t .dead with ⟨h4, h5⟩ | h4
      · exact .inl (h.trans h4)
      · by_cases hv : v % 1000 = t
        · subst hv
          by_cases hl : v % 1000 < env.length
          · exact .inl (h.trans (by simp only [List.getD_eq_getElem?_getD, List.getElem?_set_self hl, Option.getD_some]))
          · exact .inl (h.trans (by simp only [List.getD_eq_getElem?_getD]; rw [List.getElem?_eq_none (by simp; omega)]; rfl))
        · refine .inr ⟨h.trans h4, fun u hu => ?_⟩
          rcases List.mem_cons.1 hu with rfl | hu
          · exact hv
          · exact h2 u hu
theorem evP_rel (hS : SpecOK C spec) : ∀ {c : Code} {env : List AV} {L : Heap} {k : List AV → Option Ω} {r : Ω}, evP C spec c env L k = some r → ∃ env', CodeRel C c env L .normal env' L ∧ env'.length = env.length ∧ (∀ t, t ∉ dstsC c → env'.getD t .dead = env.getD t .dead) ∧ k env' = some r
  | .skip, env, L, k, r, h => ⟨_, .skip, rfl, fun _ _ => rfl, h⟩
  | .label _, env, L, k, r, h => ⟨_, .label, rfl, fun _ _ => rfl, h⟩
  | .region _ ops draw, env, L, k, r, h => by
    have h : evRegionP C spec ops draw env L k = some r := h
    unfold evRegionP at h
    obtain ⟨h0, h⟩ := ite_some' h
    have h0 : cntIds ops.toList = 0 := by simpa using h0
    obtain ⟨env', fl, h1, h2, h3, h4, h5, h6, h7⟩ := evOpsP_run hS h
    refine ⟨env', .region ?_, h5, h6, h7⟩
    unfold RegRel
    rw [h0, List.replicate_zero, List.append_nil]
    cases draw with
    | true => exact ⟨fl, by simpa using h4 rfl, h1⟩
    | false => exact h2
  | .seq x y, env, L, k, r, h => by
    obtain ⟨env1, h1, h2, h3, h4⟩ := evP_rel hS (show evP C spec x env L (fun env => evP C spec y env L k) = some r from h)
    obtain ⟨env2, k1, k2, k3, k4⟩ := evP_rel hS h4
    refine ⟨env2, .seqN h1 k1, k2.trans h2, fun t ht => ?_, k4⟩
    simp only [dstsC, List.mem_append, not_or] at ht
    exact (k3 t ht.2).trans (h3 t ht.1)
  | .cond c x y, env, L, k, r, h => by
    simp only [evP] at h
    split at h
    · rename_i b hc
      cases b with
      | true =>
        rw [condEnv_same hc, cond_true] at h
        obtain ⟨env1, h1, h2, h3, h4⟩ := evP_rel hS h
        exact ⟨env1, .cond hc (by simpa using h1), h2, fun t ht => h3 t (by simp only [dstsC, List.mem_append, not_or] at ht; exact ht.1), h4⟩
      | false =>
        rw [condEnv_same hc, cond_false] at h
        obtain ⟨env1, h1, h2, h3, h4⟩ := evP_rel hS h
        exact ⟨env1, .cond hc (by simpa using h1), h2, fun t ht => h3 t (by simp only [dstsC, List.mem_append, not_or] at ht; exact ht.2), h4⟩
    · cases h
  | .block .., env, L, k, r, h => by cases h
  | .loop _, env, L, k, r, h => by cases h
  | .exit _, env, L, k, r, h => by cases h
  | .ret, env, L, k, r, h => by cases h
  | .scope _, env, L, k, r, h => by cases h
  | .rangeFunc .., env, L, k, r, h => by cases h
  | .goto _, env, L, k, r, h => by cases h
  | .refuse _, env, L, k, r, h => by cases h
theorem jOK_at {l : List Nat} {c : Code} (h : jOK l c = true) {t : Nat} (ht : ∀ v ∈ l, v % 1000 ≠ t) : t ∉ dstsC c := by
  intro hm
  have := List.all_eq_true.1 h t hm
  obtain ⟨v, h1, h2⟩ := List.any_eq_true.1 this
  exact ht v h1 (by simpa using h2)
theorem join_rel {l : List Nat} {ls : List (Nat × ETy)} {c : Code} {env env1 : List AV} {L : Heap} {s : JI ls} (h : CodeRel C c env L .normal env1 L) (hl : env1.length = env.length) (hk : ∀ t, t ∉ dstsC c → env1.getD t .dead = env.getD t .dead) (hj : ∀ t, (∀ v ∈ l, v % 1000 ≠ t) → t ∉ dstsC c) (hg : grabJ ls env1 = some s) : CodeRel C c env L .normal (putJ ls s (killJ l env)) L := by
  refine .weak h (by rw [putJ_len, killJ_len, hl]) fun t => ?_
  rcases putJ_get (env := killJ l env) hg t with h1 | h1
  · exact .inl h1
  · rcases killJ_get (l := l) (env := env) t with h2 | ⟨h2, h3⟩
    · exact .inr (h1.trans h2)
    · exact .inl (h1.trans (h2.trans (hk t (hj t h3)).symm))
theorem loopK_rel {body : List AV → Heap → Kont Ω → Option Ω} {c : Code} (hb : ∀ {env L k r}, body env L k = some r → ∃ e env' L', CodeRel C c env L e env' L' ∧ k e env' L' = some r) {mask : List Bool} {fz : List Nat} (hr : renOK C fz = true) {h0 : Nat} {k : Ex → List AV → Heap → Option Ω} {r : Ω} :
    ∀ {n : Nat} {env : List AV} {L : Heap}, loopK body mask fz h0 k n env L = some r → ∃ e env' L', LoopRel C c mask h0 env L e env' L' ∧ k e env' L' = some r
  | 0, env, L, h => by simp [loopK] at h
  | n + 1, env, L, h => by
    simp only [loopK] at h
    obtain ⟨e, env1, L1, h1, h2⟩ := hb h
    cases e with
    | normal =>
      obtain ⟨e, env', L', h3, h4⟩ := loopK_rel hb hr h2
      exact ⟨e, env', L', .more hr h1 h3, h4⟩
    | exit id => exact ⟨_, _, _, .stop h1 (by simp), h2⟩
    | ret => exact ⟨_, _, _, .stop h1 (by simp), h2⟩
theorem evCode_rel (hS : SpecOK C spec) {fuel : Fuel} : ∀ {c : Code} {env : List AV} {L : Heap} {k : Ex → List AV → Heap → Option Ω} {r : Ω}, evCode C spec fuel c env L k = some r → ∃ e env' L', CodeRel C c env L e env' L' ∧ k e env' L' = some r
  | .skip, env, L, k, r, h => ⟨_, _, _, .skip, h⟩
  | .label _, env, L, k, r, h => ⟨_, _, _, .label, h⟩
  | .exit _, env, L, k, r, h => ⟨_, _, _, .exit, h⟩
  | .ret, env, L, k, r, h => ⟨_, _, _, .ret, h⟩
  | .region id ops draw, env, L, k, r, h => by
    simp only [evCode] at h
    cases hn : isNilN (fuel.drop (2000000 + id)) with
    | true =>
      rw [hn, cond_true] at h
      obtain ⟨env', L', h1, h2⟩ := evRegion_rel hS h
      exact ⟨.normal, env', L', .frz (.region h1), h2⟩
    | false =>
      rw [hn, cond_false] at h
      obtain ⟨h0, h⟩ := ite_some' h
      obtain ⟨s, hs, h9⟩ := Option.bind_eq_some_iff.1 h
      obtain ⟨env1, h1, h2, h3, h4⟩ := evP_rel (c := .region id ops draw) hS (show evP C spec (.region id ops draw) env L _ = some s from hs)
      exact ⟨_, _, _, join_rel (l := fuel.drop (2000000 + id)) h1 h2 h3 (fun t ht => jOK_at h0 ht) h4, h9⟩
  | .seq x y, env, L, k, r, h => by
    simp only [evCode] at h
    obtain ⟨e, env1, L1, h1, h2⟩ := evCode_rel hS h
    cases e with
    | normal =>
      obtain ⟨e, env', L', h3, h4⟩ := evCode_rel hS h2
      exact ⟨e, env', L', .seqN h1 h3, h4⟩
    | exit id => exact ⟨_, _, _, .seqX h1 (by simp), h2⟩
    | ret => exact ⟨_, _, _, .seqX h1 (by simp), h2⟩
  | .cond c x y, env, L, k, r, h => by
    simp only [evCode] at h
    split at h
    · rename_i b hb
      cases hn : isNilN (fuel.drop (jKey x y)) with
      | true =>
        rw [hn, cond_true] at h
        cases b with
        | true =>
          rw [condEnv_same hb] at h
          obtain ⟨e, env', L', h1, h2⟩ := evCode_rel hS (c := x) (by simpa using h)
          exact ⟨e, env', L', .cond hb (by simpa using h1), h2⟩
        | false =>
          rw [condEnv_same hb] at h
          obtain ⟨e, env', L', h1, h2⟩ := evCode_rel hS (c := y) (by simpa using h)
          exact ⟨e, env', L', .cond hb (by simpa using h1), h2⟩
      | false =>
        rw [hn, cond_false] at h
        obtain ⟨h0, h⟩ := ite_some' h
        rw [Bool.and_eq_true] at h0
        obtain ⟨s, hs, h9⟩ := Option.bind_eq_some_iff.1 h
        cases b with
        | true =>
          rw [condEnv_same hb, cond_true] at hs
          obtain ⟨env1, h1, h2, h3, h4⟩ := evP_rel hS hs
          have := join_rel (l := fuel.drop (jKey x y)) h1 h2 h3 (fun t ht => jOK_at h0.1 ht) h4
          exact ⟨_, _, _, .weak (.cond hb (by simpa using this)) rfl fun t => .inl rfl, h9⟩
        | false =>
          rw [condEnv_same hb, cond_false] at hs
          obtain ⟨env1, h1, h2, h3, h4⟩ := evP_rel hS hs
          have := join_rel (l := fuel.drop (jKey x y)) h1 h2 h3 (fun t ht => jOK_at h0.2 ht) h4
          exact ⟨_, _, _, .weak (.cond hb (by simpa using this)) rfl fun t => .inl rfl, h9⟩
    · cases h
  | .block id c, env, L, k, r, h => by
    simp only [evCode] at h
    obtain ⟨e, env1, L1, h1, h2⟩ := evCode_rel hS h
    cases e with
    | normal => exact ⟨_, _, _, .blockOut h1 (by simp), h2⟩
    | exit i =>
      by_cases hi : i = id
      · subst hi
        exact ⟨_, _, _, .blockHit h1, by simpa [blockK] using h2⟩
      · refine ⟨_, _, _, .blockOut h1 (by simpa using hi), ?_⟩
        have : (i == id) = false := by simpa using hi
        simpa [blockK, this] using h2
    | ret => exact ⟨_, _, _, .blockOut h1 (by simp), h2⟩
  | .loop c, env, L, k, r, h => by
    simp only [evCode] at h
    cases hr : renOK C (frzOf (fuel.drop (firstReg c))) with
    | false => rw [hr] at h; cases h
    | true =>
      rw [hr, cond_true] at h
      obtain ⟨e, env', L', h1, h2⟩ := loopK_rel (c := c) (fun h => evCode_rel hS h) hr h
      exact ⟨e, env', L', .loop hr h1, h2⟩
  | .rangeFunc .., env, L, k, r, h => by simp [evCode] at h
  | .scope c, env, L, k, r, h => by
    simp only [evCode] at h
    obtain ⟨e, env1, L1, h1, h2⟩ := evCode_rel hS h
    exact ⟨_, _, _, .scope h1, h2⟩
  | .goto _, env, L, k, r, h => by simp [evCode] at h
  | .refuse _, env, L, k, r, h => by simp [evCode] at h
theorem reg_wp (hC : C.OK) {rid : Nat} {ops : Array Oper} {draw : Bool} {env env' : List AV} {L L' : Heap} (h : RegRel C ops draw env L env' L') {a : Act} {w : World} (hst : St C B w0 S0 ms Ls env L a w)
    {Q : Exit → Act → World → Prop} (hQ : ∀ a' w', St C B w0 S0 ms Ls env' L' a' w' → Q .normal a' w') : (Code.region rid ops draw).wp C.P Q a w := by
  unfold RegRel at h
  have hmore := hst.more (cntIds ops.toList)
  have hres : ∀ i, i < cntIds ops.toList → (L ++ List.replicate (cntIds ops.toList) .resv)[L.length + i]? = some .resv := by
    intro i hi
    rw [List.getElem?_append_right (by omega), List.getElem?_replicate, if_pos (by omega)]
  cases draw with
  | false =>
    simp only [Bool.false_eq_true, if_false] at h
    exact wp_region_list (run_wpList hC hQ ops.toList L.length h hres hmore)
  | true =>
    simp only [if_true] at h
    obtain ⟨fs, hd, h1⟩ := h
    refine wp_region_any hC.mixed (run_wpAny (id0 := L.length) hC hd hQ ops.size (items ops.toList fs 0 L.length) _ ?_ (fun t h => h) ?_ (by simp) (fun i hi => ?_) (left_all _ _) h1 ⟨?_, ?_⟩ hmore.drew)
    · rw [items_len]; simp
    · exact (items_sorted _ _ _ _).imp fun h => h.1
    · have e1 : (Array.replicate ops.size false).getD i true = false := by simp [Array.getD, hi]
      rw [e1]
      simp only [true_iff]
      obtain ⟨t, q1, q2⟩ := items_all ops.toList fs 0 L.length i (by simpa using hi)
      exact ⟨t, List.mem_of_getElem? q1, by omega⟩
    · intro t ht hw
      obtain ⟨_, _, q3, q4⟩ := items_at ht
      have := hres (t.id - L.length) (by have := q4 hw; omega)
      rwa [show L.length + (t.id - L.length) = t.id by omega] at this
    · exact (items_sorted _ _ _ _).imp fun h => h.2
theorem cut_get {L : Heap} {h0 i : Nat} {s : Slot} (h : (cutL h0 L)[i]? = some s) : ∃ r, L[i]? = some r ∧ i < h0 ∧ r.keep (fun j => Nat.blt j h0) = s := by
  obtain ⟨r, h1, h2⟩ := keep_get h
  rw [List.getElem?_take] at h1
  split at h1
  · rename_i hi; exact ⟨r, h1, hi, h2⟩
  · cases h1
theorem get_cut {L : Heap} {h0 i : Nat} {s : Slot} (h : L[i]? = some s) (hi : i < h0) : (cutL h0 L)[i]? = some (s.keep (fun j => Nat.blt j h0)) :=
  get_keep (by rw [List.getElem?_take, if_pos hi]; exact h)
theorem keep_row {f : Nat → Bool} {r : Slot} {t : TypeId} {e : ETy} {xs : List e.I} {ro : Bool} (h : r.keep f = .row t e xs ro) : r = .row t e xs ro := by
  cases r <;> simp [Slot.keep] at h ⊢; exact h
theorem keep_obj {f : Nat → Bool} {r : Slot} {o : Obj'} (h : r.keep f = .obj o) : r = .obj o := by
  cases r <;> simp [Slot.keep] at h ⊢; exact h
theorem keep_box {f : Nat → Bool} {r : Slot} {T : ETy} {x : T.I} {ro : Bool} (h : r.keep f = .box T x ro) : r = .box T x ro := by
  cases r <;> simp [Slot.keep] at h ⊢; exact h
theorem keep_lbx {f : Nat → Bool} {r : Slot} {T : ETy} {x : T.I} {hs : List (Nat × Option Nat)} (h : r.keep f = .lbx T x hs) : ∃ q, r = .lbx T x q ∧ hs = keepH f q := by
  cases r <;> simp [Slot.keep] at h
  obtain ⟨rfl, h, rfl⟩ := h
  cases h
  exact ⟨_, rfl, rfl⟩
mutual
theorem RepA.take {m : Nat → Value} {L : Heap} {w : World} {S : Nat → Nat → Prop} {h0 : Nat} : ∀ {a : AV} {u : Value}, a.ids (fun _ id => decide (id < h0)) = true → RepA m L w S a u → RepA m (cutL h0 L) w S a u
  | .v τ x, u, _, h => by rw [rep_v] at h ⊢; exact h
  | .cst c, u, _, h => by simp only [RepA] at h ⊢; exact h
  | .vp T x p, u, _, h => by simp only [RepA] at h ⊢; exact h
  | .ref id p, u, hx, h => by
    simp only [AV.ids, decide_eq_true_eq] at hx
    simp only [RepA] at h ⊢
    obtain ⟨s, h1, h2, h3, h4⟩ := h
    exact ⟨_, get_cut h1 hx, fun e => h2 (keep_resv.1 e), fun T e => h3 T (by rw [← e, keep_bty]), fun o e => h4 o (keep_obj e)⟩
  | .rref id i p, u, hx, h => by
    simp only [AV.ids, decide_eq_true_eq] at hx
    simp only [RepA] at h ⊢
    obtain ⟨s, h1, h2, h3⟩ := h
    exact ⟨_, get_cut h1 hx, fun e => h2 (keep_resv.1 e), fun t e xs ro q => h3 t e xs ro (keep_row q)⟩
  | .ls id p lo n, u, hx, h => by
    simp only [AV.ids, decide_eq_true_eq] at hx
    simp only [RepA] at h ⊢
    obtain ⟨s, h1, h2, h3⟩ := h
    exact ⟨_, get_cut h1 hx, fun e => h2 (keep_resv.1 e), fun T e => h3 T (by rw [← e, keep_bty])⟩
  | .rs id, u, hx, h => by
    simp only [AV.ids, decide_eq_true_eq] at hx
    simp only [RepA] at h ⊢
    obtain ⟨s, h1, h2, h3⟩ := h
    exact ⟨_, get_cut h1 hx, fun e => h2 (keep_resv.1 e), fun t e xs ro q => h3 t e xs ro (keep_row q)⟩
  | .lr id lo n, u, hx, h => by
    simp only [AV.ids, decide_eq_true_eq] at hx
    simp only [RepA] at h ⊢
    obtain ⟨s, h1, h2, h3⟩ := h
    exact ⟨_, get_cut h1 hx, fun e => h2 (keep_resv.1 e), fun t e xs ro q => h3 t e xs ro (keep_row q)⟩
  | .fn f caps, u, hx, h => by
    simp only [RepA] at h ⊢
    obtain ⟨vs, e, h1⟩ := h
    exact ⟨vs, e, RepAs.take (by simpa [AV.ids] using hx) h1⟩
  | .bm f l, u, hx, h => by
    simp only [RepA] at h ⊢
    obtain ⟨vs, e, h1⟩ := h
    exact ⟨vs, e, RepAs.take (by simpa [AV.ids] using hx) h1⟩
  | .tup l, u, hx, h => by
    simp only [RepA] at h ⊢
    obtain ⟨vs, e, h1⟩ := h
    exact ⟨vs, e, RepAs.take (by simpa [AV.ids] using hx) h1⟩
  | .bt T x q, u, hx, h => by
    simp only [RepA] at h ⊢
    simp only [AV.ids, List.all_eq_true] at hx
    obtain ⟨k0, cs, ds, h1, h2, h3, h4, h5, h6⟩ := h
    refine ⟨k0, cs, ds, h1, h2, h3, h4, h5, fun o rid hr => ?_⟩
    obtain ⟨v, k1, s, k2, k3, k4⟩ := h6 o rid hr
    have hlt : rid < h0 := by simpa using hx _ hr
    exact ⟨v, k1, _, get_cut k2 hlt, fun e => k3 (keep_resv.1 e), fun t e xs ro q => k4 t e xs ro (keep_row q)⟩
  | .bz T x os, u, _, h => by simp only [RepA] at h ⊢; exact h
  | .dead, u, _, h => by simp only [RepA]
theorem RepAs.take {m : Nat → Value} {L : Heap} {w : World} {S : Nat → Nat → Prop} {h0 : Nat} : ∀ {a : List AV} {u : List Value}, AV.idsL (fun _ id => decide (id < h0)) a = true → RepAs m L w S a u → RepAs m (cutL h0 L) w S a u
  | [], u, _, h => by simp only [RepAs] at h ⊢; exact h
  | x :: xs, u, hx, h => by
    simp only [AV.idsL, Bool.and_eq_true] at hx
    simp only [RepAs] at h ⊢
    obtain ⟨y, r, rfl, h1, h2⟩ := h
    exact ⟨y, r, rfl, h1.take hx.1, RepAs.take hx.2 h2⟩
end
theorem LinkOK.cut {m : Nat → Value} {L : Heap} {h0 rid : Nat} {u : Value} (hr : rid < h0) (h : LinkOK m L rid u) : LinkOK m (cutL h0 L) rid u := by
  obtain ⟨s, h1, h2, h3⟩ := h
  exact ⟨_, get_cut h1 hr, fun e => h2 (keep_resv.1 e), fun t e xs ro q => h3 t e xs ro (keep_row q)⟩
theorem Inv.take {m : Nat → Value} {L : Heap} {w : World} {S : Nat → Nat → Prop} (h : Inv B m L w S) (h0 : Nat) : Inv B m (cutL h0 L) w S where
  base := h.base
  box id T x ro e := by
    obtain ⟨r, h1, _, h2⟩ := cut_get e
    rw [keep_box h2] at h1
    exact h.box id T x ro h1
  row id t e xs ro q := by
    obtain ⟨r, h1, _, h2⟩ := cut_get q
    rw [keep_row h2] at h1
    exact h.row id t e xs ro h1
  obj id o e := by
    obtain ⟨r, h1, _, h2⟩ := cut_get e
    rw [keep_obj h2] at h1
    exact h.obj id o h1
  lbx id T x hs e := by
    obtain ⟨r, h1, _, h2⟩ := cut_get e
    obtain ⟨q, rfl, rfl⟩ := keep_lbx h2
    obtain ⟨b, cs, ds, el, fr, k1, k2, k3, k4, k5, k6, k6', k7, k8⟩ := h.lbx id T x q h1
    refine ⟨b, cs, ds, el, fr, k1, k2, k3, k4, k5, k6, k6', fun o ho => k7 o (lk_keep_none ho), fun o rid hr => ?_⟩
    obtain ⟨u, q1, q2⟩ := k8 o rid (lk_keep_some hr).1
    exact ⟨u, q1, q2.cut (by have := (lk_keep_some hr).2; simp [Nat.blt] at this; omega)⟩
  apart i j s r hij e1 e2 l1 l2 := by
    obtain ⟨s1, h1, _, rfl⟩ := cut_get e1
    obtain ⟨s2, h2, _, rfl⟩ := cut_get e2
    rw [keep_live] at l1 l2
    exact h.apart i j s1 s2 hij h1 h2 l1 l2
  prot b o hs := ⟨(h.prot b o hs).1, fun i s e hl hb => by
    obtain ⟨s1, h1, _, rfl⟩ := cut_get e
    rw [keep_live] at hl
    rw [keep_ro, keep_cells]
    exact (h.prot b o hs).2 i s1 h1 hl hb⟩
theorem forget_len {h0 : Nat} : ∀ {mask : List Bool} {env : List AV}, (forget h0 mask env).length = env.length
  | mask, [] => by cases mask with | nil => rfl | cons b _ => cases b <;> rfl
  | [], a :: as => by simp [forget, forget_len]
  | false :: ms, a :: as => by simp [forget, forget_len]
  | true :: ms, a :: as => by simp [forget, forget_len]
theorem forget_at {m : Nat → Value} {L : Heap} {w : World} {S : Nat → Nat → Prop} {h0 : Nat} : ∀ {mask : List Bool} {env : List AV} {t : Nat} {u : Value}, RepA m L w S (env.getD t .dead) u → RepA m (cutL h0 L) w S ((forget h0 mask env).getD t .dead) u
  | mask, [], t, u, h => by cases mask with | nil => simp [forget, RepA] | cons b _ => cases b <;> simp [forget, RepA]
  | [], a :: as, 0, u, h => by simp [forget, RepA]
  | [], a :: as, t + 1, u, h => by simpa [forget] using forget_at (mask := []) (env := as) (t := t) (by simpa using h)
  | true :: ms, a :: as, 0, u, h => by simp [forget, RepA]
  | true :: ms, a :: as, t + 1, u, h => by simpa [forget] using forget_at (mask := ms) (env := as) (t := t) (by simpa using h)
  | false :: ms, a :: as, t + 1, u, h => by simpa [forget] using forget_at (mask := ms) (env := as) (t := t) (by simpa using h)
  | false :: ms, a :: as, 0, u, h => by
    have h : RepA m L w S a u := by simpa using h
    simp only [forget, List.getD_cons_zero]
    cases hx : a.ids (fun _ id => decide (id < h0)) with
    | true => exact h.take hx
    | false => simp only [cond_false, RepA]
theorem forget_at0 {m : Nat → Value} {L : Heap} {w : World} {S : Nat → Nat → Prop} {h0 : Nat} : ∀ {mask : List Bool} {env : List AV} {t : Nat} {u : Value}, RepA m L w S (env.getD t .dead) u → RepA m L w S ((forget h0 mask env).getD t .dead) u
  | mask, [], t, u, h => by cases mask with | nil => simp [forget, RepA] | cons b _ => cases b <;> simp [forget, RepA]
  | [], a :: as, 0, u, h => by simp [forget, RepA]
  | [], a :: as, t + 1, u, h => by simpa [forget] using forget_at0 (mask := []) (env := as) (t := t) (by simpa using h)
  | true :: ms, a :: as, 0, u, h => by simp [forget, RepA]
  | true :: ms, a :: as, t + 1, u, h => by simpa [forget] using forget_at0 (mask := ms) (env := as) (t := t) (by simpa using h)
  | false :: ms, a :: as, t + 1, u, h => by simpa [forget] using forget_at0 (mask := ms) (env := as) (t := t) (by simpa using h)
  | false :: ms, a :: as, 0, u, h => by
    have h : RepA m L w S a u := by simpa using h
    simp only [forget, List.getD_cons_zero]
    cases hx : a.ids (fun _ id => decide (id < h0)) with
    | true => exact h
    | false => simp only [cond_false, RepA]
def Past (Ls : Heap) (h0 : Nat) : Prop := ∀ (id : Nat) (s : Slot), Ls[id]? = some s → s ≠ .resv → id < h0
theorem St.past {env : List AV} {L : Heap} {a : Act} {w : World} (h : St C B w0 S0 ms Ls env L a w) : Past Ls L.length := by
  obtain ⟨m, S, hI, hE, hG, hb, hs, hnew, hx, hd⟩ := h
  intro id s hs hr
  obtain ⟨s', q1, _⟩ := hx.ext id s hs hr
  exact (List.getElem?_eq_some_iff.1 q1).1
theorem St.forget0 {env : List AV} {L : Heap} {a : Act} {w : World} (h : St C B w0 S0 ms Ls env L a w) (h0 : Nat) (mask : List Bool) : St C B w0 S0 ms Ls (forget h0 mask env) L a w := by
  obtain ⟨m, S, hI, hE, hG, hb, hs, hnew, hx, hd⟩ := h
  exact ⟨m, S, hI, ⟨by rw [forget_len]; exact hE.size, fun t => forget_at0 (hE.at_ t)⟩, hG, hb, hs, hnew, hx, hd⟩
theorem St.forget {env : List AV} {L : Heap} {a : Act} {w : World} (h : St C B w0 S0 ms Ls env L a w) (h0 : Nat) (hp : Past Ls h0) (mask : List Bool) : St C B w0 S0 ms Ls (forget h0 mask env) (cutL h0 L) a w := by
  obtain ⟨m, S, hI, hE, hG, hb, hs, hnew, hx, hd⟩ := h
  refine ⟨m, S, hI.take h0, ⟨by rw [forget_len]; exact hE.size, fun t => forget_at (hE.at_ t)⟩, hG, hb, hs, hnew, ⟨fun id s hs hr => ?_⟩, hd⟩
  obtain ⟨s', q1, q2, q3, q4, q5⟩ := hx.ext id s hs hr
  exact ⟨_, get_cut q1 (hp id s hs hr), fun e => q2 (keep_resv.1 e), fun T e => q3 T (by rw [← e, keep_bty]), fun o e => q4 o (keep_obj e), fun t e xs ro hX q => q5 t e xs ro hX (keep_row q)⟩
theorem Goes.ren {m : Nat → Value} {L : Heap} {w : World} {S : Nat → Nat → Prop} (hI : Inv B m L w S) {id id0 : Nat} {te : TypeId} {e : ETy} {xs : List e.I} {ro : Bool} (hid : L[id]? = some (.row te e xs ro)) (h0 : L[id0]? = some .gone) :
    Goes B (fun i => i == id0) m L w S (upd m id0 (m id)) (keepL (fun j => !(j == id0 || j == id)) ((L.set id .gone).set id0 (.row te e xs ro))) w S := by
  have hne : id ≠ id0 := fun q => by subst q; rw [hid] at h0; cases h0
  have h0' : (L.set id .gone)[id0]? = some .gone := by rw [get_set ⟨_, hid⟩, if_neg (Ne.symm hne)]; exact h0
  have get : ∀ {j : Nat} {s : Slot}, ((L.set id Slot.gone).set id0 (.row te e xs ro))[j]? = some s → s.live = true → (j = id0 ∧ s = .row te e xs ro) ∨ (j ≠ id0 ∧ j ≠ id ∧ L[j]? = some s) := by
    intro j s h hl
    rw [get_set ⟨_, h0'⟩] at h
    split at h
    · rename_i q; cases h; exact .inl ⟨q, rfl⟩
    · rename_i q
      rw [get_set ⟨_, hid⟩] at h
      split at h
      · cases h; cases hl
      · rename_i q2; exact .inr ⟨q, q2, h⟩
  have put : ∀ {j : Nat}, j ≠ id0 → j ≠ id → ((L.set id Slot.gone).set id0 (.row te e xs ro))[j]? = L[j]? := by
    intro j q1 q2
    rw [get_set ⟨_, h0'⟩, if_neg q1, get_set ⟨_, hid⟩, if_neg q2]
  have hX : Ext (fun i => i == id0) m L (upd m id0 (m id)) ((L.set id .gone).set id0 (.row te e xs ro)) := by
    refine ⟨fun j s hs hr => ?_⟩
    by_cases q1 : j = id0
    · subst q1
      refine ⟨_, by rw [get_set ⟨_, h0'⟩, if_pos rfl], by simp, fun T h => (by cases h), fun o h => (by cases h), fun t e xs ro hx h => ?_⟩
      simp at hx
    · by_cases q2 : j = id
      · subst q2
        exact ⟨.gone, by rw [get_set ⟨_, h0'⟩, if_neg hne, get_set ⟨_, hid⟩, if_pos rfl], by simp, fun T h => (by cases h), fun o h => (by cases h), fun t e xs ro _ h => (by cases h)⟩
      · exact ⟨s, by rw [put q1 q2]; exact hs, hr, fun T h => ⟨upd_ne q1, h⟩, fun o h => ⟨fun u sv h => ⟨sv, by rw [upd_ne q1]; exact h⟩, o, h⟩, fun t e xs ro _ h => ⟨upd_ne q1, xs, ro, h, Nat.le_refl _⟩⟩
  refine ⟨Inv.keep_of hI.base ?_ ?_ ?_ ?_ ?_ ?_, Safe.refl _ _, Below.refl _ _, hX.keep _, fun _ _ h => .inl h⟩
  · intro j T x ro h
    rcases get h rfl with ⟨_, h'⟩ | ⟨h1, h2, h3⟩
    · cases h'
    · rw [upd_ne h1]; exact hI.box j T x ro h3
  · intro j t' e' ys ro' h
    rcases get h rfl with ⟨h1, h'⟩ | ⟨h1, h2, h3⟩
    · cases h'
      subst h1
      rw [upd_same]
      exact hI.row id te e xs ro hid
    · rw [upd_ne h1]; exact hI.row j t' e' ys ro' h3
  · intro j o h
    rcases get h rfl with ⟨_, h'⟩ | ⟨h1, h2, h3⟩
    · cases h'
    · rw [upd_ne h1]; exact hI.obj j o h3
  · intro j T x hs h
    rcases get h rfl with ⟨_, h'⟩ | ⟨h1, h2, h3⟩
    · cases h'
    · rw [upd_ne h1]
      obtain ⟨b, cs, ds, el, fr, p1, p2, p3, p4, p5, p6, p7, p8, p9⟩ := hI.lbx j T x hs h3
      refine ⟨b, cs, ds, el, fr, p1, p2, p3, p4, p5, p6, p7, fun o ho => p8 o (lk_keep_none ho), fun o rid ho => ?_⟩
      obtain ⟨q1, q2⟩ := lk_keep_some ho
      obtain ⟨u, r1, s, r2, r3, r4⟩ := p9 o rid q1
      simp only [Bool.not_eq_true', Bool.or_eq_false_iff, beq_eq_false_iff_ne, ne_eq] at q2
      refine ⟨u, r1, _, get_keep ((put q2.1 q2.2).trans r2), fun q => r3 (keep_resv.1 q), fun t e xs ro q => ?_⟩
      rw [upd_ne q2.1]
      exact r4 t e xs ro (keep_row q)
  · intro i j s r hij h1 h2 l1 l2
    rcases get h1 l1 with ⟨p1, rfl⟩ | ⟨p1, p2, p3⟩ <;> rcases get h2 l2 with ⟨q1, rfl⟩ | ⟨q1, q2, q3⟩
    · exact absurd (p1.trans q1.symm) hij
    · subst p1
      rw [upd_same, upd_ne q1]
      exact hI.apart id j _ r (Ne.symm q2) hid q3 rfl l2
    · subst q1
      rw [upd_same, upd_ne p1]
      exact hI.apart i id s _ p2 p3 hid l1 rfl
    · rw [upd_ne p1, upd_ne q1]; exact hI.apart i j s r hij p3 q3 l1 l2
  · intro b o h
    obtain ⟨p1, p2⟩ := hI.prot b o h
    refine ⟨p1, fun i s hs hl hb => ?_⟩
    rcases get hs hl with ⟨q1, rfl⟩ | ⟨q1, q2, q3⟩
    · subst q1
      rw [upd_same] at hb
      exact p2 id _ hid rfl hb
    · rw [upd_ne q1] at hb; exact p2 i s q3 hl hb
theorem St.ren {env : List AV} {L : Heap} {a : Act} {w : World} (h : St C B w0 S0 ms Ls env L a w) {t id0 : Nat} (hY : C.Y id0 = true) : St C B w0 S0 ms Ls (renL t id0 env L).1 (renL t id0 env L).2 a w := by
  unfold renL
  split
  · rename_i id ht
    cases (id == id0) with
    | true => exact h
    | false =>
      rw [cond_false]
      split
      · rename_i te e xs ro hid h0
        obtain ⟨m, S, hI, hE, hG, hb, hs, hnew, hx, hd⟩ := h
        have g := Goes.ren hI hid h0
        have hne : id ≠ id0 := fun q => by subst q; rw [hid] at h0; cases h0
        have hu := hE.at_ t
        rw [ht] at hu
        simp only [RepA] at hu
        obtain ⟨s, q1, _, q3⟩ := hu
        rw [hid] at q1; cases q1
        have hu := q3 te e xs ro rfl
        have hE' := hE.go g
        have h0' : (L.set id .gone)[id0]? = some .gone := by rw [get_set ⟨_, hid⟩, if_neg (Ne.symm hne)]; exact h0
        refine ⟨_, S, g.inv, ⟨by rw [List.length_set]; exact hE'.size, fun q => ?_⟩, hG.go g.safe g.below, hb.trans g.below, hs.trans g.safe, fun b o h => (g.new b o h).elim (hnew b o) .inr, hx.trans (g.ext.mono fun i hi => ?_), hd⟩
        · by_cases hq : t = q
          · subst hq
            by_cases hlt : t < (env.map (scrubA fun i => i == id0)).length
            · simp only [List.getD_eq_getElem?_getD, List.getElem?_set_self hlt, Option.getD_some]
              simp only [RepA]
              refine ⟨_, get_keep (by rw [get_set ⟨_, h0'⟩, if_pos rfl]), by simp [Slot.keep], fun t' e' ys ro' h => ?_⟩
              rw [upd_same]; exact hu
            · simp only [List.getD_eq_getElem?_getD]
              rw [List.getElem?_eq_none (by rw [List.length_set]; omega)]
              simp only [Option.getD_none, RepA]
          · have := hE'.at_ q
            simp only [List.getD_eq_getElem?_getD, List.getElem?_set_ne hq] at this ⊢
            exact this
        · have : i = id0 := by simpa using hi
          subst this; exact hY
      · exact h
  · exact h
theorem St.frz : ∀ (fz : List Nat) (hr : renOK C fz = true) {env : List AV} {L : Heap} {a : Act} {w : World}, St C B w0 S0 ms Ls env L a w → St C B w0 S0 ms Ls (frzL fz env L).1 (frzL fz env L).2 a w
  | [], hr, env, L, a, w, h => h
  | t :: ts, hr, env, L, a, w, h => by
    unfold renOK at hr
    unfold frzL
    cases ht0 : Nat.ble 1000000 t with
    | true =>
      rw [ht0, cond_true, Bool.and_eq_true] at hr
      rw [cond_true]
      exact St.frz ts hr.2 (h.ren hr.1)
    | false =>
    rw [ht0, cond_false] at hr
    rw [cond_false]
    split
    · rename_i id ht
      split
      · rename_i te e xs ro hL
        refine St.frz ts hr ?_
        obtain ⟨m, S, hI, hE, hG, hb, hs, hnew, hx, hd⟩ := h
        obtain ⟨S', g, hk⟩ := mark1_goes (m := m) (w := w) hI id (fun _ => false)
        have hE' := hE.go0 (fun _ => rfl) g
        have hr := hE'.at_ t
        rw [ht] at hr
        have hlift : liftA (mark1 L id) (.slice e) (.rs id) = some xs := by
          unfold liftA mark1
          rw [hL]
          simp only [get_set ⟨_, hL⟩, if_pos, Slot.mark]
          simp [castI]
        have hv := lift_rep g.inv hr (fun j hj => by cases hj; exact hk) hlift
        refine ⟨m, S', g.inv, ⟨by rw [List.length_set]; exact hE'.size, fun q => ?_⟩, hG.go g.safe g.below, hb.trans g.below, hs.trans g.safe, fun b o h => (g.new b o h).elim (hnew b o) .inr, hx.trans (g.ext.mono fun _ h => by cases h), hd⟩
        by_cases hq : t = q
        · subst hq
          by_cases hlt : t < env.length
          · simp only [List.getD_eq_getElem?_getD, List.getElem?_set_self hlt, Option.getD_some]
            rw [rep_v]; exact hv
          · simp only [List.getD_eq_getElem?_getD]
            rw [List.getElem?_eq_none (by simp; omega)]
            simp only [Option.getD_none, RepA]
        · have := hE'.at_ q
          simp only [List.getD_eq_getElem?_getD, List.getElem?_set_ne hq] at this ⊢
          exact this
      · exact St.frz ts hr h
    · exact St.frz ts hr h
theorem Ex.then_ne {e : Ex} (h : e ≠ .normal) {K : Act → World → Prop} {Q : Exit → Act → World → Prop} {a : Act} {w : World} (hq : Q e.to a w) : Exit.then K Q e.to a w := by
  cases e with
  | normal => exact absurd rfl h
  | exit id => exact hq
  | ret => exact hq
theorem Ex.inBlock_ne {e : Ex} {id : Nat} (h : e ≠ .exit id) {Q : Exit → Act → World → Prop} {a : Act} {w : World} (hq : Q e.to a w) : Exit.inBlock id Q e.to a w := by
  cases e with
  | normal => exact hq
  | exit i =>
    have : i ≠ id := fun e => h (by rw [e])
    simp [Ex.to, Exit.inBlock, this] at hq ⊢
    exact hq
  | ret => exact hq
theorem Ex.noGoto {e : Ex} {Q : Exit → Act → World → Prop} {a : Act} {w : World} (hq : Q e.to a w) : Exit.noGoto Q e.to a w := by
  cases e <;> exact hq
theorem St.frzB : ∀ (l : List Nat) {env : List AV} {L : Heap} {a : Act} {w : World}, St C B w0 S0 ms Ls env L a w → St C B w0 S0 ms Ls env (frzB l L) a w
  | [], _, _, _, _, h => h
  | i :: l, _, _, _, _, hst => by
    obtain ⟨m, S, hI, hE, hG, hb, hs, hnew, hx, hd⟩ := hst
    obtain ⟨S1, g⟩ := frzN_goes 0 i (fun _ => false) 6 hI
    exact St.frzB l ⟨m, S1, g.inv, hE.go0 (fun _ => rfl) g, hG.go g.safe g.below, hb.trans g.below, hs.trans g.safe, fun b o h => (g.new b o h).elim (hnew b o) .inr, hx.trans (g.ext.mono (fun _ h => by cases h)), hd⟩
mutual
theorem code_wp (hC : C.OK) {c : Code} {env : List AV} {L : Heap} {e : Ex} {env' : List AV} {L' : Heap} : CodeRel C c env L e env' L' → ∀ (a : Act) (w : World) (Q : Exit → Act → World → Prop), St C B w0 S0 ms Ls env L a w → (∀ a' w', St C B w0 S0 ms Ls env' L' a' w' → Q e.to a' w') → c.wp C.P Q a w
  | .skip, a, w, Q, hst, hQ => wp_skip (hQ a w hst)
  | .label, a, w, Q, hst, hQ => wp_label (hQ a w hst)
  | .exit, a, w, Q, hst, hQ => wp_exit (hQ a w hst)
  | .ret, a, w, Q, hst, hQ => wp_ret (hQ a w hst)
  | .region h, a, w, Q, hst, hQ => reg_wp hC h hst hQ
  | .seqN h k, a, w, Q, hst, hQ => wp_seq (code_wp hC h a w _ hst fun a' w' hst' => code_wp hC k a' w' Q hst' hQ)
  | .seqX h he, a, w, Q, hst, hQ => wp_seq (code_wp hC h a w _ hst fun a' w' hst' => Ex.then_ne he (hQ a' w' hst'))
  | .cond (c := c) (b := b) hc h, a, w, Q, hst, hQ => by
    have hst' := hst
    obtain ⟨m, S, hI, hE, hG, _⟩ := hst'
    have hev := hE.eval hG c
    rw [hc, rep_bool] at hev
    exact wp_cond (t := b) hev (code_wp hC h a w Q hst hQ)
  | .blockHit h, a, w, Q, hst, hQ => wp_block (code_wp hC h a w _ hst fun a' w' hst' => by
      have := hQ a' w' hst'
      simpa [Ex.to, Exit.inBlock] using this)
  | .blockOut h he, a, w, Q, hst, hQ => wp_block (code_wp hC h a w _ hst fun a' w' hst' => Ex.inBlock_ne he (hQ a' w' hst'))
  | .scope h, a, w, Q, hst, hQ => wp_scope_straight (code_wp hC h a w _ hst fun a' w' hst' => Ex.noGoto (hQ a' w' hst'))
  | .weak h hl hw, a, w, Q, hst, hQ => code_wp hC h a w Q hst fun a' w' hst' => hQ a' w' (by
      obtain ⟨m, S, hI, hE, r⟩ := hst'
      refine ⟨m, S, hI, ⟨by rw [hl]; exact hE.size, fun t => ?_⟩, r⟩
      rcases hw t with h | h
      · rw [h]; exact hE.at_ t
      · rw [h]; simp only [RepA])
  | .frz h, a, w, Q, hst, hQ => code_wp hC h a w Q (St.frzB _ hst) hQ
  | .loop hr h, a, w, Q, hst, hQ => by
    obtain ⟨n, hn⟩ := loop_wp hC h
    rename_i mask fz
    have hst' := (St.frz fz hr hst).forget0 L.length mask
    exact wp_loop_rounds n (hn a w Q hst.past hst' hQ)
theorem loop_wp (hC : C.OK) {c : Code} {mask : List Bool} {h0 : Nat} {env : List AV} {L : Heap} {e : Ex} {env' : List AV} {L' : Heap} : LoopRel C c mask h0 env L e env' L' → ∃ n, ∀ (a : Act) (w : World) (Q : Exit → Act → World → Prop), Past Ls h0 → St C B w0 S0 ms Ls env L a w → (∀ a' w', St C B w0 S0 ms Ls env' L' a' w' → Q e.to a' w') → Code.rounds C.P c Q n a w
  | .stop h he => ⟨1, fun a w Q _ hst hQ => code_wp hC h a w _ hst fun a' w' hst' => Ex.then_ne he (hQ a' w' hst')⟩
  | .more hr h k => by
    obtain ⟨n, hn⟩ := loop_wp hC k
    exact ⟨n + 1, fun a w Q hp hst hQ => code_wp hC h a w _ hst fun a' w' hst' => hn a' w' Q hp ((St.frz _ hr hst').forget _ hp _) hQ⟩
end
end
end
section
set_option linter.unusedVariables false
set_option linter.unusedSimpArgs false
set_option maxHeartbeats 400000
def resA (C : Cfg) (env : List AV) (L : Heap) : ResultVar → Option AV
  | .tmp t => some (datA (env.getD t .dead))
  | .cell a t => (loadA C t L (env.getD a .dead)).bind fun r => bif r.1 then some r.2 else none
def resL (C : Cfg) (env : List AV) (L : Heap) : List ResultVar → Option (List AV)
  | [] => some []
  | r :: l => (resA C env L r).bind fun a => (resL C env L l).map fun as => a :: as
def tupA : List AV → AV
  | [b] => b
  | bs => .tup bs
def fnRes (C : Cfg) (fn : Func) (env : List AV) (L : Heap) : Option AV :=
  (resL C env L fn.results.toList).bind fun as => (handL C (markIds L (as.flatMap ownOf)) fn.resultTypes.toList as).map tupA
def finK {Ω : Type} (C : Cfg) (fn : Func) (k : AV → Option Ω) : Kont Ω
  | .exit _, _, _ => none
  | .normal, env, L => (fnRes C fn env L).bind k
  | .ret, env, L => (fnRes C fn env L).bind k
def evFn {Ω : Type} (C : Cfg) (spec : Spec) (fuel : Fuel) (fn : Func) (c : Code) (args : List AV) (k : AV → Option Ω) : Option Ω :=
  evCode C spec fuel c (args ++ List.replicate (fn.ntmps - args.length) .dead) [] (finK C fn k)
section
variable {Ω : Type} {C : Cfg} {spec : Spec}
def rvSem (tmps : Array Value) : ResultVar → Sem Value
  | .tmp t => pure (tmps.getD t undef)
  | .cell a t => do loadVar t (← asAddr (tmps.getD a undef))
theorem results_eq (fn : Func) (tmps : Array Value) : results fn tmps = (do
  let vs ← fn.results.mapM (rvSem tmps)
  pure (if h : vs.size = 1 then vs[0] else .tuple vs)) := rfl
theorem load_addr {P : Program} {t : TypeId} {x u : Value} {w w' : World} (h : (Instr.loadAt t x).run P w = .ok u w') : (do loadVar t (← asAddr x) : Sem Value).run P w = .ok u w' := by
  unfold Instr.loadAt at h
  unfold Instr.sureAddr at h
  split at h
  · simpa [asAddr] using h
  · simp [stuck] at h
theorem resL_gives (hC : C.OK) {B : Nat} {m : Nat → Value} {L : Heap} {w : World} {S : Nat → Nat → Prop} {env : List AV} {tmps : Array Value} (hI : Inv B m L w S) (hE : RepE m L w S env tmps) : ∀ {l : List ResultVar} {as : List AV}, resL C env L l = some as →
    ∃ us, (l.mapM (rvSem tmps)).run C.P w = .ok us w ∧ RepAs m L w S as us
  | [], as, h => by
    simp only [resL, Option.some.injEq] at h
    subst h
    exact ⟨[], by simp, by simp only [RepAs]⟩
  | r :: l, as, h => by
    simp only [resL, Option.bind_eq_some_iff, Option.map_eq_some_iff] at h
    obtain ⟨a, h1, as', h2, rfl⟩ := h
    obtain ⟨us, e1, e2⟩ := resL_gives hC hI hE h2
    cases r with
    | tmp t =>
      simp only [resA, Option.some.injEq] at h1
      subst h1
      refine ⟨tmps.getD t undef :: us, ?_, ?_⟩
      · simp only [List.mapM_cons, rvSem, Sem.run_bind, Sem.run_pure, Result.andThen_ok, e1]
      · simp only [RepAs]; exact ⟨_, _, rfl, datA_rep (hE.at_ t), e2⟩
    | cell x t =>
      simp only [resA, Option.bind_eq_some_iff] at h1
      obtain ⟨⟨b, a'⟩, h3, h4⟩ := h1
      cases b with
      | false => cases h4
      | true =>
        simp only [cond_true, Option.some.injEq] at h4
        subst h4
        obtain ⟨u, r1, r2⟩ := gives_load hC hI (hE.at_ x) _ h3
        refine ⟨u :: us, ?_, ?_⟩
        · have r3 : (rvSem tmps (.cell x t)).run C.P w = .ok u w := load_addr r1
          simp only [List.mapM_cons, Sem.run_bind, r3, Sem.run_pure, Result.andThen_ok, e1]
        · simp only [RepAs]; exact ⟨_, _, rfl, r2, e2⟩
theorem repAs_len {m : Nat → Value} {L : Heap} {w : World} {S : Nat → Nat → Prop} : ∀ {as : List AV} {us : List Value}, RepAs m L w S as us → as.length = us.length
  | [], us, h => by simp only [RepAs] at h; subst h; rfl
  | a :: as, us, h => by
    simp only [RepAs] at h
    obtain ⟨u, r, rfl, _, h2⟩ := h
    simp [repAs_len h2]
theorem repAs_getD {m : Nat → Value} {L : Heap} {w : World} {S : Nat → Nat → Prop} (n : Nat) : ∀ {as : List AV} {us : List Value}, RepAs m L w S as us → ∀ t, RepA m L w S ((as ++ List.replicate n AV.dead).getD t .dead) ((us ++ List.replicate n undef).getD t undef)
  | [], us, h, t => by
    have : (([] : List AV) ++ List.replicate n AV.dead).getD t .dead = .dead := by
      simp only [List.nil_append, List.getD_eq_getElem?_getD, List.getElem?_replicate]
      split <;> rfl
    rw [this]; simp only [RepA]
  | a :: as, us, h, t => by
    simp only [RepAs] at h
    obtain ⟨u, r, rfl, h1, h2⟩ := h
    cases t with
    | zero => simpa using h1
    | succ t => simpa using repAs_getD n h2 t
theorem tup_rep {m : Nat → Value} {L : Heap} {w : World} {S : Nat → Nat → Prop} {bs : List AV} {us : List Value} (h : RepAs m L w S bs us) : RepA m L w S (tupA bs) (if h : us.toArray.size = 1 then us.toArray[0] else .tuple us.toArray) := by
  match bs, us, h with
  | [], us, h => simp only [RepAs] at h; subst h; simp only [tupA, RepA]; exact ⟨[], rfl, by simp only [RepAs]⟩
  | [b], us, h =>
    simp only [RepAs] at h
    obtain ⟨u, r, rfl, h1, rfl⟩ := h
    simpa [tupA] using h1
  | b :: c :: bs, us, h =>
    have h' := h
    simp only [RepAs] at h
    obtain ⟨u, r, rfl, h1, u2, r2, rfl, h2⟩ := h
    simp only [tupA, RepA]
    exact ⟨_, by simp, h'⟩
theorem fn_contract (hC : C.OK) (hS : SpecOK C spec) {fuel : Fuel} {f : FuncId} {fn : Func} {c : Code} (hf : C.P.funcs[f]? = some fn) (hb : fn.body = some c) (hn : (fn.name == "runtime.NumGoroutine") = false)
    {args : List AV} {k : AV → Option Ω} {r : Ω} (h : evFn C spec fuel fn c args k = some r) : ∃ av, k av = some r ∧ Contract C f args av := by
  unfold evFn at h
  obtain ⟨e, env', L', h1, h2⟩ := evCode_rel hS h
  have h3 : e ≠ .exit 0 → ∃ av, fnRes C fn env' L' = some av ∧ k av = some r ∧ ∀ i, e ≠ .exit i := by
    intro _
    cases e with
    | exit i => cases h2
    | normal => obtain ⟨av, p, q⟩ := Option.bind_eq_some_iff.1 h2; exact ⟨av, p, q, by simp⟩
    | ret => obtain ⟨av, p, q⟩ := Option.bind_eq_some_iff.1 h2; exact ⟨av, p, q, by simp⟩
  obtain ⟨av, h4, h5, hne⟩ := h3 (fun e0 => by subst e0; cases h2)
  refine ⟨av, h5, ⟨fun us w => ?_, fun w S us hlt hG hrep => ?_⟩⟩
  · have hpn : (program.run C.P w : Result Program) = .ok C.P w := rfl
    simp only [callFunc, Sem.run_bind, hpn, Result.andThen_ok, hf, hn, hb, Bool.false_eq_true, if_false, Option.isNone_some, Sem.run_pure]
  · refine calls_of_wp hf hb ?_
    have hlen := repAs_len hrep
    have hst : St C w.heap.size w S m0 [] (args ++ List.replicate (fn.ntmps - args.length) .dead) [] { tmps := us.toArray ++ Array.replicate (fn.ntmps - us.toArray.size) undef, defers := [] } w := by
      refine ⟨m0, S, ⟨Nat.le_refl _, by simp, by simp, by simp, by simp, by simp, fun b o hs => ⟨hlt b o hs, by simp⟩⟩, ⟨by simp [hlen], fun t => ?_⟩, hG, Below.refl _ _, Safe.refl _ _, fun _ _ h => .inl h, ⟨by simp⟩, rfl⟩
      have := repAs_getD (fn.ntmps - args.length) hrep t
      rw [List.getD_eq_getElem?_getD (l := us ++ _)] at this
      have harr : us.toArray ++ Array.replicate (fn.ntmps - us.toArray.size) undef = (us ++ List.replicate (fn.ntmps - us.length) undef).toArray := by apply Array.ext'; simp
      show RepA m0 [] w S _ ((us.toArray ++ Array.replicate (fn.ntmps - us.toArray.size) undef).getD t undef)
      rw [harr, Array.getD_eq_getD_getElem?, List.getElem?_toArray, ← hlen]
      exact this
    refine code_wp hC h1 _ w _ hst ?_
    intro a' w' hst'
    obtain ⟨m, S', hI, hE, hG', hbel, hsafe, hnew, _, hd⟩ := hst'
    have hpost : a'.defers = [] ∧ ∃ v, (results fn a'.tmps).run C.P w' = .ok v w' ∧ ∃ u S2, Ending.returned v = .returned u ∧ Below w.heap.size w w' ∧ Safe S S2 w w' ∧ (∀ b o, S2 b o → (S b o ∨ w.heap.size ≤ b) ∧ b < w'.heap.size) ∧ RepA m0 [] w' S2 av u := by
      refine ⟨hd, ?_⟩
      simp only [fnRes, Option.bind_eq_some_iff, Option.map_eq_some_iff] at h4
      obtain ⟨as, q1, bs, q2, rfl⟩ := h4
      obtain ⟨us', r1, r2⟩ := resL_gives hC hI hE q1
      obtain ⟨S1, g1, _, k1⟩ := markIds_goes (m := m) (w := w') (fun _ => false) (as.flatMap ownOf) hI
      have r3 := noX_L (fun _ => rfl) g1 r2
      have r4 := handL_rep (C := C) g1.inv r3 (fun a ha id hid => k1 id (List.mem_flatMap.2 ⟨a, ha, hid⟩)) q2
      refine ⟨_, ?_, _, S1, rfl, hbel, hsafe.trans g1.safe, fun b o hs => ⟨?_, (g1.inv.prot b o hs).1⟩, tup_rep r4⟩
      · rw [results_eq, Array.mapM_eq_mapM_toList]
        simp only [bind_map_left, Sem.run_bind, r1, Result.andThen_ok, Sem.run_pure]
      · rcases g1.new b o hs with h | h
        · exact hnew b o h
        · exact .inr h
    cases e with
    | exit i => exact absurd rfl (hne i)
    | normal => exact hpost
    | ret => exact hpost
end
end
section
set_option linter.unusedVariables false
set_option linter.unusedSimpArgs false
set_option maxHeartbeats 400000
def bs (l : List UInt8) : ByteArray := ⟨l.toArray⟩
def getI (τ : ETy) : AV → Option τ.I
  | .v σ x => castI σ τ x
  | _ => none
theorem getI_eq {τ : ETy} {a : AV} {x : τ.I} (h : getI τ a = some x) : a = .v τ x := by
  cases a with
  | v σ y =>
    obtain ⟨e, rfl⟩ := castI_eq h
    subst e
    rfl
  | _ => simp [getI] at h
abbrev Ent := ∀ {Ω : Type}, List AV → (AV → Option Ω) → Option Ω
def EntOK (C : Cfg) (g : FuncId) (e : Ent) : Prop := ∀ {Ω : Type} (bs : List AV) (k : AV → Option Ω) (r : Ω), e bs k = some r → ∃ av, k av = some r ∧ Contract C g bs av
def noS : Spec := ⟨fun _ _ _ => none, fun _ => false, fun _ _ _ _ => none⟩
theorem noS_ok {C : Cfg} : SpecOK C noS := ⟨fun _ _ _ _ h => (by cases h), fun _ _ _ _ _ h => by cases h⟩
structure Cfg.le (C C' : Cfg) : Prop where
  P : C.P = C'.P
  G : ∀ g d, C.G g = some d → C'.G g = some d
  M : ∀ g, C.M g = true → C'.M g = true
theorem Contract.mono {C C' : Cfg} (hl : C.le C') {f : FuncId} {args : List AV} {av : AV} (h : Contract C f args av) : Contract C' f args av where
  enters us w := by rw [← hl.P]; exact h.enters us w
  runs w S us hlt hG hr := by
    rw [← hl.P]
    exact h.runs w S us hlt ⟨fun g d hg => hG.tab g d (hl.G g d hg), fun g hg => hG.any g (hl.M g hg)⟩ hr
theorem EntOK.mono {C C' : Cfg} (hl : C.le C') {g : FuncId} {e : Ent} (h : EntOK C g e) : EntOK C' g e := by
  intro Ω bs k r hk
  obtain ⟨av, h1, h2⟩ := h bs k r hk
  exact ⟨av, h1, h2.mono hl⟩
section
variable {C : Cfg} {g : FuncId}
theorem ite_some {Ω : Type} {p : Bool} {x : Option Ω} {r : Ω} (h : (bif p then x else none) = some r) : p = true ∧ x = some r := by
  cases p with
  | true => exact ⟨rfl, h⟩
  | false => cases h
end
section
variable {Ω β : Type} {k : β → Option Ω}
theorem cond_some {γ : Type} {c : Bool} {X Y : Option γ} {a b : γ} (hX : X = some a) (hY : Y = some b) : (bif c then X else Y) = some (bif c then a else b) := by
  cases c with
  | true => exact hX
  | false => exact hY
theorem join_tot {γ Ω : Type} {X : Option γ} {a : γ} {f : γ → Option Ω} {Z : Option Ω} (hX : X = some a) (h : f a = Z) : X.bind f = Z := by rw [hX]; exact h
theorem cond_tot {c : Bool} {X Y : Option Ω} {a b : β} (hX : X = k a) (hY : Y = k b) : (bif c then X else Y) = k (bif c then a else b) := by
  cases c <;> assumption
end
section
variable {Ω σ : Type} {r : σ → Option Ω}
end
theorem wrap_in {x : Int} (h0 : -9223372036854775808 ≤ x) (h1 : x ≤ 9223372036854775807) : IntKind.wrap .i64 x = x := by
  simp [IntKind.wrap, IntKind.bits, IntKind.signed, IntKind.min, IntKind.max] <;> omega
end
section
set_option linter.unusedVariables false
set_option linter.unusedSimpArgs false
set_option maxHeartbeats 400000
def Le {Ω : Type} (x y : Option Ω) : Prop := ∀ r, x = some r → y = some r
section
variable {Ω β : Type} {X Y X1 X2 Y1 Y2 : Option Ω}
theorem Le.refl (x : Option Ω) : Le x x := fun _ h => h
theorem Le.of (h : X = Y) : Le X Y := h ▸ Le.refl X
theorem Le.nil : Le none Y := fun _ h => by cases h
theorem Le.trans {Z : Option Ω} (h : Le X Y) (k : Le Y Z) : Le X Z := fun r hr => k r (h r hr)
theorem Le.cond {c : Bool} (h1 : Le X1 Y1) (h2 : Le X2 Y2) : Le (bif c then X1 else X2) (bif c then Y1 else Y2) := by
  cases c <;> assumption
theorem Le.gd {g : Bool} (h : g = true → Le X Y) : Le (bif g then X else none) Y := by
  cases g with
  | true => exact h rfl
  | false => exact Le.nil
theorem Le.tru {c : Bool} (hc : c = true) (h : Le X Y1) : Le X (bif c then Y1 else Y2) := by
  subst hc; exact h
theorem Le.fls {c : Bool} (hc : c = false) (h : Le X Y2) : Le X (bif c then Y1 else Y2) := by
  subst hc; exact h
theorem Le.bnd {o : Option β} {f g : β → Option Ω} (h : ∀ x, Le (f x) (g x)) : Le (o.bind f) (o.bind g) := by
  cases o with
  | none => exact Le.nil
  | some x => exact h x
end
def BIG : Nat := 9223372036854775808
theorem iter_list {α σ' σ Ω : Type} (X : List α) (z : α) (mk : Int → σ' → σ) (G : List α → Int → σ' → Option Ω) (B : (σ → Option Ω) → σ → Option Ω)
    (h0 : ∀ (i : Int) (a : σ') (r : σ → Option Ω), decide (i < ((List.length X : Nat) : Int)) = false → Le (G [] i a) (B r (mk i a)))
    (h1 : ∀ (i : Int) (xs : List α) (a : σ') (r : σ → Option Ω), decide (i < ((List.length X : Nat) : Int)) = true → idxOK i (List.length X) = true → IntKind.wrap .i64 (i + 1) = i + 1 →
      (∀ j, j = i + 1 → ∀ a', Le (G xs (i + 1) a') (r (mk j a'))) → Le (G (List.getD X (Int.toNat i) z :: xs) i a) (B r (mk i a)))
    (hX : ((List.length X : Nat) : Int) ≤ 9223372036854775807) : ∀ (m : Nat) (i : Int) (a : σ'), 0 ≤ i → i ≤ ((List.length X : Nat) : Int) → ((List.length X : Nat) : Int) < m + i → Le (G (X.drop (Int.toNat i)) i a) (iter B m (mk i a))
  | 0, i, a, h, hl, hm => by omega
  | m + 1, i, a, h, hl, hm => by
    show Le _ (B (iter B m) (mk i a))
    rcases Int.lt_or_le i ((List.length X : Nat) : Int) with hlt | hge
    · have hi : i.toNat < X.length := by omega
      have hd : X.drop i.toNat = List.getD X (Int.toNat i) z :: X.drop (i + 1).toNat := by
        rw [show (i + 1).toNat = i.toNat + 1 by omega, List.drop_eq_getElem_cons hi]
        simp [List.getD, hi]
      rw [hd]
      refine h1 i _ a _ (decide_eq_true hlt) (by simp [idxOK]; omega) (wrap_in (by omega) (by omega)) ?_
      rintro j rfl a'
      exact iter_list X z mk G B h0 h1 hX m (i + 1) a' (by omega) (by omega) (by omega)
    · rw [List.drop_eq_nil_of_le (by omega)]
      exact h0 i a _ (decide_eq_false (by omega))
theorem iter_count {σ' σ Ω : Type} (N : Int) (c : Int → Bool) (hc : ∀ i, c i = decide (i < N)) (mk : Int → σ' → σ) (G : Nat → Int → σ' → Option Ω) (B : (σ → Option Ω) → σ → Option Ω)
    (h0 : ∀ (i : Int) (a : σ') (r : σ → Option Ω), c i = false → Le (G 0 i a) (B r (mk i a)))
    (h1 : ∀ (i : Int) (d : Nat) (a : σ') (r : σ → Option Ω), c i = true → IntKind.wrap .i64 (i + 1) = i + 1 →
      (∀ j, j = i + 1 → ∀ a', Le (G d (i + 1) a') (r (mk j a'))) → Le (G (d + 1) i a) (B r (mk i a)))
    (hN : N ≤ 9223372036854775807) : ∀ (m : Nat) (i : Int) (a : σ'), -9223372036854775808 ≤ i → (N - i).toNat < m → Le (G (N - i).toNat i a) (iter B m (mk i a))
  | 0, i, a, h, hm => by omega
  | m + 1, i, a, h, hm => by
    show Le _ (B (iter B m) (mk i a))
    rcases Int.lt_or_le i N with hlt | hge
    · rw [show (N - i).toNat = (N - (i + 1)).toNat + 1 by omega]
      refine h1 i _ a _ ((hc i).trans (decide_eq_true hlt)) (wrap_in (by omega) (by omega)) ?_
      rintro j rfl a'
      exact iter_count N c hc mk G B h0 h1 hN m (i + 1) a' (by omega) (by omega)
    · rw [show (N - i).toNat = 0 by omega]
      exact h0 i a _ ((hc i).trans (decide_eq_false (by omega)))
section
variable {N i : Int}
theorem le_up (h : N ≤ 4611686018427387904) : N ≤ 9223372036854775807 := by omega
theorem zero_le_len (n : Nat) : (0 : Int) ≤ ((n : Nat) : Int) := by omega
theorem big_list {n : Nat} (h : ((n : Nat) : Int) ≤ 4611686018427387904) : ((n : Nat) : Int) < ((BIG : Nat) : Int) + 0 := by unfold BIG; omega
theorem cnt_up (h : decide (N ≤ 4611686018427387904) = true) : N ≤ 9223372036854775807 := by have := of_decide_eq_true h; omega
theorem cnt_lo (h : decide ((0 : Int) ≤ i) = true) : -9223372036854775808 ≤ i := by have := of_decide_eq_true h; omega
theorem cnt_lo3 (h : decide ((0 : Int) ≤ i) = true) : -1000 ≤ i := by have := of_decide_eq_true h; omega
theorem cnt_big (h : decide (N ≤ 4611686018427387904) = true) (hi : -1000 ≤ i) : Int.toNat (N - i) < BIG := by have := of_decide_eq_true h; unfold BIG; omega
theorem le_lt1 (i N : Int) : decide (i ≤ N) = decide (i < N + 1) := by
  by_cases h : i ≤ N
  · rw [decide_eq_true h, decide_eq_true (by omega)]
  · rw [decide_eq_false h, decide_eq_false (by omega)]
end
@[reducible] def Tup : ETy → List ETy → Type
  | τ, [] => τ.I
  | τ, σ :: r => τ.I × Tup σ r
def tupAVs : (τ : ETy) → (l : List ETy) → Tup τ l → List AV
  | τ, [], x => [.v τ x]
  | τ, σ :: r, x => .v τ x.1 :: tupAVs σ r x.2
def tupAV : (τ : ETy) → (l : List ETy) → Tup τ l → AV
  | τ, [], x => .v τ x
  | τ, σ :: r, x => .tup (.v τ x.1 :: tupAVs σ r x.2)
def decs : (τ : ETy) → (l : List ETy) → List AV → Option (Tup τ l)
  | τ, [], [a] => getI τ a
  | τ, σ :: r, a :: as => (getI τ a).bind fun x => (decs σ r as).map fun y => (x, y)
  | _, _, _ => none
def dec : (τ : ETy) → (l : List ETy) → AV → Option (Tup τ l)
  | τ, [], a => getI τ a
  | τ, σ :: r, .tup (a :: as) => (getI τ a).bind fun x => (decs σ r as).map fun y => (x, y)
  | _, _, _ => none
theorem castI_self (τ : ETy) (x : τ.I) : castI τ τ x = some x := by simp [castI]
theorem getI_self (τ : ETy) (x : τ.I) : getI τ (.v τ x) = some x := castI_self τ x
theorem decs_self : ∀ (τ : ETy) (l : List ETy) (x : Tup τ l), decs τ l (tupAVs τ l x) = some x
  | τ, [], x => by simp only [tupAVs, decs, getI_self]
  | τ, σ :: r, x => by
    simp only [tupAVs, decs, getI_self, Option.bind_some, decs_self σ r x.2, Option.map_some]
theorem dec_self : ∀ (τ : ETy) (l : List ETy) (x : Tup τ l), dec τ l (tupAV τ l x) = some x
  | τ, [], x => by simp only [tupAV, dec, getI_self]
  | τ, σ :: r, x => by
    simp only [tupAV, dec, getI_self, Option.bind_some, decs_self σ r x.2, Option.map_some]
theorem dec_fun (τ : ETy) (l : List ETy) : (fun r => dec τ l (tupAV τ l r)) = some := funext (dec_self τ l)
theorem decs_eq : ∀ {τ : ETy} {l : List ETy} {as : List AV} {x : Tup τ l}, decs τ l as = some x → as = tupAVs τ l x
  | τ, [], as, x, h => by
    match as, h with
    | [a], h => simp only [decs] at h; rw [getI_eq h]; rfl
  | τ, σ :: r, as, x, h => by
    match as, h with
    | a :: as, h =>
      simp only [decs, Option.bind_eq_some_iff, Option.map_eq_some_iff] at h
      obtain ⟨y, h1, z, h2, rfl⟩ := h
      rw [getI_eq h1, decs_eq h2]; rfl
theorem dec_eq : ∀ {τ : ETy} {l : List ETy} {a : AV} {x : Tup τ l}, dec τ l a = some x → a = tupAV τ l x
  | τ, [], a, x, h => by simp only [dec] at h; rw [getI_eq h]; rfl
  | τ, σ :: r, a, x, h => by
    match a, h with
    | .tup (a :: as), h =>
      simp only [dec, Option.bind_eq_some_iff, Option.map_eq_some_iff] at h
      obtain ⟨y, h1, z, h2, rfl⟩ := h
      rw [getI_eq h1, decs_eq h2]; rfl
theorem contract_u {C : Cfg} {spec : Spec} (hC : C.OK) (hS : SpecOK C spec) {fuel : Fuel} {f : FuncId} {fn : Func} (hf : C.P.funcs[f]? = some fn) (hb : fn.body.isSome = true) (hn : (fn.name == "runtime.NumGoroutine") = false)
    {args : List AV} {τ : ETy} {l : List ETy} {r : Tup τ l} (h : evFn C spec fuel fn (fn.body.getD .skip) args (dec τ l) = some r) : Contract C f args (tupAV τ l r) := by
  obtain ⟨c, hc⟩ := Option.isSome_iff_exists.1 hb
  rw [hc] at h
  obtain ⟨av', h1, h2⟩ := fn_contract hC hS hf hc hn h
  rw [dec_eq h1] at h2
  exact h2
def getVP (T : ETy) : AV → Option T.I
  | .vp T' x [] => castI T' T x
  | _ => none
theorem getVP_eq {T : ETy} {a : AV} {x : T.I} (h : getVP T a = some x) : a = .vp T x [] := by
  cases a with
  | vp T' y p =>
    cases p with
    | nil =>
      obtain ⟨e, rfl⟩ := castI_eq h
      subst e
      rfl
    | cons _ _ => simp [getVP] at h
  | _ => simp [getVP] at h
structure EntA (C : Cfg) (g : FuncId) (acc : List AV) (e : Ent) : Prop where
  ok : ∀ (Ω : Type) (bs : List AV) (k : AV → Option Ω) (r : Ω), e bs k = some r → ∃ av, k av = some r ∧ Contract C g (acc ++ bs) av
def argI (τ : ETy) (f : τ.I → Ent) : Ent := fun bs k => match bs with
  | a :: r => (getI τ a).bind fun x => f x r k
  | [] => none
def endU {β : Type} (o : Option β) (f : β → AV) : Ent := fun bs k => match bs with
  | [] => o.bind fun r => k (f r)
  | _ => none
def endT (a : AV) : Ent := fun bs k => match bs with
  | [] => k a
  | _ => none
section
variable {C : Cfg} {g : FuncId} {acc : List AV}
theorem argI_ok {τ : ETy} {f : τ.I → Ent} (h : ∀ x, EntA C g (acc ++ [.v τ x]) (f x)) : EntA C g acc (argI τ f) := by
  refine ⟨fun Ω bs k r hk => ?_⟩
  match bs, hk with
  | a :: bs, hk =>
    obtain ⟨x, e1, hk⟩ := Option.bind_eq_some_iff.1 hk
    obtain ⟨av, h1, h2⟩ := (h x).ok _ bs k r hk
    rw [getI_eq e1]
    exact ⟨av, h1, by simpa using h2⟩
theorem endU_ok {β : Type} {o : Option β} {f : β → AV} (h : ∀ r, o = some r → Contract C g acc (f r)) : EntA C g acc (endU o f) := by
  refine ⟨fun Ω bs k r hk => ?_⟩
  match bs, hk with
  | [], hk =>
    obtain ⟨x, e1, hk⟩ := Option.bind_eq_some_iff.1 (show (o.bind fun r => k (f r)) = some r from hk)
    exact ⟨_, hk, by simpa using h x e1⟩
theorem endT_ok {a : AV} (h : Contract C g acc a) : EntA C g acc (endT a) := by
  refine ⟨fun Ω bs k r hk => ?_⟩
  match bs, hk with
  | [], hk => exact ⟨_, hk, by simpa using h⟩
theorem entA_ok {e : Ent} (h : EntA C g [] e) : EntOK C g e := fun bs k r hk => h.ok _ bs k r hk
end
end
section
set_option linter.unusedVariables false
set_option linter.unusedSimpArgs false
set_option maxHeartbeats 400000
mutual
def dOK (P : Program) : ETy → TypeId → Bool
  | .int k, t => match P.underlying t with | some (.int k') => decide (k' = k) | _ => false
  | .bool, t => match P.underlying t with | some .bool => true | _ => false
  | .str, t => match P.underlying t with | some .string => true | _ => false
  | .arr n e, t => match P.underlying t with | some (.array m te) => m == n && P.cellsOf te == e.size && P.cellsOf t == n * e.size && dOK P e te | _ => false
  | .slice e, t => match P.underlying t with | some (.slice te) => P.cellsOf te == e.size && decide (0 < e.size) && dOK P e te | _ => false
  | .unit, t => match P.underlying t with | some (.struct fs) => P.cellsOf t == 0 && fs.toList.isEmpty | _ => false
  | .pair a b, t => match P.underlying t with
    | some (.struct fs) => P.cellsOf t == a.size + b.size && (match fs.toList with
      | f :: r => f.offset == 0 && P.cellsOf f.type == a.size && dOK P a f.type && dF P b (0 + a.size) r
      | [] => false)
    | _ => false
  | .raw _, _ => false
def dF (P : Program) : ETy → Nat → List Field → Bool
  | .unit, _, r => r.isEmpty
  | .pair a b, o, f :: r => f.offset == o && P.cellsOf f.type == a.size && dOK P a f.type && dF P b (o + a.size) r
  | _, _, _ => false
end
theorem dF_of {P : Program} {a b : ETy} {l : List Field} (h : (match l with
      | f :: r => f.offset == 0 && P.cellsOf f.type == a.size && dOK P a f.type && dF P b (0 + a.size) r
      | [] => false) = true) : dF P (.pair a b) 0 l = true := by
  cases l with
  | nil => cases h
  | cons f r => unfold dF; exact h
def fits : (τ : ETy) → τ.I → Prop
  | .int k, n => (Lit.int k n).wf = true
  | .bool, _ => True
  | .str, s => s.size ≤ reachBytes
  | .raw _, _ => True
  | .unit, _ => True
  | .pair a b, x => fits a x.1 ∧ fits b x.2
  | .arr n e, xs => List.length xs = n ∧ ∀ x ∈ xs, fits e x
  | .slice e, xs => List.length xs ≤ maxLen ∧ ∀ x ∈ xs, fits e x
theorem RepC.more {w : World} {S S' : Nat → Nat → Prop} (hs : ∀ b o, S b o → S' b o) {τ : ETy} {x : τ.I} {cs : List Value} (h : RepC w S τ x cs) : RepC w S' τ x cs :=
  RepC.safe ⟨hs, fun _ _ _ => rfl⟩ h
theorem chunks {α : Type} {R : α → List Value → Prop} {Q : α → Prop} {s : Nat} : ∀ (n : Nat) (cs : List Value), cs.length = n * s → (∀ i, i < n → ∃ y, R y ((cs.drop (i * s)).take s) ∧ Q y) → ∃ ys : List α, ys.length = n ∧ RepL R ys cs ∧ ∀ y ∈ ys, Q y
  | 0, cs, hl, _ => ⟨[], rfl, List.eq_nil_of_length_eq_zero (by simpa using hl), by simp⟩
  | n + 1, cs, hl, h => by
    obtain ⟨y, h1, h2⟩ := h 0 (by omega)
    obtain ⟨ys, e1, e2, e3⟩ := chunks (R := R) (Q := Q) (s := s) n (cs.drop s) (by rw [List.length_drop, hl, Nat.succ_mul]; omega) (fun i hi => by
      obtain ⟨z, z1, z2⟩ := h (i + 1) (by omega)
      refine ⟨z, ?_, z2⟩
      rw [List.drop_drop]
      rwa [show s + i * s = (i + 1) * s by rw [Nat.succ_mul]; omega])
    refine ⟨y :: ys, by simp [e1], ⟨cs.take s, cs.drop s, (List.take_append_drop s cs).symm, by simpa using h1, e2⟩, ?_⟩
    intro z hz
    rcases List.mem_cons.1 hz with rfl | hz
    · exact h2
    · exact e3 z hz
section
variable {H : Type} {enc : TypeId × Value → H} {P : Program} {w : World} {base : Nat} {spare : Nat → Bool} {held : Bool}
theorem mem_weightsAll {P : Program} {e : TypeId} {n : Nat} : ∀ {ds : List (DataW H)} {d : DataW H}, d ∈ ds → n ∈ d.weights P e → n ∈ DataW.weightsAll P e ds
  | x :: r, d, hd, hn => by
    simp only [DataW.weightsAll, List.mem_append]
    rcases List.mem_cons.1 hd with rfl | hd
    · exact .inl hn
    · exact .inr (mem_weightsAll hd hn)
  | [], d, hd, hn => by cases hd
theorem add_add (a : Addr) (m n : Nat) : (a.add m).add n = a.add (m + n) := by
  unfold Addr.add
  by_cases h1 : m = 0
  · subst h1; simp
  · by_cases h2 : n = 0
    · subst h2; simp
    · simp [h1, h2, Nat.add_assoc]
theorem rows_rep {α : Type} {R : α → List Value → Prop} {Q : α → Prop} {s : Nat} : ∀ (n : Nat) {a : Addr}, (∀ i, i < n → ∃ (y : α) (ci : List Value), R y ci ∧ Q y ∧ w.cells? base (a.add (i * s)) s = some ci) →
    ∃ (ys : List α) (ds : List Value), ys.length = n ∧ RepL R ys ds ∧ (∀ y ∈ ys, Q y) ∧ ∀ j (h : j < ds.length), w.cell? (a.add j) = some ds[j]
  | 0, a, _ => ⟨[], [], rfl, rfl, by simp, by simp⟩
  | n + 1, a, h => by
    obtain ⟨y, c, h1, h2, h3⟩ := h 0 (by omega)
    obtain ⟨_, hc, hcell⟩ := World.cells?_some h3
    obtain ⟨ys, ds, e1, e2, e3, e4⟩ := rows_rep (R := R) (Q := Q) (s := s) n (a := a.add s) (fun i hi => by
      obtain ⟨z, d, z1, z2, z3⟩ := h (i + 1) (by omega)
      refine ⟨z, d, z1, z2, ?_⟩
      rw [add_add, show s + i * s = (i + 1) * s by rw [Nat.succ_mul]; omega]
      exact z3)
    refine ⟨y :: ys, c ++ ds, by simp [e1], ⟨c, ds, rfl, h1, e2⟩, ?_, fun j hj => ?_⟩
    · intro z hz
      rcases List.mem_cons.1 hz with rfl | hz
      · exact h2
      · exact e3 z hz
    · rcases Nat.lt_or_ge j c.length with hlt | hge
      · rw [List.getElem_append_left hlt]
        have := hcell j (by omega)
        rw [Nat.zero_mul, add_add, Nat.zero_add] at this
        rw [this, List.getElem?_eq_getElem hlt]
      · rw [List.getElem_append_right hge]
        have hlt : j - c.length < ds.length := by rw [List.length_append] at hj; omega
        have := e4 (j - c.length) hlt
        rw [add_add, show s + (j - c.length) = j by omega] at this
        exact this
mutual
theorem trod_rep : ∀ {τ : ETy} {t : TypeId} {fuel : Nat} {cs : List Value} {x : DataW H × List MemPlace}, dOK P τ t = true → DataW.trod enc P w base spare held fuel t cs = some x → (∀ n ∈ x.1.weights P t, n ≤ reachBytes) →
    ∃ y : τ.I, RepC w (fun b o => MemPlace.cell b o ∈ x.2) τ y cs ∧ fits τ y
  | .int k, t, fuel, cs, x, hd, h, hw => by
    unfold dOK at hd
    split at hd
    · rename_i k' hu
      obtain rfl : k' = k := by simpa using hd
      obtain ⟨n, rfl, rfl, hwf⟩ := DataW.trod_int hu h
      exact ⟨n, rfl, hwf⟩
    · cases hd
  | .bool, t, fuel, cs, x, hd, h, hw => by
    unfold dOK at hd
    split at hd
    · rename_i hu
      obtain ⟨b, rfl, rfl⟩ := DataW.trod_bool hu h
      exact ⟨b, rfl, trivial⟩
    · cases hd
  | .str, t, fuel, cs, x, hd, h, hw => by
    unfold dOK at hd
    split at hd
    · rename_i hu
      obtain ⟨b, rfl, rfl, hs⟩ := DataW.trod_string hu h
      refine ⟨b, rfl, ?_⟩
      have := hw b.data.toList.length (by simp [DataW.weights])
      show b.size ≤ reachBytes
      rw [Array.length_toList] at this
      exact this
    · cases hd
  | .raw k, t, fuel, cs, x, hd, h, hw => by unfold dOK at hd; cases hd
  | .unit, t, fuel, cs, x, hd, h, hw => by
    unfold dOK at hd
    split at hd
    · rename_i fs hu
      simp only [Bool.and_eq_true, beq_iff_eq] at hd
      obtain ⟨xs, n, _, rfl, hl, _⟩ := DataW.trod_struct hu h
      exact ⟨(), List.eq_nil_of_length_eq_zero (by rw [hl, hd.1]), trivial⟩
    · cases hd
  | .pair a b, t, fuel, cs, x, hd, h, hw => by
    unfold dOK at hd
    split at hd
    · rename_i fs hu
      simp only [Bool.and_eq_true, beq_iff_eq] at hd
      obtain ⟨xs, n, _, rfl, hl, hxs, hf⟩ := DataW.trod_struct hu h
      have := trodF_rep (b := .pair a b) (o := 0) (r := fs.toList) (xs := xs) (cs := cs) (fuel := n) (dF_of hd.2) (by rw [hl, hd.1, Nat.zero_add]; rfl) (by rw [hxs, Array.length_toList]) (fun i f hi => by
        simpa using hf i f (by simpa using hi)) (fun i f x0 hi hx0 n hn => hw n (by
          have e : (DataW.agg (xs.map (·.1)) : DataW H).weights P t = DataW.weightsEach P (fs.toList.map (·.type)) (xs.map (·.1)) := by simp only [DataW.weights, hu]
          rw [e]
          exact DataW.weights_mem_each (j := i) (t := f.type) (d := x0.1) (by rw [List.getElem?_map, hi]; rfl) (by rw [List.getElem?_map, hx0]; rfl) n hn))
      simpa using this
    · cases hd
  | .arr n e, t, fuel, cs, x, hd, h, hw => by
    unfold dOK at hd
    split at hd
    · rename_i m te hu
      simp only [Bool.and_eq_true, beq_iff_eq] at hd
      obtain ⟨⟨⟨rfl, h1⟩, h2⟩, h3⟩ := hd
      obtain ⟨xs, m', _, rfl, hl, hxs, hf⟩ := DataW.trod_array hu h
      obtain ⟨ys, e1, e2, e3⟩ := chunks (R := RepC w (fun b o => MemPlace.cell b o ∈ xs.flatMap (·.2)) e) (Q := fits e) (s := e.size) m cs (by rw [hl, h2]) (fun i hi => by
        have hi2 := hf i hi
        rw [h1] at hi2
        have hlt : i < xs.length := by omega
        rw [List.getElem?_eq_getElem hlt] at hi2
        obtain ⟨y, y1, y2⟩ := trod_rep (τ := e) h3 hi2 (fun n hn => hw n (by
          have e : (DataW.agg (xs.map (·.1)) : DataW H).weights P t = DataW.weightsAll P te (xs.map (·.1)) := by simp only [DataW.weights, hu]
          rw [e]
          exact mem_weightsAll (List.mem_map.2 ⟨xs[i], List.getElem_mem hlt, rfl⟩) hn))
        exact ⟨y, y1.more (fun b o hb => List.mem_flatMap.2 ⟨xs[i], List.getElem_mem hlt, hb⟩), y2⟩)
      exact ⟨ys, ⟨e1, e2⟩, e1, e3⟩
    · cases hd
  | .slice e, t, fuel, cs, x, hd, h, hw => by
    unfold dOK at hd
    split at hd
    · rename_i te hu
      simp only [Bool.and_eq_true, beq_iff_eq, decide_eq_true_eq] at hd
      obtain ⟨⟨h1, h2⟩, h3⟩ := hd
      rcases DataW.trod_slice hu h with ⟨rfl, rfl⟩ | ⟨a, len, cap, elems, rest, n, _, rfl, rfl, hb, hl, hm, hlen, hel, _, _⟩
      · exact ⟨[], ⟨none, 0, rfl, Nat.le_refl _, .inl rfl⟩, Nat.zero_le _, fun y hy => by cases hy⟩
      · rw [h1] at hel ⊢
        have each : ∀ i, i < len → ∃ (y : e.I) (ci : List Value), RepC w (fun b o => MemPlace.cell b o ∈ MemPlace.row a ((elems.length + rest.length) * e.size) ++ (elems ++ rest).flatMap (·.2)) e y ci ∧ fits e y ∧ w.cells? base (a.add (i * e.size)) e.size = some ci := by
          intro i hi
          have hlt : i < elems.length := by omega
          have q := hel i hi
          rw [List.getElem?_eq_getElem hlt] at q
          obtain ⟨ci, q1, q2⟩ := Option.bind_eq_some_iff.1 q
          obtain ⟨y, y1, y2⟩ := trod_rep (τ := e) h3 q2 (fun n hn => hw n (by
            simp only [DataW.weights, hu, List.mem_cons, List.mem_append]
            exact .inr (.inl (mem_weightsAll (List.mem_map.2 ⟨elems[i], List.getElem_mem hlt, rfl⟩) hn))))
          exact ⟨y, ci, y1.more (fun b o hb => List.mem_append_right _ (List.mem_flatMap.2 ⟨elems[i], List.mem_append_left _ (List.getElem_mem hlt), hb⟩)), y2, q1⟩
        obtain ⟨ys, ds, e1, e2, e3, e4⟩ := rows_rep (w := w) (base := base) (a := a) (s := e.size) (R := RepC w (fun b o => MemPlace.cell b o ∈ MemPlace.row a ((elems.length + rest.length) * e.size) ++ (elems ++ rest).flatMap (·.2)) e) (Q := fits e) len each
        refine ⟨ys, ⟨some a, cap, by rw [e1], by rw [e1]; exact hl, ?_⟩, by rw [e1]; omega, e3⟩
        cases hys : ys with
        | nil => exact .inl rfl
        | cons y0 yt =>
          right
          rw [← hys]
          have hd0 : ds.length = ys.length * e.size := RepL.length (fun x c h => RepC.length h) e2
          have hpos : 0 < ds.length := by rw [hd0, hys, List.length_cons, Nat.succ_mul]; omega
          have hsp : a.spot = none := by
            have := e4 0 hpos
            unfold World.cell? at this
            cases hs : a.spot with
            | none => rfl
            | some q =>
              have hq : (a.add 0).spot.isSome = true := by unfold Addr.add; rw [if_pos rfl, hs]; rfl
              split at this
              · rw [hq] at this; simp at this
              · cases this
          obtain ⟨ab, ao, asp⟩ := a
          simp only at hsp
          subst hsp
          refine ⟨ab, ao, ds, rfl, e2, fun j hj => ⟨?_, ?_⟩⟩
          · have := e4 j hj
            rw [add_at] at this
            exact this
          · refine List.mem_append_left _ (List.mem_map.2 ⟨j, List.mem_range.2 ?_, rfl⟩)
            rw [hd0, e1, ← hlen] at hj
            rw [Nat.add_mul]
            omega
    · cases hd
theorem trodF_rep : ∀ {b : ETy} {o : Nat} {r : List Field} {xs : List (DataW H × List MemPlace)} {cs : List Value} {fuel : Nat}, dF P b o r = true → cs.length = o + b.size → xs.length = r.length →
    (∀ (i : Nat) (f : Field), r[i]? = some f → DataW.trod enc P w base spare held fuel f.type ((cs.drop f.offset).take (P.cellsOf f.type)) = xs[i]?) →
    (∀ (i : Nat) (f : Field) (x0 : DataW H × List MemPlace), r[i]? = some f → xs[i]? = some x0 → ∀ n ∈ x0.1.weights P f.type, n ≤ reachBytes) →
    ∃ y : b.I, RepC w (fun b' o' => MemPlace.cell b' o' ∈ xs.flatMap (·.2)) b y (cs.drop o) ∧ fits b y
  | .unit, o, r, xs, cs, fuel, hd, hl, _, _, _ => by
    refine ⟨(), ?_, trivial⟩
    show List.drop o cs = []
    rw [List.drop_eq_nil_of_le (by rw [hl]; exact Nat.le_refl _)]
  | .pair a b, o, [], xs, cs, fuel, hd, hl, hn, hf, hw => by unfold dF at hd; cases hd
  | .pair a b, o, f :: r, xs, cs, fuel, hd, hl, hn, hf, hw => by
    unfold dF at hd
    simp only [Bool.and_eq_true, beq_iff_eq] at hd
    obtain ⟨⟨⟨h1, h2⟩, h3⟩, h4⟩ := hd
    have hsz : (ETy.pair a b).size = a.size + b.size := rfl
    have h0 := hf 0 f rfl
    rw [h1, h2] at h0
    cases hx : xs with
    | nil =>
      rw [hx] at hn
      cases hn
    | cons x0 xs' =>
      rw [hx] at h0
      obtain ⟨y, y1, y2⟩ := trod_rep (τ := a) h3 (show _ = some x0 from h0) (hw 0 f x0 rfl (by rw [hx]; rfl))
      obtain ⟨z, z1, z2⟩ := trodF_rep (b := b) (o := o + a.size) (r := r) (xs := xs') (cs := cs) (fuel := fuel) h4 (by rw [hl, hsz]; omega) (by rw [hx] at hn; simpa using hn) (fun i g hg => by
        have := hf (i + 1) g (by simpa using hg)
        rw [this, hx]; rfl) (fun i g x1 hg hx1 => hw (i + 1) g x1 (by simpa using hg) (by rw [hx]; simpa using hx1))
      refine ⟨(y, z), ⟨(cs.drop o).take a.size, cs.drop (o + a.size), ?_, y1.more (fun b o hb => ?_), z1.more (fun b o hb => ?_)⟩, y2, z2⟩
      · rw [← List.drop_drop, List.take_append_drop]
      · exact List.mem_flatMap.2 ⟨x0, by simp, hb⟩
      · obtain ⟨q, q1, q2⟩ := List.mem_flatMap.1 hb
        exact List.mem_flatMap.2 ⟨q, List.mem_cons_of_mem _ q1, q2⟩
  | .int _, _, _, _, _, _, hd, _, _, _, _ | .bool, _, _, _, _, _, hd, _, _, _, _ | .str, _, _, _, _, _, hd, _, _, _, _ | .raw _, _, _, _, _, _, hd, _, _, _, _ | .arr _ _, _, _, _, _, _, hd, _, _, _, _ | .slice _, _, _, _, _, _, hd, _, _, _, _ => by
    unfold dF at hd; cases hd
end
end
end
section
set_option linter.unusedVariables false
set_option linter.unusedSimpArgs false
set_option maxHeartbeats 400000
open Go Go.RowKit Go.ChangeShapes Go.WideShapes
@[reducible] def Args : List ETy → Type
  | [] => Unit
  | τ :: r => τ.I × Args r
def avsOf : (l : List ETy) → Args l → List AV
  | [], _ => []
  | τ :: r, x => .v τ x.1 :: avsOf r x.2
def fitsA : (l : List ETy) → Args l → Prop
  | [], _ => True
  | τ :: r, x => fits τ x.1 ∧ fitsA r x.2
def dOKs (P : Program) : List ETy → List TypeId → Bool
  | [], [] => true
  | τ :: r, t :: ts => dOK P τ t && dOKs P r ts
  | _, _ => false
section
variable {H : Type} {enc : TypeId × Value → H} {P : Program} {w : World}
theorem val_of_cells {r : Reach} {b : Nat} {τ : ETy} {t : TypeId} {v : Value} (hd : dOK P τ t = true) (hv : Value.okWide P w r b t v) : v = valOf τ v.cells.toList := by
  cases τ with
  | int k =>
    unfold dOK at hd; split at hd
    · rename_i hu; obtain ⟨n, rfl⟩ := okWide_int hu hv; rfl
    · cases hd
  | bool =>
    unfold dOK at hd; split at hd
    · rename_i hu; obtain ⟨n, rfl⟩ := okWide_bool hu hv; rfl
    · cases hd
  | str =>
    unfold dOK at hd; split at hd
    · rename_i hu; obtain ⟨n, rfl⟩ := okWide_string hu hv; rfl
    · cases hd
  | raw k => unfold dOK at hd; cases hd
  | slice e =>
    unfold dOK at hd; split at hd
    · rename_i hu; obtain ⟨a, len, cap, rfl⟩ := okWide_slice hu hv; rfl
    · cases hd
  | unit =>
    unfold dOK at hd; split at hd
    · rename_i hu; obtain ⟨cs, rfl, _⟩ := okWide_struct hu hv; rfl
    · cases hd
  | pair a b =>
    unfold dOK at hd; split at hd
    · rename_i hu; obtain ⟨cs, rfl, _⟩ := okWide_struct hu hv; rfl
    · cases hd
  | arr n e =>
    unfold dOK at hd; split at hd
    · rename_i hu
      unfold Value.okWide at hv
      rw [hu] at hv
      obtain ⟨cs, rfl, _⟩ := hv
      rfl
    · cases hd
theorem RepAs.more {S S' : Nat → Nat → Prop} (hs : ∀ b o, S b o → S' b o) : ∀ {l : List ETy} {xs : Args l} {us : List Value}, RepAs m0 [] w S (avsOf l xs) us → RepAs m0 [] w S' (avsOf l xs) us
  | [], xs, us, h => by simp only [avsOf, RepAs] at h ⊢; exact h
  | τ :: r, xs, us, h => by
    simp only [avsOf, RepAs] at h ⊢
    obtain ⟨u, q, rfl, h1, h2⟩ := h
    rw [rep_v] at h1
    obtain ⟨cs, h3, h4⟩ := h1
    exact ⟨u, q, rfl, by rw [rep_v]; exact ⟨cs, h3.more hs, h4⟩, RepAs.more hs h2⟩
theorem args_rep {r0 : Reach} {b0 : Nat} {base : Nat} {spare : Nat → Bool} {held : Bool} : ∀ {l : List ETy} {ts : List TypeId} {vs : List Value} {ds : List (DataW H)} {ps : List MemPlace}, dOKs P l ts = true → (∀ (j : Nat) t v, ts[j]? = some t → vs[j]? = some v → Value.okWide P w r0 b0 t v) → DataW.TrodAll enc P w base spare held ts vs ds ps → (∀ n ∈ DataW.weightsEach P ts ds, n ≤ reachBytes) →
    ∃ xs : Args l, RepAs m0 [] w (fun b o => MemPlace.cell b o ∈ ps) (avsOf l xs) vs ∧ fitsA l xs
  | [], [], vs, ds, ps, _, _, h, _ => by
    obtain ⟨rfl, rfl, rfl⟩ := trodAll_nil h
    exact ⟨(), by simp only [avsOf, RepAs], trivial⟩
  | τ :: r, t :: ts, vs, ds, ps, hd, hv, h, hw => by
    simp only [dOKs, Bool.and_eq_true] at hd
    obtain ⟨v, vs1, d, ds1, a, b, rfl, rfl, rfl, ⟨fuel, h1⟩, h2⟩ := trodAll_cons h
    obtain ⟨y, y1, y2⟩ := trod_rep hd.1 h1 (fun n hn => hw n (by simp only [DataW.weightsEach, List.mem_append]; exact .inl hn))
    obtain ⟨xs, x1, x2⟩ := args_rep hd.2 (fun j t' v' h1 h2 => hv (j + 1) t' v' (by simpa using h1) (by simpa using h2)) h2 (fun n hn => hw n (by simp only [DataW.weightsEach, List.mem_append]; exact .inr hn))
    refine ⟨(y, xs), ?_, y2, x2⟩
    simp only [avsOf, RepAs]
    refine ⟨v, vs1, rfl, ?_, RepAs.more (fun b o hb => List.mem_append_right _ hb) x1⟩
    rw [rep_v]
    have hv : v = valOf τ v.cells.toList := val_of_cells hd.1 (hv 0 t v rfl rfl)
    exact ⟨v.cells.toList, y1.more (fun b o hb => List.mem_append_left _ hb), hv⟩
  | [], _ :: _, _, _, _, hd, _, _, _ => by cases hd
  | _ :: _, [], _, _, _, hd, _, _, _ => by cases hd
theorem below_all (hl : laidOutB P = true) {W W' : World} (hb : Below W.heap.size W W') : ∀ {ts : List TypeId} {vs : List Value} {ds : List (DataW H)} {ps : List MemPlace}, (ts.all fun t => P.readableRec t && decide (t < P.types.size)) = true →
    DataW.TrodAll enc P W 0 (fun _ => true) true ts vs ds ps → (∀ x ∈ ps, x.block < W.heap.size) → DataW.TrodAll enc P W' 0 (fun b => decide (b < W.heap.size)) true ts vs ds ps
  | [], vs, ds, ps, _, h, _ => by
    obtain ⟨rfl, rfl, rfl⟩ := trodAll_nil h
    exact trodAll_mk0
  | t :: ts, vs, ds, ps, hr, h, hlt => by
    simp only [List.all_cons, Bool.and_eq_true, decide_eq_true_eq] at hr
    obtain ⟨v, vs1, d, ds1, a, b, rfl, rfl, rfl, h1, h2⟩ := trodAll_cons h
    exact ⟨a, b, Below.trod hl hr.1.1 hr.1.2 h1 hb (fun x hx => hlt x (List.mem_append_left _ hx)), below_all hl hb hr.2 h2 (fun x hx => hlt x (List.mem_append_right _ hx)), rfl⟩
end
theorem GlobOK.more {C : Cfg} {B : Nat} {w : World} {S S' : Nat → Nat → Prop} (h : GlobOK C B w S) (hs : ∀ b o, S b o → S' b o) : GlobOK C B w S' :=
  ⟨fun g d hg => by
    obtain ⟨h1, cs, el, fr, h2, h3, h4⟩ := h.tab g d hg
    exact ⟨h1, cs, el, fr, h2, h3.more hs, fun j hj => hs _ _ (h4 j hj)⟩, fun g hg => by
    obtain ⟨h1, h2, h3⟩ := h.any g hg
    exact ⟨h1, h2, hs _ _ h3⟩⟩
theorem law_calls {r0 : Reach} {b0 : Nat} {H : Type} {enc : TypeId × Value → H} {C : Cfg} {f : FuncId} {l : List ETy} {ts : List TypeId} {vs : List Value} {ds : List (DataW H)} {p : List MemPlace} {W : World} {S0 : Nat → Nat → Prop}
    (hG : GlobOK C W.heap.size W S0) (hS : ∀ b o, S0 b o → b < W.heap.size) (hd : dOKs C.P l ts = true) (hl : laidOutB C.P = true) (hr : (ts.all fun t => C.P.readableRec t && decide (t < C.P.types.size)) = true)
    (hc : ∀ xs : Args l, fitsA l xs → Contract C f (avsOf l xs) (.v .bool true)) (hv : ∀ (j : Nat) t v, ts[j]? = some t → vs[j]? = some v → Value.okWide C.P W r0 b0 t v) (hA : DataW.TrodAll enc C.P W 0 (fun _ => true) true ts vs ds p) (hlt : ∀ x ∈ p, x.block < W.heap.size) (hw : ∀ n ∈ DataW.weightsEach C.P ts ds, n ≤ reachBytes) :
    Calls C.P f vs.toArray W fun e W' => e = .returned (.bool true) ∧ Below W.heap.size W W' ∧ DataW.TrodAll enc C.P W' 0 (fun b => decide (b < W.heap.size)) true ts vs ds p := by
  obtain ⟨xs, h1, h2⟩ := args_rep hd hv hA hw
  refine ((hc xs h2).runs W (fun b o => S0 b o ∨ MemPlace.cell b o ∈ p) vs ?_ (hG.more fun b o h => .inl h) (RepAs.more (fun b o h => .inr h) h1)).mono ?_
  · intro b o h
    rcases h with h | h
    · exact hS b o h
    · exact hlt _ h
  · rintro e W' ⟨u, S', rfl, hb, _, _, hu⟩
    rw [rep_bool] at hu
    subst hu
    exact ⟨rfl, hb, below_all hl hb hr hA hlt⟩
end
section
set_option linter.unusedVariables false
set_option linter.unusedSimpArgs false
set_option maxHeartbeats 400000
def cellsI : (τ : ETy) → τ.I → List Value
  | .int k, n => [.int k n]
  | .bool, b => [.bool b]
  | .str, s => [.string s]
  | .raw _, x => [x]
  | .unit, _ => []
  | .pair a b, x => cellsI a x.1 ++ cellsI b x.2
  | .arr n e, xs => List.flatMap (cellsI e) xs
  | .slice _, _ => []
def okI : (τ : ETy) → τ.I → Bool
  | .int _, _ => true
  | .bool, _ => true
  | .str, _ => true
  | .raw _, _ => false
  | .unit, _ => true
  | .pair a b, x => okI a x.1 && okI b x.2
  | .arr n e, xs => List.length xs == n && List.all xs (okI e)
  | .slice _, _ => false
theorem rep_cells {w : World} {S : Nat → Nat → Prop} : ∀ (τ : ETy) (x : τ.I), okI τ x = true → RepC w S τ x (cellsI τ x)
  | .int k, n, _ => rfl
  | .bool, b, _ => rfl
  | .str, s, _ => rfl
  | .raw _, x, h => by cases h
  | .unit, _, _ => rfl
  | .pair a b, x, h => by
    simp only [okI, Bool.and_eq_true] at h
    exact ⟨_, _, rfl, rep_cells a x.1 h.1, rep_cells b x.2 h.2⟩
  | .arr n e, xs, h => by
    simp only [okI, Bool.and_eq_true, beq_iff_eq, List.all_eq_true] at h
    refine ⟨h.1, ?_⟩
    have key : ∀ l : List e.I, (∀ x ∈ l, okI e x = true) → RepL (RepC w S e) l (List.flatMap (cellsI e) l) := by
      intro l
      induction l with
      | nil => intro _; rfl
      | cons y l ih => intro hl; exact ⟨_, _, List.flatMap_cons, rep_cells e y (hl y (by simp)), ih fun z hz => hl z (List.mem_cons_of_mem _ hz)⟩
    exact key xs h.2
  | .slice _, _, h => by cases h
def flatT : ETy → Bool
  | .raw _ => false
  | .slice _ => false
  | .pair a b => flatT a && flatT b
  | .arr _ e => flatT e
  | _ => true
def flatL : ETy → DataW Unit → List Value
  | .int _, .lit x => [x.toCell]
  | .bool, .lit x => [x.toCell]
  | .str, .lit x => [x.toCell]
  | .pair a b, .agg (d :: ds) => flatL a d ++ flatL b (.agg ds)
  | .arr _ e, .agg ds => ds.flatMap (flatL e)
  | _, _ => []
theorem chunks_flat {α : Type} {f : α → List Value} {s : Nat} : ∀ (xs : List α) (cs : List Value), cs.length = xs.length * s → (∀ i (h : i < xs.length), (cs.drop (i * s)).take s = f xs[i]) → cs = xs.flatMap f
  | [], cs, hl, _ => List.eq_nil_of_length_eq_zero (by simpa using hl)
  | x :: xs, cs, hl, h => by
    have h0 := h 0 (by simp)
    have hr := chunks_flat (f := f) (s := s) xs (cs.drop s) (by rw [List.length_drop, hl, List.length_cons, Nat.succ_mul]; omega) (fun i hi => by
      have := h (i + 1) (by simpa using hi)
      rw [List.drop_drop, show s + i * s = (i + 1) * s by rw [Nat.succ_mul]; omega]
      simpa using this)
    rw [List.flatMap_cons, ← hr]
    have h0' : cs.take s = f x := by simpa using h0
    rw [← h0', List.take_append_drop]
section
variable {P : Program} {w : World} {base : Nat} {spare : Nat → Bool} {held : Bool}
mutual
theorem trod_flat : ∀ {τ : ETy} {t : TypeId} {fuel : Nat} {cs : List Value} {x : DataW Unit × List MemPlace}, dOK P τ t = true → flatT τ = true → DataW.trod (fun _ => ()) P w base spare held fuel t cs = some x → cs = flatL τ x.1
  | .int k, t, fuel, cs, x, hd, _, h => by
    unfold dOK at hd
    split at hd
    · rename_i k' hu
      obtain ⟨n, rfl, rfl, hw⟩ := DataW.trod_int hu h
      rfl
    · cases hd
  | .bool, t, fuel, cs, x, hd, _, h => by
    unfold dOK at hd
    split at hd
    · rename_i hu
      obtain ⟨b, rfl, rfl⟩ := DataW.trod_bool hu h
      rfl
    · cases hd
  | .str, t, fuel, cs, x, hd, _, h => by
    unfold dOK at hd
    split at hd
    · rename_i hu
      obtain ⟨b, rfl, rfl, hs⟩ := DataW.trod_string hu h
      simp [flatL, Lit.toCell]
    · cases hd
  | .raw k, t, fuel, cs, x, hd, _, h => by unfold dOK at hd; cases hd
  | .slice e, t, fuel, cs, x, _, hf, h => by cases hf
  | .unit, t, fuel, cs, x, hd, _, h => by
    unfold dOK at hd
    split at hd
    · rename_i fs hu
      simp only [Bool.and_eq_true, beq_iff_eq] at hd
      obtain ⟨xs, n, _, rfl, hl, _⟩ := DataW.trod_struct hu h
      have e : cs = [] := List.eq_nil_of_length_eq_zero (by rw [hl, hd.1])
      rw [e]
      simp [flatL]
    · cases hd
  | .pair a b, t, fuel, cs, x, hd, hf, h => by
    unfold dOK at hd
    split at hd
    · rename_i fs hu
      simp only [Bool.and_eq_true, beq_iff_eq] at hd
      obtain ⟨xs, n, _, rfl, hl, hxs, hfs⟩ := DataW.trod_struct hu h
      have := trodF_flat (b := .pair a b) (o := 0) (r := fs.toList) (xs := xs) (cs := cs) (fuel := n) (dF_of hd.2) hf (by rw [hl, hd.1, Nat.zero_add]; rfl) (by rw [hxs, Array.length_toList]) (fun i f hi => by
        simpa using hfs i f (by simpa using hi))
      simpa using this
    · cases hd
  | .arr n e, t, fuel, cs, x, hd, hf, h => by
    unfold dOK at hd
    split at hd
    · rename_i m te hu
      simp only [Bool.and_eq_true, beq_iff_eq] at hd
      obtain ⟨⟨⟨rfl, h1⟩, h2⟩, h3⟩ := hd
      obtain ⟨xs, m', _, rfl, hl, hxs, hfs⟩ := DataW.trod_array hu h
      have := chunks_flat (f := fun y : DataW Unit × List MemPlace => flatL e y.1) (s := e.size) xs cs (by rw [hl, h2, hxs]) (fun i hi => by
        have hi2 := hfs i (by omega)
        rw [h1, List.getElem?_eq_getElem hi] at hi2
        exact trod_flat (τ := e) h3 hf hi2)
      rw [this]
      simp only [flatL, List.flatMap_map]
    · cases hd
theorem trodF_flat : ∀ {b : ETy} {o : Nat} {r : List Field} {xs : List (DataW Unit × List MemPlace)} {cs : List Value} {fuel : Nat}, dF P b o r = true → flatT b = true → cs.length = o + b.size → xs.length = r.length →
    (∀ (i : Nat) (f : Field), r[i]? = some f → DataW.trod (fun _ => ()) P w base spare held fuel f.type ((cs.drop f.offset).take (P.cellsOf f.type)) = xs[i]?) → cs.drop o = flatL b (.agg (xs.map (·.1)))
  | .unit, o, r, xs, cs, fuel, hd, _, hl, _, _ => by
    rw [List.drop_eq_nil_of_le (by rw [hl]; exact Nat.le_refl _)]
    simp [flatL]
  | .pair a b, o, [], xs, cs, fuel, hd, _, hl, hn, hf => by unfold dF at hd; cases hd
  | .pair a b, o, f :: r, xs, cs, fuel, hd, ht, hl, hn, hf => by
    unfold dF at hd
    simp only [Bool.and_eq_true, beq_iff_eq] at hd
    obtain ⟨⟨⟨h1, h2⟩, h3⟩, h4⟩ := hd
    simp only [flatT, Bool.and_eq_true] at ht
    have hsz : (ETy.pair a b).size = a.size + b.size := rfl
    have h0 := hf 0 f rfl
    rw [h1, h2] at h0
    cases hx : xs with
    | nil => rw [hx] at hn; cases hn
    | cons x0 xs' =>
      rw [hx] at h0
      have q1 := trod_flat (τ := a) h3 ht.1 (show _ = some x0 from h0)
      have q2 := trodF_flat (b := b) (o := o + a.size) (r := r) (xs := xs') (cs := cs) (fuel := fuel) h4 ht.2 (by rw [hl, hsz]; omega) (by rw [hx] at hn; simpa using hn) (fun i g hg => by
        have := hf (i + 1) g (by simpa using hg)
        rw [this, hx]; rfl)
      simp only [List.map_cons, flatL]
      rw [← q1, ← q2, ← List.drop_drop, List.take_append_drop]
  | .int _, _, _, _, _, _, hd, _, _, _, _ | .bool, _, _, _, _, _, hd, _, _, _, _ | .str, _, _, _, _, _, hd, _, _, _, _ | .raw _, _, _, _, _, _, hd, _, _, _, _ | .arr _ _, _, _, _, _, _, hd, _, _, _, _ | .slice _, _, _, _, _, _, hd, _, _, _, _ => by
    unfold dF at hd; cases hd
end
theorem laid_at {n : String} {d : DataW Unit} : ∀ {l : List (String × DataW Unit)} {ps : List MemPlace}, (n, d) ∈ l → DataW.LaidVars P w l ps →
    ∃ g t cs fuel p, P.globalNamed n = some g ∧ (P.globals[g]?).map (·.type) = some t ∧ w.var? P n = some cs ∧ DataW.trod (fun _ => ()) P w 0 (fun _ => true) false fuel t cs.toList = some (d, p)
  | [], ps, h, _ => by cases h
  | (n', d') :: l, ps, h, hl => by
    obtain ⟨g, t, cs, fuel, p, q, h1, h2, h3, h4, h5, _⟩ := hl
    rcases List.mem_cons.1 h with e | h
    · cases e; exact ⟨g, t, cs, fuel, p, h1, h2, h3, h4⟩
    · exact laid_at h h5
theorem tab_laid {n : String} {d : DataW Unit} {l : List (String × DataW Unit)} {g : Nat} {t : TypeId} {τ : ETy} {x : τ.I} (hm : (n, d) ∈ l) (h : laidMet P l w) (hg : P.globalNamed n = some g) (ht : (P.globals[g]?).map (·.type) = some t)
    (hd : dOK P τ t = true) (hf : flatT τ = true) (hx : okI τ x = true) (he : flatL τ d = cellsI τ x) : ∃ cs el fr, w.heap[g]? = some (.cells (cs : List Value).toArray el fr) ∧ ∀ S, RepC w S τ x cs := by
  obtain ⟨ps, hl, _⟩ := h
  obtain ⟨g', t', cs, fuel, p, h1, h2, h3, h4⟩ := laid_at hm hl
  rw [hg] at h1; cases h1
  rw [ht] at h2; cases h2
  have hcs := trod_flat hd hf h4
  unfold World.var? at h3
  rw [hg] at h3
  simp only [Option.bind_some] at h3
  split at h3
  · rename_i cs' el fr hh
    cases h3
    refine ⟨cs.toList, el, fr, by simpa using hh, fun S => ?_⟩
    rw [hcs]
    show RepC w S τ x (flatL τ d)
    rw [he]
    exact rep_cells τ x hx
  · cases h3
end
theorem glob_of {C : Cfg} {W : World} (h : ∀ g d, C.G g = some d → ∃ cs el fr, W.heap[g]? = some (.cells (cs : List Value).toArray el fr) ∧ ∀ S, RepC W S d.τ d.x cs)
    (hm : ∀ g, C.M g = true → ∃ n, W.cell? ⟨g, 0, none⟩ = some (.int .i64 n)) :
    GlobOK C W.heap.size W (fun b _ => ((C.G b).isSome = true ∨ C.M b = true) ∧ b < W.heap.size) := by
  refine ⟨fun g d hg => ?_, fun g hg => ?_⟩
  · obtain ⟨cs, el, fr, h1, h2⟩ := h g d hg
    have hlt : g < W.heap.size := (Array.getElem?_eq_some_iff.1 h1).1
    exact ⟨hlt, cs, el, fr, h1, h2 _, fun j _ => ⟨.inl (by rw [hg]; rfl), hlt⟩⟩
  · obtain ⟨n, hn⟩ := hm g hg
    have hlt : g < W.heap.size := by
      unfold World.cell? at hn
      split at hn
      · rename_i hh; exact (Array.getElem?_eq_some_iff.1 hh).1
      · cases hn
    exact ⟨hlt, ⟨n, hn⟩, .inr hg, hlt⟩
theorem trodAll_len {H : Type} {enc : TypeId × Value → H} {P : Program} {w : World} {base : Nat} {spare : Nat → Bool} {held : Bool} : ∀ {ts : List TypeId} {vs : List Value} {ds : List (DataW H)} {ps : List MemPlace}, DataW.TrodAll enc P w base spare held ts vs ds ps → ds.length = ts.length
  | [], vs, ds, ps, h => by obtain ⟨rfl, rfl, rfl⟩ := Go.ChangeShapes.trodAll_nil h; rfl
  | t :: ts, vs, ds, ps, h => by
    obtain ⟨v, vs1, d, ds1, a, b, rfl, rfl, rfl, _, h2⟩ := Go.ChangeShapes.trodAll_cons h
    simp [trodAll_len h2]
theorem whole_len {H : Type} {enc : TypeId × Value → H} {P : Program} {ts : List TypeId} {vars : List String} {apart : Bool} {w : World} {vs : List Value} {ds gs : List (DataW H)} {ps : List MemPlace} (h : DataW.Whole enc P ts vars apart w vs ds gs ps) : ds.length = ts.length := by
  obtain ⟨p, q, h1, _⟩ := h
  exact trodAll_len h1
theorem weights_front {H : Type} {P : Program} : ∀ {ts ts' : List TypeId} {ds gs : List (DataW H)}, ds.length = ts.length → (DataW.weightsEach P (ts ++ ts') (ds ++ gs)).all (· ≤ reachBytes) = true → ∀ n ∈ DataW.weightsEach P ts ds, n ≤ reachBytes
  | [], ts', [], gs, _, _, n, hn => by simp [DataW.weightsEach] at hn
  | t :: ts, ts', d :: ds, gs, hl, h, n, hn => by
    simp only [List.cons_append, DataW.weightsEach, List.all_append, Bool.and_eq_true] at h
    simp only [DataW.weightsEach, List.mem_append] at hn
    rcases hn with hn | hn
    · have := List.all_eq_true.1 h.1 n hn
      simpa using this
    · exact weights_front (by simpa using hl) h.2 n hn
  | [], _, _ :: _, _, hl, _, _, _ => by cases hl
  | _ :: _, _, [], _, hl, _, _, _ => by cases hl
theorem returns_shaped {H : Type} {enc : TypeId × Value → H} {a : Assume} {C : Checked} {os : Os} {f : FuncId} {fn : Func} {s : ChangeSpec} {conds : List PathCond} {apart fresh handsOn again : Bool} {X : World → Array Value → Prop}
    (hX : ∀ (w w' : World) (args : Array Value), w.heap = w'.heap → X w args → X w' args)
    (own : ownKnob C.prog.godebug = none) (started : os.Started) (noInit : C.prog.inits.idxOf? f = none) (hfn : C.prog.funcs[f]? = some fn)
    (witness : ∃ (w : World) (tape : Tape) (i : Input), w.os = os ∧ (w.forCall tape i).Shaped C.prog ∧ i.vars = [] ∧ Input.okWide C.prog (w.forCall tape i) .any w.heap.size f i ∧
      ((s.pre enc C.prog fn conds apart (w.forCall tape i).memory i.args ∧ X (w.forCall tape i).memory i.args) ∧ sizedMet enc C.prog fn (OpenSpec.ofChange s) apart (w.forCall tape i).memory i.args) ∧ a.holds C.prog (lone (Frame.enter C.prog f i.args .normal) [] (w.forCall tape i)))
    (contract : ∀ (W : World) (base : Nat) (args : Array Value) (ds gs : List (DataW H)) (before : List MemPlace),
      (∀ (j : Nat) t v, fn.params[j]? = some t → args[j]? = some v → Value.okWide C.prog W .any base t v) →
      DataW.Whole enc C.prog fn.params.toList s.vars apart W args.toList ds gs before → X W args → W.ShapedOpen C.prog → (∀ n ∈ DataW.weightsEach C.prog fn.params.toList ds, n ≤ reachBytes) →
      Calls C.prog f args W fun e W' => ∃ v, e = .returned v ∧ s.post enc C.prog fn apart fresh handsOn again W args v W') :
    ReturnsInHanded a C os f .any (fun w args => (s.pre enc C.prog fn conds apart w args ∧ X w args) ∧ sizedMet enc C.prog fn (OpenSpec.ofChange s) apart w args) (s.post enc C.prog fn apart fresh handsOn again) := by
  refine returnsInHanded_of_calls own started noInit witness ?_
  intro w tape i _ hsh _ hok hpre hholds
  obtain ⟨_, _, _, fn', hfn', _, _, _, _, hval⟩ := hok
  have e : fn' = fn := Option.some.inj (hfn'.symm.trans hfn)
  subst e
  obtain ⟨⟨⟨ds, gs, before, hw, hc⟩, hx⟩, hz⟩ := hpre
  have hw' := DataW.Whole.of_heap (w' := w.forCall tape i) (by rfl) hw
  refine (contract (w.forCall tape i) w.heap.size i.args ds gs before hval hw' (hX _ _ _ (by rfl) hx) hsh (weights_front (whole_len hw) (hz.weights hw))).mono fun e W' ⟨v, he, hp⟩ => ?_
  subst he
  exact ChangeSpec.post_blind hp
end
section
set_option linter.unusedVariables false
set_option linter.unusedSimpArgs false
set_option maxHeartbeats 400000
section
variable {Ω : Type} {C : Cfg}
theorem Contract.withY {f : FuncId} {args : List AV} {av : AV} (h : Contract C f args av) (Y : Nat → Bool) : Contract { C with Y := Y } f args av where
  enters := h.enters
  runs w S us hlt hG hr := h.runs w S us hlt ⟨hG.tab, hG.any⟩ hr
theorem SpecOK.withY {spec : Spec} (h : SpecOK C spec) (Y : Nat → Bool) : SpecOK { C with Y := Y } spec :=
  ⟨fun g bs k r hk => by
    obtain ⟨av, h1, h2⟩ := h.con g bs k r hk
    exact ⟨av, h1, h2.withY Y⟩, fun g as L k r hk => by
    obtain ⟨av, L', h1, h2⟩ := h.inl g as L k r hk
    exact ⟨av, L', h1, h2.enters, h2.keeps, fun B m w S us hI hG hr => h2.runs B m w S us hI ⟨hG.tab, hG.any⟩ hr⟩⟩
theorem runRel_keeps {ops : Array Oper} {env' : List AV} {L' : Heap} {j : Nat} : ∀ {l : List Oper} {id : Nat} {env : List AV} {L : Heap}, RunRel C ops (withIds l id) env L env' L' → j < id → L[j]? = some .resv → L'[j]? = some .resv
  | [], id, env, L, h, _, hr => by obtain ⟨_, rfl⟩ := h; exact hr
  | o :: l, id, env, L, h, hj, hr => by
    obtain ⟨env1, L1, h1, h2⟩ := h
    refine runRel_keeps h2 ?_ (h1.keeps (fun _ => by omega) hr)
    unfold nextId
    cases wantsId o.op <;> simp <;> omega
theorem runD_keeps {ops : Array Oper} {env' : List AV} {L' : Heap} {j : Nat} : ∀ {l : List It} {env : List AV} {L : Heap}, RunD C ops l env L env' L' → (∀ t ∈ l, j < t.id) → L[j]? = some .resv → L'[j]? = some .resv
  | [], env, L, h, _, hr => by obtain ⟨_, rfl⟩ := h; exact hr
  | t :: l, env, L, h, hj, hr => by
    have ht := hj t (by simp)
    rcases h with ⟨av, L1, _, h1, h2⟩ | ⟨_, env1, L1, h1, h2⟩
    · exact runD_keeps h2 (fun s hs => hj s (by simp [hs])) (h1.rel.keeps (fun _ => by omega) hr)
    · exact runD_keeps h2 (fun s hs => hj s (by simp [hs])) (h1.keeps (fun _ => by omega) hr)
theorem regRel_keeps {ops : Array Oper} {draw : Bool} {env env' : List AV} {L L' : Heap} {j : Nat} (h : RegRel C ops draw env L env' L') (hr : L[j]? = some .resv) : L'[j]? = some .resv := by
  have hj := (List.getElem?_eq_some_iff.1 hr).1
  have hr1 : (L ++ List.replicate (cntIds ops.toList) Slot.resv)[j]? = some .resv := by rw [List.getElem?_append_left hj]; exact hr
  unfold RegRel at h
  cases draw with
  | false =>
    simp only [Bool.false_eq_true, if_false] at h
    exact runRel_keeps h hj hr1
  | true =>
    simp only [if_true] at h
    obtain ⟨fs, _, h1⟩ := h
    refine runD_keeps h1 (fun t ht => ?_) hr1
    obtain ⟨_, _, q, _⟩ := items_at ht
    omega
theorem renL_keeps {j t id0 : Nat} {env : List AV} {L : Heap} (h : L[j]? = some .resv) : (renL t id0 env L).2[j]? = some .resv := by
  unfold renL
  split
  · rename_i id _
    cases (id == id0) with
    | true => exact h
    | false =>
      rw [cond_false]
      split
      · rename_i te e xs ro hid h0
        have n1 : j ≠ id := fun q => by subst q; rw [h] at hid; cases hid
        have n2 : j ≠ id0 := fun q => by subst q; rw [h] at h0; cases h0
        refine keep_keeps ?_
        rw [List.getElem?_set_ne (Ne.symm n2), List.getElem?_set_ne (Ne.symm n1)]
        exact h
      · exact h
  · exact h
theorem frzL_keeps {j : Nat} : ∀ (fz : List Nat) (env : List AV) (L : Heap), L[j]? = some .resv → (frzL fz env L).2[j]? = some .resv
  | [], env, L, h => h
  | t :: ts, env, L, h => by
    unfold frzL
    cases Nat.ble 1000000 t with
    | true => exact frzL_keeps ts _ _ (renL_keeps h)
    | false =>
    rw [cond_false]
    split
    · split
      · exact frzL_keeps ts _ _ (mark1_keeps h)
      · exact frzL_keeps ts env L h
    · exact frzL_keeps ts env L h
mutual
theorem CodeRel.keeps {c : Code} {env : List AV} {L : Heap} {e : Ex} {env' : List AV} {L' : Heap} {j : Nat} : CodeRel C c env L e env' L' → L[j]? = some .resv → L'[j]? = some .resv
  | .skip, h => h
  | .label, h => h
  | .exit, h => h
  | .ret, h => h
  | .region hr, h => regRel_keeps hr h
  | .seqN h1 h2, h => h2.keeps (h1.keeps h)
  | .seqX h1 _, h => h1.keeps h
  | .cond _ h1, h => h1.keeps h
  | .blockHit h1, h => h1.keeps h
  | .blockOut h1 _, h => h1.keeps h
  | .scope h1, h => h1.keeps h
  | .weak h1 _ _, h => h1.keeps h
  | .frz h1, h => h1.keeps (frzB_keeps _ h)
  | .loop _ h1, h => h1.keeps (List.getElem?_eq_some_iff.1 h).1 (frzL_keeps _ _ _ h)
theorem LoopRel.keeps {c : Code} {mask : List Bool} {h0 : Nat} {env : List AV} {L : Heap} {e : Ex} {env' : List AV} {L' : Heap} {j : Nat} : LoopRel C c mask h0 env L e env' L' → j < h0 → L[j]? = some .resv → L'[j]? = some .resv
  | .stop h1 _, _, h => h1.keeps h
  | .more _ h1 h2, hj, h => h2.keeps hj (get_cut (frzL_keeps _ _ _ (h1.keeps h)) hj)
end
end
def finI {Ω : Type} (C : Cfg) (fn : Func) (k : AV → Heap → Option Ω) : Kont Ω
  | .exit _, _, _ => none
  | .normal, env, L => (resL C env L fn.results.toList).bind fun as => k (tupA as) L
  | .ret, env, L => (resL C env L fn.results.toList).bind fun as => k (tupA as) L
abbrev Cfg.at (C : Cfg) (L : Heap) : Cfg := { C with Y := fun i => decide (L.length ≤ i) }
def evInl {Ω : Type} (C : Cfg) (spec : Spec) (fuel : Fuel) (fn : Func) (c : Code) (as : List AV) (L : Heap) (k : AV → Heap → Option Ω) : Option Ω :=
  evCode (C.at L) spec fuel c (as ++ List.replicate (fn.ntmps - as.length) .dead) L (finI (C.at L) fn k)
section
variable {Ω : Type} {C : Cfg} {spec : Spec}
theorem inl_does (hC : C.OK) (hS : SpecOK C spec) {fuel : Fuel} {g : FuncId} {fn : Func} {c : Code} (hf : C.P.funcs[g]? = some fn) (hb : fn.body = some c) (hn : (fn.name == "runtime.NumGoroutine") = false)
    {as : List AV} {L : Heap} {k : AV → Heap → Option Ω} {r : Ω} (h : evInl C spec fuel fn c as L k = some r) : ∃ av L', k av L' = some r ∧ CallDoes C g as L av L' := by
  unfold evInl at h
  have hC' : (C.at L).OK := ⟨hC.ty, hC.mixed, hC.ob⟩
  obtain ⟨e, env', L', h1, h2⟩ := evCode_rel (hS.withY _) h
  have h3 : ∃ rs, resL (C.at L) env' L' fn.results.toList = some rs ∧ k (tupA rs) L' = some r ∧ ∀ i, e ≠ .exit i := by
    cases e with
    | exit i => cases h2
    | normal => obtain ⟨rs, p, q⟩ := Option.bind_eq_some_iff.1 h2; exact ⟨rs, p, q, by simp⟩
    | ret => obtain ⟨rs, p, q⟩ := Option.bind_eq_some_iff.1 h2; exact ⟨rs, p, q, by simp⟩
  obtain ⟨rs, h4, h5, hne⟩ := h3
  refine ⟨tupA rs, L', h5, ⟨fun us w => ?_, fun j hj => h1.keeps hj, fun B m w S us hI hG hrep => ?_⟩⟩
  · have hpn : (program.run C.P w : Result Program) = .ok C.P w := rfl
    simp only [callFunc, Sem.run_bind, hpn, Result.andThen_ok, hf, hn, hb, Bool.false_eq_true, if_false, Option.isNone_some, Sem.run_pure]
  · refine calls_of_wp hf hb ?_
    have hlen := repAs_len hrep
    have hst : St (C.at L) B w S m L (as ++ List.replicate (fn.ntmps - as.length) .dead) L { tmps := us.toArray ++ Array.replicate (fn.ntmps - us.toArray.size) undef, defers := [] } w := by
      refine ⟨m, S, hI, ⟨by simp [hlen], fun t => ?_⟩, ⟨hG.tab, hG.any⟩, Below.refl _ _, Safe.refl _ _, fun _ _ h => .inl h, Ext.refl _ _ _, rfl⟩
      have := repAs_getD (fn.ntmps - as.length) hrep t
      rw [List.getD_eq_getElem?_getD (l := us ++ _)] at this
      have harr : us.toArray ++ Array.replicate (fn.ntmps - us.toArray.size) undef = (us ++ List.replicate (fn.ntmps - us.length) undef).toArray := by apply Array.ext'; simp
      show RepA m L w S _ ((us.toArray ++ Array.replicate (fn.ntmps - us.toArray.size) undef).getD t undef)
      rw [harr, Array.getD_eq_getD_getElem?, List.getElem?_toArray, ← hlen]
      exact this
    refine code_wp hC' h1 _ w _ hst ?_
    intro a' w' hst'
    obtain ⟨m', S', hI', hE, hG', hbel, hsafe, hnew, hx, hd⟩ := hst'
    have hpost : a'.defers = [] ∧ ∃ v, (results fn a'.tmps).run C.P w' = .ok v w' ∧ ∃ u m2 S2, Ending.returned v = .returned u ∧ Goes B (fun _ => false) m L w S m2 L' w' S2 ∧ RepA m2 L' w' S2 (tupA rs) u := by
      refine ⟨hd, ?_⟩
      obtain ⟨us', r1, r2⟩ := resL_gives hC' hI' hE h4
      refine ⟨_, ?_, _, m', S', rfl, ⟨hI', hsafe, hbel, ⟨fun id s hs hr => ?_⟩, hnew⟩, tup_rep r2⟩
      · have r1' : (fn.results.toList.mapM (rvSem a'.tmps)).run C.P w' = .ok us' w' := r1
        rw [results_eq, Array.mapM_eq_mapM_toList]
        simp only [bind_map_left, Sem.run_bind, r1', Result.andThen_ok, Sem.run_pure]
      · obtain ⟨s', q1, q2, q3, q3', q4⟩ := hx.ext id s hs hr
        refine ⟨s', q1, q2, q3, q3', fun t e xs ro hy hq => q4 t e xs ro ?_ hq⟩
        have hlt : id < L.length := (List.getElem?_eq_some_iff.1 hs).1
        exact decide_eq_false (by omega)
    cases e with
    | exit i => exact absurd rfl (hne i)
    | normal => exact hpost
    | ret => exact hpost
end
def tabOK (C : Cfg) (tab : FuncId → Option Func) : Prop := ∀ g fn, tab g = some fn → C.P.funcs[g]? = some fn ∧ fn.body.isSome = true ∧ (fn.name == "runtime.NumGoroutine") = false
def tab0 : FuncId → Option Func := fun _ => none
def tabS (g0 : FuncId) (fn : Func) (rest : FuncId → Option Func) : FuncId → Option Func := fun g => bif g == g0 then some fn else rest g
theorem tab0_ok {C : Cfg} : tabOK C tab0 := fun _ _ h => by cases h
theorem tabS_ok {C : Cfg} {g0 : FuncId} {fn0 : Func} {rest : FuncId → Option Func} (h1 : C.P.funcs[g0]? = some fn0) (h2 : fn0.body.isSome = true) (h3 : (fn0.name == "runtime.NumGoroutine") = false) (hr : tabOK C rest) : tabOK C (tabS g0 fn0 rest) := by
  intro g fn h
  unfold tabS at h
  cases hg : (g == g0) with
  | true =>
    rw [hg, cond_true] at h
    cases h
    obtain rfl : g = g0 := by simpa using hg
    exact ⟨h1, h2, h3⟩
  | false =>
    rw [hg, cond_false] at h
    exact hr g fn h
end
end Go.Proofs.YtlcomipbinfooaaGreatDoor.K

/- Regions that draw their order, continued: the walk in whatever order. -/
import Derived.Test.YtmphlhnpichonaaDoorK23
set_option maxHeartbeats 400000
set_option linter.unusedVariables false
set_option linter.unusedSimpArgs false
namespace Go.Proofs.YtmphlhnpichonaaDoor.K
open Go Go.RowKit

section
variable {Ω : Type} {C : Cfg} {B : Nat} {w0 : World} {S0 : Nat → Nat → Prop} {spec : Spec}

theorem rop_shape {ρ : Operand → AV} {L : Heap} {i : Nat} {s0 s1 : Slot} (hi : L[i]? = some s0) (hsh : sameShape s0 s1) {op : Op} (h : shapeOnly op = true) (hnc : isCall op = false) : rop C ρ (L.set i s1) op = rop C ρ L op := by
  have gs := get_set (s := s1) ⟨_, hi⟩
  have key : ∀ (id : Nat), (∃ s r, L[id]? = some s ∧ (L.set i s1)[id]? = some r ∧ (s = r ∨ sameShape s r)) ∨ (L[id]? = none ∧ (L.set i s1)[id]? = none) := by
    intro id
    rw [gs]
    split
    · rename_i e; subst e; exact .inl ⟨s0, s1, hi, rfl, .inr hsh⟩
    · cases hL : L[id]? with
      | none => exact .inr ⟨rfl, rfl⟩
      | some s => exact .inl ⟨s, s, rfl, rfl, .inl rfl⟩
  have boxes : ∀ {α : Type} (id : Nat) (f : ETy → α) (g : α), (match (L.set i s1)[id]? with | some (.box T _ _) => f T | _ => g) = (match L[id]? with | some (.box T _ _) => f T | _ => g) := by
    intro α id f g
    rcases key id with ⟨s, r, h1, h2, rfl | h3⟩ | ⟨h1, h2⟩
    · rw [h1, h2]
    · rw [h1, h2]
      cases s with
      | box T x ro => obtain ⟨y, ro', rfl⟩ := h3; rfl
      | row t e xs ro => obtain ⟨y, ro', rfl, _⟩ := h3; rfl
      | gone => cases h3
      | resv => cases h3
    · rw [h1, h2]
  have rows : ∀ {α : Type} (id : Nat) (f : ETy → Nat → α) (g : α), (match (L.set i s1)[id]? with | some (.row _ e xs _) => f e (List.length xs) | _ => g) = (match L[id]? with | some (.row _ e xs _) => f e (List.length xs) | _ => g) := by
    intro α id f g
    rcases key id with ⟨s, r, h1, h2, rfl | h3⟩ | ⟨h1, h2⟩
    · rw [h1, h2]
    · rw [h1, h2]
      cases s with
      | box T x ro => obtain ⟨y, ro', rfl⟩ := h3; rfl
      | row t e xs ro => obtain ⟨y, ro', rfl, hl⟩ := h3; simp only [hl]
      | gone => cases h3
      | resv => cases h3
    · rw [h1, h2]
  unfold rop
  split
  case h_10 =>
    unfold fieldAddrA
    split <;> first | rfl | exact boxes _ _ _ | exact rows _ (fun e _ => _) _
  case h_11 =>
    unfold indexAddrA
    split
    case h_5 =>
      rename_i id k ix e1 e2
      rcases key id with ⟨s, r, h1, h2, rfl | h3⟩ | ⟨h1, h2⟩
      · rw [h1, h2]
      · rw [h1, h2]
        cases s with
        | box T x ro => obtain ⟨y, ro', rfl⟩ := h3; rfl
        | row t e xs ro => obtain ⟨y, ro', rfl, hl⟩ := h3; simp only [hl]
        | gone => cases h3
        | resv => cases h3
      · rw [h1, h2]
    all_goals first | rfl | exact boxes _ _ _
  case h_12 => simp [shapeOnly] at h
  case h_13 =>
    unfold sliceA
    congr 1; funext l; congr 1; funext q
    split <;> first | rfl | exact boxes _ _ _
  case h_14 =>
    unfold nilA
    split <;> first | rfl | exact boxes _ (fun _ => _) _ | exact rows _ (fun _ _ => _) _
  case h_16 => simp [shapeOnly] at h
  all_goals rfl

/-- A place that comes to be used later does not matter. -/
theorem OpVal.later {o : Oper} {id j : Nat} {ρ : Operand → AV} {L L' : Heap} {av : AV} {s : Slot} (hcl : ∀ x ∈ o.op.operands, (ρ x).ids (open1 L) = true) (hj : L[j]? = some .resv) (hne : wantsId o.op = true → j ≠ id) (hns : isStore o.op = false) (h : OpVal C o id ρ L av L') :
    OpVal C o id ρ (L.set j s) av (L'.set j s) := by
  rcases h with ⟨h1, ⟨g, bs, h2, h3⟩, h4, h5, rfl⟩ | ⟨h1, h2, h3, h4⟩ | ⟨h1, h2, h3, rfl⟩
  · exact .inl ⟨h1, ⟨g, bs, by rw [callA_resv hj hcl]; exact h2, h3⟩, h4, h5, rfl⟩
  · refine .inr (.inl ⟨h1, h2, h3, ?_⟩)
    rcases act_slot h3 hns h4 with ⟨rfl, _, h⟩ | ⟨hw, _, r, _, rfl, h⟩
    · exact h _
    · rw [h, List.set_comm _ _ (Ne.symm (hne hw))]
  · exact .inr (.inr ⟨h1, h2, by rw [rop_resv hj hcl]; exact h3, rfl⟩)

theorem OpVal.sooner {o : Oper} {id j : Nat} {ρ : Operand → AV} {L L2 : Heap} {av : AV} {s : Slot} (hcl : ∀ x ∈ o.op.operands, (ρ x).ids (open1 L) = true) (hj : L[j]? = some .resv) (hne : wantsId o.op = true → j ≠ id) (hns : isStore o.op = false) (h : OpVal C o id ρ (L.set j s) av L2) :
    ∃ L', OpVal C o id ρ L av L' ∧ L2 = L'.set j s := by
  rcases h with ⟨h1, ⟨g, bs, h2, h3⟩, h4, h5, rfl⟩ | ⟨h1, h2, h3, h4⟩ | ⟨h1, h2, h3, rfl⟩
  · exact ⟨L, .inl ⟨h1, ⟨g, bs, by rw [← callA_resv hj hcl]; exact h2, h3⟩, h4, h5, rfl⟩, rfl⟩
  · rcases act_slot h3 hns h4 with ⟨rfl, _, h⟩ | ⟨hw, _, r, _, rfl, h⟩
    · exact ⟨L, .inr (.inl ⟨h1, h2, h3, h L⟩), rfl⟩
    · exact ⟨L.set id r, .inr (.inl ⟨h1, h2, h3, h L⟩), by rw [List.set_comm _ _ (Ne.symm (hne hw))]⟩
  · exact ⟨L, .inr (.inr ⟨h1, h2, by rw [← rop_resv hj hcl]; exact h3, rfl⟩), rfl⟩

/-- What an operation does to the blocks. -/
theorem OpVal.eff {o : Oper} {id : Nat} {ρ : Operand → AV} {L L' : Heap} {av : AV} (h : OpVal C o id ρ L av L') :
    L' = L ∨ (wantsId o.op = true ∧ isStore o.op = false ∧ ∃ s : Slot, s.live = true ∧ L' = L.set id s) ∨ (isStore o.op = true ∧ ∃ i s0 s1, L[i]? = some s0 ∧ sameShape s0 s1 ∧ s1.live = true ∧ L' = L.set i s1) := by
  rcases h with ⟨_, _, _, _, rfl⟩ | ⟨h1, h2, h3, h4⟩ | ⟨_, _, _, rfl⟩
  · exact .inl rfl
  · cases hs : isStore o.op with
    | true =>
      obtain ⟨_, i, s0, s1, q⟩ := store_slot h3 hs h4
      exact .inr (.inr ⟨rfl, i, s0, s1, q⟩)
    | false =>
      rcases act_slot h3 hs h4 with ⟨rfl, _, _⟩ | ⟨hw, _, s, hl, rfl, _⟩
      · exact .inl rfl
      · exact .inr (.inl ⟨hw, rfl, s, hl, rfl⟩)
  · exact .inl rfl

theorem wants_not_store {op : Op} (h : isStore op = true) : wantsId op = false := by cases op <;> simp [isStore] at h; rfl

theorem act_of_wants {op : Op} (h : wantsId op = true) : isAct op = true := by
  unfold wantsId at h
  split at h <;> first | rfl | cases h

/-- Two that may change places. -/
theorem OpVal.swap {ops : Array Oper} {x p : Oper} {ix ip : Nat} {ρ : Operand → AV} {L L1 L2 : Heap} {ax ap : AV} (hc : compat ops x p = true)
    (hclx : ∀ y ∈ x.op.operands, (ρ y).ids (open1 L) = true) (hclp : ∀ y ∈ p.op.operands, (ρ y).ids (open1 L) = true)
    (hrx : wantsId x.op = true → L[ix]? = some .resv) (hrp : wantsId p.op = true → L[ip]? = some .resv) (hne : wantsId x.op = true → wantsId p.op = true → ix ≠ ip)
    (h1 : OpVal C x ix ρ L ax L1) (h2 : OpVal C p ip ρ L1 ap L2) : ∃ L1', OpVal C p ip ρ L ap L1' ∧ OpVal C x ix ρ L1' ax L2 := by
  unfold compat at hc
  simp only [Bool.and_eq_true, Bool.or_eq_true, Bool.not_eq_true'] at hc
  obtain ⟨⟨_, hsx⟩, hsp⟩ := hc
  rcases h1.eff with rfl | ⟨hwx, hnsx, sx, hlx, rfl⟩ | ⟨hsx', i, s0, s1, hi, hsh, hl, rfl⟩
  · -- x turns nothing
    refine ⟨L2, h2, ?_⟩
    rcases h2.eff with rfl | ⟨hwp, hnsp, sp, hlp, rfl⟩ | ⟨hsp', i, s0, s1, hi, hsh, hl, rfl⟩
    · exact h1
    · have hnsx : isStore x.op = false := by
        cases hs : isStore x.op with
        | false => rfl
        | true =>
          have := hsx.resolve_left (by rw [hs]; simp)
          rw [act_of_wants hwp] at this
          exact absurd this.2 (by simp)
      exact h1.later hclx (hrp hwp) (fun hw => Ne.symm (hne hw hwp)) hnsx
    · have hxs := hsp.resolve_left (by rw [hsp']; simp)
      rcases h1 with ⟨h, _⟩ | ⟨_, h, _⟩ | ⟨q1, q2, q3, _⟩
      · rw [hxs.1.2] at h; cases h
      · rw [hxs.2] at h; cases h
      · exact .inr (.inr ⟨q1, q2, by rw [rop_shape hi hsh hxs.1.1 q1]; exact q3, rfl⟩)
  · -- x makes a block
    have hnsp : isStore p.op = false := by
      cases hs : isStore p.op with
      | false => rfl
      | true =>
        have := hsp.resolve_left (by rw [hs]; simp)
        rw [act_of_wants hwx] at this
        exact absurd this.2 (by simp)
    obtain ⟨L', q1, rfl⟩ := h2.sooner hclp (hrx hwx) (fun hw => hne hwx hw) hnsp
    refine ⟨L', q1, ?_⟩
    rcases h1 with ⟨h, _⟩ | ⟨k1, k2, k3, k4⟩ | ⟨_, h, _⟩
    · have := act_of_wants hwx
      cases hop : x.op <;> simp [hop, isCall, isAct] at h this <;> (rename_i cc; cases cc with | mk ce aa tt => cases ce <;> simp at h this)
    · rcases act_slot k3 hnsx k4 with ⟨hL, _, _⟩ | ⟨_, _, r, hr, hL, k⟩
      · exfalso
        have := congrArg (fun l : Heap => l[ix]?) hL
        rw [get_set ⟨_, hrx hwx⟩, if_pos rfl, hrx hwx] at this
        cases this
        simp [Slot.live] at hlx
      · have hrs : r = sx := by
          have := congrArg (fun l : Heap => l[ix]?) hL
          rw [get_set ⟨_, hrx hwx⟩, get_set ⟨_, hrx hwx⟩, if_pos rfl, if_pos rfl] at this
          cases this; rfl
        subst hrs
        exact .inr (.inl ⟨k1, k2, k3, k L'⟩)
    · rw [act_of_wants hwx] at h; cases h
  · -- x writes
    have hps := hsx.resolve_left (by rw [hsx']; simp)
    rcases h2 with ⟨h, _⟩ | ⟨_, h, _⟩ | ⟨q1, q2, q3, rfl⟩
    · rw [hps.1.2] at h; cases h
    · rw [hps.2] at h; cases h
    · exact ⟨L, .inr (.inr ⟨q1, q2, by rw [← rop_shape hi hsh hps.1.1 q1]; exact q3, rfl⟩), h1⟩

/-- Where an operation reads, or writes. -/
inductive Foot where
  | none | still | rd (id : Nat) | wr (id : Nat)
def placeId : AV → Option Nat
  | .ref id _ => some id
  | .rref id _ _ => some id
  | _ => Option.none
def footOf (ρ : Operand → AV) : Op → Foot
  | .load _ a => match ρ a with
    | .vp .. => .still
    | b => match placeId b with | some id => .rd id | Option.none => .none
  | .store _ a _ => match placeId (ρ a) with | some id => .wr id | Option.none => .none
  | .convert _ _ _ => .still
  | _ => .none
def feetOK : Foot → Foot → Bool
  | .rd i, .wr j => i != j
  | .wr i, .rd j => i != j
  | .still, .wr _ => true
  | .wr _, .still => true
  | _, _ => false

theorem foot_wr {ρ : Operand → AV} {op : Op} {j : Nat} (h : footOf ρ op = .wr j) : ∃ t a y, op = .store t a y ∧ placeId (ρ a) = some j := by
  unfold footOf at h
  split at h
  · split at h
    · cases h
    · split at h <;> cases h
  · rename_i t a y
    split at h
    · rename_i id hid; cases h; exact ⟨t, a, y, rfl, hid⟩
    · cases h
  · cases h
  · cases h
theorem foot_rd {ρ : Operand → AV} {op : Op} {j : Nat} (h : footOf ρ op = .rd j) : ∃ t a, op = .load t a ∧ placeId (ρ a) = some j := by
  unfold footOf at h
  split at h
  · rename_i t a
    split at h
    · cases h
    · split at h
      · rename_i id hid; cases h; exact ⟨t, a, rfl, hid⟩
      · cases h
  · split at h <;> cases h
  · cases h
  · cases h
theorem foot_still {ρ : Operand → AV} {op : Op} (h : footOf ρ op = .still) : (∃ t a T x p, op = .load t a ∧ ρ a = .vp T x p) ∨ ∃ s d a, op = .convert s d a := by
  unfold footOf at h
  split at h
  · rename_i t a
    split at h
    · rename_i T x p hx; exact .inl ⟨t, a, T, x, p, rfl, hx⟩
    · split at h <;> cases h
  · split at h <;> cases h
  · exact .inr ⟨_, _, _, rfl⟩
  · cases h

/-- A write turns its own block, and no other. -/
theorem store_at {ρ : Operand → AV} {L L' : Heap} {id j : Nat} {ty t : TypeId} {a y : Operand} {av : AV} (hj : placeId (ρ a) = some j) (hok : noOwn (ρ y) = true) (h : act C ρ L id ty (.store t a y) = some (true, av, L')) : ∃ s, L' = L.set j s := by
  unfold act at h
  simp only at h
  unfold storeA at h
  have hm : markL L [ρ y] = L := markL_noOwn (by simpa using hok)
  simp only [Option.bind_eq_some_iff, hm] at h
  obtain ⟨τ, hτ, z, hz, h⟩ := h
  split at h
  · rename_i id' q he
    rw [he] at hj; cases hj
    split at h
    · simp only [Option.map_eq_some_iff, Prod.mk.injEq, true_and] at h
      obtain ⟨z, hz, rfl, rfl⟩ := h
      exact ⟨_, rfl⟩
    · cases h
  · rename_i id' i q he
    rw [he] at hj; cases hj
    split at h
    · simp only [Option.map_eq_some_iff, Prod.mk.injEq, true_and] at h
      obtain ⟨z, hz, rfl, rfl⟩ := h
      exact ⟨_, rfl⟩
    · cases h
  · cases h
theorem load_away {ρ : Operand → AV} {L : Heap} {i j : Nat} {t : TypeId} {a : Operand} {s : Slot} (hi : placeId (ρ a) = some i) (hne : i ≠ j) : rop C ρ (L.set j s) (.load t a) = rop C ρ L (.load t a) := by
  have e : (L.set j s)[i]? = L[i]? := by rw [List.getElem?_set_ne (Ne.symm hne)]
  unfold rop
  simp only
  unfold loadA
  cases hx : ρ a <;> rw [hx] at hi <;> simp only [placeId] at hi <;> cases hi <;> simp only [e]
theorem load_vp {ρ : Operand → AV} {L L' : Heap} {t : TypeId} {a : Operand} {T : ETy} {x : T.I} {p : List PStep} (h : ρ a = .vp T x p) : rop C ρ L' (.load t a) = rop C ρ L (.load t a) := by
  unfold rop
  simp only
  unfold loadA
  rw [h]

/-- An operation that stands still goes on anywhere. -/
theorem OpVal.still {o : Oper} {id : Nat} {ρ : Operand → AV} {L L' L2 : Heap} {av : AV} (hf : footOf ρ o.op = .still) (h : OpVal C o id ρ L av L') : L' = L ∧ OpVal C o id ρ L2 av L2 := by
  rcases foot_still hf with ⟨t, a, T, x, p, ho, hv⟩ | ⟨s, d, a, ho⟩
  · rcases h with ⟨h, _⟩ | ⟨_, h, _⟩ | ⟨h1, h2, h3, rfl⟩
    · rw [ho] at h; cases h
    · rw [ho] at h; cases h
    · refine ⟨rfl, .inr (.inr ⟨h1, h2, ?_, rfl⟩)⟩
      rw [ho] at h3 ⊢
      exact (load_vp hv).trans h3
  · rcases h with ⟨h, _⟩ | ⟨h1, h2, h3, h4⟩ | ⟨_, h, _⟩
    · rw [ho] at h; cases h
    · have hns : isStore o.op = false := by rw [ho]; rfl
      rcases act_slot h3 hns h4 with ⟨rfl, _, h⟩ | ⟨hw, _⟩
      · exact ⟨rfl, .inr (.inl ⟨h1, h2, h3, h L2⟩)⟩
      · rw [ho] at hw; cases hw
    · rw [ho] at h; cases h
theorem OpVal.rd {o : Oper} {id i j : Nat} {ρ : Operand → AV} {L L' : Heap} {av : AV} {s : Slot} (hf : footOf ρ o.op = .rd i) (hne : i ≠ j) (h : OpVal C o id ρ L av L') : L' = L ∧ OpVal C o id ρ (L.set j s) av (L.set j s) := by
  obtain ⟨t, a, ho, hi⟩ := foot_rd hf
  rcases h with ⟨h, _⟩ | ⟨_, h, _⟩ | ⟨h1, h2, h3, rfl⟩
  · rw [ho] at h; cases h
  · rw [ho] at h; cases h
  · refine ⟨rfl, .inr (.inr ⟨h1, h2, ?_, rfl⟩)⟩
    rw [ho] at h3 ⊢
    rw [load_away hi hne]
    exact h3
theorem OpVal.rd' {o : Oper} {id i j : Nat} {ρ : Operand → AV} {L L' : Heap} {av : AV} {s : Slot} (hf : footOf ρ o.op = .rd i) (hne : i ≠ j) (h : OpVal C o id ρ (L.set j s) av L') : L' = L.set j s ∧ OpVal C o id ρ L av L := by
  obtain ⟨t, a, ho, hi⟩ := foot_rd hf
  rcases h with ⟨h, _⟩ | ⟨_, h, _⟩ | ⟨h1, h2, h3, rfl⟩
  · rw [ho] at h; cases h
  · rw [ho] at h; cases h
  · refine ⟨rfl, .inr (.inr ⟨h1, h2, ?_, rfl⟩)⟩
    rw [ho] at h3 ⊢
    rw [load_away hi hne] at h3
    exact h3
theorem OpVal.wr {o : Oper} {id j : Nat} {ρ : Operand → AV} {L L' : Heap} {av : AV} (hf : footOf ρ o.op = .wr j) (h : OpVal C o id ρ L av L') : ∃ s, L' = L.set j s := by
  obtain ⟨t, a, y, ho, hj⟩ := foot_wr hf
  rcases h with ⟨h, _⟩ | ⟨h1, h2, h3, h4⟩ | ⟨_, h, _⟩
  · rw [ho] at h; cases h
  · rw [ho] at h3 h4
    exact store_at hj h3 h4
  · rw [ho] at h; cases h

theorem OpVal.swapF {x p : Oper} {ix ip : Nat} {ρ : Operand → AV} {L L1 L2 : Heap} {ax ap : AV} {fx fp : Foot} (hx : footOf ρ x.op = fx) (hp : footOf ρ p.op = fp) (hok : feetOK fx fp = true)
    (h1 : OpVal C x ix ρ L ax L1) (h2 : OpVal C p ip ρ L1 ap L2) : ∃ L1', OpVal C p ip ρ L ap L1' ∧ OpVal C x ix ρ L1' ax L2 := by
  unfold feetOK at hok
  split at hok
  · rename_i i j
    have hne : i ≠ j := by simpa using hok
    obtain ⟨rfl, _⟩ := h1.rd (s := .gone) hx hne
    obtain ⟨s, rfl⟩ := h2.wr hp
    exact ⟨_, h2, (h1.rd hx hne).2⟩
  · rename_i i j
    have hne : i ≠ j := by simpa using hok
    obtain ⟨s, rfl⟩ := h1.wr hx
    obtain ⟨rfl, h3⟩ := h2.rd' hp (Ne.symm hne)
    exact ⟨L, h3, h1⟩
  · have e := (h1.still (L2 := L) hx).1
    rw [e] at h2
    exact ⟨L2, h2, (h1.still hx).2⟩
  · have e := (h2.still (L2 := L1) hp).1
    rw [e]
    exact ⟨L, (h2.still hp).2, h1⟩
  · cases hok

theorem foot_congr {ρ ρ' : Operand → AV} {op : Op} (h : ∀ x ∈ op.operands, ρ x = ρ' x) : footOf ρ op = footOf ρ' op := by
  unfold footOf
  split
  · rename_i t a
    rw [h a (by simp [Op.operands])]
  · rename_i t a y
    rw [h a (by simp [Op.operands])]
  · rfl
  · rfl
theorem foot_env {ops : Array Oper} {o : Oper} {env : List AV} {d : Option Tmp} {a : AV} (hd : ∀ e, d = some e → e ∉ o.looksAt ops) : footOf (evA C (envPut env d a)) o.op = footOf (evA C env) o.op := by
  refine foot_congr fun x hx => evA_put fun e hde hxe => ?_
  subst hxe
  exact hd e hde (mem_looks hx)

theorem StepVal.swap {ops : Array Oper} {x p : Oper} {ix ip : Nat} {env : List AV} {L L1 L2 : Heap} {ax ap : AV} {fx fp : Foot} (hfx : footOf (evA C env) x.op = fx) (hfp : footOf (evA C (envPut env x.dst ax)) p.op = fp) (hc : (compat ops x p || (x.apart ops p && feetOK fx fp)) = true) (hcl : Closed env L)
    (hrx : wantsId x.op = true → L[ix]? = some .resv) (hrp : wantsId p.op = true → L[ip]? = some .resv) (hne : wantsId x.op = true → wantsId p.op = true → ix ≠ ip)
    (h1 : StepVal C ops x ix env L ax L1) (h2 : StepVal C ops p ip (envPut env x.dst ax) L1 ap L2) :
    ∃ L1', (footOf (evA C env) p.op = fp ∧ footOf (evA C (envPut env p.dst ap)) x.op = fx) ∧ StepVal C ops p ip env L ap L1' ∧ StepVal C ops x ix (envPut env p.dst ap) L1' ax L2 ∧ envPut (envPut env p.dst ap) x.dst ax = envPut (envPut env x.dst ax) p.dst ap := by
  have hap : x.apart ops p = true := by
    rw [Bool.or_eq_true, Bool.and_eq_true] at hc
    rcases hc with hc | hc
    · unfold compat at hc; simp only [Bool.and_eq_true] at hc; exact hc.1.1
    · exact hc.1
  obtain ⟨a1, a2, a3⟩ := Oper.apart_spec hap
  rw [StepVal.env a1] at h2
  rw [foot_env a1] at hfp
  have henv : envPut (envPut env p.dst ap) x.dst ax = envPut (envPut env x.dst ax) p.dst ap := by
    cases hx : x.dst with
    | none => rfl
    | some d => cases hp : p.dst with
      | none => rfl
      | some e => exact List.set_comm _ _ (fun h => a2 d hx (by rw [hp, h]))
  have key : ∃ L1', StepVal C ops p ip env L ap L1' ∧ StepVal C ops x ix env L1' ax L2 := by
    have hev : ∀ y, (evA C env y).ids (open1 L) = true := evA_ids hcl
    rcases h1 with ⟨wx, h1⟩ | ⟨wx, rfl, rfl⟩ <;> rcases h2 with ⟨wp, h2⟩ | ⟨wp, rfl, rfl⟩
    · rw [Bool.or_eq_true, Bool.and_eq_true] at hc
      rcases hc with hc | hc
      · obtain ⟨L1', q1, q2⟩ := OpVal.swap hc (fun y _ => hev y) (fun y _ => hev y) hrx hrp hne h1 h2
        exact ⟨L1', .inl ⟨wp, q1⟩, .inl ⟨wx, q2⟩⟩
      · obtain ⟨L1', q1, q2⟩ := OpVal.swapF hfx hfp hc.2 h1 h2
        exact ⟨L1', .inl ⟨wp, q1⟩, .inl ⟨wx, q2⟩⟩
    · exact ⟨L, .inr ⟨wp, rfl, rfl⟩, .inl ⟨wx, h1⟩⟩
    · exact ⟨L2, .inl ⟨wp, h2⟩, .inr ⟨wx, rfl, rfl⟩⟩
    · exact ⟨_, .inr ⟨wp, rfl, rfl⟩, .inr ⟨wx, rfl, rfl⟩⟩
  obtain ⟨L1', k1, k2⟩ := key
  exact ⟨L1', ⟨hfp, by rw [foot_env a3]; exact hfx⟩, k1, (StepVal.env a3).2 k2, henv⟩
end
end Go.Proofs.YtmphlhnpichonaaDoor.K

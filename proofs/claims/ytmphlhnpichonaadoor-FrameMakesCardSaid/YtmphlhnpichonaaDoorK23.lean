/- Regions that draw their order, continued: two operations that may change places. -/
import Derived.Test.YtmphlhnpichonaaDoorK22
set_option maxHeartbeats 400000
set_option linter.unusedVariables false
set_option linter.unusedSimpArgs false
namespace Go.Proofs.YtmphlhnpichonaaDoor.K
open Go Go.RowKit

/-- What an operation gives, said of its operands alone. -/
def OpVal (C : Cfg) (o : Oper) (id : Nat) (ρ : Operand → AV) (L : Heap) (av : AV) (L' : Heap) : Prop :=
  (isCall o.op = true ∧ (∃ g bs, (callA C ρ L o.op).map (fun q => (q.1, q.2.1)) = some (g, bs) ∧ Contract C g bs av) ∧ (av.flat = true ∨ callOwnless ρ o.op = true) ∧ noIds av = true ∧ L' = L) ∨
  (isCall o.op = false ∧ isAct o.op = true ∧ actOK ρ o.op = true ∧ act C ρ L id o.type o.op = some (true, av, L')) ∨
  (isCall o.op = false ∧ isAct o.op = false ∧ rop C ρ L o.op = some (true, av) ∧ L' = L)

def wantB (ops : Array Oper) (o : Oper) (env : List AV) : Option Bool :=
  match o.guard with
  | none => some true
  | some (j, want) => match gTmp ops j with
    | some d => match env.getD d .dead with
      | .v .bool b => some (b == want)
      | .cst (.tuple _) => some false
      | _ => none
    | none => none

def StepVal (C : Cfg) (ops : Array Oper) (o : Oper) (id : Nat) (env : List AV) (L : Heap) (av : AV) (L' : Heap) : Prop :=
  (wantB ops o env = some true ∧ OpVal C o id (evA C env) L av L') ∨ (wantB ops o env = some false ∧ av = und ∧ L' = L)

def compat (ops : Array Oper) (x p : Oper) : Bool := x.apart ops p && (!isStore x.op || (shapeOnly p.op && !isCall p.op && !isAct p.op)) && (!isStore p.op || (shapeOnly x.op && !isCall x.op && !isAct x.op))

def Closed (env : List AV) (L : Heap) : Prop := ∀ t, (env.getD t .dead).ids (open1 L) = true

section
variable {Ω : Type} {C : Cfg} {B : Nat} {w0 : World} {S0 : Nat → Nat → Prop} {spec : Spec}

theorem evA_ids {env : List AV} {L : Heap} (h : Closed env L) (x : Operand) : (evA C env x).ids (open1 L) = true := by
  cases x with
  | tmp t => exact h t
  | const c => simp only [evA]; cases c <;> simp only [constA, AV.ids]
  | global g => simp only [evA]; cases C.G g <;> simp only [AV.ids]
  | func f => simp only [evA, AV.ids, AV.idsL]

theorem evA_put {env : List AV} {d : Option Tmp} {a : AV} {x : Operand} (h : ∀ e, d = some e → x ≠ .tmp e) : evA C (envPut env d a) x = evA C env x := by
  cases d with
  | none => rfl
  | some e =>
    cases x with
    | tmp t =>
      have : t ≠ e := fun he => h e rfl (by rw [he])
      simp only [evA, envPut, List.getD_eq_getElem?_getD]
      rw [List.getElem?_set_ne (Ne.symm this)]
    | const c => rfl
    | global g => rfl
    | func f => rfl

theorem callA_congr {ρ ρ' : Operand → AV} {L : Heap} {op : Op} (h : ∀ x ∈ op.operands, ρ x = ρ' x) : callA C ρ L op = callA C ρ' L op := by
  unfold callA
  split
  · rename_i f args ts
    have hf : ρ f = ρ' f := h f (by simp [Op.operands, Call.operands])
    have ha : args.toList.map ρ = args.toList.map ρ' := List.map_congr_left fun x hx => h x (by simp only [Op.operands, Call.operands]; rw [Array.mem_append]; right; rwa [← Array.mem_toList_iff])
    rw [hf, ha]
  · rfl

theorem rop_congr {ρ ρ' : Operand → AV} {L : Heap} {op : Op} (h : ∀ x ∈ op.operands, ρ x = ρ' x) : rop C ρ L op = rop C ρ' L op := by
  unfold rop
  split
  · rw [h _ (by simp [Op.operands])]
  · rw [h _ (by simp [Op.operands])]
  · rename_i c a b
    rw [h c (by simp [Op.operands]), h a (by simp [Op.operands]), h b (by simp [Op.operands])]
  · rename_i op t x y _
    rw [h x (by simp [Op.operands]), h y (by simp [Op.operands])]
  · rw [h _ (by simp [Op.operands])]
  · rw [h _ (by simp [Op.operands])]
  · rw [h _ (by simp [Op.operands])]
  · rw [h _ (by simp [Op.operands])]
  · rename_i t x i
    rw [h x (by simp [Op.operands]), h i (by simp [Op.operands])]
  · rw [h _ (by simp [Op.operands])]
  · rename_i t x i
    rw [h x (by simp [Op.operands]), h i (by simp [Op.operands])]
  · rw [h _ (by simp [Op.operands])]
  · rename_i t x lo hi
    have e1 : lo.map ρ = lo.map ρ' := by cases lo with
      | none => rfl
      | some l => simp only [Option.map_some]; rw [h l (by simp [Op.operands])]
    have e2 : hi.map ρ = hi.map ρ' := by cases hi with
      | none => rfl
      | some l => simp only [Option.map_some]; rw [h l (by simp [Op.operands])]
    rw [h x (by simp [Op.operands]), e1, e2]
  · rw [h _ (by simp [Op.operands])]
  · rename_i f first caps
    have : caps.toList.map ρ = caps.toList.map ρ' := List.map_congr_left fun x hx => h x (by simp only [Op.operands]; rw [Array.mem_append]; right; rwa [← Array.mem_toList_iff])
    rw [this]
  · rename_i b args ts
    have : args.toList.map ρ = args.toList.map ρ' := List.map_congr_left fun x hx => h x (by simp only [Op.operands, Call.operands]; rw [Array.mem_append]; right; rwa [← Array.mem_toList_iff])
    rw [this]
  · rfl

theorem parts_congr {ρ ρ' : Operand → AV} {parts : Array (Nat × Operand)} (h : ∀ x ∈ (parts.toList.map (·.2)).toArray, ρ x = ρ' x) : (parts.toList.map fun (i, x) => (i, ρ x)) = parts.toList.map fun (i, x) => (i, ρ' x) :=
  List.map_congr_left fun p hp => by
    obtain ⟨i, x⟩ := p
    have := h x (by simp; exact ⟨i, by simpa using hp⟩)
    simp only [this]

theorem act_congr {ρ ρ' : Operand → AV} {L : Heap} {id : Nat} {ty : TypeId} {op : Op} (h : ∀ x ∈ op.operands, ρ x = ρ' x) (hn : isAppend op = false) : act C ρ L id ty op = act C ρ' L id ty op := by
  unfold act
  split
  · rfl
  · rw [h _ (by simp [Op.operands])]
  · rw [parts_congr (by simpa [Op.operands] using h)]
  · rw [parts_congr (by simpa [Op.operands] using h)]
  · rename_i t p x
    rw [h p (by simp [Op.operands]), h x (by simp [Op.operands])]
  · rfl
  · rfl
  · simp [isAppend] at hn
  · rw [h _ (by simp [Op.operands])]
  · rfl

theorem all_congr {ρ ρ' : Operand → AV} {parts : Array (Nat × Operand)} (h : ∀ x ∈ (parts.toList.map (·.2)).toArray, ρ x = ρ' x) : (parts.toList.all fun (_, x) => noOwn (ρ x)) = parts.toList.all fun (_, x) => noOwn (ρ' x) := by
  rw [Bool.eq_iff_iff, List.all_eq_true, List.all_eq_true]
  constructor <;> intro k p hp <;> obtain ⟨i, x⟩ := p <;> have := h x (by simp; exact ⟨i, by simpa using hp⟩) <;> have := k (i, x) hp <;> simp_all

theorem actOK_congr {ρ ρ' : Operand → AV} {op : Op} (h : ∀ x ∈ op.operands, ρ x = ρ' x) : actOK ρ op = actOK ρ' op := by
  unfold actOK
  split
  · rfl
  · rw [h _ (by simp [Op.operands])]
  · exact all_congr (by simpa [Op.operands] using h)
  · exact all_congr (by simpa [Op.operands] using h)
  · rename_i t p x; rw [h x (by simp [Op.operands])]
  · rfl
  · rfl
  · rw [h _ (by simp [Op.operands])]
  · rfl

theorem callOwnless_congr {ρ ρ' : Operand → AV} {op : Op} (h : ∀ x ∈ op.operands, ρ x = ρ' x) : callOwnless ρ op = callOwnless ρ' op := by
  unfold callOwnless
  split
  · rename_i f args ts
    have hf : ρ f = ρ' f := h f (by simp [Op.operands, Call.operands])
    have ha : (args.toList.all fun x => noOwn (ρ x)) = args.toList.all fun x => noOwn (ρ' x) := by
      rw [Bool.eq_iff_iff, List.all_eq_true, List.all_eq_true]
      constructor <;> intro k x hx <;> have := h x (by simp only [Op.operands, Call.operands]; rw [Array.mem_append]; right; rwa [← Array.mem_toList_iff]) <;> have := k x hx <;> simp_all
    rw [hf, ha]
  · rfl

theorem OpVal.congr {o : Oper} {id : Nat} {ρ ρ' : Operand → AV} {L L' : Heap} {av : AV} (h : ∀ x ∈ o.op.operands, ρ x = ρ' x) (hv : OpVal C o id ρ L av L') : OpVal C o id ρ' L av L' := by
  rcases hv with ⟨h1, h2, h3, h4, h5⟩ | ⟨h1, h2, h3, h4⟩ | ⟨h1, h2, h3, h4⟩
  · exact .inl ⟨h1, by rw [← callA_congr h]; exact h2, by rw [← callOwnless_congr h]; exact h3, h4, h5⟩
  · exact .inr (.inl ⟨h1, h2, by rw [← actOK_congr h]; exact h3, by rw [← act_congr h (actOK_notAppend h3)]; exact h4⟩)
  · exact .inr (.inr ⟨h1, h2, by rw [← rop_congr h]; exact h3, h4⟩)

theorem mem_looks {ops : Array Oper} {o : Oper} {t : Tmp} (h : .tmp t ∈ o.op.operands) : t ∈ o.looksAt ops := by
  unfold Oper.looksAt
  rw [List.mem_append]
  left
  rw [List.mem_filterMap]
  exact ⟨.tmp t, Array.mem_toList_iff.2 h, rfl⟩

theorem StepVal.env {ops : Array Oper} {o : Oper} {id : Nat} {env : List AV} {L L' : Heap} {av : AV} {d : Option Tmp} {a : AV} (hd : ∀ e, d = some e → e ∉ o.looksAt ops) : StepVal C ops o id (envPut env d a) L av L' ↔ StepVal C ops o id env L av L' := by
  have he : ∀ x ∈ o.op.operands, evA C (envPut env d a) x = evA C env x := by
    intro x hx
    refine evA_put fun e hde hxe => ?_
    subst hxe
    exact hd e hde (mem_looks hx)
  have hw : wantB ops o (envPut env d a) = wantB ops o env := by
    unfold wantB
    split
    · rfl
    · rename_i j want hg
      split
      · rename_i t ht
        have : (envPut env d a).getD t .dead = env.getD t .dead := by
          cases d with
          | none => rfl
          | some e =>
            have hne : t ≠ e := by
              rintro rfl
              refine hd t rfl ?_
              unfold Oper.looksAt
              rw [List.mem_append]
              right
              rw [hg]
              unfold gTmp at ht
              simp [ht]
            simp only [envPut, List.getD_eq_getElem?_getD]
            rw [List.getElem?_set_ne (Ne.symm hne)]
        rw [this]
      · rfl
  unfold StepVal
  rw [hw]
  constructor
  · rintro (⟨h1, h2⟩ | h)
    · exact .inl ⟨h1, h2.congr he⟩
    · exact .inr h
  · rintro (⟨h1, h2⟩ | h)
    · exact .inl ⟨h1, h2.congr fun x hx => (he x hx).symm⟩
    · exact .inr h

theorem mark_mark (s : Slot) : s.mark.mark = s.mark := by cases s <;> rfl

theorem markIds_get : ∀ (l : List Nat) (L : Heap) (i : Nat), (markIds L l)[i]? = if i ∈ l then (L[i]?).map Slot.mark else L[i]?
  | [], L, i => by simp [markIds]
  | j :: l, L, i => by
    rw [markIds, markIds_get l]
    have h1 : (mark1 L j)[i]? = if i = j then (L[i]?).map Slot.mark else L[i]? := by
      unfold mark1
      cases hj : L[j]? with
      | none =>
        simp only
        split
        · rename_i e; subst e; rw [hj]; rfl
        · rfl
      | some s =>
        simp only
        rw [get_set ⟨_, hj⟩]
        split
        · rename_i e; subst e; rw [hj]; rfl
        · rfl
    rw [h1]
    by_cases e : i = j
    · subst e
      simp only [if_true, List.mem_cons, true_or]
      split
      · cases L[i]? <;> simp [mark_mark]
      · rfl
    · simp only [e, if_false, List.mem_cons, false_or]

theorem handA_congr {L L' : Heap} {t : TypeId} {a : AV} (h : ∀ i ∈ ownOf a, L[i]? = L'[i]?) : handA C L t a = handA C L' t a := by
  unfold handA
  split
  case h_10 =>
    rename_i f id p id2 p2
    rw [h id (by simp [ownOf]), h id2 (by simp [ownOf])]
  all_goals first | rfl | (rw [h _ (by simp [ownOf])])

theorem handL_congr {L L' : Heap} : ∀ {as : List AV} {ts : List TypeId}, (∀ a ∈ as, ∀ i ∈ ownOf a, L[i]? = L'[i]?) → handL C L ts as = handL C L' ts as
  | [], ts, h => by cases ts <;> rfl
  | a :: as, ts, h => by
    have h1 : ∀ t, handA C L t a = handA C L' t a := fun t => handA_congr (h a (by simp))
    have h2 : ∀ ts, handL C L ts as = handL C L' ts as := fun ts => handL_congr (fun b hb => h b (List.mem_cons_of_mem _ hb))
    cases ts <;> simp only [handL, h1, h2]

theorem ownOf_ids {f : Bool → Nat → Bool} {a : AV} (h : a.ids f = true) : ∀ i ∈ ownOf a, ∃ b, f b i = true := by
  intro i hi
  unfold ownOf at hi
  split at hi
  · simp at hi; subst hi; simp only [AV.ids] at h; exact ⟨_, h⟩
  · simp at hi; subst hi; simp only [AV.ids] at h; exact ⟨_, h⟩
  · simp at hi; subst hi; simp only [AV.ids] at h; exact ⟨_, h⟩
  · simp at hi; subst hi; simp only [AV.ids, AV.idsL, Bool.and_true] at h; exact ⟨_, h⟩
  · simp only [AV.ids, AV.idsL, Bool.and_true, Bool.and_eq_true] at h
    simp at hi
    rcases hi with rfl | rfl
    · exact ⟨_, h.1⟩
    · exact ⟨_, h.2⟩
  · simp at hi

theorem open1_ne {L : Heap} {j i : Nat} {b : Bool} (hj : L[j]? = some .resv) (h : open1 L b i = true) : i ≠ j := by
  rintro rfl; unfold open1 at h; rw [hj] at h; cases h

theorem callA_resv {ρ : Operand → AV} {L : Heap} {j : Nat} {s : Slot} (hj : L[j]? = some .resv) {op : Op} (h : ∀ x ∈ op.operands, (ρ x).ids (open1 L) = true) :
    (callA C ρ (L.set j s) op).map (fun q => (q.1, q.2.1)) = (callA C ρ L op).map (fun q => (q.1, q.2.1)) := by
  unfold callA
  split
  · rename_i f args ts
    split
    · rename_i g caps hf
      have hfi := fnOf_ids (h f (by simp [Op.operands, Call.operands]))
      rw [hf] at hfi
      simp only [AV.ids] at hfi
      have hall : ∀ a ∈ args.toList.map ρ ++ caps, a.ids (open1 L) = true := by
        intro a ha
        rcases List.mem_append.1 ha with ha | ha
        · obtain ⟨x, hx, rfl⟩ := List.mem_map.1 ha
          exact h x (by simp only [Op.operands, Call.operands]; rw [Array.mem_append]; right; rwa [← Array.mem_toList_iff])
        · obtain ⟨i, hi⟩ := List.mem_iff_getElem?.1 ha
          exact idsL_get hfi i a hi
      have e : handL C (markIds (L.set j s) ((args.toList.map ρ ++ caps).flatMap ownOf)) ((C.P.funcs[g]?).map (·.params.toList) |>.getD []) (args.toList.map ρ ++ caps) =
          handL C (markIds L ((args.toList.map ρ ++ caps).flatMap ownOf)) ((C.P.funcs[g]?).map (·.params.toList) |>.getD []) (args.toList.map ρ ++ caps) := by
        refine handL_congr fun a ha i hi => ?_
        obtain ⟨b, hb⟩ := ownOf_ids (hall a ha) i hi
        rw [markIds_get, markIds_get, List.getElem?_set_ne (Ne.symm (open1_ne hj hb))]
      simp only [e, Option.map_map]
      rfl
    · rfl
  · rfl

theorem liftA_noOwn {L L' : Heap} {τ : ETy} {a : AV} (h : noOwn a = true) : liftA L τ a = liftA L' τ a := by
  unfold liftA
  split <;> first | rfl | (simp [noOwn, ownOf] at h)

theorem markL_noOwn {L : Heap} : ∀ {l : List AV}, (∀ a ∈ l, noOwn a = true) → markL L l = L
  | [], _ => rfl
  | a :: l, h => by
    unfold markL
    rw [noOwn_mark (h a (by simp))]
    exact markL_noOwn fun b hb => h b (List.mem_cons_of_mem _ hb)

theorem setParts_noOwn {T : ETy} {st : Nat → PStep} {L L' : Heap} : ∀ {parts : List (Nat × AV)} {x : T.I}, (∀ p ∈ parts, noOwn p.2 = true) → setParts T st L x parts = setParts T st L' x parts
  | [], x, _ => rfl
  | (i, a) :: r, x, h => by
    simp only [setParts]
    congr 1; funext σ
    rw [liftA_noOwn (L' := L') (h (i, a) (by simp))]
    congr 1; funext y
    congr 1; funext x'
    exact setParts_noOwn fun p hp => h p (List.mem_cons_of_mem _ hp)

theorem parts_noOwn {ρ : Operand → AV} {parts : Array (Nat × Operand)} (h : (parts.toList.all fun (_, x) => noOwn (ρ x)) = true) : (∀ p ∈ (parts.toList.map fun (i, x) => (i, ρ x)), noOwn p.2 = true) ∧ ∀ a ∈ (parts.toList.map fun (i, x) => (i, ρ x)).map (·.2), noOwn a = true := by
  rw [List.all_eq_true] at h
  have h1 : ∀ p ∈ (parts.toList.map fun (i, x) => (i, ρ x)), noOwn p.2 = true := by
    intro p hp
    obtain ⟨q, hq, rfl⟩ := List.mem_map.1 hp
    exact h q hq
  refine ⟨h1, fun a ha => ?_⟩
  obtain ⟨p, hp, rfl⟩ := List.mem_map.1 ha
  exact h1 p hp

/-- Operations that make memory, of operands that bear nothing of one's own: what they do hangs on no block. -/
theorem act_slot {ρ : Operand → AV} {L L' : Heap} {id : Nat} {ty : TypeId} {op : Op} {av : AV} (hok : actOK ρ op = true) (hns : isStore op = false) (h : act C ρ L id ty op = some (true, av, L')) :
    (L' = L ∧ (∃ τ x, av = .v τ x) ∧ ∀ L2, act C ρ L2 id ty op = some (true, av, L2)) ∨
    (wantsId op = true ∧ (av = .ref id [] ∨ av = .rs id) ∧ ∃ s : Slot, s.live = true ∧ L' = L.set id s ∧ ∀ L2, act C ρ L2 id ty op = some (true, av, L2.set id s)) := by
  unfold actOK at hok
  unfold act at h ⊢
  split at h
  · right
    unfold allocA at h ⊢
    simp only [Option.map_eq_some_iff, Prod.mk.injEq, true_and] at h
    obtain ⟨τ, hτ, rfl, rfl⟩ := h
    exact ⟨rfl, .inl rfl, .box τ τ.z false, rfl, rfl, fun L2 => by simp [hτ]⟩
  · right
    simp only at hok
    unfold boxA boxA.mark1' at h ⊢
    simp only [Option.bind_eq_some_iff, Option.map_eq_some_iff, Prod.mk.injEq, true_and] at h
    obtain ⟨τ, hτ, x, hx, rfl, rfl⟩ := h
    have hm : ∀ L : Heap, markL L [ρ (by assumption)] = L := fun L => markL_noOwn (by simpa using hok)
    refine ⟨rfl, .inl rfl, .box τ x false, rfl, by rw [hm], fun L2 => ?_⟩
    rw [hτ]
    simp only [Option.bind_some, hm] at hx ⊢
    rw [liftA_noOwn (L' := L) hok, hx]
    rfl
  · left
    simp only at hok
    obtain ⟨hp1, hp2⟩ := parts_noOwn hok
    unfold buildA at h ⊢
    simp only [Option.bind_eq_some_iff] at h
    obtain ⟨τ, hτ, h⟩ := h
    simp only [markL_noOwn hp2] at h
    split at h
    · simp only [Option.map_eq_some_iff, Prod.mk.injEq, true_and] at h
      obtain ⟨x, hx, rfl, rfl⟩ := h
      refine ⟨rfl, ⟨_, _, rfl⟩, fun L2 => ?_⟩
      rw [hτ]
      simp only [Option.bind_some, markL_noOwn hp2]
      rw [setParts_noOwn (L' := L) hp1, hx]; rfl
    · split at h
      · rename_i hst
        simp only [Option.map_eq_some_iff, Prod.mk.injEq, true_and] at h
        obtain ⟨x, hx, rfl, rfl⟩ := h
        refine ⟨rfl, ⟨_, _, rfl⟩, fun L2 => ?_⟩
        rw [hτ]
        simp only [Option.bind_some, markL_noOwn hp2]
        rw [if_pos hst, setParts_noOwn (L' := L) hp1, hx]; rfl
      · cases h
    · cases h
  · right
    simp only at hok
    obtain ⟨hp1, hp2⟩ := parts_noOwn hok
    unfold buildSliceA at h ⊢
    simp only [Option.bind_eq_some_iff] at h
    obtain ⟨τ, hτ, te, hte, h⟩ := h
    simp only [markL_noOwn hp2] at h
    split at h
    · split at h
      · rename_i hst
        simp only [Option.map_eq_some_iff, Prod.mk.injEq, true_and] at h
        obtain ⟨x, hx, rfl, rfl⟩ := h
        refine ⟨rfl, .inr rfl, _, rfl, rfl, fun L2 => ?_⟩
        rw [hτ, hte]
        simp only [Option.bind_some, markL_noOwn hp2]
        rw [if_pos hst, setParts_noOwn (L' := L) hp1, hx]; rfl
      · cases h
    · cases h
  · simp [isStore] at hns
  · right
    unfold nilRowA at h ⊢
    split at h
    · rename_i e te h1 h2
      simp only [Option.some.injEq, Prod.mk.injEq, true_and] at h
      obtain ⟨rfl, rfl⟩ := h
      exact ⟨rfl, .inr rfl, .row te e [] false, rfl, rfl, fun L2 => by simp [h1, h2]⟩
    · cases h
  · right
    unfold nilRowA at h ⊢
    split at h
    · rename_i e te h1 h2
      simp only [Option.some.injEq, Prod.mk.injEq, true_and] at h
      obtain ⟨rfl, rfl⟩ := h
      exact ⟨rfl, .inr rfl, .row te e [] false, rfl, rfl, fun L2 => by simp [h1, h2]⟩
    · cases h
  · cases hok
  · left
    rename_i s d x
    cases hx : ρ x with
    | v σ y =>
      rw [hx] at h
      obtain ⟨h1, h2⟩ := convB_v h
      exact ⟨convB_L h, h1, h2⟩
    | _ => simp only [hx] at hok; cases hok
  · cases h

def sameShape : Slot → Slot → Prop
  | .box T _ _, s => ∃ x ro, s = .box T x ro
  | .row t e xs _, s => ∃ ys ro, s = .row t e ys ro ∧ List.length ys = List.length xs
  | _, _ => False

theorem store_slot {ρ : Operand → AV} {L L' : Heap} {id : Nat} {ty : TypeId} {op : Op} {av : AV} (hok : actOK ρ op = true) (hs : isStore op = true) (h : act C ρ L id ty op = some (true, av, L')) :
    av = .dead ∧ ∃ i s0 s1, L[i]? = some s0 ∧ sameShape s0 s1 ∧ s1.live = true ∧ L' = L.set i s1 := by
  unfold act at h
  split at h <;> (try (simp [isStore] at hs; done))
  rename_i t p x
  simp only [actOK] at hok
  unfold storeA at h
  have hm : markL L [ρ x] = L := markL_noOwn (by simpa using hok)
  simp only [Option.bind_eq_some_iff, hm] at h
  obtain ⟨τ, hτ, y, hy, h⟩ := h
  split at h
  · split at h
    · rename_i hL
      simp only [Option.map_eq_some_iff, Prod.mk.injEq, true_and] at h
      obtain ⟨z, hz, rfl, rfl⟩ := h
      exact ⟨rfl, _, _, _, hL, ⟨_, _, rfl⟩, rfl, rfl⟩
    · cases h
  · split at h
    · rename_i hL
      simp only [Option.map_eq_some_iff, Prod.mk.injEq, true_and] at h
      obtain ⟨z, hz, rfl, rfl⟩ := h
      exact ⟨rfl, _, _, _, hL, ⟨_, _, rfl, by simp⟩, rfl, rfl⟩
    · cases h
  · cases h
end
end Go.Proofs.YtmphlhnpichonaaDoor.K

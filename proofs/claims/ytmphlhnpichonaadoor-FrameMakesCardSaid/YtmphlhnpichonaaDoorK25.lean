/- Regions that draw their order: the walk; regions of either kind. -/
import Derived.Test.YtmphlhnpichonaaDoorK24
set_option maxHeartbeats 400000
set_option linter.unusedVariables false
set_option linter.unusedSimpArgs false
namespace Go.Proofs.YtmphlhnpichonaaDoor.K
open Go Go.RowKit

/-- An operation, its number, its place. -/
structure It where
  i : Nat
  o : Oper
  id : Nat
  f : Foot

/-- Does an edge lead from the one to the other? -/
def edgeTo (ops : Array Oper) (j k : Nat) : Bool := match ops[k]? with
  | some o => o.after.toList.any fun e => Region.binds .any e && e.on == j
  | none => false
/-- Do all that stand ahead lead to it, and it to all that stand behind? -/
def isBar (ops : Array Oper) (p : Nat) : Bool :=
  ((List.range p).all fun j => (List.range (p + 1)).any fun k => decide (j < k) && edgeTo ops j k) &&
  ((List.range ops.size).all fun q => decide (q ≤ p) || (List.range q).any fun j => decide (p ≤ j) && edgeTo ops j q)
def useBar (ops : Array Oper) (i : Nat) (ρ : Operand → AV) (op : Op) : Bool :=
  (bif isCall op then !callOwnless ρ op else isAct op && !actOK ρ op) && isBar ops i

def RunD (C : Cfg) (ops : Array Oper) : List It → List AV → Heap → List AV → Heap → Prop
  | [], env, L, env', L' => env' = env ∧ L' = L
  | t :: rest, env, L, env', L' => (∃ av L1, footOf (evA C env) t.o.op = t.f ∧ StepVal C ops t.o t.id env L av L1 ∧ RunD C ops rest (envPut env t.o.dst av) L1 env' L') ∨
      (isBar ops t.i = true ∧ ∃ env1 L1, StepRel C ops t.o t.id env L env1 L1 ∧ RunD C ops rest env1 L1 env' L')

def items : List Oper → List Foot → Nat → Nat → List It
  | [], _, _, _ => []
  | o :: r, fs, i, id => ⟨i, o, id, fs.headD .none⟩ :: items r fs.tail (i + 1) (nextId o id)

/-- May two change places? -/
def compat2 (ops : Array Oper) (x p : It) : Bool := compat ops x.o p.o || (x.o.apart ops p.o && feetOK x.f p.f)
/-- May any two that no edge orders change places? Do all edges lead back? -/
def pairsOK (ops : Array Oper) (p : It) : List It → Bool
  | [] => true
  | x :: r => (p.o.after.toList.any (fun e => Region.binds .any e && e.on == x.i) || compat2 ops x p) && pairsOK ops p r
def drawOK (ops : Array Oper) : List It → List It → Bool
  | _, [] => true
  | before, p :: r => pairsOK ops p before && p.o.after.toList.all (fun e => !Region.binds .any e || decide (e.on < p.i)) && drawOK ops (before ++ [p]) r

def evOpX {Ω : Type} (C : Cfg) (spec : Spec) (ops : Array Oper) (i : Nat) (o : Oper) (id : Nat) (env : List AV) (L : Heap) (k : List AV → Heap → Option Ω) : Option Ω :=
  bif useBar ops i (evA C env) o.op then evOp C spec o id env L k else evOpD C spec o id env L k

/-- The operations of a region, in the text's order, where the order is drawn. -/
def evOpsD {Ω : Type} (C : Cfg) (spec : Spec) (ops : Array Oper) (id0 : Nat) : List Foot → List Oper → Nat → Nat → List AV → Heap → (List AV → Heap → Option Ω) → Option Ω
  | acc, [], _, _, env, L, k => bif drawOK ops [] (items ops.toList acc 0 id0) then k env L else none
  | acc, o :: rest, i, id, env, L, k =>
    match o.guard with
    | none => evOpX C spec ops i o id env L fun env' L' => evOpsD C spec ops id0 (acc ++ [footOf (evA C env) o.op]) rest (i + 1) (nextId o id) env' L' k
    | some (j, want) => match gTmp ops j with
      | none => none
      | some d => match env.getD d .dead with
        | .v .bool b => bif b then
            (bif want then evOpX C spec ops i o id (env.set d (.v .bool true)) L fun env' L' => evOpsD C spec ops id0 (acc ++ [footOf (evA C env) o.op]) rest (i + 1) (nextId o id) env' L' k
              else evOpsD C spec ops id0 (acc ++ [footOf (evA C env) o.op]) rest (i + 1) (nextId o id) (envPut (env.set d (.v .bool true)) o.dst und) L k)
          else
            (bif want then evOpsD C spec ops id0 (acc ++ [footOf (evA C env) o.op]) rest (i + 1) (nextId o id) (envPut (env.set d (.v .bool false)) o.dst und) L k
              else evOpX C spec ops i o id (env.set d (.v .bool false)) L fun env' L' => evOpsD C spec ops id0 (acc ++ [footOf (evA C env) o.op]) rest (i + 1) (nextId o id) env' L' k)
        | .cst (.tuple _) => evOpsD C spec ops id0 (acc ++ [footOf (evA C env) o.op]) rest (i + 1) (nextId o id) (envPut env o.dst und) L k
        | _ => none

def evRegion {Ω : Type} (C : Cfg) (spec : Spec) (ops : Array Oper) (draw : Bool) (env : List AV) (L : Heap) (k : List AV → Heap → Option Ω) : Option Ω :=
  bif draw then evOpsD C spec ops L.length [] ops.toList 0 L.length env (L ++ List.replicate (cntIds ops.toList) .resv) k
  else evOps C spec ops ops.toList L.length env (L ++ List.replicate (cntIds ops.toList) .resv) k

section
variable {Ω : Type} {C : Cfg} {B : Nat} {w0 : World} {S0 : Nat → Nat → Prop} {spec : Spec}

theorem evOpD_val (hS : SpecOK C spec) {o : Oper} {id : Nat} {env : List AV} {L : Heap} {k : List AV → Heap → Option Ω} {r : Ω} (h : evOpD C spec o id env L k = some r) : ∃ av L', OpVal C o id (evA C env) L av L' ∧ k (envPut env o.dst av) L' = some r := by
  unfold evOpD at h
  cases hc : isCall o.op with
  | true =>
    rw [hc] at h
    simp only [cond_true] at h
    split at h
    · rename_i g bs L1 hca
      obtain ⟨av, h1, h2⟩ := hS g bs _ r h
      cases hcond : (av.flat || callOwnless (evA C env) o.op) && noIds av with
      | true =>
        rw [hcond] at h1
        simp only [cond_true] at h1
        simp only [Bool.and_eq_true, Bool.or_eq_true] at hcond
        exact ⟨av, L, .inl ⟨hc, ⟨g, bs, by rw [hca]; rfl, h2⟩, hcond.1, hcond.2, rfl⟩, h1⟩
      | false => rw [hcond] at h1; cases h1
    · cases h
  | false =>
    rw [hc] at h
    simp only [cond_false] at h
    cases ha : isAct o.op with
    | true =>
      rw [ha] at h
      simp only [cond_true] at h
      cases hok : actOK (evA C env) o.op with
      | true =>
        rw [hok] at h
        simp only [cond_true] at h
        split at h
        · rename_i c av L' hact
          cases c with
          | true => exact ⟨av, L', .inr (.inl ⟨hc, ha, hok, hact⟩), h⟩
          | false => cases h
        · cases h
      | false => rw [hok] at h; cases h
    | false =>
      rw [ha] at h
      simp only [cond_false] at h
      split at h
      · rename_i c av hrop
        cases c with
        | true => exact ⟨av, L, .inr (.inr ⟨hc, ha, hrop, rfl⟩), h⟩
        | false => cases h
      · cases h

theorem ite_some' {p : Bool} {x : Option Ω} {r : Ω} (h : (bif p then x else none) = some r) : p = true ∧ x = some r := by
  cases p with
  | true => exact ⟨rfl, h⟩
  | false => cases h

theorem step_of_want {ops : Array Oper} {o : Oper} {id : Nat} {env env1 : List AV} {L L1 : Heap} (hw : wantB ops o env = some true) (h : OpRel C o id env L env1 L1) : StepRel C ops o id env L env1 L1 := by
  unfold StepRel
  unfold wantB at hw
  split at hw
  · rename_i hg; simp only [hg]; exact h
  · rename_i j want hg
    simp only [hg]
    split at hw
    · rename_i d hd
      split at hw
      · rename_i b hb
        simp only [Option.some.injEq, beq_iff_eq] at hw
        exact ⟨d, hd, .inl ⟨b, hb, by rw [if_pos hw]; exact h⟩⟩
      · cases hw
      · cases hw
    · cases hw

theorem evOpsD_run (hS : SpecOK C spec) {ops : Array Oper} {id0 : Nat} : ∀ {l : List Oper} {acc : List Foot} {i id : Nat} {env : List AV} {L : Heap} {k : List AV → Heap → Option Ω} {r : Ω}, evOpsD C spec ops id0 acc l i id env L k = some r →
    ∃ env' L' fl, RunD C ops (items l fl i id) env L env' L' ∧ fl.length = l.length ∧ drawOK ops [] (items ops.toList (acc ++ fl) 0 id0) = true ∧ k env' L' = some r
  | [], acc, i, id, env, L, k, r, h => by
    simp only [evOpsD] at h
    obtain ⟨h1, h2⟩ := ite_some' h
    exact ⟨env, L, [], ⟨rfl, rfl⟩, rfl, by rw [List.append_nil]; exact h1, h2⟩
  | o :: rest, acc, i, id, env, L, k, r, h => by
    simp only [evOpsD] at h
    have go : wantB ops o env = some true → evOpX C spec ops i o id env L (fun env' L' => evOpsD C spec ops id0 (acc ++ [footOf (evA C env) o.op]) rest (i + 1) (nextId o id) env' L' k) = some r →
        ∃ env' L' fl, RunD C ops (items (o :: rest) fl i id) env L env' L' ∧ fl.length = (o :: rest).length ∧ drawOK ops [] (items ops.toList (acc ++ fl) 0 id0) = true ∧ k env' L' = some r := by
      intro hw h
      unfold evOpX at h
      cases hu : useBar ops i (evA C env) o.op with
      | true =>
        rw [hu] at h
        simp only [cond_true] at h
        obtain ⟨env1, L1, h1, h2⟩ := evOp_rel hS h
        obtain ⟨env', L', fl, h3, h4, h5, h6⟩ := evOpsD_run hS h2
        have hb : isBar ops i = true := by
          unfold useBar at hu
          simp only [Bool.and_eq_true] at hu
          exact hu.2
        exact ⟨env', L', _ :: fl, .inr ⟨hb, env1, L1, step_of_want hw h1, h3⟩, by simp [h4], by simpa using h5, h6⟩
      | false =>
        rw [hu] at h
        simp only [cond_false] at h
        obtain ⟨av, L1, h1, h2⟩ := evOpD_val hS h
        obtain ⟨env', L', fl, h3, h4, h5, h6⟩ := evOpsD_run hS h2
        exact ⟨env', L', _ :: fl, .inl ⟨av, L1, rfl, .inl ⟨hw, h1⟩, h3⟩, by simp [h4], by simpa using h5, h6⟩
    have stay : wantB ops o env = some false → evOpsD C spec ops id0 (acc ++ [footOf (evA C env) o.op]) rest (i + 1) (nextId o id) (envPut env o.dst und) L k = some r →
        ∃ env' L' fl, RunD C ops (items (o :: rest) fl i id) env L env' L' ∧ fl.length = (o :: rest).length ∧ drawOK ops [] (items ops.toList (acc ++ fl) 0 id0) = true ∧ k env' L' = some r := by
      intro hw h
      obtain ⟨env', L', fl, h3, h4, h5, h6⟩ := evOpsD_run hS h
      exact ⟨env', L', _ :: fl, .inl ⟨und, L, rfl, .inr ⟨hw, rfl, rfl⟩, h3⟩, by simp [h4], by simpa using h5, h6⟩
    split at h
    · rename_i hg
      exact go (by unfold wantB; rw [hg]) h
    · rename_i j want hg
      cases hd : gTmp ops j with
      | none => rw [hd] at h; cases h
      | some d =>
        rw [hd] at h
        simp only at h
        split at h
        · rename_i b hb
          have hw : wantB ops o env = some (b == want) := by unfold wantB; rw [hg]; simp only [hd]; rw [hb]
          cases b with
          | true =>
            rw [set_getD hb (by simp)] at h
            simp only [cond_true] at h
            cases want with
            | true => exact go hw (by simpa using h)
            | false => exact stay hw (by simpa using h)
          | false =>
            rw [set_getD hb (by simp)] at h
            simp only [cond_false] at h
            cases want with
            | true => exact stay hw (by simpa using h)
            | false => exact go hw (by simpa using h)
        · rename_i c hb
          exact stay (by unfold wantB; rw [hg]; simp only [hd]; rw [hb]) h
        · cases h

theorem OpVal.rel {o : Oper} {id : Nat} {env : List AV} {L L' : Heap} {av : AV} (h : OpVal C o id (evA C env) L av L') : OpRel C o id env L (envPut env o.dst av) L' := by
  rcases h with ⟨hc, ⟨g, bs, h1, h2⟩, h3, _, rfl⟩ | ⟨hc, ha, hok, h1⟩ | ⟨hc, ha, h1, rfl⟩
  · obtain ⟨⟨g', bs', L1⟩, hca, he⟩ := Option.map_eq_some_iff.1 h1
    simp only [Prod.mk.injEq] at he
    obtain ⟨rfl, rfl⟩ := he
    refine .inl ⟨hc, _, _, L1, av, hca, h2, rfl, ?_⟩
    rcases h3 with h3 | h3
    · rw [h3]; rfl
    · rw [callOwnless_L hca h3]; simp
  · refine .inr (.inl ⟨hc, ha, av, h1, ?_⟩)
    rw [actOK_notAppend hok]; rfl
  · exact .inr (.inr ⟨hc, ha, av, h1, rfl, rfl⟩)

theorem StepVal.rel {ops : Array Oper} {o : Oper} {id : Nat} {env : List AV} {L L' : Heap} {av : AV} (h : StepVal C ops o id env L av L') : StepRel C ops o id env L (envPut env o.dst av) L' := by
  unfold StepRel
  rcases h with ⟨hw, h⟩ | ⟨hw, rfl, rfl⟩
  · unfold wantB at hw
    split at hw
    · rename_i hg; simp only [hg]; exact h.rel
    · rename_i j want hg
      simp only [hg]
      split at hw
      · rename_i d hd
        split at hw
        · rename_i b hb
          simp only [Option.some.injEq, beq_iff_eq] at hw
          exact ⟨d, hd, .inl ⟨b, hb, by rw [if_pos hw]; exact h.rel⟩⟩
        · cases hw
        · cases hw
      · cases hw
  · unfold wantB at hw
    split at hw
    · cases hw
    · rename_i j want hg
      simp only [hg]
      split at hw
      · rename_i d hd
        split at hw
        · rename_i b hb
          simp only [Option.some.injEq, beq_eq_false_iff_ne, ne_eq] at hw
          exact ⟨d, hd, .inl ⟨b, hb, by rw [if_neg hw]; first | exact ⟨rfl, rfl⟩ | simp⟩⟩
        · rename_i c hb
          exact ⟨d, hd, .inr ⟨⟨c, hb⟩, by simp⟩⟩
        · cases hw
      · cases hw

theorem open1_set {L : Heap} {id : Nat} {s : Slot} (hl : s.live = true) (hx : ∃ r, L[id]? = some r) : ∀ b i, open1 L b i = true → open1 (L.set id s) b i = true := by
  intro b i h
  unfold open1 at h ⊢
  rw [get_set hx]
  by_cases e : i = id
  · rw [if_pos e]
    cases s <;> first | rfl | (simp [Slot.live] at hl)
  · rw [if_neg e]; exact h

theorem Closed.put {env : List AV} {L : Heap} {d : Option Tmp} {a : AV} (h : Closed env L) (ha : a.ids (open1 L) = true) : Closed (envPut env d a) L := by
  intro t
  cases d with
  | none => exact h t
  | some e =>
    simp only [envPut, List.getD_eq_getElem?_getD]
    by_cases he : t = e
    · subst he
      rcases Nat.lt_or_ge t env.length with hlt | hge
      · rw [List.getElem?_set_self hlt]; exact ha
      · rw [List.getElem?_eq_none (by simpa using hge)]; simp only [Option.getD_none, AV.ids]
    · rw [List.getElem?_set_ne (Ne.symm he), ← List.getD_eq_getElem?_getD]; exact h t

theorem StepVal.closed {ops : Array Oper} {o : Oper} {id : Nat} {env : List AV} {L L' : Heap} {av : AV} (h : StepVal C ops o id env L av L') (hcl : Closed env L) (hid : wantsId o.op = true → L[id]? = some .resv) : Closed (envPut env o.dst av) L' := by
  have mono : ∀ {L'}, (∀ b i, open1 L b i = true → open1 L' b i = true) → av.ids (open1 L') = true → Closed (envPut env o.dst av) L' := fun hm ha => Closed.put (fun t => ids_mono hm (hcl t)) ha
  rcases h with ⟨_, h⟩ | ⟨_, rfl, rfl⟩
  · rcases h with ⟨_, _, _, h4, rfl⟩ | ⟨h1, h2, h3, h4⟩ | ⟨_, _, h3, rfl⟩
    · exact mono (fun _ _ h => h) (ids_mono (fun _ _ h => by cases h) h4)
    · cases hs : isStore o.op with
      | true =>
        obtain ⟨rfl, i, s0, s1, q1, q2, q3, rfl⟩ := store_slot h3 hs h4
        exact mono (open1_set q3 ⟨_, q1⟩) (by simp only [AV.ids])
      | false =>
        rcases act_slot h3 hs h4 with ⟨rfl, ⟨τ, x, rfl⟩, _⟩ | ⟨hw, hav, s, hl, rfl, _⟩
        · exact mono (fun _ _ h => h) (by simp only [AV.ids])
        · refine mono (open1_set hl ⟨_, hid hw⟩) ?_
          have : ∀ b, open1 (L.set id s) b id = true := by
            intro b
            unfold open1
            rw [get_set ⟨_, hid hw⟩, if_pos rfl]
            cases s <;> first | rfl | (simp [Slot.live] at hl)
          rcases hav with rfl | rfl <;> simp only [AV.ids] <;> exact this _
    · exact mono (fun _ _ h => h) (rop_ids (fun x _ => evA_ids hcl x) h3 (fun i => Iff.rfl))
  · exact Closed.put hcl (by simp only [und, AV.ids])

theorem RepE.closed {m : Nat → Value} {L : Heap} {w : World} {S : Nat → Nat → Prop} {env : List AV} {tmps : Array Value} (h : RepE m L w S env tmps) : Closed env L := by
  have key : ∀ (a : AV), ∀ u, RepA m L w S a u → a.ids (open1 L) = true := by
    intro a
    refine AV.rec (motive_1 := fun a => ∀ u, RepA m L w S a u → a.ids (open1 L) = true) (motive_2 := fun l => ∀ us, RepAs m L w S l us → AV.idsL (open1 L) l = true) ?_ ?_ ?_ ?_ ?_ ?_ ?_ ?_ ?_ ?_ ?_ ?_ a
    · intro τ x u _; simp only [AV.ids]
    · intro c u _; simp only [AV.ids]
    · intro T x p u _; simp only [AV.ids]
    · intro id p u h; simp only [RepA] at h; obtain ⟨s, h1, h2, _⟩ := h; simp only [AV.ids, open1, h1]; cases s <;> first | rfl | exact absurd rfl h2
    · intro id i p u h; simp only [RepA] at h; obtain ⟨s, h1, h2, _⟩ := h; simp only [AV.ids, open1, h1]; cases s <;> first | rfl | exact absurd rfl h2
    · intro id p lo n u h; simp only [RepA] at h; obtain ⟨s, h1, h2, _⟩ := h; simp only [AV.ids, open1, h1]; cases s <;> first | rfl | exact absurd rfl h2
    · intro id u h; simp only [RepA] at h; obtain ⟨s, h1, h2, _⟩ := h; simp only [AV.ids, open1, h1]; cases s <;> first | rfl | exact absurd rfl h2
    · intro f caps ih u h; simp only [RepA] at h; obtain ⟨vs, _, h⟩ := h; simp only [AV.ids]; exact ih vs h
    · intro l ih u h; simp only [RepA] at h; obtain ⟨vs, _, h⟩ := h; simp only [AV.ids]; exact ih vs h
    · intro u _; simp only [AV.ids]
    · intro us _; simp only [AV.idsL]
    · intro a l ih1 ih2 us h
      simp only [RepAs] at h
      obtain ⟨u, r, _, h1, h2⟩ := h
      simp only [AV.idsL, ih1 u h1, ih2 r h2, Bool.and_self]
  exact fun t => key _ _ (h.at_ t)

/-- The places of what is left are reserved, each for itself. -/
def Rsv (L : Heap) (l : List It) : Prop := (∀ t ∈ l, wantsId t.o.op = true → L[t.id]? = some .resv) ∧ l.Pairwise fun s t => wantsId s.o.op = true → wantsId t.o.op = true → s.id ≠ t.id

theorem moveFront {ops : Array Oper} {p : It} {post : List It} (hp : isBar ops p.i = false) : ∀ {pre : List It} {env env' : List AV} {L L' : Heap}, (∀ x ∈ pre, compat2 ops x p = true) → (∀ x ∈ pre, isBar ops x.i = false) → Closed env L → Rsv L (pre ++ p :: post) → RunD C ops (pre ++ p :: post) env L env' L' → RunD C ops (p :: (pre ++ post)) env L env' L'
  | [], env, env', L, L', _, _, _, _, h => h
  | x :: pre, env, env', L, L', hc, hb, hcl, hr, h => by
    rcases h with ⟨ax, L1, hfx, h1, h2⟩ | ⟨hbx, _⟩
    · obtain ⟨hr1, hr2⟩ := hr
      rw [List.cons_append, List.pairwise_cons] at hr2
      have hxid := hr1 x (by simp)
      have hr' : Rsv L1 (pre ++ p :: post) := by
        refine ⟨fun t ht hw => ?_, hr2.2⟩
        exact h1.rel.keeps (fun hwx => Ne.symm (hr2.1 t ht hwx hw)) (hr1 t (List.mem_cons_of_mem _ ht) hw)
      rcases moveFront hp (fun y hy => hc y (List.mem_cons_of_mem _ hy)) (fun y hy => hb y (List.mem_cons_of_mem _ hy)) (h1.closed hcl hxid) hr' h2 with ⟨ap, L2, hfp, h3, h4⟩ | ⟨hbp, _⟩
      · obtain ⟨L1', ⟨g1, g2⟩, q1, q2, q3⟩ := StepVal.swap hfx hfp (hc x (by simp)) hcl hxid (hr1 p (by simp)) (fun hw hwp => hr2.1 p (by simp) hw hwp) h1 h3
        exact .inl ⟨ap, L1', g1, q1, .inl ⟨ax, L2, g2, q2, by rw [q3]; exact h4⟩⟩
      · rw [hp] at hbp; cases hbp
    · rw [hb x (by simp)] at hbx; cases hbx
end
end Go.Proofs.YtmphlhnpichonaaDoor.K

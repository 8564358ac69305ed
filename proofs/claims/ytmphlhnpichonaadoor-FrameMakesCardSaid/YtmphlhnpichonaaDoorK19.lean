/- Regions whose order is the text's: the evaluator, and that it is right. -/
import Derived.Test.YtmphlhnpichonaaDoorK18
set_option maxHeartbeats 400000
set_option linter.unusedVariables false
set_option linter.unusedSimpArgs false
namespace Go.Proofs.YtmphlhnpichonaaDoor.K
open Go Go.RowKit

abbrev Spec := ∀ {Ω : Type}, FuncId → List AV → (AV → Option Ω) → Option Ω

def SpecOK (C : Cfg) (spec : Spec) : Prop := ∀ {Ω : Type} (g : FuncId) (bs : List AV) (k : AV → Option Ω) (r : Ω), spec g bs k = some r → ∃ av, k av = some r ∧ Contract C g bs av

def envPut (env : List AV) : Option Tmp → AV → List AV
  | some d, a => env.set d a
  | none, _ => env

def scrubA (X : Nat → Bool) (a : AV) : AV := if a.ids (noX X) then a else .dead

def isCall : Op → Bool
  | .call ⟨.value _, _, _⟩ => true
  | _ => false

def isAct : Op → Bool
  | .alloc _ => true
  | .box _ _ => true
  | .build _ _ => true
  | .buildSlice _ _ _ => true
  | .store _ _ _ => true
  | .move (.const (.slice none 0 0)) => true
  | .assign (.const (.slice none 0 0)) => true
  | .call ⟨.builtin .append, _, _⟩ => true
  | .convert _ _ _ => true
  | _ => false

def isAppend : Op → Bool
  | .call ⟨.builtin .append, _, _⟩ => true
  | _ => false

/-- One operation. -/
def evOp {Ω : Type} (C : Cfg) (spec : Spec) (o : Oper) (id : Nat) (env : List AV) (L : Heap) (k : List AV → Heap → Option Ω) : Option Ω :=
  bif isCall o.op then
    match callA C (evA C env) L o.op with
    | some (g, bs, L1) => spec g bs fun av => k (envPut env o.dst av) (if av.flat then L else L1)
    | none => none
  else bif isAct o.op then
    match act C (evA C env) L id o.type o.op with
    | some (c, av, L') => bif c then k (envPut (bif isAppend o.op then env.map (scrubA (rowsOf (evA C env) o.op)) else env) o.dst av) L' else none
    | none => none
  else
    match rop C (evA C env) L o.op with
    | some (c, av) => bif c then k (envPut env o.dst av) L else none
    | none => none

/-- What one operation comes to. -/
def OpRel (C : Cfg) (o : Oper) (id : Nat) (env : List AV) (L : Heap) (env' : List AV) (L' : Heap) : Prop :=
  (isCall o.op = true ∧ ∃ g bs L1 av, callA C (evA C env) L o.op = some (g, bs, L1) ∧ Contract C g bs av ∧ env' = envPut env o.dst av ∧ L' = if av.flat then L else L1) ∨
  (isCall o.op = false ∧ isAct o.op = true ∧ ∃ av, act C (evA C env) L id o.type o.op = some (true, av, L') ∧ env' = envPut (bif isAppend o.op then env.map (scrubA (rowsOf (evA C env) o.op)) else env) o.dst av) ∨
  (isCall o.op = false ∧ isAct o.op = false ∧ ∃ av, rop C (evA C env) L o.op = some (true, av) ∧ env' = envPut env o.dst av ∧ L' = L)

/-- What an operation that is not wanted leaves. -/
def und : AV := .cst undef

def gTmp (ops : Array Oper) (j : Nat) : Option Tmp := (ops[j]?).bind (·.dst)

def nextId (o : Oper) (id : Nat) : Nat := bif wantsId o.op then id + 1 else id

/-- The operations of a region, in the text's order. -/
def evOps {Ω : Type} (C : Cfg) (spec : Spec) (ops : Array Oper) : List Oper → Nat → List AV → Heap → (List AV → Heap → Option Ω) → Option Ω
  | [], _, env, L, k => k env L
  | o :: rest, id, env, L, k =>
    match o.guard with
    | none => evOp C spec o id env L fun env' L' => evOps C spec ops rest (nextId o id) env' L' k
    | some (j, want) => match gTmp ops j with
      | none => none
      | some d => match env.getD d .dead with
        | .v .bool b => bif b then
            (bif want then evOp C spec o id (env.set d (.v .bool true)) L fun env' L' => evOps C spec ops rest (nextId o id) env' L' k
              else evOps C spec ops rest (nextId o id) (envPut (env.set d (.v .bool true)) o.dst und) L k)
          else
            (bif want then evOps C spec ops rest (nextId o id) (envPut (env.set d (.v .bool false)) o.dst und) L k
              else evOp C spec o id (env.set d (.v .bool false)) L fun env' L' => evOps C spec ops rest (nextId o id) env' L' k)
        | .cst (.tuple _) => evOps C spec ops rest (nextId o id) (envPut env o.dst und) L k
        | _ => none

/-- One operation and its guard. -/
def StepRel (C : Cfg) (ops : Array Oper) (o : Oper) (id : Nat) (env : List AV) (L : Heap) (env' : List AV) (L' : Heap) : Prop :=
  match o.guard with
  | none => OpRel C o id env L env' L'
  | some (j, want) => ∃ d, gTmp ops j = some d ∧ ((∃ b, env.getD d .dead = .v .bool b ∧ (if b = want then OpRel C o id env L env' L' else env' = envPut env o.dst und ∧ L' = L)) ∨ ((∃ c, env.getD d .dead = .cst (.tuple c)) ∧ env' = envPut env o.dst und ∧ L' = L))

section
variable {Ω : Type} {C : Cfg} {B : Nat} {w0 : World} {S0 : Nat → Nat → Prop} {spec : Spec}

/-- The state of a walk: what the evaluator holds is what the world holds. -/
def St (C : Cfg) (B : Nat) (w0 : World) (S0 : Nat → Nat → Prop) (env : List AV) (L : Heap) (a : Act) (w : World) : Prop :=
  ∃ m S, Inv B m L w S ∧ RepE m L w S env a.tmps ∧ GlobOK C B w S ∧ Below B w0 w ∧ Safe S0 S w0 w ∧ (∀ b o, S b o → S0 b o ∨ B ≤ b) ∧ a.defers = []

theorem set_getD {env : List AV} {d : Nat} {x : AV} (h : env.getD d .dead = x) (hx : x ≠ .dead) : env.set d x = env := by
  rw [List.getD_eq_getElem?_getD] at h
  cases hd : env[d]? with
  | none => rw [hd] at h; exact absurd h.symm hx
  | some y =>
    rw [hd] at h
    simp only [Option.getD_some] at h
    subst h
    obtain ⟨hlt, rfl⟩ := List.getElem?_eq_some_iff.1 hd
    exact List.set_getElem_self hlt

theorem evOp_rel (hS : SpecOK C spec) {o : Oper} {id : Nat} {env : List AV} {L : Heap} {k : List AV → Heap → Option Ω} {r : Ω} (h : evOp C spec o id env L k = some r) : ∃ env' L', OpRel C o id env L env' L' ∧ k env' L' = some r := by
  unfold evOp at h
  cases hc : isCall o.op with
  | true =>
    rw [hc] at h
    simp only [cond_true] at h
    split at h
    · rename_i g bs L1 hca
      obtain ⟨av, h1, h2⟩ := hS g bs _ r h
      exact ⟨_, _, .inl ⟨hc, g, bs, L1, av, hca, h2, rfl, rfl⟩, h1⟩
    · cases h
  | false =>
    rw [hc] at h
    simp only [cond_false] at h
    cases ha : isAct o.op with
    | true =>
      rw [ha] at h
      simp only [cond_true] at h
      split at h
      · rename_i c av L' hact
        cases c with
        | true => exact ⟨_, _, .inr (.inl ⟨hc, ha, av, hact, rfl⟩), h⟩
        | false => cases h
      · cases h
    | false =>
      rw [ha] at h
      simp only [cond_false] at h
      split at h
      · rename_i c av hrop
        cases c with
        | true => exact ⟨_, _, .inr (.inr ⟨hc, ha, av, hrop, rfl, rfl⟩), h⟩
        | false => cases h
      · cases h

/-- A run over some operations, each with its place. -/
def RunRel (C : Cfg) (ops : Array Oper) : List (Oper × Nat) → List AV → Heap → List AV → Heap → Prop
  | [], env, L, env', L' => env' = env ∧ L' = L
  | (o, id) :: rest, env, L, env', L' => ∃ env1 L1, StepRel C ops o id env L env1 L1 ∧ RunRel C ops rest env1 L1 env' L'

def withIds : List Oper → Nat → List (Oper × Nat)
  | [], _ => []
  | o :: rest, id => (o, id) :: withIds rest (nextId o id)

theorem evOps_rel (hS : SpecOK C spec) {ops : Array Oper} : ∀ {l : List Oper} {id : Nat} {env : List AV} {L : Heap} {k : List AV → Heap → Option Ω} {r : Ω}, evOps C spec ops l id env L k = some r →
    ∃ env' L', RunRel C ops (withIds l id) env L env' L' ∧ k env' L' = some r
  | [], id, env, L, k, r, h => ⟨env, L, ⟨rfl, rfl⟩, h⟩
  | o :: rest, id, env, L, k, r, h => by
    simp only [evOps] at h
    have go : ∀ env0, evOp C spec o id env0 L (fun env' L' => evOps C spec ops rest (nextId o id) env' L' k) = some r →
        ∃ env1 L1, OpRel C o id env0 L env1 L1 ∧ ∃ env' L', RunRel C ops (withIds rest (nextId o id)) env1 L1 env' L' ∧ k env' L' = some r := by
      intro env0 h
      obtain ⟨env1, L1, h1, h2⟩ := evOp_rel hS h
      exact ⟨env1, L1, h1, evOps_rel hS h2⟩
    split at h
    · rename_i hg
      obtain ⟨env1, L1, h1, env', L', h2, h3⟩ := go env h
      exact ⟨env', L', ⟨env1, L1, by unfold StepRel; rw [hg]; exact h1, h2⟩, h3⟩
    · rename_i j want hg
      cases hd : gTmp ops j with
      | none => rw [hd] at h; cases h
      | some d =>
        rw [hd] at h
        simp only at h
        split at h
        · rename_i b hb
          cases b with
          | true =>
            rw [set_getD hb (by simp)] at h
            simp only [cond_true] at h
            cases want with
            | true =>
              simp only [cond_true] at h
              obtain ⟨env1, L1, h1, env', L', h2, h3⟩ := go env h
              exact ⟨env', L', ⟨env1, L1, by unfold StepRel; rw [hg]; exact ⟨d, hd, .inl ⟨true, hb, by simpa using h1⟩⟩, h2⟩, h3⟩
            | false =>
              simp only [cond_false] at h
              obtain ⟨env', L', h2, h3⟩ := evOps_rel hS h
              exact ⟨env', L', ⟨_, _, by unfold StepRel; rw [hg]; exact ⟨d, hd, .inl ⟨true, hb, by simp⟩⟩, h2⟩, h3⟩
          | false =>
            rw [set_getD hb (by simp)] at h
            simp only [cond_false] at h
            cases want with
            | true =>
              simp only [cond_true] at h
              obtain ⟨env', L', h2, h3⟩ := evOps_rel hS h
              exact ⟨env', L', ⟨_, _, by unfold StepRel; rw [hg]; exact ⟨d, hd, .inl ⟨false, hb, by simp⟩⟩, h2⟩, h3⟩
            | false =>
              simp only [cond_false] at h
              obtain ⟨env1, L1, h1, env', L', h2, h3⟩ := go env h
              exact ⟨env', L', ⟨env1, L1, by unfold StepRel; rw [hg]; exact ⟨d, hd, .inl ⟨false, hb, by simpa using h1⟩⟩, h2⟩, h3⟩
        · rename_i c hb
          obtain ⟨env', L', h2, h3⟩ := evOps_rel hS h
          exact ⟨env', L', ⟨_, _, by unfold StepRel; rw [hg]; exact ⟨d, hd, .inr ⟨⟨c, hb⟩, rfl, rfl⟩⟩, h2⟩, h3⟩
        · cases h

theorem RepE.go {m m' : Nat → Value} {L L' : Heap} {w w' : World} {S S' : Nat → Nat → Prop} {env : List AV} {tmps : Array Value} {X : Nat → Bool} (h : RepE m L w S env tmps) (hg : Goes B X m L w S m' L' w' S') : RepE m' L' w' S' (env.map (scrubA X)) tmps := by
  refine ⟨by simp [h.size], fun t => ?_⟩
  have h0 := h.at_ t
  rw [List.getD_eq_getElem?_getD] at h0 ⊢
  cases hd : env[t]? with
  | none => rw [List.getElem?_map, hd]; simp only [Option.map_none, Option.getD_none, RepA]
  | some a =>
    rw [hd] at h0
    rw [List.getElem?_map, hd]
    simp only [Option.map_some, Option.getD_some] at h0 ⊢
    unfold scrubA
    split
    · rename_i hx; exact RepA.go hg.safe hg.ext hx h0
    · simp only [RepA]

theorem RepE.go0 {m m' : Nat → Value} {L L' : Heap} {w w' : World} {S S' : Nat → Nat → Prop} {env : List AV} {tmps : Array Value} {X : Nat → Bool} (hX : ∀ i, X i = false) (h : RepE m L w S env tmps) (hg : Goes B X m L w S m' L' w' S') : RepE m' L' w' S' env tmps :=
  ⟨h.size, fun t => goes_noX hX hg (h.at_ t)⟩

theorem RepE.putO {m : Nat → Value} {L : Heap} {w : World} {S : Nat → Nat → Prop} {env : List AV} {a : Act} (h : RepE m L w S env a.tmps) {av : AV} {u : Value} (hu : RepA m L w S av u) (dst : Option Tmp) : RepE m L w S (envPut env dst av) (a.put dst u).tmps := by
  cases dst with
  | none => exact h
  | some d => exact h.put hu d

theorem put_defers (a : Act) (dst : Option Tmp) (u : Value) : (a.put dst u).defers = a.defers := by cases dst <;> rfl

/-- From an operation's coming-to to its state behind. -/
theorem St.after {m : Nat → Value} {S : Nat → Nat → Prop} {L : Heap} {a : Act} {w : World} (hG : GlobOK C B w S) (hb : Below B w0 w) (hs : Safe S0 S w0 w) (hn : ∀ b o, S b o → S0 b o ∨ B ≤ b) (hd : a.defers = [])
    {X : Nat → Bool} {m' : Nat → Value} {L' : Heap} {w' : World} {S' : Nat → Nat → Prop} (hg : Goes B X m L w S m' L' w' S') {env1 : List AV} (he : RepE m' L' w' S' env1 a.tmps) {av : AV} {u : Value} (hu : RepA m' L' w' S' av u) (dst : Option Tmp) :
    St C B w0 S0 (envPut env1 dst av) L' (a.put dst u) w' :=
  ⟨m', S', hg.inv, he.putO hu dst, hG.go hg.safe hg.below, hb.trans hg.below, hs.trans hg.safe, fun b o h => (hg.new b o h).elim (hn b o) .inr, by rw [put_defers]; exact hd⟩

theorem rowsOf_none {ρ : Operand → AV} {op : Op} (h : isAppend op = false) (i : Nat) : rowsOf ρ op i = false := by
  have : rowsOf ρ op = fun _ => false := by
    unfold rowsOf
    split
    · simp [isAppend] at h
    · rfl
  rw [this]

theorem op_step (hC : C.OK) {o : Oper} {id : Nat} {env env' : List AV} {L L' : Heap} {a : Act} {w : World} (hid : wantsId o.op = true → L[id]? = some .resv) (h : OpRel C o id env L env' L') (hst : St C B w0 S0 env L a w)
    {next : Act → World → Prop} {Q : Exit → Act → World → Prop} (hn : ∀ a' w', St C B w0 S0 env' L' a' w' → next a' w') : o.wp C.P a w next Q := by
  obtain ⟨m, S, hI, hE, hG, hb, hs, hnew, hd⟩ := hst
  have hev : ∀ x, RepA m L w S (evA C env x) (a.eval x) := fun x => hE.eval hG x
  rcases h with ⟨_, g, bs, L1, av, h1, h2, rfl, rfl⟩ | ⟨_, _, av, h1, rfl⟩ | ⟨_, _, av, h1, rfl, rfl⟩
  · refine opDoes_call hI hG hev h1 h2 next Q (fun u m' w' S' hg hr => hn _ _ ?_)
    exact St.after hG hb hs hnew hd hg (hE.go0 (fun _ => rfl) hg) hr o.dst
  · refine opDoes_act hC hI (fun _ => rfl) hev hid h1 next Q (fun u m' w' S' hg hr => hn _ _ ?_)
    refine St.after hG hb hs hnew hd hg ?_ hr o.dst
    cases happ : isAppend o.op with
    | true => exact hE.go hg
    | false =>
      exact hE.go0 (fun i => rowsOf_none happ i) hg
  · refine opDoes_rop hC hI hev h1 (fun _ => false) next Q (fun u m' w' S' hg hr => hn _ _ ?_)
    exact St.after hG hb hs hnew hd hg (hE.go0 (fun _ => rfl) hg) hr o.dst

theorem yielded_of {ops : Array Oper} {env : List AV} {L : Heap} {a : Act} {w : World} {m : Nat → Value} {S : Nat → Nat → Prop} (hE : RepE m L w S env a.tmps) {j d : Nat} {b : Bool} (hd : gTmp ops j = some d) (hb : env.getD d .dead = .v .bool b) : yielded ops a.tmps j = some b := by
  have h := hE.at_ d
  rw [hb, rep_bool] at h
  unfold yielded
  unfold gTmp at hd
  rw [hd]
  simp only [Option.bind_some]
  have hlt : d < a.tmps.size := by
    rw [← hE.size]
    rcases Nat.lt_or_ge d env.length with h | h
    · exact h
    · rw [List.getD_eq_getElem?_getD, List.getElem?_eq_none h] at hb; cases hb
  have : a.tmps[d]? = some (.bool b) := by
    rw [Array.getD_eq_getD_getElem?, Array.getElem?_eq_getElem hlt] at h
    rw [Array.getElem?_eq_getElem hlt]
    simpa using h
  rw [this]

theorem yielded_und {ops : Array Oper} {env : List AV} {L : Heap} {a : Act} {w : World} {m : Nat → Value} {S : Nat → Nat → Prop} (hE : RepE m L w S env a.tmps) {j d : Nat} {c : Array Value} (hd : gTmp ops j = some d) (hb : env.getD d .dead = .cst (.tuple c)) : yielded ops a.tmps j = none := by
  have h := hE.at_ d
  rw [hb] at h
  simp only [RepA] at h
  unfold yielded
  unfold gTmp at hd
  rw [hd]
  simp only [Option.bind_some]
  rw [Array.getD_eq_getD_getElem?] at h
  cases ht : a.tmps[d]? with
  | none => rfl
  | some x =>
    rw [ht] at h
    simp only [Option.getD_some] at h
    subst h
    rfl

/-- One operation with its guard, as the model walks it. -/
theorem step_wp (hC : C.OK) {ops : Array Oper} {o : Oper} {id : Nat} {env env' : List AV} {L L' : Heap} {a : Act} {w : World} (hid : wantsId o.op = true → L[id]? = some .resv) (h : StepRel C ops o id env L env' L') (hst : St C B w0 S0 env L a w)
    {next : Act → World → Prop} {Q : Exit → Act → World → Prop} (hn : ∀ a' w', St C B w0 S0 env' L' a' w' → next a' w') :
    if Region.wanted o (yielded ops a.tmps) then o.wp C.P a w next Q else next (a.put o.dst undef) w := by
  unfold StepRel at h
  cases hg : o.guard with
  | none =>
    rw [hg] at h
    simp only [Region.wanted, hg, if_true]
    exact op_step hC hid h hst hn
  | some gd =>
    obtain ⟨j, want⟩ := gd
    rw [hg] at h
    have hst' := hst
    obtain ⟨m, S, hI, hE, hG, hb, hs, hnew, hd⟩ := hst'
    obtain ⟨d, h1, ⟨b, h2, h3⟩ | ⟨⟨c, h2⟩, rfl, rfl⟩⟩ := h
    rotate_left
    · have hy := yielded_und (ops := ops) hE h1 h2
      simp only [Region.wanted, hg, hy]
      rw [if_neg (by simp)]
      exact hn _ _ ⟨m, S, hI, hE.putO (by simp only [und, RepA]) o.dst, hG, hb, hs, hnew, by rw [put_defers]; exact hd⟩
    have hy := yielded_of (ops := ops) hE h1 h2
    simp only [Region.wanted, hg, hy]
    by_cases hbw : b = want
    · rw [if_pos hbw] at h3
      rw [if_pos (by simp [hbw])]
      exact op_step hC hid h3 hst hn
    · rw [if_neg hbw] at h3
      obtain ⟨rfl, rfl⟩ := h3
      rw [if_neg (by simp [hbw])]
      exact hn _ _ ⟨m, S, hI, hE.putO (by simp only [und, RepA]) o.dst, hG, hb, hs, hnew, by rw [put_defers]; exact hd⟩
end
end Go.Proofs.YtmphlhnpichonaaDoor.K

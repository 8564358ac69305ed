/- Functions: what a body comes to is what the function gives. -/
import Derived.Test.YtmphlhnpichonaaDoorK27
set_option maxHeartbeats 400000
set_option linter.unusedVariables false
set_option linter.unusedSimpArgs false
namespace Go.Proofs.YtmphlhnpichonaaDoor.K
open Go Go.RowKit

def resA (C : Cfg) (env : List AV) (L : Heap) : ResultVar → Option AV
  | .tmp t => some (env.getD t .dead)
  | .cell a t => (loadA C t L (env.getD a .dead)).bind fun r => bif r.1 then some r.2 else none

def resL (C : Cfg) (env : List AV) (L : Heap) : List ResultVar → Option (List AV)
  | [] => some []
  | r :: l => (resA C env L r).bind fun a => (resL C env L l).map fun as => a :: as

def tupA : List AV → AV
  | [b] => b
  | bs => .tup bs

def fnRes (C : Cfg) (fn : Func) (env : List AV) (L : Heap) : Option AV :=
  (resL C env L fn.results.toList).bind fun as => (handL C (markIds L (as.flatMap ownOf)) fn.resultTypes.toList as).map tupA

def finK {Ω : Type} (C : Cfg) (fn : Func) (k : AV → Option Ω) : Kont Ω
  | .exit _, _, _ => none
  | .normal, env, L => (fnRes C fn env L).bind k
  | .ret, env, L => (fnRes C fn env L).bind k

/-- A function's body on what it is handed. -/
def evFn {Ω : Type} (C : Cfg) (spec : Spec) (fuel : Fuel) (fn : Func) (c : Code) (args : List AV) (k : AV → Option Ω) : Option Ω :=
  evCode C spec fuel c (args ++ List.replicate (fn.ntmps - args.length) .dead) [] (finK C fn k)

section
variable {Ω : Type} {C : Cfg} {spec : Spec}

def rvSem (tmps : Array Value) : ResultVar → Sem Value
  | .tmp t => pure (tmps.getD t undef)
  | .cell a t => do loadVar t (← asAddr (tmps.getD a undef))

theorem results_eq (fn : Func) (tmps : Array Value) : results fn tmps = (do
  let vs ← fn.results.mapM (rvSem tmps)
  pure (if h : vs.size = 1 then vs[0] else .tuple vs)) := rfl

theorem load_addr {P : Program} {t : TypeId} {x u : Value} {w w' : World} (h : (Instr.loadAt t x).run P w = .ok u w') : (do loadVar t (← asAddr x) : Sem Value).run P w = .ok u w' := by
  unfold Instr.loadAt at h
  unfold Instr.sureAddr at h
  split at h
  · simpa [asAddr] using h
  · simp [stuck] at h

theorem resL_gives (hC : C.OK) {B : Nat} {m : Nat → Value} {L : Heap} {w : World} {S : Nat → Nat → Prop} {env : List AV} {tmps : Array Value} (hI : Inv B m L w S) (hE : RepE m L w S env tmps) : ∀ {l : List ResultVar} {as : List AV}, resL C env L l = some as →
    ∃ us, (l.mapM (rvSem tmps)).run C.P w = .ok us w ∧ RepAs m L w S as us
  | [], as, h => by
    simp only [resL, Option.some.injEq] at h
    subst h
    exact ⟨[], by simp, by simp only [RepAs]⟩
  | r :: l, as, h => by
    simp only [resL, Option.bind_eq_some_iff, Option.map_eq_some_iff] at h
    obtain ⟨a, h1, as', h2, rfl⟩ := h
    obtain ⟨us, e1, e2⟩ := resL_gives hC hI hE h2
    cases r with
    | tmp t =>
      simp only [resA, Option.some.injEq] at h1
      subst h1
      refine ⟨tmps.getD t undef :: us, ?_, ?_⟩
      · simp only [List.mapM_cons, rvSem, Sem.run_bind, Sem.run_pure, Result.andThen_ok, e1]
      · simp only [RepAs]; exact ⟨_, _, rfl, hE.at_ t, e2⟩
    | cell x t =>
      simp only [resA, Option.bind_eq_some_iff] at h1
      obtain ⟨⟨b, a'⟩, h3, h4⟩ := h1
      cases b with
      | false => cases h4
      | true =>
        simp only [cond_true, Option.some.injEq] at h4
        subst h4
        obtain ⟨u, r1, r2⟩ := gives_load hC hI (hE.at_ x) _ h3
        refine ⟨u :: us, ?_, ?_⟩
        · have r3 : (rvSem tmps (.cell x t)).run C.P w = .ok u w := load_addr r1
          simp only [List.mapM_cons, Sem.run_bind, r3, Sem.run_pure, Result.andThen_ok, e1]
        · simp only [RepAs]; exact ⟨_, _, rfl, r2, e2⟩

theorem repAs_len {m : Nat → Value} {L : Heap} {w : World} {S : Nat → Nat → Prop} : ∀ {as : List AV} {us : List Value}, RepAs m L w S as us → as.length = us.length
  | [], us, h => by simp only [RepAs] at h; subst h; rfl
  | a :: as, us, h => by
    simp only [RepAs] at h
    obtain ⟨u, r, rfl, _, h2⟩ := h
    simp [repAs_len h2]

theorem repAs_getD {m : Nat → Value} {L : Heap} {w : World} {S : Nat → Nat → Prop} (n : Nat) : ∀ {as : List AV} {us : List Value}, RepAs m L w S as us → ∀ t, RepA m L w S ((as ++ List.replicate n AV.dead).getD t .dead) ((us ++ List.replicate n undef).getD t undef)
  | [], us, h, t => by
    have : (([] : List AV) ++ List.replicate n AV.dead).getD t .dead = .dead := by
      simp only [List.nil_append, List.getD_eq_getElem?_getD, List.getElem?_replicate]
      split <;> rfl
    rw [this]; simp only [RepA]
  | a :: as, us, h, t => by
    simp only [RepAs] at h
    obtain ⟨u, r, rfl, h1, h2⟩ := h
    cases t with
    | zero => simpa using h1
    | succ t => simpa using repAs_getD n h2 t

theorem tup_rep {w : World} {S : Nat → Nat → Prop} {bs : List AV} {us : List Value} (h : RepAs m0 [] w S bs us) : RepA m0 [] w S (tupA bs) (if h : us.toArray.size = 1 then us.toArray[0] else .tuple us.toArray) := by
  match bs, us, h with
  | [], us, h => simp only [RepAs] at h; subst h; simp only [tupA, RepA]; exact ⟨[], rfl, by simp only [RepAs]⟩
  | [b], us, h =>
    simp only [RepAs] at h
    obtain ⟨u, r, rfl, h1, rfl⟩ := h
    simpa [tupA] using h1
  | b :: c :: bs, us, h =>
    have h' := h
    simp only [RepAs] at h
    obtain ⟨u, r, rfl, h1, u2, r2, rfl, h2⟩ := h
    simp only [tupA, RepA]
    exact ⟨_, by simp, h'⟩

theorem fn_contract (hC : C.OK) (hS : SpecOK C spec) {fuel : Fuel} {f : FuncId} {fn : Func} {c : Code} (hf : C.P.funcs[f]? = some fn) (hb : fn.body = some c) (hn : (fn.name == "runtime.NumGoroutine") = false)
    {args : List AV} {k : AV → Option Ω} {r : Ω} (h : evFn C spec fuel fn c args k = some r) : ∃ av, k av = some r ∧ Contract C f args av := by
  unfold evFn at h
  obtain ⟨e, env', L', h1, h2⟩ := evCode_rel hS h
  have h3 : e ≠ .exit 0 → ∃ av, fnRes C fn env' L' = some av ∧ k av = some r ∧ ∀ i, e ≠ .exit i := by
    intro _
    cases e with
    | exit i => cases h2
    | normal => obtain ⟨av, p, q⟩ := Option.bind_eq_some_iff.1 h2; exact ⟨av, p, q, by simp⟩
    | ret => obtain ⟨av, p, q⟩ := Option.bind_eq_some_iff.1 h2; exact ⟨av, p, q, by simp⟩
  obtain ⟨av, h4, h5, hne⟩ := h3 (fun e0 => by subst e0; cases h2)
  refine ⟨av, h5, ⟨fun us w => ?_, fun w S us hlt hG hrep => ?_⟩⟩
  · have hpn : (program.run C.P w : Result Program) = .ok C.P w := rfl
    simp only [callFunc, Sem.run_bind, hpn, Result.andThen_ok, hf, hn, hb, Bool.false_eq_true, if_false, Option.isNone_some, Sem.run_pure]
  · refine calls_of_wp hf hb ?_
    have hlen := repAs_len hrep
    have hst : St C w.heap.size w S (args ++ List.replicate (fn.ntmps - args.length) .dead) [] { tmps := us.toArray ++ Array.replicate (fn.ntmps - us.toArray.size) undef, defers := [] } w := by
      refine ⟨m0, S, ⟨Nat.le_refl _, by simp, by simp, by simp, fun b o hs => ⟨hlt b o hs, by simp⟩⟩, ⟨by simp [hlen], fun t => ?_⟩, hG, Below.refl _ _, Safe.refl _ _, fun _ _ h => .inl h, rfl⟩
      have := repAs_getD (fn.ntmps - args.length) hrep t
      rw [List.getD_eq_getElem?_getD (l := us ++ _)] at this
      have harr : us.toArray ++ Array.replicate (fn.ntmps - us.toArray.size) undef = (us ++ List.replicate (fn.ntmps - us.length) undef).toArray := by apply Array.ext'; simp
      show RepA m0 [] w S _ ((us.toArray ++ Array.replicate (fn.ntmps - us.toArray.size) undef).getD t undef)
      rw [harr, Array.getD_eq_getD_getElem?, List.getElem?_toArray, ← hlen]
      exact this
    refine code_wp hC h1 _ w _ hst ?_
    intro a' w' hst'
    obtain ⟨m, S', hI, hE, hG', hbel, hsafe, hnew, hd⟩ := hst'
    have hpost : a'.defers = [] ∧ ∃ v, (results fn a'.tmps).run C.P w' = .ok v w' ∧ ∃ u S2, Ending.returned v = .returned u ∧ Below w.heap.size w w' ∧ Safe S S2 w w' ∧ (∀ b o, S2 b o → (S b o ∨ w.heap.size ≤ b) ∧ b < w'.heap.size) ∧ RepA m0 [] w' S2 av u := by
      refine ⟨hd, ?_⟩
      simp only [fnRes, Option.bind_eq_some_iff, Option.map_eq_some_iff] at h4
      obtain ⟨as, q1, bs, q2, rfl⟩ := h4
      obtain ⟨us', r1, r2⟩ := resL_gives hC hI hE q1
      obtain ⟨S1, g1, _, k1⟩ := markIds_goes (m := m) (w := w') (fun _ => false) (as.flatMap ownOf) hI
      have r3 := noX_L (fun _ => rfl) g1 r2
      have r4 := handL_rep (C := C) g1.inv r3 (fun a ha id hid => k1 id (List.mem_flatMap.2 ⟨a, ha, hid⟩)) q2
      refine ⟨_, ?_, _, S1, rfl, hbel, hsafe.trans g1.safe, fun b o hs => ⟨?_, (g1.inv.prot b o hs).1⟩, tup_rep r4⟩
      · rw [results_eq, Array.mapM_eq_mapM_toList]
        simp only [bind_map_left, Sem.run_bind, r1, Result.andThen_ok, Sem.run_pure]
      · rcases g1.new b o hs with h | h
        · exact hnew b o h
        · exact .inr h
    cases e with
    | exit i => exact absurd rfl (hne i)
    | normal => exact hpost
    | ret => exact hpost
end
end Go.Proofs.YtmphlhnpichonaaDoor.K

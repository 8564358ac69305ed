/- Calls: what is handed over, what a function's contract is, and what a call comes to. -/
import Derived.Test.YtmphlhnpichonaaDoorK17
set_option maxHeartbeats 400000
set_option linter.unusedVariables false
set_option linter.unusedSimpArgs false
namespace Go.Proofs.YtmphlhnpichonaaDoor.K
open Go Go.RowKit

/-- Is a datum all that it is (nothing behind it in memory)? -/
def ETy.flat : ETy → Bool
  | .slice _ => false
  | .pair a b => a.flat && b.flat
  | .arr _ e => e.flat
  | _ => true

mutual
def AV.flat : AV → Bool
  | .v τ _ => τ.flat
  | .tup l => AV.flatL l
  | .cst _ => true
  | _ => false
def AV.flatL : List AV → Bool
  | [] => true
  | a :: l => a.flat && AV.flatL l
end

/-- The same, seen by a callee: nothing of the caller's own. -/
def handA (C : Cfg) (L : Heap) (t : TypeId) : AV → Option AV
  | .v τ x => some (.v τ x)
  | .cst (.slice none 0 0) => match C.Ty t with | some (.slice e) => some (.v (.slice e) []) | _ => none
  | .cst c => some (.cst c)
  | .rs id => match L[id]? with | some (.row _ e xs _) => some (.v (.slice e) xs) | _ => none
  | .ls id p lo n => match L[id]? with
    | some (.box T x _) => (getP T x p).bind fun d => match d with | ⟨.arr N e, xs⟩ => some (.v (.slice e) ((List.drop lo xs).take n)) | _ => none
    | _ => none
  | .vp T x p => some (.vp T x p)
  | .ref id p => match L[id]? with | some (.box T x _) => some (.vp T x p) | _ => none
  | .fn f [] => some (.fn f [])
  | .fn f [.ref id p] => match L[id]? with | some (.box T x _) => some (.fn f [.vp T x p]) | _ => none
  | .fn f [.ref id p, .ref id2 p2] => match L[id]?, L[id2]? with | some (.box T x _), some (.box T2 x2 _) => some (.fn f [.vp T x p, .vp T2 x2 p2]) | _, _ => none
  | .fn f [.vp T x p] => some (.fn f [.vp T x p])
  | .fn f [.vp T x p, .vp T2 x2 p2] => some (.fn f [.vp T x p, .vp T2 x2 p2])
  | _ => none

def handL (C : Cfg) (L : Heap) : List TypeId → List AV → Option (List AV)
  | _, [] => some []
  | t :: ts, a :: as => (handA C L t a).bind fun b => (handL C L ts as).map fun bs => b :: bs
  | [], a :: as => (handA C L 0 a).bind fun b => (handL C L [] as).map fun bs => b :: bs

def ownOf : AV → List Nat
  | .rs id => [id]
  | .ls id _ _ _ => [id]
  | .ref id _ => [id]
  | .fn _ [.ref id _] => [id]
  | .fn _ [.ref id _, .ref id2 _] => [id, id2]
  | _ => []

def markIds (L : Heap) : List Nat → Heap
  | [] => L
  | id :: l => markIds (mark1 L id) l

abbrev m0 : Nat → Value := fun _ => undef

/-- A function's contract: what it gives for what it is handed. -/
structure Contract (C : Cfg) (f : FuncId) (args : List AV) (av : AV) : Prop where
  enters : ∀ (us : Array Value) (w : World), (callFunc f us).run C.P w = .ok (.enter f us) w
  runs : ∀ (w : World) (S : Nat → Nat → Prop) (us : List Value), (∀ b o, S b o → b < w.heap.size) → GlobOK C w.heap.size w S → RepAs m0 [] w S args us →
    Calls C.P f us.toArray w fun e w' => ∃ u S', e = .returned u ∧ Below w.heap.size w w' ∧ Safe S S' w w' ∧ (∀ b o, S' b o → (S b o ∨ w.heap.size ≤ b) ∧ b < w'.heap.size) ∧ RepA m0 [] w' S' av u

section
variable {C : Cfg} {B : Nat} {m : Nat → Value} {L : Heap} {w w' : World} {S S' : Nat → Nat → Prop}

theorem flat_repC {w w' : World} {S S' : Nat → Nat → Prop} : ∀ {τ : ETy} {x : τ.I} {cs : List Value}, τ.flat = true → RepC w S τ x cs → RepC w' S' τ x cs
  | .int _, x, cs, _, h => h
  | .bool, x, cs, _, h => h
  | .str, x, cs, _, h => h
  | .raw _, x, cs, _, h => h
  | .unit, x, cs, _, h => h
  | .pair a b, x, cs, hf, h => by
    simp only [ETy.flat, Bool.and_eq_true] at hf
    obtain ⟨c, d, rfl, h1, h2⟩ := h
    exact ⟨c, d, rfl, flat_repC hf.1 h1, flat_repC hf.2 h2⟩
  | .arr n e, x, cs, hf, h => ⟨h.1, RepL.mono (fun x c h => flat_repC (by simpa [ETy.flat] using hf) h) h.2⟩
  | .slice e, x, cs, hf, h => by simp [ETy.flat] at hf

mutual
theorem flat_rep {m m' : Nat → Value} {L L' : Heap} {w w' : World} {S S' : Nat → Nat → Prop} : ∀ {a : AV} {u : Value}, a.flat = true → RepA m L w S a u → RepA m' L' w' S' a u
  | .v τ x, u, hf, h => by
    rw [rep_v] at h ⊢
    obtain ⟨cs, h1, rfl⟩ := h
    exact ⟨cs, flat_repC (by simpa [AV.flat] using hf) h1, rfl⟩
  | .tup l, u, hf, h => by
    simp only [RepA] at h ⊢
    obtain ⟨vs, rfl, h1⟩ := h
    exact ⟨vs, rfl, flat_reps (by simpa [AV.flat] using hf) h1⟩
  | .cst c, u, hf, h => by simp only [RepA] at h ⊢; exact h
  | .vp .., u, hf, h | .ref .., u, hf, h | .rref .., u, hf, h | .ls .., u, hf, h | .rs .., u, hf, h | .fn .., u, hf, h | .dead, u, hf, h => by simp [AV.flat] at hf
theorem flat_reps {m m' : Nat → Value} {L L' : Heap} {w w' : World} {S S' : Nat → Nat → Prop} : ∀ {a : List AV} {u : List Value}, AV.flatL a = true → RepAs m L w S a u → RepAs m' L' w' S' a u
  | [], u, hf, h => by simp only [RepAs] at h ⊢; exact h
  | x :: xs, u, hf, h => by
    simp only [AV.flatL, Bool.and_eq_true] at hf
    simp only [RepAs] at h ⊢
    obtain ⟨y, r, rfl, h1, h2⟩ := h
    exact ⟨y, r, rfl, flat_rep hf.1 h1, flat_reps hf.2 h2⟩
end

mutual
/-- What bears nothing of the callee's own is the same anywhere. -/
theorem rep_out {m : Nat → Value} {L : Heap} : ∀ {a : AV} {u : Value}, RepA m0 [] w S a u → RepA m L w S a u
  | .v τ x, u, h => by rw [rep_v] at h ⊢; exact h
  | .cst c, u, h => by simp only [RepA] at h ⊢; exact h
  | .vp .., u, h => by simp only [RepA] at h ⊢; exact h
  | .ref .., u, h => by simp only [RepA] at h; obtain ⟨s, h, _⟩ := h; simp at h
  | .rref .., u, h => by simp only [RepA] at h; obtain ⟨s, h, _⟩ := h; simp at h
  | .ls .., u, h => by simp only [RepA] at h; obtain ⟨s, h, _⟩ := h; simp at h
  | .rs .., u, h => by simp only [RepA] at h; obtain ⟨s, h, _⟩ := h; simp at h
  | .fn f caps, u, h => by simp only [RepA] at h ⊢; obtain ⟨vs, rfl, h1⟩ := h; exact ⟨vs, rfl, reps_out h1⟩
  | .tup l, u, h => by simp only [RepA] at h ⊢; obtain ⟨vs, rfl, h1⟩ := h; exact ⟨vs, rfl, reps_out h1⟩
  | .dead, u, h => by simp only [RepA]
theorem reps_out {m : Nat → Value} {L : Heap} : ∀ {a : List AV} {u : List Value}, RepAs m0 [] w S a u → RepAs m L w S a u
  | [], u, h => by simp only [RepAs] at h ⊢; exact h
  | x :: xs, u, h => by
    simp only [RepAs] at h ⊢
    obtain ⟨y, r, rfl, h1, h2⟩ := h
    exact ⟨y, r, rfl, rep_out h1, reps_out h2⟩
end

theorem markIds_goes (X : Nat → Bool) : ∀ (l : List Nat) {L : Heap} {S : Nat → Nat → Prop} (hI : Inv B m L w S), ∃ S', Goes B X m L w S m (markIds L l) w S' ∧ (∀ j, Kept m L S j → Kept m (markIds L l) S' j) ∧ ∀ id ∈ l, Kept m (markIds L l) S' id
  | [], L, S, hI => ⟨S, ⟨hI, Safe.refl _ _, Below.refl _ _, Ext.refl X m L, fun _ _ h => .inl h⟩, fun _ h => h, fun a ha => by simp at ha⟩
  | id :: l, L, S, hI => by
    obtain ⟨S1, g1, k1⟩ := mark1_goes hI id X
    obtain ⟨S2, g2, k2, k3⟩ := markIds_goes X l g1.inv
    refine ⟨S2, g1.trans g2, fun j hj => k2 j (mark1_kept g1.safe.sub hj), fun i hi => ?_⟩
    rcases List.mem_cons.1 hi with rfl | hi
    · exact k2 _ k1
    · exact k3 i hi

theorem mark1_get {id j : Nat} {s : Slot} (h : L[j]? = some s) : (mark1 L id)[j]? = some s ∨ (mark1 L id)[j]? = some s.mark := by
  unfold mark1
  cases hid : L[id]? with
  | none => exact .inl h
  | some r =>
    simp only
    rw [get_set ⟨_, hid⟩]
    split
    · rename_i e; subst e; rw [h] at hid; cases hid; exact .inr rfl
    · exact .inl h

/-- A place in one's own box, handed over to be read. -/
theorem ref_vp (hI : Inv B m L w S) {id : Nat} {p : List PStep} {T : ETy} {x : T.I} {ro : Bool} {u : Value} (hL : L[id]? = some (.box T x ro)) (hk : Kept m L S id) (h : RepA m L w S (.ref id p) u) : RepA m0 [] w S (.vp T x p) u := by
  simp only [RepA] at h ⊢
  obtain ⟨s, h1, h2, h3⟩ := h
  rw [hL] at h1; cases h1
  obtain ⟨h0, b, hm, rfl⟩ := h3 T x ro rfl
  obtain ⟨b', cs, el, fr, hm', hB, hb, hfr, hr⟩ := hI.box id T x ro hL
  rw [hm] at hm'; cases hm'
  refine ⟨h0, b, 0, cs, by simp, hr, fun j hj => ⟨cellsAt_block hb j hj, ?_⟩⟩
  have := hr.length
  exact hk _ b (0 + j) hL rfl (by rw [hm]; rfl) (by simp only [Slot.cells]; omega)

theorem hand_rep (hI : Inv B m L w S) {t : TypeId} {a b : AV} {u : Value} (hx : RepA m L w S a u) (hk : ∀ id ∈ ownOf a, Kept m L S id) (h : handA C L t a = some b) : RepA m0 [] w S b u := by
  unfold handA at h
  split at h
  · cases h; rw [rep_v] at hx ⊢; exact hx
  · simp only [RepA] at hx
    subst hx
    split at h
    · cases h; rw [rep_v]; exact ⟨[.slice none 0 0], ⟨none, 0, rfl, Nat.le_refl _, .inl rfl⟩, rfl⟩
    · cases h
  · cases h; simp only [RepA] at hx ⊢; exact hx
  · rename_i id
    split at h
    · rename_i t' e xs ro hL
      cases h
      rw [rep_v]
      exact lift_rep hI hx (fun i hi => hk i (by cases hi; simp [ownOf])) (by simp [liftA, hL, castI])
    · cases h
  · rename_i id p lo n
    split at h
    · rename_i T y ro hL
      cases hg : getP T y p with
      | none => rw [hg] at h; cases h
      | some d =>
        rw [hg] at h
        simp only [Option.bind_some] at h
        split at h
        · rename_i N e xs
          cases h
          rw [rep_v]
          exact lift_rep hI hx (fun i hi => hk i (by cases hi; simp [ownOf])) (by simp [liftA, hL, hg, castI])
        · cases h
    · cases h
  · cases h; simp only [RepA] at hx ⊢; exact hx
  · rename_i id p
    split at h
    · rename_i T x ro hL
      cases h
      exact ref_vp hI hL (hk id (by simp [ownOf])) hx
    · cases h
  · cases h
    simp only [RepA, RepAs] at hx ⊢
    exact hx
  · rename_i f id p
    split at h
    · rename_i T x ro hL
      cases h
      simp only [RepA, RepAs] at hx
      obtain ⟨vs, rfl, y, r, rfl, h1, rfl⟩ := hx
      have := ref_vp (p := p) (u := y) hI hL (hk id (by simp [ownOf])) (by simp only [RepA]; exact h1)
      simp only [RepA, RepAs] at this ⊢
      exact ⟨_, rfl, y, [], rfl, this, rfl⟩
    · cases h
  · rename_i f id p id2 p2
    split at h
    · rename_i T x ro T2 x2 ro2 hL hL2
      cases h
      simp only [RepA, RepAs] at hx
      obtain ⟨vs, rfl, y, r, rfl, h1, y2, r2, rfl, h2, rfl⟩ := hx
      have q1 := ref_vp (p := p) (u := y) hI hL (hk id (by simp [ownOf])) (by simp only [RepA]; exact h1)
      have q2 := ref_vp (p := p2) (u := y2) hI hL2 (hk id2 (by simp [ownOf])) (by simp only [RepA]; exact h2)
      simp only [RepA, RepAs] at q1 q2 ⊢
      exact ⟨_, rfl, y, [y2], rfl, q1, y2, [], rfl, q2, rfl⟩
    · cases h
  · cases h
    simp only [RepA, RepAs] at hx ⊢
    exact hx
  · cases h
    simp only [RepA, RepAs] at hx ⊢
    exact hx
  · cases h

theorem handL_rep (hI : Inv B m L w S) : ∀ {as : List AV} {ts : List TypeId} {bs : List AV} {us : List Value}, RepAs m L w S as us → (∀ a ∈ as, ∀ id ∈ ownOf a, Kept m L S id) → handL C L ts as = some bs → RepAs m0 [] w S bs us
  | [], ts, bs, us, hx, hk, h => by
    cases ts <;> simp only [handL, Option.some.injEq] at h <;> subst h <;> simpa only [RepAs] using hx
  | a :: as, ts, bs, us, hx, hk, h => by
    have key : ∀ t ts', ((handA C L t a).bind fun b => (handL C L ts' as).map fun bs => b :: bs) = some bs → RepAs m0 [] w S bs us := by
      intro t ts' h
      cases h1 : handA C L t a with
      | none => rw [h1] at h; cases h
      | some b =>
        rw [h1] at h
        simp only [Option.bind_some] at h
        cases h2 : handL C L ts' as with
        | none => rw [h2] at h; cases h
        | some r =>
          rw [h2] at h
          simp only [Option.map_some, Option.some.injEq] at h
          subst h
          simp only [RepAs] at hx ⊢
          obtain ⟨u, us', rfl, q1, q2⟩ := hx
          exact ⟨u, us', rfl, hand_rep hI q1 (hk a (by simp)) h1, handL_rep hI q2 (fun b hb => hk b (List.mem_cons_of_mem _ hb)) h2⟩
    cases ts with
    | nil => simp only [handL] at h; exact key _ _ h
    | cons t ts => simp only [handL] at h; exact key _ _ h

/-- Which function a function value is, that has caught nothing. -/
def asFn : Value → Option FuncId
  | .func (.func f) a b => bif a.size == 0 && b.size == 0 then some f else none
  | _ => none
theorem asFn_eq {v : Value} {f : FuncId} (h : asFn v = some f) : v = .func (.func f) #[] #[] := by
  unfold asFn at h
  split at h
  · rename_i g a b
    cases hc : (a.size == 0 && b.size == 0) with
    | false => rw [hc] at h; cases h
    | true =>
      rw [hc] at h
      cases h
      simp only [Bool.and_eq_true, beq_iff_eq] at hc
      rw [Array.eq_empty_of_size_eq_zero hc.1, Array.eq_empty_of_size_eq_zero hc.2]
  · cases h
/-- A function that lies in a cell, as a function. -/
def fnOf : AV → AV
  | .v (.raw .func) x => match asFn x with
    | some f => .fn f []
    | none => .v (.raw .func) x
  | a => a
theorem fnOf_rep {a : AV} {u : Value} (h : RepA m L w S a u) : RepA m L w S (fnOf a) u := by
  unfold fnOf
  split
  · rename_i x
    cases hf : asFn x with
    | none => exact h
    | some f =>
      rw [rep_v] at h
      obtain ⟨cs, ⟨e1, _⟩, e2⟩ := h
      subst e1
      have e3 : u = x := e2
      show RepA m L w S (.fn f []) u
      have e4 := asFn_eq hf
      rw [e3, e4]
      simp only [RepA, RepAs]
      exact ⟨[], rfl, rfl⟩
  · exact h

theorem fnOf_ids {f : Bool → Nat → Bool} {a : AV} (h : a.ids f = true) : (fnOf a).ids f = true := by
  unfold fnOf
  split
  · split
    · simp [AV.ids, AV.idsL]
    · exact h
  · exact h

/-- The arguments as handed over, and the blocks behind the call. -/
def callA (C : Cfg) (ρ : Operand → AV) (L : Heap) : Op → Option (FuncId × List AV × Heap)
  | .call ⟨.value f, args, _⟩ => match fnOf (ρ f) with
    | .fn g caps =>
      let as := args.toList.map ρ ++ caps
      let L1 := markIds L (as.flatMap ownOf)
      (handL C L1 ((C.P.funcs[g]?).map (·.params.toList) |>.getD []) as).map fun bs => (g, bs, L1)
    | _ => none
  | _ => none

theorem repAs_append : ∀ {as bs : List AV} {us vs : List Value}, RepAs m L w S as us → RepAs m L w S bs vs → RepAs m L w S (as ++ bs) (us ++ vs)
  | [], bs, us, vs, h, k => by simp only [RepAs] at h; subst h; simpa using k
  | a :: as, bs, us, vs, h, k => by
    simp only [RepAs] at h
    obtain ⟨u, r, rfl, h1, h2⟩ := h
    simp only [List.cons_append, RepAs]
    exact ⟨u, r ++ vs, by simp, h1, repAs_append h2 k⟩

theorem noX_L {X : Nat → Bool} {m1 : Nat → Value} {L1 : Heap} {w1 : World} {S1 : Nat → Nat → Prop} (hX : ∀ i, X i = false) (hg : Goes B X m L w S m1 L1 w1 S1) : ∀ {as : List AV} {us : List Value}, RepAs m L w S as us → RepAs m1 L1 w1 S1 as us
  | [], us, h => by simp only [RepAs] at h ⊢; exact h
  | a :: as, us, h => by
    simp only [RepAs] at h ⊢
    obtain ⟨u, r, rfl, h1, h2⟩ := h
    exact ⟨u, r, rfl, goes_noX hX hg h1, noX_L hX hg h2⟩

theorem opDoes_call (hI : Inv B m L w S) (hG : GlobOK C B w S) {ρ : Operand → AV} {a : Act} (h : ∀ x, RepA m L w S (ρ x) (a.eval x)) {o : Oper} {g : FuncId} {bs : List AV} {L1 : Heap} (hc : callA C ρ L o.op = some (g, bs, L1)) {av : AV} (hk : Contract C g bs av) :
    OpDoes C B (fun _ => false) m L w S a o av (if av.flat then L else L1) := by
  unfold callA at hc
  split at hc
  · rename_i f args ts ho
    split at hc
    · rename_i g' caps hf
      cases hh : handL C (markIds L ((args.toList.map ρ ++ caps).flatMap ownOf)) ((C.P.funcs[g']?).map (·.params.toList) |>.getD []) (args.toList.map ρ ++ caps) with
      | none => simp only [hh] at hc; cases hc
      | some bs' =>
        simp only [hh, Option.map_some, Option.some.injEq, Prod.mk.injEq] at hc
        obtain ⟨rfl, rfl, rfl⟩ := hc
        have hfv := fnOf_rep (h f)
        rw [hf] at hfv
        simp only [RepA] at hfv
        obtain ⟨vs, hev, hcaps⟩ := hfv
        have hall : RepAs m L w S (args.toList.map ρ ++ caps) (args.toList.map a.eval ++ vs) := repAs_append (repAs_map h _) hcaps
        obtain ⟨S1, g1, _, k1⟩ := markIds_goes (m := m) (w := w) (fun _ => false) ((args.toList.map ρ ++ caps).flatMap ownOf) hI
        have hall1 := noX_L (fun _ => rfl) g1 hall
        have hargs := handL_rep (C := C) g1.inv hall1 (fun a ha id hid => k1 id (List.mem_flatMap.2 ⟨a, ha, hid⟩)) hh
        have hS1 : ∀ b o, S1 b o → b < w.heap.size := fun b o hs => (g1.inv.prot b o hs).1
        have hcalls := hk.runs w S1 _ hS1 ((hG.go g1.safe g1.below).mono hI.base) hargs
        intro next Q hn
        unfold Oper.wp execOp
        rw [ho]
        have harr : (args.map a.eval ++ vs.toArray) = (args.toList.map a.eval ++ vs).toArray := by
          apply Array.ext'; simp
        simp only [resolve, Deferred.ofValue, hev, Sem.run_bind, Sem.run_pure, Result.andThen_ok, invoke, Array.empty_append, harr, hk.enters, Oper.upon]
        refine hcalls.mono ?_
        rintro e w' ⟨u, S', rfl, hbel, hsafe, hnew, hrep⟩
        have hgrow := Grows.of_below hbel
        cases hfl : av.flat with
        | true =>
          rw [hfl] at hn
          simp only [if_true] at hn
          exact hn u m w' S (Goes.grows hI hgrow _) (flat_rep hfl hrep)
        | false =>
          rw [hfl] at hn
          simp only [Bool.false_eq_true, if_false] at hn
          refine hn u m w' S' ?_ (rep_out hrep)
          refine g1.trans ⟨?_, hsafe, hgrow.below hI.base, Ext.refl _ _ _, fun b o hs => ((hnew b o hs).1).imp (fun h => h) (fun h => Nat.le_trans hI.base h)⟩
          have hI1 := g1.inv.grows hgrow
          refine ⟨hI1.base, ?_, ?_, hI1.apart, ?_⟩
          · intro id T x ro hL
            obtain ⟨b, cs, el, fr, q1, q2, q3, q4, q5⟩ := g1.inv.box id T x ro hL
            exact ⟨b, cs, el, fr, q1, q2, by rw [hgrow.block b (Array.getElem?_eq_some_iff.1 q3).1]; exact q3, q4, q5.safe hsafe⟩
          · intro id t e xs ro hL
            obtain ⟨cs, q1, q2⟩ := g1.inv.row id t e xs ro hL
            exact ⟨cs, row_grows hgrow q1, RepL.mono (fun x c h => h.safe hsafe) q2⟩
          · intro b o hs
            obtain ⟨q1, q2⟩ := hnew b o hs
            refine ⟨q2, fun i s hL hl hb => ?_⟩
            rcases q1 with q1 | q1
            · exact (g1.inv.prot b o q1).2 i s hL hl hb
            · have := (g1.inv.lt hL hl hb).2
              omega
    · cases hc
  · cases hc
end
end Go.Proofs.YtmphlhnpichonaaDoor.K

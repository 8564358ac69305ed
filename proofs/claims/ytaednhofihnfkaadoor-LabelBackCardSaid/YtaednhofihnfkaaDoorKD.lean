/- Calls: what is handed over, what a function's contract is, and what a call comes to. Regions whose order is the text's: the evaluator, and that it is right. Regions: reserved places, and the walk in the text's order. Regions that draw their order: which operations may change places, and that the text's order says all. Regions that draw their order, continued: what an operation's answer hangs on. Regions that draw their order, continued: two operations that may change places. -/
import Derived.Test.YtaednhofihnfkaaDoorKC
set_option maxHeartbeats 400000
set_option linter.unusedVariables false
set_option linter.unusedSimpArgs false
namespace Go.Proofs.YtaednhofihnfkaaDoor.K
open Go Go.RowKit

/-- Is a datum all that it is (nothing behind it in memory)? -/
def ETy.flat : ETy → Bool
  | .slice _ => false
  | .pair a b => a.flat && b.flat
  | .arr _ e => e.flat
  | _ => true

mutual
def AV.flat : AV → Bool
  | .v τ _ => τ.flat
  | .tup l => AV.flatL l
  | .cst _ => true
  | _ => false
def AV.flatL : List AV → Bool
  | [] => true
  | a :: l => a.flat && AV.flatL l
end

/-- The same, seen by a callee: nothing of the caller's own. -/
def handA (C : Cfg) (L : Heap) (t : TypeId) : AV → Option AV
  | .v τ x => some (.v τ x)
  | .cst (.slice none 0 0) => match C.Ty t with | some (.slice e) => some (.v (.slice e) []) | _ => none
  | .cst c => some (.cst c)
  | .rs id => match L[id]? with | some (.row _ e xs _) => some (.v (.slice e) xs) | _ => none
  | .ls id p lo n => match L[id]? with
    | some (.box T x _) => (getP T x p).bind fun d => match d with | ⟨.arr N e, xs⟩ => some (.v (.slice e) ((List.drop lo xs).take n)) | _ => none
    | _ => none
  | .lr id lo n => match L[id]? with | some (.row _ e xs _) => some (.v (.slice e) ((List.drop lo xs).take n)) | _ => none
  | .vp T x p => some (.vp T x p)
  | .ref id p => match L[id]? with | some (.box T x _) => some (.vp T x p) | _ => none
  | .fn f [] => some (.fn f [])
  | .fn f [.ref id p] => match L[id]? with | some (.box T x _) => some (.fn f [.vp T x p]) | _ => none
  | .fn f [.ref id p, .ref id2 p2] => match L[id]?, L[id2]? with | some (.box T x _), some (.box T2 x2 _) => some (.fn f [.vp T x p, .vp T2 x2 p2]) | _, _ => none
  | .fn f [.vp T x p] => some (.fn f [.vp T x p])
  | .fn f [.vp T x p, .vp T2 x2 p2] => some (.fn f [.vp T x p, .vp T2 x2 p2])
  | _ => none

def handL (C : Cfg) (L : Heap) : List TypeId → List AV → Option (List AV)
  | _, [] => some []
  | t :: ts, a :: as => (handA C L t a).bind fun b => (handL C L ts as).map fun bs => b :: bs
  | [], a :: as => (handA C L 0 a).bind fun b => (handL C L [] as).map fun bs => b :: bs

def ownOf : AV → List Nat
  | .rs id => [id]
  | .ls id _ _ _ => [id]
  | .lr id _ _ => [id]
  | .ref id _ => [id]
  | .fn _ [.ref id _] => [id]
  | .fn _ [.ref id _, .ref id2 _] => [id, id2]
  | _ => []

def markIds (L : Heap) : List Nat → Heap
  | [] => L
  | id :: l => markIds (mark1 L id) l

abbrev m0 : Nat → Value := fun _ => undef

/-- A function's contract: what it gives for what it is handed. -/
structure Contract (C : Cfg) (f : FuncId) (args : List AV) (av : AV) : Prop where
  enters : ∀ (us : Array Value) (w : World), (callFunc f us).run C.P w = .ok (.enter f us) w
  runs : ∀ (w : World) (S : Nat → Nat → Prop) (us : List Value), (∀ b o, S b o → b < w.heap.size) → GlobOK C w.heap.size w S → RepAs m0 [] w S args us →
    Calls C.P f us.toArray w fun e w' => ∃ u S', e = .returned u ∧ Below w.heap.size w w' ∧ Safe S S' w w' ∧ (∀ b o, S' b o → (S b o ∨ w.heap.size ≤ b) ∧ b < w'.heap.size) ∧ RepA m0 [] w' S' av u

section
variable {C : Cfg} {B : Nat} {m : Nat → Value} {L : Heap} {w w' : World} {S S' : Nat → Nat → Prop}

theorem flat_repC {w w' : World} {S S' : Nat → Nat → Prop} : ∀ {τ : ETy} {x : τ.I} {cs : List Value}, τ.flat = true → RepC w S τ x cs → RepC w' S' τ x cs
  | .int _, x, cs, _, h => h
  | .bool, x, cs, _, h => h
  | .str, x, cs, _, h => h
  | .raw _, x, cs, _, h => h
  | .unit, x, cs, _, h => h
  | .pair a b, x, cs, hf, h => by
    simp only [ETy.flat, Bool.and_eq_true] at hf
    obtain ⟨c, d, rfl, h1, h2⟩ := h
    exact ⟨c, d, rfl, flat_repC hf.1 h1, flat_repC hf.2 h2⟩
  | .arr n e, x, cs, hf, h => ⟨h.1, RepL.mono (fun x c h => flat_repC (by simpa [ETy.flat] using hf) h) h.2⟩
  | .slice e, x, cs, hf, h => by simp [ETy.flat] at hf

mutual
theorem flat_rep {m m' : Nat → Value} {L L' : Heap} {w w' : World} {S S' : Nat → Nat → Prop} : ∀ {a : AV} {u : Value}, a.flat = true → RepA m L w S a u → RepA m' L' w' S' a u
  | .v τ x, u, hf, h => by
    rw [rep_v] at h ⊢
    obtain ⟨cs, h1, rfl⟩ := h
    exact ⟨cs, flat_repC (by simpa [AV.flat] using hf) h1, rfl⟩
  | .tup l, u, hf, h => by
    simp only [RepA] at h ⊢
    obtain ⟨vs, rfl, h1⟩ := h
    exact ⟨vs, rfl, flat_reps (by simpa [AV.flat] using hf) h1⟩
  | .cst c, u, hf, h => by simp only [RepA] at h ⊢; exact h
  | .vp .., u, hf, h | .ref .., u, hf, h | .rref .., u, hf, h | .ls .., u, hf, h | .rs .., u, hf, h | .lr .., u, hf, h | .fn .., u, hf, h | .bm .., u, hf, h | .dead, u, hf, h => by simp [AV.flat] at hf
theorem flat_reps {m m' : Nat → Value} {L L' : Heap} {w w' : World} {S S' : Nat → Nat → Prop} : ∀ {a : List AV} {u : List Value}, AV.flatL a = true → RepAs m L w S a u → RepAs m' L' w' S' a u
  | [], u, hf, h => by simp only [RepAs] at h ⊢; exact h
  | x :: xs, u, hf, h => by
    simp only [AV.flatL, Bool.and_eq_true] at hf
    simp only [RepAs] at h ⊢
    obtain ⟨y, r, rfl, h1, h2⟩ := h
    exact ⟨y, r, rfl, flat_rep hf.1 h1, flat_reps hf.2 h2⟩
end

mutual
/-- What bears nothing of the callee's own is the same anywhere. -/
theorem rep_out {m : Nat → Value} {L : Heap} : ∀ {a : AV} {u : Value}, RepA m0 [] w S a u → RepA m L w S a u
  | .v τ x, u, h => by rw [rep_v] at h ⊢; exact h
  | .cst c, u, h => by simp only [RepA] at h ⊢; exact h
  | .vp .., u, h => by simp only [RepA] at h ⊢; exact h
  | .ref .., u, h => by simp only [RepA] at h; obtain ⟨s, h, _⟩ := h; simp at h
  | .rref .., u, h => by simp only [RepA] at h; obtain ⟨s, h, _⟩ := h; simp at h
  | .ls .., u, h => by simp only [RepA] at h; obtain ⟨s, h, _⟩ := h; simp at h
  | .rs .., u, h => by simp only [RepA] at h; obtain ⟨s, h, _⟩ := h; simp at h
  | .lr .., u, h => by simp only [RepA] at h; obtain ⟨s, h, _⟩ := h; simp at h
  | .fn f caps, u, h => by simp only [RepA] at h ⊢; obtain ⟨vs, rfl, h1⟩ := h; exact ⟨vs, rfl, reps_out h1⟩
  | .bm f l, u, h => by simp only [RepA] at h ⊢; obtain ⟨vs, rfl, h1⟩ := h; exact ⟨vs, rfl, reps_out h1⟩
  | .tup l, u, h => by simp only [RepA] at h ⊢; obtain ⟨vs, rfl, h1⟩ := h; exact ⟨vs, rfl, reps_out h1⟩
  | .dead, u, h => by simp only [RepA]
theorem reps_out {m : Nat → Value} {L : Heap} : ∀ {a : List AV} {u : List Value}, RepAs m0 [] w S a u → RepAs m L w S a u
  | [], u, h => by simp only [RepAs] at h ⊢; exact h
  | x :: xs, u, h => by
    simp only [RepAs] at h ⊢
    obtain ⟨y, r, rfl, h1, h2⟩ := h
    exact ⟨y, r, rfl, rep_out h1, reps_out h2⟩
end

theorem markIds_goes (X : Nat → Bool) : ∀ (l : List Nat) {L : Heap} {S : Nat → Nat → Prop} (hI : Inv B m L w S), ∃ S', Goes B X m L w S m (markIds L l) w S' ∧ (∀ j, Kept m L S j → Kept m (markIds L l) S' j) ∧ ∀ id ∈ l, Kept m (markIds L l) S' id
  | [], L, S, hI => ⟨S, ⟨hI, Safe.refl _ _, Below.refl _ _, Ext.refl X m L, fun _ _ h => .inl h⟩, fun _ h => h, fun a ha => by simp at ha⟩
  | id :: l, L, S, hI => by
    obtain ⟨S1, g1, k1⟩ := mark1_goes hI id X
    obtain ⟨S2, g2, k2, k3⟩ := markIds_goes X l g1.inv
    refine ⟨S2, g1.trans g2, fun j hj => k2 j (mark1_kept g1.safe.sub hj), fun i hi => ?_⟩
    rcases List.mem_cons.1 hi with rfl | hi
    · exact k2 _ k1
    · exact k3 i hi

theorem mark1_get {id j : Nat} {s : Slot} (h : L[j]? = some s) : (mark1 L id)[j]? = some s ∨ (mark1 L id)[j]? = some s.mark := by
  unfold mark1
  cases hid : L[id]? with
  | none => exact .inl h
  | some r =>
    simp only
    rw [get_set ⟨_, hid⟩]
    split
    · rename_i e; subst e; rw [h] at hid; cases hid; exact .inr rfl
    · exact .inl h

/-- A place in one's own box, handed over to be read. -/
theorem ref_vp (hI : Inv B m L w S) {id : Nat} {p : List PStep} {T : ETy} {x : T.I} {ro : Bool} {u : Value} (hL : L[id]? = some (.box T x ro)) (hk : Kept m L S id) (h : RepA m L w S (.ref id p) u) : RepA m0 [] w S (.vp T x p) u := by
  simp only [RepA] at h ⊢
  obtain ⟨s, h1, h2, h3⟩ := h
  rw [hL] at h1; cases h1
  obtain ⟨h0, b, hm, rfl⟩ := h3.1 T x ro rfl
  obtain ⟨b', cs, el, fr, hm', hB, hb, hfr, hr⟩ := hI.box id T x ro hL
  rw [hm] at hm'; cases hm'
  refine ⟨h0, b, 0, cs, by simp, hr, fun j hj => ⟨cellsAt_block hb j hj, ?_⟩⟩
  have := hr.length
  exact hk _ b (0 + j) hL rfl (by rw [hm]; exact in_ptr _ _) (by simp only [Slot.cells]; omega)

theorem hand_rep (hI : Inv B m L w S) {t : TypeId} {a b : AV} {u : Value} (hx : RepA m L w S a u) (hk : ∀ id ∈ ownOf a, Kept m L S id) (h : handA C L t a = some b) : RepA m0 [] w S b u := by
  unfold handA at h
  split at h
  · cases h; rw [rep_v] at hx ⊢; exact hx
  · simp only [RepA] at hx
    subst hx
    split at h
    · cases h; rw [rep_v]; exact ⟨[.slice none 0 0], ⟨none, 0, rfl, Nat.le_refl _, .inl rfl⟩, rfl⟩
    · cases h
  · cases h; simp only [RepA] at hx ⊢; exact hx
  · rename_i id
    split at h
    · rename_i t' e xs ro hL
      cases h
      rw [rep_v]
      exact lift_rep hI hx (fun i hi => hk i (by cases hi; simp [ownOf])) (by simp [liftA, hL, castI])
    · cases h
  · rename_i id p lo n
    split at h
    · rename_i T y ro hL
      cases hg : getP T y p with
      | none => rw [hg] at h; cases h
      | some d =>
        rw [hg] at h
        simp only [Option.bind_some] at h
        split at h
        · rename_i N e xs
          cases h
          rw [rep_v]
          exact lift_rep hI hx (fun i hi => hk i (by cases hi; simp [ownOf])) (by simp [liftA, hL, hg, castI])
        · cases h
    · cases h
  · rename_i id lo n
    split at h
    · rename_i t' e xs ro hL
      cases h
      rw [rep_v]
      exact lift_rep hI hx (fun i hi => hk i (by cases hi; simp [ownOf])) (by simp [liftA, hL, castI])
    · cases h
  · cases h; simp only [RepA] at hx ⊢; exact hx
  · rename_i id p
    split at h
    · rename_i T x ro hL
      cases h
      exact ref_vp hI hL (hk id (by simp [ownOf])) hx
    · cases h
  · cases h
    simp only [RepA, RepAs] at hx ⊢
    exact hx
  · rename_i f id p
    split at h
    · rename_i T x ro hL
      cases h
      simp only [RepA, RepAs] at hx
      obtain ⟨vs, rfl, y, r, rfl, h1, rfl⟩ := hx
      have := ref_vp (p := p) (u := y) hI hL (hk id (by simp [ownOf])) (by simp only [RepA]; exact h1)
      simp only [RepA, RepAs] at this ⊢
      exact ⟨_, rfl, y, [], rfl, this, rfl⟩
    · cases h
  · rename_i f id p id2 p2
    split at h
    · rename_i T x ro T2 x2 ro2 hL hL2
      cases h
      simp only [RepA, RepAs] at hx
      obtain ⟨vs, rfl, y, r, rfl, h1, y2, r2, rfl, h2, rfl⟩ := hx
      have q1 := ref_vp (p := p) (u := y) hI hL (hk id (by simp [ownOf])) (by simp only [RepA]; exact h1)
      have q2 := ref_vp (p := p2) (u := y2) hI hL2 (hk id2 (by simp [ownOf])) (by simp only [RepA]; exact h2)
      simp only [RepA, RepAs] at q1 q2 ⊢
      exact ⟨_, rfl, y, [y2], rfl, q1, y2, [], rfl, q2, rfl⟩
    · cases h
  · cases h
    simp only [RepA, RepAs] at hx ⊢
    exact hx
  · cases h
    simp only [RepA, RepAs] at hx ⊢
    exact hx
  · cases h

theorem handL_rep (hI : Inv B m L w S) : ∀ {as : List AV} {ts : List TypeId} {bs : List AV} {us : List Value}, RepAs m L w S as us → (∀ a ∈ as, ∀ id ∈ ownOf a, Kept m L S id) → handL C L ts as = some bs → RepAs m0 [] w S bs us
  | [], ts, bs, us, hx, hk, h => by
    cases ts <;> simp only [handL, Option.some.injEq] at h <;> subst h <;> simpa only [RepAs] using hx
  | a :: as, ts, bs, us, hx, hk, h => by
    have key : ∀ t ts', ((handA C L t a).bind fun b => (handL C L ts' as).map fun bs => b :: bs) = some bs → RepAs m0 [] w S bs us := by
      intro t ts' h
      cases h1 : handA C L t a with
      | none => rw [h1] at h; cases h
      | some b =>
        rw [h1] at h
        simp only [Option.bind_some] at h
        cases h2 : handL C L ts' as with
        | none => rw [h2] at h; cases h
        | some r =>
          rw [h2] at h
          simp only [Option.map_some, Option.some.injEq] at h
          subst h
          simp only [RepAs] at hx ⊢
          obtain ⟨u, us', rfl, q1, q2⟩ := hx
          exact ⟨u, us', rfl, hand_rep hI q1 (hk a (by simp)) h1, handL_rep hI q2 (fun b hb => hk b (List.mem_cons_of_mem _ hb)) h2⟩
    cases ts with
    | nil => simp only [handL] at h; exact key _ _ h
    | cons t ts => simp only [handL] at h; exact key _ _ h

/-- Which function a function value is, that has caught nothing. -/
def asFn : Value → Option FuncId
  | .func (.func f) a b => bif a.size == 0 && b.size == 0 then some f else none
  | _ => none
theorem asFn_eq {v : Value} {f : FuncId} (h : asFn v = some f) : v = .func (.func f) #[] #[] := by
  unfold asFn at h
  split at h
  · rename_i g a b
    cases hc : (a.size == 0 && b.size == 0) with
    | false => rw [hc] at h; cases h
    | true =>
      rw [hc] at h
      cases h
      simp only [Bool.and_eq_true, beq_iff_eq] at hc
      rw [Array.eq_empty_of_size_eq_zero hc.1, Array.eq_empty_of_size_eq_zero hc.2]
  · cases h
/-- A function that lies in a cell, as a function. -/
def fnOf : AV → AV
  | .v (.raw .func) x => match asFn x with
    | some f => .fn f []
    | none => .v (.raw .func) x
  | a => a
theorem fnOf_rep {a : AV} {u : Value} (h : RepA m L w S a u) : RepA m L w S (fnOf a) u := by
  unfold fnOf
  split
  · rename_i x
    cases hf : asFn x with
    | none => exact h
    | some f =>
      rw [rep_v] at h
      obtain ⟨cs, ⟨e1, _⟩, e2⟩ := h
      subst e1
      have e3 : u = x := e2
      show RepA m L w S (.fn f []) u
      have e4 := asFn_eq hf
      rw [e3, e4]
      simp only [RepA, RepAs]
      exact ⟨[], rfl, rfl⟩
  · exact h

theorem fnOf_ids {f : Bool → Nat → Bool} {a : AV} (h : a.ids f = true) : (fnOf a).ids f = true := by
  unfold fnOf
  split
  · split
    · simp [AV.ids, AV.idsL]
    · exact h
  · exact h

/-- The arguments as handed over, and the blocks behind the call. -/
def callA (C : Cfg) (ρ : Operand → AV) (L : Heap) : Op → Option (FuncId × List AV × Heap)
  | .call ⟨.value f, args, _⟩ => match fnOf (ρ f) with
    | .fn g caps =>
      let as := args.toList.map ρ ++ caps
      let L1 := markIds L (as.flatMap ownOf)
      (handL C L1 ((C.P.funcs[g]?).map (·.params.toList) |>.getD []) as).map fun bs => (g, bs, L1)
    | _ => none
  | _ => none

theorem repAs_append : ∀ {as bs : List AV} {us vs : List Value}, RepAs m L w S as us → RepAs m L w S bs vs → RepAs m L w S (as ++ bs) (us ++ vs)
  | [], bs, us, vs, h, k => by simp only [RepAs] at h; subst h; simpa using k
  | a :: as, bs, us, vs, h, k => by
    simp only [RepAs] at h
    obtain ⟨u, r, rfl, h1, h2⟩ := h
    simp only [List.cons_append, RepAs]
    exact ⟨u, r ++ vs, by simp, h1, repAs_append h2 k⟩

theorem noX_L {X : Nat → Bool} {m1 : Nat → Value} {L1 : Heap} {w1 : World} {S1 : Nat → Nat → Prop} (hX : ∀ i, X i = false) (hg : Goes B X m L w S m1 L1 w1 S1) : ∀ {as : List AV} {us : List Value}, RepAs m L w S as us → RepAs m1 L1 w1 S1 as us
  | [], us, h => by simp only [RepAs] at h ⊢; exact h
  | a :: as, us, h => by
    simp only [RepAs] at h ⊢
    obtain ⟨u, r, rfl, h1, h2⟩ := h
    exact ⟨u, r, rfl, goes_noX hX hg h1, noX_L hX hg h2⟩

theorem opDoes_call (hI : Inv B m L w S) (hG : GlobOK C B w S) {ρ : Operand → AV} {a : Act} (h : ∀ x, RepA m L w S (ρ x) (a.eval x)) {o : Oper} {g : FuncId} {bs : List AV} {L1 : Heap} (hc : callA C ρ L o.op = some (g, bs, L1)) {av : AV} (hk : Contract C g bs av) :
    OpDoes C B (fun _ => false) m L w S a o av (if av.flat then L else L1) := by
  unfold callA at hc
  split at hc
  · rename_i f args ts ho
    split at hc
    · rename_i g' caps hf
      cases hh : handL C (markIds L ((args.toList.map ρ ++ caps).flatMap ownOf)) ((C.P.funcs[g']?).map (·.params.toList) |>.getD []) (args.toList.map ρ ++ caps) with
      | none => simp only [hh] at hc; cases hc
      | some bs' =>
        simp only [hh, Option.map_some, Option.some.injEq, Prod.mk.injEq] at hc
        obtain ⟨rfl, rfl, rfl⟩ := hc
        have hfv := fnOf_rep (h f)
        rw [hf] at hfv
        simp only [RepA] at hfv
        obtain ⟨vs, hev, hcaps⟩ := hfv
        have hall : RepAs m L w S (args.toList.map ρ ++ caps) (args.toList.map a.eval ++ vs) := repAs_append (repAs_map h _) hcaps
        obtain ⟨S1, g1, _, k1⟩ := markIds_goes (m := m) (w := w) (fun _ => false) ((args.toList.map ρ ++ caps).flatMap ownOf) hI
        have hall1 := noX_L (fun _ => rfl) g1 hall
        have hargs := handL_rep (C := C) g1.inv hall1 (fun a ha id hid => k1 id (List.mem_flatMap.2 ⟨a, ha, hid⟩)) hh
        have hS1 : ∀ b o, S1 b o → b < w.heap.size := fun b o hs => (g1.inv.prot b o hs).1
        have hcalls := hk.runs w S1 _ hS1 ((hG.go g1.safe g1.below).mono hI.base) hargs
        intro next Q hn
        unfold Oper.wp execOp
        rw [ho]
        have harr : (args.map a.eval ++ vs.toArray) = (args.toList.map a.eval ++ vs).toArray := by
          apply Array.ext'; simp
        simp only [resolve, Deferred.ofValue, hev, Sem.run_bind, Sem.run_pure, Result.andThen_ok, invoke, Array.empty_append, harr, hk.enters, Oper.upon]
        refine hcalls.mono ?_
        rintro e w' ⟨u, S', rfl, hbel, hsafe, hnew, hrep⟩
        have hgrow := Grows.of_below hbel
        cases hfl : av.flat with
        | true =>
          rw [hfl] at hn
          simp only [if_true] at hn
          exact hn u m w' S (Goes.grows hI hgrow _) (flat_rep hfl hrep)
        | false =>
          rw [hfl] at hn
          simp only [Bool.false_eq_true, if_false] at hn
          refine hn u m w' S' ?_ (rep_out hrep)
          refine g1.trans ⟨?_, hsafe, hgrow.below hI.base, Ext.refl _ _ _, fun b o hs => ((hnew b o hs).1).imp (fun h => h) (fun h => Nat.le_trans hI.base h)⟩
          have hI1 := g1.inv.grows hgrow
          refine ⟨hI1.base, ?_, ?_, hI1.obj, hI1.apart, ?_⟩
          · intro id T x ro hL
            obtain ⟨b, cs, el, fr, q1, q2, q3, q4, q5⟩ := g1.inv.box id T x ro hL
            exact ⟨b, cs, el, fr, q1, q2, by rw [hgrow.block b (Array.getElem?_eq_some_iff.1 q3).1]; exact q3, q4, q5.safe hsafe⟩
          · intro id t e xs ro hL
            obtain ⟨cs, q1, q2⟩ := g1.inv.row id t e xs ro hL
            exact ⟨cs, row_grows hgrow q1, RepL.mono (fun x c h => h.safe hsafe) q2⟩
          · intro b o hs
            obtain ⟨q1, q2⟩ := hnew b o hs
            refine ⟨q2, fun i s hL hl hb => ?_⟩
            rcases q1 with q1 | q1
            · exact (g1.inv.prot b o q1).2 i s hL hl hb
            · have := (g1.inv.lt hL hl hb).2
              omega
    · cases hc
  · cases hc
end
end Go.Proofs.YtaednhofihnfkaaDoor.K

set_option maxHeartbeats 400000
set_option linter.unusedVariables false
set_option linter.unusedSimpArgs false
namespace Go.Proofs.YtaednhofihnfkaaDoor.K
open Go Go.RowKit

/-- What is known of the functions: of some a contract; the others are walked where they are called, in the caller's own blocks. -/
structure Spec where
  con : ∀ {Ω : Type}, FuncId → List AV → (AV → Option Ω) → Option Ω
  isI : FuncId → Bool
  inl : ∀ {Ω : Type}, FuncId → List AV → Heap → (AV → Heap → Option Ω) → Option Ω

/-- What a call comes to that is walked in the caller's own blocks. -/
structure CallDoes (C : Cfg) (g : FuncId) (as : List AV) (L : Heap) (av : AV) (L' : Heap) : Prop where
  enters : ∀ (us : Array Value) (w : World), (callFunc g us).run C.P w = .ok (.enter g us) w
  keeps : ∀ j : Nat, L[j]? = some .resv → L'[j]? = some .resv
  runs : ∀ (B : Nat) (m : Nat → Value) (w : World) (S : Nat → Nat → Prop) (us : List Value), Inv B m L w S → GlobOK C B w S → RepAs m L w S as us →
    Calls C.P g us.toArray w fun e w' => ∃ u m' S', e = .returned u ∧ Goes B (fun _ => false) m L w S m' L' w' S' ∧ RepA m' L' w' S' av u

structure SpecOK (C : Cfg) (spec : Spec) : Prop where
  con : ∀ {Ω : Type} (g : FuncId) (bs : List AV) (k : AV → Option Ω) (r : Ω), spec.con g bs k = some r → ∃ av, k av = some r ∧ Contract C g bs av
  inl : ∀ {Ω : Type} (g : FuncId) (as : List AV) (L : Heap) (k : AV → Heap → Option Ω) (r : Ω), spec.inl g as L k = some r → ∃ av L', k av L' = some r ∧ CallDoes C g as L av L'

def rawA (ρ : Operand → AV) : Op → Option (FuncId × List AV)
  | .call ⟨.value f, args, _⟩ => match fnOf (ρ f) with
    | .fn g caps => some (g, args.toList.map ρ ++ caps)
    | .bm g first => some (g, first ++ args.toList.map ρ)
    | _ => none
  | _ => none

/-- May the append be? -/
def appOK (C : Cfg) (ρ : Operand → AV) : Op → Bool
  | .call ⟨.builtin .append, args, _⟩ => match args.toList with
    | [s, _] => (match ρ s with | .rs i => C.Y i | _ => true)
    | _ => true
  | _ => true
theorem appOK_rows {C : Cfg} {ρ : Operand → AV} {op : Op} (h : appOK C ρ op = true) {i : Nat} (hi : rowsOf ρ op i = true) : C.Y i = true := by
  unfold rowsOf at hi
  split at hi
  · rename_i args ts
    have key : ∀ l : List Operand, args.toList = l → (match l with | [s, _] => rowOf (ρ s) | _ => fun _ => false) i = true → C.Y i = true := by
      intro l hl hi
      match l, hl, hi with
      | [s, x], hl, hi =>
        unfold appOK at h
        simp only [hl] at h
        have hi2 : rowOf (ρ s) i = true := hi
        cases hρ : ρ s with
        | rs j =>
          rw [hρ] at hi2 h
          simp only [rowOf, beq_iff_eq] at hi2
          subst hi2
          exact h
        | _ => rw [hρ] at hi2; cases hi2
      | [], _, hi => cases hi
      | [_], _, hi => cases hi
      | _ :: _ :: _ :: _, _, hi => cases hi
    exact key _ rfl hi
  · cases hi

def envPut (env : List AV) : Option Tmp → AV → List AV
  | some d, a => env.set d a
  | none, _ => env

def scrubA (X : Nat → Bool) (a : AV) : AV := if a.ids (noX X) then a else .dead

def isCall : Op → Bool
  | .call ⟨.value _, _, _⟩ => true
  | _ => false

def isAct : Op → Bool
  | .alloc _ => true
  | .box _ _ => true
  | .build _ _ => true
  | .buildSlice _ _ _ => true
  | .store _ _ _ => true
  | .move (.const (.slice none 0 0)) => true
  | .assign (.const (.slice none 0 0)) => true
  | .call ⟨.builtin .append, _, _⟩ => true
  | .convert _ _ _ => true
  | .makeSlice _ _ _ => true
  | _ => false

def isAppend : Op → Bool
  | .call ⟨.builtin .append, _, _⟩ => true
  | _ => false

/-- One operation. -/
def evOp {Ω : Type} (C : Cfg) (spec : Spec) (o : Oper) (id : Nat) (env : List AV) (L : Heap) (k : List AV → Heap → Option Ω) : Option Ω :=
  bif isCall o.op then
    match rawA (evA C env) o.op with
    | some (g, as) => bif spec.isI g then spec.inl g as L fun av L' => k (envPut env o.dst av) L'
      else match callA C (evA C env) L o.op with
        | some (g, bs, L1) => spec.con g bs fun av => k (envPut env o.dst av) (if av.flat then L else L1)
        | none => none
    | none => none
  else bif isAct o.op then
    bif appOK C (evA C env) o.op then
      match act C (evA C env) L id o.type o.op with
      | some (c, av, L') => bif c then k (envPut (bif isAppend o.op then env.map (scrubA (rowsOf (evA C env) o.op)) else env) o.dst av) L' else none
      | none => none
    else none
  else
    match rop C (evA C env) L o.op with
    | some (c, av) => bif c then k (envPut env o.dst av) L else none
    | none => none

/-- What one operation comes to. -/
def OpRel (C : Cfg) (o : Oper) (id : Nat) (env : List AV) (L : Heap) (env' : List AV) (L' : Heap) : Prop :=
  (isCall o.op = true ∧ ∃ g bs L1 av, callA C (evA C env) L o.op = some (g, bs, L1) ∧ Contract C g bs av ∧ env' = envPut env o.dst av ∧ L' = if av.flat then L else L1) ∨
  (isCall o.op = false ∧ isAct o.op = true ∧ appOK C (evA C env) o.op = true ∧ ∃ av, act C (evA C env) L id o.type o.op = some (true, av, L') ∧ env' = envPut (bif isAppend o.op then env.map (scrubA (rowsOf (evA C env) o.op)) else env) o.dst av) ∨
  (isCall o.op = false ∧ isAct o.op = false ∧ ∃ av, rop C (evA C env) L o.op = some (true, av) ∧ env' = envPut env o.dst av ∧ L' = L) ∨
  (isCall o.op = true ∧ ∃ g as av, rawA (evA C env) o.op = some (g, as) ∧ CallDoes C g as L av L' ∧ env' = envPut env o.dst av)

/-- What an operation that is not wanted leaves. -/
def und : AV := .cst undef

def gTmp (ops : Array Oper) (j : Nat) : Option Tmp := (ops[j]?).bind (·.dst)

def nextId (o : Oper) (id : Nat) : Nat := bif wantsId o.op then id + 1 else id

/-- The operations of a region, in the text's order. -/
def evOps {Ω : Type} (C : Cfg) (spec : Spec) (ops : Array Oper) : List Oper → Nat → List AV → Heap → (List AV → Heap → Option Ω) → Option Ω
  | [], _, env, L, k => k env L
  | o :: rest, id, env, L, k =>
    match o.guard with
    | none => evOp C spec o id env L fun env' L' => evOps C spec ops rest (nextId o id) env' L' k
    | some (j, want) => match gTmp ops j with
      | none => none
      | some d => match env.getD d .dead with
        | .v .bool b => bif b then
            (bif want then evOp C spec o id (env.set d (.v .bool true)) L fun env' L' => evOps C spec ops rest (nextId o id) env' L' k
              else evOps C spec ops rest (nextId o id) (envPut (env.set d (.v .bool true)) o.dst und) L k)
          else
            (bif want then evOps C spec ops rest (nextId o id) (envPut (env.set d (.v .bool false)) o.dst und) L k
              else evOp C spec o id (env.set d (.v .bool false)) L fun env' L' => evOps C spec ops rest (nextId o id) env' L' k)
        | .cst (.tuple _) => evOps C spec ops rest (nextId o id) (envPut env o.dst und) L k
        | _ => none

/-- One operation and its guard. -/
def StepRel (C : Cfg) (ops : Array Oper) (o : Oper) (id : Nat) (env : List AV) (L : Heap) (env' : List AV) (L' : Heap) : Prop :=
  match o.guard with
  | none => OpRel C o id env L env' L'
  | some (j, want) => ∃ d, gTmp ops j = some d ∧ ((∃ b, env.getD d .dead = .v .bool b ∧ (if b = want then OpRel C o id env L env' L' else env' = envPut env o.dst und ∧ L' = L)) ∨ ((∃ c, env.getD d .dead = .cst (.tuple c)) ∧ env' = envPut env o.dst und ∧ L' = L))

section
variable {Ω : Type} {C : Cfg} {B : Nat} {w0 : World} {S0 : Nat → Nat → Prop} {ms : Nat → Value} {Ls : Heap} {spec : Spec}

/-- The state of a walk: what the evaluator holds is what the world holds. -/
def St (C : Cfg) (B : Nat) (w0 : World) (S0 : Nat → Nat → Prop) (ms : Nat → Value) (Ls : Heap) (env : List AV) (L : Heap) (a : Act) (w : World) : Prop :=
  ∃ m S, Inv B m L w S ∧ RepE m L w S env a.tmps ∧ GlobOK C B w S ∧ Below B w0 w ∧ Safe S0 S w0 w ∧ (∀ b o, S b o → S0 b o ∨ B ≤ b) ∧ Ext C.Y ms Ls m L ∧ a.defers = []

theorem set_getD {env : List AV} {d : Nat} {x : AV} (h : env.getD d .dead = x) (hx : x ≠ .dead) : env.set d x = env := by
  rw [List.getD_eq_getElem?_getD] at h
  cases hd : env[d]? with
  | none => rw [hd] at h; exact absurd h.symm hx
  | some y =>
    rw [hd] at h
    simp only [Option.getD_some] at h
    subst h
    obtain ⟨hlt, rfl⟩ := List.getElem?_eq_some_iff.1 hd
    exact List.set_getElem_self hlt

theorem evOp_rel (hS : SpecOK C spec) {o : Oper} {id : Nat} {env : List AV} {L : Heap} {k : List AV → Heap → Option Ω} {r : Ω} (h : evOp C spec o id env L k = some r) : ∃ env' L', OpRel C o id env L env' L' ∧ k env' L' = some r := by
  unfold evOp at h
  cases hc : isCall o.op with
  | true =>
    rw [hc] at h
    simp only [cond_true] at h
    split at h
    · rename_i g0 as hra
      cases hi : spec.isI g0 with
      | true =>
        rw [hi, cond_true] at h
        obtain ⟨av, L', h1, h2⟩ := hS.inl _ _ _ _ _ h
        exact ⟨_, _, .inr (.inr (.inr ⟨hc, g0, as, av, hra, h2, rfl⟩)), h1⟩
      | false =>
        rw [hi, cond_false] at h
        split at h
        · rename_i g bs L1 hca
          obtain ⟨av, h1, h2⟩ := hS.con g bs _ r h
          exact ⟨_, _, .inl ⟨hc, g, bs, L1, av, hca, h2, rfl, rfl⟩, h1⟩
        · cases h
    · cases h
  | false =>
    rw [hc] at h
    simp only [cond_false] at h
    cases ha : isAct o.op with
    | true =>
      rw [ha] at h
      simp only [cond_true] at h
      cases hap : appOK C (evA C env) o.op with
      | false => rw [hap] at h; cases h
      | true =>
        rw [hap, cond_true] at h
        split at h
        · rename_i c av L' hact
          cases c with
          | true => exact ⟨_, _, .inr (.inl ⟨hc, ha, hap, av, hact, rfl⟩), h⟩
          | false => cases h
        · cases h
    | false =>
      rw [ha] at h
      simp only [cond_false] at h
      split at h
      · rename_i c av hrop
        cases c with
        | true => exact ⟨_, _, .inr (.inr (.inl ⟨hc, ha, av, hrop, rfl, rfl⟩)), h⟩
        | false => cases h
      · cases h

/-- A run over some operations, each with its place. -/
def RunRel (C : Cfg) (ops : Array Oper) : List (Oper × Nat) → List AV → Heap → List AV → Heap → Prop
  | [], env, L, env', L' => env' = env ∧ L' = L
  | (o, id) :: rest, env, L, env', L' => ∃ env1 L1, StepRel C ops o id env L env1 L1 ∧ RunRel C ops rest env1 L1 env' L'

def withIds : List Oper → Nat → List (Oper × Nat)
  | [], _ => []
  | o :: rest, id => (o, id) :: withIds rest (nextId o id)

theorem evOps_rel (hS : SpecOK C spec) {ops : Array Oper} : ∀ {l : List Oper} {id : Nat} {env : List AV} {L : Heap} {k : List AV → Heap → Option Ω} {r : Ω}, evOps C spec ops l id env L k = some r →
    ∃ env' L', RunRel C ops (withIds l id) env L env' L' ∧ k env' L' = some r
  | [], id, env, L, k, r, h => ⟨env, L, ⟨rfl, rfl⟩, h⟩
  | o :: rest, id, env, L, k, r, h => by
    simp only [evOps] at h
    have go : ∀ env0, evOp C spec o id env0 L (fun env' L' => evOps C spec ops rest (nextId o id) env' L' k) = some r →
        ∃ env1 L1, OpRel C o id env0 L env1 L1 ∧ ∃ env' L', RunRel C ops (withIds rest (nextId o id)) env1 L1 env' L' ∧ k env' L' = some r := by
      intro env0 h
      obtain ⟨env1, L1, h1, h2⟩ := evOp_rel hS h
      exact ⟨env1, L1, h1, evOps_rel hS h2⟩
    split at h
    · rename_i hg
      obtain ⟨env1, L1, h1, env', L', h2, h3⟩ := go env h
      exact ⟨env', L', ⟨env1, L1, by unfold StepRel; rw [hg]; exact h1, h2⟩, h3⟩
    · rename_i j want hg
      cases hd : gTmp ops j with
      | none => rw [hd] at h; cases h
      | some d =>
        rw [hd] at h
        simp only at h
        split at h
        · rename_i b hb
          cases b with
          | true =>
            rw [set_getD hb (by simp)] at h
            simp only [cond_true] at h
            cases want with
            | true =>
              simp only [cond_true] at h
              obtain ⟨env1, L1, h1, env', L', h2, h3⟩ := go env h
              exact ⟨env', L', ⟨env1, L1, by unfold StepRel; rw [hg]; exact ⟨d, hd, .inl ⟨true, hb, by simpa using h1⟩⟩, h2⟩, h3⟩
            | false =>
              simp only [cond_false] at h
              obtain ⟨env', L', h2, h3⟩ := evOps_rel hS h
              exact ⟨env', L', ⟨_, _, by unfold StepRel; rw [hg]; exact ⟨d, hd, .inl ⟨true, hb, by simp⟩⟩, h2⟩, h3⟩
          | false =>
            rw [set_getD hb (by simp)] at h
            simp only [cond_false] at h
            cases want with
            | true =>
              simp only [cond_true] at h
              obtain ⟨env', L', h2, h3⟩ := evOps_rel hS h
              exact ⟨env', L', ⟨_, _, by unfold StepRel; rw [hg]; exact ⟨d, hd, .inl ⟨false, hb, by simp⟩⟩, h2⟩, h3⟩
            | false =>
              simp only [cond_false] at h
              obtain ⟨env1, L1, h1, env', L', h2, h3⟩ := go env h
              exact ⟨env', L', ⟨env1, L1, by unfold StepRel; rw [hg]; exact ⟨d, hd, .inl ⟨false, hb, by simpa using h1⟩⟩, h2⟩, h3⟩
        · rename_i c hb
          obtain ⟨env', L', h2, h3⟩ := evOps_rel hS h
          exact ⟨env', L', ⟨_, _, by unfold StepRel; rw [hg]; exact ⟨d, hd, .inr ⟨⟨c, hb⟩, rfl, rfl⟩⟩, h2⟩, h3⟩
        · cases h

theorem RepE.go {m m' : Nat → Value} {L L' : Heap} {w w' : World} {S S' : Nat → Nat → Prop} {env : List AV} {tmps : Array Value} {X : Nat → Bool} (h : RepE m L w S env tmps) (hg : Goes B X m L w S m' L' w' S') : RepE m' L' w' S' (env.map (scrubA X)) tmps := by
  refine ⟨by simp [h.size], fun t => ?_⟩
  have h0 := h.at_ t
  rw [List.getD_eq_getElem?_getD] at h0 ⊢
  cases hd : env[t]? with
  | none => rw [List.getElem?_map, hd]; simp only [Option.map_none, Option.getD_none, RepA]
  | some a =>
    rw [hd] at h0
    rw [List.getElem?_map, hd]
    simp only [Option.map_some, Option.getD_some] at h0 ⊢
    unfold scrubA
    split
    · rename_i hx; exact RepA.go hg.safe hg.ext hx h0
    · simp only [RepA]

theorem RepE.go0 {m m' : Nat → Value} {L L' : Heap} {w w' : World} {S S' : Nat → Nat → Prop} {env : List AV} {tmps : Array Value} {X : Nat → Bool} (hX : ∀ i, X i = false) (h : RepE m L w S env tmps) (hg : Goes B X m L w S m' L' w' S') : RepE m' L' w' S' env tmps :=
  ⟨h.size, fun t => goes_noX hX hg (h.at_ t)⟩

theorem RepE.putO {m : Nat → Value} {L : Heap} {w : World} {S : Nat → Nat → Prop} {env : List AV} {a : Act} (h : RepE m L w S env a.tmps) {av : AV} {u : Value} (hu : RepA m L w S av u) (dst : Option Tmp) : RepE m L w S (envPut env dst av) (a.put dst u).tmps := by
  cases dst with
  | none => exact h
  | some d => exact h.put hu d

theorem put_defers (a : Act) (dst : Option Tmp) (u : Value) : (a.put dst u).defers = a.defers := by cases dst <;> rfl

/-- From an operation's coming-to to its state behind. -/
theorem St.after {m : Nat → Value} {S : Nat → Nat → Prop} {L : Heap} {a : Act} {w : World} (hG : GlobOK C B w S) (hb : Below B w0 w) (hs : Safe S0 S w0 w) (hn : ∀ b o, S b o → S0 b o ∨ B ≤ b) (hx : Ext C.Y ms Ls m L) (hd : a.defers = [])
    {X : Nat → Bool} (hX : ∀ i, X i = true → C.Y i = true) {m' : Nat → Value} {L' : Heap} {w' : World} {S' : Nat → Nat → Prop} (hg : Goes B X m L w S m' L' w' S') {env1 : List AV} (he : RepE m' L' w' S' env1 a.tmps) {av : AV} {u : Value} (hu : RepA m' L' w' S' av u) (dst : Option Tmp) :
    St C B w0 S0 ms Ls (envPut env1 dst av) L' (a.put dst u) w' :=
  ⟨m', S', hg.inv, he.putO hu dst, hG.go hg.safe hg.below, hb.trans hg.below, hs.trans hg.safe, fun b o h => (hg.new b o h).elim (hn b o) .inr, hx.trans (hg.ext.mono hX), by rw [put_defers]; exact hd⟩

theorem rowsOf_none {ρ : Operand → AV} {op : Op} (h : isAppend op = false) (i : Nat) : rowsOf ρ op i = false := by
  have : rowsOf ρ op = fun _ => false := by
    unfold rowsOf
    split
    · simp [isAppend] at h
    · rfl
  rw [this]

theorem opDoes_inl {m : Nat → Value} {S : Nat → Nat → Prop} {L L' : Heap} {w : World} (hI : Inv B m L w S) (hG : GlobOK C B w S) {ρ : Operand → AV} {a : Act} (h : ∀ x, RepA m L w S (ρ x) (a.eval x)) {o : Oper} {g : FuncId} {as : List AV} {av : AV} (hc : rawA ρ o.op = some (g, as)) (hk : CallDoes C g as L av L') :
    OpDoes C B (fun _ => false) m L w S a o av L' := by
  unfold rawA at hc
  split at hc
  · rename_i f args ts ho
    split at hc
    · rename_i g' caps hf
      simp only [Option.some.injEq, Prod.mk.injEq] at hc
      obtain ⟨rfl, rfl⟩ := hc
      have hfv := fnOf_rep (h f)
      rw [hf] at hfv
      simp only [RepA] at hfv
      obtain ⟨vs, hev, hcaps⟩ := hfv
      have hall : RepAs m L w S (args.toList.map ρ ++ caps) (args.toList.map a.eval ++ vs) := repAs_append (repAs_map h _) hcaps
      have hcalls := hk.runs B m w S _ hI hG hall
      intro next Q hn
      unfold Oper.wp execOp
      rw [ho]
      have harr : (args.map a.eval ++ vs.toArray) = (args.toList.map a.eval ++ vs).toArray := by
        apply Array.ext'; simp
      simp only [resolve, Deferred.ofValue, hev, Sem.run_bind, Sem.run_pure, Result.andThen_ok, invoke, Array.empty_append, harr, hk.enters, Oper.upon]
      refine hcalls.mono ?_
      rintro e w' ⟨u, m', S', rfl, hg, hrep⟩
      exact hn u m' w' S' hg hrep
    · rename_i g' first hf
      simp only [Option.some.injEq, Prod.mk.injEq] at hc
      obtain ⟨rfl, rfl⟩ := hc
      have hfv := fnOf_rep (h f)
      rw [hf] at hfv
      simp only [RepA] at hfv
      obtain ⟨vs, hev, hcaps⟩ := hfv
      have hall : RepAs m L w S (first ++ args.toList.map ρ) (vs ++ args.toList.map a.eval) := repAs_append hcaps (repAs_map h _)
      have hcalls := hk.runs B m w S _ hI hG hall
      intro next Q hn
      unfold Oper.wp execOp
      rw [ho]
      have harr : (vs.toArray ++ args.map a.eval) = (vs ++ args.toList.map a.eval).toArray := by
        apply Array.ext'; simp
      simp only [resolve, Deferred.ofValue, hev, Sem.run_bind, Sem.run_pure, Result.andThen_ok, invoke, Array.append_empty, harr, hk.enters, Oper.upon]
      refine hcalls.mono ?_
      rintro e w' ⟨u, m', S', rfl, hg, hrep⟩
      exact hn u m' w' S' hg hrep
    · cases hc
  · cases hc

theorem op_step (hC : C.OK) {o : Oper} {id : Nat} {env env' : List AV} {L L' : Heap} {a : Act} {w : World} (hid : wantsId o.op = true → L[id]? = some .resv) (h : OpRel C o id env L env' L') (hst : St C B w0 S0 ms Ls env L a w)
    {next : Act → World → Prop} {Q : Exit → Act → World → Prop} (hn : ∀ a' w', St C B w0 S0 ms Ls env' L' a' w' → next a' w') : o.wp C.P a w next Q := by
  obtain ⟨m, S, hI, hE, hG, hb, hs, hnew, hx, hd⟩ := hst
  have hev : ∀ x, RepA m L w S (evA C env x) (a.eval x) := fun x => hE.eval hG x
  rcases h with ⟨_, g, bs, L1, av, h1, h2, rfl, rfl⟩ | ⟨_, _, hap, av, h1, rfl⟩ | ⟨_, _, av, h1, rfl, rfl⟩ | ⟨_, g, as, av, h1, h2, rfl⟩
  · refine opDoes_call hI hG hev h1 h2 next Q (fun u m' w' S' hg hr => hn _ _ ?_)
    exact St.after hG hb hs hnew hx hd (fun _ h => by cases h) hg (hE.go0 (fun _ => rfl) hg) hr o.dst
  · refine opDoes_act hC hI (fun _ => rfl) hev hid h1 next Q (fun u m' w' S' hg hr => hn _ _ ?_)
    refine St.after hG hb hs hnew hx hd (fun i hi => appOK_rows hap hi) hg ?_ hr o.dst
    cases happ : isAppend o.op with
    | true => exact hE.go hg
    | false =>
      exact hE.go0 (fun i => rowsOf_none happ i) hg
  · refine opDoes_rop hC hI hev h1 (fun _ => false) next Q (fun u m' w' S' hg hr => hn _ _ ?_)
    exact St.after hG hb hs hnew hx hd (fun _ h => by cases h) hg (hE.go0 (fun _ => rfl) hg) hr o.dst
  · refine opDoes_inl hI hG hev h1 h2 next Q (fun u m' w' S' hg hr => hn _ _ ?_)
    exact St.after hG hb hs hnew hx hd (fun _ h => by cases h) hg (hE.go0 (fun _ => rfl) hg) hr o.dst

theorem yielded_of {ops : Array Oper} {env : List AV} {L : Heap} {a : Act} {w : World} {m : Nat → Value} {S : Nat → Nat → Prop} (hE : RepE m L w S env a.tmps) {j d : Nat} {b : Bool} (hd : gTmp ops j = some d) (hb : env.getD d .dead = .v .bool b) : yielded ops a.tmps j = some b := by
  have h := hE.at_ d
  rw [hb, rep_bool] at h
  unfold yielded
  unfold gTmp at hd
  rw [hd]
  simp only [Option.bind_some]
  have hlt : d < a.tmps.size := by
    rw [← hE.size]
    rcases Nat.lt_or_ge d env.length with h | h
    · exact h
    · rw [List.getD_eq_getElem?_getD, List.getElem?_eq_none h] at hb; cases hb
  have : a.tmps[d]? = some (.bool b) := by
    rw [Array.getD_eq_getD_getElem?, Array.getElem?_eq_getElem hlt] at h
    rw [Array.getElem?_eq_getElem hlt]
    simpa using h
  rw [this]

theorem yielded_und {ops : Array Oper} {env : List AV} {L : Heap} {a : Act} {w : World} {m : Nat → Value} {S : Nat → Nat → Prop} (hE : RepE m L w S env a.tmps) {j d : Nat} {c : Array Value} (hd : gTmp ops j = some d) (hb : env.getD d .dead = .cst (.tuple c)) : yielded ops a.tmps j = none := by
  have h := hE.at_ d
  rw [hb] at h
  simp only [RepA] at h
  unfold yielded
  unfold gTmp at hd
  rw [hd]
  simp only [Option.bind_some]
  rw [Array.getD_eq_getD_getElem?] at h
  cases ht : a.tmps[d]? with
  | none => rfl
  | some x =>
    rw [ht] at h
    simp only [Option.getD_some] at h
    subst h
    rfl

/-- One operation with its guard, as the model walks it. -/
theorem step_wp (hC : C.OK) {ops : Array Oper} {o : Oper} {id : Nat} {env env' : List AV} {L L' : Heap} {a : Act} {w : World} (hid : wantsId o.op = true → L[id]? = some .resv) (h : StepRel C ops o id env L env' L') (hst : St C B w0 S0 ms Ls env L a w)
    {next : Act → World → Prop} {Q : Exit → Act → World → Prop} (hn : ∀ a' w', St C B w0 S0 ms Ls env' L' a' w' → next a' w') :
    if Region.wanted o (yielded ops a.tmps) then o.wp C.P a w next Q else next (a.put o.dst undef) w := by
  unfold StepRel at h
  cases hg : o.guard with
  | none =>
    rw [hg] at h
    simp only [Region.wanted, hg, if_true]
    exact op_step hC hid h hst hn
  | some gd =>
    obtain ⟨j, want⟩ := gd
    rw [hg] at h
    have hst' := hst
    obtain ⟨m, S, hI, hE, hG, hb, hs, hnew, hx, hd⟩ := hst'
    obtain ⟨d, h1, ⟨b, h2, h3⟩ | ⟨⟨c, h2⟩, rfl, rfl⟩⟩ := h
    rotate_left
    · have hy := yielded_und (ops := ops) hE h1 h2
      simp only [Region.wanted, hg, hy]
      rw [if_neg (by simp)]
      exact hn _ _ ⟨m, S, hI, hE.putO (by simp only [und, RepA]) o.dst, hG, hb, hs, hnew, hx, by rw [put_defers]; exact hd⟩
    have hy := yielded_of (ops := ops) hE h1 h2
    simp only [Region.wanted, hg, hy]
    by_cases hbw : b = want
    · rw [if_pos hbw] at h3
      rw [if_pos (by simp [hbw])]
      exact op_step hC hid h3 hst hn
    · rw [if_neg hbw] at h3
      obtain ⟨rfl, rfl⟩ := h3
      rw [if_neg (by simp [hbw])]
      exact hn _ _ ⟨m, S, hI, hE.putO (by simp only [und, RepA]) o.dst, hG, hb, hs, hnew, hx, by rw [put_defers]; exact hd⟩
end
end Go.Proofs.YtaednhofihnfkaaDoor.K

set_option maxHeartbeats 400000
set_option linter.unusedVariables false
set_option linter.unusedSimpArgs false
namespace Go.Proofs.YtaednhofihnfkaaDoor.K
open Go Go.RowKit

def cntIds : List Oper → Nat
  | [] => 0
  | o :: l => (bif wantsId o.op then 1 else 0) + cntIds l

section
variable {Ω : Type} {C : Cfg} {B : Nat} {w0 : World} {S0 : Nat → Nat → Prop} {ms : Nat → Value} {Ls : Heap} {spec : Spec}

theorem mark1_keeps {L : Heap} {i j : Nat} (h : L[j]? = some .resv) : (mark1 L i)[j]? = some .resv := by
  rcases mark1_get (id := i) h with h | h <;> exact h

theorem markIds_keeps : ∀ (l : List Nat) {L : Heap} {j : Nat}, L[j]? = some .resv → (markIds L l)[j]? = some .resv
  | [], L, j, h => h
  | i :: l, L, j, h => markIds_keeps l (mark1_keeps h)

theorem set_keeps {L : Heap} {i j : Nat} {s : Slot} (hij : j ≠ i) (h : L[j]? = some .resv) : (L.set i s)[j]? = some .resv := by
  rw [List.getElem?_set_ne (Ne.symm hij)]; exact h

theorem act_keeps {ρ : Operand → AV} {L L' : Heap} {id : Nat} {ty : TypeId} {op : Op} {c : Bool} {av : AV} (h : act C ρ L id ty op = some (c, av, L')) {j : Nat} (hj : j ≠ id) (hr : L[j]? = some .resv) : L'[j]? = some .resv := by
  unfold act at h
  split at h
  · unfold allocA at h
    split at h
    · simp only [Option.some.injEq, Prod.mk.injEq] at h
      obtain ⟨_, _, rfl⟩ := h
      exact set_keeps hj hr
    simp only [Option.map_eq_some_iff, Prod.mk.injEq] at h
    obtain ⟨τ, _, _, _, rfl⟩ := h
    exact set_keeps hj hr
  · unfold boxA boxA.mark1' at h
    simp only [Option.bind_eq_some_iff, Option.map_eq_some_iff, Prod.mk.injEq] at h
    obtain ⟨τ, _, x, _, _, _, rfl⟩ := h
    exact set_keeps hj (mark_resv hr)
  · unfold buildA at h
    simp only [Option.bind_eq_some_iff] at h
    obtain ⟨τ, _, h⟩ := h
    split at h
    · simp only [Option.map_eq_some_iff, Prod.mk.injEq] at h
      obtain ⟨x, _, _, _, rfl⟩ := h
      exact mark_resv hr
    · split at h
      · simp only [Option.map_eq_some_iff, Prod.mk.injEq] at h
        obtain ⟨x, _, _, _, rfl⟩ := h
        exact mark_resv hr
      · cases h
    · cases h
  · unfold buildSliceA at h
    simp only [Option.bind_eq_some_iff] at h
    obtain ⟨τ, _, te, _, h⟩ := h
    split at h
    · split at h
      · simp only [Option.map_eq_some_iff, Prod.mk.injEq] at h
        obtain ⟨x, _, _, _, rfl⟩ := h
        exact set_keeps hj (mark_resv hr)
      · cases h
    · cases h
  · unfold storeA at h
    simp only [Option.bind_eq_some_iff] at h
    obtain ⟨τ, _, y, _, h⟩ := h
    have hm := mark_resv (l := [ρ (by assumption)]) hr
    split at h
    · split at h
      · rename_i hL
        simp only [Option.map_eq_some_iff, Prod.mk.injEq] at h
        obtain ⟨x, _, _, _, rfl⟩ := h
        refine set_keeps (fun e => ?_) (mark_resv hr)
        subst e
        rw [mark_resv hr] at hL
        cases hL
      · cases h
    · split at h
      · rename_i hL
        simp only [Option.map_eq_some_iff, Prod.mk.injEq] at h
        obtain ⟨x, _, _, _, rfl⟩ := h
        refine set_keeps (fun e => ?_) (mark_resv hr)
        subst e
        rw [mark_resv hr] at hL
        cases hL
      · cases h
    · cases h
  · unfold nilRowA at h
    split at h
    · simp only [Option.some.injEq, Prod.mk.injEq] at h
      obtain ⟨_, _, rfl⟩ := h
      exact set_keeps hj hr
    · cases h
  · unfold nilRowA at h
    split at h
    · simp only [Option.some.injEq, Prod.mk.injEq] at h
      obtain ⟨_, _, rfl⟩ := h
      exact set_keeps hj hr
    · cases h
  · split at h
    · split at h
      · unfold appendA at h
        split at h
        · split at h
          · simp only [Option.bind_eq_some_iff] at h
            obtain ⟨ys, _, h⟩ := h
            split at h
            · split at h
              · rename_i hL
                split at h
                · simp only [Option.map_eq_some_iff, Prod.mk.injEq] at h
                  obtain ⟨x, _, _, _, rfl⟩ := h
                  refine set_keeps (fun e => ?_) hr
                  subst e
                  rw [hr] at hL
                  cases hL
                · cases h
              · cases h
            · simp only [Option.some.injEq, Prod.mk.injEq] at h
              obtain ⟨_, _, rfl⟩ := h
              exact set_keeps hj hr
            · cases h
          · cases h
        · cases h
      · cases h
    · cases h
  · rw [convB_L h]; exact hr
  · unfold makeA at h
    split at h
    · split at h
      · split at h
        · simp only [Option.some.injEq, Prod.mk.injEq] at h
          obtain ⟨_, _, rfl⟩ := h
          exact set_keeps hj hr
        · cases h
      · cases h
    · cases h
  · cases h

theorem callA_keeps {ρ : Operand → AV} {L L1 : Heap} {op : Op} {g : FuncId} {bs : List AV} (h : callA C ρ L op = some (g, bs, L1)) {j : Nat} (hr : L[j]? = some .resv) : L1[j]? = some .resv := by
  unfold callA at h
  split at h
  · split at h
    · simp only [Option.map_eq_some_iff, Prod.mk.injEq] at h
      obtain ⟨x, _, _, _, rfl⟩ := h
      exact markIds_keeps _ hr
    · cases h
  · cases h

theorem act_noId {ρ : Operand → AV} {L L' : Heap} {id : Nat} {ty : TypeId} {op : Op} {c : Bool} {av : AV} (h : act C ρ L id ty op = some (c, av, L')) (hw : wantsId op = false) {j : Nat} (hr : L[j]? = some .resv) : L'[j]? = some .resv := by
  by_cases hj : j = id
  · -- no place is taken
    have key : ∀ id2, act C ρ L id2 ty op = some (c, av, L') := by
      intro id2
      unfold act at h ⊢
      split at h <;> first | exact h | (simp [wantsId] at hw)
    exact act_keeps (key (j + 1)) (by omega) hr
  · exact act_keeps h hj hr

theorem OpRel.keeps {o : Oper} {id : Nat} {env env' : List AV} {L L' : Heap} (h : OpRel C o id env L env' L') {j : Nat} (hj : wantsId o.op = true → j ≠ id) (hr : L[j]? = some .resv) : L'[j]? = some .resv := by
  rcases h with ⟨_, g, bs, L1, av, h1, h2, _, rfl⟩ | ⟨_, _, _, av, h1, _⟩ | ⟨_, _, av, h1, _, rfl⟩ | ⟨_, g, as, av, h1, h2, _⟩
  · split
    · exact hr
    · exact callA_keeps h1 hr
  · cases hw : wantsId o.op with
    | true => exact act_keeps h1 (hj hw) hr
    | false => exact act_noId h1 hw hr
  · exact hr
  · exact h2.keeps j hr

theorem StepRel.keeps {ops : Array Oper} {o : Oper} {id : Nat} {env env' : List AV} {L L' : Heap} (h : StepRel C ops o id env L env' L') {j : Nat} (hj : wantsId o.op = true → j ≠ id) (hr : L[j]? = some .resv) : L'[j]? = some .resv := by
  unfold StepRel at h
  split at h
  · exact h.keeps hj hr
  · obtain ⟨d, _, ⟨b, _, h⟩ | ⟨_, _, h⟩⟩ := h
    · split at h
      · exact h.keeps hj hr
      · rw [h.2]; exact hr
    · rw [h]; exact hr

/-- The walk in the text's order. -/
theorem run_wpList (hC : C.OK) {ops : Array Oper} {env' : List AV} {L' : Heap} {Q : Exit → Act → World → Prop} (hQ : ∀ a' w', St C B w0 S0 ms Ls env' L' a' w' → Q .normal a' w') : ∀ (l : List Oper) (id : Nat) {env : List AV} {L : Heap} {a : Act} {w : World},
    RunRel C ops (withIds l id) env L env' L' → (∀ i, i < cntIds l → L[id + i]? = some .resv) → St C B w0 S0 ms Ls env L a w → wpList C.P ops Q l a w
  | [], id, env, L, a, w, h, hr, hst => by
    simp only [withIds, RunRel] at h
    obtain ⟨rfl, rfl⟩ := h
    exact hQ a w hst
  | o :: l, id, env, L, a, w, h, hr, hst => by
    simp only [withIds, RunRel] at h
    obtain ⟨env1, L1, h1, h2⟩ := h
    refine wpList_step fun K hK => ?_
    refine step_wp hC (fun hw => ?_) h1 hst (fun a' w' hst' => hK a' w' (run_wpList hC hQ l (nextId o id) h2 (fun i hi => ?_) hst'))
    · have := hr 0 (by simp only [cntIds, hw, cond_true]; omega)
      simpa using this
    · cases hw : wantsId o.op with
      | true =>
        simp only [nextId, hw, cond_true]
        refine h1.keeps (fun _ => by omega) ?_
        have := hr (1 + i) (by simp only [cntIds, hw, cond_true]; omega)
        rw [← Nat.add_assoc] at this
        exact this
      | false =>
        simp only [nextId, hw, cond_false]
        refine h1.keeps (fun h => by rw [hw] at h; cases h) (hr i (by simp only [cntIds, hw, cond_false]; omega))

theorem getElem?_resv {L : Heap} {n i : Nat} {s : Slot} (h : (L ++ List.replicate n .resv)[i]? = some s) (hs : s ≠ .resv) : L[i]? = some s := by
  rcases Nat.lt_or_ge i L.length with hlt | hge
  · rwa [List.getElem?_append_left hlt] at h
  · rw [List.getElem?_append_right hge, List.getElem?_replicate] at h
    split at h
    · cases h; exact absurd rfl hs
    · cases h

/-- More places reserved. -/
theorem St.more {env : List AV} {L : Heap} {a : Act} {w : World} (h : St C B w0 S0 ms Ls env L a w) (n : Nat) : St C B w0 S0 ms Ls env (L ++ List.replicate n .resv) a w := by
  obtain ⟨m, S, hI, hE, hG, hb, hs, hnew, hx, hd⟩ := h
  have hg : Goes B (fun _ => false) m L w S m (L ++ List.replicate n .resv) w S := by
    refine ⟨⟨hI.base, fun id T x ro h => hI.box id T x ro (getElem?_resv h (by simp)), fun id t e xs ro h => hI.row id t e xs ro (getElem?_resv h (by simp)), fun id o h => hI.obj id o (getElem?_resv h (by simp)), ?_, ?_⟩, Safe.refl _ _, Below.refl _ _, ⟨?_⟩, fun _ _ h => .inl h⟩
    · intro i j s r hne h1 h2 l1 l2
      exact hI.apart i j s r hne (getElem?_resv h1 (by rintro rfl; simp [Slot.live] at l1)) (getElem?_resv h2 (by rintro rfl; simp [Slot.live] at l2)) l1 l2
    · intro b o h
      obtain ⟨p1, p2⟩ := hI.prot b o h
      exact ⟨p1, fun i s hs hl hb => p2 i s (getElem?_resv hs (by rintro rfl; simp [Slot.live] at hl)) hl hb⟩
    · intro id s hs hr
      have hlt : id < L.length := by
        rcases Nat.lt_or_ge id L.length with h | h
        · exact h
        · rw [List.getElem?_eq_none h] at hs; cases hs
      exact ⟨s, by rw [List.getElem?_append_left hlt]; exact hs, hr, fun T x ro h => ⟨rfl, x, ro, h⟩, fun o h => ⟨fun u sv h => ⟨sv, h⟩, o, h⟩, fun t e xs ro _ h => ⟨rfl, xs, ro, h, Nat.le_refl _⟩⟩
  exact ⟨m, S, hg.inv, hE.go0 (fun _ => rfl) hg, hG, hb, hs, hnew, hx.trans (hg.ext.mono fun _ h => by cases h), hd⟩

theorem St.drew {env : List AV} {L : Heap} {a : Act} {w : World} (h : St C B w0 S0 ms Ls env L a w) : St C B w0 S0 ms Ls env L a { w with drawn := w.drawn + 1 } := by
  obtain ⟨m, S, hI, hE, hG, hb, hs, hnew, hx, hd⟩ := h
  have hg : Grows w { w with drawn := w.drawn + 1 } := ⟨rfl, rfl, rfl, Nat.le_refl _, fun _ _ => rfl⟩
  have g := Goes.grows hI hg (fun _ => false)
  exact ⟨m, S, g.inv, hE.go0 (fun _ => rfl) g, hG.go g.safe g.below, hb.trans g.below, hs.trans g.safe, hnew, hx.trans (g.ext.mono fun _ h => by cases h), hd⟩
end
end Go.Proofs.YtaednhofihnfkaaDoor.K

set_option maxHeartbeats 400000
set_option linter.unusedVariables false
set_option linter.unusedSimpArgs false
namespace Go.Proofs.YtaednhofihnfkaaDoor.K
open Go Go.RowKit

def noOwn (a : AV) : Bool := (ownOf a).isEmpty

/-- Operations whose answer hangs on no content of the call's own blocks. -/
def shapeOnly : Op → Bool
  | .load _ _ => false
  | .call _ => false
  | .alloc _ => false
  | .box _ _ => false
  | .build _ _ => false
  | .buildSlice _ _ _ => false
  | .makeSlice _ _ _ => false
  | .store _ _ _ => false
  | .move (.const (.slice none 0 0)) => false
  | .assign (.const (.slice none 0 0)) => false
  | .slice _ _ _ _ _ => true
  | _ => true

def isStore : Op → Bool
  | .store _ _ _ => true
  | _ => false

def actOK (ρ : Operand → AV) : Op → Bool
  | .alloc _ => true
  | .box _ x => noOwn (ρ x)
  | .build _ parts => parts.toList.all fun (_, x) => noOwn (ρ x)
  | .buildSlice _ _ parts => parts.toList.all fun (_, x) => noOwn (ρ x)
  | .store _ _ x => noOwn (ρ x)
  | .move (.const (.slice none 0 0)) => true
  | .assign (.const (.slice none 0 0)) => true
  | .convert _ _ x => match ρ x with | .v _ _ => true | _ => false
  | _ => false

def callOwnless (ρ : Operand → AV) : Op → Bool
  | .call ⟨.value f, args, _⟩ => (args.toList.all fun x => noOwn (ρ x)) && (match fnOf (ρ f) with | .fn _ caps => caps.all noOwn | _ => false)
  | _ => false

def noIds (a : AV) : Bool := a.ids fun _ _ => false

def evOpD {Ω : Type} (C : Cfg) (spec : Spec) (o : Oper) (id : Nat) (env : List AV) (L : Heap) (k : List AV → Heap → Option Ω) : Option Ω :=
  bif isCall o.op then
    match callA C (evA C env) L o.op with
    | some (g, bs, L1) => spec.con g bs fun av => bif (av.flat || callOwnless (evA C env) o.op) && noIds av then k (envPut env o.dst av) L else none
    | none => none
  else bif isAct o.op then
    bif actOK (evA C env) o.op then
      match act C (evA C env) L id o.type o.op with
      | some (c, av, L') => bif c then k (envPut env o.dst av) L' else none
      | none => none
    else none
  else
    match rop C (evA C env) L o.op with
    | some (c, av) => bif c then k (envPut env o.dst av) L else none
    | none => none

def OpRelD (C : Cfg) (o : Oper) (id : Nat) (env : List AV) (L : Heap) (env' : List AV) (L' : Heap) : Prop :=
  (isCall o.op = true ∧ ∃ g bs L1 av, callA C (evA C env) L o.op = some (g, bs, L1) ∧ Contract C g bs av ∧ (av.flat = true ∨ callOwnless (evA C env) o.op = true) ∧ noIds av = true ∧ env' = envPut env o.dst av ∧ L' = L) ∨
  (isCall o.op = false ∧ isAct o.op = true ∧ actOK (evA C env) o.op = true ∧ ∃ av, act C (evA C env) L id o.type o.op = some (true, av, L') ∧ env' = envPut env o.dst av) ∨
  (isCall o.op = false ∧ isAct o.op = false ∧ ∃ av, rop C (evA C env) L o.op = some (true, av) ∧ env' = envPut env o.dst av ∧ L' = L)

section
variable {Ω : Type} {C : Cfg} {B : Nat} {w0 : World} {S0 : Nat → Nat → Prop} {spec : Spec}

theorem noOwn_mark {a : AV} (h : noOwn a = true) : markA a = none := by
  cases a <;> simp [noOwn, ownOf] at h <;> rfl

theorem flatMap_noOwn {l : List AV} (h : l.all noOwn = true) : l.flatMap ownOf = [] := by
  induction l with
  | nil => rfl
  | cons a l ih =>
    simp only [List.all_cons, Bool.and_eq_true] at h
    have : ownOf a = [] := by simpa [noOwn] using h.1
    rw [List.flatMap_cons, this, ih h.2]; rfl

theorem callOwnless_L {ρ : Operand → AV} {L L1 : Heap} {op : Op} {g : FuncId} {bs : List AV} (h : callA C ρ L op = some (g, bs, L1)) (hc : callOwnless ρ op = true) : L1 = L := by
  unfold callA at h
  unfold callOwnless at hc
  split at h
  · simp only [Bool.and_eq_true] at hc
    split at h
    · rename_i hf
      rw [hf] at hc
      simp only at hc
      simp only [Option.map_eq_some_iff, Prod.mk.injEq] at h
      obtain ⟨x, _, _, _, rfl⟩ := h
      rw [flatMap_noOwn]
      · rfl
      · rw [List.all_append, Bool.and_eq_true]
        refine ⟨?_, hc.2⟩
        rw [List.all_map]; exact hc.1
    · cases h
  · cases h

theorem actOK_notAppend {ρ : Operand → AV} {op : Op} (h : actOK ρ op = true) : isAppend op = false := by
  unfold actOK at h
  split at h <;> first | rfl | (cases h)

theorem appOK_not {ρ : Operand → AV} {op : Op} (h : isAppend op = false) : appOK C ρ op = true := by
  unfold appOK
  split
  · simp [isAppend] at h
  · rfl

theorem OpRelD.rel {o : Oper} {id : Nat} {env env' : List AV} {L L' : Heap} (h : OpRelD C o id env L env' L') : OpRel C o id env L env' L' := by
  rcases h with ⟨hc, g, bs, L1, av, h1, h2, h3, _, rfl, rfl⟩ | ⟨hc, ha, hok, av, h1, rfl⟩ | h
  · refine .inl ⟨hc, g, bs, L1, av, h1, h2, rfl, ?_⟩
    rcases h3 with h3 | h3
    · rw [h3]; rfl
    · rw [callOwnless_L h1 h3]; simp
  · refine .inr (.inl ⟨hc, ha, appOK_not (actOK_notAppend hok), av, h1, ?_⟩)
    rw [actOK_notAppend hok]; rfl
  · exact .inr (.inr (.inl h))

/-! ### What an operation's answer hangs on -/
def open1 (L : Heap) : Bool → Nat → Bool := fun _ id => match L[id]? with | some .resv => false | none => false | _ => true

/-- The blocks read alike at the places that an abstract value leads to. -/
theorem ids_get {L : Heap} {j : Nat} {s : Slot} (hj : L[j]? = some .resv) {id : Nat} {b : Bool} (h : open1 L b id = true) : (L.set j s)[id]? = L[id]? := by
  have : id ≠ j := by
    rintro rfl
    unfold open1 at h
    rw [hj] at h
    cases h
  rw [List.getElem?_set_ne (Ne.symm this)]

theorem rop_resv {ρ : Operand → AV} {L : Heap} {j : Nat} {s : Slot} (hj : L[j]? = some .resv) {op : Op} (h : ∀ x ∈ op.operands, (ρ x).ids (open1 L) = true) : rop C ρ (L.set j s) op = rop C ρ L op := by
  have get1 : ∀ {a : AV} {id : Nat} {p : List PStep}, a.ids (open1 L) = true → a = .ref id p → (L.set j s)[id]? = L[id]? := by
    rintro a id p h rfl; simp only [AV.ids] at h; exact ids_get hj h
  have get2 : ∀ {a : AV} {id i : Nat} {p : List PStep}, a.ids (open1 L) = true → a = .rref id i p → (L.set j s)[id]? = L[id]? := by
    rintro a id i p h rfl; simp only [AV.ids] at h; exact ids_get hj h
  have get3 : ∀ {a : AV} {id lo n : Nat} {p : List PStep}, a.ids (open1 L) = true → a = .ls id p lo n → (L.set j s)[id]? = L[id]? := by
    rintro a id lo n p h rfl; simp only [AV.ids] at h; exact ids_get hj h
  have get4 : ∀ {a : AV} {id : Nat}, a.ids (open1 L) = true → a = .rs id → (L.set j s)[id]? = L[id]? := by
    rintro a id h rfl; simp only [AV.ids] at h; exact ids_get hj h
  have get5 : ∀ {a : AV} {id lo n : Nat}, a.ids (open1 L) = true → a = .lr id lo n → (L.set j s)[id]? = L[id]? := by
    rintro a id lo n h rfl; simp only [AV.ids] at h; exact ids_get hj h
  unfold rop
  split
  case h_10 =>
    rename_i t x f
    have hx := h x (by simp [Op.operands])
    unfold fieldAddrA
    split <;> first | rfl | (rw [get1 hx (by assumption)]) | (rw [get2 hx (by assumption)])
  case h_11 =>
    rename_i t x i
    have hx := h x (by simp [Op.operands])
    unfold indexAddrA
    split <;> first | rfl | (rw [get1 hx (by assumption)]) | (rw [get2 hx (by assumption)]) | (rw [get3 hx (by assumption)]) | (rw [get4 hx (by assumption)]) | (rw [get5 hx (by assumption)])
  case h_12 =>
    rename_i t x
    have hx := h x (by simp [Op.operands])
    unfold loadA
    split <;> first | rfl | (rw [get1 hx (by assumption)]) | (rw [get2 hx (by assumption)])
  case h_13 =>
    rename_i t x lo hi
    have hx := h x (by simp [Op.operands])
    unfold sliceA
    congr 1; funext l; congr 1; funext q
    split <;> first | rfl | (rw [get1 hx (by assumption)]) | (rw [get3 hx (by assumption)]) | (rw [get4 hx (by assumption)]) | (rw [get5 hx (by assumption)])
  case h_14 =>
    rename_i x
    have hx := h x (by simp [Op.operands])
    unfold nilA
    split <;> first | rfl | (rw [get1 hx (by assumption)]) | (rw [get2 hx (by assumption)])
  case h_16 =>
    rename_i b args ts
    unfold builtinA
    split
    · split
      · rename_i t ts' a as' e1 e2
        have ha : a.ids (open1 L) = true := by
          cases hargs : args.toList with
          | nil => rw [hargs] at e2; cases e2
          | cons y ys =>
            rw [hargs] at e2
            simp only [List.map_cons, List.cons.injEq] at e2
            rw [← e2.1]
            exact h y (by simp only [Op.operands, Call.operands]; rw [Array.mem_append]; right; rw [← Array.mem_toList_iff, hargs]; simp)
        unfold lenA
        split <;> first | rfl | (split <;> first | rfl | (rw [get3 ha rfl]) | (rw [get4 ha rfl]) | (rw [get5 ha rfl]))
      · rfl
    · rfl
    · rfl
    · rfl
  all_goals rfl
end
end Go.Proofs.YtaednhofihnfkaaDoor.K

set_option maxHeartbeats 400000
set_option linter.unusedVariables false
set_option linter.unusedSimpArgs false
namespace Go.Proofs.YtaednhofihnfkaaDoor.K
open Go Go.RowKit

section
variable {Ω : Type} {C : Cfg} {B : Nat} {w0 : World} {S0 : Nat → Nat → Prop} {spec : Spec}

mutual
theorem ids_mono {f g : Bool → Nat → Bool} (h : ∀ b i, f b i = true → g b i = true) : ∀ {a : AV}, a.ids f = true → a.ids g = true
  | .v .., _ | .cst _, _ | .vp .., _ | .dead, _ => by simp only [AV.ids]
  | .ref .., k | .ls .., k | .rref .., k | .rs _, k | .lr .., k => by simp only [AV.ids] at k ⊢; exact h _ _ k
  | .fn _ l, k => by simp only [AV.ids] at k ⊢; exact idsL_mono h k
  | .bm _ l, k => by simp only [AV.ids] at k ⊢; exact idsL_mono h k
  | .tup l, k => by simp only [AV.ids] at k ⊢; exact idsL_mono h k
theorem idsL_mono {f g : Bool → Nat → Bool} (h : ∀ b i, f b i = true → g b i = true) : ∀ {l : List AV}, AV.idsL f l = true → AV.idsL g l = true
  | [], _ => by simp only [AV.idsL]
  | a :: l, k => by
    simp only [AV.idsL, Bool.and_eq_true] at k ⊢
    exact ⟨ids_mono h k.1, idsL_mono h k.2⟩
end

theorem idsL_get {f : Bool → Nat → Bool} : ∀ {l : List AV}, AV.idsL f l = true → ∀ (i : Nat) (a : AV), l[i]? = some a → a.ids f = true
  | [], _, i, a, h => by simp at h
  | b :: l, k, 0, a, h => by simp only [AV.idsL, Bool.and_eq_true] at k; simp at h; subst h; exact k.1
  | b :: l, k, i + 1, a, h => by simp only [AV.idsL, Bool.and_eq_true] at k; exact idsL_get k.2 i a (by simpa using h)

theorem idsL_map {f : Bool → Nat → Bool} {ρ : Operand → AV} : ∀ {l : List Operand}, (∀ x ∈ l, (ρ x).ids f = true) → AV.idsL f (l.map ρ) = true
  | [], _ => by simp only [List.map_nil, AV.idsL]
  | x :: l, h => by
    simp only [List.map_cons, AV.idsL, Bool.and_eq_true]
    exact ⟨h x (by simp), idsL_map fun y hy => h y (List.mem_cons_of_mem _ hy)⟩

/-- What an operation that reads gives leads nowhere but where its operands do. -/
theorem rop_ids {f : Bool → Nat → Bool} {ρ : Operand → AV} {L : Heap} {op : Op} {c : Bool} {av : AV} (h : ∀ x ∈ op.operands, (ρ x).ids f = true) (hr : rop C ρ L op = some (c, av)) (hf : ∀ i, f false i = true ↔ f true i = true) : av.ids f = true := by
  have vv : ∀ (τ : ETy) (x : τ.I), (AV.v τ x).ids f = true := fun _ _ => by simp only [AV.ids]
  have bf : ∀ (cb : Bool) {x y : AV}, x.ids f = true → y.ids f = true → (bif cb then x else y).ids f = true := by intro cb x y hx hy; cases cb <;> assumption
  unfold rop at hr
  split at hr
  · cases hr; exact h _ (by simp [Op.operands])
  · cases hr; exact h _ (by simp [Op.operands])
  · rename_i cc a b
    split at hr
    · cases hr
      have ha := h a (by simp [Op.operands])
      have hb := h b (by simp [Op.operands])
      unfold pickA
      split
      · exact vv _ _
      · split
        · exact vv _ _
        · exact bf _ (vv _ _) (vv _ _)
      · exact vv _ _
      · exact bf _ ha hb
    · cases hr
  · unfold binA at hr
    split at hr
    · split at hr
      · cases hr; exact vv _ _
      · cases hr; exact vv _ _
      · split at hr
        · unfold intOp at hr; split at hr <;> cases hr <;> exact vv _ _
        · cases hr
    · unfold eqOp at hr; split at hr
      · split at hr <;> cases hr <;> exact vv _ _
      · cases hr
    · unfold strOp at hr; split at hr <;> cases hr <;> exact vv _ _
    · simp only [Option.bind_eq_some_iff] at hr
      obtain ⟨_, _, hr⟩ := hr
      unfold eqOp at hr; split at hr
      · split at hr <;> cases hr <;> exact vv _ _
      · cases hr
    · simp only [Option.bind_eq_some_iff] at hr
      obtain ⟨_, _, hr⟩ := hr
      unfold eqOp at hr; split at hr
      · split at hr <;> cases hr <;> exact vv _ _
      · cases hr
    · cases hr
  · unfold unA at hr; split at hr
    · split at hr <;> cases hr <;> exact vv _ _
    · split at hr <;> cases hr <;> exact vv _ _
    · cases hr
  · unfold convA at hr; split at hr
    · split at hr <;> cases hr <;> exact vv _ _
    · split at hr <;> cases hr <;> exact vv _ _
    · cases hr
  · rename_i t i
    have ht := h t (by simp [Op.operands])
    unfold extractA at hr
    split at hr
    · rename_i l hl
      rw [hl] at ht
      simp only [AV.ids] at ht
      simp only [Option.map_eq_some_iff, Prod.mk.injEq] at hr
      obtain ⟨a, ha, _, rfl⟩ := hr
      exact idsL_get ht i a ha
    · cases hr
  · unfold fieldA at hr; split at hr
    · split at hr
      · simp only [Option.map_eq_some_iff, Prod.mk.injEq] at hr
        obtain ⟨a, ha, _, rfl⟩ := hr
        exact vv _ _
      · cases hr
    · cases hr
  · unfold indexA at hr; split at hr
    · split at hr <;> cases hr; exact vv _ _
    · split at hr <;> cases hr; exact vv _ _
    · cases hr
  · rename_i t x fd
    have hx := h x (by simp [Op.operands])
    unfold fieldAddrA at hr
    split at hr
    · simp only [Option.bind_eq_some_iff] at hr
      obtain ⟨_, _, hr⟩ := hr
      split at hr
      · simp only [Option.bind_eq_some_iff] at hr
        obtain ⟨_, _, hr⟩ := hr
        split at hr <;> cases hr; simp only [AV.ids]
      · cases hr
    · rename_i hp
      rw [hp] at hx
      split at hr
      · simp only [Option.bind_eq_some_iff] at hr
        obtain ⟨_, _, hr⟩ := hr
        split at hr
        · simp only [Option.bind_eq_some_iff] at hr
          obtain ⟨_, _, hr⟩ := hr
          split at hr <;> cases hr; simp only [AV.ids] at hx ⊢; exact hx
        · cases hr
      · cases hr
    · rename_i hp
      rw [hp] at hx
      split at hr
      · simp only [Option.bind_eq_some_iff] at hr
        obtain ⟨_, _, hr⟩ := hr
        split at hr
        · simp only [Option.bind_eq_some_iff] at hr
          obtain ⟨_, _, hr⟩ := hr
          split at hr <;> cases hr; simp only [AV.ids] at hx ⊢; exact hx
        · cases hr
      · cases hr
    · cases hr
  · rename_i t x i
    have hx := h x (by simp [Op.operands])
    unfold indexAddrA at hr
    split at hr
    · simp only [Option.bind_eq_some_iff] at hr
      obtain ⟨_, _, hr⟩ := hr
      split at hr <;> cases hr; simp only [AV.ids]
    · rename_i hp _
      rw [hp] at hx
      split at hr
      · simp only [Option.bind_eq_some_iff] at hr
        obtain ⟨_, _, hr⟩ := hr
        split at hr <;> cases hr; simp only [AV.ids] at hx ⊢; exact hx
      · cases hr
    · split at hr <;> cases hr; simp only [AV.ids]
    · rename_i hp _
      rw [hp] at hx
      split at hr
      · simp only [Option.bind_eq_some_iff] at hr
        obtain ⟨_, _, hr⟩ := hr
        split at hr <;> cases hr; simp only [AV.ids] at hx ⊢; exact hx
      · cases hr
    · rename_i hp _
      rw [hp] at hx
      split at hr
      · split at hr <;> cases hr; simp only [AV.ids] at hx ⊢; exact hx
      · cases hr
    · rename_i hp _
      rw [hp] at hx
      split at hr
      · split at hr <;> cases hr; simp only [AV.ids] at hx ⊢; exact hx
      · cases hr
    · cases hr
  · unfold loadA at hr
    split at hr
    · simp only [Option.bind_eq_some_iff] at hr
      obtain ⟨_, _, hr⟩ := hr
      split at hr <;> cases hr; exact vv _ _
    · split at hr
      · simp only [Option.bind_eq_some_iff] at hr
        obtain ⟨_, _, hr⟩ := hr
        split at hr <;> cases hr; exact vv _ _
      · cases hr
    · split at hr
      · simp only [Option.bind_eq_some_iff] at hr
        obtain ⟨_, _, hr⟩ := hr
        split at hr <;> cases hr; exact vv _ _
      · cases hr
    · cases hr
  · rename_i t x lo hi
    have hx := h x (by simp [Op.operands])
    unfold sliceA at hr
    simp only [Option.bind_eq_some_iff] at hr
    obtain ⟨_, _, _, _, hr⟩ := hr
    split at hr
    · split at hr <;> cases hr; exact vv _ _
    · split at hr <;> cases hr; exact vv _ _
    · rename_i hp
      rw [hp] at hx
      split at hr
      · simp only [Option.bind_eq_some_iff] at hr
        obtain ⟨_, _, hr⟩ := hr
        split at hr <;> cases hr; simp only [AV.ids] at hx ⊢; exact hx
      · cases hr
    · rename_i hp
      rw [hp] at hx
      split at hr
      · simp only [Option.bind_eq_some_iff] at hr
        obtain ⟨_, _, hr⟩ := hr
        split at hr <;> cases hr; simp only [AV.ids] at hx ⊢; exact hx
      · cases hr
    · rename_i hp
      rw [hp] at hx
      split at hr
      · split at hr <;> cases hr; simp only [AV.ids] at hx ⊢; exact hx
      · cases hr
    · rename_i hp
      rw [hp] at hx
      split at hr
      · split at hr <;> cases hr; simp only [AV.ids] at hx ⊢; exact hx
      · cases hr
    · cases hr
  · rename_i x
    have hx := h x (by simp [Op.operands])
    unfold nilA at hr
    split at hr
    · rename_i hp; rw [hp] at hx; split at hr <;> cases hr; exact hx
    · rename_i hp; rw [hp] at hx; split at hr <;> cases hr; exact hx
    · cases hr; simp only [AV.ids]
    · cases hr
  · rename_i g first caps
    split at hr
    · cases hr
      simp only [AV.ids]
      exact idsL_map fun x hx => h x (by simp only [Op.operands]; rw [Array.mem_append]; right; rwa [← Array.mem_toList_iff])
    · split at hr
      · cases hr
        simp only [AV.ids]
        exact idsL_map fun x hx => h x (by simp only [Op.operands]; rw [Array.mem_append]; left; rwa [← Array.mem_toList_iff])
      · cases hr
  · have key : ∀ (l : List AV) (a : AV), (∃ τ x, a = .v τ x) ∨ a.ids f = true → ∀ {c av}, maxA l a = some (c, av) → av.ids f = true := by
      intro l
      induction l with
      | nil => intro a ha c av hm; unfold maxA at hm; cases hm; rcases ha with ⟨τ, x, rfl⟩ | ha; exact vv _ _; exact ha
      | cons b l ih =>
        intro a ha c av hm
        unfold maxA at hm
        split at hm
        · rename_i e; cases e
        · rename_i e; cases e; exact ih _ (.inl ⟨_, _, rfl⟩) hm
        · cases hm
    have key2 : ∀ (l : List AV) (a : AV), (∃ τ x, a = .v τ x) ∨ a.ids f = true → ∀ {c av}, minA l a = some (c, av) → av.ids f = true := by
      intro l
      induction l with
      | nil => intro a ha c av hm; unfold minA at hm; cases hm; rcases ha with ⟨τ, x, rfl⟩ | ha; exact vv _ _; exact ha
      | cons b l ih =>
        intro a ha c av hm
        unfold minA at hm
        split at hm
        · rename_i e; cases e
        · rename_i e; cases e; exact ih _ (.inl ⟨_, _, rfl⟩) hm
        · cases hm
    rename_i b args ts
    have hargs : AV.idsL f (args.toList.map ρ) = true := idsL_map fun x hx => h x (by simp only [Op.operands, Call.operands]; rw [Array.mem_append]; right; rwa [← Array.mem_toList_iff])
    unfold builtinA at hr
    split at hr
    · split at hr
      · unfold lenA at hr
        split at hr
        · split at hr <;> cases hr; exact vv _ _
        · split at hr
          · cases hr; exact vv _ _
          · split at hr
            · simp only [Option.bind_eq_some_iff] at hr
              obtain ⟨_, _, hr⟩ := hr
              cases hr; exact vv _ _
            · cases hr
          · cases hr; exact vv _ _
          · split at hr <;> cases hr; exact vv _ _
          · split at hr <;> cases hr; exact vv _ _
          · cases hr
        · cases hr; exact vv _ _
        · cases hr
      · cases hr
    · unfold foldA at hr
      split at hr
      · rename_i a r e
        rw [e] at hargs
        simp only [AV.idsL, Bool.and_eq_true] at hargs
        exact key _ _ (.inr hargs.1) hr
      · cases hr
    · unfold foldA at hr
      split at hr
      · rename_i a r e
        rw [e] at hargs
        simp only [AV.idsL, Bool.and_eq_true] at hargs
        exact key2 _ _ (.inr hargs.1) hr
      · cases hr
    · cases hr
  · cases hr
end
end Go.Proofs.YtaednhofihnfkaaDoor.K

set_option maxHeartbeats 400000
set_option linter.unusedVariables false
set_option linter.unusedSimpArgs false
namespace Go.Proofs.YtaednhofihnfkaaDoor.K
open Go Go.RowKit

/-- What an operation gives, said of its operands alone. -/
def OpVal (C : Cfg) (o : Oper) (id : Nat) (ρ : Operand → AV) (L : Heap) (av : AV) (L' : Heap) : Prop :=
  (isCall o.op = true ∧ (∃ g bs, (callA C ρ L o.op).map (fun q => (q.1, q.2.1)) = some (g, bs) ∧ Contract C g bs av) ∧ (av.flat = true ∨ callOwnless ρ o.op = true) ∧ noIds av = true ∧ L' = L) ∨
  (isCall o.op = false ∧ isAct o.op = true ∧ actOK ρ o.op = true ∧ act C ρ L id o.type o.op = some (true, av, L')) ∨
  (isCall o.op = false ∧ isAct o.op = false ∧ rop C ρ L o.op = some (true, av) ∧ L' = L)

def wantB (ops : Array Oper) (o : Oper) (env : List AV) : Option Bool :=
  match o.guard with
  | none => some true
  | some (j, want) => match gTmp ops j with
    | some d => match env.getD d .dead with
      | .v .bool b => some (b == want)
      | .cst (.tuple _) => some false
      | _ => none
    | none => none

def StepVal (C : Cfg) (ops : Array Oper) (o : Oper) (id : Nat) (env : List AV) (L : Heap) (av : AV) (L' : Heap) : Prop :=
  (wantB ops o env = some true ∧ OpVal C o id (evA C env) L av L') ∨ (wantB ops o env = some false ∧ av = und ∧ L' = L)

def compat (ops : Array Oper) (x p : Oper) : Bool := x.apart ops p && (!isStore x.op || (shapeOnly p.op && !isCall p.op && !isAct p.op)) && (!isStore p.op || (shapeOnly x.op && !isCall x.op && !isAct x.op))

def Closed (env : List AV) (L : Heap) : Prop := ∀ t, (env.getD t .dead).ids (open1 L) = true

section
variable {Ω : Type} {C : Cfg} {B : Nat} {w0 : World} {S0 : Nat → Nat → Prop} {spec : Spec}

theorem evA_ids {env : List AV} {L : Heap} (h : Closed env L) (x : Operand) : (evA C env x).ids (open1 L) = true := by
  cases x with
  | tmp t => exact h t
  | const c => simp only [evA]; cases c <;> simp only [constA, AV.ids]
  | global g => simp only [evA]; cases C.G g <;> simp only [AV.ids]
  | func f => simp only [evA, AV.ids, AV.idsL]

theorem evA_put {env : List AV} {d : Option Tmp} {a : AV} {x : Operand} (h : ∀ e, d = some e → x ≠ .tmp e) : evA C (envPut env d a) x = evA C env x := by
  cases d with
  | none => rfl
  | some e =>
    cases x with
    | tmp t =>
      have : t ≠ e := fun he => h e rfl (by rw [he])
      simp only [evA, envPut, List.getD_eq_getElem?_getD]
      rw [List.getElem?_set_ne (Ne.symm this)]
    | const c => rfl
    | global g => rfl
    | func f => rfl

theorem callA_congr {ρ ρ' : Operand → AV} {L : Heap} {op : Op} (h : ∀ x ∈ op.operands, ρ x = ρ' x) : callA C ρ L op = callA C ρ' L op := by
  unfold callA
  split
  · rename_i f args ts
    have hf : ρ f = ρ' f := h f (by simp [Op.operands, Call.operands])
    have ha : args.toList.map ρ = args.toList.map ρ' := List.map_congr_left fun x hx => h x (by simp only [Op.operands, Call.operands]; rw [Array.mem_append]; right; rwa [← Array.mem_toList_iff])
    rw [hf, ha]
  · rfl

theorem rop_congr {ρ ρ' : Operand → AV} {L : Heap} {op : Op} (h : ∀ x ∈ op.operands, ρ x = ρ' x) : rop C ρ L op = rop C ρ' L op := by
  unfold rop
  split
  · rw [h _ (by simp [Op.operands])]
  · rw [h _ (by simp [Op.operands])]
  · rename_i c a b
    rw [h c (by simp [Op.operands]), h a (by simp [Op.operands]), h b (by simp [Op.operands])]
  · rename_i op t x y _
    rw [h x (by simp [Op.operands]), h y (by simp [Op.operands])]
  · rw [h _ (by simp [Op.operands])]
  · rw [h _ (by simp [Op.operands])]
  · rw [h _ (by simp [Op.operands])]
  · rw [h _ (by simp [Op.operands])]
  · rename_i t x i
    rw [h x (by simp [Op.operands]), h i (by simp [Op.operands])]
  · rw [h _ (by simp [Op.operands])]
  · rename_i t x i
    rw [h x (by simp [Op.operands]), h i (by simp [Op.operands])]
  · rw [h _ (by simp [Op.operands])]
  · rename_i t x lo hi
    have e1 : lo.map ρ = lo.map ρ' := by cases lo with
      | none => rfl
      | some l => simp only [Option.map_some]; rw [h l (by simp [Op.operands])]
    have e2 : hi.map ρ = hi.map ρ' := by cases hi with
      | none => rfl
      | some l => simp only [Option.map_some]; rw [h l (by simp [Op.operands])]
    rw [h x (by simp [Op.operands]), e1, e2]
  · rw [h _ (by simp [Op.operands])]
  · rename_i f first caps
    have : caps.toList.map ρ = caps.toList.map ρ' := List.map_congr_left fun x hx => h x (by simp only [Op.operands]; rw [Array.mem_append]; right; rwa [← Array.mem_toList_iff])
    have this2 : first.toList.map ρ = first.toList.map ρ' := List.map_congr_left fun x hx => h x (by simp only [Op.operands]; rw [Array.mem_append]; left; rwa [← Array.mem_toList_iff])
    rw [this, this2]
  · rename_i b args ts
    have : args.toList.map ρ = args.toList.map ρ' := List.map_congr_left fun x hx => h x (by simp only [Op.operands, Call.operands]; rw [Array.mem_append]; right; rwa [← Array.mem_toList_iff])
    rw [this]
  · rfl

theorem parts_congr {ρ ρ' : Operand → AV} {parts : Array (Nat × Operand)} (h : ∀ x ∈ (parts.toList.map (·.2)).toArray, ρ x = ρ' x) : (parts.toList.map fun (i, x) => (i, ρ x)) = parts.toList.map fun (i, x) => (i, ρ' x) :=
  List.map_congr_left fun p hp => by
    obtain ⟨i, x⟩ := p
    have := h x (by simp; exact ⟨i, by simpa using hp⟩)
    simp only [this]

theorem act_congr {ρ ρ' : Operand → AV} {L : Heap} {id : Nat} {ty : TypeId} {op : Op} (h : ∀ x ∈ op.operands, ρ x = ρ' x) (hn : isAppend op = false) : act C ρ L id ty op = act C ρ' L id ty op := by
  unfold act
  split
  · rfl
  · rw [h _ (by simp [Op.operands])]
  · rw [parts_congr (by simpa [Op.operands] using h)]
  · rw [parts_congr (by simpa [Op.operands] using h)]
  · rename_i t p x
    rw [h p (by simp [Op.operands]), h x (by simp [Op.operands])]
  · rfl
  · rfl
  · simp [isAppend] at hn
  · rw [h _ (by simp [Op.operands])]
  · rename_i t l c
    rw [h l (by simp [Op.operands]), h c (by simp [Op.operands])]
  · rfl

theorem all_congr {ρ ρ' : Operand → AV} {parts : Array (Nat × Operand)} (h : ∀ x ∈ (parts.toList.map (·.2)).toArray, ρ x = ρ' x) : (parts.toList.all fun (_, x) => noOwn (ρ x)) = parts.toList.all fun (_, x) => noOwn (ρ' x) := by
  rw [Bool.eq_iff_iff, List.all_eq_true, List.all_eq_true]
  constructor <;> intro k p hp <;> obtain ⟨i, x⟩ := p <;> have := h x (by simp; exact ⟨i, by simpa using hp⟩) <;> have := k (i, x) hp <;> simp_all

theorem actOK_congr {ρ ρ' : Operand → AV} {op : Op} (h : ∀ x ∈ op.operands, ρ x = ρ' x) : actOK ρ op = actOK ρ' op := by
  unfold actOK
  split
  · rfl
  · rw [h _ (by simp [Op.operands])]
  · exact all_congr (by simpa [Op.operands] using h)
  · exact all_congr (by simpa [Op.operands] using h)
  · rename_i t p x; rw [h x (by simp [Op.operands])]
  · rfl
  · rfl
  · rw [h _ (by simp [Op.operands])]
  · rfl

theorem callOwnless_congr {ρ ρ' : Operand → AV} {op : Op} (h : ∀ x ∈ op.operands, ρ x = ρ' x) : callOwnless ρ op = callOwnless ρ' op := by
  unfold callOwnless
  split
  · rename_i f args ts
    have hf : ρ f = ρ' f := h f (by simp [Op.operands, Call.operands])
    have ha : (args.toList.all fun x => noOwn (ρ x)) = args.toList.all fun x => noOwn (ρ' x) := by
      rw [Bool.eq_iff_iff, List.all_eq_true, List.all_eq_true]
      constructor <;> intro k x hx <;> have := h x (by simp only [Op.operands, Call.operands]; rw [Array.mem_append]; right; rwa [← Array.mem_toList_iff]) <;> have := k x hx <;> simp_all
    rw [hf, ha]
  · rfl

theorem OpVal.congr {o : Oper} {id : Nat} {ρ ρ' : Operand → AV} {L L' : Heap} {av : AV} (h : ∀ x ∈ o.op.operands, ρ x = ρ' x) (hv : OpVal C o id ρ L av L') : OpVal C o id ρ' L av L' := by
  rcases hv with ⟨h1, h2, h3, h4, h5⟩ | ⟨h1, h2, h3, h4⟩ | ⟨h1, h2, h3, h4⟩
  · exact .inl ⟨h1, by rw [← callA_congr h]; exact h2, by rw [← callOwnless_congr h]; exact h3, h4, h5⟩
  · exact .inr (.inl ⟨h1, h2, by rw [← actOK_congr h]; exact h3, by rw [← act_congr h (actOK_notAppend h3)]; exact h4⟩)
  · exact .inr (.inr ⟨h1, h2, by rw [← rop_congr h]; exact h3, h4⟩)

theorem mem_looks {ops : Array Oper} {o : Oper} {t : Tmp} (h : .tmp t ∈ o.op.operands) : t ∈ o.looksAt ops := by
  unfold Oper.looksAt
  rw [List.mem_append]
  left
  rw [List.mem_filterMap]
  exact ⟨.tmp t, Array.mem_toList_iff.2 h, rfl⟩

theorem StepVal.env {ops : Array Oper} {o : Oper} {id : Nat} {env : List AV} {L L' : Heap} {av : AV} {d : Option Tmp} {a : AV} (hd : ∀ e, d = some e → e ∉ o.looksAt ops) : StepVal C ops o id (envPut env d a) L av L' ↔ StepVal C ops o id env L av L' := by
  have he : ∀ x ∈ o.op.operands, evA C (envPut env d a) x = evA C env x := by
    intro x hx
    refine evA_put fun e hde hxe => ?_
    subst hxe
    exact hd e hde (mem_looks hx)
  have hw : wantB ops o (envPut env d a) = wantB ops o env := by
    unfold wantB
    split
    · rfl
    · rename_i j want hg
      split
      · rename_i t ht
        have : (envPut env d a).getD t .dead = env.getD t .dead := by
          cases d with
          | none => rfl
          | some e =>
            have hne : t ≠ e := by
              rintro rfl
              refine hd t rfl ?_
              unfold Oper.looksAt
              rw [List.mem_append]
              right
              rw [hg]
              unfold gTmp at ht
              simp [ht]
            simp only [envPut, List.getD_eq_getElem?_getD]
            rw [List.getElem?_set_ne (Ne.symm hne)]
        rw [this]
      · rfl
  unfold StepVal
  rw [hw]
  constructor
  · rintro (⟨h1, h2⟩ | h)
    · exact .inl ⟨h1, h2.congr he⟩
    · exact .inr h
  · rintro (⟨h1, h2⟩ | h)
    · exact .inl ⟨h1, h2.congr fun x hx => (he x hx).symm⟩
    · exact .inr h

theorem mark_mark (s : Slot) : s.mark.mark = s.mark := by cases s <;> rfl

theorem markIds_get : ∀ (l : List Nat) (L : Heap) (i : Nat), (markIds L l)[i]? = if i ∈ l then (L[i]?).map Slot.mark else L[i]?
  | [], L, i => by simp [markIds]
  | j :: l, L, i => by
    rw [markIds, markIds_get l]
    have h1 : (mark1 L j)[i]? = if i = j then (L[i]?).map Slot.mark else L[i]? := by
      unfold mark1
      cases hj : L[j]? with
      | none =>
        simp only
        split
        · rename_i e; subst e; rw [hj]; rfl
        · rfl
      | some s =>
        simp only
        rw [get_set ⟨_, hj⟩]
        split
        · rename_i e; subst e; rw [hj]; rfl
        · rfl
    rw [h1]
    by_cases e : i = j
    · subst e
      simp only [if_true, List.mem_cons, true_or]
      split
      · cases L[i]? <;> simp [mark_mark]
      · rfl
    · simp only [e, if_false, List.mem_cons, false_or]

theorem handA_congr {L L' : Heap} {t : TypeId} {a : AV} (h : ∀ i ∈ ownOf a, L[i]? = L'[i]?) : handA C L t a = handA C L' t a := by
  unfold handA
  split
  case h_11 =>
    rename_i f id p id2 p2
    rw [h id (by simp [ownOf]), h id2 (by simp [ownOf])]
  all_goals first | rfl | (rw [h _ (by simp [ownOf])])

theorem handL_congr {L L' : Heap} : ∀ {as : List AV} {ts : List TypeId}, (∀ a ∈ as, ∀ i ∈ ownOf a, L[i]? = L'[i]?) → handL C L ts as = handL C L' ts as
  | [], ts, h => by cases ts <;> rfl
  | a :: as, ts, h => by
    have h1 : ∀ t, handA C L t a = handA C L' t a := fun t => handA_congr (h a (by simp))
    have h2 : ∀ ts, handL C L ts as = handL C L' ts as := fun ts => handL_congr (fun b hb => h b (List.mem_cons_of_mem _ hb))
    cases ts <;> simp only [handL, h1, h2]

theorem ownOf_ids {f : Bool → Nat → Bool} {a : AV} (h : a.ids f = true) : ∀ i ∈ ownOf a, ∃ b, f b i = true := by
  intro i hi
  unfold ownOf at hi
  split at hi
  · simp at hi; subst hi; simp only [AV.ids] at h; exact ⟨_, h⟩
  · simp at hi; subst hi; simp only [AV.ids] at h; exact ⟨_, h⟩
  · simp at hi; subst hi; simp only [AV.ids] at h; exact ⟨_, h⟩
  · simp at hi; subst hi; simp only [AV.ids] at h; exact ⟨_, h⟩
  · simp at hi; subst hi; simp only [AV.ids, AV.idsL, Bool.and_true] at h; exact ⟨_, h⟩
  · simp only [AV.ids, AV.idsL, Bool.and_true, Bool.and_eq_true] at h
    simp at hi
    rcases hi with rfl | rfl
    · exact ⟨_, h.1⟩
    · exact ⟨_, h.2⟩
  · simp at hi

theorem open1_ne {L : Heap} {j i : Nat} {b : Bool} (hj : L[j]? = some .resv) (h : open1 L b i = true) : i ≠ j := by
  rintro rfl; unfold open1 at h; rw [hj] at h; cases h

theorem callA_resv {ρ : Operand → AV} {L : Heap} {j : Nat} {s : Slot} (hj : L[j]? = some .resv) {op : Op} (h : ∀ x ∈ op.operands, (ρ x).ids (open1 L) = true) :
    (callA C ρ (L.set j s) op).map (fun q => (q.1, q.2.1)) = (callA C ρ L op).map (fun q => (q.1, q.2.1)) := by
  unfold callA
  split
  · rename_i f args ts
    split
    · rename_i g caps hf
      have hfi := fnOf_ids (h f (by simp [Op.operands, Call.operands]))
      rw [hf] at hfi
      simp only [AV.ids] at hfi
      have hall : ∀ a ∈ args.toList.map ρ ++ caps, a.ids (open1 L) = true := by
        intro a ha
        rcases List.mem_append.1 ha with ha | ha
        · obtain ⟨x, hx, rfl⟩ := List.mem_map.1 ha
          exact h x (by simp only [Op.operands, Call.operands]; rw [Array.mem_append]; right; rwa [← Array.mem_toList_iff])
        · obtain ⟨i, hi⟩ := List.mem_iff_getElem?.1 ha
          exact idsL_get hfi i a hi
      have e : handL C (markIds (L.set j s) ((args.toList.map ρ ++ caps).flatMap ownOf)) ((C.P.funcs[g]?).map (·.params.toList) |>.getD []) (args.toList.map ρ ++ caps) =
          handL C (markIds L ((args.toList.map ρ ++ caps).flatMap ownOf)) ((C.P.funcs[g]?).map (·.params.toList) |>.getD []) (args.toList.map ρ ++ caps) := by
        refine handL_congr fun a ha i hi => ?_
        obtain ⟨b, hb⟩ := ownOf_ids (hall a ha) i hi
        rw [markIds_get, markIds_get, List.getElem?_set_ne (Ne.symm (open1_ne hj hb))]
      simp only [e, Option.map_map]
      rfl
    · rfl
  · rfl

theorem liftA_noOwn {L L' : Heap} {τ : ETy} {a : AV} (h : noOwn a = true) : liftA L τ a = liftA L' τ a := by
  unfold liftA
  split <;> first | rfl | (simp [noOwn, ownOf] at h)

theorem markL_noOwn {L : Heap} : ∀ {l : List AV}, (∀ a ∈ l, noOwn a = true) → markL L l = L
  | [], _ => rfl
  | a :: l, h => by
    unfold markL
    rw [noOwn_mark (h a (by simp))]
    exact markL_noOwn fun b hb => h b (List.mem_cons_of_mem _ hb)

theorem setParts_noOwn {T : ETy} {st : Nat → PStep} {L L' : Heap} : ∀ {parts : List (Nat × AV)} {x : T.I}, (∀ p ∈ parts, noOwn p.2 = true) → setParts T st L x parts = setParts T st L' x parts
  | [], x, _ => rfl
  | (i, a) :: r, x, h => by
    simp only [setParts]
    congr 1; funext σ
    rw [liftA_noOwn (L' := L') (h (i, a) (by simp))]
    congr 1; funext y
    congr 1; funext x'
    exact setParts_noOwn fun p hp => h p (List.mem_cons_of_mem _ hp)

theorem parts_noOwn {ρ : Operand → AV} {parts : Array (Nat × Operand)} (h : (parts.toList.all fun (_, x) => noOwn (ρ x)) = true) : (∀ p ∈ (parts.toList.map fun (i, x) => (i, ρ x)), noOwn p.2 = true) ∧ ∀ a ∈ (parts.toList.map fun (i, x) => (i, ρ x)).map (·.2), noOwn a = true := by
  rw [List.all_eq_true] at h
  have h1 : ∀ p ∈ (parts.toList.map fun (i, x) => (i, ρ x)), noOwn p.2 = true := by
    intro p hp
    obtain ⟨q, hq, rfl⟩ := List.mem_map.1 hp
    exact h q hq
  refine ⟨h1, fun a ha => ?_⟩
  obtain ⟨p, hp, rfl⟩ := List.mem_map.1 ha
  exact h1 p hp

/-- Operations that make memory, of operands that bear nothing of one's own: what they do hangs on no block. -/
theorem act_slot {ρ : Operand → AV} {L L' : Heap} {id : Nat} {ty : TypeId} {op : Op} {av : AV} (hok : actOK ρ op = true) (hns : isStore op = false) (h : act C ρ L id ty op = some (true, av, L')) :
    (L' = L ∧ (∃ τ x, av = .v τ x) ∧ ∀ L2, act C ρ L2 id ty op = some (true, av, L2)) ∨
    (wantsId op = true ∧ (av = .ref id [] ∨ av = .rs id) ∧ ∃ s : Slot, s.live = true ∧ L' = L.set id s ∧ ∀ L2, act C ρ L2 id ty op = some (true, av, L2.set id s)) := by
  unfold actOK at hok
  unfold act at h ⊢
  split at h
  · right
    unfold allocA at h ⊢
    split at h
    · rename_i te hte
      simp only [Option.some.injEq, Prod.mk.injEq, true_and] at h
      obtain ⟨rfl, rfl⟩ := h
      exact ⟨rfl, .inl rfl, .obj (.bld _ te ⟨#[]⟩), rfl, rfl, fun L2 => rfl⟩
    simp only [Option.map_eq_some_iff, Prod.mk.injEq, true_and] at h
    obtain ⟨τ, hτ, rfl, rfl⟩ := h
    exact ⟨rfl, .inl rfl, .box τ τ.z false, rfl, rfl, fun L2 => by simp [hτ]⟩
  · right
    simp only at hok
    unfold boxA boxA.mark1' at h ⊢
    simp only [Option.bind_eq_some_iff, Option.map_eq_some_iff, Prod.mk.injEq, true_and] at h
    obtain ⟨τ, hτ, x, hx, rfl, rfl⟩ := h
    have hm : ∀ L : Heap, markL L [ρ (by assumption)] = L := fun L => markL_noOwn (by simpa using hok)
    refine ⟨rfl, .inl rfl, .box τ x false, rfl, by rw [hm], fun L2 => ?_⟩
    rw [hτ]
    simp only [Option.bind_some, hm] at hx ⊢
    rw [liftA_noOwn (L' := L) hok, hx]
    rfl
  · left
    simp only at hok
    obtain ⟨hp1, hp2⟩ := parts_noOwn hok
    unfold buildA at h ⊢
    simp only [Option.bind_eq_some_iff] at h
    obtain ⟨τ, hτ, h⟩ := h
    simp only [markL_noOwn hp2] at h
    split at h
    · simp only [Option.map_eq_some_iff, Prod.mk.injEq, true_and] at h
      obtain ⟨x, hx, rfl, rfl⟩ := h
      refine ⟨rfl, ⟨_, _, rfl⟩, fun L2 => ?_⟩
      rw [hτ]
      simp only [Option.bind_some, markL_noOwn hp2]
      rw [setParts_noOwn (L' := L) hp1, hx]; rfl
    · split at h
      · rename_i hst
        simp only [Option.map_eq_some_iff, Prod.mk.injEq, true_and] at h
        obtain ⟨x, hx, rfl, rfl⟩ := h
        refine ⟨rfl, ⟨_, _, rfl⟩, fun L2 => ?_⟩
        rw [hτ]
        simp only [Option.bind_some, markL_noOwn hp2]
        rw [if_pos hst, setParts_noOwn (L' := L) hp1, hx]; rfl
      · cases h
    · cases h
  · right
    simp only at hok
    obtain ⟨hp1, hp2⟩ := parts_noOwn hok
    unfold buildSliceA at h ⊢
    simp only [Option.bind_eq_some_iff] at h
    obtain ⟨τ, hτ, te, hte, h⟩ := h
    simp only [markL_noOwn hp2] at h
    split at h
    · split at h
      · rename_i hst
        simp only [Option.map_eq_some_iff, Prod.mk.injEq, true_and] at h
        obtain ⟨x, hx, rfl, rfl⟩ := h
        refine ⟨rfl, .inr rfl, _, rfl, rfl, fun L2 => ?_⟩
        rw [hτ, hte]
        simp only [Option.bind_some, markL_noOwn hp2]
        rw [if_pos hst, setParts_noOwn (L' := L) hp1, hx]; rfl
      · cases h
    · cases h
  · simp [isStore] at hns
  · right
    unfold nilRowA at h ⊢
    split at h
    · rename_i e te h1 h2
      simp only [Option.some.injEq, Prod.mk.injEq, true_and] at h
      obtain ⟨rfl, rfl⟩ := h
      exact ⟨rfl, .inr rfl, .row te e [] false, rfl, rfl, fun L2 => by simp [h1, h2]⟩
    · cases h
  · right
    unfold nilRowA at h ⊢
    split at h
    · rename_i e te h1 h2
      simp only [Option.some.injEq, Prod.mk.injEq, true_and] at h
      obtain ⟨rfl, rfl⟩ := h
      exact ⟨rfl, .inr rfl, .row te e [] false, rfl, rfl, fun L2 => by simp [h1, h2]⟩
    · cases h
  · cases hok
  · left
    rename_i s d x
    cases hx : ρ x with
    | v σ y =>
      rw [hx] at h
      obtain ⟨h1, h2⟩ := convB_v h
      exact ⟨convB_L h, h1, h2⟩
    | _ => simp only [hx] at hok; cases hok
  · cases hok
  · cases h

def sameShape : Slot → Slot → Prop
  | .box T _ _, s => ∃ x ro, s = .box T x ro
  | .row t e xs _, s => ∃ ys ro, s = .row t e ys ro ∧ List.length ys = List.length xs
  | _, _ => False

theorem store_slot {ρ : Operand → AV} {L L' : Heap} {id : Nat} {ty : TypeId} {op : Op} {av : AV} (hok : actOK ρ op = true) (hs : isStore op = true) (h : act C ρ L id ty op = some (true, av, L')) :
    av = .dead ∧ ∃ i s0 s1, L[i]? = some s0 ∧ sameShape s0 s1 ∧ s1.live = true ∧ L' = L.set i s1 := by
  unfold act at h
  split at h <;> (try (simp [isStore] at hs; done))
  rename_i t p x
  simp only [actOK] at hok
  unfold storeA at h
  have hm : markL L [ρ x] = L := markL_noOwn (by simpa using hok)
  simp only [Option.bind_eq_some_iff, hm] at h
  obtain ⟨τ, hτ, y, hy, h⟩ := h
  split at h
  · split at h
    · rename_i hL
      simp only [Option.map_eq_some_iff, Prod.mk.injEq, true_and] at h
      obtain ⟨z, hz, rfl, rfl⟩ := h
      exact ⟨rfl, _, _, _, hL, ⟨_, _, rfl⟩, rfl, rfl⟩
    · cases h
  · split at h
    · rename_i hL
      simp only [Option.map_eq_some_iff, Prod.mk.injEq, true_and] at h
      obtain ⟨z, hz, rfl, rfl⟩ := h
      exact ⟨rfl, _, _, _, hL, ⟨_, _, rfl, by simp⟩, rfl, rfl⟩
    · cases h
  · cases h
end
end Go.Proofs.YtaednhofihnfkaaDoor.K

/- What functions of the program come to, and their laws. -/
import Derived.Test.YtlcomipbinfooaaGreatDoorKA
namespace Go.Proofs.YtlcomipbinfooaaGreatDoor.K
open Go Go.RowKit
section
set_option linter.unusedVariables false
set_option linter.unusedSimpArgs false
set_option maxHeartbeats 400000
def ETy.flat : ETy → Bool
  | .slice _ => false
  | .pair a b => a.flat && b.flat
  | .arr _ e => e.flat
  | _ => true
mutual
def AV.flat : AV → Bool
  | .v τ _ => τ.flat
  | .tup l => AV.flatL l
  | .cst _ => true
  | _ => false
def AV.flatL : List AV → Bool
  | [] => true
  | a :: l => a.flat && AV.flatL l
end
def handA (C : Cfg) (L : Heap) (t : TypeId) : AV → Option AV
  | .v τ x => some (.v τ x)
  | .cst (.slice none 0 0) => match C.Ty t with | some (.slice e) => some (.v (.slice e) []) | _ => none
  | .cst c => some (.cst c)
  | .rs id => match L[id]? with | some (.row _ e xs _) => some (.v (.slice e) xs) | _ => none
  | .ls id p lo n => match L[id]? with
    | some (.box T x _) => (getP T x p).bind fun d => match d with | ⟨.arr N e, xs⟩ => some (.v (.slice e) ((List.drop lo xs).take n)) | _ => none
    | _ => none
  | .lr id lo n => match L[id]? with | some (.row _ e xs _) => some (.v (.slice e) ((List.drop lo xs).take n)) | _ => none
  | .vp T x p => some (.vp T x p)
  | .ref id p => match L[id]? with | some (.box T x _) => some (.vp T x p) | _ => none
  | .fn f [] => some (.fn f [])
  | .fn f [.ref id p] => match L[id]? with | some (.box T x _) => some (.fn f [.vp T x p]) | _ => none
  | .fn f [.ref id p, .ref id2 p2] => match L[id]?, L[id2]? with | some (.box T x _), some (.box T2 x2 _) => some (.fn f [.vp T x p, .vp T2 x2 p2]) | _, _ => none
  | .fn f [.vp T x p] => some (.fn f [.vp T x p])
  | .fn f [.vp T x p, .vp T2 x2 p2] => some (.fn f [.vp T x p, .vp T2 x2 p2])
  | _ => none
def handL (C : Cfg) (L : Heap) : List TypeId → List AV → Option (List AV)
  | _, [] => some []
  | t :: ts, a :: as => (handA C L t a).bind fun b => (handL C L ts as).map fun bs => b :: bs
  | [], a :: as => (handA C L 0 a).bind fun b => (handL C L [] as).map fun bs => b :: bs
def ownOf : AV → List Nat
  | .rs id => [id]
  | .ls id _ _ _ => [id]
  | .lr id _ _ => [id]
  | .ref id _ => [id]
  | .fn _ [.ref id _] => [id]
  | .fn _ [.ref id _, .ref id2 _] => [id, id2]
  | _ => []
def markIds (L : Heap) : List Nat → Heap
  | [] => L
  | id :: l => markIds (mark1 L id) l
abbrev m0 : Nat → Value := fun _ => undef
structure Contract (C : Cfg) (f : FuncId) (args : List AV) (av : AV) : Prop where
  enters : ∀ (us : Array Value) (w : World), (callFunc f us).run C.P w = .ok (.enter f us) w
  runs : ∀ (w : World) (S : Nat → Nat → Prop) (us : List Value), (∀ b o, S b o → b < w.heap.size) → GlobOK C w.heap.size w S → RepAs m0 [] w S args us →
    Calls C.P f us.toArray w fun e w' => ∃ u S', e = .returned u ∧ Below w.heap.size w w' ∧ Safe S S' w w' ∧ (∀ b o, S' b o → (S b o ∨ w.heap.size ≤ b) ∧ b < w'.heap.size) ∧ RepA m0 [] w' S' av u
section
variable {C : Cfg} {B : Nat} {m : Nat → Value} {L : Heap} {w w' : World} {S S' : Nat → Nat → Prop}
theorem flat_repC {w w' : World} {S S' : Nat → Nat → Prop} : ∀ {τ : ETy} {x : τ.I} {cs : List Value}, τ.flat = true → RepC w S τ x cs → RepC w' S' τ x cs
  | .int _, x, cs, _, h => h
  | .bool, x, cs, _, h => h
  | .str, x, cs, _, h => h
  | .raw _, x, cs, _, h => h
  | .unit, x, cs, _, h => h
  | .pair a b, x, cs, hf, h => by
    simp only [ETy.flat, Bool.and_eq_true] at hf
    obtain ⟨c, d, rfl, h1, h2⟩ := h
    exact ⟨c, d, rfl, flat_repC hf.1 h1, flat_repC hf.2 h2⟩
  | .arr n e, x, cs, hf, h => ⟨h.1, RepL.mono (fun x c h => flat_repC (by simpa [ETy.flat] using hf) h) h.2⟩
  | .slice e, x, cs, hf, h => by simp [ETy.flat] at hf
mutual
theorem flat_rep {m m' : Nat → Value} {L L' : Heap} {w w' : World} {S S' : Nat → Nat → Prop} : ∀ {a : AV} {u : Value}, a.flat = true → RepA m L w S a u → RepA m' L' w' S' a u
  | .v τ x, u, hf, h => by
    rw [rep_v] at h ⊢
    obtain ⟨cs, h1, rfl⟩ := h
    exact ⟨cs, flat_repC (by simpa [AV.flat] using hf) h1, rfl⟩
  | .tup l, u, hf, h => by
    simp only [RepA] at h ⊢
    obtain ⟨vs, rfl, h1⟩ := h
    exact ⟨vs, rfl, flat_reps (by simpa [AV.flat] using hf) h1⟩
  | .cst c, u, hf, h => by simp only [RepA] at h ⊢; exact h
  | .vp .., u, hf, h | .ref .., u, hf, h | .rref .., u, hf, h | .ls .., u, hf, h | .rs .., u, hf, h | .lr .., u, hf, h | .fn .., u, hf, h | .bm .., u, hf, h | .bt .., u, hf, h | .bz .., u, hf, h | .dead, u, hf, h => by simp [AV.flat] at hf
theorem flat_reps {m m' : Nat → Value} {L L' : Heap} {w w' : World} {S S' : Nat → Nat → Prop} : ∀ {a : List AV} {u : List Value}, AV.flatL a = true → RepAs m L w S a u → RepAs m' L' w' S' a u
  | [], u, hf, h => by simp only [RepAs] at h ⊢; exact h
  | x :: xs, u, hf, h => by
    simp only [AV.flatL, Bool.and_eq_true] at hf
    simp only [RepAs] at h ⊢
    obtain ⟨y, r, rfl, h1, h2⟩ := h
    exact ⟨y, r, rfl, flat_rep hf.1 h1, flat_reps hf.2 h2⟩
end
mutual
theorem rep_out {m : Nat → Value} {L : Heap} : ∀ {a : AV} {u : Value}, RepA m0 [] w S a u → RepA m L w S a u
  | .v τ x, u, h => by rw [rep_v] at h ⊢; exact h
  | .cst c, u, h => by simp only [RepA] at h ⊢; exact h
  | .vp .., u, h => by simp only [RepA] at h ⊢; exact h
  | .ref .., u, h => by simp only [RepA] at h; obtain ⟨s, h, _⟩ := h; simp at h
  | .rref .., u, h => by simp only [RepA] at h; obtain ⟨s, h, _⟩ := h; simp at h
  | .ls .., u, h => by simp only [RepA] at h; obtain ⟨s, h, _⟩ := h; simp at h
  | .rs .., u, h => by simp only [RepA] at h; obtain ⟨s, h, _⟩ := h; simp at h
  | .lr .., u, h => by simp only [RepA] at h; obtain ⟨s, h, _⟩ := h; simp at h
  | .fn f caps, u, h => by simp only [RepA] at h ⊢; obtain ⟨vs, rfl, h1⟩ := h; exact ⟨vs, rfl, reps_out h1⟩
  | .bm f l, u, h => by simp only [RepA] at h ⊢; obtain ⟨vs, rfl, h1⟩ := h; exact ⟨vs, rfl, reps_out h1⟩
  | .tup l, u, h => by simp only [RepA] at h ⊢; obtain ⟨vs, rfl, h1⟩ := h; exact ⟨vs, rfl, reps_out h1⟩
  | .bt T x hs, u, h => by
    simp only [RepA] at h ⊢
    obtain ⟨h0, cs, ds, h1, h2, h3, h4, h5, h6⟩ := h
    refine ⟨h0, cs, ds, h1, h2, h3, h4, h5, fun o rid hr => ?_⟩
    obtain ⟨v, _, s, k, _⟩ := h6 o rid hr
    simp at k
  | .bz T x os, u, h => by simp only [RepA] at h ⊢; exact h
  | .dead, u, h => by simp only [RepA]
theorem reps_out {m : Nat → Value} {L : Heap} : ∀ {a : List AV} {u : List Value}, RepAs m0 [] w S a u → RepAs m L w S a u
  | [], u, h => by simp only [RepAs] at h ⊢; exact h
  | x :: xs, u, h => by
    simp only [RepAs] at h ⊢
    obtain ⟨y, r, rfl, h1, h2⟩ := h
    exact ⟨y, r, rfl, rep_out h1, reps_out h2⟩
end
theorem markIds_goes (X : Nat → Bool) : ∀ (l : List Nat) {L : Heap} {S : Nat → Nat → Prop} (hI : Inv B m L w S), ∃ S', Goes B X m L w S m (markIds L l) w S' ∧ (∀ j, Kept m L S j → Kept m (markIds L l) S' j) ∧ ∀ id ∈ l, Kept m (markIds L l) S' id
  | [], L, S, hI => ⟨S, ⟨hI, Safe.refl _ _, Below.refl _ _, Ext.refl X m L, fun _ _ h => .inl h⟩, fun _ h => h, fun a ha => by simp at ha⟩
  | id :: l, L, S, hI => by
    obtain ⟨S1, g1, k1⟩ := mark1_goes hI id X
    obtain ⟨S2, g2, k2, k3⟩ := markIds_goes X l g1.inv
    refine ⟨S2, g1.trans g2, fun j hj => k2 j (mark1_kept g1.safe.sub hj), fun i hi => ?_⟩
    rcases List.mem_cons.1 hi with rfl | hi
    · exact k2 _ k1
    · exact k3 i hi
theorem mark1_get {id j : Nat} {s : Slot} (h : L[j]? = some s) : (mark1 L id)[j]? = some s ∨ (mark1 L id)[j]? = some s.mark := by
  unfold mark1
  cases hid : L[id]? with
  | none => exact .inl h
  | some r =>
    simp only
    rw [get_set ⟨_, hid⟩]
    split
    · rename_i e; subst e; rw [h] at hid; cases hid; exact .inr rfl
    · exact .inl h
theorem ref_vp (hI : Inv B m L w S) {id : Nat} {p : List PStep} {T : ETy} {x : T.I} {ro : Bool} {u : Value} (hL : L[id]? = some (.box T x ro)) (hk : Kept m L S id) (h : RepA m L w S (.ref id p) u) : RepA m0 [] w S (.vp T x p) u := by
  simp only [RepA] at h ⊢
  obtain ⟨s, h1, h2, h3⟩ := h
  rw [hL] at h1; cases h1
  obtain ⟨h0, b, hm, rfl⟩ := h3.1 T rfl
  obtain ⟨b', cs, el, fr, hm', hB, hb, hfr, hr⟩ := hI.box id T x ro hL
  rw [hm] at hm'; cases hm'
  refine ⟨h0, b, 0, cs, by simp, hr, fun j hj => ⟨cellsAt_block hb j hj, ?_⟩⟩
  have := hr.length
  exact hk _ b (0 + j) hL rfl (by rw [hm]; exact in_ptr _ _) (by simp only [Slot.cells]; omega)
theorem hand_rep (hI : Inv B m L w S) {t : TypeId} {a b : AV} {u : Value} (hx : RepA m L w S a u) (hk : ∀ id ∈ ownOf a, Kept m L S id) (h : handA C L t a = some b) : RepA m0 [] w S b u := by
  unfold handA at h
  split at h
  · cases h; rw [rep_v] at hx ⊢; exact hx
  · simp only [RepA] at hx
    subst hx
    split at h
    · cases h; rw [rep_v]; exact ⟨[.slice none 0 0], ⟨none, 0, rfl, Nat.le_refl _, .inl rfl⟩, rfl⟩
    · cases h
  · cases h; simp only [RepA] at hx ⊢; exact hx
  · rename_i id
    split at h
    · rename_i t' e xs ro hL
      cases h
      rw [rep_v]
      exact lift_rep hI hx (fun i hi => hk i (by cases hi; simp [ownOf])) (by simp [liftA, hL, castI])
    · cases h
  · rename_i id p lo n
    split at h
    · rename_i T y ro hL
      cases hg : getP T y p with
      | none => rw [hg] at h; cases h
      | some d =>
        rw [hg] at h
        simp only [Option.bind_some] at h
        split at h
        · rename_i N e xs
          cases h
          rw [rep_v]
          exact lift_rep hI hx (fun i hi => hk i (by cases hi; simp [ownOf])) (by simp [liftA, hL, hg, castI])
        · cases h
    · cases h
  · rename_i id lo n
    split at h
    · rename_i t' e xs ro hL
      cases h
      rw [rep_v]
      exact lift_rep hI hx (fun i hi => hk i (by cases hi; simp [ownOf])) (by simp [liftA, hL, castI])
    · cases h
  · cases h; simp only [RepA] at hx ⊢; exact hx
  · rename_i id p
    split at h
    · rename_i T x ro hL
      cases h
      exact ref_vp hI hL (hk id (by simp [ownOf])) hx
    · cases h
  · cases h
    simp only [RepA, RepAs] at hx ⊢
    exact hx
  · rename_i f id p
    split at h
    · rename_i T x ro hL
      cases h
      simp only [RepA, RepAs] at hx
      obtain ⟨vs, rfl, y, r, rfl, h1, rfl⟩ := hx
      have := ref_vp (p := p) (u := y) hI hL (hk id (by simp [ownOf])) (by simp only [RepA]; exact h1)
      simp only [RepA, RepAs] at this ⊢
      exact ⟨_, rfl, y, [], rfl, this, rfl⟩
    · cases h
  · rename_i f id p id2 p2
    split at h
    · rename_i T x ro T2 x2 ro2 hL hL2
      cases h
      simp only [RepA, RepAs] at hx
      obtain ⟨vs, rfl, y, r, rfl, h1, y2, r2, rfl, h2, rfl⟩ := hx
      have q1 := ref_vp (p := p) (u := y) hI hL (hk id (by simp [ownOf])) (by simp only [RepA]; exact h1)
      have q2 := ref_vp (p := p2) (u := y2) hI hL2 (hk id2 (by simp [ownOf])) (by simp only [RepA]; exact h2)
      simp only [RepA, RepAs] at q1 q2 ⊢
      exact ⟨_, rfl, y, [y2], rfl, q1, y2, [], rfl, q2, rfl⟩
    · cases h
  · cases h
    simp only [RepA, RepAs] at hx ⊢
    exact hx
  · cases h
    simp only [RepA, RepAs] at hx ⊢
    exact hx
  · cases h
theorem handL_rep (hI : Inv B m L w S) : ∀ {as : List AV} {ts : List TypeId} {bs : List AV} {us : List Value}, RepAs m L w S as us → (∀ a ∈ as, ∀ id ∈ ownOf a, Kept m L S id) → handL C L ts as = some bs → RepAs m0 [] w S bs us
  | [], ts, bs, us, hx, hk, h => by
    cases ts <;> simp only [handL, Option.some.injEq] at h <;> subst h <;> simpa only [RepAs] using hx
  | a :: as, ts, bs, us, hx, hk, h => by
    have key : ∀ t ts', ((handA C L t a).bind fun b => (handL C L ts' as).map fun bs => b :: bs) = some bs → RepAs m0 [] w S bs us := by
      intro t ts' h
      cases h1 : handA C L t a with
      | none => rw [h1] at h; cases h
      | some b =>
        rw [h1] at h
        simp only [Option.bind_some] at h
        cases h2 : handL C L ts' as with
        | none => rw [h2] at h; cases h
        | some r =>
          rw [h2] at h
          simp only [Option.map_some, Option.some.injEq] at h
          subst h
          simp only [RepAs] at hx ⊢
          obtain ⟨u, us', rfl, q1, q2⟩ := hx
          exact ⟨u, us', rfl, hand_rep hI q1 (hk a (by simp)) h1, handL_rep hI q2 (fun b hb => hk b (List.mem_cons_of_mem _ hb)) h2⟩
    cases ts with
    | nil => simp only [handL] at h; exact key _ _ h
    | cons t ts => simp only [handL] at h; exact key _ _ h
def asFn : Value → Option FuncId
  | .func (.func f) a b => bif a.size == 0 && b.size == 0 then some f else none
  | _ => none
theorem asFn_eq {v : Value} {f : FuncId} (h : asFn v = some f) : v = .func (.func f) #[] #[] := by
  unfold asFn at h
  split at h
  · rename_i g a b
    cases hc : (a.size == 0 && b.size == 0) with
    | false => rw [hc] at h; cases h
    | true =>
      rw [hc] at h
      cases h
      simp only [Bool.and_eq_true, beq_iff_eq] at hc
      rw [Array.eq_empty_of_size_eq_zero hc.1, Array.eq_empty_of_size_eq_zero hc.2]
  · cases h
def fnOf : AV → AV
  | .v (.raw .func) x => match asFn x with
    | some f => .fn f []
    | none => .v (.raw .func) x
  | a => a
theorem fnOf_rep {a : AV} {u : Value} (h : RepA m L w S a u) : RepA m L w S (fnOf a) u := by
  unfold fnOf
  split
  · rename_i x
    cases hf : asFn x with
    | none => exact h
    | some f =>
      rw [rep_v] at h
      obtain ⟨cs, ⟨e1, _⟩, e2⟩ := h
      subst e1
      have e3 : u = x := e2
      show RepA m L w S (.fn f []) u
      have e4 := asFn_eq hf
      rw [e3, e4]
      simp only [RepA, RepAs]
      exact ⟨[], rfl, rfl⟩
  · exact h
theorem fnOf_ids {f : Bool → Nat → Bool} {a : AV} (h : a.ids f = true) : (fnOf a).ids f = true := by
  unfold fnOf
  split
  · split
    · simp [AV.ids, AV.idsL]
    · exact h
  · exact h
def callA (C : Cfg) (ρ : Operand → AV) (L : Heap) : Op → Option (FuncId × List AV × Heap)
  | .call ⟨.value f, args, _⟩ => match fnOf (ρ f) with
    | .fn g caps =>
      let as := args.toList.map ρ ++ caps
      let L1 := markIds L (as.flatMap ownOf)
      (handL C L1 ((C.P.funcs[g]?).map (·.params.toList) |>.getD []) as).map fun bs => (g, bs, L1)
    | _ => none
  | _ => none
theorem repAs_append : ∀ {as bs : List AV} {us vs : List Value}, RepAs m L w S as us → RepAs m L w S bs vs → RepAs m L w S (as ++ bs) (us ++ vs)
  | [], bs, us, vs, h, k => by simp only [RepAs] at h; subst h; simpa using k
  | a :: as, bs, us, vs, h, k => by
    simp only [RepAs] at h
    obtain ⟨u, r, rfl, h1, h2⟩ := h
    simp only [List.cons_append, RepAs]
    exact ⟨u, r ++ vs, by simp, h1, repAs_append h2 k⟩
theorem noX_L {X : Nat → Bool} {m1 : Nat → Value} {L1 : Heap} {w1 : World} {S1 : Nat → Nat → Prop} (hX : ∀ i, X i = false) (hg : Goes B X m L w S m1 L1 w1 S1) : ∀ {as : List AV} {us : List Value}, RepAs m L w S as us → RepAs m1 L1 w1 S1 as us
  | [], us, h => by simp only [RepAs] at h ⊢; exact h
  | a :: as, us, h => by
    simp only [RepAs] at h ⊢
    obtain ⟨u, r, rfl, h1, h2⟩ := h
    exact ⟨u, r, rfl, goes_noX hX hg h1, noX_L hX hg h2⟩
theorem opDoes_call (hI : Inv B m L w S) (hG : GlobOK C B w S) {ρ : Operand → AV} {a : Act} (h : ∀ x, RepA m L w S (ρ x) (a.eval x)) {o : Oper} {g : FuncId} {bs : List AV} {L1 : Heap} (hc : callA C ρ L o.op = some (g, bs, L1)) {av : AV} (hk : Contract C g bs av) :
    OpDoes C B (fun _ => false) m L w S a o av (if av.flat then L else L1) := by
  unfold callA at hc
  split at hc
  · rename_i f args ts ho
    split at hc
    · rename_i g' caps hf
      cases hh : handL C (markIds L ((args.toList.map ρ ++ caps).flatMap ownOf)) ((C.P.funcs[g']?).map (·.params.toList) |>.getD []) (args.toList.map ρ ++ caps) with
      | none => simp only [hh] at hc; cases hc
      | some bs' =>
        simp only [hh, Option.map_some, Option.some.injEq, Prod.mk.injEq] at hc
        obtain ⟨rfl, rfl, rfl⟩ := hc
        have hfv := fnOf_rep (h f)
        rw [hf] at hfv
        simp only [RepA] at hfv
        obtain ⟨vs, hev, hcaps⟩ := hfv
        have hall : RepAs m L w S (args.toList.map ρ ++ caps) (args.toList.map a.eval ++ vs) := repAs_append (repAs_map h _) hcaps
        obtain ⟨S1, g1, _, k1⟩ := markIds_goes (m := m) (w := w) (fun _ => false) ((args.toList.map ρ ++ caps).flatMap ownOf) hI
        have hall1 := noX_L (fun _ => rfl) g1 hall
        have hargs := handL_rep (C := C) g1.inv hall1 (fun a ha id hid => k1 id (List.mem_flatMap.2 ⟨a, ha, hid⟩)) hh
        have hS1 : ∀ b o, S1 b o → b < w.heap.size := fun b o hs => (g1.inv.prot b o hs).1
        have hcalls := hk.runs w S1 _ hS1 ((hG.go g1.safe g1.below).mono hI.base) hargs
        intro next Q hn
        unfold Oper.wp execOp
        rw [ho]
        have harr : (args.map a.eval ++ vs.toArray) = (args.toList.map a.eval ++ vs).toArray := by
          apply Array.ext'; simp
        simp only [resolve, Deferred.ofValue, hev, Sem.run_bind, Sem.run_pure, Result.andThen_ok, invoke, Array.empty_append, harr, hk.enters, Oper.upon]
        refine hcalls.mono ?_
        rintro e w' ⟨u, S', rfl, hbel, hsafe, hnew, hrep⟩
        have hgrow := Grows.of_below hbel
        cases hfl : av.flat with
        | true =>
          rw [hfl] at hn
          simp only [if_true] at hn
          exact hn u m w' S (Goes.grows hI hgrow _) (flat_rep hfl hrep)
        | false =>
          rw [hfl] at hn
          simp only [Bool.false_eq_true, if_false] at hn
          refine hn u m w' S' ?_ (rep_out hrep)
          refine g1.trans ⟨?_, hsafe, hgrow.below hI.base, Ext.refl _ _ _, fun b o hs => ((hnew b o hs).1).imp (fun h => h) (fun h => Nat.le_trans hI.base h)⟩
          have hI1 := g1.inv.grows hgrow
          refine ⟨hI1.base, ?_, ?_, hI1.obj, fun id T x h q => (hI1.lbx id T x h q).same ⟨hsafe.sub, fun _ _ _ => rfl⟩ (Ext.refl _ _ _) fun _ _ => rfl, hI1.apart, ?_⟩
          · intro id T x ro hL
            obtain ⟨b, cs, el, fr, q1, q2, q3, q4, q5⟩ := g1.inv.box id T x ro hL
            exact ⟨b, cs, el, fr, q1, q2, by rw [hgrow.block b (Array.getElem?_eq_some_iff.1 q3).1]; exact q3, q4, q5.safe hsafe⟩
          · intro id t e xs ro hL
            obtain ⟨cs, q1, q2⟩ := g1.inv.row id t e xs ro hL
            exact ⟨cs, row_grows hgrow q1, RepL.mono (fun x c h => h.safe hsafe) q2⟩
          · intro b o hs
            obtain ⟨q1, q2⟩ := hnew b o hs
            refine ⟨q2, fun i s hL hl hb => ?_⟩
            rcases q1 with q1 | q1
            · exact (g1.inv.prot b o q1).2 i s hL hl hb
            · have := (g1.inv.lt hL hl hb).2
              omega
    · cases hc
  · cases hc
end
end
section
set_option linter.unusedVariables false
set_option linter.unusedSimpArgs false
set_option maxHeartbeats 400000
def copyL {α : Type} (xs ys : List α) : List α := ys.take xs.length ++ xs.drop ys.length
theorem copyL_len {α : Type} (xs ys : List α) : (copyL xs ys).length = xs.length := by simp [copyL]; omega
def copyA (C : Cfg) (L : Heap) (t : TypeId) : AV → AV → A3
  | .rs id, s => match C.Ty t, elId C t, L[id]? with
    | some (.slice e), some te, some (.row te' e' xs false) => if e = e' ∧ te = te' then (liftA L (.slice e') s).map fun ys => (true, .v (.int .i64) ((Nat.min (List.length ys) (List.length xs) : Nat) : Int), L.set id (.row te' e' (copyL xs ys) false)) else none
    | _, _, _ => none
  | _, _ => none
section
variable {C : Cfg} {B : Nat} {m : Nat → Value} {L : Heap} {w w' : World} {S S' : Nat → Nat → Prop}
theorem run_copy_any {t t' ty te : TypeId} {inf : TypeInfo} (hu : C.P.underlying t = some (.slice te)) (hinf : C.P.info? te = some inf) {D A : Option Addr} {dLen dCap sLen sCap : Nat} {cs : List Value}
    (hl : ∀ a, A = some a → (loadCells a (Nat.min sLen dLen * inf.size)).run C.P w = .ok cs.toArray w) (hnil : A = none → cs = []) (hst : ∀ d, D = some d → (storeCells d cs).run C.P w = .ok () w') (hdn : D = none → w' = w) :
    (Builtin.copy_ #[t, t'] ty #[.slice D dLen dCap, .slice A sLen sCap]).run C.P w = .ok (goInt (Nat.min sLen dLen)) w' := by
  have hfc : (Builtin.firstCells inf.size (Nat.min sLen dLen) (.slice A sLen sCap)).run C.P w = .ok cs.toArray w := by
    cases A with
    | none => rw [hnil rfl]; rfl
    | some a => exact hl a rfl
  have hs : (sizeOf te).run C.P w = .ok inf.size w := by
    rw [run_sizeOf w hinf]; simp [Program.cellsOf, hinf]
  cases D with
  | none =>
    have := hdn rfl
    subst this
    simp [Builtin.copy_, run_underlying hu, Builtin.lenOf, Sem.run_bind, Sem.run_pure, hfc, hs]
  | some d =>
    have := hst d rfl
    simp [Builtin.copy_, run_underlying hu, Builtin.lenOf, Sem.run_bind, Sem.run_pure, hfc, hs, this]
theorem does_copy (hC : C.OK) (hI : Inv B m L w S) {t t' ty : TypeId} {d s : AV} {ud us : Value} (hd : RepA m L w S d ud) (hs : RepA m L w S s us) {av : AV} {L' : Heap} (hb : copyA C L t d s = some (true, av, L')) :
    Does C B (fun _ => false) m L w S (Builtin.copy_ #[t, t'] ty #[ud, us]) av L' := by
  unfold copyA at hb
  split at hb
  · rename_i da sa id
    split at hb
    · rename_i e te te' e' xs hty hte hL
      split at hb
      · rename_i hee
        obtain ⟨he, hq⟩ := hee
        subst he hq
        obtain ⟨ys, hl, hb⟩ := Option.map_eq_some_iff.1 hb
        simp only [Prod.mk.injEq, true_and] at hb
        obtain ⟨rfl, rfl⟩ := hb
        have hu := elId_eq hte
        obtain ⟨te2, inf, hu', hinf, hsz, hby, _⟩ := und_slice (hC.ty _ _ hty)
        rw [hu] at hu'; cases hu'
        obtain ⟨A, c, rfl, hsrc⟩ := src_rep hI hs hl
        simp only [RepA] at hd
        obtain ⟨sl, h1, h2, h3⟩ := hd
        rw [hL] at h1; cases h1
        obtain rfl := h3 te e xs false rfl
        obtain ⟨cs, ho, hr⟩ := hI.row id te e xs false hL
        have hcl := RepL.length (fun x c h => RepC.length h) hr
        have hlenC := copyL_len xs ys
        rcases ho.2 with ⟨hv, hn⟩ | ⟨g, cap, cur, hv, hg, hh, hle, hmx, hcs, htk⟩
        · -- nothing there
          have hx0 : xs = [] := List.eq_nil_of_length_eq_zero hn
          subst hx0
          have hcopy : copyL ([] : List e.I) ys = [] := List.eq_nil_of_length_eq_zero hlenC
          have hmin : Nat.min (List.length ys) 0 = 0 := by simp
          have hrun : (Builtin.copy_ #[t, t'] ty #[m id, .slice A (List.length ys) c]).run C.P w = .ok (goInt (Nat.min (List.length ys) 0)) w := by
            rw [hv]
            refine run_copy_any (cs := []) hu hinf (fun a _ => ?_) (fun _ => rfl) (fun d e => by cases e) (fun _ => rfl)
            rw [hmin, Nat.zero_mul]
            simp [loadCells, loadCellsFrom, Sem.run_pure]
          refine ⟨_, m, w, S, hrun, ?_, ?_⟩
          · rw [hcopy]
            have : L.set id (.row te e [] false) = L := by
              apply List.ext_getElem?
              intro j
              by_cases e' : j = id
              · subst e'; rw [get_set ⟨_, hL⟩, if_pos rfl, hL]
              · rw [List.getElem?_set_ne (Ne.symm e')]
            rw [this]
            exact Goes.grows hI (Grows.refl w) _
          · rw [rep_int]; rfl
        · have hblk : blk (m id) = some g := by rw [hv]; rfl
          -- what is read
          obtain ⟨es, q1, q2⟩ : ∃ es : List Value, RepL (RepC w S e) (ys.take xs.length) es ∧ (∀ a, A = some a → (loadCells a (Nat.min (List.length ys) (List.length xs) * inf.size)).run C.P w = .ok es.toArray w) ∧ (A = none → es = []) := by
            rcases hsrc with rfl | ⟨b, o, ds, rfl, f1, f2⟩
            · refine ⟨[], by simp [RepL], fun a _ => ?_, fun _ => rfl⟩
              simp [loadCells, loadCellsFrom, Sem.run_pure]
            · have t1 := (RepL.take (s := e.size) (fun x c h => RepC.length h) xs.length f1).1
              have hdl := RepL.length (fun x c h => RepC.length h) f1
              have tl := RepL.length (fun x c h => RepC.length h) t1
              refine ⟨_, t1, fun a ha => ?_, fun h => by cases h⟩
              cases ha
              have hlen : Nat.min (List.length ys) (List.length xs) * inf.size = (ds.take (xs.length * e.size)).length := by
                rw [tl, List.length_take, hsz, Nat.min_comm]
              rw [hlen]
              refine run_loadCells_list _ _ (w := w) (fun j v hj => ?_)
              obtain ⟨hlt, rfl⟩ := List.getElem?_eq_some_iff.1 hj
              rw [List.length_take] at hlt
              rw [add_at, f2 j (by omega)]
              simp
          obtain ⟨q2, q3⟩ := q2
          have ql := RepL.length (fun x c h => RepC.length h) q1
          have qle : es.length ≤ cs.length := by
            rw [ql, hcl, List.length_take]
            exact Nat.mul_le_mul_right _ (by omega)
          have hcur : cur = ([] ++ cs.take es.length ++ (cs.drop es.length ++ cur.toList.drop (xs.length * e.size))).toArray := by
            apply Array.ext'
            have h0 : cur.toList = cur.toList.take (xs.length * e.size) ++ cur.toList.drop (xs.length * e.size) := (List.take_append_drop _ _).symm
            refine h0.trans ?_
            rw [htk]
            simp only [List.nil_append, ← List.append_assoc, List.take_append_drop]
          have hone : ∀ u ∈ es, u.oneCell' = true := RepL.one (fun x c h => RepC.one h) q1
          have hw : ∃ w2, (storeCells ⟨g, 0, none⟩ es).run C.P w = .ok () w2 ∧ Wrote g ([] ++ es ++ (cs.drop es.length ++ cur.toList.drop (xs.length * e.size))) te (0, 0) w w2 := by
            rw [hcur] at hh
            refine ⟨w.setCells g (0 + 0) es, run_storeCells_cells g 0 es 0 w ?_ ?_ hone, ?_⟩
            · intro j hj
              rw [cell_of_block hh]
              simp only [Nat.zero_add, List.nil_append, List.getElem?_toArray, Option.isSome_iff_exists]
              refine ⟨_, List.getElem?_eq_getElem (by simp only [List.length_append, List.length_take]; omega)⟩
            · intro j hj
              rw [frozen_of_block hh]
              simp
            · obtain ⟨s1, s2, s3, s4⟩ := setCells_same g es (0 + 0) w
              exact ⟨heap_setCells_at g es _ w [] (cs.take es.length) _ te (0, 0) hh rfl (by rw [List.length_take]; omega), fun k hk => heap_setCells_ne g es _ w k hk, s1, s2, s3, s4⟩
          obtain ⟨w2, r1, r2⟩ := hw
          have hrun : (Builtin.copy_ #[t, t'] ty #[m id, .slice A (List.length ys) c]).run C.P w = .ok (goInt (Nat.min (List.length ys) (List.length xs))) w2 := by
            rw [hv]
            exact run_copy_any (cs := es) hu hinf q2 q3 (fun d e => by cases e; exact r1) (fun e => by cases e)
          refine ⟨_, m, w2, S, hrun, ?_, ?_⟩
          · refine Goes.wrote (s' := .row te e (copyL xs ys) false) hI hL rfl rfl hblk r2 ⟨rfl, by simp only [Slot.cells, hlenC]⟩ (by intro T x ro e; cases e) ?_ _
            intro t1 e1 xs1 ro1 e2
            cases e2
            have hrep : RepL (RepC w S e) (copyL xs ys) (es ++ cs.drop es.length) := by
              refine RepL.append q1 ?_
              have := (RepL.take (s := e.size) (fun x c h => RepC.length h) ys.length hr).2
              by_cases hc : ys.length ≤ xs.length
              · rw [ql, List.length_take, Nat.min_eq_right hc]
                exact this
              · have e1 : xs.drop ys.length = [] := List.drop_eq_nil_of_le (by omega)
                rw [e1, ql, List.length_take, Nat.min_eq_left (by omega), ← hcl, List.drop_length]
                rfl
            have hl3 := RepL.length (fun x c h => RepC.length h) hrep
            refine ⟨⟨xs, rfl, hlenC.symm⟩, es ++ cs.drop es.length, ⟨?_, .inr ⟨g, cap, _, ?_, hg, r2.here, ?_, hmx, ?_, ?_⟩⟩, hrep⟩
            · exact hl3
            · rw [hv, hlenC]
            · rw [hlenC]; exact hle
            · have hsz2 := congrArg Array.size hcur
              simp only [List.size_toArray, List.length_append, List.length_take, List.nil_append, List.length_nil] at hsz2
              rw [← hcs, hsz2]
              simp only [List.size_toArray, List.length_append, List.nil_append, List.length_nil]
              omega
            · rw [← hl3]
              simp only [List.nil_append, ← List.append_assoc]
              exact List.take_left' rfl
          · rw [rep_int]; rfl
      · cases hb
    · cases hb
  · cases hb
theorem copyA_keeps {t : TypeId} {d s av : AV} {c : Bool} {L' : Heap} (h : copyA C L t d s = some (c, av, L')) {j : Nat} (hr : L[j]? = some .resv) : L'[j]? = some .resv := by
  unfold copyA at h
  split at h
  · rename_i da sa id
    split at h
    · rename_i e te te' e' xs hty hte hL
      split at h
      · obtain ⟨ys, _, h⟩ := Option.map_eq_some_iff.1 h
        cases h
        have hne : j ≠ id := fun e => by subst e; rw [hr] at hL; cases hL
        rw [List.getElem?_set_ne (Ne.symm hne)]; exact hr
      · cases h
    · cases h
  · cases h
end
end
section
set_option linter.unusedVariables false
set_option linter.unusedSimpArgs false
set_option maxHeartbeats 400000
def freeH (hs : List (Nat × Option Nat)) (o n : Nat) : Bool := hs.all fun p => Nat.blt p.1 o || Nat.ble (o + n) p.1
def outH (hs : List (Nat × Option Nat)) (o n : Nat) : List (Nat × Option Nat) := hs.filter fun p => Nat.blt p.1 o || Nat.ble (o + n) p.1
def preP : List PStep → List PStep
  | .fld k :: p => .fld k :: preP p
  | _ => []
def lowP (T : ETy) (q : List PStep) : Nat := off T (preP q)
def widP (T : ETy) (q : List PStep) : Nat := match tyP T (preP q) with
  | some τ => τ.size
  | none => 0
theorem setP_ty : ∀ {T : ETy} {x y : T.I} {p : List PStep} {d : Dat}, setP T x p d = some y → tyP T p = some d.τ
  | T, x, y, [], d, h => by
    simp only [setP] at h
    obtain ⟨e, _⟩ := castI_eq h
    simp only [tyP, e]
  | .pair a b, x, y, .fld 0 :: p, d, h => by
    simp only [setP, Option.map_eq_some_iff] at h
    obtain ⟨y', h, _⟩ := h
    simp only [tyP]
    exact setP_ty h
  | .pair a b, x, y, .fld (k + 1) :: p, d, h => by
    simp only [setP, Option.map_eq_some_iff] at h
    obtain ⟨y', h, _⟩ := h
    simp only [tyP]
    exact setP_ty h
  | .arr n e, x, y, .idx i :: p, d, h => by
    simp only [setP, Option.map_eq_some_iff] at h
    obtain ⟨y', h, _⟩ := h
    simp only [tyP]
    exact setP_ty h
  | .int _, _, _, .fld _ :: _, _, h | .int _, _, _, .idx _ :: _, _, h | .bool, _, _, .fld _ :: _, _, h | .bool, _, _, .idx _ :: _, _, h | .str, _, _, .fld _ :: _, _, h | .str, _, _, .idx _ :: _, _, h | .raw _, _, _, .fld _ :: _, _, h | .raw _, _, _, .idx _ :: _, _, h | .unit, _, _, .fld _ :: _, _, h | .unit, _, _, .idx _ :: _, _, h | .slice _, _, _, .fld _ :: _, _, h | .slice _, _, _, .idx _ :: _, _, h | .pair _ _, _, _, .idx _ :: _, _, h | .arr _ _, _, _, .fld _ :: _, _, h => by simp [setP] at h
theorem size_off : ∀ {T : ETy} {q : List PStep} {σ : ETy}, okP T q → tyP T q = some σ → off T q + σ.size ≤ T.size
  | T, [], σ, _, h => by
    simp only [tyP, Option.some.injEq] at h
    subst h
    simp [off]
  | .pair a b, .fld 0 :: p, σ, ho, h => by
    simp only [tyP] at h
    simp only [okP] at ho
    have := size_off ho h
    simp only [off, ETy.size]
    omega
  | .pair a b, .fld (k + 1) :: p, σ, ho, h => by
    simp only [tyP] at h
    simp only [okP] at ho
    have := size_off ho h
    simp only [off, ETy.size]
    omega
  | .arr n e, .idx i :: p, σ, ho, h => by
    simp only [tyP] at h
    simp only [okP] at ho
    have h1 := size_off ho.2 h
    have h2 : (i + 1) * e.size ≤ n * e.size := Nat.mul_le_mul_right _ ho.1
    rw [Nat.succ_mul] at h2
    simp only [off, ETy.size]
    omega
  | .int _, .fld _ :: _, _, _, h | .int _, .idx _ :: _, _, _, h | .bool, .fld _ :: _, _, _, h | .bool, .idx _ :: _, _, _, h | .str, .fld _ :: _, _, _, h | .str, .idx _ :: _, _, _, h | .raw _, .fld _ :: _, _, _, h | .raw _, .idx _ :: _, _, _, h | .unit, .fld _ :: _, _, _, h | .unit, .idx _ :: _, _, _, h | .slice _, .fld _ :: _, _, _, h | .slice _, .idx _ :: _, _, _, h | .pair _ _, .idx _ :: _, _, _, h | .arr _ _, .fld _ :: _, _, _, h => by simp [tyP] at h
theorem pre_in : ∀ {T : ETy} {q : List PStep} {σ : ETy}, okP T q → tyP T q = some σ → lowP T q ≤ off T q ∧ off T q + σ.size ≤ lowP T q + widP T q
  | .pair a b, .fld 0 :: p, σ, ho, h => by
    simp only [tyP] at h
    simp only [okP] at ho
    have := pre_in ho h
    simp only [lowP, widP, preP, off, tyP] at this ⊢
    exact this
  | .pair a b, .fld (k + 1) :: p, σ, ho, h => by
    simp only [tyP] at h
    simp only [okP] at ho
    have := pre_in ho h
    simp only [lowP, widP, preP, off, tyP] at this ⊢
    omega
  | T, [], σ, ho, h => by
    simp only [tyP, Option.some.injEq] at h
    subst h
    simp [lowP, widP, preP, off, tyP]
  | .arr n e, .idx i :: p, σ, ho, h => by
    have := size_off ho h
    simp only [lowP, widP, preP, tyP]
    simp only [off] at this ⊢
    omega
  | .int _, .fld _ :: _, _, _, h | .int _, .idx _ :: _, _, _, h | .bool, .fld _ :: _, _, _, h | .bool, .idx _ :: _, _, _, h | .str, .fld _ :: _, _, _, h | .str, .idx _ :: _, _, _, h | .raw _, .fld _ :: _, _, _, h | .raw _, .idx _ :: _, _, _, h | .unit, .fld _ :: _, _, _, h | .unit, .idx _ :: _, _, _, h | .slice _, .fld _ :: _, _, _, h | .slice _, .idx _ :: _, _, _, h | .pair _ _, .idx _ :: _, _, _, h | .arr _ _, .fld _ :: _, _, _, h => by simp [tyP] at h
theorem freeH_sub {o n o' n' : Nat} (h0 : o ≤ o') (h1 : o' + n' ≤ o + n) : ∀ {hs : List (Nat × Option Nat)}, freeH hs o n = true → freeH hs o' n' = true
  | [], _ => rfl
  | (a, r) :: l, h => by
    unfold freeH at h ⊢
    rw [List.all_cons, Bool.and_eq_true] at h ⊢
    refine ⟨?_, freeH_sub h0 h1 h.2⟩
    have h2 := h.1
    simp [Nat.blt] at h2 ⊢
    omega
theorem outH_free {o n : Nat} {hs : List (Nat × Option Nat)} (h : freeH hs o n = true) : outH hs o n = hs :=
  List.filter_eq_self.2 (List.all_eq_true.1 h)
theorem freeH_lk {o n j : Nat} (hj : j < n) : ∀ {hs : List (Nat × Option Nat)}, freeH hs o n = true → lk hs (o + j) = none
  | [], _ => rfl
  | (a, r) :: l, h => by
    unfold freeH at h
    rw [List.all_cons, Bool.and_eq_true] at h
    have ha : (a == o + j) = false := by
      rw [beq_eq_false_iff_ne]
      intro e
      subst e
      have := h.1
      simp [Nat.blt] at this
      omega
    show (bif a == o + j then some r else lk l (o + j)) = none
    rw [ha]
    exact freeH_lk hj h.2
theorem outH_lk {o n i : Nat} (hi : i < o ∨ o + n ≤ i) : ∀ (hs : List (Nat × Option Nat)), lk (outH hs o n) i = lk hs i
  | [] => rfl
  | (a, r) :: l => by
    have ih := outH_lk hi l
    unfold outH at ih ⊢
    rw [List.filter_cons]
    by_cases h : (Nat.blt a o || Nat.ble (o + n) a) = true
    · rw [if_pos h]
      show (bif a == i then some r else lk _ i) = bif a == i then some r else lk l i
      rw [ih]
    · rw [if_neg h, ih]
      have : (a == i) = false := by
        rw [beq_eq_false_iff_ne]
        intro e
        subst e
        apply h
        rcases hi with hi | hi
        · simp [Nat.blt]; omega
        · simp; omega
      show lk l i = bif a == i then some r else lk l i
      rw [this]; rfl
theorem outH_in {o n i : Nat} (h0 : o ≤ i) (h1 : i < o + n) : ∀ (hs : List (Nat × Option Nat)), lk (outH hs o n) i = none
  | [] => rfl
  | (a, r) :: l => by
    have ih := outH_in h0 h1 l
    unfold outH at ih ⊢
    rw [List.filter_cons]
    by_cases h : (Nat.blt a o || Nat.ble (o + n) a) = true
    · rw [if_pos h]
      have : (a == i) = false := by
        rw [beq_eq_false_iff_ne]
        intro e
        subst e
        simp [Nat.blt] at h
        omega
      show (bif a == i then some r else lk _ i) = none
      rw [this]; exact ih
    · rw [if_neg h]; exact ih
section
variable {C : Cfg} {B : Nat} {m : Nat → Value} {L : Heap} {w w' : World} {S S' : Nat → Nat → Prop}
theorem run_storeCells' {P : Program} {τ : ETy} {t : TypeId} (h : GoodTy P t τ) {b : Nat} {pre mid post : List Value} {elem : TypeId} {fr : Nat × Nat} (hb : w.heap[b]? = some (.cells (pre ++ mid ++ post).toArray elem fr))
    (hfr : ∀ o, o < (pre ++ mid ++ post).length → ¬ (fr.1 ≤ o ∧ o < fr.2)) {v : Value} {ms : List Value} (hv : v.cells = ms.toArray) (hml : ms.length = τ.size) (hone : ∀ u ∈ ms, u.oneCell' = true) (hl : mid.length = τ.size) :
    ∃ w2, (storeVar t ⟨b, pre.length, none⟩ v).run P w = .ok () w2 ∧ Wrote b (pre ++ ms ++ post) elem fr w w2 := by
  have hcell : ∀ j, j < ms.length → (w.cell? ⟨b, pre.length + 0 + j, none⟩).isSome = true := by
    intro j hj
    rw [cell_of_block hb]
    simp
    omega
  have hun : ∀ j, j < ms.length → w.frozen? ⟨b, pre.length + 0 + j, none⟩ = false := by
    intro j hj
    rw [frozen_of_block hb]
    have := hfr (pre.length + 0 + j) (by simp; omega)
    simp only [Bool.and_eq_false_iff, decide_eq_false_iff_not]
    omega
  refine ⟨w.setCells b (pre.length + 0) ms, ?_, ?_⟩
  · simp only [storeVar, Sem.run_bind, run_sizeOf' h, Result.andThen_ok, hv]
    simp only [List.size_toArray, hml, ne_eq, not_true_eq_false, if_false, Sem.run_pure, Result.andThen_ok]
    exact run_storeCells_cells b pre.length ms 0 w hcell hun hone
  · obtain ⟨s1, s2, s3, s4⟩ := setCells_same b ms (pre.length + 0) w
    exact ⟨heap_setCells_at b ms _ w pre mid post elem fr hb rfl (by omega), fun k hk => heap_setCells_ne b ms _ w k hk, s1, s2, s3, s4⟩
theorem Goes.relink (hI : Inv B m L w S) {id b : Nat} {T : ETy} {x x' : T.I} {hs hs' : List (Nat × Option Nat)} (hid : L[id]? = some (.lbx T x hs)) (hm : m id = .pointer (some ⟨b, 0, none⟩)) {ds : List Value} {el : TypeId} {fr : Nat × Nat} (hw : Wrote b ds el fr w w')
    (hok : LbxOK B m L (m id) w' S T x' hs') (X : Nat → Bool) : Goes B X m L w S m (L.set id (.lbx T x' hs')) w' S := by
  have hb : b ∈ blks (m id) := by rw [hm]; exact in_ptr _ _
  have gs := get_set (s := .lbx T x' hs') ⟨_, hid⟩
  have hnS : ∀ o, ¬ S b o := fun o h => by
    have := ((hI.prot b o h).2 id _ hid rfl hb).1
    cases this
  have hsafe : Safe S S w w' := ⟨fun _ _ h => h, fun b' o h => World.cell?_of_block (a := ⟨b', o, none⟩) (hw.there b' (fun e => by subst e; exact hnS o h))⟩
  have hlt := hI.lt hid rfl hb
  have hother : ∀ j r, j ≠ id → L[j]? = some r → r.live = true → ∀ b', b' ∈ blks (m j) → b' ≠ b := by
    intro j r hj hr hrl b' hb' e
    subst e
    exact hI.apart j id r _ hj hr hid hrl rfl b' hb' hb
  have he : ∀ X, Ext X m L m (L.set id (.lbx T x' hs')) := by
    intro X
    refine ⟨?_⟩
    intro j r hr hne
    by_cases e : j = id
    · subst e
      rw [hid] at hr; cases hr
      refine ⟨.lbx T x' hs', by rw [gs, if_pos rfl], by simp, fun T' h => ⟨rfl, h⟩, fun o h => (by cases h), fun t e xs ro _ h => (by cases h)⟩
    · exact ⟨r, by rw [gs, if_neg e]; exact hr, hne, fun T h => ⟨rfl, h⟩, fun o h => ⟨fun u sv h => ⟨sv, h⟩, o, h⟩, fun t e xs ro _ h => ⟨rfl, xs, ro, h, Nat.le_refl _⟩⟩
  have live : ∀ {j : Nat} {r : Slot}, (L.set id (.lbx T x' hs'))[j]? = some r → ∃ r', L[j]? = some r' ∧ r'.live = r.live ∧ r'.ro = r.ro ∧ r'.cells = r.cells := by
    intro j r h
    rw [gs] at h
    split at h
    · rename_i e; subst e; cases h; exact ⟨_, hid, rfl, rfl, rfl⟩
    · exact ⟨r, h, rfl, rfl, rfl⟩
  refine ⟨⟨by rw [hw.size]; exact hI.base, ?_, ?_, ?_, ?_, ?_, ?_⟩, hsafe, ⟨hw.os, hw.tape, hw.output, by rw [hw.size]; exact Nat.le_refl _, fun k hk => hw.there k (by omega)⟩, he X, fun _ _ h => .inl h⟩
  · intro j T' y ro h
    rw [gs] at h
    split at h
    · cases h
    · rename_i e
      obtain ⟨b', cs', el', fr', hm', h4, h5, h6, h7⟩ := hI.box j T' y ro h
      refine ⟨b', cs', el', fr', hm', h4, ?_, h6, h7.safe hsafe⟩
      rw [hw.there b' (hother j _ e h rfl b' (by rw [hm']; exact in_ptr _ _))]
      exact h5
  · intro j t e xs ro h
    rw [gs] at h
    split at h
    · cases h
    · rename_i e'
      obtain ⟨ds', h1, h2⟩ := hI.row j t e xs ro h
      refine ⟨ds', ⟨h1.1, h1.2.imp (fun h => h) ?_⟩, RepL.mono (fun x c h => h.safe hsafe) h2⟩
      rintro ⟨g, cap, cur, hv, hg, hh, r⟩
      refine ⟨g, cap, cur, hv, hg, ?_, r⟩
      rw [hw.there g (hother j _ e' h rfl g (by rw [hv]; exact in_slc _ _ _ _))]
      exact hh
  · intro j o h
    rw [gs] at h
    split at h
    · cases h
    · rename_i e'
      exact (hI.obj j o h).kept fun b' hb' => hw.there b' (hother j _ e' h rfl b' hb')
  · intro j T' y q h
    rw [gs] at h
    split at h
    · rename_i e'; subst e'; cases h
      exact hok.same (Safe.refl _ _) (he _) fun _ _ => rfl
    · rename_i e'
      exact (hI.lbx j T' y q h).same hsafe (he _) fun b' hb' => hw.there b' (hother j _ e' h rfl b' hb')
  · intro i j s1 s2 hne h1 h2 l1 l2
    obtain ⟨r1, e1, e2, _⟩ := live h1
    obtain ⟨r2, e3, e4, _⟩ := live h2
    exact hI.apart i j r1 r2 hne e1 e3 (by rw [e2]; exact l1) (by rw [e4]; exact l2)
  · intro b' o h
    obtain ⟨p1, p2⟩ := hI.prot b' o h
    refine ⟨by rw [hw.size]; exact p1, fun i r hr hrl hbi => ?_⟩
    obtain ⟨r', e1, e2, e3, e4⟩ := live hr
    have := p2 i r' e1 (by rw [e2]; exact hrl) hbi
    rw [← e3, ← e4]; exact this
theorem Goes.unlink (hI : Inv B m L w S) {id : Nat} {T : ETy} {x : T.I} (hid : L[id]? = some (.lbx T x [])) (X : Nat → Bool) : Goes B X m L w S m (L.set id (.box T x false)) w S := by
  have gs := get_set (s := .box T x false) ⟨_, hid⟩
  have he : ∀ X, Ext X m L m (L.set id (.box T x false)) := by
    intro X
    refine ⟨?_⟩
    intro j r hr hne
    by_cases e : j = id
    · subst e
      rw [hid] at hr; cases hr
      refine ⟨.box T x false, by rw [gs, if_pos rfl], by simp, fun T' h => ⟨rfl, h⟩, fun o h => (by cases h), fun t e xs ro _ h => (by cases h)⟩
    · exact ⟨r, by rw [gs, if_neg e]; exact hr, hne, fun T h => ⟨rfl, h⟩, fun o h => ⟨fun u sv h => ⟨sv, h⟩, o, h⟩, fun t e xs ro _ h => ⟨rfl, xs, ro, h, Nat.le_refl _⟩⟩
  have live : ∀ {j : Nat} {r : Slot}, (L.set id (.box T x false))[j]? = some r → ∃ r', L[j]? = some r' ∧ r'.live = r.live := by
    intro j r h
    rw [gs] at h
    split at h
    · rename_i e; subst e; cases h; exact ⟨_, hid, rfl⟩
    · exact ⟨r, h, rfl⟩
  refine ⟨⟨hI.base, ?_, ?_, ?_, ?_, ?_, ?_⟩, Safe.refl _ _, Below.refl _ _, he X, fun _ _ h => .inl h⟩
  · intro j T' y ro h
    rw [gs] at h
    split at h
    · rename_i e; subst e; cases h
      obtain ⟨b, cs, ds, el, fr, hm, hB, hb, hfr, hr, hlen, hone, hn, hl⟩ := hI.lbx _ T x [] hid
      have hd : ds = cs := List.ext_getElem? fun o => hn o rfl
      subst hd
      exact ⟨b, ds, el, fr, hm, hB, hb, hfr, hr⟩
    · exact hI.box j T' y ro h
  · intro j t e xs ro h
    rw [gs] at h
    split at h
    · cases h
    · exact hI.row j t e xs ro h
  · intro j o h
    rw [gs] at h
    split at h
    · cases h
    · exact hI.obj j o h
  · intro j T' y q h
    rw [gs] at h
    split at h
    · cases h
    · exact (hI.lbx j T' y q h).same (Safe.refl _ _) (he _) fun _ _ => rfl
  · intro i j s1 s2 hne h1 h2 l1 l2
    obtain ⟨r1, e1, e2⟩ := live h1
    obtain ⟨r2, e3, e4⟩ := live h2
    exact hI.apart i j r1 r2 hne e1 e3 (by rw [e2]; exact l1) (by rw [e4]; exact l2)
  · intro b' o h
    obtain ⟨p1, p2⟩ := hI.prot b' o h
    refine ⟨p1, fun i r hr hrl hbi => ?_⟩
    rw [gs] at hr
    split at hr
    · rename_i e; subst e
      have := (p2 i _ hid rfl hbi).1
      cases this
    · exact p2 i r hr hrl hbi
def boxH (T : ETy) (x : T.I) : List (Nat × Option Nat) → Slot
  | [] => .box T x false
  | p :: hs => .lbx T x (p :: hs)
theorem Goes.boxH {X : Nat → Bool} {m' : Nat → Value} {w' : World} {S' : Nat → Nat → Prop} {L1 : Heap} {id : Nat} {T : ETy} {x : T.I} {s0 : Slot} (hL : L1[id]? = some s0) : ∀ {hs : List (Nat × Option Nat)}, Goes B X m L w S m' (L1.set id (.lbx T x hs)) w' S' → Goes B X m L w S m' (L1.set id (K.boxH T x hs)) w' S'
  | [], h => by
    have h1 := Goes.unlink (id := id) (T := T) (x := x) h.inv (by rw [get_set ⟨_, hL⟩, if_pos rfl]) X
    rw [List.set_set] at h1
    exact h.trans h1
  | _ :: _, h => h
theorem load_free (hC : C.OK) (hI : Inv B m L w S) {t : TypeId} {id : Nat} {p : List PStep} {T : ETy} {x : T.I} {hs : List (Nat × Option Nat)} {u : Value} (hL : L[id]? = some (.lbx T x hs)) (hx : RepA m L w S (.ref id p) u) {d : Dat} (hd : getP T x p = some d) (ht : C.Ty t = some d.τ)
    (hf : freeH hs (off T p) d.τ.size = true) : ∃ v, (Instr.loadAt t u).run C.P w = .ok v w ∧ RepA m L w S (.v d.τ d.x) v := by
  simp only [RepA] at hx
  obtain ⟨s, h1, h2, h3⟩ := hx
  rw [hL] at h1; cases h1
  obtain ⟨h0, b, hm, rfl⟩ := h3.1 T rfl
  obtain ⟨b', cs, ds, el, fr, hm', hB, hb, hfr, hr, hlen, hone, hn, hl⟩ := hI.lbx id T x hs hL
  rw [hm] at hm'; cases hm'
  obtain ⟨pre, mid, post, rfl, e2, e3, _⟩ := getP_rep h0 hr hd
  refine ⟨_, ?_, valOf_rep e3⟩
  simp only [Instr.loadAt, Instr.sureAddr, Sem.run_bind, Sem.run_pure, Result.andThen_ok]
  refine run_loadVar' (hC.ty _ _ ht) e3.length fun j hj => ?_
  have hlt : off T p + j < ds.length := by rw [hlen]; simp; omega
  have h4 := cellsAt_block hb (off T p + j) hlt
  rw [Nat.zero_add] at h4
  rw [h4]
  have h5 := hn (off T p + j) (freeH_lk (by rw [← e3.length]; exact hj) hf)
  rw [List.getElem?_eq_getElem hlt] at h5
  rw [h5, ← e2, List.getElem?_append_left (by simp; omega), List.getElem?_append_right (by omega), Nat.add_sub_cancel_left, List.getElem?_eq_getElem hj]
theorem load_link (hC : C.OK) (hI : Inv B m L w S) {t : TypeId} {id rid : Nat} {p : List PStep} {T e : ETy} {x : T.I} {hs : List (Nat × Option Nat)} {u : Value} (hL : L[id]? = some (.lbx T x hs)) (hx : RepA m L w S (.ref id p) u) (ht : C.Ty t = some (.slice e))
    (hk : lk hs (off T p) = some (some rid)) : ∃ v, (Instr.loadAt t u).run C.P w = .ok v w ∧ RepA m L w S (.rs rid) v := by
  simp only [RepA] at hx
  obtain ⟨s, h1, h2, h3⟩ := hx
  rw [hL] at h1; cases h1
  obtain ⟨h0, b, hm, rfl⟩ := h3.1 T rfl
  obtain ⟨b', cs, ds, el, fr, hm', hB, hb, hfr, hr, hlen, hone, hn, hl⟩ := hI.lbx id T x hs hL
  rw [hm] at hm'; cases hm'
  obtain ⟨v, hv, s, q1, q2, q3⟩ := hl _ _ hk
  obtain ⟨hlt, hv⟩ := List.getElem?_eq_some_iff.1 hv
  refine ⟨v, ?_, by simp only [RepA]; exact ⟨s, q1, q2, q3⟩⟩
  simp only [Instr.loadAt, Instr.sureAddr, Sem.run_bind, Sem.run_pure, Result.andThen_ok]
  have := run_loadVar' (P := C.P) (w := w) (hC.ty _ _ ht) (b := b) (o := off T p) (cs := [v]) rfl fun j hj => by
    have hj0 : j = 0 := by simpa using hj
    subst hj0
    have h4 := cellsAt_block hb (off T p) hlt
    rw [Nat.zero_add] at h4
    rw [Nat.add_zero, h4, hv]
    rfl
  exact this
theorem parts3 {ds : List Value} {o n : Nat} (h : o + n ≤ ds.length) : ds = ds.take o ++ (ds.drop o).take n ++ ds.drop (o + n) := by
  rw [List.append_assoc, ← List.drop_drop, List.take_append_drop, List.take_append_drop]
theorem store_free (hC : C.OK) (hI : Inv B m L w S) {t : TypeId} {id : Nat} {p : List PStep} {T τ : ETy} {x x' : T.I} {y : τ.I} {hs : List (Nat × Option Nat)} {up ua : Value} (hL : L[id]? = some (.lbx T x hs)) (hp : RepA m L w S (.ref id p) up) (ha : RepV w S τ y ua) (ht : C.Ty t = some τ)
    (hset : setP T x p ⟨τ, y⟩ = some x') : ∃ w', (Instr.storeAt t up ua).run C.P w = .ok () w' ∧ Goes B (fun _ => false) m L w S m (L.set id (.lbx T x' (outH hs (off T p) τ.size))) w' S := by
  simp only [RepA] at hp
  obtain ⟨s, h1, h2, h3⟩ := hp
  rw [hL] at h1; cases h1
  obtain ⟨h0, b, hm, rfl⟩ := h3.1 T rfl
  obtain ⟨b', cs, ds, el, fr, hm', hB, hb, hfr, hr, hlen, hone, hn, hl⟩ := hI.lbx id T x hs hL
  rw [hm] at hm'; cases hm'
  obtain ⟨ms, hms, rfl⟩ := ha
  obtain ⟨d, hd⟩ := getP_of_set hset
  obtain ⟨pre, mid, post, rfl, e2, e3, e4⟩ := getP_rep h0 hr hd
  obtain ⟨f1, f2⟩ := e4 ⟨τ, y⟩ x' ms hms hset
  have f1 : τ = d.τ := f1
  have hmid := e3.length
  rw [← f1] at hmid
  have hml := hms.length
  simp only [List.length_append] at hlen
  have h3p := parts3 (ds := ds) (o := off T p) (n := τ.size) (by omega)
  obtain ⟨dp, hdp⟩ : ∃ q, ds.take (off T p) = q := ⟨_, rfl⟩
  obtain ⟨dm, hdm⟩ : ∃ q, (ds.drop (off T p)).take τ.size = q := ⟨_, rfl⟩
  obtain ⟨dq, hdq⟩ : ∃ q, ds.drop (off T p + τ.size) = q := ⟨_, rfl⟩
  rw [hdp, hdm, hdq] at h3p
  have l1 : dp.length = off T p := by rw [← hdp, List.length_take]; omega
  have l2 : dm.length = τ.size := by rw [← hdm, List.length_take, List.length_drop]; omega
  have l3 : dq.length = post.length := by rw [← hdq, List.length_drop]; omega
  subst h3p
  obtain ⟨w2, r1, r2⟩ := run_storeCells' (P := C.P) (hC.ty _ _ ht) hb hfr (cells_valOf hms) hml (fun u hu => hms.one u hu) l2
  rw [l1] at r1
  refine ⟨w2, by simp only [Instr.storeAt, Instr.sureAddr, Sem.run_bind, Sem.run_pure, Result.andThen_ok]; exact r1, ?_⟩
  refine Goes.relink hI hL hm r2 ?_ _
  have hsafe : Safe S S w w2 := ⟨fun _ _ h => h, fun b' o h => World.cell?_of_block (a := ⟨b', o, none⟩) (r2.there b' (fun e => by
    subst e
    have := ((hI.prot _ o h).2 id _ hL rfl (by rw [hm]; exact in_ptr _ _)).1
    cases this))⟩
  refine ⟨b, pre ++ ms ++ post, dp ++ ms ++ dq, el, fr, hm, hB, r2.here, fun o ho => hfr o (by simp only [List.length_append] at ho ⊢; omega), f2.safe hsafe, by simp only [List.length_append]; omega, ?_, ?_, ?_⟩
  · intro u hu
    simp only [List.mem_append] at hu
    rcases hu with (hu | hu) | hu
    · exact hone u (by simp [hu])
    · exact hms.one u hu
    · exact hone u (by simp [hu])
  · intro i hi
    rcases Nat.lt_or_ge i (off T p) with hlt | hge
    · rw [outH_lk (.inl hlt)] at hi
      have := hn i hi
      rw [List.append_assoc, List.getElem?_append_left (by omega), List.append_assoc, List.getElem?_append_left (by omega)] at this
      rw [List.append_assoc, List.getElem?_append_left (by omega), List.append_assoc, List.getElem?_append_left (by omega)]
      exact this
    · rcases Nat.lt_or_ge i (off T p + τ.size) with hlt2 | hge2
      · rw [List.append_assoc, List.getElem?_append_right (by omega), List.getElem?_append_left (by omega), List.append_assoc, List.getElem?_append_right (by omega), List.getElem?_append_left (by omega), l1, e2]
      · rw [outH_lk (.inr hge2)] at hi
        have := hn i hi
        rw [List.getElem?_append_right (by simp only [List.length_append]; omega), List.getElem?_append_right (by simp only [List.length_append]; omega)] at this
        rw [List.getElem?_append_right (by simp only [List.length_append]; omega), List.getElem?_append_right (by simp only [List.length_append]; omega)]
        simp only [List.length_append, l1, l2, e2, hmid, hml] at this ⊢
        exact this
  · intro i rid hi
    have hout : i < off T p ∨ off T p + τ.size ≤ i := by
      rcases Nat.lt_or_ge i (off T p) with h | h
      · exact .inl h
      · rcases Nat.lt_or_ge i (off T p + τ.size) with h' | h'
        · rw [outH_in h h'] at hi; cases hi
        · exact .inr h'
    rw [outH_lk hout] at hi
    obtain ⟨u, q1, q2⟩ := hl i rid hi
    refine ⟨u, ?_, q2⟩
    rcases hout with h | h
    · rw [List.append_assoc, List.getElem?_append_left (by omega)] at q1 ⊢
      exact q1
    · rw [List.getElem?_append_right (by simp only [List.length_append]; omega)] at q1 ⊢
      simp only [List.length_append, l1, l2, hml] at q1 ⊢
      exact q1
theorem store_link (hC : C.OK) (hI : Inv B m L w S) {t te : TypeId} {id rid : Nat} {p : List PStep} {T e : ETy} {x : T.I} {xs : List e.I} {ro : Bool} {hs : List (Nat × Option Nat)} {up ua : Value} (hL : L[id]? = some (.lbx T x hs)) (hp : RepA m L w S (.ref id p) up) (ha : RepA m L w S (.rs rid) ua)
    (hR : L[rid]? = some (.row te e xs ro)) {d : Dat} (hd : getP T x p = some d) (ht : C.Ty t = some d.τ) (hds : d.τ.size = 1) : ∃ w', (Instr.storeAt t up ua).run C.P w = .ok () w' ∧ Goes B (fun _ => false) m L w S m (L.set id (.lbx T x ((off T p, some rid) :: outH hs (off T p) 1))) w' S := by
  simp only [RepA] at hp
  obtain ⟨s, h1, h2, h3⟩ := hp
  rw [hL] at h1; cases h1
  obtain ⟨h0, b, hm, rfl⟩ := h3.1 T rfl
  obtain ⟨b', cs, ds, el, fr, hm', hB, hb, hfr, hr, hlen, hone, hn, hl⟩ := hI.lbx id T x hs hL
  rw [hm] at hm'; cases hm'
  simp only [RepA] at ha
  obtain ⟨s, g1, g2, g3⟩ := ha
  rw [hR] at g1; cases g1
  obtain rfl := g3 te e xs ro rfl
  obtain ⟨cr, ho, _⟩ := hI.row rid te e xs ro hR
  have hsl : ∃ A n c, m rid = .slice A n c := by
    rcases ho.2 with ⟨h, _⟩ | ⟨g, cap, cur, h, _⟩
    · exact ⟨_, _, _, h⟩
    · exact ⟨_, _, _, h⟩
  obtain ⟨A, n, c, hsl⟩ := hsl
  obtain ⟨pre, mid, post, rfl, e2, e3, _⟩ := getP_rep h0 hr hd
  have hmid : mid.length = 1 := by rw [e3.length, hds]
  simp only [List.length_append] at hlen
  have h3p := parts3 (ds := ds) (o := off T p) (n := 1) (by omega)
  obtain ⟨dp, hdp⟩ : ∃ q, ds.take (off T p) = q := ⟨_, rfl⟩
  obtain ⟨dm, hdm⟩ : ∃ q, (ds.drop (off T p)).take 1 = q := ⟨_, rfl⟩
  obtain ⟨dq, hdq⟩ : ∃ q, ds.drop (off T p + 1) = q := ⟨_, rfl⟩
  rw [hdp, hdm, hdq] at h3p
  have l1 : dp.length = off T p := by rw [← hdp, List.length_take]; omega
  have l2 : dm.length = 1 := by rw [← hdm, List.length_take, List.length_drop]; omega
  have l3 : dq.length = post.length := by rw [← hdq, List.length_drop]; omega
  subst h3p
  have hone1 : ∀ u ∈ [m rid], u.oneCell' = true := by
    intro u hu
    rw [List.mem_singleton] at hu
    rw [hu, hsl]; rfl
  obtain ⟨w2, r1, r2⟩ := run_storeCells' (P := C.P) (hC.ty _ _ ht) hb hfr (v := m rid) (ms := [m rid]) (by rw [hsl]; rfl) hds.symm hone1 (l2.trans hds.symm)
  rw [l1] at r1
  refine ⟨w2, by simp only [Instr.storeAt, Instr.sureAddr, Sem.run_bind, Sem.run_pure, Result.andThen_ok]; exact r1, ?_⟩
  refine Goes.relink hI hL hm r2 ?_ _
  have hsafe : Safe S S w w2 := ⟨fun _ _ h => h, fun b' o h => World.cell?_of_block (a := ⟨b', o, none⟩) (r2.there b' (fun e => by
    subst e
    have := ((hI.prot _ o h).2 id _ hL rfl (by rw [hm]; exact in_ptr _ _)).1
    cases this))⟩
  refine ⟨b, pre ++ mid ++ post, dp ++ [m rid] ++ dq, el, fr, hm, hB, r2.here, fun o ho => hfr o (by simp only [List.length_append, List.length_singleton] at ho ⊢; omega), hr.safe hsafe, by simp only [List.length_append, List.length_singleton]; omega, ?_, ?_, ?_⟩
  · intro u hu
    simp only [List.mem_append] at hu
    rcases hu with (hu | hu) | hu
    · exact hone u (by simp [hu])
    · exact hone1 u hu
    · exact hone u (by simp [hu])
  · intro i hi
    have hi2 : (bif off T p == i then some (some rid) else lk (outH hs (off T p) 1) i) = none := hi
    cases heq : (off T p == i) with
    | true => rw [heq] at hi2; cases hi2
    | false =>
      rw [heq, cond_false] at hi2
      have hne : off T p ≠ i := by simpa using heq
      rcases Nat.lt_or_ge i (off T p) with hlt | hge
      · rw [outH_lk (.inl hlt)] at hi2
        have := hn i hi2
        rw [List.append_assoc, List.getElem?_append_left (by omega), List.append_assoc, List.getElem?_append_left (by omega)] at this
        rw [List.append_assoc, List.getElem?_append_left (by omega), List.append_assoc, List.getElem?_append_left (by omega)]
        exact this
      · rw [outH_lk (.inr (by omega))] at hi2
        have := hn i hi2
        rw [List.getElem?_append_right (by simp only [List.length_append]; omega), List.getElem?_append_right (by simp only [List.length_append]; omega)] at this
        rw [List.getElem?_append_right (by simp only [List.length_append, List.length_singleton]; omega), List.getElem?_append_right (by simp only [List.length_append]; omega)]
        simp only [List.length_append, List.length_singleton, l1, l2, e2, hmid] at this ⊢
        exact this
  · intro i r hi
    have hi2 : (bif off T p == i then some (some rid) else lk (outH hs (off T p) 1) i) = some (some r) := hi
    cases heq : (off T p == i) with
    | true =>
      rw [heq, cond_true] at hi2
      cases hi2
      have : off T p = i := by simpa using heq
      subst this
      refine ⟨m rid, ?_, _, hR, by simp, fun t e xs ro h => rfl⟩
      rw [List.append_assoc, List.getElem?_append_right (by omega), l1, Nat.sub_self]
      rfl
    | false =>
      rw [heq, cond_false] at hi2
      have hne : off T p ≠ i := by simpa using heq
      have hout : i < off T p ∨ off T p + 1 ≤ i := by omega
      rw [outH_lk hout] at hi2
      obtain ⟨u, q1, q2⟩ := hl i r hi2
      refine ⟨u, ?_, q2⟩
      rcases hout with h | h
      · rw [List.append_assoc, List.getElem?_append_left (by omega)] at q1 ⊢
        exact q1
      · rw [List.getElem?_append_right (by simp only [List.length_append, List.length_singleton]; omega)] at q1 ⊢
        simp only [List.length_append, List.length_singleton, l1, l2] at q1 ⊢
        exact q1
theorem Goes.resv1 (hI : Inv B m L w S) (X : Nat → Bool) : Goes B X m L w S m (L ++ [.resv]) w S := by
  have get : ∀ {i : Nat} {s : Slot}, (L ++ [Slot.resv])[i]? = some s → s ≠ .resv → L[i]? = some s := fun {i s} h hs => by
    rcases Nat.lt_or_ge i L.length with hl | hl
    · rwa [List.getElem?_append_left hl] at h
    · rw [List.getElem?_append_right hl] at h
      rcases Nat.eq_or_lt_of_le hl with e | e
      · rw [← e, Nat.sub_self] at h; cases h; exact absurd rfl hs
      · rw [List.getElem?_eq_none (by simp; omega)] at h; cases h
  have he : ∀ X, Ext X m L m (L ++ [Slot.resv]) := by
    intro X
    refine ⟨?_⟩
    intro id s hs hr
    have hlt : id < L.length := (List.getElem?_eq_some_iff.1 hs).1
    exact ⟨s, by rw [List.getElem?_append_left hlt]; exact hs, hr, fun T h => ⟨rfl, h⟩, fun o h => ⟨fun u sv h => ⟨sv, h⟩, o, h⟩, fun t e xs ro _ h => ⟨rfl, xs, ro, h, Nat.le_refl _⟩⟩
  refine ⟨⟨hI.base, fun id T x ro h => hI.box id T x ro (get h (by simp)), fun id t e xs ro h => hI.row id t e xs ro (get h (by simp)), fun id o h => hI.obj id o (get h (by simp)), fun id T x h q => (hI.lbx id T x h (get q (by simp))).same (Safe.refl _ _) (he _) fun _ _ => rfl, ?_, ?_⟩, Safe.refl _ _, Below.refl _ _, he X, fun _ _ h => .inl h⟩
  · intro i j s r hne h1 h2 l1 l2
    exact hI.apart i j s r hne (get h1 (by rintro rfl; simp [Slot.live] at l1)) (get h2 (by rintro rfl; simp [Slot.live] at l2)) l1 l2
  · intro b o h
    obtain ⟨p1, p2⟩ := hI.prot b o h
    exact ⟨p1, fun i s hs hl hb => p2 i s (get hs (by rintro rfl; simp [Slot.live] at hl)) hl hb⟩
theorem Goes.more (hI : Inv B m L w S) (hg : Grows w w') {t : TypeId} {e : ETy} {xs : List e.I} {v : Value} {cs : List Value} (ho : w'.ownsRow w.heap.size t e.size v xs.length cs) (hr : RepL (RepC w S e) xs cs) (X : Nat → Bool) :
    Goes B X m L w S (upd m L.length v) (L ++ [.row t e xs false]) w' S ∧ RepA (upd m L.length v) (L ++ [.row t e xs false]) w' S (.rs L.length) v := by
  have g0 := Goes.resv1 hI X
  have hid : (L ++ [Slot.resv])[L.length]? = some .resv := by simp
  have g1 := Goes.fresh (s := .row t e xs false) (v := v) g0.inv hg hid (fun b hb => (blk_of_row ho b hb).1) (by intro T y ro h; cases h) (by
    intro t' e' ys ro h
    cases h
    refine ⟨cs, ⟨ho.1, ho.2.imp id ?_⟩, RepL.mono (fun x c h => h.safe (hg.safe hI)) hr⟩
    rintro ⟨g, cap, cur, hv, hB, r⟩
    exact ⟨g, cap, cur, hv, Nat.le_trans hI.base hB, r⟩) X (single_row ho)
  have e1 : (L ++ [Slot.resv]).set L.length (.row t e xs false) = L ++ [.row t e xs false] := by simp
  rw [e1] at g1
  refine ⟨g0.trans g1, ?_⟩
  simp only [RepA]
  refine ⟨_, by simp; rfl, by simp, fun t' e' ys ro h => ?_⟩
  exact (upd_same _ _ _).symm
theorem mark1_lbx {L : Heap} {i j : Nat} {T : ETy} {x : T.I} {hs : List (Nat × Option Nat)} (h : L[j]? = some (.lbx T x hs)) : (mark1 L i)[j]? = some (.lbx T x hs) := by
  unfold mark1
  split
  · rename_i s hs
    rw [get_set ⟨_, hs⟩]
    split
    · rename_i e; subst e; rw [h] at hs; cases hs; rfl
    · exact h
  · exact h
theorem markL_lbx {j : Nat} {T : ETy} {x : T.I} {hs : List (Nat × Option Nat)} : ∀ {l : List AV} {L : Heap}, L[j]? = some (.lbx T x hs) → (markL L l)[j]? = some (.lbx T x hs)
  | [], L, h => h
  | a :: l, L, h => by
    unfold markL
    split
    · exact markL_lbx (mark1_lbx h)
    · exact markL_lbx h
def okPb : (T : ETy) → List PStep → Bool
  | _, [] => true
  | .pair a _, .fld 0 :: p => okPb a p
  | .pair _ b, .fld (k + 1) :: p => okPb b (.fld k :: p)
  | .arr n e, .idx i :: p => decide (i < n) && okPb e p
  | _, _ => false
theorem okPb_ok : ∀ {T : ETy} {p : List PStep}, okPb T p = true → okP T p
  | T, [], _ => by cases T <;> simp [okP]
  | .pair a _, .fld 0 :: p, h => by
    simp only [okPb] at h
    simp only [okP]
    exact okPb_ok h
  | .pair _ b, .fld (k + 1) :: p, h => by
    simp only [okPb] at h
    simp only [okP]
    exact okPb_ok h
  | .arr n e, .idx i :: p, h => by
    simp only [okPb, Bool.and_eq_true, decide_eq_true_eq] at h
    simp only [okP]
    exact ⟨h.1, okPb_ok h.2⟩
  | .int _, .fld _ :: _, h | .int _, .idx _ :: _, h | .bool, .fld _ :: _, h | .bool, .idx _ :: _, h | .str, .fld _ :: _, h | .str, .idx _ :: _, h | .raw _, .fld _ :: _, h | .raw _, .idx _ :: _, h | .unit, .fld _ :: _, h | .unit, .idx _ :: _, h | .slice _, .fld _ :: _, h | .slice _, .idx _ :: _, h | .pair _ _, .idx _ :: _, h | .arr _ _, .fld _ :: _, h => by simp [okPb] at h
def findP : (T : ETy) → Nat → List PStep
  | .pair a b, o => bif Nat.blt o a.size then .fld 0 :: findP a o else match findP b (o - a.size) with
    | .fld k :: p => .fld (k + 1) :: p
    | p => p
  | .arr _ e, o => .idx (o / e.size) :: findP e (o % e.size)
  | _, _ => []
def firstH (n : Nat) : List (Nat × Option Nat) → Option (Nat × Nat)
  | [] => none
  | (o, some r) :: l => bif Nat.ble n r then some (o, r) else firstH n l
  | _ :: l => firstH n l
def frz1 (n : Nat) (L : Heap) (i : Nat) : Heap :=
  match L[i]? with
  | some (.lbx T x hs) => match firstH n hs with
    | some (o, rid) => match L[rid]? with
      | some (.row _ e xs _) => bif okPb T (findP T o) && (off T (findP T o) == o && lk hs o == some (some rid)) then
          match setP T x (findP T o) ⟨.slice e, xs⟩ with
          | some x' => (mark1 L rid).set i (boxH T x' (outH hs o 1))
          | none => L
        else L
      | _ => L
    | none => L
  | _ => L
def frzN (n : Nat) (i : Nat) : Nat → Heap → Heap
  | 0, L => L
  | f + 1, L => frzN n i f (frz1 n L i)
def frzH (n : Nat) : Nat → Heap → Heap
  | 0, L => L
  | i + 1, L => frzH n i (frzN n i 6 L)
theorem row_slice (hI : Inv B m L w S) {rid : Nat} {te : TypeId} {e : ETy} {xs : List e.I} {ro : Bool} (hR : L[rid]? = some (.row te e xs ro)) (hk : Kept m L S rid) : RepC w S (.slice e) xs [m rid] := by
  obtain ⟨cs, ho, hr⟩ := hI.row rid te e _ ro hR
  have hcl := RepL.length (fun x c h => RepC.length h) hr
  rcases ho.2 with ⟨hv, hn⟩ | ⟨g, cap, cur, hv, hg, hh, hle, _⟩
  · exact ⟨none, 0, by rw [hv, hn], by omega, .inl (List.eq_nil_of_length_eq_zero hn)⟩
  · refine ⟨some ⟨g, 0, none⟩, cap, by rw [hv], hle, .inr ⟨g, 0, cs, rfl, hr, fun j hj => ⟨?_, ?_⟩⟩⟩
    · exact row_cells ho hv j hj
    · exact hk _ g (0 + j) hR rfl (by rw [hv]; exact in_slc _ _ _ _) (by simp only [Slot.cells]; omega)
theorem frz1_goes (hI : Inv B m L w S) (n i : Nat) (X : Nat → Bool) : ∃ S', Goes B X m L w S m (frz1 n L i) w S' := by
  have stay : ∃ S', Goes B X m L w S m L w S' := ⟨S, ⟨hI, Safe.refl _ _, Below.refl _ _, Ext.refl X m L, fun _ _ h => .inl h⟩⟩
  unfold frz1
  split
  · rename_i T x hs hL
    split
    · rename_i o rid hf
      split
      · rename_i te e xs ro hR
        cases hc : (okPb T (findP T o) && (off T (findP T o) == o && lk hs o == some (some rid))) with
        | false => exact stay
        | true =>
          rw [cond_true]
          simp only [Bool.and_eq_true, beq_iff_eq] at hc
          obtain ⟨c1, c2, c3⟩ := hc
          split
          · rename_i x' hset
            obtain ⟨S1, g1, k1⟩ := mark1_goes hI rid X
            have hI1 := g1.inv
            have hL1 : (mark1 L rid)[i]? = some (.lbx T x hs) := mark1_lbx hL
            have hne : rid ≠ i := fun e => by subst e; rw [hL] at hR; cases hR
            have hR1 : (mark1 L rid)[rid]? = some (.row te e xs true) := by
              unfold mark1
              rw [hR]
              rw [get_set ⟨_, hR⟩, if_pos rfl]; rfl
            have hrow := row_slice hI1 hR1 k1
            obtain ⟨b, cs, ds, el, fr, hm, hB, hb, hfr, hr, hlen, hone, hn, hl⟩ := hI1.lbx i T x hs hL1
            obtain ⟨d, hd⟩ := getP_of_set hset
            obtain ⟨pre, mid, post, rfl, e2, e3, e4⟩ := getP_rep (okPb_ok c1) hr hd
            obtain ⟨f1, f2⟩ := e4 ⟨.slice e, xs⟩ x' [m rid] hrow hset
            have f1 : ETy.slice e = d.τ := f1
            have hmid : mid.length = 1 := by rw [e3.length, ← f1]; rfl
            have hlk : ∃ u, ds[o]? = some u ∧ LinkOK m (mark1 L rid) rid u := hl o rid c3
            have hdo : ds[o]? = some (m rid) := by
              obtain ⟨u, q1, s, q2, q3, q4⟩ := hlk
              rw [hR1] at q2; cases q2
              rw [q1, q4 te e xs true rfl]
            have ho : pre.length = o := by rw [e2, c2]
            have hs' : ∀ j, lk (outH hs o 1) j = none → ds[j]? = (pre ++ [m rid] ++ post)[j]? := by
              intro j hj
              rcases Nat.lt_trichotomy j o with h | h | h
              · rw [outH_lk (.inl h)] at hj
                have := hn j hj
                rw [this, List.append_assoc, List.getElem?_append_left (by omega), List.append_assoc, List.getElem?_append_left (by omega)]
              · subst h
                rw [hdo, List.append_assoc, List.getElem?_append_right (by omega), ho, Nat.sub_self]; rfl
              · rw [outH_lk (.inr (by omega))] at hj
                have := hn j hj
                rw [this, List.getElem?_append_right (by simp only [List.length_append]; omega), List.getElem?_append_right (by simp only [List.length_append, List.length_singleton]; omega)]
                simp only [List.length_append, List.length_singleton, hmid]
            have hok : LbxOK B m (mark1 L rid) (m i) w S1 T x' (outH hs o 1) := by
              refine ⟨b, pre ++ [m rid] ++ post, ds, el, fr, hm, hB, hb, hfr, f2, by simp only [List.length_append, List.length_singleton] at hlen ⊢; omega, hone, hs', fun j r hj => ?_⟩
              have hout : j < o ∨ o + 1 ≤ j := by
                rcases Nat.lt_or_ge j o with h | h
                · exact .inl h
                · rcases Nat.lt_or_ge j (o + 1) with h' | h'
                  · rw [outH_in h h'] at hj; cases hj
                  · exact .inr h'
              rw [outH_lk hout] at hj
              exact hl j r hj
            have g2 := Goes.relink (w' := w) hI1 hL1 hm (ds := ds) (el := el) (fr := fr) ⟨hb, fun _ _ => rfl, rfl, rfl, rfl, rfl⟩ hok X
            exact ⟨S1, Goes.boxH hL1 (g1.trans g2)⟩
          · exact stay
      · exact stay
    · exact stay
  · exact stay
theorem frzN_goes (n i : Nat) (X : Nat → Bool) : ∀ (f : Nat) {L : Heap} {S : Nat → Nat → Prop}, Inv B m L w S → ∃ S', Goes B X m L w S m (frzN n i f L) w S'
  | 0, L, S, hI => ⟨S, ⟨hI, Safe.refl _ _, Below.refl _ _, Ext.refl X m L, fun _ _ h => .inl h⟩⟩
  | f + 1, L, S, hI => by
    obtain ⟨S1, g1⟩ := frz1_goes hI n i X
    obtain ⟨S2, g2⟩ := frzN_goes n i X f g1.inv
    exact ⟨S2, g1.trans g2⟩
theorem frzH_goes (n : Nat) (X : Nat → Bool) : ∀ (i : Nat) {L : Heap} {S : Nat → Nat → Prop}, Inv B m L w S → ∃ S', Goes B X m L w S m (frzH n i L) w S'
  | 0, L, S, hI => ⟨S, ⟨hI, Safe.refl _ _, Below.refl _ _, Ext.refl X m L, fun _ _ h => .inl h⟩⟩
  | i + 1, L, S, hI => by
    obtain ⟨S1, g1⟩ := frzN_goes n i X 6 hI
    obtain ⟨S2, g2⟩ := frzH_goes n X i g1.inv
    exact ⟨S2, g1.trans g2⟩
def lkH : Nat → List (Nat × TypeId × ETy) → List (Nat × Option Nat)
  | _, [] => []
  | n, (o, _, _) :: l => (o, some n) :: lkH (n + 1) l
def lkR : List (Nat × TypeId × ETy) → Heap
  | [] => []
  | (_, te, e) :: l => .row te e [] false :: lkR l
def lkZ (T : ETy) : List (Nat × TypeId × ETy) → Bool
  | [] => true
  | (o, _, _) :: l => (match (zc T)[o]? with | some (.slice none 0 0) => true | _ => false) && lkZ T l
def linkP (T : ETy) (lks : List (Nat × TypeId × ETy)) (L : Heap) (i : Nat) : AV → Option Nat
  | .rs id => match L[id]?, tyP T [.fld i] with
    | some (.row _ _ _ _), some (.slice _) => bif lks.any (fun p => p.1 == off T [.fld i]) then some id else none
    | _, _ => none
  | _ => none
def dataP (T : ETy) (lks : List (Nat × TypeId × ETy)) (L : Heap) : List (Nat × AV) → List AV
  | [] => []
  | (i, a) :: r => match linkP T lks L i a with
    | some _ => dataP T lks L r
    | none => a :: dataP T lks L r
def setPartsH (T : ETy) (lks : List (Nat × TypeId × ETy)) (L0 L1 : Heap) : T.I → List (Nat × Option Nat) → List (Nat × AV) → Option (T.I × List (Nat × Option Nat))
  | x, hs, [] => some (x, hs)
  | x, hs, (i, a) :: r => match linkP T lks L0 i a with
    | some id => setPartsH T lks L0 L1 x ((off T [.fld i], some id) :: outH hs (off T [.fld i]) 1) r
    | none => (tyP T [.fld i]).bind fun σ => (liftA L1 σ a).bind fun y => (setP T x [.fld i] ⟨σ, y⟩).bind fun x' => setPartsH T lks L0 L1 x' (outH hs (off T [.fld i]) σ.size) r
def Lnk (m : Nat → Value) (L : Heap) (w : World) (S : Nat → Nat → Prop) (T : ETy) (x : T.I) (hs : List (Nat × Option Nat)) (ds : List Value) : Prop :=
  ∃ cs, RepC w S T x cs ∧ ds.length = cs.length ∧ (∀ v ∈ ds, v.oneCell' = true) ∧ (∀ o, lk hs o = none → ds[o]? = cs[o]?) ∧ (∀ o rid, (o, some rid) ∈ hs → ∃ v, ds[o]? = some v ∧ LinkOK m L rid v)
theorem outH_mem {a n o : Nat} {r : Option Nat} {hs : List (Nat × Option Nat)} (h : (o, r) ∈ outH hs a n) : (o, r) ∈ hs ∧ (o < a ∨ a + n ≤ o) := by
  unfold outH at h
  obtain ⟨h1, h2⟩ := List.mem_filter.1 h
  refine ⟨h1, ?_⟩
  simpa [Nat.blt_eq, Nat.ble_eq] using h2
theorem linkP_eq {T : ETy} {lks : List (Nat × TypeId × ETy)} {L : Heap} {i id : Nat} {a : AV} (h : linkP T lks L i a = some id) : a = .rs id ∧ ∃ e, tyP T [.fld i] = some (.slice e) := by
  unfold linkP at h
  split at h
  · split at h
    · rename_i e _ hty
      cases hb : (lks.any fun p => p.1 == off T [.fld i]) with
      | true => rw [hb, cond_true] at h; cases h; exact ⟨rfl, e, hty⟩
      | false => rw [hb, cond_false] at h; cases h
    · cases h
  · cases h
theorem fillH {T : ETy} {lks : List (Nat × TypeId × ETy)} {L0 L1 : Heap} {place : Nat → Option (Nat × Nat)} (hp : ∀ i σ, tyP T [.fld i] = some σ → place i = some (off T [.fld i], σ.size)) :
    ∀ {parts : List (Nat × AV)} {vs : List (Nat × Value)} {x x' : T.I} {hs hs' : List (Nat × Option Nat)} {ds : List Value}, Lnk m L w S T x hs ds →
      All2 (fun (p : Nat × AV) (q : Nat × Value) => p.1 = q.1 ∧ (∀ id, linkP T lks L0 p.1 p.2 = some id → LinkOK m L id q.2 ∧ q.2.oneCell' = true) ∧ (linkP T lks L0 p.1 p.2 = none → ∀ σ y, liftA L1 σ p.2 = some y → RepV w S σ y q.2)) parts vs →
      setPartsH T lks L0 L1 x hs parts = some (x', hs') → ∃ ds', Instr.fill place ds.toArray vs = some ds'.toArray ∧ Lnk m L w S T x' hs' ds'
  | [], [], x, x', hs, hs', ds, hl, hv, h => by
    simp only [setPartsH, Option.some.injEq, Prod.mk.injEq] at h
    obtain ⟨rfl, rfl⟩ := h
    exact ⟨ds, rfl, hl⟩
  | (i, a) :: parts, (j, v) :: vs, x, x', hs, hs', ds, hl, hv, h => by
    obtain ⟨⟨rfl, hv1, hv2⟩, hv3⟩ := hv
    obtain ⟨cs, hr, hlen, hone, hn, hlk⟩ := hl
    unfold setPartsH at h
    cases hlp : linkP T lks L0 i a with
    | some id =>
      rw [hlp] at h
      simp only at h
      obtain ⟨ha, e, hty⟩ := linkP_eq hlp
      obtain ⟨hok, h1c⟩ := hv1 id hlp
      have hsz := size_off (okP_fld hty) hty
      have hsz : off T [.fld i] + 1 ≤ T.size := hsz
      have hcl := hr.length
      have ho : off T [.fld i] + 1 ≤ ds.length := by rw [hlen, hcl]; exact hsz
      have e3 := parts3 (ds := ds) ho
      have hml : ((ds.drop (off T [.fld i])).take 1).length = 1 := by simp; omega
      have hpl : (ds.take (off T [.fld i])).length = off T [.fld i] := by simp; omega
      have key : Lnk m L w S T x ((off T [.fld i], some id) :: outH hs (off T [.fld i]) 1) (ds.take (off T [.fld i]) ++ [v] ++ ds.drop (off T [.fld i] + 1)) := by
        have hget : ∀ o, o ≠ off T [.fld i] → (ds.take (off T [.fld i]) ++ [v] ++ ds.drop (off T [.fld i] + 1))[o]? = ds[o]? := by
          intro o hne
          rcases Nat.lt_or_gt_of_ne hne with h | h
          · rw [List.append_assoc, List.getElem?_append_left (by omega), List.getElem?_take, if_pos h]
          · rw [List.getElem?_append_right (by simp; omega), List.getElem?_drop]
            congr 1
            simp only [List.length_append, hpl, List.length_singleton]; omega
        have hat : (ds.take (off T [.fld i]) ++ [v] ++ ds.drop (off T [.fld i] + 1))[off T [.fld i]]? = some v := by
          rw [List.append_assoc, List.getElem?_append_right (by omega), hpl, Nat.sub_self]; rfl
        refine ⟨cs, hr, by simp; omega, fun u hu => ?_, fun o hno => ?_, fun o rid hm => ?_⟩
        · rcases List.mem_append.1 hu with hu | hu
          · rcases List.mem_append.1 hu with hu | hu
            · exact hone u (List.mem_of_mem_take hu)
            · rw [List.mem_singleton.1 hu]; exact h1c
          · exact hone u (List.mem_of_mem_drop hu)
        · have hne : o ≠ off T [.fld i] := by
            intro q
            rw [q] at hno
            simp [lk] at hno
          rw [hget o hne]
          refine hn o ?_
          have : lk (outH hs (off T [.fld i]) 1) o = none := by
            have e : (off T [.fld i] == o) = false := by simp; exact fun q => hne q.symm
            simpa [lk, e] using hno
          rwa [outH_lk (by omega)] at this
        · rcases List.mem_cons.1 hm with hm | hm
          · cases hm
            exact ⟨v, hat, hok⟩
          · obtain ⟨m1, m2⟩ := outH_mem hm
            obtain ⟨u, q1, q2⟩ := hlk o rid m1
            exact ⟨u, by rw [hget o (by omega)]; exact q1, q2⟩
      obtain ⟨ds', f1, f2⟩ := fillH hp key hv3 h
      refine ⟨ds', ?_, f2⟩
      rw [Instr.fill, hp i _ hty]
      simp only
      rw [cells_of_one h1c]
      rw [if_neg (by simp only [ETy.size, List.size_toArray, ne_eq]; simp; omega)]
      have := fold_set [v] (ds.take (off T [.fld i])) ((ds.drop (off T [.fld i])).take 1) (ds.drop (off T [.fld i] + 1)) (off T [.fld i]) 0 (by rw [hpl]; rfl) (by rw [hml]; rfl)
      rw [← e3] at this
      rw [← Array.foldl_toList, Array.toList_zipIdx]
      rw [show (#[v] : Array Value).toList = [v] from rfl, this]
      exact f1
    | none =>
      rw [hlp] at h
      simp only at h
      obtain ⟨σ, hσ, h⟩ := Option.bind_eq_some_iff.1 h
      obtain ⟨y, hy, h⟩ := Option.bind_eq_some_iff.1 h
      obtain ⟨x1, hx, h⟩ := Option.bind_eq_some_iff.1 h
      obtain ⟨ms, hm, rfl⟩ := hv2 hlp σ y hy
      obtain ⟨d, hd⟩ := getP_some (x := x) hσ
      have hdτ : d.τ = σ := by have := getP_ty hd; rw [hσ] at this; cases this; rfl
      obtain ⟨pre, mid, post, hcs, e1, e2, e4⟩ := getP_rep (okP_fld hσ) hr hd
      obtain ⟨_, e5⟩ := e4 ⟨σ, y⟩ x1 ms hm hx
      have hmid := e2.length
      rw [hdτ] at hmid
      have hml := hm.length
      have hsz := size_off (okP_fld hσ) hσ
      have hcl := hr.length
      have ho : off T [.fld i] + σ.size ≤ ds.length := by rw [hlen, hcl]; exact hsz
      have e3 := parts3 (ds := ds) ho
      have hml3 : ((ds.drop (off T [.fld i])).take σ.size).length = σ.size := by simp; omega
      have hpl : (ds.take (off T [.fld i])).length = off T [.fld i] := by simp; omega
      have hc3 : cs.length = pre.length + mid.length + post.length := by rw [hcs]; simp; omega
      have key : Lnk m L w S T x1 (outH hs (off T [.fld i]) σ.size) (ds.take (off T [.fld i]) ++ ms ++ ds.drop (off T [.fld i] + σ.size)) := by
        have hout : ∀ o, (o < off T [.fld i] ∨ off T [.fld i] + σ.size ≤ o) → (ds.take (off T [.fld i]) ++ ms ++ ds.drop (off T [.fld i] + σ.size))[o]? = ds[o]? := by
          intro o h
          rcases h with h | h
          · rw [List.append_assoc, List.getElem?_append_left (by omega), List.getElem?_take, if_pos h]
          · rw [List.getElem?_append_right (by simp; omega), List.getElem?_drop]
            congr 1
            simp only [List.length_append, hpl, hml]; omega
        have hcout : ∀ o, (o < off T [.fld i] ∨ off T [.fld i] + σ.size ≤ o) → (pre ++ ms ++ post)[o]? = cs[o]? := by
          intro o h
          rw [hcs]
          rcases h with h | h
          · rw [List.append_assoc, List.getElem?_append_left (by omega), List.append_assoc, List.getElem?_append_left (by omega)]
          · rw [List.getElem?_append_right (by simp; omega), List.getElem?_append_right (by simp; omega)]
            congr 1
            simp only [List.length_append, hml, hmid]
        refine ⟨pre ++ ms ++ post, e5, by simp only [List.length_append, List.length_take, List.length_drop]; omega, fun u hu => ?_, fun o hno => ?_, fun o rid hm' => ?_⟩
        · rcases List.mem_append.1 hu with hu | hu
          · rcases List.mem_append.1 hu with hu | hu
            · exact hone u (List.mem_of_mem_take hu)
            · exact hm.one u hu
          · exact hone u (List.mem_of_mem_drop hu)
        · by_cases hin : off T [.fld i] ≤ o ∧ o < off T [.fld i] + σ.size
          · have l1 : ((ds.take (off T [.fld i])) ++ (ms ++ ds.drop (off T [.fld i] + σ.size)))[o]? = ms[o - off T [.fld i]]? := by
              rw [List.getElem?_append_right (by omega), hpl, List.getElem?_append_left (by omega)]
            have l2 : (pre ++ (ms ++ post))[o]? = ms[o - off T [.fld i]]? := by
              rw [List.getElem?_append_right (by omega), e1, List.getElem?_append_left (by omega)]
            rw [List.append_assoc, List.append_assoc, l1, l2]
          · have hx' : o < off T [.fld i] ∨ off T [.fld i] + σ.size ≤ o := by omega
            rw [hout o hx', hcout o hx']
            refine hn o ?_
            rwa [outH_lk hx'] at hno
        · obtain ⟨m1, m2⟩ := outH_mem hm'
          obtain ⟨u, q1, q2⟩ := hlk o rid m1
          exact ⟨u, by rw [hout o m2]; exact q1, q2⟩
      obtain ⟨ds', f1, f2⟩ := fillH hp key hv3 h
      refine ⟨ds', ?_, f2⟩
      rw [Instr.fill, hp i _ hσ]
      simp only
      rw [cells_valOf hm]
      rw [if_neg (by simp only [List.size_toArray, hml]; simp; omega)]
      have := fold_set ms (ds.take (off T [.fld i])) ((ds.drop (off T [.fld i])).take σ.size) (ds.drop (off T [.fld i] + σ.size)) (off T [.fld i]) 0 (by rw [hpl]; rfl) (by rw [hml3, hml])
      rw [← e3] at this
      rw [← Array.foldl_toList, Array.toList_zipIdx, this]
      exact f1
  | [], _ :: _, x, x', hs, hs', ds, hl, hv, h => by cases hv
  | _ :: _, [], x, x', hs, hs', ds, hl, hv, h => by cases hv
theorem Goes.rows : ∀ (lks : List (Nat × TypeId × ETy)) {m : Nat → Value} {L : Heap}, Inv B m L w S → ∃ m', Goes B (fun _ => false) m L w S m' (L ++ lkR lks) w S ∧ ∀ p ∈ lkH L.length lks, ∀ rid, p.2 = some rid → LinkOK m' (L ++ lkR lks) rid (.slice none 0 0)
  | [], m, L, hI => ⟨m, by simpa [lkR] using Goes.grows hI (Grows.refl w) _, fun p hp => by cases hp⟩
  | (o, te, e) :: l, m, L, hI => by
    obtain ⟨g1, r1⟩ := Goes.more (w' := w) hI (Grows.refl w) (t := te) (e := e) (xs := []) (v := .slice none 0 0) (cs := []) (World.ownsRow_nil w w.heap.size te e.size) rfl (fun _ => false)
    obtain ⟨m2, g2, h2⟩ := Goes.rows l g1.inv
    have e1 : (L ++ [Slot.row te e [] false]) ++ lkR l = L ++ lkR ((o, te, e) :: l) := by simp [lkR]
    rw [e1] at g2 h2
    refine ⟨m2, g1.trans g2, fun p hp rid hr => ?_⟩
    rcases List.mem_cons.1 hp with rfl | hp
    · cases hr
      have := goes_noX (fun _ => rfl) g2 r1
      simp only [RepA] at this
      exact this
    · exact h2 p (by simpa using hp) rid hr
theorem lkZ_at {T : ETy} : ∀ {lks : List (Nat × TypeId × ETy)} {n : Nat}, lkZ T lks = true → ∀ o r, (o, r) ∈ lkH n lks → (zc T)[o]? = some (.slice none 0 0)
  | [], n, h, o, r, hm => by cases hm
  | (a, te, e) :: l, n, h, o, r, hm => by
    simp only [lkZ, Bool.and_eq_true] at h
    rcases List.mem_cons.1 hm with hm | hm
    · cases hm
      have := h.1
      split at this
      · rename_i q; exact q
      · cases this
    · exact lkZ_at h.2 o r hm
theorem lnk_zero {m : Nat → Value} {L : Heap} {T : ETy} {lks : List (Nat × TypeId × ETy)} {n : Nat} (hz : lkZ T lks = true) (h : ∀ p ∈ lkH n lks, ∀ rid, p.2 = some rid → LinkOK m L rid (.slice none 0 0)) : Lnk m L w S T T.z (lkH n lks) (zc T) :=
  ⟨zc T, repC_zero T, rfl, (repC_zero (w := w) (S := S) T).one, fun _ _ => rfl, fun o rid hm => ⟨_, lkZ_at hz o _ hm, h _ hm rid rfl⟩⟩
theorem linkP_get {T : ETy} {lks : List (Nat × TypeId × ETy)} {L : Heap} {i id : Nat} {a : AV} (h : linkP T lks L i a = some id) : a = .rs id := (linkP_eq h).1
theorem dataP_mem {T : ETy} {lks : List (Nat × TypeId × ETy)} {L : Heap} : ∀ {parts : List (Nat × AV)} {i : Nat} {a : AV}, (i, a) ∈ parts → linkP T lks L i a = none → a ∈ dataP T lks L parts
  | (j, b) :: r, i, a, hm, h => by
    unfold dataP
    rcases List.mem_cons.1 hm with hm | hm
    · cases hm
      rw [h]; exact List.mem_cons_self
    · split
      · exact dataP_mem hm h
      · exact List.mem_cons_of_mem _ (dataP_mem hm h)
def pickL (os : List Nat) (lks : List (Nat × TypeId × ETy)) : List (Nat × TypeId × ETy) := lks.filter fun p => os.any fun o => o == p.1
def anyLink (T : ETy) (lks : List (Nat × TypeId × ETy)) (L : Heap) : List (Nat × AV) → Bool
  | [] => false
  | (i, a) :: r => (linkP T lks L i a).isSome || anyLink T lks L r
def lop (C : Cfg) (ρ : Operand → AV) (L : Heap) (id : Nat) : Op → A3
  | .build t parts => match lkUse (isNilA (parts.toList.map fun (i, x) => (i, datA (ρ x)))) (C.Lk t), C.Ty t with
    | lks@(_ :: _), some (.pair a b) => bif anyLink (.pair a b) lks L (parts.toList.map fun (i, x) => (i, datA (ρ x))) && lkZ (.pair a b) lks then
        (setPartsH (.pair a b) lks (L ++ lkR lks) (markL (L ++ lkR lks) (dataP (.pair a b) lks (L ++ lkR lks) (parts.toList.map fun (i, x) => (i, datA (ρ x))))) (ETy.pair a b).z (lkH L.length lks) (parts.toList.map fun (i, x) => (i, datA (ρ x)))).map fun q =>
          (true, .bt (.pair a b) q.1 q.2, markL (L ++ lkR lks) (dataP (.pair a b) lks (L ++ lkR lks) (parts.toList.map fun (i, x) => (i, datA (ρ x)))))
      else none
    | _, _ => none
  | .alloc t => match lkUse true (C.Lk t), C.Ty t, C.Ob t with
    | lks@(_ :: _), some (.pair a b), none => bif lkZ (.pair a b) lks then some (true, .ref id [], (L ++ lkR lks).set id (.lbx (.pair a b) (ETy.pair a b).z (lkH L.length lks))) else none
    | _, _, _ => none
  | .box t x => match ρ x with
    | .bt T y hs => if C.Ty t = some T then some (true, .ref id [], L.set id (.lbx T y hs)) else none
    | .bz T y os => if C.Ty t = some T then some (true, .ref id [], (L ++ lkR (pickL os (C.Lk t))).set id (.lbx T y (lkH L.length (pickL os (C.Lk t))))) else none
    | _ => none
  | .fieldAddr t p f => match ρ p with
    | .ref j q => match L[j]? with
      | some (.lbx T _ _) => (tyP T q).bind fun τ => if C.Ty t = some τ then (tyP τ [.fld f]).bind fun σ => if σ.size = 0 then none else some (true, .ref j (q ++ [.fld f]), L) else none
      | _ => none
    | _ => none
  | .indexAddr t p i => match ρ p, ρ i with
    | .ref j q, .v (.int _) n => match L[j]? with
      | some (.lbx T _ _) => (elemTy (tyP T q)).bind fun r => if C.Ty t = some (.arr r.1 r.2) then some (idxOK n r.1, .ref j (q ++ [.idx (Int.toNat n)]), L) else none
      | _ => none
    | _, _ => none
  | .nilCheck p => match ρ p with
    | .ref j q => match L[j]? with
      | some (.lbx _ _ _) => some (true, .ref j q, L)
      | _ => none
    | _ => none
  | .load t p => match ρ p with
    | .ref j q => match L[j]? with
      | some (.lbx T x hs) => (getP T x q).bind fun d => if C.Ty t = some d.τ then bif freeH hs (lowP T q) (widP T q) then some (true, .v d.τ d.x, L) else match lk hs (off T q), d.τ with
          | some (some rid), .slice _ => some (true, .rs rid, L)
          | _, .pair _ _ => (loadA C t (frzN 0 j 6 L) (.ref j q)).map fun r => (r.1, r.2, frzN 0 j 6 L)
          | _, _ => none
        else none
      | _ => none
    | _ => none
  | .store t p x => match ρ p with
    | .ref j q => match L[j]? with
      | some (.box T0 y0 ro) => match ρ x, q with
        | .bz T y os, [] => if T0 = T ∧ ro = false ∧ C.Ty t = some T then some (true, .dead, (L ++ lkR (pickL os (C.Lk t))).set j (.lbx T y (lkH L.length (pickL os (C.Lk t))))) else none
        | _, _ => none
      | some (.lbx T y hs) => match ρ x with
        | .rs rid => match L[rid]? with
          | some (.row _ _ _ _) => (getP T y q).bind fun d => if C.Ty t = some d.τ ∧ d.τ.size = 1 then some (true, .dead, L.set j (.lbx T y ((off T q, some rid) :: outH hs (off T q) 1))) else none
          | _ => none
        | a => (C.Ty t).bind fun τ => (liftA (markL L [datA a]) τ (datA a)).bind fun v => (setP T y q ⟨τ, v⟩).map fun x' => (true, .dead, (markL L [datA a]).set j (boxH T x' (bif freeH hs (lowP T q) (widP T q) then hs else outH hs (off T q) τ.size)))
      | _ => none
    | _ => none
  | .call ⟨.builtin .copy, args, ts⟩ => match args.toList, ts.toList with
    | [d, s], [t, _] => copyA C L t (ρ d) (ρ s)
    | _, _ => none
  | _ => none
theorem ref_lbx {id : Nat} {p q : List PStep} {T : ETy} {x : T.I} {hs : List (Nat × Option Nat)} {b : Nat} (hL : L[id]? = some (.lbx T x hs)) (hm : m id = .pointer (some ⟨b, 0, none⟩)) (hq : okP T q) : RepA m L w S (.ref id q) (.pointer (some ⟨b, off T q, none⟩)) := by
  simp only [RepA]
  refine ⟨_, hL, by simp, fun T' e => ?_, fun o e => by cases e⟩
  cases e
  exact ⟨hq, b, hm, rfl⟩
theorem lbx_ref (hI : Inv B m L w S) {id : Nat} {p : List PStep} {T : ETy} {x : T.I} {hs : List (Nat × Option Nat)} {u : Value} (hL : L[id]? = some (.lbx T x hs)) (hx : RepA m L w S (.ref id p) u) : okP T p ∧ ∃ b, m id = .pointer (some ⟨b, 0, none⟩) ∧ u = .pointer (some ⟨b, off T p, none⟩) := by
  simp only [RepA] at hx
  obtain ⟨s, h1, h2, h3⟩ := hx
  rw [hL] at h1; cases h1
  exact h3.1 T rfl
theorem pick_mem {os : List Nat} : ∀ {lks : List (Nat × TypeId × ETy)} {n o : Nat} {r : Option Nat}, (o, r) ∈ lkH n (pickL os lks) → o ∈ os := by
  intro lks
  have key : ∀ (l : List (Nat × TypeId × ETy)), (∀ p ∈ l, p.1 ∈ os) → ∀ {n o : Nat} {r : Option Nat}, (o, r) ∈ lkH n l → o ∈ os := by
    intro l
    induction l with
    | nil => intro _ n o r h; cases h
    | cons p l ih =>
      intro hp n o r h
      obtain ⟨a, te, e⟩ := p
      rcases List.mem_cons.1 h with h | h
      · cases h; exact hp _ List.mem_cons_self
      · exact ih (fun p hp' => hp p (List.mem_cons_of_mem _ hp')) h
  intro n o r h
  refine key _ (fun p hp => ?_) h
  obtain ⟨_, h2⟩ := List.mem_filter.1 hp
  obtain ⟨q, h3, h4⟩ := List.any_eq_true.1 h2
  have : q = p.1 := by simpa using h4
  rw [← this]; exact h3
theorem Goes.tolink (hI : Inv B m L w S) {id : Nat} {T : ETy} {x : T.I} (hid : L[id]? = some (.box T x false)) (X : Nat → Bool) : Goes B X m L w S m (L.set id (.lbx T x [])) w S := by
  have gs := get_set (s := .lbx T x []) ⟨_, hid⟩
  have he : ∀ X, Ext X m L m (L.set id (.lbx T x [])) := by
    intro X
    refine ⟨?_⟩
    intro j r hr hne
    by_cases e : j = id
    · subst e
      rw [hid] at hr; cases hr
      refine ⟨.lbx T x [], by rw [gs, if_pos rfl], by simp, fun T' h => ⟨rfl, h⟩, fun o h => (by cases h), fun t e xs ro _ h => (by cases h)⟩
    · exact ⟨r, by rw [gs, if_neg e]; exact hr, hne, fun T h => ⟨rfl, h⟩, fun o h => ⟨fun u sv h => ⟨sv, h⟩, o, h⟩, fun t e xs ro _ h => ⟨rfl, xs, ro, h, Nat.le_refl _⟩⟩
  have live : ∀ {j : Nat} {r : Slot}, (L.set id (.lbx T x []))[j]? = some r → ∃ r', L[j]? = some r' ∧ r'.live = r.live := by
    intro j r h
    rw [gs] at h
    split at h
    · rename_i e; subst e; cases h; exact ⟨_, hid, rfl⟩
    · exact ⟨r, h, rfl⟩
  refine ⟨⟨hI.base, ?_, ?_, ?_, ?_, ?_, ?_⟩, Safe.refl _ _, Below.refl _ _, he X, fun _ _ h => .inl h⟩
  · intro j T' y ro h
    rw [gs] at h
    split at h
    · cases h
    · exact hI.box j T' y ro h
  · intro j t e xs ro h
    rw [gs] at h
    split at h
    · cases h
    · exact hI.row j t e xs ro h
  · intro j o h
    rw [gs] at h
    split at h
    · cases h
    · exact hI.obj j o h
  · intro j T' y q h
    rw [gs] at h
    split at h
    · rename_i e; subst e; cases h
      obtain ⟨b, cs, el, fr, hm, hB, hb, hfr, hr⟩ := hI.box _ T x false hid
      exact ⟨b, cs, cs, el, fr, hm, hB, hb, hfr, hr, rfl, hr.one, fun _ _ => rfl, fun o rid h => (by cases h)⟩
    · exact (hI.lbx j T' y q h).same (Safe.refl _ _) (he _) fun _ _ => rfl
  · intro i j s1 s2 hne h1 h2 l1 l2
    obtain ⟨r1, e1, e2⟩ := live h1
    obtain ⟨r2, e3, e4⟩ := live h2
    exact hI.apart i j r1 r2 hne e1 e3 (by rw [e2]; exact l1) (by rw [e4]; exact l2)
  · intro b' o h
    obtain ⟨p1, p2⟩ := hI.prot b' o h
    refine ⟨p1, fun i r hr hrl hbi => ?_⟩
    rw [gs] at hr
    split at hr
    · rename_i e; subst e
      have := (p2 i _ hid rfl hbi).1
      cases this
    · exact p2 i r hr hrl hbi
theorem store_nils (hC : C.OK) (hI : Inv B m L w S) {t : TypeId} {id : Nat} {T : ETy} {x y : T.I} {os : List Nat} {lks : List (Nat × TypeId × ETy)} {up ua : Value} (hL : L[id]? = some (.box T x false)) (hp : RepA m L w S (.ref id []) up) (ha : RepA m L w S (.bz T y os) ua) (ht : C.Ty t = some T) :
    ∃ w' m', (Instr.storeAt t up ua).run C.P w = .ok () w' ∧ Goes B (fun _ => false) m L w S m' ((L ++ lkR (pickL os lks)).set id (.lbx T y (lkH L.length (pickL os lks)))) w' S := by
  have g0 := Goes.tolink hI hL (fun _ => false)
  obtain ⟨m1, g1, k1⟩ := Goes.rows (pickL os lks) g0.inv
  rw [List.length_set] at k1
  have hlt : id < L.length := (List.getElem?_eq_some_iff.1 hL).1
  have hL2 : (L.set id (.lbx T x []) ++ lkR (pickL os lks))[id]? = some (.lbx T x []) := by
    rw [List.getElem?_append_left (by rw [List.length_set]; exact hlt), get_set ⟨_, hL⟩, if_pos rfl]
  have hp1 := goes_noX (fun _ => rfl) g1 (goes_noX (fun _ => rfl) g0 hp)
  obtain ⟨_, b, hm, hu⟩ := lbx_ref g1.inv hL2 hp1
  obtain ⟨b', cs0, ds0, el, fr, hm', hB, hb, hfr, hr0, hlen, _⟩ := g1.inv.lbx id T x [] hL2
  rw [hm] at hm'; cases hm'
  simp only [RepA] at ha
  obtain ⟨hagg, cs, rfl, h2, h3⟩ := ha
  obtain ⟨w2, r1, r2⟩ := run_storeCells' (P := C.P) (hC.ty _ _ ht) (pre := []) (mid := ds0) (post := []) (by simpa using hb) (by simpa using hfr) (v := .agg cs.toArray) (ms := cs) rfl h2.length (fun u hu => h2.one u hu) (by rw [hlen]; exact hr0.length)
  have r2 : Wrote b cs el fr w w2 := by simpa using r2
  have e1 : (L.set id (.lbx T x []) ++ lkR (pickL os lks)).set id (.lbx T y (lkH L.length (pickL os lks))) = (L ++ lkR (pickL os lks)).set id (.lbx T y (lkH L.length (pickL os lks))) := by
    rw [List.set_append_left _ _ (by rw [List.length_set]; exact hlt), List.set_append_left _ _ hlt, List.set_set]
  refine ⟨w2, m1, ?_, ?_⟩
  · subst hu
    simp only [off, Instr.storeAt, Instr.sureAddr, Sem.run_bind, Sem.run_pure, Result.andThen_ok]
    exact r1
  · rw [← e1]
    have hsafe : Safe S S w w2 := ⟨fun _ _ h => h, fun b' o h => World.cell?_of_block (a := ⟨b', o, none⟩) (r2.there b' (fun e => by
      subst e
      have := ((g1.inv.prot _ o h).2 id _ hL2 rfl (by rw [hm]; exact in_ptr _ _)).1
      cases this))⟩
    refine (g0.trans g1).trans (Goes.relink g1.inv hL2 hm r2 ?_ _)
    refine ⟨b, cs, cs, el, fr, hm, hB, r2.here, fun o ho => hfr o (by rw [hlen, hr0.length, ← h2.length]; exact ho), h2.safe hsafe, rfl, h2.one, fun _ _ => rfl, fun o rid hr => ?_⟩
    obtain ⟨s, k2, k3, k4⟩ := k1 _ (lk_mem hr) rid rfl
    exact ⟨_, h3 o (pick_mem (lk_mem hr)), s, k2, k3, k4⟩
theorem opDoes_lop (hC : C.OK) (hI : Inv B m L w S) {ρ : Operand → AV} {a : Act} (h : ∀ x, RepA m L w S (ρ x) (a.eval x)) {o : Oper} {id : Nat} (hid : wantsId o.op = true → L[id]? = some .resv) {av : AV} {L' : Heap} (ha : lop C ρ L id o.op = some (true, av, L')) :
    OpDoes C B (fun _ => false) m L w S a o av L' := by
  have stay : ∀ {u : Value} {n : AV}, RepA m L w S n u → Goes B (fun _ => false) m L w S m L w S := fun _ => Goes.grows hI (Grows.refl w) _
  unfold lop at ha
  split at ha <;> rename_i ho
  · -- build
    rename_i t parts
    obtain ⟨ρ', hρ'⟩ : ∃ ρ' : Operand → AV, ρ' = fun x => datA (ρ x) := ⟨_, rfl⟩
    have h : ∀ x, RepA m L w S (ρ' x) (a.eval x) := fun x => by rw [hρ']; exact datA_rep (h x)
    have e0 : (parts.toList.map fun (i, x) => (i, datA (ρ x))) = parts.toList.map fun (i, x) => (i, ρ' x) := by rw [hρ']
    rw [e0] at ha
    clear e0 hρ'
    split at ha
    · rename_i p0 ps A B' hlk hty
      generalize hlks : p0 :: ps = lks at ha hlk
      cases hz0 : (anyLink (.pair A B') lks L (parts.toList.map fun (i, x) => (i, ρ' x)) && lkZ (.pair A B') lks) with
      | false => rw [hz0] at ha; cases ha
      | true =>
        rw [hz0, cond_true] at ha
        rw [Bool.and_eq_true] at hz0
        have hz := hz0.2
        obtain ⟨q, hq, hav⟩ := Option.map_eq_some_iff.1 ha
        obtain ⟨x', hs'⟩ := q
        cases hav
        obtain ⟨m1, g1, k1⟩ := Goes.rows lks hI
        have h1 : ∀ x, RepA m1 (L ++ lkR lks) w S (ρ' x) (a.eval x) := fun x => goes_noX (fun _ => rfl) g1 (h x)
        obtain ⟨S1, g2, _, k2⟩ := markL_goes (m := m1) (w := w) (fun _ => false) (dataP (.pair A B') lks (L ++ lkR lks) (parts.toList.map fun (i, x) => (i, ρ' x))) g1.inv
        have h2 : ∀ x, RepA m1 (markL (L ++ lkR lks) (dataP (.pair A B') lks (L ++ lkR lks) (parts.toList.map fun (i, x) => (i, ρ' x)))) w S1 (ρ' x) (a.eval x) := fun x => goes_noX (fun _ => rfl) g2 (h1 x)
        have hG := hC.ty _ _ hty
        obtain ⟨d, hd, hag, hk⟩ := hG.und
        cases d <;> simp [descOK] at hk
        rename_i fs
        obtain ⟨places, hp1, hp2⟩ := places_of fs.toList 0 hk.2
        obtain ⟨inf, hi, _, hzz⟩ := hG.size
        have k1' : ∀ p ∈ lkH L.length lks, ∀ rid, p.2 = some rid → LinkOK m1 (markL (L ++ lkR lks) (dataP (.pair A B') lks (L ++ lkR lks) (parts.toList.map fun (i, x) => (i, ρ' x)))) rid (.slice none 0 0) := by
          intro p hp rid hr
          have := k1 p hp rid hr
          have := goes_noX (fun _ => rfl) g2 (a := .rs rid) (u := .slice none 0 0) (by simp only [RepA]; exact this)
          simp only [RepA] at this
          exact this
        have hall : ∀ (l : List (Nat × Operand)), (∀ p ∈ l, p ∈ parts.toList) → All2 (fun (p : Nat × AV) (q : Nat × Value) => p.1 = q.1 ∧ (∀ id, linkP (.pair A B') lks (L ++ lkR lks) p.1 p.2 = some id → LinkOK m1 (markL (L ++ lkR lks) (dataP (.pair A B') lks (L ++ lkR lks) (parts.toList.map fun (i, x) => (i, ρ' x)))) id q.2 ∧ q.2.oneCell' = true) ∧ (linkP (.pair A B') lks (L ++ lkR lks) p.1 p.2 = none → ∀ σ y, liftA (markL (L ++ lkR lks) (dataP (.pair A B') lks (L ++ lkR lks) (parts.toList.map fun (i, x) => (i, ρ' x)))) σ p.2 = some y → RepV w S1 σ y q.2)) (l.map fun (i, x) => (i, ρ' x)) (l.map fun (i, x) => (i, a.eval x)) := by
          intro l
          induction l with
          | nil => intro _; trivial
          | cons p l ih =>
            intro hin
            obtain ⟨i, x⟩ := p
            refine ⟨⟨rfl, fun id hl => ?_, fun hl σ y hy => ?_⟩, ih fun p hp => hin p (List.mem_cons_of_mem _ hp)⟩
            · have hl : linkP (.pair A B') lks (L ++ lkR lks) i (ρ' x) = some id := hl
              have hρ' : ρ' x = .rs id := linkP_get hl
              have hx := h2 x
              rw [hρ'] at hx
              have hone : (a.eval x).oneCell' = true := by
                have hx1 := h1 x
                rw [hρ'] at hx1
                simp only [RepA] at hx1
                obtain ⟨s, q1, q2, q3⟩ := hx1
                rw [hρ'] at hl
                unfold linkP at hl
                simp only [q1] at hl
                split at hl
                · rename_i te' e' xs' ro' e2 hs0 _
                  cases hs0
                  rw [q3 te' e' xs' ro' rfl]
                  obtain ⟨cs, ho, _⟩ := g1.inv.row id te' e' xs' ro' q1
                  rcases ho.2 with ⟨hv, _⟩ | ⟨g, cap, cur, hv, _⟩ <;> rw [hv] <;> rfl
                · cases hl
              simp only [RepA] at hx
              exact ⟨hx, hone⟩
            · refine lift_rep g2.inv (h2 x) (fun id hid => k2 (ρ' x) (dataP_mem (i := i) ?_ hl) id hid) hy
              exact List.mem_map.2 ⟨(i, x), hin _ List.mem_cons_self, rfl⟩
        obtain ⟨ds', f1, cs', f2, f3, f4, f5, f6⟩ := fillH (place := (places.toArray[·]?)) (fun i σ' hσ => by have := hp2 i σ' (by rw [Nat.zero_add]; exact hσ); rw [Nat.zero_add] at this; simpa using this) (lnk_zero (w := w) (S := S1) hz k1') (hall parts.toList fun _ h => h) hq
        have hparts : (parts.map fun (i, x) => (i, a.eval x)).toList = parts.toList.map fun (i, x) => (i, a.eval x) := by simp
        refine opDoes_of (s := Instr.build t (parts.map fun (i, x) => (i, a.eval x))) (by unfold execOp; rw [ho]) ?_
        refine ⟨.agg ds'.toArray, m1, w, S1, run_build w t _ _ ?_, g1.trans g2, ?_⟩
        · unfold Program.built
          simp only [hi, hd, hzz, hp1]
          rw [hparts]
          exact f1
        · simp only [RepA]
          exact ⟨rfl, cs', ds', rfl, f2, f3, f4, f5, f6⟩
    · cases ha
  · -- alloc
    rename_i t
    split at ha
    · rename_i p0 ps A B' hlk hty hob
      generalize hlks : p0 :: ps = lks at ha hlk
      cases hz : lkZ (.pair A B') lks with
      | false => rw [hz] at ha; cases ha
      | true =>
        rw [hz, cond_true] at ha
        cases ha
        rw [ho] at hid
        have hid := hid rfl
        obtain ⟨m1, g1, k1⟩ := Goes.rows lks hI
        have hid1 : (L ++ lkR lks)[id]? = some .resv := by rw [List.getElem?_append_left (List.getElem?_eq_some_iff.1 hid).1]; exact hid
        obtain ⟨cs, c2, c3, c4, c5, c6⟩ := lnk_zero (w := w) (S := S) (T := .pair A B') hz k1
        have hG := hC.ty _ _ hty
        have hg := Grows.alloc w (.cells (zc (.pair A B')).toArray t (0, 0))
        have gs := get_set (s := .lbx (.pair A B') (ETy.pair A B').z (lkH L.length lks)) ⟨_, hid1⟩
        have go := Goes.fresh' (s := .lbx (.pair A B') (ETy.pair A B').z (lkH L.length lks)) (v := .pointer (some ⟨w.heap.size, 0, none⟩)) g1.inv hg hid1 (by intro b hb; simp [blks, blk] at hb; omega) (by intro T x ro e; cases e) (by intro t e xs ro e; cases e) (by intro o e; cases e) (fun _ => false)
          (by
            intro T' x' q e
            cases e
            refine ⟨w.heap.size, cs, zc (.pair A B'), t, (0, 0), rfl, hI.base, heap_alloc_new w _, fun o _ => by simp, c2.safe (hg.safe g1.inv), c3, c4, c5, fun o rid hr => ?_⟩
            obtain ⟨v, k1, s, k2, k3, k4⟩ := c6 o rid (lk_mem hr)
            have hne : rid ≠ id := fun e => by subst e; rw [hid1] at k2; cases k2; exact k3 rfl
            exact ⟨v, k1, s, by rw [gs, if_neg hne]; exact k2, k3, fun t e xs ro q => by rw [upd_ne hne]; exact k4 t e xs ro q⟩)
        refine opDoes_of (s := Instr.alloc t true (.tuple #[])) (by unfold execOp; rw [ho]) ?_
        refine ⟨.pointer (some ⟨w.heap.size, 0, none⟩), _, _, _, ?_, g1.trans go, ?_⟩
        · simp only [Instr.alloc, Sem.run_bind, run_zeroValue' hG, Result.andThen_ok, newVar, newRow, cells_valOf (repC_zero (w := w) (S := S) _)]
          rfl
        · have := ref_lbx (m := upd m1 id (.pointer (some ⟨w.heap.size, 0, none⟩))) (L := (L ++ lkR lks).set id (.lbx (.pair A B') (ETy.pair A B').z (lkH L.length lks))) (w := w.alloc (.cells (zc (.pair A B')).toArray t (0, 0))) (S := S) (p := []) (q := []) (hs := lkH L.length lks) (x := (ETy.pair A B').z) (by rw [gs, if_pos rfl]) (upd_same _ _ _) (by simp [okP])
          simpa [off] using this
    · cases ha
  · -- box
    rename_i t x
    split at ha
    · rename_i T y hs hx
      split at ha
      · rename_i hty
        cases ha
        have hb := h x
        rw [hx] at hb
        simp only [RepA] at hb
        obtain ⟨hagg, cs, ds, hu, h2, h3, h4, h5, h6⟩ := hb
        refine opDoes_of (s := Instr.box t (a.eval x)) (by unfold execOp; rw [ho]) ?_
        rw [ho] at hid
        have hid := hid rfl
        have hg := Grows.alloc w (.cells ds.toArray t (0, 0))
        have gs := get_set (s := .lbx T y hs) ⟨_, hid⟩
        have go := Goes.fresh' (s := .lbx T y hs) (v := .pointer (some ⟨w.heap.size, 0, none⟩)) hI hg hid (by intro b hb; simp [blks, blk] at hb; omega) (by intro T x ro e; cases e) (by intro t e xs ro e; cases e) (by intro o e; cases e) (fun _ => false)
          (by
            intro T' x' q e
            cases e
            refine ⟨w.heap.size, cs, ds, t, (0, 0), rfl, hI.base, heap_alloc_new w _, fun o _ => by simp, h2.safe (hg.safe hI), h3, h4, h5, fun o rid hr => ?_⟩
            obtain ⟨v, k1, s, k2, k3, k4⟩ := h6 o rid (lk_mem hr)
            have hne : rid ≠ id := fun e => by subst e; rw [hid] at k2; cases k2; exact k3 rfl
            exact ⟨v, k1, s, by rw [gs, if_neg hne]; exact k2, k3, fun t e xs ro q => by rw [upd_ne hne]; exact k4 t e xs ro q⟩)
        refine ⟨.pointer (some ⟨w.heap.size, 0, none⟩), _, _, _, ?_, go, ?_⟩
        · rw [hu]
          simp only [Instr.box, Sem.run_bind, newVar, newRow, Value.cells]
          rfl
        · have := ref_lbx (m := upd m id (.pointer (some ⟨w.heap.size, 0, none⟩))) (L := L.set id (.lbx T y hs)) (w := w.alloc (.cells ds.toArray t (0, 0))) (S := S) (p := []) (q := []) (hs := hs) (x := y) (by rw [gs, if_pos rfl]) (upd_same _ _ _) (by simp [okP])
          simpa [off] using this
      · cases ha
    · rename_i T y os hx
      split at ha
      · rename_i hty
        cases ha
        have hb := h x
        rw [hx] at hb
        simp only [RepA] at hb
        obtain ⟨hagg, cs, hu, h2, h3⟩ := hb
        refine opDoes_of (s := Instr.box t (a.eval x)) (by unfold execOp; rw [ho]) ?_
        rw [ho] at hid
        have hid := hid rfl
        obtain ⟨m1, g1, k1⟩ := Goes.rows (pickL os (C.Lk t)) hI
        have hid1 : (L ++ lkR (pickL os (C.Lk t)))[id]? = some .resv := by rw [List.getElem?_append_left (List.getElem?_eq_some_iff.1 hid).1]; exact hid
        have hg := Grows.alloc w (.cells cs.toArray t (0, 0))
        have gs := get_set (s := .lbx T y (lkH L.length (pickL os (C.Lk t)))) ⟨_, hid1⟩
        have go := Goes.fresh' (s := .lbx T y (lkH L.length (pickL os (C.Lk t)))) (v := .pointer (some ⟨w.heap.size, 0, none⟩)) g1.inv hg hid1 (by intro b hb; simp [blks, blk] at hb; omega) (by intro T x ro e; cases e) (by intro t e xs ro e; cases e) (by intro o e; cases e) (fun _ => false)
          (by
            intro T' x' q e
            cases e
            refine ⟨w.heap.size, cs, cs, t, (0, 0), rfl, hI.base, heap_alloc_new w _, fun o _ => by simp, h2.safe (hg.safe g1.inv), rfl, h2.one, fun _ _ => rfl, fun o rid hr => ?_⟩
            obtain ⟨s, k2, k3, k4⟩ := k1 _ (lk_mem hr) rid rfl
            have hne : rid ≠ id := fun e => by subst e; rw [hid1] at k2; cases k2; exact k3 rfl
            exact ⟨_, h3 o (pick_mem (lk_mem hr)), s, by rw [gs, if_neg hne]; exact k2, k3, fun t e xs ro q => by rw [upd_ne hne]; exact k4 t e xs ro q⟩)
        refine ⟨.pointer (some ⟨w.heap.size, 0, none⟩), _, _, _, ?_, g1.trans go, ?_⟩
        · rw [hu]
          simp only [Instr.box, Sem.run_bind, newVar, newRow, Value.cells]
          rfl
        · have := ref_lbx (m := upd m1 id (.pointer (some ⟨w.heap.size, 0, none⟩))) (L := (L ++ lkR (pickL os (C.Lk t))).set id (.lbx T y (lkH L.length (pickL os (C.Lk t))))) (w := w.alloc (.cells cs.toArray t (0, 0))) (S := S) (p := []) (q := []) (hs := lkH L.length (pickL os (C.Lk t))) (x := y) (by rw [gs, if_pos rfl]) (upd_same _ _ _) (by simp [okP])
          simpa [off] using this
      · cases ha
    · cases ha
  · -- field
    rename_i t p f
    split at ha
    · rename_i j q hp
      split at ha
      · rename_i T x hs hL
        obtain ⟨τ, hτ, ha⟩ := Option.bind_eq_some_iff.1 ha
        split at ha
        · rename_i hty
          obtain ⟨σ, hσ, ha⟩ := Option.bind_eq_some_iff.1 ha
          split at ha
          · cases ha
          · rename_i hz
            cases ha
            have hb := h p
            rw [hp] at hb
            obtain ⟨h0, b, hm, hu⟩ := lbx_ref hI hL hb
            obtain ⟨q1, q2, q3⟩ := off_append (q := [.fld f]) hτ
            refine opDoes_of (s := Instr.fieldAt t (a.eval p) f) (by unfold execOp; rw [ho]) ?_
            rw [hu]
            refine ⟨_, m, w, S, run_fieldAt (hC.ty _ _ hty) hσ hz, stay hb, ?_⟩
            rw [← q1]
            exact ref_lbx (p := q) hL hm (q3 h0 (okP_fld hσ))
        · cases ha
      · cases ha
    · cases ha
  · -- index
    rename_i t p i
    split at ha
    · rename_i j q k n hp hi
      split at ha
      · rename_i T x hs hL
        obtain ⟨r, hr, ha⟩ := Option.bind_eq_some_iff.1 ha
        split at ha
        · rename_i hty
          simp only [Option.some.injEq, Prod.mk.injEq] at ha
          obtain ⟨hb, rfl, rfl⟩ := ha
          obtain ⟨b1, b2⟩ := idxOK_iff.1 hb
          have hbp := h p
          rw [hp] at hbp
          have hbi := h i
          rw [hi, rep_int] at hbi
          obtain ⟨h0, b, hm, hu⟩ := lbx_ref hI hL hbp
          obtain ⟨te, inf, hun, hinf, hsz, hag⟩ := und_arr (hC.ty _ _ hty)
          obtain ⟨q1, q2, q3⟩ := off_append (q := [.idx (Int.toNat n)]) (elemTy_eq hr)
          refine opDoes_of (s := Instr.indexAt t (a.eval p) (a.eval i)) (by unfold execOp; rw [ho]) ?_
          rw [hu, hbi]
          refine ⟨_, m, w, S, run_indexAt_arr hun hinf hsz b1 b2, stay hbp, ?_⟩
          have := ref_lbx (p := q) (w := w) (S := S) hL hm (q3 h0 (okP_idx (toNat_lt b1 b2)))
          rw [q1] at this
          simpa [off] using this
        · cases ha
      · cases ha
    · cases ha
  · -- nil
    rename_i p
    split at ha
    · rename_i j q hp
      split at ha
      · rename_i T x hs hL
        cases ha
        have hb := h p
        rw [hp] at hb
        obtain ⟨h0, b, hm, hu⟩ := lbx_ref hI hL hb
        intro next Q hn
        unfold Oper.wp execOp
        rw [ho]
        have := hn (a.eval p) m w S (stay hb) hb
        simp only [hu] at this ⊢
        exact this
      · cases ha
    · cases ha
  · -- load
    rename_i t p
    split at ha
    · rename_i j q hp
      split at ha
      · rename_i T x hs hL
        obtain ⟨d, hd, ha⟩ := Option.bind_eq_some_iff.1 ha
        have hb := h p
        rw [hp] at hb
        refine opDoes_of (s := Instr.loadAt t (a.eval p)) (by unfold execOp; rw [ho]) ?_
        split at ha
        · rename_i hty
          cases hf : freeH hs (lowP T q) (widP T q) with
          | true =>
            rw [hf, cond_true] at ha
            cases ha
            obtain ⟨hok, _⟩ := lbx_ref hI hL hb
            obtain ⟨i1, i2⟩ := pre_in hok (getP_ty hd)
            obtain ⟨v, r1, r2⟩ := load_free hC hI hL hb hd hty (freeH_sub i1 i2 hf)
            exact ⟨v, m, w, S, r1, stay hb, r2⟩
          | false =>
            rw [hf, cond_false] at ha
            split at ha
            · rename_i rid e hk hde
              cases ha
              obtain ⟨v, r1, r2⟩ := load_link hC hI hL hb (by rw [hty, hde]) hk
              exact ⟨v, m, w, S, r1, stay hb, r2⟩
            · obtain ⟨⟨c1, a1⟩, h1, h2⟩ := Option.map_eq_some_iff.1 ha
              simp only [Prod.mk.injEq] at h2
              obtain ⟨rfl, rfl, rfl⟩ := h2
              obtain ⟨S1, g1⟩ := frzN_goes (m := m) (w := w) 0 j (fun _ => false) 6 hI
              obtain ⟨v, r1, r2⟩ := gives_load hC g1.inv (goes_noX (fun _ => rfl) g1 hb) a1 h1
              exact ⟨v, m, w, S1, r1, g1, r2⟩
            · cases ha
        · cases ha
      · cases ha
    · cases ha
  · -- store
    rename_i t p x
    split at ha
    · rename_i j q hp
      split at ha
      · rename_i T0 y0 ro hL
        split at ha
        · rename_i T y os hx
          split at ha
          · rename_i hc
            obtain ⟨rfl, rfl, hty⟩ := hc
            cases ha
            have hb := h p
            rw [hp] at hb
            have hx' := h x
            rw [hx] at hx'
            obtain ⟨w2, m2, r1, r2⟩ := store_nils (lks := C.Lk t) hC hI hL hb hx' hty
            intro next Q hn
            unfold Oper.wp execOp
            rw [ho]
            simp only [Sem.run_bind, r1, Result.andThen_ok, Sem.run_pure, Oper.upon]
            exact hn undef m2 w2 S r2 (by simp only [RepA])
          · cases ha
        · cases ha
      · rename_i T y hs hL
        have hb := h p
        rw [hp] at hb
        have hx := h x
        split at ha
        · rename_i rid hr
          split at ha
          · rename_i te e xs ro hR
            obtain ⟨d, hd, ha⟩ := Option.bind_eq_some_iff.1 ha
            split at ha
            · rename_i hty
              cases ha
              rw [hr] at hx
              obtain ⟨w2, r1, r2⟩ := store_link hC hI hL hb hx hR hd hty.1 hty.2
              intro next Q hn
              unfold Oper.wp execOp
              rw [ho]
              simp only [Sem.run_bind, r1, Result.andThen_ok, Sem.run_pure, Oper.upon]
              exact hn undef m w2 S r2 (by simp only [RepA])
            · cases ha
          · cases ha
        · rename_i av' hne hav
          obtain ⟨τ, hτ, ha⟩ := Option.bind_eq_some_iff.1 ha
          obtain ⟨v, hv, ha⟩ := Option.bind_eq_some_iff.1 ha
          obtain ⟨x', hset, ha⟩ := Option.map_eq_some_iff.1 ha
          cases ha
          obtain ⟨S1, g1, _, k1⟩ := markL_goes (m := m) (w := w) (fun _ => false) [datA (ρ x)] hI
          have hx1 := goes_noX (fun _ => rfl) g1 (datA_rep hx)
          have hb1 := goes_noX (fun _ => rfl) g1 hb
          have hrep := lift_rep g1.inv hx1 (k1 (datA (ρ x)) (by simp)) hv
          have hL1 : (markL L [datA (ρ x)])[j]? = some (.lbx T y hs) := markL_lbx hL
          obtain ⟨w2, r1, r2⟩ := store_free hC g1.inv hL1 hb1 hrep hτ hset
          have hsame : (bif freeH hs (lowP T q) (widP T q) then hs else outH hs (off T q) τ.size) = outH hs (off T q) τ.size := by
            cases hf : freeH hs (lowP T q) (widP T q) with
            | true =>
              obtain ⟨hok, _⟩ := lbx_ref hI hL hb
              obtain ⟨i1, i2⟩ := pre_in hok (setP_ty hset)
              exact (outH_free (freeH_sub i1 i2 hf)).symm
            | false => rfl
          rw [hsame]
          intro next Q hn
          unfold Oper.wp execOp
          rw [ho]
          simp only [Sem.run_bind, r1, Result.andThen_ok, Sem.run_pure, Oper.upon]
          exact hn undef m w2 S1 (Goes.boxH hL1 (g1.trans r2)) (by simp only [RepA])
      · cases ha
    · cases ha
  · -- copy
    rename_i args ts
    split at ha
    · rename_i d s t t' e1 e2
      have hargs : args = #[d, s] := by rw [← Array.toArray_toList (xs := args), e1]
      have hts : ts = #[t, t'] := by rw [← Array.toArray_toList (xs := ts), e2]
      subst hargs; subst hts
      obtain ⟨u, m', w', S', h1, h2, h3⟩ := does_copy (t' := t') (ty := o.type) hC hI (h d) (h s) ha
      intro next Q hn
      unfold Oper.wp execOp
      rw [ho]
      simp only [resolve, Sem.run_bind, Sem.run_pure, Result.andThen_ok, invoke, builtin, List.map_toArray, List.map_cons, List.map_nil, h1, Oper.upon]
      exact hn u m' w' S' h2 h3
    · cases ha
  · cases ha
end
end
section
set_option linter.unusedVariables false
set_option linter.unusedSimpArgs false
set_option maxHeartbeats 400000
structure Spec where
  con : ∀ {Ω : Type}, FuncId → List AV → (AV → Option Ω) → Option Ω
  isI : FuncId → Bool
  inl : ∀ {Ω : Type}, FuncId → List AV → Heap → (AV → Heap → Option Ω) → Option Ω
structure CallDoes (C : Cfg) (g : FuncId) (as : List AV) (L : Heap) (av : AV) (L' : Heap) : Prop where
  enters : ∀ (us : Array Value) (w : World), (callFunc g us).run C.P w = .ok (.enter g us) w
  keeps : ∀ j : Nat, L[j]? = some .resv → L'[j]? = some .resv
  runs : ∀ (B : Nat) (m : Nat → Value) (w : World) (S : Nat → Nat → Prop) (us : List Value), Inv B m L w S → GlobOK C B w S → RepAs m L w S as us →
    Calls C.P g us.toArray w fun e w' => ∃ u m' S', e = .returned u ∧ Goes B (fun _ => false) m L w S m' L' w' S' ∧ RepA m' L' w' S' av u
structure SpecOK (C : Cfg) (spec : Spec) : Prop where
  con : ∀ {Ω : Type} (g : FuncId) (bs : List AV) (k : AV → Option Ω) (r : Ω), spec.con g bs k = some r → ∃ av, k av = some r ∧ Contract C g bs av
  inl : ∀ {Ω : Type} (g : FuncId) (as : List AV) (L : Heap) (k : AV → Heap → Option Ω) (r : Ω), spec.inl g as L k = some r → ∃ av L', k av L' = some r ∧ CallDoes C g as L av L'
def rawA (ρ : Operand → AV) : Op → Option (FuncId × List AV)
  | .call ⟨.value f, args, _⟩ => match fnOf (ρ f) with
    | .fn g caps => some (g, args.toList.map ρ ++ caps)
    | .bm g first => some (g, first ++ args.toList.map ρ)
    | _ => none
  | _ => none
def appOK (C : Cfg) (ρ : Operand → AV) : Op → Bool
  | .call ⟨.builtin .append, args, _⟩ => match args.toList with
    | [s, _] => (match ρ s with | .rs i => C.Y i | _ => true)
    | _ => true
  | _ => true
theorem appOK_rows {C : Cfg} {ρ : Operand → AV} {op : Op} (h : appOK C ρ op = true) {i : Nat} (hi : rowsOf ρ op i = true) : C.Y i = true := by
  unfold rowsOf at hi
  split at hi
  · rename_i args ts
    have key : ∀ l : List Operand, args.toList = l → (match l with | [s, _] => rowOf (ρ s) | _ => fun _ => false) i = true → C.Y i = true := by
      intro l hl hi
      match l, hl, hi with
      | [s, x], hl, hi =>
        unfold appOK at h
        simp only [hl] at h
        have hi2 : rowOf (ρ s) i = true := hi
        cases hρ : ρ s with
        | rs j =>
          rw [hρ] at hi2 h
          simp only [rowOf, beq_iff_eq] at hi2
          subst hi2
          exact h
        | _ => rw [hρ] at hi2; cases hi2
      | [], _, hi => cases hi
      | [_], _, hi => cases hi
      | _ :: _ :: _ :: _, _, hi => cases hi
    exact key _ rfl hi
  · cases hi
def envPut (env : List AV) : Option Tmp → AV → List AV
  | some d, a => env.set d a
  | none, _ => env
def scrubA (X : Nat → Bool) (a : AV) : AV := if a.ids (noX X) then a else .dead
def isCall : Op → Bool
  | .call ⟨.value _, _, _⟩ => true
  | _ => false
def isAct : Op → Bool
  | .alloc _ => true
  | .box _ _ => true
  | .build _ _ => true
  | .buildSlice _ _ _ => true
  | .store _ _ _ => true
  | .move (.const (.slice none 0 0)) => true
  | .assign (.const (.slice none 0 0)) => true
  | .call ⟨.builtin .append, _, _⟩ => true
  | .convert _ _ _ => true
  | .makeSlice _ _ _ => true
  | _ => false
def isAppend : Op → Bool
  | .call ⟨.builtin .append, _, _⟩ => true
  | _ => false
def evOp {Ω : Type} (C : Cfg) (spec : Spec) (o : Oper) (id : Nat) (env : List AV) (L : Heap) (k : List AV → Heap → Option Ω) : Option Ω :=
  bif isCall o.op then
    match rawA (evA C env) o.op with
    | some (g, as) => bif spec.isI g then spec.inl g as L fun av L' => k (envPut env o.dst av) L'
      else match callA C (evA C env) L o.op with
        | some (g, bs, L1) => spec.con g bs fun av => k (envPut env o.dst av) (if av.flat then L else L1)
        | none => none
    | none => none
  else match lop C (evB C env) L id o.op with
  | some (c, av, L') => bif c then k (envPut env o.dst av) L' else none
  | none => bif isAct o.op then
      bif appOK C (evA C env) o.op then
        match act C (evA C env) L id o.type o.op with
        | some (c, av, L') => bif c then k (envPut (bif isAppend o.op then env.map (scrubA (rowsOf (evA C env) o.op)) else env) o.dst av) L' else none
        | none => none
      else none
    else
      match rop C (evA C env) L o.op with
      | some (c, av) => bif c then k (envPut env o.dst av) L else none
      | none => none
def OpRel (C : Cfg) (o : Oper) (id : Nat) (env : List AV) (L : Heap) (env' : List AV) (L' : Heap) : Prop :=
  (isCall o.op = true ∧ ∃ g bs L1 av, callA C (evA C env) L o.op = some (g, bs, L1) ∧ Contract C g bs av ∧ env' = envPut env o.dst av ∧ L' = if av.flat then L else L1) ∨
  (isCall o.op = false ∧ isAct o.op = true ∧ appOK C (evA C env) o.op = true ∧ ∃ av, act C (evA C env) L id o.type o.op = some (true, av, L') ∧ env' = envPut (bif isAppend o.op then env.map (scrubA (rowsOf (evA C env) o.op)) else env) o.dst av) ∨
  (isCall o.op = false ∧ isAct o.op = false ∧ ∃ av, rop C (evA C env) L o.op = some (true, av) ∧ env' = envPut env o.dst av ∧ L' = L) ∨
  (isCall o.op = true ∧ ∃ g as av, rawA (evA C env) o.op = some (g, as) ∧ CallDoes C g as L av L' ∧ env' = envPut env o.dst av) ∨
  (isCall o.op = false ∧ ∃ av, lop C (evB C env) L id o.op = some (true, av, L') ∧ env' = envPut env o.dst av) ∨
  (isCall o.op = false ∧ ∃ av, makeD C (evA C env) o.op = some (true, av) ∧ env' = envPut env o.dst av ∧ L' = L)
def und : AV := .cst undef
def gTmp (ops : Array Oper) (j : Nat) : Option Tmp := (ops[j]?).bind (·.dst)
def nextId (o : Oper) (id : Nat) : Nat := bif wantsId o.op then id + 1 else id
def evOps {Ω : Type} (C : Cfg) (spec : Spec) (ops : Array Oper) : List Oper → Nat → List AV → Heap → (List AV → Heap → Option Ω) → Option Ω
  | [], _, env, L, k => k env L
  | o :: rest, id, env, L, k =>
    match o.guard with
    | none => evOp C spec o id env L fun env' L' => evOps C spec ops rest (nextId o id) env' L' k
    | some (j, want) => match gTmp ops j with
      | none => none
      | some d => match env.getD d .dead with
        | .v .bool b => bif b then
            (bif want then evOp C spec o id (env.set d (.v .bool true)) L fun env' L' => evOps C spec ops rest (nextId o id) env' L' k
              else evOps C spec ops rest (nextId o id) (envPut (env.set d (.v .bool true)) o.dst und) L k)
          else
            (bif want then evOps C spec ops rest (nextId o id) (envPut (env.set d (.v .bool false)) o.dst und) L k
              else evOp C spec o id (env.set d (.v .bool false)) L fun env' L' => evOps C spec ops rest (nextId o id) env' L' k)
        | .cst (.tuple _) => evOps C spec ops rest (nextId o id) (envPut env o.dst und) L k
        | _ => none
def StepRel (C : Cfg) (ops : Array Oper) (o : Oper) (id : Nat) (env : List AV) (L : Heap) (env' : List AV) (L' : Heap) : Prop :=
  match o.guard with
  | none => OpRel C o id env L env' L'
  | some (j, want) => ∃ d, gTmp ops j = some d ∧ ((∃ b, env.getD d .dead = .v .bool b ∧ (if b = want then OpRel C o id env L env' L' else env' = envPut env o.dst und ∧ L' = L)) ∨ ((∃ c, env.getD d .dead = .cst (.tuple c)) ∧ env' = envPut env o.dst und ∧ L' = L))
section
variable {Ω : Type} {C : Cfg} {B : Nat} {w0 : World} {S0 : Nat → Nat → Prop} {ms : Nat → Value} {Ls : Heap} {spec : Spec}
def St (C : Cfg) (B : Nat) (w0 : World) (S0 : Nat → Nat → Prop) (ms : Nat → Value) (Ls : Heap) (env : List AV) (L : Heap) (a : Act) (w : World) : Prop :=
  ∃ m S, Inv B m L w S ∧ RepE m L w S env a.tmps ∧ GlobOK C B w S ∧ Below B w0 w ∧ Safe S0 S w0 w ∧ (∀ b o, S b o → S0 b o ∨ B ≤ b) ∧ Ext C.Y ms Ls m L ∧ a.defers = []
theorem set_getD {env : List AV} {d : Nat} {x : AV} (h : env.getD d .dead = x) (hx : x ≠ .dead) : env.set d x = env := by
  rw [List.getD_eq_getElem?_getD] at h
  cases hd : env[d]? with
  | none => rw [hd] at h; exact absurd h.symm hx
  | some y =>
    rw [hd] at h
    simp only [Option.getD_some] at h
    subst h
    obtain ⟨hlt, rfl⟩ := List.getElem?_eq_some_iff.1 hd
    exact List.set_getElem_self hlt
theorem evOp_rel (hS : SpecOK C spec) {o : Oper} {id : Nat} {env : List AV} {L : Heap} {k : List AV → Heap → Option Ω} {r : Ω} (h : evOp C spec o id env L k = some r) : ∃ env' L', OpRel C o id env L env' L' ∧ k env' L' = some r := by
  unfold evOp at h
  cases hc : isCall o.op with
  | true =>
    rw [hc] at h
    simp only [cond_true] at h
    split at h
    · rename_i g0 as hra
      cases hi : spec.isI g0 with
      | true =>
        rw [hi, cond_true] at h
        obtain ⟨av, L', h1, h2⟩ := hS.inl _ _ _ _ _ h
        exact ⟨_, _, .inr (.inr (.inr (.inl ⟨hc, g0, as, av, hra, h2, rfl⟩))), h1⟩
      | false =>
        rw [hi, cond_false] at h
        split at h
        · rename_i g bs L1 hca
          obtain ⟨av, h1, h2⟩ := hS.con g bs _ r h
          exact ⟨_, _, .inl ⟨hc, g, bs, L1, av, hca, h2, rfl, rfl⟩, h1⟩
        · cases h
    · cases h
  | false =>
    rw [hc] at h
    simp only [cond_false] at h
    split at h
    · rename_i c av L' hl
      cases c with
      | true => exact ⟨_, _, .inr (.inr (.inr (.inr (.inl ⟨hc, av, hl, rfl⟩)))), h⟩
      | false => cases h
    cases ha : isAct o.op with
    | true =>
      rw [ha] at h
      simp only [cond_true] at h
      cases hap : appOK C (evA C env) o.op with
      | false => rw [hap] at h; cases h
      | true =>
        rw [hap, cond_true] at h
        split at h
        · rename_i c av L' hact
          cases c with
          | true => exact ⟨_, _, .inr (.inl ⟨hc, ha, hap, av, hact, rfl⟩), h⟩
          | false => cases h
        · cases h
    | false =>
      rw [ha] at h
      simp only [cond_false] at h
      split at h
      · rename_i c av hrop
        cases c with
        | true => exact ⟨_, _, .inr (.inr (.inl ⟨hc, ha, av, hrop, rfl, rfl⟩)), h⟩
        | false => cases h
      · cases h
def RunRel (C : Cfg) (ops : Array Oper) : List (Oper × Nat) → List AV → Heap → List AV → Heap → Prop
  | [], env, L, env', L' => env' = env ∧ L' = L
  | (o, id) :: rest, env, L, env', L' => ∃ env1 L1, StepRel C ops o id env L env1 L1 ∧ RunRel C ops rest env1 L1 env' L'
def withIds : List Oper → Nat → List (Oper × Nat)
  | [], _ => []
  | o :: rest, id => (o, id) :: withIds rest (nextId o id)
theorem evOps_rel (hS : SpecOK C spec) {ops : Array Oper} : ∀ {l : List Oper} {id : Nat} {env : List AV} {L : Heap} {k : List AV → Heap → Option Ω} {r : Ω}, evOps C spec ops l id env L k = some r →
    ∃ env' L', RunRel C ops (withIds l id) env L env' L' ∧ k env' L' = some r
  | [], id, env, L, k, r, h => ⟨env, L, ⟨rfl, rfl⟩, h⟩
  | o :: rest, id, env, L, k, r, h => by
    simp only [evOps] at h
    have go : ∀ env0, evOp C spec o id env0 L (fun env' L' => evOps C spec ops rest (nextId o id) env' L' k) = some r →
        ∃ env1 L1, OpRel C o id env0 L env1 L1 ∧ ∃ env' L', RunRel C ops (withIds rest (nextId o id)) env1 L1 env' L' ∧ k env' L' = some r := by
      intro env0 h
      obtain ⟨env1, L1, h1, h2⟩ := evOp_rel hS h
      exact ⟨env1, L1, h1, evOps_rel hS h2⟩
    split at h
    · rename_i hg
      obtain ⟨env1, L1, h1, env', L', h2, h3⟩ := go env h
      exact ⟨env', L', ⟨env1, L1, by unfold StepRel; rw [hg]; exact h1, h2⟩, h3⟩
    · rename_i j want hg
      cases hd : gTmp ops j with
      | none => rw [hd] at h; cases h
      | some d =>
        rw [hd] at h
        simp only at h
        split at h
        · rename_i b hb
          cases b with
          | true =>
            rw [set_getD hb (by simp)] at h
            simp only [cond_true] at h
            cases want with
            | true =>
              simp only [cond_true] at h
              obtain ⟨env1, L1, h1, env', L', h2, h3⟩ := go env h
              exact ⟨env', L', ⟨env1, L1, by unfold StepRel; rw [hg]; exact ⟨d, hd, .inl ⟨true, hb, by simpa using h1⟩⟩, h2⟩, h3⟩
            | false =>
              simp only [cond_false] at h
              obtain ⟨env', L', h2, h3⟩ := evOps_rel hS h
              exact ⟨env', L', ⟨_, _, by unfold StepRel; rw [hg]; exact ⟨d, hd, .inl ⟨true, hb, by simp⟩⟩, h2⟩, h3⟩
          | false =>
            rw [set_getD hb (by simp)] at h
            simp only [cond_false] at h
            cases want with
            | true =>
              simp only [cond_true] at h
              obtain ⟨env', L', h2, h3⟩ := evOps_rel hS h
              exact ⟨env', L', ⟨_, _, by unfold StepRel; rw [hg]; exact ⟨d, hd, .inl ⟨false, hb, by simp⟩⟩, h2⟩, h3⟩
            | false =>
              simp only [cond_false] at h
              obtain ⟨env1, L1, h1, env', L', h2, h3⟩ := go env h
              exact ⟨env', L', ⟨env1, L1, by unfold StepRel; rw [hg]; exact ⟨d, hd, .inl ⟨false, hb, by simpa using h1⟩⟩, h2⟩, h3⟩
        · rename_i c hb
          obtain ⟨env', L', h2, h3⟩ := evOps_rel hS h
          exact ⟨env', L', ⟨_, _, by unfold StepRel; rw [hg]; exact ⟨d, hd, .inr ⟨⟨c, hb⟩, rfl, rfl⟩⟩, h2⟩, h3⟩
        · cases h
theorem RepE.go {m m' : Nat → Value} {L L' : Heap} {w w' : World} {S S' : Nat → Nat → Prop} {env : List AV} {tmps : Array Value} {X : Nat → Bool} (h : RepE m L w S env tmps) (hg : Goes B X m L w S m' L' w' S') : RepE m' L' w' S' (env.map (scrubA X)) tmps := by
  refine ⟨by simp [h.size], fun t => ?_⟩
  have h0 := h.at_ t
  rw [List.getD_eq_getElem?_getD] at h0 ⊢
  cases hd : env[t]? with
  | none => rw [List.getElem?_map, hd]; simp only [Option.map_none, Option.getD_none, RepA]
  | some a =>
    rw [hd] at h0
    rw [List.getElem?_map, hd]
    simp only [Option.map_some, Option.getD_some] at h0 ⊢
    unfold scrubA
    split
    · rename_i hx; exact RepA.go hg.safe hg.ext hx h0
    · simp only [RepA]
theorem RepE.go0 {m m' : Nat → Value} {L L' : Heap} {w w' : World} {S S' : Nat → Nat → Prop} {env : List AV} {tmps : Array Value} {X : Nat → Bool} (hX : ∀ i, X i = false) (h : RepE m L w S env tmps) (hg : Goes B X m L w S m' L' w' S') : RepE m' L' w' S' env tmps :=
  ⟨h.size, fun t => goes_noX hX hg (h.at_ t)⟩
theorem RepE.putO {m : Nat → Value} {L : Heap} {w : World} {S : Nat → Nat → Prop} {env : List AV} {a : Act} (h : RepE m L w S env a.tmps) {av : AV} {u : Value} (hu : RepA m L w S av u) (dst : Option Tmp) : RepE m L w S (envPut env dst av) (a.put dst u).tmps := by
  cases dst with
  | none => exact h
  | some d => exact h.put hu d
theorem put_defers (a : Act) (dst : Option Tmp) (u : Value) : (a.put dst u).defers = a.defers := by cases dst <;> rfl
theorem St.after {m : Nat → Value} {S : Nat → Nat → Prop} {L : Heap} {a : Act} {w : World} (hG : GlobOK C B w S) (hb : Below B w0 w) (hs : Safe S0 S w0 w) (hn : ∀ b o, S b o → S0 b o ∨ B ≤ b) (hx : Ext C.Y ms Ls m L) (hd : a.defers = [])
    {X : Nat → Bool} (hX : ∀ i, X i = true → C.Y i = true) {m' : Nat → Value} {L' : Heap} {w' : World} {S' : Nat → Nat → Prop} (hg : Goes B X m L w S m' L' w' S') {env1 : List AV} (he : RepE m' L' w' S' env1 a.tmps) {av : AV} {u : Value} (hu : RepA m' L' w' S' av u) (dst : Option Tmp) :
    St C B w0 S0 ms Ls (envPut env1 dst av) L' (a.put dst u) w' :=
  ⟨m', S', hg.inv, he.putO hu dst, hG.go hg.safe hg.below, hb.trans hg.below, hs.trans hg.safe, fun b o h => (hg.new b o h).elim (hn b o) .inr, hx.trans (hg.ext.mono hX), by rw [put_defers]; exact hd⟩
theorem rowsOf_none {ρ : Operand → AV} {op : Op} (h : isAppend op = false) (i : Nat) : rowsOf ρ op i = false := by
  have : rowsOf ρ op = fun _ => false := by
    unfold rowsOf
    split
    · simp [isAppend] at h
    · rfl
  rw [this]
theorem opDoes_inl {m : Nat → Value} {S : Nat → Nat → Prop} {L L' : Heap} {w : World} (hI : Inv B m L w S) (hG : GlobOK C B w S) {ρ : Operand → AV} {a : Act} (h : ∀ x, RepA m L w S (ρ x) (a.eval x)) {o : Oper} {g : FuncId} {as : List AV} {av : AV} (hc : rawA ρ o.op = some (g, as)) (hk : CallDoes C g as L av L') :
    OpDoes C B (fun _ => false) m L w S a o av L' := by
  unfold rawA at hc
  split at hc
  · rename_i f args ts ho
    split at hc
    · rename_i g' caps hf
      simp only [Option.some.injEq, Prod.mk.injEq] at hc
      obtain ⟨rfl, rfl⟩ := hc
      have hfv := fnOf_rep (h f)
      rw [hf] at hfv
      simp only [RepA] at hfv
      obtain ⟨vs, hev, hcaps⟩ := hfv
      have hall : RepAs m L w S (args.toList.map ρ ++ caps) (args.toList.map a.eval ++ vs) := repAs_append (repAs_map h _) hcaps
      have hcalls := hk.runs B m w S _ hI hG hall
      intro next Q hn
      unfold Oper.wp execOp
      rw [ho]
      have harr : (args.map a.eval ++ vs.toArray) = (args.toList.map a.eval ++ vs).toArray := by
        apply Array.ext'; simp
      simp only [resolve, Deferred.ofValue, hev, Sem.run_bind, Sem.run_pure, Result.andThen_ok, invoke, Array.empty_append, harr, hk.enters, Oper.upon]
      refine hcalls.mono ?_
      rintro e w' ⟨u, m', S', rfl, hg, hrep⟩
      exact hn u m' w' S' hg hrep
    · rename_i g' first hf
      simp only [Option.some.injEq, Prod.mk.injEq] at hc
      obtain ⟨rfl, rfl⟩ := hc
      have hfv := fnOf_rep (h f)
      rw [hf] at hfv
      simp only [RepA] at hfv
      obtain ⟨vs, hev, hcaps⟩ := hfv
      have hall : RepAs m L w S (first ++ args.toList.map ρ) (vs ++ args.toList.map a.eval) := repAs_append hcaps (repAs_map h _)
      have hcalls := hk.runs B m w S _ hI hG hall
      intro next Q hn
      unfold Oper.wp execOp
      rw [ho]
      have harr : (vs.toArray ++ args.map a.eval) = (vs ++ args.toList.map a.eval).toArray := by
        apply Array.ext'; simp
      simp only [resolve, Deferred.ofValue, hev, Sem.run_bind, Sem.run_pure, Result.andThen_ok, invoke, Array.append_empty, harr, hk.enters, Oper.upon]
      refine hcalls.mono ?_
      rintro e w' ⟨u, m', S', rfl, hg, hrep⟩
      exact hn u m' w' S' hg hrep
    · cases hc
  · cases hc
theorem op_step (hC : C.OK) {o : Oper} {id : Nat} {env env' : List AV} {L L' : Heap} {a : Act} {w : World} (hid : wantsId o.op = true → L[id]? = some .resv) (h : OpRel C o id env L env' L') (hst : St C B w0 S0 ms Ls env L a w)
    {next : Act → World → Prop} {Q : Exit → Act → World → Prop} (hn : ∀ a' w', St C B w0 S0 ms Ls env' L' a' w' → next a' w') : o.wp C.P a w next Q := by
  obtain ⟨m, S, hI, hE, hG, hb, hs, hnew, hx, hd⟩ := hst
  have hev : ∀ x, RepA m L w S (evA C env x) (a.eval x) := fun x => hE.eval hG x
  have hevB : ∀ x, RepA m L w S (evB C env x) (a.eval x) := fun x => hE.evalB hG x
  rcases h with ⟨_, g, bs, L1, av, h1, h2, rfl, rfl⟩ | ⟨_, _, hap, av, h1, rfl⟩ | ⟨_, _, av, h1, rfl, rfl⟩ | ⟨_, g, as, av, h1, h2, rfl⟩ | ⟨_, av, h1, rfl⟩ | ⟨_, av, h1, rfl, rfl⟩
  · refine opDoes_call hI hG hev h1 h2 next Q (fun u m' w' S' hg hr => hn _ _ ?_)
    exact St.after hG hb hs hnew hx hd (fun _ h => by cases h) hg (hE.go0 (fun _ => rfl) hg) hr o.dst
  · refine opDoes_act hC hI (fun c => datA_const c) hev hid h1 next Q (fun u m' w' S' hg hr => hn _ _ ?_)
    refine St.after hG hb hs hnew hx hd (fun i hi => appOK_rows hap hi) hg ?_ hr o.dst
    cases happ : isAppend o.op with
    | true => exact hE.go hg
    | false =>
      exact hE.go0 (fun i => rowsOf_none happ i) hg
  · refine opDoes_rop hC hI hev h1 (fun _ => false) next Q (fun u m' w' S' hg hr => hn _ _ ?_)
    exact St.after hG hb hs hnew hx hd (fun _ h => by cases h) hg (hE.go0 (fun _ => rfl) hg) hr o.dst
  · refine opDoes_inl hI hG hev h1 h2 next Q (fun u m' w' S' hg hr => hn _ _ ?_)
    exact St.after hG hb hs hnew hx hd (fun _ h => by cases h) hg (hE.go0 (fun _ => rfl) hg) hr o.dst
  · refine opDoes_lop hC hI hevB hid h1 next Q (fun u m' w' S' hg hr => hn _ _ ?_)
    exact St.after hG hb hs hnew hx hd (fun _ h => by cases h) hg (hE.go0 (fun _ => rfl) hg) hr o.dst
  · obtain ⟨s, hs1, hs2⟩ := makeD_does hC hI hev h1
    refine opDoes_of hs1 hs2 next Q (fun u m' w' S' hg hr => hn _ _ ?_)
    exact St.after hG hb hs hnew hx hd (fun _ h => by cases h) hg (hE.go0 (fun _ => rfl) hg) hr o.dst
theorem yielded_of {ops : Array Oper} {env : List AV} {L : Heap} {a : Act} {w : World} {m : Nat → Value} {S : Nat → Nat → Prop} (hE : RepE m L w S env a.tmps) {j d : Nat} {b : Bool} (hd : gTmp ops j = some d) (hb : env.getD d .dead = .v .bool b) : yielded ops a.tmps j = some b := by
  have h := hE.at_ d
  rw [hb, rep_bool] at h
  unfold yielded
  unfold gTmp at hd
  rw [hd]
  simp only [Option.bind_some]
  have hlt : d < a.tmps.size := by
    rw [← hE.size]
    rcases Nat.lt_or_ge d env.length with h | h
    · exact h
    · rw [List.getD_eq_getElem?_getD, List.getElem?_eq_none h] at hb; cases hb
  have : a.tmps[d]? = some (.bool b) := by
    rw [Array.getD_eq_getD_getElem?, Array.getElem?_eq_getElem hlt] at h
    rw [Array.getElem?_eq_getElem hlt]
    simpa using h
  rw [this]
theorem yielded_und {ops : Array Oper} {env : List AV} {L : Heap} {a : Act} {w : World} {m : Nat → Value} {S : Nat → Nat → Prop} (hE : RepE m L w S env a.tmps) {j d : Nat} {c : Array Value} (hd : gTmp ops j = some d) (hb : env.getD d .dead = .cst (.tuple c)) : yielded ops a.tmps j = none := by
  have h := hE.at_ d
  rw [hb] at h
  simp only [RepA] at h
  unfold yielded
  unfold gTmp at hd
  rw [hd]
  simp only [Option.bind_some]
  rw [Array.getD_eq_getD_getElem?] at h
  cases ht : a.tmps[d]? with
  | none => rfl
  | some x =>
    rw [ht] at h
    simp only [Option.getD_some] at h
    subst h
    rfl
theorem step_wp (hC : C.OK) {ops : Array Oper} {o : Oper} {id : Nat} {env env' : List AV} {L L' : Heap} {a : Act} {w : World} (hid : wantsId o.op = true → L[id]? = some .resv) (h : StepRel C ops o id env L env' L') (hst : St C B w0 S0 ms Ls env L a w)
    {next : Act → World → Prop} {Q : Exit → Act → World → Prop} (hn : ∀ a' w', St C B w0 S0 ms Ls env' L' a' w' → next a' w') :
    if Region.wanted o (yielded ops a.tmps) then o.wp C.P a w next Q else next (a.put o.dst undef) w := by
  unfold StepRel at h
  cases hg : o.guard with
  | none =>
    rw [hg] at h
    simp only [Region.wanted, hg, if_true]
    exact op_step hC hid h hst hn
  | some gd =>
    obtain ⟨j, want⟩ := gd
    rw [hg] at h
    have hst' := hst
    obtain ⟨m, S, hI, hE, hG, hb, hs, hnew, hx, hd⟩ := hst'
    obtain ⟨d, h1, ⟨b, h2, h3⟩ | ⟨⟨c, h2⟩, rfl, rfl⟩⟩ := h
    rotate_left
    · have hy := yielded_und (ops := ops) hE h1 h2
      simp only [Region.wanted, hg, hy]
      rw [if_neg (by simp)]
      exact hn _ _ ⟨m, S, hI, hE.putO (by simp only [und, RepA]) o.dst, hG, hb, hs, hnew, hx, by rw [put_defers]; exact hd⟩
    have hy := yielded_of (ops := ops) hE h1 h2
    simp only [Region.wanted, hg, hy]
    by_cases hbw : b = want
    · rw [if_pos hbw] at h3
      rw [if_pos (by simp [hbw])]
      exact op_step hC hid h3 hst hn
    · rw [if_neg hbw] at h3
      obtain ⟨rfl, rfl⟩ := h3
      rw [if_neg (by simp [hbw])]
      exact hn _ _ ⟨m, S, hI, hE.putO (by simp only [und, RepA]) o.dst, hG, hb, hs, hnew, hx, by rw [put_defers]; exact hd⟩
end
end
section
set_option linter.unusedVariables false
set_option linter.unusedSimpArgs false
set_option maxHeartbeats 400000
def cntIds : List Oper → Nat
  | [] => 0
  | o :: l => (bif wantsId o.op then 1 else 0) + cntIds l
section
variable {Ω : Type} {C : Cfg} {B : Nat} {w0 : World} {S0 : Nat → Nat → Prop} {ms : Nat → Value} {Ls : Heap} {spec : Spec}
theorem mark1_keeps {L : Heap} {i j : Nat} (h : L[j]? = some .resv) : (mark1 L i)[j]? = some .resv := by
  rcases mark1_get (id := i) h with h | h <;> exact h
theorem markIds_keeps : ∀ (l : List Nat) {L : Heap} {j : Nat}, L[j]? = some .resv → (markIds L l)[j]? = some .resv
  | [], L, j, h => h
  | i :: l, L, j, h => markIds_keeps l (mark1_keeps h)
theorem set_keeps {L : Heap} {i j : Nat} {s : Slot} (hij : j ≠ i) (h : L[j]? = some .resv) : (L.set i s)[j]? = some .resv := by
  rw [List.getElem?_set_ne (Ne.symm hij)]; exact h
theorem act_keeps {ρ : Operand → AV} {L L' : Heap} {id : Nat} {ty : TypeId} {op : Op} {c : Bool} {av : AV} (h : act C ρ L id ty op = some (c, av, L')) {j : Nat} (hj : j ≠ id) (hr : L[j]? = some .resv) : L'[j]? = some .resv := by
  unfold act at h
  split at h
  · unfold allocA at h
    split at h
    · simp only [Option.some.injEq, Prod.mk.injEq] at h
      obtain ⟨_, _, rfl⟩ := h
      exact set_keeps hj hr
    simp only [Option.map_eq_some_iff, Prod.mk.injEq] at h
    obtain ⟨τ, _, _, _, rfl⟩ := h
    exact set_keeps hj hr
  · unfold boxA boxA.mark1' at h
    simp only [Option.bind_eq_some_iff, Option.map_eq_some_iff, Prod.mk.injEq] at h
    obtain ⟨τ, _, x, _, _, _, rfl⟩ := h
    exact set_keeps hj (mark_resv hr)
  · unfold buildA at h
    simp only [Option.bind_eq_some_iff] at h
    obtain ⟨τ, _, h⟩ := h
    split at h
    · simp only [Option.map_eq_some_iff, Prod.mk.injEq] at h
      obtain ⟨x, _, _, _, rfl⟩ := h
      exact mark_resv hr
    · split at h
      · simp only [Option.map_eq_some_iff, Prod.mk.injEq] at h
        obtain ⟨x, _, _, _, rfl⟩ := h
        exact mark_resv hr
      · cases h
    · cases h
  · unfold buildSliceA at h
    simp only [Option.bind_eq_some_iff] at h
    obtain ⟨τ, _, te, _, h⟩ := h
    split at h
    · split at h
      · simp only [Option.map_eq_some_iff, Prod.mk.injEq] at h
        obtain ⟨x, _, _, _, rfl⟩ := h
        exact set_keeps hj (mark_resv hr)
      · cases h
    · cases h
  · unfold storeA at h
    simp only [Option.bind_eq_some_iff] at h
    obtain ⟨τ, _, y, _, h⟩ := h
    have hm := mark_resv (l := [ρ (by assumption)]) hr
    split at h
    · split at h
      · rename_i hL
        simp only [Option.map_eq_some_iff, Prod.mk.injEq] at h
        obtain ⟨x, _, _, _, rfl⟩ := h
        refine set_keeps (fun e => ?_) (mark_resv hr)
        subst e
        rw [mark_resv hr] at hL
        cases hL
      · cases h
    · split at h
      · rename_i hL
        simp only [Option.map_eq_some_iff, Prod.mk.injEq] at h
        obtain ⟨x, _, _, _, rfl⟩ := h
        refine set_keeps (fun e => ?_) (mark_resv hr)
        subst e
        rw [mark_resv hr] at hL
        cases hL
      · cases h
    · cases h
  · unfold nilRowA at h
    split at h
    · simp only [Option.some.injEq, Prod.mk.injEq] at h
      obtain ⟨_, _, rfl⟩ := h
      exact set_keeps hj hr
    · cases h
  · unfold nilRowA at h
    split at h
    · simp only [Option.some.injEq, Prod.mk.injEq] at h
      obtain ⟨_, _, rfl⟩ := h
      exact set_keeps hj hr
    · cases h
  · split at h
    · split at h
      · unfold appendA at h
        split at h
        · split at h
          · simp only [Option.bind_eq_some_iff] at h
            obtain ⟨ys, _, h⟩ := h
            split at h
            · split at h
              · rename_i hL
                split at h
                · simp only [Option.map_eq_some_iff, Prod.mk.injEq] at h
                  obtain ⟨x, _, _, _, rfl⟩ := h
                  refine keep_keeps (set_keeps (fun e => ?_) hr)
                  subst e
                  rw [hr] at hL
                  cases hL
                · cases h
              · cases h
            · simp only [Option.some.injEq, Prod.mk.injEq] at h
              obtain ⟨_, _, rfl⟩ := h
              exact set_keeps hj hr
            · cases h
          · cases h
        · cases h
      · cases h
    · cases h
  · rw [convB_L h]; exact hr
  · unfold makeA at h
    split at h
    · split at h
      · split at h
        · simp only [Option.some.injEq, Prod.mk.injEq] at h
          obtain ⟨_, _, rfl⟩ := h
          exact set_keeps hj hr
        · cases h
      · cases h
    · cases h
  · cases h
theorem callA_keeps {ρ : Operand → AV} {L L1 : Heap} {op : Op} {g : FuncId} {bs : List AV} (h : callA C ρ L op = some (g, bs, L1)) {j : Nat} (hr : L[j]? = some .resv) : L1[j]? = some .resv := by
  unfold callA at h
  split at h
  · split at h
    · simp only [Option.map_eq_some_iff, Prod.mk.injEq] at h
      obtain ⟨x, _, _, _, rfl⟩ := h
      exact markIds_keeps _ hr
    · cases h
  · cases h
theorem act_noId {ρ : Operand → AV} {L L' : Heap} {id : Nat} {ty : TypeId} {op : Op} {c : Bool} {av : AV} (h : act C ρ L id ty op = some (c, av, L')) (hw : wantsId op = false) {j : Nat} (hr : L[j]? = some .resv) : L'[j]? = some .resv := by
  by_cases hj : j = id
  · -- no place is taken
    have key : ∀ id2, act C ρ L id2 ty op = some (c, av, L') := by
      intro id2
      unfold act at h ⊢
      split at h <;> first | exact h | (simp [wantsId] at hw)
    exact act_keeps (key (j + 1)) (by omega) hr
  · exact act_keeps h hj hr
theorem markL_keeps : ∀ (l : List AV) {L : Heap} {j : Nat}, L[j]? = some .resv → (markL L l)[j]? = some .resv
  | [], L, j, h => h
  | a :: l, L, j, h => by
    unfold markL
    split
    · exact markL_keeps l (mark1_keeps h)
    · exact markL_keeps l h
theorem frz1_keeps {n i j : Nat} {L : Heap} (h : L[j]? = some .resv) : (frz1 n L i)[j]? = some .resv := by
  unfold frz1
  split
  · rename_i T x hs hL
    have hne : j ≠ i := fun e => by subst e; rw [h] at hL; cases hL
    split
    · split
      · rename_i o rid hf _ te e0 xs ro hR
        have hne2 : j ≠ rid := fun e => by rw [e] at h; rw [h] at hR; cases hR
        generalize (okPb T (findP T o) && (off T (findP T o) == o && lk hs o == some (some rid))) = c
        cases c with
        | false => exact h
        | true =>
          rw [cond_true]
          split
          · rw [List.getElem?_set_ne (Ne.symm hne)]
            exact mark1_keeps h
          · exact h
      · exact h
    · exact h
  · exact h
theorem frzN_keeps {n i j : Nat} : ∀ (f : Nat) {L : Heap}, L[j]? = some .resv → (frzN n i f L)[j]? = some .resv
  | 0, L, h => h
  | f + 1, L, h => frzN_keeps f (frz1_keeps h)
theorem frzH_keeps {n j : Nat} : ∀ (i : Nat) {L : Heap}, L[j]? = some .resv → (frzH n i L)[j]? = some .resv
  | 0, L, h => h
  | i + 1, L, h => frzH_keeps i (frzN_keeps 6 h)
theorem lop_keeps {ρ : Operand → AV} {L L' : Heap} {id : Nat} {op : Op} {c : Bool} {av : AV} (h : lop C ρ L id op = some (c, av, L')) {j : Nat} (hj : wantsId op = true → j ≠ id) (hr : L[j]? = some .resv) : L'[j]? = some .resv := by
  have other : ∀ {i : Nat} {T : ETy} {x : T.I} {hs : List (Nat × Option Nat)}, L[i]? = some (.lbx T x hs) → j ≠ i := fun hi e => by subst e; rw [hr] at hi; cases hi
  unfold lop at h
  split at h
  · split at h
    · rename_i p0 ps A B' _ _
      generalize p0 :: ps = lks at h
      cases hz : (anyLink (.pair A B') lks L _ && lkZ (.pair A B') lks) with
      | false => rw [hz] at h; cases h
      | true =>
        rw [hz, cond_true] at h
        obtain ⟨q, _, hq⟩ := Option.map_eq_some_iff.1 h
        cases hq
        refine markL_keeps _ ?_
        rw [List.getElem?_append_left (List.getElem?_eq_some_iff.1 hr).1]; exact hr
    · cases h
  · split at h
    · rename_i p0 ps A B' _ _ _
      generalize p0 :: ps = lks at h
      cases hz : lkZ (.pair A B') lks with
      | false => rw [hz] at h; cases h
      | true =>
        rw [hz, cond_true] at h
        cases h
        refine set_keeps (hj rfl) ?_
        rw [List.getElem?_append_left (List.getElem?_eq_some_iff.1 hr).1]; exact hr
    · cases h
  · split at h
    · split at h
      · cases h; exact set_keeps (hj rfl) hr
      · cases h
    · split at h
      · cases h
        refine set_keeps (hj rfl) ?_
        rw [List.getElem?_append_left (List.getElem?_eq_some_iff.1 hr).1]; exact hr
      · cases h
    · cases h
  · split at h
    · split at h
      · obtain ⟨τ, _, h⟩ := Option.bind_eq_some_iff.1 h
        split at h
        · obtain ⟨σ, _, h⟩ := Option.bind_eq_some_iff.1 h
          split at h
          · cases h
          · cases h; exact hr
        · cases h
      · cases h
    · cases h
  · split at h
    · split at h
      · obtain ⟨τ, _, h⟩ := Option.bind_eq_some_iff.1 h
        split at h
        · cases h; exact hr
        · cases h
      · cases h
    · cases h
  · split at h
    · split at h
      · cases h; exact hr
      · cases h
    · cases h
  · split at h
    · split at h
      · obtain ⟨d, _, h⟩ := Option.bind_eq_some_iff.1 h
        split at h
        · cases hf : freeH _ (lowP _ _) (widP _ _) with
          | true => rw [hf, cond_true] at h; cases h; exact hr
          | false =>
            rw [hf, cond_false] at h
            split at h
            · cases h; exact hr
            · obtain ⟨q, _, hq⟩ := Option.map_eq_some_iff.1 h
              cases hq
              exact frzN_keeps 6 hr
            · cases h
        · cases h
      · cases h
    · cases h
  · split at h
    · split at h
      · rename_i hL
        split at h
        · split at h
          · cases h
            rw [List.getElem?_set_ne (fun e => by rw [← e] at hr; rw [hr] at hL; cases hL), List.getElem?_append_left (List.getElem?_eq_some_iff.1 hr).1]; exact hr
          · cases h
        · cases h
      · rename_i hL
        split at h
        · split at h
          · obtain ⟨d, _, h⟩ := Option.bind_eq_some_iff.1 h
            split at h
            · cases h; exact set_keeps (other hL) hr
            · cases h
          · cases h
        · obtain ⟨τ, _, h⟩ := Option.bind_eq_some_iff.1 h
          obtain ⟨v, _, h⟩ := Option.bind_eq_some_iff.1 h
          obtain ⟨x', _, h⟩ := Option.map_eq_some_iff.1 h
          cases h; exact set_keeps (other hL) (markL_keeps _ hr)
      · cases h
    · cases h
  · split at h
    · exact copyA_keeps h hr
    · cases h
  · cases h
theorem OpRel.keeps {o : Oper} {id : Nat} {env env' : List AV} {L L' : Heap} (h : OpRel C o id env L env' L') {j : Nat} (hj : wantsId o.op = true → j ≠ id) (hr : L[j]? = some .resv) : L'[j]? = some .resv := by
  rcases h with ⟨_, g, bs, L1, av, h1, h2, _, rfl⟩ | ⟨_, _, _, av, h1, _⟩ | ⟨_, _, av, h1, _, rfl⟩ | ⟨_, g, as, av, h1, h2, _⟩ | ⟨_, av, h1, _⟩ | ⟨_, _, _, _, rfl⟩
  · split
    · exact hr
    · exact callA_keeps h1 hr
  · cases hw : wantsId o.op with
    | true => exact act_keeps h1 (hj hw) hr
    | false => exact act_noId h1 hw hr
  · exact hr
  · exact h2.keeps j hr
  · exact lop_keeps h1 hj hr
  · exact hr
theorem StepRel.keeps {ops : Array Oper} {o : Oper} {id : Nat} {env env' : List AV} {L L' : Heap} (h : StepRel C ops o id env L env' L') {j : Nat} (hj : wantsId o.op = true → j ≠ id) (hr : L[j]? = some .resv) : L'[j]? = some .resv := by
  unfold StepRel at h
  split at h
  · exact h.keeps hj hr
  · obtain ⟨d, _, ⟨b, _, h⟩ | ⟨_, _, h⟩⟩ := h
    · split at h
      · exact h.keeps hj hr
      · rw [h.2]; exact hr
    · rw [h]; exact hr
theorem run_wpList (hC : C.OK) {ops : Array Oper} {env' : List AV} {L' : Heap} {Q : Exit → Act → World → Prop} (hQ : ∀ a' w', St C B w0 S0 ms Ls env' L' a' w' → Q .normal a' w') : ∀ (l : List Oper) (id : Nat) {env : List AV} {L : Heap} {a : Act} {w : World},
    RunRel C ops (withIds l id) env L env' L' → (∀ i, i < cntIds l → L[id + i]? = some .resv) → St C B w0 S0 ms Ls env L a w → wpList C.P ops Q l a w
  | [], id, env, L, a, w, h, hr, hst => by
    simp only [withIds, RunRel] at h
    obtain ⟨rfl, rfl⟩ := h
    exact hQ a w hst
  | o :: l, id, env, L, a, w, h, hr, hst => by
    simp only [withIds, RunRel] at h
    obtain ⟨env1, L1, h1, h2⟩ := h
    refine wpList_step fun K hK => ?_
    refine step_wp hC (fun hw => ?_) h1 hst (fun a' w' hst' => hK a' w' (run_wpList hC hQ l (nextId o id) h2 (fun i hi => ?_) hst'))
    · have := hr 0 (by simp only [cntIds, hw, cond_true]; omega)
      simpa using this
    · cases hw : wantsId o.op with
      | true =>
        simp only [nextId, hw, cond_true]
        refine h1.keeps (fun _ => by omega) ?_
        have := hr (1 + i) (by simp only [cntIds, hw, cond_true]; omega)
        rw [← Nat.add_assoc] at this
        exact this
      | false =>
        simp only [nextId, hw, cond_false]
        refine h1.keeps (fun h => by rw [hw] at h; cases h) (hr i (by simp only [cntIds, hw, cond_false]; omega))
theorem getElem?_resv {L : Heap} {n i : Nat} {s : Slot} (h : (L ++ List.replicate n .resv)[i]? = some s) (hs : s ≠ .resv) : L[i]? = some s := by
  rcases Nat.lt_or_ge i L.length with hlt | hge
  · rwa [List.getElem?_append_left hlt] at h
  · rw [List.getElem?_append_right hge, List.getElem?_replicate] at h
    split at h
    · cases h; exact absurd rfl hs
    · cases h
theorem St.more {env : List AV} {L : Heap} {a : Act} {w : World} (h : St C B w0 S0 ms Ls env L a w) (n : Nat) : St C B w0 S0 ms Ls env (L ++ List.replicate n .resv) a w := by
  obtain ⟨m, S, hI, hE, hG, hb, hs, hnew, hx, hd⟩ := h
  have hg : Goes B (fun _ => false) m L w S m (L ++ List.replicate n .resv) w S := by
    have he : Ext (fun _ => false) m L m (L ++ List.replicate n .resv) := by
      refine ⟨?_⟩
      intro id s hs hr
      have hlt : id < L.length := by
        rcases Nat.lt_or_ge id L.length with h | h
        · exact h
        · rw [List.getElem?_eq_none h] at hs; cases hs
      exact ⟨s, by rw [List.getElem?_append_left hlt]; exact hs, hr, fun T h => ⟨rfl, h⟩, fun o h => ⟨fun u sv h => ⟨sv, h⟩, o, h⟩, fun t e xs ro _ h => ⟨rfl, xs, ro, h, Nat.le_refl _⟩⟩
    refine ⟨⟨hI.base, fun id T x ro h => hI.box id T x ro (getElem?_resv h (by simp)), fun id t e xs ro h => hI.row id t e xs ro (getElem?_resv h (by simp)), fun id o h => hI.obj id o (getElem?_resv h (by simp)), fun id T x h q => (hI.lbx id T x h (getElem?_resv q (by simp))).same (Safe.refl _ _) he fun _ _ => rfl, ?_, ?_⟩, Safe.refl _ _, Below.refl _ _, he, fun _ _ h => .inl h⟩
    · intro i j s r hne h1 h2 l1 l2
      exact hI.apart i j s r hne (getElem?_resv h1 (by rintro rfl; simp [Slot.live] at l1)) (getElem?_resv h2 (by rintro rfl; simp [Slot.live] at l2)) l1 l2
    · intro b o h
      obtain ⟨p1, p2⟩ := hI.prot b o h
      exact ⟨p1, fun i s hs hl hb => p2 i s (getElem?_resv hs (by rintro rfl; simp [Slot.live] at hl)) hl hb⟩
  exact ⟨m, S, hg.inv, hE.go0 (fun _ => rfl) hg, hG, hb, hs, hnew, hx.trans (hg.ext.mono fun _ h => by cases h), hd⟩
theorem St.drew {env : List AV} {L : Heap} {a : Act} {w : World} (h : St C B w0 S0 ms Ls env L a w) : St C B w0 S0 ms Ls env L a { w with drawn := w.drawn + 1 } := by
  obtain ⟨m, S, hI, hE, hG, hb, hs, hnew, hx, hd⟩ := h
  have hg : Grows w { w with drawn := w.drawn + 1 } := ⟨rfl, rfl, rfl, Nat.le_refl _, fun _ _ => rfl⟩
  have g := Goes.grows hI hg (fun _ => false)
  exact ⟨m, S, g.inv, hE.go0 (fun _ => rfl) g, hG.go g.safe g.below, hb.trans g.below, hs.trans g.safe, hnew, hx.trans (g.ext.mono fun _ h => by cases h), hd⟩
end
end
section
set_option linter.unusedVariables false
set_option linter.unusedSimpArgs false
set_option maxHeartbeats 400000
def noOwn (a : AV) : Bool := (ownOf a).isEmpty
def shapeOnly : Op → Bool
  | .load _ _ => false
  | .call _ => false
  | .alloc _ => false
  | .box _ _ => false
  | .build _ _ => false
  | .buildSlice _ _ _ => false
  | .makeSlice _ _ _ => false
  | .store _ _ _ => false
  | .move (.const (.slice none 0 0)) => false
  | .assign (.const (.slice none 0 0)) => false
  | .slice _ _ _ _ _ => true
  | _ => true
def isStore : Op → Bool
  | .store _ _ _ => true
  | _ => false
def actOK (ρ : Operand → AV) : Op → Bool
  | .alloc _ => true
  | .box _ x => noOwn (ρ x)
  | .build _ parts => parts.toList.all fun (_, x) => noOwn (ρ x)
  | .buildSlice _ _ parts => parts.toList.all fun (_, x) => noOwn (ρ x)
  | .store _ _ x => noOwn (ρ x)
  | .move (.const (.slice none 0 0)) => true
  | .assign (.const (.slice none 0 0)) => true
  | .convert _ _ x => match ρ x with | .v _ _ => true | .rs _ => true | _ => false
  | .makeSlice _ _ _ => true
  | _ => false
def isMake : Op → Bool
  | .makeSlice _ _ _ => true
  | _ => false
def actV (C : Cfg) (ρ : Operand → AV) (L : Heap) (id : Nat) (ty : TypeId) (op : Op) : A3 :=
  bif isMake op then (makeD C ρ op).map fun r => (r.1, r.2, L) else act C ρ L id ty op
def callOwnless (ρ : Operand → AV) : Op → Bool
  | .call ⟨.value f, args, _⟩ => (args.toList.all fun x => noOwn (ρ x)) && (match fnOf (ρ f) with | .fn _ caps => caps.all noOwn | _ => false)
  | _ => false
def noIds (a : AV) : Bool := a.ids fun _ _ => false
def ropL (C : Cfg) (ρ : Operand → AV) (L : Heap) : Op → R
  | .fieldAddr t p f => match ρ p with
    | .ref j q => match L[j]? with
      | some (.lbx T _ _) => (tyP T q).bind fun τ => if C.Ty t = some τ then (tyP τ [.fld f]).bind fun σ => if σ.size = 0 then none else some (true, .ref j (q ++ [.fld f])) else none
      | _ => none
    | _ => none
  | .load t p => match ρ p with
    | .ref j q => match L[j]? with
      | some (.lbx T x hs) => (getP T x q).bind fun d => if C.Ty t = some d.τ then bif freeH hs (lowP T q) (widP T q) then some (true, .v d.τ d.x) else match lk hs (off T q), d.τ with
          | some (some rid), .slice _ => some (true, .rs rid)
          | _, _ => none
        else none
      | _ => none
    | _ => none
  | _ => none
def ropD (C : Cfg) (ρ : Operand → AV) (L : Heap) (op : Op) : R := match ropL C ρ L op with
  | some r => some r
  | none => rop C ρ L op
theorem ropD_or {C : Cfg} {ρ : Operand → AV} {L : Heap} {op : Op} {r : Bool × AV} (h : ropD C ρ L op = some r) : ropL C ρ L op = some r ∨ (ropL C ρ L op = none ∧ rop C ρ L op = some r) := by
  unfold ropD at h
  split at h
  · rename_i r' h'; cases h; exact .inl h'
  · rename_i h'; exact .inr ⟨h', h⟩
theorem ropD_eq {C : Cfg} {ρ ρ' : Operand → AV} {L L' : Heap} {op : Op} (h1 : ropL C ρ L op = ropL C ρ' L' op) (h2 : rop C ρ L op = rop C ρ' L' op) : ropD C ρ L op = ropD C ρ' L' op := by
  unfold ropD; rw [h1, h2]
def evOpD {Ω : Type} (C : Cfg) (spec : Spec) (o : Oper) (id : Nat) (env : List AV) (L : Heap) (k : List AV → Heap → Option Ω) : Option Ω :=
  bif isCall o.op then
    match callA C (evA C env) L o.op with
    | some (g, bs, L1) => spec.con g bs fun av => bif (av.flat || callOwnless (evA C env) o.op) && noIds av then k (envPut env o.dst av) L else none
    | none => none
  else bif isAct o.op then
    bif actOK (evA C env) o.op then
      match actV C (evA C env) L id o.type o.op with
      | some (c, av, L') => bif c then k (envPut env o.dst av) L' else none
      | none => none
    else none
  else
    match ropD C (evA C env) L o.op with
    | some (c, av) => bif c then k (envPut env o.dst av) L else none
    | none => none
section
variable {Ω : Type} {C : Cfg} {B : Nat} {w0 : World} {S0 : Nat → Nat → Prop} {spec : Spec}
theorem noOwn_mark {a : AV} (h : noOwn a = true) : markA a = none := by
  cases a <;> simp [noOwn, ownOf] at h <;> rfl
theorem flatMap_noOwn {l : List AV} (h : l.all noOwn = true) : l.flatMap ownOf = [] := by
  induction l with
  | nil => rfl
  | cons a l ih =>
    simp only [List.all_cons, Bool.and_eq_true] at h
    have : ownOf a = [] := by simpa [noOwn] using h.1
    rw [List.flatMap_cons, this, ih h.2]; rfl
theorem callOwnless_L {ρ : Operand → AV} {L L1 : Heap} {op : Op} {g : FuncId} {bs : List AV} (h : callA C ρ L op = some (g, bs, L1)) (hc : callOwnless ρ op = true) : L1 = L := by
  unfold callA at h
  unfold callOwnless at hc
  split at h
  · simp only [Bool.and_eq_true] at hc
    split at h
    · rename_i hf
      rw [hf] at hc
      simp only at hc
      simp only [Option.map_eq_some_iff, Prod.mk.injEq] at h
      obtain ⟨x, _, _, _, rfl⟩ := h
      rw [flatMap_noOwn]
      · rfl
      · rw [List.all_append, Bool.and_eq_true]
        refine ⟨?_, hc.2⟩
        rw [List.all_map]; exact hc.1
    · cases h
  · cases h
theorem actOK_notAppend {ρ : Operand → AV} {op : Op} (h : actOK ρ op = true) : isAppend op = false := by
  unfold actOK at h
  split at h <;> first | rfl | (cases h)
theorem appOK_not {ρ : Operand → AV} {op : Op} (h : isAppend op = false) : appOK C ρ op = true := by
  unfold appOK
  split
  · simp [isAppend] at h
  · rfl
def open1 (L : Heap) : Bool → Nat → Bool := fun _ id => match L[id]? with | some .resv => false | none => false | _ => true
theorem ids_get {L : Heap} {j : Nat} {s : Slot} (hj : L[j]? = some .resv) {id : Nat} {b : Bool} (h : open1 L b id = true) : (L.set j s)[id]? = L[id]? := by
  have : id ≠ j := by
    rintro rfl
    unfold open1 at h
    rw [hj] at h
    cases h
  rw [List.getElem?_set_ne (Ne.symm this)]
theorem rop_resv {ρ : Operand → AV} {L : Heap} {j : Nat} {s : Slot} (hj : L[j]? = some .resv) {op : Op} (h : ∀ x ∈ op.operands, (ρ x).ids (open1 L) = true) : rop C ρ (L.set j s) op = rop C ρ L op := by
  have get1 : ∀ {a : AV} {id : Nat} {p : List PStep}, a.ids (open1 L) = true → a = .ref id p → (L.set j s)[id]? = L[id]? := by
    rintro a id p h rfl; simp only [AV.ids] at h; exact ids_get hj h
  have get2 : ∀ {a : AV} {id i : Nat} {p : List PStep}, a.ids (open1 L) = true → a = .rref id i p → (L.set j s)[id]? = L[id]? := by
    rintro a id i p h rfl; simp only [AV.ids] at h; exact ids_get hj h
  have get3 : ∀ {a : AV} {id lo n : Nat} {p : List PStep}, a.ids (open1 L) = true → a = .ls id p lo n → (L.set j s)[id]? = L[id]? := by
    rintro a id lo n p h rfl; simp only [AV.ids] at h; exact ids_get hj h
  have get4 : ∀ {a : AV} {id : Nat}, a.ids (open1 L) = true → a = .rs id → (L.set j s)[id]? = L[id]? := by
    rintro a id h rfl; simp only [AV.ids] at h; exact ids_get hj h
  have get5 : ∀ {a : AV} {id lo n : Nat}, a.ids (open1 L) = true → a = .lr id lo n → (L.set j s)[id]? = L[id]? := by
    rintro a id lo n h rfl; simp only [AV.ids] at h; exact ids_get hj h
  unfold rop
  split
  case h_10 =>
    rename_i t x f
    have hx := h x (by simp [Op.operands])
    unfold fieldAddrA
    split <;> first | rfl | (rw [get1 hx (by assumption)]) | (rw [get2 hx (by assumption)])
  case h_11 =>
    rename_i t x i
    have hx := h x (by simp [Op.operands])
    unfold indexAddrA
    split <;> first | rfl | (rw [get1 hx (by assumption)]) | (rw [get2 hx (by assumption)]) | (rw [get3 hx (by assumption)]) | (rw [get4 hx (by assumption)]) | (rw [get5 hx (by assumption)])
  case h_12 =>
    rename_i t x
    have hx := h x (by simp [Op.operands])
    unfold loadA
    split <;> first | rfl | (rw [get1 hx (by assumption)]) | (rw [get2 hx (by assumption)])
  case h_13 =>
    rename_i t x lo hi
    have hx := h x (by simp [Op.operands])
    unfold sliceA
    congr 1; funext l; congr 1; funext q
    split <;> first | rfl | (rw [get1 hx (by assumption)]) | (rw [get3 hx (by assumption)]) | (rw [get4 hx (by assumption)]) | (rw [get5 hx (by assumption)])
  case h_14 =>
    rename_i x
    have hx := h x (by simp [Op.operands])
    unfold nilA
    split <;> first | rfl | (rw [get1 hx (by assumption)]) | (rw [get2 hx (by assumption)])
  case h_16 =>
    rename_i b args ts
    unfold builtinA
    split
    · split
      · rename_i t ts' a as' e1 e2
        have ha : a.ids (open1 L) = true := by
          cases hargs : args.toList with
          | nil => rw [hargs] at e2; cases e2
          | cons y ys =>
            rw [hargs] at e2
            simp only [List.map_cons, List.cons.injEq] at e2
            rw [← e2.1]
            exact h y (by simp only [Op.operands, Call.operands]; rw [Array.mem_append]; right; rw [← Array.mem_toList_iff, hargs]; simp)
        unfold lenA
        split <;> first | rfl | (split <;> first | rfl | (rw [get3 ha rfl]) | (rw [get4 ha rfl]) | (rw [get5 ha rfl]))
      · rfl
    · rfl
    · rfl
    · rfl
  all_goals rfl
theorem ropL_resv {ρ : Operand → AV} {L : Heap} {j : Nat} {s : Slot} (hj : L[j]? = some .resv) {op : Op} (h : ∀ x ∈ op.operands, (ρ x).ids (open1 L) = true) : ropL C ρ (L.set j s) op = ropL C ρ L op := by
  have get1 : ∀ {a : AV} {id : Nat} {p : List PStep}, a.ids (open1 L) = true → a = .ref id p → (L.set j s)[id]? = L[id]? := by
    rintro a id p h rfl; simp only [AV.ids] at h; exact ids_get hj h
  unfold ropL
  split
  · rename_i t x f
    have hx := h x (by simp [Op.operands])
    split <;> first | rfl | (rw [get1 hx (by assumption)])
  · rename_i t x
    have hx := h x (by simp [Op.operands])
    split <;> first | rfl | (rw [get1 hx (by assumption)])
  · rfl
theorem ropD_resv {ρ : Operand → AV} {L : Heap} {j : Nat} {s : Slot} (hj : L[j]? = some .resv) {op : Op} (h : ∀ x ∈ op.operands, (ρ x).ids (open1 L) = true) : ropD C ρ (L.set j s) op = ropD C ρ L op :=
  ropD_eq (ropL_resv hj h) (rop_resv hj h)
end
end
section
set_option linter.unusedVariables false
set_option linter.unusedSimpArgs false
set_option maxHeartbeats 400000
section
variable {Ω : Type} {C : Cfg} {B : Nat} {w0 : World} {S0 : Nat → Nat → Prop} {spec : Spec}
mutual
theorem ids_mono {f g : Bool → Nat → Bool} (h : ∀ b i, f b i = true → g b i = true) : ∀ {a : AV}, a.ids f = true → a.ids g = true
  | .v .., _ | .cst _, _ | .vp .., _ | .bz .., _ | .dead, _ => by simp only [AV.ids]
  | .ref .., k | .ls .., k | .rref .., k | .rs _, k | .lr .., k => by simp only [AV.ids] at k ⊢; exact h _ _ k
  | .fn _ l, k => by simp only [AV.ids] at k ⊢; exact idsL_mono h k
  | .bm _ l, k => by simp only [AV.ids] at k ⊢; exact idsL_mono h k
  | .tup l, k => by simp only [AV.ids] at k ⊢; exact idsL_mono h k
  | .bt T x hs, k => by
    simp only [AV.ids, List.all_eq_true] at k ⊢
    intro p hp
    have := k p hp
    rcases p with ⟨a, _ | j⟩
    · rfl
    · exact h _ _ this
theorem idsL_mono {f g : Bool → Nat → Bool} (h : ∀ b i, f b i = true → g b i = true) : ∀ {l : List AV}, AV.idsL f l = true → AV.idsL g l = true
  | [], _ => by simp only [AV.idsL]
  | a :: l, k => by
    simp only [AV.idsL, Bool.and_eq_true] at k ⊢
    exact ⟨ids_mono h k.1, idsL_mono h k.2⟩
end
theorem idsL_get {f : Bool → Nat → Bool} : ∀ {l : List AV}, AV.idsL f l = true → ∀ (i : Nat) (a : AV), l[i]? = some a → a.ids f = true
  | [], _, i, a, h => by simp at h
  | b :: l, k, 0, a, h => by simp only [AV.idsL, Bool.and_eq_true] at k; simp at h; subst h; exact k.1
  | b :: l, k, i + 1, a, h => by simp only [AV.idsL, Bool.and_eq_true] at k; exact idsL_get k.2 i a (by simpa using h)
theorem idsL_map {f : Bool → Nat → Bool} {ρ : Operand → AV} : ∀ {l : List Operand}, (∀ x ∈ l, (ρ x).ids f = true) → AV.idsL f (l.map ρ) = true
  | [], _ => by simp only [List.map_nil, AV.idsL]
  | x :: l, h => by
    simp only [List.map_cons, AV.idsL, Bool.and_eq_true]
    exact ⟨h x (by simp), idsL_map fun y hy => h y (List.mem_cons_of_mem _ hy)⟩
theorem rop_ids {f : Bool → Nat → Bool} {ρ : Operand → AV} {L : Heap} {op : Op} {c : Bool} {av : AV} (h : ∀ x ∈ op.operands, (ρ x).ids f = true) (hr : rop C ρ L op = some (c, av)) (hf : ∀ i, f false i = true ↔ f true i = true) : av.ids f = true := by
  have vv : ∀ (τ : ETy) (x : τ.I), (AV.v τ x).ids f = true := fun _ _ => by simp only [AV.ids]
  have bf : ∀ (cb : Bool) {x y : AV}, x.ids f = true → y.ids f = true → (bif cb then x else y).ids f = true := by intro cb x y hx hy; cases cb <;> assumption
  unfold rop at hr
  split at hr
  · cases hr; exact h _ (by simp [Op.operands])
  · cases hr; exact h _ (by simp [Op.operands])
  · rename_i cc a b
    split at hr
    · cases hr
      have ha := h a (by simp [Op.operands])
      have hb := h b (by simp [Op.operands])
      unfold pickA
      split
      · exact vv _ _
      · split
        · exact vv _ _
        · exact bf _ (vv _ _) (vv _ _)
      · exact vv _ _
      · exact bf _ ha hb
    · cases hr
  · unfold binA at hr
    split at hr
    · split at hr
      · cases hr; exact vv _ _
      · cases hr; exact vv _ _
      · split at hr
        · unfold intOp at hr; split at hr <;> cases hr <;> exact vv _ _
        · cases hr
    · unfold eqOp at hr; split at hr
      · split at hr <;> cases hr <;> exact vv _ _
      · cases hr
    · unfold strOp at hr; split at hr <;> cases hr <;> exact vv _ _
    · simp only [Option.bind_eq_some_iff] at hr
      obtain ⟨_, _, hr⟩ := hr
      unfold eqOp at hr; split at hr
      · split at hr <;> cases hr <;> exact vv _ _
      · cases hr
    · simp only [Option.bind_eq_some_iff] at hr
      obtain ⟨_, _, hr⟩ := hr
      unfold eqOp at hr; split at hr
      · split at hr <;> cases hr <;> exact vv _ _
      · cases hr
    · cases hr
  · unfold unA at hr; split at hr
    · split at hr <;> cases hr <;> exact vv _ _
    · split at hr <;> cases hr <;> exact vv _ _
    · cases hr
  · unfold convA at hr; split at hr
    · split at hr <;> cases hr <;> exact vv _ _
    · split at hr <;> cases hr <;> exact vv _ _
    · cases hr
  · rename_i t i
    have ht := h t (by simp [Op.operands])
    unfold extractA at hr
    split at hr
    · rename_i l hl
      rw [hl] at ht
      simp only [AV.ids] at ht
      simp only [Option.map_eq_some_iff, Prod.mk.injEq] at hr
      obtain ⟨a, ha, _, rfl⟩ := hr
      exact idsL_get ht i a ha
    · cases hr
  · unfold fieldA at hr; split at hr
    · split at hr
      · simp only [Option.map_eq_some_iff, Prod.mk.injEq] at hr
        obtain ⟨a, ha, _, rfl⟩ := hr
        exact vv _ _
      · cases hr
    · cases hr
  · unfold indexA at hr; split at hr
    · split at hr <;> cases hr; exact vv _ _
    · split at hr <;> cases hr; exact vv _ _
    · cases hr
  · rename_i t x fd
    have hx := h x (by simp [Op.operands])
    unfold fieldAddrA at hr
    split at hr
    · simp only [Option.bind_eq_some_iff] at hr
      obtain ⟨_, _, hr⟩ := hr
      split at hr
      · simp only [Option.bind_eq_some_iff] at hr
        obtain ⟨_, _, hr⟩ := hr
        split at hr <;> cases hr; simp only [AV.ids]
      · cases hr
    · rename_i hp
      rw [hp] at hx
      split at hr
      · simp only [Option.bind_eq_some_iff] at hr
        obtain ⟨_, _, hr⟩ := hr
        split at hr
        · simp only [Option.bind_eq_some_iff] at hr
          obtain ⟨_, _, hr⟩ := hr
          split at hr <;> cases hr; simp only [AV.ids] at hx ⊢; exact hx
        · cases hr
      · cases hr
    · rename_i hp
      rw [hp] at hx
      split at hr
      · simp only [Option.bind_eq_some_iff] at hr
        obtain ⟨_, _, hr⟩ := hr
        split at hr
        · simp only [Option.bind_eq_some_iff] at hr
          obtain ⟨_, _, hr⟩ := hr
          split at hr <;> cases hr; simp only [AV.ids] at hx ⊢; exact hx
        · cases hr
      · cases hr
    · cases hr
  · rename_i t x i
    have hx := h x (by simp [Op.operands])
    unfold indexAddrA at hr
    split at hr
    · simp only [Option.bind_eq_some_iff] at hr
      obtain ⟨_, _, hr⟩ := hr
      split at hr <;> cases hr; simp only [AV.ids]
    · rename_i hp _
      rw [hp] at hx
      split at hr
      · simp only [Option.bind_eq_some_iff] at hr
        obtain ⟨_, _, hr⟩ := hr
        split at hr <;> cases hr; simp only [AV.ids] at hx ⊢; exact hx
      · cases hr
    · split at hr <;> cases hr; simp only [AV.ids]
    · rename_i hp _
      rw [hp] at hx
      split at hr
      · simp only [Option.bind_eq_some_iff] at hr
        obtain ⟨_, _, hr⟩ := hr
        split at hr <;> cases hr; simp only [AV.ids] at hx ⊢; exact hx
      · cases hr
    · rename_i hp _
      rw [hp] at hx
      split at hr
      · split at hr <;> cases hr; simp only [AV.ids] at hx ⊢; exact hx
      · cases hr
    · rename_i hp _
      rw [hp] at hx
      split at hr
      · split at hr <;> cases hr; simp only [AV.ids] at hx ⊢; exact hx
      · cases hr
    · cases hr
  · unfold loadA at hr
    split at hr
    · simp only [Option.bind_eq_some_iff] at hr
      obtain ⟨_, _, hr⟩ := hr
      split at hr <;> cases hr; exact vv _ _
    · split at hr
      · simp only [Option.bind_eq_some_iff] at hr
        obtain ⟨_, _, hr⟩ := hr
        split at hr <;> cases hr; exact vv _ _
      · cases hr
    · split at hr
      · simp only [Option.bind_eq_some_iff] at hr
        obtain ⟨_, _, hr⟩ := hr
        split at hr <;> cases hr; exact vv _ _
      · cases hr
    · cases hr
  · rename_i t x lo hi
    have hx := h x (by simp [Op.operands])
    unfold sliceA at hr
    simp only [Option.bind_eq_some_iff] at hr
    obtain ⟨_, _, _, _, hr⟩ := hr
    split at hr
    · split at hr <;> cases hr; exact vv _ _
    · split at hr <;> cases hr; exact vv _ _
    · rename_i hp
      rw [hp] at hx
      split at hr
      · simp only [Option.bind_eq_some_iff] at hr
        obtain ⟨_, _, hr⟩ := hr
        split at hr <;> cases hr; simp only [AV.ids] at hx ⊢; exact hx
      · cases hr
    · rename_i hp
      rw [hp] at hx
      split at hr
      · simp only [Option.bind_eq_some_iff] at hr
        obtain ⟨_, _, hr⟩ := hr
        split at hr <;> cases hr; simp only [AV.ids] at hx ⊢; exact hx
      · cases hr
    · rename_i hp
      rw [hp] at hx
      split at hr
      · split at hr <;> cases hr; simp only [AV.ids] at hx ⊢; exact hx
      · cases hr
    · rename_i hp
      rw [hp] at hx
      split at hr
      · split at hr <;> cases hr; simp only [AV.ids] at hx ⊢; exact hx
      · cases hr
    · cases hr
  · rename_i x
    have hx := h x (by simp [Op.operands])
    unfold nilA at hr
    split at hr
    · rename_i hp; rw [hp] at hx; split at hr <;> cases hr; exact hx
    · rename_i hp; rw [hp] at hx; split at hr <;> cases hr; exact hx
    · cases hr; simp only [AV.ids]
    · cases hr
  · rename_i g first caps
    split at hr
    · cases hr
      simp only [AV.ids]
      exact idsL_map fun x hx => h x (by simp only [Op.operands]; rw [Array.mem_append]; right; rwa [← Array.mem_toList_iff])
    · split at hr
      · cases hr
        simp only [AV.ids]
        exact idsL_map fun x hx => h x (by simp only [Op.operands]; rw [Array.mem_append]; left; rwa [← Array.mem_toList_iff])
      · cases hr
  · have key : ∀ (l : List AV) (a : AV), (∃ τ x, a = .v τ x) ∨ a.ids f = true → ∀ {c av}, maxA l a = some (c, av) → av.ids f = true := by
      intro l
      induction l with
      | nil => intro a ha c av hm; unfold maxA at hm; cases hm; rcases ha with ⟨τ, x, rfl⟩ | ha; exact vv _ _; exact ha
      | cons b l ih =>
        intro a ha c av hm
        unfold maxA at hm
        split at hm
        · rename_i e; cases e
        · rename_i e; cases e; exact ih _ (.inl ⟨_, _, rfl⟩) hm
        · cases hm
    have key2 : ∀ (l : List AV) (a : AV), (∃ τ x, a = .v τ x) ∨ a.ids f = true → ∀ {c av}, minA l a = some (c, av) → av.ids f = true := by
      intro l
      induction l with
      | nil => intro a ha c av hm; unfold minA at hm; cases hm; rcases ha with ⟨τ, x, rfl⟩ | ha; exact vv _ _; exact ha
      | cons b l ih =>
        intro a ha c av hm
        unfold minA at hm
        split at hm
        · rename_i e; cases e
        · rename_i e; cases e; exact ih _ (.inl ⟨_, _, rfl⟩) hm
        · cases hm
    rename_i b args ts
    have hargs : AV.idsL f (args.toList.map ρ) = true := idsL_map fun x hx => h x (by simp only [Op.operands, Call.operands]; rw [Array.mem_append]; right; rwa [← Array.mem_toList_iff])
    unfold builtinA at hr
    split at hr
    · split at hr
      · unfold lenA at hr
        split at hr
        · split at hr <;> cases hr; exact vv _ _
        · split at hr
          · cases hr; exact vv _ _
          · split at hr
            · simp only [Option.bind_eq_some_iff] at hr
              obtain ⟨_, _, hr⟩ := hr
              cases hr; exact vv _ _
            · cases hr
          · cases hr; exact vv _ _
          · split at hr <;> cases hr; exact vv _ _
          · split at hr <;> cases hr; exact vv _ _
          · cases hr
        · cases hr; exact vv _ _
        · cases hr
      · cases hr
    · unfold foldA at hr
      split at hr
      · rename_i a r e
        rw [e] at hargs
        simp only [AV.idsL, Bool.and_eq_true] at hargs
        exact key _ _ (.inr hargs.1) hr
      · cases hr
    · unfold foldA at hr
      split at hr
      · rename_i a r e
        rw [e] at hargs
        simp only [AV.idsL, Bool.and_eq_true] at hargs
        exact key2 _ _ (.inr hargs.1) hr
      · cases hr
    · cases hr
  · cases hr
end
end
section
set_option linter.unusedVariables false
set_option linter.unusedSimpArgs false
set_option maxHeartbeats 400000
def OpVal (C : Cfg) (o : Oper) (id : Nat) (ρ : Operand → AV) (L : Heap) (av : AV) (L' : Heap) : Prop :=
  (isCall o.op = true ∧ (∃ g bs, (callA C ρ L o.op).map (fun q => (q.1, q.2.1)) = some (g, bs) ∧ Contract C g bs av) ∧ (av.flat = true ∨ callOwnless ρ o.op = true) ∧ noIds av = true ∧ L' = L) ∨
  (isCall o.op = false ∧ isAct o.op = true ∧ actOK ρ o.op = true ∧ actV C ρ L id o.type o.op = some (true, av, L')) ∨
  (isCall o.op = false ∧ isAct o.op = false ∧ ropD C ρ L o.op = some (true, av) ∧ L' = L)
def wantB (ops : Array Oper) (o : Oper) (env : List AV) : Option Bool :=
  match o.guard with
  | none => some true
  | some (j, want) => match gTmp ops j with
    | some d => match env.getD d .dead with
      | .v .bool b => some (b == want)
      | .cst (.tuple _) => some false
      | _ => none
    | none => none
def StepVal (C : Cfg) (ops : Array Oper) (o : Oper) (id : Nat) (env : List AV) (L : Heap) (av : AV) (L' : Heap) : Prop :=
  (wantB ops o env = some true ∧ OpVal C o id (evA C env) L av L') ∨ (wantB ops o env = some false ∧ av = und ∧ L' = L)
def compat (ops : Array Oper) (x p : Oper) : Bool := x.apart ops p && (!isStore x.op || (shapeOnly p.op && !isCall p.op && !isAct p.op)) && (!isStore p.op || (shapeOnly x.op && !isCall x.op && !isAct x.op))
structure Closed (env : List AV) (L : Heap) : Prop where
  av : ∀ t, (env.getD t .dead).ids (open1 L) = true
  lk : ∀ (j : Nat) (T : ETy) (x : T.I) (hs : List (Nat × Option Nat)), L[j]? = some (.lbx T x hs) → ∀ o rid, lk hs o = some (some rid) → open1 L true rid = true
section
variable {Ω : Type} {C : Cfg} {B : Nat} {w0 : World} {S0 : Nat → Nat → Prop} {spec : Spec}
theorem evA_ids {env : List AV} {L : Heap} (h : Closed env L) (x : Operand) : (evA C env x).ids (open1 L) = true := by
  refine datA_ids ?_
  cases x with
  | tmp t => exact h.av t
  | const c => simp only [evB]; cases c <;> simp only [constA, AV.ids]
  | global g => simp only [evB]; cases C.G g <;> simp only [AV.ids]
  | func f => simp only [evB, AV.ids, AV.idsL]
theorem evA_put {env : List AV} {d : Option Tmp} {a : AV} {x : Operand} (h : ∀ e, d = some e → x ≠ .tmp e) : evA C (envPut env d a) x = evA C env x := by
  cases d with
  | none => rfl
  | some e =>
    cases x with
    | tmp t =>
      have : t ≠ e := fun he => h e rfl (by rw [he])
      simp only [evA, evB, envPut, List.getD_eq_getElem?_getD]
      rw [List.getElem?_set_ne (Ne.symm this)]
    | const c => rfl
    | global g => rfl
    | func f => rfl
theorem callA_congr {ρ ρ' : Operand → AV} {L : Heap} {op : Op} (h : ∀ x ∈ op.operands, ρ x = ρ' x) : callA C ρ L op = callA C ρ' L op := by
  unfold callA
  split
  · rename_i f args ts
    have hf : ρ f = ρ' f := h f (by simp [Op.operands, Call.operands])
    have ha : args.toList.map ρ = args.toList.map ρ' := List.map_congr_left fun x hx => h x (by simp only [Op.operands, Call.operands]; rw [Array.mem_append]; right; rwa [← Array.mem_toList_iff])
    rw [hf, ha]
  · rfl
theorem rop_congr {ρ ρ' : Operand → AV} {L : Heap} {op : Op} (h : ∀ x ∈ op.operands, ρ x = ρ' x) : rop C ρ L op = rop C ρ' L op := by
  unfold rop
  split
  · rw [h _ (by simp [Op.operands])]
  · rw [h _ (by simp [Op.operands])]
  · rename_i c a b
    rw [h c (by simp [Op.operands]), h a (by simp [Op.operands]), h b (by simp [Op.operands])]
  · rename_i op t x y _
    rw [h x (by simp [Op.operands]), h y (by simp [Op.operands])]
  · rw [h _ (by simp [Op.operands])]
  · rw [h _ (by simp [Op.operands])]
  · rw [h _ (by simp [Op.operands])]
  · rw [h _ (by simp [Op.operands])]
  · rename_i t x i
    rw [h x (by simp [Op.operands]), h i (by simp [Op.operands])]
  · rw [h _ (by simp [Op.operands])]
  · rename_i t x i
    rw [h x (by simp [Op.operands]), h i (by simp [Op.operands])]
  · rw [h _ (by simp [Op.operands])]
  · rename_i t x lo hi
    have e1 : lo.map ρ = lo.map ρ' := by cases lo with
      | none => rfl
      | some l => simp only [Option.map_some]; rw [h l (by simp [Op.operands])]
    have e2 : hi.map ρ = hi.map ρ' := by cases hi with
      | none => rfl
      | some l => simp only [Option.map_some]; rw [h l (by simp [Op.operands])]
    rw [h x (by simp [Op.operands]), e1, e2]
  · rw [h _ (by simp [Op.operands])]
  · rename_i f first caps
    have : caps.toList.map ρ = caps.toList.map ρ' := List.map_congr_left fun x hx => h x (by simp only [Op.operands]; rw [Array.mem_append]; right; rwa [← Array.mem_toList_iff])
    have this2 : first.toList.map ρ = first.toList.map ρ' := List.map_congr_left fun x hx => h x (by simp only [Op.operands]; rw [Array.mem_append]; left; rwa [← Array.mem_toList_iff])
    rw [this, this2]
  · rename_i b args ts
    have : args.toList.map ρ = args.toList.map ρ' := List.map_congr_left fun x hx => h x (by simp only [Op.operands, Call.operands]; rw [Array.mem_append]; right; rwa [← Array.mem_toList_iff])
    rw [this]
  · rfl
theorem ropL_congr {ρ ρ' : Operand → AV} {L : Heap} {op : Op} (h : ∀ x ∈ op.operands, ρ x = ρ' x) : ropL C ρ L op = ropL C ρ' L op := by
  unfold ropL
  split
  · rw [h _ (by simp [Op.operands])]
  · rw [h _ (by simp [Op.operands])]
  · rfl
theorem ropD_congr {ρ ρ' : Operand → AV} {L : Heap} {op : Op} (h : ∀ x ∈ op.operands, ρ x = ρ' x) : ropD C ρ L op = ropD C ρ' L op :=
  ropD_eq (ropL_congr h) (rop_congr h)
theorem parts_congr {ρ ρ' : Operand → AV} {parts : Array (Nat × Operand)} (h : ∀ x ∈ (parts.toList.map (·.2)).toArray, ρ x = ρ' x) : (parts.toList.map fun (i, x) => (i, ρ x)) = parts.toList.map fun (i, x) => (i, ρ' x) :=
  List.map_congr_left fun p hp => by
    obtain ⟨i, x⟩ := p
    have := h x (by simp; exact ⟨i, by simpa using hp⟩)
    simp only [this]
theorem act_congr {ρ ρ' : Operand → AV} {L : Heap} {id : Nat} {ty : TypeId} {op : Op} (h : ∀ x ∈ op.operands, ρ x = ρ' x) (hn : isAppend op = false) : act C ρ L id ty op = act C ρ' L id ty op := by
  unfold act
  split
  · rfl
  · rw [h _ (by simp [Op.operands])]
  · rw [parts_congr (by simpa [Op.operands] using h)]
  · rw [parts_congr (by simpa [Op.operands] using h)]
  · rename_i t p x
    rw [h p (by simp [Op.operands]), h x (by simp [Op.operands])]
  · rfl
  · rfl
  · simp [isAppend] at hn
  · rw [h _ (by simp [Op.operands])]
  · rename_i t l c
    rw [h l (by simp [Op.operands]), h c (by simp [Op.operands])]
  · rfl
theorem actV_congr {ρ ρ' : Operand → AV} {L : Heap} {id : Nat} {ty : TypeId} {op : Op} (h : ∀ x ∈ op.operands, ρ x = ρ' x) (hn : isAppend op = false) : actV C ρ L id ty op = actV C ρ' L id ty op := by
  unfold actV
  rw [act_congr h hn]
  cases hm : isMake op with
  | false => rfl
  | true =>
    cases op with
    | makeSlice t l c => simp only [cond_true, makeD, h l (by simp [Op.operands]), h c (by simp [Op.operands])]
    | _ => simp [isMake] at hm
theorem all_congr {ρ ρ' : Operand → AV} {parts : Array (Nat × Operand)} (h : ∀ x ∈ (parts.toList.map (·.2)).toArray, ρ x = ρ' x) : (parts.toList.all fun (_, x) => noOwn (ρ x)) = parts.toList.all fun (_, x) => noOwn (ρ' x) := by
  rw [Bool.eq_iff_iff, List.all_eq_true, List.all_eq_true]
  constructor <;> intro k p hp <;> obtain ⟨i, x⟩ := p <;> have := h x (by simp; exact ⟨i, by simpa using hp⟩) <;> have := k (i, x) hp <;> simp_all
theorem actOK_congr {ρ ρ' : Operand → AV} {op : Op} (h : ∀ x ∈ op.operands, ρ x = ρ' x) : actOK ρ op = actOK ρ' op := by
  unfold actOK
  split
  · rfl
  · rw [h _ (by simp [Op.operands])]
  · exact all_congr (by simpa [Op.operands] using h)
  · exact all_congr (by simpa [Op.operands] using h)
  · rename_i t p x; rw [h x (by simp [Op.operands])]
  · rfl
  · rfl
  · rw [h _ (by simp [Op.operands])]
  · rfl
  · rfl
theorem callOwnless_congr {ρ ρ' : Operand → AV} {op : Op} (h : ∀ x ∈ op.operands, ρ x = ρ' x) : callOwnless ρ op = callOwnless ρ' op := by
  unfold callOwnless
  split
  · rename_i f args ts
    have hf : ρ f = ρ' f := h f (by simp [Op.operands, Call.operands])
    have ha : (args.toList.all fun x => noOwn (ρ x)) = args.toList.all fun x => noOwn (ρ' x) := by
      rw [Bool.eq_iff_iff, List.all_eq_true, List.all_eq_true]
      constructor <;> intro k x hx <;> have := h x (by simp only [Op.operands, Call.operands]; rw [Array.mem_append]; right; rwa [← Array.mem_toList_iff]) <;> have := k x hx <;> simp_all
    rw [hf, ha]
  · rfl
theorem OpVal.congr {o : Oper} {id : Nat} {ρ ρ' : Operand → AV} {L L' : Heap} {av : AV} (h : ∀ x ∈ o.op.operands, ρ x = ρ' x) (hv : OpVal C o id ρ L av L') : OpVal C o id ρ' L av L' := by
  rcases hv with ⟨h1, h2, h3, h4, h5⟩ | ⟨h1, h2, h3, h4⟩ | ⟨h1, h2, h3, h4⟩
  · exact .inl ⟨h1, by rw [← callA_congr h]; exact h2, by rw [← callOwnless_congr h]; exact h3, h4, h5⟩
  · exact .inr (.inl ⟨h1, h2, by rw [← actOK_congr h]; exact h3, by rw [← actV_congr h (actOK_notAppend h3)]; exact h4⟩)
  · exact .inr (.inr ⟨h1, h2, by rw [← ropD_congr h]; exact h3, h4⟩)
theorem mem_looks {ops : Array Oper} {o : Oper} {t : Tmp} (h : .tmp t ∈ o.op.operands) : t ∈ o.looksAt ops := by
  unfold Oper.looksAt
  rw [List.mem_append]
  left
  rw [List.mem_filterMap]
  exact ⟨.tmp t, Array.mem_toList_iff.2 h, rfl⟩
theorem StepVal.env {ops : Array Oper} {o : Oper} {id : Nat} {env : List AV} {L L' : Heap} {av : AV} {d : Option Tmp} {a : AV} (hd : ∀ e, d = some e → e ∉ o.looksAt ops) : StepVal C ops o id (envPut env d a) L av L' ↔ StepVal C ops o id env L av L' := by
  have he : ∀ x ∈ o.op.operands, evA C (envPut env d a) x = evA C env x := by
    intro x hx
    refine evA_put fun e hde hxe => ?_
    subst hxe
    exact hd e hde (mem_looks hx)
  have hw : wantB ops o (envPut env d a) = wantB ops o env := by
    unfold wantB
    split
    · rfl
    · rename_i j want hg
      split
      · rename_i t ht
        have : (envPut env d a).getD t .dead = env.getD t .dead := by
          cases d with
          | none => rfl
          | some e =>
            have hne : t ≠ e := by
              rintro rfl
              refine hd t rfl ?_
              unfold Oper.looksAt
              rw [List.mem_append]
              right
              rw [hg]
              unfold gTmp at ht
              simp [ht]
            simp only [envPut, List.getD_eq_getElem?_getD]
            rw [List.getElem?_set_ne (Ne.symm hne)]
        rw [this]
      · rfl
  unfold StepVal
  rw [hw]
  constructor
  · rintro (⟨h1, h2⟩ | h)
    · exact .inl ⟨h1, h2.congr he⟩
    · exact .inr h
  · rintro (⟨h1, h2⟩ | h)
    · exact .inl ⟨h1, h2.congr fun x hx => (he x hx).symm⟩
    · exact .inr h
theorem mark_mark (s : Slot) : s.mark.mark = s.mark := by cases s <;> rfl
theorem markIds_get : ∀ (l : List Nat) (L : Heap) (i : Nat), (markIds L l)[i]? = if i ∈ l then (L[i]?).map Slot.mark else L[i]?
  | [], L, i => by simp [markIds]
  | j :: l, L, i => by
    rw [markIds, markIds_get l]
    have h1 : (mark1 L j)[i]? = if i = j then (L[i]?).map Slot.mark else L[i]? := by
      unfold mark1
      cases hj : L[j]? with
      | none =>
        simp only
        split
        · rename_i e; subst e; rw [hj]; rfl
        · rfl
      | some s =>
        simp only
        rw [get_set ⟨_, hj⟩]
        split
        · rename_i e; subst e; rw [hj]; rfl
        · rfl
    rw [h1]
    by_cases e : i = j
    · subst e
      simp only [if_true, List.mem_cons, true_or]
      split
      · cases L[i]? <;> simp [mark_mark]
      · rfl
    · simp only [e, if_false, List.mem_cons, false_or]
theorem handA_congr {L L' : Heap} {t : TypeId} {a : AV} (h : ∀ i ∈ ownOf a, L[i]? = L'[i]?) : handA C L t a = handA C L' t a := by
  unfold handA
  split
  case h_11 =>
    rename_i f id p id2 p2
    rw [h id (by simp [ownOf]), h id2 (by simp [ownOf])]
  all_goals first | rfl | (rw [h _ (by simp [ownOf])])
theorem handL_congr {L L' : Heap} : ∀ {as : List AV} {ts : List TypeId}, (∀ a ∈ as, ∀ i ∈ ownOf a, L[i]? = L'[i]?) → handL C L ts as = handL C L' ts as
  | [], ts, h => by cases ts <;> rfl
  | a :: as, ts, h => by
    have h1 : ∀ t, handA C L t a = handA C L' t a := fun t => handA_congr (h a (by simp))
    have h2 : ∀ ts, handL C L ts as = handL C L' ts as := fun ts => handL_congr (fun b hb => h b (List.mem_cons_of_mem _ hb))
    cases ts <;> simp only [handL, h1, h2]
theorem ownOf_ids {f : Bool → Nat → Bool} {a : AV} (h : a.ids f = true) : ∀ i ∈ ownOf a, ∃ b, f b i = true := by
  intro i hi
  unfold ownOf at hi
  split at hi
  · simp at hi; subst hi; simp only [AV.ids] at h; exact ⟨_, h⟩
  · simp at hi; subst hi; simp only [AV.ids] at h; exact ⟨_, h⟩
  · simp at hi; subst hi; simp only [AV.ids] at h; exact ⟨_, h⟩
  · simp at hi; subst hi; simp only [AV.ids] at h; exact ⟨_, h⟩
  · simp at hi; subst hi; simp only [AV.ids, AV.idsL, Bool.and_true] at h; exact ⟨_, h⟩
  · simp only [AV.ids, AV.idsL, Bool.and_true, Bool.and_eq_true] at h
    simp at hi
    rcases hi with rfl | rfl
    · exact ⟨_, h.1⟩
    · exact ⟨_, h.2⟩
  · simp at hi
theorem open1_ne {L : Heap} {j i : Nat} {b : Bool} (hj : L[j]? = some .resv) (h : open1 L b i = true) : i ≠ j := by
  rintro rfl; unfold open1 at h; rw [hj] at h; cases h
theorem callA_resv {ρ : Operand → AV} {L : Heap} {j : Nat} {s : Slot} (hj : L[j]? = some .resv) {op : Op} (h : ∀ x ∈ op.operands, (ρ x).ids (open1 L) = true) :
    (callA C ρ (L.set j s) op).map (fun q => (q.1, q.2.1)) = (callA C ρ L op).map (fun q => (q.1, q.2.1)) := by
  unfold callA
  split
  · rename_i f args ts
    split
    · rename_i g caps hf
      have hfi := fnOf_ids (h f (by simp [Op.operands, Call.operands]))
      rw [hf] at hfi
      simp only [AV.ids] at hfi
      have hall : ∀ a ∈ args.toList.map ρ ++ caps, a.ids (open1 L) = true := by
        intro a ha
        rcases List.mem_append.1 ha with ha | ha
        · obtain ⟨x, hx, rfl⟩ := List.mem_map.1 ha
          exact h x (by simp only [Op.operands, Call.operands]; rw [Array.mem_append]; right; rwa [← Array.mem_toList_iff])
        · obtain ⟨i, hi⟩ := List.mem_iff_getElem?.1 ha
          exact idsL_get hfi i a hi
      have e : handL C (markIds (L.set j s) ((args.toList.map ρ ++ caps).flatMap ownOf)) ((C.P.funcs[g]?).map (·.params.toList) |>.getD []) (args.toList.map ρ ++ caps) =
          handL C (markIds L ((args.toList.map ρ ++ caps).flatMap ownOf)) ((C.P.funcs[g]?).map (·.params.toList) |>.getD []) (args.toList.map ρ ++ caps) := by
        refine handL_congr fun a ha i hi => ?_
        obtain ⟨b, hb⟩ := ownOf_ids (hall a ha) i hi
        rw [markIds_get, markIds_get, List.getElem?_set_ne (Ne.symm (open1_ne hj hb))]
      simp only [e, Option.map_map]
      rfl
    · rfl
  · rfl
theorem liftA_noOwn {L L' : Heap} {τ : ETy} {a : AV} (h : noOwn a = true) : liftA L τ a = liftA L' τ a := by
  unfold liftA
  split <;> first | rfl | (simp [noOwn, ownOf] at h)
theorem markL_noOwn {L : Heap} : ∀ {l : List AV}, (∀ a ∈ l, noOwn a = true) → markL L l = L
  | [], _ => rfl
  | a :: l, h => by
    unfold markL
    rw [noOwn_mark (h a (by simp))]
    exact markL_noOwn fun b hb => h b (List.mem_cons_of_mem _ hb)
theorem setParts_noOwn {T : ETy} {st : Nat → PStep} {L L' : Heap} : ∀ {parts : List (Nat × AV)} {x : T.I}, (∀ p ∈ parts, noOwn p.2 = true) → setParts T st L x parts = setParts T st L' x parts
  | [], x, _ => rfl
  | (i, a) :: r, x, h => by
    simp only [setParts]
    congr 1; funext σ
    rw [liftA_noOwn (L' := L') (h (i, a) (by simp))]
    congr 1; funext y
    congr 1; funext x'
    exact setParts_noOwn fun p hp => h p (List.mem_cons_of_mem _ hp)
theorem parts_noOwn {ρ : Operand → AV} {parts : Array (Nat × Operand)} (h : (parts.toList.all fun (_, x) => noOwn (ρ x)) = true) : (∀ p ∈ (parts.toList.map fun (i, x) => (i, ρ x)), noOwn p.2 = true) ∧ ∀ a ∈ (parts.toList.map fun (i, x) => (i, ρ x)).map (·.2), noOwn a = true := by
  rw [List.all_eq_true] at h
  have h1 : ∀ p ∈ (parts.toList.map fun (i, x) => (i, ρ x)), noOwn p.2 = true := by
    intro p hp
    obtain ⟨q, hq, rfl⟩ := List.mem_map.1 hp
    exact h q hq
  refine ⟨h1, fun a ha => ?_⟩
  obtain ⟨p, hp, rfl⟩ := List.mem_map.1 ha
  exact h1 p hp
def readsRow (ρ : Operand → AV) : Op → Option Nat
  | .convert _ _ x => match ρ x with
    | .rs i => some i
    | _ => none
  | _ => none
theorem bzA_ids {f : Bool → Nat → Bool} {T : ETy} {x : T.I} {os : List Nat} : (bzA T x os).ids f = true := by cases os <;> simp only [bzA, AV.ids]
def Slot.plain : Slot → Bool
  | .box .. => true
  | .row .. => true
  | .obj _ => true
  | _ => false
theorem plain_live {s : Slot} (h : s.plain = true) : s.live = true := by cases s <;> first | rfl | cases h
theorem act_slot {ρ : Operand → AV} {L L' : Heap} {id : Nat} {ty : TypeId} {op : Op} {av : AV} (hok : actOK ρ op = true) (hns : isStore op = false) (h : actV C ρ L id ty op = some (true, av, L')) :
    (L' = L ∧ (∀ f : Bool → Nat → Bool, av.ids f = true) ∧ ∀ L2 : Heap, (∀ i, readsRow ρ op = some i → L2[i]? = L[i]?) → actV C ρ L2 id ty op = some (true, av, L2)) ∨
    (wantsId op = true ∧ (av = .ref id [] ∨ av = .rs id) ∧ ∃ s : Slot, s.plain = true ∧ L' = L.set id s ∧ ∀ L2, actV C ρ L2 id ty op = some (true, av, L2.set id s)) := by
  cases hmk : isMake op with
  | true =>
    left
    cases op with
    | makeSlice t l c =>
      have hv : ∀ L2 : Heap, actV C ρ L2 id ty (.makeSlice t l c) = (makeV C t (ρ l) (ρ c)).map fun r => (r.1, r.2, L2) := fun _ => rfl
      rw [hv] at h
      obtain ⟨⟨b, v⟩, h1, h2⟩ := Option.map_eq_some_iff.1 h
      simp only [Prod.mk.injEq] at h2
      obtain ⟨rfl, rfl, rfl⟩ := h2
      refine ⟨rfl, ?_, fun L2 _ => by rw [hv, h1]; rfl⟩
      unfold makeV at h1
      split at h1
      · split at h1
        · split at h1
          · simp only [Option.some.injEq, Prod.mk.injEq] at h1
            obtain ⟨_, rfl⟩ := h1
            intro f; simp only [AV.ids]
          · cases h1
        · cases h1
      · cases h1
    | _ => simp [isMake] at hmk
  | false =>
  have hAV : ∀ L2 : Heap, actV C ρ L2 id ty op = act C ρ L2 id ty op := fun L2 => by unfold actV; rw [hmk]; rfl
  rw [hAV] at h
  suffices key : (L' = L ∧ (∀ f : Bool → Nat → Bool, av.ids f = true) ∧ ∀ L2 : Heap, (∀ i, readsRow ρ op = some i → L2[i]? = L[i]?) → act C ρ L2 id ty op = some (true, av, L2)) ∨
      (wantsId op = true ∧ (av = .ref id [] ∨ av = .rs id) ∧ ∃ s : Slot, s.plain = true ∧ L' = L.set id s ∧ ∀ L2, act C ρ L2 id ty op = some (true, av, L2.set id s)) by
    simpa only [hAV] using key
  clear hAV
  unfold actOK at hok
  unfold act at h ⊢
  split at h
  · right
    unfold allocA at h ⊢
    split at h
    · rename_i te hte
      simp only [Option.some.injEq, Prod.mk.injEq, true_and] at h
      obtain ⟨rfl, rfl⟩ := h
      exact ⟨rfl, .inl rfl, .obj (.bld _ te ⟨#[]⟩), rfl, rfl, fun L2 => rfl⟩
    simp only [Option.map_eq_some_iff, Prod.mk.injEq, true_and] at h
    obtain ⟨τ, hτ, rfl, rfl⟩ := h
    exact ⟨rfl, .inl rfl, .box τ τ.z false, rfl, rfl, fun L2 => by simp [hτ]⟩
  · right
    simp only at hok
    unfold boxA boxA.mark1' at h ⊢
    simp only [Option.bind_eq_some_iff, Option.map_eq_some_iff, Prod.mk.injEq, true_and] at h
    obtain ⟨τ, hτ, x, hx, rfl, rfl⟩ := h
    have hm : ∀ L : Heap, markL L [ρ (by assumption)] = L := fun L => markL_noOwn (by simpa using hok)
    refine ⟨rfl, .inl rfl, .box τ x false, rfl, by rw [hm], fun L2 => ?_⟩
    rw [hτ]
    simp only [Option.bind_some, hm] at hx ⊢
    rw [liftA_noOwn (L' := L) hok, hx]
    rfl
  · left
    simp only at hok
    obtain ⟨hp1, hp2⟩ := parts_noOwn hok
    unfold buildA at h ⊢
    simp only [Option.bind_eq_some_iff] at h
    obtain ⟨τ, hτ, h⟩ := h
    simp only [markL_noOwn hp2] at h
    split at h
    · simp only [Option.map_eq_some_iff, Prod.mk.injEq, true_and] at h
      obtain ⟨x, hx, rfl, rfl⟩ := h
      refine ⟨rfl, fun f => (by first | (simp only [AV.ids]; done) | exact bzA_ids), fun L2 _ => ?_⟩
      rw [hτ]
      simp only [Option.bind_some, markL_noOwn hp2]
      rw [setParts_noOwn (L' := L) hp1, hx]; rfl
    · split at h
      · rename_i hst
        simp only [Option.map_eq_some_iff, Prod.mk.injEq, true_and] at h
        obtain ⟨x, hx, rfl, rfl⟩ := h
        refine ⟨rfl, fun f => (by first | (simp only [AV.ids]; done) | exact bzA_ids), fun L2 _ => ?_⟩
        rw [hτ]
        simp only [Option.bind_some, markL_noOwn hp2]
        rw [if_pos hst, setParts_noOwn (L' := L) hp1, hx]; rfl
      · cases h
    · cases h
  · right
    simp only at hok
    obtain ⟨hp1, hp2⟩ := parts_noOwn hok
    unfold buildSliceA at h ⊢
    simp only [Option.bind_eq_some_iff] at h
    obtain ⟨τ, hτ, te, hte, h⟩ := h
    simp only [markL_noOwn hp2] at h
    split at h
    · split at h
      · rename_i hst
        simp only [Option.map_eq_some_iff, Prod.mk.injEq, true_and] at h
        obtain ⟨x, hx, rfl, rfl⟩ := h
        refine ⟨rfl, .inr rfl, _, rfl, rfl, fun L2 => ?_⟩
        rw [hτ, hte]
        simp only [Option.bind_some, markL_noOwn hp2]
        rw [if_pos hst, setParts_noOwn (L' := L) hp1, hx]; rfl
      · cases h
    · cases h
  · simp [isStore] at hns
  · right
    unfold nilRowA at h ⊢
    split at h
    · rename_i e te h1 h2
      simp only [Option.some.injEq, Prod.mk.injEq, true_and] at h
      obtain ⟨rfl, rfl⟩ := h
      exact ⟨rfl, .inr rfl, .row te e [] false, rfl, rfl, fun L2 => by simp [h1, h2]⟩
    · cases h
  · right
    unfold nilRowA at h ⊢
    split at h
    · rename_i e te h1 h2
      simp only [Option.some.injEq, Prod.mk.injEq, true_and] at h
      obtain ⟨rfl, rfl⟩ := h
      exact ⟨rfl, .inr rfl, .row te e [] false, rfl, rfl, fun L2 => by simp [h1, h2]⟩
    · cases h
  · cases hok
  · left
    rename_i s d x
    cases hx : ρ x with
    | v σ y =>
      rw [hx] at h
      obtain ⟨h1, h2⟩ := convB_v h
      exact ⟨convB_L h, (by obtain ⟨τ, x, rfl⟩ := h1; intro f; simp only [AV.ids]), fun L2 _ => h2 L2⟩
    | rs i =>
      rw [hx] at h
      refine ⟨convB_L h, ?_, fun L2 hL2 => ?_⟩
      · unfold convB at h
        simp only [Option.bind_eq_some_iff, Option.map_eq_some_iff, Prod.mk.injEq] at h
        obtain ⟨xs, _, r, hr, _, rfl, _⟩ := h
        obtain ⟨τ, x, e⟩ := toStrA_v hr
        intro f; rw [e]; simp only [AV.ids]
      · have e : L2[i]? = L[i]? := hL2 i (by simp only [readsRow, hx])
        unfold convB at h ⊢
        simp only [Option.bind_eq_some_iff, Option.map_eq_some_iff, Prod.mk.injEq] at h ⊢
        obtain ⟨xs, hxs, r, hr, h1, h2, _⟩ := h
        refine ⟨xs, ?_, r, hr, h1, h2, trivial⟩
        rw [← hxs]
        unfold liftA
        simp only [e]
    | _ => simp only [hx] at hok; cases hok
  · simp [isMake] at hmk
  · cases h
def sameShape : Slot → Slot → Prop
  | .box T _ _, s => ∃ x ro, s = .box T x ro
  | .row t e xs _, s => ∃ ys ro, s = .row t e ys ro ∧ List.length ys = List.length xs
  | _, _ => False
theorem store_slot {ρ : Operand → AV} {L L' : Heap} {id : Nat} {ty : TypeId} {op : Op} {av : AV} (hok : actOK ρ op = true) (hs : isStore op = true) (h : actV C ρ L id ty op = some (true, av, L')) :
    av = .dead ∧ ∃ i s0 s1, L[i]? = some s0 ∧ sameShape s0 s1 ∧ s1.live = true ∧ L' = L.set i s1 := by
  have hmk : isMake op = false := by cases op <;> first | rfl | (simp [isStore] at hs)
  unfold actV at h
  rw [hmk, cond_false] at h
  unfold act at h
  split at h <;> (try (simp [isStore] at hs; done))
  rename_i t p x
  simp only [actOK] at hok
  unfold storeA at h
  have hm : markL L [ρ x] = L := markL_noOwn (by simpa using hok)
  simp only [Option.bind_eq_some_iff, hm] at h
  obtain ⟨τ, hτ, y, hy, h⟩ := h
  split at h
  · split at h
    · rename_i hL
      simp only [Option.map_eq_some_iff, Prod.mk.injEq, true_and] at h
      obtain ⟨z, hz, rfl, rfl⟩ := h
      exact ⟨rfl, _, _, _, hL, ⟨_, _, rfl⟩, rfl, rfl⟩
    · cases h
  · split at h
    · rename_i hL
      simp only [Option.map_eq_some_iff, Prod.mk.injEq, true_and] at h
      obtain ⟨z, hz, rfl, rfl⟩ := h
      exact ⟨rfl, _, _, _, hL, ⟨_, _, rfl, by simp⟩, rfl, rfl⟩
    · cases h
  · cases h
end
end
end Go.Proofs.YtlcomipbinfooaaGreatDoor.K

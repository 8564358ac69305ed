/- Regions: reserved places, and the walk in the text's order. -/
import Derived.Test.YtmphlhnpichonaaDoorK19
set_option maxHeartbeats 400000
set_option linter.unusedVariables false
set_option linter.unusedSimpArgs false
namespace Go.Proofs.YtmphlhnpichonaaDoor.K
open Go Go.RowKit

def cntIds : List Oper → Nat
  | [] => 0
  | o :: l => (bif wantsId o.op then 1 else 0) + cntIds l

section
variable {Ω : Type} {C : Cfg} {B : Nat} {w0 : World} {S0 : Nat → Nat → Prop} {spec : Spec}

theorem mark1_keeps {L : Heap} {i j : Nat} (h : L[j]? = some .resv) : (mark1 L i)[j]? = some .resv := by
  rcases mark1_get (id := i) h with h | h <;> exact h

theorem markIds_keeps : ∀ (l : List Nat) {L : Heap} {j : Nat}, L[j]? = some .resv → (markIds L l)[j]? = some .resv
  | [], L, j, h => h
  | i :: l, L, j, h => markIds_keeps l (mark1_keeps h)

theorem set_keeps {L : Heap} {i j : Nat} {s : Slot} (hij : j ≠ i) (h : L[j]? = some .resv) : (L.set i s)[j]? = some .resv := by
  rw [List.getElem?_set_ne (Ne.symm hij)]; exact h

theorem act_keeps {ρ : Operand → AV} {L L' : Heap} {id : Nat} {ty : TypeId} {op : Op} {c : Bool} {av : AV} (h : act C ρ L id ty op = some (c, av, L')) {j : Nat} (hj : j ≠ id) (hr : L[j]? = some .resv) : L'[j]? = some .resv := by
  unfold act at h
  split at h
  · unfold allocA at h
    simp only [Option.map_eq_some_iff, Prod.mk.injEq] at h
    obtain ⟨τ, _, _, _, rfl⟩ := h
    exact set_keeps hj hr
  · unfold boxA boxA.mark1' at h
    simp only [Option.bind_eq_some_iff, Option.map_eq_some_iff, Prod.mk.injEq] at h
    obtain ⟨τ, _, x, _, _, _, rfl⟩ := h
    exact set_keeps hj (mark_resv hr)
  · unfold buildA at h
    simp only [Option.bind_eq_some_iff] at h
    obtain ⟨τ, _, h⟩ := h
    split at h
    · simp only [Option.map_eq_some_iff, Prod.mk.injEq] at h
      obtain ⟨x, _, _, _, rfl⟩ := h
      exact mark_resv hr
    · split at h
      · simp only [Option.map_eq_some_iff, Prod.mk.injEq] at h
        obtain ⟨x, _, _, _, rfl⟩ := h
        exact mark_resv hr
      · cases h
    · cases h
  · unfold buildSliceA at h
    simp only [Option.bind_eq_some_iff] at h
    obtain ⟨τ, _, te, _, h⟩ := h
    split at h
    · split at h
      · simp only [Option.map_eq_some_iff, Prod.mk.injEq] at h
        obtain ⟨x, _, _, _, rfl⟩ := h
        exact set_keeps hj (mark_resv hr)
      · cases h
    · cases h
  · unfold storeA at h
    simp only [Option.bind_eq_some_iff] at h
    obtain ⟨τ, _, y, _, h⟩ := h
    have hm := mark_resv (l := [ρ (by assumption)]) hr
    split at h
    · split at h
      · rename_i hL
        simp only [Option.map_eq_some_iff, Prod.mk.injEq] at h
        obtain ⟨x, _, _, _, rfl⟩ := h
        refine set_keeps (fun e => ?_) (mark_resv hr)
        subst e
        rw [mark_resv hr] at hL
        cases hL
      · cases h
    · split at h
      · rename_i hL
        simp only [Option.map_eq_some_iff, Prod.mk.injEq] at h
        obtain ⟨x, _, _, _, rfl⟩ := h
        refine set_keeps (fun e => ?_) (mark_resv hr)
        subst e
        rw [mark_resv hr] at hL
        cases hL
      · cases h
    · cases h
  · unfold nilRowA at h
    split at h
    · simp only [Option.some.injEq, Prod.mk.injEq] at h
      obtain ⟨_, _, rfl⟩ := h
      exact set_keeps hj hr
    · cases h
  · unfold nilRowA at h
    split at h
    · simp only [Option.some.injEq, Prod.mk.injEq] at h
      obtain ⟨_, _, rfl⟩ := h
      exact set_keeps hj hr
    · cases h
  · split at h
    · split at h
      · unfold appendA at h
        split at h
        · split at h
          · simp only [Option.bind_eq_some_iff] at h
            obtain ⟨ys, _, h⟩ := h
            split at h
            · split at h
              · rename_i hL
                split at h
                · simp only [Option.map_eq_some_iff, Prod.mk.injEq] at h
                  obtain ⟨x, _, _, _, rfl⟩ := h
                  refine set_keeps (fun e => ?_) hr
                  subst e
                  rw [hr] at hL
                  cases hL
                · cases h
              · cases h
            · simp only [Option.some.injEq, Prod.mk.injEq] at h
              obtain ⟨_, _, rfl⟩ := h
              exact set_keeps hj hr
            · cases h
          · cases h
        · cases h
      · cases h
    · cases h
  · rw [convB_L h]; exact hr
  · cases h

theorem callA_keeps {ρ : Operand → AV} {L L1 : Heap} {op : Op} {g : FuncId} {bs : List AV} (h : callA C ρ L op = some (g, bs, L1)) {j : Nat} (hr : L[j]? = some .resv) : L1[j]? = some .resv := by
  unfold callA at h
  split at h
  · split at h
    · simp only [Option.map_eq_some_iff, Prod.mk.injEq] at h
      obtain ⟨x, _, _, _, rfl⟩ := h
      exact markIds_keeps _ hr
    · cases h
  · cases h

theorem act_noId {ρ : Operand → AV} {L L' : Heap} {id : Nat} {ty : TypeId} {op : Op} {c : Bool} {av : AV} (h : act C ρ L id ty op = some (c, av, L')) (hw : wantsId op = false) {j : Nat} (hr : L[j]? = some .resv) : L'[j]? = some .resv := by
  by_cases hj : j = id
  · -- no place is taken
    have key : ∀ id2, act C ρ L id2 ty op = some (c, av, L') := by
      intro id2
      unfold act at h ⊢
      split at h <;> first | exact h | (simp [wantsId] at hw)
    exact act_keeps (key (j + 1)) (by omega) hr
  · exact act_keeps h hj hr

theorem OpRel.keeps {o : Oper} {id : Nat} {env env' : List AV} {L L' : Heap} (h : OpRel C o id env L env' L') {j : Nat} (hj : wantsId o.op = true → j ≠ id) (hr : L[j]? = some .resv) : L'[j]? = some .resv := by
  rcases h with ⟨_, g, bs, L1, av, h1, h2, _, rfl⟩ | ⟨_, _, av, h1, _⟩ | ⟨_, _, av, h1, _, rfl⟩
  · split
    · exact hr
    · exact callA_keeps h1 hr
  · cases hw : wantsId o.op with
    | true => exact act_keeps h1 (hj hw) hr
    | false => exact act_noId h1 hw hr
  · exact hr

theorem StepRel.keeps {ops : Array Oper} {o : Oper} {id : Nat} {env env' : List AV} {L L' : Heap} (h : StepRel C ops o id env L env' L') {j : Nat} (hj : wantsId o.op = true → j ≠ id) (hr : L[j]? = some .resv) : L'[j]? = some .resv := by
  unfold StepRel at h
  split at h
  · exact h.keeps hj hr
  · obtain ⟨d, _, ⟨b, _, h⟩ | ⟨_, _, h⟩⟩ := h
    · split at h
      · exact h.keeps hj hr
      · rw [h.2]; exact hr
    · rw [h]; exact hr

/-- The walk in the text's order. -/
theorem run_wpList (hC : C.OK) {ops : Array Oper} {env' : List AV} {L' : Heap} {Q : Exit → Act → World → Prop} (hQ : ∀ a' w', St C B w0 S0 env' L' a' w' → Q .normal a' w') : ∀ (l : List Oper) (id : Nat) {env : List AV} {L : Heap} {a : Act} {w : World},
    RunRel C ops (withIds l id) env L env' L' → (∀ i, i < cntIds l → L[id + i]? = some .resv) → St C B w0 S0 env L a w → wpList C.P ops Q l a w
  | [], id, env, L, a, w, h, hr, hst => by
    simp only [withIds, RunRel] at h
    obtain ⟨rfl, rfl⟩ := h
    exact hQ a w hst
  | o :: l, id, env, L, a, w, h, hr, hst => by
    simp only [withIds, RunRel] at h
    obtain ⟨env1, L1, h1, h2⟩ := h
    refine wpList_step fun K hK => ?_
    refine step_wp hC (fun hw => ?_) h1 hst (fun a' w' hst' => hK a' w' (run_wpList hC hQ l (nextId o id) h2 (fun i hi => ?_) hst'))
    · have := hr 0 (by simp only [cntIds, hw, cond_true]; omega)
      simpa using this
    · cases hw : wantsId o.op with
      | true =>
        simp only [nextId, hw, cond_true]
        refine h1.keeps (fun _ => by omega) ?_
        have := hr (1 + i) (by simp only [cntIds, hw, cond_true]; omega)
        rw [← Nat.add_assoc] at this
        exact this
      | false =>
        simp only [nextId, hw, cond_false]
        refine h1.keeps (fun h => by rw [hw] at h; cases h) (hr i (by simp only [cntIds, hw, cond_false]; omega))

theorem getElem?_resv {L : Heap} {n i : Nat} {s : Slot} (h : (L ++ List.replicate n .resv)[i]? = some s) (hs : s ≠ .resv) : L[i]? = some s := by
  rcases Nat.lt_or_ge i L.length with hlt | hge
  · rwa [List.getElem?_append_left hlt] at h
  · rw [List.getElem?_append_right hge, List.getElem?_replicate] at h
    split at h
    · cases h; exact absurd rfl hs
    · cases h

/-- More places reserved. -/
theorem St.more {env : List AV} {L : Heap} {a : Act} {w : World} (h : St C B w0 S0 env L a w) (n : Nat) : St C B w0 S0 env (L ++ List.replicate n .resv) a w := by
  obtain ⟨m, S, hI, hE, hG, hb, hs, hnew, hd⟩ := h
  have hg : Goes B (fun _ => false) m L w S m (L ++ List.replicate n .resv) w S := by
    refine ⟨⟨hI.base, fun id T x ro h => hI.box id T x ro (getElem?_resv h (by simp)), fun id t e xs ro h => hI.row id t e xs ro (getElem?_resv h (by simp)), ?_, ?_⟩, Safe.refl _ _, Below.refl _ _, ⟨?_⟩, fun _ _ h => .inl h⟩
    · intro i j s r hne h1 h2 l1 l2
      exact hI.apart i j s r hne (getElem?_resv h1 (by rintro rfl; simp [Slot.live] at l1)) (getElem?_resv h2 (by rintro rfl; simp [Slot.live] at l2)) l1 l2
    · intro b o h
      obtain ⟨p1, p2⟩ := hI.prot b o h
      exact ⟨p1, fun i s hs hl hb => p2 i s (getElem?_resv hs (by rintro rfl; simp [Slot.live] at hl)) hl hb⟩
    · intro id s hs hr
      have hlt : id < L.length := by
        rcases Nat.lt_or_ge id L.length with h | h
        · exact h
        · rw [List.getElem?_eq_none h] at hs; cases hs
      exact ⟨s, by rw [List.getElem?_append_left hlt]; exact hs, hr, fun T x ro h => ⟨rfl, x, ro, h⟩, fun t e xs ro _ h => ⟨rfl, xs, ro, h, Nat.le_refl _⟩⟩
  exact ⟨m, S, hg.inv, hE.go0 (fun _ => rfl) hg, hG, hb, hs, hnew, hd⟩

theorem St.drew {env : List AV} {L : Heap} {a : Act} {w : World} (h : St C B w0 S0 env L a w) : St C B w0 S0 env L a { w with drawn := w.drawn + 1 } := by
  obtain ⟨m, S, hI, hE, hG, hb, hs, hnew, hd⟩ := h
  have hg : Grows w { w with drawn := w.drawn + 1 } := ⟨rfl, rfl, rfl, Nat.le_refl _, fun _ _ => rfl⟩
  have g := Goes.grows hI hg (fun _ => false)
  exact ⟨m, S, g.inv, hE.go0 (fun _ => rfl) g, hG.go g.safe g.below, hb.trans g.below, hs.trans g.safe, hnew, hd⟩
end
end Go.Proofs.YtmphlhnpichonaaDoor.K

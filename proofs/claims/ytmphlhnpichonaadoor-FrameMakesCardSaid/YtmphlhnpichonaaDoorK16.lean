/- Appends; all operations that turn memory, by their form in the program. -/
import Derived.Test.YtmphlhnpichonaaDoorK15
set_option maxHeartbeats 400000
set_option linter.unusedVariables false
set_option linter.unusedSimpArgs false
namespace Go.Proofs.YtmphlhnpichonaaDoor.K
open Go Go.RowKit

section
variable {C : Cfg} {B : Nat} {m : Nat → Value} {L : Heap} {w w' : World} {S S' : Nat → Nat → Prop}

/-- A row of one's own has grown, in its place or into a new block. -/
theorem Goes.rowed (hI : Inv B m L w S) {id : Nat} {t : TypeId} {e : ETy} {xs xs' : List e.I} {ro : Bool} {v' : Value} {cs cs' : List Value} (hid : L[id]? = some (.row t e xs ro)) (hle : xs.length ≤ xs'.length)
    (hg : w.grownBy w' (m id).ownBlock) (ho : w.ownsRow B t e.size (m id) xs.length cs) (hr : RepL (RepC w S e) xs cs) (ho' : w'.ownsRow B t e.size v' xs'.length (cs ++ cs')) (hr' : RepL (RepC w S e) xs' (cs ++ cs'))
    (hat : v'.ownBlock = (m id).ownBlock ∨ (v'.ownBlock = some w.heap.size ∧ ∀ k, k < w.heap.size → w'.heap[k]? = w.heap[k]?)) : Goes B (fun i => i == id) m L w S (upd m id v') (L.set id (.row t e xs' ro)) w' S := by
  have gs := get_set (s := .row t e xs' ro) ⟨_, hid⟩
  rw [blk_own ho] at hg hat
  rw [blk_own ho'] at hat
  have hcl := RepL.length (fun x c h => RepC.length h) hr
  have hold : ∀ k, k < w.heap.size → blk (m id) ≠ some k → w'.heap[k]? = w.heap[k]? := fun k hk hne => hg.block k hk (fun e => hne e.symm)
  have hsafe : Safe S S w w' := by
    refine ⟨fun _ _ h => h, fun b o h => ?_⟩
    obtain ⟨p1, p2⟩ := hI.prot b o h
    by_cases hb : blk (m id) = some b
    · obtain ⟨q1, q2⟩ := p2 id _ hid rfl hb
      simp only [Slot.cells] at q2
      rcases hat with h' | ⟨_, h'⟩
      · have hb' : blk v' = some b := h'.trans hb
        have c1 : w.cell? ⟨b, o, none⟩ = cs[o]? := by
          have hlt : o < cs.length := by omega
          have := ho.cells (g := b) (by rw [blk_own ho]; exact hb) o cs[o] (by simp)
          rw [add_at, Nat.zero_add] at this
          rw [this]; simp
        have c2 : w'.cell? ⟨b, o, none⟩ = cs[o]? := by
          have hlt : o < cs.length := by omega
          have := ho'.cells (g := b) (by rw [blk_own ho']; exact hb') o cs[o] (by rw [List.getElem?_append_left (by omega)]; simp)
          rw [add_at, Nat.zero_add] at this
          rw [this]; simp
        rw [c1, c2]
      · exact World.cell?_of_block (a := ⟨b, o, none⟩) (h' b p1)
    · exact World.cell?_of_block (a := ⟨b, o, none⟩) (hold b p1 hb)
  have hfar : ∀ j r, j ≠ id → L[j]? = some r → r.live = true → ∀ b, blk (m j) = some b → w'.heap[b]? = w.heap[b]? := by
    intro j r hj hr hl b hb
    refine hold b (hI.lt hr hl hb).2 (fun e => ?_)
    rcases hI.apart j id r _ hj hr hid hl rfl with h | h
    · rw [h] at hb; cases hb
    · exact h (hb.trans e.symm)
  have hat' : blk v' = blk (m id) ∨ blk v' = some w.heap.size := hat.imp (fun h => h) (fun h => h.1)
  have hap : ∀ j r, j ≠ id → L[j]? = some r → r.live = true → blk (m j) = none ∨ blk (m j) ≠ blk v' := by
    intro j r hj hr hl
    cases hb : blk (m j) with
    | none => exact .inl rfl
    | some b =>
      right
      intro e
      rcases hat' with h | h
      · rcases hI.apart j id r _ hj hr hid hl rfl with h2 | h2
        · rw [h2] at hb; cases hb
        · exact h2 (by rw [hb, e, h])
      · have := (hI.lt hr hl hb).2
        rw [h] at e
        cases e
        omega
  refine ⟨⟨Nat.le_trans hI.base hg.size, ?_, ?_, ?_, ?_⟩, hsafe, ⟨hg.os, hg.tape, hg.output, hg.size, fun k hk => hold k (Nat.lt_of_lt_of_le hk hI.base) (fun e => by have := (hI.lt hid rfl e).1; omega)⟩, ⟨?_⟩, fun _ _ h => .inl h⟩
  · intro j T x ro' h
    rw [gs] at h
    split at h
    · cases h
    · rename_i e'
      obtain ⟨b, ds, el, fr, hm, h4, h5, h6, h7⟩ := hI.box j T x ro' h
      exact ⟨b, ds, el, fr, by rw [upd_ne e']; exact hm, h4, by rw [hfar j _ e' h rfl b (by rw [hm]; rfl)]; exact h5, h6, h7.safe hsafe⟩
  · intro j t' e' ys ro' h
    rw [gs] at h
    split at h
    · rename_i e2; subst e2
      cases h
      rw [upd_same]
      exact ⟨_, ho', RepL.mono (fun x c h => h.safe hsafe) hr'⟩
    · rename_i e2
      rw [upd_ne e2]
      obtain ⟨ds, h1, h2⟩ := hI.row j t' e' ys ro' h
      refine ⟨ds, ⟨h1.1, h1.2.imp (fun h => h) ?_⟩, RepL.mono (fun x c h => h.safe hsafe) h2⟩
      rintro ⟨g, cap, cur, hv, hgB, hh, r⟩
      exact ⟨g, cap, cur, hv, hgB, by rw [hfar j _ e2 h rfl g (by rw [hv]; rfl)]; exact hh, r⟩
  · intro i j s1 s2 hne h1 h2 l1 l2
    rw [gs] at h1 h2
    split at h1
    · rename_i e1; subst e1
      split at h2
      · rename_i e2; exact absurd e2.symm hne
      · rename_i e2
        rw [upd_same, upd_ne e2]
        rcases hap j s2 e2 h2 l2 with h | h
        · cases hb : blk v' with
          | none => exact .inl rfl
          | some b => right; rw [h]; simp
        · exact .inr (Ne.symm h)
    · rename_i e1
      split at h2
      · rename_i e2; subst e2
        rw [upd_same, upd_ne e1]
        exact hap i s1 e1 h1 l1
      · rename_i e2
        rw [upd_ne e1, upd_ne e2]
        exact hI.apart i j s1 s2 hne h1 h2 l1 l2
  · intro b o h
    obtain ⟨p1, p2⟩ := hI.prot b o h
    refine ⟨Nat.lt_of_lt_of_le p1 hg.size, fun i r hr hl hb => ?_⟩
    rw [gs] at hr
    split at hr
    · rename_i e1; subst e1
      cases hr
      rw [upd_same] at hb
      rcases hat' with h' | h'
      · obtain ⟨q1, q2⟩ := p2 i _ hid rfl (h' ▸ hb)
        simp only [Slot.cells] at q2
        refine ⟨q1, ?_⟩
        simp only [Slot.cells]
        exact Nat.lt_of_lt_of_le q2 (Nat.mul_le_mul_right _ hle)
      · rw [h'] at hb
        cases hb
        omega
    · rename_i e1
      rw [upd_ne e1] at hb
      exact p2 i r hr hl hb
  · intro j r hr hne
    by_cases e1 : j = id
    · subst e1
      rw [hid] at hr; cases hr
      refine ⟨.row t e xs' ro, by rw [gs, if_pos rfl], by simp, ?_, ?_⟩
      · intro T x ro h; cases h
      · intro t e xs ro hx h; simp at hx
    · exact ⟨r, by rw [gs, if_neg e1]; exact hr, hne, fun T x ro h => ⟨upd_ne e1, x, ro, h⟩, fun t e xs ro _ h => ⟨upd_ne e1, xs, ro, h, Nat.le_refl _⟩⟩

/-- The rows that an append turns. -/
def rowOf : AV → Nat → Bool
  | .rs i, j => j == i
  | _, _ => false

theorem does_append (hC : C.OK) (hI : Inv B m L w S) {t ty : TypeId} {id : Nat} (hid : L[id]? = some .resv) {s x : AV} {us ux : Value} (hs : RepA m L w S s us) (hx : RepA m L w S x ux) {av : AV} {L' : Heap} (hb : appendA C L id t s x = some (true, av, L')) :
    Does C B (rowOf s) m L w S (Builtin.append_ #[t, t] ty #[us, ux]) av L' := by
  unfold appendA at hb
  split at hb
  · rename_i e te hty hte
    split at hb
    · rename_i hok
      simp only [Bool.and_eq_true, decide_eq_true_eq, Bool.not_eq_true', beq_eq_false_iff_ne, ne_eq] at hok
      have hu := elId_eq hte
      cases hl : liftA L (.slice e) x with
      | none => rw [hl] at hb; cases hb
      | some ys =>
        rw [hl] at hb
        simp only [Option.bind_some] at hb
        obtain ⟨A, c, rfl, hsrc⟩ := src_rep hI hx hl
        split at hb
        · rename_i i
          split at hb
          · rename_i te' e' xs ro hL
            split at hb
            · rename_i hte'
              subst hte'
              cases hcast : castI (.slice e) (.slice e') ys with
              | none => rw [hcast] at hb; cases hb
              | some ys' =>
                rw [hcast] at hb
                obtain ⟨he, rfl⟩ := castI_eq hcast
                cases he
                simp only [Option.map_some, Option.some.injEq, Prod.mk.injEq, decide_eq_true_eq] at hb
                obtain ⟨hbd, rfl, rfl⟩ := hb
                simp only [RepA] at hs
                obtain ⟨sl, h1, h2, h3⟩ := hs
                rw [hL] at h1; cases h1
                obtain rfl := h3 te' e xs ro rfl
                obtain ⟨cs, ho, hr⟩ := hI.row i te' e xs ro hL
                obtain ⟨v', w', ds, r1, r2, r3, r4, r5⟩ := run_append_row (ty := ty) (c := c) hC hI hu hty hok.1 hok.2 ho hbd hsrc
                have go := Goes.rowed (xs' := xs ++ ys) hI hL (by simp) r3 ho hr (by simpa using r2) (RepL.append hr r5) r4
                refine ⟨v', _, w', S, r1, go, ?_⟩
                simp only [RepA]
                refine ⟨_, by rw [get_set ⟨_, hL⟩, if_pos rfl], by simp, fun t e xs ro e' => ?_⟩
                exact (upd_same _ _ _).symm
            · cases hb
          · cases hb
        · simp only [RepA] at hs
          subst hs
          simp only [Option.some.injEq, Prod.mk.injEq, decide_eq_true_eq] at hb
          obtain ⟨hbd, rfl, rfl⟩ := hb
          obtain ⟨v', w', ds, r1, r2, r3, r4, r5⟩ := run_append_row (ty := ty) (c := c) hC hI hu hty hok.1 hok.2 (World.ownsRow_nil w B te e.size) (by simpa using hbd) hsrc
          have hg : Grows w w' := ⟨r3.os, r3.tape, r3.output, r3.size, fun k hk => r3.block k hk (by simp [Value.ownBlock])⟩
          have hblk := blk_own r2
          simp only [Nat.zero_add, List.nil_append] at r2
          have go := Goes.fresh (s := .row te e ys false) (v := v') hI hg hid (by
              intro b hb
              rw [← hblk] at hb
              rcases r4 with h | ⟨h, _⟩
              · rw [h] at hb; simp [Value.ownBlock] at hb
              · rw [h] at hb; cases hb; exact Nat.le_refl _) (by intro T y ro e; cases e)
            (by
              intro t e xs ro e'
              cases e'
              exact ⟨ds, r2, RepL.mono (fun x c h => h.safe (hg.safe hI)) r5⟩) (rowOf (.cst (.slice none 0 0)))
          refine ⟨v', _, w', S, r1, go, ?_⟩
          simp only [RepA]
          refine ⟨_, by rw [get_set ⟨_, hid⟩, if_pos rfl], by simp, fun t e xs ro e' => ?_⟩
          exact (upd_same _ _ _).symm
        · cases hb
    · cases hb
  · cases hb
end
end Go.Proofs.YtmphlhnpichonaaDoor.K

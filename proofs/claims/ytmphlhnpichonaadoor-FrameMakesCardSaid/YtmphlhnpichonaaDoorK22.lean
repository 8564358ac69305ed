/- Regions that draw their order, continued: what an operation's answer hangs on. -/
import Derived.Test.YtmphlhnpichonaaDoorK21
set_option maxHeartbeats 400000
set_option linter.unusedVariables false
set_option linter.unusedSimpArgs false
namespace Go.Proofs.YtmphlhnpichonaaDoor.K
open Go Go.RowKit

section
variable {Ω : Type} {C : Cfg} {B : Nat} {w0 : World} {S0 : Nat → Nat → Prop} {spec : Spec}

mutual
theorem ids_mono {f g : Bool → Nat → Bool} (h : ∀ b i, f b i = true → g b i = true) : ∀ {a : AV}, a.ids f = true → a.ids g = true
  | .v .., _ | .cst _, _ | .vp .., _ | .dead, _ => by simp only [AV.ids]
  | .ref .., k | .ls .., k | .rref .., k | .rs _, k => by simp only [AV.ids] at k ⊢; exact h _ _ k
  | .fn _ l, k => by simp only [AV.ids] at k ⊢; exact idsL_mono h k
  | .tup l, k => by simp only [AV.ids] at k ⊢; exact idsL_mono h k
theorem idsL_mono {f g : Bool → Nat → Bool} (h : ∀ b i, f b i = true → g b i = true) : ∀ {l : List AV}, AV.idsL f l = true → AV.idsL g l = true
  | [], _ => by simp only [AV.idsL]
  | a :: l, k => by
    simp only [AV.idsL, Bool.and_eq_true] at k ⊢
    exact ⟨ids_mono h k.1, idsL_mono h k.2⟩
end

theorem idsL_get {f : Bool → Nat → Bool} : ∀ {l : List AV}, AV.idsL f l = true → ∀ (i : Nat) (a : AV), l[i]? = some a → a.ids f = true
  | [], _, i, a, h => by simp at h
  | b :: l, k, 0, a, h => by simp only [AV.idsL, Bool.and_eq_true] at k; simp at h; subst h; exact k.1
  | b :: l, k, i + 1, a, h => by simp only [AV.idsL, Bool.and_eq_true] at k; exact idsL_get k.2 i a (by simpa using h)

theorem idsL_map {f : Bool → Nat → Bool} {ρ : Operand → AV} : ∀ {l : List Operand}, (∀ x ∈ l, (ρ x).ids f = true) → AV.idsL f (l.map ρ) = true
  | [], _ => by simp only [List.map_nil, AV.idsL]
  | x :: l, h => by
    simp only [List.map_cons, AV.idsL, Bool.and_eq_true]
    exact ⟨h x (by simp), idsL_map fun y hy => h y (List.mem_cons_of_mem _ hy)⟩

/-- What an operation that reads gives leads nowhere but where its operands do. -/
theorem rop_ids {f : Bool → Nat → Bool} {ρ : Operand → AV} {L : Heap} {op : Op} {c : Bool} {av : AV} (h : ∀ x ∈ op.operands, (ρ x).ids f = true) (hr : rop C ρ L op = some (c, av)) (hf : ∀ i, f false i = true ↔ f true i = true) : av.ids f = true := by
  have vv : ∀ (τ : ETy) (x : τ.I), (AV.v τ x).ids f = true := fun _ _ => by simp only [AV.ids]
  have bf : ∀ (cb : Bool) {x y : AV}, x.ids f = true → y.ids f = true → (bif cb then x else y).ids f = true := by intro cb x y hx hy; cases cb <;> assumption
  unfold rop at hr
  split at hr
  · cases hr; exact h _ (by simp [Op.operands])
  · cases hr; exact h _ (by simp [Op.operands])
  · rename_i cc a b
    split at hr
    · cases hr
      have ha := h a (by simp [Op.operands])
      have hb := h b (by simp [Op.operands])
      unfold pickA
      split
      · exact vv _ _
      · split
        · exact vv _ _
        · exact bf _ (vv _ _) (vv _ _)
      · exact vv _ _
      · exact bf _ ha hb
    · cases hr
  · unfold binA at hr
    split at hr
    · split at hr
      · cases hr; exact vv _ _
      · cases hr; exact vv _ _
      · split at hr
        · unfold intOp at hr; split at hr <;> cases hr <;> exact vv _ _
        · cases hr
    · unfold eqOp at hr; split at hr
      · split at hr <;> cases hr <;> exact vv _ _
      · cases hr
    · unfold strOp at hr; split at hr <;> cases hr <;> exact vv _ _
    · simp only [Option.bind_eq_some_iff] at hr
      obtain ⟨_, _, hr⟩ := hr
      unfold eqOp at hr; split at hr
      · split at hr <;> cases hr <;> exact vv _ _
      · cases hr
    · simp only [Option.bind_eq_some_iff] at hr
      obtain ⟨_, _, hr⟩ := hr
      unfold eqOp at hr; split at hr
      · split at hr <;> cases hr <;> exact vv _ _
      · cases hr
    · cases hr
  · unfold unA at hr; split at hr
    · split at hr <;> cases hr <;> exact vv _ _
    · split at hr <;> cases hr <;> exact vv _ _
    · cases hr
  · unfold convA at hr; split at hr
    · split at hr <;> cases hr <;> exact vv _ _
    · split at hr <;> cases hr <;> exact vv _ _
    · cases hr
  · rename_i t i
    have ht := h t (by simp [Op.operands])
    unfold extractA at hr
    split at hr
    · rename_i l hl
      rw [hl] at ht
      simp only [AV.ids] at ht
      simp only [Option.map_eq_some_iff, Prod.mk.injEq] at hr
      obtain ⟨a, ha, _, rfl⟩ := hr
      exact idsL_get ht i a ha
    · cases hr
  · unfold fieldA at hr; split at hr
    · split at hr
      · simp only [Option.map_eq_some_iff, Prod.mk.injEq] at hr
        obtain ⟨a, ha, _, rfl⟩ := hr
        exact vv _ _
      · cases hr
    · cases hr
  · unfold indexA at hr; split at hr
    · split at hr <;> cases hr; exact vv _ _
    · split at hr <;> cases hr; exact vv _ _
    · cases hr
  · rename_i t x fd
    have hx := h x (by simp [Op.operands])
    unfold fieldAddrA at hr
    split at hr
    · simp only [Option.bind_eq_some_iff] at hr
      obtain ⟨_, _, hr⟩ := hr
      split at hr
      · simp only [Option.bind_eq_some_iff] at hr
        obtain ⟨_, _, hr⟩ := hr
        split at hr <;> cases hr; simp only [AV.ids]
      · cases hr
    · rename_i hp
      rw [hp] at hx
      split at hr
      · simp only [Option.bind_eq_some_iff] at hr
        obtain ⟨_, _, hr⟩ := hr
        split at hr
        · simp only [Option.bind_eq_some_iff] at hr
          obtain ⟨_, _, hr⟩ := hr
          split at hr <;> cases hr; simp only [AV.ids] at hx ⊢; exact hx
        · cases hr
      · cases hr
    · rename_i hp
      rw [hp] at hx
      split at hr
      · simp only [Option.bind_eq_some_iff] at hr
        obtain ⟨_, _, hr⟩ := hr
        split at hr
        · simp only [Option.bind_eq_some_iff] at hr
          obtain ⟨_, _, hr⟩ := hr
          split at hr <;> cases hr; simp only [AV.ids] at hx ⊢; exact hx
        · cases hr
      · cases hr
    · cases hr
  · rename_i t x i
    have hx := h x (by simp [Op.operands])
    unfold indexAddrA at hr
    split at hr
    · simp only [Option.bind_eq_some_iff] at hr
      obtain ⟨_, _, hr⟩ := hr
      split at hr <;> cases hr; simp only [AV.ids]
    · rename_i hp _
      rw [hp] at hx
      split at hr
      · simp only [Option.bind_eq_some_iff] at hr
        obtain ⟨_, _, hr⟩ := hr
        split at hr <;> cases hr; simp only [AV.ids] at hx ⊢; exact hx
      · cases hr
    · split at hr <;> cases hr; simp only [AV.ids]
    · rename_i hp _
      rw [hp] at hx
      split at hr
      · simp only [Option.bind_eq_some_iff] at hr
        obtain ⟨_, _, hr⟩ := hr
        split at hr <;> cases hr; simp only [AV.ids] at hx ⊢; exact hx
      · cases hr
    · rename_i hp _
      rw [hp] at hx
      split at hr
      · split at hr <;> cases hr; simp only [AV.ids] at hx ⊢; exact hx
      · cases hr
    · cases hr
  · unfold loadA at hr
    split at hr
    · simp only [Option.bind_eq_some_iff] at hr
      obtain ⟨_, _, hr⟩ := hr
      split at hr <;> cases hr; exact vv _ _
    · split at hr
      · simp only [Option.bind_eq_some_iff] at hr
        obtain ⟨_, _, hr⟩ := hr
        split at hr <;> cases hr; exact vv _ _
      · cases hr
    · split at hr
      · simp only [Option.bind_eq_some_iff] at hr
        obtain ⟨_, _, hr⟩ := hr
        split at hr <;> cases hr; exact vv _ _
      · cases hr
    · cases hr
  · rename_i t x lo hi
    have hx := h x (by simp [Op.operands])
    unfold sliceA at hr
    simp only [Option.bind_eq_some_iff] at hr
    obtain ⟨_, _, _, _, hr⟩ := hr
    split at hr
    · split at hr <;> cases hr; exact vv _ _
    · split at hr <;> cases hr; exact vv _ _
    · rename_i hp
      rw [hp] at hx
      split at hr
      · simp only [Option.bind_eq_some_iff] at hr
        obtain ⟨_, _, hr⟩ := hr
        split at hr <;> cases hr; simp only [AV.ids] at hx ⊢; exact hx
      · cases hr
    · rename_i hp
      rw [hp] at hx
      split at hr
      · simp only [Option.bind_eq_some_iff] at hr
        obtain ⟨_, _, hr⟩ := hr
        split at hr <;> cases hr; simp only [AV.ids] at hx ⊢; exact hx
      · cases hr
    · cases hr
  · rename_i x
    have hx := h x (by simp [Op.operands])
    unfold nilA at hr
    split at hr
    · rename_i hp; rw [hp] at hx; split at hr <;> cases hr; exact hx
    · rename_i hp; rw [hp] at hx; split at hr <;> cases hr; exact hx
    · cases hr; simp only [AV.ids]
    · cases hr
  · rename_i g first caps
    split at hr
    · cases hr
      simp only [AV.ids]
      exact idsL_map fun x hx => h x (by simp only [Op.operands]; rw [Array.mem_append]; right; rwa [← Array.mem_toList_iff])
    · cases hr
  · have key : ∀ (l : List AV) (a : AV), (∃ τ x, a = .v τ x) ∨ a.ids f = true → ∀ {c av}, maxA l a = some (c, av) → av.ids f = true := by
      intro l
      induction l with
      | nil => intro a ha c av hm; unfold maxA at hm; cases hm; rcases ha with ⟨τ, x, rfl⟩ | ha; exact vv _ _; exact ha
      | cons b l ih =>
        intro a ha c av hm
        unfold maxA at hm
        split at hm
        · rename_i e; cases e
        · rename_i e; cases e; exact ih _ (.inl ⟨_, _, rfl⟩) hm
        · cases hm
    have key2 : ∀ (l : List AV) (a : AV), (∃ τ x, a = .v τ x) ∨ a.ids f = true → ∀ {c av}, minA l a = some (c, av) → av.ids f = true := by
      intro l
      induction l with
      | nil => intro a ha c av hm; unfold minA at hm; cases hm; rcases ha with ⟨τ, x, rfl⟩ | ha; exact vv _ _; exact ha
      | cons b l ih =>
        intro a ha c av hm
        unfold minA at hm
        split at hm
        · rename_i e; cases e
        · rename_i e; cases e; exact ih _ (.inl ⟨_, _, rfl⟩) hm
        · cases hm
    rename_i b args ts
    have hargs : AV.idsL f (args.toList.map ρ) = true := idsL_map fun x hx => h x (by simp only [Op.operands, Call.operands]; rw [Array.mem_append]; right; rwa [← Array.mem_toList_iff])
    unfold builtinA at hr
    split at hr
    · split at hr
      · unfold lenA at hr
        split at hr
        · split at hr <;> cases hr; exact vv _ _
        · split at hr
          · cases hr; exact vv _ _
          · split at hr
            · simp only [Option.bind_eq_some_iff] at hr
              obtain ⟨_, _, hr⟩ := hr
              cases hr; exact vv _ _
            · cases hr
          · cases hr; exact vv _ _
          · split at hr <;> cases hr; exact vv _ _
          · cases hr
        · cases hr; exact vv _ _
        · cases hr
      · cases hr
    · unfold foldA at hr
      split at hr
      · rename_i a r e
        rw [e] at hargs
        simp only [AV.idsL, Bool.and_eq_true] at hargs
        exact key _ _ (.inr hargs.1) hr
      · cases hr
    · unfold foldA at hr
      split at hr
      · rename_i a r e
        rw [e] at hargs
        simp only [AV.idsL, Bool.and_eq_true] at hargs
        exact key2 _ _ (.inr hargs.1) hr
      · cases hr
    · cases hr
  · cases hr
end
end Go.Proofs.YtmphlhnpichonaaDoor.K

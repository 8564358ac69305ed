/- Regions of either kind: the evaluator is right. -/
import Derived.Test.YtmphlhnpichonaaDoorK25
set_option maxHeartbeats 400000
set_option linter.unusedVariables false
set_option linter.unusedSimpArgs false
namespace Go.Proofs.YtmphlhnpichonaaDoor.K
open Go Go.RowKit

section
variable {Ω : Type} {C : Cfg} {B : Nat} {w0 : World} {S0 : Nat → Nat → Prop} {spec : Spec}

theorem pairs_at {ops : Array Oper} {p : It} : ∀ {l : List It}, pairsOK ops p l = true → ∀ x ∈ l, (∃ e ∈ p.o.after, Region.binds .any e = true ∧ e.on = x.i) ∨ compat2 ops x p = true
  | [], h, x, hx => by cases hx
  | y :: l, h, x, hx => by
    simp only [pairsOK, Bool.and_eq_true, Bool.or_eq_true] at h
    rcases List.mem_cons.1 hx with rfl | hx
    · rcases h.1 with h | h
      · obtain ⟨e, he, h⟩ := List.any_eq_true.1 h
        simp only [Bool.and_eq_true, beq_iff_eq] at h
        exact .inl ⟨e, Array.mem_toList_iff.1 he, h.1, h.2⟩
      · exact .inr h
    · exact pairs_at h.2 x hx

theorem draw_at {ops : Array Oper} : ∀ {r before : List It}, drawOK ops before r = true → ∀ (k : Nat) (p : It), r[k]? = some p → pairsOK ops p (before ++ r.take k) = true ∧ ∀ e ∈ p.o.after, Region.binds .any e = true → e.on < p.i
  | [], before, _, k, p, h => by simp at h
  | q :: r, before, h, 0, p, hp => by
    simp only [drawOK, Bool.and_eq_true, List.all_eq_true, Bool.or_eq_true, Bool.not_eq_true', decide_eq_true_eq] at h
    simp at hp; subst hp
    refine ⟨by simpa using h.1.1, fun e he hb => ?_⟩
    have := h.1.2 e (Array.mem_toList_iff.2 he)
    rcases this with h | h
    · rw [hb] at h; cases h
    · exact h
  | q :: r, before, h, k + 1, p, hp => by
    simp only [drawOK, Bool.and_eq_true] at h
    obtain ⟨h1, h2⟩ := draw_at h.2 k p (by simpa using hp)
    exact ⟨by simpa using h1, h2⟩

theorem items_at : ∀ {l : List Oper} {fs : List Foot} {i id : Nat} {t : It}, t ∈ items l fs i id → i ≤ t.i ∧ l[t.i - i]? = some t.o ∧ id ≤ t.id ∧ (wantsId t.o.op = true → t.id < id + cntIds l)
  | [], fs, i, id, t, h => by simp [items] at h
  | o :: l, fs, i, id, t, h => by
    simp only [items, List.mem_cons] at h
    rcases h with rfl | h
    · refine ⟨Nat.le_refl _, by simp, Nat.le_refl _, fun hw => ?_⟩
      simp only [cntIds, hw, cond_true]; omega
    · obtain ⟨h1, h2, h3, h4⟩ := items_at h
      have hn : id ≤ nextId o id := by unfold nextId; cases wantsId o.op <;> simp
      refine ⟨by omega, ?_, by omega, fun hw => ?_⟩
      · rw [show t.i - i = (t.i - (i + 1)) + 1 by omega]; simpa using h2
      · have := h4 hw
        simp only [cntIds]
        unfold nextId at this
        cases hwo : wantsId o.op <;> simp only [hwo, cond_true, cond_false] at this ⊢ <;> omega

theorem items_sorted : ∀ (l : List Oper) (fs : List Foot) (i id : Nat), (items l fs i id).Pairwise fun s t => s.i < t.i ∧ (wantsId s.o.op = true → wantsId t.o.op = true → s.id ≠ t.id)
  | [], _, _, _ => by simp [items]
  | o :: l, fs, i, id => by
    rw [items, List.pairwise_cons]
    refine ⟨fun t ht => ?_, items_sorted l _ _ _⟩
    obtain ⟨h1, _, h3, _⟩ := items_at ht
    refine ⟨by simp only; omega, fun hw _ => ?_⟩
    simp only at hw ⊢
    unfold nextId at h3
    rw [hw] at h3
    simp only [cond_true] at h3
    omega

theorem items_all : ∀ (l : List Oper) (fs : List Foot) (i id k : Nat), k < l.length → ∃ t, (items l fs i id)[k]? = some t ∧ t.i = i + k
  | [], _, _, _, k, h => by simp at h
  | o :: l, fs, i, id, 0, _ => ⟨⟨i, o, id, fs.headD .none⟩, by simp [items], rfl⟩
  | o :: l, fs, i, id, k + 1, h => by
    obtain ⟨t, h1, h2⟩ := items_all l fs.tail (i + 1) (nextId o id) k (by simpa using h)
    exact ⟨t, by simpa [items] using h1, by omega⟩

theorem items_len : ∀ (l : List Oper) (fs : List Foot) (i id : Nat), (items l fs i id).length = l.length
  | [], _, _, _ => rfl
  | o :: l, fs, i, id => by simp [items, items_len l]

theorem items_ix {l : List Oper} {fs : List Foot} {id : Nat} {t : It} (h : t ∈ items l fs 0 id) : (items l fs 0 id)[t.i]? = some t := by
  obtain ⟨k, hk, e⟩ := List.getElem_of_mem h
  obtain ⟨s, h1, h2⟩ := items_all l fs 0 id k (by rw [items_len] at hk; exact hk)
  rw [List.getElem?_eq_getElem hk] at h1
  cases h1
  rw [e] at h2
  rw [h2, Nat.zero_add, List.getElem?_eq_getElem hk, e]

theorem edge_spec {ops : Array Oper} {j k : Nat} (h : edgeTo ops j k = true) : ∃ o, ops[k]? = some o ∧ ∃ e ∈ o.after, Region.binds .any e = true ∧ e.on = j := by
  unfold edgeTo at h
  split at h
  · rename_i o ho
    obtain ⟨e, he, h⟩ := List.any_eq_true.1 h
    simp only [Bool.and_eq_true, beq_iff_eq] at h
    exact ⟨o, ho, e, Array.mem_toList_iff.1 he, h.1, h.2⟩
  · cases h

theorem bar_ahead {ops : Array Oper} {p j : Nat} (h : isBar ops p = true) (hj : j < p) : ∃ k, j < k ∧ k ≤ p ∧ edgeTo ops j k = true := by
  unfold isBar at h
  simp only [Bool.and_eq_true, List.all_eq_true, List.any_eq_true, List.mem_range, decide_eq_true_eq] at h
  obtain ⟨k, hk, h1, h2⟩ := h.1 j hj
  exact ⟨k, h1, by omega, h2⟩
theorem bar_behind {ops : Array Oper} {p q : Nat} (h : isBar ops p = true) (hq : p < q) (hs : q < ops.size) : ∃ j, p ≤ j ∧ j < q ∧ edgeTo ops j q = true := by
  unfold isBar at h
  simp only [Bool.and_eq_true, List.all_eq_true, List.any_eq_true, List.mem_range, decide_eq_true_eq, Bool.or_eq_true] at h
  rcases h.2 q hs with h1 | ⟨j, hj, h1, h2⟩
  · omega
  · exact ⟨j, h1, hj, h2⟩

/-- What is left: whoever waits for one that is left is left. -/
def Left (ops : Array Oper) (rem : List It) : Prop := ∀ x ∈ rem, ∀ k, k < ops.size → edgeTo ops x.i k = true → ∃ t ∈ rem, t.i = k

theorem left_all {ops : Array Oper} (fs : List Foot) (id : Nat) : Left ops (items ops.toList fs 0 id) := fun x hx k hk _ => by
  obtain ⟨t, ht, e⟩ := items_all ops.toList fs 0 id k (by simpa using hk)
  exact ⟨t, List.mem_of_getElem? ht, by omega⟩

theorem run_wpAny (hC : C.OK) {ops : Array Oper} {id0 : Nat} {fs : List Foot} (hd : drawOK ops [] (items ops.toList fs 0 id0) = true) {env' : List AV} {L' : Heap} {Q : Exit → Act → World → Prop} (hQ : ∀ a' w', St C B w0 S0 env' L' a' w' → Q .normal a' w') : ∀ (n : Nat) (rem : List It) (listed : Array Bool) {env : List AV} {L : Heap} {a : Act} {w : World},
    rem.length = n → (∀ t ∈ rem, t ∈ items ops.toList fs 0 id0) → (rem.Pairwise fun s t => s.i < t.i) → listed.size = ops.size → (∀ i, i < ops.size → (listed.getD i true = false ↔ ∃ t ∈ rem, t.i = i)) →
    Left ops rem → RunD C ops rem env L env' L' → Rsv L rem → St C B w0 S0 env L a w → wpAny C.P .any ops Q n listed a w := by
  intro n
  have hat : ∀ {t : It}, t ∈ items ops.toList fs 0 id0 → ops[t.i]? = some t.o ∧ t.i < ops.size := by
    intro t ht
    obtain ⟨_, h, _⟩ := items_at ht
    simp only [Nat.sub_zero, Array.getElem?_toList] at h
    exact ⟨h, (Array.getElem?_eq_some_iff.1 h).1⟩
  have hempty : ∀ (rem : List It) (listed : Array Bool), (∀ t ∈ rem, t ∈ items ops.toList fs 0 id0) → (rem.Pairwise fun s t => s.i < t.i) → listed.size = ops.size → (∀ i, i < ops.size → (listed.getD i true = false ↔ ∃ t ∈ rem, t.i = i)) → Region.ready .any ops listed = [] → rem = [] := by
    intro rem listed hin hs hsz hl hr
    cases rem with
    | nil => rfl
    | cons t r =>
      exfalso
      obtain ⟨ho, hlt⟩ := hat (hin t (by simp))
      have hmem : t.i ∈ Region.ready .any ops listed := by
        rw [mem_ready]
        refine ⟨(hl t.i hlt).2 ⟨t, by simp, rfl⟩, t.o, ho, fun e he hb => ?_⟩
        have hlt2 := (draw_at hd t.i t (items_ix (hin t (by simp)))).2 e he hb
        have helt : e.on < ops.size := by omega
        cases hle : listed.getD e.on true with
        | false =>
          obtain ⟨t', ht', hti⟩ := (hl e.on helt).1 hle
          rcases List.mem_cons.1 ht' with rfl | ht'
          · omega
          · have := (List.pairwise_cons.1 hs).1 t' ht'
            omega
        | true =>
          have : e.on < listed.size := by omega
          simp only [Array.getD, this, dif_pos] at hle ⊢
          exact hle
      rw [hr] at hmem
      cases hmem
  induction n with
  | zero =>
    intro rem listed env L a w hn hin hs hsz hl hleft hrun hrs hst
    obtain rfl : rem = [] := List.eq_nil_of_length_eq_zero hn
    obtain ⟨rfl, rfl⟩ := hrun
    refine ⟨?_, hQ a w hst⟩
    cases hr : Region.ready .any ops listed with
    | nil => rfl
    | cons i l =>
      have hi : i ∈ Region.ready .any ops listed := by rw [hr]; simp
      rw [mem_ready] at hi
      obtain ⟨h1, o, h2, _⟩ := hi
      obtain ⟨t, ht, _⟩ := (hl i (Array.getElem?_eq_some_iff.1 h2).1).1 h1
      cases ht
  | succ n ih =>
    intro rem listed env L a w hn hin hs hsz hl hleft hrun hrs hst
    refine ⟨fun hr => ?_, fun i hi => ?_⟩
    · obtain rfl := hempty rem listed hin hs hsz hl hr
      simp at hn
    · rw [mem_ready] at hi
      obtain ⟨h1, o, h2, h3⟩ := hi
      have hlt := (Array.getElem?_eq_some_iff.1 h2).1
      obtain ⟨t, ht, rfl⟩ := (hl i hlt).1 h1
      have hto := (hat (hin t ht)).1
      rw [h2] at hto; cases hto
      obtain ⟨pre, post, rfl⟩ := List.append_of_mem ht
      have hcomp : ∀ x ∈ pre, compat2 ops x t = true := by
        intro x hx
        have hxi := hin x (by simp [hx])
        obtain ⟨hxo, hxlt⟩ := hat hxi
        have hlt2 : x.i < t.i := by
          rw [List.pairwise_append] at hs
          exact hs.2.2 x hx t (by simp)
        have hp := (draw_at hd t.i t (items_ix (hin t (by simp)))).1
        rw [List.nil_append] at hp
        have hxl : x ∈ (items ops.toList fs 0 id0).take t.i := by
          refine List.mem_of_getElem? (i := x.i) ?_
          rw [List.getElem?_take, if_pos hlt2]
          exact items_ix hxi
        rcases pairs_at hp x hxl with ⟨e, he, hb, hon⟩ | h
        · exfalso
          have hl1 := h3 e he hb
          have hl2 := (hl x.i hxlt).2 ⟨x, by simp [hx], rfl⟩
          rw [hon] at hl1
          have : x.i < listed.size := by omega
          simp only [Array.getD, this, dif_pos] at hl1 hl2
          rw [hl1] at hl2; cases hl2
        · exact h
      obtain ⟨m, S, hI, hE, hst2⟩ := hst
      have hcl := hE.closed
      have hst : St C B w0 S0 env L a w := ⟨m, S, hI, hE, hst2⟩
      have hnoe : ∀ x ∈ pre ++ t :: post, edgeTo ops x.i t.i = true → False := by
        intro x hx he
        obtain ⟨o', ho', e, he1, he2, he3⟩ := edge_spec he
        rw [h2] at ho'; cases ho'
        have hl1 := h3 e he1 he2
        have hxlt := (hat (hin x hx)).2
        have hl2 := (hl x.i hxlt).2 ⟨x, hx, rfl⟩
        rw [he3] at hl1
        have : x.i < listed.size := by omega
        simp only [Array.getD, this, dif_pos] at hl1 hl2
        rw [hl1] at hl2; cases hl2
      have hone : ∃ env1 L1, StepRel C ops t.o t.id env L env1 L1 ∧ RunD C ops (pre ++ post) env1 L1 env' L' := by
        cases hpre : pre with
        | nil =>
          rw [hpre] at hrun
          rcases hrun with ⟨av, L1, _, q1, q2⟩ | ⟨_, env1, L1, q1, q2⟩
          · exact ⟨_, L1, q1.rel, q2⟩
          · exact ⟨env1, L1, q1, q2⟩
        | cons y0 pre0 =>
          rw [← hpre]
          have hy0 : y0 ∈ pre := by rw [hpre]; simp
          have hlt0 : ∀ x ∈ pre, x.i < t.i := by
            intro x hx
            rw [List.pairwise_append] at hs
            exact hs.2.2 x hx t (by simp)
          have hbt : isBar ops t.i = false := by
            cases hb : isBar ops t.i with
            | false => rfl
            | true =>
              exfalso
              have key : ∀ n, ∀ x ∈ pre ++ t :: post, x.i < t.i → t.i - x.i ≤ n → False := by
                intro n
                induction n with
                | zero => intro x hx h1 h2; omega
                | succ n ihn =>
                  intro x hx h1 h2'
                  obtain ⟨k, k1, k2, k3⟩ := bar_ahead hb h1
                  rcases Nat.lt_or_ge k t.i with hk | hk
                  · obtain ⟨z, hz, rfl⟩ := hleft x hx k (by omega) k3
                    exact ihn z hz hk (by omega)
                  · obtain rfl : k = t.i := by omega
                    exact hnoe x hx k3
              exact key _ y0 (by simp [hy0]) (hlt0 y0 hy0) (Nat.le_refl _)
          have hbp : ∀ x ∈ pre, isBar ops x.i = false := by
            intro x hx
            cases hb : isBar ops x.i with
            | false => rfl
            | true =>
              exfalso
              have key : ∀ n q, q ≤ n → x.i ≤ q → q < ops.size → ∃ z ∈ pre ++ t :: post, z.i = q := by
                intro n
                induction n with
                | zero =>
                  intro q h1 h2' h3'
                  exact ⟨x, by simp [hx], by omega⟩
                | succ n ihn =>
                  intro q h1 h2' h3'
                  rcases Nat.lt_or_ge x.i q with hq | hq
                  · obtain ⟨j, j1, j2, j3⟩ := bar_behind hb hq h3'
                    obtain ⟨z, hz, rfl⟩ := ihn j (by omega) j1 (by omega)
                    exact hleft z hz q h3' j3
                  · exact ⟨x, by simp [hx], by omega⟩
              obtain ⟨j, j1, j2, j3⟩ := bar_behind hb (hlt0 x hx) hlt
              obtain ⟨z, hz, rfl⟩ := key j j (Nat.le_refl _) j1 (by omega)
              exact hnoe z hz j3
          rcases moveFront hbt hcomp hbp hcl hrs hrun with ⟨av, L1, _, q1, q2⟩ | ⟨hb, _⟩
          · exact ⟨_, L1, q1.rel, q2⟩
          · rw [hbt] at hb; cases hb
      obtain ⟨env1, L1, q1, q2⟩ := hone
      have hrs2 : Rsv L1 (pre ++ post) := by
        obtain ⟨r1, r2⟩ := hrs
        have r2' : (t :: (pre ++ post)).Pairwise fun s t => wantsId s.o.op = true → wantsId t.o.op = true → s.id ≠ t.id := by
          have hperm : (pre ++ t :: post).Perm (t :: (pre ++ post)) := List.perm_middle
          exact (hperm.pairwise_iff (fun h hw1 hw2 => Ne.symm (h hw2 hw1))).1 r2
        rw [List.pairwise_cons] at r2'
        refine ⟨fun s hs' hw => ?_, r2'.2⟩
        exact q1.keeps (fun hwt => Ne.symm (r2'.1 s hs' hwt hw)) (r1 s (by rcases List.mem_append.1 hs' with h | h <;> simp [h]) hw)
      have hsub : (pre ++ post).Sublist (pre ++ t :: post) := List.Sublist.append (List.Sublist.refl pre) (List.sublist_cons_self t post)
      have hleft2 : Left ops (pre ++ post) := by
        intro x hx k hk he
        obtain ⟨z, hz, rfl⟩ := hleft x (hsub.subset hx) k hk he
        rcases List.mem_append.1 hz with h | h
        · exact ⟨z, by simp [h], rfl⟩
        · rcases List.mem_cons.1 h with rfl | h
          · exact (hnoe x (hsub.subset hx) he).elim
          · exact ⟨z, by simp [h], rfl⟩
      have hnext : ∀ a' w', St C B w0 S0 env1 L1 a' w' → wpAny C.P .any ops Q n (listed.setIfInBounds t.i true) a' w' := by
        intro a' w' hst'
        refine ih (pre ++ post) _ (by simp at hn ⊢; omega) (fun s hs' => hin s (hsub.subset hs')) (hs.sublist hsub) (by simpa using hsz) (fun i hi => ?_) hleft2 q2 hrs2 hst'
        by_cases hit : t.i = i
        · subst hit
          have e1 : (listed.setIfInBounds t.i true).getD t.i true = true := by
            have : t.i < listed.size := by omega
            simp [Array.getD, this]
          rw [e1]
          simp only [Bool.true_eq_false, false_iff]
          rintro ⟨s, hs', hsi⟩
          rw [List.pairwise_append] at hs
          rcases List.mem_append.1 hs' with h | h
          · have := hs.2.2 s h t (by simp); omega
          · have := (List.pairwise_cons.1 hs.2.1).1 s h; omega
        · rw [getD_set_ne true hit, hl i hi]
          constructor
          · rintro ⟨s, hs', hsi⟩
            rcases List.mem_append.1 hs' with h | h
            · exact ⟨s, by simp [h], hsi⟩
            · rcases List.mem_cons.1 h with rfl | h
              · exact absurd hsi hit
              · exact ⟨s, by simp [h], hsi⟩
          · rintro ⟨s, hs', hsi⟩
            exact ⟨s, hsub.subset hs', hsi⟩
      have hw := step_wp (ops := ops) (Q := Q) hC (hrs.1 t (by simp)) q1 hst hnext
      unfold wpOp
      rw [h2]
      simp only
      split
      · rename_i hwant; rw [if_pos hwant] at hw; exact .inl hw
      · rename_i hwant; rw [if_neg hwant] at hw; exact hw

end
end Go.Proofs.YtmphlhnpichonaaDoor.K

/- Writes and appends: that the model's own do as is said. -/
import Derived.Test.YtmphlhnpichonaaDoorK14
set_option maxHeartbeats 400000
set_option linter.unusedVariables false
set_option linter.unusedSimpArgs false
namespace Go.Proofs.YtmphlhnpichonaaDoor.K
open Go Go.RowKit

def rowMax : Nat := 2147483648

def appendA (C : Cfg) (L : Heap) (id : Nat) (t : TypeId) (s x : AV) : A3 :=
  match C.Ty t, elId C t with
  | some (.slice e), some te =>
    if decide (C.Ty te = some e) && !(e.size == 0) then
      (liftA L (.slice e) x).bind fun ys =>
        match s with
        | .rs i => match L[i]? with
          | some (.row te' e' xs ro) => if te' = te then (castI (.slice e) (.slice e') ys).map fun ys => (decide (List.length xs + List.length ys ≤ rowMax), .rs i, L.set i (.row te' e' (xs ++ ys) ro)) else none
          | _ => none
        | .cst (.slice none 0 0) => some (decide (List.length ys ≤ rowMax), .rs id, L.set id (.row te e ys false))
        | _ => none
    else none
  | _, _ => none

section
variable {C : Cfg} {B : Nat} {m : Nat → Value} {L : Heap} {w w' : World} {S S' : Nat → Nat → Prop}

theorem does_store (hC : C.OK) (hI : Inv B m L w S) {t : TypeId} {p a : AV} {up ua : Value} (hp : RepA m L w S p up) (ha : RepA m L w S a ua) {av : AV} {L' : Heap} (hb : storeA C L t p a = some (true, av, L')) :
    ∃ m' w' S', (Instr.storeAt t up ua).run C.P w = .ok () w' ∧ Goes B (fun _ => false) m L w S m' L' w' S' ∧ av = .dead := by
  unfold storeA at hb
  cases hτ : C.Ty t with
  | none => rw [hτ] at hb; cases hb
  | some τ =>
    rw [hτ] at hb
    simp only [Option.bind_some] at hb
    obtain ⟨S1, g1, _, k1⟩ := markL_goes (m := m) (w := w) (fun _ => false) [a] hI
    have ha1 := goes_noX (fun _ => rfl) g1 ha
    have hp1 := goes_noX (fun _ => rfl) g1 hp
    cases hl : liftA (markL L [a]) τ a with
    | none => rw [hl] at hb; cases hb
    | some y =>
      rw [hl] at hb
      simp only [Option.bind_some] at hb
      have hr := lift_rep g1.inv ha1 (k1 a (by simp)) hl
      obtain ⟨ms, hm, rfl⟩ := hr
      have hml := hm.length
      split at hb
      · rename_i id q
        split at hb
        · rename_i T x hL
          cases hset : setP T x q ⟨τ, y⟩ with
          | none => rw [hset] at hb; cases hb
          | some x' =>
            rw [hset] at hb
            simp only [Option.map_some, Option.some.injEq, Prod.mk.injEq, true_and] at hb
            obtain ⟨rfl, rfl⟩ := hb
            simp only [RepA] at hp1
            obtain ⟨s, h1, h2, h3⟩ := hp1
            rw [hL] at h1; cases h1
            obtain ⟨h0, b, hmid, rfl⟩ := h3 T x false rfl
            obtain ⟨b', cs, el, fr, hm', hB, hb, hfr, hr⟩ := g1.inv.box id T x false hL
            rw [hmid] at hm'; cases hm'
            have hgp : ∃ d, getP T x q = some d := getP_of_set hset
            obtain ⟨d, hd⟩ := hgp
            obtain ⟨pre, mid, post, rfl, e2, e3, e4⟩ := getP_rep h0 hr hd
            obtain ⟨f1, f2⟩ := e4 ⟨τ, y⟩ x' ms hm hset
            have f1 : τ = d.τ := f1
            have hmidl := e3.length
            rw [← f1] at hmidl
            obtain ⟨w2, r1, r2⟩ := run_storeVar' (hC.ty _ _ hτ) (P := C.P) hb hfr hm hmidl
            rw [e2] at r1
            refine ⟨m, w2, S1, by simp only [Instr.storeAt, Instr.sureAddr, Sem.run_bind, Sem.run_pure, Result.andThen_ok]; exact r1, g1.trans ?_, rfl⟩
            have hsz := f2.length
            refine Goes.wrote (s' := .box T x' false) g1.inv hL rfl rfl (by rw [hmid]; rfl) r2 ⟨rfl, rfl⟩ ?_ (by intro t e xs ro e; cases e) _
            intro T' x'' ro' e
            cases e
            refine ⟨⟨x, rfl⟩, fun o ho => hfr o ?_, f2⟩
            simp only [List.length_append] at ho ⊢
            omega
        · cases hb
      · rename_i id i q
        split at hb
        · rename_i te e xs hL
          cases hset : setP e (xs.getD i e.z) q ⟨τ, y⟩ with
          | none => rw [hset] at hb; cases hb
          | some x' =>
            rw [hset] at hb
            simp only [Option.map_some, Option.some.injEq, Prod.mk.injEq, true_and] at hb
            obtain ⟨rfl, rfl⟩ := hb
            simp only [RepA] at hp1
            obtain ⟨s, h1, h2, h3⟩ := hp1
            rw [hL] at h1; cases h1
            obtain ⟨hi, h0, b, n, c, hmid, rfl⟩ := h3 te e xs false rfl
            obtain ⟨cs, ho, hr⟩ := g1.inv.row id te e xs false hL
            obtain ⟨d, hd⟩ := getP_of_set hset
            obtain ⟨pre, mid, post, rfl, e2, e3, e4⟩ := RepL.at_ (s := e.size) (fun x c h => RepC.length h) e.z i hr hi
            obtain ⟨pre', mid', post', rfl, e2', e3', e4'⟩ := getP_rep h0 e3 hd
            obtain ⟨f1, f2⟩ := e4' ⟨τ, y⟩ x' ms hm hset
            have f3 := e4 x' _ f2
            have f1 : τ = d.τ := f1
            have hmidl := e3'.length
            rw [← f1] at hmidl
            rcases ho.2 with ⟨hv, hn⟩ | ⟨g, cap, cur, hv, hg, hh, hle, hmx, hcs, htk⟩
            · omega
            · rw [hmid] at hv
              cases hv
              have hcur : cur = ((pre ++ pre') ++ mid' ++ (post' ++ post ++ cur.toList.drop (xs.length * e.size))).toArray := by
                apply Array.ext'
                have : cur.toList = cur.toList.take (xs.length * e.size) ++ cur.toList.drop (xs.length * e.size) := (List.take_append_drop _ _).symm
                refine this.trans ?_
                rw [htk]
                simp
              rw [hcur] at hh
              obtain ⟨w2, r1, r2⟩ := run_storeVar' (hC.ty _ _ hτ) (P := C.P) hh (by intro o _; simp) hm hmidl
              rw [List.length_append, e2, e2'] at r1
              refine ⟨m, w2, S1, by simp only [Instr.storeAt, Instr.sureAddr, Sem.run_bind, Sem.run_pure, Result.andThen_ok]; exact r1, g1.trans ?_, rfl⟩
              refine Goes.wrote (s' := .row te e (xs.set i x') false) g1.inv hL rfl rfl (by rw [hmid]; rfl) r2 ⟨rfl, by simp [Slot.cells]⟩ (by intro T x ro e; cases e) ?_ _
              intro t' e' xs' ro' e
              cases e
              refine ⟨⟨xs, rfl, by simp⟩, pre ++ (pre' ++ ms ++ post') ++ post, ⟨?_, .inr ⟨b, c, _, ?_, hg, r2.here, ?_, hmx, ?_, ?_⟩⟩, f3⟩
              · have := RepL.length (fun x c h => RepC.length h) f3
                exact this
              · rw [hmid]; simp
              · simpa using hle
              · have hs := congrArg Array.size hcur
                simp only [List.size_toArray, List.length_append] at hs
                rw [← hcs, hs]
                simp only [List.size_toArray, List.length_append]
                omega
              · have hl3 := RepL.length (fun x c h => RepC.length h) f3
                rw [← hl3]
                simp only [List.append_assoc]
                rw [show pre ++ (pre' ++ (ms ++ (post' ++ (post ++ List.drop (xs.length * e.size) cur.toList)))) = (pre ++ (pre' ++ (ms ++ (post' ++ post)))) ++ List.drop (xs.length * e.size) cur.toList by simp]
                exact List.take_left' rfl
        · cases hb
      · cases hb

/-- What a slice's value is, seen from its datum: where its elements lie. -/
theorem src_rep' (hI : Inv B m L w S) {τ : ETy} {y : τ.I} {a : AV} {u : Value} (hx : RepA m L w S a u) (hl : liftA L τ a = some y) : ∀ (e : ETy) (he : τ = .slice e) (ys : List e.I), castI τ (.slice e) y = some ys →
    ∃ A c, u = .slice A ys.length c ∧ (ys = [] ∨ ∃ b o ds, A = some ⟨b, o, none⟩ ∧ RepL (RepC w S e) ys ds ∧ ∀ j (h : j < ds.length), w.cell? ⟨b, o + j, none⟩ = some ds[j]) := by
  unfold liftA at hl
  split at hl
  · obtain ⟨e1, rfl⟩ := castI_eq hl
    subst e1
    intro e he ys hys
    subst he
    obtain ⟨_, rfl⟩ := castI_eq hys
    rw [rep_v] at hx
    obtain ⟨cs, hr, rfl⟩ := hx
    obtain ⟨A, cap, rfl, hcap, hr⟩ := hr
    refine ⟨A, cap, rfl, hr.imp (fun h => h) ?_⟩
    rintro ⟨b, o, ds, rfl, h1, h2⟩
    exact ⟨b, o, ds, rfl, h1, fun j hj => (h2 j hj).1⟩
  · simp only [RepA] at hx
    subst hx
    split at hl
    · cases hl
      intro e he ys hys
      cases he
      obtain ⟨_, rfl⟩ := castI_eq hys
      exact ⟨none, 0, rfl, .inl rfl⟩
    · cases hl
  · rename_i id
    split at hl
    · rename_i t e' xs ro hL
      obtain ⟨e1, rfl⟩ := castI_eq hl
      subst e1
      intro e he ys hys
      cases he
      obtain ⟨_, rfl⟩ := castI_eq hys
      simp only [RepA] at hx
      obtain ⟨s, h1, h2, h3⟩ := hx
      rw [hL] at h1; cases h1
      obtain rfl := h3 t _ _ ro rfl
      obtain ⟨cs, ho, hr⟩ := hI.row id t _ _ ro hL
      rcases ho.2 with ⟨hv, hn⟩ | ⟨g, cap, cur, hv, hg, hh, hle, _⟩
      · refine ⟨none, 0, ?_, .inl (List.eq_nil_of_length_eq_zero hn)⟩
        rw [hv]; exact congrArg (fun k => Value.slice none k 0) hn.symm
      · exact ⟨some ⟨g, 0, none⟩, cap, by rw [hv], .inr ⟨g, 0, cs, rfl, hr, row_cells ho hv⟩⟩
    · cases hl
  · rename_i id p lo n
    split at hl
    · rename_i T z ro hL
      cases hg : getP T z p with
      | none => rw [hg] at hl; cases hl
      | some d =>
        rw [hg] at hl
        simp only [Option.bind_some] at hl
        split at hl
        · rename_i N e' xs
          obtain ⟨e1, rfl⟩ := castI_eq hl
          subst e1
          intro e he ys hys
          cases he
          obtain ⟨_, rfl⟩ := castI_eq hys
          simp only [RepA] at hx
          obtain ⟨s, h1, h2, h3⟩ := hx
          rw [hL] at h1; cases h1
          obtain ⟨h0, hn, b, A, cap, hcap, hm, rfl, hA⟩ := h3 T z ro rfl N _ (getP_ty hg)
          obtain ⟨b', cs, el, fr, hm', hB, hb, hfr, hr⟩ := hI.box id T z ro hL
          rw [hm] at hm'; cases hm'
          obtain ⟨pre, mid, post, rfl, e2, e3, _⟩ := getP_rep h0 hr hg
          obtain ⟨hxl, hxr⟩ := e3
          have hxl : List.length xs = N := hxl
          have hlen : ((List.drop lo xs).take n).length = n := by simp; omega
          refine ⟨A, cap, congrArg (fun k => Value.slice A k cap) hlen.symm, ?_⟩
          rcases hA with rfl | rfl
          · left; exact List.take_zero
          · right
            have t1 := (RepL.take (s := e'.size) (fun x c h => RepC.length h) lo hxr).2
            have t2 := (RepL.take (s := e'.size) (fun x c h => RepC.length h) n t1).1
            refine ⟨_, _, _, rfl, t2, fun j hj => ?_⟩
            simp only [List.length_take, List.length_drop] at hj
            have hcell := cellsAt_mid (cellsAt_block hb) (lo * e'.size + j) (by omega)
            rw [Nat.zero_add, e2] at hcell
            rw [Nat.add_assoc]
            simpa using hcell
        · cases hl
    · cases hl
  · obtain ⟨e1, rfl⟩ := castI_eq hl
    subst e1
    intro e he
    cases he
  · cases hl

theorem src_rep (hI : Inv B m L w S) {e : ETy} {ys : List e.I} {a : AV} {u : Value} (hx : RepA m L w S a u) (hl : liftA L (.slice e) a = some ys) :
    ∃ A c, u = .slice A ys.length c ∧ (ys = [] ∨ ∃ b o ds, A = some ⟨b, o, none⟩ ∧ RepL (RepC w S e) ys ds ∧ ∀ j (h : j < ds.length), w.cell? ⟨b, o + j, none⟩ = some ds[j]) :=
  src_rep' hI hx hl e rfl ys (by simp [castI])

theorem run_append_nothing {t te ty : TypeId} {v : Value} {n c sz : Nat} {cs : List Value} {inf : TypeInfo} (hu : C.P.underlying t = some (.slice te)) (hinf : C.P.info? te = some inf) (ho : w.ownsRow B te sz v n cs) :
    (Builtin.append_ #[t, t] ty #[v, .slice none 0 c]).run C.P w = .ok v w := by
  rcases ho.2 with ⟨rfl, rfl⟩ | ⟨g, cap, cur, rfl, hb, hg, hnc, _⟩
  · simp [Builtin.append_, run_underlying hu, sizeOf, typeInfo, hinf, Builtin.lenOf, Builtin.firstCells]
  · simp [Builtin.append_, run_underlying hu, sizeOf, typeInfo, hinf, Builtin.lenOf, Builtin.firstCells, hnc, storeCells]

/-- Onto a row of the call's own: what the model's append leaves. -/
theorem run_append_row (hC : C.OK) (hI : Inv B m L w S) {t te ty : TypeId} {e : ETy} {v : Value} {n c : Nat} {cs : List Value} {ys : List e.I} {A : Option Addr} (hu : C.P.underlying t = some (.slice te)) (hty : C.Ty t = some (.slice e)) (hte : C.Ty te = some e) (hz : e.size ≠ 0)
    (ho : w.ownsRow B te e.size v n cs) (hbound : n + ys.length ≤ rowMax) (hsrc : ys = [] ∨ ∃ b o ds, A = some ⟨b, o, none⟩ ∧ RepL (RepC w S e) ys ds ∧ ∀ j (h : j < ds.length), w.cell? ⟨b, o + j, none⟩ = some ds[j]) :
    ∃ v' w' ds, (Builtin.append_ #[t, t] ty #[v, .slice A ys.length c]).run C.P w = .ok v' w' ∧ w'.ownsRow B te e.size v' (n + ys.length) (cs ++ ds) ∧ w.grownBy w' v.ownBlock ∧ (v'.ownBlock = v.ownBlock ∨ (v'.ownBlock = some w.heap.size ∧ ∀ k, k < w.heap.size → w'.heap[k]? = w.heap[k]?)) ∧ RepL (RepC w S e) ys ds := by
  obtain ⟨te', inf, hu', hinf, hsz, hby, _⟩ := und_slice (hC.ty _ _ hty)
  rw [hu] at hu'; cases hu'
  obtain ⟨inf', hinf', _, hzero⟩ := (hC.ty _ _ hte).size
  rw [hinf] at hinf'; cases hinf'
  have hzc : (valOf e (zc e)).cells.size = e.size := by rw [cells_valOf (repC_zero (w := w) (S := S) e)]; simpa using zc_length e
  unfold rowMax at hbound
  cases A with
  | none =>
    have hys : ys = [] := by
      rcases hsrc with h | ⟨_, _, _, h, _⟩
      · exact h
      · cases h
    subst hys
    refine ⟨v, w, [], run_append_nothing hu hinf ho, by simpa using ho, ⟨rfl, rfl, rfl, Nat.le_refl _, fun _ _ _ => rfl⟩, .inl rfl, rfl⟩
  | some ad =>
    obtain ⟨ds, h1, h2⟩ : ∃ ds, RepL (RepC w S e) ys ds ∧ ∀ j u, ds[j]? = some u → w.cell? (ad.add j) = some u := by
      rcases hsrc with rfl | ⟨b, o, ds, h, h1, h2⟩
      · exact ⟨[], rfl, fun j u h => by simp at h⟩
      · cases h
        refine ⟨ds, h1, fun j u hj => ?_⟩
        obtain ⟨hlt, rfl⟩ := List.getElem?_eq_some_iff.1 hj
        rw [add_at]; exact h2 j hlt
    have hl := RepL.length (fun x c h => RepC.length h) h1
    have hby2 : (n + ys.length) * inf.bytes ≤ 140737488355328 := by
      calc (n + ys.length) * inf.bytes ≤ 2147483648 * 65536 := Nat.mul_le_mul hbound hby
        _ = 140737488355328 := rfl
    obtain ⟨v', w', r1, r2, r3, _, r5⟩ := run_append_own_at (P := C.P) w B t ty te inf _ e.size inf.bytes hu hinf hzero hsz rfl hzc (by omega) v n cs ho ad ys.length c ds hl h2 (RepL.one (fun x c h => RepC.one h) h1)
      (by simp only [maxLen]; omega) hby2 hI.base
    refine ⟨v', w', ds, r1, r2, r3, ?_, h1⟩
    rcases r5 with r5 | r5
    · exact .inl r5
    · right
      refine ⟨r5, ?_⟩
      rcases ho.2 with ⟨rfl, rfl⟩ | ⟨g, cap, cur, rfl, hbg, hg, hnc, hcm, hcs, htake⟩
      · intro k hk
        exact r3.block k hk (by simp [Value.ownBlock])
      · by_cases hroom : n + ys.length ≤ cap
        · exfalso
          have hr := run_append_room (P := C.P) w t ty te inf hu hinf g n cap cur hg ad ys.length c ds (by rw [hsz]; exact hl) h2 (RepL.one (fun x c h => RepC.one h) h1) hroom
            (by rw [hl, hcs, hsz, ← Nat.add_mul]; exact Nat.mul_le_mul_right _ hroom)
          rw [r1] at hr
          injection hr with hv hw
          rw [hv] at r5
          simp only [Value.ownBlock, Option.some.injEq] at r5
          have := (Array.getElem?_eq_some_iff.1 hg).1
          omega
        · have holds : ∀ j u, cs[j]? = some u → w.cell? ((⟨g, 0, none⟩ : Addr).add j) = some u := ho.cells (g := g) rfl
          have hr := run_append_grow (P := C.P) w t ty te inf _ hu hinf hzero ⟨g, 0, none⟩ n cap cs (by rw [hsz]; exact ho.1) holds ad ys.length c ds (by rw [hsz]; exact hl) h2 (by omega) (by simp only [maxLen] at hcm; omega) (growslice_fits (by omega) hby2)
          rw [r1] at hr
          injection hr with hv hw
          intro k hk
          rw [hw]
          exact Below.heap_alloc w.drew _ k hk
end
end Go.Proofs.YtmphlhnpichonaaDoor.K

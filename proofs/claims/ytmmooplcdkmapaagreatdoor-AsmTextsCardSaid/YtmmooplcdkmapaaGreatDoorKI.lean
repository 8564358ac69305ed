/- strings.Builder: an object of the call's own: what is written to it, and what it holds. -/
import Derived.Test.YtmmooplcdkmapaaGreatDoorKH
import Derived.Shelf.Strings.Builder1
import Derived.Maps.AppendAt
set_option maxHeartbeats 400000
set_option linter.unusedVariables false
set_option linter.unusedSimpArgs false
namespace Go.Proofs.YtmmooplcdkmapaaGreatDoor.K
open Go Go.RowKit

section
variable {B : Nat} {m : Nat → Value} {L : Heap} {w w' : World} {S S' : Nat → Nat → Prop}

/-- What a turn of an object's own blocks leaves. -/
structure Turned (bs : List Nat) (w w' : World) : Prop where
  os : w'.os = w.os
  tape : w'.tape = w.tape
  output : w'.output = w.output
  size : w.heap.size ≤ w'.heap.size
  block : ∀ k, k < w.heap.size → k ∉ bs → w'.heap[k]? = w.heap[k]?

theorem turned_far (hI : Inv B m L w S) {id : Nat} {o : Obj'} (hid : L[id]? = some (.obj o)) (ht : Turned (blks (m id)) w w') {j : Nat} {r : Slot} (hj : j ≠ id) (hr : L[j]? = some r) (hl : r.live = true) {b : Nat} (hb : b ∈ blks (m j)) : w'.heap[b]? = w.heap[b]? :=
  ht.block b (hI.lt hr hl hb).2 fun h => hI.apart j id r _ hj hr hid hl rfl b hb h
theorem turned_safe (hI : Inv B m L w S) {id : Nat} {o : Obj'} (hid : L[id]? = some (.obj o)) (ht : Turned (blks (m id)) w w') : Safe S S w w' :=
  ⟨fun _ _ h => h, fun b o' h => World.cell?_of_block (a := ⟨b, o', none⟩) (ht.block b (hI.prot b o' h).1 fun hb => by
    have := ((hI.prot b o' h).2 id _ hid rfl hb).1
    cases this)⟩
theorem turned_below (hI : Inv B m L w S) {id : Nat} {o : Obj'} (hid : L[id]? = some (.obj o)) (ht : Turned (blks (m id)) w w') : Below B w w' :=
  ⟨ht.os, ht.tape, ht.output, ht.size, fun k hk => ht.block k (Nat.lt_of_lt_of_le hk hI.base) fun hb => by
    have := (hI.lt hid rfl hb).1
    omega⟩

/-- An object turned. -/
theorem Goes.turned (hI : Inv B m L w S) {id : Nat} {o o' : Obj'} {v' : Value} (hid : L[id]? = some (.obj o)) (ht : Turned (blks (m id)) w w') (hok : ObjOK B v' w' o') (hv' : ∀ b, b ∈ blks v' → b ∈ blks (m id) ∨ w.heap.size ≤ b)
    (hu : ∀ u sv, m id = .tuple #[u, sv] → ∃ sv', v' = .tuple #[u, sv']) (X : Nat → Bool) : Goes B X m L w S (upd m id v') (L.set id (.obj o')) w' S := by
  have gs := get_set (s := .obj o') ⟨_, hid⟩
  have hsafe := turned_safe hI hid ht
  have he : ∀ X, Ext X m L (upd m id v') (L.set id (.obj o')) := by
    intro X
    refine ⟨?_⟩
    intro j r hr hne
    by_cases e1 : j = id
    · subst e1
      rw [hid] at hr; cases hr
      refine ⟨.obj o', by rw [gs, if_pos rfl], by simp, ?_, ?_, ?_⟩
      · intro T h; cases h
      · intro o1 h
        refine ⟨fun u sv h => ?_, o, rfl⟩
        rw [upd_same]
        exact hu u sv h
      · intro t e xs ro _ h; cases h
    · exact ⟨r, by rw [gs, if_neg e1]; exact hr, hne, fun T h => ⟨upd_ne e1, h⟩, fun o h => ⟨fun u sv h => ⟨sv, by rw [upd_ne e1]; exact h⟩, o, h⟩, fun t e xs ro _ h => ⟨upd_ne e1, xs, ro, h, Nat.le_refl _⟩⟩
  refine ⟨⟨Nat.le_trans hI.base ht.size, ?_, ?_, ?_, ?_, ?_, ?_⟩, hsafe, turned_below hI hid ht, he X, fun _ _ h => .inl h⟩
  · intro j T x ro h
    rw [gs] at h
    split at h
    · cases h
    · rename_i e
      obtain ⟨b, ds, el, fr, hm, h4, h5, h6, h7⟩ := hI.box j T x ro h
      exact ⟨b, ds, el, fr, by rw [upd_ne e]; exact hm, h4, by rw [turned_far hI hid ht e h rfl (by rw [hm]; exact in_ptr _ _)]; exact h5, h6, h7.safe hsafe⟩
  · intro j t e xs ro h
    rw [gs] at h
    split at h
    · cases h
    · rename_i e2
      rw [upd_ne e2]
      obtain ⟨ds, h1, h2⟩ := hI.row j t e xs ro h
      refine ⟨ds, ⟨h1.1, h1.2.imp (fun h => h) ?_⟩, RepL.mono (fun x c h => h.safe hsafe) h2⟩
      rintro ⟨g, cap, cur, hv, hgB, hh, r⟩
      exact ⟨g, cap, cur, hv, hgB, by rw [turned_far hI hid ht e2 h rfl (by rw [hv]; exact in_slc _ _ _ _)]; exact hh, r⟩
  · intro j o1 h
    rw [gs] at h
    split at h
    · rename_i e; subst e; cases h; rw [upd_same]; exact hok
    · rename_i e; rw [upd_ne e]; exact (hI.obj j o1 h).kept fun b hb => turned_far hI hid ht e h rfl hb
  · intro j T x q h
    rw [gs] at h
    split at h
    · cases h
    · rename_i e; rw [upd_ne e]; exact (hI.lbx j T x q h).same hsafe (he _) fun b hb => turned_far hI hid ht e h rfl hb
  · have far : ∀ j r, j ≠ id → L[j]? = some r → r.live = true → ∀ b, b ∈ blks (m j) → b ∈ blks v' → False := by
      intro j r hj hr hl b hb h
      rcases hv' b h with h | h
      · exact hI.apart j id r _ hj hr hid hl rfl b hb h
      · have := (hI.lt hr hl hb).2
        omega
    intro i j s1 s2 hne h1 h2 l1 l2
    rw [gs] at h1 h2
    split at h1
    · rename_i e1; subst e1
      split at h2
      · rename_i e2; exact absurd e2.symm hne
      · rename_i e2
        rw [upd_same, upd_ne e2]
        exact fun b h h' => far j s2 e2 h2 l2 b h' h
    · rename_i e1
      split at h2
      · rename_i e2; subst e2
        rw [upd_same, upd_ne e1]
        exact far i s1 e1 h1 l1
      · rename_i e2
        rw [upd_ne e1, upd_ne e2]
        exact hI.apart i j s1 s2 hne h1 h2 l1 l2
  · intro b o1 h
    obtain ⟨p1, p2⟩ := hI.prot b o1 h
    refine ⟨Nat.lt_of_lt_of_le p1 ht.size, fun i r hr hl hb => ?_⟩
    rw [gs] at hr
    split at hr
    · rename_i e1; subst e1
      rw [upd_same] at hb
      rcases hv' b hb with h' | h'
      · have := (p2 i _ hid rfl h').1
        cases this
      · omega
    · rename_i e1
      rw [upd_ne e1] at hb
      exact p2 i r hr hl hb

/-- An object given up. -/
theorem Goes.gaveUp (hI : Inv B m L w S) {id : Nat} {o : Obj'} (hid : L[id]? = some (.obj o)) (ht : Turned (blks (m id)) w w') (X : Nat → Bool) : Goes B X m L w S m (L.set id .gone) w' S := by
  have gs := get_set (s := Slot.gone) ⟨_, hid⟩
  have hsafe := turned_safe hI hid ht
  have back : ∀ {j : Nat} {r : Slot}, (L.set id Slot.gone)[j]? = some r → r.live = true → j ≠ id ∧ L[j]? = some r := by
    intro j r h hl
    rw [gs] at h
    split at h
    · cases h; cases hl
    · rename_i e; exact ⟨e, h⟩
  have he : ∀ X, Ext X m L m (L.set id .gone) := by
    intro X
    refine ⟨?_⟩
    intro j r hr hne
    by_cases e1 : j = id
    · subst e1
      refine ⟨.gone, by rw [gs, if_pos rfl], by simp, ?_, ?_, ?_⟩
      · intro T h; cases h
      · intro o h; cases h
      · intro t e xs ro _ h; cases h
    · exact ⟨r, by rw [gs, if_neg e1]; exact hr, hne, fun T h => ⟨rfl, h⟩, fun o h => ⟨fun u sv h => ⟨sv, h⟩, o, h⟩, fun t e xs ro _ h => ⟨rfl, xs, ro, h, Nat.le_refl _⟩⟩
  refine ⟨⟨Nat.le_trans hI.base ht.size, ?_, ?_, ?_, ?_, ?_, ?_⟩, hsafe, turned_below hI hid ht, he X, fun _ _ h => .inl h⟩
  · intro j T x ro h
    obtain ⟨e, h⟩ := back h rfl
    obtain ⟨b, ds, el, fr, hm, h4, h5, h6, h7⟩ := hI.box j T x ro h
    exact ⟨b, ds, el, fr, hm, h4, by rw [turned_far hI hid ht e h rfl (by rw [hm]; exact in_ptr _ _)]; exact h5, h6, h7.safe hsafe⟩
  · intro j t e xs ro h
    obtain ⟨e2, h⟩ := back h rfl
    obtain ⟨ds, h1, h2⟩ := hI.row j t e xs ro h
    refine ⟨ds, ⟨h1.1, h1.2.imp (fun h => h) ?_⟩, RepL.mono (fun x c h => h.safe hsafe) h2⟩
    rintro ⟨g, cap, cur, hv, hgB, hh, r⟩
    exact ⟨g, cap, cur, hv, hgB, by rw [turned_far hI hid ht e2 h rfl (by rw [hv]; exact in_slc _ _ _ _)]; exact hh, r⟩
  · intro j o1 h
    obtain ⟨e, h⟩ := back h rfl
    exact (hI.obj j o1 h).kept fun b hb => turned_far hI hid ht e h rfl hb
  · intro j T x q h
    obtain ⟨e, h⟩ := back h rfl
    exact (hI.lbx j T x q h).same hsafe (he _) fun b hb => turned_far hI hid ht e h rfl hb
  · intro i j s1 s2 hne h1 h2 l1 l2
    exact hI.apart i j s1 s2 hne (back h1 l1).2 (back h2 l2).2 l1 l2
  · intro b o1 h
    obtain ⟨p1, p2⟩ := hI.prot b o1 h
    exact ⟨Nat.lt_of_lt_of_le p1 ht.size, fun i r hr hl hb => p2 i r (back hr hl).2 hl hb⟩
end

/-! ### The library's own walks, with all that stays as it was -/
section
open Go.Shelf Go.Lib Go.Proofs
variable {P : Program} {ρ : Ren}

theorem byteCells_str (s : ByteArray) : byteCells s = Lib.strCells s := rfl
theorem byteCells_len (s : ByteArray) : (byteCells s).length = s.size := Lib.strCells_length s
theorem byteCells_app (s t : ByteArray) : byteCells (s ++ t) = byteCells s ++ byteCells t := by
  simp only [byteCells, ByteArray.data_append, Array.toList_append, List.map_append]

/-- Where an appended string's bytes lie: in the row itself, or in a new one. -/
theorem append_str_at {w : World} {base : Nat} {t u ty e : TypeId} {i : TypeInfo} (ht : P.underlying t = some (.slice e)) (hu : P.underlying u = some .string) (hi : P.info? e = some i) (hz : i.zero = some (.int .u8 0)) (hsize : i.size = 1) (hby : i.bytes = 1)
    {v : Value} {n : Nat} {xs : List Value} (hown : w.ownsRow base e 1 v n xs) (s : ByteArray) (h63 : n + s.size ≤ maxLen) (hbytes : n + s.size ≤ 140737488355328) (hbase : base ≤ w.heap.size) :
    ∃ v' w', (Builtin.append_ #[t, u] ty #[v, .string s]).run P w = .ok v' w' ∧ w'.ownsRow base e 1 v' (n + s.size) (xs ++ strCells s) ∧ w.grownBy w' v.ownBlock ∧ (v'.ownBlock = v.ownBlock ∨ v'.ownBlock = some w.heap.size) := by
  obtain ⟨v', w', hr, h2, h3, h4⟩ := Lib.run_append_own_string (P := P) w base t u ty e i ht hu hi hz hsize hby v n xs hown s h63 hbytes hbase
  refine ⟨v', w', hr, h2, h3, ?_⟩
  have hsmall : n + s.size ≤ 9223372036854775807 := by simp only [maxLen] at h63; omega
  rcases hown.2 with ⟨rfl, rfl⟩ | ⟨g, cap, cur, rfl, hbg, hg, hnc, hcm, hcs, htake⟩
  · by_cases hm : s.size = 0
    · rw [h4.2 ⟨rfl, hm⟩]; exact .inl rfl
    · have hr2 := run_append_nil_string (P := P) w t u ty e i (.int .u8 0) ht hu hi hz s (by omega) (by omega) (by rw [hby]; omega)
      rw [hr] at hr2
      injection hr2 with a b
      rw [a]; exact .inr rfl
  · by_cases hroom : n + s.size ≤ cap
    · have hr2 := run_append_room_string (P := P) w t u ty e i ht hu hi hsize g n cap cur hg s hroom (by omega)
      rw [hr] at hr2
      injection hr2 with a b
      rw [a]; exact .inl rfl
    · have hr2 := run_append_grow_string (P := P) w t u ty e i (.int .u8 0) ht hu hi hz ⟨g, 0, none⟩ n cap xs (by rw [hsize]; exact hown.1) (hown.cells (g := g) rfl) s (by omega) (by omega) (by rw [hby]; exact growslice_fits (by omega) (by omega))
      rw [hr] at hr2
      injection hr2 with a b
      rw [a]; exact .inr rfl

theorem wpList_append_str_at {w : World} {ops : Array Oper} {rest : List Oper} {o : Oper} {a : Act} {Q : Exit → Act → World → Prop} (hgd : o.guard = none) (sl x : Operand) (t u : TypeId)
    (ho : o.op = .call { callee := .builtin .append, args := #[sl, x], argTypes := #[t, u] })
    {base : Nat} {e : TypeId} {i : TypeInfo} (ht : P.underlying t = some (.slice e)) (hu : P.underlying u = some .string) (hi : P.info? e = some i) (hz : i.zero = some (.int .u8 0)) (hsize : i.size = 1) (hby : i.bytes = 1)
    (v : Value) {n : Nat} {xs : List Value} (hs : a.eval sl = v) (hown : w.ownsRow base e 1 v n xs) (s : ByteArray) (hx : a.eval x = .string s) (h63 : n + s.size ≤ maxLen) (hbytes : n + s.size ≤ 140737488355328) (hbase : base ≤ w.heap.size)
    (h : ∀ v' w', w'.ownsRow base e 1 v' (n + s.size) (xs ++ strCells s) → w.grownBy w' v.ownBlock → (v'.ownBlock = v.ownBlock ∨ v'.ownBlock = some w.heap.size) → wpList P ops Q rest (a.put o.dst v') w') : wpList P ops Q (o :: rest) a w := by
  refine wpList_plain hgd fun K hK => ?_
  obtain ⟨v', w', hr, h2, h3, h4⟩ := append_str_at (P := P) (ty := o.type) ht hu hi hz hsize hby hown s h63 hbytes hbase
  unfold Oper.wp execOp
  simp only [ho, resolve, invoke, builtin, Sem.run_bind, Sem.run_pure, Result.andThen_ok, List.map_toArray, List.map_cons, List.map_nil, hs, hx, hr]
  exact hK _ _ (h v' w' h2 h3 h4)

/-- A builder in a block of its own. -/
structure Bld (T e : TypeId) (B b : Nat) (p v : Value) (bs : List Value) (w : World) : Prop where
  le : B ≤ b
  blk : w.heap[b]? = some (.cells #[p, v] T (0, 0))
  own : w.ownsRow B e 1 v bs.length bs
  ne : v.ownBlock ≠ some b
theorem Bld.at_ {T e : TypeId} {B b : Nat} {p v : Value} {bs : List Value} {w : World} (h : Bld T e B b p v bs w) : BuilderAt T e B b p bs w := ⟨h.le, v, h.blk, h.own, h.ne⟩
theorem Bld.lt {T e : TypeId} {B b : Nat} {p v : Value} {bs : List Value} {w : World} (h : Bld T e B b p v bs w) : b < w.heap.size := h.at_.lt

/-- copyCheck, of a builder of one's own: its own address is noted, no more. -/
theorem bld_check (L : Lays.n240 P ρ) (X : Builder.X72 P ρ) {B b : Nat} {p v : Value} {bs : List Value} {w : World} (h : Bld (ρ.t 72) (ρ.t 5) B b p v bs w) (hp : p = .pointer none ∨ p = .pointer (some ⟨b, 0, none⟩)) :
    Calls P (ρ.f 240) #[.pointer (some ⟨b, 0, none⟩)] w fun e w' => e = .returned (.tuple #[]) ∧ Bld (ρ.t 72) (ρ.t 5) B b (.pointer (some ⟨b, 0, none⟩)) v bs w' ∧ Turned [b] w w' ∧ w'.heap.size ≤ w.heap.size := by
  rcases hp with rfl | rfl
  · refine (Any.Builder_copyCheck_fresh L X b w h.at_.cell0 h.at_.shape h.at_.frozen0).mono ?_
    rintro e w' ⟨rfl, rfl⟩
    have hs : (w.setCell ⟨b, 0, none⟩ (.pointer (some ⟨b, 0, none⟩))).heap.size = w.heap.size := World.size_setCell ..
    refine ⟨rfl, ⟨h.le, ?_, ?_, h.ne⟩, ⟨rfl, rfl, rfl, by omega, fun k _ hk => Below.heap_setCell _ _ _ _ (by simpa using hk)⟩, Nat.le_of_eq hs⟩
    · simp [World.setCell, Array.getElem?_modify, h.blk]
    · exact h.own.kept (row := some b) ⟨rfl, rfl, rfl, by omega, fun k _ hk => Below.heap_setCell _ _ _ _ (fun e => hk (by simp [e]))⟩ (.inr h.ne)
  · refine (Any.Builder_copyCheck_used L X b w h.at_.cell0).mono ?_
    rintro e w' ⟨rfl, rfl⟩
    exact ⟨rfl, h, ⟨rfl, rfl, rfl, Nat.le_refl _, fun _ _ _ => rfl⟩, Nat.le_refl _⟩

/-- What a write to a builder leaves. -/
def Written (P : Program) (ρ : Ren) (B b : Nat) (v : Value) (bs : List Value) (w w' : World) : Prop :=
  ∃ v', Bld (ρ.t 72) (ρ.t 5) B b (.pointer (some ⟨b, 0, none⟩)) v' bs w' ∧ Turned (b :: (v.ownBlock).toList) w w' ∧ (v'.ownBlock = v.ownBlock ∨ ∃ g, v'.ownBlock = some g ∧ w.heap.size ≤ g)

theorem written_of {B b : Nat} {v v' : Value} {bs bs' : List Value} {w w1 w2 : World} (h1 : Bld (ρ.t 72) (ρ.t 5) B b (.pointer (some ⟨b, 0, none⟩)) v bs w1) (t1 : Turned [b] w w1) (hown : w2.ownsRow B (ρ.t 5) 1 v' bs'.length bs') (hos : w2.os = w1.os) (htp : w2.tape = w1.tape) (hout : w2.output = w1.output) (hsz : w1.heap.size ≤ w2.heap.size)
    (hkeep : ∀ k, k < w1.heap.size → v.ownBlock ≠ some k → w2.heap[k]? = w1.heap[k]?) (hat : v'.ownBlock = v.ownBlock ∨ ∃ g, v'.ownBlock = some g ∧ w1.heap.size ≤ g) : Written P ρ B b v bs' w (w2.setCell ⟨b, 1, none⟩ v') := by
  have hb2 : w2.heap[b]? = some (.cells #[.pointer (some ⟨b, 0, none⟩), v] (ρ.t 72) (0, 0)) := (hkeep b h1.lt h1.ne).trans h1.blk
  have hne : v'.ownBlock ≠ some b := by
    rcases hat with h | ⟨g, h, hg⟩
    · rw [h]; exact h1.ne
    · rw [h]; intro e; cases e; exact absurd h1.lt (by omega)
  have hs : (w2.setCell ⟨b, 1, none⟩ v').heap.size = w2.heap.size := World.size_setCell ..
  have hs1 := t1.size
  refine ⟨v', ⟨h1.le, ?_, ?_, hne⟩, ⟨hos.trans t1.os, htp.trans t1.tape, hout.trans t1.output, by omega, fun k hk hkb => ?_⟩, ?_⟩
  · simp [World.setCell, Array.getElem?_modify, hb2]
  · exact hown.kept (row := some b) ⟨rfl, rfl, rfl, by omega, fun k _ hk => Below.heap_setCell _ _ _ _ (fun e => hk (by simp [e]))⟩ (.inr hne)
  · simp only [List.mem_cons, Option.mem_toList, not_or] at hkb
    exact (Below.heap_setCell _ _ _ _ hkb.1).trans ((hkeep k (by omega) hkb.2).trans (t1.block k hk (by simpa using hkb.1)))
  · exact hat.imp id fun ⟨g, h, hg⟩ => ⟨g, h, by omega⟩

set_option maxHeartbeats 2000000 in
set_option maxRecDepth 100000 in
/-- WriteByte. -/
theorem bld_byte (L : Lays.n167 P ρ) (X : Builder.Extra P ρ) {B b : Nat} {p v : Value} {bs : List Value} {w : World} (h : Bld (ρ.t 72) (ρ.t 5) B b p v bs w) (hp : p = .pointer none ∨ p = .pointer (some ⟨b, 0, none⟩)) (c : Int) (hlen : bs.length + 1 ≤ 140737488355328) (hBw : B ≤ w.heap.size) :
    Calls P (ρ.f 167) #[.pointer (some ⟨b, 0, none⟩), .int .u8 c] w fun e w' => e = .returned .nilIface ∧ Written P ρ B b v (bs ++ [.int .u8 c]) w w' := by
  obtain ⟨i0, hi, hz0, hz1, hz2⟩ := info_parts X.infoByte
  have mixed := L.mixed
  have t72 := L.t72; have a72 := L.a72; have z72 := L.z72; have v72 := L.v72; have u72 := run_underlying L.t72
  have t70 := L.t70; have a70 := L.a70; have z70 := L.z70; have v70 := L.v70; have u70 := run_underlying L.t70
  have t5 := L.t5; have a5 := L.a5; have z5 := L.z5; have v5 := L.v5; have u5 := run_underlying L.t5
  have t37 := L.t37; have a37 := L.a37; have z37 := L.z37; have v37 := L.v37; have u37 := run_underlying L.t37
  have t9 := L.t9; have a9 := L.a9; have z9 := L.z9; have v9 := L.v9; have u9 := run_underlying L.t9
  have t4 := L.t4; have a4 := L.a4; have z4 := L.z4; have v4 := L.v4; have u4 := run_underlying L.t4
  have t164 := L.t164; have a164 := L.a164; have z164 := L.z164; have v164 := L.v164; have u164 := run_underlying L.t164
  have e240 : ∀ args w, (callFunc (ρ.f 240) args).run P w = .ok (.enter (ρ.f 240) args) w := enters_of L.f240 (by kernel_rfl) rfl
  go_enter L.f167, Body.n167_ntmps ρ
  go_wp2_with (go_at_fn (ρ.f 240); refine (bld_check { L with } X.toX72 h hp).mono ?_)
  rintro e w1 ⟨rfl, h1, k1, z1⟩
  have z2 := k1.size
  have c0 : w1.cell? ⟨b, 0, none⟩ = some (.pointer (some ⟨b, 0, none⟩)) := by rw [Lib.cell_of_heap h1.blk]; rfl
  have c1 : w1.cell? ⟨b, 1, none⟩ = some v := by rw [Lib.cell_of_heap h1.blk]; rfl
  go_wp2_with (at_builtin; refine wpList_append_own_at _ rfl _ _ (ρ.t 37) rfl B (ρ.t 5) i0 (.int .u8 0) 1 1 L.t37 hi hz0 hz1 hz2 rfl (by decide) _ _ _ rfl (h1.own.alloc _) ⟨w1.heap.size, 0, none⟩ 1 1 [.int .u8 c] rfl rfl ?c1 ?c2 ?c3 ?c4 ?c5 ?_)
  case c1 => exact cell_one_new _ _ _
  case c2 => intro u hu; simp at hu; subst hu; rfl
  case c3 => unfold maxLen; omega
  case c4 => omega
  case c5 => simp; omega
  intro v' w2 hown' hgrow _ hat
  have hkeep : ∀ k, k < w1.heap.size → v.ownBlock ≠ some k → w2.heap[k]? = w1.heap[k]? := fun k hk hne => (hgrow.block k (by simp; omega) (fun e => hne e.symm)).trans (Lib.alloc_old w1 _ k hk)
  have hb2 : w2.heap[b]? = some (.cells #[.pointer (some ⟨b, 0, none⟩), v] (ρ.t 72) (0, 0)) := (hkeep b h1.lt h1.ne).trans h1.blk
  have d0 : w2.cell? ⟨b, 0, none⟩ = some (.pointer (some ⟨b, 0, none⟩)) := by rw [Lib.cell_of_heap hb2]; rfl
  have d1 : w2.cell? ⟨b, 1, none⟩ = some v := by rw [Lib.cell_of_heap hb2]; rfl
  have f1 : w2.frozen? ⟨b, 1, none⟩ = false := Lib.frozen_of_heap hb2 1
  obtain ⟨g, cap, rfl⟩ : ∃ g cap, v' = .slice (some ⟨g, 0, none⟩) (bs.length + 1) cap := by
    rcases hown'.2 with ⟨_, h0⟩ | ⟨g, cap, cur, hv, _⟩
    · omega
    · exact ⟨g, cap, hv⟩
  go_wp2
  go_ret
  refine ⟨rfl, written_of h1 k1 (by simpa using hown') hgrow.os hgrow.tape hgrow.output (by have := hgrow.size; simp at this; omega) hkeep (hat.imp id fun h => ⟨_, h, by simp⟩)⟩

set_option maxHeartbeats 2000000 in
set_option maxRecDepth 100000 in
/-- WriteString. -/
theorem bld_str (L : Lays.n166 P ρ) (X : Builder.Extra P ρ) {B b : Nat} {p v : Value} {bs : List Value} {w : World} (h : Bld (ρ.t 72) (ρ.t 5) B b p v bs w) (hp : p = .pointer none ∨ p = .pointer (some ⟨b, 0, none⟩)) (s : ByteArray) (hlen : bs.length + s.size ≤ 140737488355328) (hBw : B ≤ w.heap.size) :
    Calls P (ρ.f 166) #[.pointer (some ⟨b, 0, none⟩), .string s] w fun e w' => e = .returned (.tuple #[.int .i64 s.size, .nilIface]) ∧ Written P ρ B b v (bs ++ Lib.strCells s) w w' := by
  obtain ⟨i0, hi, hz0, hz1, hz2⟩ := info_parts X.infoByte
  have mixed := L.mixed
  have t72 := L.t72; have a72 := L.a72; have z72 := L.z72; have v72 := L.v72; have u72 := run_underlying L.t72
  have t70 := L.t70; have a70 := L.a70; have z70 := L.z70; have v70 := L.v70; have u70 := run_underlying L.t70
  have t37 := L.t37; have a37 := L.a37; have z37 := L.z37; have v37 := L.v37; have u37 := run_underlying L.t37
  have t3 := L.t3; have a3 := L.a3; have z3 := L.z3; have v3 := L.v3; have u3 := run_underlying L.t3
  have t9 := L.t9; have a9 := L.a9; have z9 := L.z9; have v9 := L.v9; have u9 := run_underlying L.t9
  have t4 := L.t4; have a4 := L.a4; have z4 := L.z4; have v4 := L.v4; have u4 := run_underlying L.t4
  have t164 := L.t164; have a164 := L.a164; have z164 := L.z164; have v164 := L.v164; have u164 := run_underlying L.t164
  have t5 := X.t5; have a5 := X.a5; have z5 := X.z5; have v5 := X.v5; have u5 := run_underlying X.t5
  have e240 : ∀ args w, (callFunc (ρ.f 240) args).run P w = .ok (.enter (ρ.f 240) args) w := enters_of L.f240 (by kernel_rfl) rfl
  go_enter L.f166, Body.n166_ntmps ρ
  go_wp2_with (go_at_fn (ρ.f 240); refine (bld_check { L with } X.toX72 h hp).mono ?_)
  rintro e w1 ⟨rfl, h1, k1, z1⟩
  have z2 := k1.size
  have c0 : w1.cell? ⟨b, 0, none⟩ = some (.pointer (some ⟨b, 0, none⟩)) := by rw [Lib.cell_of_heap h1.blk]; rfl
  have c1 : w1.cell? ⟨b, 1, none⟩ = some v := by rw [Lib.cell_of_heap h1.blk]; rfl
  go_wp2_with (at_builtin; refine wpList_append_str_at rfl _ _ (ρ.t 37) (ρ.t 9) rfl (e := ρ.t 5) L.t37 L.t9 hi hz0 hz1 hz2 _ rfl h1.own s rfl ?c3 ?c4 ?c5 ?_)
  case c3 => unfold maxLen; omega
  case c4 => omega
  case c5 => omega
  intro v' w2 hown' hgrow hat
  have hkeep : ∀ k, k < w1.heap.size → v.ownBlock ≠ some k → w2.heap[k]? = w1.heap[k]? := fun k hk hne => hgrow.block k hk (fun e => hne e.symm)
  have hb2 : w2.heap[b]? = some (.cells #[.pointer (some ⟨b, 0, none⟩), v] (ρ.t 72) (0, 0)) := (hkeep b h1.lt h1.ne).trans h1.blk
  have d0 : w2.cell? ⟨b, 0, none⟩ = some (.pointer (some ⟨b, 0, none⟩)) := by rw [Lib.cell_of_heap hb2]; rfl
  have d1 : w2.cell? ⟨b, 1, none⟩ = some v := by rw [Lib.cell_of_heap hb2]; rfl
  have f1 : w2.frozen? ⟨b, 1, none⟩ = false := Lib.frozen_of_heap hb2 1
  obtain ⟨ao, n', cap, rfl⟩ : ∃ ao n' cap, v' = .slice ao n' cap := by
    rcases hown'.2 with ⟨hv, _⟩ | ⟨g, cap, cur, hv, _⟩
    · exact ⟨_, _, _, hv⟩
    · exact ⟨_, _, _, hv⟩
  go_wp2
  go_ret2
  exact ⟨rfl, written_of h1 k1 (by simpa [Lib.strCells_length] using hown') hgrow.os hgrow.tape hgrow.output hgrow.size hkeep (hat.imp id fun h => ⟨_, h, by omega⟩)⟩
theorem turned_freeze {bs : List Nat} {a w : World} (h : Turned bs a w) {p : Addr} (hp : p.block ∈ bs) (n : Nat) : Turned bs a (w.freeze p n) := by
  unfold World.freeze
  split
  · exact h
  · exact ⟨h.os, h.tape, h.output, by simpa using h.size, fun k hk hb => by
      simp only [Array.getElem?_modify]
      rw [if_neg (fun e => hb (by rw [← e]; exact hp))]
      exact h.block k hk hb⟩
theorem turned_drew (bs : List Nat) (w : World) : Turned bs w w.drew := ⟨rfl, rfl, rfl, Nat.le_refl _, fun _ _ _ => rfl⟩
theorem turned_alloc {bs : List Nat} {a w : World} (h : Turned bs a w) (o : Obj) : Turned bs a (w.alloc o) :=
  ⟨h.os, h.tape, h.output, by have := h.size; simp; omega, fun k hk hb => (Lib.alloc_old w o k (by have := h.size; omega)).trans (h.block k hk hb)⟩
theorem turned_drew2 {bs : List Nat} {a w : World} (h : Turned bs a w) : Turned bs a w.drew := ⟨h.os, h.tape, h.output, h.size, h.block⟩

set_option maxHeartbeats 2000000 in
set_option maxRecDepth 100000 in
/-- String, of some bytes. -/
theorem bld_string_some (L : Lays.n169 P ρ) (X : Builder.Extra P ρ) {B b g cap : Nat} {p : Value} {l : List UInt8} {w : World} (hbk : w.heap[b]? = some (.cells #[p, .slice (some ⟨g, 0, none⟩) l.length cap] (ρ.t 72) (0, 0))) (hown : w.ownsRow B (ρ.t 5) 1 (.slice (some ⟨g, 0, none⟩) l.length cap) l.length (Lib.byteCells l)) (h0 : l ≠ []) :
    Calls P (ρ.f 169) #[.pointer (some ⟨b, 0, none⟩)] w fun e w' => e = .returned (.string ⟨l.toArray⟩) ∧ Turned [b, g] w w' := by
  have hl0 : l.length ≠ 0 := by simpa using h0
  obtain ⟨cur, hg, hnc, hcm, hcs⟩ : ∃ cur, w.heap[g]? = some (.cells cur (ρ.t 5) (0, 0)) ∧ l.length ≤ cap ∧ cap ≤ maxLen ∧ cur.size = cap * 1 := by
    rcases hown.2 with ⟨h, _⟩ | ⟨g', cap', cur, hv, _, h1, h2, h3, h4, _⟩
    · cases h
    · cases hv; exact ⟨cur, h1, h2, h3, h4⟩
  have c1 : w.drew.cell? ⟨b, 1, none⟩ = some (.slice (some ⟨g, 0, none⟩) l.length cap) := by
    have : w.drew.heap[b]? = _ := hbk
    rw [Lib.cell_of_heap this]; rfl
  have hSD : (Builtin.unsafeSliceData_ #[(ρ.t 37)] (ρ.t 127) #[.slice (some ⟨g, 0, none⟩) l.length cap]).run P w.drew = .ok (.pointer (some ⟨g, 0, none⟩)) w.drew :=
    Lib.run_unsafeSliceData_row _ _ _ _ _ _ (by omega)
  have hUS : (Builtin.unsafeString_ #[(ρ.t 127), (ρ.t 3)] (ρ.t 9) #[.pointer (some ⟨g, 0, none⟩), .int .i64 l.length]).run P w.drew = .ok (.string ⟨l.toArray⟩) (w.drew.freeze ⟨g, 0, none⟩ l.length) := by
    refine Lib.run_unsafeString_row w.drew (ρ.t 127) (ρ.t 3) (ρ.t 9) (ρ.t 5) L.t127 X.cellsByte g cur.size (by have hg' : w.drew.heap[g]? = _ := hg; simp [World.shape?, hg']) l h0 (by omega) (by unfold maxLen at hcm; omega) fun j x hx => ?_
    exact hown.cells (g := g) rfl j (.int .u8 x.toNat) (by simp [Lib.byteCells, hx])
  have mixed := L.mixed
  have t72 := L.t72; have a72 := L.a72; have z72 := L.z72; have v72 := L.v72; have u72 := run_underlying L.t72
  have t70 := L.t70; have a70 := L.a70; have z70 := L.z70; have v70 := L.v70; have u70 := run_underlying L.t70
  have t37 := L.t37; have a37 := L.a37; have z37 := L.z37; have v37 := L.v37; have u37 := run_underlying L.t37
  have t127 := L.t127; have a127 := L.a127; have z127 := L.z127; have v127 := L.v127; have u127 := run_underlying L.t127
  have t3 := L.t3; have a3 := L.a3; have z3 := L.z3; have v3 := L.v3; have u3 := run_underlying L.t3
  have t9 := L.t9; have a9 := L.a9; have z9 := L.z9; have v9 := L.v9; have u9 := run_underlying L.t9
  have t5 := X.t5; have a5 := X.a5; have z5 := X.z5; have v5 := X.v5; have u5 := run_underlying X.t5
  go_enter L.f169, Body.n169_ntmps ρ
  go_wp2
  go_region_o
  all_goals (go_wp2; go_ret; exact ⟨rfl, turned_freeze (turned_drew _ w) (by simp) _⟩)

set_option maxHeartbeats 2000000 in
set_option maxRecDepth 100000 in
/-- String, of nothing: no row is there. -/
theorem bld_string_nil (L : Lays.n169 P ρ) (X : Builder.Extra P ρ) {b : Nat} {p : Value} {w : World} (hbk : w.heap[b]? = some (.cells #[p, .slice none 0 0] (ρ.t 72) (0, 0))) :
    Calls P (ρ.f 169) #[.pointer (some ⟨b, 0, none⟩)] w fun e w' => e = .returned (.string ⟨#[]⟩) ∧ Turned [b] w w' := by
  have hUS := Any.unsafeString_none L X
  have c1 : w.drew.cell? ⟨b, 1, none⟩ = some (.slice none 0 0) := by
    have : w.drew.heap[b]? = _ := hbk
    rw [Lib.cell_of_heap this]; rfl
  have hSD : (Builtin.unsafeSliceData_ #[(ρ.t 37)] (ρ.t 127) #[.slice none 0 0]).run P w.drew = .ok (.pointer none) w.drew := rfl
  have mixed := L.mixed
  have t72 := L.t72; have a72 := L.a72; have z72 := L.z72; have v72 := L.v72; have u72 := run_underlying L.t72
  have t70 := L.t70; have a70 := L.a70; have z70 := L.z70; have v70 := L.v70; have u70 := run_underlying L.t70
  have t37 := L.t37; have a37 := L.a37; have z37 := L.z37; have v37 := L.v37; have u37 := run_underlying L.t37
  have t127 := L.t127; have a127 := L.a127; have z127 := L.z127; have v127 := L.v127; have u127 := run_underlying L.t127
  have t3 := L.t3; have a3 := L.a3; have z3 := L.z3; have v3 := L.v3; have u3 := run_underlying L.t3
  have t9 := L.t9; have a9 := L.a9; have z9 := L.z9; have v9 := L.v9; have u9 := run_underlying L.t9
  have t5 := X.t5; have a5 := X.a5; have z5 := X.z5; have v5 := X.v5; have u5 := run_underlying X.t5
  go_enter L.f169, Body.n169_ntmps ρ
  go_wp2
  go_region_o
  all_goals (go_wp2; go_ret; exact ⟨rfl, turned_drew _ w⟩)

set_option maxHeartbeats 2000000 in
set_option maxRecDepth 100000 in
/-- String, of nothing: a row without room. -/
theorem bld_string_tight (L : Lays.n169 P ρ) (X : Builder.Extra P ρ) {b g : Nat} {p : Value} {cur : Array Value} {w : World} (hbk : w.heap[b]? = some (.cells #[p, .slice (some ⟨g, 0, none⟩) 0 0] (ρ.t 72) (0, 0))) (hg : w.heap[g]? = some (.cells cur (ρ.t 5) (0, 0))) :
    Calls P (ρ.f 169) #[.pointer (some ⟨b, 0, none⟩)] w fun e w' => e = .returned (.string ⟨#[]⟩) ∧ Turned [b, g] w w' := by
  have hUS := Any.unsafeString_none L X
  have hlt : b < w.heap.size := (Array.getElem?_eq_some_iff.1 hbk).1
  have c0 : w.cell? ⟨b, 1, none⟩ = some (.slice (some ⟨g, 0, none⟩) 0 0) := by rw [Lib.cell_of_heap hbk]; rfl
  have c1 : w.drew.cell? ⟨b, 1, none⟩ = some (.slice (some ⟨g, 0, none⟩) 0 0) := c0
  have hSD : (Builtin.unsafeSliceData_ #[(ρ.t 37)] (ρ.t 127) #[.slice (some ⟨g, 0, none⟩) 0 0]).run P w.drew = .ok (.pointer (some ⟨w.drew.heap.size, 0, none⟩)) (w.drew.alloc (.view ⟨g, 0, none⟩ (ρ.t 5))) :=
    Lib.run_unsafeSliceData_zero w.drew _ _ (ρ.t 5) L.t127 ⟨g, 0, none⟩ 0 ((ρ.t 5), cur.size) (by have hg' : w.drew.heap[g]? = _ := hg; simp [World.shape?, hg'])
  have c2 : (w.drew.alloc (.view ⟨g, 0, none⟩ (ρ.t 5))).cell? ⟨b, 1, none⟩ = some (.slice (some ⟨g, 0, none⟩) 0 0) := by
    have : (w.drew.alloc (.view ⟨g, 0, none⟩ (ρ.t 5))).heap[b]? = _ := (Lib.alloc_old w.drew _ b hlt).trans hbk
    rw [Lib.cell_of_heap this]; rfl
  have c3 : (w.alloc (.view ⟨g, 0, none⟩ (ρ.t 5))).drew.cell? ⟨b, 1, none⟩ = some (.slice (some ⟨g, 0, none⟩) 0 0) := c2
  have mixed := L.mixed
  have t72 := L.t72; have a72 := L.a72; have z72 := L.z72; have v72 := L.v72; have u72 := run_underlying L.t72
  have t70 := L.t70; have a70 := L.a70; have z70 := L.z70; have v70 := L.v70; have u70 := run_underlying L.t70
  have t37 := L.t37; have a37 := L.a37; have z37 := L.z37; have v37 := L.v37; have u37 := run_underlying L.t37
  have t127 := L.t127; have a127 := L.a127; have z127 := L.z127; have v127 := L.v127; have u127 := run_underlying L.t127
  have t3 := L.t3; have a3 := L.a3; have z3 := L.z3; have v3 := L.v3; have u3 := run_underlying L.t3
  have t9 := L.t9; have a9 := L.a9; have z9 := L.z9; have v9 := L.v9; have u9 := run_underlying L.t9
  have t5 := X.t5; have a5 := X.a5; have z5 := X.z5; have v5 := X.v5; have u5 := run_underlying X.t5
  go_enter L.f169, Body.n169_ntmps ρ
  go_wp2
  go_region_o
  all_goals (go_wp2; go_ret; exact ⟨rfl, turned_alloc (turned_drew _ w) _⟩)

set_option maxHeartbeats 2000000 in
set_option maxRecDepth 100000 in
/-- String, of nothing: a row with room. -/
theorem bld_string_room (L : Lays.n169 P ρ) (X : Builder.Extra P ρ) {b g cap : Nat} {p : Value} {w : World} (hc0 : cap ≠ 0) (hbk : w.heap[b]? = some (.cells #[p, .slice (some ⟨g, 0, none⟩) 0 cap] (ρ.t 72) (0, 0))) :
    Calls P (ρ.f 169) #[.pointer (some ⟨b, 0, none⟩)] w fun e w' => e = .returned (.string ⟨#[]⟩) ∧ Turned [b, g] w w' := by
  have hUS := Any.unsafeString_none L X
  have c1 : w.drew.cell? ⟨b, 1, none⟩ = some (.slice (some ⟨g, 0, none⟩) 0 cap) := by
    have : w.drew.heap[b]? = _ := hbk
    rw [Lib.cell_of_heap this]; rfl
  have hSD : (Builtin.unsafeSliceData_ #[(ρ.t 37)] (ρ.t 127) #[.slice (some ⟨g, 0, none⟩) 0 cap]).run P w.drew = .ok (.pointer (some ⟨g, 0, none⟩)) w.drew :=
    Lib.run_unsafeSliceData_row _ _ _ _ _ _ hc0
  clear hc0
  have mixed := L.mixed
  have t72 := L.t72; have a72 := L.a72; have z72 := L.z72; have v72 := L.v72; have u72 := run_underlying L.t72
  have t70 := L.t70; have a70 := L.a70; have z70 := L.z70; have v70 := L.v70; have u70 := run_underlying L.t70
  have t37 := L.t37; have a37 := L.a37; have z37 := L.z37; have v37 := L.v37; have u37 := run_underlying L.t37
  have t127 := L.t127; have a127 := L.a127; have z127 := L.z127; have v127 := L.v127; have u127 := run_underlying L.t127
  have t3 := L.t3; have a3 := L.a3; have z3 := L.z3; have v3 := L.v3; have u3 := run_underlying L.t3
  have t9 := L.t9; have a9 := L.a9; have z9 := L.z9; have v9 := L.v9; have u9 := run_underlying L.t9
  have t5 := X.t5; have a5 := X.a5; have z5 := X.z5; have v5 := X.v5; have u5 := run_underlying X.t5
  go_enter L.f169, Body.n169_ntmps ρ
  go_wp2
  go_region_o
  all_goals (go_wp2; go_ret; exact ⟨rfl, turned_drew _ w⟩)

theorem Turned.more {bs cs : List Nat} {w w' : World} (h : Turned bs w w') (hs : ∀ b ∈ bs, b ∈ cs) : Turned cs w w' := ⟨h.os, h.tape, h.output, h.size, fun k hk hb => h.block k hk fun e => hb (hs k e)⟩

/-- String, whatever was written. -/
theorem bld_string (L : Lays.n169 P ρ) (X : Builder.Extra P ρ) {B b : Nat} {p v : Value} {s : ByteArray} {w : World} (h : Bld (ρ.t 72) (ρ.t 5) B b p v (byteCells s) w) :
    Calls P (ρ.f 169) #[.pointer (some ⟨b, 0, none⟩)] w fun e w' => e = .returned (.string s) ∧ Turned (b :: v.ownBlock.toList) w w' := by
  have hown := h.own
  have hbk := h.blk
  rw [byteCells_len] at hown
  have hlen : s.size = s.data.toList.length := (Array.length_toList).symm
  rcases hown.2 with ⟨rfl, h0⟩ | ⟨g, cap, cur, rfl, hbg, hg, hnc, hcm, hcs, htake⟩
  · refine (bld_string_nil L X hbk).mono ?_
    rintro e w' ⟨rfl, ht⟩
    refine ⟨?_, ht.more (fun b hb => hb)⟩
    have : s.data = #[] := Array.size_eq_zero_iff.1 h0
    cases s; cases this; rfl
  · by_cases h0 : s.size = 0
    · have hs : s = ⟨#[]⟩ := by
        have : s.data = #[] := Array.size_eq_zero_iff.1 h0
        cases s; cases this; rfl
      rw [h0] at hbk
      by_cases hc0 : cap = 0
      · subst hc0
        refine (bld_string_tight L X hbk hg).mono ?_
        rintro e w' ⟨rfl, ht⟩
        exact ⟨by rw [hs], ht.more (fun b hb => hb)⟩
      · refine (bld_string_room L X hc0 hbk).mono ?_
        rintro e w' ⟨rfl, ht⟩
        exact ⟨by rw [hs], ht.more (fun b hb => hb)⟩
    · rw [hlen] at hbk hown
      refine (bld_string_some L X (l := s.data.toList) hbk hown (fun e => h0 (by rw [hlen, e]; rfl))).mono ?_
      rintro e w' ⟨rfl, ht⟩
      refine ⟨?_, ht.more (fun b hb => hb)⟩
      cases s; rfl
end

/-! ### As the evaluator calls them -/
section
open Go.Shelf Go.Lib Go.Proofs
variable {ρ : Ren}

theorem bld_of {B : Nat} {m : Nat → Value} {w : World} {id : Nat} {T te : TypeId} {s : ByteArray} (h : ObjOK B (m id) w (.bld T te s)) : ∃ b sv p, m id = .tuple #[.pointer (some ⟨b, 0, none⟩), sv] ∧ (p = .pointer none ∨ p = .pointer (some ⟨b, 0, none⟩)) ∧ Bld T te B b p sv (byteCells s) w ∧ blks (m id) = b :: (sv.ownBlock).toList := by
  obtain ⟨b, sv, p, h1, h2, h3, h4, h5, h6⟩ := h
  have e := blk_own h5
  refine ⟨b, sv, p, h1, h3, ⟨h2, h4, by rw [byteCells_len]; exact h5, by rw [e]; exact h6⟩, ?_⟩
  rw [h1, blks_pair, e]; rfl

/-- A write to a builder, as an effect. -/
theorem written_does {C : Cfg} {g : FuncId} {L : Heap} {id : Nat} {s s' : ByteArray} {a av : AV} (hid : L[id]? = some (.obj (.bld (ρ.t 72) (ρ.t 5) s))) (ua : Value) (ur : Value)
    (he : ∀ (us : Array Value) (w : World), (callFunc g us).run C.P w = .ok (.enter g us) w) (ha : ∀ {m : Nat → Value} {w : World} {S : Nat → Nat → Prop} {u : Value}, RepA m L w S a u → u = ua) (hr : ∀ {m : Nat → Value} {L' : Heap} {w : World} {S : Nat → Nat → Prop}, RepA m L' w S av ur)
    (hc : ∀ {B b : Nat} {p v : Value} {w : World}, Bld (ρ.t 72) (ρ.t 5) B b p v (byteCells s) w → (p = .pointer none ∨ p = .pointer (some ⟨b, 0, none⟩)) → B ≤ w.heap.size → Calls C.P g #[.pointer (some ⟨b, 0, none⟩), ua] w fun e w' => e = .returned ur ∧ Written C.P ρ B b v (byteCells s') w w') :
    CallDoes C g [.ref id [], a] L av (L.set id (.obj (.bld (ρ.t 72) (ρ.t 5) s'))) := by
  refine ⟨he, fun j hj => keeps_set hid (by simp) j hj, fun B m w S us hI hG hrep => ?_⟩
  simp only [RepAs] at hrep
  obtain ⟨u, q, rfl, h1, u2, q2, rfl, h2, rfl⟩ := hrep
  simp only [RepA] at h1
  obtain ⟨sl, e1, _, _, e3⟩ := h1
  rw [hid] at e1; cases e1
  obtain ⟨b, sv, p, hm, hp, hb, hbl⟩ := bld_of (hI.obj id _ hid)
  obtain ⟨_, sv0, hm0⟩ := e3 _ rfl
  rw [hm] at hm0
  cases hm0
  rw [ha h2]
  refine (hc hb hp hI.base).mono ?_
  rintro e w' ⟨rfl, v', k1, k2, k3⟩
  refine ⟨_, _, S, rfl, Goes.turned (v' := .tuple #[.pointer (some ⟨b, 0, none⟩), v']) hI hid (by rw [hbl]; exact k2) ?_ ?_ ?_ _, hr⟩
  · have ho := k1.own
    rw [byteCells_len] at ho
    exact ⟨b, v', _, rfl, k1.le, .inr rfl, k1.blk, ho, by rw [← blk_own ho]; exact k1.ne⟩
  · intro b' hb'
    rw [hbl]
    have e := blk_own k1.own
    rw [blks_pair, ← e, List.mem_append, Option.mem_toList, Option.mem_toList] at hb'
    rcases hb' with hb' | hb'
    · simp [blk] at hb'; subst hb'; exact .inl (by simp)
    · rcases k3 with k3 | ⟨g, k3, k4⟩
      · rw [k3] at hb'; exact .inl (by simp [Option.mem_toList, hb'])
      · rw [k3] at hb'; cases hb'; exact .inr k4
  · intro u sv' h
    rw [hm] at h
    cases h
    exact ⟨v', rfl⟩

def bldByteFx (T te : TypeId) {Ω : Type} (vs : List AV) (L : Heap) (k : AV → Heap → Option Ω) : Option Ω :=
  match vs with
  | [.ref id [], .v (.int .u8) c] => match L[id]? with
    | some (.obj (.bld T' te' s)) => bif T' == T && te' == te && (decide ((0 : Int) ≤ c) && decide ((c : Int) < 256)) && decide (s.size ≤ rowMax) then k (.v (.raw .iface) .nilIface) (L.set id (.obj (.bld T te (s.push (UInt8.ofNat (Int.toNat c)))))) else none
    | _ => none
  | _ => none
def bldStrFx (T te : TypeId) {Ω : Type} (vs : List AV) (L : Heap) (k : AV → Heap → Option Ω) : Option Ω :=
  match vs with
  | [.ref id [], .v .str t] => match L[id]? with
    | some (.obj (.bld T' te' s)) => bif T' == T && te' == te && decide (s.size + ByteArray.size t ≤ rowMax) then k (.tup [.v (.int .i64) (ByteArray.size t : Int), .v (.raw .iface) .nilIface]) (L.set id (.obj (.bld T te (s ++ t)))) else none
    | _ => none
  | _ => none
def bldGetFx (T te : TypeId) {Ω : Type} (vs : List AV) (L : Heap) (k : AV → Heap → Option Ω) : Option Ω :=
  match vs with
  | [.ref id []] => match L[id]? with
    | some (.obj (.bld T' te' s)) => bif T' == T && te' == te then k (.v .str s) (L.set id .gone) else none
    | _ => none
  | _ => none

theorem rep_nilErr {m : Nat → Value} {L : Heap} {w : World} {S : Nat → Nat → Prop} : RepA m L w S (.v (.raw .iface) .nilIface) .nilIface := by
  rw [rep_v]; exact ⟨[.nilIface], ⟨rfl, rfl⟩, rfl⟩

theorem bldByteFx_ok {C : Cfg} (Ly : Lays.n167 C.P ρ) (X : Builder.Extra C.P ρ) (he : ∀ (us : Array Value) (w : World), (callFunc (ρ.f 167) us).run C.P w = .ok (.enter (ρ.f 167) us) w) : FxOK C (ρ.f 167) (fun {_} => bldByteFx (ρ.t 72) (ρ.t 5)) := by
  intro Ω vs L k r h
  replace h : bldByteFx _ _ vs L k = some r := h
  unfold bldByteFx at h
  split at h
  · rename_i id c
    split at h
    · rename_i T' te' s hid
      obtain ⟨hp, hq⟩ := ite_some h
      simp only [Bool.and_eq_true, beq_iff_eq, decide_eq_true_eq] at hp
      obtain ⟨⟨⟨rfl, rfl⟩, h0, h1⟩, h2⟩ := hp
      unfold rowMax at h2
      have h0 : (0 : Int) ≤ c := h0
      have h1 : (c : Int) < 256 := h1
      refine ⟨_, _, hq, written_does hid (.int .u8 c) .nilIface he (fun h => rep_int.1 h) rep_nilErr (fun hb hp hB => ?_)⟩
      have e : byteCells (s.push (UInt8.ofNat (Int.toNat c))) = byteCells s ++ [.int .u8 c] := by
        simp only [byteCells, ByteArray.push, Array.toList_push, List.map_append, List.map_cons, List.map_nil]
        have : ((UInt8.ofNat (Int.toNat c)).toNat : Int) = c := by
          have h2 : Int.toNat c < 256 := (Int.toNat_lt h0).2 h1
          rw [UInt8.toNat_ofNat', Nat.mod_eq_of_lt (by omega)]
          exact Int.toNat_of_nonneg h0
        rw [this]
      rw [e]
      exact bld_byte Ly X hb hp c (by rw [byteCells_len]; omega) hB
    · cases h
  · cases h
theorem bldStrFx_ok {C : Cfg} (Ly : Lays.n166 C.P ρ) (X : Builder.Extra C.P ρ) (he : ∀ (us : Array Value) (w : World), (callFunc (ρ.f 166) us).run C.P w = .ok (.enter (ρ.f 166) us) w) : FxOK C (ρ.f 166) (fun {_} => bldStrFx (ρ.t 72) (ρ.t 5)) := by
  intro Ω vs L k r h
  replace h : bldStrFx _ _ vs L k = some r := h
  unfold bldStrFx at h
  split at h
  · rename_i id t
    split at h
    · rename_i T' te' s hid
      obtain ⟨hp, hq⟩ := ite_some h
      simp only [Bool.and_eq_true, beq_iff_eq, decide_eq_true_eq] at hp
      obtain ⟨⟨rfl, rfl⟩, h2⟩ := hp
      unfold rowMax at h2
      refine ⟨_, _, hq, written_does hid (.string t) (.tuple #[.int .i64 (ByteArray.size t), .nilIface]) he (fun h => rep_str.1 h) ?_ (fun hb hp hB => ?_)⟩
      · intro m L' w S
        simp only [RepA]
        refine ⟨[.int .i64 (ByteArray.size t), .nilIface], rfl, ?_⟩
        simp only [RepAs]
        exact ⟨_, _, rfl, ⟨[_], rfl, rfl⟩, _, _, rfl, ⟨[.nilIface], ⟨rfl, rfl⟩, rfl⟩, rfl⟩
      · rw [byteCells_app]
        exact bld_str Ly X hb hp t (by rw [byteCells_len]; have h2 : s.size + ByteArray.size t ≤ 2147483648 := h2; omega) hB
    · cases h
  · cases h
theorem bldGetFx_ok {C : Cfg} (Ly : Lays.n169 C.P ρ) (X : Builder.Extra C.P ρ) (he : ∀ (us : Array Value) (w : World), (callFunc (ρ.f 169) us).run C.P w = .ok (.enter (ρ.f 169) us) w) : FxOK C (ρ.f 169) (fun {_} => bldGetFx (ρ.t 72) (ρ.t 5)) := by
  intro Ω vs L k r h
  replace h : bldGetFx _ _ vs L k = some r := h
  unfold bldGetFx at h
  split at h
  · rename_i id
    split at h
    · rename_i T' te' s hid
      obtain ⟨hp, hq⟩ := ite_some h
      simp only [Bool.and_eq_true, beq_iff_eq] at hp
      obtain ⟨rfl, rfl⟩ := hp
      refine ⟨_, _, hq, he, fun j hj => keeps_set hid (by simp) j hj, fun B m w S us hI hG hrep => ?_⟩
      simp only [RepAs] at hrep
      obtain ⟨u, q, rfl, h1, rfl⟩ := hrep
      simp only [RepA] at h1
      obtain ⟨sl, e1, _, _, e3⟩ := h1
      rw [hid] at e1; cases e1
      obtain ⟨b, sv, p, hm, hp, hb, hbl⟩ := bld_of (hI.obj id _ hid)
      obtain ⟨_, sv0, hm0⟩ := e3 _ rfl
      rw [hm] at hm0
      cases hm0
      refine (bld_string Ly X hb).mono ?_
      rintro e w' ⟨rfl, ht⟩
      exact ⟨_, m, S, rfl, Goes.gaveUp hI hid (by rw [hbl]; exact ht) _, rep_str.2 rfl⟩
    · cases h
  · cases h
end
end Go.Proofs.YtmmooplcdkmapaaGreatDoor.K

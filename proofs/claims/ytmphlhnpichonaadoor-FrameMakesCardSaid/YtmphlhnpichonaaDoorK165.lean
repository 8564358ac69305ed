/- Conversions, among them those between a string and its bytes. -/
import Derived.Test.YtmphlhnpichonaaDoorK16
import Derived.Lib.ConvBytes
import Derived.Laws.BytesString
set_option maxHeartbeats 400000
set_option linter.unusedVariables false
set_option linter.unusedSimpArgs false
namespace Go.Proofs.YtmphlhnpichonaaDoor.K
open Go Go.RowKit

def bytesI (s : ByteArray) : List Int := s.data.toList.map fun b => (b.toNat : Int)
def ofBytes (xs : List Int) : ByteArray := xs.foldl (fun r n => r.push (UInt8.ofNat n.toNat)) ByteArray.empty

def toBytesA (C : Cfg) (src dst : TypeId) (s : ByteArray) : R :=
  match C.Ty src, C.Ty dst, elId C dst with
  | some .str, some (.slice (.int .u8)), some te => if C.Ty te = some (.int .u8) then ok1 (.v (.slice (.int .u8)) (bytesI s)) else none
  | _, _, _ => none

def toStrA (C : Cfg) (src dst : TypeId) (xs : List Int) : R :=
  match C.Ty src, C.Ty dst, elId C src with
  | some (.slice (.int .u8)), some .str, some te => if C.Ty te = some (.int .u8) then ok1 (.v .str (ofBytes xs)) else none
  | _, _, _ => none

def isStrTy (C : Cfg) (t : TypeId) : Bool := match C.Ty t with | some .str => true | _ => false

def convB (C : Cfg) (L : Heap) (src dst : TypeId) : AV → A3
  | .v (.int k) x => (convA C src dst (.v (.int k) x)).map fun r => (r.1, r.2, L)
  | .v .str s => bif isStrTy C dst then (convA C src dst (.v .str s)).map fun r => (r.1, r.2, L) else (toBytesA C src dst s).map fun r => (r.1, r.2, L)
  | a => (liftA L (.slice (.int .u8)) a).bind fun xs => (toStrA C src dst xs).map fun r => (r.1, r.2, L)

section
variable {C : Cfg} {B : Nat} {m : Nat → Value} {L : Heap} {w : World} {S : Nat → Nat → Prop}

theorem grows_bytes (w : World) (e : TypeId) (s : ByteArray) : Grows w (Lib.bytesWorld w e s) := by
  have h1 := Lib.bytesWorld_size w e s
  refine ⟨?_, ?_, ?_, by omega, fun k hk => Lib.bytesWorld_at_old w e s k hk⟩
  all_goals
    unfold Lib.bytesWorld World.freeze
    split <;> rfl

theorem bytesI_len (s : ByteArray) : (bytesI s).length = s.size := by
  unfold bytesI
  rw [List.length_map, Array.length_toList]; rfl

theorem repL_ints {k : IntKind} : ∀ (l : List Int), RepL (RepC w S (.int k)) l (l.map (Value.int k))
  | [] => rfl
  | x :: l => ⟨[.int k x], l.map (Value.int k), rfl, rfl, repL_ints l⟩

theorem repL_ints_eq {k : IntKind} : ∀ {l : List Int} {cs : List Value}, RepL (RepC w S (.int k)) l cs → cs = l.map (Value.int k)
  | [], cs, h => h
  | x :: l, cs, h => by
    obtain ⟨c, d, rfl, h1, h2⟩ := h
    rw [repL_ints_eq h2]
    have : c = [.int k x] := h1
    rw [this]; rfl

/-- The bytes of a string: a new row, to be read. -/
theorem does_bytes (hC : C.OK) (hI : Inv B m L w S) {src dst : TypeId} {s : ByteArray} {av : AV} (hb : toBytesA C src dst s = some (true, av)) : Does C B (fun _ => false) m L w S (convert src dst (.string s)) av L := by
  unfold toBytesA at hb
  split at hb
  · rename_i te h1 h2 h3
    split at hb
    · rename_i h4
      cases hb
      have hs := und_str (hC.ty _ _ h1)
      have hd := elId_eq h3
      have he := und_int (hC.ty _ _ h4)
      have hrun := Lib.run_convert_string_bytes w src dst te s hs hd he
      have hg := grows_bytes w te s
      let S' : Nat → Nat → Prop := fun b o => S b o ∨ (b = w.heap.size ∧ o < s.size)
      have hsafe : Safe S S' w (Lib.bytesWorld w te s) := ⟨fun _ _ h => .inl h, fun b o h => hg.cell (hI.prot b o h).1⟩
      have hI' := hI.grows hg
      have hsz := Lib.bytesWorld_size w te s
      refine ⟨_, m, _, S', hrun, ⟨⟨hI'.base, ?_, ?_, hI'.apart, ?_⟩, hsafe, hg.below hI.base, Ext.refl _ _ _, ?_⟩, ?_⟩
      · intro id T x ro hL
        obtain ⟨b, cs, el, fr, q1, q2, q3, q4, q5⟩ := hI.box id T x ro hL
        exact ⟨b, cs, el, fr, q1, q2, by rw [hg.block b (Array.getElem?_eq_some_iff.1 q3).1]; exact q3, q4, q5.safe hsafe⟩
      · intro id t e xs ro hL
        obtain ⟨cs, q1, q2⟩ := hI.row id t e xs ro hL
        exact ⟨cs, row_grows hg q1, RepL.mono (fun x c h => h.safe hsafe) q2⟩
      · intro b o hs'
        rcases hs' with hs' | ⟨rfl, ho⟩
        · exact hI'.prot b o hs'
        · refine ⟨by omega, fun i sl hL hl hbk => ?_⟩
          have := (hI.lt hL hl hbk).2
          omega
      · intro b o hs'
        rcases hs' with hs' | ⟨rfl, ho⟩
        · exact .inl hs'
        · exact .inr hI.base
      · rw [rep_v]
        refine ⟨[_], ⟨some ⟨w.heap.size, 0, none⟩, grownCap w s.size 0 te, ?_, ?_, ?_⟩, rfl⟩
        · rw [bytesI_len]
        · rw [bytesI_len]; exact grownCap_ge w s.size 0 te
        · refine .inr ⟨w.heap.size, 0, _, rfl, repL_ints (bytesI s), fun j hj => ?_⟩
          have hj' : j < s.size := by simpa [bytesI_len] using hj
          refine ⟨?_, .inr ⟨rfl, by omega⟩⟩
          rw [Nat.zero_add, Lib.bytesWorld_cell w te s j hj']
          have hj2 : j < s.data.size := hj'
          simp [bytesI, List.getD, hj2, Array.getElem?_eq_getElem hj2]
    · cases hb
  · cases hb

theorem does_str (hC : C.OK) (hI : Inv B m L w S) {src dst : TypeId} {a : AV} {u : Value} (hx : RepA m L w S a u) {xs : List Int} (hl : liftA L (.slice (.int .u8)) a = some xs) {av : AV} (hb : toStrA C src dst xs = some (true, av)) :
    (convert src dst u).run C.P w = .ok (.string (ofBytes xs)) w ∧ av = .v .str (ofBytes xs) := by
  unfold toStrA at hb
  split at hb
  · rename_i te h1 h2 h3
    split at hb
    · rename_i h4
      cases hb
      refine ⟨?_, rfl⟩
      obtain ⟨A, c, rfl, hr⟩ := src_rep hI hx hl
      rw [run_convert_bytes_string w src dst te A xs.length c (elId_eq h3) (und_int (hC.ty _ _ h4)) (und_str (hC.ty _ _ h2))]
      rcases hr with rfl | ⟨b, o, ds, rfl, h5, h6⟩
      · cases A with
        | none => rfl
        | some a0 => exact run_bytesToString w a0 0 c [] (by simp [loadCells, loadCellsFrom, Sem.run_pure])
      · rw [repL_ints_eq h5] at h6
        refine run_bytesToString w _ _ c xs ?_
        have := run_loadCells_list (P := C.P) (w := w) ⟨b, o, none⟩ (xs.map (Value.int .u8)) (fun j v hj => by
          obtain ⟨hlt, rfl⟩ := List.getElem?_eq_some_iff.1 hj
          rw [add_at]; exact h6 j hlt)
        simpa using this
    · cases hb
  · cases hb

theorem does_conv (hC : C.OK) (hI : Inv B m L w S) {src dst : TypeId} {a : AV} {u : Value} (hx : RepA m L w S a u) {av : AV} {L' : Heap} (hb : convB C L src dst a = some (true, av, L')) : L' = L ∧ Does C B (fun _ => false) m L w S (convert src dst u) av L := by
  have rd : (convA C src dst a).map (fun r => (r.1, r.2, L)) = some (true, av, L') → L' = L ∧ Does C B (fun _ => false) m L w S (convert src dst u) av L := by
    intro h
    obtain ⟨⟨c, a'⟩, h1, h2⟩ := Option.map_eq_some_iff.1 h
    simp only [Prod.mk.injEq] at h2
    obtain ⟨rfl, rfl, rfl⟩ := h2
    obtain ⟨u', r1, r2⟩ := gives_conv hC hx _ h1
    exact ⟨rfl, u', m, w, S, r1, ⟨hI, Safe.refl _ _, Below.refl _ _, Ext.refl _ _ _, fun _ _ h => .inl h⟩, r2⟩
  unfold convB at hb
  split at hb
  · exact rd hb
  · cases hs : isStrTy C dst with
    | true => rw [hs] at hb; exact rd hb
    | false =>
      rw [hs] at hb
      obtain ⟨⟨c, a'⟩, h1, h2⟩ := Option.map_eq_some_iff.1 hb
      simp only [Prod.mk.injEq] at h2
      obtain ⟨rfl, rfl, rfl⟩ := h2
      rw [rep_str] at hx
      subst hx
      exact ⟨rfl, does_bytes hC hI h1⟩
  · obtain ⟨xs, hl, hb⟩ := Option.bind_eq_some_iff.1 hb
    obtain ⟨⟨c, a'⟩, h1, h2⟩ := Option.map_eq_some_iff.1 hb
    simp only [Prod.mk.injEq] at h2
    obtain ⟨rfl, rfl, rfl⟩ := h2
    obtain ⟨r1, rfl⟩ := does_str hC hI hx hl h1
    exact ⟨rfl, _, m, w, S, r1, ⟨hI, Safe.refl _ _, Below.refl _ _, Ext.refl _ _ _, fun _ _ h => .inl h⟩, rep_str.2 rfl⟩

theorem convB_L {src dst : TypeId} {a av : AV} {c : Bool} {L' : Heap} (hb : convB C L src dst a = some (c, av, L')) : L' = L := by
  have fin : ∀ {o : R}, o.map (fun r => (r.1, r.2, L)) = some (c, av, L') → L' = L := by
    intro o h
    obtain ⟨r, _, h2⟩ := Option.map_eq_some_iff.1 h
    simp only [Prod.mk.injEq] at h2
    exact h2.2.2.symm
  unfold convB at hb
  split at hb
  · exact fin hb
  · cases hs : isStrTy C dst with
    | true => rw [hs] at hb; exact fin hb
    | false => rw [hs] at hb; exact fin hb
  · obtain ⟨xs, _, hb⟩ := Option.bind_eq_some_iff.1 hb
    exact fin hb

theorem convA_v {src dst : TypeId} {a av : AV} {c : Bool} (h : convA C src dst a = some (c, av)) : ∃ τ x, av = .v τ x := by
  unfold convA at h
  split at h
  · split at h
    · cases h; exact ⟨_, _, rfl⟩
    · cases h
  · split at h
    · cases h; exact ⟨_, _, rfl⟩
    · cases h
  · cases h

theorem convB_v {src dst : TypeId} {σ : ETy} {y : σ.I} {av : AV} {c : Bool} {L' : Heap} (hb : convB C L src dst (.v σ y) = some (c, av, L')) : (∃ τ x, av = .v τ x) ∧ ∀ L2, convB C L2 src dst (.v σ y) = some (c, av, L2) := by
  have fin : ∀ {o : R}, (∀ r, o = some r → ∃ τ x, r.2 = .v τ x) → o.map (fun r => (r.1, r.2, L)) = some (c, av, L') → (∃ τ x, av = .v τ x) ∧ ∀ L2 : Heap, o.map (fun r => (r.1, r.2, L2)) = some (c, av, L2) := by
    intro o ho h
    obtain ⟨r, h1, h2⟩ := Option.map_eq_some_iff.1 h
    simp only [Prod.mk.injEq] at h2
    obtain ⟨rfl, rfl, _⟩ := h2
    subst h1
    exact ⟨ho r rfl, fun _ => rfl⟩
  unfold convB at hb ⊢
  split at hb
  · exact fin (fun r hr => convA_v hr) hb
  · cases hs : isStrTy C dst with
    | true => rw [hs] at hb; exact fin (fun r hr => convA_v hr) hb
    | false =>
      rw [hs] at hb
      refine fin (fun r hr => ?_) hb
      unfold toBytesA at hr
      split at hr
      · split at hr
        · cases hr; exact ⟨_, _, rfl⟩
        · cases hr
      · cases hr
  · obtain ⟨xs, h1, hb⟩ := Option.bind_eq_some_iff.1 hb
    have h1' : ∀ L2, liftA L2 (.slice (.int .u8)) (.v σ y) = some xs := fun L2 => h1
    simp only [h1', Option.bind_some]
    refine fin (fun r hr => ?_) hb
    unfold toStrA at hr
    split at hr
    · split at hr
      · cases hr; exact ⟨_, _, rfl⟩
      · cases hr
    · cases hr
end
end Go.Proofs.YtmphlhnpichonaaDoor.K

/- Addresses of parts, what lies at an address, slices of what is there, lengths. -/
import Derived.Test.YtmphlhnpichonaaDoorK7
set_option maxHeartbeats 200000
set_option linter.unusedVariables false
set_option linter.unusedSimpArgs false
namespace Go.Proofs.YtmphlhnpichonaaDoor.K
open Go Go.RowKit

def elemTy : Option ETy → Option (Nat × ETy)
  | some (.arr n e) => some (n, e)
  | _ => none

/-- The address of an element. -/
def indexAddrA (C : Cfg) (t : TypeId) (L : Heap) : AV → AV → R
  | .vp T x p, .v (.int _) i => (elemTy (tyP T p)).bind fun q => if C.Ty t = some (.arr q.1 q.2) then some (idxOK i q.1, .vp T x (p ++ [.idx (Int.toNat i)])) else none
  | .ref id p, .v (.int _) i => match L[id]? with
    | some (.box T _ _) => (elemTy (tyP T p)).bind fun q => if C.Ty t = some (.arr q.1 q.2) then some (idxOK i q.1, .ref id (p ++ [.idx (Int.toNat i)])) else none
    | _ => none
  | .v (.slice e) xs, .v (.int _) i => if C.Ty t = some (.slice e) then some (idxOK i (List.length xs), .vp (.arr (List.length xs) e) xs [.idx (Int.toNat i)]) else none
  | .ls id p lo n, .v (.int _) i => match L[id]? with
    | some (.box T _ _) => (elemTy (tyP T p)).bind fun q => if C.Ty t = some (.slice q.2) then some (idxOK i n, .ref id (p ++ [.idx (lo + Int.toNat i)])) else none
    | _ => none
  | .rs id, .v (.int _) i => match L[id]? with
    | some (.row _ e xs _) => if C.Ty t = some (.slice e) then some (idxOK i (List.length xs), .rref id (Int.toNat i) []) else none
    | _ => none
  | _, _ => none

/-- The bounds of a slice expression. -/
def subC : Option Int → Option Int → Nat → Bool
  | none, none, _ => true
  | some l, none, n => decide (0 ≤ l) && decide (l ≤ (n : Int))
  | none, some h, n => decide (0 ≤ h) && decide (h ≤ (n : Int))
  | some l, some h, n => decide (0 ≤ l) && decide (l ≤ h) && decide (h ≤ (n : Int))
def subLo : Option Int → Nat
  | none => 0
  | some l => l.toNat
def subHi : Option Int → Nat → Nat
  | none, n => n
  | some h, _ => h.toNat
def subL {α : Type} : Option Int → Option Int → List α → List α
  | none, none, xs => xs
  | some l, none, xs => xs.drop l.toNat
  | none, some h, xs => xs.take h.toNat
  | some l, some h, xs => (xs.take h.toNat).drop l.toNat
def subS (lo hi : Option Int) (s : ByteArray) : ByteArray := s.extract (subLo lo) (subHi hi s.size)

def bndA : Option AV → Option (Option Int)
  | none => some none
  | some (.v (.int _) i) => some (some i)
  | _ => none

/-- A slice expression. -/
def sliceA (C : Cfg) (t : TypeId) (L : Heap) (a : AV) (lo hi : Option AV) : R :=
  (bndA lo).bind fun l => (bndA hi).bind fun h =>
  match a with
  | .v .str s => if C.Ty t = some .str then some (subC l h (ByteArray.size s), .v .str (subS l h s)) else none
  | .v (.slice e) xs => if C.Ty t = some (.slice e) then some (subC l h (List.length xs), .v (.slice e) (subL l h xs)) else none
  | .ref id p => match L[id]? with
    | some (.box T _ _) => (elemTy (tyP T p)).bind fun q => if C.Ty t = some (.arr q.1 q.2) then some (subC l h q.1, .ls id p (subLo l) (subHi h q.1 - subLo l)) else none
    | _ => none
  | .ls id p o n => match L[id]? with
    | some (.box T _ _) => (elemTy (tyP T p)).bind fun q => if C.Ty t = some (.slice q.2) then some (subC l h n, .ls id p (o + subLo l) (subHi h n - subLo l)) else none
    | _ => none
  | _ => none

def intA (k : IntKind) (n : Int) : AV := .v (.int k) n

/-- The length. -/
def lenA (C : Cfg) (t : TypeId) (L : Heap) (a : AV) : R :=
  match C.Ty t with
  | some .str => match a with | .v .str s => ok1 (intA .i64 (ByteArray.size s)) | _ => none
  | some (.slice _) => match a with
    | .v (.slice _) xs => ok1 (intA .i64 (List.length xs))
    | .ls id p _ n => match L[id]? with | some (.box T _ _) => (elemTy (tyP T p)).bind fun _ => ok1 (intA .i64 n) | _ => none
    | .cst (.slice _ n _) => ok1 (intA .i64 n)
    | .rs id => match L[id]? with | some (.row _ _ xs _) => ok1 (intA .i64 xs.length) | _ => none
    | _ => none
  | some (.arr n _) => ok1 (intA .i64 n)
  | _ => none

section
variable {C : Cfg} {B : Nat} {m : Nat → Value} {L : Heap} {w : World} {S : Nat → Nat → Prop}

theorem elemTy_eq {o : Option ETy} {q : Nat × ETy} (h : elemTy o = some q) : o = some (.arr q.1 q.2) := by
  unfold elemTy at h
  split at h
  · simp only [Option.some.injEq] at h; subst h; rfl
  · cases h

theorem gives_bind {α : Type} {s : Sem Value} {o : Option α} {f : α → R} (h : ∀ x, o = some x → Gives C m L w S s (f x)) : Gives C m L w S s (o.bind f) := by
  cases o with
  | none => exact gives_none
  | some x => exact h x rfl

theorem gives_ite {s : Sem Value} {c : Prop} [Decidable c] {r : R} (h : c → Gives C m L w S s r) : Gives C m L w S s (if c then r else none) := by
  split
  · rename_i hc; exact h hc
  · exact gives_none

theorem gives_fieldAddr (hC : C.OK) {t : TypeId} {f : Nat} {a : AV} {u : Value} (hx : RepA m L w S a u) : Gives C m L w S (Instr.fieldAt t u f) (fieldAddrA C t L f a) := by
  unfold fieldAddrA
  split
  · rename_i T x p
    refine gives_bind fun τ hp => gives_ite fun ht => gives_bind fun σ hσ => ?_
    split
    · exact gives_none
    · rename_i hz
      simp only [RepA] at hx
      obtain ⟨h0, b, o, cs, rfl, h1, h2⟩ := hx
      obtain ⟨q1, q2, q3⟩ := off_append (q := [.fld f]) hp
      refine gives_ok1 (run_fieldAt (hC.ty _ _ ht) hσ hz) ?_
      simp only [RepA]
      exact ⟨q3 h0 (okP_fld hσ), b, o, cs, by rw [q1, Nat.add_assoc], h1, h2⟩
  · rename_i id p
    split
    · rename_i T x ro hL
      refine gives_bind fun τ hp => gives_ite fun ht => gives_bind fun σ hσ => ?_
      split
      · exact gives_none
      · rename_i hz
        simp only [RepA] at hx
        obtain ⟨s, h1, h2, h3⟩ := hx
        rw [hL] at h1; cases h1
        obtain ⟨h0, b, hm, rfl⟩ := h3 T x ro rfl
        obtain ⟨q1, q2, q3⟩ := off_append (q := [.fld f]) hp
        refine gives_ok1 (run_fieldAt (hC.ty _ _ ht) hσ hz) ?_
        simp only [RepA]
        refine ⟨_, hL, h2, fun T' x' ro' e => ?_⟩
        cases e
        exact ⟨q3 h0 (okP_fld hσ), b, hm, by rw [q1]⟩
    · exact gives_none
  · rename_i id i p
    split
    · rename_i t' e xs ro hL
      refine gives_bind fun τ hp => gives_ite fun ht => gives_bind fun σ hσ => ?_
      split
      · exact gives_none
      · rename_i hz
        simp only [RepA] at hx
        obtain ⟨s, h1, h2, h3⟩ := hx
        rw [hL] at h1; cases h1
        obtain ⟨hi, h0, b, n, c, hm, rfl⟩ := h3 t' e xs ro rfl
        obtain ⟨q1, q2, q3⟩ := off_append (q := [.fld f]) hp
        refine gives_ok1 (run_fieldAt (hC.ty _ _ ht) hσ hz) ?_
        simp only [RepA]
        refine ⟨_, hL, h2, fun t'' e' xs' ro' e => ?_⟩
        cases e
        exact ⟨hi, q3 h0 (okP_fld hσ), b, n, c, hm, by rw [q1, Nat.add_assoc]⟩
    · exact gives_none
  · exact gives_none

theorem cellsAt_mid {b o : Nat} {pre mid post : List Value} (h : CellsAt w b o (pre ++ mid ++ post)) : CellsAt w b (o + pre.length) mid := by
  intro j hj
  have := h (pre.length + j) (by simp; omega)
  rw [Nat.add_assoc, this]
  simp [List.getElem_append, hj]

theorem cellsAt_block {b : Nat} {cs : List Value} {el : TypeId} {fr : Nat × Nat} (h : w.heap[b]? = some (.cells cs.toArray el fr)) : CellsAt w b 0 cs := by
  intro j hj
  rw [cell_of_block h]
  simp [hj]

theorem row_cells {t : TypeId} {sz n : Nat} {v : Value} {cs : List Value} (h : w.ownsRow B t sz v n cs) {b c k : Nat} (hv : v = .slice (some ⟨b, 0, none⟩) k c) : CellsAt w b 0 cs := by
  intro j hj
  have := h.cells (g := b) (by rw [hv]; rfl) j cs[j] (by simp)
  rw [add_at] at this
  exact this

theorem gives_load (hC : C.OK) (hI : Inv B m L w S) {t : TypeId} {a : AV} {u : Value} (hx : RepA m L w S a u) : Gives C m L w S (Instr.loadAt t u) (loadA C t L a) := by
  unfold loadA
  split
  · rename_i T x p
    refine gives_bind fun d hd => gives_ite fun ht => ?_
    simp only [RepA] at hx
    obtain ⟨h0, b, o, cs, rfl, h1, h2⟩ := hx
    obtain ⟨pre, mid, post, rfl, e2, e3, _⟩ := getP_rep h0 h1 hd
    refine gives_ok1 ?_ (valOf_rep e3)
    simp only [Instr.loadAt, Instr.sureAddr, Sem.run_bind, Sem.run_pure, Result.andThen_ok]
    rw [← e2]
    exact run_loadVar' (hC.ty _ _ ht) e3.length (cellsAt_mid fun j hj => (h2 j hj).1)
  · rename_i id p
    split
    · rename_i T x ro hL
      refine gives_bind fun d hd => gives_ite fun ht => ?_
      simp only [RepA] at hx
      obtain ⟨s, h1, h2, h3⟩ := hx
      rw [hL] at h1; cases h1
      obtain ⟨h0, b, hm, rfl⟩ := h3 T x ro rfl
      obtain ⟨b', cs, el, fr, hm', hB, hb, hfr, hr⟩ := hI.box id T x ro hL
      rw [hm] at hm'; cases hm'
      obtain ⟨pre, mid, post, rfl, e2, e3, _⟩ := getP_rep h0 hr hd
      refine gives_ok1 ?_ (valOf_rep e3)
      simp only [Instr.loadAt, Instr.sureAddr, Sem.run_bind, Sem.run_pure, Result.andThen_ok]
      rw [← e2]
      have := cellsAt_mid (cellsAt_block hb)
      rw [Nat.zero_add] at this
      exact run_loadVar' (hC.ty _ _ ht) e3.length this
    · exact gives_none
  · rename_i id i p
    split
    · rename_i t' e xs ro hL
      refine gives_bind fun d hd => gives_ite fun ht => ?_
      simp only [RepA] at hx
      obtain ⟨s, h1, h2, h3⟩ := hx
      rw [hL] at h1; cases h1
      obtain ⟨hi, h0, b, n, c, hm, rfl⟩ := h3 t' e xs ro rfl
      obtain ⟨cs, ho, hr⟩ := hI.row id t' e xs ro hL
      obtain ⟨pre, mid, post, rfl, e2, e3, _⟩ := RepL.at_ (s := e.size) (fun x c h => RepC.length h) e.z i hr hi
      obtain ⟨pre', mid', post', rfl, e2', e3', _⟩ := getP_rep h0 e3 hd
      refine gives_ok1 ?_ (valOf_rep e3')
      simp only [Instr.loadAt, Instr.sureAddr, Sem.run_bind, Sem.run_pure, Result.andThen_ok]
      have h5 : CellsAt w b 0 ((pre ++ pre') ++ mid' ++ (post' ++ post)) := by
        have := row_cells ho hm
        simpa using this
      have := cellsAt_mid h5
      rw [Nat.zero_add, List.length_append, e2, e2'] at this
      exact run_loadVar' (hC.ty _ _ ht) e3'.length this
    · exact gives_none
  · exact gives_none

theorem run_indexAt_arr {t te : TypeId} {n : Nat} {e : ETy} {i : TypeInfo} {b o : Nat} {k : IntKind} {ix : Int} (hu : C.P.underlying t = some (.array n te)) (hi : C.P.info? te = some i) (hs : i.size = e.size) (h0 : 0 ≤ ix) (h1 : ix < (n : Int)) :
    (Instr.indexAt t (.pointer (some ⟨b, o, none⟩)) (.int k ix)).run C.P w = .ok (.pointer (some ⟨b, o + ix.toNat * e.size, none⟩)) w := by
  have hc : C.P.cellsOf te = e.size := by simp [Program.cellsOf, hi, hs]
  simp only [Instr.indexAt, asIntOf, Sem.run_bind, Sem.run_pure, Result.andThen_ok, run_underlying hu, Instr.sureAddr, h0, h1, and_self, if_true, run_sizeOf w hi, hc, add_at]

theorem run_indexAt_slice {t te : TypeId} {n c : Nat} {e : ETy} {i : TypeInfo} {b o : Nat} {k : IntKind} {ix : Int} (hu : C.P.underlying t = some (.slice te)) (hi : C.P.info? te = some i) (hs : i.size = e.size) (h0 : 0 ≤ ix) (h1 : ix < (n : Int)) :
    (Instr.indexAt t (.slice (some ⟨b, o, none⟩) n c) (.int k ix)).run C.P w = .ok (.pointer (some ⟨b, o + ix.toNat * e.size, none⟩)) w := by
  have hc : C.P.cellsOf te = e.size := by simp [Program.cellsOf, hi, hs]
  simp only [Instr.indexAt, asIntOf, Sem.run_bind, Sem.run_pure, Result.andThen_ok, run_underlying hu, h0, h1, and_self, if_true, run_sizeOf w hi, hc, add_at]

theorem okP_idx {n i : Nat} {e : ETy} (h : i < n) : okP (.arr n e) [.idx i] := by simp [okP, h]

theorem gives_indexAddr (hC : C.OK) (hI : Inv B m L w S) {t : TypeId} {a i : AV} {u v : Value} (hx : RepA m L w S a u) (hi : RepA m L w S i v) : Gives C m L w S (Instr.indexAt t u v) (indexAddrA C t L a i) := by
  unfold indexAddrA
  split
  · rename_i T x p k i
    rw [rep_int] at hi; subst hi
    refine gives_bind fun q hq => gives_ite fun ht => ?_
    intro z hz
    simp only [Option.some.injEq, Prod.mk.injEq] at hz
    obtain ⟨hb, rfl⟩ := hz
    obtain ⟨b1, b2⟩ := idxOK_iff.1 hb
    simp only [RepA] at hx
    obtain ⟨h0, b, o, cs, rfl, h1, h2⟩ := hx
    obtain ⟨te, inf, hu, hinf, hsz, hag⟩ := und_arr (hC.ty _ _ ht)
    obtain ⟨q1, q2, q3⟩ := off_append (q := [.idx (Int.toNat i)]) (elemTy_eq hq)
    refine ⟨_, run_indexAt_arr hu hinf hsz b1 b2, ?_⟩
    simp only [RepA]
    exact ⟨q3 h0 (okP_idx (toNat_lt b1 b2)), b, o, cs, by rw [q1]; simp [off, Nat.add_assoc], h1, h2⟩
  · rename_i id p k i
    rw [rep_int] at hi; subst hi
    split
    · rename_i T x ro hL
      refine gives_bind fun q hq => gives_ite fun ht => ?_
      intro z hz
      simp only [Option.some.injEq, Prod.mk.injEq] at hz
      obtain ⟨hb, rfl⟩ := hz
      obtain ⟨b1, b2⟩ := idxOK_iff.1 hb
      simp only [RepA] at hx
      obtain ⟨s, h1, h2, h3⟩ := hx
      rw [hL] at h1; cases h1
      obtain ⟨h0, b, hm, rfl⟩ := h3 T x ro rfl
      obtain ⟨te, inf, hu, hinf, hsz, hag⟩ := und_arr (hC.ty _ _ ht)
      obtain ⟨q1, q2, q3⟩ := off_append (q := [.idx (Int.toNat i)]) (elemTy_eq hq)
      refine ⟨_, run_indexAt_arr hu hinf hsz b1 b2, ?_⟩
      simp only [RepA]
      refine ⟨_, hL, h2, fun T' x' ro' e => ?_⟩
      cases e
      exact ⟨q3 h0 (okP_idx (toNat_lt b1 b2)), b, hm, by rw [q1]; simp [off]⟩
    · exact gives_none
  · rename_i e xs k i
    rw [rep_int] at hi; subst hi
    refine gives_ite fun ht => ?_
    intro z hz
    simp only [Option.some.injEq, Prod.mk.injEq] at hz
    obtain ⟨hb, rfl⟩ := hz
    obtain ⟨b1, b2⟩ := idxOK_iff.1 hb
    rw [rep_v] at hx
    obtain ⟨cs, hr, rfl⟩ := hx
    obtain ⟨A, cap, rfl, hcap, hr⟩ := hr
    have hlt := toNat_lt b1 b2
    rcases hr with rfl | ⟨b, o, ds, rfl, h1, h2⟩
    · simp at hlt
    · obtain ⟨te, inf, hu, hinf, hsz, _, hag⟩ := und_slice (hC.ty _ _ ht)
      refine ⟨_, run_indexAt_slice hu hinf hsz b1 b2, ?_⟩
      simp only [RepA]
      exact ⟨okP_idx hlt, b, o, ds, by simp [off], ⟨rfl, h1⟩, h2⟩
  · rename_i id p lo n k i
    rw [rep_int] at hi; subst hi
    split
    · rename_i T x ro hL
      refine gives_bind fun q hq => gives_ite fun ht => ?_
      intro z hz
      simp only [Option.some.injEq, Prod.mk.injEq] at hz
      obtain ⟨hb, rfl⟩ := hz
      obtain ⟨b1, b2⟩ := idxOK_iff.1 hb
      simp only [RepA] at hx
      obtain ⟨s, h1, h2, h3⟩ := hx
      rw [hL] at h1; cases h1
      obtain ⟨h0, hn, b, A, c, hc, hm, rfl, hA⟩ := h3 T x ro rfl q.1 q.2 (elemTy_eq hq)
      have hlt := toNat_lt b1 b2
      obtain rfl := hA.resolve_left (by omega)
      obtain ⟨te, inf, hu, hinf, hsz, _, hag⟩ := und_slice (hC.ty _ _ ht)
      obtain ⟨q1, q2, q3⟩ := off_append (q := [.idx (lo + Int.toNat i)]) (elemTy_eq hq)
      refine ⟨_, run_indexAt_slice hu hinf hsz b1 b2, ?_⟩
      simp only [RepA]
      refine ⟨_, hL, h2, fun T' x' ro' e => ?_⟩
      cases e
      refine ⟨q3 h0 (okP_idx (by omega)), b, hm, ?_⟩
      rw [q1]
      simp only [off, Nat.add_zero, Nat.add_mul, Nat.add_assoc]
    · exact gives_none
  · rename_i id k i
    rw [rep_int] at hi; subst hi
    split
    · rename_i t' e xs ro hL
      refine gives_ite fun ht => ?_
      intro z hz
      simp only [Option.some.injEq, Prod.mk.injEq] at hz
      obtain ⟨hb, rfl⟩ := hz
      obtain ⟨b1, b2⟩ := idxOK_iff.1 hb
      simp only [RepA] at hx
      obtain ⟨s, h1, h2, h3⟩ := hx
      rw [hL] at h1; cases h1
      obtain rfl := h3 t' e xs ro rfl
      obtain ⟨cs, ho, hr⟩ := hI.row id t' e xs ro hL
      have hlt := toNat_lt b1 b2
      rcases ho.2 with ⟨hv, hn⟩ | ⟨g, cap, cur, hv, hg⟩
      · omega
      · obtain ⟨te, inf, hu, hinf, hsz, _, hag⟩ := und_slice (hC.ty _ _ ht)
        rw [hv]
        refine ⟨_, run_indexAt_slice hu hinf hsz b1 b2, ?_⟩
        simp only [RepA]
        refine ⟨_, hL, h2, fun t'' e' xs' ro' e => ?_⟩
        cases e
        exact ⟨hlt, by simp [okP], g, _, cap, hv, by simp [off]⟩
    · exact gives_none
  · exact gives_none
end
end Go.Proofs.YtmphlhnpichonaaDoor.K

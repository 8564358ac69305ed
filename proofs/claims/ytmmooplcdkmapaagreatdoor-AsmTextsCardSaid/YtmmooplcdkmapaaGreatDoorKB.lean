/- Places: what a place is, what lies there; slices and their parts. Addresses of parts, what lies at an address, slices of what is there, lengths. Slices of what is there, lengths, the least and the greatest; all operations that only read, together. All operations that only read, by their form in the program. How the blocks of a call's own go on: new ones, writes, what is protected. Writes into one's own blocks; data made of what one's own blocks hold. -/
import Derived.Test.YtmmooplcdkmapaaGreatDoorKA
set_option maxHeartbeats 100000
set_option linter.unusedVariables false
set_option linter.unusedSimpArgs false
namespace Go.Proofs.YtmmooplcdkmapaaGreatDoor.K
open Go Go.RowKit

/-- A field of a struct value. -/
def fieldA (C : Cfg) (t : TypeId) (f : Nat) : AV → R
  | .v τ x => if C.Ty t = some τ then (getP τ x [.fld f]).map fun d => (true, .v d.τ d.x) else none
  | _ => none

def idxOK (i : Int) (n : Nat) : Bool := decide (0 ≤ i) && decide (i < (n : Int))

/-- An element of an array value, a byte of a string. -/
def indexA (C : Cfg) (t : TypeId) : AV → AV → R
  | .v (.arr n e) xs, .v (.int _) i => if C.Ty t = some (.arr n e) then some (idxOK i n, .v e (List.getD xs (Int.toNat i) e.z)) else none
  | .v .str s, .v (.int _) i => if C.Ty t = some .str then some (idxOK i (ByteArray.size s), .v (.int .u8) (bAt s (Int.toNat i))) else none
  | _, _ => none

/-- The address of a field. -/
def fieldAddrA (C : Cfg) (t : TypeId) (L : Heap) (f : Nat) : AV → R
  | .vp T x p => (tyP T p).bind fun τ => if C.Ty t = some τ then (tyP τ [.fld f]).bind fun σ => if σ.size = 0 then none else ok1 (.vp T x (p ++ [.fld f])) else none
  | .ref id p => match L[id]? with
    | some (.box T _ _) => (tyP T p).bind fun τ => if C.Ty t = some τ then (tyP τ [.fld f]).bind fun σ => if σ.size = 0 then none else ok1 (.ref id (p ++ [.fld f])) else none
    | _ => none
  | .rref id i p => match L[id]? with
    | some (.row _ e _ _) => (tyP e p).bind fun τ => if C.Ty t = some τ then (tyP τ [.fld f]).bind fun σ => if σ.size = 0 then none else ok1 (.rref id i (p ++ [.fld f])) else none
    | _ => none
  | _ => none

/-- What lies at an address. -/
def loadA (C : Cfg) (t : TypeId) (L : Heap) : AV → R
  | .vp T x p => (getP T x p).bind fun d => if C.Ty t = some d.τ then ok1 (.v d.τ d.x) else none
  | .ref id p => match L[id]? with
    | some (.box T x _) => (getP T x p).bind fun d => if C.Ty t = some d.τ then ok1 (.v d.τ d.x) else none
    | _ => none
  | .rref id i p => match L[id]? with
    | some (.row _ e xs _) => (getP e (xs.getD i e.z) p).bind fun d => if C.Ty t = some d.τ then ok1 (.v d.τ d.x) else none
    | _ => none
  | _ => none

section
variable {C : Cfg} {B : Nat} {m : Nat → Value} {L : Heap} {w : World} {S : Nat → Nat → Prop}

theorem toNat_lt {i : Int} {n : Nat} (h0 : 0 ≤ i) (h1 : i < n) : i.toNat < n := by omega

theorem idxOK_iff {i : Int} {n : Nat} : idxOK i n = true ↔ 0 ≤ i ∧ i < (n : Int) := by simp [idxOK]

theorem rep_agg_v {τ : ETy} {x : τ.I} {u : Value} (ha : τ.agg = true) (h : RepA m L w S (.v τ x) u) : ∃ cs : List Value, u = .agg cs.toArray ∧ RepC w S τ x cs := by
  rw [rep_v] at h; exact rep_agg ha h

theorem valOf_rep {τ : ETy} {x : τ.I} {cs : List Value} (h : RepC w S τ x cs) : RepA m L w S (.v τ x) (valOf τ cs) := by rw [rep_v]; exact ⟨cs, h, rfl⟩

theorem okP_fld {τ : ETy} {f : Nat} {σ : ETy} (h : tyP τ [.fld f] = some σ) : okP τ [.fld f] := by
  induction τ generalizing f with
  | pair a b iha ihb => cases f with
    | zero => simp [okP]
    | succ f => simp only [tyP] at h; simp only [okP]; exact ihb h
  | _ => simp [tyP] at h

theorem getP_ty : ∀ {T : ETy} {x : T.I} {p : List PStep} {d : Dat}, getP T x p = some d → tyP T p = some d.τ
  | T, x, [], d, h => by simp only [getP, Option.some.injEq] at h; subst h; simp [tyP]
  | .pair a b, x, .fld 0 :: p, d, h => by simp only [getP] at h; simp only [tyP]; exact getP_ty h
  | .pair a b, x, .fld (k + 1) :: p, d, h => by simp only [getP] at h; simp only [tyP]; exact getP_ty h
  | .arr n e, x, .idx i :: p, d, h => by simp only [getP] at h; simp only [tyP]; exact getP_ty h
  | .int _, _, .fld _ :: _, _, h | .int _, _, .idx _ :: _, _, h | .bool, _, .fld _ :: _, _, h | .bool, _, .idx _ :: _, _, h
  | .str, _, .fld _ :: _, _, h | .str, _, .idx _ :: _, _, h | .raw _, _, .fld _ :: _, _, h | .raw _, _, .idx _ :: _, _, h
  | .unit, _, .fld _ :: _, _, h | .unit, _, .idx _ :: _, _, h | .slice _, _, .fld _ :: _, _, h | .slice _, _, .idx _ :: _, _, h
  | .pair _ _, _, .idx _ :: _, _, h | .arr _ _, _, .fld _ :: _, _, h => by simp [getP] at h

theorem run_field {t : TypeId} {τ σ : ETy} {f : Nat} {cs pre mid post : List Value} (ht : GoodTy C.P t τ) (hs : tyP τ [.fld f] = some σ) (hc : cs = pre ++ mid ++ post) (ho : pre.length = off τ [.fld f]) (hl : mid.length = σ.size) :
    (Instr.field t (.agg cs.toArray) f).run C.P w = .ok (valOf σ mid) w := by
  obtain ⟨fs, fd, i, h1, h2, h3, h4, h5, h6⟩ := field_of ht hs
  have := run_part' (P := C.P) (w := w) (t := fd.type) (τ := σ) (xs := cs.toArray) (pre := pre) (mid := mid) (post := post) (by simp [hc]) (isAgg_of h6 w) (by rw [h4]; rfl) (by simp [Program.cellsOf, h4, h5]) hl
  rw [ho, ← h3] at this
  simp only [Instr.field, Sem.run_bind, run_underlying h1, Result.andThen_ok, h2, asAgg, Sem.run_pure, this]

theorem off_append : ∀ {T : ETy} {p : List PStep} {σ : ETy} {q : List PStep}, tyP T p = some σ → off T (p ++ q) = off T p + off σ q ∧ tyP T (p ++ q) = tyP σ q ∧ (okP T p → okP σ q → okP T (p ++ q))
  | T, [], σ, q, h => by simp only [tyP, Option.some.injEq] at h; subst h; simp [off, okP]
  | .pair a b, .fld 0 :: p, σ, q, h => by
    simp only [tyP] at h
    obtain ⟨h1, h2, h3⟩ := off_append (q := q) h
    exact ⟨by simp only [List.cons_append, off, h1], by simp only [List.cons_append, tyP, h2], by simpa only [List.cons_append, okP] using h3⟩
  | .pair a b, .fld (k + 1) :: p, σ, q, h => by
    simp only [tyP] at h
    obtain ⟨h1, h2, h3⟩ := off_append (q := q) h
    simp only [List.cons_append] at h1 h2 h3
    exact ⟨by simp only [List.cons_append, off, h1, Nat.add_assoc], by simp only [List.cons_append, tyP, h2], by simpa only [List.cons_append, okP] using h3⟩
  | .arr n e, .idx i :: p, σ, q, h => by
    simp only [tyP] at h
    obtain ⟨h1, h2, h3⟩ := off_append (q := q) h
    exact ⟨by simp only [List.cons_append, off, h1, Nat.add_assoc], by simp only [List.cons_append, tyP, h2], by simp only [List.cons_append, okP]; exact fun a b => ⟨a.1, h3 a.2 b⟩⟩
  | .int _, .fld _ :: _, _, _, h | .int _, .idx _ :: _, _, _, h | .bool, .fld _ :: _, _, _, h | .bool, .idx _ :: _, _, _, h
  | .str, .fld _ :: _, _, _, h | .str, .idx _ :: _, _, _, h | .raw _, .fld _ :: _, _, _, h | .raw _, .idx _ :: _, _, _, h
  | .unit, .fld _ :: _, _, _, h | .unit, .idx _ :: _, _, _, h | .slice _, .fld _ :: _, _, _, h | .slice _, .idx _ :: _, _, _, h
  | .pair _ _, .idx _ :: _, _, _, h | .arr _ _, .fld _ :: _, _, _, h => by simp [tyP] at h

theorem run_fieldAt {t : TypeId} {τ σ : ETy} {b o f : Nat} (ht : GoodTy C.P t τ) (hs : tyP τ [.fld f] = some σ) (hz : σ.size ≠ 0) :
    (Instr.fieldAt t (.pointer (some ⟨b, o, none⟩)) f).run C.P w = .ok (.pointer (some ⟨b, o + off τ [.fld f], none⟩)) w := by
  obtain ⟨fs, fd, i, h1, h2, h3, h4, h5, h6⟩ := field_of ht hs
  have hne : C.P.cellsOf fd.type ≠ 0 := by simp [Program.cellsOf, h4, h5, hz]
  simp only [Instr.fieldAt, Sem.run_bind, run_underlying h1, Result.andThen_ok, h2, Instr.sureAddr, Sem.run_pure, fieldPlace, run_sizeOf w h4, hne, if_false, add_at, h3]

theorem gives_field (hC : C.OK) {t : TypeId} {f : Nat} {a : AV} {u : Value} (hx : RepA m L w S a u) : Gives C m L w S (Instr.field t u f) (fieldA C t f a) := by
  unfold fieldA
  split
  · rename_i τ x
    split
    · rename_i ht
      intro b hb
      simp only [Option.map_eq_some_iff, Prod.mk.injEq, true_and] at hb
      obtain ⟨d, hd, rfl⟩ := hb
      have hty := getP_ty hd
      have hag : τ.agg = true := by
        cases τ with
        | pair a b => rfl
        | _ => simp [tyP] at hty
      obtain ⟨cs, rfl, hr⟩ := rep_agg_v hag hx
      obtain ⟨pre, mid, post, e1, e2, e3, _⟩ := getP_rep (okP_fld hty) hr hd
      exact ⟨_, run_field (hC.ty _ _ ht) hty e1 e2 e3.length, valOf_rep e3⟩
    · exact gives_none
  · exact gives_none

theorem gives_index (hC : C.OK) {t : TypeId} {a i : AV} {u v : Value} (hx : RepA m L w S a u) (hi : RepA m L w S i v) : Gives C m L w S (Instr.index t u v) (indexA C t a i) := by
  unfold indexA
  split
  · rename_i n e xs k i
    rw [rep_int] at hi
    subst hi
    split
    · rename_i ht
      obtain ⟨cs, rfl, hr⟩ := rep_agg_v rfl hx
      obtain ⟨h0, h1⟩ := hr
      obtain ⟨te, inf, hu, hinf, hsz, hag⟩ := und_arr (hC.ty _ _ ht)
      · by_cases hb : 0 ≤ (i : Int) ∧ (i : Int) < (n : Int)
        · obtain ⟨pre, mid, post, e1, e2, e3, _⟩ := RepL.at_ (s := e.size) (fun x c h => RepC.length h) e.z (Int.toNat i) h1 (by rw [h0]; exact toNat_lt hb.1 hb.2)
          refine gives_if (u := valOf e mid) (fun h => ?_) (valOf_rep e3)
          have := run_part' (P := C.P) (w := w) (t := te) (τ := e) (xs := cs.toArray) (pre := pre) (mid := mid) (post := post) (by simp [e1]) (isAgg_of hag w) (by rw [hinf]; rfl) (by simp [Program.cellsOf, hinf, hsz]) e3.length
          rw [e2] at this
          have hc : C.P.cellsOf te = e.size := by simp [Program.cellsOf, hinf, hsz]
          simp only [Instr.index, asIntOf, Sem.run_bind, Sem.run_pure, Result.andThen_ok, run_underlying hu, hb, and_self, if_true, run_sizeOf w hinf, hc, this]
        · intro b hbb
          simp only [Option.some.injEq, Prod.mk.injEq] at hbb
          exact absurd (idxOK_iff.1 hbb.1) hb
    · exact gives_none
  · rename_i s k i
    rw [rep_int] at hi
    rw [rep_str] at hx
    subst hi; subst hx
    split
    · rename_i ht
      refine gives_if (u := .int .u8 (bAt s (Int.toNat i))) (fun h => ?_) (rep_int.2 rfl)
      obtain ⟨h1, h2⟩ := idxOK_iff.1 h
      have hu := und_str (hC.ty _ _ ht)
      have hlt : Int.toNat i < s.size := by omega
      have hg : s[Int.toNat i]? = some s[Int.toNat i] := by simp [hlt]
      simp only [Instr.index, asIntOf, Sem.run_bind, Sem.run_pure, Result.andThen_ok, run_underlying hu, h1, if_true, hg]
      congr 2
      unfold bAt
      simp [List.getD_eq_getElem?_getD, ByteArray.getElem_eq_getElem_data, hlt]
    · exact gives_none
  · exact gives_none
end
end Go.Proofs.YtmmooplcdkmapaaGreatDoor.K

set_option maxHeartbeats 200000
set_option linter.unusedVariables false
set_option linter.unusedSimpArgs false
namespace Go.Proofs.YtmmooplcdkmapaaGreatDoor.K
open Go Go.RowKit

def elemTy : Option ETy → Option (Nat × ETy)
  | some (.arr n e) => some (n, e)
  | _ => none

/-- The address of an element. -/
def indexAddrA (C : Cfg) (t : TypeId) (L : Heap) : AV → AV → R
  | .vp T x p, .v (.int _) i => (elemTy (tyP T p)).bind fun q => if C.Ty t = some (.arr q.1 q.2) then some (idxOK i q.1, .vp T x (p ++ [.idx (Int.toNat i)])) else none
  | .ref id p, .v (.int _) i => match L[id]? with
    | some (.box T _ _) => (elemTy (tyP T p)).bind fun q => if C.Ty t = some (.arr q.1 q.2) then some (idxOK i q.1, .ref id (p ++ [.idx (Int.toNat i)])) else none
    | _ => none
  | .v (.slice e) xs, .v (.int _) i => if C.Ty t = some (.slice e) then some (idxOK i (List.length xs), .vp (.arr (List.length xs) e) xs [.idx (Int.toNat i)]) else none
  | .ls id p lo n, .v (.int _) i => match L[id]? with
    | some (.box T _ _) => (elemTy (tyP T p)).bind fun q => if C.Ty t = some (.slice q.2) then some (idxOK i n, .ref id (p ++ [.idx (lo + Int.toNat i)])) else none
    | _ => none
  | .rs id, .v (.int _) i => match L[id]? with
    | some (.row _ e xs _) => if C.Ty t = some (.slice e) then some (idxOK i (List.length xs), .rref id (Int.toNat i) []) else none
    | _ => none
  | .lr id lo n, .v (.int _) i => match L[id]? with
    | some (.row _ e _ _) => if C.Ty t = some (.slice e) then some (idxOK i n, .rref id (lo + Int.toNat i) []) else none
    | _ => none
  | _, _ => none

/-- The bounds of a slice expression. -/
def subC : Option Int → Option Int → Nat → Bool
  | none, none, _ => true
  | some l, none, n => decide (0 ≤ l) && decide (l ≤ (n : Int))
  | none, some h, n => decide (0 ≤ h) && decide (h ≤ (n : Int))
  | some l, some h, n => decide (0 ≤ l) && decide (l ≤ h) && decide (h ≤ (n : Int))
def subLo : Option Int → Nat
  | none => 0
  | some l => l.toNat
def subHi : Option Int → Nat → Nat
  | none, n => n
  | some h, _ => h.toNat
def subL {α : Type} : Option Int → Option Int → List α → List α
  | none, none, xs => xs
  | some l, none, xs => xs.drop l.toNat
  | none, some h, xs => xs.take h.toNat
  | some l, some h, xs => (xs.take h.toNat).drop l.toNat
def subS (lo hi : Option Int) (s : ByteArray) : ByteArray := s.extract (subLo lo) (subHi hi s.size)

def bndA : Option AV → Option (Option Int)
  | none => some none
  | some (.v (.int _) i) => some (some i)
  | _ => none

/-- A slice expression. -/
def sliceA (C : Cfg) (t : TypeId) (L : Heap) (a : AV) (lo hi : Option AV) : R :=
  (bndA lo).bind fun l => (bndA hi).bind fun h =>
  match a with
  | .v .str s => if C.Ty t = some .str then some (subC l h (ByteArray.size s), .v .str (subS l h s)) else none
  | .v (.slice e) xs => if C.Ty t = some (.slice e) then some (subC l h (List.length xs), .v (.slice e) (subL l h xs)) else none
  | .ref id p => match L[id]? with
    | some (.box T _ _) => (elemTy (tyP T p)).bind fun q => if C.Ty t = some (.arr q.1 q.2) then some (subC l h q.1, .ls id p (subLo l) (subHi h q.1 - subLo l)) else none
    | _ => none
  | .ls id p o n => match L[id]? with
    | some (.box T _ _) => (elemTy (tyP T p)).bind fun q => if C.Ty t = some (.slice q.2) then some (subC l h n, .ls id p (o + subLo l) (subHi h n - subLo l)) else none
    | _ => none
  | .rs id => match L[id]? with
    | some (.row _ e xs _) => if C.Ty t = some (.slice e) then some (subC l h (List.length xs), .lr id (subLo l) (subHi h (List.length xs) - subLo l)) else none
    | _ => none
  | .lr id o n => match L[id]? with
    | some (.row _ e _ _) => if C.Ty t = some (.slice e) then some (subC l h n, .lr id (o + subLo l) (subHi h n - subLo l)) else none
    | _ => none
  | _ => none

def intA (k : IntKind) (n : Int) : AV := .v (.int k) n

/-- The length. -/
def lenA (C : Cfg) (t : TypeId) (L : Heap) (a : AV) : R :=
  match C.Ty t with
  | some .str => match a with | .v .str s => ok1 (intA .i64 (ByteArray.size s)) | _ => none
  | some (.slice _) => match a with
    | .v (.slice _) xs => ok1 (intA .i64 (List.length xs))
    | .ls id p _ n => match L[id]? with | some (.box T _ _) => (elemTy (tyP T p)).bind fun _ => ok1 (intA .i64 n) | _ => none
    | .cst (.slice _ n _) => ok1 (intA .i64 n)
    | .rs id => match L[id]? with | some (.row _ _ xs _) => ok1 (intA .i64 xs.length) | _ => none
    | .lr id _ n => match L[id]? with | some (.row _ _ _ _) => ok1 (intA .i64 n) | _ => none
    | _ => none
  | some (.arr n _) => ok1 (intA .i64 n)
  | _ => none

section
variable {C : Cfg} {B : Nat} {m : Nat → Value} {L : Heap} {w : World} {S : Nat → Nat → Prop}

theorem elemTy_eq {o : Option ETy} {q : Nat × ETy} (h : elemTy o = some q) : o = some (.arr q.1 q.2) := by
  unfold elemTy at h
  split at h
  · simp only [Option.some.injEq] at h; subst h; rfl
  · cases h

theorem gives_bind {α : Type} {s : Sem Value} {o : Option α} {f : α → R} (h : ∀ x, o = some x → Gives C m L w S s (f x)) : Gives C m L w S s (o.bind f) := by
  cases o with
  | none => exact gives_none
  | some x => exact h x rfl

theorem gives_ite {s : Sem Value} {c : Prop} [Decidable c] {r : R} (h : c → Gives C m L w S s r) : Gives C m L w S s (if c then r else none) := by
  split
  · rename_i hc; exact h hc
  · exact gives_none

theorem gives_fieldAddr (hC : C.OK) {t : TypeId} {f : Nat} {a : AV} {u : Value} (hx : RepA m L w S a u) : Gives C m L w S (Instr.fieldAt t u f) (fieldAddrA C t L f a) := by
  unfold fieldAddrA
  split
  · rename_i T x p
    refine gives_bind fun τ hp => gives_ite fun ht => gives_bind fun σ hσ => ?_
    split
    · exact gives_none
    · rename_i hz
      simp only [RepA] at hx
      obtain ⟨h0, b, o, cs, rfl, h1, h2⟩ := hx
      obtain ⟨q1, q2, q3⟩ := off_append (q := [.fld f]) hp
      refine gives_ok1 (run_fieldAt (hC.ty _ _ ht) hσ hz) ?_
      simp only [RepA]
      exact ⟨q3 h0 (okP_fld hσ), b, o, cs, by rw [q1, Nat.add_assoc], h1, h2⟩
  · rename_i id p
    split
    · rename_i T x ro hL
      refine gives_bind fun τ hp => gives_ite fun ht => gives_bind fun σ hσ => ?_
      split
      · exact gives_none
      · rename_i hz
        simp only [RepA] at hx
        obtain ⟨s, h1, h2, h3⟩ := hx
        rw [hL] at h1; cases h1
        obtain ⟨h0, b, hm, rfl⟩ := h3.1 T rfl
        obtain ⟨q1, q2, q3⟩ := off_append (q := [.fld f]) hp
        refine gives_ok1 (run_fieldAt (hC.ty _ _ ht) hσ hz) ?_
        simp only [RepA]
        refine ⟨_, hL, h2, fun T' e => ?_, fun o e => by cases e⟩
        cases e
        exact ⟨q3 h0 (okP_fld hσ), b, hm, by rw [q1]⟩
    · exact gives_none
  · rename_i id i p
    split
    · rename_i t' e xs ro hL
      refine gives_bind fun τ hp => gives_ite fun ht => gives_bind fun σ hσ => ?_
      split
      · exact gives_none
      · rename_i hz
        simp only [RepA] at hx
        obtain ⟨s, h1, h2, h3⟩ := hx
        rw [hL] at h1; cases h1
        obtain ⟨hi, h0, b, n, c, hm, rfl⟩ := h3 t' e xs ro rfl
        obtain ⟨q1, q2, q3⟩ := off_append (q := [.fld f]) hp
        refine gives_ok1 (run_fieldAt (hC.ty _ _ ht) hσ hz) ?_
        simp only [RepA]
        refine ⟨_, hL, h2, fun t'' e' xs' ro' e => ?_⟩
        cases e
        exact ⟨hi, q3 h0 (okP_fld hσ), b, n, c, hm, by rw [q1, Nat.add_assoc]⟩
    · exact gives_none
  · exact gives_none

theorem cellsAt_mid {b o : Nat} {pre mid post : List Value} (h : CellsAt w b o (pre ++ mid ++ post)) : CellsAt w b (o + pre.length) mid := by
  intro j hj
  have := h (pre.length + j) (by simp; omega)
  rw [Nat.add_assoc, this]
  simp [List.getElem_append, hj]

theorem cellsAt_block {b : Nat} {cs : List Value} {el : TypeId} {fr : Nat × Nat} (h : w.heap[b]? = some (.cells cs.toArray el fr)) : CellsAt w b 0 cs := by
  intro j hj
  rw [cell_of_block h]
  simp [hj]

theorem row_cells {t : TypeId} {sz n : Nat} {v : Value} {cs : List Value} (h : w.ownsRow B t sz v n cs) {b c k : Nat} (hv : v = .slice (some ⟨b, 0, none⟩) k c) : CellsAt w b 0 cs := by
  intro j hj
  have := h.cells (g := b) (by rw [hv]; rfl) j cs[j] (by simp)
  rw [add_at] at this
  exact this

theorem gives_load (hC : C.OK) (hI : Inv B m L w S) {t : TypeId} {a : AV} {u : Value} (hx : RepA m L w S a u) : Gives C m L w S (Instr.loadAt t u) (loadA C t L a) := by
  unfold loadA
  split
  · rename_i T x p
    refine gives_bind fun d hd => gives_ite fun ht => ?_
    simp only [RepA] at hx
    obtain ⟨h0, b, o, cs, rfl, h1, h2⟩ := hx
    obtain ⟨pre, mid, post, rfl, e2, e3, _⟩ := getP_rep h0 h1 hd
    refine gives_ok1 ?_ (valOf_rep e3)
    simp only [Instr.loadAt, Instr.sureAddr, Sem.run_bind, Sem.run_pure, Result.andThen_ok]
    rw [← e2]
    exact run_loadVar' (hC.ty _ _ ht) e3.length (cellsAt_mid fun j hj => (h2 j hj).1)
  · rename_i id p
    split
    · rename_i T x ro hL
      refine gives_bind fun d hd => gives_ite fun ht => ?_
      simp only [RepA] at hx
      obtain ⟨s, h1, h2, h3⟩ := hx
      rw [hL] at h1; cases h1
      obtain ⟨h0, b, hm, rfl⟩ := h3.1 T rfl
      obtain ⟨b', cs, el, fr, hm', hB, hb, hfr, hr⟩ := hI.box id T x ro hL
      rw [hm] at hm'; cases hm'
      obtain ⟨pre, mid, post, rfl, e2, e3, _⟩ := getP_rep h0 hr hd
      refine gives_ok1 ?_ (valOf_rep e3)
      simp only [Instr.loadAt, Instr.sureAddr, Sem.run_bind, Sem.run_pure, Result.andThen_ok]
      rw [← e2]
      have := cellsAt_mid (cellsAt_block hb)
      rw [Nat.zero_add] at this
      exact run_loadVar' (hC.ty _ _ ht) e3.length this
    · exact gives_none
  · rename_i id i p
    split
    · rename_i t' e xs ro hL
      refine gives_bind fun d hd => gives_ite fun ht => ?_
      simp only [RepA] at hx
      obtain ⟨s, h1, h2, h3⟩ := hx
      rw [hL] at h1; cases h1
      obtain ⟨hi, h0, b, n, c, hm, rfl⟩ := h3 t' e xs ro rfl
      obtain ⟨cs, ho, hr⟩ := hI.row id t' e xs ro hL
      obtain ⟨pre, mid, post, rfl, e2, e3, _⟩ := RepL.at_ (s := e.size) (fun x c h => RepC.length h) e.z i hr hi
      obtain ⟨pre', mid', post', rfl, e2', e3', _⟩ := getP_rep h0 e3 hd
      refine gives_ok1 ?_ (valOf_rep e3')
      simp only [Instr.loadAt, Instr.sureAddr, Sem.run_bind, Sem.run_pure, Result.andThen_ok]
      have h5 : CellsAt w b 0 ((pre ++ pre') ++ mid' ++ (post' ++ post)) := by
        have := row_cells ho hm
        simpa using this
      have := cellsAt_mid h5
      rw [Nat.zero_add, List.length_append, e2, e2'] at this
      exact run_loadVar' (hC.ty _ _ ht) e3'.length this
    · exact gives_none
  · exact gives_none

theorem run_indexAt_arr {t te : TypeId} {n : Nat} {e : ETy} {i : TypeInfo} {b o : Nat} {k : IntKind} {ix : Int} (hu : C.P.underlying t = some (.array n te)) (hi : C.P.info? te = some i) (hs : i.size = e.size) (h0 : 0 ≤ ix) (h1 : ix < (n : Int)) :
    (Instr.indexAt t (.pointer (some ⟨b, o, none⟩)) (.int k ix)).run C.P w = .ok (.pointer (some ⟨b, o + ix.toNat * e.size, none⟩)) w := by
  have hc : C.P.cellsOf te = e.size := by simp [Program.cellsOf, hi, hs]
  simp only [Instr.indexAt, asIntOf, Sem.run_bind, Sem.run_pure, Result.andThen_ok, run_underlying hu, Instr.sureAddr, h0, h1, and_self, if_true, run_sizeOf w hi, hc, add_at]

theorem run_indexAt_slice {t te : TypeId} {n c : Nat} {e : ETy} {i : TypeInfo} {b o : Nat} {k : IntKind} {ix : Int} (hu : C.P.underlying t = some (.slice te)) (hi : C.P.info? te = some i) (hs : i.size = e.size) (h0 : 0 ≤ ix) (h1 : ix < (n : Int)) :
    (Instr.indexAt t (.slice (some ⟨b, o, none⟩) n c) (.int k ix)).run C.P w = .ok (.pointer (some ⟨b, o + ix.toNat * e.size, none⟩)) w := by
  have hc : C.P.cellsOf te = e.size := by simp [Program.cellsOf, hi, hs]
  simp only [Instr.indexAt, asIntOf, Sem.run_bind, Sem.run_pure, Result.andThen_ok, run_underlying hu, h0, h1, and_self, if_true, run_sizeOf w hi, hc, add_at]

theorem okP_idx {n i : Nat} {e : ETy} (h : i < n) : okP (.arr n e) [.idx i] := by simp [okP, h]

theorem gives_indexAddr (hC : C.OK) (hI : Inv B m L w S) {t : TypeId} {a i : AV} {u v : Value} (hx : RepA m L w S a u) (hi : RepA m L w S i v) : Gives C m L w S (Instr.indexAt t u v) (indexAddrA C t L a i) := by
  unfold indexAddrA
  split
  · rename_i T x p k i
    rw [rep_int] at hi; subst hi
    refine gives_bind fun q hq => gives_ite fun ht => ?_
    intro z hz
    simp only [Option.some.injEq, Prod.mk.injEq] at hz
    obtain ⟨hb, rfl⟩ := hz
    obtain ⟨b1, b2⟩ := idxOK_iff.1 hb
    simp only [RepA] at hx
    obtain ⟨h0, b, o, cs, rfl, h1, h2⟩ := hx
    obtain ⟨te, inf, hu, hinf, hsz, hag⟩ := und_arr (hC.ty _ _ ht)
    obtain ⟨q1, q2, q3⟩ := off_append (q := [.idx (Int.toNat i)]) (elemTy_eq hq)
    refine ⟨_, run_indexAt_arr hu hinf hsz b1 b2, ?_⟩
    simp only [RepA]
    exact ⟨q3 h0 (okP_idx (toNat_lt b1 b2)), b, o, cs, by rw [q1]; simp [off, Nat.add_assoc], h1, h2⟩
  · rename_i id p k i
    rw [rep_int] at hi; subst hi
    split
    · rename_i T x ro hL
      refine gives_bind fun q hq => gives_ite fun ht => ?_
      intro z hz
      simp only [Option.some.injEq, Prod.mk.injEq] at hz
      obtain ⟨hb, rfl⟩ := hz
      obtain ⟨b1, b2⟩ := idxOK_iff.1 hb
      simp only [RepA] at hx
      obtain ⟨s, h1, h2, h3⟩ := hx
      rw [hL] at h1; cases h1
      obtain ⟨h0, b, hm, rfl⟩ := h3.1 T rfl
      obtain ⟨te, inf, hu, hinf, hsz, hag⟩ := und_arr (hC.ty _ _ ht)
      obtain ⟨q1, q2, q3⟩ := off_append (q := [.idx (Int.toNat i)]) (elemTy_eq hq)
      refine ⟨_, run_indexAt_arr hu hinf hsz b1 b2, ?_⟩
      simp only [RepA]
      refine ⟨_, hL, h2, fun T' e => ?_, fun o e => by cases e⟩
      cases e
      exact ⟨q3 h0 (okP_idx (toNat_lt b1 b2)), b, hm, by rw [q1]; simp [off]⟩
    · exact gives_none
  · rename_i e xs k i
    rw [rep_int] at hi; subst hi
    refine gives_ite fun ht => ?_
    intro z hz
    simp only [Option.some.injEq, Prod.mk.injEq] at hz
    obtain ⟨hb, rfl⟩ := hz
    obtain ⟨b1, b2⟩ := idxOK_iff.1 hb
    rw [rep_v] at hx
    obtain ⟨cs, hr, rfl⟩ := hx
    obtain ⟨A, cap, rfl, hcap, hr⟩ := hr
    have hlt := toNat_lt b1 b2
    rcases hr with rfl | ⟨b, o, ds, rfl, h1, h2⟩
    · simp at hlt
    · obtain ⟨te, inf, hu, hinf, hsz, _, hag⟩ := und_slice (hC.ty _ _ ht)
      refine ⟨_, run_indexAt_slice hu hinf hsz b1 b2, ?_⟩
      simp only [RepA]
      exact ⟨okP_idx hlt, b, o, ds, by simp [off], ⟨rfl, h1⟩, h2⟩
  · rename_i id p lo n k i
    rw [rep_int] at hi; subst hi
    split
    · rename_i T x ro hL
      refine gives_bind fun q hq => gives_ite fun ht => ?_
      intro z hz
      simp only [Option.some.injEq, Prod.mk.injEq] at hz
      obtain ⟨hb, rfl⟩ := hz
      obtain ⟨b1, b2⟩ := idxOK_iff.1 hb
      simp only [RepA] at hx
      obtain ⟨s, h1, h2, h3⟩ := hx
      rw [hL] at h1; cases h1
      obtain ⟨h0, hn, b, A, c, hc, hm, rfl, hA⟩ := h3 T rfl q.1 q.2 (elemTy_eq hq)
      have hlt := toNat_lt b1 b2
      obtain rfl := hA.resolve_left (by omega)
      obtain ⟨te, inf, hu, hinf, hsz, _, hag⟩ := und_slice (hC.ty _ _ ht)
      obtain ⟨q1, q2, q3⟩ := off_append (q := [.idx (lo + Int.toNat i)]) (elemTy_eq hq)
      refine ⟨_, run_indexAt_slice hu hinf hsz b1 b2, ?_⟩
      simp only [RepA]
      refine ⟨_, hL, h2, fun T' e => ?_, fun o e => by cases e⟩
      cases e
      refine ⟨q3 h0 (okP_idx (by omega)), b, hm, ?_⟩
      rw [q1]
      simp only [off, Nat.add_zero, Nat.add_mul, Nat.add_assoc]
    · exact gives_none
  · rename_i id k i
    rw [rep_int] at hi; subst hi
    split
    · rename_i t' e xs ro hL
      refine gives_ite fun ht => ?_
      intro z hz
      simp only [Option.some.injEq, Prod.mk.injEq] at hz
      obtain ⟨hb, rfl⟩ := hz
      obtain ⟨b1, b2⟩ := idxOK_iff.1 hb
      simp only [RepA] at hx
      obtain ⟨s, h1, h2, h3⟩ := hx
      rw [hL] at h1; cases h1
      obtain rfl := h3 t' e xs ro rfl
      obtain ⟨cs, ho, hr⟩ := hI.row id t' e xs ro hL
      have hlt := toNat_lt b1 b2
      rcases ho.2 with ⟨hv, hn⟩ | ⟨g, cap, cur, hv, hg⟩
      · omega
      · obtain ⟨te, inf, hu, hinf, hsz, _, hag⟩ := und_slice (hC.ty _ _ ht)
        rw [hv]
        refine ⟨_, run_indexAt_slice hu hinf hsz b1 b2, ?_⟩
        simp only [RepA]
        refine ⟨_, hL, h2, fun t'' e' xs' ro' e => ?_⟩
        cases e
        exact ⟨hlt, by simp [okP], g, _, cap, hv, by simp [off]⟩
    · exact gives_none
  · rename_i id lo n k i
    rw [rep_int] at hi; subst hi
    split
    · rename_i t' e xs ro hL
      refine gives_ite fun ht => ?_
      intro z hz
      simp only [Option.some.injEq, Prod.mk.injEq] at hz
      obtain ⟨hb, rfl⟩ := hz
      obtain ⟨b1, b2⟩ := idxOK_iff.1 hb
      simp only [RepA] at hx
      obtain ⟨s, h1, h2, h3⟩ := hx
      rw [hL] at h1; cases h1
      obtain ⟨hn, A, c, hc, rfl, hA⟩ := h3 t' e xs ro rfl
      have hlt := toNat_lt b1 b2
      obtain ⟨g, k, c1, hm, rfl⟩ := hA.resolve_left (by omega)
      obtain ⟨te, inf, hu, hinf, hsz, _, hag⟩ := und_slice (hC.ty _ _ ht)
      refine ⟨_, run_indexAt_slice hu hinf hsz b1 b2, ?_⟩
      simp only [RepA]
      refine ⟨_, hL, h2, fun t'' e' xs' ro' e => ?_⟩
      cases e
      exact ⟨by omega, by simp [okP], g, k, c1, hm, by simp [off, Nat.add_mul]⟩
    · exact gives_none
  · exact gives_none
end
end Go.Proofs.YtmmooplcdkmapaaGreatDoor.K

set_option maxHeartbeats 200000
set_option linter.unusedVariables false
set_option linter.unusedSimpArgs false
namespace Go.Proofs.YtmmooplcdkmapaaGreatDoor.K
open Go Go.RowKit

section
variable {C : Cfg} {B : Nat} {m : Nat → Value} {L : Heap} {w : World} {S : Nat → Nat → Prop}

def RepO (m : Nat → Value) (L : Heap) (w : World) (S : Nat → Nat → Prop) : Option AV → Option Value → Prop
  | none, none => True
  | some a, some u => RepA m L w S a u
  | _, _ => False

theorem bnd_rep {a : Option AV} {u : Option Value} {l : Option Int} (h : RepO m L w S a u) (hb : bndA a = some l) : (a = none ∧ u = none ∧ l = none) ∨ ∃ k i, u = some (.int k i) ∧ l = some i := by
  cases a with
  | none => cases u with
    | none => simp only [bndA, Option.some.injEq] at hb; exact .inl ⟨rfl, rfl, hb.symm⟩
    | some _ => simp [RepO] at h
  | some a => cases u with
    | none => simp [RepO] at h
    | some u =>
      simp only [RepO] at h
      unfold bndA at hb
      split at hb
      · rename_i ha; cases ha
      · rename_i k i ha
        cases ha
        simp only [Option.some.injEq] at hb
        rw [rep_int] at h
        exact .inr ⟨k, i, by rw [h], hb.symm⟩
      · cases hb

theorem run_sliceBound {k : IntKind} {i : Int} {y : Nat} {code : BoundsCode} (h0 : 0 ≤ i) (h1 : i ≤ (y : Int)) : (Instr.sliceBound (.int k i) y code).run C.P w = .ok i.toNat w := by
  simp only [Instr.sliceBound, asIntOf, Sem.run_bind, Sem.run_pure, Result.andThen_ok, h0, h1, and_self, if_true]

theorem run_sliceBounds {sl : Bool} {n cap : Nat} {lo hi : Option AV} {lv hv : Option Value} {l h : Option Int} (hl : RepO m L w S lo lv) (hh : RepO m L w S hi hv) (bl : bndA lo = some l) (bh : bndA hi = some h)
    (hc : subC l h n = true) (hn : n ≤ cap) : (Instr.sliceBounds sl n cap lv hv none).run C.P w = .ok (subLo l, subHi h n, cap) w ∧ subLo l ≤ subHi h n ∧ subHi h n ≤ n := by
  rcases bnd_rep hl bl with ⟨_, rfl, rfl⟩ | ⟨k, i, rfl, rfl⟩ <;> rcases bnd_rep hh bh with ⟨_, rfl, rfl⟩ | ⟨k', j, rfl, rfl⟩ <;> simp only [subC, Bool.and_eq_true, decide_eq_true_eq] at hc <;>
    refine ⟨?_, ?_, ?_⟩ <;> (try simp only [subLo, subHi]) <;> (try omega)
  · simp only [Instr.sliceBounds, Sem.run_bind, Sem.run_pure, Result.andThen_ok]
  · simp only [Instr.sliceBounds, Sem.run_bind, Sem.run_pure, Result.andThen_ok]
    rw [run_sliceBound hc.1 (by omega)]; rfl
  · simp only [Instr.sliceBounds, Sem.run_bind, Sem.run_pure, Result.andThen_ok]
    rw [run_sliceBound hc.1 hc.2]; rfl
  · simp only [Instr.sliceBounds, Sem.run_bind, Sem.run_pure, Result.andThen_ok]
    rw [run_sliceBound (by omega) (by omega)]
    simp only [Result.andThen_ok]
    rw [run_sliceBound hc.1.1 (by omega)]; rfl

theorem subL_eq {α : Type} (l h : Option Int) (xs : List α) : subL l h xs = (xs.take (subHi h xs.length)).drop (subLo l) := by
  cases l <;> cases h <;> simp [subL, subLo, subHi]

theorem rep_sub {e : ETy} {xs : List e.I} {ds : List Value} {b o lo hi : Nat} (h1 : RepL (RepC w S e) xs ds) (h2 : ∀ j (h : j < ds.length), w.cell? ⟨b, o + j, none⟩ = some ds[j] ∧ S b (o + j)) (hlo : lo ≤ hi) (hhi : hi ≤ xs.length) :
    ∃ es, RepL (RepC w S e) ((xs.take hi).drop lo) es ∧ ∀ j (h : j < es.length), w.cell? ⟨b, o + lo * e.size + j, none⟩ = some es[j] ∧ S b (o + lo * e.size + j) := by
  have hl : ∀ x c, RepC w S e x c → c.length = e.size := fun x c h => RepC.length h
  have t1 := (RepL.take hl hi h1).1
  have t2 := (RepL.take hl lo t1).2
  refine ⟨_, t2, fun j hj => ?_⟩
  simp only [List.length_drop, List.length_take] at hj
  have := h2 (lo * e.size + j) (by omega)
  rw [Nat.add_assoc]
  simpa using this

theorem gives_slice (hC : C.OK) (hI : Inv B m L w S) {t : TypeId} {a : AV} {u : Value} {lo hi : Option AV} {lv hv : Option Value} (hx : RepA m L w S a u) (hl : RepO m L w S lo lv) (hh : RepO m L w S hi hv) :
    Gives C m L w S (Instr.sliceAt t u lv hv none) (sliceA C t L a lo hi) := by
  unfold sliceA
  refine gives_bind fun l bl => gives_bind fun h bh => ?_
  split
  · rename_i s
    rw [rep_str] at hx; subst hx
    refine gives_ite fun ht => ?_
    refine gives_if (u := .string (subS l h s)) (fun hc => ?_) (rep_str.2 rfl)
    obtain ⟨r1, r2, r3⟩ := run_sliceBounds (C := C) (sl := false) (cap := s.size) hl hh bl bh hc (Nat.le_refl _)
    have hu := und_str (hC.ty _ _ ht)
    simp only [Instr.sliceAt, Instr.slice, Sem.run_bind, run_underlying hu, Result.andThen_ok, Option.isSome_none, Bool.false_eq_true, if_false, Sem.run_pure, r1]
    rfl
  · rename_i e xs
    refine gives_ite fun ht => ?_
    rw [rep_v] at hx
    obtain ⟨cs, hr, rfl⟩ := hx
    obtain ⟨A, cap, rfl, hcap, hr⟩ := hr
    intro z hz
    simp only [Option.some.injEq, Prod.mk.injEq] at hz
    obtain ⟨hc, rfl⟩ := hz
    obtain ⟨r1, r2, r3⟩ := run_sliceBounds (C := C) (sl := true) (cap := cap) hl hh bl bh hc hcap
    obtain ⟨te, inf, hu, hinf, hsz, _, hag⟩ := und_slice (hC.ty _ _ ht)
    have hce : C.P.cellsOf te = e.size := by simp [Program.cellsOf, hinf, hsz]
    have hrun : (Instr.sliceAt t (.slice A (List.length xs) cap) lv hv none).run C.P w = .ok (.slice (if cap = subLo l then A else A.map (·.add (subLo l * e.size))) (subHi h xs.length - subLo l) (cap - subLo l)) w := by
      simp only [Instr.sliceAt, Instr.slice, Sem.run_bind, run_underlying hu, Result.andThen_ok, Sem.run_pure, r1, run_sizeOf w hinf, hce]
    refine ⟨_, hrun, ?_⟩
    rw [rep_v, subL_eq]
    have hlen : ((xs.take (subHi h xs.length)).drop (subLo l)).length = subHi h xs.length - subLo l := by simp; omega
    refine ⟨[_], ?_, rfl⟩
    simp only [RepC]
    refine ⟨_, cap - subLo l, by rw [hlen], by rw [hlen]; omega, ?_⟩
    rcases hr with rfl | ⟨b, o, ds, rfl, h1, h2⟩
    · left; simp
    · by_cases hcl : cap = subLo l
      · left
        apply List.eq_nil_of_length_eq_zero
        rw [hlen]; omega
      · right
        obtain ⟨es, q1, q2⟩ := rep_sub (lo := subLo l) (hi := subHi h xs.length) h1 h2 r2 r3
        exact ⟨b, o + subLo l * e.size, es, by simp [hcl, add_at], q1, q2⟩
  · rename_i id p
    split
    · rename_i T x ro hL
      refine gives_bind fun q hq => gives_ite fun ht => ?_
      intro z hz
      simp only [Option.some.injEq, Prod.mk.injEq] at hz
      obtain ⟨hc, rfl⟩ := hz
      simp only [RepA] at hx
      obtain ⟨s, h1, h2, h3⟩ := hx
      rw [hL] at h1; cases h1
      obtain ⟨h0, b, hm, rfl⟩ := h3.1 T rfl
      obtain ⟨r1, r2, r3⟩ := run_sliceBounds (C := C) (sl := false) (cap := q.1) hl hh bl bh hc (Nat.le_refl _)
      obtain ⟨te, inf, hu, hinf, hsz, hag⟩ := und_arr (hC.ty _ _ ht)
      have hce : C.P.cellsOf te = q.2.size := by simp [Program.cellsOf, hinf, hsz]
      refine ⟨.slice (some (if q.1 = subLo l then ⟨b, off T p, none⟩ else (⟨b, off T p, none⟩ : Addr).add (subLo l * q.2.size))) (subHi h q.1 - subLo l) (q.1 - subLo l), ?_, ?_⟩
      · simp only [Instr.sliceAt, Sem.run_bind, run_underlying hu, Result.andThen_ok, Instr.sureAddr, Sem.run_pure, r1, run_sizeOf w hinf, hce]
      · simp only [RepA]
        refine ⟨_, hL, h2, fun T' e => ?_⟩
        cases e
        intro N e' hN
        rw [elemTy_eq hq] at hN
        cases hN
        refine ⟨h0, by omega, b, _, _, by omega, hm, rfl, ?_⟩
        by_cases hq1 : q.1 = subLo l
        · left; omega
        · right; simp [hq1, add_at]
    · exact gives_none
  · rename_i id p o n
    split
    · rename_i T x ro hL
      refine gives_bind fun q hq => gives_ite fun ht => ?_
      intro z hz
      simp only [Option.some.injEq, Prod.mk.injEq] at hz
      obtain ⟨hc, rfl⟩ := hz
      simp only [RepA] at hx
      obtain ⟨s, h1, h2, h3⟩ := hx
      rw [hL] at h1; cases h1
      obtain ⟨h0, hn, b, A, cap, hcap, hm, rfl, hA⟩ := h3 T rfl q.1 q.2 (elemTy_eq hq)
      obtain ⟨r1, r2, r3⟩ := run_sliceBounds (C := C) (sl := true) (cap := cap) hl hh bl bh hc hcap
      obtain ⟨te, inf, hu, hinf, hsz, _, hag⟩ := und_slice (hC.ty _ _ ht)
      have hce : C.P.cellsOf te = q.2.size := by simp [Program.cellsOf, hinf, hsz]
      refine ⟨.slice (if cap = subLo l then A else A.map (·.add (subLo l * q.2.size))) (subHi h n - subLo l) (cap - subLo l), ?_, ?_⟩
      · simp only [Instr.sliceAt, Instr.slice, Sem.run_bind, run_underlying hu, Result.andThen_ok, Sem.run_pure, r1, run_sizeOf w hinf, hce]
      · simp only [RepA]
        refine ⟨_, hL, h2, fun T' e => ?_⟩
        cases e
        intro N e' hN
        rw [elemTy_eq hq] at hN
        cases hN
        refine ⟨h0, by omega, b, _, _, by omega, hm, rfl, ?_⟩
        by_cases hq1 : cap = subLo l
        · left; omega
        · rcases hA with hA | rfl
          · left; omega
          · right; simp [hq1, add_at, Nat.add_mul, Nat.add_assoc]
    · exact gives_none
  · rename_i id
    split
    · rename_i t' e xs ro hL
      refine gives_ite fun ht => ?_
      intro z hz
      simp only [Option.some.injEq, Prod.mk.injEq] at hz
      obtain ⟨hc, rfl⟩ := hz
      simp only [RepA] at hx
      obtain ⟨s, h1, h2, h3⟩ := hx
      rw [hL] at h1; cases h1
      obtain rfl := h3 t' e xs ro rfl
      obtain ⟨cs, ho, hr⟩ := hI.row id t' e xs ro hL
      obtain ⟨te, inf, hu, hinf, hsz, _, hag⟩ := und_slice (hC.ty _ _ ht)
      have hce : C.P.cellsOf te = e.size := by simp [Program.cellsOf, hinf, hsz]
      obtain ⟨A, cap, hm, hle, hA⟩ : ∃ A cap, m id = .slice A (List.length xs) cap ∧ List.length xs ≤ cap ∧ (List.length xs = 0 ∨ ∃ b, A = some ⟨b, 0, none⟩) := by
        rcases ho.2 with ⟨hv, hn⟩ | ⟨g, cap, cur, hv, hg, hh, hle, _⟩
        · exact ⟨none, 0, by rw [hv, hn], by omega, .inl hn⟩
        · exact ⟨_, cap, hv, hle, .inr ⟨g, rfl⟩⟩
      obtain ⟨r1, r2, r3⟩ := run_sliceBounds (C := C) (sl := true) (cap := cap) hl hh bl bh hc hle
      refine ⟨.slice (if cap = subLo l then A else A.map (·.add (subLo l * e.size))) (subHi h (List.length xs) - subLo l) (cap - subLo l), ?_, ?_⟩
      · rw [hm]
        simp only [Instr.sliceAt, Instr.slice, Sem.run_bind, run_underlying hu, Result.andThen_ok, Sem.run_pure, r1, run_sizeOf w hinf, hce]
      · simp only [RepA]
        refine ⟨_, hL, h2, fun t'' e' xs' ro' e => ?_⟩
        cases e
        refine ⟨by omega, _, _, by omega, rfl, ?_⟩
        by_cases hq1 : cap = subLo l
        · left; omega
        · rcases hA with hA | ⟨b, rfl⟩
          · left; omega
          · right; exact ⟨b, _, _, hm, by simp [hq1, add_at]⟩
    · exact gives_none
  · rename_i id o n
    split
    · rename_i t' e xs ro hL
      refine gives_ite fun ht => ?_
      intro z hz
      simp only [Option.some.injEq, Prod.mk.injEq] at hz
      obtain ⟨hc, rfl⟩ := hz
      simp only [RepA] at hx
      obtain ⟨s, h1, h2, h3⟩ := hx
      rw [hL] at h1; cases h1
      obtain ⟨hn, A, cap, hcap, rfl, hA⟩ := h3 t' e xs ro rfl
      obtain ⟨r1, r2, r3⟩ := run_sliceBounds (C := C) (sl := true) (cap := cap) hl hh bl bh hc hcap
      obtain ⟨te, inf, hu, hinf, hsz, _, hag⟩ := und_slice (hC.ty _ _ ht)
      have hce : C.P.cellsOf te = e.size := by simp [Program.cellsOf, hinf, hsz]
      refine ⟨.slice (if cap = subLo l then A else A.map (·.add (subLo l * e.size))) (subHi h n - subLo l) (cap - subLo l), ?_, ?_⟩
      · simp only [Instr.sliceAt, Instr.slice, Sem.run_bind, run_underlying hu, Result.andThen_ok, Sem.run_pure, r1, run_sizeOf w hinf, hce]
      · simp only [RepA]
        refine ⟨_, hL, h2, fun t'' e' xs' ro' e => ?_⟩
        cases e
        refine ⟨by omega, _, _, by omega, rfl, ?_⟩
        by_cases hq1 : cap = subLo l
        · left; omega
        · rcases hA with hA | ⟨b, k, c1, hm, rfl⟩
          · left; omega
          · right; exact ⟨b, k, c1, hm, by simp [hq1, add_at, Nat.add_mul]⟩
    · exact gives_none
  · exact gives_none

theorem run_len_str {t ty : TypeId} {s : ByteArray} {ts : Array TypeId} {us : Array Value} (ht : ts[0]? = some t) (hu0 : us[0]? = some (.string s)) (hu : C.P.underlying t = some .string) : (Builtin.len_ ts ty us).run C.P w = .ok (.int .i64 s.size) w := by
  simp only [Builtin.len_, ht, hu0, Sem.run_bind, run_underlying hu, Result.andThen_ok]; rfl
theorem run_len_slice {t ty te : TypeId} {A : Option Addr} {n c : Nat} {ts : Array TypeId} {us : Array Value} (ht : ts[0]? = some t) (hu0 : us[0]? = some (.slice A n c)) (hu : C.P.underlying t = some (.slice te)) : (Builtin.len_ ts ty us).run C.P w = .ok (.int .i64 n) w := by
  simp only [Builtin.len_, ht, hu0, Sem.run_bind, run_underlying hu, Result.andThen_ok]; rfl
theorem run_len_arr {t ty te : TypeId} {u : Value} {n : Nat} {ts : Array TypeId} {us : Array Value} (ht : ts[0]? = some t) (hu0 : us[0]? = some u) (hu : C.P.underlying t = some (.array n te)) : (Builtin.len_ ts ty us).run C.P w = .ok (.int .i64 n) w := by
  simp only [Builtin.len_, ht, hu0, Sem.run_bind, run_underlying hu, Result.andThen_ok]; rfl

/-- The builtin len. -/
theorem gives_len (hC : C.OK) (hI : Inv B m L w S) {t ty : TypeId} {a : AV} {u : Value} {ts : Array TypeId} {us : Array Value} (ht : ts[0]? = some t) (hu0 : us[0]? = some u) (hx : RepA m L w S a u) : Gives C m L w S (Builtin.len_ ts ty us) (lenA C t L a) := by
  unfold lenA
  split
  · rename_i hty
    have hu := und_str (hC.ty _ _ hty)
    split
    · rename_i s
      rw [rep_str] at hx; subst hx
      exact gives_ok1 (run_len_str ht hu0 hu) (rep_int.2 rfl)
    · exact gives_none
  · rename_i e hty
    obtain ⟨te, inf, hu, _⟩ := und_slice (hC.ty _ _ hty)
    split
    · rename_i e' xs
      rw [rep_v] at hx
      obtain ⟨cs, hr, rfl⟩ := hx
      obtain ⟨A, cap, rfl, hcap, hr⟩ := hr
      exact gives_ok1 (run_len_slice ht hu0 hu) (rep_int.2 rfl)
    · rename_i id p lo n
      split
      · rename_i T x ro hL
        refine gives_bind fun q hq => ?_
        simp only [RepA] at hx
        obtain ⟨s, h1, h2, h3⟩ := hx
        rw [hL] at h1; cases h1
        obtain ⟨h0, hn, b, A, cap, hcap, hm, rfl, hA⟩ := h3 T rfl q.1 q.2 (elemTy_eq hq)
        exact gives_ok1 (run_len_slice ht hu0 hu) (rep_int.2 rfl)
      · exact gives_none
    · rename_i A n c
      simp only [RepA] at hx
      subst hx
      exact gives_ok1 (run_len_slice ht hu0 hu) (rep_int.2 rfl)
    · rename_i id
      split
      · rename_i t' e' xs ro hL
        simp only [RepA] at hx
        obtain ⟨s, h1, h2, h3⟩ := hx
        rw [hL] at h1; cases h1
        obtain rfl := h3 t' e' xs ro rfl
        obtain ⟨cs, ho, hr⟩ := hI.row id t' e' xs ro hL
        refine gives_ok1 (u := .int .i64 xs.length) ?_ (rep_int.2 rfl)
        rcases ho.2 with ⟨hv, hn⟩ | ⟨g, cap, cur, hv, hg⟩
        · rw [hn]; rw [hv] at hu0; exact run_len_slice ht hu0 hu
        · rw [hv] at hu0; exact run_len_slice ht hu0 hu
      · exact gives_none
    · rename_i id lo n
      split
      · rename_i t' e' xs ro hL
        simp only [RepA] at hx
        obtain ⟨s, h1, h2, h3⟩ := hx
        rw [hL] at h1; cases h1
        obtain ⟨hn, A, cap, hcap, rfl, hA⟩ := h3 t' e' xs ro rfl
        exact gives_ok1 (run_len_slice ht hu0 hu) (rep_int.2 rfl)
      · exact gives_none
    · exact gives_none
  · rename_i n e hty
    obtain ⟨te, inf, hu, _⟩ := und_arr (hC.ty _ _ hty)
    exact gives_ok1 (run_len_arr ht hu0 hu) (rep_int.2 rfl)
  · exact gives_none
end
end Go.Proofs.YtmmooplcdkmapaaGreatDoor.K

set_option maxHeartbeats 400000
set_option linter.unusedVariables false
set_option linter.unusedSimpArgs false
namespace Go.Proofs.YtmmooplcdkmapaaGreatDoor.K
open Go Go.RowKit

def maxA : List AV → AV → R
  | [], a => ok1 a
  | .v (.int k') y :: r, .v (.int k) x => maxA r (.v (.int k) (if (y : Int) > x then y else x))
  | _, _ => none
def minA : List AV → AV → R
  | [], a => ok1 a
  | .v (.int k') y :: r, .v (.int k) x => minA r (.v (.int k) (if (y : Int) < x then y else x))
  | _, _ => none
def foldA (f : List AV → AV → R) : List AV → R
  | a :: r => f r a
  | [] => none

def nilA (L : Heap) : AV → R
  | .ref id p => match L[id]? with | some (.box T x ro) => ok1 (.ref id p) | _ => none
  | .rref id i p => match L[id]? with | some (.row t e xs ro) => ok1 (.rref id i p) | _ => none
  | .vp T x p => ok1 (.vp T x p)
  | _ => none

def builtinA (C : Cfg) (L : Heap) (b : Builtin) (ts : List TypeId) (as : List AV) : R :=
  match b with
  | .len => match ts, as with | t :: _, a :: _ => lenA C t L a | _, _ => none
  | .max => foldA maxA as
  | .min => foldA minA as
  | _ => none

def rop (C : Cfg) (ρ : Operand → AV) (L : Heap) : Op → R
  | .move x => ok1 (ρ x)
  | .assign x => ok1 (ρ x)
  | .pick c a b => match ρ c with | .v .bool cb => ok1 (pickA cb (ρ a) (ρ b)) | _ => none
  | .binOp op t x y _ => binA C op t (ρ x) (ρ y)
  | .unOp op _ x => unA op (ρ x)
  | .convert s d x => convA C s d (ρ x)
  | .extract t i => extractA i (ρ t)
  | .field t x f => fieldA C t f (ρ x)
  | .index t x i => indexA C t (ρ x) (ρ i)
  | .fieldAddr t x f => fieldAddrA C t L f (ρ x)
  | .indexAddr t x i => indexAddrA C t L (ρ x) (ρ i)
  | .load t a => loadA C t L (ρ a)
  | .slice t x lo hi none => sliceA C t L (ρ x) (lo.map ρ) (hi.map ρ)
  | .nilCheck x => nilA L (ρ x)
  | .makeFunc (.func f) first caps => if first.size = 0 then ok1 (.fn f (caps.toList.map ρ)) else if caps.size = 0 then ok1 (.bm f (first.toList.map ρ)) else none
  | .call ⟨.builtin b, args, ts⟩ => builtinA C L b ts.toList (args.toList.map ρ)
  | _ => none

section
variable {C : Cfg} {B : Nat} {m : Nat → Value} {L : Heap} {w : World} {S : Nat → Nat → Prop}

theorem repAs_map {ρ : Operand → AV} {σ : Operand → Value} (h : ∀ x, RepA m L w S (ρ x) (σ x)) : ∀ l : List Operand, RepAs m L w S (l.map ρ) (l.map σ)
  | [] => by simp [RepAs]
  | x :: l => by simp only [List.map_cons, RepAs]; exact ⟨_, _, rfl, h x, repAs_map h l⟩

theorem repO_map {ρ : Operand → AV} {σ : Operand → Value} (h : ∀ x, RepA m L w S (ρ x) (σ x)) (o : Option Operand) : RepO m L w S (o.map ρ) (o.map σ) := by
  cases o with
  | none => trivial
  | some x => exact h x

theorem gives_max {l : List AV} {vs : List Value} {a : AV} {u : Value} (hl : RepAs m L w S l vs) (ha : RepA m L w S a u) : Gives C m L w S (vs.foldlM Builtin.max2 u) (maxA l a) := by
  induction l generalizing vs a u with
  | nil => simp only [RepAs] at hl; subst hl; cases a <;> exact gives_ok1 rfl ha
  | cons b l ih =>
    simp only [RepAs] at hl
    obtain ⟨v, r, rfl, h1, h2⟩ := hl
    unfold maxA
    split
    · rename_i h; cases h
    · rename_i k' y r' k x h
      cases h
      rw [rep_int] at h1 ha
      subst h1; subst ha
      intro z hz
      obtain ⟨u, q1, q2⟩ := ih h2 (rep_int.2 rfl) z hz
      exact ⟨u, by simp only [List.foldlM_cons, Sem.run_bind, Builtin.max2, Sem.run_pure, Result.andThen_ok]; exact q1, q2⟩
    · exact gives_none

theorem gives_min {l : List AV} {vs : List Value} {a : AV} {u : Value} (hl : RepAs m L w S l vs) (ha : RepA m L w S a u) : Gives C m L w S (vs.foldlM Builtin.min2 u) (minA l a) := by
  induction l generalizing vs a u with
  | nil => simp only [RepAs] at hl; subst hl; cases a <;> exact gives_ok1 rfl ha
  | cons b l ih =>
    simp only [RepAs] at hl
    obtain ⟨v, r, rfl, h1, h2⟩ := hl
    unfold minA
    split
    · rename_i h; cases h
    · rename_i k' y r' k x h
      cases h
      rw [rep_int] at h1 ha
      subst h1; subst ha
      intro z hz
      obtain ⟨u, q1, q2⟩ := ih h2 (rep_int.2 rfl) z hz
      exact ⟨u, by simp only [List.foldlM_cons, Sem.run_bind, Builtin.min2, Sem.run_pure, Result.andThen_ok]; exact q1, q2⟩
    · exact gives_none

/-- 'The operation gives a value of this kind, and turns nothing', of an operation. -/
def GivesN (C : Cfg) (m : Nat → Value) (L : Heap) (w : World) (S : Nat → Nat → Prop) (s : Sem Next) (r : R) : Prop :=
  ∀ a, r = some (true, a) → ∃ u, s.run C.P w = .ok (.value u) w ∧ RepA m L w S a u

theorem givesN_of {s : Sem Value} {r : R} (h : Gives C m L w S s r) : GivesN C m L w S (do pure (.value (← s))) r := by
  intro a ha
  obtain ⟨u, h1, h2⟩ := h a ha
  exact ⟨u, by simp only [Sem.run_bind, h1, Result.andThen_ok, Sem.run_pure], h2⟩

theorem givesN_none {s : Sem Next} : GivesN C m L w S s none := fun a h => by simp at h

theorem nil_rep {a z : AV} {u : Value} (hx : RepA m L w S a u) (hz : nilA L a = some (true, z)) : z = a ∧ ∃ ad, u = .pointer (some ad) := by
  unfold nilA at hz
  split at hz
  · rename_i id p
    split at hz
    · rename_i T x ro hL
      simp only [ok1, Option.some.injEq, Prod.mk.injEq, true_and] at hz
      subst hz
      simp only [RepA] at hx
      obtain ⟨s, h1, h2, h3⟩ := hx
      rw [hL] at h1; cases h1
      obtain ⟨h0, b, hm, rfl⟩ := h3.1 T rfl
      exact ⟨rfl, _, rfl⟩
    · cases hz
  · rename_i id i p
    split at hz
    · rename_i t e xs ro hL
      simp only [ok1, Option.some.injEq, Prod.mk.injEq, true_and] at hz
      subst hz
      simp only [RepA] at hx
      obtain ⟨s, h1, h2, h3⟩ := hx
      rw [hL] at h1; cases h1
      obtain ⟨hi, h0, b, n, c, hm, rfl⟩ := h3 t e xs ro rfl
      exact ⟨rfl, _, rfl⟩
    · cases hz
  · rename_i T x p
    simp only [ok1, Option.some.injEq, Prod.mk.injEq, true_and] at hz
    subst hz
    simp only [RepA] at hx
    obtain ⟨h0, b, o, cs, rfl, h1, h2⟩ := hx
    exact ⟨rfl, _, rfl⟩
  · cases hz

theorem rop_gives (hC : C.OK) (hI : Inv B m L w S) {ρ : Operand → AV} {σ : Operand → Value} (h : ∀ x, RepA m L w S (ρ x) (σ x)) (o : Oper) : GivesN C m L w S (execOp σ o) (rop C ρ L o.op) := by
  unfold rop
  split <;> rename_i ho <;> (first | (refine givesN_none; done) | (unfold execOp; rw [ho]; dsimp only))
  · intro a ha
    simp only [ok1, Option.some.injEq, Prod.mk.injEq, true_and] at ha
    subst ha
    exact ⟨_, rfl, h _⟩
  · intro a ha
    simp only [ok1, Option.some.injEq, Prod.mk.injEq, true_and] at ha
    subst ha
    exact ⟨_, rfl, h _⟩
  · rename_i c a b
    split
    · rename_i cb hcb
      have hc := h c
      rw [hcb, rep_bool] at hc
      intro z hz
      simp only [ok1, Option.some.injEq, Prod.mk.injEq, true_and] at hz
      subst hz
      refine ⟨_, ?_, pick_rep (h a) (h b)⟩
      simp only [hc, asBool, Sem.run_bind, Sem.run_pure, Result.andThen_ok]
    · exact givesN_none
  · exact givesN_of (gives_bin (h _) (h _))
  · exact givesN_of (gives_un (h _))
  · exact givesN_of (gives_conv hC (h _))
  · exact givesN_of (gives_extract (h _))
  · exact givesN_of (gives_field hC (h _))
  · exact givesN_of (gives_index hC (h _) (h _))
  · exact givesN_of (gives_fieldAddr hC (h _))
  · exact givesN_of (gives_indexAddr hC hI (h _) (h _))
  · exact givesN_of (gives_load hC hI (h _))
  · exact givesN_of (gives_slice hC hI (h _) (repO_map h _) (repO_map h _))
  · rename_i x
    intro z hz
    obtain ⟨rfl, ad, hu⟩ := nil_rep (h x) hz
    have hx := h x
    rw [hu] at hx ⊢
    exact ⟨_, rfl, hx⟩
  · rename_i f first caps
    split
    · rename_i hf
      intro z hz
      simp only [ok1, Option.some.injEq, Prod.mk.injEq, true_and] at hz
      subst hz
      have hfirst : first = #[] := Array.eq_empty_of_size_eq_zero hf
      have hmap : Array.map σ caps = (caps.toList.map σ).toArray := by rw [← Array.toList_map]
      refine ⟨.func (.func f) #[] (caps.toList.map σ).toArray, by subst hfirst; rw [hmap]; simp [Instr.makeFunc, Sem.run_pure], ?_⟩
      simp only [RepA]
      refine ⟨caps.toList.map σ, rfl, repAs_map h _⟩
    · split
      · rename_i hf
        intro z hz
        simp only [ok1, Option.some.injEq, Prod.mk.injEq, true_and] at hz
        subst hz
        have hcaps : caps = #[] := Array.eq_empty_of_size_eq_zero hf
        have hmap : Array.map σ first = (first.toList.map σ).toArray := by rw [← Array.toList_map]
        refine ⟨.func (.func f) (first.toList.map σ).toArray #[], by subst hcaps; rw [hmap]; simp [Instr.makeFunc, Sem.run_pure], ?_⟩
        simp only [RepA]
        refine ⟨first.toList.map σ, rfl, repAs_map h _⟩
      · exact givesN_none
  · rename_i b args ts
    have hr : (resolve σ ⟨.builtin b, args, ts⟩ o.type) = (pure { target := .builtin b ts o.type (args.map fun | .const _ => true | _ => false), args := args.map σ } : Sem Deferred) := rfl
    have hrun : ∀ s, builtin b ts o.type (args.map fun | .const _ => true | _ => false) (args.map σ) = s → 
        ((do let d ← resolve σ ⟨.builtin b, args, ts⟩ o.type; invoke d.target d.args : Sem Next)).run C.P w = s.run C.P w := by
      intro s hs
      rw [hr]
      simp only [Sem.run_bind, Sem.run_pure, Result.andThen_ok, invoke, hs]
    intro z hz
    rw [hrun _ rfl]
    revert z hz
    unfold builtinA
    split
    · split
      · rename_i t ts' a as' e1 e2
        have hts : ts[0]? = some t := by
          have := congrArg (·[0]?) e1
          simpa using this
        cases hargs : args.toList with
        | nil => rw [hargs] at e2; cases e2
        | cons x xs =>
          rw [hargs] at e2
          simp only [List.map_cons, List.cons.injEq] at e2
          obtain ⟨rfl, rfl⟩ := e2
          have hus : (args.map σ)[0]? = some (σ x) := by
            have : args = (x :: xs).toArray := by rw [← hargs]
            subst this; simp
          exact givesN_of (gives_len hC hI hts hus (h x))
      · exact givesN_none
    · unfold foldA
      split
      · rename_i a r e
        cases hargs : args.toList with
        | nil => rw [hargs] at e; cases e
        | cons x xs =>
          rw [hargs] at e
          simp only [List.map_cons, List.cons.injEq] at e
          obtain ⟨rfl, rfl⟩ := e
          have := gives_max (C := C) (repAs_map h xs) (h x)
          refine givesN_of ?_
          have e : Builtin.max_ ts o.type (args.map σ) = (xs.map σ).foldlM Builtin.max2 (σ x) := by
            have : args = (x :: xs).toArray := by rw [← hargs]
            subst this
            simp [Builtin.max_]
          rw [e]; exact this
      · exact givesN_none
    · unfold foldA
      split
      · rename_i a r e
        cases hargs : args.toList with
        | nil => rw [hargs] at e; cases e
        | cons x xs =>
          rw [hargs] at e
          simp only [List.map_cons, List.cons.injEq] at e
          obtain ⟨rfl, rfl⟩ := e
          have := gives_min (C := C) (repAs_map h xs) (h x)
          refine givesN_of ?_
          have e : Builtin.min_ ts o.type (args.map σ) = (xs.map σ).foldlM Builtin.min2 (σ x) := by
            have : args = (x :: xs).toArray := by rw [← hargs]
            subst this
            simp [Builtin.min_]
          rw [e]; exact this
      · exact givesN_none
    · exact givesN_none
end
end Go.Proofs.YtmmooplcdkmapaaGreatDoor.K

set_option maxHeartbeats 400000
set_option linter.unusedVariables false
set_option linter.unusedSimpArgs false
namespace Go.Proofs.YtmmooplcdkmapaaGreatDoor.K
open Go Go.RowKit

def upd (m : Nat → Value) (id : Nat) (v : Value) : Nat → Value := fun j => if j = id then v else m j

theorem upd_same (m : Nat → Value) (id : Nat) (v : Value) : upd m id v id = v := by simp [upd]
theorem upd_ne {m : Nat → Value} {id j : Nat} {v : Value} (h : j ≠ id) : upd m id v j = m j := by simp [upd, h]

structure Goes (B : Nat) (X : Nat → Bool) (m : Nat → Value) (L : Heap) (w : World) (S : Nat → Nat → Prop) (m' : Nat → Value) (L' : Heap) (w' : World) (S' : Nat → Nat → Prop) : Prop where
  inv : Inv B m' L' w' S'
  safe : Safe S S' w w'
  below : Below B w w'
  ext : Ext X m L m' L'
  new : ∀ b o, S' b o → S b o ∨ B ≤ b

/-- Old blocks are as they were. -/
structure Grows (w w' : World) : Prop where
  os : w'.os = w.os
  tape : w'.tape = w.tape
  output : w'.output = w.output
  size : w.heap.size ≤ w'.heap.size
  block : ∀ k, k < w.heap.size → w'.heap[k]? = w.heap[k]?

section
variable {C : Cfg} {B : Nat} {m : Nat → Value} {L : Heap} {w w' : World} {S S' : Nat → Nat → Prop}

theorem Grows.refl (w : World) : Grows w w := ⟨rfl, rfl, rfl, Nat.le_refl _, fun _ _ => rfl⟩
theorem Grows.alloc (w : World) (o : Obj) : Grows w (w.alloc o) := ⟨rfl, rfl, rfl, by simp, fun k hk => Below.heap_alloc _ _ _ hk⟩
theorem Grows.below (h : Grows w w') (hB : B ≤ w.heap.size) : Below B w w' := ⟨h.os, h.tape, h.output, h.size, fun k hk => h.block k (by omega)⟩
theorem Grows.of_below (h : Below w.heap.size w w') : Grows w w' := ⟨h.os, h.tape, h.output, h.size, h.block⟩

theorem Grows.cell (h : Grows w w') {b o : Nat} (hb : b < w.heap.size) : w'.cell? ⟨b, o, none⟩ = w.cell? ⟨b, o, none⟩ := World.cell?_of_block (a := ⟨b, o, none⟩) (h.block b hb)

theorem Grows.safe (hI : Inv B m L w S) (h : Grows w w') : Safe S S w w' := ⟨fun _ _ h => h, fun b o hs => h.cell (hI.prot b o hs).1⟩

theorem blk_of_row {t : TypeId} {sz n : Nat} {v : Value} {cs : List Value} (h : w.ownsRow B t sz v n cs) : ∀ b, blk v = some b → B ≤ b ∧ b < w.heap.size := by
  intro b hb
  rcases h.2 with ⟨rfl, _⟩ | ⟨g, cap, cur, rfl, hg, hh, _⟩
  · simp [blk] at hb
  · simp [blk] at hb
    subst hb
    exact ⟨hg, (Array.getElem?_eq_some_iff.1 hh).1⟩

theorem blk_own {t : TypeId} {sz n : Nat} {v : Value} {cs : List Value} (h : w.ownsRow B t sz v n cs) : v.ownBlock = blk v := by
  rcases h.2 with ⟨rfl, _⟩ | ⟨g, cap, cur, rfl, _⟩ <;> rfl

theorem single_row {t : TypeId} {sz n : Nat} {v : Value} {cs : List Value} (h : w.ownsRow B t sz v n cs) : single v = true := by
  rcases h.2 with ⟨rfl, _⟩ | ⟨g, cap, cur, rfl, _⟩ <;> rfl
theorem single_ptr {v : Value} {p : Option Addr} (h : v = .pointer p) : single v = true := by rw [h]; rfl

theorem ObjOK.lt {v : Value} {o : Obj'} (h : ObjOK B v w o) {b : Nat} (hb : b ∈ blks v) : B ≤ b ∧ b < w.heap.size := by
  cases o with
  | bld T te s =>
    obtain ⟨b0, sv, p, rfl, h1, _, h2, h3, _⟩ := h
    rw [blks_pair, List.mem_append, Option.mem_toList, Option.mem_toList] at hb
    rcases hb with hb | hb
    · simp [blk] at hb; subst hb
      exact ⟨h1, (Array.getElem?_eq_some_iff.1 h2).1⟩
    · exact blk_of_row h3 b hb

theorem Inv.lt (hI : Inv B m L w S) {i : Nat} {s : Slot} (hs : L[i]? = some s) (hl : s.live = true) {b : Nat} (hb : b ∈ blks (m i)) : B ≤ b ∧ b < w.heap.size := by
  cases s with
  | box T x ro =>
    obtain ⟨b', cs, el, fr, hm, h1, h2, _⟩ := hI.box i T x ro hs
    rw [mem_blks (single_ptr hm), hm] at hb
    simp [blk] at hb
    subst hb
    exact ⟨h1, (Array.getElem?_eq_some_iff.1 h2).1⟩
  | row t e xs ro =>
    obtain ⟨cs, h1, _⟩ := hI.row i t e xs ro hs
    rw [mem_blks (single_row h1)] at hb
    exact blk_of_row h1 b hb
  | obj o => exact (hI.obj i o hs).lt hb
  | lbx T x h =>
    obtain ⟨b', cs, ds, el, fr, hm, h1, h2, _⟩ := hI.lbx i T x h hs
    rw [mem_blks (single_ptr hm), hm] at hb
    simp [blk] at hb
    subst hb
    exact ⟨h1, (Array.getElem?_eq_some_iff.1 h2).1⟩
  | gone => simp [Slot.live] at hl
  | resv => simp [Slot.live] at hl

theorem row_grows {t : TypeId} {sz n : Nat} {v : Value} {cs : List Value} (hg : Grows w w') (h : w.ownsRow B t sz v n cs) : w'.ownsRow B t sz v n cs := by
  refine ⟨h.1, h.2.imp id ?_⟩
  rintro ⟨g, cap, cur, hv, hb, hh, r⟩
  exact ⟨g, cap, cur, hv, hb, by rw [hg.block g (Array.getElem?_eq_some_iff.1 hh).1]; exact hh, r⟩

theorem ObjOK.kept {v : Value} {o : Obj'} (h : ObjOK B v w o) (hb : ∀ b, b ∈ blks v → w'.heap[b]? = w.heap[b]?) : ObjOK B v w' o := by
  cases o with
  | bld T te s =>
    obtain ⟨b0, sv, p, rfl, h1, h2, h3, h4, h5⟩ := h
    refine ⟨b0, sv, p, rfl, h1, h2, ?_, ?_, h5⟩
    · rw [hb b0 (by rw [blks_pair]; simp [blk])]; exact h3
    · refine ⟨h4.1, h4.2.imp id ?_⟩
      rintro ⟨g, cap, cur, rfl, hg, hh, r⟩
      exact ⟨g, cap, cur, rfl, hg, by rw [hb g (by rw [blks_pair]; simp [blk])]; exact hh, r⟩

/-- Memory grows: all that was known is known. -/
theorem Inv.grows (hI : Inv B m L w S) (hg : Grows w w') : Inv B m L w' S := by
  have hs := hg.safe hI
  refine ⟨Nat.le_trans hI.base hg.size, ?_, ?_, fun id o h => (hI.obj id o h).kept fun b hb => hg.block b (hI.lt h rfl hb).2, fun id T x h q => (hI.lbx id T x h q).same hs (Ext.refl _ _ _) fun b hb => hg.block b (hI.lt q rfl hb).2, hI.apart, ?_⟩
  · intro id T x ro h
    obtain ⟨b, cs, el, fr, hm, h1, h2, h3, h4⟩ := hI.box id T x ro h
    exact ⟨b, cs, el, fr, hm, h1, by rw [hg.block b (Array.getElem?_eq_some_iff.1 h2).1]; exact h2, h3, h4.safe hs⟩
  · intro id t e xs ro h
    obtain ⟨cs, h1, h2⟩ := hI.row id t e xs ro h
    exact ⟨cs, row_grows hg h1, RepL.mono (fun x c h => h.safe hs) h2⟩
  · intro b o h
    obtain ⟨h1, h2⟩ := hI.prot b o h
    exact ⟨Nat.lt_of_lt_of_le h1 hg.size, h2⟩

theorem Goes.grows (hI : Inv B m L w S) (hg : Grows w w') (X : Nat → Bool) : Goes B X m L w S m L w' S :=
  ⟨hI.grows hg, hg.safe hI, hg.below hI.base, Ext.refl X m L, fun _ _ h => .inl h⟩

theorem Goes.trans {X : Nat → Bool} {m1 m2 : Nat → Value} {L1 L2 : Heap} {w1 w2 : World} {S1 S2 : Nat → Nat → Prop} (h : Goes B X m L w S m1 L1 w1 S1) (k : Goes B X m1 L1 w1 S1 m2 L2 w2 S2) : Goes B X m L w S m2 L2 w2 S2 :=
  ⟨k.inv, h.safe.trans k.safe, h.below.trans k.below, h.ext.trans k.ext, fun b o hs => (k.new b o hs).elim (h.new b o) .inr⟩

theorem get_set {id : Nat} {s : Slot} (h : ∃ r, L[id]? = some r) (j : Nat) : (L.set id s)[j]? = if j = id then some s else L[j]? := by
  obtain ⟨r, h⟩ := h
  have hlt : id < L.length := by
    rcases Nat.lt_or_ge id L.length with h' | h'
    · exact h'
    · rw [List.getElem?_eq_none h'] at h; cases h
  by_cases e : j = id
  · subst e; simp [hlt]
  · rw [List.getElem?_set_ne (Ne.symm e), if_neg e]

/-- A reserved place becomes a block. -/
theorem Goes.fresh' (hI : Inv B m L w S) (hg : Grows w w') {id : Nat} (hid : L[id]? = some .resv) {s : Slot} {v : Value} (hv : ∀ b, b ∈ blks v → w.heap.size ≤ b)
    (hbox : ∀ T x ro, s = .box T x ro → ∃ b cs el fr, v = .pointer (some ⟨b, 0, none⟩) ∧ B ≤ b ∧ w'.heap[b]? = some (.cells cs.toArray el fr) ∧ (∀ o, o < cs.length → ¬ (fr.1 ≤ o ∧ o < fr.2)) ∧ RepC w' S T x cs)
    (hrow : ∀ t e (xs : List e.I) ro, s = .row t e xs ro → ∃ cs, w'.ownsRow B t e.size v xs.length cs ∧ RepL (RepC w' S e) xs cs) (hobj : ∀ o, s = .obj o → ObjOK B v w' o) (X : Nat → Bool) (hlbx : ∀ T x h, s = .lbx T x h → LbxOK B (upd m id v) (L.set id s) v w' S T x h := by intro T x h e; cases e) :
    Goes B X m L w S (upd m id v) (L.set id s) w' S := by
  have hI' := hI.grows hg
  have gs := get_set (s := s) ⟨_, hid⟩
  have he : ∀ X, Ext X m L (upd m id v) (L.set id s) := by
    intro X
    refine ⟨?_⟩
    intro j r hr hne
    have hj : j ≠ id := fun e => by subst e; rw [hid] at hr; cases hr; exact hne rfl
    refine ⟨r, by rw [gs, if_neg hj]; exact hr, hne, fun T e => ⟨upd_ne hj, e⟩, fun o e => ⟨fun u sv h => ⟨sv, by rw [upd_ne hj]; exact h⟩, o, e⟩, fun t e xs ro _ h => ⟨upd_ne hj, xs, ro, h, Nat.le_refl _⟩⟩
  refine ⟨⟨hI'.base, ?_, ?_, ?_, ?_, ?_, ?_⟩, hg.safe hI, hg.below hI.base, he X, fun _ _ h => .inl h⟩
  · intro j T x ro h
    rw [gs] at h
    split at h
    · rename_i e; subst e; cases h; rw [upd_same]; exact hbox T x ro rfl
    · rename_i e; rw [upd_ne e]; exact hI'.box j T x ro h
  · intro j t e xs ro h
    rw [gs] at h
    split at h
    · rename_i e'; subst e'; cases h; rw [upd_same]; exact hrow t e xs ro rfl
    · rename_i e'; rw [upd_ne e']; exact hI'.row j t e xs ro h
  · intro j o h
    rw [gs] at h
    split at h
    · rename_i e'; subst e'; cases h; rw [upd_same]; exact hobj o rfl
    · rename_i e'; rw [upd_ne e']; exact hI'.obj j o h
  · intro j T x h q
    rw [gs] at q
    split at q
    · rename_i e'; subst e'; cases q; rw [upd_same]; exact hlbx T x h rfl
    · rename_i e'; rw [upd_ne e']; exact (hI'.lbx j T x h q).same (Safe.refl _ _) (he _) fun _ _ => rfl
  · intro i j s1 s2 hne h1 h2 l1 l2
    rw [gs] at h1 h2
    have old : ∀ k r, k ≠ id → L[k]? = some r → r.live = true → ∀ b, b ∈ blks v → b ∈ blks (m k) → False := by
      intro k r hk hr hl b hb e
      have := hI.lt hr hl e
      have := hv b hb
      omega
    split at h1
    · rename_i e; subst e
      split at h2
      · rename_i e; exact absurd e.symm hne
      · rename_i e; rw [upd_same, upd_ne e]; exact old j s2 e h2 l2
    · rename_i e
      split at h2
      · rename_i e2; subst e2
        rw [upd_same, upd_ne e]
        exact fun b h h' => old i s1 e h1 l1 b h' h
      · rename_i e2; rw [upd_ne e, upd_ne e2]; exact hI.apart i j s1 s2 hne h1 h2 l1 l2
  · intro b o hs
    obtain ⟨p1, p2⟩ := hI'.prot b o hs
    refine ⟨p1, fun i r hr hl hb => ?_⟩
    rw [gs] at hr
    split at hr
    · rename_i e; subst e
      rw [upd_same] at hb
      have := hv b hb
      have := (hI.prot b o hs).1
      omega
    · rename_i e; rw [upd_ne e] at hb; exact p2 i r hr hl hb

theorem Goes.fresh (hI : Inv B m L w S) (hg : Grows w w') {id : Nat} (hid : L[id]? = some .resv) {s : Slot} {v : Value} (hv : ∀ b, blk v = some b → w.heap.size ≤ b)
    (hbox : ∀ T x ro, s = .box T x ro → ∃ b cs el fr, v = .pointer (some ⟨b, 0, none⟩) ∧ B ≤ b ∧ w'.heap[b]? = some (.cells cs.toArray el fr) ∧ (∀ o, o < cs.length → ¬ (fr.1 ≤ o ∧ o < fr.2)) ∧ RepC w' S T x cs)
    (hrow : ∀ t e (xs : List e.I) ro, s = .row t e xs ro → ∃ cs, w'.ownsRow B t e.size v xs.length cs ∧ RepL (RepC w' S e) xs cs) (X : Nat → Bool) (hsv : single v = true := by rfl) (hno : ∀ o, s ≠ .obj o := by intro o e; cases e) (hnl : ∀ T x h, s ≠ .lbx T x h := by intro T x h e; cases e) :
    Goes B X m L w S (upd m id v) (L.set id s) w' S :=
  Goes.fresh' hI hg hid (fun b hb => hv b (blk_in hsv hb)) hbox hrow (fun o e => absurd e (hno o)) X (fun T x h e => absurd e (hnl T x h))

def Slot.mark : Slot → Slot
  | .box T x _ => .box T x true
  | .row t e xs _ => .row t e xs true
  | s => s

theorem Slot.mark_live (s : Slot) : s.mark.live = s.live := by cases s <;> rfl
theorem Slot.mark_cells (s : Slot) : s.mark.cells = s.cells := by cases s <;> rfl
theorem Slot.mark_ro (s : Slot) (h : s.live = true) (h' : ∀ o, s ≠ .obj o) (h'' : ∀ T x q, s ≠ .lbx T x q) : s.mark.ro = true := by cases s <;> first | rfl | (exact absurd rfl (h' _)) | (exact absurd rfl (h'' _ _ _)) | simp [Slot.live] at h
theorem Slot.mark_resv {s : Slot} : s.mark = .resv ↔ s = .resv := by cases s <;> simp [Slot.mark]

/-- The cells of one's own block, protected. -/
def addS (S : Nat → Nat → Prop) (m : Nat → Value) (L : Heap) (id : Nat) : Nat → Nat → Prop :=
  fun b o => S b o ∨ ∃ s, L[id]? = some s ∧ s.live = true ∧ b ∈ blks (m id) ∧ o < s.cells

/-- One's own block may be read from now on, and not be written. -/
theorem Goes.mark (hI : Inv B m L w S) {id : Nat} {s : Slot} (hid : L[id]? = some s) (X : Nat → Bool) : Goes B X m L w S m (L.set id s.mark) w (addS S m L id) := by
  have gs := get_set (s := s.mark) ⟨_, hid⟩
  have hs : Safe S (addS S m L id) w w := ⟨fun _ _ h => .inl h, fun _ _ _ => rfl⟩
  have back : ∀ j r, (L.set id s.mark)[j]? = some r → ∃ r', L[j]? = some r' ∧ r'.live = r.live ∧ r'.cells = r.cells ∧ (r'.ro = true → r.ro = true) ∧ (j = id → r.live = true → 0 < r.cells → r.ro = true) ∧ (j ≠ id → r' = r) := by
    intro j r hr
    rw [gs] at hr
    split at hr
    · rename_i e; subst e; cases hr
      exact ⟨s, hid, (Slot.mark_live s).symm, (Slot.mark_cells s).symm, fun h => by cases s <;> first | rfl | simp [Slot.ro] at h, fun _ hl hc => Slot.mark_ro s (by rwa [Slot.mark_live] at hl) (fun o e => by subst e; simp [Slot.mark, Slot.cells] at hc) (fun T x q e => by subst e; simp [Slot.mark, Slot.cells] at hc), fun h => absurd rfl h⟩
    · rename_i e; exact ⟨r, hr, rfl, rfl, fun h => h, fun h => absurd h e, fun _ => rfl⟩
  have he : ∀ X, Ext X m L m (L.set id s.mark) := by
    intro X
    refine ⟨?_⟩
    intro j r hr hne
    by_cases e : j = id
    · subst e
      rw [hid] at hr; cases hr
      refine ⟨s.mark, by rw [gs, if_pos rfl], fun h => hne (Slot.mark_resv.1 h), ?_, ?_, ?_⟩
      · intro T h
        cases s <;> simp [Slot.mark, Slot.bty] at h
        · subst h; exact ⟨rfl, rfl⟩
        · subst h; exact ⟨rfl, rfl⟩
      · intro o h
        cases s <;> simp [Slot.mark] at h
        exact ⟨fun u sv h => ⟨sv, h⟩, _, rfl⟩
      · intro t e xs ro _ h
        cases s <;> simp [Slot.mark] at h
        obtain ⟨rfl, rfl, h, _⟩ := h
        cases h
        exact ⟨rfl, _, _, rfl, Nat.le_refl _⟩
    · exact ⟨r, by rw [gs, if_neg e]; exact hr, hne, fun T h => ⟨rfl, h⟩, fun o h => ⟨fun u sv h => ⟨sv, h⟩, o, h⟩, fun t e xs ro _ h => ⟨rfl, xs, ro, h, Nat.le_refl _⟩⟩
  refine ⟨⟨hI.base, ?_, ?_, ?_, ?_, ?_, ?_⟩, hs, Below.refl _ _, he X, ?_⟩
  · intro j T x ro h
    rw [gs] at h
    have : ∃ ro', L[j]? = some (.box T x ro') := by
      split at h
      · rename_i e; subst e
        cases s <;> simp [Slot.mark] at h
        obtain ⟨rfl, h, _⟩ := h
        cases h
        exact ⟨_, hid⟩
      · exact ⟨_, h⟩
    obtain ⟨ro', h'⟩ := this
    obtain ⟨b, cs, el, fr, h1, h2, h3, h4, h5⟩ := hI.box j T x ro' h'
    exact ⟨b, cs, el, fr, h1, h2, h3, h4, h5.safe hs⟩
  · intro j t e xs ro h
    rw [gs] at h
    have : ∃ ro', L[j]? = some (.row t e xs ro') := by
      split at h
      · rename_i e'; subst e'
        cases s <;> simp [Slot.mark] at h
        obtain ⟨rfl, rfl, h, _⟩ := h
        cases h
        exact ⟨_, hid⟩
      · exact ⟨_, h⟩
    obtain ⟨ro', h'⟩ := this
    obtain ⟨cs, h1, h2⟩ := hI.row j t e xs ro' h'
    exact ⟨cs, h1, RepL.mono (fun x c h => h.safe hs) h2⟩
  · intro j o h
    rw [gs] at h
    split at h
    · rename_i e'; subst e'
      cases s <;> simp [Slot.mark] at h
      subst h
      exact hI.obj j _ hid
    · exact hI.obj j o h
  · intro j T x h q
    rw [gs] at q
    have q' : L[j]? = some (.lbx T x h) := by
      split at q
      · rename_i e'; subst e'
        cases s <;> simp [Slot.mark] at q
        obtain ⟨rfl, q, rfl⟩ := q
        cases q
        exact hid
      · exact q
    exact (hI.lbx j T x h q').same hs (he _) fun _ _ => rfl
  · intro i j s1 s2 hne h1 h2 l1 l2
    obtain ⟨r1, e1, e1l, _⟩ := back i s1 h1
    obtain ⟨r2, e2, e2l, _⟩ := back j s2 h2
    exact hI.apart i j r1 r2 hne e1 e2 (by rw [e1l]; exact l1) (by rw [e2l]; exact l2)
  · intro b o hb
    rcases hb with hb | ⟨s', e', hl, hbk, ho⟩
    · obtain ⟨p1, p2⟩ := hI.prot b o hb
      refine ⟨p1, fun i r hr hl hbi => ?_⟩
      obtain ⟨r', e1, e2, e3, e4, _⟩ := back i r hr
      obtain ⟨q1, q2⟩ := p2 i r' e1 (by rw [e2]; exact hl) hbi
      exact ⟨e4 q1, by rw [← e3]; exact q2⟩
    · rw [hid] at e'; cases e'
      have hlt := hI.lt hid hl hbk
      refine ⟨hlt.2, fun i r hr hlr hbi => ?_⟩
      obtain ⟨r', e1, e2, e3, e4, e5, e6⟩ := back i r hr
      by_cases hi : i = id
      · subst hi
        rw [hid] at e1; cases e1
        exact ⟨e5 rfl hlr (by rw [← e3]; omega), by rw [← e3]; exact ho⟩
      · exact (hI.apart i id r' s hi e1 hid (by rw [e2]; exact hlr) hl b hbi hbk).elim
  · intro b o hb
    rcases hb with hb | ⟨s', e', hl, hbk, ho⟩
    · exact .inl hb
    · rw [hid] at e'; cases e'
      exact .inr (hI.lt hid hl hbk).1
end
end Go.Proofs.YtmmooplcdkmapaaGreatDoor.K

set_option maxHeartbeats 400000
set_option linter.unusedVariables false
set_option linter.unusedSimpArgs false
namespace Go.Proofs.YtmmooplcdkmapaaGreatDoor.K
open Go Go.RowKit

/-- The datum of an abstract value, of a type. -/
def liftA (L : Heap) (τ : ETy) : AV → Option τ.I
  | .v σ x => castI σ τ x
  | .cst (.slice none 0 0) => match τ with | .slice e => some [] | _ => none
  | .rs id => match L[id]? with | some (.row _ e xs _) => castI (.slice e) τ xs | _ => none
  | .ls id p lo n => match L[id]? with
    | some (.box T x _) => (getP T x p).bind fun d => match d with | ⟨.arr N e, xs⟩ => castI (.slice e) τ ((List.drop lo xs).take n) | _ => none
    | _ => none
  | .lr id lo n => match L[id]? with | some (.row _ e xs _) => castI (.slice e) τ ((List.drop lo xs).take n) | _ => none
  | .fn f [] => castI (.raw .func) τ (Value.func (.func f) #[] #[])
  | _ => none

def markA : AV → Option Nat
  | .rs id => some id
  | .ls id _ _ _ => some id
  | .lr id _ _ => some id
  | _ => none

def mark1 (L : Heap) (id : Nat) : Heap := match L[id]? with | some s => L.set id s.mark | none => L
def markL (L : Heap) : List AV → Heap
  | [] => L
  | a :: l => match markA a with | some id => markL (mark1 L id) l | none => markL L l

section
variable {C : Cfg} {B : Nat} {m : Nat → Value} {L : Heap} {w w' : World} {S S' : Nat → Nat → Prop}

/-- What of one's own block may be read is protected. -/
def Kept (m : Nat → Value) (L : Heap) (S : Nat → Nat → Prop) (id : Nat) : Prop := ∀ s b o, L[id]? = some s → s.live = true → b ∈ blks (m id) → o < s.cells → S b o

theorem lift_rep (hI : Inv B m L w S) {τ : ETy} {x : τ.I} {a : AV} {u : Value} (hx : RepA m L w S a u) (hk : ∀ id, markA a = some id → Kept m L S id) (hl : liftA L τ a = some x) : RepV w S τ x u := by
  unfold liftA at hl
  split at hl
  · obtain ⟨rfl, rfl⟩ := castI_eq hl
    rwa [rep_v] at hx
  · simp only [RepA] at hx
    subst hx
    split at hl
    · cases hl
      exact ⟨[.slice none 0 0], ⟨none, 0, rfl, Nat.le_refl _, .inl rfl⟩, rfl⟩
    · cases hl
  · rename_i id
    split at hl
    · rename_i t e xs ro hL
      obtain ⟨rfl, rfl⟩ := castI_eq hl
      simp only [RepA] at hx
      obtain ⟨s, h1, h2, h3⟩ := hx
      rw [hL] at h1; cases h1
      obtain rfl := h3 t e _ ro rfl
      obtain ⟨cs, ho, hr⟩ := hI.row id t e _ ro hL
      have hk := hk id rfl
      have hcl := RepL.length (fun x c h => RepC.length h) hr
      rcases ho.2 with ⟨hv, hn⟩ | ⟨g, cap, cur, hv, hg, hh, hle, _⟩
      · refine ⟨[m id], ?_, rfl⟩
        refine ⟨none, 0, by rw [hv, hn], by omega, .inl (List.eq_nil_of_length_eq_zero hn)⟩
      · refine ⟨[m id], ?_, rfl⟩
        refine ⟨some ⟨g, 0, none⟩, cap, by rw [hv], hle, .inr ⟨g, 0, cs, rfl, hr, fun j hj => ⟨?_, ?_⟩⟩⟩
        · have := row_cells ho hv j hj
          exact this
        · exact hk _ g (0 + j) hL rfl (by rw [hv]; exact in_slc _ _ _ _) (by simp only [Slot.cells]; omega)
    · cases hl
  · rename_i id p lo n
    split at hl
    · rename_i T y ro hL
      cases hg : getP T y p with
      | none => rw [hg] at hl; cases hl
      | some d =>
        rw [hg] at hl
        simp only [Option.bind_some] at hl
        split at hl
        · rename_i N e xs
          obtain ⟨rfl, rfl⟩ := castI_eq hl
          simp only [RepA] at hx
          obtain ⟨s, h1, h2, h3⟩ := hx
          rw [hL] at h1; cases h1
          obtain ⟨h0, hn, b, A, cap, hcap, hm, rfl, hA⟩ := h3 T rfl N e (getP_ty hg)
          obtain ⟨b', cs, el, fr, hm', hB, hb, hfr, hr⟩ := hI.box id T y ro hL
          rw [hm] at hm'; cases hm'
          obtain ⟨pre, mid, post, rfl, e2, e3, _⟩ := getP_rep h0 hr hg
          obtain ⟨hxl, hxr⟩ := e3
          have hxl : List.length xs = N := hxl
          have hlen : ((List.drop lo xs).take n).length = n := by simp; omega
          have hml := RepL.length (fun x c h => RepC.length h) hxr
          refine ⟨[.slice A n cap], ⟨A, cap, by rw [hlen], by rw [hlen]; exact hcap, ?_⟩, rfl⟩
          rcases hA with rfl | rfl
          · left; simp
          · right
            have t1 := (RepL.take (s := e.size) (fun x c h => RepC.length h) lo hxr).2
            have t2 := (RepL.take (s := e.size) (fun x c h => RepC.length h) n t1).1
            refine ⟨_, _, _, rfl, t2, fun j hj => ?_⟩
            simp only [List.length_take, List.length_drop] at hj
            have hcell := cellsAt_mid (cellsAt_block hb) (lo * e.size + j) (by omega)
            rw [Nat.zero_add, e2] at hcell
            have hsz := hr.length
            refine ⟨?_, hk id rfl _ b _ hL rfl (by rw [hm]; exact in_ptr _ _) ?_⟩
            · rw [Nat.add_assoc]
              simpa using hcell
            · simp only [Slot.cells, ← hsz]
              simp only [List.length_append]
              omega
        · cases hl
    · cases hl
  · rename_i id lo n
    split at hl
    · rename_i t e xs ro hL
      obtain ⟨rfl, rfl⟩ := castI_eq hl
      simp only [RepA] at hx
      obtain ⟨s, h1, h2, h3⟩ := hx
      rw [hL] at h1; cases h1
      obtain ⟨hn, A, c, hc, rfl, hA⟩ := h3 t e _ ro rfl
      obtain ⟨cs, ho, hr⟩ := hI.row id t e _ ro hL
      have hk := hk id rfl
      have hcl := RepL.length (fun x c h => RepC.length h) hr
      have hlen : ((List.drop lo xs).take n).length = n := by simp; omega
      refine ⟨[.slice A n c], ⟨A, c, by rw [hlen], by rw [hlen]; exact hc, ?_⟩, rfl⟩
      rcases hA with rfl | ⟨b, k, c1, hm, rfl⟩
      · left; simp
      · right
        have t1 := (RepL.take (s := e.size) (fun x c h => RepC.length h) lo hr).2
        have t2 := (RepL.take (s := e.size) (fun x c h => RepC.length h) n t1).1
        refine ⟨b, lo * e.size, _, rfl, t2, fun j hj => ?_⟩
        simp only [List.length_take, List.length_drop] at hj
        have hcell := row_cells ho hm (lo * e.size + j) (by omega)
        rw [Nat.zero_add] at hcell
        refine ⟨by simpa using hcell, hk _ b _ hL rfl (by rw [hm]; exact in_slc _ _ _ _) ?_⟩
        simp only [Slot.cells]
        omega
    · cases hl
  · obtain ⟨rfl, rfl⟩ := castI_eq hl
    simp only [RepA, RepAs] at hx
    obtain ⟨vs, rfl, rfl⟩ := hx
    exact ⟨[_], ⟨rfl, rfl⟩, rfl⟩
  · cases hl

theorem mark1_goes (hI : Inv B m L w S) (id : Nat) (X : Nat → Bool) : ∃ S', Goes B X m L w S m (mark1 L id) w S' ∧ Kept m (mark1 L id) S' id := by
  unfold mark1
  cases h : L[id]? with
  | none => exact ⟨S, ⟨hI, Safe.refl _ _, Below.refl _ _, Ext.refl X m L, fun _ _ h => .inl h⟩, fun s b o hs => by simp only [h] at hs; cases hs⟩
  | some s =>
    refine ⟨addS S m L id, Goes.mark hI h X, fun r b o hr hl hb ho => ?_⟩
    rw [get_set ⟨_, h⟩, if_pos rfl] at hr
    cases hr
    rw [Slot.mark_live] at hl
    rw [Slot.mark_cells] at ho
    exact .inr ⟨s, h, hl, hb, ho⟩

theorem mark1_kept {id j : Nat} {S' : Nat → Nat → Prop} (hS : ∀ b o, S b o → S' b o) (h : Kept m L S j) : Kept m (mark1 L id) S' j := by
  intro s b o hs hl hb ho
  unfold mark1 at hs
  cases hid : L[id]? with
  | none => simp only [hid] at hs; exact hS _ _ (h s b o hs hl hb ho)
  | some r =>
    simp only [hid] at hs
    rw [get_set ⟨_, hid⟩] at hs
    split at hs
    · rename_i e; subst e; cases hs
      rw [Slot.mark_live] at hl
      rw [Slot.mark_cells] at ho
      exact hS _ _ (h r b o hid hl hb ho)
    · exact hS _ _ (h s b o hs hl hb ho)

theorem markL_goes (X : Nat → Bool) : ∀ (l : List AV) {L : Heap} {S : Nat → Nat → Prop} (hI : Inv B m L w S), ∃ S', Goes B X m L w S m (markL L l) w S' ∧ (∀ j, Kept m L S j → Kept m (markL L l) S' j) ∧ ∀ a ∈ l, ∀ id, markA a = some id → Kept m (markL L l) S' id
  | [], L, S, hI => ⟨S, ⟨hI, Safe.refl _ _, Below.refl _ _, Ext.refl X m L, fun _ _ h => .inl h⟩, fun _ h => h, fun a ha => by simp at ha⟩
  | a :: l, L, S, hI => by
    unfold markL
    split
    · rename_i id ha
      obtain ⟨S1, g1, k1⟩ := mark1_goes hI id X
      obtain ⟨S2, g2, k2, k3⟩ := markL_goes X l g1.inv
      refine ⟨S2, g1.trans g2, fun j hj => k2 j (mark1_kept g1.safe.sub hj), fun b hb i hi => ?_⟩
      rcases List.mem_cons.1 hb with rfl | hb
      · rw [ha] at hi; cases hi; exact k2 _ k1
      · exact k3 b hb i hi
    · rename_i ha
      obtain ⟨S2, g2, k2, k3⟩ := markL_goes X l hI
      refine ⟨S2, g2, k2, fun b hb i hi => ?_⟩
      rcases List.mem_cons.1 hb with rfl | hb
      · rw [ha] at hi; cases hi
      · exact k3 b hb i hi

/-- A write into one's own block that may be written. -/
theorem Goes.wrote (hI : Inv B m L w S) {id b : Nat} {s s' : Slot} (hid : L[id]? = some s) (hl : s.live = true) (hro : s.ro = false) (hb0 : blk (m id) = some b) {cs : List Value} {el : TypeId} {fr : Nat × Nat} (hw : Wrote b cs el fr w w')
    (hs' : s'.live = true ∧ s'.cells = s.cells)
    (hbox : ∀ T x ro, s' = .box T x ro → (∃ y, s = .box T y ro) ∧ (∀ o, o < cs.length → ¬ (fr.1 ≤ o ∧ o < fr.2)) ∧ RepC w S T x cs)
    (hrow : ∀ t e (xs : List e.I) ro, s' = .row t e xs ro → (∃ ys, s = .row t e ys ro ∧ ys.length = xs.length) ∧ ∃ ds, w'.ownsRow B t e.size (m id) xs.length ds ∧ RepL (RepC w S e) xs ds) (X : Nat → Bool) (hno : ∀ o, s ≠ .obj o := by intro o e; cases e) (hno' : ∀ o, s' ≠ .obj o := by intro o e; cases e) (hnl : ∀ T x h, s ≠ .lbx T x h := by intro T x h e; cases e) (hnl' : ∀ T x h, s' ≠ .lbx T x h := by intro T x h e; cases e) :
    Goes B X m L w S m (L.set id s') w' S := by
  have hb := in_blk hb0
  have gs := get_set (s := s') ⟨_, hid⟩
  have hnS : ∀ o, ¬ S b o := fun o h => by
    have := ((hI.prot b o h).2 id s hid hl hb).1
    rw [hro] at this; cases this
  have hsafe : Safe S S w w' := ⟨fun _ _ h => h, fun b' o h => World.cell?_of_block (a := ⟨b', o, none⟩) (hw.there b' (fun e => by subst e; exact hnS o h))⟩
  have hlt := hI.lt hid hl hb
  have hother : ∀ j r, j ≠ id → L[j]? = some r → r.live = true → ∀ b', b' ∈ blks (m j) → b' ≠ b := by
    intro j r hj hr hrl b' hb' e
    subst e
    exact hI.apart j id r s hj hr hid hrl hl b' hb' hb
  have he : ∀ X, Ext X m L m (L.set id s') := by
    intro X
    refine ⟨?_⟩
    intro j r hr hne
    by_cases e : j = id
    · subst e
      rw [hid] at hr; cases hr
      refine ⟨s', by rw [gs, if_pos rfl], fun h => by rw [h] at hs'; simp [Slot.live] at hs', ?_, fun o h => absurd h (hno' o), ?_⟩
      · intro T h
        cases hq : s' with
        | box T' x ro =>
          obtain ⟨⟨y, h1⟩, _⟩ := hbox T' x ro hq
          rw [hq] at h
          exact ⟨rfl, by rw [h1]; exact h⟩
        | lbx T' x q => exact absurd hq (hnl' _ _ _)
        | row => rw [hq] at h; cases h
        | obj => rw [hq] at h; cases h
        | gone => rw [hq] at h; cases h
        | resv => rw [hq] at h; cases h
      · intro t e xs ro _ h
        obtain ⟨⟨ys, h1, h2⟩, _⟩ := hrow t e xs ro h
        exact ⟨rfl, ys, ro, h1, by omega⟩
    · exact ⟨r, by rw [gs, if_neg e]; exact hr, hne, fun T h => ⟨rfl, h⟩, fun o h => ⟨fun u sv h => ⟨sv, h⟩, o, h⟩, fun t e xs ro _ h => ⟨rfl, xs, ro, h, Nat.le_refl _⟩⟩
  refine ⟨⟨by rw [hw.size]; exact hI.base, ?_, ?_, ?_, ?_, ?_, ?_⟩, hsafe, ⟨hw.os, hw.tape, hw.output, by rw [hw.size]; exact Nat.le_refl _, fun k hk => hw.there k (by omega)⟩, he X, fun _ _ h => .inl h⟩
  · intro j T x ro h
    rw [gs] at h
    split at h
    · rename_i e; subst e; cases h
      obtain ⟨⟨y, rfl⟩, h2, h3⟩ := hbox T x ro rfl
      obtain ⟨b', cs', el', fr', hm, h4, h5, h6, h7⟩ := hI.box j T y ro hid
      have hbb : b' = b := by rw [mem_blks (single_ptr hm), hm] at hb; simpa [blk] using hb
      subst hbb
      exact ⟨b', cs, el, fr, hm, h4, hw.here, h2, h3.safe hsafe⟩
    · rename_i e
      obtain ⟨b', cs', el', fr', hm, h4, h5, h6, h7⟩ := hI.box j T x ro h
      refine ⟨b', cs', el', fr', hm, h4, ?_, h6, h7.safe hsafe⟩
      rw [hw.there b' (hother j _ e h rfl b' (by rw [mem_blks (single_ptr hm), hm]; rfl))]
      exact h5
  · intro j t e xs ro h
    rw [gs] at h
    split at h
    · rename_i e'; subst e'; cases h
      obtain ⟨_, ds, h1, h2⟩ := hrow t e xs ro rfl
      exact ⟨ds, h1, RepL.mono (fun x c h => h.safe hsafe) h2⟩
    · rename_i e'
      obtain ⟨ds, h1, h2⟩ := hI.row j t e xs ro h
      refine ⟨ds, ⟨h1.1, h1.2.imp (fun h => h) ?_⟩, RepL.mono (fun x c h => h.safe hsafe) h2⟩
      rintro ⟨g, cap, cur, hv, hg, hh, r⟩
      refine ⟨g, cap, cur, hv, hg, ?_, r⟩
      rw [hw.there g (hother j _ e' h rfl g (by rw [mem_blks (by rw [hv]; rfl), hv]; rfl))]
      exact hh
  · intro j o h
    rw [gs] at h
    split at h
    · cases h; exact absurd rfl (hno' _)
    · rename_i e'
      exact (hI.obj j o h).kept fun b' hb' => hw.there b' (hother j _ e' h rfl b' hb')
  · intro j T x h q
    rw [gs] at q
    split at q
    · cases q; exact absurd rfl (hnl' _ _ _)
    · rename_i e'
      exact (hI.lbx j T x h q).same hsafe (he _) fun b' hb' => hw.there b' (hother j _ e' q rfl b' hb')
  · intro i j s1 s2 hne h1 h2 l1 l2
    rw [gs] at h1 h2
    have f : ∀ i s1, (if i = id then some s' else L[i]?) = some s1 → s1.live = true → ∃ r, L[i]? = some r ∧ r.live = true := by
      intro i s1 h l
      split at h
      · rename_i e; subst e; exact ⟨s, hid, hl⟩
      · exact ⟨s1, h, l⟩
    obtain ⟨r1, e1, e2⟩ := f i s1 h1 l1
    obtain ⟨r2, e3, e4⟩ := f j s2 h2 l2
    exact hI.apart i j r1 r2 hne e1 e3 e2 e4
  · intro b' o h
    obtain ⟨p1, p2⟩ := hI.prot b' o h
    refine ⟨by rw [hw.size]; exact p1, fun i r hr hrl hbi => ?_⟩
    rw [gs] at hr
    split at hr
    · rename_i e; subst e
      have hbb : b' = b := by
        cases s with
        | box T x ro =>
          obtain ⟨b1, cs', el', fr', hm, _⟩ := hI.box i T x ro hid
          rw [mem_blks (single_ptr hm), hm] at hb hbi
          simp [blk] at hb hbi
          exact hbi.symm.trans hb
        | row t e xs ro =>
          obtain ⟨cs', h1, _⟩ := hI.row i t e xs ro hid
          rw [mem_blks (single_row h1)] at hb hbi
          rw [hb] at hbi; cases hbi; rfl
        | obj o => exact absurd rfl (hno o)
        | lbx T x h => exact absurd rfl (hnl _ _ _)
        | gone => cases hl
        | resv => cases hl
      subst hbb
      exact absurd h (hnS o)
    · exact p2 i r hr hrl hbi

end
end Go.Proofs.YtmmooplcdkmapaaGreatDoor.K

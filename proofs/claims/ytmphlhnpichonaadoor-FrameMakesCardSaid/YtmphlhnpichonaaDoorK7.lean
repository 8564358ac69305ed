/- Places: what a place is, what lies there; slices and their parts. -/
import Derived.Test.YtmphlhnpichonaaDoorK6
set_option maxHeartbeats 100000
set_option linter.unusedVariables false
set_option linter.unusedSimpArgs false
namespace Go.Proofs.YtmphlhnpichonaaDoor.K
open Go Go.RowKit

/-- A field of a struct value. -/
def fieldA (C : Cfg) (t : TypeId) (f : Nat) : AV → R
  | .v τ x => if C.Ty t = some τ then (getP τ x [.fld f]).map fun d => (true, .v d.τ d.x) else none
  | _ => none

def idxOK (i : Int) (n : Nat) : Bool := decide (0 ≤ i) && decide (i < (n : Int))

/-- An element of an array value, a byte of a string. -/
def indexA (C : Cfg) (t : TypeId) : AV → AV → R
  | .v (.arr n e) xs, .v (.int _) i => if C.Ty t = some (.arr n e) then some (idxOK i n, .v e (List.getD xs (Int.toNat i) e.z)) else none
  | .v .str s, .v (.int _) i => if C.Ty t = some .str then some (idxOK i (ByteArray.size s), .v (.int .u8) (bAt s (Int.toNat i))) else none
  | _, _ => none

/-- The address of a field. -/
def fieldAddrA (C : Cfg) (t : TypeId) (L : Heap) (f : Nat) : AV → R
  | .vp T x p => (tyP T p).bind fun τ => if C.Ty t = some τ then (tyP τ [.fld f]).bind fun σ => if σ.size = 0 then none else ok1 (.vp T x (p ++ [.fld f])) else none
  | .ref id p => match L[id]? with
    | some (.box T _ _) => (tyP T p).bind fun τ => if C.Ty t = some τ then (tyP τ [.fld f]).bind fun σ => if σ.size = 0 then none else ok1 (.ref id (p ++ [.fld f])) else none
    | _ => none
  | .rref id i p => match L[id]? with
    | some (.row _ e _ _) => (tyP e p).bind fun τ => if C.Ty t = some τ then (tyP τ [.fld f]).bind fun σ => if σ.size = 0 then none else ok1 (.rref id i (p ++ [.fld f])) else none
    | _ => none
  | _ => none

/-- What lies at an address. -/
def loadA (C : Cfg) (t : TypeId) (L : Heap) : AV → R
  | .vp T x p => (getP T x p).bind fun d => if C.Ty t = some d.τ then ok1 (.v d.τ d.x) else none
  | .ref id p => match L[id]? with
    | some (.box T x _) => (getP T x p).bind fun d => if C.Ty t = some d.τ then ok1 (.v d.τ d.x) else none
    | _ => none
  | .rref id i p => match L[id]? with
    | some (.row _ e xs _) => (getP e (xs.getD i e.z) p).bind fun d => if C.Ty t = some d.τ then ok1 (.v d.τ d.x) else none
    | _ => none
  | _ => none

section
variable {C : Cfg} {B : Nat} {m : Nat → Value} {L : Heap} {w : World} {S : Nat → Nat → Prop}

theorem toNat_lt {i : Int} {n : Nat} (h0 : 0 ≤ i) (h1 : i < n) : i.toNat < n := by omega

theorem idxOK_iff {i : Int} {n : Nat} : idxOK i n = true ↔ 0 ≤ i ∧ i < (n : Int) := by simp [idxOK]

theorem rep_agg_v {τ : ETy} {x : τ.I} {u : Value} (ha : τ.agg = true) (h : RepA m L w S (.v τ x) u) : ∃ cs : List Value, u = .agg cs.toArray ∧ RepC w S τ x cs := by
  rw [rep_v] at h; exact rep_agg ha h

theorem valOf_rep {τ : ETy} {x : τ.I} {cs : List Value} (h : RepC w S τ x cs) : RepA m L w S (.v τ x) (valOf τ cs) := by rw [rep_v]; exact ⟨cs, h, rfl⟩

theorem okP_fld {τ : ETy} {f : Nat} {σ : ETy} (h : tyP τ [.fld f] = some σ) : okP τ [.fld f] := by
  induction τ generalizing f with
  | pair a b iha ihb => cases f with
    | zero => simp [okP]
    | succ f => simp only [tyP] at h; simp only [okP]; exact ihb h
  | _ => simp [tyP] at h

theorem getP_ty : ∀ {T : ETy} {x : T.I} {p : List PStep} {d : Dat}, getP T x p = some d → tyP T p = some d.τ
  | T, x, [], d, h => by simp only [getP, Option.some.injEq] at h; subst h; simp [tyP]
  | .pair a b, x, .fld 0 :: p, d, h => by simp only [getP] at h; simp only [tyP]; exact getP_ty h
  | .pair a b, x, .fld (k + 1) :: p, d, h => by simp only [getP] at h; simp only [tyP]; exact getP_ty h
  | .arr n e, x, .idx i :: p, d, h => by simp only [getP] at h; simp only [tyP]; exact getP_ty h
  | .int _, _, .fld _ :: _, _, h | .int _, _, .idx _ :: _, _, h | .bool, _, .fld _ :: _, _, h | .bool, _, .idx _ :: _, _, h
  | .str, _, .fld _ :: _, _, h | .str, _, .idx _ :: _, _, h | .raw _, _, .fld _ :: _, _, h | .raw _, _, .idx _ :: _, _, h
  | .unit, _, .fld _ :: _, _, h | .unit, _, .idx _ :: _, _, h | .slice _, _, .fld _ :: _, _, h | .slice _, _, .idx _ :: _, _, h
  | .pair _ _, _, .idx _ :: _, _, h | .arr _ _, _, .fld _ :: _, _, h => by simp [getP] at h

theorem run_field {t : TypeId} {τ σ : ETy} {f : Nat} {cs pre mid post : List Value} (ht : GoodTy C.P t τ) (hs : tyP τ [.fld f] = some σ) (hc : cs = pre ++ mid ++ post) (ho : pre.length = off τ [.fld f]) (hl : mid.length = σ.size) :
    (Instr.field t (.agg cs.toArray) f).run C.P w = .ok (valOf σ mid) w := by
  obtain ⟨fs, fd, i, h1, h2, h3, h4, h5, h6⟩ := field_of ht hs
  have := run_part' (P := C.P) (w := w) (t := fd.type) (τ := σ) (xs := cs.toArray) (pre := pre) (mid := mid) (post := post) (by simp [hc]) (isAgg_of h6 w) (by rw [h4]; rfl) (by simp [Program.cellsOf, h4, h5]) hl
  rw [ho, ← h3] at this
  simp only [Instr.field, Sem.run_bind, run_underlying h1, Result.andThen_ok, h2, asAgg, Sem.run_pure, this]

theorem off_append : ∀ {T : ETy} {p : List PStep} {σ : ETy} {q : List PStep}, tyP T p = some σ → off T (p ++ q) = off T p + off σ q ∧ tyP T (p ++ q) = tyP σ q ∧ (okP T p → okP σ q → okP T (p ++ q))
  | T, [], σ, q, h => by simp only [tyP, Option.some.injEq] at h; subst h; simp [off, okP]
  | .pair a b, .fld 0 :: p, σ, q, h => by
    simp only [tyP] at h
    obtain ⟨h1, h2, h3⟩ := off_append (q := q) h
    exact ⟨by simp only [List.cons_append, off, h1], by simp only [List.cons_append, tyP, h2], by simpa only [List.cons_append, okP] using h3⟩
  | .pair a b, .fld (k + 1) :: p, σ, q, h => by
    simp only [tyP] at h
    obtain ⟨h1, h2, h3⟩ := off_append (q := q) h
    simp only [List.cons_append] at h1 h2 h3
    exact ⟨by simp only [List.cons_append, off, h1, Nat.add_assoc], by simp only [List.cons_append, tyP, h2], by simpa only [List.cons_append, okP] using h3⟩
  | .arr n e, .idx i :: p, σ, q, h => by
    simp only [tyP] at h
    obtain ⟨h1, h2, h3⟩ := off_append (q := q) h
    exact ⟨by simp only [List.cons_append, off, h1, Nat.add_assoc], by simp only [List.cons_append, tyP, h2], by simp only [List.cons_append, okP]; exact fun a b => ⟨a.1, h3 a.2 b⟩⟩
  | .int _, .fld _ :: _, _, _, h | .int _, .idx _ :: _, _, _, h | .bool, .fld _ :: _, _, _, h | .bool, .idx _ :: _, _, _, h
  | .str, .fld _ :: _, _, _, h | .str, .idx _ :: _, _, _, h | .raw _, .fld _ :: _, _, _, h | .raw _, .idx _ :: _, _, _, h
  | .unit, .fld _ :: _, _, _, h | .unit, .idx _ :: _, _, _, h | .slice _, .fld _ :: _, _, _, h | .slice _, .idx _ :: _, _, _, h
  | .pair _ _, .idx _ :: _, _, _, h | .arr _ _, .fld _ :: _, _, _, h => by simp [tyP] at h

theorem run_fieldAt {t : TypeId} {τ σ : ETy} {b o f : Nat} (ht : GoodTy C.P t τ) (hs : tyP τ [.fld f] = some σ) (hz : σ.size ≠ 0) :
    (Instr.fieldAt t (.pointer (some ⟨b, o, none⟩)) f).run C.P w = .ok (.pointer (some ⟨b, o + off τ [.fld f], none⟩)) w := by
  obtain ⟨fs, fd, i, h1, h2, h3, h4, h5, h6⟩ := field_of ht hs
  have hne : C.P.cellsOf fd.type ≠ 0 := by simp [Program.cellsOf, h4, h5, hz]
  simp only [Instr.fieldAt, Sem.run_bind, run_underlying h1, Result.andThen_ok, h2, Instr.sureAddr, Sem.run_pure, fieldPlace, run_sizeOf w h4, hne, if_false, add_at, h3]

theorem gives_field (hC : C.OK) {t : TypeId} {f : Nat} {a : AV} {u : Value} (hx : RepA m L w S a u) : Gives C m L w S (Instr.field t u f) (fieldA C t f a) := by
  unfold fieldA
  split
  · rename_i τ x
    split
    · rename_i ht
      intro b hb
      simp only [Option.map_eq_some_iff, Prod.mk.injEq, true_and] at hb
      obtain ⟨d, hd, rfl⟩ := hb
      have hty := getP_ty hd
      have hag : τ.agg = true := by
        cases τ with
        | pair a b => rfl
        | _ => simp [tyP] at hty
      obtain ⟨cs, rfl, hr⟩ := rep_agg_v hag hx
      obtain ⟨pre, mid, post, e1, e2, e3, _⟩ := getP_rep (okP_fld hty) hr hd
      exact ⟨_, run_field (hC.ty _ _ ht) hty e1 e2 e3.length, valOf_rep e3⟩
    · exact gives_none
  · exact gives_none

theorem gives_index (hC : C.OK) {t : TypeId} {a i : AV} {u v : Value} (hx : RepA m L w S a u) (hi : RepA m L w S i v) : Gives C m L w S (Instr.index t u v) (indexA C t a i) := by
  unfold indexA
  split
  · rename_i n e xs k i
    rw [rep_int] at hi
    subst hi
    split
    · rename_i ht
      obtain ⟨cs, rfl, hr⟩ := rep_agg_v rfl hx
      obtain ⟨h0, h1⟩ := hr
      obtain ⟨te, inf, hu, hinf, hsz, hag⟩ := und_arr (hC.ty _ _ ht)
      · by_cases hb : 0 ≤ (i : Int) ∧ (i : Int) < (n : Int)
        · obtain ⟨pre, mid, post, e1, e2, e3, _⟩ := RepL.at_ (s := e.size) (fun x c h => RepC.length h) e.z (Int.toNat i) h1 (by rw [h0]; exact toNat_lt hb.1 hb.2)
          refine gives_if (u := valOf e mid) (fun h => ?_) (valOf_rep e3)
          have := run_part' (P := C.P) (w := w) (t := te) (τ := e) (xs := cs.toArray) (pre := pre) (mid := mid) (post := post) (by simp [e1]) (isAgg_of hag w) (by rw [hinf]; rfl) (by simp [Program.cellsOf, hinf, hsz]) e3.length
          rw [e2] at this
          have hc : C.P.cellsOf te = e.size := by simp [Program.cellsOf, hinf, hsz]
          simp only [Instr.index, asIntOf, Sem.run_bind, Sem.run_pure, Result.andThen_ok, run_underlying hu, hb, and_self, if_true, run_sizeOf w hinf, hc, this]
        · intro b hbb
          simp only [Option.some.injEq, Prod.mk.injEq] at hbb
          exact absurd (idxOK_iff.1 hbb.1) hb
    · exact gives_none
  · rename_i s k i
    rw [rep_int] at hi
    rw [rep_str] at hx
    subst hi; subst hx
    split
    · rename_i ht
      refine gives_if (u := .int .u8 (bAt s (Int.toNat i))) (fun h => ?_) (rep_int.2 rfl)
      obtain ⟨h1, h2⟩ := idxOK_iff.1 h
      have hu := und_str (hC.ty _ _ ht)
      have hlt : Int.toNat i < s.size := by omega
      have hg : s[Int.toNat i]? = some s[Int.toNat i] := by simp [hlt]
      simp only [Instr.index, asIntOf, Sem.run_bind, Sem.run_pure, Result.andThen_ok, run_underlying hu, h1, if_true, hg]
      congr 2
      unfold bAt
      simp [List.getD_eq_getElem?_getD, ByteArray.getElem_eq_getElem_data, hlt]
    · exact gives_none
  · exact gives_none
end
end Go.Proofs.YtmphlhnpichonaaDoor.K

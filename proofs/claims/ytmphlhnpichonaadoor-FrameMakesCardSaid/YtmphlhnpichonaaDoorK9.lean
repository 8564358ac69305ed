/- Slices of what is there, lengths, the least and the greatest; all operations that only read, together. -/
import Derived.Test.YtmphlhnpichonaaDoorK8
set_option maxHeartbeats 200000
set_option linter.unusedVariables false
set_option linter.unusedSimpArgs false
namespace Go.Proofs.YtmphlhnpichonaaDoor.K
open Go Go.RowKit

section
variable {C : Cfg} {B : Nat} {m : Nat → Value} {L : Heap} {w : World} {S : Nat → Nat → Prop}

def RepO (m : Nat → Value) (L : Heap) (w : World) (S : Nat → Nat → Prop) : Option AV → Option Value → Prop
  | none, none => True
  | some a, some u => RepA m L w S a u
  | _, _ => False

theorem bnd_rep {a : Option AV} {u : Option Value} {l : Option Int} (h : RepO m L w S a u) (hb : bndA a = some l) : (a = none ∧ u = none ∧ l = none) ∨ ∃ k i, u = some (.int k i) ∧ l = some i := by
  cases a with
  | none => cases u with
    | none => simp only [bndA, Option.some.injEq] at hb; exact .inl ⟨rfl, rfl, hb.symm⟩
    | some _ => simp [RepO] at h
  | some a => cases u with
    | none => simp [RepO] at h
    | some u =>
      simp only [RepO] at h
      unfold bndA at hb
      split at hb
      · rename_i ha; cases ha
      · rename_i k i ha
        cases ha
        simp only [Option.some.injEq] at hb
        rw [rep_int] at h
        exact .inr ⟨k, i, by rw [h], hb.symm⟩
      · cases hb

theorem run_sliceBound {k : IntKind} {i : Int} {y : Nat} {code : BoundsCode} (h0 : 0 ≤ i) (h1 : i ≤ (y : Int)) : (Instr.sliceBound (.int k i) y code).run C.P w = .ok i.toNat w := by
  simp only [Instr.sliceBound, asIntOf, Sem.run_bind, Sem.run_pure, Result.andThen_ok, h0, h1, and_self, if_true]

theorem run_sliceBounds {sl : Bool} {n cap : Nat} {lo hi : Option AV} {lv hv : Option Value} {l h : Option Int} (hl : RepO m L w S lo lv) (hh : RepO m L w S hi hv) (bl : bndA lo = some l) (bh : bndA hi = some h)
    (hc : subC l h n = true) (hn : n ≤ cap) : (Instr.sliceBounds sl n cap lv hv none).run C.P w = .ok (subLo l, subHi h n, cap) w ∧ subLo l ≤ subHi h n ∧ subHi h n ≤ n := by
  rcases bnd_rep hl bl with ⟨_, rfl, rfl⟩ | ⟨k, i, rfl, rfl⟩ <;> rcases bnd_rep hh bh with ⟨_, rfl, rfl⟩ | ⟨k', j, rfl, rfl⟩ <;> simp only [subC, Bool.and_eq_true, decide_eq_true_eq] at hc <;>
    refine ⟨?_, ?_, ?_⟩ <;> (try simp only [subLo, subHi]) <;> (try omega)
  · simp only [Instr.sliceBounds, Sem.run_bind, Sem.run_pure, Result.andThen_ok]
  · simp only [Instr.sliceBounds, Sem.run_bind, Sem.run_pure, Result.andThen_ok]
    rw [run_sliceBound hc.1 (by omega)]; rfl
  · simp only [Instr.sliceBounds, Sem.run_bind, Sem.run_pure, Result.andThen_ok]
    rw [run_sliceBound hc.1 hc.2]; rfl
  · simp only [Instr.sliceBounds, Sem.run_bind, Sem.run_pure, Result.andThen_ok]
    rw [run_sliceBound (by omega) (by omega)]
    simp only [Result.andThen_ok]
    rw [run_sliceBound hc.1.1 (by omega)]; rfl

theorem subL_eq {α : Type} (l h : Option Int) (xs : List α) : subL l h xs = (xs.take (subHi h xs.length)).drop (subLo l) := by
  cases l <;> cases h <;> simp [subL, subLo, subHi]

theorem rep_sub {e : ETy} {xs : List e.I} {ds : List Value} {b o lo hi : Nat} (h1 : RepL (RepC w S e) xs ds) (h2 : ∀ j (h : j < ds.length), w.cell? ⟨b, o + j, none⟩ = some ds[j] ∧ S b (o + j)) (hlo : lo ≤ hi) (hhi : hi ≤ xs.length) :
    ∃ es, RepL (RepC w S e) ((xs.take hi).drop lo) es ∧ ∀ j (h : j < es.length), w.cell? ⟨b, o + lo * e.size + j, none⟩ = some es[j] ∧ S b (o + lo * e.size + j) := by
  have hl : ∀ x c, RepC w S e x c → c.length = e.size := fun x c h => RepC.length h
  have t1 := (RepL.take hl hi h1).1
  have t2 := (RepL.take hl lo t1).2
  refine ⟨_, t2, fun j hj => ?_⟩
  simp only [List.length_drop, List.length_take] at hj
  have := h2 (lo * e.size + j) (by omega)
  rw [Nat.add_assoc]
  simpa using this

theorem gives_slice (hC : C.OK) {t : TypeId} {a : AV} {u : Value} {lo hi : Option AV} {lv hv : Option Value} (hx : RepA m L w S a u) (hl : RepO m L w S lo lv) (hh : RepO m L w S hi hv) :
    Gives C m L w S (Instr.sliceAt t u lv hv none) (sliceA C t L a lo hi) := by
  unfold sliceA
  refine gives_bind fun l bl => gives_bind fun h bh => ?_
  split
  · rename_i s
    rw [rep_str] at hx; subst hx
    refine gives_ite fun ht => ?_
    refine gives_if (u := .string (subS l h s)) (fun hc => ?_) (rep_str.2 rfl)
    obtain ⟨r1, r2, r3⟩ := run_sliceBounds (C := C) (sl := false) (cap := s.size) hl hh bl bh hc (Nat.le_refl _)
    have hu := und_str (hC.ty _ _ ht)
    simp only [Instr.sliceAt, Instr.slice, Sem.run_bind, run_underlying hu, Result.andThen_ok, Option.isSome_none, Bool.false_eq_true, if_false, Sem.run_pure, r1]
    rfl
  · rename_i e xs
    refine gives_ite fun ht => ?_
    rw [rep_v] at hx
    obtain ⟨cs, hr, rfl⟩ := hx
    obtain ⟨A, cap, rfl, hcap, hr⟩ := hr
    intro z hz
    simp only [Option.some.injEq, Prod.mk.injEq] at hz
    obtain ⟨hc, rfl⟩ := hz
    obtain ⟨r1, r2, r3⟩ := run_sliceBounds (C := C) (sl := true) (cap := cap) hl hh bl bh hc hcap
    obtain ⟨te, inf, hu, hinf, hsz, _, hag⟩ := und_slice (hC.ty _ _ ht)
    have hce : C.P.cellsOf te = e.size := by simp [Program.cellsOf, hinf, hsz]
    have hrun : (Instr.sliceAt t (.slice A (List.length xs) cap) lv hv none).run C.P w = .ok (.slice (if cap = subLo l then A else A.map (·.add (subLo l * e.size))) (subHi h xs.length - subLo l) (cap - subLo l)) w := by
      simp only [Instr.sliceAt, Instr.slice, Sem.run_bind, run_underlying hu, Result.andThen_ok, Sem.run_pure, r1, run_sizeOf w hinf, hce]
    refine ⟨_, hrun, ?_⟩
    rw [rep_v, subL_eq]
    have hlen : ((xs.take (subHi h xs.length)).drop (subLo l)).length = subHi h xs.length - subLo l := by simp; omega
    refine ⟨[_], ?_, rfl⟩
    simp only [RepC]
    refine ⟨_, cap - subLo l, by rw [hlen], by rw [hlen]; omega, ?_⟩
    rcases hr with rfl | ⟨b, o, ds, rfl, h1, h2⟩
    · left; simp
    · by_cases hcl : cap = subLo l
      · left
        apply List.eq_nil_of_length_eq_zero
        rw [hlen]; omega
      · right
        obtain ⟨es, q1, q2⟩ := rep_sub (lo := subLo l) (hi := subHi h xs.length) h1 h2 r2 r3
        exact ⟨b, o + subLo l * e.size, es, by simp [hcl, add_at], q1, q2⟩
  · rename_i id p
    split
    · rename_i T x ro hL
      refine gives_bind fun q hq => gives_ite fun ht => ?_
      intro z hz
      simp only [Option.some.injEq, Prod.mk.injEq] at hz
      obtain ⟨hc, rfl⟩ := hz
      simp only [RepA] at hx
      obtain ⟨s, h1, h2, h3⟩ := hx
      rw [hL] at h1; cases h1
      obtain ⟨h0, b, hm, rfl⟩ := h3 T x ro rfl
      obtain ⟨r1, r2, r3⟩ := run_sliceBounds (C := C) (sl := false) (cap := q.1) hl hh bl bh hc (Nat.le_refl _)
      obtain ⟨te, inf, hu, hinf, hsz, hag⟩ := und_arr (hC.ty _ _ ht)
      have hce : C.P.cellsOf te = q.2.size := by simp [Program.cellsOf, hinf, hsz]
      refine ⟨.slice (some (if q.1 = subLo l then ⟨b, off T p, none⟩ else (⟨b, off T p, none⟩ : Addr).add (subLo l * q.2.size))) (subHi h q.1 - subLo l) (q.1 - subLo l), ?_, ?_⟩
      · simp only [Instr.sliceAt, Sem.run_bind, run_underlying hu, Result.andThen_ok, Instr.sureAddr, Sem.run_pure, r1, run_sizeOf w hinf, hce]
      · simp only [RepA]
        refine ⟨_, hL, h2, fun T' x' ro' e => ?_⟩
        cases e
        intro N e' hN
        rw [elemTy_eq hq] at hN
        cases hN
        refine ⟨h0, by omega, b, _, _, by omega, hm, rfl, ?_⟩
        by_cases hq1 : q.1 = subLo l
        · left; omega
        · right; simp [hq1, add_at]
    · exact gives_none
  · rename_i id p o n
    split
    · rename_i T x ro hL
      refine gives_bind fun q hq => gives_ite fun ht => ?_
      intro z hz
      simp only [Option.some.injEq, Prod.mk.injEq] at hz
      obtain ⟨hc, rfl⟩ := hz
      simp only [RepA] at hx
      obtain ⟨s, h1, h2, h3⟩ := hx
      rw [hL] at h1; cases h1
      obtain ⟨h0, hn, b, A, cap, hcap, hm, rfl, hA⟩ := h3 T x ro rfl q.1 q.2 (elemTy_eq hq)
      obtain ⟨r1, r2, r3⟩ := run_sliceBounds (C := C) (sl := true) (cap := cap) hl hh bl bh hc hcap
      obtain ⟨te, inf, hu, hinf, hsz, _, hag⟩ := und_slice (hC.ty _ _ ht)
      have hce : C.P.cellsOf te = q.2.size := by simp [Program.cellsOf, hinf, hsz]
      refine ⟨.slice (if cap = subLo l then A else A.map (·.add (subLo l * q.2.size))) (subHi h n - subLo l) (cap - subLo l), ?_, ?_⟩
      · simp only [Instr.sliceAt, Instr.slice, Sem.run_bind, run_underlying hu, Result.andThen_ok, Sem.run_pure, r1, run_sizeOf w hinf, hce]
      · simp only [RepA]
        refine ⟨_, hL, h2, fun T' x' ro' e => ?_⟩
        cases e
        intro N e' hN
        rw [elemTy_eq hq] at hN
        cases hN
        refine ⟨h0, by omega, b, _, _, by omega, hm, rfl, ?_⟩
        by_cases hq1 : cap = subLo l
        · left; omega
        · rcases hA with hA | rfl
          · left; omega
          · right; simp [hq1, add_at, Nat.add_mul, Nat.add_assoc]
    · exact gives_none
  · exact gives_none

theorem run_len_str {t ty : TypeId} {s : ByteArray} {ts : Array TypeId} {us : Array Value} (ht : ts[0]? = some t) (hu0 : us[0]? = some (.string s)) (hu : C.P.underlying t = some .string) : (Builtin.len_ ts ty us).run C.P w = .ok (.int .i64 s.size) w := by
  simp only [Builtin.len_, ht, hu0, Sem.run_bind, run_underlying hu, Result.andThen_ok]; rfl
theorem run_len_slice {t ty te : TypeId} {A : Option Addr} {n c : Nat} {ts : Array TypeId} {us : Array Value} (ht : ts[0]? = some t) (hu0 : us[0]? = some (.slice A n c)) (hu : C.P.underlying t = some (.slice te)) : (Builtin.len_ ts ty us).run C.P w = .ok (.int .i64 n) w := by
  simp only [Builtin.len_, ht, hu0, Sem.run_bind, run_underlying hu, Result.andThen_ok]; rfl
theorem run_len_arr {t ty te : TypeId} {u : Value} {n : Nat} {ts : Array TypeId} {us : Array Value} (ht : ts[0]? = some t) (hu0 : us[0]? = some u) (hu : C.P.underlying t = some (.array n te)) : (Builtin.len_ ts ty us).run C.P w = .ok (.int .i64 n) w := by
  simp only [Builtin.len_, ht, hu0, Sem.run_bind, run_underlying hu, Result.andThen_ok]; rfl

/-- The builtin len. -/
theorem gives_len (hC : C.OK) (hI : Inv B m L w S) {t ty : TypeId} {a : AV} {u : Value} {ts : Array TypeId} {us : Array Value} (ht : ts[0]? = some t) (hu0 : us[0]? = some u) (hx : RepA m L w S a u) : Gives C m L w S (Builtin.len_ ts ty us) (lenA C t L a) := by
  unfold lenA
  split
  · rename_i hty
    have hu := und_str (hC.ty _ _ hty)
    split
    · rename_i s
      rw [rep_str] at hx; subst hx
      exact gives_ok1 (run_len_str ht hu0 hu) (rep_int.2 rfl)
    · exact gives_none
  · rename_i e hty
    obtain ⟨te, inf, hu, _⟩ := und_slice (hC.ty _ _ hty)
    split
    · rename_i e' xs
      rw [rep_v] at hx
      obtain ⟨cs, hr, rfl⟩ := hx
      obtain ⟨A, cap, rfl, hcap, hr⟩ := hr
      exact gives_ok1 (run_len_slice ht hu0 hu) (rep_int.2 rfl)
    · rename_i id p lo n
      split
      · rename_i T x ro hL
        refine gives_bind fun q hq => ?_
        simp only [RepA] at hx
        obtain ⟨s, h1, h2, h3⟩ := hx
        rw [hL] at h1; cases h1
        obtain ⟨h0, hn, b, A, cap, hcap, hm, rfl, hA⟩ := h3 T x ro rfl q.1 q.2 (elemTy_eq hq)
        exact gives_ok1 (run_len_slice ht hu0 hu) (rep_int.2 rfl)
      · exact gives_none
    · rename_i A n c
      simp only [RepA] at hx
      subst hx
      exact gives_ok1 (run_len_slice ht hu0 hu) (rep_int.2 rfl)
    · rename_i id
      split
      · rename_i t' e' xs ro hL
        simp only [RepA] at hx
        obtain ⟨s, h1, h2, h3⟩ := hx
        rw [hL] at h1; cases h1
        obtain rfl := h3 t' e' xs ro rfl
        obtain ⟨cs, ho, hr⟩ := hI.row id t' e' xs ro hL
        refine gives_ok1 (u := .int .i64 xs.length) ?_ (rep_int.2 rfl)
        rcases ho.2 with ⟨hv, hn⟩ | ⟨g, cap, cur, hv, hg⟩
        · rw [hn]; rw [hv] at hu0; exact run_len_slice ht hu0 hu
        · rw [hv] at hu0; exact run_len_slice ht hu0 hu
      · exact gives_none
    · exact gives_none
  · rename_i n e hty
    obtain ⟨te, inf, hu, _⟩ := und_arr (hC.ty _ _ hty)
    exact gives_ok1 (run_len_arr ht hu0 hu) (rep_int.2 rfl)
  · exact gives_none
end
end Go.Proofs.YtmphlhnpichonaaDoor.K

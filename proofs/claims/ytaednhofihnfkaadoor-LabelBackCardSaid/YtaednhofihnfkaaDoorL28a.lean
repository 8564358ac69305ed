/- Events, plainly: whether one may be, its text, and that text read again. -/
import Derived.Test.YtaednhofihnfkaaDoorZ28
import Derived.Test.YtaednhofihnfkaaDoorL01c
import Derived.KernelRfl
set_option maxRecDepth 100000
set_option linter.unusedVariables false
set_option linter.unusedSimpArgs false
namespace Go.Proofs.YtaednhofihnfkaaDoor.K
open Go

abbrev Evn := Int × (Int × (Int × (Int × Unit)))
abbrev tyEvn : ETy := .pair (.int .i64) (.pair (.int .i64) (.pair (.int .i64) (.pair (.int .i64) .unit)))
theorem alive28 : law28_alive.u = some true := by kernel_rfl
theorem eqEv (g : Evn) : eqI tyEvn g g = true := eqI_self tyEvn g rfl
theorem eqEv_iff (a b : Evn) : eqI tyEvn a b = (a == b) := by
  obtain ⟨a1, a2, a3, a4, u⟩ := a
  obtain ⟨b1, b2, b3, b4, v⟩ := b
  have hu : (u == v) = true := by cases u; cases v; rfl
  show ((a1 == b1) && ((a2 == b2) && ((a3 == b3) && ((a4 == b4) && true)))) = ((a1 == b1) && ((a2 == b2) && ((a3 == b3) && ((a4 == b4) && (u == v)))))
  rw [hu]

theorem bne_dec (x y : Int) : (x != y) = !decide (x = y) := by rw [Bool.eq_iff_iff]; simp
def chkE (e : Evn) : Int := ref28_Check.t e
theorem evin_t (n m : Int) : event_in.t n m = decide (0 ≤ n ∧ n < m) := by
  unfold event_in.t
  by_cases h : n ≥ 0
  · simp [h]
  · simp [h, show ¬ 0 ≤ n by omega]
theorem things_t (k : Int) : event_things.t k = 8 := by unfold event_things.t; cases (k == 1) <;> rfl
theorem check_t (e : Evn) : event_Check.t e = chkE e := by
  obtain ⟨k, o, w, n, u⟩ := e
  cases u
  unfold event_Check.t chkE ref28_Check.t
  simp only [evin_t, things_t, eqEv_iff, bne_dec, show ∀ x y : Evn, (x == y) = decide (x = y) from fun x y => by rw [Bool.eq_iff_iff]; simp]
  by_cases h1 : k < 1
  · simp [h1]
  by_cases h2 : k > 8
  · simp [h1, h2]
  by_cases h3 : k ≤ 4
  · simp only [h1, h2, h3, decide_true, decide_false, cond_true, cond_false, Prod.mk.injEq, true_and, and_true]
    by_cases ho : 0 ≤ o ∧ o < 8
    · have e1 : ¬ o < 0 := by omega
      have e2 : ¬ o > 7 := by omega
      simp only [ho, e1, e2, decide_true, decide_false, Bool.not_true, cond_false, and_self]
      by_cases hw : w = 0 <;> by_cases hn : n = 0 <;> by_cases hi : 0 ≤ w ∧ w < 16 <;> simp [hw, hn, hi, eq_comm]
    · have : decide (o < 0) = true ∨ (decide (o < 0) = false ∧ decide (o > 7) = true) := by
        by_cases hx : o < 0
        · exact .inl (decide_eq_true hx)
        · exact .inr ⟨decide_eq_false hx, decide_eq_true (by omega)⟩
      rcases this with h | ⟨h, h'⟩
      · simp only [ho, h, decide_false, Bool.not_false, cond_true]
        cases decide (0 ≤ w ∧ w < 16) <;> rfl
      · simp only [ho, h, h', decide_false, Bool.not_false, cond_true, cond_false]
        cases decide (0 ≤ w ∧ w < 16) <;> rfl
  · simp only [h1, h2, h3, decide_true, decide_false, cond_true, cond_false, Prod.mk.injEq, true_and, and_true]
    by_cases hw : 0 ≤ w ∧ w < 16
    · have e1 : ¬ w < 0 := by omega
      have e2 : ¬ w > 15 := by omega
      simp only [hw, e1, e2, decide_true, decide_false, cond_true, cond_false, and_self]
      by_cases hn : 0 ≤ n ∧ n < 6
      · have e3 : ¬ n < 0 := by omega
        have e4 : ¬ n > 5 := by omega
        simp only [hn, e3, e4, decide_true, decide_false, cond_false, Bool.not_true, and_self]
        by_cases hz : o = 0
        · simp [hz]
        · simp [hz, show ¬ 0 = o from fun h => hz h.symm]
      · by_cases hx : n < 0
        · simp [hn, hx]
        · have hy : n > 5 := by omega
          simp [hn, hx, hy]
    · by_cases hx : w < 0
      · simp [hw, hx]
      · have hy : w > 15 := by omega
        simp [hw, hx, hy]

/-- Every event that may be. -/
def evAll : List Evn :=
  ((List.range 4).flatMap fun (k : Nat) => (List.range 8).map fun (o : Nat) => (((k : Int) + 1, ((o : Int), (0, (0, ())))) : Evn)) ++
  ((List.range 4).flatMap fun (k : Nat) => (List.range 16).flatMap fun (w : Nat) => (List.range 6).map fun (n : Nat) => (((k : Int) + 5, (0, ((w : Int), ((n : Int), ())))) : Evn))
theorem chk_mem {e : Evn} (h : chkE e = 0) : e ∈ evAll := by
  obtain ⟨k, o, w, n, u⟩ := e
  cases u
  unfold chkE ref28_Check.t at h
  simp only [bne_dec] at h
  by_cases h1 : k < 1
  · simp [h1] at h
  by_cases h2 : k > 8
  · simp [h1, h2] at h
  unfold evAll
  rw [List.mem_append]
  by_cases h3 : k ≤ 4
  · left
    simp only [h1, h2, h3, decide_true, decide_false, cond_true, cond_false] at h
    by_cases a1 : o < 0
    · simp [a1] at h
    by_cases a2 : o > 7
    · simp [a1, a2] at h
    by_cases a3 : w = 0
    · by_cases a4 : n = 0
      · subst a3 a4
        refine List.mem_flatMap.2 ⟨(k - 1).toNat, List.mem_range.2 (by omega), List.mem_map.2 ⟨o.toNat, List.mem_range.2 (by omega), ?_⟩⟩
        rw [Int.toNat_of_nonneg (by omega), Int.toNat_of_nonneg (by omega)]
        congr 1
        omega
      · simp [a1, a2, a3, a4] at h
    · simp [a1, a2, a3] at h
  · right
    simp only [h1, h2, h3, decide_true, decide_false, cond_true, cond_false] at h
    by_cases a1 : w < 0
    · simp [a1] at h
    by_cases a2 : w > 15
    · simp [a1, a2] at h
    by_cases a3 : n < 0
    · simp [a1, a2, a3] at h
    by_cases a4 : n > 5
    · simp [a1, a2, a3, a4] at h
    by_cases a5 : o = 0
    · subst a5
      refine List.mem_flatMap.2 ⟨(k - 5).toNat, List.mem_range.2 (by omega), List.mem_flatMap.2 ⟨w.toNat, List.mem_range.2 (by omega), List.mem_map.2 ⟨n.toNat, List.mem_range.2 (by omega), ?_⟩⟩⟩
      rw [Int.toNat_of_nonneg (by omega), Int.toNat_of_nonneg (by omega), Int.toNat_of_nonneg (by omega)]
      congr 1
      omega
    · simp [a1, a2, a3, a4, a5] at h

/-- A text of an event, as both have it, of at most 20 bytes; it is read again. -/
def oneE (e : Evn) : Bool :=
  match event_Text.u e, ref28_Text.u e with
  | some a, some b => (a.1.data.toList == b.1.data.toList) && ((a.2 == 0) && ((b.2 == 0) && (decide (a.1.size ≤ 20) && match event_Parse.u a.1 with
    | some z => eqI tyEvn z.1 e && (z.2 == 0)
    | none => false)))
  | _, _ => false
theorem allE : evAll.all oneE = true := by kernel_rfl
theorem text_back {e : Evn} (h : chkE e = 0) : ∃ t : ByteArray, event_Text.u e = some (t, 0) ∧ ref28_Text.u e = some (t, 0) ∧ t.size ≤ 20 ∧ event_Parse.u t = some (e, 0) := by
  have h1 := List.all_eq_true.1 allE e (chk_mem h)
  unfold oneE at h1
  cases ha : event_Text.u e with
  | none => rw [ha] at h1; cases h1
  | some a =>
  cases hb : ref28_Text.u e with
  | none => rw [ha, hb] at h1; cases h1
  | some b =>
  rw [ha, hb] at h1
  simp only [Bool.and_eq_true, beq_iff_eq, decide_eq_true_eq] at h1
  obtain ⟨q1, q2, q3, q4, q5⟩ := h1
  obtain ⟨a1, a2⟩ := a
  obtain ⟨b1, b2⟩ := b
  simp only at q1 q2 q3 q4 q5
  subst q2 q3
  have q1 := ba_ext q1
  subst q1
  refine ⟨a1, rfl, rfl, q4, ?_⟩
  cases hz : event_Parse.u a1 with
  | none => rw [hz] at q5; cases q5
  | some z =>
    rw [hz] at q5
    obtain ⟨z1, z2⟩ := z
    simp only [Bool.and_eq_true, beq_iff_eq, eqEv_iff] at q5
    rw [q5.1, q5.2]
theorem text_bad {e : Evn} (h : (chkE e != 0) = true) : event_Text.u e = some (bs [], chkE e) ∧ ref28_Text.u e = some (bs [], chkE e) := by
  unfold event_Text.u event_Text.s ref28_Text.u ref28_Text.s
  rw [check_t]
  refine ⟨by rw [h]; rfl, ?_⟩
  rw [show ref28_Check.t e = chkE e from rfl, h]; rfl
theorem text_same (e : Evn) : ∃ v, event_Text.u e = some v ∧ ref28_Text.u e = some v ∧ v.1.size ≤ 20 ∧ v.2 = chkE e := by
  cases h : (chkE e != 0) with
  | true => exact ⟨_, (text_bad h).1, (text_bad h).2, show (bs []).size ≤ 20 by decide, rfl⟩
  | false =>
    have h0 : chkE e = 0 := by simpa using h
    obtain ⟨t, h1, h2, h3, _⟩ := text_back h0
    exact ⟨_, h1, h2, h3, h0.symm⟩
theorem law_EventTells (e : Evn) : law28_EventTells.u e = some true := by
  unfold law28_EventTells.u law28_EventTells.s
  obtain ⟨v, h1, h2, _⟩ := text_same e
  rw [h1, h2, Option.bind_some, Option.bind_some, check_t]
  simp only [show ref28_Check.t e = chkE e from rfl, beq_self_eq_true, cond_true, alive28, Option.bind_some]
theorem row_EventTells (xs : Args [tyEvn]) (h : fitsA _ xs) : law28_EventTells.u xs.1 = some true := law_EventTells _
end Go.Proofs.YtaednhofihnfkaaDoor.K

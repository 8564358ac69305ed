/- What functions of the program come to, and their laws. -/
import Derived.Test.YtlcomipbinfooaaGreatDoorKE
import Derived.Test.YtlcomipbinfooaaGreatDoorZ1
import Derived.Test.YtlcomipbinfooaaGreatDoorZ2
import Derived.Lib.ItoaNum
import Derived.IntWalk
import Derived.KernelRfl
namespace Go.Proofs.YtlcomipbinfooaaGreatDoor.K
open Go Go.RowKit
section
set_option linter.unusedVariables false
set_option linter.unusedSimpArgs false
set_option maxRecDepth 100000
theorem idxOK_of {i : Int} {n : Nat} (h0 : 0 ≤ i) (h1 : i < (n : Int)) : idxOK i n = true := by simp [idxOK]; omega
theorem idxOK_nat {i n : Nat} (h : i < n) : idxOK (i : Int) n = true := idxOK_of (by omega) (by omega)
theorem wrapN {x : Int} (h : -9223372036854775808 ≤ x ∧ x ≤ 9223372036854775807) : IntKind.wrap .i64 x = x := wrap_in h.1 h.2
theorem dec_len {α : Type} {l : List α} {n : Nat} (h : l.length ≤ n) (hn : n ≤ 4611686018427387904) : decide (((List.length l : Nat) : Int) ≤ 4611686018427387904) = true := decide_eq_true (by omega)
theorem count_all {Ω : Type} (g : Nat → Int → Option Ω) (c : Nat → Bool) (a b : Option Ω) (N : Nat) (h0 : g 0 (N : Int) = a) (h1 : ∀ (d i : Nat), i + (d + 1) = N → g (d + 1) (i : Int) = bif c i then g d ((i : Int) + 1) else b) :
    ∀ (d i : Nat), i + d = N → g d (i : Int) = bif (List.range' i d).all c then a else b
  | 0, i, h => by
    rw [show i = N by omega]
    simpa using h0
  | d + 1, i, h => by
    rw [h1 d i h]
    have := count_all g c a b N h0 h1 d (i + 1) (by omega)
    rw [show ((i + 1 : Nat) : Int) = (i : Int) + 1 by omega] at this
    rw [this, List.range'_succ, List.all_cons]
    cases c i <;> rfl
theorem find_list {α Ω : Type} (p : α → Bool) (g : List α → Int → Option Ω) (k : Int → Option Ω) (h0 : ∀ i, g [] i = k (-1)) (h1 : ∀ x xs i, g (x :: xs) i = bif p x then k i else g xs (i + 1)) :
    ∀ (xs : List α) (i : Int), 0 ≤ i → ∃ j, g xs i = k j ∧ decide (j ≥ 0) = xs.any p
  | [], i, h => ⟨-1, h0 i, by simp⟩
  | x :: xs, i, h => by
    rw [h1]
    cases hp : p x with
    | true => exact ⟨i, rfl, by simp [hp]; omega⟩
    | false =>
      obtain ⟨j, e1, e2⟩ := find_list p g k h0 h1 xs (i + 1) (by omega)
      exact ⟨j, e1, by rw [e2, List.any_cons, hp, Bool.false_or]⟩
theorem bnot_any {α : Type} (p : α → Bool) (l : List α) : (!(l.any fun x => !(p x))) = l.all p := by
  induction l with
  | nil => rfl
  | cons x l ih => rw [List.any_cons, List.all_cons, ← ih]; cases p x <;> simp
def cmpTy : ETy → Bool
  | .raw _ => false
  | .slice _ => false
  | .pair a b => cmpTy a && cmpTy b
  | .arr _ e => cmpTy e
  | _ => true
theorem eqI_go_self {α : Type} {f : α → α → Bool} (h : ∀ x, f x x = true) : ∀ (n : Nat) (l : List α), eqI.go f n l l = true
  | 0, l => by unfold eqI.go; rfl
  | n + 1, [] => by unfold eqI.go; rfl
  | n + 1, x :: l => by unfold eqI.go; rw [h x, eqI_go_self h n l]; rfl
theorem eqI_self : ∀ (τ : ETy) (x : τ.I), cmpTy τ = true → eqI τ x x = true
  | .int _, x, _ => by simp [eqI]
  | .bool, x, _ => by simp [eqI]
  | .str, x, _ => by simp [eqI]
  | .unit, x, _ => by simp [eqI]
  | .raw _, _, h => by cases h
  | .slice _, _, h => by cases h
  | .pair a b, x, h => by
    simp only [cmpTy, Bool.and_eq_true] at h
    simp only [eqI, eqI_self a x.1 h.1, eqI_self b x.2 h.2, Bool.and_self]
  | .arr n e, x, h => by
    simp only [eqI]
    exact eqI_go_self (fun y => eqI_self e y (by simpa [cmpTy] using h)) n x
end
section
set_option linter.unusedVariables false
set_option linter.unusedSimpArgs false

end
section
set_option linter.unusedVariables false
set_option linter.unusedSimpArgs false
set_option maxRecDepth 100000
theorem fine_eq : zq52.t = zq1j.t := rfl
theorem fine0 : zq1j.t 0 = true := by decide
theorem size_list (s : ByteArray) : s.size = s.data.toList.length := by rw [Array.length_toList]; rfl
abbrev In := Int × (Int × (Int × (Int × Unit)))
abbrev Ln := ByteArray × (ByteArray × (Int × Unit))
structure InOK (x : In) : Prop where
  o : 0 ≤ x.1 ∧ x.1 ≤ 255
  a : 0 ≤ x.2.1 ∧ x.2.1 ≤ 255
  b : 0 ≤ x.2.2.1 ∧ x.2.2.1 ≤ 255
  c : 0 ≤ x.2.2.2.1 ∧ x.2.2.2.1 ≤ 255
def noLine : Ln := (bs [], (bs [], (0, ())))
def lineOf (o : Int) : Ln := List.getD kindsT o.toNat noLine
theorem table_eq : zq4z.t = kindsT := by kernel_rfl
theorem table_len : List.length kindsT = 48 := by kernel_rfl
theorem opfine_iff {o : Int} : zq1o.t o = true ↔ 0 ≤ o ∧ o < 48 := by
  unfold zq1o.t
  by_cases h : o ≥ 0
  · simp [h]
  · simp [h]
theorem form_u (o : Int) : zq36.u o = some (bif zq1o.t o then (lineOf o).2.1 else bs []) := by
  unfold zq36.u zq36.s lineOf
  cases h : zq1o.t o with
  | false => rfl
  | true =>
    have := opfine_iff.1 h
    simp only [Bool.not_true, cond_false, idxOK_of this.1 (show o < ((48 : Nat) : Int) by omega), cond_true]
    rfl
theorem class_u (o : Int) : zq3z.u o = some (bif zq1o.t o then (lineOf o).2.2.1 else -1) := by
  unfold zq3z.u zq3z.s lineOf
  cases h : zq1o.t o with
  | false => rfl
  | true =>
    have := opfine_iff.1 h
    simp only [Bool.not_true, cond_false, idxOK_of this.1 (show o < ((48 : Nat) : Int) by omega), cond_true]
    rfl
theorem of_u (o : Int) : zq4t.u o = some (bif zq1o.t o then lineOf o else (bs [], (bs [], (-1, ())))) := by
  unfold zq4t.u zq4t.s
  rw [table_eq, table_len]
  by_cases h0 : o < 0
  · have : zq1o.t o = false := by
      cases h : zq1o.t o with
      | false => rfl
      | true => have := opfine_iff.1 h; omega
    simp [h0, this]
  · by_cases h1 : o ≥ 48
    · have : zq1o.t o = false := by
        cases h : zq1o.t o with
        | false => rfl
        | true => have := opfine_iff.1 h; omega
      simp [h0, h1, this]
    · have : zq1o.t o = true := opfine_iff.2 ⟨by omega, by omega⟩
      simp only [h0, decide_false, cond_false, this, cond_true, idxOK_of (show 0 ≤ o by omega) (show o < ((48 : Nat) : Int) by omega)]
      rw [decide_eq_false (show ¬ (o ≥ ((48 : Nat) : Int)) by omega)]
      rfl
def letters : List UInt8 := [45, 114, 116, 99, 98, 112, 107, 109, 110, 103, 115, 105, 106]
def lineOK (l : Ln) : Bool := match l.2.1.data.toList with
  | [a, b, c] => letters.contains a && letters.contains b && letters.contains c && decide (0 ≤ l.2.2.1)
  | _ => false
theorem lines_ok : kindsT.all lineOK = true := by kernel_rfl
theorem line_ok {o : Int} (h : zq1o.t o = true) : lineOK (lineOf o) = true := by
  have := opfine_iff.1 h
  have hl : o.toNat < kindsT.length := by rw [table_len]; omega
  have := List.all_eq_true.1 lines_ok (kindsT[o.toNat]) (List.getElem_mem hl)
  unfold lineOf
  rw [List.getD_eq_getElem?_getD, List.getElem?_eq_getElem hl]
  exact this
theorem form3 {o : Int} (h : zq1o.t o = true) : ∃ a b c : UInt8, (lineOf o).2.1.data.toList = [a, b, c] ∧ a ∈ letters ∧ b ∈ letters ∧ c ∈ letters ∧ 0 ≤ (lineOf o).2.2.1 := by
  have := line_ok h
  unfold lineOK at this
  split at this
  · rename_i a b c e
    simp only [Bool.and_eq_true, List.contains_iff_mem, decide_eq_true_eq] at this
    exact ⟨a, b, c, e, this.1.1.1, this.1.1.2, this.1.2, this.2⟩
  · cases this
def wrongR (c n : Int) : Int := bif c == 45 then (bif n != 0 then 3 else 0) else bif decide (n < (zq4g.t c).1) then 8 else bif decide (n > (zq4g.t c).2) then 8 else 0
theorem wrongR_of {c n lo hi : Int} (h : zq4g.t c = (lo, hi)) (hc : (c == 45) = false) : wrongR c n = bif decide (n < lo) then 8 else bif decide (n > hi) then 8 else 0 := by
  unfold wrongR
  rw [h, hc]
  rfl
theorem wrong_eqI {c : Int} (hc : c = 45 ∨ c = 114 ∨ c = 116 ∨ c = 99 ∨ c = 98 ∨ c = 112 ∨ c = 107 ∨ c = 109 ∨ c = 110 ∨ c = 103 ∨ c = 115 ∨ c = 105 ∨ c = 106) {n : Int} (h0 : 0 ≤ n) (h1 : n ≤ 255) : zq1s.t c n = wrongR c n := by
  have hw : IntKind.wrap .i64 n = n := wrapN ⟨by omega, by omega⟩
  have n0 : decide (n < 0) = false := decide_eq_false (by omega)
  rcases hc with rfl | rfl | rfl | rfl | rfl | rfl | rfl | rfl | rfl | rfl | rfl | rfl | rfl
  · unfold zq1s.t wrongR
    simp only [Int.reduceBEq, cond_true, cond_false, hw, n0]
    by_cases e : n = 0
    · subst e; rfl
    · rw [bne_iff_ne.2 e]; rfl
  · rw [wrongR_of (lo := 0) (hi := 7) rfl rfl]
    unfold zq1s.t
    simp only [Int.reduceBEq, cond_true, cond_false, hw, n0]
  · rw [wrongR_of (lo := 0) (hi := 64) rfl rfl]
    unfold zq1s.t
    simp only [Int.reduceBEq, cond_true, cond_false, hw, n0]
  · rw [wrongR_of (lo := 0) (hi := 7) rfl rfl]
    unfold zq1s.t
    simp only [Int.reduceBEq, cond_true, cond_false, hw, n0]
  · rw [wrongR_of (lo := 0) (hi := 7) rfl rfl]
    unfold zq1s.t
    simp only [Int.reduceBEq, cond_true, cond_false, hw, n0]
  · rw [wrongR_of (lo := 0) (hi := 7) rfl rfl]
    unfold zq1s.t
    simp only [Int.reduceBEq, cond_true, cond_false, hw, n0]
  · rw [wrongR_of (lo := 0) (hi := 3) rfl rfl]
    unfold zq1s.t
    simp only [Int.reduceBEq, cond_true, cond_false, hw, n0]
  · rw [wrongR_of (lo := 0) (hi := 2) rfl rfl]
    unfold zq1s.t
    simp only [Int.reduceBEq, cond_true, cond_false, hw, n0]
  · rw [wrongR_of (lo := 1) (hi := 6) rfl rfl]
    unfold zq1s.t
    simp only [Int.reduceBEq, cond_true, cond_false, hw, n0]
  · rw [wrongR_of (lo := 0) (hi := 8) rfl rfl]
    unfold zq1s.t
    simp only [Int.reduceBEq, cond_true, cond_false, hw, n0]
    by_cases e : n = 8
    · subst e; rfl
    · rw [beq_eq_false_iff_ne.2 e, cond_false]
      by_cases e7 : n > 7
      · rw [decide_eq_true e7, decide_eq_true (show n > 8 by omega)]
      · rw [decide_eq_false e7, decide_eq_false (show ¬ n > 8 by omega)]
  · rw [wrongR_of (lo := 1) (hi := 255) rfl rfl]
    unfold zq1s.t
    simp only [Int.reduceBEq, cond_true, cond_false, hw, n0]
  · rw [wrongR_of (lo := 0) (hi := 255) rfl rfl]
    unfold zq1s.t
    simp only [Int.reduceBEq, cond_true, cond_false, hw, n0]
  · rw [wrongR_of (lo := 0) (hi := 255) rfl rfl]
    unfold zq1s.t
    simp only [Int.reduceBEq, cond_true, cond_false, hw, n0]
theorem wrong_eq {c : UInt8} (hc : c ∈ letters) {n : Int} (h0 : 0 ≤ n) (h1 : n ≤ 255) : zq1s.t (c.toNat : Int) n = wrongR (c.toNat : Int) n := by
  refine wrong_eqI ?_ h0 h1
  simp only [letters, List.mem_cons, List.not_mem_nil, or_false] at hc
  rcases hc with rfl | rfl | rfl | rfl | rfl | rfl | rfl | rfl | rfl | rfl | rfl | rfl | rfl <;> decide
def chk (x : In) : Int := bif zq1o.t x.1 then
    (bif wrongR (bAt (lineOf x.1).2.1 0) x.2.1 != 0 then wrongR (bAt (lineOf x.1).2.1 0) x.2.1 else
     bif wrongR (bAt (lineOf x.1).2.1 1) x.2.2.1 != 0 then wrongR (bAt (lineOf x.1).2.1 1) x.2.2.1 else wrongR (bAt (lineOf x.1).2.1 2) x.2.2.2.1)
  else 18
theorem if_nz (n : Int) : (bif n != 0 then some n else some 0) = some n := by
  by_cases e : n = 0
  · subst e; rfl
  · rw [bne_iff_ne.2 e]; rfl
theorem check_u {x : In} (h : InOK x) : zq10.u x = some (chk x) := by
  unfold zq10.u zq10.w chk
  have hw : IntKind.wrap .i64 x.1 = x.1 := wrapN ⟨by have := h.o; omega, by have := h.o; omega⟩
  rw [hw, form_u]
  cases hf : zq1o.t x.1 with
  | false => rfl
  | true =>
    obtain ⟨a, b, c, e, ha, hb, hc, _⟩ := form3 hf
    have hs : (lineOf x.1).2.1.size = 3 := by rw [size_list, e]; rfl
    have hne : ((lineOf x.1).2.1.data.toList == (bs []).data.toList) = false := by rw [e]; rfl
    have a0 : bAt (lineOf x.1).2.1 0 = (a.toNat : Int) := by unfold bAt; rw [e]; rfl
    have a1 : bAt (lineOf x.1).2.1 1 = (b.toNat : Int) := by unfold bAt; rw [e]; rfl
    have a2 : bAt (lineOf x.1).2.1 2 = (c.toNat : Int) := by unfold bAt; rw [e]; rfl
    simp only [cond_true, Option.bind_some, hne, cond_false]
    show zq10.g0 _ _ _ some 3 0 = _
    have o0 : List.getD (zq1v.t x) 0 0 = x.2.1 := rfl
    have o1 : List.getD (zq1v.t x) 1 0 = x.2.2.1 := rfl
    have o2 : List.getD (zq1v.t x) 2 0 = x.2.2.2.1 := rfl
    simp only [zq10.g0, hs, show idxOK 0 3 = true from rfl, show idxOK (0 + 1) 3 = true from rfl, show idxOK (0 + 1 + 1) 3 = true from rfl, cond_true, show Int.toNat 0 = 0 from rfl, show Int.toNat (0 + 1) = 1 from rfl, show Int.toNat (0 + 1 + 1) = 2 from rfl, a0, a1, a2, o0, o1, o2,
      wrong_eq ha h.a.1 h.a.2, wrong_eq hb h.b.1 h.b.2, wrong_eq hc h.c.1 h.c.2, if_nz]
    cases (wrongR (a.toNat : Int) x.2.1 != 0) <;> cases (wrongR (b.toNat : Int) x.2.2.1 != 0) <;> rfl
theorem wrong_step (c n : Int) (K : Option Int) : (bif c == 45 then (bif n != 0 then some 3 else K) else bif decide (n < (zq4g.t c).1) then some 8 else bif decide (n > (zq4g.t c).2) then some 8 else K) = bif wrongR c n != 0 then some (wrongR c n) else K := by
  unfold wrongR
  cases (c == 45) <;> cases (n != 0) <;> cases decide (n < (zq4g.t c).1) <;> cases decide (n > (zq4g.t c).2) <;> rfl
theorem refcheck_u {x : In} (h : InOK x) : zq3k.u x = some (chk x) := by
  unfold zq3k.u zq3k.w chk
  have w1 : IntKind.wrap .i64 x.1 = x.1 := wrapN ⟨by have := h.o; omega, by have := h.o; omega⟩
  have w2 : IntKind.wrap .i64 x.2.1 = x.2.1 := wrapN ⟨by have := h.a; omega, by have := h.a; omega⟩
  have w3 : IntKind.wrap .i64 x.2.2.1 = x.2.2.1 := wrapN ⟨by have := h.b; omega, by have := h.b; omega⟩
  have w4 : IntKind.wrap .i64 x.2.2.2.1 = x.2.2.2.1 := wrapN ⟨by have := h.c; omega, by have := h.c; omega⟩
  have hB : zq44.t x = [x.1, x.2.1, x.2.2.1, x.2.2.2.1] := by unfold zq44.t; rw [w1, w2, w3, w4]
  rw [hB]
  have i0 : idxOK 0 (List.length [x.1, x.2.1, x.2.2.1, x.2.2.2.1]) = true := rfl
  rw [i0, cond_true, show List.getD [x.1, x.2.1, x.2.2.1, x.2.2.2.1] 0 0 = x.1 from rfl, of_u]
  cases hf : zq1o.t x.1 with
  | false => rfl
  | true =>
    obtain ⟨a, b, c, e, ha, hb, hc, hcl⟩ := form3 hf
    have hs : (lineOf x.1).2.1.size = 3 := by rw [size_list, e]; rfl
    have a0 : bAt (lineOf x.1).2.1 0 = (a.toNat : Int) := by unfold bAt; rw [e]; rfl
    have a1 : bAt (lineOf x.1).2.1 1 = (b.toNat : Int) := by unfold bAt; rw [e]; rfl
    have a2 : bAt (lineOf x.1).2.1 2 = (c.toNat : Int) := by unfold bAt; rw [e]; rfl
    simp only [cond_true, Option.bind_some, decide_eq_false (show ¬ ((lineOf x.1).2.2.1 < 0) by omega), cond_false]
    show zq3k.g0 _ _ _ some 3 0 = _
    have k1 : IntKind.wrap .i64 (0 + 1) = 1 := rfl
    have k2 : IntKind.wrap .i64 (0 + 1 + 1) = 2 := rfl
    have k3 : IntKind.wrap .i64 (0 + 1 + 1 + 1) = 3 := rfl
    have j1 : idxOK 1 (List.length [x.1, x.2.1, x.2.2.1, x.2.2.2.1]) = true := rfl
    have j2 : idxOK 2 (List.length [x.1, x.2.1, x.2.2.1, x.2.2.2.1]) = true := rfl
    have j3 : idxOK 3 (List.length [x.1, x.2.1, x.2.2.1, x.2.2.2.1]) = true := rfl
    have g1 : List.getD [x.1, x.2.1, x.2.2.1, x.2.2.2.1] (Int.toNat 1) 0 = x.2.1 := rfl
    have g2 : List.getD [x.1, x.2.1, x.2.2.1, x.2.2.2.1] (Int.toNat 2) 0 = x.2.2.1 := rfl
    have g3 : List.getD [x.1, x.2.1, x.2.2.1, x.2.2.2.1] (Int.toNat 3) 0 = x.2.2.2.1 := rfl
    simp only [zq3k.g0, hs, show idxOK 0 3 = true from rfl, show idxOK (0 + 1) 3 = true from rfl, show idxOK (0 + 1 + 1) 3 = true from rfl, cond_true, show Int.toNat 0 = 0 from rfl, show Int.toNat (0 + 1) = 1 from rfl, show Int.toNat (0 + 1 + 1) = 2 from rfl, a0, a1, a2, k1, k2, k3, j1, j2, j3, g1, g2, g3, wrong_step, if_nz]
    cases (wrongR (a.toNat : Int) x.2.1 != 0) <;> cases (wrongR (b.toNat : Int) x.2.2.1 != 0) <;> rfl
def plcF (x : In) : Int × Bool := bif zq1o.t x.1 then
    (bif bAt (lineOf x.1).2.1 0 == 116 then (x.2.1, true) else bif bAt (lineOf x.1).2.1 1 == 116 then (x.2.2.1, true) else bif bAt (lineOf x.1).2.1 2 == 116 then (x.2.2.2.1, true) else (0, false))
  else (0, false)
theorem u8_beq (a : UInt8) (n : Nat) (h : n < 256) : (a == UInt8.ofNat n) = ((a.toNat : Int) == (n : Int)) := by
  rw [Bool.eq_iff_iff]
  simp only [beq_iff_eq]
  constructor
  · rintro rfl; rw [UInt8.toNat_ofNat']; omega
  · intro e
    apply UInt8.toNat_inj.1
    rw [UInt8.toNat_ofNat']; omega
theorem place_u {x : In} (h : InOK x) : zq43.u x = some (plcF x) := by
  unfold zq43.u zq43.s plcF
  have hw : IntKind.wrap .i64 x.1 = x.1 := wrapN ⟨by have := h.o; omega, by have := h.o; omega⟩
  rw [hw, form_u]
  cases hf : zq1o.t x.1 with
  | false => rfl
  | true =>
    obtain ⟨a, b, c, e, ha, hb, hc, hcl⟩ := form3 hf
    have a0 : bAt (lineOf x.1).2.1 0 = (a.toNat : Int) := by unfold bAt; rw [e]; rfl
    have a1 : bAt (lineOf x.1).2.1 1 = (b.toNat : Int) := by unfold bAt; rw [e]; rfl
    have a2 : bAt (lineOf x.1).2.1 2 = (c.toNat : Int) := by unfold bAt; rw [e]; rfl
    have o0 : List.getD (zq1v.t x) (Int.toNat 0) 0 = x.2.1 := rfl
    have o1 : List.getD (zq1v.t x) (Int.toNat 1) 0 = x.2.2.1 := rfl
    have o2 : List.getD (zq1v.t x) (Int.toNat 2) 0 = x.2.2.2.1 := rfl
    have w1 : IntKind.wrap .i64 x.2.1 = x.2.1 := wrapN ⟨by have := h.a; omega, by have := h.a; omega⟩
    have w2 : IntKind.wrap .i64 x.2.2.1 = x.2.2.1 := wrapN ⟨by have := h.b; omega, by have := h.b; omega⟩
    have w3 : IntKind.wrap .i64 x.2.2.2.1 = x.2.2.2.1 := wrapN ⟨by have := h.c; omega, by have := h.c; omega⟩
    have ix : zq21.t (lineOf x.1).2.1 116 = if (a.toNat : Int) = 116 then 0 else if (b.toNat : Int) = 116 then 1 else if (c.toNat : Int) = 116 then 2 else -1 := by
      unfold zq21.t zq1l.t
      rw [e]
      have q : (116 : Int).toNat.toUInt8 = UInt8.ofNat 116 := rfl
      rw [q]
      have k : ∀ y : UInt8, (y = UInt8.ofNat 116) ↔ (y.toNat : Int) = 116 := by
        intro y
        have := u8_beq y 116 (by omega)
        constructor
        · intro e; rw [e]; rfl
        · intro e
          apply UInt8.toNat_inj.1
          rw [UInt8.toNat_ofNat']; omega
      simp only [Lib.indexByte, beq_iff_eq, k]
      by_cases e0 : (a.toNat : Int) = 116
      · simp [e0]
      · by_cases e1 : (b.toNat : Int) = 116
        · simp [e0, e1]
        · by_cases e2 : (c.toNat : Int) = 116
          · simp [e0, e1, e2]
          · simp [e0, e1, e2]
    simp only [cond_true, Option.bind_some, ix, a0, a1, a2]
    by_cases e0 : (a.toNat : Int) = 116
    · simp [e0, o0, w1, idxOK]; exact w1
    · by_cases e1 : (b.toNat : Int) = 116
      · simp [e0, e1, o1, w2, idxOK, beq_eq_false_iff_ne.2 e0]; exact w2
      · by_cases e2 : (c.toNat : Int) = 116
        · simp [e0, e1, e2, o2, w3, idxOK, beq_eq_false_iff_ne.2 e0, beq_eq_false_iff_ne.2 e1]; exact w3
        · simp [e0, e1, e2, beq_eq_false_iff_ne.2 e0, beq_eq_false_iff_ne.2 e1, beq_eq_false_iff_ne.2 e2]
theorem refplace_u {x : In} (h : InOK x) : zq35.u x = some (plcF x) := by
  unfold zq35.u zq35.w plcF
  have hw : IntKind.wrap .i64 x.1 = x.1 := wrapN ⟨by have := h.o; omega, by have := h.o; omega⟩
  rw [hw, of_u]
  cases hf : zq1o.t x.1 with
  | false => rfl
  | true =>
    obtain ⟨a, b, c, e, ha, hb, hc, hcl⟩ := form3 hf
    have hs : (lineOf x.1).2.1.size = 3 := by rw [size_list, e]; rfl
    have w1 : IntKind.wrap .i64 x.2.1 = x.2.1 := wrapN ⟨by have := h.a; omega, by have := h.a; omega⟩
    have w2 : IntKind.wrap .i64 x.2.2.1 = x.2.2.1 := wrapN ⟨by have := h.b; omega, by have := h.b; omega⟩
    have w3 : IntKind.wrap .i64 x.2.2.2.1 = x.2.2.2.1 := wrapN ⟨by have := h.c; omega, by have := h.c; omega⟩
    have hB : zq44.t x = [x.1, x.2.1, x.2.2.1, x.2.2.2.1] := by unfold zq44.t; rw [hw, w1, w2, w3]
    simp only [cond_true, Option.bind_some, hs]
    show zq35.g0 _ _ some 3 0 = _
    have k1 : IntKind.wrap .i64 (0 + 1) = 1 := rfl
    have k2 : IntKind.wrap .i64 (0 + 1 + 1) = 2 := rfl
    have k3 : IntKind.wrap .i64 (0 + 1 + 1 + 1) = 3 := rfl
    have j1 : idxOK 1 (List.length [x.1, x.2.1, x.2.2.1, x.2.2.2.1]) = true := rfl
    have j2 : idxOK 2 (List.length [x.1, x.2.1, x.2.2.1, x.2.2.2.1]) = true := rfl
    have j3 : idxOK 3 (List.length [x.1, x.2.1, x.2.2.1, x.2.2.2.1]) = true := rfl
    have g1 : List.getD [x.1, x.2.1, x.2.2.1, x.2.2.2.1] (Int.toNat 1) 0 = x.2.1 := rfl
    have g2 : List.getD [x.1, x.2.1, x.2.2.1, x.2.2.2.1] (Int.toNat 2) 0 = x.2.2.1 := rfl
    have g3 : List.getD [x.1, x.2.1, x.2.2.1, x.2.2.2.1] (Int.toNat 3) 0 = x.2.2.2.1 := rfl
    simp only [zq35.g0, hs, hB, show idxOK 0 3 = true from rfl, show idxOK (0 + 1) 3 = true from rfl, show idxOK (0 + 1 + 1) 3 = true from rfl, cond_true, show Int.toNat 0 = 0 from rfl, show Int.toNat (0 + 1) = 1 from rfl, show Int.toNat (0 + 1 + 1) = 2 from rfl, k1, k2, k3, j1, j2, j3, g1, g2, g3]
    cases (bAt (lineOf x.1).2.1 0 == 116) <;> cases (bAt (lineOf x.1).2.1 1 == 116) <;> cases (bAt (lineOf x.1).2.1 2 == 116) <;> rfl
abbrev noIn : In := (0, (0, (0, (0, ()))))
def PrOK (l : List In) : Prop := ∀ x ∈ l, InOK x
theorem noIn_ok : InOK noIn := ⟨by decide, by decide, by decide, by decide⟩
theorem PrOK.at {l : List In} (h : PrOK l) (i : Nat) : InOK (l.getD i noIn) := by
  rw [List.getD_eq_getElem?_getD]
  cases hx : l[i]? with
  | none => exact noIn_ok
  | some x => exact h x (List.mem_of_getElem? hx)
def isG (x : In) : Bool := (bif zq1o.t x.1 then (lineOf x.1).2.2.1 else -1) == 3
theorem guard_u {x : In} (h : InOK x) : zq33.u x = some (isG x) := by
  unfold zq33.u zq33.s
  rw [wrapN (x := x.1) ⟨by have := h.o; omega, by have := h.o; omega⟩, class_u]
  rfl
theorem guards_u {x : In} (h : InOK x) : zq2s.u x = some (isG x) := by
  unfold zq2s.u zq2s.s isG
  rw [wrapN (x := x.1) ⟨by have := h.o; omega, by have := h.o; omega⟩, of_u]
  cases zq1o.t x.1 <;> rfl
theorem alt_notG {x : In} (h : x.1 = 41) : isG x = false := by
  unfold isG lineOf
  rw [h]
  decide +kernel
theorem contains_u {l : List In} (h : PrOK l) (hl : l.length ≤ 4611686018427387904) : zq16.u l = some (l.any fun x => !isG x) := by
  have step : ∀ x ∈ l, zq2x.u x = some (!isG x) := fun x hx => by
    unfold zq2x.u zq2x.s
    rw [guard_u (h x hx)]; rfl
  have key : ∀ (xs : List In) (i : Int), (∀ x ∈ xs, x ∈ l) → 0 ≤ i → ∃ j, zq00.g0 l some xs i = some j ∧ decide (j ≥ 0) = xs.any fun x => !isG x := by
    intro xs
    induction xs with
    | nil => intro i _ _; exact ⟨-1, rfl, rfl⟩
    | cons x xs ih =>
      intro i hx hi
      simp only [zq00.g0, step x (hx x (by simp)), Option.bind_some, List.any_cons]
      cases hg : !isG x with
      | true => exact ⟨i, rfl, by simp; omega⟩
      | false =>
        obtain ⟨j, e1, e2⟩ := ih (i + 1) (fun y hy => hx y (List.mem_cons_of_mem _ hy)) (by omega)
        exact ⟨j, e1, by rw [e2]; simp⟩
  obtain ⟨j, e1, e2⟩ := key l 0 (fun _ h => h) (by omega)
  unfold zq16.u zq16.s zq00.u zq00.w
  rw [dec_len hl (Nat.le_refl _), cond_true, e1]
  simp only [Option.bind_some, e2]
def gdF (l : List In) (a C : Nat) : Bool := (List.range' 1 C).all fun j => decide (a + j < l.length) && isG (l.getD (a + j) noIn)
theorem gd_slice {l : List In} {a C : Nat} (ha : a < l.length) : (decide (a + 1 + C ≤ l.length) && ((l.take (a + 1 + C)).drop (a + 1)).all isG) = gdF l a C := by
  unfold gdF
  by_cases h : a + 1 + C ≤ l.length
  · rw [decide_eq_true h, Bool.true_and]
    have e : (l.take (a + 1 + C)).drop (a + 1) = (List.range' 1 C).map fun j => l.getD (a + j) noIn := by
      apply List.ext_getElem
      · rw [List.length_drop, List.length_take, List.length_map, List.length_range']; omega
      · intro n h1 h2
        rw [List.length_map, List.length_range'] at h2
        rw [List.getElem_drop, List.getElem_take, List.getElem_map, List.getElem_range', List.getD_eq_getElem?_getD, List.getElem?_eq_getElem (by omega)]
        simp only [Option.getD_some]
        congr 1; omega
    rw [e, List.all_map]
    rw [Bool.eq_iff_iff]
    simp only [List.all_eq_true, Function.comp, Bool.and_eq_true, decide_eq_true_eq]
    constructor
    · intro hh j hj
      refine ⟨?_, hh j hj⟩
      rw [List.mem_range'_1] at hj; omega
    · intro hh j hj
      exact (hh j hj).2
  · rw [decide_eq_false h, Bool.false_and]
    symm
    rw [Bool.eq_false_iff]
    intro hh
    rw [List.all_eq_true] at hh
    have := hh (l.length - a) (by rw [List.mem_range'_1]; omega)
    simp only [Bool.and_eq_true, decide_eq_true_eq] at this
    omega
theorem guarded_u {l : List In} (h : PrOK l) (hl : l.length ≤ 64) {a : Nat} (ha : a < l.length) : zq3p.u l (a : Int) = some (gdF l a (l.getD a noIn).2.2.2.1.toNat) := by
  unfold zq3p.u zq3p.s
  have hx := (h.at a).c
  rw [idxOK_nat ha, cond_true, Int.toNat_natCast]
  have e1 : IntKind.wrap .i64 ((a : Int) + 1) = (a : Int) + 1 := wrapN ⟨by omega, by omega⟩
  have e2 : IntKind.wrap .i64 (List.getD l a noIn).2.2.2.1 = (List.getD l a noIn).2.2.2.1 := wrapN ⟨by omega, by omega⟩
  have e3 : IntKind.wrap .i64 ((a : Int) + 1 + (List.getD l a noIn).2.2.2.1) = (a : Int) + 1 + (List.getD l a noIn).2.2.2.1 := wrapN ⟨by omega, by omega⟩
  rw [e1, e2, e3]
  generalize hC : (List.getD l a noIn).2.2.2.1.toNat = C
  have hC' : (List.getD l a noIn).2.2.2.1 = (C : Int) := by omega
  rw [hC']
  simp only
  rw [← gd_slice ha]
  by_cases hle : a + 1 + C ≤ l.length
  · have d1 : decide ((a : Int) + 1 + (C : Int) ≤ ((List.length l : Nat) : Int)) = true := decide_eq_true (by omega)
    have d2 : subC (some ((a : Int) + 1)) (some ((a : Int) + 1 + (C : Int))) (List.length l) = true := by simp [subC]; omega
    have d3 : subL (some ((a : Int) + 1)) (some ((a : Int) + 1 + (C : Int))) l = (l.take (a + 1 + C)).drop (a + 1) := by
      rw [subL_eq]
      show (l.take ((a : Int) + 1 + (C : Int)).toNat).drop ((a : Int) + 1).toNat = _
      rw [show ((a : Int) + 1 + (C : Int)).toNat = a + 1 + C by omega, show ((a : Int) + 1).toNat = a + 1 by omega]
    rw [d1, d2, d3, cond_true, cond_true, contains_u (fun x hx => h x (List.mem_of_mem_take (List.mem_of_mem_drop hx))) (by rw [List.length_drop, List.length_take]; omega), decide_eq_true hle, Bool.true_and]
    simp only [Option.bind_some]
    rw [bnot_any]
  · rw [decide_eq_false (show ¬ ((a : Int) + 1 + (C : Int) ≤ ((List.length l : Nat) : Int)) by omega), decide_eq_false hle]
    rfl
def ledF (l : List In) (x : In) : Int := bif (plcF x).2 then (bif decide ((plcF x).1 > (l.length : Int)) then 8 else bif decide ((plcF x).1 < (l.length : Int)) && isG (l.getD (plcF x).1.toNat noIn) then 3 else 0) else 0
theorem plc_nonneg {x : In} (h : InOK x) : 0 ≤ (plcF x).1 ∧ (plcF x).1 ≤ 255 := by
  have := h.a; have := h.b; have := h.c
  unfold plcF
  cases zq1o.t x.1 <;> cases (bAt (lineOf x.1).2.1 0 == 116) <;> cases (bAt (lineOf x.1).2.1 1 == 116) <;> cases (bAt (lineOf x.1).2.1 2 == 116) <;> simp <;> omega
theorem led_u {l : List In} (h : PrOK l) {x : In} (hx : InOK x) : zq48.u l x = some (ledF l x) := by
  unfold zq48.u zq48.s ledF
  rw [place_u hx]
  have hp := plc_nonneg hx
  generalize plcF x = q at hp
  obtain ⟨p, is⟩ := q
  cases is with
  | false => rfl
  | true =>
    simp only [Option.bind_some, Bool.not_true, cond_false, cond_true]
    simp only at hp
    by_cases e1 : p = (l.length : Int)
    · subst e1; simp
    · by_cases e2 : p > (l.length : Int)
      · simp [beq_eq_false_iff_ne.2 e1, e2]
      · have hi : idxOK p (List.length l) = true := idxOK_of hp.1 (by omega)
        simp only [beq_eq_false_iff_ne.2 e1, cond_false, e2, decide_false, hi, cond_true, guard_u (h.at _), Option.bind_some, show p < (l.length : Int) by omega, decide_true, Bool.true_and]
        cases isG (l.getD p.toNat noIn) <;> rfl
def wrF (l : List In) (a : Nat) (own : Bool) : Int :=
  bif chk (l.getD a noIn) != 0 then chk (l.getD a noIn) else bif isG (l.getD a noIn) && !own then 3 else
    bif ((l.getD a noIn).1 == 41) && !gdF l a (l.getD a noIn).2.2.2.1.toNat then 3 else ledF l (l.getD a noIn)
theorem wrong_u {l : List In} (h : PrOK l) (hl : l.length ≤ 64) {a : Nat} (ha : a < l.length) (left : Int) : zq3q.u l (a : Int) left = some (wrF l a (left != 0)) := by
  unfold zq3q.u zq3q.s wrF
  rw [idxOK_nat ha, cond_true, Int.toNat_natCast]
  simp only [check_u (h.at a), guard_u (h.at a), guarded_u h hl ha, led_u h (h.at a), Option.bind_some, bne]
  cases (chk (l.getD a noIn) == 0) <;> cases isG (l.getD a noIn) <;> cases (left == 0) <;> cases ((l.getD a noIn).1 == 41) <;> cases gdF l a (l.getD a noIn).2.2.2.1.toNat <;> rfl
def ownF (l : List In) (a j : Nat) : Bool := !((List.range' 0 a).all fun i => !(((l.getD i noIn).1 == 41) && decide ((j : Int) ≤ (i : Int) + (l.getD i noIn).2.2.2.1)))
theorem owned_u {l : List In} (h : PrOK l) (hl : l.length ≤ 64) {a : Nat} (ha : a < l.length) : zq3j.u l (a : Int) = some (ownF l a a) := by
  unfold zq3j.u zq3j.w
  rw [decide_eq_true (show (a : Int) ≤ 4611686018427387904 by omega), cond_true, Int.sub_zero, Int.toNat_natCast]
  have := count_all (fun n i => zq3j.g0 l (a : Int) some n i) (fun i => !(((l.getD i noIn).1 == 41) && decide ((a : Int) ≤ (i : Int) + (l.getD i noIn).2.2.2.1))) (some false) (some true) a rfl (fun n i hi => by
    have hx := (h.at i).c
    simp only [zq3j.g0]
    rw [idxOK_nat (by omega), cond_true, Int.toNat_natCast]
    have e2 : IntKind.wrap .i64 (List.getD l i noIn).2.2.2.1 = (List.getD l i noIn).2.2.2.1 := wrapN ⟨by omega, by omega⟩
    have e3 : IntKind.wrap .i64 ((i : Int) + (List.getD l i noIn).2.2.2.1) = (i : Int) + (List.getD l i noIn).2.2.2.1 := wrapN ⟨by omega, by omega⟩
    rw [e2, e3]
    unfold zq4s.t
    cases ((l.getD i noIn).1 == 41) <;> cases decide ((a : Int) ≤ (i : Int) + (l.getD i noIn).2.2.2.1) <;> rfl) a 0 (by omega)
  refine this.trans ?_
  unfold ownF
  cases (List.range' 0 a).all fun i => !(((l.getD i noIn).1 == 41) && decide ((a : Int) ≤ (i : Int) + (l.getD i noIn).2.2.2.1)) <;> rfl
theorem one_fin {l : List In} (h : PrOK l) {x : In} (hx : InOK x) : ((zq35.u x).bind fun y5 : Int × Bool =>
    bif y5.2 then
      bif (decide (y5.1 > ((List.length l : Nat) : Int))) then some 8
      else
        bif y5.2 then
          bif (decide (y5.1 < ((List.length l : Nat) : Int))) then
            bif (idxOK y5.1 (List.length l)) then (zq2s.u ((List.getD l (Int.toNat y5.1) (0, (0, (0, (0, ()))))))).bind fun y6 => bif y6 then some 3 else some 0
            else none
          else some 0
        else some 0
    else
      bif y5.2 then
        bif (decide (y5.1 < ((List.length l : Nat) : Int))) then
          bif (idxOK y5.1 (List.length l)) then (zq2s.u ((List.getD l (Int.toNat y5.1) (0, (0, (0, (0, ()))))))).bind fun y7 => bif y7 then some 3 else some 0
          else none
        else some 0
      else some 0) = some (ledF l x) := by
  rw [refplace_u hx]
  have hp := plc_nonneg hx
  unfold ledF
  generalize plcF x = q at hp
  obtain ⟨p, is⟩ := q
  cases is with
  | false => rfl
  | true =>
    simp only [Option.bind_some, cond_true]
    simp only at hp
    by_cases e2 : p > (l.length : Int)
    · simp [e2]
    · by_cases e3 : p < (l.length : Int)
      · have hi : idxOK p (List.length l) = true := idxOK_of hp.1 e3
        simp only [e2, e3, decide_false, decide_true, cond_false, cond_true, hi, guards_u (h.at _), Option.bind_some, Bool.true_and]
        cases isG (l.getD p.toNat noIn) <;> rfl
      · simp [e2, e3]
theorem one_u {l : List In} (h : PrOK l) (hl : l.length ≤ 64) {a : Nat} (ha : a < l.length) : zq3v.u l (a : Int) = some (wrF l a (ownF l a a)) := by
  unfold zq3v.u zq3v.w wrF
  have hx := (h.at a).c
  rw [idxOK_nat ha, cond_true, Int.toNat_natCast]
  generalize hC : (List.getD l a noIn).2.2.2.1.toNat = C
  have hC' : (List.getD l a noIn).2.2.2.1 = (C : Int) := by omega
  have e2 : IntKind.wrap .i64 (List.getD l a noIn).2.2.2.1 = (C : Int) := by rw [hC']; exact wrapN ⟨by omega, by omega⟩
  have hd : decide ((C : Int) ≤ 4611686018427387904) = true := decide_eq_true (by omega)
  have hloop : zq3v.g0 l (a : Int) (List.getD l a noIn) some (Int.toNat ((C : Int) + 1 - 1)) 1 = bif gdF l a C then some (ledF l (List.getD l a noIn)) else some 3 := by
    have := count_all (fun n i => zq3v.g0 l (a : Int) (List.getD l a noIn) some n i) (fun j => decide (a + j < l.length) && isG (l.getD (a + j) noIn)) (some (ledF l (List.getD l a noIn))) (some 3) (C + 1) (one_fin h (h.at a)) (fun n i hi => by
      simp only [zq3v.g0]
      have e3 : IntKind.wrap .i64 ((a : Int) + (i : Int)) = ((a + i : Nat) : Int) := by rw [wrapN ⟨by omega, by omega⟩]; omega
      rw [e3]
      by_cases hlt : a + i < l.length
      · rw [decide_eq_false (show ¬ (((a + i : Nat) : Int) ≥ ((List.length l : Nat) : Int)) by omega), idxOK_nat hlt, Int.toNat_natCast, guards_u (h.at _), decide_eq_true hlt]
        simp only [cond_false, cond_true, Option.bind_some, Bool.true_and]
        cases isG (l.getD (a + i) noIn) <;> rfl
      · rw [decide_eq_true (show (((a + i : Nat) : Int) ≥ ((List.length l : Nat) : Int)) by omega), decide_eq_false hlt]
        rfl) C 1 (by omega)
    rw [show ((C : Int) + 1 - 1).toNat = C by omega]
    exact this
  simp only [refcheck_u (h.at a), guards_u (h.at a), owned_u h hl ha, Option.bind_some, zq4s.t, e2, hd, cond_true, hloop, bne]
  have hf := one_fin h (h.at a)
  simp only [hf]
  cases (chk (l.getD a noIn) == 0) <;> cases isG (l.getD a noIn) <;> cases ownF l a a <;> cases ((l.getD a noIn).1 == 41) <;> cases gdF l a C <;> rfl
structure LeftOK (l : List In) (a left : Nat) : Prop where
  own : ∀ j, a ≤ j → (ownF l a j = true ↔ j < a + left)
  all : ∀ j, a ≤ j → j < a + left → isG (l.getD j noIn) = true
  le : left ≤ 255
theorem own_iff {l : List In} {a j : Nat} : ownF l a j = true ↔ ∃ i, i < a ∧ (l.getD i noIn).1 = 41 ∧ (j : Int) ≤ (i : Int) + (l.getD i noIn).2.2.2.1 := by
  unfold ownF
  rw [Bool.not_eq_true', Bool.eq_false_iff]
  simp only [ne_eq, List.all_eq_true, Bool.not_eq_true', Bool.and_eq_false_iff, beq_eq_false_iff_ne, decide_eq_false_iff_not]
  constructor
  · intro hh
    apply Classical.byContradiction
    intro hn
    apply hh
    intro i hi
    rw [List.mem_range'_1] at hi
    by_cases e : (l.getD i noIn).1 = 41
    · right; intro hj; exact hn ⟨i, by omega, e, hj⟩
    · exact .inl e
  · rintro ⟨i, h1, h2, h3⟩ hh
    have := hh i (by rw [List.mem_range'_1]; omega)
    rcases this with e | e
    · exact e h2
    · exact e h3
theorem left_alt {l : List In} (h : PrOK l) {a left : Nat} (hi : LeftOK l a left) (h41 : (l.getD a noIn).1 = 41) (hg : gdF l a (l.getD a noIn).2.2.2.1.toNat = true) : LeftOK l (a + 1) (l.getD a noIn).2.2.2.1.toNat := by
  have hx := (h.at a).c
  have h0 : left = 0 := by
    rcases Nat.eq_zero_or_pos left with e | e
    · exact e
    · have := hi.all a (Nat.le_refl _) (by omega)
      rw [alt_notG h41] at this; cases this
  refine ⟨fun j hj => ?_, fun j h1 h2 => ?_, by omega⟩
  · rw [own_iff]
    constructor
    · rintro ⟨i, q1, q2, q3⟩
      by_cases e : i = a
      · subst e; omega
      · have := (hi.own j (by omega)).1 (own_iff.2 ⟨i, by omega, q2, q3⟩)
        omega
    · intro hlt
      exact ⟨a, by omega, h41, by omega⟩
  · unfold gdF at hg
    rw [List.all_eq_true] at hg
    have := hg (j - a) (by rw [List.mem_range'_1]; omega)
    simp only [Bool.and_eq_true] at this
    rw [show a + (j - a) = j by omega] at this
    exact this.2
theorem left_on {l : List In} {a left : Nat} (hi : LeftOK l a left) (h41 : (l.getD a noIn).1 ≠ 41) : LeftOK l (a + 1) (left - 1) := by
  refine ⟨fun j hj => ?_, fun j h1 h2 => hi.all j (by omega) (by omega), by have := hi.le; omega⟩
  have : ownF l (a + 1) j = true ↔ ownF l a j = true := by
    rw [own_iff, own_iff]
    constructor
    · rintro ⟨i, q1, q2, q3⟩
      by_cases e : i = a
      · subst e; exact absurd q2 h41
      · exact ⟨i, by omega, q2, q3⟩
    · rintro ⟨i, q1, q2, q3⟩; exact ⟨i, by omega, q2, q3⟩
  rw [this, hi.own j (by omega)]
  omega
theorem check_go {l : List In} (h : PrOK l) (hl : l.length ≤ 64) : ∀ (xs : List In) (a left : Nat), l.drop a = xs → LeftOK l a left →
    ∃ v, zq13.g0 l some xs (left : Int) (a : Int) = some v ∧ zq2w.g0 l some xs (a : Int) = some v
  | [], a, left, _, _ => ⟨_, rfl, rfl⟩
  | x :: xs, a, left, hd, hi => by
    have ha : a < l.length := by
      rcases Nat.lt_or_ge a l.length with hlt | hge
      · exact hlt
      · rw [List.drop_eq_nil_of_le hge] at hd; cases hd
    have hx : l.getD a noIn = x := by
      rw [List.drop_eq_getElem_cons ha] at hd
      rw [List.getD_eq_getElem?_getD, List.getElem?_eq_getElem ha]
      cases hd; rfl
    have hd' : l.drop (a + 1) = xs := by
      rw [List.drop_eq_getElem_cons ha] at hd
      cases hd; rfl
    have ho : ((left : Int) != 0) = ownF l a a := by
      rw [Bool.eq_iff_iff, hi.own a (Nat.le_refl _)]
      simp only [bne_iff_ne, ne_eq]
      omega
    simp only [zq13.g0, zq2w.g0, wrong_u h hl ha, one_u h hl ha, Option.bind_some, ho]
    cases hw : (wrF l a (ownF l a a) != 0) with
    | true => exact ⟨_, rfl, rfl⟩
    | false =>
      simp only [cond_false]
      have hle := hi.le
      have hxc := (h.at a).c
      cases h41 : (x.1 == 41) with
      | true =>
        have e41 : (l.getD a noIn).1 = 41 := by rw [hx]; simpa using h41
        have hg : gdF l a (l.getD a noIn).2.2.2.1.toNat = true := by
          cases hg : gdF l a (l.getD a noIn).2.2.2.1.toNat with
          | true => rfl
          | false =>
            exfalso
            unfold wrF at hw
            rw [hg, hx, h41] at hw
            cases hc : (chk x != 0) with
            | true => rw [hc, cond_true, hc] at hw; cases hw
            | false =>
              rw [hc] at hw
              cases (isG x && !ownF l a a) <;> simp at hw
        obtain ⟨v, v1, v2⟩ := check_go h hl xs (a + 1) _ hd' (left_alt h hi e41 hg)
        refine ⟨v, ?_, ?_⟩
        · rw [cond_true]
          rw [hx] at v1 hxc
          rw [wrapN (x := x.2.2.2.1) ⟨by omega, by omega⟩]
          rw [show ((x.2.2.2.1.toNat : Nat) : Int) = x.2.2.2.1 by omega, show ((a + 1 : Nat) : Int) = (a : Int) + 1 by omega] at v1
          exact v1
        · rw [show ((a + 1 : Nat) : Int) = (a : Int) + 1 by omega] at v2
          exact v2
      | false =>
        have e41 : (l.getD a noIn).1 ≠ 41 := by rw [hx]; simpa using h41
        obtain ⟨v, v1, v2⟩ := check_go h hl xs (a + 1) _ hd' (left_on hi e41)
        refine ⟨v, ?_, ?_⟩
        · rw [cond_false]
          have e1 : (if (0 : Int) > IntKind.wrap .i64 ((left : Int) - 1) then 0 else IntKind.wrap .i64 ((left : Int) - 1)) = ((left - 1 : Nat) : Int) := by
            rw [wrapN ⟨by omega, by omega⟩]
            split <;> omega
          rw [e1, ← show ((a + 1 : Nat) : Int) = (a : Int) + 1 by omega]
          exact v1
        · rw [show ((a + 1 : Nat) : Int) = (a : Int) + 1 by omega] at v2
          exact v2
theorem check_law {l : List In} (h : PrOK l) : ∃ v, zq13.u l = some v ∧ zq2w.u l = some v := by
  unfold zq13.u zq13.w zq2w.u zq2w.w
  cases h0 : (((List.length l : Nat) : Int) == 0) with
  | true => exact ⟨_, rfl, rfl⟩
  | false =>
    cases h1 : decide (((List.length l : Nat) : Int) > 64) with
    | true => exact ⟨_, rfl, rfl⟩
    | false =>
      have hl : l.length ≤ 64 := by have := of_decide_eq_false h1; omega
      simp only [cond_false, dec_len hl (by decide), cond_true]
      refine check_go h hl l 0 0 rfl ⟨fun j _ => ?_, fun j _ h => by omega, by omega⟩
      rw [own_iff]
      constructor
      · rintro ⟨i, h, _⟩; omega
      · intro h; omega
abbrev Fr := Int × (Bool × ((List Int) × ((List Int) × (Int × ((List Int) × Unit)))))
structure FrOK (f : Fr) : Prop where
  r : f.2.2.1.length = 8
  m : f.2.2.2.1.length = 16
  s : f.2.2.2.2.2.1.length = 8
theorem all_word (l : List Int) (h : l.length ≤ 4611686018427387904) : zq2i.u l = some (l.all zq1j.t) := by
  obtain ⟨j, e1, e2⟩ := find_list (fun x => zq1q.t x) (fun xs i => zq03.g0 l some xs i) some (fun i => rfl) (fun x xs i => rfl) l 0 (by omega)
  unfold zq2i.u zq2i.s zq1k.u zq1k.s zq03.u zq03.w
  rw [dec_len h (Nat.le_refl _), cond_true, e1]
  simp only [Option.bind_some, e2]
  congr 1
  exact bnot_any _ l
theorem all_place (l : List Int) (h : l.length ≤ 4611686018427387904) : zq2g.u l = some (l.all zq2b.t) := by
  obtain ⟨j, e1, e2⟩ := find_list (fun x => zq1p.t x) (fun xs i => zq02.g0 l some xs i) some (fun i => rfl) (fun x xs i => rfl) l 0 (by omega)
  unfold zq2g.u zq2g.s zq1i.u zq1i.s zq02.u zq02.w
  rw [dec_len h (Nat.le_refl _), cond_true, e1]
  simp only [Option.bind_some, e2]
  congr 1
  exact bnot_any _ l
theorem all_zero (l : List Int) (h : l.length ≤ 4611686018427387904) : zq2d.u l = some (l.all fun x => x == 0) := by
  obtain ⟨j, e1, e2⟩ := find_list (fun x => zq1n.t x) (fun xs i => zq01.g0 l some xs i) some (fun i => rfl) (fun x xs i => rfl) l 0 (by omega)
  unfold zq2d.u zq2d.s zq1g.u zq1g.s zq01.u zq01.w
  rw [dec_len h (Nat.le_refl _), cond_true, e1]
  simp only [Option.bind_some, e2]
  congr 1
  exact bnot_any _ l
def FrFine (f : Fr) : Bool :=
  zq2b.t f.1 && (decide (0 ≤ f.2.2.2.2.1) && decide (f.2.2.2.2.1 ≤ 8)) && (f.2.2.1.all zq1j.t && f.2.2.2.1.all zq1j.t) &&
    ((f.2.2.2.2.2.1.take f.2.2.2.2.1.toNat).all zq2b.t && (f.2.2.2.2.2.1.drop f.2.2.2.2.1.toNat).all fun x => x == 0)
theorem frame_fine {f : Fr} (h : FrOK f) : zq3s.u f = some (FrFine f) := by
  obtain ⟨pc, bad, r, m, d, s, u⟩ := f
  obtain ⟨hr, hm, hs⟩ := h
  simp only at hr hm hs
  unfold zq3s.u zq3s.s FrFine
  simp only
  cases h1 : zq2b.t pc with
  | false => simp
  | true =>
    simp only [Bool.not_true, cond_false]
    by_cases h2 : d < 0
    · simp [h2, show ¬ (0 ≤ d) by omega]
    by_cases h3 : d > 8
    · simp [h2, h3, show ¬ (d ≤ 8) by omega]
    have e1 : List.take (subHi none 8 - subLo none) (List.drop (subLo none) r) = r := by
      show List.take (8 - 0) (List.drop 0 r) = r
      rw [List.drop_zero, List.take_of_length_le (by omega)]
    have e2 : List.take (subHi none 16 - subLo none) (List.drop (subLo none) m) = m := by
      show List.take (16 - 0) (List.drop 0 m) = m
      rw [List.drop_zero, List.take_of_length_le (by omega)]
    have e3 : List.take (subHi (some d) 8 - subLo none) (List.drop (subLo none) s) = s.take d.toNat := by
      show List.take (d.toNat - 0) (List.drop 0 s) = _
      rw [List.drop_zero, Nat.sub_zero]
    have e4 : List.take (subHi none 8 - subLo (some d)) (List.drop (subLo (some d)) s) = s.drop d.toNat := by
      show List.take (8 - d.toNat) (List.drop d.toNat s) = _
      rw [List.take_of_length_le (by rw [List.length_drop]; omega)]
    have c1 : subC none none 8 = true := rfl
    have c2 : subC none none 16 = true := rfl
    have c3 : subC none (some d) 8 = true := by simp [subC]; omega
    have c4 : subC (some d) none 8 = true := by simp [subC]; omega
    simp only [h2, h3, decide_false, cond_false, c1, c2, c3, c4, cond_true, e1, e2, e3, e4, all_word r (by omega), all_word m (by omega), all_place (s.take d.toNat) (by rw [List.length_take]; omega), all_zero (s.drop d.toNat) (by rw [List.length_drop]; omega), Option.bind_some,
      show (0 ≤ d) from by omega, show (d ≤ 8) from by omega, decide_true, Bool.true_and]
    cases r.all zq1j.t <;> cases m.all zq1j.t <;> cases (s.take d.toNat).all zq2b.t <;> simp
end
end Go.Proofs.YtlcomipbinfooaaGreatDoor.K

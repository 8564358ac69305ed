/- Labels, plainly: their texts; LabelTells. (Printed by gen35b.py.) -/
import Derived.Test.YtaednhofihnfkaaDoorL35a
import Derived.KernelRfl
set_option maxRecDepth 100000
set_option linter.unusedVariables false
set_option linter.unusedSimpArgs false
namespace Go.Proofs.YtaednhofihnfkaaDoor.K
open Go

theorem ddK {u : Nat} : ∀ k, u < 10 ^ (k + 1) → (Lib.decDigits u).length ≤ k + 1 := by
  intro k
  induction k generalizing u with
  | zero => intro hu; rw [Lib.decDigits, dif_pos (by omega)]; simp
  | succ k ih =>
    intro hu
    rw [Lib.decDigits]
    split
    · simp
    · have := @ih (u / 10) (by rw [Nat.pow_succ] at hu; omega)
      simp only [List.length_append, List.length_singleton]; omega
theorem itoaK {n : Int} (h : -1099511627776 ≤ n ∧ n ≤ 1099511627776) : (Lib.itoa n).length ≤ 20 := by
  unfold Lib.itoa
  split
  · have := ddK (u := n.natAbs) 12 (by omega)
    simp only [List.length_cons]; omega
  · have := ddK (u := n.toNat) 12 (by omega)
    omega
theorem txtK {n : Int} (h : -1099511627776 ≤ n ∧ n ≤ 1099511627776) : (txt n).size ≤ 20 := by
  rw [size_list, txt_list]; exact itoaK h
theorem catK {a b : ByteArray} (h : a.size + b.size ≤ 1000) : decide (a.size + b.size ≤ catMax) = true := by
  unfold catMax; exact decide_eq_true (by omega)

/-- The word of an event's kind. -/
def nameE (k : Int) : List UInt8 :=
  bif k == 1 then [102, 105, 114, 101] else bif k == 2 then [112, 97, 115, 115] else bif k == 3 then [112, 117, 116] else bif k == 4 then [116, 97, 107, 101] else
  bif k == 5 then [98, 97, 110, 101] else bif k == 6 then [100, 117, 101] else bif k == 7 then [103, 111, 110, 101] else [102, 114, 101, 101]
/-- The text of an event. -/
def TE : Evn → List UInt8
  | (k, (o, (w, (n, _)))) => nameE k ++ 32 :: (bif decide (k ≤ 4) then markE k ++ Lib.itoa o else Lib.itoa w ++ 46 :: Lib.itoa n)
def oneT (e : Evn) : Bool := match event_Text.u e with
  | some a => a.1.data.toList == TE e
  | none => false
theorem allT : evAll.all oneT = true := by kernel_rfl
theorem te_u {e : Evn} (h : chkE e = 0) : event_Text.u e = some (bs (TE e), 0) ∧ ref28_Text.u e = some (bs (TE e), 0) ∧ (TE e).length ≤ 20 := by
  obtain ⟨t, h1, h2, h3, h4⟩ := text_back h
  have h5 := List.all_eq_true.1 allT e (chk_mem h)
  unfold oneT at h5
  rw [h1] at h5
  have h5 : t.data.toList = TE e := by simpa using h5
  have : t = bs (TE e) := ba_ext (by rw [h5, bs_list])
  subst this
  exact ⟨h1, h2, by rw [← bs_size]; exact h3⟩

/-- The word of a label's kind. -/
def nameL (k : Int) : List UInt8 :=
  bif k == 1 then [100, 105, 100] else bif k == 2 then [116, 111, 108, 100] else bif k == 3 then [111, 102, 102, 101, 114, 101, 100] else bif k == 4 then [102, 101, 108, 108] else bif k == 5 then [101, 110, 100, 101, 100] else bif k == 6 then [102, 97, 117, 108, 116, 101, 100] else [116, 105, 99, 107, 101, 100]
/-- The text of a label. -/
def TLb : Lb → List UInt8
  | (k, (w, (v, (e, _)))) =>
    bif k == 7 then TE e else bif k == 8 then nameL 8 ++ 32 :: Lib.itoa v
    else bif (k == 2) || (k == 6) then nameL k ++ 32 :: (Lib.itoa w ++ 32 :: Lib.itoa v)
    else bif k == 4 then nameL 4 ++ 32 :: (Lib.itoa w ++ 32 :: 107 :: Lib.itoa v)
    else nameL k ++ 32 :: Lib.itoa w
def textLb (x : Lb) : ByteArray × Int := bif chkL x != 0 then (bs [], chkL x) else (bs (TLb x), 0)

theorem b2 (a c : Bool) : (bif a then (bif c then (0 : Int) else 3) else 8) = 0 ↔ a = true ∧ c = true := by cases a <;> cases c <;> simp
theorem b3 (a b c : Bool) : (bif a then (bif b then (bif c then (0 : Int) else 3) else 8) else 8) = 0 ↔ a = true ∧ b = true ∧ c = true := by cases a <;> cases b <;> cases c <;> simp
theorem b7 (x : Int) (c : Bool) : (bif x != 0 then x else bif c then (0 : Int) else 3) = 0 ↔ x = 0 ∧ c = true := by
  by_cases h : x = 0
  · subst h; cases c <;> simp
  · have : (x != 0) = true := by rw [bne_iff_ne]; exact h
    rw [this, cond_true]
    exact ⟨fun q => absurd q h, fun q => absurd q.1 h⟩
/-- Labels that may be, kind by kind. -/
theorem chkL0 (k w v : Int) (e : Evn) : chkL (k, (w, (v, (e, ())))) = 0 ↔
    (k = 7 ∧ chkE e = 0 ∧ w = 0 ∧ v = 0) ∨ (k = 8 ∧ (0 ≤ v ∧ v ≤ 65535) ∧ w = 0 ∧ e = zEv) ∨ (k = 2 ∧ (0 ≤ w ∧ w ≤ 15) ∧ (-2147483648 ≤ v ∧ v ≤ 2147483647) ∧ e = zEv) ∨
    (k = 4 ∧ (0 ≤ w ∧ w ≤ 15) ∧ (0 ≤ v ∧ v ≤ 3) ∧ e = zEv) ∨ (k = 6 ∧ (0 ≤ w ∧ w ≤ 15) ∧ (1 ≤ v ∧ v ≤ 511) ∧ e = zEv) ∨ ((k = 1 ∨ k = 3 ∨ k = 5) ∧ (0 ≤ w ∧ w ≤ 15) ∧ v = 0 ∧ e = zEv) := by
  by_cases h : k < 1 ∨ k > 8
  · rw [chkL_out h]
    constructor
    · intro q; exact absurd q (by decide)
    · intro q; omega
  rcases lkinds k (by omega) (by omega) with rfl | rfl | rfl | rfl | rfl | rfl | rfl | rfl
  · show (bif rngL 0 15 w then (bif (v == 0) && (e == zEv) then (0 : Int) else 3) else 8) = 0 ↔ _
    rw [b2, rngL_iff, Bool.and_eq_true, beq_iff_eq, beq_iff_eq]
    simp
  · show (bif rngL 0 15 w then (bif rngL (-2147483648) 2147483647 v then (bif e == zEv then (0 : Int) else 3) else 8) else 8) = 0 ↔ _
    rw [b3, rngL_iff, rngL_iff, beq_iff_eq]
    simp
  · show (bif rngL 0 15 w then (bif (v == 0) && (e == zEv) then (0 : Int) else 3) else 8) = 0 ↔ _
    rw [b2, rngL_iff, Bool.and_eq_true, beq_iff_eq, beq_iff_eq]
    simp
  · show (bif rngL 0 15 w then (bif rngL 0 3 v then (bif e == zEv then (0 : Int) else 3) else 8) else 8) = 0 ↔ _
    rw [b3, rngL_iff, rngL_iff, beq_iff_eq]
    simp
  · show (bif rngL 0 15 w then (bif (v == 0) && (e == zEv) then (0 : Int) else 3) else 8) = 0 ↔ _
    rw [b2, rngL_iff, Bool.and_eq_true, beq_iff_eq, beq_iff_eq]
    simp
  · show (bif rngL 0 15 w then (bif rngL 1 511 v then (bif e == zEv then (0 : Int) else 3) else 8) else 8) = 0 ↔ _
    rw [b3, rngL_iff, rngL_iff, beq_iff_eq]
    simp
  · show (bif chkE e != 0 then chkE e else bif (w == 0) && (v == 0) then (0 : Int) else 3) = 0 ↔ _
    rw [b7, Bool.and_eq_true, beq_iff_eq, beq_iff_eq]
    simp
  · show (bif rngL 0 65535 v then (bif (w == 0) && (e == zEv) then (0 : Int) else 3) else 8) = 0 ↔ _
    rw [b2, rngL_iff, Bool.and_eq_true, beq_iff_eq, beq_iff_eq]
    simp

theorem lnumber_u {n : Int} (h : -2147483648 ≤ n ∧ n ≤ 2147483647) : label_number.u n = some (txt n) := by
  unfold label_number.u label_number.s
  rw [text_fine (fine_iff.2 h)]; rfl
theorem rlnumber_u {n : Int} (h : -2147483648 ≤ n ∧ n ≤ 2147483647) : ref35_number.u n = some (bs [32] ++ txt n) := by
  unfold ref35_number.u ref35_number.s
  have z := txtK (n := n) ⟨by omega, by omega⟩
  have y : (bs [32]).size = 1 := rfl
  rw [ref_text]
  unfold textOf
  rw [fine_iff.2 h]
  simp only [cond_true, Option.bind_some]
  rw [catK (by omega), cond_true]
theorem lb_bad {x : Lb} (h : (chkL x != 0) = true) : textLb x = (bs [], chkL x) := by unfold textLb; rw [h]; rfl
theorem lb_ok {x : Lb} (h : chkL x = 0) : textLb x = (bs (TLb x), 0) := by unfold textLb; rw [h]; rfl
theorem ltext_u (x : Lb) : label_Text.u x = some (textLb x) := by
  unfold label_Text.u label_Text.s
  rw [lcheck_t]
  cases hc : (chkL x != 0) with
  | true => rw [lb_bad hc]; rfl
  | false =>
    have h0 : chkL x = 0 := by simpa using hc
    rw [lb_ok h0]
    obtain ⟨k, w, v, e, u⟩ := x
    cases u
    simp only [cond_false]
    rcases (chkL0 k w v e).1 h0 with ⟨rfl, he, rfl, rfl⟩ | ⟨rfl, hv, rfl, rfl⟩ | ⟨rfl, hw, hv, rfl⟩ | ⟨rfl, hw, hv, rfl⟩ | ⟨rfl, hw, hv, rfl⟩ | ⟨hk, hw, rfl, rfl⟩
    · simp only [show ((7 : Int) == 7) = true from rfl, cond_true, (te_u he).1, Option.bind_some]
      rfl
    · have zv := txtK (n := v) ⟨by omega, by omega⟩
      have y0 : (bs [32]).size = 1 := rfl
      have y1 : (bs [107]).size = 1 := rfl
      have y2 : (bs [32, 107]).size = 2 := rfl
      have yn : (bs [116, 105, 99, 107, 101, 100]).size = 6 := rfl
      have hn : List.getD label_names.t (Int.toNat 8) (bs []) = bs [116, 105, 99, 107, 101, 100] := by kernel_rfl
      have hi : idxOK 8 9 = true := rfl
      have hv : label_valued.t 8 = true := rfl
      simp only [hn, hi, hv, show ((8 : Int) == 1) = false from rfl, show ((8 : Int) == 2) = false from rfl, show ((8 : Int) == 4) = false from rfl, show ((8 : Int) == 6) = false from rfl, show ((8 : Int) == 7) = false from rfl, show ((8 : Int) == 8) = true from rfl, show ((8 : Int) != 8) = false from rfl, lnumber_u (n := v) ⟨by omega, by omega⟩, Option.bind_some, cond_true, cond_false]
      rw [catK (by (try simp only [ByteArray.size_append]); omega), cond_true, catK (by (try simp only [ByteArray.size_append]); omega), cond_true]
      congr 2
      all_goals apply ba_ext
      all_goals simp only [app_list, bs_list, txt_list]
      all_goals show _ = TLb (8, (0, (v, (zEv, ()))))
      all_goals simp only [TLb, nameL, show ((8 : Int) == 1) = false from rfl, show ((8 : Int) == 2) = false from rfl, show ((8 : Int) == 3) = false from rfl, show ((8 : Int) == 4) = false from rfl, show ((8 : Int) == 5) = false from rfl, show ((8 : Int) == 6) = false from rfl, show ((8 : Int) == 7) = false from rfl, show ((8 : Int) == 8) = true from rfl, Bool.or_self, Bool.or_true, Bool.true_or, Bool.or_false, cond_true, cond_false, List.append_assoc, List.cons_append, List.nil_append]
    · have zw := txtK (n := w) ⟨by omega, by omega⟩
      have zv := txtK (n := v) ⟨by omega, by omega⟩
      have y0 : (bs [32]).size = 1 := rfl
      have y1 : (bs [107]).size = 1 := rfl
      have y2 : (bs [32, 107]).size = 2 := rfl
      have yn : (bs [116, 111, 108, 100]).size = 4 := rfl
      have hn : List.getD label_names.t (Int.toNat 2) (bs []) = bs [116, 111, 108, 100] := by kernel_rfl
      have hi : idxOK 2 9 = true := rfl
      have hv : label_valued.t 2 = true := rfl
      simp only [hn, hi, hv, show ((2 : Int) == 1) = false from rfl, show ((2 : Int) == 2) = true from rfl, show ((2 : Int) == 4) = false from rfl, show ((2 : Int) == 6) = false from rfl, show ((2 : Int) == 7) = false from rfl, show ((2 : Int) == 8) = false from rfl, show ((2 : Int) != 8) = true from rfl, lnumber_u (n := w) ⟨by omega, by omega⟩, lnumber_u (n := v) ⟨by omega, by omega⟩, Option.bind_some, cond_true, cond_false]
      rw [catK (by (try simp only [ByteArray.size_append]); omega), cond_true, catK (by (try simp only [ByteArray.size_append]); omega), cond_true, catK (by (try simp only [ByteArray.size_append]); omega), cond_true, catK (by (try simp only [ByteArray.size_append]); omega), cond_true]
      congr 2
      all_goals apply ba_ext
      all_goals simp only [app_list, bs_list, txt_list]
      all_goals show _ = TLb (2, (w, (v, (zEv, ()))))
      all_goals simp only [TLb, nameL, show ((2 : Int) == 1) = false from rfl, show ((2 : Int) == 2) = true from rfl, show ((2 : Int) == 3) = false from rfl, show ((2 : Int) == 4) = false from rfl, show ((2 : Int) == 5) = false from rfl, show ((2 : Int) == 6) = false from rfl, show ((2 : Int) == 7) = false from rfl, show ((2 : Int) == 8) = false from rfl, Bool.or_self, Bool.or_true, Bool.true_or, Bool.or_false, cond_true, cond_false, List.append_assoc, List.cons_append, List.nil_append]
    · have zw := txtK (n := w) ⟨by omega, by omega⟩
      have zv := txtK (n := v) ⟨by omega, by omega⟩
      have y0 : (bs [32]).size = 1 := rfl
      have y1 : (bs [107]).size = 1 := rfl
      have y2 : (bs [32, 107]).size = 2 := rfl
      have yn : (bs [102, 101, 108, 108]).size = 4 := rfl
      have hn : List.getD label_names.t (Int.toNat 4) (bs []) = bs [102, 101, 108, 108] := by kernel_rfl
      have hi : idxOK 4 9 = true := rfl
      have hv : label_valued.t 4 = true := rfl
      simp only [hn, hi, hv, show ((4 : Int) == 1) = false from rfl, show ((4 : Int) == 2) = false from rfl, show ((4 : Int) == 4) = true from rfl, show ((4 : Int) == 6) = false from rfl, show ((4 : Int) == 7) = false from rfl, show ((4 : Int) == 8) = false from rfl, show ((4 : Int) != 8) = true from rfl, lnumber_u (n := w) ⟨by omega, by omega⟩, lnumber_u (n := v) ⟨by omega, by omega⟩, Option.bind_some, cond_true, cond_false]
      rw [catK (by (try simp only [ByteArray.size_append]); omega), cond_true, catK (by (try simp only [ByteArray.size_append]); omega), cond_true, catK (by (try simp only [ByteArray.size_append]); omega), cond_true, catK (by (try simp only [ByteArray.size_append]); omega), cond_true, catK (by (try simp only [ByteArray.size_append]); omega), cond_true]
      congr 2
      all_goals apply ba_ext
      all_goals simp only [app_list, bs_list, txt_list]
      all_goals show _ = TLb (4, (w, (v, (zEv, ()))))
      all_goals simp only [TLb, nameL, show ((4 : Int) == 1) = false from rfl, show ((4 : Int) == 2) = false from rfl, show ((4 : Int) == 3) = false from rfl, show ((4 : Int) == 4) = true from rfl, show ((4 : Int) == 5) = false from rfl, show ((4 : Int) == 6) = false from rfl, show ((4 : Int) == 7) = false from rfl, show ((4 : Int) == 8) = false from rfl, Bool.or_self, Bool.or_true, Bool.true_or, Bool.or_false, cond_true, cond_false, List.append_assoc, List.cons_append, List.nil_append]
    · have zw := txtK (n := w) ⟨by omega, by omega⟩
      have zv := txtK (n := v) ⟨by omega, by omega⟩
      have y0 : (bs [32]).size = 1 := rfl
      have y1 : (bs [107]).size = 1 := rfl
      have y2 : (bs [32, 107]).size = 2 := rfl
      have yn : (bs [102, 97, 117, 108, 116, 101, 100]).size = 7 := rfl
      have hn : List.getD label_names.t (Int.toNat 6) (bs []) = bs [102, 97, 117, 108, 116, 101, 100] := by kernel_rfl
      have hi : idxOK 6 9 = true := rfl
      have hv : label_valued.t 6 = true := rfl
      simp only [hn, hi, hv, show ((6 : Int) == 1) = false from rfl, show ((6 : Int) == 2) = false from rfl, show ((6 : Int) == 4) = false from rfl, show ((6 : Int) == 6) = true from rfl, show ((6 : Int) == 7) = false from rfl, show ((6 : Int) == 8) = false from rfl, show ((6 : Int) != 8) = true from rfl, lnumber_u (n := w) ⟨by omega, by omega⟩, lnumber_u (n := v) ⟨by omega, by omega⟩, Option.bind_some, cond_true, cond_false]
      rw [catK (by (try simp only [ByteArray.size_append]); omega), cond_true, catK (by (try simp only [ByteArray.size_append]); omega), cond_true, catK (by (try simp only [ByteArray.size_append]); omega), cond_true, catK (by (try simp only [ByteArray.size_append]); omega), cond_true]
      congr 2
      all_goals apply ba_ext
      all_goals simp only [app_list, bs_list, txt_list]
      all_goals show _ = TLb (6, (w, (v, (zEv, ()))))
      all_goals simp only [TLb, nameL, show ((6 : Int) == 1) = false from rfl, show ((6 : Int) == 2) = false from rfl, show ((6 : Int) == 3) = false from rfl, show ((6 : Int) == 4) = false from rfl, show ((6 : Int) == 5) = false from rfl, show ((6 : Int) == 6) = true from rfl, show ((6 : Int) == 7) = false from rfl, show ((6 : Int) == 8) = false from rfl, Bool.or_self, Bool.or_true, Bool.true_or, Bool.or_false, cond_true, cond_false, List.append_assoc, List.cons_append, List.nil_append]
    · rcases hk with rfl | rfl | rfl
      · have zw := txtK (n := w) ⟨by omega, by omega⟩
        have y0 : (bs [32]).size = 1 := rfl
        have y1 : (bs [107]).size = 1 := rfl
        have y2 : (bs [32, 107]).size = 2 := rfl
        have yn : (bs [100, 105, 100]).size = 3 := rfl
        have hn : List.getD label_names.t (Int.toNat 1) (bs []) = bs [100, 105, 100] := by kernel_rfl
        have hi : idxOK 1 9 = true := rfl
        have hv : label_valued.t 1 = false := rfl
        simp only [hn, hi, hv, show ((1 : Int) == 1) = true from rfl, show ((1 : Int) == 2) = false from rfl, show ((1 : Int) == 4) = false from rfl, show ((1 : Int) == 6) = false from rfl, show ((1 : Int) == 7) = false from rfl, show ((1 : Int) == 8) = false from rfl, show ((1 : Int) != 8) = true from rfl, lnumber_u (n := w) ⟨by omega, by omega⟩, Option.bind_some, cond_true, cond_false]
        rw [catK (by (try simp only [ByteArray.size_append]); omega), cond_true, catK (by (try simp only [ByteArray.size_append]); omega), cond_true]
        congr 2
        all_goals apply ba_ext
        all_goals simp only [app_list, bs_list, txt_list]
        all_goals show _ = TLb (1, (w, (0, (zEv, ()))))
        all_goals simp only [TLb, nameL, show ((1 : Int) == 1) = true from rfl, show ((1 : Int) == 2) = false from rfl, show ((1 : Int) == 3) = false from rfl, show ((1 : Int) == 4) = false from rfl, show ((1 : Int) == 5) = false from rfl, show ((1 : Int) == 6) = false from rfl, show ((1 : Int) == 7) = false from rfl, show ((1 : Int) == 8) = false from rfl, Bool.or_self, Bool.or_true, Bool.true_or, Bool.or_false, cond_true, cond_false, List.append_assoc, List.cons_append, List.nil_append]
      · have zw := txtK (n := w) ⟨by omega, by omega⟩
        have y0 : (bs [32]).size = 1 := rfl
        have y1 : (bs [107]).size = 1 := rfl
        have y2 : (bs [32, 107]).size = 2 := rfl
        have yn : (bs [111, 102, 102, 101, 114, 101, 100]).size = 7 := rfl
        have hn : List.getD label_names.t (Int.toNat 3) (bs []) = bs [111, 102, 102, 101, 114, 101, 100] := by kernel_rfl
        have hi : idxOK 3 9 = true := rfl
        have hv : label_valued.t 3 = false := rfl
        simp only [hn, hi, hv, show ((3 : Int) == 1) = false from rfl, show ((3 : Int) == 2) = false from rfl, show ((3 : Int) == 4) = false from rfl, show ((3 : Int) == 6) = false from rfl, show ((3 : Int) == 7) = false from rfl, show ((3 : Int) == 8) = false from rfl, show ((3 : Int) != 8) = true from rfl, lnumber_u (n := w) ⟨by omega, by omega⟩, Option.bind_some, cond_true, cond_false]
        rw [catK (by (try simp only [ByteArray.size_append]); omega), cond_true, catK (by (try simp only [ByteArray.size_append]); omega), cond_true]
        congr 2
        all_goals apply ba_ext
        all_goals simp only [app_list, bs_list, txt_list]
        all_goals show _ = TLb (3, (w, (0, (zEv, ()))))
        all_goals simp only [TLb, nameL, show ((3 : Int) == 1) = false from rfl, show ((3 : Int) == 2) = false from rfl, show ((3 : Int) == 3) = true from rfl, show ((3 : Int) == 4) = false from rfl, show ((3 : Int) == 5) = false from rfl, show ((3 : Int) == 6) = false from rfl, show ((3 : Int) == 7) = false from rfl, show ((3 : Int) == 8) = false from rfl, Bool.or_self, Bool.or_true, Bool.true_or, Bool.or_false, cond_true, cond_false, List.append_assoc, List.cons_append, List.nil_append]
      · have zw := txtK (n := w) ⟨by omega, by omega⟩
        have y0 : (bs [32]).size = 1 := rfl
        have y1 : (bs [107]).size = 1 := rfl
        have y2 : (bs [32, 107]).size = 2 := rfl
        have yn : (bs [101, 110, 100, 101, 100]).size = 5 := rfl
        have hn : List.getD label_names.t (Int.toNat 5) (bs []) = bs [101, 110, 100, 101, 100] := by kernel_rfl
        have hi : idxOK 5 9 = true := rfl
        have hv : label_valued.t 5 = false := rfl
        simp only [hn, hi, hv, show ((5 : Int) == 1) = false from rfl, show ((5 : Int) == 2) = false from rfl, show ((5 : Int) == 4) = false from rfl, show ((5 : Int) == 6) = false from rfl, show ((5 : Int) == 7) = false from rfl, show ((5 : Int) == 8) = false from rfl, show ((5 : Int) != 8) = true from rfl, lnumber_u (n := w) ⟨by omega, by omega⟩, Option.bind_some, cond_true, cond_false]
        rw [catK (by (try simp only [ByteArray.size_append]); omega), cond_true, catK (by (try simp only [ByteArray.size_append]); omega), cond_true]
        congr 2
        all_goals apply ba_ext
        all_goals simp only [app_list, bs_list, txt_list]
        all_goals show _ = TLb (5, (w, (0, (zEv, ()))))
        all_goals simp only [TLb, nameL, show ((5 : Int) == 1) = false from rfl, show ((5 : Int) == 2) = false from rfl, show ((5 : Int) == 3) = false from rfl, show ((5 : Int) == 4) = false from rfl, show ((5 : Int) == 5) = true from rfl, show ((5 : Int) == 6) = false from rfl, show ((5 : Int) == 7) = false from rfl, show ((5 : Int) == 8) = false from rfl, Bool.or_self, Bool.or_true, Bool.true_or, Bool.or_false, cond_true, cond_false, List.append_assoc, List.cons_append, List.nil_append]
theorem rltext_u (x : Lb) : ref35_Text.u x = some (textLb x) := by
  unfold ref35_Text.u ref35_Text.s
  rw [refl_u, Option.bind_some]
  cases hc : (chkL x != 0) with
  | true => rw [lb_bad hc]; rfl
  | false =>
    have h0 : chkL x = 0 := by simpa using hc
    rw [lb_ok h0]
    obtain ⟨k, w, v, e, u⟩ := x
    cases u
    simp only [cond_false]
    rcases (chkL0 k w v e).1 h0 with ⟨rfl, he, rfl, rfl⟩ | ⟨rfl, hv, rfl, rfl⟩ | ⟨rfl, hw, hv, rfl⟩ | ⟨rfl, hw, hv, rfl⟩ | ⟨rfl, hw, hv, rfl⟩ | ⟨hk, hw, rfl, rfl⟩
    · have hi : idxOK (IntKind.wrap .i64 (7 - 1)) (List.length ref35_Names.t) = true := by kernel_rfl
      simp only [hi, show ((7 : Int) == 7) = true from rfl, cond_true, (te_u he).2.1, Option.bind_some]
      rfl
    · have zv := txtK (n := v) ⟨by omega, by omega⟩
      have y0 : (bs [32]).size = 1 := rfl
      have y1 : (bs [107]).size = 1 := rfl
      have y2 : (bs [32, 107]).size = 2 := rfl
      have yn : (bs [116, 105, 99, 107, 101, 100]).size = 6 := rfl
      have hn : List.getD ref35_Names.t (Int.toNat (IntKind.wrap .i64 (8 - 1))) (bs []) = bs [116, 105, 99, 107, 101, 100] := by kernel_rfl
      have hi : idxOK (IntKind.wrap .i64 (8 - 1)) (List.length ref35_Names.t) = true := by kernel_rfl
      simp only [hn, hi, show ((8 : Int) == 1) = false from rfl, show ((8 : Int) == 2) = false from rfl, show ((8 : Int) == 4) = false from rfl, show ((8 : Int) == 6) = false from rfl, show ((8 : Int) == 7) = false from rfl, show ((8 : Int) == 8) = true from rfl, show ((8 : Int) != 8) = false from rfl, rlnumber_u (n := v) ⟨by omega, by omega⟩, Option.bind_some, cond_true, cond_false]
      rw [catK (by (try simp only [ByteArray.size_append]); omega), cond_true]
      congr 2
      all_goals apply ba_ext
      all_goals simp only [app_list, bs_list, txt_list]
      all_goals show _ = TLb (8, (0, (v, (zEv, ()))))
      all_goals simp only [TLb, nameL, show ((8 : Int) == 1) = false from rfl, show ((8 : Int) == 2) = false from rfl, show ((8 : Int) == 3) = false from rfl, show ((8 : Int) == 4) = false from rfl, show ((8 : Int) == 5) = false from rfl, show ((8 : Int) == 6) = false from rfl, show ((8 : Int) == 7) = false from rfl, show ((8 : Int) == 8) = true from rfl, Bool.or_self, Bool.or_true, Bool.true_or, Bool.or_false, cond_true, cond_false, List.append_assoc, List.cons_append, List.nil_append]
    · have zw := txtK (n := w) ⟨by omega, by omega⟩
      have zv := txtK (n := v) ⟨by omega, by omega⟩
      have y0 : (bs [32]).size = 1 := rfl
      have y1 : (bs [107]).size = 1 := rfl
      have y2 : (bs [32, 107]).size = 2 := rfl
      have yn : (bs [116, 111, 108, 100]).size = 4 := rfl
      have hn : List.getD ref35_Names.t (Int.toNat (IntKind.wrap .i64 (2 - 1))) (bs []) = bs [116, 111, 108, 100] := by kernel_rfl
      have hi : idxOK (IntKind.wrap .i64 (2 - 1)) (List.length ref35_Names.t) = true := by kernel_rfl
      simp only [hn, hi, show ((2 : Int) == 1) = false from rfl, show ((2 : Int) == 2) = true from rfl, show ((2 : Int) == 4) = false from rfl, show ((2 : Int) == 6) = false from rfl, show ((2 : Int) == 7) = false from rfl, show ((2 : Int) == 8) = false from rfl, show ((2 : Int) != 8) = true from rfl, rlnumber_u (n := w) ⟨by omega, by omega⟩, rlnumber_u (n := v) ⟨by omega, by omega⟩, Option.bind_some, cond_true, cond_false]
      rw [catK (by (try simp only [ByteArray.size_append]); omega), cond_true, catK (by (try simp only [ByteArray.size_append]); omega), cond_true]
      congr 2
      all_goals apply ba_ext
      all_goals simp only [app_list, bs_list, txt_list]
      all_goals show _ = TLb (2, (w, (v, (zEv, ()))))
      all_goals simp only [TLb, nameL, show ((2 : Int) == 1) = false from rfl, show ((2 : Int) == 2) = true from rfl, show ((2 : Int) == 3) = false from rfl, show ((2 : Int) == 4) = false from rfl, show ((2 : Int) == 5) = false from rfl, show ((2 : Int) == 6) = false from rfl, show ((2 : Int) == 7) = false from rfl, show ((2 : Int) == 8) = false from rfl, Bool.or_self, Bool.or_true, Bool.true_or, Bool.or_false, cond_true, cond_false, List.append_assoc, List.cons_append, List.nil_append]
    · have zw := txtK (n := w) ⟨by omega, by omega⟩
      have zv := txtK (n := v) ⟨by omega, by omega⟩
      have y0 : (bs [32]).size = 1 := rfl
      have y1 : (bs [107]).size = 1 := rfl
      have y2 : (bs [32, 107]).size = 2 := rfl
      have yn : (bs [102, 101, 108, 108]).size = 4 := rfl
      have hn : List.getD ref35_Names.t (Int.toNat (IntKind.wrap .i64 (4 - 1))) (bs []) = bs [102, 101, 108, 108] := by kernel_rfl
      have hi : idxOK (IntKind.wrap .i64 (4 - 1)) (List.length ref35_Names.t) = true := by kernel_rfl
      have hs : subS (some 1) none (bs [32] ++ txt v) = txt v := ba_ext (by rw [sub1_list, app_list, bs_list]; rfl)
      have hc : subC (some 1) none (bs [32] ++ txt v).size = true := by rw [ByteArray.size_append]; simp [subC]; omega
      simp only [hn, hi, show ((4 : Int) == 1) = false from rfl, show ((4 : Int) == 2) = false from rfl, show ((4 : Int) == 4) = true from rfl, show ((4 : Int) == 6) = false from rfl, show ((4 : Int) == 7) = false from rfl, show ((4 : Int) == 8) = false from rfl, show ((4 : Int) != 8) = true from rfl, rlnumber_u (n := w) ⟨by omega, by omega⟩, rlnumber_u (n := v) ⟨by omega, by omega⟩, Option.bind_some, cond_true, cond_false, hs, hc]
      rw [catK (by (try simp only [ByteArray.size_append]); omega), cond_true, catK (by (try simp only [ByteArray.size_append]); omega), cond_true, catK (by (try simp only [ByteArray.size_append]); omega), cond_true]
      congr 2
      all_goals apply ba_ext
      all_goals simp only [app_list, bs_list, txt_list]
      all_goals show _ = TLb (4, (w, (v, (zEv, ()))))
      all_goals simp only [TLb, nameL, show ((4 : Int) == 1) = false from rfl, show ((4 : Int) == 2) = false from rfl, show ((4 : Int) == 3) = false from rfl, show ((4 : Int) == 4) = true from rfl, show ((4 : Int) == 5) = false from rfl, show ((4 : Int) == 6) = false from rfl, show ((4 : Int) == 7) = false from rfl, show ((4 : Int) == 8) = false from rfl, Bool.or_self, Bool.or_true, Bool.true_or, Bool.or_false, cond_true, cond_false, List.append_assoc, List.cons_append, List.nil_append]
    · have zw := txtK (n := w) ⟨by omega, by omega⟩
      have zv := txtK (n := v) ⟨by omega, by omega⟩
      have y0 : (bs [32]).size = 1 := rfl
      have y1 : (bs [107]).size = 1 := rfl
      have y2 : (bs [32, 107]).size = 2 := rfl
      have yn : (bs [102, 97, 117, 108, 116, 101, 100]).size = 7 := rfl
      have hn : List.getD ref35_Names.t (Int.toNat (IntKind.wrap .i64 (6 - 1))) (bs []) = bs [102, 97, 117, 108, 116, 101, 100] := by kernel_rfl
      have hi : idxOK (IntKind.wrap .i64 (6 - 1)) (List.length ref35_Names.t) = true := by kernel_rfl
      simp only [hn, hi, show ((6 : Int) == 1) = false from rfl, show ((6 : Int) == 2) = false from rfl, show ((6 : Int) == 4) = false from rfl, show ((6 : Int) == 6) = true from rfl, show ((6 : Int) == 7) = false from rfl, show ((6 : Int) == 8) = false from rfl, show ((6 : Int) != 8) = true from rfl, rlnumber_u (n := w) ⟨by omega, by omega⟩, rlnumber_u (n := v) ⟨by omega, by omega⟩, Option.bind_some, cond_true, cond_false]
      rw [catK (by (try simp only [ByteArray.size_append]); omega), cond_true, catK (by (try simp only [ByteArray.size_append]); omega), cond_true]
      congr 2
      all_goals apply ba_ext
      all_goals simp only [app_list, bs_list, txt_list]
      all_goals show _ = TLb (6, (w, (v, (zEv, ()))))
      all_goals simp only [TLb, nameL, show ((6 : Int) == 1) = false from rfl, show ((6 : Int) == 2) = false from rfl, show ((6 : Int) == 3) = false from rfl, show ((6 : Int) == 4) = false from rfl, show ((6 : Int) == 5) = false from rfl, show ((6 : Int) == 6) = true from rfl, show ((6 : Int) == 7) = false from rfl, show ((6 : Int) == 8) = false from rfl, Bool.or_self, Bool.or_true, Bool.true_or, Bool.or_false, cond_true, cond_false, List.append_assoc, List.cons_append, List.nil_append]
    · rcases hk with rfl | rfl | rfl
      · have zw := txtK (n := w) ⟨by omega, by omega⟩
        have y0 : (bs [32]).size = 1 := rfl
        have y1 : (bs [107]).size = 1 := rfl
        have y2 : (bs [32, 107]).size = 2 := rfl
        have yn : (bs [100, 105, 100]).size = 3 := rfl
        have hn : List.getD ref35_Names.t (Int.toNat (IntKind.wrap .i64 (1 - 1))) (bs []) = bs [100, 105, 100] := by kernel_rfl
        have hi : idxOK (IntKind.wrap .i64 (1 - 1)) (List.length ref35_Names.t) = true := by kernel_rfl
        simp only [hn, hi, show ((1 : Int) == 1) = true from rfl, show ((1 : Int) == 2) = false from rfl, show ((1 : Int) == 4) = false from rfl, show ((1 : Int) == 6) = false from rfl, show ((1 : Int) == 7) = false from rfl, show ((1 : Int) == 8) = false from rfl, show ((1 : Int) != 8) = true from rfl, rlnumber_u (n := w) ⟨by omega, by omega⟩, Option.bind_some, cond_true, cond_false]
        rw [catK (by (try simp only [ByteArray.size_append]); omega), cond_true]
        congr 2
        all_goals apply ba_ext
        all_goals simp only [app_list, bs_list, txt_list]
        all_goals show _ = TLb (1, (w, (0, (zEv, ()))))
        all_goals simp only [TLb, nameL, show ((1 : Int) == 1) = true from rfl, show ((1 : Int) == 2) = false from rfl, show ((1 : Int) == 3) = false from rfl, show ((1 : Int) == 4) = false from rfl, show ((1 : Int) == 5) = false from rfl, show ((1 : Int) == 6) = false from rfl, show ((1 : Int) == 7) = false from rfl, show ((1 : Int) == 8) = false from rfl, Bool.or_self, Bool.or_true, Bool.true_or, Bool.or_false, cond_true, cond_false, List.append_assoc, List.cons_append, List.nil_append]
      · have zw := txtK (n := w) ⟨by omega, by omega⟩
        have y0 : (bs [32]).size = 1 := rfl
        have y1 : (bs [107]).size = 1 := rfl
        have y2 : (bs [32, 107]).size = 2 := rfl
        have yn : (bs [111, 102, 102, 101, 114, 101, 100]).size = 7 := rfl
        have hn : List.getD ref35_Names.t (Int.toNat (IntKind.wrap .i64 (3 - 1))) (bs []) = bs [111, 102, 102, 101, 114, 101, 100] := by kernel_rfl
        have hi : idxOK (IntKind.wrap .i64 (3 - 1)) (List.length ref35_Names.t) = true := by kernel_rfl
        simp only [hn, hi, show ((3 : Int) == 1) = false from rfl, show ((3 : Int) == 2) = false from rfl, show ((3 : Int) == 4) = false from rfl, show ((3 : Int) == 6) = false from rfl, show ((3 : Int) == 7) = false from rfl, show ((3 : Int) == 8) = false from rfl, show ((3 : Int) != 8) = true from rfl, rlnumber_u (n := w) ⟨by omega, by omega⟩, Option.bind_some, cond_true, cond_false]
        rw [catK (by (try simp only [ByteArray.size_append]); omega), cond_true]
        congr 2
        all_goals apply ba_ext
        all_goals simp only [app_list, bs_list, txt_list]
        all_goals show _ = TLb (3, (w, (0, (zEv, ()))))
        all_goals simp only [TLb, nameL, show ((3 : Int) == 1) = false from rfl, show ((3 : Int) == 2) = false from rfl, show ((3 : Int) == 3) = true from rfl, show ((3 : Int) == 4) = false from rfl, show ((3 : Int) == 5) = false from rfl, show ((3 : Int) == 6) = false from rfl, show ((3 : Int) == 7) = false from rfl, show ((3 : Int) == 8) = false from rfl, Bool.or_self, Bool.or_true, Bool.true_or, Bool.or_false, cond_true, cond_false, List.append_assoc, List.cons_append, List.nil_append]
      · have zw := txtK (n := w) ⟨by omega, by omega⟩
        have y0 : (bs [32]).size = 1 := rfl
        have y1 : (bs [107]).size = 1 := rfl
        have y2 : (bs [32, 107]).size = 2 := rfl
        have yn : (bs [101, 110, 100, 101, 100]).size = 5 := rfl
        have hn : List.getD ref35_Names.t (Int.toNat (IntKind.wrap .i64 (5 - 1))) (bs []) = bs [101, 110, 100, 101, 100] := by kernel_rfl
        have hi : idxOK (IntKind.wrap .i64 (5 - 1)) (List.length ref35_Names.t) = true := by kernel_rfl
        simp only [hn, hi, show ((5 : Int) == 1) = false from rfl, show ((5 : Int) == 2) = false from rfl, show ((5 : Int) == 4) = false from rfl, show ((5 : Int) == 6) = false from rfl, show ((5 : Int) == 7) = false from rfl, show ((5 : Int) == 8) = false from rfl, show ((5 : Int) != 8) = true from rfl, rlnumber_u (n := w) ⟨by omega, by omega⟩, Option.bind_some, cond_true, cond_false]
        rw [catK (by (try simp only [ByteArray.size_append]); omega), cond_true]
        congr 2
        all_goals apply ba_ext
        all_goals simp only [app_list, bs_list, txt_list]
        all_goals show _ = TLb (5, (w, (0, (zEv, ()))))
        all_goals simp only [TLb, nameL, show ((5 : Int) == 1) = false from rfl, show ((5 : Int) == 2) = false from rfl, show ((5 : Int) == 3) = false from rfl, show ((5 : Int) == 4) = false from rfl, show ((5 : Int) == 5) = true from rfl, show ((5 : Int) == 6) = false from rfl, show ((5 : Int) == 7) = false from rfl, show ((5 : Int) == 8) = false from rfl, Bool.or_self, Bool.or_true, Bool.true_or, Bool.or_false, cond_true, cond_false, List.append_assoc, List.cons_append, List.nil_append]
theorem law35_to1 (x : Lb) : law35_To.u [x] = some [x] := by
  obtain ⟨k, w, v, e, u⟩ := x
  cases u
  rfl
theorem one_u (x : Lb) : law35_one.u x = some x := by
  unfold law35_one.u law35_one.s
  rw [law35_to1]
  rfl
theorem law_LabelTells (x : Lb) : law35_LabelTells.u x = some true := by
  unfold law35_LabelTells.u law35_LabelTells.s
  simp only [one_u, ltext_u, rltext_u, refl_u, lcheck_t, alive35, Option.bind_some, beq_self_eq_true, cond_true]
theorem row_LabelTells (xs : Args [tyLb]) (h : fitsA _ xs) : law35_LabelTells.u xs.1 = some true := law_LabelTells _
end Go.Proofs.YtaednhofihnfkaaDoor.K

/- Guards, plainly: their texts. -/
import Derived.Test.YtfihhbgppgkafaaDoorL25a
set_option maxRecDepth 100000
set_option linter.unusedVariables false
set_option linter.unusedSimpArgs false
namespace Go.Proofs.YtfihhbgppgkafaaDoor.K
open Go

theorem dd_lenk {u : Nat} : ∀ k, u < 10 ^ (k + 1) → (Lib.decDigits u).length ≤ k + 1 := by
  intro k
  induction k generalizing u with
  | zero => intro hu; rw [Lib.decDigits, dif_pos (by omega)]; simp
  | succ k ih =>
    intro hu
    rw [Lib.decDigits]
    split
    · simp
    · have := @ih (u / 10) (by rw [Nat.pow_succ] at hu; omega)
      simp only [List.length_append, List.length_singleton]; omega
theorem itoa_20 {n : Int} (h : -1099511627776 ≤ n ∧ n ≤ 1099511627776) : (Lib.itoa n).length ≤ 20 := by
  unfold Lib.itoa
  split
  · have := dd_lenk (u := n.natAbs) 12 (by omega)
    simp only [List.length_cons]; omega
  · have := dd_lenk (u := n.toNat) 12 (by omega)
    omega
theorem txt_20 {n : Int} (h : -1099511627776 ≤ n ∧ n ≤ 1099511627776) : (txt n).size ≤ 20 := by
  rw [size_list, txt_list]; exact itoa_20 h
theorem word_40 {n : Int} (h : word_Fine.t n = true) : -1099511627776 ≤ n ∧ n ≤ 1099511627776 := by
  have := fine_iff.1 h; omega
theorem cat_ok {a b : ByteArray} (h : a.size + b.size ≤ 1000) : decide (a.size + b.size ≤ catMax) = true := by
  unfold catMax; exact decide_eq_true (by omega)

theorem gnumber_u {n : Int} (h : word_Fine.t n = true) : guard_number.u n = some (txt n) := by
  unfold guard_number.u guard_number.s
  rw [text_fine h]; rfl
theorem txt_neg {n : Int} (h : n < 0) : (txt n).data.toList = 45 :: Lib.decDigits n.natAbs := by
  rw [txt_list]; unfold Lib.itoa; rw [if_pos h]
theorem rdigits_u {n : Int} (h : -1099511627776 ≤ n ∧ n ≤ 1099511627776) : ref25_digits.u n = some (txt n) := by
  unfold ref25_digits.u ref25_digits.s
  by_cases hn : n < 0
  · rw [decide_eq_true hn, cond_true, wrapN (x := 0 - n) ⟨by omega, by omega⟩, digits_txt (by omega) (by omega), Option.bind_some]
    have z := txt_20 (n := 0 - n) ⟨by omega, by omega⟩
    have z1 : (bs [45]).size = 1 := rfl
    rw [cat_ok (by omega), cond_true]
    congr 1
    apply ba_ext
    rw [app_list, bs_list, txt_nn (by omega), txt_neg hn, show (0 - n).toNat = n.natAbs by omega]
    rfl
  · rw [decide_eq_false hn, cond_false, digits_txt (by omega) h.2, Option.bind_some]

/-- Digits, noughts ahead, so many in all. -/
def padL (k r : Nat) : List UInt8 := List.replicate (k - (Lib.decDigits r).length) 48 ++ Lib.decDigits r
theorem dd_small {r : Nat} (h : r < 10) : Lib.decDigits r = [UInt8.ofNat (48 + r)] := by rw [Lib.decDigits, dif_pos h]
theorem dd_big {n : Nat} (h : ¬ n < 10) : Lib.decDigits n = Lib.decDigits (n / 10) ++ [UInt8.ofNat (48 + n % 10)] := by
  conv => lhs; rw [Lib.decDigits, dif_neg h]
theorem one_pow10 (k : Nat) : 1 ≤ 10 ^ k := Nat.pow_le_pow_right (by decide) (Nat.zero_le k)
theorem dd_pad : ∀ (k m r : Nat), 0 < m → r < 10 ^ (k + 1) → Lib.decDigits (m * 10 ^ (k + 1) + r) = Lib.decDigits m ++ padL (k + 1) r
  | 0, m, r, hm, hr => by
    have hr' : r < 10 := by simpa using hr
    rw [dd_big (by omega)]
    unfold padL
    rw [dd_small hr']
    have e1 : (m * 10 ^ (0 + 1) + r) / 10 = m := by omega
    have e2 : (m * 10 ^ (0 + 1) + r) % 10 = r := by omega
    rw [e1, e2]
    rfl
  | k + 1, m, r, hm, hr => by
    have hp : m * 10 ^ (k + 1 + 1) = (m * 10 ^ (k + 1)) * 10 := by rw [Nat.pow_succ, Nat.mul_assoc]
    have hpos : 1 ≤ 10 ^ (k + 1) := one_pow10 (k + 1)
    have h1 : 1 ≤ m * 10 ^ (k + 1) := Nat.mul_le_mul hm hpos
    rw [Nat.pow_succ] at hr
    rw [hp, dd_big (by omega)]
    have e1 : ((m * 10 ^ (k + 1)) * 10 + r) / 10 = m * 10 ^ (k + 1) + r / 10 := by omega
    have e2 : ((m * 10 ^ (k + 1)) * 10 + r) % 10 = r % 10 := by omega
    rw [e1, e2, dd_pad k m (r / 10) hm (by omega), List.append_assoc]
    congr 1
    unfold padL
    by_cases h10 : r < 10
    · have e3 : r / 10 = 0 := by omega
      rw [e3, dd_small h10, dd_zero, show r % 10 = r by omega]
      simp only [List.length_singleton, Nat.add_sub_cancel]
      rw [show ([48] : List UInt8) = List.replicate 1 48 from rfl, List.replicate_append_replicate]
    · rw [dd_big h10, List.append_assoc]
      simp only [List.length_append, List.length_singleton, Nat.add_sub_add_right, List.append_assoc]
theorem repL_rep (n : Nat) : Lib.repeatL [48] n = List.replicate n 48 := by
  have := Lib.repeatL_replicate 48 1 n
  rw [show List.replicate 1 (48 : UInt8) = [48] from rfl] at this
  rw [this, Nat.mul_one]
theorem instant_u {t : Int} (h : 0 ≤ t ∧ t ≤ 1099511627776) : guard_instant.u t = some (txt t) := by
  unfold guard_instant.u guard_instant.s
  by_cases h1 : t < 1000000000
  · rw [decide_eq_true h1, cond_true, gnumber_u (fine_iff.2 (by omega)), Option.bind_some]
  · rw [decide_eq_false h1, cond_false]
    have m1 : Int.tmod t 1000000000 = t % 1000000000 := Int.tmod_eq_emod_of_nonneg h.1
    have m2 : Int.tdiv t 1000000000 = t / 1000000000 := Int.tdiv_eq_ediv_of_nonneg h.1
    rw [m1, m2, wrapN (x := t / 1000000000) ⟨by omega, by omega⟩]
    obtain ⟨lo, hlo⟩ : ∃ lo, lo = t % 1000000000 := ⟨_, rfl⟩
    obtain ⟨hi, hhi⟩ : ∃ hi, hi = t / 1000000000 := ⟨_, rfl⟩
    rw [← hlo, ← hhi, gnumber_u (n := lo) (fine_iff.2 (by omega)), gnumber_u (n := hi) (fine_iff.2 (by omega)), Option.bind_some, Option.bind_some]
    have zl : (txt lo).size = (Lib.decDigits lo.toNat).length := by rw [size_list, txt_nn (by omega)]
    have zl9 : (txt lo).size ≤ 9 := by rw [zl]; exact dd_lenk 8 (by omega)
    have zh := txt_20 (n := hi) ⟨by omega, by omega⟩
    rw [wrapN (x := 9 - ((txt lo).size : Int)) ⟨by omega, by omega⟩]
    have hr : strings_Repeat.u (bs [48]) (9 - ((txt lo).size : Int)) = some (bs (List.replicate (9 - (txt lo).size) 48)) := by
      unfold strings_Repeat.u
      rw [decide_eq_true (show 0 ≤ 9 - ((txt lo).size : Int) by omega), decide_eq_true (show 9 - ((txt lo).size : Int) ≤ 65536 by omega), decide_eq_true (show (bs [48]).size ≤ 2147483648 by decide), bs_list, repL_rep]
      rw [show (9 - ((txt lo).size : Int)).toNat = 9 - (txt lo).size by omega]
      rfl
    rw [hr, Option.bind_some]
    have zr : (bs (List.replicate (9 - (txt lo).size) 48)).size ≤ 9 := by rw [bs_size, List.length_replicate]; omega
    rw [cat_ok (by omega), cond_true, cat_ok (by rw [ByteArray.size_append]; omega), cond_true]
    congr 1
    apply ba_ext
    rw [app_list, app_list, bs_list, txt_nn (by omega), txt_nn (by omega), txt_nn h.1]
    have hd := dd_pad 8 hi.toNat lo.toNat (by omega) (by omega)
    rw [show t.toNat = hi.toNat * 10 ^ (8 + 1) + lo.toNat by omega, hd, zl, List.append_assoc]
    rfl

/-- A guard's text. -/
def TL : Gd → List UInt8
  | (k, (o, (v, (r, (n, _))))) => Lib.itoa n ++ ([58, 32] ++ (bif k == 1 then [105, 110, 32, 99] ++ (Lib.itoa o ++ ([32, 114] ++ Lib.itoa r))
      else bif k == 2 then [111, 117, 116, 32, 99] ++ (Lib.itoa o ++ ([32] ++ Lib.itoa v))
      else bif k == 3 then [98, 97, 114, 32, 98] ++ Lib.itoa o
      else bif k == 4 then [116, 105, 109, 101, 32] ++ Lib.itoa v
      else bif k == 5 then [115, 107, 105, 112]
      else [106, 111, 105, 110, 32] ++ (Lib.itoa v ++ ([32, 114] ++ Lib.itoa r))))
def textG (g : Gd) : ByteArray × Int := bif chkG g != 0 then (bs [], chkG g) else (bs (TL g), 0)
theorem chk0 {g : Gd} (h : (chkG g != 0) = false) : (g.1 = 1 ∨ g.1 = 2 ∨ g.1 = 3 ∨ g.1 = 4 ∨ g.1 = 5 ∨ g.1 = 6) ∧ okG g = true ∧ clG g = true := by
  unfold chkG at h
  by_cases h1 : g.1 < 1
  · rw [decide_eq_true h1] at h; cases h
  by_cases h2 : g.1 > 6
  · rw [decide_eq_false h1, decide_eq_true h2] at h; cases h
  rw [decide_eq_false h1, decide_eq_false h2] at h
  refine ⟨kind_cases h1 h2, ?_⟩
  cases ho : okG g <;> cases hcl : clG g <;> rw [ho, hcl] at h <;> first | exact ⟨rfl, rfl⟩ | cases h
theorem inR_iff {n m : Int} : inR n m = true ↔ 0 ≤ n ∧ n < m := by unfold inR; simp
theorem clkF_iff {n : Int} : clkF n = true ↔ 0 ≤ n ∧ n ≤ 1099511627776 := by unfold clkF; simp
theorem gtext_u (g : Gd) : guard_Text.u g = some (textG g) := by
  unfold guard_Text.u guard_Text.s textG
  rw [gcheck_u, Option.bind_some]
  cases hc : (chkG g != 0) with
  | true => rfl
  | false =>
    simp only [cond_false]
    obtain ⟨hk, hok, _⟩ := chk0 hc
    obtain ⟨k, o, v, r, n, u⟩ := g
    simp only at hk
    have z58 : (bs [58, 32]).size = 2 := rfl
    rcases hk with rfl | rfl | rfl | rfl | rfl | rfl
    · simp only [okG, Int.reduceBEq, cond_true, cond_false, Bool.and_eq_true, inR_iff, clkF_iff] at hok
      have zn := txt_20 (n := n) ⟨by omega, by omega⟩
      have zo := txt_20 (n := o) ⟨by omega, by omega⟩
      have zr := txt_20 (n := r) ⟨by omega, by omega⟩
      have y0 : (bs [105, 110, 32, 99]).size = 4 := rfl
      have y1 : (bs [32, 114]).size = 2 := rfl
      simp only [gnumber_u (n := n) (fine_iff.2 (by omega)), gnumber_u (n := o) (fine_iff.2 (by omega)), gnumber_u (n := r) (fine_iff.2 (by omega)), Option.bind_some, Int.reduceBEq, cond_true, cond_false]
      rw [cat_ok (by (try simp only [ByteArray.size_append]); omega), cond_true, cat_ok (by (try simp only [ByteArray.size_append]); omega), cond_true, cat_ok (by (try simp only [ByteArray.size_append]); omega), cond_true, cat_ok (by (try simp only [ByteArray.size_append]); omega), cond_true, cat_ok (by (try simp only [ByteArray.size_append]); omega), cond_true]
      congr 2
      apply ba_ext
      simp only [app_list, bs_list, txt_list, TL, Int.reduceBEq, cond_true, cond_false, List.append_assoc]
    · simp only [okG, Int.reduceBEq, cond_true, cond_false, Bool.and_eq_true, inR_iff, clkF_iff] at hok
      have zn := txt_20 (n := n) ⟨by omega, by omega⟩
      have zo := txt_20 (n := o) ⟨by omega, by omega⟩
      have zv := txt_20 (n := v) (word_40 hok.2.2)
      have y0 : (bs [111, 117, 116, 32, 99]).size = 5 := rfl
      have y1 : (bs [32]).size = 1 := rfl
      simp only [gnumber_u (n := n) (fine_iff.2 (by omega)), gnumber_u (n := o) (fine_iff.2 (by omega)), gnumber_u (n := v) hok.2.2, Option.bind_some, Int.reduceBEq, cond_true, cond_false]
      rw [cat_ok (by (try simp only [ByteArray.size_append]); omega), cond_true, cat_ok (by (try simp only [ByteArray.size_append]); omega), cond_true, cat_ok (by (try simp only [ByteArray.size_append]); omega), cond_true, cat_ok (by (try simp only [ByteArray.size_append]); omega), cond_true, cat_ok (by (try simp only [ByteArray.size_append]); omega), cond_true]
      congr 2
      apply ba_ext
      simp only [app_list, bs_list, txt_list, TL, Int.reduceBEq, cond_true, cond_false, List.append_assoc]
    · simp only [okG, Int.reduceBEq, cond_true, cond_false, Bool.and_eq_true, inR_iff, clkF_iff] at hok
      have zn := txt_20 (n := n) ⟨by omega, by omega⟩
      have zo := txt_20 (n := o) ⟨by omega, by omega⟩
      have y0 : (bs [98, 97, 114, 32, 98]).size = 5 := rfl
      simp only [gnumber_u (n := n) (fine_iff.2 (by omega)), gnumber_u (n := o) (fine_iff.2 (by omega)), Option.bind_some, Int.reduceBEq, cond_true, cond_false]
      rw [cat_ok (by (try simp only [ByteArray.size_append]); omega), cond_true, cat_ok (by (try simp only [ByteArray.size_append]); omega), cond_true, cat_ok (by (try simp only [ByteArray.size_append]); omega), cond_true]
      congr 2
      apply ba_ext
      simp only [app_list, bs_list, txt_list, TL, Int.reduceBEq, cond_true, cond_false, List.append_assoc]
    · simp only [okG, Int.reduceBEq, cond_true, cond_false, Bool.and_eq_true, inR_iff, clkF_iff] at hok
      have zn := txt_20 (n := n) ⟨by omega, by omega⟩
      have zv := txt_20 (n := v) ⟨by omega, by omega⟩
      have y0 : (bs [116, 105, 109, 101, 32]).size = 5 := rfl
      simp only [gnumber_u (n := n) (fine_iff.2 (by omega)), instant_u (t := v) hok.2, Option.bind_some, Int.reduceBEq, cond_true, cond_false]
      rw [cat_ok (by (try simp only [ByteArray.size_append]); omega), cond_true, cat_ok (by (try simp only [ByteArray.size_append]); omega), cond_true, cat_ok (by (try simp only [ByteArray.size_append]); omega), cond_true]
      congr 2
      apply ba_ext
      simp only [app_list, bs_list, txt_list, TL, Int.reduceBEq, cond_true, cond_false, List.append_assoc]
    · simp only [okG, Int.reduceBEq, cond_true, cond_false, Bool.and_eq_true, inR_iff, clkF_iff] at hok
      have zn := txt_20 (n := n) ⟨by omega, by omega⟩
      have y0 : (bs [115, 107, 105, 112]).size = 4 := rfl
      simp only [gnumber_u (n := n) (fine_iff.2 (by omega)), Option.bind_some, Int.reduceBEq, cond_true, cond_false]
      rw [cat_ok (by (try simp only [ByteArray.size_append]); omega), cond_true, cat_ok (by (try simp only [ByteArray.size_append]); omega), cond_true]
      congr 2
      apply ba_ext
      simp only [app_list, bs_list, txt_list, TL, Int.reduceBEq, cond_true, cond_false, List.append_assoc]
    · simp only [okG, Int.reduceBEq, cond_true, cond_false, Bool.and_eq_true, inR_iff, clkF_iff] at hok
      have zn := txt_20 (n := n) ⟨by omega, by omega⟩
      have zv := txt_20 (n := v) (word_40 hok.2.1)
      have zr := txt_20 (n := r) ⟨by omega, by omega⟩
      have y0 : (bs [106, 111, 105, 110, 32]).size = 5 := rfl
      have y1 : (bs [32, 114]).size = 2 := rfl
      simp only [gnumber_u (n := n) (fine_iff.2 (by omega)), gnumber_u (n := v) hok.2.1, gnumber_u (n := r) (fine_iff.2 (by omega)), Option.bind_some, Int.reduceBEq, cond_true, cond_false]
      rw [cat_ok (by (try simp only [ByteArray.size_append]); omega), cond_true, cat_ok (by (try simp only [ByteArray.size_append]); omega), cond_true, cat_ok (by (try simp only [ByteArray.size_append]); omega), cond_true, cat_ok (by (try simp only [ByteArray.size_append]); omega), cond_true, cat_ok (by (try simp only [ByteArray.size_append]); omega), cond_true]
      congr 2
      apply ba_ext
      simp only [app_list, bs_list, txt_list, TL, Int.reduceBEq, cond_true, cond_false, List.append_assoc]
def names6 : List ByteArray := [(bs [105, 110]), (bs [111, 117, 116]), (bs [98, 97, 114]), (bs [116, 105, 109, 101]), (bs [115, 107, 105, 112]), (bs [106, 111, 105, 110])]
theorem rtext_gu (g : Gd) : ref25_Text.u g = some (textG g) := by
  unfold ref25_Text.u ref25_Text.s textG
  rw [rcheck_u, Option.bind_some]
  cases hc : (chkG g != 0) with
  | true => rfl
  | false =>
    simp only [cond_false]
    obtain ⟨hk, hok, _⟩ := chk0 hc
    obtain ⟨k, o, v, r, n, u⟩ := g
    simp only at hk
    have z58 : (bs [58, 32]).size = 2 := rfl
    rcases hk with rfl | rfl | rfl | rfl | rfl | rfl
    · simp only [okG, Int.reduceBEq, cond_true, cond_false, Bool.and_eq_true, inR_iff, clkF_iff] at hok
      have zn := txt_20 (n := n) ⟨by omega, by omega⟩
      have zo := txt_20 (n := o) ⟨by omega, by omega⟩
      have zr := txt_20 (n := r) ⟨by omega, by omega⟩
      have y : (bs [105, 110]).size = 2 := rfl
      have y0 : (bs [32, 99]).size = 2 := rfl
      have y1 : (bs [32, 114]).size = 2 := rfl
      have hi : idxOK (IntKind.wrap .i64 (1 - 1)) (List.length names6) = true := rfl
      have hg : List.getD names6 (Int.toNat (IntKind.wrap .i64 (1 - 1))) (bs []) = bs [105, 110] := rfl
      unfold names6 at hi hg
      simp only [rdigits_u (n := n) ⟨by omega, by omega⟩, rdigits_u (n := o) ⟨by omega, by omega⟩, rdigits_u (n := r) ⟨by omega, by omega⟩, hi, hg, Option.bind_some, Int.reduceBEq, cond_true, cond_false]
      rw [cat_ok (by (try simp only [ByteArray.size_append]); omega), cond_true, cat_ok (by (try simp only [ByteArray.size_append]); omega), cond_true, cat_ok (by (try simp only [ByteArray.size_append]); omega), cond_true, cat_ok (by (try simp only [ByteArray.size_append]); omega), cond_true, cat_ok (by (try simp only [ByteArray.size_append]); omega), cond_true, cat_ok (by (try simp only [ByteArray.size_append]); omega), cond_true]
      congr 2
      apply ba_ext
      simp only [app_list, bs_list, txt_list, TL, Int.reduceBEq, cond_true, cond_false, List.append_assoc, List.cons_append, List.nil_append]
    · simp only [okG, Int.reduceBEq, cond_true, cond_false, Bool.and_eq_true, inR_iff, clkF_iff] at hok
      have zn := txt_20 (n := n) ⟨by omega, by omega⟩
      have zo := txt_20 (n := o) ⟨by omega, by omega⟩
      have zv := txt_20 (n := v) (word_40 hok.2.2)
      have y : (bs [111, 117, 116]).size = 3 := rfl
      have y0 : (bs [32, 99]).size = 2 := rfl
      have y1 : (bs [32]).size = 1 := rfl
      have hi : idxOK (IntKind.wrap .i64 (2 - 1)) (List.length names6) = true := rfl
      have hg : List.getD names6 (Int.toNat (IntKind.wrap .i64 (2 - 1))) (bs []) = bs [111, 117, 116] := rfl
      unfold names6 at hi hg
      simp only [rdigits_u (n := n) ⟨by omega, by omega⟩, rdigits_u (n := o) ⟨by omega, by omega⟩, rdigits_u (n := v) (word_40 hok.2.2), hi, hg, Option.bind_some, Int.reduceBEq, cond_true, cond_false]
      rw [cat_ok (by (try simp only [ByteArray.size_append]); omega), cond_true, cat_ok (by (try simp only [ByteArray.size_append]); omega), cond_true, cat_ok (by (try simp only [ByteArray.size_append]); omega), cond_true, cat_ok (by (try simp only [ByteArray.size_append]); omega), cond_true, cat_ok (by (try simp only [ByteArray.size_append]); omega), cond_true, cat_ok (by (try simp only [ByteArray.size_append]); omega), cond_true]
      congr 2
      apply ba_ext
      simp only [app_list, bs_list, txt_list, TL, Int.reduceBEq, cond_true, cond_false, List.append_assoc, List.cons_append, List.nil_append]
    · simp only [okG, Int.reduceBEq, cond_true, cond_false, Bool.and_eq_true, inR_iff, clkF_iff] at hok
      have zn := txt_20 (n := n) ⟨by omega, by omega⟩
      have zo := txt_20 (n := o) ⟨by omega, by omega⟩
      have y : (bs [98, 97, 114]).size = 3 := rfl
      have y0 : (bs [32, 98]).size = 2 := rfl
      have hi : idxOK (IntKind.wrap .i64 (3 - 1)) (List.length names6) = true := rfl
      have hg : List.getD names6 (Int.toNat (IntKind.wrap .i64 (3 - 1))) (bs []) = bs [98, 97, 114] := rfl
      unfold names6 at hi hg
      simp only [rdigits_u (n := n) ⟨by omega, by omega⟩, rdigits_u (n := o) ⟨by omega, by omega⟩, hi, hg, Option.bind_some, Int.reduceBEq, cond_true, cond_false]
      rw [cat_ok (by (try simp only [ByteArray.size_append]); omega), cond_true, cat_ok (by (try simp only [ByteArray.size_append]); omega), cond_true, cat_ok (by (try simp only [ByteArray.size_append]); omega), cond_true, cat_ok (by (try simp only [ByteArray.size_append]); omega), cond_true]
      congr 2
      apply ba_ext
      simp only [app_list, bs_list, txt_list, TL, Int.reduceBEq, cond_true, cond_false, List.append_assoc, List.cons_append, List.nil_append]
    · simp only [okG, Int.reduceBEq, cond_true, cond_false, Bool.and_eq_true, inR_iff, clkF_iff] at hok
      have zn := txt_20 (n := n) ⟨by omega, by omega⟩
      have zv := txt_20 (n := v) ⟨by omega, by omega⟩
      have y : (bs [116, 105, 109, 101]).size = 4 := rfl
      have y0 : (bs [32]).size = 1 := rfl
      have hi : idxOK (IntKind.wrap .i64 (4 - 1)) (List.length names6) = true := rfl
      have hg : List.getD names6 (Int.toNat (IntKind.wrap .i64 (4 - 1))) (bs []) = bs [116, 105, 109, 101] := rfl
      unfold names6 at hi hg
      simp only [rdigits_u (n := n) ⟨by omega, by omega⟩, rdigits_u (n := v) ⟨by omega, by omega⟩, hi, hg, Option.bind_some, Int.reduceBEq, cond_true, cond_false]
      rw [cat_ok (by (try simp only [ByteArray.size_append]); omega), cond_true, cat_ok (by (try simp only [ByteArray.size_append]); omega), cond_true, cat_ok (by (try simp only [ByteArray.size_append]); omega), cond_true, cat_ok (by (try simp only [ByteArray.size_append]); omega), cond_true]
      congr 2
      apply ba_ext
      simp only [app_list, bs_list, txt_list, TL, Int.reduceBEq, cond_true, cond_false, List.append_assoc, List.cons_append, List.nil_append]
    · simp only [okG, Int.reduceBEq, cond_true, cond_false, Bool.and_eq_true, inR_iff, clkF_iff] at hok
      have zn := txt_20 (n := n) ⟨by omega, by omega⟩
      have y : (bs [115, 107, 105, 112]).size = 4 := rfl
      have hi : idxOK (IntKind.wrap .i64 (5 - 1)) (List.length names6) = true := rfl
      have hg : List.getD names6 (Int.toNat (IntKind.wrap .i64 (5 - 1))) (bs []) = bs [115, 107, 105, 112] := rfl
      unfold names6 at hi hg
      simp only [rdigits_u (n := n) ⟨by omega, by omega⟩, hi, hg, Option.bind_some, Int.reduceBEq, cond_true, cond_false]
      rw [cat_ok (by (try simp only [ByteArray.size_append]); omega), cond_true, cat_ok (by (try simp only [ByteArray.size_append]); omega), cond_true]
      congr 2
      apply ba_ext
      simp only [app_list, bs_list, txt_list, TL, Int.reduceBEq, cond_true, cond_false, List.append_assoc, List.cons_append, List.nil_append]
    · simp only [okG, Int.reduceBEq, cond_true, cond_false, Bool.and_eq_true, inR_iff, clkF_iff] at hok
      have zn := txt_20 (n := n) ⟨by omega, by omega⟩
      have zv := txt_20 (n := v) (word_40 hok.2.1)
      have zr := txt_20 (n := r) ⟨by omega, by omega⟩
      have y : (bs [106, 111, 105, 110]).size = 4 := rfl
      have y0 : (bs [32]).size = 1 := rfl
      have y1 : (bs [32, 114]).size = 2 := rfl
      have hi : idxOK (IntKind.wrap .i64 (6 - 1)) (List.length names6) = true := rfl
      have hg : List.getD names6 (Int.toNat (IntKind.wrap .i64 (6 - 1))) (bs []) = bs [106, 111, 105, 110] := rfl
      unfold names6 at hi hg
      simp only [rdigits_u (n := n) ⟨by omega, by omega⟩, rdigits_u (n := v) (word_40 hok.2.1), rdigits_u (n := r) ⟨by omega, by omega⟩, hi, hg, Option.bind_some, Int.reduceBEq, cond_true, cond_false]
      rw [cat_ok (by (try simp only [ByteArray.size_append]); omega), cond_true, cat_ok (by (try simp only [ByteArray.size_append]); omega), cond_true, cat_ok (by (try simp only [ByteArray.size_append]); omega), cond_true, cat_ok (by (try simp only [ByteArray.size_append]); omega), cond_true, cat_ok (by (try simp only [ByteArray.size_append]); omega), cond_true, cat_ok (by (try simp only [ByteArray.size_append]); omega), cond_true]
      congr 2
      apply ba_ext
      simp only [app_list, bs_list, txt_list, TL, Int.reduceBEq, cond_true, cond_false, List.append_assoc, List.cons_append, List.nil_append]

theorem law_GuardTells (g : Gd) : law25_GuardTells.u g = some true := by
  unfold law25_GuardTells.u law25_GuardTells.s
  simp only [gtext_u, rtext_gu, gcheck_u, rcheck_u, Option.bind_some, beq_self_eq_true, cond_true, alive25]
theorem row_GuardTells (xs : Args [tyGd]) (h : fitsA _ xs) : law25_GuardTells.u xs.1 = some true := law_GuardTells _
end Go.Proofs.YtfihhbgppgkafaaDoor.K

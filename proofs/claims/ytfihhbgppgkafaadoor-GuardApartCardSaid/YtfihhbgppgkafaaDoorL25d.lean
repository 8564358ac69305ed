/- Guards, plainly: the laws Lists, Apart. -/
import Derived.Test.YtfihhbgppgkafaaDoorL25c
import Derived.Lib.Join
set_option maxRecDepth 100000
set_option linter.unusedVariables false
set_option linter.unusedSimpArgs false
namespace Go.Proofs.YtfihhbgppgkafaaDoor.K
open Go

theorem TL_len {g : Gd} (h : (chkG g != 0) = false) : (TL g).length ≤ 100 := by
  obtain ⟨hk, hok, _⟩ := chk0 h
  obtain ⟨k, o, v, r, n, u⟩ := g
  simp only at hk
  have zn : word_Fine.t n = true → (Lib.itoa n).length ≤ 20 := fun h => itoa_20 (word_40 h)
  rcases hk with rfl | rfl | rfl | rfl | rfl | rfl
  · simp only [okG, Int.reduceBEq, cond_true, cond_false, Bool.and_eq_true, inR_iff, clkF_iff] at hok
    have z1 := itoa_20 (n := n) ⟨by omega, by omega⟩
    have z2 := itoa_20 (n := o) ⟨by omega, by omega⟩
    have z3 := itoa_20 (n := r) ⟨by omega, by omega⟩
    simp only [TL, Int.reduceBEq, cond_true, cond_false, List.length_append, List.length_cons, List.length_nil]; omega
  · simp only [okG, Int.reduceBEq, cond_true, cond_false, Bool.and_eq_true, inR_iff, clkF_iff] at hok
    have z1 := itoa_20 (n := n) ⟨by omega, by omega⟩
    have z2 := itoa_20 (n := o) ⟨by omega, by omega⟩
    have z3 := itoa_20 (n := v) (word_40 hok.2.2)
    simp only [TL, Int.reduceBEq, cond_true, cond_false, List.length_append, List.length_cons, List.length_nil]; omega
  · simp only [okG, Int.reduceBEq, cond_true, cond_false, Bool.and_eq_true, inR_iff, clkF_iff] at hok
    have z1 := itoa_20 (n := n) ⟨by omega, by omega⟩
    have z2 := itoa_20 (n := o) ⟨by omega, by omega⟩
    simp only [TL, Int.reduceBEq, cond_true, cond_false, List.length_append, List.length_cons, List.length_nil]; omega
  · simp only [okG, Int.reduceBEq, cond_true, cond_false, Bool.and_eq_true, inR_iff, clkF_iff] at hok
    have z1 := itoa_20 (n := n) ⟨by omega, by omega⟩
    have z2 := itoa_20 (n := v) ⟨by omega, by omega⟩
    simp only [TL, Int.reduceBEq, cond_true, cond_false, List.length_append, List.length_cons, List.length_nil]; omega
  · simp only [okG, Int.reduceBEq, cond_true, cond_false, Bool.and_eq_true, inR_iff, clkF_iff] at hok
    have z1 := itoa_20 (n := n) ⟨by omega, by omega⟩
    simp only [TL, Int.reduceBEq, cond_true, cond_false, List.length_append, List.length_cons, List.length_nil]; omega
  · simp only [okG, Int.reduceBEq, cond_true, cond_false, Bool.and_eq_true, inR_iff, clkF_iff] at hok
    have z1 := itoa_20 (n := n) ⟨by omega, by omega⟩
    have z2 := itoa_20 (n := v) (word_40 hok.2.1)
    have z3 := itoa_20 (n := r) ⟨by omega, by omega⟩
    simp only [TL, Int.reduceBEq, cond_true, cond_false, List.length_append, List.length_cons, List.length_nil]; omega

def sepG : List UInt8 := [44, 32]
theorem join_snoc (A : List (List UInt8)) (t sep : List UInt8) : Lib.join (A ++ [t]) sep = if A = [] then t else Lib.join A sep ++ (sep ++ t) := by
  cases A with
  | nil => rw [if_pos rfl, List.nil_append, Lib.join_one]
  | cons x r =>
    rw [if_neg (by simp), List.cons_append, Lib.join_cons, Lib.join_cons, List.append_assoc]
    congr 1
    simp [Lib.joinTail]
theorem join_len {A : List (List UInt8)} (h : ∀ t ∈ A, t.length ≤ 100) : (Lib.join A sepG).length ≤ 102 * A.length := by
  cases A with
  | nil => simp [Lib.join_nil]
  | cons x r =>
    rw [Lib.join_cons, List.length_append]
    have hx := h x (by simp)
    have : ∀ r : List (List UInt8), (∀ t ∈ r, t.length ≤ 100) → (Lib.joinTail sepG r).length ≤ 102 * r.length := by
      intro r
      induction r with
      | nil => intro _; simp [Lib.joinTail]
      | cons y r ih =>
        intro hr
        have := ih (fun t ht => hr t (List.mem_cons_of_mem _ ht))
        have hy := hr y (by simp)
        have e : Lib.joinTail sepG (y :: r) = (sepG ++ y) ++ Lib.joinTail sepG r := by simp [Lib.joinTail]
        rw [e, List.length_append, List.length_append, List.length_cons]
        have : sepG.length = 2 := rfl
        omega
    have := this r (fun t ht => h t (List.mem_cons_of_mem _ ht))
    rw [List.length_cons]; omega

/-- The first thing that is wrong. -/
def badF : List Gd → Int
  | [] => 0
  | x :: xs => bif chkG x != 0 then chkG x else badF xs
def textsF (A : List (List UInt8)) (xs : List Gd) : ByteArray × Int := bif badF xs != 0 then (bs [], badF xs) else (bs (Lib.join (A ++ xs.map TL) sepG), 0)
theorem textsF_cons {A : List (List UInt8)} {x : Gd} {xs : List Gd} (h : (chkG x != 0) = false) : textsF A (x :: xs) = textsF (A ++ [TL x]) xs := by
  have hb : badF (x :: xs) = badF xs := by show (bif chkG x != 0 then chkG x else badF xs) = _; rw [h]; rfl
  unfold textsF
  rw [hb, List.map_cons, List.append_assoc]; rfl
theorem texts_bad {A : List (List UInt8)} {x : Gd} {xs : List Gd} (h : (chkG x != 0) = true) : textsF A (x :: xs) = (bs [], chkG x) := by
  have hb : badF (x :: xs) = chkG x := by show (bif chkG x != 0 then chkG x else badF xs) = _; rw [h]; rfl
  unfold textsF
  rw [hb, h]; rfl
theorem gtexts_go (e : List Gd) : ∀ (xs : List Gd) (A : List (List UInt8)), (∀ t ∈ A, t.length ≤ 100) → A.length + xs.length ≤ 20 → guard_Texts.g0 e some xs (A.map bs) = some (textsF A xs)
  | [], A, hA, hl => by
    simp only [guard_Texts.g0]
    have hj : joinB (A.map bs) (bs [44, 32]) = bs (Lib.join A sepG) := by
      unfold joinB
      rw [List.map_map, bs_list]
      have : A.map ((fun x : ByteArray => x.data.toList) ∘ bs) = A := by
        conv => rhs; rw [← List.map_id A]
        apply List.map_congr_left
        intro a _
        exact bs_list a
      rw [this]; rfl
    have hlen := join_len hA
    have : strings_Join.u (A.map bs) (bs [44, 32]) = some (bs (Lib.join A sepG)) := by
      unfold strings_Join.u
      rw [hj, List.length_map, decide_eq_true (show A.length ≤ 140737488355328 by omega), decide_eq_true (show (bs (Lib.join A sepG)).size ≤ 140737488355328 by rw [bs_size]; simp only [List.length_nil] at hl; omega)]
      rfl
    rw [this, Option.bind_some]
    unfold textsF badF
    simp
  | x :: xs, A, hA, hl => by
    simp only [guard_Texts.g0, gtext_u, Option.bind_some, textG]
    cases hc : (chkG x != 0) with
    | true => rw [texts_bad hc]; simp only [cond_true, hc]
    | false =>
      simp only [cond_false, bne_self_eq_false]
      have hlen : decide (List.length (A.map bs) + List.length [bs (TL x)] ≤ rowMax) = true := by
        unfold rowMax
        exact decide_eq_true (by simp only [List.length_map, List.length_cons, List.length_nil] at *; omega)
      have ih := gtexts_go e xs (A ++ [TL x]) (fun t ht => by
        rcases List.mem_append.1 ht with ht | ht
        · exact hA t ht
        · have : t = TL x := by simpa using ht
          rw [this]; exact TL_len hc) (by simp only [List.length_append, List.length_cons, List.length_nil] at *; omega)
      rw [hlen, cond_true, textsF_cons hc, ← ih, List.map_append]
      rfl
theorem rtexts_go (e : List Gd) : ∀ (xs : List Gd) (A : List (List UInt8)), (∀ t ∈ A, t.length ≤ 100) → A.length + xs.length ≤ 20 → ref25_Texts.g0 e some xs (bs (Lib.join A sepG)) (A.length : Int) = some (textsF A xs)
  | [], A, hA, hl => by
    simp only [ref25_Texts.g0]
    unfold textsF badF
    simp
  | x :: xs, A, hA, hl => by
    simp only [ref25_Texts.g0, rtext_gu, Option.bind_some, textG]
    cases hc : (chkG x != 0) with
    | true => rw [texts_bad hc]; simp only [cond_true, hc]
    | false =>
      simp only [cond_false, bne_self_eq_false]
      have hA' : ∀ t ∈ A ++ [TL x], t.length ≤ 100 := fun t ht => by
        rcases List.mem_append.1 ht with ht | ht
        · exact hA t ht
        · have : t = TL x := by simpa using ht
          rw [this]; exact TL_len hc
      have ih := rtexts_go e xs (A ++ [TL x]) hA' (by simp only [List.length_append, List.length_cons, List.length_nil] at *; omega)
      have hlen := join_len hA
      have htl := TL_len hc
      have hz : (bs [44, 32]).size = 2 := rfl
      have hAl : A.length ≤ 20 := by simp only [List.length_cons] at hl; omega
      rw [textsF_cons hc, ← ih]
      have el : ((A ++ [TL x]).length : Int) = (A.length : Int) + 1 := by simp
      rw [el, join_snoc]
      cases A with
      | nil =>
        have c1 : decide ((bs (Lib.join [] sepG)).size + (bs (TL x)).size ≤ catMax) = true := by
          rw [bs_size, bs_size]; unfold catMax
          exact decide_eq_true (by simp [Lib.join_nil]; omega)
        rw [c1, if_pos rfl]
        have e0 : bs (Lib.join [] sepG) ++ bs (TL x) = bs (TL x) := ba_ext (by rw [app_list, bs_list, bs_list]; rfl)
        rw [e0]
        rfl
      | cons y r =>
        have c1 : decide ((bs (Lib.join (y :: r) sepG)).size + (bs [44, 32]).size ≤ catMax) = true := by
          rw [bs_size, hz]; unfold catMax; exact decide_eq_true (by omega)
        have c2 : decide ((bs (Lib.join (y :: r) sepG) ++ bs [44, 32]).size + (bs (TL x)).size ≤ catMax) = true := by
          rw [ByteArray.size_append, bs_size, hz, bs_size]; unfold catMax; exact decide_eq_true (by omega)
        rw [decide_eq_true (show (((y :: r).length : Nat) : Int) > 0 by simp only [List.length_cons]; omega), c1, c2, if_neg (by simp)]
        simp only [cond_true]
        have e0 : (bs (Lib.join (y :: r) sepG) ++ bs [44, 32]) ++ bs (TL x) = bs (Lib.join (y :: r) sepG ++ (sepG ++ TL x)) := ba_ext (by
          rw [app_list, app_list, bs_list, bs_list, bs_list, bs_list, List.append_assoc]; rfl)
        rw [e0]
theorem texts_u {l : List Gd} (h : l.length ≤ 20) : guard_Texts.u l = some (textsF [] l) ∧ ref25_Texts.u l = some (textsF [] l) := by
  unfold guard_Texts.u guard_Texts.w ref25_Texts.u ref25_Texts.w
  rw [dec_len h (by decide), cond_true, cond_true]
  exact ⟨gtexts_go l l [] (fun t ht => by cases ht) (by simpa using h), rtexts_go l l [] (fun t ht => by cases ht) (by simpa using h)⟩

theorem law_GuardLists (l : List Gd) (n : Int) : law25_GuardLists.u l n = some true := by
  unfold law25_GuardLists.u law25_GuardLists.s
  by_cases h : ((List.length l : Nat) : Int) > 20
  · simp only [h, decide_true, cond_true, alive25, Option.bind_some]
  · have hl : l.length ≤ 20 := by omega
    obtain ⟨t1, t2⟩ := texts_u hl
    obtain ⟨v, v1, v2⟩ := earliest_u (l := l) (by omega)
    obtain ⟨w, w1, w2⟩ := find_u (l := l) (by omega) n
    simp only [h, decide_false, cond_false, gall_u, rall_u, t1, t2, v1, v2, w1, w2, Option.bind_some, beq_self_eq_true, eqGd, eqI, cond_true, alive25]
    rfl
theorem row_GuardLists (xs : Args [.slice tyGd, .int .i64]) (h : fitsA _ xs) : law25_GuardLists.u xs.1 xs.2.1 = some true := law_GuardLists _ _

/-! ### Apart -/
theorem itoa_dig {n : Int} (h : 0 ≤ n ∧ n ≤ 9) : Lib.itoa n = [UInt8.ofNat (48 + n.toNat)] := by
  unfold Lib.itoa
  rw [if_neg (by omega), dd_small (by omega)]
theorem ofNat_inj {a b : Nat} (ha : a < 256) (hb : b < 256) (h : UInt8.ofNat a = UInt8.ofNat b) : a = b := by
  have := congrArg UInt8.toNat h
  rw [UInt8.toNat_ofNat', UInt8.toNat_ofNat'] at this
  omega
theorem dig_inj {n m : Int} (hn : 0 ≤ n ∧ n ≤ 9) (hm : 0 ≤ m ∧ m ≤ 9) {X Y : List UInt8} (h : Lib.itoa n ++ X = Lib.itoa m ++ Y) : n = m ∧ X = Y := by
  rw [itoa_dig hn, itoa_dig hm] at h
  have h1 := (List.cons.inj h)
  have := ofNat_inj (by omega) (by omega) h1.1
  exact ⟨by omega, h1.2⟩
theorem dd_inj {a b : Nat} (h : Lib.decDigits a = Lib.decDigits b) : a = b := by
  have h1 := decFrom_dd a a (Nat.le_refl _)
  rw [h, decFrom_dd b b (Nat.le_refl _)] at h1
  exact (Option.some.inj h1).symm
theorem dd_no45 {a : Nat} {r : List UInt8} : Lib.decDigits a ≠ 45 :: r := by
  intro h
  have := dd_all a a (Nat.le_refl _)
  rw [h] at this
  simp [digB] at this
theorem itoa_inj {a b : Int} (h : Lib.itoa a = Lib.itoa b) : a = b := by
  unfold Lib.itoa at h
  split at h <;> split at h
  · have := dd_inj (List.cons.inj h).2; omega
  · exact absurd h.symm dd_no45
  · exact absurd h dd_no45
  · have := dd_inj h; omega
def bodyL (k o v r : Int) : List UInt8 := bif k == 1 then [105, 110, 32, 99] ++ (Lib.itoa o ++ ([32, 114] ++ Lib.itoa r))
      else bif k == 2 then [111, 117, 116, 32, 99] ++ (Lib.itoa o ++ ([32] ++ Lib.itoa v))
      else bif k == 3 then [98, 97, 114, 32, 98] ++ Lib.itoa o
      else bif k == 4 then [116, 105, 109, 101, 32] ++ Lib.itoa v
      else bif k == 5 then [115, 107, 105, 112]
      else [106, 111, 105, 110, 32] ++ (Lib.itoa v ++ ([32, 114] ++ Lib.itoa r))
theorem TL_inj {a b : Gd} (ha : (chkG a != 0) = false) (hb : (chkG b != 0) = false) (h : TL a = TL b) : a = b := by
  obtain ⟨ka, oka, cla⟩ := chk0 ha
  obtain ⟨kb, okb, clb⟩ := chk0 hb
  obtain ⟨k, o, v, r, n, u⟩ := a
  obtain ⟨k', o', v', r', n', u'⟩ := b
  have hu : u = u' := rfl
  subst hu
  simp only at ka kb
  have hn : 0 ≤ n ∧ n < 6 := by
    unfold okG at oka
    simp only [Bool.and_eq_true, inR_iff] at oka
    exact oka.1
  have hn' : 0 ≤ n' ∧ n' < 6 := by
    unfold okG at okb
    simp only [Bool.and_eq_true, inR_iff] at okb
    exact okb.1
  have h1 : Lib.itoa n ++ ([58, 32] ++ bodyL k o v r) = Lib.itoa n' ++ ([58, 32] ++ bodyL k' o' v' r') := h
  obtain ⟨e1, h2⟩ := dig_inj ⟨hn.1, by omega⟩ ⟨hn'.1, by omega⟩ h1
  have h3 : bodyL k o v r = bodyL k' o' v' r' := List.append_cancel_left h2
  have e2 : k = k' := by
    have hh := congrArg List.head? h3
    rcases ka with rfl | rfl | rfl | rfl | rfl | rfl <;> rcases kb with rfl | rfl | rfl | rfl | rfl | rfl <;> first | rfl | exact absurd (Option.some.inj hh) (by decide)
  subst e1 e2
  clear h h1 h2 kb
  unfold okG at oka okb
  unfold clG at cla clb
  unfold bodyL at h3
  simp only at oka okb cla clb
  rcases ka with rfl | rfl | rfl | rfl | rfl | rfl <;> simp only [Int.reduceBEq, cond_true, cond_false, Bool.and_eq_true, inR_iff, clkF_iff, beq_iff_eq] at oka okb cla clb h3
  · obtain ⟨e, h4⟩ := dig_inj (n := o) (m := o') (by omega) (by omega) (List.append_cancel_left h3)
    have h5 := itoa_inj (List.append_cancel_left h4)
    rw [e, h5, cla, clb]
  · obtain ⟨e, h4⟩ := dig_inj (n := o) (m := o') (by omega) (by omega) (List.append_cancel_left h3)
    have h5 := itoa_inj (List.append_cancel_left h4)
    rw [e, h5, cla, clb]
  · have h5 := itoa_inj (List.append_cancel_left h3)
    rw [h5, cla.1, cla.2, clb.1, clb.2]
  · have h5 := itoa_inj (List.append_cancel_left h3)
    rw [h5, cla.1, cla.2, clb.1, clb.2]
  · rw [cla.1.1, cla.1.2, cla.2, clb.1.1, clb.1.2, clb.2]
  · have h4 := List.append_cancel_left h3
    rw [itoa_dig (n := r) (by omega), itoa_dig (n := r') (by omega)] at h4
    obtain ⟨h5, h6⟩ := List.append_inj' h4 rfl
    have h7 := itoa_inj h5
    have h8 := (List.cons.inj (List.append_cancel_left h6)).1
    have h9 := ofNat_inj (by omega) (by omega) h8
    rw [h7, cla, clb, show r = r' by omega]

def fNo (e : List Gd) (j : Nat) : Int := noOf (e.getD j noGd)
theorem allF_rise {e : List Gd} : ∀ (xs : List Gd) (i : Nat), e.drop i = xs → (allF e xs i).2 = 0 → ∀ j, i ≤ j → 0 < j → j < e.length → fNo e (j - 1) < fNo e j
  | [], i, h, _, j, hij, _, hj => by
    have := congrArg List.length h
    rw [List.length_drop, List.length_nil] at this
    omega
  | x :: xs, i, h, ha, j, hij, h0, hj => by
    obtain ⟨hi, hd, hx⟩ := drop_next h
    unfold allF at ha
    cases hc : (chkG x != 0) with
    | true =>
      rw [hc, cond_true] at ha
      simp only [bne_iff_ne, ne_eq] at hc
      exact absurd ha hc
    | false =>
      rw [hc, cond_false] at ha
      cases hb : (besF (e.take i) x != 0) with
      | true =>
        rw [hb, cond_true] at ha
        simp only [bne_iff_ne, ne_eq] at hb
        exact absurd ha hb
      | false =>
        rw [hb, cond_false] at ha
        by_cases e1 : j = i
        · subst e1
          unfold besF at hb
          have hl : (e.take j).length = j := by rw [List.length_take]; omega
          have hg : (e.take j).getD (j - 1) noGd = e.getD (j - 1) noGd := by
            rw [List.getD_eq_getElem?_getD, List.getD_eq_getElem?_getD, List.getElem?_take, if_pos (by omega)]
          rw [hl, hg, decide_eq_true h0, Bool.true_and] at hb
          have hxj : e.getD j noGd = x := by rw [List.getD_eq_getElem?_getD, hx]; rfl
          unfold fNo
          rw [hxj]
          apply Classical.byContradiction
          intro hlt
          rw [decide_eq_true (show noOf x ≤ noOf (e.getD (j - 1) noGd) by omega)] at hb
          cases hb
        · exact allF_rise xs (i + 1) hd ha j (by omega) h0 hj
theorem rise_lt {f : Nat → Int} {n : Nat} (h : ∀ j, 0 < j → j < n → f (j - 1) < f j) : ∀ (d a : Nat), a + (d + 1) < n → f a < f (a + (d + 1))
  | 0, a, hl => by have := h (a + 1) (by omega) hl; rwa [Nat.add_sub_cancel] at this
  | d + 1, a, hl => by
    have h1 := rise_lt h d a (by omega)
    have h2 := h (a + (d + 1 + 1)) (by omega) hl
    rw [show a + (d + 1 + 1) - 1 = a + (d + 1) by omega] at h2
    omega
theorem find_at {e e' : List Gd} (h : ∀ j, 0 < j → j < e.length → fNo e (j - 1) < fNo e j) {j : Nat} (hj : j < e.length) : ∀ (d k : Nat), k + d = j → guard_Find.g0 (fNo e j) e' some (e.drop k) = some (e.getD j noGd, true)
  | 0, k, hk => by
    have : k = j := by omega
    subst this
    rw [List.drop_eq_getElem_cons hj]
    have hx : e.getD k noGd = e[k] := by rw [List.getD_eq_getElem?_getD, List.getElem?_eq_getElem hj]; rfl
    simp only [guard_Find.g0]
    have hn : (e[k].2.2.2.2.1 == fNo e k) = true := by
      rw [beq_iff_eq]; unfold fNo noOf; rw [hx]
    rw [hn, hx]; rfl
  | d + 1, k, hk => by
    have hkl : k < e.length := by omega
    rw [List.drop_eq_getElem_cons hkl]
    have hx : e.getD k noGd = e[k] := by rw [List.getD_eq_getElem?_getD, List.getElem?_eq_getElem hkl]; rfl
    simp only [guard_Find.g0]
    have hlt := rise_lt (f := fNo e) (n := e.length) h d k (by omega)
    rw [show k + (d + 1) = j by omega] at hlt
    have hn : (e[k].2.2.2.2.1 == fNo e j) = false := by
      rw [beq_eq_false_iff_ne]
      have : e[k].2.2.2.2.1 = fNo e k := by unfold fNo noOf; rw [hx]
      rw [this]; omega
    rw [hn, cond_false]
    exact find_at h hj d (k + 1) (by omega)

theorem eqBl (x y : Bool) : eqI .bool x y = (x == y) := rfl
/-- Two guards alone: their texts are unlike. -/
theorem apart_two (e : List Gd) (a b : Gd) : law25_GuardApart.g0 e a b some [] = some true := by
  simp only [law25_GuardApart.g0, gtext_u, Option.bind_some, textG]
  have nz : ∀ g : Gd, (chkG g != 0) = true → (chkG g == 0) = false := fun g h => by
    simp only [bne, Bool.not_eq_true'] at h; exact h
  cases ha : (chkG a != 0) with
  | true =>
    cases hb : (chkG b != 0) with
    | true => simp only [cond_true, ha, nz a ha, nz b hb, cond_false, bs_list, beq_self_eq_true, alive25, Option.bind_some]
    | false => simp only [cond_true, ha, nz a ha, cond_false, bs_list, beq_self_eq_true, alive25, Option.bind_some]
  | false =>
    cases hb : (chkG b != 0) with
    | true => simp only [cond_true, hb, nz b hb, cond_false, bs_list, beq_self_eq_true, bne_self_eq_false, alive25, Option.bind_some]
    | false =>
      have : (TL a == TL b) = (a == b) := by
        rw [Bool.eq_iff_iff, beq_iff_eq, beq_iff_eq]
        exact ⟨TL_inj ha hb, fun e => by rw [e]⟩
      simp only [cond_false, bne_self_eq_false, bs_list, this, eqGd_iff, eqBl, beq_self_eq_true, cond_true, alive25, Option.bind_some]
theorem apart_go {e : List Gd} (he : e.length ≤ 100) (h : ∀ j, 0 < j → j < e.length → fNo e (j - 1) < fNo e j) (a b : Gd) : ∀ (xs : List Gd) (i : Nat), e.drop i = xs → law25_GuardApart.g0 e a b some xs = some true
  | [], i, _ => apart_two e a b
  | x :: xs, i, hd => by
    obtain ⟨hi, hd', hx⟩ := drop_next hd
    have hxi : e.getD i noGd = x := by rw [List.getD_eq_getElem?_getD, hx]; rfl
    have hno : x.2.2.2.2.1 = fNo e i := by unfold fNo noOf; rw [hxi]
    have hf : guard_Find.u e (x.2.2.2.2.1) = some (x, true) := by
      unfold guard_Find.u guard_Find.w
      rw [dec_len he (by decide), cond_true, hno]
      have := find_at (e' := e) h hi i 0 (by omega)
      rw [List.drop_zero] at this
      rw [this, hxi]
    have ih := apart_go he h a b xs (i + 1) hd'
    simp only [law25_GuardApart.g0] at ih ⊢
    rw [hf]
    simp only [Option.bind_some, Bool.not_true, cond_false, eqGd, ih]
theorem law_GuardApart (l : List Gd) (a b : Gd) : law25_GuardApart.u l a b = some true := by
  unfold law25_GuardApart.u law25_GuardApart.w
  by_cases h : ((List.length l : Nat) : Int) > 20
  · simp only [h, decide_true, cond_true, alive25, Option.bind_some]
  · simp only [h, decide_false, cond_false, gall_u, Option.bind_some]
    cases h0 : ((AllF l).2 == 0) with
    | false => exact apart_two l a b
    | true =>
      rw [dec_len (show l.length ≤ 20 by omega) (by decide), cond_true, cond_true]
      have hz : (AllF l).2 = 0 := by simpa using h0
      have hr : ∀ j, 0 < j → j < l.length → fNo l (j - 1) < fNo l j := by
        unfold AllF at hz
        cases h1 : (((List.length l : Nat) : Int) == 0) with
        | true => rw [h1, cond_true] at hz; cases hz
        | false =>
          rw [h1, cond_false] at hz
          cases h2 : decide (((List.length l : Nat) : Int) > 6) with
          | true => rw [h2, cond_true] at hz; cases hz
          | false =>
            rw [h2, cond_false] at hz
            exact fun j q1 q2 => allF_rise l 0 rfl hz j (Nat.zero_le _) q1 q2
      exact apart_go (by omega) hr a b l 0 rfl
theorem row_GuardApart (xs : Args [.slice tyGd, tyGd, tyGd]) (h : fitsA _ xs) : law25_GuardApart.u xs.1 xs.2.1 xs.2.2.1 = some true := law_GuardApart _ _ _
end Go.Proofs.YtfihhbgppgkafaaDoor.K

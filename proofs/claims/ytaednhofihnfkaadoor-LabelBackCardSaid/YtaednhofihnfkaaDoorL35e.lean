/- Labels, plainly: what is read comes back as it stood; a label comes back from its text. -/
import Derived.Test.YtaednhofihnfkaaDoorL35d
import Derived.KernelRfl
set_option maxRecDepth 100000
set_option linter.unusedVariables false
set_option linter.unusedSimpArgs false
namespace Go.Proofs.YtaednhofihnfkaaDoor.K
open Go

theorem valN_snoc (b : UInt8) : ∀ (l : List UInt8) (acc : Nat), valN acc (l ++ [b]) = valN acc l * 10 + (b.toNat - 48)
  | [], acc => rfl
  | c :: l, acc => valN_snoc b l _
theorem ddBig {n : Nat} (h : ¬ n < 10) : Lib.decDigits n = Lib.decDigits (n / 10) ++ [UInt8.ofNat (48 + n % 10)] := by
  conv => lhs; rw [Lib.decDigits, dif_neg h]
theorem ddSmall {r : Nat} (h : r < 10) : Lib.decDigits r = [UInt8.ofNat (48 + r)] := by rw [Lib.decDigits, dif_pos h]
theorem dig_back {b : UInt8} (h : digB b = true) : UInt8.ofNat (48 + (b.toNat - 48)) = b := by
  simp only [digB, Bool.and_eq_true, decide_eq_true_eq] at h
  rw [show 48 + (b.toNat - 48) = b.toNat by omega]
  simp
theorem dd_back : ∀ (n : Nat) (d : List UInt8), d.length = n → d.all digB = true → d ≠ [] → d.headD 0 ≠ 48 → Lib.decDigits (valN 0 d) = d ∧ 1 ≤ valN 0 d := by
  intro n
  induction n with
  | zero => intro d hl _ hn _; exact absurd (List.eq_nil_of_length_eq_zero hl) hn
  | succ n ih =>
    intro d hl ha hn hh
    obtain ⟨d', b, rfl⟩ : ∃ d' b, d = d' ++ [b] := ⟨d.dropLast, d.getLast hn, (List.dropLast_concat_getLast hn).symm⟩
    rw [List.all_append, Bool.and_eq_true] at ha
    have hb : digB b = true := by simpa using ha.2
    have hb' := hb
    simp only [digB, Bool.and_eq_true, decide_eq_true_eq] at hb'
    rw [valN_snoc]
    cases d' with
    | nil =>
      have h0 : b ≠ 48 := by simpa using hh
      have : b.toNat ≠ 48 := fun e => h0 (UInt8.toNat_inj.1 e)
      have hc1 : 1 ≤ b.toNat - 48 := by omega
      have hc2 : b.toNat - 48 < 10 := by omega
      have hq := dig_back hb
      generalize b.toNat - 48 = c at hc1 hc2 hq ⊢
      have hv : valN 0 [] * 10 + c = c := by
        show 0 * 10 + c = c
        omega
      rw [hv, ddSmall hc2, hq]
      exact ⟨rfl, hc1⟩
    | cons c r =>
      obtain ⟨h1, h2⟩ := ih (c :: r) (by simpa using hl) ha.1 (by simp) (by simpa using hh)
      generalize valN 0 (c :: r) = v at h1 h2 ⊢
      have hc : b.toNat - 48 < 10 := by omega
      have hq := dig_back hb
      generalize b.toNat - 48 = c at hc hq ⊢
      rw [ddBig (by omega), show (v * 10 + c) / 10 = v by omega, show (v * 10 + c) % 10 = c by omega, h1, hq]
      exact ⟨rfl, by omega⟩
theorem dd_val {d : List UInt8} (h : plainF d = true) : Lib.decDigits (valN 0 d) = d := by
  have ha := plain_all h
  have hn := plain_ne h
  unfold plainF at h
  rw [Bool.and_eq_true, Bool.or_eq_true, beq_iff_eq, Bool.and_eq_true, bne_iff_ne] at h
  rcases h.2 with e | e
  · subst e; exact dd_zero
  · exact (dd_back d.length d rfl ha hn e.2).1

theorem wordOf_inv {neg : Bool} {d : List UInt8} (h : (wordOf neg d).2 = 0) : (wordOf neg d).1 = (if neg = true then -(valN 0 d : Int) else (valN 0 d : Int)) ∧ plainF d = true ∧ (neg && (d == [48])) = false ∧ word_Fine.t (wordOf neg d).1 = true := by
  unfold wordOf at h ⊢
  cases hp : plainF d with
  | false => rw [hp] at h; exact absurd (show (3 : Int) = 0 from h) (by decide)
  | true =>
    rw [hp] at h
    simp only [cond_true] at h ⊢
    cases hd : (neg && (d == [48])) with
    | true => rw [hd] at h; exact absurd (show (3 : Int) = 0 from h) (by decide)
    | false =>
      rw [hd] at h
      simp only [cond_false] at h ⊢
      cases hf : word_Fine.t (if neg = true then -(valN 0 d : Int) else (valN 0 d : Int)) with
      | false => rw [hf] at h; exact absurd (show (8 : Int) = 0 from h) (by decide)
      | true => refine ⟨?_, ?_, ?_, hf⟩ <;> trivial
theorem take1 {l : List UInt8} {c : UInt8} (h : (l.take 1 == [c]) = true) : l = c :: l.drop 1 := by
  cases l with
  | nil => exact absurd h (by simp)
  | cons b r =>
    have : b = c := by simpa using h
    subst this; rfl
theorem parseW_inv {l : List UInt8} (h : (parseW l).2 = 0) : l = Lib.itoa (parseW l).1 ∧ word_Fine.t (parseW l).1 = true := by
  unfold parseW at h ⊢
  cases hc : (l.take 1 == [45]) with
  | true =>
    rw [hc] at h
    simp only [cond_true] at h ⊢
    obtain ⟨h1, h2, h3, h4⟩ := wordOf_inv h
    refine ⟨?_, h4⟩
    rw [h1]
    have hd := dd_val h2
    have hz : valN 0 (l.drop 1) ≠ 0 := by
      intro e
      rw [e, dd_zero] at hd
      rw [← hd] at h3
      exact absurd h3 (by decide)
    simp only [if_true]
    unfold Lib.itoa
    rw [if_pos (by omega), show (-(valN 0 (l.drop 1) : Int)).natAbs = valN 0 (l.drop 1) by omega, hd]
    exact take1 hc
  | false =>
    rw [hc] at h
    simp only [cond_false] at h ⊢
    obtain ⟨h1, h2, h3, h4⟩ := wordOf_inv h
    refine ⟨?_, h4⟩
    rw [h1]
    simp only [Bool.false_eq_true, if_false]
    unfold Lib.itoa
    rw [if_neg (by omega), Int.toNat_natCast, dd_val h2]
theorem numL_inv {k i : Int} {p : List UInt8} (h : (numL k i p).2 = 0) : p = Lib.itoa (numL k i p).1 ∧ word_Fine.t (numL k i p).1 = true := by
  have he : numL k i p = parseW p := by
    unfold numL at h ⊢
    cases h3 : ((parseW p).2 == 3) with
    | true => rw [h3] at h; exact absurd (show (3 : Int) = 0 from h) (by decide)
    | false =>
      rw [h3] at h
      simp only [cond_false] at h ⊢
      cases hc : (p.take 1 == [45]) with
      | false => rfl
      | true =>
        rw [hc] at h
        simp only [cond_true] at h ⊢
        cases hk : ((k != 2) || (i == 0)) with
        | true => rw [hk] at h; exact absurd (show (3 : Int) = 0 from h) (by decide)
        | false => rfl
  rw [he] at h ⊢
  exact parseW_inv h
theorem partL_inv {k i : Int} {p : List UInt8} (h : (partL k i p).2 = 0) : p = (bif (k == 4) && (i == 1) then 107 :: Lib.itoa (partL k i p).1 else Lib.itoa (partL k i p).1) := by
  unfold partL at h ⊢
  cases hk : ((k == 4) && (i == 1)) with
  | false =>
    rw [hk] at h
    simp only [cond_false] at h ⊢
    exact (numL_inv h).1
  | true =>
    rw [hk] at h
    simp only [cond_true] at h ⊢
    cases hc : (p.take 1 == [107]) with
    | false => rw [hc] at h; exact absurd (show (3 : Int) = 0 from h) (by decide)
    | true =>
      rw [hc] at h
      simp only [cond_true] at h ⊢
      rw [← (numL_inv h).1]
      exact take1 hc

theorem split_at {c : UInt8} {l : List UInt8} (h : fstI c l < l.length) : l = l.take (fstI c l) ++ c :: l.drop (fstI c l + 1) := by
  have h1 := fstI_at h
  rw [List.getElem?_eq_getElem h] at h1
  have h2 := List.drop_eq_getElem_cons h
  rw [Option.some.inj h1] at h2
  rw [← h2, List.take_append_drop]
theorem fst_app {c : UInt8} : ∀ {a : List UInt8} (r : List UInt8), a.count c = 0 → fstI c (a ++ c :: r) = a.length
  | [], r, _ => by unfold fstI; rw [List.nil_append, List.findIdx_cons, beq_self_eq_true]; rfl
  | b :: a, r, h => by
    have hb : b ≠ c := by intro e; subst e; simp at h
    have h' : a.count c = 0 := by rw [List.count_cons_of_ne (by simpa using hb)] at h; exact h
    have ih := fst_app (a := a) r h'
    unfold fstI at ih ⊢
    rw [List.cons_append, List.findIdx_cons, beq_eq_false_iff_ne.2 hb]
    simp only [cond_false, ih, List.length_cons]
theorem finE_inv {x e : Evn} (h : finE x = (e, 0)) : e = x ∧ chkE x = 0 := by
  unfold finE at h
  cases hc : (chkE x != 0) with
  | true =>
    rw [hc, cond_true] at h
    have h2 : chkE x = 0 := (Prod.mk.inj h).2
    rw [h2] at hc
    exact absurd hc (by decide)
  | false =>
    rw [hc, cond_false] at h
    exact ⟨(Prod.mk.inj h).1.symm, by simpa using hc⟩
theorem kindE_name {l : List UInt8} (h : kindE l ≠ 0) : l = nameE (kindE l) := by
  unfold kindE at h ⊢
  repeat' split
  all_goals first | assumption | (exfalso; simp_all; done)
theorem itoa_nat (n : Nat) : Lib.itoa (n : Int) = Lib.decDigits n := by
  unfold Lib.itoa
  rw [if_neg (by omega), Int.toNat_natCast]
theorem parseE_inv {l : List UInt8} {e : Evn} (h : parseE l = (e, 0)) : l = TE e ∧ chkE e = 0 := by
  unfold parseE at h
  have hnm := fun q => kindE_name (l := l.take (fstI 32 l)) q
  have hv := kindE_vals (l.take (fstI 32 l))
  generalize kindE (l.take (fstI 32 l)) = k at *
  cases h0 : (k == 0) with
  | true => rw [h0] at h; exact absurd (Prod.mk.inj h).2 (by decide)
  | false =>
    rw [h0, cond_false] at h
    have h0 : k ≠ 0 := by simpa using h0
    have hnm := hnm h0
    by_cases hl : fstI 32 l < l.length
    · rw [if_pos hl] at h
      have hsp := split_at hl
      rw [hnm] at hsp
      generalize l.drop (fstI 32 l + 1) = r at *
      by_cases h4 : k ≤ 4
      · rw [decide_eq_true h4, cond_true] at h
        unfold objF at h
        cases hm : (r.take 1 == markE k) with
        | false => rw [hm] at h; exact absurd (Prod.mk.inj h).2 (by decide)
        | true =>
          rw [hm, cond_true] at h
          cases hp : plainF (r.drop 1) with
          | false => rw [hp] at h; exact absurd (Prod.mk.inj h).2 (by decide)
          | true =>
            rw [hp, cond_true] at h
            obtain ⟨rfl, hc⟩ := finE_inv h
            refine ⟨?_, hc⟩
            rw [chk_obj (by omega) (held_nn _)] at hc
            have h7 : ¬ held (valN 0 (r.drop 1)) > 7 := by
              intro q; rw [if_pos q] at hc; exact absurd hc (by decide)
            have h7' : ¬ ((valN 0 (r.drop 1) : Nat) : Int) > 7 := fun q => h7 (held_7.2 q)
            obtain ⟨c, hmc⟩ : ∃ c, markE k = [c] := by unfold markE; cases (k == 1) <;> exact ⟨_, rfl⟩
            rw [hmc] at hm
            have hr := take1 hm
            show l = nameE k ++ 32 :: (bif decide (k ≤ 4) then markE k ++ Lib.itoa (held (valN 0 (r.drop 1))) else Lib.itoa 0 ++ 46 :: Lib.itoa 0)
            rw [decide_eq_true h4, cond_true, held_id (by omega), itoa_nat, dd_val hp, hmc, List.singleton_append, ← hr]
            exact hsp
      · rw [decide_eq_false h4, cond_false] at h
        unfold pairF at h
        by_cases hj : fstI 46 r < r.length
        · rw [if_pos hj] at h
          have hsr := split_at hj
          generalize r.take (fstI 46 r) = a at *
          generalize r.drop (fstI 46 r + 1) = b at *
          cases ha : plainF a with
          | false => rw [ha] at h; exact absurd (Prod.mk.inj h).2 (by decide)
          | true =>
            cases hb : plainF b with
            | false => rw [ha, hb] at h; exact absurd (Prod.mk.inj h).2 (by decide)
            | true =>
              rw [ha, hb, cond_true, cond_true] at h
              obtain ⟨rfl, hc⟩ := finE_inv h
              refine ⟨?_, hc⟩
              rw [chk_pair (by omega) (held_nn _) (held_nn _)] at hc
              have h15 : ¬ held (valN 0 a) > 15 := by
                intro q; rw [if_pos q] at hc; exact absurd hc (by decide)
              rw [if_neg h15] at hc
              have h5 : ¬ held (valN 0 b) > 5 := by
                intro q; rw [if_pos q] at hc; exact absurd hc (by decide)
              have h15' : ¬ ((valN 0 a : Nat) : Int) > 15 := fun q => h15 (held_big.2 q)
              have h5' : ¬ ((valN 0 b : Nat) : Int) > 5 := fun q => h5 (held_5.2 q)
              show l = nameE k ++ 32 :: (bif decide (k ≤ 4) then markE k ++ Lib.itoa 0 else Lib.itoa (held (valN 0 a)) ++ 46 :: Lib.itoa (held (valN 0 b)))
              rw [decide_eq_false h4, cond_false, held_id (by omega), held_id (by omega), itoa_nat, itoa_nat, dd_val ha, dd_val hb, ← hsr]
              exact hsp
        · rw [if_neg hj] at h
          exact absurd (Prod.mk.inj h).2 (by decide)
    · rw [if_neg hl] at h
      exact absurd (Prod.mk.inj h).2 (by decide)

theorem finL_inv {x y : Lb} (h : finL x = (y, 0)) : y = x ∧ chkL x = 0 := by
  unfold finL at h
  cases hc : (chkL x != 0) with
  | true =>
    rw [hc, cond_true] at h
    have h2 : chkL x = 0 := (Prod.mk.inj h).2
    rw [h2] at hc
    exact absurd hc (by decide)
  | false =>
    rw [hc, cond_false] at h
    exact ⟨(Prod.mk.inj h).1.symm, by simpa using hc⟩
theorem kindLb_name {l : List UInt8} (h : kindLb l ≠ 0) : l = nameL (kindLb l) := by
  unfold kindLb at h ⊢
  repeat' split
  all_goals first | assumption | (exfalso; simp_all; done)
theorem TLb1 {k w : Int} {v : Int} {e : Evn} (h : k = 1 ∨ k = 3 ∨ k = 5) : TLb (k, (w, (v, (e, ())))) = nameL k ++ 32 :: Lib.itoa w := by
  rcases h with rfl | rfl | rfl <;> rfl
theorem oneF_inv {k : Int} (hk : k = 1 ∨ k = 3 ∨ k = 5 ∨ k = 8) {r : List UInt8} {x : Lb} (h : oneF k r = (x, 0)) : nameL k ++ 32 :: r = TLb x ∧ chkL x = 0 := by
  unfold oneF at h
  cases h3 : ((partL k 0 r).2 == 3) with
  | true => rw [h3] at h; exact absurd (Prod.mk.inj h).2 (by decide)
  | false =>
    rw [h3, cond_false] at h
    cases hn : ((partL k 0 r).2 != 0) with
    | true =>
      rw [hn, cond_true] at h
      have := (Prod.mk.inj h).2
      rw [this] at hn
      exact absurd hn (by decide)
    | false =>
      rw [hn, cond_false] at h
      have h0 : (partL k 0 r).2 = 0 := by simpa using hn
      have hr := partL_inv h0
      have hk4 : ((k == 4) && ((0 : Int) == 1)) = false := by rw [show ((0 : Int) == 1) = false from rfl, Bool.and_false]
      rw [hk4, cond_false] at hr
      cases h8 : (k == 8) with
      | true =>
        rw [h8, cond_true] at h
        obtain ⟨rfl, hc⟩ := finL_inv h
        have h8 : k = 8 := by simpa using h8
        subst h8
        refine ⟨?_, hc⟩
        show _ = nameL 8 ++ 32 :: Lib.itoa (partL 8 0 r).1
        rw [← hr]
      | false =>
        rw [h8, cond_false] at h
        obtain ⟨rfl, hc⟩ := finL_inv h
        have h8 : k ≠ 8 := by simpa using h8
        refine ⟨?_, hc⟩
        rw [TLb1 (by omega), ← hr]
theorem twoF_inv {k : Int} (hk : k = 2 ∨ k = 4 ∨ k = 6) {a b : List UInt8} {x : Lb} (h : twoF k a b = (x, 0)) : nameL k ++ 32 :: (a ++ 32 :: b) = TLb x ∧ chkL x = 0 := by
  unfold twoF at h
  cases h3 : ((partL k 0 a).2 == 3) with
  | true => rw [h3] at h; exact absurd (Prod.mk.inj h).2 (by decide)
  | false =>
    rw [h3, cond_false] at h
    cases h3' : ((partL k 1 b).2 == 3) with
    | true => rw [h3'] at h; exact absurd (Prod.mk.inj h).2 (by decide)
    | false =>
      rw [h3', cond_false] at h
      cases hn : (((partL k 0 a).2 == 0) && ((partL k 1 b).2 == 0)) with
      | false => rw [hn] at h; exact absurd (Prod.mk.inj h).2 (by decide)
      | true =>
        rw [hn, cond_true] at h
        rw [Bool.and_eq_true, beq_iff_eq, beq_iff_eq] at hn
        obtain ⟨rfl, hc⟩ := finL_inv h
        refine ⟨?_, hc⟩
        have ha := partL_inv hn.1
        have hb := partL_inv hn.2
        have hk4 : ((k == 4) && ((0 : Int) == 1)) = false := by rw [show ((0 : Int) == 1) = false from rfl, Bool.and_false]
        rw [hk4, cond_false] at ha
        rcases hk with rfl | rfl | rfl
        · show _ = nameL 2 ++ 32 :: (Lib.itoa (partL 2 0 a).1 ++ 32 :: Lib.itoa (partL 2 1 b).1)
          have hb : b = Lib.itoa (partL 2 1 b).1 := hb
          rw [← ha, ← hb]
        · show _ = nameL 4 ++ 32 :: (Lib.itoa (partL 4 0 a).1 ++ 32 :: 107 :: Lib.itoa (partL 4 1 b).1)
          have hb : b = 107 :: Lib.itoa (partL 4 1 b).1 := hb
          rw [← ha, ← hb]
        · show _ = nameL 6 ++ 32 :: (Lib.itoa (partL 6 0 a).1 ++ 32 :: Lib.itoa (partL 6 1 b).1)
          have hb : b = Lib.itoa (partL 6 1 b).1 := hb
          rw [← ha, ← hb]
/-- What is read stood there. -/
theorem parseLb_inv {l : List UInt8} {x : Lb} (h : parseLb l = (x, 0)) : l = TLb x ∧ chkL x = 0 := by
  unfold parseLb at h
  have hnm := fun q => kindLb_name (l := l.take (fstI 32 l)) q
  have hv := kindLb_vals (l.take (fstI 32 l))
  generalize kindLb (l.take (fstI 32 l)) = k at *
  cases h0 : (k == 0) with
  | true =>
    rw [h0, cond_true] at h
    cases hn : ((parseE l).2 != 0) with
    | true =>
      rw [hn, cond_true] at h
      have := (Prod.mk.inj h).2
      rw [this] at hn
      exact absurd hn (by decide)
    | false =>
      rw [hn, cond_false] at h
      have h2 : (parseE l).2 = 0 := by simpa using hn
      obtain ⟨q1, q2⟩ := parseE_inv (l := l) (e := (parseE l).1) (by rw [← h2])
      obtain rfl := (Prod.mk.inj h).1
      refine ⟨q1, ?_⟩
      exact (chkL0 7 0 0 _).2 (.inl ⟨rfl, q2, rfl, rfl⟩)
  | false =>
    rw [h0, cond_false] at h
    have h0 : k ≠ 0 := by simpa using h0
    have hnm := hnm h0
    by_cases hl : fstI 32 l < l.length
    · rw [if_pos hl] at h
      have hsp := split_at hl
      rw [hnm] at hsp
      generalize l.drop (fstI 32 l + 1) = r at *
      unfold restF at h
      have one : (k = 1 ∨ k = 3 ∨ k = 5 ∨ k = 8) → (if r.count 32 = 0 then oneF k r else (zLb, 3)) = (x, 0) → l = TLb x ∧ chkL x = 0 := by
        intro hk h
        by_cases hc : r.count 32 = 0
        · rw [if_pos hc] at h
          obtain ⟨q1, q2⟩ := oneF_inv hk h
          exact ⟨hsp.trans q1, q2⟩
        · rw [if_neg hc] at h; exact absurd (Prod.mk.inj h).2 (by decide)
      have two : (k = 2 ∨ k = 4 ∨ k = 6) → (if r.count 32 = 1 then twoF k (r.take (fstI 32 r)) (r.drop (fstI 32 r + 1)) else (zLb, 3)) = (x, 0) → l = TLb x ∧ chkL x = 0 := by
        intro hk h
        by_cases hc : r.count 32 = 1
        · rw [if_pos hc] at h
          obtain ⟨q1, q2⟩ := twoF_inv hk h
          rw [← split_at (fst_some (by omega))] at q1
          exact ⟨hsp.trans q1, q2⟩
        · rw [if_neg hc] at h; exact absurd (Prod.mk.inj h).2 (by decide)
      rcases hv with rfl | rfl | rfl | rfl | rfl | rfl | rfl | rfl
      · exact absurd rfl h0
      · exact one (by omega) h
      · exact two (by omega) h
      · exact one (by omega) h
      · exact two (by omega) h
      · exact one (by omega) h
      · exact two (by omega) h
      · exact one (by omega) h
    · rw [if_neg hl] at h
      exact absurd (Prod.mk.inj h).2 (by decide)

/-! ### The other way -/
theorem itoa_chars {n : Int} {b : UInt8} (h : b ∈ Lib.itoa n) : b = 45 ∨ digB b = true := by
  unfold Lib.itoa at h
  split at h
  · rcases List.mem_cons.1 h with h | h
    · exact .inl h
    · exact .inr (List.all_eq_true.1 (dd_all _ _ (Nat.le_refl _)) b h)
  · exact .inr (List.all_eq_true.1 (dd_all _ _ (Nat.le_refl _)) b h)
theorem itoa_no {n : Int} {c : UInt8} (h1 : c ≠ 45) (h2 : digB c = false) : (Lib.itoa n).count c = 0 := by
  rw [List.count_eq_zero]
  intro h
  rcases itoa_chars h with q | q
  · exact h1 q
  · rw [h2] at q; cases q
theorem itoa_nn {n : Int} (h : 0 ≤ n) : ((Lib.itoa n).take 1 == [45]) = false := by
  rw [beq_eq_false_iff_ne]
  intro e
  have hm : (45 : UInt8) ∈ Lib.itoa n := List.mem_of_mem_take (by rw [e]; simp)
  unfold Lib.itoa at hm
  rw [if_neg (by omega)] at hm
  have := List.all_eq_true.1 (dd_all _ _ (Nat.le_refl n.toNat)) 45 hm
  exact absurd this (by decide)
theorem parseW_itoa {n : Int} (h : -2147483648 ≤ n ∧ n ≤ 2147483647) : parseW (Lib.itoa n) = (n, 0) := by
  have h1 := parse_txt (n := n) (fine_iff.2 h)
  have hz := txtK (n := n) ⟨by omega, by omega⟩
  rw [wparse_u (by omega), txt_list] at h1
  exact Option.some.inj h1
theorem numL_itoa {k i n : Int} (h : -2147483648 ≤ n ∧ n ≤ 2147483647) (hs : 0 ≤ n ∨ (k = 2 ∧ i ≠ 0)) : numL k i (Lib.itoa n) = (n, 0) := by
  unfold numL
  rw [parseW_itoa h]
  rcases hs with hs | ⟨rfl, hi⟩
  · rw [itoa_nn hs]; rfl
  · have : (i == 0) = false := beq_eq_false_iff_ne.2 hi
    rw [this]
    cases ((Lib.itoa n).take 1 == [45]) <;> rfl
theorem nameL_no (k : Int) (c : UInt8) (hc : c = 32 ∨ c = 10) : (nameL k).count c = 0 := by
  by_cases h1 : k = 1
  · subst h1; rcases hc with rfl | rfl <;> decide
  by_cases h2 : k = 2
  · subst h2; rcases hc with rfl | rfl <;> decide
  by_cases h3 : k = 3
  · subst h3; rcases hc with rfl | rfl <;> decide
  by_cases h4 : k = 4
  · subst h4; rcases hc with rfl | rfl <;> decide
  by_cases h5 : k = 5
  · subst h5; rcases hc with rfl | rfl <;> decide
  by_cases h6 : k = 6
  · subst h6; rcases hc with rfl | rfl <;> decide
  have : nameL k = nameL 8 := by
    unfold nameL
    simp only [beq_eq_false_iff_ne.2 h1, beq_eq_false_iff_ne.2 h2, beq_eq_false_iff_ne.2 h3, beq_eq_false_iff_ne.2 h4, beq_eq_false_iff_ne.2 h5, beq_eq_false_iff_ne.2 h6, cond_false]
    rfl
  rw [this]
  rcases hc with rfl | rfl <;> decide
theorem allK : (evAll.all fun e => (kindLb ((TE e).take (fstI 32 (TE e))) == 0) && ((TE e).count 10 == 0)) = true := by kernel_rfl
theorem TE_10 {e : Evn} (h : chkE e = 0) : (TE e).count 10 = 0 := by
  have := List.all_eq_true.1 allK e (chk_mem h)
  rw [Bool.and_eq_true, beq_iff_eq, beq_iff_eq] at this
  exact this.2
theorem parse_name {k : Int} (hk : kindLb (nameL k) = k) (h0 : k ≠ 0) (r : List UInt8) : parseLb (nameL k ++ 32 :: r) = restF k r := by
  unfold parseLb
  rw [fst_app r (nameL_no k 32 (.inl rfl)), List.take_left' rfl, hk]
  rw [show (k == 0) = false from beq_eq_false_iff_ne.2 h0, cond_false, if_pos (by simp)]
  rw [show (nameL k).length + 1 = (nameL k ++ [32]).length by simp, show nameL k ++ 32 :: r = (nameL k ++ [32]) ++ r by simp, List.drop_left' rfl]
theorem finL_ok {x : Lb} (h : chkL x = 0) : finL x = (x, 0) := by unfold finL; rw [h]; rfl
theorem rest_one {k w : Int} {x : Lb} (hk : ((k == 2) || (k == 4) || (k == 6)) = false) (hw : 0 ≤ w ∧ w ≤ 65535) (hx : (bif k == 8 then ((8, (0, (w, (zEv, ())))) : Lb) else (k, (w, (0, (zEv, ()))))) = x) (hc : chkL x = 0) : restF k (Lib.itoa w) = (x, 0) := by
  unfold restF
  rw [hk, cond_false, if_pos (itoa_no (by decide) (by decide))]
  unfold oneF partL
  rw [show ((k == 4) && ((0 : Int) == 1)) = false by rw [show ((0 : Int) == 1) = false from rfl, Bool.and_false], cond_false, numL_itoa ⟨by omega, by omega⟩ (.inl hw.1)]
  simp only [show ((0 : Int) == 3) = false from rfl, show ((0 : Int) != 0) = false from rfl, cond_false]
  subst hx
  cases h8 : (k == 8) with
  | true => rw [h8, cond_true] at hc; exact finL_ok hc
  | false => rw [h8, cond_false] at hc; exact finL_ok hc
theorem rest_two {k w v : Int} {t : List UInt8} (hk : ((k == 2) || (k == 4) || (k == 6)) = true) (hw : 0 ≤ w ∧ w ≤ 15) (ht : t.count 32 = 0) (hp : partL k 1 t = (v, 0)) (hc : chkL (k, (w, (v, (zEv, ())))) = 0) : restF k (Lib.itoa w ++ 32 :: t) = ((k, (w, (v, (zEv, ())))), 0) := by
  have hn : (Lib.itoa w).count 32 = 0 := itoa_no (by decide) (by decide)
  unfold restF
  rw [hk, cond_true, if_pos (by rw [List.count_append, hn, List.count_cons_self, ht]), fst_app t hn, List.take_left' rfl]
  rw [show (Lib.itoa w).length + 1 = (Lib.itoa w ++ [32]).length by simp, show Lib.itoa w ++ 32 :: t = (Lib.itoa w ++ [32]) ++ t by simp, List.drop_left' rfl]
  unfold twoF
  rw [hp]
  unfold partL
  rw [show ((k == 4) && ((0 : Int) == 1)) = false by rw [show ((0 : Int) == 1) = false from rfl, Bool.and_false], cond_false, numL_itoa ⟨by omega, by omega⟩ (.inl hw.1)]
  exact finL_ok hc
/-- A label comes back from its text; no line ends within it. -/
theorem parse_text_lb {x : Lb} (h : chkL x = 0) : parseLb (TLb x) = (x, 0) ∧ (TLb x).count 10 = 0 ∧ (TLb x).length ≤ 60 := by
  obtain ⟨k, w, v, e, u⟩ := x
  cases u
  have nn : ∀ n : Int, (Lib.itoa n).count 10 = 0 := fun n => itoa_no (by decide) (by decide)
  have n10 := fun k => nameL_no k 10 (.inr rfl)
  have hc := h
  rcases (chkL0 k w v e).1 h with ⟨rfl, he, rfl, rfl⟩ | ⟨rfl, hv, rfl, rfl⟩ | ⟨rfl, hw, hv, rfl⟩ | ⟨rfl, hw, hv, rfl⟩ | ⟨rfl, hw, hv, rfl⟩ | ⟨hk, hw, rfl, rfl⟩
  · refine ⟨?_, TE_10 he, Nat.le_trans (te_u he).2.2 (by decide)⟩
    show parseLb (TE e) = _
    have h1 := List.all_eq_true.1 allK e (chk_mem he)
    rw [Bool.and_eq_true, beq_iff_eq, beq_iff_eq] at h1
    obtain ⟨t, q1, _, q3, q4⟩ := text_back he
    rw [(te_u he).1] at q1
    have q1 : bs (TE e) = t := (Prod.mk.inj (Option.some.inj q1)).1
    subst q1
    rw [parse_u (by omega)] at q4
    have q5 : parseE (TE e) = (e, 0) := Option.some.inj q4
    unfold parseLb
    rw [h1.1, q5]
    rfl
  · have z := itoaK (n := v) ⟨by omega, by omega⟩
    refine ⟨?_, ?_, ?_⟩
    · show parseLb (nameL 8 ++ 32 :: Lib.itoa v) = _
      rw [parse_name (by decide) (by decide)]
      exact rest_one rfl hv rfl hc
    · show (nameL 8 ++ 32 :: Lib.itoa v).count 10 = 0
      rw [List.count_append, n10, List.count_cons_of_ne (by decide), nn]
    · show (nameL 8 ++ 32 :: Lib.itoa v).length ≤ 60
      simp only [List.length_append, List.length_cons, show (nameL 8).length = 6 from rfl]; omega
  · have z := itoaK (n := v) ⟨by omega, by omega⟩
    have y := itoaK (n := w) ⟨by omega, by omega⟩
    refine ⟨?_, ?_, ?_⟩
    · show parseLb (nameL 2 ++ 32 :: (Lib.itoa w ++ 32 :: Lib.itoa v)) = _
      rw [parse_name (by decide) (by decide)]
      refine rest_two rfl hw (itoa_no (by decide) (by decide)) ?_ hc
      show numL 2 1 (Lib.itoa v) = _
      exact numL_itoa hv (.inr ⟨rfl, by decide⟩)
    · show (nameL 2 ++ 32 :: (Lib.itoa w ++ 32 :: Lib.itoa v)).count 10 = 0
      rw [List.count_append, n10, List.count_cons_of_ne (by decide), List.count_append, nn, List.count_cons_of_ne (by decide), nn]
    · show (nameL 2 ++ 32 :: (Lib.itoa w ++ 32 :: Lib.itoa v)).length ≤ 60
      simp only [List.length_append, List.length_cons, show (nameL 2).length = 4 from rfl]; omega
  · have z := itoaK (n := v) ⟨by omega, by omega⟩
    have y := itoaK (n := w) ⟨by omega, by omega⟩
    refine ⟨?_, ?_, ?_⟩
    · show parseLb (nameL 4 ++ 32 :: (Lib.itoa w ++ 32 :: (107 :: Lib.itoa v))) = _
      rw [parse_name (by decide) (by decide)]
      refine rest_two rfl hw (by rw [List.count_cons_of_ne (by decide)]; exact itoa_no (by decide) (by decide)) ?_ hc
      show numL 4 1 (Lib.itoa v) = _
      exact numL_itoa ⟨by omega, by omega⟩ (.inl hv.1)
    · show (nameL 4 ++ 32 :: (Lib.itoa w ++ 32 :: (107 :: Lib.itoa v))).count 10 = 0
      rw [List.count_append, n10, List.count_cons_of_ne (by decide), List.count_append, nn, List.count_cons_of_ne (by decide), List.count_cons_of_ne (by decide), nn]
    · show (nameL 4 ++ 32 :: (Lib.itoa w ++ 32 :: (107 :: Lib.itoa v))).length ≤ 60
      simp only [List.length_append, List.length_cons, show (nameL 4).length = 4 from rfl]; omega
  · have z := itoaK (n := v) ⟨by omega, by omega⟩
    have y := itoaK (n := w) ⟨by omega, by omega⟩
    refine ⟨?_, ?_, ?_⟩
    · show parseLb (nameL 6 ++ 32 :: (Lib.itoa w ++ 32 :: Lib.itoa v)) = _
      rw [parse_name (by decide) (by decide)]
      refine rest_two rfl hw (itoa_no (by decide) (by decide)) ?_ hc
      show numL 6 1 (Lib.itoa v) = _
      exact numL_itoa ⟨by omega, by omega⟩ (.inl (by omega))
    · show (nameL 6 ++ 32 :: (Lib.itoa w ++ 32 :: Lib.itoa v)).count 10 = 0
      rw [List.count_append, n10, List.count_cons_of_ne (by decide), List.count_append, nn, List.count_cons_of_ne (by decide), nn]
    · show (nameL 6 ++ 32 :: (Lib.itoa w ++ 32 :: Lib.itoa v)).length ≤ 60
      simp only [List.length_append, List.length_cons, show (nameL 6).length = 7 from rfl]; omega
  · have y := itoaK (n := w) ⟨by omega, by omega⟩
    rw [TLb1 hk]
    have h1 : kindLb (nameL k) = k := by rcases hk with rfl | rfl | rfl <;> decide
    have h2 : ((k == 2) || (k == 4) || (k == 6)) = false := by rcases hk with rfl | rfl | rfl <;> rfl
    have h3 : (k == 8) = false := by rcases hk with rfl | rfl | rfl <;> rfl
    have h4 : (nameL k).length ≤ 7 := by rcases hk with rfl | rfl | rfl <;> decide
    refine ⟨?_, ?_, ?_⟩
    · rw [parse_name h1 (by omega)]
      exact rest_one h2 ⟨hw.1, by omega⟩ (by rw [h3]; rfl) hc
    · rw [List.count_append, n10, List.count_cons_of_ne (by decide), nn]
    · simp only [List.length_append, List.length_cons]; omega
end Go.Proofs.YtaednhofihnfkaaDoor.K

/- Assembly, plainly: the law AsmParses, joined. -/
import Derived.Test.YtmmooplcdkmapaaGreatDoorL11g
set_option maxRecDepth 100000
set_option linter.unusedVariables false
set_option linter.unusedSimpArgs false
namespace Go.Proofs.YtmmooplcdkmapaaGreatDoor.K
open Go

theorem rpair_u {s : ByteArray} (hs : s.size ≤ 1000000) : ref11_pair.u s = some (bif (parseW s.data.toList).2 != 0 then (0, (parseW s.data.toList).2) else bif decide ((parseW s.data.toList).1 < -32768) then (0, 8) else bif decide ((parseW s.data.toList).1 > 32767) then (0, 8) else (if (parseW s.data.toList).1 < 0 then (parseW s.data.toList).1 + 65536 else (parseW s.data.toList).1, 0)) := by
  unfold ref11_pair.u ref11_pair.s
  rw [rparse08_u hs, Option.bind_some]
  cases ((parseW s.data.toList).2 != 0) with
  | true => rfl
  | false =>
    simp only [cond_false]
    by_cases h1 : (parseW s.data.toList).1 < -32768
    · rw [decide_eq_true h1]; rfl
    · by_cases h2 : (parseW s.data.toList).1 > 32767
      · rw [decide_eq_false h1, decide_eq_true h2]; rfl
      · rw [decide_eq_false h1, decide_eq_false h2]
        by_cases h3 : (parseW s.data.toList).1 < 0
        · rw [decide_eq_true h3, if_pos h3, wrapN ⟨by omega, by omega⟩]; rfl
        · rw [decide_eq_false h3, if_neg h3]; rfl
theorem td_hi {n : Int} (h : -32768 ≤ n ∧ n ≤ 32767) : IntKind.wrap .i64 (Int.tdiv (if n < 0 then n + 65536 else n) 256) = hiW n ∧ Int.tmod (if n < 0 then n + 65536 else n) 256 = loW n := by
  have hb : 0 ≤ (if n < 0 then n + 65536 else n) ∧ (if n < 0 then n + 65536 else n) ≤ 65535 := by split <;> omega
  unfold hiW loW
  rw [Int.tdiv_eq_ediv_of_nonneg hb.1, Int.tmod_eq_emod_of_nonneg hb.1]
  exact ⟨wrapN (by omega), rfl⟩
theorem ref_one {ws : List ByteArray} (hr : ∀ w ∈ ws, w.size ≤ 1000000) {o : Int} {f : ByteArray} {c : Int} (hc : c = 114 ∨ c = 116 ∨ c = 99 ∨ c = 98 ∨ c = 112 ∨ c = 107 ∨ c = 109 ∨ c = 110 ∨ c = 103 ∨ c = 115 ∨ c = 105) {i : Nat} (hi : i < 3) (h5 : c = 105 → i < 2) {d : Nat} {v : List Int} {q : Nat} (hq : q < ws.length) (hl : ws.length ≤ 1000000) {p1 : Int} (hp1 : p1 = (q : Int)) :
    (bif (c == 105) then
       (bif (idxOK p1 (List.length ws)) then
        (ref11_pair.u ((List.getD ws (Int.toNat p1) (bs [])))).bind fun y8 =>
         bif (y8.2 != 0) then
          some (((0, (0, (0, (0, ())))) : In), y8.2)
         else
          bif true then
           bif (idxOK (IntKind.wrap .i64 ((i : Int) + 1)) 3) then
            ref11_Parse.g0 ws o f some d ((IntKind.wrap .i64 (p1 + 1))) ((i : Int) + 1) ((List.set (List.set v (Int.toNat (i : Int)) (IntKind.wrap .i64 (Int.tdiv y8.1 256))) (Int.toNat (IntKind.wrap .i64 ((i : Int) + 1))) (Int.tmod y8.1 256)))
           else
            none
          else
           none
        else none)
      else
        (bif (idxOK p1 (List.length ws)) then
         (ref11_value.u c ((List.getD ws (Int.toNat p1) (bs [])))).bind fun y9 =>
         bif (y9.2 != 0) then
          some ((0, (0, (0, (0, ())))), y9.2)
         else
          let v10 : Int × Int := (ref11_ends.t c)
          bif (decide (y9.1 < v10.1)) then
           some ((0, (0, (0, (0, ())))), 8)
          else
           bif (decide (y9.1 > v10.2)) then
            some ((0, (0, (0, (0, ())))), 8)
           else
            bif true then
             ref11_Parse.g0 ws o f some d ((IntKind.wrap .i64 (p1 + 1))) ((i : Int) + 1) ((List.set v (Int.toNat (i : Int)) y9.1))
            else
             none
        else none)) =
    bif (oneR c i (ws[q]) (ws.drop (q + 1)) v).1 != 0 then some (zIn, (oneR c i (ws[q]) (ws.drop (q + 1)) v).1) else ref11_Parse.g0 ws o f some d ((q + 1 : Nat) : Int) ((i + 1 : Nat) : Int) (oneR c i (ws[q]) (ws.drop (q + 1)) v).2.2 := by
  subst hp1
  have hw : (ws[q]).size ≤ 1000000 := hr _ (List.getElem_mem hq)
  have hg : List.getD ws q (bs []) = ws[q] := by rw [List.getD_eq_getElem?_getD, List.getElem?_eq_getElem hq]; rfl
  have w1 : IntKind.wrap .i64 ((q : Int) + 1) = ((q + 1 : Nat) : Int) := by rw [wrapN ⟨by omega, by omega⟩]; rfl
  have w2 : IntKind.wrap .i64 ((i : Int) + 1) = ((i + 1 : Nat) : Int) := by rw [wrapN ⟨by omega, by omega⟩]; rfl
  simp only [idxOK_nat hq, cond_true, Int.toNat_natCast, hg, w1, w2, idxOK_nat hi]
  unfold oneR
  cases h105 : (c == 105) with
  | true =>
    have hc5 : c = 105 := by simpa using h105
    simp only [cond_true, rpair_u hw, Option.bind_some, idxOK_nat (show i + 1 < 3 by have := h5 hc5; omega)]
    cases h1 : ((parseW ws[q].data.toList).2 != 0) with
    | true => simp only [cond_true, h1]; rfl
    | false =>
      simp only [cond_false]
      by_cases h2 : (parseW ws[q].data.toList).1 < -32768
      · rw [decide_eq_true h2]; rfl
      · by_cases h3 : (parseW ws[q].data.toList).1 > 32767
        · rw [decide_eq_false h2, decide_eq_true h3]; rfl
        · rw [decide_eq_false h2, decide_eq_false h3]
          obtain ⟨t1, t2⟩ := td_hi (n := (parseW ws[q].data.toList).1) ⟨by omega, by omega⟩
          simp only [cond_false, t1, t2]; rfl
  | false =>
    have hc5 : c ≠ 105 := by simpa using h105
    simp only [cond_false, value_u hw (c := c) (by omega), Option.bind_some]
    cases h1 : ((rvalW c ws[q].data.toList).2 != 0) with
    | true => simp only [cond_true, h1]; rfl
    | false =>
      simp only [cond_false]
      cases decide ((rvalW c ws[q].data.toList).1 < (ref11_ends.t c).1) <;> cases decide ((rvalW c ws[q].data.toList).1 > (ref11_ends.t c).2) <;> rfl
theorem oneR_rem {c : Int} {i : Nat} {w : ByteArray} {r : List ByteArray} {v : List Int} (h : ((oneR c i w r v).1 != 0) = false) : (oneR c i w r v).2.1 = r := by
  unfold oneR at h ⊢
  cases hc : (c == 105) with
  | true =>
    rw [hc] at h
    simp only [cond_true] at h ⊢
    cases h1 : ((parseW w.data.toList).2 != 0) with
    | true => rw [h1] at h; simp only [cond_true] at h; rw [h1] at h; cases h
    | false =>
      rw [h1] at h
      simp only [cond_false] at h ⊢
      cases h2 : decide ((parseW w.data.toList).1 < -32768) with
      | true => rw [h2] at h; cases h
      | false =>
        cases h3 : decide ((parseW w.data.toList).1 > 32767) with
        | true => rw [h2, h3] at h; cases h
        | false => rfl
  | false =>
    rw [hc] at h
    simp only [cond_false] at h ⊢
    cases h1 : ((rvalW c w.data.toList).2 != 0) with
    | true => rw [h1] at h; simp only [cond_true] at h; rw [h1] at h; cases h
    | false =>
      rw [h1] at h
      simp only [cond_false] at h ⊢
      cases h2 : decide ((rvalW c w.data.toList).1 < (ref11_ends.t c).1) with
      | true => rw [h2] at h; cases h
      | false =>
        cases h3 : decide ((rvalW c w.data.toList).1 > (ref11_ends.t c).2) with
        | true => rw [h2, h3] at h; cases h
        | false => rfl
/-- The reference's step at a letter. -/
theorem ref_step {ws : List ByteArray} (hr : ∀ w ∈ ws, w.size ≤ 1000000) (hl : ws.length ≤ 1000000) {o : Int} (hf : opcode_fine.t o = true) {i : Nat} (hi : i < 3) {d p : Nat} (hp : p ≤ ws.length) (v : List Int) :
    (((stepR (bAt (lineOf o).2.1 i) i v (ws.drop p)).1 != 0) = true ∧ ref11_Parse.g0 ws o (lineOf o).2.1 some (d + 1) (p : Int) (i : Int) v = some (zIn, (stepR (bAt (lineOf o).2.1 i) i v (ws.drop p)).1)) ∨
    (((stepR (bAt (lineOf o).2.1 i) i v (ws.drop p)).1 != 0) = false ∧ ∃ p', p' ≤ ws.length ∧ (stepR (bAt (lineOf o).2.1 i) i v (ws.drop p)).2.1 = ws.drop p' ∧ ref11_Parse.g0 ws o (lineOf o).2.1 some (d + 1) (p : Int) (i : Int) v = ref11_Parse.g0 ws o (lineOf o).2.1 some d (p' : Int) ((i + 1 : Nat) : Int) (stepR (bAt (lineOf o).2.1 i) i v (ws.drop p)).2.2) := by
  have hlc := lcase hf i hi rfl
  have h105 := at105 hf hi
  have hs : (lineOf o).2.1.size = 3 := by
    obtain ⟨_, _, _, e, _⟩ := form3 hf
    rw [size_list, e]; rfl
  rw [ref11_Parse.g0, hs, idxOK_nat hi, cond_true, Int.toNat_natCast]
  obtain ⟨c, hc⟩ : ∃ c, bAt (lineOf o).2.1 i = c := ⟨_, rfl⟩
  rw [hc] at hlc h105 ⊢
  unfold stepR
  cases h45 : (c == 45) with
  | true => exact .inr ⟨rfl, p, hp, rfl, rfl⟩
  | false =>
    cases h106 : (c == 106) with
    | true => exact .inr ⟨rfl, p, hp, rfl, rfl⟩
    | false =>
      have h45' : c ≠ 45 := by simpa using h45
      have h106' : c ≠ 106 := by simpa using h106
      have h5 : c = 105 → i < 2 := fun e => by have := (h105 e).1; omega
      have w1 : IntKind.wrap .i64 ((p : Int) + 1) = ((p + 1 : Nat) : Int) := by rw [wrapN ⟨by omega, by omega⟩]; rfl
      simp only [cond_false]
      have fin : ∀ {q : Nat} (hq : q < ws.length) (X : Option (In × Int)), X = (bif (oneR c i (ws[q]) (ws.drop (q + 1)) v).1 != 0 then some (zIn, (oneR c i (ws[q]) (ws.drop (q + 1)) v).1) else ref11_Parse.g0 ws o (lineOf o).2.1 some d ((q + 1 : Nat) : Int) ((i + 1 : Nat) : Int) (oneR c i (ws[q]) (ws.drop (q + 1)) v).2.2) →
          (((oneR c i (ws[q]) (ws.drop (q + 1)) v).1 != 0) = true ∧ X = some (zIn, (oneR c i (ws[q]) (ws.drop (q + 1)) v).1)) ∨ (((oneR c i (ws[q]) (ws.drop (q + 1)) v).1 != 0) = false ∧ ∃ p', p' ≤ ws.length ∧ (oneR c i (ws[q]) (ws.drop (q + 1)) v).2.1 = ws.drop p' ∧ X = ref11_Parse.g0 ws o (lineOf o).2.1 some d (p' : Int) ((i + 1 : Nat) : Int) (oneR c i (ws[q]) (ws.drop (q + 1)) v).2.2) := fun {q} hq X hX => by
        cases h : ((oneR c i (ws[q]) (ws.drop (q + 1)) v).1 != 0) with
        | true => rw [h] at hX; exact .inl ⟨rfl, hX⟩
        | false => rw [h] at hX; exact .inr ⟨rfl, q + 1, hq, oneR_rem h, hX⟩
      rcases Nat.lt_or_ge p ws.length with hlt | hge
      · have hd : ws.drop p = ws[p] :: ws.drop (p + 1) := List.drop_eq_getElem_cons hlt
        have hne : ((p : Int) == ((List.length ws : Nat) : Int)) = false := by rw [beq_eq_false_iff_ne]; omega
        have hg : List.getD ws p (bs []) = ws[p] := by rw [List.getD_eq_getElem?_getD, List.getElem?_eq_getElem hlt]; rfl
        rw [hd, hne]
        cases h103 : (c == 103) with
        | false =>
          simp only [cond_false]
          exact fin hlt _ (ref_one hr (by omega) hi h5 hlt hl rfl)
        | true =>
          have hc3 : c = 103 := by simpa using h103
          simp only [cond_false, cond_true, idxOK_nat hlt, Int.toNat_natCast, hg, bs_list]
          rcases Bool.eq_false_or_eq_true (ws[p].data.toList == [105, 102]) with hw | hw
          rotate_left
          · simp only [hw]; exact .inl ⟨rfl, rfl⟩
          · simp only [hw, Bool.not_true, cond_false, w1]
            rcases Nat.lt_or_ge (p + 1) ws.length with hlt2 | hge2
            · have hd2 : ws.drop (p + 1) = ws[p + 1] :: ws.drop (p + 1 + 1) := List.drop_eq_getElem_cons hlt2
              have hne2 : (((p + 1 : Nat) : Int) == ((List.length ws : Nat) : Int)) = false := by rw [beq_eq_false_iff_ne]; omega
              rw [hd2, hne2]
              simp only [cond_false]
              exact fin hlt2 _ (ref_one hr (by omega) hi h5 hlt2 hl rfl)
            · have hd2 : ws.drop (p + 1) = [] := List.drop_eq_nil_of_le (by omega)
              have hne2 : (((p + 1 : Nat) : Int) == ((List.length ws : Nat) : Int)) = true := by rw [beq_iff_eq]; omega
              rw [hd2, hne2]
              exact .inl ⟨rfl, rfl⟩
      · have hd : ws.drop p = [] := List.drop_eq_nil_of_le hge
        have hne : ((p : Int) == ((List.length ws : Nat) : Int)) = true := by rw [beq_iff_eq]; omega
        rw [hd, hne]
        cases h103 : (c == 103) with
        | false => exact .inl ⟨rfl, rfl⟩
        | true =>
          simp only [cond_true, idxOK_nat hi, Int.toNat_natCast]
          exact .inr ⟨rfl, p, hp, hd.symm, rfl⟩

theorem form_list {o : Int} (hf : opcode_fine.t o = true) : bytesI (lineOf o).2.1 = [bAt (lineOf o).2.1 0, bAt (lineOf o).2.1 1, bAt (lineOf o).2.1 2] := by
  obtain ⟨a, b, c, e, _⟩ := form3 hf
  rw [bytesI_list, e]
  unfold bAt
  rw [e]; rfl
theorem form_drop {o : Int} (hf : opcode_fine.t o = true) {i : Nat} (hi : i < 3) : (bytesI (lineOf o).2.1).drop i = bAt (lineOf o).2.1 i :: (bytesI (lineOf o).2.1).drop (i + 1) := by
  rw [form_list hf]
  match i, hi with
  | 0, _ => rfl
  | 1, _ => rfl
  | 2, _ => rfl
theorem loops_same {ws : List ByteArray} (hr : ∀ w ∈ ws, w.size ≤ 1000000) (hl : ws.length ≤ 1000000) {o : Int} (hf : opcode_fine.t o = true) (L : List Int) (g : In) (h2 : List ByteArray) : ∀ (d i p : Nat) (v : List Int), i + d = 3 → p ≤ ws.length → Iw o i v →
    ∃ r, asm_Parse.g0 o L some ((bytesI (lineOf o).2.1).drop i) (i : Int) g (ws.drop p, (v, ())) h2 = some r ∧ ref11_Parse.g0 ws o (lineOf o).2.1 some d (p : Int) (i : Int) v = some r
  | 0, i, p, v, h, hp, hI => by
    have : i = 3 := by omega
    subst this
    rw [form_list hf, List.drop_eq_nil_of_le (by simp), asm_Parse.g0, ref11_Parse.g0]
    have e : decide (((List.length (ws.drop p) : Nat) : Int) > 0) = decide ((p : Int) < ((List.length ws : Nat) : Int)) := by
      rw [List.length_drop, Bool.eq_iff_iff, decide_eq_true_iff, decide_eq_true_iff]; omega
    rw [e]
    cases decide ((p : Int) < ((List.length ws : Nat) : Int)) <;> exact ⟨_, rfl, rfl⟩
  | d + 1, i, p, v, h, hp, hI => by
    have hi : i < 3 := by omega
    have hrd : ∀ w ∈ ws.drop p, w.size ≤ 1000000 := fun w hw => hr w (List.mem_of_mem_drop hw)
    have hst := step_same (lcase hf i hi rfl) hi (fun e => by have := (at105 hf hi e).1; omega) hI.good.1 (ws.drop p)
    rw [form_drop hf hi, asm_step hf hi hI hrd]
    have hiw := iw_step hf hi hI (ws.drop p)
    rw [hst] at hiw ⊢
    rcases ref_step hr hl hf hi (d := d) hp v with ⟨h1, h3⟩ | ⟨h1, p', hp', h3, h4⟩
    · rw [h1, h3]; exact ⟨_, rfl, rfl⟩
    · rw [h1, h4, cond_false, h3]
      exact loops_same hr hl hf L g h2 d (i + 1) p' _ (by omega) hp' (hiw (by simpa using h1))
theorem filt (k : In × Int → Option (In × Int)) (e : List ByteArray) (v : List Int) : ∀ (P : List (List UInt8)) (acc : List ByteArray), acc.length + P.length ≤ 1000000 → asm_Parse.g1 e v k (P.map bs) acc = asm_Parse.g1 e v k [] (acc ++ ((P.filter fun p => !(p == [])).map bs))
  | [], acc, h => by rw [List.filter_nil, List.map_nil, List.append_nil]
  | p :: r, acc, h => by
    show (bif !((bs p).data.toList == (bs []).data.toList) then (bif decide (List.length acc + List.length [bs p] ≤ rowMax) then asm_Parse.g1 e v k (r.map bs) (acc ++ [bs p]) else none) else asm_Parse.g1 e v k (r.map bs) acc) = _
    rw [bs_list, bs_list, List.filter_cons]
    rw [List.length_cons] at h
    cases hp : (p == []) with
    | true => simp only [Bool.not_true, cond_false]; exact filt k e v r acc (by omega)
    | false =>
      simp only [Bool.not_false, cond_true, if_true, List.map_cons]
      rw [decide_eq_true (show List.length acc + List.length [bs p] ≤ rowMax from Nat.le_trans (show _ ≤ 1000000 by simp; omega) (by decide)), cond_true, filt k e v r _ (by simp; omega), List.append_assoc]; rfl
theorem pieces_len : ∀ l : List UInt8, (pieces l).length ≤ l.length + 1 ∧ ∀ p ∈ pieces l, p.length ≤ l.length
  | [] => ⟨Nat.le_refl _, fun p hp => by simp [pieces] at hp; rw [hp]; exact Nat.le_refl _⟩
  | b :: r => by
    obtain ⟨h1, h2⟩ := pieces_len r
    unfold pieces
    split
    · refine ⟨by simp; omega, fun p hp => ?_⟩
      rcases List.mem_cons.1 hp with h | h
      · rw [h]; simp
      · have := h2 p h; simp; omega
    · split
      · rename_i q t e
        rw [e] at h1 h2
        refine ⟨by simp at h1 ⊢; omega, fun p hp => ?_⟩
        rcases List.mem_cons.1 hp with h | h
        · have := h2 q (List.mem_cons_self ..); rw [h]; simp; omega
        · have := h2 p (List.mem_cons_of_mem _ h); simp; omega
      · refine ⟨by simp, fun p hp => ?_⟩
        simp only [List.mem_singleton] at hp; rw [hp]; simp
/-- Both readers answer, and alike. -/
theorem parse_same {s : ByteArray} (hs : s.size ≤ 100000) : ∃ r, asm_Parse.u s = some r ∧ ref11_Parse.u s = some r := by
  have hsz := size_list s
  obtain ⟨hp1, hp2⟩ := pieces_len s.data.toList
  unfold asm_Parse.u asm_Parse.w ref11_Parse.u ref11_Parse.w
  rw [split11_u (by omega), words_u (by omega), Option.bind_some, Option.bind_some, decide_eq_true (show (((List.length ((pieces s.data.toList).map bs) : Nat) : Int) ≤ 4611686018427387904) by rw [List.length_map]; omega), cond_true, filt _ _ _ _ _ (by simp; omega), List.nil_append]
  have hr : ∀ w ∈ (wordsL s.data.toList).map bs, w.size ≤ 1000000 := fun w hw => by
    obtain ⟨p, hp, rfl⟩ := List.mem_map.1 hw
    have := hp2 p (List.mem_filter.1 hp |>.1)
    rw [bs_size]; omega
  have hl : ((wordsL s.data.toList).map bs).length ≤ 1000000 := by
    rw [List.length_map]
    have := List.length_filter_le (fun p => !(p == [])) (pieces s.data.toList)
    unfold wordsL; omega
  show ∃ r, asm_Parse.g1 _ _ some [] ((wordsL s.data.toList).map bs) = some r ∧ _
  obtain ⟨W, hW⟩ : ∃ W, (wordsL s.data.toList).map bs = W := ⟨_, rfl⟩
  rw [hW] at hr hl ⊢
  rw [asm_Parse.g1]
  cases W with
  | nil => exact ⟨_, rfl, rfl⟩
  | cons w r =>
    have g0 : List.getD (w :: r) 0 (bs []) = w := rfl
    rw [len_ne, cond_false, cond_false, idx_0, cond_true, cond_true, subc_tail, cond_true, g0, find_u, rfind_u, Option.bind_some, Option.bind_some]
    cases hk : (findK w.data.toList kindsT 0).2 with
    | false => exact ⟨_, rfl, rfl⟩
    | true =>
      obtain ⟨hf, _⟩ := find_fine hk
      simp only [Bool.not_true, cond_false, form_u, of_u, hf, cond_true, Option.bind_some]
      have hb : decide (((List.length (bytesI (lineOf (findK w.data.toList kindsT 0).1).2.1) : Nat) : Int) ≤ 4611686018427387904) = true := by rw [form_list hf]; show decide (((3 : Nat) : Int) ≤ 4611686018427387904) = true; decide
      rw [hb, cond_true]
      have tk : (List.drop (subLo (some (1))) (w :: r)).take (subHi none (List.length (w :: r)) - subLo (some (1))) = r := by
        show r.take ((r.length + 1) - 1) = r
        rw [Nat.add_sub_cancel, List.take_length]
      rw [tk]
      exact loops_same hr hl hf _ _ _ 3 0 1 _ rfl (by simp) (iw0 _)
end Go.Proofs.YtmmooplcdkmapaaGreatDoor.K

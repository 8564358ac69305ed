/- Programs, plainly: a program comes back from its bytes; who goes on comes to what is reached. -/
import Derived.Test.YthamolhikhcilaaDoorL12d
set_option maxRecDepth 100000
set_option linter.unusedVariables false
set_option linter.unusedSimpArgs false
namespace Go.Proofs.YthamolhikhcilaaDoor.K
open Go

section
variable {l : List In} (hl : FinePr l)

theorem four_len : ∀ l : List In, (l.flatMap four).length = 4 * l.length
  | [] => rfl
  | x :: l => by rw [List.flatMap_cons, List.length_append, four_len l]; simp [four]; omega

include hl in
theorem read_at (L R : ByteArray) {i : Nat} (hi : i < l.length) : readF ((L ++ bytesF l) ++ R) ((L.size : Int) + 1 + (i : Int) * 4) = (l.getD i noIn, 0) := by
  have hx := hl.pr.at i
  have e1 : l = l.take i ++ (l.getD i noIn :: l.drop (i + 1)) := by
    rw [List.getD_eq_getElem?_getD, List.getElem?_eq_getElem hi, Option.getD_some, ← List.drop_eq_getElem_cons hi, List.take_append_drop]
  have e2 : bytesF l = (ofBytes ((l.length : Int) :: (l.take i).flatMap four) ++ instr_Bytes.t (l.getD i noIn)) ++ ofBytes ((l.drop (i + 1)).flatMap four) := by
    unfold bytesF
    rw [show instr_Bytes.t (l.getD i noIn) = ofBytes (four (l.getD i noIn)) from rfl, ← ofBytes_app, ← ofBytes_app]
    congr 1
    have := congrArg (fun q => List.flatMap four q) e1
    simp only [List.flatMap_append, List.flatMap_cons] at this
    rw [List.cons_append, List.cons_append, this, List.append_assoc]
  have e3 : (L ++ bytesF l) ++ R = ((L ++ ofBytes ((l.length : Int) :: (l.take i).flatMap four)) ++ instr_Bytes.t (l.getD i noIn)) ++ (ofBytes ((l.drop (i + 1)).flatMap four) ++ R) := by
    rw [e2]
    simp only [ByteArray.append_assoc]
  have e4 : (L ++ ofBytes ((l.length : Int) :: (l.take i).flatMap four)).size = L.size + 1 + i * 4 := by
    rw [ByteArray.size_append, ofBytes_size, List.length_cons, four_len, List.length_take]
    omega
  have h1 := rdIn_mid hx (L ++ ofBytes ((l.length : Int) :: (l.take i).flatMap four)) (ofBytes ((l.drop (i + 1)).flatMap four) ++ R)
  rw [← e3, e4] at h1
  have hsz : ((L ++ bytesF l) ++ R).size = L.size + (1 + 4 * l.length) + R.size := by
    rw [ByteArray.size_append, ByteArray.size_append]
    unfold bytesF
    rw [ofBytes_size, List.length_cons, four_len]
    omega
  unfold readF
  rw [if_neg (by omega), if_neg (by rw [hsz]; omega), if_neg (by rw [hsz]; omega), show ((L.size : Int) + 1 + (i : Int) * 4).toNat = L.size + 1 + i * 4 by omega, h1, (hl.parts hi).1]
  rfl

include hl in
theorem refread_go (L R : ByteArray) (hs : ((L ++ bytesF l) ++ R).size ≤ 1000000) : ∀ (d i : Nat), i + d = l.length → ref12_Read.g0 ((L ++ bytesF l) ++ R) (L.size : Int) (l.length : Int) some d (i : Int) (l.take i) = some (l, (L.size : Int) + 1 + 4 * (l.length : Int), 0)
  | 0, i, h => by
    have hlen := hl.len
    have hLs : L.size ≤ 1000000 := by rw [ByteArray.size_append, ByteArray.size_append] at hs; omega
    obtain ⟨v, v1, v2⟩ := check_law hl.pr
    have hk := hl.ok
    unfold okPr at hk
    rw [v1] at hk
    have hv : (v.2 != 0) = false := by simpa [bne] using hk
    have w1 : IntKind.wrap .i64 ((L.size : Int) + 1) = (L.size : Int) + 1 := wrapN ⟨by omega, by omega⟩
    have w2 : IntKind.wrap .i64 (4 * (l.length : Int)) = 4 * (l.length : Int) := wrapN ⟨by omega, by omega⟩
    have w3 : IntKind.wrap .i64 ((L.size : Int) + 1 + 4 * (l.length : Int)) = (L.size : Int) + 1 + 4 * (l.length : Int) := wrapN ⟨by omega, by omega⟩
    rw [List.take_of_length_le (by omega)]
    unfold ref12_Read.g0
    rw [v2, Option.bind_some, hv, cond_false, w1, w2, w3]
  | d + 1, i, h => by
    have hlen := hl.len
    have hLs : L.size ≤ 1000000 := by rw [ByteArray.size_append, ByteArray.size_append] at hs; omega
    have hi : i < l.length := by omega
    have w1 : IntKind.wrap .i64 ((L.size : Int) + 1) = (L.size : Int) + 1 := wrapN ⟨by omega, by omega⟩
    have w2 : IntKind.wrap .i64 (4 * (i : Int)) = (i : Int) * 4 := by rw [Int.mul_comm]; exact wrapN ⟨by omega, by omega⟩
    have w3 : IntKind.wrap .i64 ((L.size : Int) + 1 + (i : Int) * 4) = (L.size : Int) + 1 + (i : Int) * 4 := wrapN ⟨by omega, by omega⟩
    unfold ref12_Read.g0
    rw [w1, w2, w3, refread_u hs, read_at hl L R hi, Option.bind_some]
    simp only [bne_self_eq_false, cond_false]
    rw [decide_eq_true (show List.length (l.take i) + List.length [l.getD i noIn] ≤ rowMax by simp [rowMax]; omega), cond_true]
    have e1 : l.take i ++ [l.getD i noIn] = l.take (i + 1) := by
      rw [List.take_add_one, List.getD_eq_getElem?_getD, List.getElem?_eq_getElem hi]; rfl
    rw [e1]
    exact refread_go L R hs d (i + 1) (by omega)

include hl in
theorem read_back (L R : ByteArray) (hs : ((L ++ bytesF l) ++ R).size ≤ 1000000) : prog_Read.u ((L ++ bytesF l) ++ R) (L.size : Int) = some (l, (L.size : Int) + 1 + 4 * (l.length : Int), 0) := by
  obtain ⟨v, v1, v2, v3⟩ := readP_u hs (L.size : Int)
  rw [v1, ← v2]
  have hlen := hl.len
  have hpos := hl.pos
  have hsz : ((L ++ bytesF l) ++ R).size = L.size + (1 + 4 * l.length) + R.size := by
    rw [ByteArray.size_append, ByteArray.size_append]
    unfold bytesF
    rw [ofBytes_size, List.length_cons, four_len]
    omega
  have hb : bAt ((L ++ bytesF l) ++ R) L.size = (l.length : Int) := by
    unfold bAt
    have e : ((L ++ bytesF l) ++ R).data.toList = L.data.toList ++ (UInt8.ofNat l.length :: ((ofBytes (l.flatMap four)).data.toList ++ R.data.toList)) := by
      have : bytesF l = ofBytes [(l.length : Int)] ++ ofBytes (l.flatMap four) := by
        unfold bytesF; rw [← ofBytes_app]; rfl
      rw [this]
      simp only [ByteArray.data_append, Array.toList_append, List.append_assoc]
      rfl
    have e0 : L.data.toList.length = L.size := Array.length_toList
    rw [e, List.getD_eq_getElem?_getD, List.getElem?_append_right (Nat.le_of_eq e0), e0, Nat.sub_self]
    show ((UInt8.ofNat l.length).toNat : Int) = _
    rw [UInt8.toNat_ofNat']
    omega
  unfold ref12_Read.u ref12_Read.w
  rw [decide_eq_false (show ¬ ((L.size : Int) < 0) by omega), cond_false, decide_eq_false (show ¬ ((L.size : Int) > (((L ++ bytesF l) ++ R).size : Int)) by rw [hsz]; omega), cond_false,
    show ((L.size : Int) == (((L ++ bytesF l) ++ R).size : Int)) = false by rw [hsz]; simp; omega, cond_false, idxOK_of (by omega) (by rw [hsz]; omega), cond_true, Int.toNat_natCast, hb]
  rw [wrapN (x := (l.length : Int)) ⟨by omega, by omega⟩, show ((l.length : Int) == 0) = false from beq_eq_false_iff_ne.2 (by omega), cond_false, decide_eq_false (show ¬ ((l.length : Int) > 64) by omega), cond_false, decide_eq_true (show ((l.length : Nat) : Int) ≤ 4611686018427387904 by omega), cond_true, Int.sub_zero, Int.toNat_natCast]
  exact refread_go hl L R hs l.length 0 (by omega)

variable {ws : List Bool} (hg : Good l ws)
include hl hg in
theorem good_noG {i : Nat} (hi : on ws i = true) : isG (l.getD i noIn) = false := by
  refine hg.least (fun v => isG (l.getD v noIn) = false) hl.first ?_ i hi
  intro v hv hp t ht
  have := (hl.next hv ht.1).2.2 hp (by have := ht.2; omega)
  rwa [Int.toNat_natCast] at this
include hl hg in
theorem back_g0 (N : Int) (e : List Int) (r : Int → Option Bool) {i : Nat} (hi : i < l.length) : ∀ ts : List Int, (∀ t ∈ ts, t ∈ nextF l i) → law12_ProgBack.g0 l ws (i : Int) (on ws i) N e r some ts = r ((i : Int) + 1)
  | [], ht => by
    unfold law12_ProgBack.g0
    rw [idxOK_nat hi, Int.toNat_natCast, check_u (hl.pr.at i), (hl.parts hi).1]
    cases on ws i <;> rfl
  | t :: ts, ht => by
    have ih := back_g0 N e r hi ts (fun t h => ht t (List.mem_cons_of_mem _ h))
    have hm := ht t (by simp)
    obtain ⟨h0, h1, _⟩ := hl.next hi hm
    unfold law12_ProgBack.g0
    rw [decide_eq_false (show ¬ (t < 0) by omega), cond_false, decide_eq_false (show ¬ (t > ((List.length l : Nat) : Int)) by omega), cond_false, ih]
    cases hw : on ws i with
    | false => rfl
    | true =>
      by_cases hlt : t < ((List.length l : Nat) : Int)
      · obtain ⟨n, rfl⟩ := Int.eq_ofNat_of_zero_le h0
        have hon := hg.closed i hi hw n ⟨hm, by omega⟩
        have hop := isG_op (hl.pr.at n)
        rw [good_noG hl hg hon] at hop
        rw [decide_eq_true hlt, idxOK_of h0 (by have := hg.len; omega), idxOK_of h0 hlt, Int.toNat_natCast, show ws.getD n false = true from hon]
        simp only [cond_true, Bool.not_true, cond_false]
        by_cases h42 : (l.getD n noIn).1 ≥ 42
        · rw [decide_eq_true h42] at hop ⊢
          rw [show decide ((l.getD n noIn).1 ≤ 45) = false by simpa using hop.symm]
          rfl
        · rw [decide_eq_false h42]
          rfl
      · rw [decide_eq_false hlt]; rfl
include hl hg in
theorem back_g1 : ∀ (xs : List Bool) (i : Nat), ws.drop i = xs → law12_ProgBack.g1 l ws some xs (i : Int) = some true
  | [], i, hd => by unfold law12_ProgBack.g1; rw [alive12]; rfl
  | b :: xs, i, hd => by
    have hi : i < ws.length := by
      rcases Nat.lt_or_ge i ws.length with h' | h'
      · exact h'
      · rw [List.drop_eq_nil_of_le h'] at hd; cases hd
    have hd2 := List.drop_eq_getElem_cons hi
    rw [hd] at hd2
    have hb : b = on ws i := by
      injection hd2 with e _
      rw [e, on, List.getD_eq_getElem?_getD, List.getElem?_eq_getElem hi]; rfl
    have hx : ws.drop (i + 1) = xs := by injection hd2 with _ e; exact e.symm
    have hil : i < l.length := by rw [← hg.len]; exact hi
    have hlen := hl.len
    have hn := (Next_u hl.pr (by omega) (i : Int)).1
    have hN : NextF l (i : Int) = nextF l i := by
      unfold NextF
      rw [if_pos ⟨by omega, by omega, hl.ok⟩, Int.toNat_natCast]
    have hnl := next_len l i
    unfold law12_ProgBack.g1
    rw [hn, Option.bind_some, hN, decide_eq_true (by omega), cond_true, hb, back_g0 hl hg _ _ _ hil _ (fun t h => h)]
    exact back_g1 xs (i + 1) hx
end

theorem law_ProgBack {l : List In} (h : PrOK l) {L R : ByteArray} (hL : L.size ≤ reachBytes) (hR : R.size ≤ reachBytes) : law12_ProgBack.u l L R = some true := by
  have hrb : reachBytes = 140737488351232 := by rfl
  unfold law12_ProgBack.u law12_ProgBack.w
  by_cases h70 : ((l.length : Nat) : Int) > 70
  · simp only [h70, decide_true, cond_true, alive12, Option.bind_some]
  rw [decide_eq_false h70, cond_false, wrapN (x := (L.size : Int) + (R.size : Int)) ⟨by omega, by omega⟩]
  by_cases h200 : ((L.size : Int) + (R.size : Int)) > 200
  · simp only [h200, decide_true, cond_true, alive12, Option.bind_some]
  rw [decide_eq_false h200, cond_false]
  obtain ⟨v, v1, v2⟩ := check_law h
  have hok : okPr l = (v.2 == 0) := by unfold okPr; rw [v1]
  obtain ⟨b1, _⟩ := bytes_u h (by omega)
  rw [v1, Option.bind_some]
  cases hk : okPr l with
  | false =>
    obtain ⟨r, r1, _, _, r4⟩ := alts_u h (by omega)
    have : r = [] := r4 hk
    subst this
    rw [show (v.2 != 0) = true by rw [hk] at hok; simp [bne, ← hok], cond_true, b1, hk, cond_false, Option.bind_some, beq_self_eq_true, cond_true, reach_none h hk, r1]
    simp only [Option.bind_some, alive12]
    rfl
  | true =>
    have hf := finePr_of h hk
    obtain ⟨ws, e1, g1⟩ := reach_good hf
    have hlen := hf.len
    have hbs : (bytesF l).size = 1 + 4 * l.length := by unfold bytesF; rw [ofBytes_size, List.length_cons, four_len]; omega
    have hsz : (L ++ bytesF l).size = L.size + (1 + 4 * l.length) := by rw [ByteArray.size_append, hbs]
    have hsz2 : ((L ++ bytesF l) ++ R).size = L.size + (1 + 4 * l.length) + R.size := by rw [ByteArray.size_append, hsz]
    have w1 : IntKind.wrap .i64 ((L.size : Int) + 1) = (L.size : Int) + 1 := wrapN ⟨by omega, by omega⟩
    have w2 : IntKind.wrap .i64 (4 * ((List.length l : Nat) : Int)) = 4 * (l.length : Int) := wrapN ⟨by omega, by omega⟩
    have w3 : IntKind.wrap .i64 ((L.size : Int) + 1 + 4 * (l.length : Int)) = (L.size : Int) + 1 + 4 * (l.length : Int) := wrapN ⟨by omega, by omega⟩
    rw [show (v.2 != 0) = false by rw [hk] at hok; simp [bne, ← hok], cond_false, b1, hk, cond_true, Option.bind_some, decide_eq_true (show L.size + (bytesF l).size ≤ catMax by rw [hbs]; unfold catMax; omega), cond_true,
      decide_eq_true (show (L ++ bytesF l).size + R.size ≤ catMax by rw [hsz]; unfold catMax; omega), cond_true, read_back hf L R (by rw [hsz2]; omega), Option.bind_some, e1, Option.bind_some]
    simp only [bne_self_eq_false, cond_false, sameIn_u (show l.length ≤ 1000000 by omega), Option.bind_some, Bool.not_true, w1, w2, w3, g1.len]
    rw [idxOK_of (Int.le_refl 0) (by have := hf.pos; omega), cond_true, show ws.getD 0 false = true from g1.zero, Bool.not_true, cond_false, decide_eq_true (by omega), cond_true]
    exact back_g1 hf g1 ws 0 rfl
theorem row_ProgBack (xs : Args [.slice tyIn, .str, .str]) (h : fitsA _ xs) : law12_ProgBack.u xs.1 xs.2.1 xs.2.2.1 = some true := law_ProgBack (prOK_of h.1) h.2.1 h.2.2.1
end Go.Proofs.YthamolhikhcilaaDoor.K

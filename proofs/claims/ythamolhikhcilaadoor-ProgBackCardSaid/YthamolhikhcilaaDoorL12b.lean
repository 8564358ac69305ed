/- Programs, plainly: their alts, their bytes, and reading them. -/
import Derived.Test.YthamolhikhcilaaDoorZ12r
import Derived.Test.YthamolhikhcilaaDoorL12a
import Derived.Test.YthamolhikhcilaaDoorL10c
set_option maxRecDepth 100000
set_option linter.unusedVariables false
set_option linter.unusedSimpArgs false
namespace Go.Proofs.YthamolhikhcilaaDoor.K
open Go

theorem alive12 : law12_alive.u = some true := by kernel_rfl

theorem fine_u {l : List In} (h : PrOK l) : prog_fine.u l = some (okPr l) := by
  obtain ⟨v, v1, v2⟩ := check_law h
  unfold prog_fine.u prog_fine.s okPr
  rw [v1]; rfl

theorem sameIn_go (ys : List In) : ∀ (xs : List In) (n : Nat), ys.drop n = xs → ref11_Same.g0 ys ys some xs (n : Int) = some true
  | [], n, h => rfl
  | x :: xs, n, h => by
    have hn : n < ys.length := by
      rcases Nat.lt_or_ge n ys.length with h' | h'
      · exact h'
      · rw [List.drop_eq_nil_of_le h'] at h; cases h
    have h1 := List.drop_eq_getElem_cons hn
    rw [h] at h1
    cases h1
    have hx : List.getD ys (Int.toNat (n : Int)) noIn = ys[n] := by
      rw [Int.toNat_natCast, List.getD_eq_getElem?_getD, List.getElem?_eq_getElem hn]; rfl
    simp only [ref11_Same.g0, idxOK_nat hn, cond_true, hx, eqIn, Bool.not_true, cond_false]
    exact sameIn_go ys _ (n + 1) rfl
theorem sameIn_u {l : List In} (h : l.length ≤ 1000000) : ref11_Same.u l l = some true := by
  unfold ref11_Same.u ref11_Same.w
  rw [bne_self_eq_false, cond_false, decide_eq_true (by omega), cond_true]
  exact sameIn_go l l 0 rfl

/-! ### Alts -/
theorem alts_go (e : List In) : ∀ (xs : List In) (i : Int) (a : List (Int × Int × Unit)), a.length + xs.length ≤ 1000000 → ∃ r : List (Int × Int × Unit), prog_Alts.g0 e some xs i a = some r ∧ ref12_Alts.g0 e some xs i a = some r ∧ r.length ≤ a.length + xs.length
  | [], i, a, h => ⟨a, rfl, rfl, Nat.le_refl _⟩
  | x :: xs, i, a, h => by
    simp only [List.length_cons] at h
    cases hx : (x.1 == 41) with
    | true =>
      obtain ⟨r, r1, r2, r3⟩ := alts_go e xs (i + 1) (a ++ [(i, ((IntKind.wrap .i64 x.2.2.2.1), ()))]) (by simp; omega)
      have hd : decide (List.length a + List.length [(i, ((IntKind.wrap .i64 x.2.2.2.1), ()))] ≤ rowMax) = true := decide_eq_true (by simp [rowMax]; omega)
      refine ⟨r, ?_, ?_, by simp at r3 ⊢; omega⟩
      · simp only [prog_Alts.g0, hx, cond_true, hd]; exact r1
      · simp only [ref12_Alts.g0, ref12_Alting.t, hx, cond_true, hd]; exact r2
    | false =>
      obtain ⟨r, r1, r2, r3⟩ := alts_go e xs (i + 1) a (by omega)
      refine ⟨r, ?_, ?_, by simp; omega⟩
      · simp only [prog_Alts.g0, hx, cond_false]; exact r1
      · simp only [ref12_Alts.g0, ref12_Alting.t, hx, cond_false]; exact r2
theorem alts_u {l : List In} (h : PrOK l) (hl : l.length ≤ 70) : ∃ r, prog_Alts.u l = some r ∧ ref12_Alts.u l = some r ∧ r.length ≤ 70 ∧ (okPr l = false → r = []) := by
  unfold prog_Alts.u prog_Alts.w ref12_Alts.u ref12_Alts.w
  rw [fine_u h, reffine_u h]
  simp only [Option.bind_some]
  cases okPr l with
  | false => exact ⟨[], rfl, rfl, by simp, fun _ => rfl⟩
  | true =>
    obtain ⟨r, r1, r2, r3⟩ := alts_go l l 0 [] (by simp; omega)
    refine ⟨r, ?_, ?_, by simp at r3; omega, by simp⟩
    · simp only [Bool.not_true, cond_false, dec_len hl (by decide), cond_true]; exact r1
    · simp only [Bool.not_true, cond_false, dec_len hl (by decide), cond_true]; exact r2

theorem eqAlt (x : Int × Int × Unit) : eqI (.pair (.int .i64) (.pair (.int .i64) .unit)) x x = true := eqI_self (.pair (.int .i64) (.pair (.int .i64) .unit)) x rfl
theorem tells_go (ys : List (Int × Int × Unit)) : ∀ (xs : List (Int × Int × Unit)) (n : Nat), ys.drop n = xs → law12_ProgTells.g0 ys ys some xs (n : Int) = some true
  | [], n, h => by simp only [law12_ProgTells.g0, alive12, Option.bind_some]
  | x :: xs, n, h => by
    have hn : n < ys.length := by
      rcases Nat.lt_or_ge n ys.length with h' | h'
      · exact h'
      · rw [List.drop_eq_nil_of_le h'] at h; cases h
    have h1 := List.drop_eq_getElem_cons hn
    rw [h] at h1
    cases h1
    have hx : List.getD ys (Int.toNat (n : Int)) (0, (0, ())) = ys[n] := by
      rw [Int.toNat_natCast, List.getD_eq_getElem?_getD, List.getElem?_eq_getElem hn]; rfl
    have he : eqI (.pair (.int .i64) (.pair (.int .i64) .unit)) ys[n] ys[n] = true := eqAlt _
    simp only [law12_ProgTells.g0, idxOK_nat hn, cond_true, hx]
    rw [show (!(eqI (.pair (.int .i64) (.pair (.int .i64) .unit)) ys[n] ys[n])) = false by rw [he]; rfl, cond_false]
    exact tells_go ys _ (n + 1) rfl

/-! ### Bytes -/
theorem ofBytes_app (xs ys : List Int) : ofBytes (xs ++ ys) = ofBytes xs ++ ofBytes ys := by
  unfold ofBytes
  rw [List.foldl_append]
  generalize xs.foldl (fun r n => r.push (UInt8.ofNat n.toNat)) ByteArray.empty = b
  have key : ∀ (ys : List Int) (b : ByteArray), (ys.foldl (fun r n => r.push (UInt8.ofNat n.toNat)) b).data.toList = b.data.toList ++ ys.map (fun n => UInt8.ofNat n.toNat) := by
    intro ys
    induction ys with
    | nil => intro b; simp
    | cons y ys ih => intro b; rw [List.foldl_cons, ih]; simp [ByteArray.push]
  apply ByteArray.ext
  apply Array.ext'
  rw [key, ByteArray.data_append, Array.toList_append, key]
  rfl
theorem ofBytes_size (xs : List Int) : (ofBytes xs).size = xs.length := by
  induction xs with
  | nil => rfl
  | cons x xs ih =>
    rw [show x :: xs = [x] ++ xs from rfl, ofBytes_app, ByteArray.size_append, ih]
    simp [ofBytes, ByteArray.size_push]
    omega
def four (x : In) : List Int := [x.1, x.2.1, x.2.2.1, x.2.2.2.1]
/-- A program's bytes. -/
def bytesF (l : List In) : ByteArray := ofBytes ((l.length : Int) :: l.flatMap four)
theorem bytes_go (e : List In) : ∀ (xs : List In) (a : List Int), a.length + 4 * xs.length ≤ 1000000 → prog_Bytes.g0 e some xs (ofBytes a) = some (ofBytes (a ++ xs.flatMap four)) ∧ ref12_Bytes.g0 e some xs a = some (ofBytes (a ++ xs.flatMap four))
  | [], a, h => by simp only [prog_Bytes.g0, ref12_Bytes.g0, List.flatMap_nil, List.append_nil, and_self]
  | x :: xs, a, h => by
    simp only [List.length_cons] at h
    obtain ⟨h1, h2⟩ := bytes_go e xs (a ++ four x) (by simp [four]; omega)
    have hb : instr_Bytes.t x = ofBytes (four x) := rfl
    have d1 : decide (ByteArray.size (ofBytes a) + ByteArray.size (ofBytes (four x)) ≤ rowMax) = true := decide_eq_true (by rw [ofBytes_size, ofBytes_size]; simp [four, rowMax]; omega)
    have d2 : decide (List.length a + List.length [x.1, x.2.1, x.2.2.1, x.2.2.2.1] ≤ rowMax) = true := decide_eq_true (by simp [rowMax]; omega)
    refine ⟨?_, ?_⟩
    · simp only [prog_Bytes.g0, hb, d1, cond_true, ← ofBytes_app, h1, List.flatMap_cons, List.append_assoc]
    · simp only [ref12_Bytes.g0, d2, cond_true, List.flatMap_cons]
      rw [← List.append_assoc]
      exact h2
theorem bytes_u {l : List In} (h : PrOK l) (hl : l.length ≤ 70) : prog_Bytes.u l = some (bif okPr l then bytesF l else bs []) ∧ ref12_Bytes.u l = some (bif okPr l then bytesF l else bs []) := by
  unfold prog_Bytes.u prog_Bytes.w ref12_Bytes.u ref12_Bytes.w
  rw [fine_u h, reffine_u h]
  simp only [Option.bind_some]
  cases okPr l with
  | false => exact ⟨rfl, rfl⟩
  | true =>
    have hw : IntKind.wrap .u8 ((l.length : Nat) : Int) = (l.length : Int) := by
      unfold IntKind.wrap
      have : (l.length : Int).emod 256 = l.length := Int.emod_eq_of_lt (by omega) (by omega)
      simp [IntKind.bits, IntKind.signed]
      omega
    obtain ⟨h1, h2⟩ := bytes_go l l [(l.length : Int)] (by simp; omega)
    have d1 : (decide ((0 : Int) ≤ (l.length : Int)) && decide (((l.length : Nat) : Int) < 256) && decide (ByteArray.size (bs []) ≤ rowMax)) = true := by
      rw [decide_eq_true (show (0 : Int) ≤ (l.length : Int) by omega), decide_eq_true (show ((l.length : Nat) : Int) < 256 by omega)]; rfl
    refine ⟨?_, ?_⟩
    · simp only [Bool.not_true, cond_false, hw, d1, cond_true, dec_len hl (by decide)]
      exact h1
    · simp only [Bool.not_true, cond_false, hw, cond_true, dec_len hl (by decide)]
      exact h2

theorem law_ProgTells {l : List In} (h : PrOK l) : law12_ProgTells.u l = some true := by
  unfold law12_ProgTells.u law12_ProgTells.w
  by_cases hl : ((l.length : Nat) : Int) > 70
  · simp only [hl, decide_true, cond_true, alive12, Option.bind_some]
  · obtain ⟨v, v1, v2⟩ := check_law h
    obtain ⟨r, r1, r2, r3, _⟩ := alts_u h (by omega)
    obtain ⟨b1, b2⟩ := bytes_u h (by omega)
    simp only [hl, decide_false, cond_false, v1, v2, r1, r2, b1, b2, Option.bind_some, bne_self_eq_false, beq_self_eq_true, Bool.not_true, dec_len r3 (by decide), cond_true]
    exact tells_go r r 0 rfl

/-! ### Reading -/
theorem readF_ok (s : ByteArray) (i : Int) : InOK (readF s i).1 := by
  unfold readF
  split
  · exact noIn_ok
  split
  · exact noIn_ok
  split
  · exact noIn_ok
  cases chk (rdIn s i.toNat) != 0
  · exact rdIn_ok _ _
  · exact noIn_ok
theorem read_go {s : ByteArray} (hs : s.size ≤ 1000000) {at_ : Int} (h0 : 0 ≤ at_) (h1 : at_ < s.size) {many : Nat} (hm : many ≤ 64) : ∀ (d : Nat) (l : List In) (fuel : Nat), PrOK l → l.length + d = many → d + 2 ≤ fuel →
    ∃ v, iter (prog_Read.gb0 s at_ (many : Int) some) fuel (0, l) = some v ∧ ref12_Read.g0 s at_ (many : Int) some d (l.length : Int) l = some v ∧ v.1.length ≤ 64
  | 0, l, fuel + 2, hp, hl, hf => by
    obtain ⟨v, v1, v2⟩ := check_law hp
    have e1 : (((List.length l : Nat) : Int) == (many : Int)) = true := by simp; omega
    have w1 : IntKind.wrap .i64 (at_ + 1) = at_ + 1 := wrapN ⟨by omega, by omega⟩
    have w2 : IntKind.wrap .i64 ((many : Int) * 4) = (many : Int) * 4 := wrapN ⟨by omega, by omega⟩
    have w3 : IntKind.wrap .i64 (4 * (many : Int)) = (many : Int) * 4 := by rw [Int.mul_comm]; exact w2
    show ∃ w, prog_Read.gb0 s at_ (many : Int) some (iter (prog_Read.gb0 s at_ (many : Int) some) (fuel + 1)) (0, l) = some w ∧ _
    unfold prog_Read.gb0 ref12_Read.g0
    simp only [beq_self_eq_true, cond_true, e1, v1, v2, Option.bind_some, w1, w2, w3]
    cases v.2 != 0 with
    | true => exact ⟨_, rfl, rfl, by simp⟩
    | false => exact ⟨_, rfl, rfl, by simp; omega⟩
  | d + 1, l, fuel + 2, hp, hl, hf => by
    have e1 : (((List.length l : Nat) : Int) == (many : Int)) = false := by simp; omega
    have w1 : IntKind.wrap .i64 (at_ + 1) = at_ + 1 := wrapN ⟨by omega, by omega⟩
    have w2 : IntKind.wrap .i64 (((List.length l : Nat) : Int) * 4) = (l.length : Int) * 4 := wrapN ⟨by omega, by omega⟩
    have w3 : IntKind.wrap .i64 (4 * ((List.length l : Nat) : Int)) = (l.length : Int) * 4 := by rw [Int.mul_comm]; exact w2
    have w4 : IntKind.wrap .i64 (at_ + 1 + (l.length : Int) * 4) = at_ + 1 + (l.length : Int) * 4 := wrapN ⟨by omega, by omega⟩
    have d1 : ∀ y : In, decide (List.length l + List.length [y] ≤ rowMax) = true := fun y => decide_eq_true (by simp [rowMax]; omega)
    obtain ⟨R, hR⟩ : ∃ R, readF s (at_ + 1 + (l.length : Int) * 4) = R := ⟨_, rfl⟩
    have hok := readF_ok s (at_ + 1 + (l.length : Int) * 4)
    rw [hR] at hok
    show ∃ w, prog_Read.gb0 s at_ (many : Int) some (iter (prog_Read.gb0 s at_ (many : Int) some) (fuel + 1)) (0, l) = some w ∧ _
    rw [prog_Read.gb0, ref12_Read.g0]
    simp only [beq_self_eq_true, cond_true, e1, cond_false, w1, w2, w3, w4, read_u hs, refread_u hs, hR, Option.bind_some, d1]
    cases he : (R.2 != 0) with
    | true =>
      refine ⟨([], 0, R.2), ?_, rfl, by simp⟩
      show prog_Read.gb0 s at_ (many : Int) some (iter (prog_Read.gb0 s at_ (many : Int) some) fuel) (R.2, l ++ [R.1]) = _
      have he2 : (R.2 == 0) = false := by simpa [bne] using he
      unfold prog_Read.gb0
      simp only [he, he2, cond_true, cond_false]
    | false =>
      have he2 : R.2 = 0 := by simpa [bne] using he
      obtain ⟨v, a1, a2, a3⟩ := read_go hs h0 h1 hm d (l ++ [R.1]) (fuel + 1) (by
        intro x hx
        rcases List.mem_append.1 hx with hx | hx
        · exact hp x hx
        · simp at hx; subst hx; exact hok) (by simp; omega) (by omega)
      refine ⟨v, by rw [he2]; exact a1, ?_, a3⟩
      have e2 : ((l ++ [R.1]).length : Int) = (l.length : Int) + 1 := by simp
      rw [← e2]
      exact a2
theorem big2 (d : Nat) (h : d ≤ 64) : d + 2 ≤ BIG := by unfold BIG; omega
theorem readP_u {s : ByteArray} (hs : s.size ≤ 1000000) (at_ : Int) : ∃ v, prog_Read.u s at_ = some v ∧ ref12_Read.u s at_ = some v ∧ v.1.length ≤ 64 := by
  obtain ⟨F, hF, hF1, hG⟩ : ∃ F : Nat, 66 ≤ F ∧ F = BIG ∧ ∀ (m : Int) (e : Int × List In), prog_Read.g0 s at_ m some e = iter (prog_Read.gb0 s at_ m some) F e := ⟨BIG, big2 64 (Nat.le_refl _), rfl, fun _ _ => rfl⟩
  clear hF1
  have fail : ∀ e : Int, (e != 0) = true → prog_Read.g0 s at_ 0 some (e, []) = some ([], 0, e) := by
    intro e he
    have he2 : (e == 0) = false := by simpa [bne] using he
    obtain ⟨n, rfl⟩ : ∃ n, F = n + 1 := ⟨F - 1, (Nat.sub_add_cancel (by omega)).symm⟩
    rw [hG, iter]
    unfold prog_Read.gb0
    simp only [he, he2, cond_true, cond_false]
  unfold prog_Read.u prog_Read.w prog_count.u prog_count.s ref12_Read.u ref12_Read.w
  by_cases h0 : at_ < 0
  · simp only [h0, decide_true, cond_true, Option.bind_some]
    exact ⟨_, fail 8 rfl, rfl, by simp⟩
  by_cases h1 : at_ > (s.size : Int)
  · simp only [h0, h1, decide_true, decide_false, cond_true, cond_false, Option.bind_some]
    exact ⟨_, fail 8 rfl, rfl, by simp⟩
  by_cases h2 : at_ = (s.size : Int)
  · have e2 : (at_ == (s.size : Int)) = true := by simp [h2]
    simp only [h0, h1, e2, decide_false, cond_true, cond_false, Option.bind_some]
    exact ⟨_, fail 4 rfl, rfl, by simp⟩
  have e2 : (at_ == (s.size : Int)) = false := by simp [h2]
  have hi : idxOK at_ s.size = true := idxOK_of (by omega) (by omega)
  have hb := bAt_u8 s at_.toNat
  obtain ⟨B, hB⟩ : ∃ B, bAt s at_.toNat = B := ⟨_, rfl⟩
  rw [hB] at hb
  have hw : IntKind.wrap .i64 B = B := wrapN ⟨by omega, by omega⟩
  simp only [h0, h1, e2, hi, hB, hw, decide_false, cond_true, cond_false]
  by_cases h3 : B = 0
  · have e3 : (B == 0) = true := by simp [h3]
    simp only [e3, cond_true, Option.bind_some]
    exact ⟨_, fail 11 rfl, rfl, by simp⟩
  have e3 : (B == 0) = false := by simp [h3]
  by_cases h4 : B > 64
  · simp only [e3, h4, decide_true, cond_true, cond_false, Option.bind_some]
    exact ⟨_, fail 5 rfl, rfl, by simp⟩
  obtain ⟨m, hm⟩ := Int.eq_ofNat_of_zero_le hb.1
  subst hm
  simp only [e3, h4, decide_false, cond_false, Option.bind_some, decide_eq_true (show ((m : Nat) : Int) ≤ 4611686018427387904 by omega), cond_true, Int.sub_zero, Int.toNat_natCast, hG]
  exact read_go hs (by omega) (by omega) (many := m) (by omega) m [] F (by intro x hx; simp at hx) (by simp) (by omega)

theorem law_ProgReads (s : ByteArray) (at_ : Int) : law12_ProgReads.u s at_ = some true := by
  unfold law12_ProgReads.u law12_ProgReads.s
  by_cases h : (s.size : Int) > 400
  · simp only [h, decide_true, cond_true, alive12, Option.bind_some]
  · obtain ⟨v, v1, v2, v3⟩ := readP_u (show s.size ≤ 1000000 by omega) at_
    simp only [h, decide_false, cond_false, v1, v2, sameIn_u (show v.1.length ≤ 1000000 by omega), Option.bind_some, beq_self_eq_true, cond_true, alive12]

theorem prOK_of {l : List In} (h : fits (.slice tyIn) l) : PrOK l := fun x hx => inOK_of (h.2 x hx)
theorem row_ProgReads (xs : Args [.str, .int .i64]) (h : fitsA _ xs) : law12_ProgReads.u xs.1 xs.2.1 = some true := law_ProgReads _ _
theorem row_ProgTells (xs : Args [.slice tyIn]) (h : fitsA _ xs) : law12_ProgTells.u xs.1 = some true := law_ProgTells (prOK_of h.1)
end Go.Proofs.YthamolhikhcilaaDoor.K

/- Assembly, plainly: an operand's word is read. -/
import Derived.Test.YtmmooplcdkmapaaGreatDoorL11c
set_option maxRecDepth 100000
set_option linter.unusedVariables false
set_option linter.unusedSimpArgs false
namespace Go.Proofs.YtmmooplcdkmapaaGreatDoor.K
open Go

/-- The opcode of a name. -/
def findK (n : List UInt8) : List Ln → Nat → Int × Bool
  | [], _ => (0, false)
  | x :: r, i => bif x.1.data.toList == n then ((i : Int), true) else findK n r (i + 1)
theorem find_go (s : ByteArray) : ∀ (d i : Nat), i + d = 48 → opcode_Find.g0 s kindsT some d (i : Int) = some (findK s.data.toList (kindsT.drop i) i)
  | 0, i, h => by rw [List.drop_eq_nil_of_le (by rw [table_len]; omega)]; rfl
  | d + 1, i, h => by
    have hi : i < kindsT.length := by rw [table_len]; omega
    rw [opcode_Find.g0, idxOK_nat (show i < 48 by omega), cond_true, Int.toNat_natCast, List.drop_eq_getElem_cons hi]
    have e : List.getD kindsT i (bs [], (bs [], (0, ()))) = kindsT[i] := by rw [List.getD_eq_getElem?_getD, List.getElem?_eq_getElem hi]; rfl
    rw [e]
    unfold findK
    show (bif _ then _ else opcode_Find.g0 s kindsT some d ((i + 1 : Nat) : Int)) = _
    rw [find_go s d (i + 1) (by omega)]
    cases (kindsT[i].1.data.toList == s.data.toList) <;> rfl
theorem rfind_go (s : ByteArray) (t : List Ln) : ∀ (l : List Ln) (i : Nat), ref09_Find.g0 s t some l (i : Int) = some (findK s.data.toList l i)
  | [], i => rfl
  | x :: r, i => by
    rw [ref09_Find.g0]
    unfold findK
    show (bif _ then _ else ref09_Find.g0 s t some r ((i + 1 : Nat) : Int)) = _
    rw [rfind_go s t r (i + 1)]
    cases (x.1.data.toList == s.data.toList) <;> rfl
theorem find_u (s : ByteArray) : opcode_Find.u s = some (findK s.data.toList kindsT 0) := find_go s 48 0 rfl
theorem rfind_u (s : ByteArray) : ref09_Find.u s = some (findK s.data.toList kindsT 0) := by
  unfold ref09_Find.u ref09_Find.w
  rw [table_eq, decide_eq_true (show ((List.length kindsT : Nat) : Int) ≤ 4611686018427387904 by rw [table_len]; decide), cond_true]
  exact rfind_go s kindsT kindsT 0
theorem findK_ok (n : List UInt8) : ∀ (l : List Ln) (i : Nat), (findK n l i).2 = true → ∃ j, (findK n l i).1 = ((i + j : Nat) : Int) ∧ ∃ h : j < l.length, l[j].1.data.toList = n
  | [], i, h => by cases h
  | x :: r, i, h => by
    unfold findK at h ⊢
    cases hx : (x.1.data.toList == n) with
    | true => exact ⟨0, rfl, by simp, by simpa using hx⟩
    | false =>
      rw [hx, cond_false] at h
      obtain ⟨j, h1, h2, h3⟩ := findK_ok n r (i + 1) h
      exact ⟨j + 1, by rw [cond_false, h1]; congr 1; omega, by simp; omega, by simpa using h3⟩
theorem find_fine {n : List UInt8} (h : (findK n kindsT 0).2 = true) : opcode_fine.t (findK n kindsT 0).1 = true ∧ (lineOf (findK n kindsT 0).1).1.data.toList = n := by
  obtain ⟨j, h1, h2, h3⟩ := findK_ok n kindsT 0 h
  rw [h1, Nat.zero_add]
  have h4 : j < 48 := by rw [table_len] at h2; exact h2
  refine ⟨opfine_iff.2 ⟨by omega, by omega⟩, ?_⟩
  unfold lineOf
  rw [Int.toNat_natCast, List.getD_eq_getElem?_getD, List.getElem?_eq_getElem h2]
  exact h3

def wayW (l : List UInt8) : Int × Int := bif [112, 114, 105] == l then (0, 0) else bif [102, 97, 105, 114] == l then (1, 0) else bif [97, 110, 121] == l then (2, 0) else (0, 3)
theorem way_u (s : ByteArray) : asm_way.u s = some (wayW s.data.toList) := by
  show asm_way.g0 s asm_ways.t some 3 0 = _
  simp only [asm_way.g0, show idxOK 0 3 = true from rfl, show idxOK (0 + 1) 3 = true from rfl, show idxOK (0 + 1 + 1) 3 = true from rfl, cond_true,
    show (List.getD asm_ways.t (Int.toNat 0) (bs [])).data.toList = [112, 114, 105] from rfl, show (List.getD asm_ways.t (Int.toNat (0 + 1)) (bs [])).data.toList = [102, 97, 105, 114] from rfl, show (List.getD asm_ways.t (Int.toNat (0 + 1 + 1)) (bs [])).data.toList = [97, 110, 121] from rfl]
  unfold wayW
  cases ([112, 114, 105] == s.data.toList) <;> cases ([102, 97, 105, 114] == s.data.toList) <;> cases ([97, 110, 121] == s.data.toList) <;> rfl
def markOf (c : Int) : List UInt8 := bif c == 116 then [64] else bif c == 103 then [114] else bif c == 110 then [] else bif c == 115 then [] else [UInt8.ofNat c.toNat]
def valW (c : Int) (l : List UInt8) : Int × Int := bif c == 109 then wayW l else plainW (markOf c) l
def rvalW (c : Int) (l : List UInt8) : Int × Int := bif c == 109 then wayW l else markW (markOf c) l
theorem value_u {c : Int} {s : ByteArray} (hs : s.size ≤ 1000000) (hc : c = 114 ∨ c = 116 ∨ c = 99 ∨ c = 98 ∨ c = 112 ∨ c = 107 ∨ c = 109 ∨ c = 110 ∨ c = 103 ∨ c = 115) : ref11_value.u c s = some (rvalW c s.data.toList) := by
  have mk := fun m => marked_u hs m
  unfold ref11_value.u ref11_value.w rvalW markOf
  rcases hc with rfl | rfl | rfl | rfl | rfl | rfl | rfl | rfl | rfl | rfl
  case inr.inr.inr.inr.inr.inr.inl =>
    simp only [Int.reduceBEq, cond_true, cond_false]
    show ref11_value.g0 s some 3 0 = _
    have ix : ∀ i : Int, idxOK i (List.length [bs [112, 114, 105], bs [102, 97, 105, 114], bs [97, 110, 121]]) = idxOK i 3 := fun _ => rfl
    simp only [ref11_value.g0, ix, show idxOK 0 3 = true from rfl, show idxOK (0 + 1) 3 = true from rfl, show idxOK (0 + 1 + 1) 3 = true from rfl, cond_true,
      show (List.getD [bs [112, 114, 105], bs [102, 97, 105, 114], bs [97, 110, 121]] (Int.toNat 0) (bs [])).data.toList = [112, 114, 105] from rfl, show (List.getD [bs [112, 114, 105], bs [102, 97, 105, 114], bs [97, 110, 121]] (Int.toNat (0 + 1)) (bs [])).data.toList = [102, 97, 105, 114] from rfl, show (List.getD [bs [112, 114, 105], bs [102, 97, 105, 114], bs [97, 110, 121]] (Int.toNat (0 + 1 + 1)) (bs [])).data.toList = [97, 110, 121] from rfl]
    unfold wayW
    rw [show ([112, 114, 105] == s.data.toList) = (s.data.toList == [112, 114, 105]) from BEq.comm, show ([102, 97, 105, 114] == s.data.toList) = (s.data.toList == [102, 97, 105, 114]) from BEq.comm, show ([97, 110, 121] == s.data.toList) = (s.data.toList == [97, 110, 121]) from BEq.comm]
    cases (s.data.toList == [112, 114, 105]) <;> cases (s.data.toList == [102, 97, 105, 114]) <;> cases (s.data.toList == [97, 110, 121]) <;> rfl
  all_goals simp only [Int.reduceBEq, cond_true, cond_false, of1_bs, mk, Option.bind_some]

/-- A pair of bytes. -/
def hiW (n : Int) : Int := (if n < 0 then n + 65536 else n) / 256
def loW (n : Int) : Int := (if n < 0 then n + 65536 else n) % 256
def oneV (c : Int) (i : Nat) (w : ByteArray) (r : List ByteArray) (v : List Int) : Int × List ByteArray × List Int :=
  bif c == 105 then
    (bif (parseW w.data.toList).2 != 0 then ((parseW w.data.toList).2, r, v) else bif decide ((parseW w.data.toList).1 < -32768) then (8, r, v) else bif decide ((parseW w.data.toList).1 > 32767) then (8, r, v) else
      (0, r, (v.set i (hiW (parseW w.data.toList).1)).set (i + 1) (loW (parseW w.data.toList).1)))
  else ((valW c w.data.toList).2, r, v.set i (valW c w.data.toList).1)
def oneF (c : Int) (i : Nat) (v : List Int) : List ByteArray → Int × List ByteArray × List Int
  | [] => bif c == 103 then (0, [], v.set i 8) else (4, [], v)
  | w :: r => bif c == 103 then (bif !(w.data.toList == [105, 102]) then (3, r, v) else match r with
      | [] => (4, [], v)
      | w2 :: r2 => oneV c i w2 r2 v) else oneV c i w r v
theorem sub_tail (w : ByteArray) (r : List ByteArray) : subL (some 1) none (w :: r) = r := by
  simp [subL, subHi, subLo]
theorem subc_tail (w : ByteArray) (r : List ByteArray) : subC (some 1) none (List.length (w :: r)) = true := by simp [subC]; omega
theorem len_ne (w : ByteArray) (r : List ByteArray) : (((List.length (w :: r) : Nat) : Int) == 0) = false := by rw [beq_eq_false_iff_ne, List.length_cons]; omega
theorem idx_0 (w : ByteArray) (r : List ByteArray) : idxOK 0 (List.length (w :: r)) = true := idxOK_of (Int.le_refl 0) (by rw [List.length_cons]; omega)
theorem hi_eq {n : Int} (h : -32768 ≤ n ∧ n ≤ 32767) : IntKind.wrap .i64 (Int.fdiv (IntKind.wrap .u16 n) (2 ^ (min (Int.toNat 8) (IntKind.bits .u16)))) = hiW n := by
  have p8 : (2 ^ min (Int.toNat 8) (IntKind.bits .u16) : Int) = 256 := rfl
  have w : IntKind.wrap .u16 n = if n < 0 then n + 65536 else n := by
    simp [IntKind.wrap, IntKind.bits, IntKind.signed]; split <;> omega
  have hb : 0 ≤ (if n < 0 then n + 65536 else n) ∧ (if n < 0 then n + 65536 else n) ≤ 65535 := by split <;> omega
  rw [p8, w, Int.fdiv_eq_ediv_of_nonneg _ (by decide)]
  unfold hiW
  exact wrapN (by omega)
theorem lo_eq {n : Int} (h : -32768 ≤ n ∧ n ≤ 32767) : IntKind.wrap .i64 (IntKind.wrap .u8 n) = loW n := by
  have w : IntKind.wrap .u8 n = (if n < 0 then n + 65536 else n) % 256 := by
    simp [IntKind.wrap, IntKind.bits, IntKind.signed]; split <;> omega
  rw [w]; unfold loW
  exact wrapN (by omega)
set_option maxHeartbeats 2000000 in
theorem one_u {c : Int} {i : Nat} (hi : i < 3) (h5 : c = 105 → i < 2) {v : List Int} {rem : List ByteArray} (hr : ∀ w ∈ rem, w.size ≤ 1000000) (h0 : In) (h2 : List ByteArray)
    (hc : c = 114 ∨ c = 116 ∨ c = 99 ∨ c = 98 ∨ c = 112 ∨ c = 107 ∨ c = 109 ∨ c = 110 ∨ c = 103 ∨ c = 115 ∨ c = 105) :
    asm_reader_one.u c (i : Int) h0 (rem, (v, ())) h2 = some ((oneF c i v rem).1, h0, ((oneF c i v rem).2.1, ((oneF c i v rem).2.2, ())), h2, ()) := by
  obtain ⟨u1, u2, u3, u4, u5⟩ := enc_letter
  have j1 : decide ((strings_IndexByte.t (bs [114, 99, 98, 107, 112]) 114) ≥ 0) = true := by decide
  have j2 : decide ((strings_IndexByte.t (bs [114, 99, 98, 107, 112]) 99) ≥ 0) = true := by decide
  have j3 : decide ((strings_IndexByte.t (bs [114, 99, 98, 107, 112]) 98) ≥ 0) = true := by decide
  have j4 : decide ((strings_IndexByte.t (bs [114, 99, 98, 107, 112]) 112) ≥ 0) = true := by decide
  have j5 : decide ((strings_IndexByte.t (bs [114, 99, 98, 107, 112]) 107) ≥ 0) = true := by decide
  have j6 : decide ((strings_IndexByte.t (bs [114, 99, 98, 107, 112]) 110) ≥ 0) = false := by decide
  have j7 : decide ((strings_IndexByte.t (bs [114, 99, 98, 107, 112]) 115) ≥ 0) = false := by decide
  have ix := idxOK_nat hi
  have n0 : (((List.length ([] : List ByteArray) : Nat) : Int) == 0) = true := rfl
  have g0 : ∀ (w : ByteArray) r, List.getD (w :: r) 0 (bs []) = w := fun _ _ => rfl
  have pl := fun {s : ByteArray} (hs : s.size ≤ 1000000) m => plain_u11 hs m
  unfold asm_reader_one.u asm_reader_one.s
  rcases hc with rfl | rfl | rfl | rfl | rfl | rfl | rfl | rfl | rfl | rfl | rfl
  case inr.inr.inr.inr.inr.inr.inr.inr.inl =>
    cases rem with
    | nil => simp only [Int.reduceBEq, cond_true, cond_false, n0, ix, Int.toNat_natCast]; rfl
    | cons w r =>
      simp only [Int.reduceBEq, cond_true, cond_false, len_ne, idx_0, subc_tail, sub_tail, g0, bs_list]
      unfold oneF
      simp only [Int.reduceBEq, cond_true, cond_false]
      cases hw : (w.data.toList == [105, 102]) with
      | false => rfl
      | true =>
        simp only [Bool.not_true, cond_false]
        cases r with
        | nil => simp only [n0, cond_true]
        | cons w2 r2 =>
          have hs : w2.size ≤ 1000000 := hr w2 (by simp)
          simp only [Int.reduceBEq, cond_true, cond_false, len_ne, idx_0, subc_tail, sub_tail, g0, pl hs, Option.bind_some, ix, Int.toNat_natCast]
          rfl
  case inr.inr.inr.inr.inr.inr.inr.inr.inr.inr =>
    have ix2 : idxOK (IntKind.wrap .i64 ((i : Int) + 1)) 3 = true := by rw [wrapN ⟨by omega, by omega⟩]; exact idxOK_of (by omega) (by have := h5 rfl; omega)
    have tn : Int.toNat (IntKind.wrap .i64 ((i : Int) + 1)) = i + 1 := by rw [wrapN ⟨by omega, by omega⟩]; omega
    cases rem with
    | nil => simp only [Int.reduceBEq, cond_true, cond_false, n0]; rfl
    | cons w r =>
      have hs : w.size ≤ 1000000 := hr w (by simp)
      simp only [Int.reduceBEq, cond_true, cond_false, len_ne, idx_0, subc_tail, sub_tail, g0, wparse_u hs, Option.bind_some, ix, ix2, tn, Int.toNat_natCast]
      unfold oneF oneV
      simp only [Int.reduceBEq, cond_true, cond_false]
      cases ((parseW w.data.toList).2 != 0) with
      | true => rfl
      | false =>
        simp only [cond_false]
        by_cases h1 : (parseW w.data.toList).1 < -32768
        · rw [decide_eq_true h1]; rfl
        · by_cases h3 : (parseW w.data.toList).1 > 32767
          · rw [decide_eq_false h1, decide_eq_true h3]; rfl
          · rw [decide_eq_false h1, decide_eq_false h3, cond_false, cond_false, cond_false, cond_false, hi_eq ⟨by omega, by omega⟩, lo_eq ⟨by omega, by omega⟩]
  all_goals
    cases rem with
    | nil => simp only [Int.reduceBEq, cond_true, cond_false, n0]; rfl
    | cons w r =>
      have hs : w.size ≤ 1000000 := hr w (by simp)
      simp only [Int.reduceBEq, cond_true, cond_false, len_ne, idx_0, subc_tail, sub_tail, g0, way_u, j1, j2, j3, j4, j5, j6, j7, u1, u2, u3, u4, u5, of1_bs, pl hs, Option.bind_some, ix, Int.toNat_natCast]
      rfl
end Go.Proofs.YtmmooplcdkmapaaGreatDoor.K

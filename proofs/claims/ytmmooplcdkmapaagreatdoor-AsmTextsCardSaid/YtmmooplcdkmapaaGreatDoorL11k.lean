/- Assembly, plainly: the law AsmBack. -/
import Derived.Test.YtmmooplcdkmapaaGreatDoorL11j
set_option maxRecDepth 100000
set_option linter.unusedVariables false
set_option linter.unusedSimpArgs false
namespace Go.Proofs.YtmmooplcdkmapaaGreatDoor.K
open Go

theorem loop_ok {ws : List ByteArray} (hr : ∀ w ∈ ws, w.size ≤ 1000000) (hl : ws.length ≤ 1000000) {o : Int} (hf : opcode_fine.t o = true) (L : List Int) (g : In) (h2 : List ByteArray) {x : In} : ∀ (d i p : Nat) (v : List Int), i + d = 3 → p ≤ ws.length → Iw o i v →
    asm_Parse.g0 o L some ((bytesI (lineOf o).2.1).drop i) (i : Int) g (ws.drop p, (v, ())) h2 = some (x, 0) → chk x = 0 ∧ InOK x
  | 0, i, p, v, h, hp, hI, he => by
    have : i = 3 := by omega
    subst this
    rw [form_list hf, List.drop_eq_nil_of_le (by simp), asm_Parse.g0] at he
    have ho := opfine_iff.1 hf
    obtain ⟨a, b, d, e, hx⟩ := hI.good.abd (o := o) ⟨by omega, by omega⟩
    subst e
    cases hq : decide (((List.length (ws.drop p) : Nat) : Int) > 0) with
    | true => rw [hq] at he; cases he
    | false =>
      rw [hq, cond_false] at he
      have he2 : ((IntKind.wrap .u8 o, (IntKind.wrap .u8 a, (IntKind.wrap .u8 b, (IntKind.wrap .u8 d, ())))) : In) = x := (Prod.mk.inj (Option.some.inj he)).1
      rw [w8b hx.o, w8b hx.a, w8b hx.b, w8b hx.c] at he2
      subst he2
      refine ⟨?_, hx⟩
      have k0 : wrongR (bAt (lineOf o).2.1 0) a = 0 := hI.ok 0 (by omega) (by omega)
      have k1 : wrongR (bAt (lineOf o).2.1 1) b = 0 := hI.ok 1 (by omega) (by omega)
      have k2 : wrongR (bAt (lineOf o).2.1 2) d = 0 := hI.ok 2 (by omega) (by omega)
      unfold chk
      rw [hf, k0, k1, k2]; rfl
  | d + 1, i, p, v, h, hp, hI, he => by
    have hi : i < 3 := by omega
    have hrd : ∀ w ∈ ws.drop p, w.size ≤ 1000000 := fun w hw => hr w (List.mem_of_mem_drop hw)
    have hst := step_same (lcase hf i hi rfl) hi (fun e => by have := (at105 hf hi e).1; omega) hI.good.1 (ws.drop p)
    rw [form_drop hf hi, asm_step hf hi hI hrd] at he
    have hiw := iw_step hf hi hI (ws.drop p)
    rw [hst] at hiw he
    rcases ref_step hr hl hf hi (d := d) hp v with ⟨h1, h3⟩ | ⟨h1, p', hp', h3, h4⟩
    · rw [h1, cond_true] at he
      have := (Prod.mk.inj (Option.some.inj he)).2
      rw [bne_iff_ne] at h1
      exact absurd this h1
    · rw [h1, cond_false, h3] at he
      exact loop_ok hr hl hf L g h2 d (i + 1) p' _ (by omega) hp' (hiw (by simpa using h1)) he
theorem parse_ok {s : ByteArray} (hs : s.size ≤ 100000) {x : In} (h : asm_Parse.u s = some (x, 0)) : chk x = 0 ∧ InOK x := by
  have hsz := size_list s
  obtain ⟨hp1, hp2⟩ := pieces_len s.data.toList
  unfold asm_Parse.u asm_Parse.w at h
  rw [split11_u (by omega), Option.bind_some, decide_eq_true (show (((List.length ((pieces s.data.toList).map bs) : Nat) : Int) ≤ 4611686018427387904) by rw [List.length_map]; omega), cond_true, filt _ _ _ _ _ (by simp; omega), List.nil_append] at h
  have hr : ∀ w ∈ (wordsL s.data.toList).map bs, w.size ≤ 1000000 := fun w hw => by
    obtain ⟨p, hp, rfl⟩ := List.mem_map.1 hw
    have := hp2 p (List.mem_filter.1 hp |>.1)
    rw [bs_size]; omega
  have hl : ((wordsL s.data.toList).map bs).length ≤ 1000000 := by
    rw [List.length_map]
    have := List.length_filter_le (fun p => !(p == [])) (pieces s.data.toList)
    unfold wordsL; omega
  have h : asm_Parse.g1 ((pieces s.data.toList).map bs) (List.replicate 3 0) some [] ((wordsL s.data.toList).map bs) = some (x, 0) := h
  obtain ⟨W, hW⟩ : ∃ W, (wordsL s.data.toList).map bs = W := ⟨_, rfl⟩
  rw [hW] at hr hl h
  rw [asm_Parse.g1] at h
  cases W with
  | nil => cases h
  | cons w r =>
    have g0 : List.getD (w :: r) 0 (bs []) = w := rfl
    rw [len_ne, cond_false, idx_0, cond_true, subc_tail, cond_true, g0, find_u, Option.bind_some] at h
    cases hk : (findK w.data.toList kindsT 0).2 with
    | false => rw [hk] at h; cases h
    | true =>
      obtain ⟨hf, _⟩ := find_fine hk
      have hb : decide (((List.length (bytesI (lineOf (findK w.data.toList kindsT 0).1).2.1) : Nat) : Int) ≤ 4611686018427387904) = true := by rw [form_list hf]; show decide (((3 : Nat) : Int) ≤ 4611686018427387904) = true; decide
      have tk : (List.drop (subLo (some (1))) (w :: r)).take (subHi none (List.length (w :: r)) - subLo (some (1))) = r := by
        show r.take ((r.length + 1) - 1) = r
        rw [Nat.add_sub_cancel, List.take_length]
      simp only [hk, Bool.not_true, cond_false, form_u, hf, cond_true, Option.bind_some, hb, tk] at h
      exact loop_ok hr hl hf _ _ _ 3 0 1 _ rfl (by simp) (iw0 _) h

/-- The lines of any text. -/
theorem cutF_size {s : ByteArray} (c : UInt8) : (cutF s c).1.size ≤ s.size ∧ ((cutF s c).2.2 = true → (cutF s c).2.1.size < s.size) := by
  unfold cutF
  split
  · rename_i h
    have hz := size_list s
    refine ⟨sub_size_to s (by omega), fun _ => ?_⟩
    show (subS (some (((fstI c s.data.toList + 1 : Nat)) : Int)) none s).size < s.size
    rw [size_list, sub_from_list, List.length_drop]; omega
  · exact ⟨Nat.le_refl _, fun h => by cases h⟩
theorem lines_some : ∀ (k : Nat) (s : ByteArray) (no : Nat), s.size < k → s.size ≤ 1000000 → ∃ l, linesU k s no = some l ∧ l.length ≤ s.size + 1 ∧ ∀ x ∈ l, x.2.size ≤ s.size
  | 0, s, no, h, _ => absurd h (by omega)
  | k + 1, s, no, h, hs => by
    obtain ⟨z1, z2⟩ := cutF_size (s := s) 10
    unfold linesU
    rw [cut1_u hs, Option.bind_some]
    cases hm : (cutF s 10).2.2 with
    | false => exact ⟨_, rfl, by simp, fun x hx => by simp only [List.mem_singleton] at hx; rw [hx]; exact z1⟩
    | true =>
      have := z2 hm
      obtain ⟨l, h1, h2, h3⟩ := lines_some k (cutF s 10).2.1 (no + 1) (by omega) (by omega)
      rw [cond_true, h1]
      refine ⟨_, rfl, by simp; omega, fun x hx => ?_⟩
      rcases List.mem_cons.1 hx with e | e
      · rw [e]; exact z1
      · have := h3 x e; omega
theorem read_some : ∀ (l : List (Int × ByteArray)) (out : List In), (∀ x ∈ l, x.2.size ≤ 100000) → (∀ x ∈ out, chk x = 0 ∧ InOK x) →
    ∃ r, readU l out = some r ∧ r.1.length ≤ out.length + l.length ∧ (∀ x ∈ r.1, chk x = 0 ∧ InOK x) ∧ (r.2.2 ≠ 0 → r.1 = [])
  | [], out, h, ho => ⟨_, rfl, by simp, ho, fun e => absurd rfl e⟩
  | x :: t, out, h, ho => by
    obtain ⟨r, h1, _⟩ := parse_same (h x (List.mem_cons_self ..))
    have ht : ∀ y ∈ t, y.2.size ≤ 100000 := fun y hy => h y (List.mem_cons_of_mem _ hy)
    unfold readU
    rw [h1, Option.bind_some]
    cases h0 : (r.2 == 0) with
    | true =>
      have e0 : r.2 = 0 := by simpa using h0
      have hk := parse_ok (h x (List.mem_cons_self ..)) (x := r.1) (by rw [h1, ← e0])
      obtain ⟨q, q1, q2, q3, q4⟩ := read_some t (out ++ [r.1]) ht (fun y hy => by
        rcases List.mem_append.1 hy with e | e
        · exact ho y e
        · simp only [List.mem_singleton] at e; rw [e]; exact hk)
      exact ⟨q, q1, by simp at q2 ⊢; omega, q3, q4⟩
    | false =>
      cases h11 : (r.2 == 11) with
      | true =>
        obtain ⟨q, q1, q2, q3, q4⟩ := read_some t out ht ho
        exact ⟨q, q1, by simp at q2 ⊢; omega, q3, q4⟩
      | false =>
        refine ⟨([], x.1, r.2), rfl, Nat.zero_le _, ?_, fun _ => rfl⟩
        intro y hy
        exact absurd hy (List.not_mem_nil)
theorem all_some {l : List (Int × ByteArray)} (h : ∀ x ∈ l, x.2.size ≤ 100000) : l.all (fun x => (asm_Parse.u x.2).isSome) = true := List.all_eq_true.2 fun x hx => by
  obtain ⟨r, h1, _⟩ := parse_same (h x hx)
  rw [h1]; rfl
theorem Read_some {s : ByteArray} (hs : s.size ≤ 100000) : ∃ r, asm_Read.u s = some r ∧ r.1.length ≤ s.size + 1 ∧ (∀ x ∈ r.1, chk x = 0 ∧ InOK x) ∧ (r.2.2 ≠ 0 → r.1 = []) := by
  obtain ⟨l, h1, h2, h3⟩ := lines_some (s.size + 1) s 1 (by omega) (by omega)
  have h4 : ∀ x ∈ l, x.2.size ≤ 100000 := fun x hx => by have := h3 x hx; omega
  obtain ⟨r, r1, r2, r3, r4⟩ := read_some l [] h4 (fun x hx => by cases hx)
  refine ⟨r, ?_, by simp at r2; omega, r3, r4⟩
  unfold asm_Read.u
  rw [h1, Option.bind_some, decide_eq_true (show l.length ≤ 4294967296 by omega), cond_true, all_some h4, cond_true, r1]
theorem same_run : ∀ (d : Nat) (ys xs : List In) (i : Nat), ys.drop i = xs → ref11_Same.g0 ys ys some xs (i : Int) = some true
  | _, ys, [], i, h => rfl
  | d, ys, x :: xs, i, h => by
    have hi : i < ys.length := by
      rcases Nat.lt_or_ge i ys.length with h1 | h1
      · exact h1
      · rw [List.drop_eq_nil_of_le h1] at h; cases h
    have hd : ys.drop i = ys[i] :: ys.drop (i + 1) := List.drop_eq_getElem_cons hi
    rw [hd] at h
    have h1 := (List.cons.inj h).1
    have h2 := (List.cons.inj h).2
    have hg : List.getD ys i (0, (0, (0, (0, ())))) = x := by rw [List.getD_eq_getElem?_getD, List.getElem?_eq_getElem hi, ← h1]; rfl
    rw [ref11_Same.g0, idxOK_nat hi, cond_true, Int.toNat_natCast, hg]
    rw [show eqI tyIn x x = true from eqIn x]
    exact same_run d ys xs (i + 1) h2
theorem same11_u {l : List In} (h : l.length ≤ 1000000) : ref11_Same.u l l = some true := by
  unfold ref11_Same.u ref11_Same.w
  rw [show (((List.length l : Nat) : Int) != ((List.length l : Nat) : Int)) = false from by simp, cond_false, decide_eq_true (show ((List.length l : Nat) : Int) ≤ 4611686018427387904 by omega), cond_true]
  exact same_run 0 l l 0 rfl

/-- No line's end in a written word. -/
theorem dig_no10 {l : List UInt8} (h : l.all digB = true) : 10 ∉ l := fun hm => absurd (List.all_eq_true.1 h 10 hm) (by decide)
theorem dd_no10 (n : Nat) : 10 ∉ Lib.decDigits n := dig_no10 (dd_all n n (Nat.le_refl _))
theorem itoa_no10 (n : Int) : 10 ∉ Lib.itoa n := by
  unfold Lib.itoa
  split
  · intro h
    rcases List.mem_cons.1 h with h | h
    · exact absurd h (by decide)
    · exact dd_no10 _ h
  · exact dd_no10 _
theorem app_no {c : UInt8} {a b : List UInt8} (ha : c ∉ a) (hb : c ∉ b) : c ∉ a ++ b := fun h => (List.mem_append.1 h).elim ha hb
theorem bif_no {b : Bool} {u v : ByteArray} {c : UInt8} (hu : c ∉ u.data.toList) (hv : c ∉ v.data.toList) : c ∉ (bif b then u else v).data.toList := by cases b <;> assumption
theorem word_no10 {x : In} {c n : Int} (hc : c = 45 ∨ c = 114 ∨ c = 116 ∨ c = 99 ∨ c = 98 ∨ c = 112 ∨ c = 107 ∨ c = 109 ∨ c = 110 ∨ c = 103 ∨ c = 115 ∨ c = 105 ∨ c = 106) : 10 ∉ (wordI x c n).data.toList := by
  have ht : ∀ m : Int, 10 ∉ (txt m).data.toList := fun m => by rw [txt_list]; exact itoa_no10 m
  have hz : (10 : UInt8) ∉ (bs []).data.toList := by simp [bs_list]
  have hw : ∀ k : Nat, 10 ∉ (List.getD waysT k (bs [])).data.toList := fun k => by
    match k with
    | 0 => decide
    | 1 => decide
    | 2 => decide
    | k + 3 => exact hz
  have hp : ∀ l : List UInt8, 10 ∉ l → 10 ∉ (bs l ++ txt n).data.toList := fun l hl => by rw [app_list]; exact app_no hl (ht n)
  have ho : 10 ∉ (ofBytes [c] ++ txt n).data.toList := by
    refine hp _ ?_
    rcases hc with rfl | rfl | rfl | rfl | rfl | rfl | rfl | rfl | rfl | rfl | rfl | rfl | rfl <;> decide
  unfold wordI
  exact bif_no (ht _) (bif_no (hp [64] (by decide)) (bif_no (hw _) (bif_no (ht _) (bif_no (ht _) (bif_no (bif_no hz (hp _ (by decide))) (bif_no hz (bif_no hz ho)))))))
theorem pad_no10 {w : ByteArray} (h : 10 ∉ w.data.toList) : 10 ∉ (padW w).data.toList := by
  unfold padW
  cases (w.data.toList == [])
  · rw [cond_false, app_list]; exact app_no (by decide) h
  · simp [bs_list]
theorem names_10 : (kindsT.all fun l => !(l.1.data.toList.contains 10)) = true := by kernel_rfl
theorem text_no10 {x : In} (hx : InOK x) (h : chk x = 0) : 10 ∉ (textI x).1.data.toList := by
  obtain ⟨hf, _⟩ := chk0 hx h
  have hn := line_at hf names_10
  simp only [Bool.not_eq_true', List.contains_eq_mem, decide_eq_false_iff_not] at hn
  unfold textI
  rw [h, show ((0 : Int) != 0) = false from rfl, cond_false]
  show 10 ∉ (((((lineOf x.1).1 ++ _) ++ _) ++ _) : ByteArray).data.toList
  rw [app_list, app_list, app_list]
  exact app_no (app_no (app_no hn (pad_no10 (word_no10 (lcase hf 0 (by decide) rfl)))) (pad_no10 (word_no10 (lcase hf 1 (by decide) rfl)))) (pad_no10 (word_no10 (lcase hf 2 (by decide) rfl)))
def printL (l : List In) : List UInt8 := l.flatMap fun x => (textI x).1.data.toList ++ [10]
theorem text_err {x : In} (h : chk x = 0) : (textI x).2 = 0 := by unfold textI; rw [h]; rfl
theorem print_run (e : List In) : ∀ (l : List In) (a : ByteArray), (∀ x ∈ l, chk x = 0 ∧ InOK x) → a.size + 101 * l.length ≤ 1000000 → ∃ T, asm_Print.g0 e some l a = some (T, 0) ∧ T.data.toList = a.data.toList ++ printL l
  | [], a, h, hz => ⟨a, rfl, by simp [printL]⟩
  | x :: t, a, h, hz => by
    obtain ⟨hk, hx⟩ := h x (List.mem_cons_self ..)
    have hs := text_size hx hk
    rw [List.length_cons] at hz
    have e1 : ((textI x).1 ++ bs [10]).size = (textI x).1.size + 1 := by rw [ByteArray.size_append, bs_size]; rfl
    obtain ⟨T, h1, h2⟩ := print_run e t (a ++ ((textI x).1 ++ bs [10])) (fun y hy => h y (List.mem_cons_of_mem _ hy)) (by rw [ByteArray.size_append, e1]; omega)
    refine ⟨T, ?_, ?_⟩
    · rw [asm_Print.g0, text_u hx, Option.bind_some, text_err hk, show ((0 : Int) != 0) = false from rfl, cond_false, cat_ok (by rw [bs_size]; simp; omega), cond_true]
      have rm : decide (ByteArray.size a + ByteArray.size ((textI x).1 ++ bs [10]) ≤ rowMax) = true := decide_eq_true (Nat.le_trans (show _ ≤ 1000000 by rw [e1]; omega) (by decide))
      rw [rm, cond_true]; exact h1
    · rw [h2, app_list, app_list, bs_list]
      simp [printL]
theorem fst_no {c : UInt8} : ∀ {a : List UInt8} (r : List UInt8), c ∉ a → fstI c (a ++ c :: r) = a.length
  | [], r, _ => by
    show List.findIdx (fun x => x == c) (c :: r) = 0
    rw [List.findIdx_cons, beq_self_eq_true]; rfl
  | b :: a, r, h => by
    have ih := fst_no (a := a) r (fun e => h (List.mem_cons_of_mem _ e))
    have hb : (b == c) = false := beq_eq_false_iff_ne.2 (fun e => h (by rw [e]; exact List.mem_cons_self ..))
    unfold fstI at ih ⊢
    rw [List.cons_append, List.findIdx_cons, hb, cond_false, ih, List.length_cons]
theorem cut_line {s : ByteArray} {a r : List UInt8} (h : s.data.toList = a ++ 10 :: r) (ha : 10 ∉ a) : cutF s 10 = (bs a, bs r, true) := by
  have hf : fstI 10 s.data.toList = a.length := by rw [h]; exact fst_no r ha
  unfold cutF
  rw [hf, if_pos (by rw [size_list, h]; simp)]
  have e1 : subS none (some ((a.length : Nat) : Int)) s = bs a := ba_ext (by rw [sub_to_list, h, bs_list, List.take_left])
  have e2 : subS (some (((a.length + 1 : Nat)) : Int)) none s = bs r := ba_ext (by
    rw [sub_from_list, h, bs_list, show a ++ 10 :: r = (a ++ [10]) ++ r by simp, show a.length + 1 = (a ++ [10]).length by simp, List.drop_left])
  rw [e1, e2]
theorem read_run : ∀ (l : List In) (k no : Nat) (s : ByteArray) (out : List In), (∀ x ∈ l, chk x = 0 ∧ InOK x) → l.length < k → s.size ≤ 1000000 → s.data.toList = printL l →
    ∃ L, linesU k s no = some L ∧ L.length ≤ l.length + 1 ∧ (∀ x ∈ L, x.2.size ≤ 100000) ∧ readU L out = some (out ++ l, 0, 0)
  | [], k, no, s, out, h, hk, hs, he => by
    match k, hk with
    | k + 1, _ =>
      have e0 : s = bs [] := ba_ext (by rw [he]; rfl)
      subst e0
      refine ⟨[((no : Int), bs [])], ?_, by simp, fun x hx => ?_, ?_⟩
      · unfold linesU
        rw [cut1_u hs]; rfl
      · simp only [List.mem_singleton] at hx; rw [hx]; exact Nat.zero_le _
      · have e1 : asm_Parse.u (bs []) = some (zIn, 11) := by kernel_rfl
        unfold readU
        rw [e1]
        show readU [] out = _
        rw [List.append_nil]; rfl
  | x :: t, k, no, s, out, h, hk, hs, he => by
    match k, hk with
    | k + 1, hk =>
      obtain ⟨hc, hx⟩ := h x (List.mem_cons_self ..)
      have hl : s.data.toList = (textI x).1.data.toList ++ 10 :: printL t := by rw [he]; simp [printL]
      have hcut := cut_line hl (text_no10 hx hc)
      have hz : s.size = (textI x).1.size + 1 + (printL t).length := by rw [size_list, hl, size_list (textI x).1]; simp; omega
      rw [List.length_cons] at hk
      obtain ⟨L, h1, h2, h3, h4⟩ := read_run t k (no + 1) (bs (printL t)) (out ++ [x]) (fun y hy => h y (List.mem_cons_of_mem _ hy)) (by omega) (by rw [bs_size]; omega) (bs_list _)
      refine ⟨((no : Int), (textI x).1) :: L, ?_, by simp; omega, fun y hy => ?_, ?_⟩
      · unfold linesU
        rw [cut1_u hs, Option.bind_some, hcut]
        show (linesU k (bs (printL t)) (no + 1)).map _ = _
        rw [h1, bs_of]; rfl
      · rcases List.mem_cons.1 hy with e | e
        · rw [e]; have := text_size hx hc; show (textI x).1.size ≤ 100000; omega
        · exact h3 y e
      · unfold readU
        rw [parse_text11 hx hc]
        show readU L (out ++ [x]) = _
        rw [h4]; simp
theorem printL_len {l : List In} (h : ∀ x ∈ l, chk x = 0 ∧ InOK x) : (printL l).length ≤ 101 * l.length ∧ l.length ≤ (printL l).length := by
  induction l with
  | nil => exact ⟨Nat.le_refl _, Nat.le_refl _⟩
  | cons x t ih =>
    obtain ⟨h1, h3⟩ := ih (fun y hy => h y (List.mem_cons_of_mem _ hy))
    obtain ⟨hc, hx⟩ := h x (List.mem_cons_self ..)
    have h2 := text_size hx hc
    rw [size_list] at h2
    have e : (printL (x :: t)).length = (textI x).1.data.toList.length + 1 + (printL t).length := by simp [printL]; omega
    rw [e, List.length_cons]; omega
end Go.Proofs.YtmmooplcdkmapaaGreatDoor.K

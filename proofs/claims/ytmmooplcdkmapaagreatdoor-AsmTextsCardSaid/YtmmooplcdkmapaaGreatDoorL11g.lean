/- Assembly, plainly: the law AsmParses. -/
import Derived.Test.YtmmooplcdkmapaaGreatDoorL11f
set_option maxRecDepth 100000
set_option linter.unusedVariables false
set_option linter.unusedSimpArgs false
namespace Go.Proofs.YtmmooplcdkmapaaGreatDoor.K
open Go

def goodV (v : List Int) : Prop := v.length = 3 ∧ ∀ x ∈ v, 0 ≤ x ∧ x ≤ 255
theorem goodV.set {v : List Int} (h : goodV v) (i : Nat) {n : Int} (hn : 0 ≤ n ∧ n ≤ 255) : goodV (v.set i n) := by
  refine ⟨by rw [List.length_set]; exact h.1, fun x hx => ?_⟩
  rcases List.mem_or_eq_of_mem_set hx with h1 | h1
  · exact h.2 x h1
  · rw [h1]; exact hn
theorem goodV.get {v : List Int} (h : goodV v) (i : Nat) : 0 ≤ v.getD i 0 ∧ v.getD i 0 ≤ 255 := by
  rw [List.getD_eq_getElem?_getD]
  cases hx : v[i]? with
  | none => exact ⟨Int.le_refl _, by decide⟩
  | some y => exact h.2 y (List.mem_of_getElem? hx)
theorem goodV.abd {v : List Int} (h : goodV v) {o : Int} (ho : 0 ≤ o ∧ o ≤ 255) : ∃ a b d, v = [a, b, d] ∧ InOK (o, (a, (b, (d, ())))) := by
  obtain ⟨hl, hx⟩ := h
  match v, hl, hx with
  | [a, b, d], _, hx => exact ⟨a, b, d, rfl, ho, hx a (by simp), hx b (by simp), hx d (by simp)⟩
theorem set_other {v : List Int} {i j : Nat} (h : j ≠ i) (n : Int) : (v.set i n).getD j 0 = v.getD j 0 := by
  rw [List.getD_eq_getElem?_getD, List.getElem?_set_ne (fun e => h e.symm), ← List.getD_eq_getElem?_getD]
theorem way_in (l : List UInt8) : 0 ≤ (wayW l).1 ∧ (wayW l).1 ≤ 255 := by
  unfold wayW
  cases ([112, 114, 105] == l) <;> cases ([102, 97, 105, 114] == l) <;> cases ([97, 110, 121] == l) <;> decide
theorem plain_in (m l : List UInt8) : 0 ≤ (plainW m l).1 ∧ (plainW m l).1 ≤ 255 := by
  unfold plainW
  cases m.isPrefixOf l with
  | false => show (0 : Int) ≤ 0 ∧ (0 : Int) ≤ 255; decide
  | true =>
    cases plainF (l.drop m.length) with
    | false => show (0 : Int) ≤ 0 ∧ (0 : Int) ≤ 255; decide
    | true =>
      simp only [cond_true]
      split
      · exact ⟨by simp, by simp; omega⟩
      · decide
theorem val_in (c : Int) (l : List UInt8) : 0 ≤ (valW c l).1 ∧ (valW c l).1 ≤ 255 := by
  unfold valW
  cases c == 109
  · exact plain_in _ _
  · exact way_in _
theorem oneV_ok {c : Int} {i : Nat} {v : List Int} (hv : goodV v) (w : ByteArray) (r : List ByteArray) (h : (oneV c i w r v).1 = 0) : goodV (oneV c i w r v).2.2 ∧ ∀ j, j ≠ i → (c = 105 → j ≠ i + 1) → (oneV c i w r v).2.2.getD j 0 = v.getD j 0 := by
  unfold oneV at h ⊢
  cases hc : (c == 105) with
  | false =>
    simp only [cond_false]
    exact ⟨hv.set i (val_in _ _), fun j hj _ => set_other hj _⟩
  | true =>
    have hc' : c = 105 := by simpa using hc
    rw [hc] at h
    simp only [cond_true] at h ⊢
    cases h1 : ((parseW w.data.toList).2 != 0) with
    | true => rw [h1, cond_true] at h; rw [bne_iff_ne] at h1; exact absurd h h1
    | false =>
      rw [h1, cond_false] at h
      simp only [cond_false]
      by_cases h2 : (parseW w.data.toList).1 < -32768
      · rw [decide_eq_true h2] at h; cases h
      · by_cases h3 : (parseW w.data.toList).1 > 32767
        · rw [decide_eq_false h2, decide_eq_true h3] at h; cases h
        · rw [decide_eq_false h2, decide_eq_false h3]
          exact ⟨(hv.set i (hiW_in ⟨by omega, by omega⟩)).set (i + 1) (loW_in _), fun j hj h5 => (set_other (h5 hc') _).trans (set_other hj _)⟩
theorem oneF_ok {c : Int} {i : Nat} {v : List Int} (hv : goodV v) (rem : List ByteArray) (h : (oneF c i v rem).1 = 0) : goodV (oneF c i v rem).2.2 ∧ ∀ j, j ≠ i → (c = 105 → j ≠ i + 1) → (oneF c i v rem).2.2.getD j 0 = v.getD j 0 := by
  cases rem with
  | nil =>
    unfold oneF at h ⊢
    cases hc : (c == 103) with
    | false => rw [hc] at h; cases h
    | true => exact ⟨hv.set i ⟨by decide, by decide⟩, fun j hj _ => set_other hj _⟩
  | cons w r =>
    unfold oneF at h ⊢
    cases hc : (c == 103) with
    | false => rw [hc, cond_false] at h; exact oneV_ok hv w r h
    | true =>
      rw [hc, cond_true] at h
      rw [cond_true]
      rcases Bool.eq_false_or_eq_true (w.data.toList == [105, 102]) with hw | hw
      rotate_left
      · simp only [hw] at h; cases h
      · simp only [hw, Bool.not_true, cond_false] at h ⊢
        cases r with
        | nil => cases h
        | cons w2 r2 => exact oneV_ok hv w2 r2 h

structure Iw (o : Int) (i : Nat) (v : List Int) : Prop where
  good : goodV v
  ok : ∀ j, j < i → j < 3 → wrongR (bAt (lineOf o).2.1 j) (v.getD j 0) = 0
  nul : ∀ j, i ≤ j → j < 3 → bAt (lineOf o).2.1 j ≠ 106 → v.getD j 0 = 0
theorem iw0 (o : Int) : Iw o 0 (List.replicate 3 0) := by
  refine ⟨⟨rfl, fun x hx => ?_⟩, fun j h => absurd h (by omega), fun j _ h _ => ?_⟩
  · rw [List.eq_of_mem_replicate hx]; exact ⟨Int.le_refl _, by decide⟩
  · match j, h with
    | 0, _ => rfl
    | 1, _ => rfl
    | 2, _ => rfl
theorem at105 {o : Int} (hf : opcode_fine.t o = true) {i : Nat} (hi : i < 3) (h : bAt (lineOf o).2.1 i = 105) : i = 1 ∧ bAt (lineOf o).2.1 2 = 106 := by
  obtain ⟨h0, h2, h1⟩ := line_i hf
  match i, hi, h with
  | 0, _, h => exact absurd h h0
  | 1, _, h => exact ⟨rfl, h1 h⟩
  | 2, _, h => exact absurd h h2
theorem iw_step {o : Int} (hf : opcode_fine.t o = true) {i : Nat} (hi : i < 3) {v : List Int} (hI : Iw o i v) (rem : List ByteArray) (h : (stepA (bAt (lineOf o).2.1 i) i v rem).1 = 0) : Iw o (i + 1) (stepA (bAt (lineOf o).2.1 i) i v rem).2.2 := by
  obtain ⟨c, hc⟩ : ∃ c, bAt (lineOf o).2.1 i = c := ⟨_, rfl⟩
  rw [hc] at h ⊢
  have same : (stepA c i v rem).2.2 = v → wrongR c (v.getD i 0) = 0 → Iw o (i + 1) (stepA c i v rem).2.2 := fun e hw => by
    rw [e]
    refine ⟨hI.good, fun j hj h3 => ?_, fun j hj h3 h6 => hI.nul j (by omega) h3 h6⟩
    rcases Nat.lt_or_ge j i with h1 | h1
    · exact hI.ok j h1 h3
    · rw [show j = i by omega, hc]; exact hw
  unfold stepA at h same ⊢
  cases h45 : (c == 45) with
  | true =>
    rw [h45] at same
    have e : c = 45 := by simpa using h45
    refine same rfl ?_
    rw [hI.nul i (Nat.le_refl _) hi (by rw [hc, e]; decide), e]; decide
  | false =>
    cases h106 : (c == 106) with
    | true =>
      rw [h45, h106] at same
      refine same rfl ?_
      have e : c = 106 := by simpa using h106
      have := hI.good.get i
      rw [e]; exact (wr_lo rfl).2 ⟨this.1, this.2⟩
    | false =>
      rw [h45, h106] at h
      simp only [cond_false] at h ⊢
      clear same
      cases h1 : ((oneF c i v rem).1 != 0) with
      | true => rw [h1, cond_true] at h; rw [bne_iff_ne] at h1; exact absurd h h1
      | false =>
        have h1' : (oneF c i v rem).1 = 0 := by simpa using h1
        obtain ⟨g1, g2⟩ := oneF_ok hI.good rem h1'
        rw [h1] at h
        simp only [cond_false] at h ⊢
        cases h2 : ((c == 103) && (!rem.isEmpty && decide ((oneF c i v rem).2.2.getD i 0 ≥ 8))) with
        | true => rw [h2] at h; cases h
        | false =>
          rw [h2] at h
          simp only [cond_false] at h ⊢
          cases h3 : (doneF c (oneF c i v rem).2.1 ((oneF c i v rem).2.2.getD i 0) != 0) with
          | true => rw [h3, cond_true] at h; rw [bne_iff_ne] at h3; exact absurd h h3
          | false =>
            have h3' : doneF c (oneF c i v rem).2.1 ((oneF c i v rem).2.2.getD i 0) = 0 := by simpa using h3
            simp only [cond_false]
            refine ⟨g1, fun j hj hj3 => ?_, fun j hj hj3 h6 => ?_⟩
            · rcases Nat.lt_or_ge j i with h7 | h7
              · rw [g2 j (by omega) (fun _ => by omega)]; exact hI.ok j h7 hj3
              · rw [show j = i by omega, hc]
                unfold doneF at h3'
                cases h8 : ((c == 103) && ((oneF c i v rem).2.1.isEmpty && ((oneF c i v rem).2.2.getD i 0 == 8))) with
                | false => rw [h8] at h3'; exact h3'
                | true =>
                  simp only [Bool.and_eq_true, beq_iff_eq] at h8
                  rw [h8.2.2, h8.1]; decide
            · rw [g2 j (by omega) (fun e => ?_)]
              · exact hI.nul j (by omega) hj3 h6
              · have := at105 hf hi (hc.trans e)
                intro e2
                apply h6
                rw [show j = 2 by omega]; exact this.2
theorem asm_step {o : Int} (hf : opcode_fine.t o = true) {i : Nat} (hi : i < 3) {v : List Int} (hI : Iw o i v) {rem : List ByteArray} (hr : ∀ w ∈ rem, w.size ≤ 1000000) (L cs : List Int) (g : In) (h2 : List ByteArray) :
    asm_Parse.g0 o L some (bAt (lineOf o).2.1 i :: cs) (i : Int) g (rem, (v, ())) h2 = bif (stepA (bAt (lineOf o).2.1 i) i v rem).1 != 0 then some (zIn, (stepA (bAt (lineOf o).2.1 i) i v rem).1) else asm_Parse.g0 o L some cs ((i + 1 : Nat) : Int) g ((stepA (bAt (lineOf o).2.1 i) i v rem).2.1, ((stepA (bAt (lineOf o).2.1 i) i v rem).2.2, ())) h2 := by
  have hlc := lcase hf i hi rfl
  have h105 := at105 hf hi
  have h3 := opfine_iff.1 hf
  obtain ⟨c, hc⟩ : ∃ c, bAt (lineOf o).2.1 i = c := ⟨_, rfl⟩
  rw [hc] at hlc h105 ⊢
  rw [asm_Parse.g0]
  unfold stepA
  cases h45 : (c == 45) with
  | true => rfl
  | false =>
    cases h106 : (c == 106) with
    | true => rfl
    | false =>
      have h45' : c ≠ 45 := by simpa using h45
      have h106' : c ≠ 106 := by simpa using h106
      have hu := one_u hi (fun e => by have := (h105 e).1; omega) (v := v) hr g h2 (c := c) (by omega)
      simp only [cond_false, hu, Option.bind_some]
      cases h1 : ((oneF c i v rem).1 != 0) with
      | true =>
        simp only [cond_true, h1]; rfl
      | false =>
        have h1' : (oneF c i v rem).1 = 0 := by simpa using h1
        obtain ⟨g1, g2⟩ := oneF_ok hI.good rem h1'
        obtain ⟨a, b, d, e, hx⟩ := g1.abd (o := o) ⟨by omega, by omega⟩
        have k0 : 0 < i → wrongR (bAt (lineOf o).2.1 0) a = 0 := fun h => by
          have h5 := g2 0 (by omega) (fun _ => by omega)
          have h6 := hI.ok 0 h (by omega)
          rw [← h5, e] at h6; exact h6
        have k1 : 1 < i → wrongR (bAt (lineOf o).2.1 1) b = 0 := fun h => by
          have h5 := g2 1 (by omega) (fun _ => by omega)
          have h6 := hI.ok 1 h (by omega)
          rw [← h5, e] at h6; exact h6
        have du := done_u hx hf hi k0 k1 g (oneF c i v rem).2.1 h2
        rw [hc, ← e] at du
        simp only [cond_false, du, Option.bind_some, idxOK_nat hi, cond_true, Int.toNat_natCast]
        have hlen : decide (((List.length rem : Nat) : Int) > 0) = !rem.isEmpty := by
          cases rem with
          | nil => rfl
          | cons w r => rw [List.length_cons]; exact decide_eq_true (by omega)
        rw [hlen]
        cases (c == 103) <;> cases (!rem.isEmpty) <;> cases (decide ((oneF c i v rem).2.2.getD i 0 ≥ 8)) <;> cases hD : (doneF c (oneF c i v rem).2.1 ((oneF c i v rem).2.2.getD i 0) != 0) <;> first | rfl | (simp only [Bool.false_and, Bool.true_and, cond_true, cond_false, hD]; rfl)
end Go.Proofs.YtmmooplcdkmapaaGreatDoor.K

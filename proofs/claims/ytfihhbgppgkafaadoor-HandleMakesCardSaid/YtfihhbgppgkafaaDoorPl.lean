/- handle.plain -/
import Derived.Test.YtfihhbgppgkafaaDoorS
import Derived.Tactics
import Derived.Tactics2
import Derived.StillTactics
import Derived.Laws.RangeString
import Derived.Laws.RangeAny
import Derived.Laws.Runes
import Derived.Laws.Strings
import Derived.Laws.Strings2
import Derived.Laws.Strings3
import Derived.Lib.OthersKept
import Derived.FnLit
import Derived.LoopTactic
set_option maxRecDepth 1000000
namespace Go.Proofs.YtfihhbgppgkafaaDoor.K
open Go Go.RowKit

/-- Are all runes from a place on digits? -/
def runesDig (s : ByteArray) : Nat → Nat → Bool
  | 0, _ => true
  | f + 1, pos => bif decide (pos < s.size) then (bif decide (((Utf8.decode s pos).1 : Int) < 48) || decide (((Utf8.decode s pos).1 : Int) > 57) then false else runesDig s f (pos + (Utf8.decode s pos).2)) else true
def handle_plain.t (s : ByteArray) : Bool := bif runesDig s s.size 0 then (s.data.toList == [48]) || ((!(s.data.toList == [])) && (bAt s 0 != 48)) else false

theorem dec_pos (s : ByteArray) (pos : Nat) (h : pos < s.size) : 1 ≤ (Utf8.decode s pos).2 := by
  by_cases ha : (s[pos]'h).toNat < 128
  · rw [decode_ascii s pos h ha]
    exact Nat.le_refl _
  · exact (decode_high s pos h (by omega)).2

theorem plain_walk (s : ByteArray) (w : World) :
    Calls Tryd.prog 87 #[.string s] w fun e w' => e = .returned (.bool (handle_plain.t s)) ∧ Below w.heap.size w w' := by
  go_enter Tryd.func87, Tryd.ntmps87
  go_wp2
  go_loopw [] (fun w' => ∃ (pos b : Nat), w'.heap[w.heap.size]? = some (.stringIter s pos) ∧ Below w.heap.size w w' ∧ Hid (runesDig s b pos = runesDig s s.size 0) ∧ s.size ≤ pos + b) (fun w' => s.size - w'.iterPos w.heap.size)
  case atStart => exact ⟨0, s.size, World.iter_heap w s 0, (Below.refl _ w).alloc (Nat.le_refl _) _, rfl, by omega⟩
  case round =>
    obtain ⟨pos, b, hit, hbw, HS, hb⟩ := hrel
    have hpos0 : wr.iterPos w.heap.size = pos := by simp [World.iterPos, hit]
    by_cases hp : pos < s.size
    · have hnx : ∀ ty, (Instr.next (.pointer (some ⟨w.heap.size, 0, none⟩)) true ty).run Tryd.prog wr = _ := fun ty => Lib.run_next_any_at wr w.heap.size s pos ty hit hp
      have hwd := dec_pos s pos hp
      obtain ⟨b', rfl⟩ : ∃ b', b = b' + 1 := ⟨b - 1, by omega⟩
      have hs := HS.out
      simp only [runesDig, hp, decide_true, cond_true] at hs
      obtain ⟨R, hR⟩ : ∃ R, (Utf8.decode s pos).1 = R := ⟨_, rfl⟩
      obtain ⟨K, hK⟩ : ∃ K, (Utf8.decode s pos).2 = K := ⟨_, rfl⟩
      rw [hR, hK] at hnx hs
      rw [hK] at hwd
      have hit2 := Lib.iterAt_heap wr w.heap.size s pos (pos + K) hit
      have hbw2 := Lib.below_iterAt hbw (k := w.heap.size) (Nat.le_refl _) s (pos + K)
      obtain ⟨W, hW⟩ : ∃ W, wr.iterAt w.heap.size s (pos + K) = W := ⟨_, rfl⟩
      rw [hW] at hnx hit2 hbw2
      by_cases h1 : (R : Int) < 48
      · simp only [h1, decide_true, Bool.true_or, cond_true] at hs
        go_wp2
        go_ret
        exact ⟨by unfold handle_plain.t; rw [← hs]; rfl, hbw2⟩
      · by_cases h2 : (R : Int) > 57
        · simp only [h2, decide_true, Bool.or_true, cond_true] at hs
          go_wp2
          go_ret
          exact ⟨by unfold handle_plain.t; rw [← hs]; rfl, hbw2⟩
        · simp only [h1, h2, decide_false, Bool.or_false, cond_false] at hs
          go_wp2
          go_roundw
          case rel => exact ⟨pos + K, b', hit2, hbw2, hs, by omega⟩
          case measure =>
            have : W.iterPos w.heap.size = pos + K := by simp [World.iterPos, hit2]
            rw [this, hpos0]; omega
    · have hnx : ∀ ty, (Instr.next (.pointer (some ⟨w.heap.size, 0, none⟩)) true ty).run Tryd.prog wr = _ := fun ty => Lib.run_next_end_at wr w.heap.size s pos ty hit hp
      have hs : runesDig s s.size 0 = true := by
        rw [← HS.out]
        cases b with
        | zero => rfl
        | succ b => simp [runesDig, hp]
      clear HS
      go_wp2
      · rename_i h1
        go_ret
        refine ⟨?_, hbw⟩
        unfold handle_plain.t
        rw [hs, ← Lib.toList_data, h1]
        rfl
      · rename_i h1 h2
        go_ret
        refine ⟨?_, hbw⟩
        unfold handle_plain.t
        rw [hs, ← Lib.toList_data, h2]
        rfl
      · rename_i h1 h2 h3
        go_ret
        refine ⟨?_, hbw⟩
        unfold handle_plain.t
        have e2 : s.toList.isEmpty = false := by cases hl : s.toList with | nil => exact absurd hl h2 | cons _ _ => rfl
        have e3 : bAt s 0 = (((s[0]'h3).toNat : Nat) : Int) := by
          unfold bAt
          have : s.data.toList[0]? = some (s[0]'h3) := by
            rw [Array.getElem?_toList, Array.getElem?_eq_getElem (show 0 < s.data.size from h3)]; rfl
          rw [List.getD_eq_getElem?_getD, this]; rfl
        rw [hs, ← Lib.toList_data, beq_eq_false_iff_ne.2 h1, beq_eq_false_iff_ne.2 h2, e3]
        show Ending.returned (Value.bool (!s.toList.isEmpty && ((((s[0]'h3).toNat : Nat) : Int) != 48))) = _
        rw [e2]
        rfl
      · rename_i h1 h2 h3 h4 h5
        exfalso
        apply h2
        rw [Lib.toList_data]
        exact List.eq_nil_of_length_eq_zero (by rw [← Lib.size_eq]; omega)

theorem handle_plain.c (s : ByteArray) : Contract C 87 [.v .str s] (tupAV .bool [] (handle_plain.t s)) where
  enters us w := enters_fn (P := Tryd.prog) (fn := Tryd.f87) (by kernel_rfl) (by kernel_rfl) (by kernel_rfl) us w
  runs w S us hlt hG hr := by
    simp only [RepAs] at hr
    obtain ⟨u, q, rfl, h1, rfl⟩ := hr
    rw [rep_str] at h1
    subst h1
    refine (plain_walk s w).mono ?_
    rintro e w' ⟨rfl, hb⟩
    exact ⟨_, S, rfl, hb, safe_of_below hlt hb, fun b o hs => ⟨.inl hs, Nat.lt_of_lt_of_le (hlt b o hs) hb.size⟩, rep_bool.2 rfl⟩
noncomputable def handle_plain.e : Ent := argI .str fun x0 => endT (tupAV .bool [] (handle_plain.t x0))
theorem handle_plain.e_ok : EntOK C 87 (fun {_} => handle_plain.e) := entA_ok (argI_ok fun x0 => endT_ok (handle_plain.c x0))
end Go.Proofs.YtfihhbgppgkafaaDoor.K

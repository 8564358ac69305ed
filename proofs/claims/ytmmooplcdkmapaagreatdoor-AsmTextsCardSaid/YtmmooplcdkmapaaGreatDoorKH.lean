/- slices.Compact: a row of one's own, cut. -/
import Derived.Test.YtmmooplcdkmapaaGreatDoorKG
import Derived.Lib.SlicesCompact
set_option maxHeartbeats 400000
set_option linter.unusedVariables false
set_option linter.unusedSimpArgs false
namespace Go.Proofs.YtmmooplcdkmapaaGreatDoor.K
open Go Go.RowKit

section
variable {B : Nat} {m : Nat → Value} {L : Heap} {w w' : World} {S S' : Nat → Nat → Prop}
/-- A row's first part, as a row of its own; the row is gone. -/
theorem Goes.cut (hI : Inv B m L w S) {id b cap : Nat} {t : TypeId} {e : ETy} {xs : List e.I} (hid : L[id]? = some (.row t e xs false)) (hm : m id = .slice (some ⟨b, 0, none⟩) xs.length cap) {n : Nat} (hn : n ≤ xs.length) (X : Nat → Bool) :
    Goes B X m L w S (upd m L.length (.slice (some ⟨b, 0, none⟩) n cap)) (L.set id .gone ++ [.row t e (xs.take n) false]) w S ∧
    RepA (upd m L.length (.slice (some ⟨b, 0, none⟩) n cap)) (L.set id .gone ++ [.row t e (xs.take n) false]) w S (.rs L.length) (.slice (some ⟨b, 0, none⟩) n cap) := by
  have hlt : id < L.length := (List.getElem?_eq_some_iff.1 hid).1
  have hbm : blk (m id) = some b := by rw [hm]; rfl
  have get : ∀ {j : Nat} {s : Slot}, (L.set id Slot.gone ++ [.row t e (xs.take n) false])[j]? = some s → s.live = true → (j = L.length ∧ s = .row t e (xs.take n) false) ∨ (j ≠ L.length ∧ j ≠ id ∧ L[j]? = some s) := by
    intro j s h hl
    rcases Nat.lt_or_ge j L.length with hj | hj
    · rw [List.getElem?_append_left (by simpa using hj), get_set ⟨_, hid⟩] at h
      split at h
      · cases h; cases hl
      · rename_i hne; exact .inr ⟨by omega, hne, h⟩
    · rw [List.getElem?_append_right (by simpa using hj), List.length_set] at h
      rcases Nat.eq_or_lt_of_le hj with e' | e'
      · rw [e', Nat.sub_self] at h
        simp only [List.getElem?_cons_zero, Option.some.injEq] at h
        exact .inl ⟨e'.symm, h.symm⟩
      · rw [List.getElem?_eq_none (by simp; omega)] at h; cases h
  have new : (L.set id Slot.gone ++ [.row t e (xs.take n) false])[L.length]? = some (.row t e (xs.take n) false) := by simp
  have hnS : ∀ o, ¬ S b o := fun o h => by
    have := ((hI.prot b o h).2 id _ hid rfl (in_blk hbm)).1
    cases this
  have far : ∀ {j : Nat} {s : Slot}, j ≠ id → L[j]? = some s → s.live = true → b ∈ blks (m j) → False := by
    intro j s hj hs hl hb
    exact hI.apart j id s _ hj hs hid hl rfl b hb (in_blk hbm)
  have he : ∀ X, Ext X m L (upd m L.length (.slice (some ⟨b, 0, none⟩) n cap)) (L.set id .gone ++ [.row t e (xs.take n) false]) := by
    intro X
    refine ⟨?_⟩
    intro j s hs hr
    have hj : j < L.length := (List.getElem?_eq_some_iff.1 hs).1
    by_cases e' : j = id
    · subst e'
      refine ⟨.gone, by rw [List.getElem?_append_left (by simpa using hj), get_set ⟨_, hid⟩, if_pos rfl], by simp, ?_, ?_, ?_⟩
      · intro T h; cases h
      · intro o h; cases h
      · intro t e xs ro _ h; cases h
    · exact ⟨s, by rw [List.getElem?_append_left (by simpa using hj), get_set ⟨_, hid⟩, if_neg e']; exact hs, hr, fun T h => ⟨upd_ne (by omega), h⟩, fun o h => ⟨fun u sv h => ⟨sv, by rw [upd_ne (by omega)]; exact h⟩, o, h⟩, fun t e xs ro _ h => ⟨upd_ne (by omega), xs, ro, h, Nat.le_refl _⟩⟩
  refine ⟨⟨⟨hI.base, ?_, ?_, ?_, ?_, ?_, ?_⟩, Safe.refl _ _, Below.refl _ _, he X, fun _ _ h => .inl h⟩, ?_⟩
  · intro j T x ro h
    rcases get h rfl with ⟨_, h'⟩ | ⟨h1, h2, h3⟩
    · cases h'
    · rw [upd_ne h1]; exact hI.box j T x ro h3
  · intro j t' e' ys ro h
    rcases get h rfl with ⟨h1, h'⟩ | ⟨h1, h2, h3⟩
    · cases h'
      subst h1
      rw [upd_same]
      obtain ⟨cs, ho, hr⟩ := hI.row id t e xs false hid
      rw [hm] at ho
      have hlen : (xs.take n).length = n := by simp; omega
      refine ⟨cs.take (n * e.size), ?_, (RepL.take (s := e.size) (fun x c h => RepC.length h) n hr).1⟩
      rw [hlen]
      rcases ho.2 with ⟨hv, _⟩ | ⟨g, cap', cur, hv, hB, hh, hle, hmx, hcur, htk⟩
      · cases hv
      · cases hv
        have hml : n * e.size ≤ xs.length * e.size := Nat.mul_le_mul_right _ hn
        refine ⟨?_, .inr ⟨b, cap, cur, rfl, hB, hh, Nat.le_trans hn hle, hmx, hcur, ?_⟩⟩
        · rw [List.length_take, ho.1]; omega
        · rw [← htk, List.take_take]; congr 1; omega
    · rw [upd_ne h1]; exact hI.row j t' e' ys ro h3
  · intro j o h
    rcases get h rfl with ⟨_, h'⟩ | ⟨h1, h2, h3⟩
    · cases h'
    · rw [upd_ne h1]; exact hI.obj j o h3
  · intro j T x q h
    rcases get h rfl with ⟨_, h'⟩ | ⟨h1, h2, h3⟩
    · cases h'
    · rw [upd_ne h1]
      exact (hI.lbx j T x q h3).same (Safe.refl _ _) (he _) fun _ _ => rfl
  · intro i j s r hne h1 h2 l1 l2
    rcases get h1 l1 with ⟨p1, rfl⟩ | ⟨p1, p2, p3⟩ <;> rcases get h2 l2 with ⟨q1, rfl⟩ | ⟨q1, q2, q3⟩
    · exact absurd (p1.trans q1.symm) hne
    · subst p1
      rw [upd_same, upd_ne q1]
      intro b' hb h
      have : b' = b := by simpa [blks, blk] using hb
      subst this
      exact far q2 q3 l2 h
    · subst q1
      rw [upd_same, upd_ne p1]
      intro b' h hb
      have : b' = b := by simpa [blks, blk] using hb
      subst this
      exact far p2 p3 l1 h
    · rw [upd_ne p1, upd_ne q1]; exact hI.apart i j s r hne p3 q3 l1 l2
  · intro b' o h
    obtain ⟨p1, p2⟩ := hI.prot b' o h
    refine ⟨p1, fun i s hs hl hb => ?_⟩
    rcases get hs hl with ⟨q1, rfl⟩ | ⟨q1, q2, q3⟩
    · subst q1
      rw [upd_same] at hb
      have : b' = b := by simpa [blks, blk] using hb
      subst this
      exact absurd h (hnS o)
    · rw [upd_ne q1] at hb; exact p2 i s q3 hl hb
  · simp only [RepA]
    refine ⟨_, new, by simp, fun t' e' ys ro h => ?_⟩
    exact (upd_same _ _ _).symm
end

/-- What slices.Compact leaves. -/
def compI (xs : List Int) : List Int := Lib.compactUpTo xs.toArray xs.length
theorem compI_len (xs : List Int) : (compI xs).length ≤ xs.length := by
  unfold compI Lib.compactUpTo
  rw [List.length_map]
  exact Nat.le_trans (List.length_filter_le _ _) (by simp)
theorem compact_does {C : Cfg} {g : FuncId} {L : Heap} {id : Nat} {t : TypeId} {xs : List Int} (hid : L[id]? = some (.row t (.int .i64) xs false)) (h0 : xs ≠ []) (hsz : xs.length ≤ 9223372036854775807)
    (he : ∀ (us : Array Value) (w : World), (callFunc g us).run C.P w = .ok (.enter g us) w)
    (hs : ∀ (blk cap : Nat) (d : Array Int) (w : World), Go.Sort.Holds (Value.int .i64) w blk 0 d → d.size ≤ 9223372036854775807 → d.size ≤ cap → Calls C.P g #[.slice (some ⟨blk, 0, none⟩) d.size cap] w fun e w' => e = .returned (.slice (some ⟨blk, 0, none⟩) (Lib.compactUpTo d d.size).length cap) ∧ ∃ q, w' = Go.Sort.putRow (Value.int .i64) (Go.Sort.ahead w q) blk 0 (Lib.compactUpTo d d.size ++ List.replicate (d.size - (Lib.compactUpTo d d.size).length) (0 : Int)).toArray) :
    CallDoes C g [.rs id] L (.rs L.length) (L.set id .gone ++ [.row t (.int .i64) (compI xs) false]) := by
  have hlt : id < L.length := (List.getElem?_eq_some_iff.1 hid).1
  refine ⟨he, fun j hj => keeps_more j (keeps_set hid (by simp) j hj), fun B m w S us hI hG hr => ?_⟩
  simp only [RepAs] at hr
  obtain ⟨u, q, rfl, h1, rfl⟩ := hr
  simp only [RepA] at h1
  obtain ⟨sl, e1, _, e3⟩ := h1
  rw [hid] at e1; cases e1
  obtain rfl := e3 t (.int .i64) xs false rfl
  obtain ⟨cs, ho, hrep, hm⟩ := row_addr hI hid
  rcases hm with ⟨hm, rfl⟩ | ⟨b, cap, hm, hb, hcap, hmx⟩
  · exact absurd rfl h0
  · have hcs := repL_ints_eq hrep
    rw [hm]
    refine (hs b cap xs.toArray w (holds_row hI hid hm ho (Value.int .i64) xs.toArray (by simp [hcs])) hsz hcap).mono ?_
    rintro e w' ⟨rfl, n, rfl⟩
    have hle := compI_len xs
    have hcomp : Lib.compactUpTo xs.toArray xs.toArray.size = compI xs := rfl
    rw [hcomp]
    obtain ⟨zs, hz⟩ : ∃ zs : List Int, zs = compI xs ++ List.replicate (xs.toArray.size - (compI xs).length) (0 : Int) := ⟨_, rfl⟩
    have hlen : zs.length = xs.length := by rw [hz, List.length_append, List.length_replicate, List.size_toArray]; omega
    have htk : zs.take (compI xs).length = compI xs := by rw [hz]; exact List.take_left
    rw [← hz]
    have g1 := Goes.relaid (e := .int .i64) (xs' := zs) hI hid hm (Value.int .i64) zs.toArray n #[] (by simp [ETy.size, hlen]) hlen (repL_ints zs) (fun _ => false)
    rw [Go.Sort.grow_empty] at g1
    have hid1 : (L.set id (Slot.row t (.int .i64) zs false))[id]? = some (.row t (.int .i64) zs false) := by rw [get_set ⟨_, hid⟩, if_pos rfl]
    have g2 := Goes.cut (n := (compI xs).length) g1.inv hid1 (hm.trans (by rw [show List.length zs = xs.length from hlen])) (by rw [show List.length zs = xs.length from hlen]; exact hle) (fun _ => false)
    rw [List.set_set, List.length_set, show List.take (compI xs).length zs = compI xs from htk] at g2
    exact ⟨_, _, S, rfl, g1.trans g2.1, g2.2⟩
def compFx {Ω : Type} (vs : List AV) (L : Heap) (k : AV → Heap → Option Ω) : Option Ω :=
  match vs with
  | [.rs id] => match L[id]? with
    | some (.row t e xs ro) => bif ro then none else match e, xs with
      | .int .i64, xs => bif decide (0 < List.length xs) && decide (List.length xs ≤ rowMax) then k (.rs L.length) (L.set id .gone ++ [.row t (.int .i64) (compI xs) false]) else none
      | _, _ => none
    | _ => none
  | _ => none
theorem compFx_ok {C : Cfg} {g : FuncId} (he : ∀ (us : Array Value) (w : World), (callFunc g us).run C.P w = .ok (.enter g us) w)
    (hs : ∀ (blk cap : Nat) (d : Array Int) (w : World), Go.Sort.Holds (Value.int .i64) w blk 0 d → d.size ≤ 9223372036854775807 → d.size ≤ cap → Calls C.P g #[.slice (some ⟨blk, 0, none⟩) d.size cap] w fun e w' => e = .returned (.slice (some ⟨blk, 0, none⟩) (Lib.compactUpTo d d.size).length cap) ∧ ∃ q, w' = Go.Sort.putRow (Value.int .i64) (Go.Sort.ahead w q) blk 0 (Lib.compactUpTo d d.size ++ List.replicate (d.size - (Lib.compactUpTo d d.size).length) (0 : Int)).toArray) : FxOK C g (fun {_} => compFx) := by
  intro Ω vs L k r h
  replace h : compFx vs L k = some r := h
  unfold compFx at h
  split at h
  · rename_i id
    split at h
    · rename_i t e xs ro hid
      cases ro with
      | true => cases h
      | false =>
        rw [cond_false] at h
        split at h
        · rename_i xs'
          obtain ⟨hp, hq⟩ := ite_some h
          simp only [Bool.and_eq_true, decide_eq_true_eq] at hp
          have hp2 := hp.2
          unfold rowMax at hp2
          exact ⟨_, _, hq, compact_does hid (fun e => by have := hp.1; rw [e] at this; cases this) (Nat.le_trans hp2 (by decide)) he hs⟩
        · cases h
    · cases h
  · cases h
end Go.Proofs.YtmmooplcdkmapaaGreatDoor.K

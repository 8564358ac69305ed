/- What functions of the program come to, and their laws. -/
import Derived.Test.YtlcomipbinfooaaGreatDoorKE
import Derived.Shelf.SlicesE.Clone
import Derived.Sort.Row
import Derived.Sort.Grow
import Derived.Laws.OwnMore
import Derived.Shelf.GgSortFunc.InsertionK
import Derived.Lib.SlicesCompact
import Derived.Shelf.Strings.Builder1
import Derived.Maps.AppendAt
import Derived.RangeFuncNested
import Derived.RangeFuncBound
import Derived.RangeFuncCalls
import Derived.RangeFuncLeaves
import Derived.Lib.SliceRun
import Derived.Deep.RegionLaw
import Derived.Shelf.RegionOpenPlain
import Derived.Deep.LoopGhost
import Derived.Lib.Walk
namespace Go.Proofs.YtlcomipbinfooaaGreatDoor.K
open Go Go.RowKit
section
set_option linter.unusedVariables false
set_option linter.unusedSimpArgs false
set_option maxHeartbeats 400000
def insB {α : Type} (le : α → α → Bool) (x : α) : List α → List α
  | [] => [x]
  | y :: l => bif le x y then x :: y :: l else y :: insB le x l
def sortB {α : Type} (le : α → α → Bool) : List α → List α
  | [] => []
  | x :: l => insB le x (sortB le l)
section
variable {α : Type} {le : α → α → Bool}
theorem insB_perm (x : α) : ∀ l, (insB le x l).Perm (x :: l)
  | [] => List.Perm.refl _
  | y :: l => by
    unfold insB
    cases le x y with
    | true => exact List.Perm.refl _
    | false => exact ((insB_perm x l).cons y).trans (List.Perm.swap x y l)
theorem sortB_perm : ∀ l : List α, (sortB le l).Perm l
  | [] => List.Perm.refl _
  | x :: l => (insB_perm x _).trans ((sortB_perm l).cons x)
theorem sortB_length (l : List α) : (sortB le l).length = l.length := (sortB_perm l).length_eq
theorem insB_sorted (ht : ∀ a b c, le a b = true → le b c = true → le a c = true) (hT : ∀ a b, le a b = true ∨ le b a = true) (x : α) : ∀ l, l.Pairwise (fun a b => le a b = true) → (insB le x l).Pairwise (fun a b => le a b = true)
  | [], _ => by simp [insB]
  | y :: l, h => by
    obtain ⟨h1, h2⟩ := List.pairwise_cons.1 h
    unfold insB
    cases hxy : le x y with
    | true =>
      refine List.pairwise_cons.2 ⟨fun z hz => ?_, h⟩
      rcases List.mem_cons.1 hz with rfl | hz
      · exact hxy
      · exact ht _ _ _ hxy (h1 z hz)
    | false =>
      refine List.pairwise_cons.2 ⟨fun z hz => ?_, insB_sorted ht hT x l h2⟩
      rcases List.mem_cons.1 ((insB_perm x l).mem_iff.1 hz) with rfl | hz
      · rcases hT z y with h | h
        · rw [h] at hxy; cases hxy
        · exact h
      · exact h1 z hz
theorem sortB_sorted (ht : ∀ a b c, le a b = true → le b c = true → le a c = true) (hT : ∀ a b, le a b = true ∨ le b a = true) : ∀ l : List α, (sortB le l).Pairwise (fun a b => le a b = true)
  | [] => List.Pairwise.nil
  | x :: l => insB_sorted ht hT x _ (sortB_sorted ht hT l)
theorem sortB_eq (ht : ∀ a b c, le a b = true → le b c = true → le a c = true) (hT : ∀ a b, le a b = true ∨ le b a = true) (ha : ∀ a b, le a b = true → le b a = true → a = b) (l : List α) : l.mergeSort le = sortB le l := by
  refine List.Perm.eq_of_pairwise (le := fun a b => le a b = true) (fun a b _ _ h1 h2 => ha a b h1 h2) ?_ (sortB_sorted ht hT l) ((List.mergeSort_perm l le).trans (sortB_perm l).symm)
  exact List.pairwise_mergeSort ht (fun a b => by rcases hT a b with h | h <;> simp [h]) l
end
def leI (x y : Int) : Bool := decide (x ≤ y)
theorem sortI_eq (l : List Int) : l.mergeSort (fun x y => decide (x ≤ y)) = sortB leI l :=
  sortB_eq (le := leI) (fun a b c h1 h2 => by simp only [leI, decide_eq_true_eq] at *; omega) (fun a b => by simp only [leI, decide_eq_true_eq]; omega) (fun a b h1 h2 => by simp only [leI, decide_eq_true_eq] at *; omega) l
section
variable {C : Cfg} {B : Nat} {m : Nat → Value} {L : Heap} {w w' : World} {S S' : Nat → Nat → Prop}
theorem wrote_mapBlock {b : Nat} {cur : Array Value} {t : TypeId} {fr : Nat × Nat} {f : Array Value → Array Value} (h : w.heap[b]? = some (.cells cur t fr)) : Wrote b (f cur).toList t fr w (Go.Sort.mapBlock w b f) := by
  constructor
  case here => simp only [Go.Sort.mapBlock, Array.getElem?_modify, h]; simp [Go.Sort.onCells]
  case there => intro k hk; simp only [Go.Sort.mapBlock, Array.getElem?_modify]; rw [if_neg (fun e => hk e.symm)]
  all_goals first
    | rfl
    | simp [Go.Sort.mapBlock]
theorem take_putCells {α : Type} [Inhabited α] (enc : α → Value) (d : Array α) (cur : Array Value) (h : d.size ≤ cur.size) : (Go.Sort.putCells enc 0 d cur).toList.take d.size = d.toList.map enc := by
  apply List.ext_getElem?
  intro i
  rw [List.getElem?_take]
  simp only [Go.Sort.putCells, Array.toList_mapIdx, List.getElem?_mapIdx, List.getElem?_map, Nat.zero_le, true_and, Nat.zero_add, Nat.sub_zero, Array.getElem?_toList]
  by_cases hi : i < d.size
  · rw [if_pos hi]
    rw [Array.getElem?_eq_getElem (show i < cur.size by omega), Array.getElem?_eq_getElem hi]
    simp only [Option.map_some, if_pos hi]
    rw [getElem!_pos d i hi]
  · rw [if_neg hi, Array.getElem?_eq_none (by omega)]; rfl
theorem grows_sort (w : World) (n : Nat) (os : Array Obj) : Grows w (Go.Sort.grow (Go.Sort.ahead w n) os) :=
  ⟨rfl, rfl, rfl, by simp [Go.Sort.grow, Go.Sort.ahead], fun k hk => by simp only [Go.Sort.grow, Go.Sort.ahead]; exact Array.getElem?_append_left hk⟩
theorem Goes.relaid (hI : Inv B m L w S) {id b cap : Nat} {t : TypeId} {e : ETy} {xs xs' : List e.I} (hid : L[id]? = some (.row t e xs false)) (hm : m id = .slice (some ⟨b, 0, none⟩) xs.length cap) {α : Type} [Inhabited α] (enc : α → Value) (d : Array α) (n : Nat) (os : Array Obj)
    (hd : d.size = xs.length * e.size) (hl : xs'.length = xs.length) (hr : RepL (RepC w S e) xs' (d.toList.map enc)) (X : Nat → Bool) :
    Goes B X m L w S m (L.set id (.row t e xs' false)) (Go.Sort.grow (Go.Sort.putRow enc (Go.Sort.ahead w n) b 0 d) os) S := by
  obtain ⟨cs, ho, _⟩ := hI.row id t e xs false hid
  rw [hm] at ho
  rcases ho.2 with ⟨h, _⟩ | ⟨g, cap', cur, hv, hB, hh, hle, hmx, hcur, htk⟩
  · cases h
  · cases hv
    have hw : Wrote b (Go.Sort.putCells enc 0 d cur).toList t (0, 0) w (Go.Sort.putRow enc w b 0 d) := wrote_mapBlock hh
    have hle' : d.size ≤ cur.size := by rw [hd, hcur]; exact Nat.mul_le_mul_right _ hle
    have g1 := Goes.wrote (s' := .row t e xs' false) hI hid rfl rfl (by rw [hm]; rfl) hw ⟨rfl, by simp [Slot.cells, hl]⟩ (by intro T x ro h; cases h) (by
      intro t' e' ys ro h
      cases h
      refine ⟨⟨xs, rfl, hl.symm⟩, d.toList.map enc, ?_, hr⟩
      refine ⟨by simp [hd, hl], .inr ⟨b, cap, _, by rw [hm, hl], hB, hw.here, by rw [hl]; exact hle, hmx, ?_, ?_⟩⟩
      · simpa [Go.Sort.putCells] using hcur
      · rw [hl, ← hd, ← take_putCells enc d cur hle']) X
    have e1 : Go.Sort.putRow enc (Go.Sort.ahead w n) b 0 d = Go.Sort.ahead (Go.Sort.putRow enc w b 0 d) n := Go.Sort.putRow_ahead _ _ _ _ _ _
    rw [e1]
    exact g1.trans (Goes.grows g1.inv (grows_sort _ n os) X)
theorem holds_row (hI : Inv B m L w S) {id b cap : Nat} {t : TypeId} {e : ETy} {xs : List e.I} (hid : L[id]? = some (.row t e xs false)) (hm : m id = .slice (some ⟨b, 0, none⟩) xs.length cap) {cs : List Value} (ho : w.ownsRow B t e.size (m id) xs.length cs) {α : Type} [Inhabited α] (enc : α → Value) (d : Array α) (hc : d.toList.map enc = cs) : Go.Sort.Holds enc w b 0 d := by
  subst hc
  rw [hm] at ho
  intro j hj
  have h1 := ho.cells (g := b) rfl j (enc d[j]!) (by
    rw [List.getElem?_map, Array.getElem?_toList, Array.getElem?_eq_getElem hj, getElem!_pos d j hj]; rfl)
  rw [add_at] at h1
  have h2 := ho.frozenAt (0 + j)
  exact ⟨h1, h2⟩
theorem row_addr (hI : Inv B m L w S) {id : Nat} {t : TypeId} {e : ETy} {xs : List e.I} {ro : Bool} (hid : L[id]? = some (.row t e xs ro)) : ∃ cs, w.ownsRow B t e.size (m id) xs.length cs ∧ RepL (RepC w S e) xs cs ∧ ((m id = .slice none 0 0 ∧ xs = []) ∨ ∃ b cap, m id = .slice (some ⟨b, 0, none⟩) xs.length cap ∧ b < w.heap.size ∧ xs.length ≤ cap ∧ xs.length ≤ maxLen) := by
  obtain ⟨cs, ho, hr⟩ := hI.row id t e xs ro hid
  refine ⟨cs, ho, hr, ?_⟩
  rcases ho.2 with ⟨h, h0⟩ | ⟨g, cap, cur, hv, hB, hh, hle, hmx, _⟩
  · exact .inl ⟨h, List.eq_nil_of_length_eq_zero h0⟩
  · exact .inr ⟨g, cap, hv, (Array.getElem?_eq_some_iff.1 hh).1, hle, Nat.le_trans hle hmx⟩
theorem keeps_set {id : Nat} {s s' : Slot} (hid : L[id]? = some s) (hs : s ≠ .resv) (j : Nat) (h : L[j]? = some .resv) : (L.set id s')[j]? = some .resv := by
  rw [get_set ⟨_, hid⟩]
  split
  · rename_i e; subst e; rw [hid] at h; cases h; exact absurd rfl hs
  · exact h
end
theorem sort_does {C : Cfg} {g : FuncId} {L : Heap} {id : Nat} {t : TypeId} {xs : List Int} (hid : L[id]? = some (.row t (.int .i64) xs false))
    (he : ∀ (us : Array Value) (w : World), (callFunc g us).run C.P w = .ok (.enter g us) w)
    (hs : ∀ (blk cap : Nat) (zs : List Int) (w : World), Go.Sort.Holds (Value.int .i64) w blk 0 zs.toArray → blk < w.heap.size → zs.length < 4611686018427387904 → Calls C.P g #[.slice (some ⟨blk, 0, none⟩) zs.length cap] w fun e w' => e = .returned (.tuple #[]) ∧ ∃ n os, w' = Go.Sort.grow (Go.Sort.putRow (Value.int .i64) (Go.Sort.ahead w n) blk 0 (zs.mergeSort fun x y => decide (x ≤ y)).toArray) os)
    (hn : ∀ (p : Option Addr) (cap : Nat) (w : World), Calls C.P g #[.slice p 0 cap] w fun e w' => e = .returned (.tuple #[]) ∧ w' = w) (hsz : xs.length < 4611686018427387904) :
    CallDoes C g [.rs id] L (.tup []) (L.set id (.row t (.int .i64) (sortB leI xs) false)) := by
  refine ⟨he, fun j hj => keeps_set hid (by simp) j hj, fun B m w S us hI hG hr => ?_⟩
  simp only [RepAs] at hr
  obtain ⟨u, q, rfl, h1, rfl⟩ := hr
  simp only [RepA] at h1
  obtain ⟨sl, e1, _, e3⟩ := h1
  rw [hid] at e1; cases e1
  obtain rfl := e3 t (.int .i64) xs false rfl
  obtain ⟨cs, ho, hrep, hm⟩ := row_addr hI hid
  rcases hm with ⟨hm, rfl⟩ | ⟨b, cap, hm, hb, hcap, hmx⟩
  · rw [hm]
    refine (hn none 0 w).mono ?_
    rintro e w' ⟨rfl, rfl⟩
    refine ⟨_, m, S, rfl, ?_, by simp only [RepA]; exact ⟨[], rfl, by simp only [RepAs]⟩⟩
    have : L.set id (.row t (.int .i64) (sortB leI []) false) = L := by
      obtain ⟨hlt, hg⟩ := List.getElem?_eq_some_iff.1 hid
      exact List.ext_getElem (by simp) (fun i h1 h2 => by rw [List.getElem_set]; split <;> simp_all [sortB])
    rw [this]
    exact Goes.grows hI (Grows.refl _) _
  · rw [hm]
    have hcs := repL_ints_eq hrep
    refine (hs b cap xs w (holds_row hI hid hm ho (Value.int .i64) xs.toArray (by simp [hcs])) hb hsz).mono ?_
    rintro e w' ⟨rfl, n, os, rfl⟩
    refine ⟨_, m, S, rfl, ?_, by simp only [RepA]; exact ⟨[], rfl, by simp only [RepAs]⟩⟩
    rw [sortI_eq]
    refine Goes.relaid hI hid hm (Value.int .i64) _ n os ?_ (sortB_length xs) ?_ _
    · simp [ETy.size]; exact sortB_length xs
    · exact repL_ints _
section
variable {B : Nat} {m : Nat → Value} {L : Heap} {w w' : World} {S S' : Nat → Nat → Prop}
theorem keeps_more {s : Slot} (j : Nat) (h : L[j]? = some .resv) : (L ++ [s])[j]? = some .resv := by
  rw [List.getElem?_append_left (List.getElem?_eq_some_iff.1 h).1]; exact h
end
theorem clone_does {C : Cfg} {g : FuncId} {L : Heap} {a : AV} {te : TypeId} {e : ETy} {xs : List e.I} (hl : liftA L (.slice e) a = some xs) (hlen : xs.length ≤ rowMax)
    (he : ∀ (us : Array Value) (w : World), (callFunc g us).run C.P w = .ok (.enter g us) w)
    (hc : ∀ (ad : Addr) (n c : Nat) (news : List Value) (w : World), news.length = n * e.size → n ≤ rowMax → (∀ j u, news[j]? = some u → w.cell? (ad.add j) = some u) → (∀ u ∈ news, u.oneCell' = true) → Calls C.P g #[.slice (some ad) n c] w fun e' w' => ∃ v', e' = .returned v' ∧ w'.ownsRow w.heap.size te e.size v' n news ∧ Below w.heap.size w w')
    (hn : ∀ (n c : Nat) (w : World), Calls C.P g #[.slice none n c] w fun e w' => e = .returned (.slice none 0 0) ∧ w' = w) :
    CallDoes C g [a] L (.rs L.length) (L ++ [.row te e xs false]) := by
  refine ⟨he, fun j hj => keeps_more j hj, fun B m w S us hI hG hr => ?_⟩
  simp only [RepAs] at hr
  obtain ⟨u, q, rfl, h1, rfl⟩ := hr
  obtain ⟨A, c, rfl, hsrc⟩ := src_rep hI h1 hl
  cases A with
  | none =>
    have hxs : xs = [] := by
      rcases hsrc with h | ⟨_, _, _, h, _⟩
      · exact h
      · cases h
    subst hxs
    refine (hn _ c w).mono ?_
    rintro e' w' ⟨rfl, rfl⟩
    have := Goes.more hI (Grows.refl w') (t := te) (e := e) (xs := []) (v := .slice none 0 0) (World.ownsRow_nil w' _ te e.size) rfl (fun _ => false)
    exact ⟨_, _, S, rfl, this.1, this.2⟩
  | some ad =>
    obtain ⟨ds, h2, h3⟩ : ∃ ds, RepL (RepC w S e) xs ds ∧ ∀ j u, ds[j]? = some u → w.cell? (ad.add j) = some u := by
      rcases hsrc with rfl | ⟨b, o, ds, h, k1, k2⟩
      · exact ⟨[], rfl, fun j u h => by simp at h⟩
      · cases h
        refine ⟨ds, k1, fun j u hj => ?_⟩
        obtain ⟨hlt, rfl⟩ := List.getElem?_eq_some_iff.1 hj
        rw [add_at]; exact k2 j hlt
    refine (hc ad xs.length c ds w (RepL.length (fun x c h => RepC.length h) h2) hlen h3 (RepL.one (fun x c h => RepC.one h) h2)).mono ?_
    rintro e' w' ⟨v', rfl, ho, hb⟩
    have := Goes.more hI (Grows.of_below hb) ho h2 (fun _ => false)
    exact ⟨_, _, S, rfl, this.1, this.2⟩
section
open Go.Shelf Go.Lib Go.Proofs
variable {P : Program} {ρ : Ren}
set_option maxHeartbeats 2000000 in
set_option maxRecDepth 100000 in
theorem clone_any (L : SlLaysE0.n41 P ρ) (i0 : TypeInfo) (z : Value) (size bytes : Nat) (hi : P.info? (ρ.t 23) = some i0) (hz0 : i0.zero = some z) (hz1 : i0.size = size) (hz2 : i0.bytes = bytes) (hzs : z.cells.size = size) (hsz : 0 < size)
    (z23 : ∀ w, (Go.sizeOf (ρ.t 23)).run P w = .ok size w) (ad : Addr) (n c : Nat) (news : List Value) (w : World) (hl : news.length = n * size) (hn : n ≤ maxLen) (hbig : n * bytes ≤ 140737488355328)
    (hc : ∀ j u, news[j]? = some u → w.cell? (ad.add j) = some u) (h1 : ∀ u ∈ news, u.oneCell' = true) :
    Calls P (ρ.f 41) #[.slice (some ad) n c] w fun e w' => ∃ v', e = .returned v' ∧ w'.ownsRow w.heap.size (ρ.t 23) size v' n news ∧ Below w.heap.size w w' := by
  have mixed := L.mixed; have t4 := L.t4; have a4 := L.a4; have z4 := L.z4; have v4 := L.v4; have t22 := L.t22; have a22 := L.a22; have z22 := L.z22; have v22 := L.v22
  have q22 : ∀ (w : World) (a : Option Addr) (n c n' c' : Nat), (binOp .eql (ρ.t 22) (.slice a n c) (.slice none n' c')).run P w = .ok (.bool a.isNone) w := fun w a n c n' c' => Lib.run_eql_slice_nil w _ _ a n c n' c' L.t22
  have u22 : ∀ w, Sem.run P (underlying (ρ.t 22)) w = .ok (TypeDesc.slice (ρ.t 23)) w := run_underlying t22
  have A : Aside (∀ j u, news[j]? = some u → w.cell? (ad.add j) = some u) := hc
  clear hc
  obtain ⟨_, _, FG⟩ := L.f41
  go_enter FG, SlBodyN.n41_ntmps ρ
  go_wp2_with (at_builtin; refine wpList_append_own _ rfl _ _ (ρ.t 22) rfl w.heap.size (ρ.t 23) i0 z size bytes t22 hi hz0 hz1 hz2 hzs hsz _ _ _ rfl (World.ownsRow_made w #[] 0 (Nat.le_refl _) (Nat.zero_le _) (by simp)) ad n c news rfl ?qc1 ?qc2 ?qc3 ?qc4 ?qc5 ?qc6 ?_)
  case qc1 => exact hl
  case qc2 =>
    intro j u hj
    exact Lib.cell?_alloc_some _ (A.out j u hj)
  case qc3 => exact h1
  case qc4 => rw [Nat.zero_add]; exact hn
  case qc5 => rw [Nat.zero_add]; exact hbig
  case qc6 => simp
  intro v' w1 hown hgrow hnil
  go_wp2
  go_ret
  refine ⟨v', rfl, by simpa using hown, ?_⟩
  exact ((Below.refl _ w).alloc (Nat.le_refl _) _).grown hgrow (by simp) (by intro k hk; simp [Value.ownBlock] at hk; omega)
theorem clone_lay {C : Cfg} (hC : C.OK) (L : SlLaysE0.n41 C.P ρ) {ts : TypeId} {e : ETy} (ht : C.Ty ts = some (.slice e)) (hte : C.Ty (ρ.t 23) = some e) (hu : C.P.underlying ts = some (.slice (ρ.t 23))) (hz : 0 < e.size) (ad : Addr) (n c : Nat) (news : List Value) (w : World) (hl : news.length = n * e.size) (hn : n ≤ rowMax)
    (hc : ∀ j u, news[j]? = some u → w.cell? (ad.add j) = some u) (h1 : ∀ u ∈ news, u.oneCell' = true) :
    Calls C.P (ρ.f 41) #[.slice (some ad) n c] w fun e' w' => ∃ v', e' = .returned v' ∧ w'.ownsRow w.heap.size (ρ.t 23) e.size v' n news ∧ Below w.heap.size w w' := by
  obtain ⟨te', inf, hu', hinf, hsz, hby, _⟩ := und_slice (hC.ty _ _ ht)
  rw [hu] at hu'; cases hu'
  obtain ⟨inf', hinf', _, hzero⟩ := (hC.ty _ _ hte).size
  rw [hinf] at hinf'; cases hinf'
  have hzc : (valOf e (zc e)).cells.size = e.size := by rw [cells_valOf (repC_zero (w := w) (S := fun _ _ => False) e)]; simpa using zc_length e
  unfold rowMax at hn
  refine clone_any L inf _ e.size inf.bytes hinf hzero hsz rfl hzc hz (fun w => ?_) ad n c news w hl ?_ ?_ hc h1
  · rw [run_sizeOf w hinf, Program.cellsOf, hinf]; simp [hsz]
  · have : maxLen = 2 ^ 63 - 1 := rfl
    omega
  · have := Nat.mul_le_mul hn hby
    omega
end
section
variable {w : World} {S : Nat → Nat → Prop}
end
def FxOK (C : Cfg) (g0 : FuncId) (fx : ∀ {Ω : Type}, List AV → Heap → (AV → Heap → Option Ω) → Option Ω) : Prop :=
  ∀ {Ω : Type} (vs : List AV) (L : Heap) (k : AV → Heap → Option Ω) (r : Ω), fx vs L k = some r → ∃ av L', k av L' = some r ∧ CallDoes C g0 vs L av L'
def sortFx {Ω : Type} (vs : List AV) (L : Heap) (k : AV → Heap → Option Ω) : Option Ω :=
  match vs with
  | [.rs id] => match L[id]? with
    | some (.row t e xs ro) => bif ro then none else match e, xs with
      | .int .i64, xs => bif decide (List.length xs ≤ rowMax) then k (.tup []) (L.set id (.row t (.int .i64) (sortB leI xs) false)) else none
      | _, _ => none
    | _ => none
  | _ => none
def cloneFx (te : TypeId) (e : ETy) {Ω : Type} (vs : List AV) (L : Heap) (k : AV → Heap → Option Ω) : Option Ω :=
  match vs with
  | [a] => match liftA L (.slice e) a with
    | some xs => bif decide (List.length xs ≤ rowMax) then k (.rs L.length) (L ++ [.row te e xs false]) else none
    | none => none
  | _ => none
theorem sortFx_ok {C : Cfg} {g : FuncId} (he : ∀ (us : Array Value) (w : World), (callFunc g us).run C.P w = .ok (.enter g us) w)
    (hs : ∀ (blk cap : Nat) (zs : List Int) (w : World), Go.Sort.Holds (Value.int .i64) w blk 0 zs.toArray → blk < w.heap.size → zs.length < 4611686018427387904 → Calls C.P g #[.slice (some ⟨blk, 0, none⟩) zs.length cap] w fun e w' => e = .returned (.tuple #[]) ∧ ∃ n os, w' = Go.Sort.grow (Go.Sort.putRow (Value.int .i64) (Go.Sort.ahead w n) blk 0 (zs.mergeSort fun x y => decide (x ≤ y)).toArray) os)
    (hn : ∀ (p : Option Addr) (cap : Nat) (w : World), Calls C.P g #[.slice p 0 cap] w fun e w' => e = .returned (.tuple #[]) ∧ w' = w) : FxOK C g (fun {_} => sortFx) := by
  intro Ω vs L k r h
  replace h : sortFx vs L k = some r := h
  unfold sortFx at h
  split at h
  · rename_i id
    split at h
    · rename_i t e xs ro hid
      cases ro with
      | true => cases h
      | false =>
        rw [cond_false] at h
        split at h
        · rename_i xs'
          obtain ⟨hp, hq⟩ := ite_some h
          have hp := of_decide_eq_true hp
          unfold rowMax at hp
          exact ⟨_, _, hq, sort_does hid he hs hn (by omega)⟩
        · cases h
    · cases h
  · cases h
theorem cloneFx_ok {C : Cfg} {g : FuncId} {te : TypeId} {e : ETy} (he : ∀ (us : Array Value) (w : World), (callFunc g us).run C.P w = .ok (.enter g us) w)
    (hc : ∀ (ad : Addr) (n c : Nat) (news : List Value) (w : World), news.length = n * e.size → n ≤ rowMax → (∀ j u, news[j]? = some u → w.cell? (ad.add j) = some u) → (∀ u ∈ news, u.oneCell' = true) → Calls C.P g #[.slice (some ad) n c] w fun e' w' => ∃ v', e' = .returned v' ∧ w'.ownsRow w.heap.size te e.size v' n news ∧ Below w.heap.size w w')
    (hn : ∀ (n c : Nat) (w : World), Calls C.P g #[.slice none n c] w fun e w' => e = .returned (.slice none 0 0) ∧ w' = w) : FxOK C g (fun {_} => cloneFx te e) := by
  intro Ω vs L k r h
  replace h : cloneFx te e vs L k = some r := h
  unfold cloneFx at h
  split at h
  · rename_i a
    split at h
    · rename_i xs hl
      obtain ⟨hp, hq⟩ := ite_some h
      exact ⟨_, _, hq, clone_does hl (of_decide_eq_true hp) he hc hn⟩
    · cases h
  · cases h
theorem FxOK.mono {C C' : Cfg} (hl : C.le C') {g : FuncId} {fx : ∀ {Ω : Type}, List AV → Heap → (AV → Heap → Option Ω) → Option Ω} (h : FxOK C g fx) : FxOK C' g fx := by
  intro Ω vs L k r hk
  obtain ⟨av, L', h1, h2⟩ := h vs L k r hk
  refine ⟨av, L', h1, fun us w => by rw [← hl.P]; exact h2.enters us w, h2.keeps, fun B m w S us hI hG hr => ?_⟩
  rw [← hl.P]
  exact h2.runs B m w S us hI ⟨fun g d hd => hG.tab g d (hl.G g d hd), fun g hg => hG.any g (hl.M g hg)⟩ hr
def allF (C : Cfg) (base : Spec) (fuel : Fuel) (tab : FuncId → Option Func) : Nat → Spec
  | 0 => base
  | d + 1 => ⟨base.con, fun g => (tab g).isSome || base.isI g, fun g vs L k => match tab g with
    | some fn => evInl C (allF C base fuel tab d) fuel fn (fn.body.getD .skip) vs L k
    | none => base.inl g vs L k⟩
theorem allF_ok {C : Cfg} (hC : C.OK) {base : Spec} (hB : SpecOK C base) {fuel : Fuel} {tab : FuncId → Option Func} (ht : tabOK C tab) : ∀ d, SpecOK C (allF C base fuel tab d)
  | 0 => hB
  | d + 1 => by
    refine ⟨hB.con, fun g vs L k r hk => ?_⟩
    simp only [allF] at hk
    cases hg : tab g with
    | none => rw [hg] at hk; exact hB.inl g vs L k r hk
    | some fn =>
      rw [hg] at hk
      obtain ⟨h1, h2, h3⟩ := ht g fn hg
      obtain ⟨c, hc⟩ := Option.isSome_iff_exists.1 h2
      simp only [hc, Option.getD_some] at hk
      exact inl_does hC (allF_ok hC hB ht d) h1 hc h3 hk
end
section
set_option linter.unusedVariables false
set_option linter.unusedSimpArgs false
set_option maxHeartbeats 400000
section
variable {B : Nat} {m : Nat → Value} {L : Heap} {w w' : World} {S S' : Nat → Nat → Prop}
theorem Goes.cut (hI : Inv B m L w S) {id b cap : Nat} {t : TypeId} {e : ETy} {xs : List e.I} (hid : L[id]? = some (.row t e xs false)) (hm : m id = .slice (some ⟨b, 0, none⟩) xs.length cap) {n : Nat} (hn : n ≤ xs.length) (X : Nat → Bool) :
    Goes B X m L w S (upd m L.length (.slice (some ⟨b, 0, none⟩) n cap)) (L.set id .gone ++ [.row t e (xs.take n) false]) w S ∧
    RepA (upd m L.length (.slice (some ⟨b, 0, none⟩) n cap)) (L.set id .gone ++ [.row t e (xs.take n) false]) w S (.rs L.length) (.slice (some ⟨b, 0, none⟩) n cap) := by
  have hlt : id < L.length := (List.getElem?_eq_some_iff.1 hid).1
  have hbm : blk (m id) = some b := by rw [hm]; rfl
  have get : ∀ {j : Nat} {s : Slot}, (L.set id Slot.gone ++ [.row t e (xs.take n) false])[j]? = some s → s.live = true → (j = L.length ∧ s = .row t e (xs.take n) false) ∨ (j ≠ L.length ∧ j ≠ id ∧ L[j]? = some s) := by
    intro j s h hl
    rcases Nat.lt_or_ge j L.length with hj | hj
    · rw [List.getElem?_append_left (by simpa using hj), get_set ⟨_, hid⟩] at h
      split at h
      · cases h; cases hl
      · rename_i hne; exact .inr ⟨by omega, hne, h⟩
    · rw [List.getElem?_append_right (by simpa using hj), List.length_set] at h
      rcases Nat.eq_or_lt_of_le hj with e' | e'
      · rw [e', Nat.sub_self] at h
        simp only [List.getElem?_cons_zero, Option.some.injEq] at h
        exact .inl ⟨e'.symm, h.symm⟩
      · rw [List.getElem?_eq_none (by simp; omega)] at h; cases h
  have new : (L.set id Slot.gone ++ [.row t e (xs.take n) false])[L.length]? = some (.row t e (xs.take n) false) := by simp
  have hnS : ∀ o, ¬ S b o := fun o h => by
    have := ((hI.prot b o h).2 id _ hid rfl (in_blk hbm)).1
    cases this
  have far : ∀ {j : Nat} {s : Slot}, j ≠ id → L[j]? = some s → s.live = true → b ∈ blks (m j) → False := by
    intro j s hj hs hl hb
    exact hI.apart j id s _ hj hs hid hl rfl b hb (in_blk hbm)
  have he : ∀ X, Ext X m L (upd m L.length (.slice (some ⟨b, 0, none⟩) n cap)) (L.set id .gone ++ [.row t e (xs.take n) false]) := by
    intro X
    refine ⟨?_⟩
    intro j s hs hr
    have hj : j < L.length := (List.getElem?_eq_some_iff.1 hs).1
    by_cases e' : j = id
    · subst e'
      refine ⟨.gone, by rw [List.getElem?_append_left (by simpa using hj), get_set ⟨_, hid⟩, if_pos rfl], by simp, ?_, ?_, ?_⟩
      · intro T h; cases h
      · intro o h; cases h
      · intro t e xs ro _ h; cases h
    · exact ⟨s, by rw [List.getElem?_append_left (by simpa using hj), get_set ⟨_, hid⟩, if_neg e']; exact hs, hr, fun T h => ⟨upd_ne (by omega), h⟩, fun o h => ⟨fun u sv h => ⟨sv, by rw [upd_ne (by omega)]; exact h⟩, o, h⟩, fun t e xs ro _ h => ⟨upd_ne (by omega), xs, ro, h, Nat.le_refl _⟩⟩
  refine ⟨⟨⟨hI.base, ?_, ?_, ?_, ?_, ?_, ?_⟩, Safe.refl _ _, Below.refl _ _, he X, fun _ _ h => .inl h⟩, ?_⟩
  · intro j T x ro h
    rcases get h rfl with ⟨_, h'⟩ | ⟨h1, h2, h3⟩
    · cases h'
    · rw [upd_ne h1]; exact hI.box j T x ro h3
  · intro j t' e' ys ro h
    rcases get h rfl with ⟨h1, h'⟩ | ⟨h1, h2, h3⟩
    · cases h'
      subst h1
      rw [upd_same]
      obtain ⟨cs, ho, hr⟩ := hI.row id t e xs false hid
      rw [hm] at ho
      have hlen : (xs.take n).length = n := by simp; omega
      refine ⟨cs.take (n * e.size), ?_, (RepL.take (s := e.size) (fun x c h => RepC.length h) n hr).1⟩
      rw [hlen]
      rcases ho.2 with ⟨hv, _⟩ | ⟨g, cap', cur, hv, hB, hh, hle, hmx, hcur, htk⟩
      · cases hv
      · cases hv
        have hml : n * e.size ≤ xs.length * e.size := Nat.mul_le_mul_right _ hn
        refine ⟨?_, .inr ⟨b, cap, cur, rfl, hB, hh, Nat.le_trans hn hle, hmx, hcur, ?_⟩⟩
        · rw [List.length_take, ho.1]; omega
        · rw [← htk, List.take_take]; congr 1; omega
    · rw [upd_ne h1]; exact hI.row j t' e' ys ro h3
  · intro j o h
    rcases get h rfl with ⟨_, h'⟩ | ⟨h1, h2, h3⟩
    · cases h'
    · rw [upd_ne h1]; exact hI.obj j o h3
  · intro j T x q h
    rcases get h rfl with ⟨_, h'⟩ | ⟨h1, h2, h3⟩
    · cases h'
    · rw [upd_ne h1]
      exact (hI.lbx j T x q h3).same (Safe.refl _ _) (he _) fun _ _ => rfl
  · intro i j s r hne h1 h2 l1 l2
    rcases get h1 l1 with ⟨p1, rfl⟩ | ⟨p1, p2, p3⟩ <;> rcases get h2 l2 with ⟨q1, rfl⟩ | ⟨q1, q2, q3⟩
    · exact absurd (p1.trans q1.symm) hne
    · subst p1
      rw [upd_same, upd_ne q1]
      intro b' hb h
      have : b' = b := by simpa [blks, blk] using hb
      subst this
      exact far q2 q3 l2 h
    · subst q1
      rw [upd_same, upd_ne p1]
      intro b' h hb
      have : b' = b := by simpa [blks, blk] using hb
      subst this
      exact far p2 p3 l1 h
    · rw [upd_ne p1, upd_ne q1]; exact hI.apart i j s r hne p3 q3 l1 l2
  · intro b' o h
    obtain ⟨p1, p2⟩ := hI.prot b' o h
    refine ⟨p1, fun i s hs hl hb => ?_⟩
    rcases get hs hl with ⟨q1, rfl⟩ | ⟨q1, q2, q3⟩
    · subst q1
      rw [upd_same] at hb
      have : b' = b := by simpa [blks, blk] using hb
      subst this
      exact absurd h (hnS o)
    · rw [upd_ne q1] at hb; exact p2 i s q3 hl hb
  · simp only [RepA]
    refine ⟨_, new, by simp, fun t' e' ys ro h => ?_⟩
    exact (upd_same _ _ _).symm
end
end
section
set_option linter.unusedVariables false
set_option linter.unusedSimpArgs false
set_option maxHeartbeats 400000
section
variable {B : Nat} {m : Nat → Value} {L : Heap} {w w' : World} {S S' : Nat → Nat → Prop}
structure Turned (bs : List Nat) (w w' : World) : Prop where
  os : w'.os = w.os
  tape : w'.tape = w.tape
  output : w'.output = w.output
  size : w.heap.size ≤ w'.heap.size
  block : ∀ k, k < w.heap.size → k ∉ bs → w'.heap[k]? = w.heap[k]?
theorem turned_far (hI : Inv B m L w S) {id : Nat} {o : Obj'} (hid : L[id]? = some (.obj o)) (ht : Turned (blks (m id)) w w') {j : Nat} {r : Slot} (hj : j ≠ id) (hr : L[j]? = some r) (hl : r.live = true) {b : Nat} (hb : b ∈ blks (m j)) : w'.heap[b]? = w.heap[b]? :=
  ht.block b (hI.lt hr hl hb).2 fun h => hI.apart j id r _ hj hr hid hl rfl b hb h
theorem turned_safe (hI : Inv B m L w S) {id : Nat} {o : Obj'} (hid : L[id]? = some (.obj o)) (ht : Turned (blks (m id)) w w') : Safe S S w w' :=
  ⟨fun _ _ h => h, fun b o' h => World.cell?_of_block (a := ⟨b, o', none⟩) (ht.block b (hI.prot b o' h).1 fun hb => by
    have := ((hI.prot b o' h).2 id _ hid rfl hb).1
    cases this)⟩
theorem turned_below (hI : Inv B m L w S) {id : Nat} {o : Obj'} (hid : L[id]? = some (.obj o)) (ht : Turned (blks (m id)) w w') : Below B w w' :=
  ⟨ht.os, ht.tape, ht.output, ht.size, fun k hk => ht.block k (Nat.lt_of_lt_of_le hk hI.base) fun hb => by
    have := (hI.lt hid rfl hb).1
    omega⟩
theorem Goes.turned (hI : Inv B m L w S) {id : Nat} {o o' : Obj'} {v' : Value} (hid : L[id]? = some (.obj o)) (ht : Turned (blks (m id)) w w') (hok : ObjOK B v' w' o') (hv' : ∀ b, b ∈ blks v' → b ∈ blks (m id) ∨ w.heap.size ≤ b)
    (hu : ∀ u sv, m id = .tuple #[u, sv] → ∃ sv', v' = .tuple #[u, sv']) (X : Nat → Bool) : Goes B X m L w S (upd m id v') (L.set id (.obj o')) w' S := by
  have gs := get_set (s := .obj o') ⟨_, hid⟩
  have hsafe := turned_safe hI hid ht
  have he : ∀ X, Ext X m L (upd m id v') (L.set id (.obj o')) := by
    intro X
    refine ⟨?_⟩
    intro j r hr hne
    by_cases e1 : j = id
    · subst e1
      rw [hid] at hr; cases hr
      refine ⟨.obj o', by rw [gs, if_pos rfl], by simp, ?_, ?_, ?_⟩
      · intro T h; cases h
      · intro o1 h
        refine ⟨fun u sv h => ?_, o, rfl⟩
        rw [upd_same]
        exact hu u sv h
      · intro t e xs ro _ h; cases h
    · exact ⟨r, by rw [gs, if_neg e1]; exact hr, hne, fun T h => ⟨upd_ne e1, h⟩, fun o h => ⟨fun u sv h => ⟨sv, by rw [upd_ne e1]; exact h⟩, o, h⟩, fun t e xs ro _ h => ⟨upd_ne e1, xs, ro, h, Nat.le_refl _⟩⟩
  refine ⟨⟨Nat.le_trans hI.base ht.size, ?_, ?_, ?_, ?_, ?_, ?_⟩, hsafe, turned_below hI hid ht, he X, fun _ _ h => .inl h⟩
  · intro j T x ro h
    rw [gs] at h
    split at h
    · cases h
    · rename_i e
      obtain ⟨b, ds, el, fr, hm, h4, h5, h6, h7⟩ := hI.box j T x ro h
      exact ⟨b, ds, el, fr, by rw [upd_ne e]; exact hm, h4, by rw [turned_far hI hid ht e h rfl (by rw [hm]; exact in_ptr _ _)]; exact h5, h6, h7.safe hsafe⟩
  · intro j t e xs ro h
    rw [gs] at h
    split at h
    · cases h
    · rename_i e2
      rw [upd_ne e2]
      obtain ⟨ds, h1, h2⟩ := hI.row j t e xs ro h
      refine ⟨ds, ⟨h1.1, h1.2.imp (fun h => h) ?_⟩, RepL.mono (fun x c h => h.safe hsafe) h2⟩
      rintro ⟨g, cap, cur, hv, hgB, hh, r⟩
      exact ⟨g, cap, cur, hv, hgB, by rw [turned_far hI hid ht e2 h rfl (by rw [hv]; exact in_slc _ _ _ _)]; exact hh, r⟩
  · intro j o1 h
    rw [gs] at h
    split at h
    · rename_i e; subst e; cases h; rw [upd_same]; exact hok
    · rename_i e; rw [upd_ne e]; exact (hI.obj j o1 h).kept fun b hb => turned_far hI hid ht e h rfl hb
  · intro j T x q h
    rw [gs] at h
    split at h
    · cases h
    · rename_i e; rw [upd_ne e]; exact (hI.lbx j T x q h).same hsafe (he _) fun b hb => turned_far hI hid ht e h rfl hb
  · have far : ∀ j r, j ≠ id → L[j]? = some r → r.live = true → ∀ b, b ∈ blks (m j) → b ∈ blks v' → False := by
      intro j r hj hr hl b hb h
      rcases hv' b h with h | h
      · exact hI.apart j id r _ hj hr hid hl rfl b hb h
      · have := (hI.lt hr hl hb).2
        omega
    intro i j s1 s2 hne h1 h2 l1 l2
    rw [gs] at h1 h2
    split at h1
    · rename_i e1; subst e1
      split at h2
      · rename_i e2; exact absurd e2.symm hne
      · rename_i e2
        rw [upd_same, upd_ne e2]
        exact fun b h h' => far j s2 e2 h2 l2 b h' h
    · rename_i e1
      split at h2
      · rename_i e2; subst e2
        rw [upd_same, upd_ne e1]
        exact far i s1 e1 h1 l1
      · rename_i e2
        rw [upd_ne e1, upd_ne e2]
        exact hI.apart i j s1 s2 hne h1 h2 l1 l2
  · intro b o1 h
    obtain ⟨p1, p2⟩ := hI.prot b o1 h
    refine ⟨Nat.lt_of_lt_of_le p1 ht.size, fun i r hr hl hb => ?_⟩
    rw [gs] at hr
    split at hr
    · rename_i e1; subst e1
      rw [upd_same] at hb
      rcases hv' b hb with h' | h'
      · have := (p2 i _ hid rfl h').1
        cases this
      · omega
    · rename_i e1
      rw [upd_ne e1] at hb
      exact p2 i r hr hl hb
theorem Goes.gaveUp (hI : Inv B m L w S) {id : Nat} {o : Obj'} (hid : L[id]? = some (.obj o)) (ht : Turned (blks (m id)) w w') (X : Nat → Bool) : Goes B X m L w S m (L.set id .gone) w' S := by
  have gs := get_set (s := Slot.gone) ⟨_, hid⟩
  have hsafe := turned_safe hI hid ht
  have back : ∀ {j : Nat} {r : Slot}, (L.set id Slot.gone)[j]? = some r → r.live = true → j ≠ id ∧ L[j]? = some r := by
    intro j r h hl
    rw [gs] at h
    split at h
    · cases h; cases hl
    · rename_i e; exact ⟨e, h⟩
  have he : ∀ X, Ext X m L m (L.set id .gone) := by
    intro X
    refine ⟨?_⟩
    intro j r hr hne
    by_cases e1 : j = id
    · subst e1
      refine ⟨.gone, by rw [gs, if_pos rfl], by simp, ?_, ?_, ?_⟩
      · intro T h; cases h
      · intro o h; cases h
      · intro t e xs ro _ h; cases h
    · exact ⟨r, by rw [gs, if_neg e1]; exact hr, hne, fun T h => ⟨rfl, h⟩, fun o h => ⟨fun u sv h => ⟨sv, h⟩, o, h⟩, fun t e xs ro _ h => ⟨rfl, xs, ro, h, Nat.le_refl _⟩⟩
  refine ⟨⟨Nat.le_trans hI.base ht.size, ?_, ?_, ?_, ?_, ?_, ?_⟩, hsafe, turned_below hI hid ht, he X, fun _ _ h => .inl h⟩
  · intro j T x ro h
    obtain ⟨e, h⟩ := back h rfl
    obtain ⟨b, ds, el, fr, hm, h4, h5, h6, h7⟩ := hI.box j T x ro h
    exact ⟨b, ds, el, fr, hm, h4, by rw [turned_far hI hid ht e h rfl (by rw [hm]; exact in_ptr _ _)]; exact h5, h6, h7.safe hsafe⟩
  · intro j t e xs ro h
    obtain ⟨e2, h⟩ := back h rfl
    obtain ⟨ds, h1, h2⟩ := hI.row j t e xs ro h
    refine ⟨ds, ⟨h1.1, h1.2.imp (fun h => h) ?_⟩, RepL.mono (fun x c h => h.safe hsafe) h2⟩
    rintro ⟨g, cap, cur, hv, hgB, hh, r⟩
    exact ⟨g, cap, cur, hv, hgB, by rw [turned_far hI hid ht e2 h rfl (by rw [hv]; exact in_slc _ _ _ _)]; exact hh, r⟩
  · intro j o1 h
    obtain ⟨e, h⟩ := back h rfl
    exact (hI.obj j o1 h).kept fun b hb => turned_far hI hid ht e h rfl hb
  · intro j T x q h
    obtain ⟨e, h⟩ := back h rfl
    exact (hI.lbx j T x q h).same hsafe (he _) fun b hb => turned_far hI hid ht e h rfl hb
  · intro i j s1 s2 hne h1 h2 l1 l2
    exact hI.apart i j s1 s2 hne (back h1 l1).2 (back h2 l2).2 l1 l2
  · intro b o1 h
    obtain ⟨p1, p2⟩ := hI.prot b o1 h
    exact ⟨Nat.lt_of_lt_of_le p1 ht.size, fun i r hr hl hb => p2 i r (back hr hl).2 hl hb⟩
end
section
open Go.Shelf Go.Lib Go.Proofs
variable {P : Program} {ρ : Ren}
theorem byteCells_len (s : ByteArray) : (byteCells s).length = s.size := Lib.strCells_length s
theorem byteCells_app (s t : ByteArray) : byteCells (s ++ t) = byteCells s ++ byteCells t := by
  simp only [byteCells, ByteArray.data_append, Array.toList_append, List.map_append]
theorem append_str_at {w : World} {base : Nat} {t u ty e : TypeId} {i : TypeInfo} (ht : P.underlying t = some (.slice e)) (hu : P.underlying u = some .string) (hi : P.info? e = some i) (hz : i.zero = some (.int .u8 0)) (hsize : i.size = 1) (hby : i.bytes = 1)
    {v : Value} {n : Nat} {xs : List Value} (hown : w.ownsRow base e 1 v n xs) (s : ByteArray) (h63 : n + s.size ≤ maxLen) (hbytes : n + s.size ≤ 140737488355328) (hbase : base ≤ w.heap.size) :
    ∃ v' w', (Builtin.append_ #[t, u] ty #[v, .string s]).run P w = .ok v' w' ∧ w'.ownsRow base e 1 v' (n + s.size) (xs ++ strCells s) ∧ w.grownBy w' v.ownBlock ∧ (v'.ownBlock = v.ownBlock ∨ v'.ownBlock = some w.heap.size) := by
  obtain ⟨v', w', hr, h2, h3, h4⟩ := Lib.run_append_own_string (P := P) w base t u ty e i ht hu hi hz hsize hby v n xs hown s h63 hbytes hbase
  refine ⟨v', w', hr, h2, h3, ?_⟩
  have hsmall : n + s.size ≤ 9223372036854775807 := by simp only [maxLen] at h63; omega
  rcases hown.2 with ⟨rfl, rfl⟩ | ⟨g, cap, cur, rfl, hbg, hg, hnc, hcm, hcs, htake⟩
  · by_cases hm : s.size = 0
    · rw [h4.2 ⟨rfl, hm⟩]; exact .inl rfl
    · have hr2 := run_append_nil_string (P := P) w t u ty e i (.int .u8 0) ht hu hi hz s (by omega) (by omega) (by rw [hby]; omega)
      rw [hr] at hr2
      injection hr2 with a b
      rw [a]; exact .inr rfl
  · by_cases hroom : n + s.size ≤ cap
    · have hr2 := run_append_room_string (P := P) w t u ty e i ht hu hi hsize g n cap cur hg s hroom (by omega)
      rw [hr] at hr2
      injection hr2 with a b
      rw [a]; exact .inl rfl
    · have hr2 := run_append_grow_string (P := P) w t u ty e i (.int .u8 0) ht hu hi hz ⟨g, 0, none⟩ n cap xs (by rw [hsize]; exact hown.1) (hown.cells (g := g) rfl) s (by omega) (by omega) (by rw [hby]; exact growslice_fits (by omega) (by omega))
      rw [hr] at hr2
      injection hr2 with a b
      rw [a]; exact .inr rfl
theorem wpList_append_str_at {w : World} {ops : Array Oper} {rest : List Oper} {o : Oper} {a : Act} {Q : Exit → Act → World → Prop} (hgd : o.guard = none) (sl x : Operand) (t u : TypeId)
    (ho : o.op = .call { callee := .builtin .append, args := #[sl, x], argTypes := #[t, u] })
    {base : Nat} {e : TypeId} {i : TypeInfo} (ht : P.underlying t = some (.slice e)) (hu : P.underlying u = some .string) (hi : P.info? e = some i) (hz : i.zero = some (.int .u8 0)) (hsize : i.size = 1) (hby : i.bytes = 1)
    (v : Value) {n : Nat} {xs : List Value} (hs : a.eval sl = v) (hown : w.ownsRow base e 1 v n xs) (s : ByteArray) (hx : a.eval x = .string s) (h63 : n + s.size ≤ maxLen) (hbytes : n + s.size ≤ 140737488355328) (hbase : base ≤ w.heap.size)
    (h : ∀ v' w', w'.ownsRow base e 1 v' (n + s.size) (xs ++ strCells s) → w.grownBy w' v.ownBlock → (v'.ownBlock = v.ownBlock ∨ v'.ownBlock = some w.heap.size) → wpList P ops Q rest (a.put o.dst v') w') : wpList P ops Q (o :: rest) a w := by
  refine wpList_plain hgd fun K hK => ?_
  obtain ⟨v', w', hr, h2, h3, h4⟩ := append_str_at (P := P) (ty := o.type) ht hu hi hz hsize hby hown s h63 hbytes hbase
  unfold Oper.wp execOp
  simp only [ho, resolve, invoke, builtin, Sem.run_bind, Sem.run_pure, Result.andThen_ok, List.map_toArray, List.map_cons, List.map_nil, hs, hx, hr]
  exact hK _ _ (h v' w' h2 h3 h4)
structure Bld (T e : TypeId) (B b : Nat) (p v : Value) (bs : List Value) (w : World) : Prop where
  le : B ≤ b
  blk : w.heap[b]? = some (.cells #[p, v] T (0, 0))
  own : w.ownsRow B e 1 v bs.length bs
  ne : v.ownBlock ≠ some b
theorem Bld.at_ {T e : TypeId} {B b : Nat} {p v : Value} {bs : List Value} {w : World} (h : Bld T e B b p v bs w) : BuilderAt T e B b p bs w := ⟨h.le, v, h.blk, h.own, h.ne⟩
theorem Bld.lt {T e : TypeId} {B b : Nat} {p v : Value} {bs : List Value} {w : World} (h : Bld T e B b p v bs w) : b < w.heap.size := h.at_.lt
theorem bld_check (L : Lays.n240 P ρ) (X : Builder.X72 P ρ) {B b : Nat} {p v : Value} {bs : List Value} {w : World} (h : Bld (ρ.t 72) (ρ.t 5) B b p v bs w) (hp : p = .pointer none ∨ p = .pointer (some ⟨b, 0, none⟩)) :
    Calls P (ρ.f 240) #[.pointer (some ⟨b, 0, none⟩)] w fun e w' => e = .returned (.tuple #[]) ∧ Bld (ρ.t 72) (ρ.t 5) B b (.pointer (some ⟨b, 0, none⟩)) v bs w' ∧ Turned [b] w w' ∧ w'.heap.size ≤ w.heap.size := by
  rcases hp with rfl | rfl
  · refine (Any.Builder_copyCheck_fresh L X b w h.at_.cell0 h.at_.shape h.at_.frozen0).mono ?_
    rintro e w' ⟨rfl, rfl⟩
    have hs : (w.setCell ⟨b, 0, none⟩ (.pointer (some ⟨b, 0, none⟩))).heap.size = w.heap.size := World.size_setCell ..
    refine ⟨rfl, ⟨h.le, ?_, ?_, h.ne⟩, ⟨rfl, rfl, rfl, by omega, fun k _ hk => Below.heap_setCell _ _ _ _ (by simpa using hk)⟩, Nat.le_of_eq hs⟩
    · simp [World.setCell, Array.getElem?_modify, h.blk]
    · exact h.own.kept (row := some b) ⟨rfl, rfl, rfl, by omega, fun k _ hk => Below.heap_setCell _ _ _ _ (fun e => hk (by simp [e]))⟩ (.inr h.ne)
  · refine (Any.Builder_copyCheck_used L X b w h.at_.cell0).mono ?_
    rintro e w' ⟨rfl, rfl⟩
    exact ⟨rfl, h, ⟨rfl, rfl, rfl, Nat.le_refl _, fun _ _ _ => rfl⟩, Nat.le_refl _⟩
def Written (P : Program) (ρ : Ren) (B b : Nat) (v : Value) (bs : List Value) (w w' : World) : Prop :=
  ∃ v', Bld (ρ.t 72) (ρ.t 5) B b (.pointer (some ⟨b, 0, none⟩)) v' bs w' ∧ Turned (b :: (v.ownBlock).toList) w w' ∧ (v'.ownBlock = v.ownBlock ∨ ∃ g, v'.ownBlock = some g ∧ w.heap.size ≤ g)
theorem written_of {B b : Nat} {v v' : Value} {bs bs' : List Value} {w w1 w2 : World} (h1 : Bld (ρ.t 72) (ρ.t 5) B b (.pointer (some ⟨b, 0, none⟩)) v bs w1) (t1 : Turned [b] w w1) (hown : w2.ownsRow B (ρ.t 5) 1 v' bs'.length bs') (hos : w2.os = w1.os) (htp : w2.tape = w1.tape) (hout : w2.output = w1.output) (hsz : w1.heap.size ≤ w2.heap.size)
    (hkeep : ∀ k, k < w1.heap.size → v.ownBlock ≠ some k → w2.heap[k]? = w1.heap[k]?) (hat : v'.ownBlock = v.ownBlock ∨ ∃ g, v'.ownBlock = some g ∧ w1.heap.size ≤ g) : Written P ρ B b v bs' w (w2.setCell ⟨b, 1, none⟩ v') := by
  have hb2 : w2.heap[b]? = some (.cells #[.pointer (some ⟨b, 0, none⟩), v] (ρ.t 72) (0, 0)) := (hkeep b h1.lt h1.ne).trans h1.blk
  have hne : v'.ownBlock ≠ some b := by
    rcases hat with h | ⟨g, h, hg⟩
    · rw [h]; exact h1.ne
    · rw [h]; intro e; cases e; exact absurd h1.lt (by omega)
  have hs : (w2.setCell ⟨b, 1, none⟩ v').heap.size = w2.heap.size := World.size_setCell ..
  have hs1 := t1.size
  refine ⟨v', ⟨h1.le, ?_, ?_, hne⟩, ⟨hos.trans t1.os, htp.trans t1.tape, hout.trans t1.output, by omega, fun k hk hkb => ?_⟩, ?_⟩
  · simp [World.setCell, Array.getElem?_modify, hb2]
  · exact hown.kept (row := some b) ⟨rfl, rfl, rfl, by omega, fun k _ hk => Below.heap_setCell _ _ _ _ (fun e => hk (by simp [e]))⟩ (.inr hne)
  · simp only [List.mem_cons, Option.mem_toList, not_or] at hkb
    exact (Below.heap_setCell _ _ _ _ hkb.1).trans ((hkeep k (by omega) hkb.2).trans (t1.block k hk (by simpa using hkb.1)))
  · exact hat.imp id fun ⟨g, h, hg⟩ => ⟨g, h, by omega⟩
set_option maxHeartbeats 2000000 in
set_option maxRecDepth 100000 in
theorem bld_byte (L : Lays.n167 P ρ) (X : Builder.Extra P ρ) {B b : Nat} {p v : Value} {bs : List Value} {w : World} (h : Bld (ρ.t 72) (ρ.t 5) B b p v bs w) (hp : p = .pointer none ∨ p = .pointer (some ⟨b, 0, none⟩)) (c : Int) (hlen : bs.length + 1 ≤ 140737488355328) (hBw : B ≤ w.heap.size) :
    Calls P (ρ.f 167) #[.pointer (some ⟨b, 0, none⟩), .int .u8 c] w fun e w' => e = .returned .nilIface ∧ Written P ρ B b v (bs ++ [.int .u8 c]) w w' := by
  obtain ⟨i0, hi, hz0, hz1, hz2⟩ := info_parts X.infoByte
  have mixed := L.mixed
  have t72 := L.t72; have a72 := L.a72; have z72 := L.z72; have v72 := L.v72; have u72 := run_underlying L.t72
  have t70 := L.t70; have a70 := L.a70; have z70 := L.z70; have v70 := L.v70; have u70 := run_underlying L.t70
  have t5 := L.t5; have a5 := L.a5; have z5 := L.z5; have v5 := L.v5; have u5 := run_underlying L.t5
  have t37 := L.t37; have a37 := L.a37; have z37 := L.z37; have v37 := L.v37; have u37 := run_underlying L.t37
  have t9 := L.t9; have a9 := L.a9; have z9 := L.z9; have v9 := L.v9; have u9 := run_underlying L.t9
  have t4 := L.t4; have a4 := L.a4; have z4 := L.z4; have v4 := L.v4; have u4 := run_underlying L.t4
  have t164 := L.t164; have a164 := L.a164; have z164 := L.z164; have v164 := L.v164; have u164 := run_underlying L.t164
  have e240 : ∀ args w, (callFunc (ρ.f 240) args).run P w = .ok (.enter (ρ.f 240) args) w := enters_of L.f240 (by kernel_rfl) rfl
  go_enter L.f167, Body.n167_ntmps ρ
  go_wp2_with (go_at_fn (ρ.f 240); refine (bld_check { L with } X.toX72 h hp).mono ?_)
  rintro e w1 ⟨rfl, h1, k1, z1⟩
  have z2 := k1.size
  have c0 : w1.cell? ⟨b, 0, none⟩ = some (.pointer (some ⟨b, 0, none⟩)) := by rw [Lib.cell_of_heap h1.blk]; rfl
  have c1 : w1.cell? ⟨b, 1, none⟩ = some v := by rw [Lib.cell_of_heap h1.blk]; rfl
  go_wp2_with (at_builtin; refine wpList_append_own_at _ rfl _ _ (ρ.t 37) rfl B (ρ.t 5) i0 (.int .u8 0) 1 1 L.t37 hi hz0 hz1 hz2 rfl (by decide) _ _ _ rfl (h1.own.alloc _) ⟨w1.heap.size, 0, none⟩ 1 1 [.int .u8 c] rfl rfl ?c1 ?c2 ?c3 ?c4 ?c5 ?_)
  case c1 => exact cell_one_new _ _ _
  case c2 => intro u hu; simp at hu; subst hu; rfl
  case c3 => unfold maxLen; omega
  case c4 => omega
  case c5 => simp; omega
  intro v' w2 hown' hgrow _ hat
  have hkeep : ∀ k, k < w1.heap.size → v.ownBlock ≠ some k → w2.heap[k]? = w1.heap[k]? := fun k hk hne => (hgrow.block k (by simp; omega) (fun e => hne e.symm)).trans (Lib.alloc_old w1 _ k hk)
  have hb2 : w2.heap[b]? = some (.cells #[.pointer (some ⟨b, 0, none⟩), v] (ρ.t 72) (0, 0)) := (hkeep b h1.lt h1.ne).trans h1.blk
  have d0 : w2.cell? ⟨b, 0, none⟩ = some (.pointer (some ⟨b, 0, none⟩)) := by rw [Lib.cell_of_heap hb2]; rfl
  have d1 : w2.cell? ⟨b, 1, none⟩ = some v := by rw [Lib.cell_of_heap hb2]; rfl
  have f1 : w2.frozen? ⟨b, 1, none⟩ = false := Lib.frozen_of_heap hb2 1
  obtain ⟨g, cap, rfl⟩ : ∃ g cap, v' = .slice (some ⟨g, 0, none⟩) (bs.length + 1) cap := by
    rcases hown'.2 with ⟨_, h0⟩ | ⟨g, cap, cur, hv, _⟩
    · omega
    · exact ⟨g, cap, hv⟩
  go_wp2
  go_ret
  refine ⟨rfl, written_of h1 k1 (by simpa using hown') hgrow.os hgrow.tape hgrow.output (by have := hgrow.size; simp at this; omega) hkeep (hat.imp id fun h => ⟨_, h, by simp⟩)⟩
set_option maxHeartbeats 2000000 in
set_option maxRecDepth 100000 in
theorem bld_str (L : Lays.n166 P ρ) (X : Builder.Extra P ρ) {B b : Nat} {p v : Value} {bs : List Value} {w : World} (h : Bld (ρ.t 72) (ρ.t 5) B b p v bs w) (hp : p = .pointer none ∨ p = .pointer (some ⟨b, 0, none⟩)) (s : ByteArray) (hlen : bs.length + s.size ≤ 140737488355328) (hBw : B ≤ w.heap.size) :
    Calls P (ρ.f 166) #[.pointer (some ⟨b, 0, none⟩), .string s] w fun e w' => e = .returned (.tuple #[.int .i64 s.size, .nilIface]) ∧ Written P ρ B b v (bs ++ Lib.strCells s) w w' := by
  obtain ⟨i0, hi, hz0, hz1, hz2⟩ := info_parts X.infoByte
  have mixed := L.mixed
  have t72 := L.t72; have a72 := L.a72; have z72 := L.z72; have v72 := L.v72; have u72 := run_underlying L.t72
  have t70 := L.t70; have a70 := L.a70; have z70 := L.z70; have v70 := L.v70; have u70 := run_underlying L.t70
  have t37 := L.t37; have a37 := L.a37; have z37 := L.z37; have v37 := L.v37; have u37 := run_underlying L.t37
  have t3 := L.t3; have a3 := L.a3; have z3 := L.z3; have v3 := L.v3; have u3 := run_underlying L.t3
  have t9 := L.t9; have a9 := L.a9; have z9 := L.z9; have v9 := L.v9; have u9 := run_underlying L.t9
  have t4 := L.t4; have a4 := L.a4; have z4 := L.z4; have v4 := L.v4; have u4 := run_underlying L.t4
  have t164 := L.t164; have a164 := L.a164; have z164 := L.z164; have v164 := L.v164; have u164 := run_underlying L.t164
  have t5 := X.t5; have a5 := X.a5; have z5 := X.z5; have v5 := X.v5; have u5 := run_underlying X.t5
  have e240 : ∀ args w, (callFunc (ρ.f 240) args).run P w = .ok (.enter (ρ.f 240) args) w := enters_of L.f240 (by kernel_rfl) rfl
  go_enter L.f166, Body.n166_ntmps ρ
  go_wp2_with (go_at_fn (ρ.f 240); refine (bld_check { L with } X.toX72 h hp).mono ?_)
  rintro e w1 ⟨rfl, h1, k1, z1⟩
  have z2 := k1.size
  have c0 : w1.cell? ⟨b, 0, none⟩ = some (.pointer (some ⟨b, 0, none⟩)) := by rw [Lib.cell_of_heap h1.blk]; rfl
  have c1 : w1.cell? ⟨b, 1, none⟩ = some v := by rw [Lib.cell_of_heap h1.blk]; rfl
  go_wp2_with (at_builtin; refine wpList_append_str_at rfl _ _ (ρ.t 37) (ρ.t 9) rfl (e := ρ.t 5) L.t37 L.t9 hi hz0 hz1 hz2 _ rfl h1.own s rfl ?c3 ?c4 ?c5 ?_)
  case c3 => unfold maxLen; omega
  case c4 => omega
  case c5 => omega
  intro v' w2 hown' hgrow hat
  have hkeep : ∀ k, k < w1.heap.size → v.ownBlock ≠ some k → w2.heap[k]? = w1.heap[k]? := fun k hk hne => hgrow.block k hk (fun e => hne e.symm)
  have hb2 : w2.heap[b]? = some (.cells #[.pointer (some ⟨b, 0, none⟩), v] (ρ.t 72) (0, 0)) := (hkeep b h1.lt h1.ne).trans h1.blk
  have d0 : w2.cell? ⟨b, 0, none⟩ = some (.pointer (some ⟨b, 0, none⟩)) := by rw [Lib.cell_of_heap hb2]; rfl
  have d1 : w2.cell? ⟨b, 1, none⟩ = some v := by rw [Lib.cell_of_heap hb2]; rfl
  have f1 : w2.frozen? ⟨b, 1, none⟩ = false := Lib.frozen_of_heap hb2 1
  obtain ⟨ao, n', cap, rfl⟩ : ∃ ao n' cap, v' = .slice ao n' cap := by
    rcases hown'.2 with ⟨hv, _⟩ | ⟨g, cap, cur, hv, _⟩
    · exact ⟨_, _, _, hv⟩
    · exact ⟨_, _, _, hv⟩
  go_wp2
  go_ret2
  exact ⟨rfl, written_of h1 k1 (by simpa [Lib.strCells_length] using hown') hgrow.os hgrow.tape hgrow.output hgrow.size hkeep (hat.imp id fun h => ⟨_, h, by omega⟩)⟩
theorem turned_freeze {bs : List Nat} {a w : World} (h : Turned bs a w) {p : Addr} (hp : p.block ∈ bs) (n : Nat) : Turned bs a (w.freeze p n) := by
  unfold World.freeze
  split
  · exact h
  · exact ⟨h.os, h.tape, h.output, by simpa using h.size, fun k hk hb => by
      simp only [Array.getElem?_modify]
      rw [if_neg (fun e => hb (by rw [← e]; exact hp))]
      exact h.block k hk hb⟩
theorem turned_drew (bs : List Nat) (w : World) : Turned bs w w.drew := ⟨rfl, rfl, rfl, Nat.le_refl _, fun _ _ _ => rfl⟩
theorem turned_alloc {bs : List Nat} {a w : World} (h : Turned bs a w) (o : Obj) : Turned bs a (w.alloc o) :=
  ⟨h.os, h.tape, h.output, by have := h.size; simp; omega, fun k hk hb => (Lib.alloc_old w o k (by have := h.size; omega)).trans (h.block k hk hb)⟩
set_option maxHeartbeats 2000000 in
set_option maxRecDepth 100000 in
theorem bld_string_some (L : Lays.n169 P ρ) (X : Builder.Extra P ρ) {B b g cap : Nat} {p : Value} {l : List UInt8} {w : World} (hbk : w.heap[b]? = some (.cells #[p, .slice (some ⟨g, 0, none⟩) l.length cap] (ρ.t 72) (0, 0))) (hown : w.ownsRow B (ρ.t 5) 1 (.slice (some ⟨g, 0, none⟩) l.length cap) l.length (Lib.byteCells l)) (h0 : l ≠ []) :
    Calls P (ρ.f 169) #[.pointer (some ⟨b, 0, none⟩)] w fun e w' => e = .returned (.string ⟨l.toArray⟩) ∧ Turned [b, g] w w' := by
  have hl0 : l.length ≠ 0 := by simpa using h0
  obtain ⟨cur, hg, hnc, hcm, hcs⟩ : ∃ cur, w.heap[g]? = some (.cells cur (ρ.t 5) (0, 0)) ∧ l.length ≤ cap ∧ cap ≤ maxLen ∧ cur.size = cap * 1 := by
    rcases hown.2 with ⟨h, _⟩ | ⟨g', cap', cur, hv, _, h1, h2, h3, h4, _⟩
    · cases h
    · cases hv; exact ⟨cur, h1, h2, h3, h4⟩
  have c1 : w.drew.cell? ⟨b, 1, none⟩ = some (.slice (some ⟨g, 0, none⟩) l.length cap) := by
    have : w.drew.heap[b]? = _ := hbk
    rw [Lib.cell_of_heap this]; rfl
  have hSD : (Builtin.unsafeSliceData_ #[(ρ.t 37)] (ρ.t 127) #[.slice (some ⟨g, 0, none⟩) l.length cap]).run P w.drew = .ok (.pointer (some ⟨g, 0, none⟩)) w.drew :=
    Lib.run_unsafeSliceData_row _ _ _ _ _ _ (by omega)
  have hUS : (Builtin.unsafeString_ #[(ρ.t 127), (ρ.t 3)] (ρ.t 9) #[.pointer (some ⟨g, 0, none⟩), .int .i64 l.length]).run P w.drew = .ok (.string ⟨l.toArray⟩) (w.drew.freeze ⟨g, 0, none⟩ l.length) := by
    refine Lib.run_unsafeString_row w.drew (ρ.t 127) (ρ.t 3) (ρ.t 9) (ρ.t 5) L.t127 X.cellsByte g cur.size (by have hg' : w.drew.heap[g]? = _ := hg; simp [World.shape?, hg']) l h0 (by omega) (by unfold maxLen at hcm; omega) fun j x hx => ?_
    exact hown.cells (g := g) rfl j (.int .u8 x.toNat) (by simp [Lib.byteCells, hx])
  have mixed := L.mixed
  have t72 := L.t72; have a72 := L.a72; have z72 := L.z72; have v72 := L.v72; have u72 := run_underlying L.t72
  have t70 := L.t70; have a70 := L.a70; have z70 := L.z70; have v70 := L.v70; have u70 := run_underlying L.t70
  have t37 := L.t37; have a37 := L.a37; have z37 := L.z37; have v37 := L.v37; have u37 := run_underlying L.t37
  have t127 := L.t127; have a127 := L.a127; have z127 := L.z127; have v127 := L.v127; have u127 := run_underlying L.t127
  have t3 := L.t3; have a3 := L.a3; have z3 := L.z3; have v3 := L.v3; have u3 := run_underlying L.t3
  have t9 := L.t9; have a9 := L.a9; have z9 := L.z9; have v9 := L.v9; have u9 := run_underlying L.t9
  have t5 := X.t5; have a5 := X.a5; have z5 := X.z5; have v5 := X.v5; have u5 := run_underlying X.t5
  go_enter L.f169, Body.n169_ntmps ρ
  go_wp2
  go_region_o
  all_goals (go_wp2; go_ret; exact ⟨rfl, turned_freeze (turned_drew _ w) (by simp) _⟩)
set_option maxHeartbeats 2000000 in
set_option maxRecDepth 100000 in
theorem bld_string_nil (L : Lays.n169 P ρ) (X : Builder.Extra P ρ) {b : Nat} {p : Value} {w : World} (hbk : w.heap[b]? = some (.cells #[p, .slice none 0 0] (ρ.t 72) (0, 0))) :
    Calls P (ρ.f 169) #[.pointer (some ⟨b, 0, none⟩)] w fun e w' => e = .returned (.string ⟨#[]⟩) ∧ Turned [b] w w' := by
  have hUS := Any.unsafeString_none L X
  have c1 : w.drew.cell? ⟨b, 1, none⟩ = some (.slice none 0 0) := by
    have : w.drew.heap[b]? = _ := hbk
    rw [Lib.cell_of_heap this]; rfl
  have hSD : (Builtin.unsafeSliceData_ #[(ρ.t 37)] (ρ.t 127) #[.slice none 0 0]).run P w.drew = .ok (.pointer none) w.drew := rfl
  have mixed := L.mixed
  have t72 := L.t72; have a72 := L.a72; have z72 := L.z72; have v72 := L.v72; have u72 := run_underlying L.t72
  have t70 := L.t70; have a70 := L.a70; have z70 := L.z70; have v70 := L.v70; have u70 := run_underlying L.t70
  have t37 := L.t37; have a37 := L.a37; have z37 := L.z37; have v37 := L.v37; have u37 := run_underlying L.t37
  have t127 := L.t127; have a127 := L.a127; have z127 := L.z127; have v127 := L.v127; have u127 := run_underlying L.t127
  have t3 := L.t3; have a3 := L.a3; have z3 := L.z3; have v3 := L.v3; have u3 := run_underlying L.t3
  have t9 := L.t9; have a9 := L.a9; have z9 := L.z9; have v9 := L.v9; have u9 := run_underlying L.t9
  have t5 := X.t5; have a5 := X.a5; have z5 := X.z5; have v5 := X.v5; have u5 := run_underlying X.t5
  go_enter L.f169, Body.n169_ntmps ρ
  go_wp2
  go_region_o
  all_goals (go_wp2; go_ret; exact ⟨rfl, turned_drew _ w⟩)
set_option maxHeartbeats 2000000 in
set_option maxRecDepth 100000 in
theorem bld_string_tight (L : Lays.n169 P ρ) (X : Builder.Extra P ρ) {b g : Nat} {p : Value} {cur : Array Value} {w : World} (hbk : w.heap[b]? = some (.cells #[p, .slice (some ⟨g, 0, none⟩) 0 0] (ρ.t 72) (0, 0))) (hg : w.heap[g]? = some (.cells cur (ρ.t 5) (0, 0))) :
    Calls P (ρ.f 169) #[.pointer (some ⟨b, 0, none⟩)] w fun e w' => e = .returned (.string ⟨#[]⟩) ∧ Turned [b, g] w w' := by
  have hUS := Any.unsafeString_none L X
  have hlt : b < w.heap.size := (Array.getElem?_eq_some_iff.1 hbk).1
  have c0 : w.cell? ⟨b, 1, none⟩ = some (.slice (some ⟨g, 0, none⟩) 0 0) := by rw [Lib.cell_of_heap hbk]; rfl
  have c1 : w.drew.cell? ⟨b, 1, none⟩ = some (.slice (some ⟨g, 0, none⟩) 0 0) := c0
  have hSD : (Builtin.unsafeSliceData_ #[(ρ.t 37)] (ρ.t 127) #[.slice (some ⟨g, 0, none⟩) 0 0]).run P w.drew = .ok (.pointer (some ⟨w.drew.heap.size, 0, none⟩)) (w.drew.alloc (.view ⟨g, 0, none⟩ (ρ.t 5))) :=
    Lib.run_unsafeSliceData_zero w.drew _ _ (ρ.t 5) L.t127 ⟨g, 0, none⟩ 0 ((ρ.t 5), cur.size) (by have hg' : w.drew.heap[g]? = _ := hg; simp [World.shape?, hg'])
  have c2 : (w.drew.alloc (.view ⟨g, 0, none⟩ (ρ.t 5))).cell? ⟨b, 1, none⟩ = some (.slice (some ⟨g, 0, none⟩) 0 0) := by
    have : (w.drew.alloc (.view ⟨g, 0, none⟩ (ρ.t 5))).heap[b]? = _ := (Lib.alloc_old w.drew _ b hlt).trans hbk
    rw [Lib.cell_of_heap this]; rfl
  have c3 : (w.alloc (.view ⟨g, 0, none⟩ (ρ.t 5))).drew.cell? ⟨b, 1, none⟩ = some (.slice (some ⟨g, 0, none⟩) 0 0) := c2
  have mixed := L.mixed
  have t72 := L.t72; have a72 := L.a72; have z72 := L.z72; have v72 := L.v72; have u72 := run_underlying L.t72
  have t70 := L.t70; have a70 := L.a70; have z70 := L.z70; have v70 := L.v70; have u70 := run_underlying L.t70
  have t37 := L.t37; have a37 := L.a37; have z37 := L.z37; have v37 := L.v37; have u37 := run_underlying L.t37
  have t127 := L.t127; have a127 := L.a127; have z127 := L.z127; have v127 := L.v127; have u127 := run_underlying L.t127
  have t3 := L.t3; have a3 := L.a3; have z3 := L.z3; have v3 := L.v3; have u3 := run_underlying L.t3
  have t9 := L.t9; have a9 := L.a9; have z9 := L.z9; have v9 := L.v9; have u9 := run_underlying L.t9
  have t5 := X.t5; have a5 := X.a5; have z5 := X.z5; have v5 := X.v5; have u5 := run_underlying X.t5
  go_enter L.f169, Body.n169_ntmps ρ
  go_wp2
  go_region_o
  all_goals (go_wp2; go_ret; exact ⟨rfl, turned_alloc (turned_drew _ w) _⟩)
set_option maxHeartbeats 2000000 in
set_option maxRecDepth 100000 in
theorem bld_string_room (L : Lays.n169 P ρ) (X : Builder.Extra P ρ) {b g cap : Nat} {p : Value} {w : World} (hc0 : cap ≠ 0) (hbk : w.heap[b]? = some (.cells #[p, .slice (some ⟨g, 0, none⟩) 0 cap] (ρ.t 72) (0, 0))) :
    Calls P (ρ.f 169) #[.pointer (some ⟨b, 0, none⟩)] w fun e w' => e = .returned (.string ⟨#[]⟩) ∧ Turned [b, g] w w' := by
  have hUS := Any.unsafeString_none L X
  have c1 : w.drew.cell? ⟨b, 1, none⟩ = some (.slice (some ⟨g, 0, none⟩) 0 cap) := by
    have : w.drew.heap[b]? = _ := hbk
    rw [Lib.cell_of_heap this]; rfl
  have hSD : (Builtin.unsafeSliceData_ #[(ρ.t 37)] (ρ.t 127) #[.slice (some ⟨g, 0, none⟩) 0 cap]).run P w.drew = .ok (.pointer (some ⟨g, 0, none⟩)) w.drew :=
    Lib.run_unsafeSliceData_row _ _ _ _ _ _ hc0
  clear hc0
  have mixed := L.mixed
  have t72 := L.t72; have a72 := L.a72; have z72 := L.z72; have v72 := L.v72; have u72 := run_underlying L.t72
  have t70 := L.t70; have a70 := L.a70; have z70 := L.z70; have v70 := L.v70; have u70 := run_underlying L.t70
  have t37 := L.t37; have a37 := L.a37; have z37 := L.z37; have v37 := L.v37; have u37 := run_underlying L.t37
  have t127 := L.t127; have a127 := L.a127; have z127 := L.z127; have v127 := L.v127; have u127 := run_underlying L.t127
  have t3 := L.t3; have a3 := L.a3; have z3 := L.z3; have v3 := L.v3; have u3 := run_underlying L.t3
  have t9 := L.t9; have a9 := L.a9; have z9 := L.z9; have v9 := L.v9; have u9 := run_underlying L.t9
  have t5 := X.t5; have a5 := X.a5; have z5 := X.z5; have v5 := X.v5; have u5 := run_underlying X.t5
  go_enter L.f169, Body.n169_ntmps ρ
  go_wp2
  go_region_o
  all_goals (go_wp2; go_ret; exact ⟨rfl, turned_drew _ w⟩)
theorem Turned.more {bs cs : List Nat} {w w' : World} (h : Turned bs w w') (hs : ∀ b ∈ bs, b ∈ cs) : Turned cs w w' := ⟨h.os, h.tape, h.output, h.size, fun k hk hb => h.block k hk fun e => hb (hs k e)⟩
theorem bld_string (L : Lays.n169 P ρ) (X : Builder.Extra P ρ) {B b : Nat} {p v : Value} {s : ByteArray} {w : World} (h : Bld (ρ.t 72) (ρ.t 5) B b p v (byteCells s) w) :
    Calls P (ρ.f 169) #[.pointer (some ⟨b, 0, none⟩)] w fun e w' => e = .returned (.string s) ∧ Turned (b :: v.ownBlock.toList) w w' := by
  have hown := h.own
  have hbk := h.blk
  rw [byteCells_len] at hown
  have hlen : s.size = s.data.toList.length := (Array.length_toList).symm
  rcases hown.2 with ⟨rfl, h0⟩ | ⟨g, cap, cur, rfl, hbg, hg, hnc, hcm, hcs, htake⟩
  · refine (bld_string_nil L X hbk).mono ?_
    rintro e w' ⟨rfl, ht⟩
    refine ⟨?_, ht.more (fun b hb => hb)⟩
    have : s.data = #[] := Array.size_eq_zero_iff.1 h0
    cases s; cases this; rfl
  · by_cases h0 : s.size = 0
    · have hs : s = ⟨#[]⟩ := by
        have : s.data = #[] := Array.size_eq_zero_iff.1 h0
        cases s; cases this; rfl
      rw [h0] at hbk
      by_cases hc0 : cap = 0
      · subst hc0
        refine (bld_string_tight L X hbk hg).mono ?_
        rintro e w' ⟨rfl, ht⟩
        exact ⟨by rw [hs], ht.more (fun b hb => hb)⟩
      · refine (bld_string_room L X hc0 hbk).mono ?_
        rintro e w' ⟨rfl, ht⟩
        exact ⟨by rw [hs], ht.more (fun b hb => hb)⟩
    · rw [hlen] at hbk hown
      refine (bld_string_some L X (l := s.data.toList) hbk hown (fun e => h0 (by rw [hlen, e]; rfl))).mono ?_
      rintro e w' ⟨rfl, ht⟩
      refine ⟨?_, ht.more (fun b hb => hb)⟩
      cases s; rfl
end
section
open Go.Shelf Go.Lib Go.Proofs
variable {ρ : Ren}
theorem bld_of {B : Nat} {m : Nat → Value} {w : World} {id : Nat} {T te : TypeId} {s : ByteArray} (h : ObjOK B (m id) w (.bld T te s)) : ∃ b sv p, m id = .tuple #[.pointer (some ⟨b, 0, none⟩), sv] ∧ (p = .pointer none ∨ p = .pointer (some ⟨b, 0, none⟩)) ∧ Bld T te B b p sv (byteCells s) w ∧ blks (m id) = b :: (sv.ownBlock).toList := by
  obtain ⟨b, sv, p, h1, h2, h3, h4, h5, h6⟩ := h
  have e := blk_own h5
  refine ⟨b, sv, p, h1, h3, ⟨h2, h4, by rw [byteCells_len]; exact h5, by rw [e]; exact h6⟩, ?_⟩
  rw [h1, blks_pair, e]; rfl
theorem written_does {C : Cfg} {g : FuncId} {L : Heap} {id : Nat} {s s' : ByteArray} {a av : AV} (hid : L[id]? = some (.obj (.bld (ρ.t 72) (ρ.t 5) s))) (ua : Value) (ur : Value)
    (he : ∀ (us : Array Value) (w : World), (callFunc g us).run C.P w = .ok (.enter g us) w) (ha : ∀ {m : Nat → Value} {w : World} {S : Nat → Nat → Prop} {u : Value}, RepA m L w S a u → u = ua) (hr : ∀ {m : Nat → Value} {L' : Heap} {w : World} {S : Nat → Nat → Prop}, RepA m L' w S av ur)
    (hc : ∀ {B b : Nat} {p v : Value} {w : World}, Bld (ρ.t 72) (ρ.t 5) B b p v (byteCells s) w → (p = .pointer none ∨ p = .pointer (some ⟨b, 0, none⟩)) → B ≤ w.heap.size → Calls C.P g #[.pointer (some ⟨b, 0, none⟩), ua] w fun e w' => e = .returned ur ∧ Written C.P ρ B b v (byteCells s') w w') :
    CallDoes C g [.ref id [], a] L av (L.set id (.obj (.bld (ρ.t 72) (ρ.t 5) s'))) := by
  refine ⟨he, fun j hj => keeps_set hid (by simp) j hj, fun B m w S us hI hG hrep => ?_⟩
  simp only [RepAs] at hrep
  obtain ⟨u, q, rfl, h1, u2, q2, rfl, h2, rfl⟩ := hrep
  simp only [RepA] at h1
  obtain ⟨sl, e1, _, _, e3⟩ := h1
  rw [hid] at e1; cases e1
  obtain ⟨b, sv, p, hm, hp, hb, hbl⟩ := bld_of (hI.obj id _ hid)
  obtain ⟨_, sv0, hm0⟩ := e3 _ rfl
  rw [hm] at hm0
  cases hm0
  rw [ha h2]
  refine (hc hb hp hI.base).mono ?_
  rintro e w' ⟨rfl, v', k1, k2, k3⟩
  refine ⟨_, _, S, rfl, Goes.turned (v' := .tuple #[.pointer (some ⟨b, 0, none⟩), v']) hI hid (by rw [hbl]; exact k2) ?_ ?_ ?_ _, hr⟩
  · have ho := k1.own
    rw [byteCells_len] at ho
    exact ⟨b, v', _, rfl, k1.le, .inr rfl, k1.blk, ho, by rw [← blk_own ho]; exact k1.ne⟩
  · intro b' hb'
    rw [hbl]
    have e := blk_own k1.own
    rw [blks_pair, ← e, List.mem_append, Option.mem_toList, Option.mem_toList] at hb'
    rcases hb' with hb' | hb'
    · simp [blk] at hb'; subst hb'; exact .inl (by simp)
    · rcases k3 with k3 | ⟨g, k3, k4⟩
      · rw [k3] at hb'; exact .inl (by simp [Option.mem_toList, hb'])
      · rw [k3] at hb'; cases hb'; exact .inr k4
  · intro u sv' h
    rw [hm] at h
    cases h
    exact ⟨v', rfl⟩
def bldByteFx (T te : TypeId) {Ω : Type} (vs : List AV) (L : Heap) (k : AV → Heap → Option Ω) : Option Ω :=
  match vs with
  | [.ref id [], .v (.int .u8) c] => match L[id]? with
    | some (.obj (.bld T' te' s)) => bif T' == T && te' == te && (decide ((0 : Int) ≤ c) && decide ((c : Int) < 256)) && decide (s.size ≤ rowMax) then k (.v (.raw .iface) .nilIface) (L.set id (.obj (.bld T te (s.push (UInt8.ofNat (Int.toNat c)))))) else none
    | _ => none
  | _ => none
def bldStrFx (T te : TypeId) {Ω : Type} (vs : List AV) (L : Heap) (k : AV → Heap → Option Ω) : Option Ω :=
  match vs with
  | [.ref id [], .v .str t] => match L[id]? with
    | some (.obj (.bld T' te' s)) => bif T' == T && te' == te && decide (s.size + ByteArray.size t ≤ rowMax) then k (.tup [.v (.int .i64) (ByteArray.size t : Int), .v (.raw .iface) .nilIface]) (L.set id (.obj (.bld T te (s ++ t)))) else none
    | _ => none
  | _ => none
def bldGetFx (T te : TypeId) {Ω : Type} (vs : List AV) (L : Heap) (k : AV → Heap → Option Ω) : Option Ω :=
  match vs with
  | [.ref id []] => match L[id]? with
    | some (.obj (.bld T' te' s)) => bif T' == T && te' == te then k (.v .str s) (L.set id .gone) else none
    | _ => none
  | _ => none
theorem rep_nilErr {m : Nat → Value} {L : Heap} {w : World} {S : Nat → Nat → Prop} : RepA m L w S (.v (.raw .iface) .nilIface) .nilIface := by
  rw [rep_v]; exact ⟨[.nilIface], ⟨rfl, rfl⟩, rfl⟩
theorem bldByteFx_ok {C : Cfg} (Ly : Lays.n167 C.P ρ) (X : Builder.Extra C.P ρ) (he : ∀ (us : Array Value) (w : World), (callFunc (ρ.f 167) us).run C.P w = .ok (.enter (ρ.f 167) us) w) : FxOK C (ρ.f 167) (fun {_} => bldByteFx (ρ.t 72) (ρ.t 5)) := by
  intro Ω vs L k r h
  replace h : bldByteFx _ _ vs L k = some r := h
  unfold bldByteFx at h
  split at h
  · rename_i id c
    split at h
    · rename_i T' te' s hid
      obtain ⟨hp, hq⟩ := ite_some h
      simp only [Bool.and_eq_true, beq_iff_eq, decide_eq_true_eq] at hp
      obtain ⟨⟨⟨rfl, rfl⟩, h0, h1⟩, h2⟩ := hp
      unfold rowMax at h2
      have h0 : (0 : Int) ≤ c := h0
      have h1 : (c : Int) < 256 := h1
      refine ⟨_, _, hq, written_does hid (.int .u8 c) .nilIface he (fun h => rep_int.1 h) rep_nilErr (fun hb hp hB => ?_)⟩
      have e : byteCells (s.push (UInt8.ofNat (Int.toNat c))) = byteCells s ++ [.int .u8 c] := by
        simp only [byteCells, ByteArray.push, Array.toList_push, List.map_append, List.map_cons, List.map_nil]
        have : ((UInt8.ofNat (Int.toNat c)).toNat : Int) = c := by
          have h2 : Int.toNat c < 256 := (Int.toNat_lt h0).2 h1
          rw [UInt8.toNat_ofNat', Nat.mod_eq_of_lt (by omega)]
          exact Int.toNat_of_nonneg h0
        rw [this]
      rw [e]
      exact bld_byte Ly X hb hp c (by rw [byteCells_len]; omega) hB
    · cases h
  · cases h
theorem bldStrFx_ok {C : Cfg} (Ly : Lays.n166 C.P ρ) (X : Builder.Extra C.P ρ) (he : ∀ (us : Array Value) (w : World), (callFunc (ρ.f 166) us).run C.P w = .ok (.enter (ρ.f 166) us) w) : FxOK C (ρ.f 166) (fun {_} => bldStrFx (ρ.t 72) (ρ.t 5)) := by
  intro Ω vs L k r h
  replace h : bldStrFx _ _ vs L k = some r := h
  unfold bldStrFx at h
  split at h
  · rename_i id t
    split at h
    · rename_i T' te' s hid
      obtain ⟨hp, hq⟩ := ite_some h
      simp only [Bool.and_eq_true, beq_iff_eq, decide_eq_true_eq] at hp
      obtain ⟨⟨rfl, rfl⟩, h2⟩ := hp
      unfold rowMax at h2
      refine ⟨_, _, hq, written_does hid (.string t) (.tuple #[.int .i64 (ByteArray.size t), .nilIface]) he (fun h => rep_str.1 h) ?_ (fun hb hp hB => ?_)⟩
      · intro m L' w S
        simp only [RepA]
        refine ⟨[.int .i64 (ByteArray.size t), .nilIface], rfl, ?_⟩
        simp only [RepAs]
        exact ⟨_, _, rfl, ⟨[_], rfl, rfl⟩, _, _, rfl, ⟨[.nilIface], ⟨rfl, rfl⟩, rfl⟩, rfl⟩
      · rw [byteCells_app]
        exact bld_str Ly X hb hp t (by rw [byteCells_len]; have h2 : s.size + ByteArray.size t ≤ 2147483648 := h2; omega) hB
    · cases h
  · cases h
theorem bldGetFx_ok {C : Cfg} (Ly : Lays.n169 C.P ρ) (X : Builder.Extra C.P ρ) (he : ∀ (us : Array Value) (w : World), (callFunc (ρ.f 169) us).run C.P w = .ok (.enter (ρ.f 169) us) w) : FxOK C (ρ.f 169) (fun {_} => bldGetFx (ρ.t 72) (ρ.t 5)) := by
  intro Ω vs L k r h
  replace h : bldGetFx _ _ vs L k = some r := h
  unfold bldGetFx at h
  split at h
  · rename_i id
    split at h
    · rename_i T' te' s hid
      obtain ⟨hp, hq⟩ := ite_some h
      simp only [Bool.and_eq_true, beq_iff_eq] at hp
      obtain ⟨rfl, rfl⟩ := hp
      refine ⟨_, _, hq, he, fun j hj => keeps_set hid (by simp) j hj, fun B m w S us hI hG hrep => ?_⟩
      simp only [RepAs] at hrep
      obtain ⟨u, q, rfl, h1, rfl⟩ := hrep
      simp only [RepA] at h1
      obtain ⟨sl, e1, _, _, e3⟩ := h1
      rw [hid] at e1; cases e1
      obtain ⟨b, sv, p, hm, hp, hb, hbl⟩ := bld_of (hI.obj id _ hid)
      obtain ⟨_, sv0, hm0⟩ := e3 _ rfl
      rw [hm] at hm0
      cases hm0
      refine (bld_string Ly X hb).mono ?_
      rintro e w' ⟨rfl, ht⟩
      exact ⟨_, m, S, rfl, Goes.gaveUp hI hid (by rw [hbl]; exact ht) _, rep_str.2 rfl⟩
    · cases h
  · cases h
end
end
section
set_option linter.unusedVariables false
set_option linter.unusedSimpArgs false
set_option maxHeartbeats 400000
def pAt : Nat → Nat → Code → Code
  | 0, _, c => c
  | f + 1, n, c => bif n == 1 then c else pAt f (n / 2) (bif n % 2 == 0 then cl c else cr c)
abbrev pCo (n : Nat) (fn : Func) : Code := pAt 100 n (fn.body.getD .skip)
def dZ : Nat → List AV → List AV
  | 0, l => l
  | n + 1, l => .dead :: dZ n l
def mB : Nat → Nat → List Bool
  | 0, _ => []
  | n + 1, b => (b % 2 == 1) :: mB n (b / 2)
def mL : Nat → Nat → Nat → List Nat
  | _, 0, _ => []
  | i, n + 1, b => bif b % 2 == 1 then i :: mL (i + 1) n (b / 2) else mL (i + 1) n (b / 2)
def sqK {Ω : Type} (f : List AV → Heap → Kont Ω → Option Ω) (k : Kont Ω) : Kont Ω := seqK (fun env L => f env L k) k
abbrev Cfg.from (C : Cfg) (n : Nat) : Cfg := { C with Y := fun i => decide (n ≤ i) }
theorem leV {Ω : Type} {X Y Z : Option Ω} (h : Z = Y) (hl : Le X Y) : Le X Z := h ▸ hl
inductive AK where
  | ai (τ : ETy) | ap (T : ETy) | af0 (g : FuncId) | af1 (g : FuncId) (T : ETy) | af2 (g : FuncId) (T U : ETy) | aq (g : FuncId) | afq (g h : FuncId) | ar (id : Nat) | abm (g : FuncId) (τ : ETy)
@[reducible] def AK.I : AK → Type
  | .ai τ => τ.I
  | .ap T => T.I
  | .af1 _ T => T.I
  | .af2 _ T U => T.I × U.I
  | .abm _ τ => τ.I
  | _ => Unit
def AK.av : (a : AK) → a.I → AV
  | .ai τ, x => .v τ x
  | .ap T, x => .vp T x []
  | .af0 g, _ => .fn g []
  | .af1 g T, x => .fn g [.vp T x []]
  | .af2 g T U, x => .fn g [.vp T x.1 [], .vp U x.2 []]
  | .aq g, _ => .vp (.raw .func) (Value.func (.func g) #[] #[]) []
  | .afq g h, _ => .fn g [.vp (.raw .func) (Value.func (.func h) #[] #[]) []]
  | .ar id, _ => .ref id []
  | .abm g τ, x => .bm g [.v τ x]
def isNilP : List PStep → Bool
  | [] => true
  | _ => false
def dec0 (g : FuncId) : AV → Option Unit
  | .fn g' [] => bif g' == g then some () else none
  | _ => none
def dec1 (g : FuncId) (T : ETy) : AV → Option T.I
  | .fn g' [a] => bif g' == g then getVP T a else none
  | _ => none
def dec2 (g : FuncId) (T U : ETy) : AV → Option (T.I × U.I)
  | .fn g' [a, b] => bif g' == g then (getVP T a).bind fun x => (getVP U b).bind fun y => some (x, y) else none
  | _ => none
def decQ (g : FuncId) : AV → Option Unit
  | .vp (.raw .func) v [] => bif asFn v == some g then some () else none
  | _ => none
def decFq (g h : FuncId) : AV → Option Unit
  | .fn g' [.vp (.raw .func) v []] => bif g' == g && asFn v == some h then some () else none
  | _ => none
def decR (id : Nat) : AV → Option Unit
  | .ref id' p => bif id' == id && isNilP p then some () else none
  | _ => none
def decBm (g : FuncId) (τ : ETy) : AV → Option τ.I
  | .bm g' [a] => bif g' == g then getI τ a else none
  | _ => none
def AK.dec : (a : AK) → AV → Option a.I
  | .ai τ => getI τ
  | .ap T => getVP T
  | .af0 g => dec0 g
  | .af1 g T => dec1 g T
  | .af2 g T U => dec2 g T U
  | .aq g => decQ g
  | .afq g h => decFq g h
  | .ar id => decR id
  | .abm g τ => decBm g τ
theorem ite_get {α : Type} {c : Bool} {o : Option α} {x : α} (h : (bif c then o else none) = some x) : c = true ∧ o = some x := by
  cases c with
  | true => exact ⟨rfl, h⟩
  | false => cases h
theorem AK.dec_eq : ∀ {a : AK} {v : AV} {x : a.I}, a.dec v = some x → v = a.av x
  | .ai τ, v, x, h => getI_eq (show getI τ v = some x from h)
  | .ap T, v, x, h => getVP_eq (show getVP T v = some x from h)
  | .af0 g, v, x, h => by
    match v, h with
    | .fn g' [], h =>
      obtain ⟨h1, _⟩ := ite_get (show (bif g' == g then some () else none) = some x from h)
      rw [show g' = g by simpa using h1]; rfl
  | .af1 g T, v, x, h => by
    match v, h with
    | .fn g' [a], h =>
      obtain ⟨h1, h2⟩ := ite_get (show (bif g' == g then getVP T a else none) = some x from h)
      rw [show g' = g by simpa using h1, getVP_eq h2]; rfl
  | .af2 g T U, v, x, h => by
    match v, h with
    | .fn g' [a, b], h =>
      obtain ⟨h1, h2⟩ := ite_get (show (bif g' == g then (getVP T a).bind fun x => (getVP U b).bind fun y => some (x, y) else none) = some x from h)
      obtain ⟨y, h3, h4⟩ := Option.bind_eq_some_iff.1 h2
      obtain ⟨z, h5, h6⟩ := Option.bind_eq_some_iff.1 h4
      cases h6
      rw [show g' = g by simpa using h1, getVP_eq h3, getVP_eq h5]; rfl
  | .aq g, v, x, h => by
    match v, h with
    | .vp (.raw .func) u [], h =>
      obtain ⟨h1, _⟩ := ite_get (show (bif asFn u == some g then some () else none) = some x from h)
      obtain rfl := asFn_eq (show asFn u = some g by simpa using h1)
      rfl
  | .afq g q, v, x, h => by
    match v, h with
    | .fn g' [.vp (.raw .func) u []], h =>
      obtain ⟨h1, _⟩ := ite_get (show (bif g' == g && asFn u == some q then some () else none) = some x from h)
      simp only [Bool.and_eq_true] at h1
      obtain rfl := asFn_eq (show asFn u = some q by simpa using h1.2)
      rw [show g' = g by simpa using h1.1]; rfl
  | .ar id, v, x, h => by
    match v, h with
    | .ref id' p, h =>
      obtain ⟨h1, _⟩ := ite_get (show (bif id' == id && isNilP p then some () else none) = some x from h)
      simp only [Bool.and_eq_true] at h1
      obtain ⟨h1, h2⟩ := h1
      match p, h2 with
      | [], _ => rw [show id' = id by simpa using h1]; rfl
  | .abm g τ, v, x, h => by
    match v, h with
    | .bm g' [a], h =>
      obtain ⟨h1, h2⟩ := ite_get (show (bif g' == g then getI τ a else none) = some x from h)
      rw [show g' = g by simpa using h1, getI_eq h2]; rfl
@[reducible] def AIs : List AK → Type
  | [] => Unit
  | a :: r => a.I × AIs r
def encA : (ts : List AK) → AIs ts → List AV
  | [], _ => []
  | a :: r, x => a.av x.1 :: encA r x.2
def decA : (ts : List AK) → List AV → Option (AIs ts)
  | [], [] => some ()
  | a :: r, v :: vs => (a.dec v).bind fun x => (decA r vs).bind fun y => some (x, y)
  | _, _ => none
theorem decA_eq : ∀ {ts : List AK} {vs : List AV} {x : AIs ts}, decA ts vs = some x → vs = encA ts x
  | [], [], x, h => rfl
  | [], _ :: _, x, h => by cases h
  | a :: r, [], x, h => by cases h
  | a :: r, v :: vs, x, h => by
    simp only [decA] at h
    obtain ⟨y, h1, h2⟩ := Option.bind_eq_some_iff.1 h
    obtain ⟨z, h3, h4⟩ := Option.bind_eq_some_iff.1 h2
    cases h4
    rw [AK.dec_eq h1, decA_eq h3]; rfl
def sigA : List AK → List AV → Bool
  | .af0 g :: r, v :: vs => (match v with | .fn g' [] => g' == g | _ => false) && sigA r vs
  | .af1 g _ :: r, v :: vs => (match v with | .fn g' [_] => g' == g | _ => false) && sigA r vs
  | .af2 g _ _ :: r, v :: vs => (match v with | .fn g' [_, _] => g' == g | _ => false) && sigA r vs
  | .aq g :: r, v :: vs => (match v with | .vp (.raw .func) w [] => asFn w == some g | _ => false) && sigA r vs
  | .afq g h :: r, v :: vs => (match v with | .fn g' [.vp (.raw .func) w []] => g' == g && asFn w == some h | _ => false) && sigA r vs
  | .abm g _ :: r, v :: vs => (match v with | .bm g' [_] => g' == g | _ => false) && sigA r vs
  | _ :: r, _ :: vs => sigA r vs
  | _, _ => true
structure En (C : Cfg) where
  g : FuncId
  t : List AV → Bool
  e : Ent
  ok : EntOK C g (fun {_} => e)
structure Me (C : Cfg) where
  g : FuncId
  t : List AV → Heap → Bool
  fx : ∀ {Ω : Type}, List AV → Heap → (AV → Heap → Option Ω) → Option Ω
  ok : FxOK C g (fun {_} => fx)
def orT (g0 : FuncId) (t : List AV → Bool) (e : Ent) (rest : Spec) : Spec := ⟨fun g bs k => bif g == g0 && t bs then e bs k else rest.con g bs k, rest.isI, rest.inl⟩
def fxT (g0 : FuncId) (t : List AV → Heap → Bool) (fx : ∀ {Ω : Type}, List AV → Heap → (AV → Heap → Option Ω) → Option Ω) (rest : Spec) : Spec :=
  ⟨rest.con, fun g => g == g0 || rest.isI g, fun g vs L k => bif g == g0 && t vs L then fx vs L k else rest.inl g vs L k⟩
def spM {C : Cfg} : List (Me C) → Spec
  | m :: l => fxT m.g m.t (fun {_} => m.fx) (spM l)
  | [] => noS
def spE {C : Cfg} : List (En C) → List (Me C) → Spec
  | e :: l, m => orT e.g e.t (fun {_} => e.e) (spE l m)
  | [], m => spM m
theorem orT_ok {C : Cfg} {g0 : FuncId} {t : List AV → Bool} {e : Ent} {rest : Spec} (h : EntOK C g0 (fun {_} => e)) (hr : SpecOK C rest) : SpecOK C (orT g0 t (fun {_} => e) rest) := by
  refine ⟨?_, hr.inl⟩
  intro Ω g bs k r hk
  have hk2 : (bif g == g0 && t bs then e bs k else rest.con g bs k) = some r := hk
  cases hb : (g == g0 && t bs) with
  | true =>
    rw [hb, cond_true] at hk2
    simp only [Bool.and_eq_true, beq_iff_eq] at hb
    rw [hb.1]
    exact h bs k r hk2
  | false => rw [hb, cond_false] at hk2; exact hr.con g bs k r hk2
theorem fxT_ok {C : Cfg} {g0 : FuncId} {t : List AV → Heap → Bool} {fx : ∀ {Ω : Type}, List AV → Heap → (AV → Heap → Option Ω) → Option Ω} {rest : Spec} (h : FxOK C g0 (fun {_} => fx)) (hr : SpecOK C rest) : SpecOK C (fxT g0 t (fun {_} => fx) rest) := by
  refine ⟨hr.con, ?_⟩
  intro Ω g vs L k r hk
  have hk2 : (bif g == g0 && t vs L then fx vs L k else rest.inl g vs L k) = some r := hk
  cases hb : (g == g0 && t vs L) with
  | true =>
    rw [hb, cond_true] at hk2
    simp only [Bool.and_eq_true, beq_iff_eq] at hb
    rw [hb.1]
    exact h vs L k r hk2
  | false => rw [hb, cond_false] at hk2; exact hr.inl g vs L k r hk2
theorem spM_ok {C : Cfg} : ∀ (m : List (Me C)), SpecOK C (spM m)
  | m :: l => fxT_ok m.ok (spM_ok l)
  | [] => noS_ok
theorem spE_ok {C : Cfg} : ∀ (l : List (En C)) (m : List (Me C)), SpecOK C (spE l m)
  | e :: l, m => orT_ok e.ok (spE_ok l m)
  | [], m => spM_ok m
section
variable {C : Cfg}
def bodyOK (fn : Func) : Bool := fn.body.isSome && !(fn.name == "runtime.NumGoroutine")
def mkE (hC : C.OK) {es : List (En C)} {ms : List (Me C)} {fuel : Fuel} (g : FuncId) (fn : Func) (ts : List AK) (τ : ETy) (l : List ETy) (W : AIs ts → ∀ {Ω : Type}, (Tup τ l → Option Ω) → Option Ω)
    (h : ∀ (x : AIs ts) (Ω : Type) (k : AV → Option Ω), Le (W x fun r => k (tupAV τ l r)) (evFn C (spE es ms) fuel fn (fn.body.getD .skip) (encA ts x) k)) (hf : C.P.funcs[g]? = some fn) (hb : bodyOK fn = true) : En C where
  g := g
  t := sigA ts
  e := fun vs k => (decA ts vs).bind fun x => (W x some).bind fun r => k (tupAV τ l r)
  ok := by
    intro Ω vs k r hk
    obtain ⟨x, h1, h2⟩ := Option.bind_eq_some_iff.1 hk
    obtain ⟨y, h3, h4⟩ := Option.bind_eq_some_iff.1 h2
    have hb2 : fn.body.isSome = true ∧ (fn.name == "runtime.NumGoroutine") = false := by simpa [bodyOK] using hb
    refine ⟨_, h4, ?_⟩
    rw [decA_eq h1]
    refine contract_u hC (spE_ok es ms) hf hb2.1 hb2.2 (h x _ (dec τ l) y ?_)
    rw [dec_fun]; exact h3
def mkT (hC : C.OK) {es : List (En C)} {ms : List (Me C)} {fuel : Fuel} (g : FuncId) (fn : Func) (ts : List AK) (τ : ETy) (l : List ETy) (W : AIs ts → ∀ {Ω : Type}, (Tup τ l → Option Ω) → Option Ω) (t : AIs ts → Tup τ l)
    (h : ∀ (x : AIs ts) (Ω : Type) (k : AV → Option Ω), evFn C (spE es ms) fuel fn (fn.body.getD .skip) (encA ts x) k = W x fun r => k (tupAV τ l r)) (hv : ∀ (x : AIs ts), W x some = some (t x)) (hf : C.P.funcs[g]? = some fn) (hb : bodyOK fn = true) : En C where
  g := g
  t := sigA ts
  e := fun vs k => (decA ts vs).bind fun x => k (tupAV τ l (t x))
  ok := by
    intro Ω vs k r hk
    obtain ⟨x, h1, h2⟩ := Option.bind_eq_some_iff.1 hk
    have hb2 : fn.body.isSome = true ∧ (fn.name == "runtime.NumGoroutine") = false := by simpa [bodyOK] using hb
    refine ⟨_, h2, ?_⟩
    rw [decA_eq h1]
    refine contract_u hC (spE_ok es ms) hf hb2.1 hb2.2 ((h x _ (dec τ l)).trans ?_)
    rw [dec_fun]; exact hv x
def En.of {g : FuncId} {e : Ent} (h : EntOK C g (fun {_} => e)) : En C := ⟨g, fun _ => true, fun {_} => e, h⟩
def Me.of {g : FuncId} {fx : ∀ {Ω : Type}, List AV → Heap → (AV → Heap → Option Ω) → Option Ω} (h : FxOK C g (fun {_} => fx)) : Me C := ⟨g, fun _ _ => true, fun {_} => fx, h⟩
def Me.walk (hC : C.OK) (es : List (En C)) (ms : List (Me C)) (g : FuncId) (fn : Func) (hf : C.P.funcs[g]? = some fn) (hb : bodyOK fn = true) : Me C where
  g := g
  t := fun _ _ => true
  fx := fun vs L k => evInl C (spE es ms) ⟨1, fun _ => []⟩ fn (fn.body.getD .skip) vs L k
  ok := by
    intro Ω vs L k r hk
    have hb2 : fn.body.isSome = true ∧ (fn.name == "runtime.NumGoroutine") = false := by simpa [bodyOK] using hb
    obtain ⟨c, hc⟩ := Option.isSome_iff_exists.1 hb2.1
    rw [hc] at hk
    exact inl_does hC (spE_ok es ms) hf hc hb2.2 hk
inductive ST where
  | box (T : ETy) | row (t : TypeId) (e : ETy) (ro : Bool) | gone | bld (T te : TypeId)
@[reducible] def ST.I : ST → Type
  | .box T => T.I
  | .row _ e _ => List e.I
  | .gone => Unit
  | .bld _ _ => ByteArray
def ST.enc : (s : ST) → s.I → Slot
  | .box T, x => .box T x false
  | .row t e ro, xs => .row t e xs ro
  | .gone, _ => .gone
  | .bld T te, x => .obj (.bld T te x)
def decBox (T : ETy) : Slot → Option T.I
  | .box T' x ro => bif ro then none else castI T' T x
  | _ => none
def decRow (t : TypeId) (e : ETy) (ro : Bool) : Slot → Option (List e.I)
  | .row t' e' xs ro' => bif t' == t && ro' == ro then castI (.slice e') (.slice e) xs else none
  | _ => none
def decGone : Slot → Option Unit
  | .gone => some ()
  | _ => none
def decBld (T te : TypeId) : Slot → Option ByteArray
  | .obj (.bld T' te' x) => bif T' == T && te' == te then some x else none
  | _ => none
def ST.dec : (s : ST) → Slot → Option s.I
  | .box T => decBox T
  | .row t e ro => decRow t e ro
  | .gone => decGone
  | .bld T te => decBld T te
theorem ST.dec_eq : ∀ {s : ST} {q : Slot} {x : s.I}, s.dec q = some x → q = s.enc x
  | .box T, q, x, h => by
    match q, h with
    | .box T' y ro, h =>
      have h : (bif ro then none else castI T' T y) = some x := h
      match ro, h with
      | false, h =>
        obtain ⟨e1, e2⟩ := castI_eq (show castI T' T y = some x from h)
        subst e1; subst e2; rfl
  | .row t e ro, q, x, h => by
    match q, h with
    | .row t' e' ys ro', h =>
      obtain ⟨h1, h2⟩ := ite_get (show (bif t' == t && ro' == ro then castI (.slice e') (.slice e) ys else none) = some x from h)
      obtain ⟨e1, e2⟩ := castI_eq h2
      cases e1
      simp only [Bool.and_eq_true, beq_iff_eq] at h1
      have e3 : x = ys := e2
      rw [h1.1, h1.2, e3]; rfl
  | .gone, q, x, h => by
    match q, h with
    | .gone, _ => rfl
  | .bld T te, q, x, h => by
    match q, h with
    | .obj (.bld T' te' y), h =>
      obtain ⟨h1, h2⟩ := ite_get (show (bif T' == T && te' == te then some y else none) = some x from h)
      simp only [Bool.and_eq_true, beq_iff_eq] at h1
      cases h2
      rw [h1.1, h1.2]; rfl
@[reducible] def HI : List ST → Type
  | [] => Unit
  | s :: r => s.I × HI r
theorem CallDoes.cut {g : FuncId} {vs : List AV} {L : Heap} {av : AV} {L' : Heap} (h : CallDoes C g vs L av L') (hid : av.ids (fun _ id => decide (id < L.length)) = true) : CallDoes C g vs L av (cutL L.length L') where
  enters := h.enters
  keeps j hj := get_cut (h.keeps j hj) (List.getElem?_eq_some_iff.1 hj).1
  runs B m w S us hI hG hr := by
    refine (h.runs B m w S us hI hG hr).mono ?_
    rintro e w' ⟨u, m', S', he, hg, hrep⟩
    refine ⟨u, m', S', he, ⟨hg.inv.take _, hg.safe, hg.below, ⟨fun id s hs hrs => ?_⟩, hg.new⟩, RepA.take hid hrep⟩
    obtain ⟨s', q1, q2, q3, q4, q5⟩ := hg.ext.ext id s hs hrs
    exact ⟨_, get_cut q1 (List.getElem?_eq_some_iff.1 hs).1, fun e => q2 (keep_resv.1 e), fun T e => q3 T (by rw [← e, keep_bty]), fun o e => q4 o (keep_obj e), fun t e xs ro hX q => q5 t e xs ro hX (keep_row q)⟩
theorem CallDoes.frz {g : FuncId} {vs : List AV} {L : Heap} {av : AV} {L' : Heap} (h : CallDoes C g vs L av L') (n i : Nat) : CallDoes C g vs L av (frzH n i L') where
  enters := h.enters
  keeps j hj := frzH_keeps i (h.keeps j hj)
  runs B m w S us hI hG hr := by
    refine (h.runs B m w S us hI hG hr).mono ?_
    rintro e w' ⟨u, m', S', he, hg, hrep⟩
    obtain ⟨S2, g2⟩ := frzH_goes n (fun _ => false) i hg.inv
    exact ⟨u, m', S2, he, hg.trans g2, goes_noX (fun _ => rfl) g2 hrep⟩
inductive RT where
  | d (τ : ETy) (l : List ETy) | void
@[reducible] def RT.R : RT → Type
  | .d τ l => Tup τ l
  | .void => Unit
def RT.av : (r : RT) → r.R → AV
  | .d τ l, x => tupAV τ l x
  | .void, _ => .tup []
def RT.dec : (r : RT) → AV → Option r.R
  | .d τ l, a => K.dec τ l a
  | .void, .tup [] => some ()
  | .void, _ => none
theorem RT.dec_self : ∀ (r : RT) (x : r.R), r.dec (r.av x) = some x
  | .d τ l, x => K.dec_self τ l x
  | .void, _ => rfl
theorem RT.dec_eq : ∀ {r : RT} {a : AV} {x : r.R}, r.dec a = some x → a = r.av x
  | .d τ l, a, x, h => K.dec_eq (show K.dec τ l a = some x from h)
  | .void, a, x, h => by
    match a, h with
    | .tup [], _ => rfl
end

end
section
set_option linter.unusedVariables false
set_option linter.unusedSimpArgs false
set_option maxHeartbeats 400000
section
open Go.Shelf Go.Lib Go.Proofs
variable {P : Program} {ρ : Ren}
theorem flat_rep_len (n : Nat) (l : List Value) : (List.replicate n l).flatten.length = n * l.length := by simp
theorem run_clear_any (w : World) (t e ty : TypeId) (z : Value) (size : Nat) (ht : P.underlying t = some (.slice e)) (hv : ∀ w, (zeroValue e).run P w = .ok z w) (hz : z.cells.size = size) (h1 : ∀ u ∈ z.cells.toList, u.oneCell' = true) (b o n c : Nat) (hn : 0 < n)
    (hc : ∀ j, j < n * size → (w.cell? ⟨b, o + j, none⟩).isSome = true) (hf : ∀ j, j < n * size → w.frozen? ⟨b, o + j, none⟩ = false) :
    (Builtin.clear_ #[t] ty #[.slice (some ⟨b, o, none⟩) n c]).run P w = .ok (.tuple #[]) (w.setCells b o (List.replicate n z.cells.toList).flatten) := by
  have hl : (List.replicate n z.cells.toList).flatten.length = n * size := by rw [flat_rep_len]; simp [hz]
  have hzc : (Builtin.zeroCells z.cells n).toList = (List.replicate n z.cells.toList).flatten := by
    have := made_eq (c := z.cells.toList) (k := size) (by simpa using hz) n
    rw [← this]
    simp [madeCells, Builtin.zeroCells, hz]
  have hst := run_storeCells_cells (P := P) b o (List.replicate n z.cells.toList).flatten 0 w (by intro j hj; rw [Nat.add_zero]; exact hc j (by rw [← hl]; exact hj)) (by intro j hj; rw [Nat.add_zero]; exact hf j (by rw [← hl]; exact hj)) (by
    intro u hu
    obtain ⟨l, hl, hu⟩ := List.mem_flatten.1 hu
    rw [List.eq_of_mem_replicate hl] at hu
    exact h1 u hu)
  simp only [Nat.add_zero] at hst
  obtain ⟨m, rfl⟩ : ∃ m, n = m + 1 := ⟨n - 1, by omega⟩
  simp [Builtin.clear_, run_underlying ht, hv, hzc, hst]
theorem setCells_wrote {w : World} {b : Nat} {pre mid vs post : List Value} {t : TypeId} {fr : Nat × Nat} (h : w.heap[b]? = some (.cells (pre ++ mid ++ post).toArray t fr)) (hl : mid.length = vs.length) : Wrote b (pre ++ vs ++ post) t fr w (w.setCells b pre.length vs) := by
  obtain ⟨s1, s2, s3, s4⟩ := setCells_same b vs pre.length w
  exact ⟨heap_setCells_at b vs pre.length w pre mid post t fr h rfl hl, fun k hk => heap_setCells_ne b vs pre.length w k hk, s1, s2, s3, s4⟩
theorem Wrote.trans {b : Nat} {c1 c2 : List Value} {t : TypeId} {fr : Nat × Nat} {w w1 w2 : World} (h : Wrote b c1 t fr w w1) (k : Wrote b c2 t fr w1 w2) : Wrote b c2 t fr w w2 :=
  ⟨k.here, fun q hq => (k.there q hq).trans (h.there q hq), k.size.trans h.size, k.os.trans h.os, k.tape.trans h.tape, k.output.trans h.output⟩
set_option maxHeartbeats 4000000 in
set_option maxRecDepth 1000000 in
theorem delete_any (L : SlLaysE0.n45 P ρ) (i0 : TypeInfo) (z : Value) (size : Nat) (hi0 : P.info? (ρ.t 23) = some i0) (hz1 : i0.size = size) (hzs : z.cells.size = size) (h1z : ∀ u ∈ z.cells.toList, u.oneCell' = true)
    (v23 : ∀ w, (zeroValue (ρ.t 23)).run P w = .ok z w) (z23 : ∀ w, (Go.sizeOf (ρ.t 23)).run P w = .ok size w) (blk cap i j n : Nat) (cs post : List Value) (tt : TypeId) (w : World) (hlen : cs.length = n * size)
    (hB : w.heap[blk]? = some (.cells (cs ++ post).toArray tt (0, 0))) (h1 : ∀ u ∈ cs, u.oneCell' = true) (hcap : n ≤ cap) (hm : cap ≤ 9223372036854775807) (hij : i < j) (hj : j ≤ n) :
    Calls P (ρ.f 45) #[.slice (some ⟨blk, 0, none⟩) n cap, .int .i64 i, .int .i64 j] w fun e w' => e = .returned (.slice (some ⟨blk, 0, none⟩) (i + (n - j)) cap) ∧
      Wrote blk (cs.take (i * size) ++ cs.drop (j * size) ++ (List.replicate (n - (i + (n - j))) z.cells.toList).flatten ++ post) tt (0, 0) w.drew w' := by
  have mixed := L.mixed; have t0 := L.t0; have a0 := L.a0; have z0 := L.z0; have v0 := L.v0; have t3 := L.t3; have a3 := L.a3; have z3 := L.z3; have v3 := L.v3; have t4 := L.t4; have a4 := L.a4; have z4 := L.z4; have v4 := L.v4; have t22 := L.t22; have a22 := L.a22; have z22 := L.z22; have v22 := L.v22
  have u22 : ∀ w, Sem.run P (underlying (ρ.t 22)) w = .ok (TypeDesc.slice (ρ.t 23)) w := run_underlying t22
  obtain ⟨news, hnews⟩ : ∃ news, news = cs.drop (j * size) := ⟨_, rfl⟩
  have hnl : news.length = (n - j) * size := by rw [hnews, List.length_drop, hlen, Nat.sub_mul]
  have s1 : Hid (news.length = (n - j) * size) := hnl
  have s2 : Hid (∀ u ∈ news, u.oneCell' = true) := by
    intro u hu; rw [hnews] at hu; exact h1 u (List.mem_of_mem_drop hu)
  have hmul : i * size + (n - j) * size ≤ n * size := by rw [← Nat.add_mul]; exact Nat.mul_le_mul_right _ (by omega)
  have hil : i * size ≤ n * size := Nat.mul_le_mul_right _ (by omega)
  have hBd : w.drew.heap[blk]? = some (.cells (cs ++ post).toArray tt (0, 0)) := hB
  have hsp : cs = cs.take (i * size) ++ (cs.drop (i * size)).take news.length ++ cs.drop (i * size + news.length) := parts3 (by omega)
  have hpre : (cs.take (i * size)).length = i * size := by rw [List.length_take, hlen]; omega
  have hmid : ((cs.drop (i * size)).take news.length).length = news.length := by rw [List.length_take, List.length_drop, hlen]; omega
  have W1w : Wrote blk (cs.take (i * size) ++ news ++ (cs.drop (i * size + news.length) ++ post)) tt (0, 0) w.drew (w.drew.setCells blk (i * size) news) := by
    have := setCells_wrote (w := w.drew) (b := blk) (pre := cs.take (i * size)) (mid := (cs.drop (i * size)).take news.length) (vs := news) (post := cs.drop (i * size + news.length) ++ post) (t := tt) (fr := (0, 0)) (by
      rw [← List.append_assoc, ← hsp]; exact hBd) hmid
    rwa [hpre] at this
  have s3 : Hid (∀ t, t < news.length → (w.drew.cell? ⟨blk, 0 + i * size + t, none⟩).isSome = true ∧ w.drew.frozen? ⟨blk, 0 + i * size + t, none⟩ = false) := by
    intro t ht
    rw [cell_of_block hBd, frozen_of_block hBd]
    refine ⟨?_, by simp⟩
    simp only [List.getElem?_toArray, Nat.zero_add]
    rw [List.getElem?_eq_getElem (by rw [List.length_append]; omega)]; rfl
  obtain ⟨A, hA, hsrc⟩ : ∃ A : Addr, (if cap = j then some (⟨blk, 0, none⟩ : Addr) else some ⟨blk, j * size, none⟩) = some A ∧ Hid (∀ t u, news[t]? = some u → w.drew.cell? (A.add t) = some u) := by
    by_cases h : cap = j
    · refine ⟨⟨blk, 0, none⟩, by simp [h], fun t u hu => ?_⟩
      have h0 : news.length = 0 := by rw [hnl, show n - j = 0 by omega, Nat.zero_mul]
      rw [List.length_eq_zero_iff.1 h0] at hu
      simp at hu
    · refine ⟨⟨blk, j * size, none⟩, by simp [h], fun t u hu => ?_⟩
      rw [hnews, List.getElem?_drop] at hu
      rw [Addr.add_lit, cell_of_block hBd]
      simp only [List.getElem?_toArray]
      rw [List.getElem?_append_left (List.getElem?_eq_some_iff.1 hu).1]; exact hu
  obtain ⟨W1, hW1⟩ : ∃ W1, W1 = w.drew.setCells blk (0 + i * size) news := ⟨_, rfl⟩
  have hW1' : W1 = w.drew.setCells blk (i * size) news := by rw [hW1, Nat.zero_add]
  rw [← hW1'] at W1w
  obtain ⟨Z, hZ⟩ : ∃ Z, Z = (List.replicate (n - (i + (n - j))) z.cells.toList).flatten := ⟨_, rfl⟩
  have hZl : Z.length = (n - (i + (n - j))) * size := by rw [hZ, flat_rep_len]; simp [hzs]
  have hpre2 : (cs.take (i * size) ++ news).length = (i + (n - j)) * size := by rw [List.length_append, hpre, hnl, Nat.add_mul]
  have hle2 : (i + (n - j)) * size + (n - (i + (n - j))) * size = n * size := by rw [← Nat.add_mul]; congr 1; omega
  have hrest : (cs.drop (i * size + news.length)).length = Z.length := by rw [List.length_drop, hlen, hZl, hnl, ← Nat.add_mul]; omega
  have W2w : Wrote blk (cs.take (i * size) ++ news ++ Z ++ post) tt (0, 0) W1 (W1.setCells blk ((i + (n - j)) * size) Z) := by
    have := setCells_wrote (w := W1) (b := blk) (pre := cs.take (i * size) ++ news) (mid := cs.drop (i * size + news.length)) (vs := Z) (post := post) (t := tt) (fr := (0, 0)) (by rw [List.append_assoc]; exact W1w.here) hrest
    rwa [hpre2] at this
  have hcl : ∀ ty, (Builtin.clear_ #[ρ.t 22] ty #[.slice (some ⟨blk, (i + (n - j)) * size, none⟩) (n - (i + (n - j))) (cap - (i + (n - j)))]).run P W1 = .ok (.tuple #[]) (W1.setCells blk ((i + (n - j)) * size) Z) := by
    intro ty
    rw [hZ]
    have hcell : ∀ t, t < (n - (i + (n - j))) * size → (W1.cell? ⟨blk, (i + (n - j)) * size + t, none⟩).isSome = true ∧ W1.frozen? ⟨blk, (i + (n - j)) * size + t, none⟩ = false := by
      intro t ht
      rw [cell_of_block W1w.here, frozen_of_block W1w.here]
      refine ⟨?_, by simp⟩
      simp only [List.getElem?_toArray]
      rw [List.getElem?_eq_getElem (by rw [List.length_append, hpre2, List.length_append, hrest, hZl]; omega)]; rfl
    exact run_clear_any W1 _ _ ty z size t22 v23 hzs h1z blk _ _ _ (by omega) (fun t ht => (hcell t ht).1) (fun t ht => (hcell t ht).2)
  have hW : Hid (W1 = w.drew.setCells blk (0 + i * size) news) := hW1
  have hic : i ≤ cap := by omega
  have hjc : j ≤ cap := by omega
  have hfin : Aside (Wrote blk (cs.take (i * size) ++ cs.drop (j * size) ++ (List.replicate (n - (i + (n - j))) z.cells.toList).flatten ++ post) tt (0, 0) w.drew (W1.setCells blk ((i + (n - j)) * size) Z)) := by
    rw [hnews] at W1w W2w
    rw [← hZ]
    exact W1w.trans W2w
  clear hW1 hW1' hnews hnl hlen h1 hmul hil hB hBd hsp hpre hmid W1w hZ hZl hpre2 hle2 hrest W2w
  obtain ⟨_, _, FG⟩ := L.f45
  go_enter FG, SlBodyN.n45_ntmps ρ
  go_wp2_with fail
  go_region_law_o (refine step_append_room rfl (.tmp 22) (.tmp 25) (ρ.t 22) rfl (ρ.t 23) i0 size t22 hi0 hz1 blk 0 i cap (by simp [Act.eval, Act.put]) A (n - j) (cap - j) news (by simp [Act.eval, Act.put]) s1.out hsrc.out s2.out (by omega) s3.out ?_; rw [← hW.out])
  go_wp2
  go_ret
  exact ⟨rfl, hfin.out⟩
theorem delete_lay {C : Cfg} (hC : C.OK) (L : SlLaysE0.n45 C.P ρ) {e : ETy} (hte : C.Ty (ρ.t 23) = some e) (blk cap i j n : Nat) (cs post : List Value) (tt : TypeId) (w : World) (hlen : cs.length = n * e.size)
    (hB : w.heap[blk]? = some (.cells (cs ++ post).toArray tt (0, 0))) (h1 : ∀ u ∈ cs, u.oneCell' = true) (hcap : n ≤ cap) (hm : cap ≤ 9223372036854775807) (hij : i < j) (hj : j ≤ n) :
    Calls C.P (ρ.f 45) #[.slice (some ⟨blk, 0, none⟩) n cap, .int .i64 i, .int .i64 j] w fun e' w' => e' = .returned (.slice (some ⟨blk, 0, none⟩) (i + (n - j)) cap) ∧
      Wrote blk (cs.take (i * e.size) ++ cs.drop (j * e.size) ++ (List.replicate (n - (i + (n - j))) (zc e)).flatten ++ post) tt (0, 0) w.drew w' := by
  have hG := hC.ty _ _ hte
  obtain ⟨inf, hinf, hsz, hzero⟩ := hG.size
  have hzc : (valOf e (zc e)).cells = (zc e).toArray := cells_valOf (repC_zero (w := w) (S := fun _ _ => False) e)
  have := delete_any L inf (valOf e (zc e)) e.size hinf hsz (by rw [hzc]; simpa using zc_length e) (by rw [hzc]; exact (repC_zero (w := w) (S := fun _ _ => False) e).one) (fun w => run_zeroValue' hG w) (fun w => run_sizeOf' hG w) blk cap i j n cs post tt w hlen hB h1 hcap hm hij hj
  rwa [hzc] at this
end
theorem delete_does {C : Cfg} {g : FuncId} {L : Heap} {id : Nat} {t : TypeId} {e : ETy} {xs : List e.I} {a b : Int} (hid : L[id]? = some (.row t e xs false)) (h0 : 0 ≤ a) (hab : a < b) (hb : b ≤ (xs.length : Int))
    (he : ∀ (us : Array Value) (w : World), (callFunc g us).run C.P w = .ok (.enter g us) w)
    (hs : ∀ (blk cap i j n : Nat) (cs post : List Value) (tt : TypeId) (w : World), cs.length = n * e.size → w.heap[blk]? = some (.cells (cs ++ post).toArray tt (0, 0)) → (∀ u ∈ cs, u.oneCell' = true) → n ≤ cap → cap ≤ 9223372036854775807 → i < j → j ≤ n →
      Calls C.P g #[.slice (some ⟨blk, 0, none⟩) n cap, .int .i64 i, .int .i64 j] w fun e' w' => e' = .returned (.slice (some ⟨blk, 0, none⟩) (i + (n - j)) cap) ∧ Wrote blk (cs.take (i * e.size) ++ cs.drop (j * e.size) ++ (List.replicate (n - (i + (n - j))) (zc e)).flatten ++ post) tt (0, 0) w.drew w') :
    CallDoes C g [.rs id, .v (.int .i64) a, .v (.int .i64) b] L (.rs L.length) (L.set id .gone ++ [.row t e (xs.take (Int.toNat a) ++ xs.drop (Int.toNat b)) false]) := by
  have hlt : id < L.length := (List.getElem?_eq_some_iff.1 hid).1
  obtain ⟨i, rfl⟩ := Int.eq_ofNat_of_zero_le h0
  obtain ⟨j, rfl⟩ := Int.eq_ofNat_of_zero_le (show 0 ≤ b by omega)
  simp only [Int.toNat_natCast]
  have hij : i < j := by omega
  have hj : j ≤ xs.length := by omega
  refine ⟨he, fun k hk => keeps_more k (keeps_set hid (by simp) k hk), fun B m w S us hI hG hr => ?_⟩
  simp only [RepAs] at hr
  obtain ⟨u, q, rfl, h1, u1, q1, rfl, h2, u2, q2, rfl, h3, rfl⟩ := hr
  rw [rep_int] at h2 h3
  subst h2 h3
  simp only [RepA] at h1
  obtain ⟨sl, e1, _, e3⟩ := h1
  rw [hid] at e1; cases e1
  obtain rfl := e3 t e xs false rfl
  obtain ⟨cs, ho, hrep⟩ := hI.row id t e xs false hid
  have hcl := RepL.length (s := e.size) (fun x c h => RepC.length h) hrep
  rcases ho.2 with ⟨hv, hn⟩ | ⟨blk, cap, cur, hv, hB, hh, hle, hmx, hcur, htk⟩
  · omega
  · have hsplit : cur.toList = cs ++ cur.toList.drop (xs.length * e.size) := by rw [← htk, List.take_append_drop]
    have hh' : w.heap[blk]? = some (.cells (cs ++ cur.toList.drop (xs.length * e.size)).toArray t (0, 0)) := by rw [hh]; congr 2; rw [← hsplit]
    rw [hv]
    refine (hs blk cap i j xs.length cs _ t w hcl hh' (RepL.one (fun x c h => RepC.one h) hrep) hle (Nat.le_trans hmx (by unfold maxLen; omega)) hij hj).mono ?_
    rintro e' w' ⟨rfl, hw⟩
    have hw : Wrote blk (cs.take (i * e.size) ++ cs.drop (j * e.size) ++ (List.replicate (xs.length - (i + (xs.length - j))) (zc e)).flatten ++ cur.toList.drop (xs.length * e.size)) t (0, 0) w w' := ⟨hw.here, hw.there, hw.size, hw.os, hw.tape, hw.output⟩
    have r1 := RepL.take (s := e.size) (fun x c h => RepC.length h) i hrep
    have r2 := RepL.take (s := e.size) (fun x c h => RepC.length h) j hrep
    have hrep' : RepL (RepC w S e) (xs.take i ++ xs.drop j ++ List.replicate (xs.length - (i + (xs.length - j))) e.z) (cs.take (i * e.size) ++ cs.drop (j * e.size) ++ (List.replicate (xs.length - (i + (xs.length - j))) (zc e)).flatten) := (r1.1.append r2.2).append (RepL.replicate (repC_zero e) _)
    have hlen' : (xs.take i ++ xs.drop j ++ List.replicate (xs.length - (i + (xs.length - j))) e.z).length = xs.length := by simp; omega
    have hcl' := RepL.length (s := e.size) (fun x c h => RepC.length h) hrep'
    rw [hlen'] at hcl'
    have g1 := Goes.wrote (s' := .row t e (xs.take i ++ xs.drop j ++ List.replicate (xs.length - (i + (xs.length - j))) e.z) false) hI hid rfl rfl (by rw [hv]; rfl) hw ⟨rfl, by simp only [Slot.cells, hlen']⟩ (by intro T x ro h; cases h) (by
      intro t' e' ys ro h
      cases h
      refine ⟨⟨xs, rfl, hlen'.symm⟩, _, ?_, hrep'⟩
      refine ⟨by rw [hlen']; exact hcl', .inr ⟨blk, cap, _, by rw [hv, hlen'], hB, hw.here, by rw [hlen']; exact hle, hmx, ?_, ?_⟩⟩
      · simp only [List.size_toArray, List.length_append] at hcl' ⊢
        have : (cur.toList.drop (xs.length * e.size)).length = cap * e.size - xs.length * e.size := by simp [hcur]
        have hm := Nat.mul_le_mul_right e.size hle
        omega
      · rw [hlen']
        show List.take _ (_ ++ _) = _
        rw [← hcl', List.take_left]) (fun _ => false)
    have hid1 : (L.set id (Slot.row t e (xs.take i ++ xs.drop j ++ List.replicate (xs.length - (i + (xs.length - j))) e.z) false))[id]? = some (.row t e (xs.take i ++ xs.drop j ++ List.replicate (xs.length - (i + (xs.length - j))) e.z) false) := by rw [get_set ⟨_, hid⟩, if_pos rfl]
    have g2 := Goes.cut (n := i + (xs.length - j)) g1.inv hid1 (hv.trans (by rw [hlen'])) (by rw [hlen']; omega) (fun _ => false)
    have htake : List.take (i + (xs.length - j)) (xs.take i ++ xs.drop j ++ List.replicate (xs.length - (i + (xs.length - j))) e.z) = xs.take i ++ xs.drop j := by
      have : i + (xs.length - j) = (xs.take i ++ xs.drop j).length := by simp; omega
      rw [this, List.take_left]
    rw [List.set_set, List.length_set, htake] at g2
    exact ⟨_, _, S, rfl, g1.trans g2.1, g2.2⟩
def delFx (e0 : ETy) {Ω : Type} (vs : List AV) (L : Heap) (k : AV → Heap → Option Ω) : Option Ω :=
  match vs with
  | [.rs id, .v (.int .i64) a, .v (.int .i64) b] => match L[id]? with
    | some (.row t e xs ro) => bif ro then none else if e = e0 then bif (decide ((0 : Int) ≤ a) && decide ((a : Int) < b)) && decide ((b : Int) ≤ (List.length xs : Int)) then k (.rs L.length) (L.set id .gone ++ [.row t e (xs.take (Int.toNat a) ++ xs.drop (Int.toNat b)) false]) else none else none
    | _ => none
  | _ => none
theorem delFx_ok {C : Cfg} {g : FuncId} {e0 : ETy} {t0 : TypeId} (he : ∀ (us : Array Value) (w : World), (callFunc g us).run C.P w = .ok (.enter g us) w)
    (hs : ∀ (e : ETy) (blk cap i j n : Nat) (cs post : List Value) (tt : TypeId) (w : World), e = e0 → cs.length = n * e.size → w.heap[blk]? = some (.cells (cs ++ post).toArray tt (0, 0)) → (∀ u ∈ cs, u.oneCell' = true) → n ≤ cap → cap ≤ 9223372036854775807 → i < j → j ≤ n →
      Calls C.P g #[.slice (some ⟨blk, 0, none⟩) n cap, .int .i64 i, .int .i64 j] w fun e' w' => e' = .returned (.slice (some ⟨blk, 0, none⟩) (i + (n - j)) cap) ∧ Wrote blk (cs.take (i * e.size) ++ cs.drop (j * e.size) ++ (List.replicate (n - (i + (n - j))) (zc e)).flatten ++ post) tt (0, 0) w.drew w') : FxOK C g (fun {_} => delFx e0) := by
  intro Ω vs L k r h
  replace h : delFx e0 vs L k = some r := h
  unfold delFx at h
  split at h
  · rename_i id a b
    split at h
    · rename_i t e xs ro hid
      cases ro with
      | true => cases h
      | false =>
        rw [cond_false] at h
        split at h
        · rename_i hee
          obtain ⟨hp, hq⟩ := ite_some h
          simp only [Bool.and_eq_true, decide_eq_true_eq] at hp
          exact ⟨_, _, hq, delete_does hid hp.1.1 hp.1.2 hp.2 he (fun blk cap i j n cs post tt w => hs e blk cap i j n cs post tt w hee)⟩
        · cases h
    · cases h
  · cases h
end
section
set_option linter.unusedVariables false
set_option linter.unusedSimpArgs false
set_option maxHeartbeats 400000
structure RowC (C : Cfg) (f : FuncId) (args : List AV) (t : TypeId) (e : ETy) (xs : List e.I) : Prop where
  enters : ∀ (us : Array Value) (w : World), (callFunc f us).run C.P w = .ok (.enter f us) w
  runs : ∀ (w : World) (S : Nat → Nat → Prop) (us : List Value), (∀ b o, S b o → b < w.heap.size) → GlobOK C w.heap.size w S → RepAs m0 [] w S args us →
    Calls C.P f us.toArray w fun e' w' => ∃ u cs, e' = .returned u ∧ Below w.heap.size w w' ∧ w'.ownsRow w.heap.size t e.size u xs.length cs ∧ RepL (RepC w S e) xs cs
def rowOfA (t : TypeId) (e : ETy) : AV → Heap → Option (List e.I)
  | .rs j, L => (L[j]?).bind fun s => decRow t e false s
  | _, _ => none
def rowRes {Ω : Type} (C : Cfg) (fn : Func) (t : TypeId) (e : ETy) (k : List e.I → Option Ω) (env : List AV) (L : Heap) : Option Ω :=
  (resL C env L fn.results.toList).bind fun rs => match rs with
    | [a] => (rowOfA t e a L).bind k
    | _ => none
def finR {Ω : Type} (C : Cfg) (fn : Func) (t : TypeId) (e : ETy) (k : List e.I → Option Ω) : Kont Ω
  | .exit _, _, _ => none
  | .normal, env, L => rowRes C fn t e k env L
  | .ret, env, L => rowRes C fn t e k env L
def evRow {Ω : Type} (C : Cfg) (spec : Spec) (fuel : Fuel) (fn : Func) (c : Code) (args : List AV) (t : TypeId) (e : ETy) (k : List e.I → Option Ω) : Option Ω :=
  evCode C spec fuel c (args ++ List.replicate (fn.ntmps - args.length) .dead) [] (finR C fn t e k)
section
variable {Ω : Type} {C : Cfg} {spec : Spec}
theorem row_contract (hC : C.OK) (hS : SpecOK C spec) {fuel : Fuel} {f : FuncId} {fn : Func} {c : Code} (hf : C.P.funcs[f]? = some fn) (hb : fn.body = some c) (hn : (fn.name == "runtime.NumGoroutine") = false)
    {args : List AV} {t : TypeId} {e : ETy} (hfl : e.flat = true) {k : List e.I → Option Ω} {r : Ω} (h : evRow C spec fuel fn c args t e k = some r) : ∃ xs, k xs = some r ∧ RowC C f args t e xs := by
  unfold evRow at h
  obtain ⟨ex, env', L', h1, h2⟩ := evCode_rel hS h
  have h3 : rowRes C fn t e k env' L' = some r ∧ ∀ i, ex ≠ .exit i := by
    cases ex with
    | exit i => cases h2
    | normal => exact ⟨h2, by simp⟩
    | ret => exact ⟨h2, by simp⟩
  obtain ⟨h4, hne⟩ := h3
  unfold rowRes at h4
  obtain ⟨rs, h5, h6⟩ := Option.bind_eq_some_iff.1 h4
  have h7 : ∃ j xs, rs = [.rs j] ∧ L'[j]? = some (.row t e xs false) ∧ k xs = some r := by
    match rs, h6 with
    | [a], h6 =>
      obtain ⟨xs, q1, q2⟩ := Option.bind_eq_some_iff.1 h6
      match a, q1 with
      | .rs j, q1 =>
        obtain ⟨s, q3, q4⟩ := Option.bind_eq_some_iff.1 q1
        have q5 := ST.dec_eq (s := .row t e false) (q := s) (x := xs) q4
        exact ⟨j, xs, rfl, by rw [q3, q5]; rfl, q2⟩
  obtain ⟨j, xs, rfl, h8, h9⟩ := h7
  refine ⟨xs, h9, ⟨fun us w => ?_, fun w S us hlt hG hrep => ?_⟩⟩
  · have hpn : (program.run C.P w : Result Program) = .ok C.P w := rfl
    simp only [callFunc, Sem.run_bind, hpn, Result.andThen_ok, hf, hn, hb, Bool.false_eq_true, if_false, Option.isNone_some, Sem.run_pure]
  · refine calls_of_wp hf hb ?_
    have hlen := repAs_len hrep
    have hst : St C w.heap.size w S m0 [] (args ++ List.replicate (fn.ntmps - args.length) .dead) [] { tmps := us.toArray ++ Array.replicate (fn.ntmps - us.toArray.size) undef, defers := [] } w := by
      refine ⟨m0, S, ⟨Nat.le_refl _, by simp, by simp, by simp, by simp, by simp, fun b o hs => ⟨hlt b o hs, by simp⟩⟩, ⟨by simp [hlen], fun t => ?_⟩, hG, Below.refl _ _, Safe.refl _ _, fun _ _ h => .inl h, ⟨by simp⟩, rfl⟩
      have := repAs_getD (fn.ntmps - args.length) hrep t
      rw [List.getD_eq_getElem?_getD (l := us ++ _)] at this
      have harr : us.toArray ++ Array.replicate (fn.ntmps - us.toArray.size) undef = (us ++ List.replicate (fn.ntmps - us.length) undef).toArray := by apply Array.ext'; simp
      show RepA m0 [] w S _ ((us.toArray ++ Array.replicate (fn.ntmps - us.toArray.size) undef).getD t undef)
      rw [harr, Array.getD_eq_getD_getElem?, List.getElem?_toArray, ← hlen]
      exact this
    refine code_wp hC h1 _ w _ hst ?_
    intro a' w' hst'
    obtain ⟨m, S', hI, hE, hG', hbel, hsafe, hnew, _, hd⟩ := hst'
    have hpost : a'.defers = [] ∧ ∃ v, (results fn a'.tmps).run C.P w' = .ok v w' ∧ ∃ u cs, Ending.returned v = .returned u ∧ Below w.heap.size w w' ∧ w'.ownsRow w.heap.size t e.size u xs.length cs ∧ RepL (RepC w S e) xs cs := by
      refine ⟨hd, ?_⟩
      obtain ⟨us', r1, r2⟩ := resL_gives hC hI hE h5
      simp only [RepAs] at r2
      obtain ⟨u, q, rfl, r3, rfl⟩ := r2
      simp only [RepA] at r3
      obtain ⟨s, s1, _, s3⟩ := r3
      rw [h8] at s1
      cases s1
      have hu := s3 t e xs false rfl
      obtain ⟨cs, o1, o2⟩ := hI.row j t e xs false h8
      refine ⟨u, ?_, u, cs, rfl, hbel, by rw [hu]; exact o1, RepL.mono (fun x c h => flat_repC hfl h) o2⟩
      rw [results_eq, Array.mapM_eq_mapM_toList]
      simp [bind_map_left, Sem.run_bind, r1, Result.andThen_ok, Sem.run_pure]
    cases ex with
    | exit i => exact absurd rfl (hne i)
    | normal => exact hpost
    | ret => exact hpost
def AK.plain : AK → Bool
  | .ar _ => false
  | _ => true
theorem AK.out {m : Nat → Value} {L : Heap} {w : World} {S : Nat → Nat → Prop} : ∀ {a : AK} {x : a.I} {u : Value}, a.plain = true → RepA m L w S (a.av x) u → RepA m0 [] w S (a.av x) u
  | .ai τ, x, u, _, h => by simp only [AK.av, RepA] at h ⊢; exact h
  | .ap T, x, u, _, h => by simp only [AK.av, RepA] at h ⊢; exact h
  | .af0 g, x, u, _, h => by simp only [AK.av, RepA, RepAs] at h ⊢; exact h
  | .af1 g T, x, u, _, h => by simp only [AK.av, RepA, RepAs] at h ⊢; exact h
  | .af2 g T U, x, u, _, h => by simp only [AK.av, RepA, RepAs] at h ⊢; exact h
  | .aq g, x, u, _, h => by simp only [AK.av, RepA] at h ⊢; exact h
  | .afq g q, x, u, _, h => by simp only [AK.av, RepA, RepAs] at h ⊢; exact h
  | .ar id, x, u, hp, h => by cases hp
  | .abm g τ, x, u, _, h => by simp only [AK.av, RepA, RepAs] at h ⊢; exact h
theorem encA_out {m : Nat → Value} {L : Heap} {w : World} {S : Nat → Nat → Prop} : ∀ {ts : List AK} {x : AIs ts} {us : List Value}, ts.all AK.plain = true → RepAs m L w S (encA ts x) us → RepAs m0 [] w S (encA ts x) us
  | [], x, us, _, h => by simp only [encA, RepAs] at h ⊢; exact h
  | a :: r, x, us, hp, h => by
    simp only [List.all_cons, Bool.and_eq_true] at hp
    simp only [encA, RepAs] at h ⊢
    obtain ⟨u, q, rfl, h1, h2⟩ := h
    exact ⟨u, q, rfl, AK.out hp.1 h1, encA_out hp.2 h2⟩
def mkR (hC : C.OK) {es : List (En C)} {ms : List (Me C)} {fuel : Fuel} (g : FuncId) (fn : Func) (ts : List AK) (t : TypeId) (e : ETy) (W : AIs ts → ∀ {Ω : Type}, (List e.I → Option Ω) → Option Ω)
    (h : ∀ (x : AIs ts) (Ω : Type) (k : List e.I → Option Ω), Le (W x k) (evRow C (spE es ms) fuel fn (fn.body.getD .skip) (encA ts x) t e k)) (hf : C.P.funcs[g]? = some fn) (hb : bodyOK fn = true) (hp : (ts.all AK.plain && e.flat) = true) : Me C where
  g := g
  t := fun vs _ => sigA ts vs
  fx := fun vs L k => (decA ts vs).bind fun x => (W x some).bind fun xs => k (.rs L.length) (L ++ [.row t e xs false])
  ok := by
    intro Ω vs L k r hk
    obtain ⟨x, h1, hk⟩ := Option.bind_eq_some_iff.1 hk
    obtain ⟨xs, h3, h4⟩ := Option.bind_eq_some_iff.1 hk
    simp only [Bool.and_eq_true] at hp
    have hb2 : fn.body.isSome = true ∧ (fn.name == "runtime.NumGoroutine") = false := by simpa [bodyOK] using hb
    obtain ⟨c, hc⟩ := Option.isSome_iff_exists.1 hb2.1
    have h5 := h x _ some xs h3
    rw [hc] at h5
    obtain ⟨ys, h6, h7⟩ := row_contract hC (spE_ok es ms) hf hc hb2.2 hp.2 h5
    cases h6
    refine ⟨_, _, h4, ⟨h7.enters, fun j hj => keeps_more j hj, fun B m w S us hI hG hr => ?_⟩⟩
    rw [decA_eq h1] at hr
    refine (h7.runs w S us (fun b o hs => (hI.prot b o hs).1) (hG.mono hI.base) (encA_out hp.1 hr)).mono ?_
    rintro e' w' ⟨u, cs, rfl, hbel, ho, hr2⟩
    have := Goes.more hI (Grows.of_below hbel) ho hr2 (fun _ => false)
    exact ⟨_, _, S, rfl, this.1, this.2⟩
end
end
end Go.Proofs.YtlcomipbinfooaaGreatDoor.K

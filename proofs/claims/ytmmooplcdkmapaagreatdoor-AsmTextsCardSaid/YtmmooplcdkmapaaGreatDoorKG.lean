/- What library functions do with rows of one's own: sorts, copies. -/
import Derived.Test.YtmmooplcdkmapaaGreatDoorKF
import Derived.Shelf.SlicesE.Clone
import Derived.Sort.Row
import Derived.Sort.Grow
import Derived.Laws.OwnMore
import Derived.Shelf.GgSortFunc.InsertionK
set_option maxHeartbeats 400000
set_option linter.unusedVariables false
set_option linter.unusedSimpArgs false
namespace Go.Proofs.YtmmooplcdkmapaaGreatDoor.K
open Go Go.RowKit

/-! ### Sorting, as a plain function -/
def insB {α : Type} (le : α → α → Bool) (x : α) : List α → List α
  | [] => [x]
  | y :: l => bif le x y then x :: y :: l else y :: insB le x l
def sortB {α : Type} (le : α → α → Bool) : List α → List α
  | [] => []
  | x :: l => insB le x (sortB le l)

section
variable {α : Type} {le : α → α → Bool}
theorem insB_perm (x : α) : ∀ l, (insB le x l).Perm (x :: l)
  | [] => List.Perm.refl _
  | y :: l => by
    unfold insB
    cases le x y with
    | true => exact List.Perm.refl _
    | false => exact ((insB_perm x l).cons y).trans (List.Perm.swap x y l)
theorem sortB_perm : ∀ l : List α, (sortB le l).Perm l
  | [] => List.Perm.refl _
  | x :: l => (insB_perm x _).trans ((sortB_perm l).cons x)
theorem sortB_length (l : List α) : (sortB le l).length = l.length := (sortB_perm l).length_eq
theorem insB_sorted (ht : ∀ a b c, le a b = true → le b c = true → le a c = true) (hT : ∀ a b, le a b = true ∨ le b a = true) (x : α) : ∀ l, l.Pairwise (fun a b => le a b = true) → (insB le x l).Pairwise (fun a b => le a b = true)
  | [], _ => by simp [insB]
  | y :: l, h => by
    obtain ⟨h1, h2⟩ := List.pairwise_cons.1 h
    unfold insB
    cases hxy : le x y with
    | true =>
      refine List.pairwise_cons.2 ⟨fun z hz => ?_, h⟩
      rcases List.mem_cons.1 hz with rfl | hz
      · exact hxy
      · exact ht _ _ _ hxy (h1 z hz)
    | false =>
      refine List.pairwise_cons.2 ⟨fun z hz => ?_, insB_sorted ht hT x l h2⟩
      rcases List.mem_cons.1 ((insB_perm x l).mem_iff.1 hz) with rfl | hz
      · rcases hT z y with h | h
        · rw [h] at hxy; cases hxy
        · exact h
      · exact h1 z hz
theorem sortB_sorted (ht : ∀ a b c, le a b = true → le b c = true → le a c = true) (hT : ∀ a b, le a b = true ∨ le b a = true) : ∀ l : List α, (sortB le l).Pairwise (fun a b => le a b = true)
  | [] => List.Pairwise.nil
  | x :: l => insB_sorted ht hT x _ (sortB_sorted ht hT l)
theorem sortB_eq (ht : ∀ a b c, le a b = true → le b c = true → le a c = true) (hT : ∀ a b, le a b = true ∨ le b a = true) (ha : ∀ a b, le a b = true → le b a = true → a = b) (l : List α) : l.mergeSort le = sortB le l := by
  refine List.Perm.eq_of_pairwise (le := fun a b => le a b = true) (fun a b _ _ h1 h2 => ha a b h1 h2) ?_ (sortB_sorted ht hT l) ((List.mergeSort_perm l le).trans (sortB_perm l).symm)
  exact List.pairwise_mergeSort ht (fun a b => by rcases hT a b with h | h <;> simp [h]) l
end
def leI (x y : Int) : Bool := decide (x ≤ y)
theorem sortI_eq (l : List Int) : l.mergeSort (fun x y => decide (x ≤ y)) = sortB leI l :=
  sortB_eq (le := leI) (fun a b c h1 h2 => by simp only [leI, decide_eq_true_eq] at *; omega) (fun a b => by simp only [leI, decide_eq_true_eq]; omega) (fun a b h1 h2 => by simp only [leI, decide_eq_true_eq] at *; omega) l

/-! ### A row of one's own, laid anew -/
section
variable {C : Cfg} {B : Nat} {m : Nat → Value} {L : Heap} {w w' : World} {S S' : Nat → Nat → Prop}

theorem wrote_mapBlock {b : Nat} {cur : Array Value} {t : TypeId} {fr : Nat × Nat} {f : Array Value → Array Value} (h : w.heap[b]? = some (.cells cur t fr)) : Wrote b (f cur).toList t fr w (Go.Sort.mapBlock w b f) := by
  constructor
  case here => simp only [Go.Sort.mapBlock, Array.getElem?_modify, h]; simp [Go.Sort.onCells]
  case there => intro k hk; simp only [Go.Sort.mapBlock, Array.getElem?_modify]; rw [if_neg (fun e => hk e.symm)]
  all_goals first
    | rfl
    | simp [Go.Sort.mapBlock]

theorem take_putCells {α : Type} [Inhabited α] (enc : α → Value) (d : Array α) (cur : Array Value) (h : d.size ≤ cur.size) : (Go.Sort.putCells enc 0 d cur).toList.take d.size = d.toList.map enc := by
  apply List.ext_getElem?
  intro i
  rw [List.getElem?_take]
  simp only [Go.Sort.putCells, Array.toList_mapIdx, List.getElem?_mapIdx, List.getElem?_map, Nat.zero_le, true_and, Nat.zero_add, Nat.sub_zero, Array.getElem?_toList]
  by_cases hi : i < d.size
  · rw [if_pos hi]
    rw [Array.getElem?_eq_getElem (show i < cur.size by omega), Array.getElem?_eq_getElem hi]
    simp only [Option.map_some, if_pos hi]
    rw [getElem!_pos d i hi]
  · rw [if_neg hi, Array.getElem?_eq_none (by omega)]; rfl

theorem grows_sort (w : World) (n : Nat) (os : Array Obj) : Grows w (Go.Sort.grow (Go.Sort.ahead w n) os) :=
  ⟨rfl, rfl, rfl, by simp [Go.Sort.grow, Go.Sort.ahead], fun k hk => by simp only [Go.Sort.grow, Go.Sort.ahead]; exact Array.getElem?_append_left hk⟩

/-- A row of one's own whose cells are laid anew, as many as there were. -/
theorem Goes.relaid (hI : Inv B m L w S) {id b cap : Nat} {t : TypeId} {e : ETy} {xs xs' : List e.I} (hid : L[id]? = some (.row t e xs false)) (hm : m id = .slice (some ⟨b, 0, none⟩) xs.length cap) {α : Type} [Inhabited α] (enc : α → Value) (d : Array α) (n : Nat) (os : Array Obj)
    (hd : d.size = xs.length * e.size) (hl : xs'.length = xs.length) (hr : RepL (RepC w S e) xs' (d.toList.map enc)) (X : Nat → Bool) :
    Goes B X m L w S m (L.set id (.row t e xs' false)) (Go.Sort.grow (Go.Sort.putRow enc (Go.Sort.ahead w n) b 0 d) os) S := by
  obtain ⟨cs, ho, _⟩ := hI.row id t e xs false hid
  rw [hm] at ho
  rcases ho.2 with ⟨h, _⟩ | ⟨g, cap', cur, hv, hB, hh, hle, hmx, hcur, htk⟩
  · cases h
  · cases hv
    have hw : Wrote b (Go.Sort.putCells enc 0 d cur).toList t (0, 0) w (Go.Sort.putRow enc w b 0 d) := wrote_mapBlock hh
    have hle' : d.size ≤ cur.size := by rw [hd, hcur]; exact Nat.mul_le_mul_right _ hle
    have g1 := Goes.wrote (s' := .row t e xs' false) hI hid rfl rfl (by rw [hm]; rfl) hw ⟨rfl, by simp [Slot.cells, hl]⟩ (by intro T x ro h; cases h) (by
      intro t' e' ys ro h
      cases h
      refine ⟨⟨xs, rfl, hl.symm⟩, d.toList.map enc, ?_, hr⟩
      refine ⟨by simp [hd, hl], .inr ⟨b, cap, _, by rw [hm, hl], hB, hw.here, by rw [hl]; exact hle, hmx, ?_, ?_⟩⟩
      · simpa [Go.Sort.putCells] using hcur
      · rw [hl, ← hd, ← take_putCells enc d cur hle']) X
    have e1 : Go.Sort.putRow enc (Go.Sort.ahead w n) b 0 d = Go.Sort.ahead (Go.Sort.putRow enc w b 0 d) n := Go.Sort.putRow_ahead _ _ _ _ _ _
    rw [e1]
    exact g1.trans (Goes.grows g1.inv (grows_sort _ n os) X)

/-- What the sort asks of a row: its cells, none of which is frozen. -/
theorem holds_row (hI : Inv B m L w S) {id b cap : Nat} {t : TypeId} {e : ETy} {xs : List e.I} (hid : L[id]? = some (.row t e xs false)) (hm : m id = .slice (some ⟨b, 0, none⟩) xs.length cap) {cs : List Value} (ho : w.ownsRow B t e.size (m id) xs.length cs) {α : Type} [Inhabited α] (enc : α → Value) (d : Array α) (hc : d.toList.map enc = cs) : Go.Sort.Holds enc w b 0 d := by
  subst hc
  rw [hm] at ho
  intro j hj
  have h1 := ho.cells (g := b) rfl j (enc d[j]!) (by
    rw [List.getElem?_map, Array.getElem?_toList, Array.getElem?_eq_getElem hj, getElem!_pos d j hj]; rfl)
  rw [add_at] at h1
  have h2 := ho.frozenAt (0 + j)
  exact ⟨h1, h2⟩

theorem row_addr (hI : Inv B m L w S) {id : Nat} {t : TypeId} {e : ETy} {xs : List e.I} {ro : Bool} (hid : L[id]? = some (.row t e xs ro)) : ∃ cs, w.ownsRow B t e.size (m id) xs.length cs ∧ RepL (RepC w S e) xs cs ∧ ((m id = .slice none 0 0 ∧ xs = []) ∨ ∃ b cap, m id = .slice (some ⟨b, 0, none⟩) xs.length cap ∧ b < w.heap.size ∧ xs.length ≤ cap ∧ xs.length ≤ maxLen) := by
  obtain ⟨cs, ho, hr⟩ := hI.row id t e xs ro hid
  refine ⟨cs, ho, hr, ?_⟩
  rcases ho.2 with ⟨h, h0⟩ | ⟨g, cap, cur, hv, hB, hh, hle, hmx, _⟩
  · exact .inl ⟨h, List.eq_nil_of_length_eq_zero h0⟩
  · exact .inr ⟨g, cap, hv, (Array.getElem?_eq_some_iff.1 hh).1, hle, Nat.le_trans hle hmx⟩

theorem keeps_set {id : Nat} {s s' : Slot} (hid : L[id]? = some s) (hs : s ≠ .resv) (j : Nat) (h : L[j]? = some .resv) : (L.set id s')[j]? = some .resv := by
  rw [get_set ⟨_, hid⟩]
  split
  · rename_i e; subst e; rw [hid] at h; cases h; exact absurd rfl hs
  · exact h
end

/-- Sorting a row of numbers. -/
theorem sort_does {C : Cfg} {g : FuncId} {L : Heap} {id : Nat} {t : TypeId} {xs : List Int} (hid : L[id]? = some (.row t (.int .i64) xs false))
    (he : ∀ (us : Array Value) (w : World), (callFunc g us).run C.P w = .ok (.enter g us) w)
    (hs : ∀ (blk cap : Nat) (zs : List Int) (w : World), Go.Sort.Holds (Value.int .i64) w blk 0 zs.toArray → blk < w.heap.size → zs.length < 4611686018427387904 → Calls C.P g #[.slice (some ⟨blk, 0, none⟩) zs.length cap] w fun e w' => e = .returned (.tuple #[]) ∧ ∃ n os, w' = Go.Sort.grow (Go.Sort.putRow (Value.int .i64) (Go.Sort.ahead w n) blk 0 (zs.mergeSort fun x y => decide (x ≤ y)).toArray) os)
    (hn : ∀ (p : Option Addr) (cap : Nat) (w : World), Calls C.P g #[.slice p 0 cap] w fun e w' => e = .returned (.tuple #[]) ∧ w' = w) (hsz : xs.length < 4611686018427387904) :
    CallDoes C g [.rs id] L (.tup []) (L.set id (.row t (.int .i64) (sortB leI xs) false)) := by
  refine ⟨he, fun j hj => keeps_set hid (by simp) j hj, fun B m w S us hI hG hr => ?_⟩
  simp only [RepAs] at hr
  obtain ⟨u, q, rfl, h1, rfl⟩ := hr
  simp only [RepA] at h1
  obtain ⟨sl, e1, _, e3⟩ := h1
  rw [hid] at e1; cases e1
  obtain rfl := e3 t (.int .i64) xs false rfl
  obtain ⟨cs, ho, hrep, hm⟩ := row_addr hI hid
  rcases hm with ⟨hm, rfl⟩ | ⟨b, cap, hm, hb, hcap, hmx⟩
  · rw [hm]
    refine (hn none 0 w).mono ?_
    rintro e w' ⟨rfl, rfl⟩
    refine ⟨_, m, S, rfl, ?_, by simp only [RepA]; exact ⟨[], rfl, by simp only [RepAs]⟩⟩
    have : L.set id (.row t (.int .i64) (sortB leI []) false) = L := by
      obtain ⟨hlt, hg⟩ := List.getElem?_eq_some_iff.1 hid
      exact List.ext_getElem (by simp) (fun i h1 h2 => by rw [List.getElem_set]; split <;> simp_all [sortB])
    rw [this]
    exact Goes.grows hI (Grows.refl _) _
  · rw [hm]
    have hcs := repL_ints_eq hrep
    refine (hs b cap xs w (holds_row hI hid hm ho (Value.int .i64) xs.toArray (by simp [hcs])) hb hsz).mono ?_
    rintro e w' ⟨rfl, n, os, rfl⟩
    refine ⟨_, m, S, rfl, ?_, by simp only [RepA]; exact ⟨[], rfl, by simp only [RepAs]⟩⟩
    rw [sortI_eq]
    refine Goes.relaid hI hid hm (Value.int .i64) _ n os ?_ (sortB_length xs) ?_ _
    · simp [ETy.size]; exact sortB_length xs
    · exact repL_ints _

section
variable {B : Nat} {m : Nat → Value} {L : Heap} {w w' : World} {S S' : Nat → Nat → Prop}
theorem keeps_more {s : Slot} (j : Nat) (h : L[j]? = some .resv) : (L ++ [s])[j]? = some .resv := by
  rw [List.getElem?_append_left (List.getElem?_eq_some_iff.1 h).1]; exact h

end

/-- A copy of a slice, in a row of one's own. -/
theorem clone_does {C : Cfg} {g : FuncId} {L : Heap} {a : AV} {te : TypeId} {e : ETy} {xs : List e.I} (hl : liftA L (.slice e) a = some xs) (hlen : xs.length ≤ rowMax)
    (he : ∀ (us : Array Value) (w : World), (callFunc g us).run C.P w = .ok (.enter g us) w)
    (hc : ∀ (ad : Addr) (n c : Nat) (news : List Value) (w : World), news.length = n * e.size → n ≤ rowMax → (∀ j u, news[j]? = some u → w.cell? (ad.add j) = some u) → (∀ u ∈ news, u.oneCell' = true) → Calls C.P g #[.slice (some ad) n c] w fun e' w' => ∃ v', e' = .returned v' ∧ w'.ownsRow w.heap.size te e.size v' n news ∧ Below w.heap.size w w')
    (hn : ∀ (n c : Nat) (w : World), Calls C.P g #[.slice none n c] w fun e w' => e = .returned (.slice none 0 0) ∧ w' = w) :
    CallDoes C g [a] L (.rs L.length) (L ++ [.row te e xs false]) := by
  refine ⟨he, fun j hj => keeps_more j hj, fun B m w S us hI hG hr => ?_⟩
  simp only [RepAs] at hr
  obtain ⟨u, q, rfl, h1, rfl⟩ := hr
  obtain ⟨A, c, rfl, hsrc⟩ := src_rep hI h1 hl
  cases A with
  | none =>
    have hxs : xs = [] := by
      rcases hsrc with h | ⟨_, _, _, h, _⟩
      · exact h
      · cases h
    subst hxs
    refine (hn _ c w).mono ?_
    rintro e' w' ⟨rfl, rfl⟩
    have := Goes.more hI (Grows.refl w') (t := te) (e := e) (xs := []) (v := .slice none 0 0) (World.ownsRow_nil w' _ te e.size) rfl (fun _ => false)
    exact ⟨_, _, S, rfl, this.1, this.2⟩
  | some ad =>
    obtain ⟨ds, h2, h3⟩ : ∃ ds, RepL (RepC w S e) xs ds ∧ ∀ j u, ds[j]? = some u → w.cell? (ad.add j) = some u := by
      rcases hsrc with rfl | ⟨b, o, ds, h, k1, k2⟩
      · exact ⟨[], rfl, fun j u h => by simp at h⟩
      · cases h
        refine ⟨ds, k1, fun j u hj => ?_⟩
        obtain ⟨hlt, rfl⟩ := List.getElem?_eq_some_iff.1 hj
        rw [add_at]; exact k2 j hlt
    refine (hc ad xs.length c ds w (RepL.length (fun x c h => RepC.length h) h2) hlen h3 (RepL.one (fun x c h => RepC.one h) h2)).mono ?_
    rintro e' w' ⟨v', rfl, ho, hb⟩
    have := Goes.more hI (Grows.of_below hb) ho h2 (fun _ => false)
    exact ⟨_, _, S, rfl, this.1, this.2⟩

section
open Go.Shelf Go.Lib Go.Proofs
variable {P : Program} {ρ : Ren}
set_option maxHeartbeats 2000000 in
set_option maxRecDepth 100000 in
/-- slices.Clone, of a slice anywhere. -/
theorem clone_any (L : SlLaysE0.n41 P ρ) (i0 : TypeInfo) (z : Value) (size bytes : Nat) (hi : P.info? (ρ.t 23) = some i0) (hz0 : i0.zero = some z) (hz1 : i0.size = size) (hz2 : i0.bytes = bytes) (hzs : z.cells.size = size) (hsz : 0 < size)
    (z23 : ∀ w, (Go.sizeOf (ρ.t 23)).run P w = .ok size w) (ad : Addr) (n c : Nat) (news : List Value) (w : World) (hl : news.length = n * size) (hn : n ≤ maxLen) (hbig : n * bytes ≤ 140737488355328)
    (hc : ∀ j u, news[j]? = some u → w.cell? (ad.add j) = some u) (h1 : ∀ u ∈ news, u.oneCell' = true) :
    Calls P (ρ.f 41) #[.slice (some ad) n c] w fun e w' => ∃ v', e = .returned v' ∧ w'.ownsRow w.heap.size (ρ.t 23) size v' n news ∧ Below w.heap.size w w' := by
  have mixed := L.mixed; have t4 := L.t4; have a4 := L.a4; have z4 := L.z4; have v4 := L.v4; have t22 := L.t22; have a22 := L.a22; have z22 := L.z22; have v22 := L.v22
  have q22 : ∀ (w : World) (a : Option Addr) (n c n' c' : Nat), (binOp .eql (ρ.t 22) (.slice a n c) (.slice none n' c')).run P w = .ok (.bool a.isNone) w := fun w a n c n' c' => Lib.run_eql_slice_nil w _ _ a n c n' c' L.t22
  have u22 : ∀ w, Sem.run P (underlying (ρ.t 22)) w = .ok (TypeDesc.slice (ρ.t 23)) w := run_underlying t22
  have A : Aside (∀ j u, news[j]? = some u → w.cell? (ad.add j) = some u) := hc
  clear hc
  obtain ⟨_, _, FG⟩ := L.f41
  go_enter FG, SlBodyN.n41_ntmps ρ
  go_wp2_with (at_builtin; refine wpList_append_own _ rfl _ _ (ρ.t 22) rfl w.heap.size (ρ.t 23) i0 z size bytes t22 hi hz0 hz1 hz2 hzs hsz _ _ _ rfl (World.ownsRow_made w #[] 0 (Nat.le_refl _) (Nat.zero_le _) (by simp)) ad n c news rfl ?qc1 ?qc2 ?qc3 ?qc4 ?qc5 ?qc6 ?_)
  case qc1 => exact hl
  case qc2 =>
    intro j u hj
    exact Lib.cell?_alloc_some _ (A.out j u hj)
  case qc3 => exact h1
  case qc4 => rw [Nat.zero_add]; exact hn
  case qc5 => rw [Nat.zero_add]; exact hbig
  case qc6 => simp
  intro v' w1 hown hgrow hnil
  go_wp2
  go_ret
  refine ⟨v', rfl, by simpa using hown, ?_⟩
  exact ((Below.refl _ w).alloc (Nat.le_refl _) _).grown hgrow (by simp) (by intro k hk; simp [Value.ownBlock] at hk; omega)

/-- What a seat's lay of slices.Clone gives. -/
theorem clone_lay {C : Cfg} (hC : C.OK) (L : SlLaysE0.n41 C.P ρ) {ts : TypeId} {e : ETy} (ht : C.Ty ts = some (.slice e)) (hte : C.Ty (ρ.t 23) = some e) (hu : C.P.underlying ts = some (.slice (ρ.t 23))) (hz : 0 < e.size) (ad : Addr) (n c : Nat) (news : List Value) (w : World) (hl : news.length = n * e.size) (hn : n ≤ rowMax)
    (hc : ∀ j u, news[j]? = some u → w.cell? (ad.add j) = some u) (h1 : ∀ u ∈ news, u.oneCell' = true) :
    Calls C.P (ρ.f 41) #[.slice (some ad) n c] w fun e' w' => ∃ v', e' = .returned v' ∧ w'.ownsRow w.heap.size (ρ.t 23) e.size v' n news ∧ Below w.heap.size w w' := by
  obtain ⟨te', inf, hu', hinf, hsz, hby, _⟩ := und_slice (hC.ty _ _ ht)
  rw [hu] at hu'; cases hu'
  obtain ⟨inf', hinf', _, hzero⟩ := (hC.ty _ _ hte).size
  rw [hinf] at hinf'; cases hinf'
  have hzc : (valOf e (zc e)).cells.size = e.size := by rw [cells_valOf (repC_zero (w := w) (S := fun _ _ => False) e)]; simpa using zc_length e
  unfold rowMax at hn
  refine clone_any L inf _ e.size inf.bytes hinf hzero hsz rfl hzc hz (fun w => ?_) ad n c news w hl ?_ ?_ hc h1
  · rw [run_sizeOf w hinf, Program.cellsOf, hinf]; simp [hsz]
  · have : maxLen = 2 ^ 63 - 1 := rfl
    omega
  · have := Nat.mul_le_mul hn hby
    omega
end

/-! ### Sorting rows of structs of numbers, truths, texts -/
def flatE : ETy → Bool
  | .int _ => true
  | .bool => true
  | .str => true
  | .unit => true
  | .pair a b => flatE a && flatE b
  | _ => false
def encC : (e : ETy) → e.I → List Value
  | .int k, n => [.int k n]
  | .bool, b => [.bool b]
  | .str, s => [.string s]
  | .pair a b, x => encC a x.1 ++ encC b x.2
  | _, _ => []
section
variable {w : World} {S : Nat → Nat → Prop}
theorem encC_rep : ∀ {e : ETy} {x : e.I} {cs : List Value}, flatE e = true → (RepC w S e x cs ↔ cs = encC e x)
  | .int k, x, cs, _ => Iff.rfl
  | .bool, x, cs, _ => Iff.rfl
  | .str, x, cs, _ => Iff.rfl
  | .unit, x, cs, _ => Iff.rfl
  | .pair a b, x, cs, h => by
    simp only [flatE, Bool.and_eq_true] at h
    simp only [RepC, encC]
    constructor
    · rintro ⟨c, d, rfl, h1, h2⟩
      rw [(encC_rep h.1).1 h1, (encC_rep h.2).1 h2]
    · rintro rfl
      exact ⟨_, _, rfl, (encC_rep h.1).2 rfl, (encC_rep h.2).2 rfl⟩
  | .raw _, _, _, h => by simp [flatE] at h
  | .arr _ _, _, _, h => by simp [flatE] at h
  | .slice _, _, _, h => by simp [flatE] at h
theorem encC_len {e : ETy} (h : flatE e = true) (x : e.I) : (encC e x).length = e.size := ((encC_rep (w := default) (S := fun _ _ => False) h).2 rfl).length
theorem encC_one {e : ETy} (h : flatE e = true) (x : e.I) : ∀ v ∈ encC e x, v.oneCell' = true := ((encC_rep (w := default) (S := fun _ _ => False) h).2 rfl).one
theorem encC_rows {e : ETy} (h : flatE e = true) : ∀ {xs : List e.I} {cs : List Value}, RepL (RepC w S e) xs cs ↔ cs = xs.flatMap (encC e)
  | [], cs => Iff.rfl
  | x :: xs, cs => by
    simp only [RepL, List.flatMap_cons]
    constructor
    · rintro ⟨c, d, rfl, h1, h2⟩
      rw [(encC_rep h).1 h1, (encC_rows h).1 h2]
    · rintro rfl
      exact ⟨_, _, rfl, (encC_rep h).2 rfl, (encC_rows h).2 rfl⟩
end
theorem flatMap_get {α β : Type} {enc : α → List β} {k : Nat} (hk : ∀ x, (enc x).length = k) (z : α) : ∀ (xs : List α) (t : Nat), t < xs.length * k → (xs.flatMap enc)[t]? = (enc (xs.getD (t / k) z))[t % k]?
  | [], t, h => by simp at h
  | x :: xs, t, h => by
    have k0 : 0 < k := by
      rcases Nat.eq_zero_or_pos k with e | e
      · subst e; simp at h
      · exact e
    rw [List.flatMap_cons]
    rcases Nat.lt_or_ge t k with ht | ht
    · rw [List.getElem?_append_left (by rw [hk]; exact ht), Nat.div_eq_of_lt ht, Nat.mod_eq_of_lt ht]; simp
    · rw [List.getElem?_append_right (by rw [hk]; exact ht), hk, flatMap_get hk z xs (t - k) (by simp only [List.length_cons, Nat.succ_mul] at h; omega), Nat.div_eq_sub_div k0 ht, Nat.mod_eq_sub_mod ht]
      simp
theorem flatK_toList {α : Type} [Inhabited α] {enc : α → List Value} {k : Nat} (hk : ∀ x, (enc x).length = k) (d : Array α) : (Go.Sort.flatK enc k d).toList = d.toList.flatMap enc := by
  apply List.ext_getElem?
  intro t
  rcases Nat.lt_or_ge t (d.size * k) with h | h
  · have h2 := Go.Sort.get_flatK enc k d t h
    have k0 : 0 < k := by
      rcases Nat.eq_zero_or_pos k with e | e
      · subst e; simp at h
      · exact e
    have hlt : t / k < d.size := Nat.div_lt_of_lt_mul (by rwa [Nat.mul_comm] at h)
    rw [Array.getElem?_toList, Array.getElem?_eq_getElem (by simpa using h), flatMap_get hk default d.toList t (by simpa using h)]
    rw [getElem!_pos _ t (by simpa using h)] at h2
    rw [h2]
    have hm : t % k < (enc d[t / k]!).length := by rw [hk]; exact Nat.mod_lt _ k0
    rw [getElem!_pos (enc d[t / k]!) (t % k) hm]
    have e1 : d.toList.getD (t / k) default = d[t / k]! := by
      rw [getElem!_pos d _ hlt, List.getD_eq_getElem?_getD, Array.getElem?_toList, Array.getElem?_eq_getElem hlt]; rfl
    rw [e1, List.getElem?_eq_getElem hm]
  · rw [Array.getElem?_toList, Array.getElem?_eq_none (by simpa using h), List.getElem?_eq_none]
    rw [List.length_flatMap]
    have : (d.toList.map fun x => (enc x).length) = List.replicate d.size k := by
      apply List.ext_getElem?
      intro i
      simp only [List.getElem?_map, List.getElem?_replicate, hk]
      rcases Nat.lt_or_ge i d.size with hi | hi
      · simp [hi]
      · rw [List.getElem?_eq_none (by simpa using hi), if_neg (by omega)]; rfl
    rw [this]
    simpa using h

/-- Sorting a row of structs. -/
theorem sortf_does {C : Cfg} {g : FuncId} {L : Heap} {id : Nat} {f : AV} {t : TypeId} {e : ETy} {xs : List e.I} {le : e.I → e.I → Bool} [Inhabited e.I] (hid : L[id]? = some (.row t e xs false)) (hfl : flatE e = true) (hsz : xs.length < 4611686018427387904)
    (he : ∀ (us : Array Value) (w : World), (callFunc g us).run C.P w = .ok (.enter g us) w)
    (hs : ∀ (B : Nat) (m : Nat → Value) (w : World) (S : Nat → Nat → Prop) (fv : Value), GlobOK C B w S → RepA m L w S f fv → ∀ (blk cap : Nat) (d : Array e.I), Go.Sort.HoldsK (encC e) e.size w blk 0 d → blk < w.heap.size → d.size < 4611686018427387904 → Calls C.P g #[.slice (some ⟨blk, 0, none⟩) d.size cap, fv] w fun e' w' => e' = .returned (.tuple #[]) ∧ ∃ n os, w' = Go.Proofs.sortWorldK (encC e) e.size w blk 0 n (sortB le d.toList).toArray os)
    (hn : ∀ (p : Option Addr) (cap : Nat) (fv : Value) (w : World), Calls C.P g #[.slice p 0 cap, fv] w fun e w' => e = .returned (.tuple #[]) ∧ w' = w) :
    CallDoes C g [.rs id, f] L (.tup []) (L.set id (.row t e (sortB le xs) false)) := by
  refine ⟨he, fun j hj => keeps_set hid (by simp) j hj, fun B m w S us hI hG hr => ?_⟩
  simp only [RepAs] at hr
  obtain ⟨u, q, rfl, h1, fv, q', rfl, hf, rfl⟩ := hr
  simp only [RepA] at h1
  obtain ⟨sl, e1, _, e3⟩ := h1
  rw [hid] at e1; cases e1
  obtain rfl := e3 t e xs false rfl
  obtain ⟨cs, ho, hrep, hm⟩ := row_addr hI hid
  rcases hm with ⟨hm, rfl⟩ | ⟨b, cap, hm, hb, hcap, hmx⟩
  · rw [hm]
    refine (hn none 0 fv w).mono ?_
    rintro e' w' ⟨rfl, rfl⟩
    refine ⟨_, m, S, rfl, ?_, by simp only [RepA]; exact ⟨[], rfl, by simp only [RepAs]⟩⟩
    have : L.set id (.row t e (sortB le []) false) = L := by
      obtain ⟨hlt, hg⟩ := List.getElem?_eq_some_iff.1 hid
      exact List.ext_getElem (by simp) (fun i h1 h2 => by rw [List.getElem_set]; split <;> simp_all [sortB])
    rw [this]
    exact Goes.grows hI (Grows.refl _) _
  · rw [hm]
    have hcs := (encC_rows hfl).1 hrep
    have hk := encC_len hfl
    refine (hs B m w S fv hG hf b cap xs.toArray (holds_row hI hid hm ho _root_.id (Go.Sort.flatK (encC e) e.size xs.toArray) (by rw [flatK_toList hk, List.map_id]; exact hcs.symm)) hb hsz).mono ?_
    rintro e' w' ⟨rfl, n, os, rfl⟩
    refine ⟨_, m, S, rfl, ?_, by simp only [RepA]; exact ⟨[], rfl, by simp only [RepAs]⟩⟩
    refine Goes.relaid hI hid hm _root_.id _ n os ?_ (sortB_length xs) ?_ _
    · rw [Go.Sort.size_flatK]; simp [sortB_length]
    · rw [flatK_toList hk, List.map_id]; exact (encC_rows hfl).2 rfl

/-! ### As the evaluator calls them -/
/-- A function that does so with rows: what it comes to. -/
def fxS (g0 : FuncId) (fx : ∀ {Ω : Type}, List AV → Heap → (AV → Heap → Option Ω) → Option Ω) (rest : Spec) : Spec :=
  ⟨rest.con, fun g => g == g0 || rest.isI g, fun g vs L k => bif g == g0 then fx vs L k else rest.inl g vs L k⟩
def FxOK (C : Cfg) (g0 : FuncId) (fx : ∀ {Ω : Type}, List AV → Heap → (AV → Heap → Option Ω) → Option Ω) : Prop :=
  ∀ {Ω : Type} (vs : List AV) (L : Heap) (k : AV → Heap → Option Ω) (r : Ω), fx vs L k = some r → ∃ av L', k av L' = some r ∧ CallDoes C g0 vs L av L'
theorem fxS_ok {C : Cfg} {g0 : FuncId} {fx : ∀ {Ω : Type}, List AV → Heap → (AV → Heap → Option Ω) → Option Ω} {rest : Spec} (h : FxOK C g0 fx) (hr : SpecOK C rest) : SpecOK C (fxS g0 fx rest) := by
  refine ⟨hr.con, ?_⟩
  intro Ω g vs L k r hk
  have key : ∀ b : Bool, (g == g0) = b → (bif b then fx vs L k else rest.inl g vs L k) = some r → ∃ av L', k av L' = some r ∧ CallDoes C g vs L av L' := by
    intro b hb' hq
    cases b with
    | true =>
      obtain rfl : g = g0 := by simpa using hb'
      exact h vs L k r hq
    | false => exact hr.inl g vs L k r hq
  exact key _ rfl hk

/-- slices.Sort of numbers. -/
def sortFx {Ω : Type} (vs : List AV) (L : Heap) (k : AV → Heap → Option Ω) : Option Ω :=
  match vs with
  | [.rs id] => match L[id]? with
    | some (.row t e xs ro) => bif ro then none else match e, xs with
      | .int .i64, xs => bif decide (List.length xs ≤ rowMax) then k (.tup []) (L.set id (.row t (.int .i64) (sortB leI xs) false)) else none
      | _, _ => none
    | _ => none
  | _ => none
/-- slices.Clone. -/
def cloneFx (te : TypeId) (e : ETy) {Ω : Type} (vs : List AV) (L : Heap) (k : AV → Heap → Option Ω) : Option Ω :=
  match vs with
  | [a] => match liftA L (.slice e) a with
    | some xs => bif decide (List.length xs ≤ rowMax) then k (.rs L.length) (L ++ [.row te e xs false]) else none
    | none => none
  | _ => none
/-- slices.SortFunc by a function that is known. -/
def sortfFx (g : FuncId) (e : ETy) (le : e.I → e.I → Bool) {Ω : Type} (vs : List AV) (L : Heap) (k : AV → Heap → Option Ω) : Option Ω :=
  match vs with
  | [.rs id, .fn f []] => bif f == g then match L[id]? with
      | some (.row t σ xs ro) => bif ro then none else match castI (.slice σ) (.slice e) xs with
        | some ys => bif decide (List.length ys ≤ rowMax) then k (.tup []) (L.set id (.row t e (sortB le ys) false)) else none
        | none => none
      | _ => none
    else none
  | _ => none

theorem sortFx_ok {C : Cfg} {g : FuncId} (he : ∀ (us : Array Value) (w : World), (callFunc g us).run C.P w = .ok (.enter g us) w)
    (hs : ∀ (blk cap : Nat) (zs : List Int) (w : World), Go.Sort.Holds (Value.int .i64) w blk 0 zs.toArray → blk < w.heap.size → zs.length < 4611686018427387904 → Calls C.P g #[.slice (some ⟨blk, 0, none⟩) zs.length cap] w fun e w' => e = .returned (.tuple #[]) ∧ ∃ n os, w' = Go.Sort.grow (Go.Sort.putRow (Value.int .i64) (Go.Sort.ahead w n) blk 0 (zs.mergeSort fun x y => decide (x ≤ y)).toArray) os)
    (hn : ∀ (p : Option Addr) (cap : Nat) (w : World), Calls C.P g #[.slice p 0 cap] w fun e w' => e = .returned (.tuple #[]) ∧ w' = w) : FxOK C g (fun {_} => sortFx) := by
  intro Ω vs L k r h
  replace h : sortFx vs L k = some r := h
  unfold sortFx at h
  split at h
  · rename_i id
    split at h
    · rename_i t e xs ro hid
      cases ro with
      | true => cases h
      | false =>
        rw [cond_false] at h
        split at h
        · rename_i xs'
          obtain ⟨hp, hq⟩ := ite_some h
          have hp := of_decide_eq_true hp
          unfold rowMax at hp
          exact ⟨_, _, hq, sort_does hid he hs hn (by omega)⟩
        · cases h
    · cases h
  · cases h
theorem cloneFx_ok {C : Cfg} {g : FuncId} {te : TypeId} {e : ETy} (he : ∀ (us : Array Value) (w : World), (callFunc g us).run C.P w = .ok (.enter g us) w)
    (hc : ∀ (ad : Addr) (n c : Nat) (news : List Value) (w : World), news.length = n * e.size → n ≤ rowMax → (∀ j u, news[j]? = some u → w.cell? (ad.add j) = some u) → (∀ u ∈ news, u.oneCell' = true) → Calls C.P g #[.slice (some ad) n c] w fun e' w' => ∃ v', e' = .returned v' ∧ w'.ownsRow w.heap.size te e.size v' n news ∧ Below w.heap.size w w')
    (hn : ∀ (n c : Nat) (w : World), Calls C.P g #[.slice none n c] w fun e w' => e = .returned (.slice none 0 0) ∧ w' = w) : FxOK C g (fun {_} => cloneFx te e) := by
  intro Ω vs L k r h
  replace h : cloneFx te e vs L k = some r := h
  unfold cloneFx at h
  split at h
  · rename_i a
    split at h
    · rename_i xs hl
      obtain ⟨hp, hq⟩ := ite_some h
      exact ⟨_, _, hq, clone_does hl (of_decide_eq_true hp) he hc hn⟩
    · cases h
  · cases h
theorem sortfFx_ok {C : Cfg} {g f : FuncId} {e : ETy} {le : e.I → e.I → Bool} [Inhabited e.I] (hfl : flatE e = true) (he : ∀ (us : Array Value) (w : World), (callFunc g us).run C.P w = .ok (.enter g us) w)
    (hs : ∀ (B : Nat) (w : World) (S : Nat → Nat → Prop), GlobOK C B w S → ∀ (blk cap : Nat) (d : Array e.I), Go.Sort.HoldsK (encC e) e.size w blk 0 d → blk < w.heap.size → d.size < 4611686018427387904 → Calls C.P g #[.slice (some ⟨blk, 0, none⟩) d.size cap, .func (.func f) #[] #[]] w fun e' w' => e' = .returned (.tuple #[]) ∧ ∃ n os, w' = Go.Proofs.sortWorldK (encC e) e.size w blk 0 n (sortB le d.toList).toArray os)
    (hn : ∀ (p : Option Addr) (cap : Nat) (fv : Value) (w : World), Calls C.P g #[.slice p 0 cap, fv] w fun e w' => e = .returned (.tuple #[]) ∧ w' = w) : FxOK C g (fun {_} => sortfFx f e le) := by
  intro Ω vs L k r h
  replace h : sortfFx f e le vs L k = some r := h
  unfold sortfFx at h
  split at h
  · rename_i id f'
    cases hf : (f' == f) with
    | false => rw [hf] at h; cases h
    | true =>
      rw [hf, cond_true] at h
      obtain rfl : f' = f := by simpa using hf
      split at h
      · rename_i t σ xs ro hid
        cases ro with
        | true => cases h
        | false =>
          rw [cond_false] at h
          split at h
          · rename_i ys hc
            obtain ⟨he', hy⟩ := castI_eq hc
            cases he'
            have hy : ys = xs := hy
            subst hy
            obtain ⟨hp, hq⟩ := ite_some h
            have hp := of_decide_eq_true hp
            unfold rowMax at hp
            refine ⟨_, _, hq, sortf_does hid hfl (Nat.lt_of_le_of_lt hp (by decide)) he (fun B m w S fv hG hf blk cap d => ?_) hn⟩
            simp only [RepA, RepAs] at hf
            obtain ⟨vs, rfl, rfl⟩ := hf
            exact hs B w S hG blk cap d
          · cases h
      · cases h
  · cases h
theorem FxOK.mono {C C' : Cfg} (hl : C.le C') {g : FuncId} {fx : ∀ {Ω : Type}, List AV → Heap → (AV → Heap → Option Ω) → Option Ω} (h : FxOK C g fx) : FxOK C' g fx := by
  intro Ω vs L k r hk
  obtain ⟨av, L', h1, h2⟩ := h vs L k r hk
  refine ⟨av, L', h1, fun us w => by rw [← hl.P]; exact h2.enters us w, h2.keeps, fun B m w S us hI hG hr => ?_⟩
  rw [← hl.P]
  exact h2.runs B m w S us hI ⟨fun g d hd => hG.tab g d (hl.G g d hd), fun g hg => hG.any g (hl.M g hg)⟩ hr

/-- All that some functions come to, walked where they are called; the others vs is said. -/
def allF (C : Cfg) (base : Spec) (fuel : Fuel) (tab : FuncId → Option Func) : Nat → Spec
  | 0 => base
  | d + 1 => ⟨base.con, fun g => (tab g).isSome || base.isI g, fun g vs L k => match tab g with
    | some fn => evInl C (allF C base fuel tab d) fuel fn (fn.body.getD .skip) vs L k
    | none => base.inl g vs L k⟩
theorem allF_ok {C : Cfg} (hC : C.OK) {base : Spec} (hB : SpecOK C base) {fuel : Fuel} {tab : FuncId → Option Func} (ht : tabOK C tab) : ∀ d, SpecOK C (allF C base fuel tab d)
  | 0 => hB
  | d + 1 => by
    refine ⟨hB.con, fun g vs L k r hk => ?_⟩
    simp only [allF] at hk
    cases hg : tab g with
    | none => rw [hg] at hk; exact hB.inl g vs L k r hk
    | some fn =>
      rw [hg] at hk
      obtain ⟨h1, h2, h3⟩ := ht g fn hg
      obtain ⟨c, hc⟩ := Option.isSome_iff_exists.1 h2
      simp only [hc, Option.getD_some] at hk
      exact inl_does hC (allF_ok hC hB ht d) h1 hc h3 hk
end Go.Proofs.YtmmooplcdkmapaaGreatDoor.K

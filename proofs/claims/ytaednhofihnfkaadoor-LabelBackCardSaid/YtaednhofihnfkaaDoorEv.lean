/- event.compare, and slices.SortFunc of events by it -/
import Derived.Test.YtaednhofihnfkaaDoorZ08
import Derived.Tactics
import Derived.Tactics2
import Derived.StillTactics
import Derived.Lib.OthersKept
import Derived.FnLit
import Derived.LoopTactic
import Derived.Deep.RegionHeld3
import Derived.Shelf.SlSortCmp.NoneTotal
import Derived.Shelf.SlicesG.Cmp
set_option maxRecDepth 1000000
set_option linter.unusedVariables false
namespace Go.Proofs.YtaednhofihnfkaaDoor.K
open Go Go.RowKit

def laysCmp_ren : Go.Shelf.Ren := ⟨fun | 5 => 72 | 7 => 93 | n => n, fun | 22 => 3 | 3 => 3 | 4 => 4 | n => n, fun | n => n⟩
theorem laysCmp : Go.Proofs.SlLaysC2.n5 Tryd.prog laysCmp_ren where
  mixed := by kernel_rfl
  f5 := ⟨"cmp.Compare[int]", by decide, Tryd.func72.trans (congrArg some (by kernel_rfl))⟩
  f7 := ⟨"cmp.isNaN[int]", by decide, Tryd.func93.trans (congrArg some (by kernel_rfl))⟩
  t3 := Tryd.underlying3
  a3 := Tryd.isAgg3
  z3 := Tryd.sizeOf3
  v3 := Tryd.zeroValue3
  t4 := Tryd.underlying4
  a4 := Tryd.isAgg4
  z4 := Tryd.sizeOf4
  v4 := Tryd.zeroValue4
  t22 := Tryd.underlying3
  a22 := Tryd.isAgg3
  z22 := Tryd.sizeOf3
  v22 := Tryd.zeroValue3
def laysSortF_ren : Go.Shelf.Ren := ⟨fun | 6 => 57 | 15 => 70 | 14 => 69 | 28 => 91 | 29 => 92 | 20 => 83 | 21 => 84 | 22 => 85 | 23 => 86 | 24 => 87 | 25 => 88 | 26 => 89 | 27 => 90 | 46 => 104 | 47 => 105 | 48 => 106 | 49 => 107 | 50 => 108 | 57 => 118 | n => n, fun | 22 => 61 | 24 => 29 | 25 => 102 | 3 => 3 | 39 => 114 | 0 => 0 | 53 => 129 | 55 => 131 | 4 => 4 | 46 => 123 | 45 => 122 | 50 => 99 | 5 => 5 | 9 => 9 | 66 => 136 | 70 => 140 | 76 => 151 | 77 => 74 | n => n, fun | n => n⟩
theorem laysSortF : Go.Proofs.SlLaysF0.n6 Tryd.prog laysSortF_ren where
  mixed := by kernel_rfl
  f6 := ⟨"slices.SortFunc[[]becket/event.Event,becket/event.Event]", by decide, Tryd.func57.trans (congrArg some (by kernel_rfl))⟩
  f14 := ⟨"slices.pdqsortCmpFunc[becket/event.Event]", by decide, Tryd.func69.trans (congrArg some (by kernel_rfl))⟩
  f15 := Tryd.func70.trans (congrArg some (by kernel_rfl))
  f20 := ⟨"slices.insertionSortCmpFunc[becket/event.Event]", by decide, Tryd.func83.trans (congrArg some (by kernel_rfl))⟩
  f21 := ⟨"slices.heapSortCmpFunc[becket/event.Event]", by decide, Tryd.func84.trans (congrArg some (by kernel_rfl))⟩
  f22 := ⟨"slices.breakPatternsCmpFunc[becket/event.Event]", by decide, Tryd.func85.trans (congrArg some (by kernel_rfl))⟩
  f23 := ⟨"slices.choosePivotCmpFunc[becket/event.Event]", by decide, Tryd.func86.trans (congrArg some (by kernel_rfl))⟩
  f24 := ⟨"slices.reverseRangeCmpFunc[becket/event.Event]", by decide, Tryd.func87.trans (congrArg some (by kernel_rfl))⟩
  f25 := ⟨"slices.partialInsertionSortCmpFunc[becket/event.Event]", by decide, Tryd.func88.trans (congrArg some (by kernel_rfl))⟩
  f26 := ⟨"slices.partitionEqualCmpFunc[becket/event.Event]", by decide, Tryd.func89.trans (congrArg some (by kernel_rfl))⟩
  f27 := ⟨"slices.partitionCmpFunc[becket/event.Event]", by decide, Tryd.func90.trans (congrArg some (by kernel_rfl))⟩
  f28 := Tryd.func91.trans (congrArg some (by kernel_rfl))
  f29 := Tryd.func92.trans (congrArg some (by kernel_rfl))
  f46 := ⟨"slices.siftDownCmpFunc[becket/event.Event]", by decide, Tryd.func104.trans (congrArg some (by kernel_rfl))⟩
  f47 := Tryd.func105.trans (congrArg some (by kernel_rfl))
  f48 := Tryd.func106.trans (congrArg some (by kernel_rfl))
  f49 := ⟨"slices.medianAdjacentCmpFunc[becket/event.Event]", by decide, Tryd.func107.trans (congrArg some (by kernel_rfl))⟩
  f50 := ⟨"slices.medianCmpFunc[becket/event.Event]", by decide, Tryd.func108.trans (congrArg some (by kernel_rfl))⟩
  f57 := ⟨"slices.order2CmpFunc[becket/event.Event]", by decide, Tryd.func118.trans (congrArg some (by kernel_rfl))⟩
  t0 := Tryd.underlying0
  a0 := Tryd.isAgg0
  z0 := Tryd.sizeOf0
  v0 := Tryd.zeroValue0
  t3 := Tryd.underlying3
  a3 := Tryd.isAgg3
  z3 := Tryd.sizeOf3
  v3 := Tryd.zeroValue3
  t4 := Tryd.underlying4
  a4 := Tryd.isAgg4
  z4 := Tryd.sizeOf4
  v4 := Tryd.zeroValue4
  t5 := Tryd.underlying5
  a5 := Tryd.isAgg5
  z5 := Tryd.sizeOf5
  v5 := Tryd.zeroValue5
  t9 := Tryd.underlying9
  a9 := Tryd.isAgg9
  z9 := Tryd.sizeOf9
  v9 := Tryd.zeroValue9
  t22 := Tryd.underlying61
  a22 := Tryd.isAgg61
  z22 := Tryd.sizeOf61
  v22 := Tryd.zeroValue61
  t25 := Tryd.underlying102
  a25 := Tryd.isAgg102
  z25 := Tryd.sizeOf102
  v25 := Tryd.zeroValue102
  t39 := Tryd.underlying114
  a39 := Tryd.isAgg114
  z39 := Tryd.sizeOf114
  v39 := Tryd.zeroValue114
  t45 := Tryd.underlying122
  a45 := Tryd.isAgg122
  z45 := Tryd.sizeOf122
  v45 := Tryd.zeroValue122
  t46 := Tryd.underlying123
  a46 := Tryd.isAgg123
  z46 := Tryd.sizeOf123
  v46 := Tryd.zeroValue123
  t50 := Tryd.underlying99
  a50 := Tryd.isAgg99
  z50 := Tryd.sizeOf99
  v50 := Tryd.zeroValue99
  t53 := Tryd.underlying129
  a53 := Tryd.isAgg129
  z53 := Tryd.sizeOf129
  v53 := Tryd.zeroValue129
  t55 := Tryd.underlying131
  a55 := Tryd.isAgg131
  z55 := Tryd.sizeOf131
  v55 := Tryd.zeroValue131
  t66 := Tryd.underlying136
  a66 := Tryd.isAgg136
  z66 := Tryd.sizeOf136
  v66 := Tryd.zeroValue136
  t70 := Tryd.underlying140
  a70 := Tryd.isAgg140
  z70 := Tryd.sizeOf140
  v70 := Tryd.zeroValue140
  t76 := Tryd.underlying151
  a76 := Tryd.isAgg151
  z76 := Tryd.sizeOf151
  v76 := Tryd.zeroValue151
  t77 := Tryd.underlying74
  a77 := Tryd.isAgg74
  z77 := Tryd.sizeOf74
  v77 := Tryd.zeroValue74

/-- The first of some numbers that is not 0. -/
def orI : List Int → Int
  | [] => 0
  | x :: l => bif x == 0 then orI l else x

theorem or_walk (l : List Int) (b cap : Nat) (t : TypeId) (fr : Nat × Nat) (w : World) (hl : l.length < 1000) (hh : w.heap[b]? = some (.cells (l.map (Value.int .i64)).toArray t fr)) :
    Calls Tryd.prog 71 #[.slice (some ⟨b, 0, none⟩) l.length cap] w fun e w' => e = .returned (.int .i64 (orI l)) ∧ w' = w := by
  go_enter Tryd.func71, Tryd.ntmps71
  go_wp2
  go_loopw [8] (fun v wx => ∃ (j : Nat), v = .int .i64 (j : Int) ∧ j ≤ l.length ∧ orI (l.drop j) = orI l ∧ wx = w) (fun v _ => l.length - (match v with | .int _ n => n.toNat | _ => 0))
  case atStart => exact ⟨0, rfl, Nat.zero_le _, rfl, rfl⟩
  case round =>
    obtain ⟨j, rfl, hj, ho, rfl⟩ := hrel
    by_cases hjl : j < l.length
    · have hjz : (j : Int) < (l.length : Int) := by omega
      have hcx : wr.cell? ⟨b, j, none⟩ = some (.int .i64 l[j]) := by rw [Lib.cell_of_heap hh]; simp [hjl]
      rw [List.drop_eq_getElem_cons hjl] at ho
      cases hz : (l[j] == 0) with
      | true =>
        have hz' : l[j] = 0 := by simpa using hz
        rw [hz'] at hcx
        have ho : orI (l.drop (j + 1)) = orI l := by rw [← ho]; show _ = bif l[j] == 0 then _ else _; rw [hz]; rfl
        go_wp2
        go_roundw
        case rel => exact ⟨j + 1, by congr 1, hjl, ho, by trivial⟩
        case measure => simp; omega
      | false =>
        have hz' : (l[j] != 0) = true := by simp [bne, hz]
        have hy : ¬ l[j] = 0 := by simpa using hz
        have ho : orI l = l[j] := by rw [← ho]; show (bif l[j] == 0 then _ else _) = _; rw [hz]; rfl
        go_wp2
        go_ret
        exact ⟨by rw [ho]; rfl, rfl⟩
    · have hj2 : j = l.length := by omega
      subst hj2
      rw [List.drop_length] at ho
      have ho : orI l = 0 := ho.symm
      go_wp2
      go_ret
      exact ⟨by rw [ho]; rfl, rfl⟩

/-- Which of two events stands ahead. -/
def evCmp (x y : T_s22) : Int := orI [Lib.compareInt x.1 y.1, Lib.compareInt x.2.1 y.2.1, Lib.compareInt x.2.2.1 y.2.2.1, Lib.compareInt x.2.2.2.1 y.2.2.2.1]


set_option maxHeartbeats 4000000 in
theorem cmp_walk (x y : T_s22) (W : World) : Calls Tryd.prog 58 #[.agg (encC E_s22 x).toArray, .agg (encC E_s22 y).toArray] W fun e w' => e = .returned (.int .i64 (evCmp x y)) ∧ ∃ q os', w' = Go.Sort.grow (W.drewN q) os' := by
  obtain ⟨x1, x2, x3, x4, _⟩ := x
  obtain ⟨y1, y2, y3, y4, _⟩ := y
  show Calls Tryd.prog 58 #[.agg #[.int .i64 x1, .int .i64 x2, .int .i64 x3, .int .i64 x4], .agg #[.int .i64 y1, .int .i64 y2, .int .i64 y3, .int .i64 y4]] W fun e w' => e = .returned (.int .i64 (evCmp (x1, x2, x3, x4, ()) (y1, y2, y3, y4, ()))) ∧ ∃ q os', w' = Go.Sort.grow (W.drewN q) os'
  have hcon := fun a b W' => AnyG.cmp_Compare_int laysCmp a b W'
  change ∀ a b W', Calls Tryd.prog 72 _ _ _ at hcon
  obtain ⟨R, hR⟩ : ∃ R, evCmp (x1, x2, x3, x4, ()) (y1, y2, y3, y4, ()) = R := ⟨_, rfl⟩
  have hor : ∀ (W' : World) (b cap : Nat) (t : TypeId), W'.heap[b]? = some (.cells #[.int .i64 (Lib.compareInt x1 y1), .int .i64 (Lib.compareInt x2 y2), .int .i64 (Lib.compareInt x3 y3), .int .i64 (Lib.compareInt x4 y4)] t (0, 0)) →
      Calls Tryd.prog 71 #[.slice (some ⟨b, 0, none⟩) 4 cap] W' fun e w' => e = .returned (.int .i64 R) ∧ w' = W' :=
    fun W' b cap t h => hR ▸ or_walk [Lib.compareInt x1 y1, Lib.compareInt x2 y2, Lib.compareInt x3 y3, Lib.compareInt x4 y4] b cap t (0, 0) W' (by simp) h
  generalize Lib.compareInt = cI at hcon hor
  rw [hR]
  clear hR
  go_enter Tryd.func58, Tryd.ntmps58
  go_wp2
  generalize hV : World.alloc (World.alloc W (Obj.cells #[Value.int IntKind.i64 x1, Value.int IntKind.i64 x2, Value.int IntKind.i64 x3, Value.int IntKind.i64 x4] 29)) (Obj.cells #[Value.int IntKind.i64 y1, Value.int IntKind.i64 y2, Value.int IntKind.i64 y3, Value.int IntKind.i64 y4] 29) = V
  have cx : ∀ i v, #[Value.int IntKind.i64 x1, Value.int IntKind.i64 x2, Value.int IntKind.i64 x3, Value.int IntKind.i64 x4][i]? = some v → V.cell? ⟨W.heap.size, i, none⟩ = some v := fun i v h => by
    rw [← hV, ← h]
    rw [World.cell?_of_block (a := ⟨W.heap.size, i, none⟩) (Lib.alloc_old _ _ _ (by simp))]
    exact Lib.cell_of_heap (heap_alloc_new W _) i
  have cy : ∀ i v, #[Value.int IntKind.i64 y1, Value.int IntKind.i64 y2, Value.int IntKind.i64 y3, Value.int IntKind.i64 y4][i]? = some v → V.cell? ⟨W.heap.size + 1, i, none⟩ = some v := fun i v h => by
    have hs : (World.alloc W (Obj.cells #[Value.int IntKind.i64 x1, Value.int IntKind.i64 x2, Value.int IntKind.i64 x3, Value.int IntKind.i64 x4] 29)).heap.size = W.heap.size + 1 := by simp
    rw [← hV, ← h, ← hs]
    exact Lib.cell_of_heap (heap_alloc_new _ _) i
  have a1 : V.cell? ⟨W.heap.size, 0, none⟩ = some (.int .i64 x1) := cx 0 _ rfl
  have a2 : V.cell? ⟨W.heap.size, 1, none⟩ = some (.int .i64 x2) := cx 1 _ rfl
  have a3 : V.cell? ⟨W.heap.size, 2, none⟩ = some (.int .i64 x3) := cx 2 _ rfl
  have a4 : V.cell? ⟨W.heap.size, 3, none⟩ = some (.int .i64 x4) := cx 3 _ rfl
  have b1 : V.cell? ⟨W.heap.size + 1, 0, none⟩ = some (.int .i64 y1) := cy 0 _ rfl
  have b2 : V.cell? ⟨W.heap.size + 1, 1, none⟩ = some (.int .i64 y2) := cy 1 _ rfl
  have b3 : V.cell? ⟨W.heap.size + 1, 2, none⟩ = some (.int .i64 y3) := cy 2 _ rfl
  have b4 : V.cell? ⟨W.heap.size + 1, 3, none⟩ = some (.int .i64 y4) := cy 3 _ rfl
  clear cx cy
  have hgr : ∃ os, V = Go.Sort.grow W os := ⟨_, by rw [← hV, Go.Sort.alloc_eq_grow, Go.Sort.alloc_eq_grow, Go.Sort.grow_grow]⟩
  clear hV
  generalize W.heap.size = p at *
  go_region_held3 (fun w' => w'.cell? ⟨p, 0, none⟩ = some (.int .i64 x1) ∧ w'.cell? ⟨p, 1, none⟩ = some (.int .i64 x2) ∧ w'.cell? ⟨p, 2, none⟩ = some (.int .i64 x3) ∧ w'.cell? ⟨p, 3, none⟩ = some (.int .i64 x4) ∧ w'.cell? ⟨p + 1, 0, none⟩ = some (.int .i64 y1) ∧ w'.cell? ⟨p + 1, 1, none⟩ = some (.int .i64 y2) ∧ w'.cell? ⟨p + 1, 2, none⟩ = some (.int .i64 y3) ∧ w'.cell? ⟨p + 1, 3, none⟩ = some (.int .i64 y4)) (go_keep)
    (first | (go_at_call 72; refine (hcon _ _ _).mono ?_; rintro e w' ⟨rfl, rfl⟩) | (go_at_call 71; refine (hor (World.drew (World.alloc V _)) V.heap.size 4 _ (heap_alloc_new V _)).mono ?_; rintro e w' ⟨rfl, rfl⟩))
  all_goals go_wp2
  all_goals go_ret
  all_goals (obtain ⟨os, hos⟩ := hgr; subst hos)
  all_goals exact ⟨rfl, 1, _, by rw [Go.Sort.alloc_eq_grow, Go.Sort.grow_grow]; rfl⟩

theorem orI_lt (a b : Int) (l : List Int) : orI (Lib.compareInt a b :: l) < 0 ↔ a < b ∨ (a = b ∧ orI l < 0) := by
  show (bif Lib.compareInt a b == 0 then orI l else Lib.compareInt a b) < 0 ↔ _
  unfold Lib.compareInt
  by_cases h1 : a < b
  · rw [if_pos h1]
    constructor
    · exact fun _ => .inl h1
    · exact fun _ => show (-1 : Int) < 0 by decide
  · by_cases h2 : a > b
    · rw [if_neg h1, if_pos h2]
      constructor
      · exact fun h => absurd (show (1 : Int) < 0 from h) (by decide)
      · rintro (h | ⟨h, _⟩) <;> omega
    · rw [if_neg h1, if_neg h2]
      have : a = b := by omega
      subst this
      simp
theorem evCmp_lt (x y : T_s22) : evCmp x y < 0 ↔ (x.1 < y.1 ∨ (x.1 = y.1 ∧ (x.2.1 < y.2.1 ∨ (x.2.1 = y.2.1 ∧ (x.2.2.1 < y.2.2.1 ∨ (x.2.2.1 = y.2.2.1 ∧ x.2.2.2.1 < y.2.2.2.1)))))) := by
  unfold evCmp
  rw [orI_lt, orI_lt, orI_lt, orI_lt]
  simp [orI]
theorem evCmp_ltB (x y : T_s22) : Go.Proofs.ltOf evCmp x y = decide (evCmp x y < 0) := rfl
theorem ev_swo : Go.Sort.SWO (Go.Proofs.ltOf evCmp) where
  irrefl x := by rw [evCmp_ltB, decide_eq_false_iff_not, evCmp_lt]; omega
  trans x y z := by simp only [evCmp_ltB, decide_eq_true_eq, evCmp_lt]; omega
  ntrans x y z := by simp only [evCmp_ltB, decide_eq_false_iff_not, evCmp_lt]; omega
theorem ev_total (x y : T_s22) (h1 : Go.Proofs.ltOf evCmp x y = false) (h2 : Go.Proofs.ltOf evCmp y x = false) : x = y := by
  obtain ⟨x1, x2, x3, x4, u⟩ := x
  obtain ⟨y1, y2, y3, y4, v⟩ := y
  simp only [evCmp_ltB, decide_eq_false_iff_not, evCmp_lt] at h1 h2
  rw [show x1 = y1 by omega, show x2 = y2 by omega, show x3 = y3 by omega, show x4 = y4 by omega]
/-- Whether an event may stand ahead of another. -/
def evLe (x y : T_s22) : Bool := !(decide (evCmp y x < 0))
theorem ev_sort (l : List T_s22) : (l.mergeSort fun x y => !(Go.Proofs.ltOf evCmp) y x) = sortB evLe l :=
  sortB_eq (le := evLe) (fun a b c h1 h2 => by simp only [evLe, Bool.not_eq_true', decide_eq_false_iff_not, evCmp_lt] at *; omega) (fun a b => by simp only [evLe, Bool.not_eq_true', decide_eq_false_iff_not, evCmp_lt] at *; omega)
    (fun a b h1 h2 => ev_total a b (by simpa [evLe, evCmp_ltB] using h2) (by simpa [evLe, evCmp_ltB] using h1)) l
instance : Inhabited (E_s22).I := ⟨(0, 0, 0, 0, ())⟩
/-- slices.SortFunc of events. -/
def slices_SortFunc_ev.fx {Ω : Type} := sortfFx 58 E_s22 evLe (Ω := Ω)
theorem slices_SortFunc_ev.fx_ok : FxOK C 57 (fun {_} => slices_SortFunc_ev.fx) :=
  sortfFx_ok (C := C) (f := 58) (e := E_s22) (le := evLe) (by decide) (fun us w => enters_fn (P := Tryd.prog) (fn := Tryd.f57) (by kernel_rfl) (by kernel_rfl) (by kernel_rfl) us w)
    (fun B w S hG blk cap d hH hb hz => (AnyQ.slices_SortFunc_total laysSortF 4 Tryd.isAgg29 Tryd.sizeOf29 (encC E_s22) (fun x => rfl) (fun x v hv => encC_one (by decide) x v hv) evCmp ev_swo 58 #[] blk 0 cap d w
      (fun us w => enters_fn (P := Tryd.prog) (fn := Tryd.f58) (by kernel_rfl) (by kernel_rfl) (by kernel_rfl) us w) (fun m os dk hd x y => cmp_walk x y _) hH hb hz ev_total).mono
      fun e w' ⟨he, n, os, hw⟩ => ⟨he, n, os, by rw [hw, ev_sort]; rfl⟩)
    (fun p cap fv w => AnyF.slices_SortFunc_none laysSortF p cap fv w)

end Go.Proofs.YtaednhofihnfkaaDoor.K

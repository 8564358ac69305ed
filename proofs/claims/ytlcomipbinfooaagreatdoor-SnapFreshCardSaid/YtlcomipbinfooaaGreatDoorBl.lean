/- What functions of the program come to, and their laws. -/
import Derived.Test.YtlcomipbinfooaaGreatDoorZ1
import Derived.Test.YtlcomipbinfooaaGreatDoorKG
import Derived.Tactics
import Derived.Tactics2
import Derived.RangeFuncBox
import Derived.WalkKit
import Derived.OwnWalkIn
import Derived.TacticsInMore
import Derived.LoopNIn
import Derived.LoopIn
import Derived.Maps.AppendAt
import Derived.FnLit
namespace Go.Proofs.YtlcomipbinfooaaGreatDoor.K
open Go Go.RowKit
section
set_option linter.unusedVariables false
set_option linter.unusedSimpArgs false
set_option maxRecDepth 1000000
attribute [local go_sem] Oper.semAt_some
def bitsU : Nat → List Int → Int → Option (List Int)
  | 0, _, _ => none
  | k + 1, s, i => (zq0v.u s i).bind fun r => bif r.2 then (bitsU k s (IntKind.wrap .i64 (r.1 + 1))).map (r.1 :: ·) else some []
def bstep (k : Nat) (s : List Int) (r : Int × Bool) : Option (List Int) := bif r.2 then (bitsU k s (IntKind.wrap .i64 (r.1 + 1))).map (r.1 :: ·) else some []
def zq2m.u (s : List Int) : Option (List Int) := (bitsU 300 s 0).bind fun l => bif decide (s.length = 4) && decide (l.length ≤ 4294967296) then some l else none
theorem bits_one {s : List Int} : ∀ {k k' : Nat} {i : Int} {l l' : List Int}, bitsU k s i = some l → bitsU k' s i = some l' → l = l'
  | 0, _, _, _, _, h, _ => by cases h
  | _ + 1, 0, _, _, _, _, h => by cases h
  | k + 1, k' + 1, i, l, l', h, h' => by
    unfold bitsU at h h'
    obtain ⟨r, hr, h⟩ := Option.bind_eq_some_iff.1 h
    rw [hr, Option.bind_some] at h'
    cases h2 : r.2 with
    | false => rw [h2] at h h'; cases h; cases h'; rfl
    | true =>
      rw [h2, cond_true] at h h'
      obtain ⟨a, ha, rfl⟩ := Option.map_eq_some_iff.1 h
      obtain ⟨b, hb, rfl⟩ := Option.map_eq_some_iff.1 h'
      rw [bits_one ha hb]
theorem bstep_one {s : List Int} {k k' : Nat} {r : Int × Bool} {l l' : List Int} (h : bstep k s r = some l) (h' : bstep k' s r = some l') : l = l' := by
  unfold bstep at h h'
  cases h2 : r.2 with
  | false => rw [h2] at h h'; cases h; cases h'; rfl
  | true =>
    rw [h2, cond_true] at h h'
    obtain ⟨a, ha, rfl⟩ := Option.map_eq_some_iff.1 h
    obtain ⟨b, hb, rfl⟩ := Option.map_eq_some_iff.1 h'
    rw [bits_one ha hb]
open Classical in
noncomputable def bleft (s : List Int) (v3 v4 : Value) : Nat :=
  if h : ∃ q : Nat × (Int × Bool) × List Int, v3 = .int .i64 q.2.1.1 ∧ v4 = .bool q.2.1.2 ∧ bstep q.1 s q.2.1 = some q.2.2 then (Classical.choose h).2.2.length else 0
theorem bleft_eq {s : List Int} {k : Nat} {i : Int} {b : Bool} {l : List Int} (h : bstep k s (i, b) = some l) : bleft s (.int .i64 i) (.bool b) = l.length := by
  have hex : ∃ q : Nat × (Int × Bool) × List Int, Value.int .i64 i = .int .i64 q.2.1.1 ∧ Value.bool b = .bool q.2.1.2 ∧ bstep q.1 s q.2.1 = some q.2.2 := ⟨(k, (i, b), l), rfl, rfl, h⟩
  unfold bleft
  rw [dif_pos hex]
  obtain ⟨e1, e2, h2⟩ := Classical.choose_spec hex
  have e : (Classical.choose hex).2.1 = (i, b) := Prod.ext (by simpa using e1.symm) (by simpa using e2.symm)
  rw [e] at h2
  rw [bstep_one h2 h]
theorem bnext_c {s : List Int} {i : Int} {r : Int × Bool} (h : zq0v.u s i = some r) : Contract CDEKP 241 [.v (.arr 4 (.int .u64)) s, .v (.int .i64) i] (tupAV (.int .i64) [.bool] r) := by
  obtain ⟨av, h1, h2⟩ := zq0v.n.ok (Ω := AV) [.v (.arr 4 (.int .u64)) s, .v (.int .i64) i] some (tupAV (.int .i64) [.bool] r) (by
    show ((zq0v.u s i).bind fun r => some (tupAV (.int .i64) [.bool] r)) = _
    rw [h]; rfl)
  cases h1; exact h2
theorem bnext_calls {a b c d i : Int} {r : Int × Bool} (h : zq0v.u [a, b, c, d] i = some r) {m : Nat} {w0 w : World} {S : Nat → Nat → Prop} (hlt : ∀ b o, S b o → b < m) (hm : m ≤ w0.heap.size) (hG : GlobOK CDEKP m w0 S) (hb : Below m w0 w) :
    Calls Tryz.prog 241 #[.agg #[.int .u64 a, .int .u64 b, .int .u64 c, .int .u64 d], .int .i64 i] w fun e w' => e = .returned (.tuple #[.int .i64 r.1, .bool r.2]) ∧ Below w.heap.size w w' := by
  have hs : Safe S S w0 w := ⟨fun _ _ h => h, fun b o hs => hb.cell (p := ⟨b, o, none⟩) (hlt b o hs)⟩
  have hz := hb.size
  refine ((bnext_c h).runs w S [.agg #[.int .u64 a, .int .u64 b, .int .u64 c, .int .u64 d], .int .i64 i] (fun b o hs => by have := hlt b o hs; omega) ((hG.go hs hb).mono (by omega)) ?_).mono ?_
  · simp only [RepAs]
    refine ⟨_, _, rfl, ?_, _, _, rfl, rep_int.2 rfl, rfl⟩
    rw [rep_v]
    exact ⟨[.int .u64 a, .int .u64 b, .int .u64 c, .int .u64 d], ⟨rfl, _, _, rfl, rfl, _, _, rfl, rfl, _, _, rfl, rfl, _, _, rfl, rfl, rfl⟩, rfl⟩
  · rintro e w' ⟨u, S', rfl, hb', _, _, hr⟩
    simp only [tupAV, tupAVs, RepA, RepAs] at hr
    obtain ⟨vs, rfl, a, q, rfl, ⟨_, rfl, rfl⟩, b, q2, rfl, ⟨_, rfl, rfl⟩, rfl⟩ := hr
    exact ⟨rfl, hb'⟩
set_option maxHeartbeats 1000000 in
theorem ball_in (w : World) (a b c d : Int) (F : Fence) (n : Nat) (hf : F.fn 197) (hro : F.round = none) :
    CallsIn F n Tryz.prog 197 #[.agg #[.int .u64 a, .int .u64 b, .int .u64 c, .int .u64 d]] w fun e w' => e = .returned (.func (.func 240) #[] #[.pointer (some ⟨w.heap.size, 0, none⟩)]) ∧ w' = w.alloc (.cells #[.int .u64 a, .int .u64 b, .int .u64 c, .int .u64 d] 152) := by
  refine callsIn_of_wp Tryz.func197 rfl hf ?_ hro
  simp only [Tryz.ntmps197, List.size_toArray, List.length_cons, List.length_nil, Nat.reduceAdd, Nat.reduceSub, Array.replicate_succ, Array.replicate_zero, List.push_toArray, List.append_toArray, List.nil_append, List.cons_append]
  gi_wp2
  go_ret
  exact ⟨rfl, rfl⟩
theorem below_grown {w w' : World} (h : Below w.heap.size w w') : w.grownBy w' none := ⟨h.os, h.tape, h.output, h.size, fun k hk _ => h.block k hk⟩
def SetAt (W : World) (B : Nat) (a b c d : Int) : Prop := W.heap[B]? = some (.cells #[.int .u64 a, .int .u64 b, .int .u64 c, .int .u64 d] 152 (0, 0))
theorem SetAt.cells {W : World} {B : Nat} {a b c d : Int} (h : SetAt W B a b c d) : W.cell? ⟨B, 0, none⟩ = some (.int .u64 a) ∧ W.cell? ⟨B, 1, none⟩ = some (.int .u64 b) ∧ W.cell? ⟨B, 2, none⟩ = some (.int .u64 c) ∧ W.cell? ⟨B, 3, none⟩ = some (.int .u64 d) := by
  unfold SetAt at h
  exact ⟨by rw [Lib.cell_of_heap h]; rfl, by rw [Lib.cell_of_heap h]; rfl, by rw [Lib.cell_of_heap h]; rfl, by rw [Lib.cell_of_heap h]; rfl⟩
theorem SetAt.kept {W W' : World} {row : Option Nat} {B : Nat} {a b c d : Int} (h : SetAt W B a b c d) (hg : W.grownBy W' row) (hne : some B ≠ row) : SetAt W' B a b c d := (hg.block B (Array.getElem?_eq_some_iff.1 h).1 hne).trans h
theorem SetAt.other {W : World} {B B' : Nat} {a b c d : Int} (h : SetAt W B a b c d) (hne : B ≠ B') (v : Value) : SetAt (W.setCell ⟨B', 0, none⟩ v) B a b c d := h.kept (grownBy_setCell' W B' v) (by simpa using hne)
theorem SetAt.not_row {W : World} {B : Nat} {a b c d : Int} (h : SetAt W B a b c d) {base size k : Nat} {v : Value} {xs : List Value} (hr : W.ownsRow base 3 size v k xs) : some B ≠ v.ownBlock := by
  rcases hr.2 with ⟨rfl, _⟩ | ⟨g, cap, cur, rfl, _, hgb, _⟩
  · simp [Value.ownBlock]
  · intro e'
    obtain rfl : B = g := by simpa [Value.ownBlock] using e'
    have := (show W.heap[B]? = _ from h).symm.trans hgb
    simp at this
theorem setAt_own {β : Type} {B n₀ : Nat} {a b c d : Int} : OwnFrom n₀ (fun (_ : β) W => SetAt W B a b c d) := fun s A W' row hs hg hr => hs.kept hg (fun e => by
  obtain ⟨_, o, ho, hc⟩ := hr B e.symm
  rw [show A.heap[B]? = _ from hs] at ho; cases ho; cases hc)
theorem SetAt.lt {W : World} {B : Nat} {a b c d : Int} (h : SetAt W B a b c d) : B < W.heap.size := (Array.getElem?_eq_some_iff.1 h).1
set_option maxHeartbeats 2000000 in
theorem ball_stops {m Bs k : Nat} {w0 w1 : World} {S : Nat → Nat → Prop} {a b c d : Int} {L : List Int} (hL : bitsU k [a, b, c, d] 0 = some L)
    (hlt : ∀ b o, S b o → b < m) (hm : m ≤ w0.heap.size) (hG : GlobOK CDEKP m w0 S) (hb : Below m w0 w1) (hBs : SetAt w1 Bs a b c d) (n : Nat) (hn : 1 ≤ n) :
    SeqStopsK Fence.wide n Tryz.prog 240 #[.pointer (some ⟨Bs, 0, none⟩)] (fun x : Int => #[.int .i64 x]) (fun A B => Below m A B ∧ B.heap[Bs]? = A.heap[Bs]?) (· = L) (· <+: L) L.length w1 := fun l J Jx W hW hJ hJx hY h0 => by
  have hz0 := hb.size
  have hz1 := hW.size
  have hBlt := hBs.lt
  have hBW : SetAt W Bs a b c d := (hW.block Bs hBlt).trans hBs
  have hbW : Below m w0 W := hb.trans (hW.mono (by omega))
  refine callsIn_of_wp Tryz.func240 rfl trivial ?_ rfl
  simp only [Tryz.ntmps240, List.size_toArray, List.length_cons, List.length_nil, Nat.reduceAdd, Nat.reduceSub, Array.replicate_succ, Array.replicate_zero, List.push_toArray, List.append_toArray, List.nil_append, List.cons_append]
  cases k with
  | zero => cases hL
  | succ k =>
  unfold bitsU at hL
  obtain ⟨r, hr, hL⟩ := Option.bind_eq_some_iff.1 hL
  have hL : bstep k [a, b, c, d] r = some L := hL
  obtain ⟨x1, x2, x3, x4⟩ := hBW.cells
  have kc := bnext_calls hr hlt hm hG hbW
  obtain ⟨i0, is0⟩ := r
  gi_wp2_with (refine ⟨trivial, ?_⟩; gi_at_call 241; refine (callsIn_wide.2 kc).mono ?_; rintro e w2 ⟨rfl, hb2⟩)
  have h0 : J [] w2 := hJ _ _ _ none h0 (below_grown hb2) (fun r e => by cases e)
  have hB2 : SetAt w2 Bs a b c d := (hb2.block Bs hBW.lt).trans hBW
  have hb2 : Below m w0 w2 := hbW.trans (hb2.mono (by omega))
  clear kc hr x1 x2 x3 x4
  gi_loopw [3, 4] (fun v3 v4 wr => ∃ (pre rest : List Int) (k : Nat) (i : Int) (is : Bool), v3 = .int .i64 i ∧ v4 = .bool is ∧ L = pre ++ rest ∧ bstep k [a, b, c, d] (i, is) = some rest ∧ SetAt wr Bs a b c d ∧ Below m w0 wr ∧ J pre wr)
    (fun v3 v4 _ => bleft [a, b, c, d] v3 v4)
  case atStart =>
    exact ⟨[], L, k, i0, is0, rfl, rfl, rfl, hL, hB2, hb2, h0⟩
  case round =>
    obtain ⟨pre, rest, k, i, is, rfl, rfl, hx, hl, hB, hbr, hJr⟩ := hrel
    cases is with
    | false =>
      obtain rfl : rest = [] := by have := Option.some.inj (show some ([] : List Int) = some rest from hl); exact this.symm
      gi_wp2
      go_end0
      exact ⟨⟨_, rfl⟩, .inl ⟨pre, by simp [hx], hJr⟩⟩
    | true =>
      have hl' := hl
      obtain ⟨rest', hl2, rfl⟩ := Option.map_eq_some_iff.1 (show (bitsU k [a, b, c, d] (IntKind.wrap .i64 (i + 1))).map (i :: ·) = some rest from hl)
      obtain ⟨fn, tmps, assign, body, hy, hR⟩ := hY pre i wr hJr (by rw [hx]; simp)
      gi_wp2
      refine hR.mono ?_
      rintro e W3 (⟨rfl, hJ3, hk3, hB3⟩ | ⟨rfl, hJx3⟩)
      · cases k with
        | zero => cases hl2
        | succ k =>
        unfold bitsU at hl2
        obtain ⟨r, hr, hl2⟩ := Option.bind_eq_some_iff.1 hl2
        have hl2 : bstep k [a, b, c, d] r = some rest' := hl2
        have hB3 : SetAt W3 Bs a b c d := hB3.trans hB
        have hb3 : Below m w0 W3 := hbr.trans hk3
        obtain ⟨x1, x2, x3, x4⟩ := hB3.cells
        rw [show IntKind.wrap .i64 (i + 1) = wrap64 (i + 1) from by unfold wrap64; exact IntKind.wrap_i64 _] at hr
        have kc := bnext_calls hr hlt hm hG hb3
        obtain ⟨j, js⟩ := r
        gi_wp2_with (refine ⟨trivial, ?_⟩; gi_at_call 241; refine (callsIn_wide.2 kc).mono ?_; rintro e w4 ⟨rfl, hb4⟩)
        go_roundw
        case rel => exact ⟨pre ++ [i], rest', k, j, js, rfl, rfl, by simp [hx], hl2, (hb4.block Bs hB3.lt).trans hB3, hb3.trans (hb4.mono (by have := hb3.size; omega)), hJ _ _ _ none hJ3 (below_grown hb4) (fun r e => by cases e)⟩
        case measure => rw [bleft_eq hl2, bleft_eq hl']; simp
      · gi_wp2
        refine bodyPost_ret (results_none rfl _ _ _) rfl ?_
        exact ⟨⟨_, rfl⟩, .inr ⟨pre ++ [i], ⟨rest', by simp [hx]⟩, hJx3⟩⟩
theorem info_int : (Tryz.prog.info? 3).map (fun i => (i.zero, i.size, i.bytes)) = some (some (.int .i64 0), 1, 8) := by kernel_rfl
set_option maxHeartbeats 2000000 in
theorem blist_walk {k : Nat} {w : World} {S : Nat → Nat → Prop} {a b c d : Int} {L : List Int} (hL : bitsU k [a, b, c, d] 0 = some L) (hlen : L.length ≤ 4294967296)
    (hlt : ∀ b o, S b o → b < w.heap.size) (hG : GlobOK CDEKP w.heap.size w S) :
    Calls Tryz.prog 133 #[.agg #[.int .u64 a, .int .u64 b, .int .u64 c, .int .u64 d]] w fun e w' => ∃ v, e = .returned v ∧ Below w.heap.size w w' ∧ w'.ownsRow w.heap.size 3 1 v L.length (L.map (Value.int .i64)) := by
  refine (callsIn_wide (n := 9)).1 ?_
  obtain ⟨i0, hi, hz0, hz1, hz2⟩ := info_parts info_int
  refine callsIn_of_wp_marks Tryz.func133 rfl trivial ?_ rfl
  simp only [Tryz.ntmps133, List.size_toArray, List.length_cons, List.length_nil, Nat.reduceAdd, Nat.reduceSub, Array.replicate_succ, Array.replicate_zero, List.push_toArray, List.append_toArray, List.nil_append, List.cons_append]
  gi_wp2_with (refine ⟨trivial, ?_⟩; gi_at_call 197; refine (ball_in _ a b c d Fence.wide _ trivial rfl).mono ?_; rintro e w' ⟨rfl, rfl⟩)
  obtain ⟨m, hm⟩ : ∃ m, w.heap.size = m := ⟨_, rfl⟩
  rw [hm] at hlt hG ⊢
  simp only [Nat.add_assoc, Nat.reduceAdd]
  obtain ⟨W0, hW0⟩ : ∃ W0, ((w.alloc (Obj.cells #[Value.int IntKind.u64 a, Value.int IntKind.u64 b, Value.int IntKind.u64 c, Value.int IntKind.u64 d] 152)).alloc (Obj.cells #[Value.slice none 0 0] 57)).alloc (Obj.cells #[Value.int IntKind.u64 a, Value.int IntKind.u64 b, Value.int IntKind.u64 c, Value.int IntKind.u64 d] 152) = W0 := ⟨_, rfl⟩
  rw [hW0]
  have hz : W0.heap.size = m + 3 := by rw [← hW0]; simp; omega
  have hb0 : Below m w W0 := by
    rw [← hW0]
    exact (((Below.refl m w).alloc (by omega) _).alloc (by simp; omega) _).alloc (by simp; omega) _
  have B1 : Boxed W0 (m + 1) 57 (.slice none 0 0) := by
    have := Boxed.new (w.alloc (Obj.cells #[Value.int IntKind.u64 a, Value.int IntKind.u64 b, Value.int IntKind.u64 c, Value.int IntKind.u64 d] 152)) 57 (Value.slice none 0 0)
    rw [World.size_alloc, hm] at this
    rw [← hW0]; exact this.alloc _
  have B2 : SetAt W0 (m + 2) a b c d := by
    have := World.alloc_heap_new ((w.alloc (Obj.cells #[Value.int IntKind.u64 a, Value.int IntKind.u64 b, Value.int IntKind.u64 c, Value.int IntKind.u64 d] 152)).alloc (Obj.cells #[Value.slice none 0 0] 57)) (Obj.cells #[Value.int IntKind.u64 a, Value.int IntKind.u64 b, Value.int IntKind.u64 c, Value.int IntKind.u64 d] 152)
    rw [World.size_alloc, World.size_alloc, hm] at this
    rw [← hW0]; exact this
  clear hW0
  have hmw : m ≤ w.heap.size := by omega
  refine wpIn_rangeFunc_ownG rfl (by omega) (gf := 240) (lb := #[.pointer (some ⟨m + 2, 0, none⟩)]) rfl trivial (enters_of Tryz.func240 (by kernel_rfl) rfl)
    (ball_stops hL hlt hmw hG hb0 B2 _ (by omega)) (fun h k => ⟨h.1.trans k.1, k.2.trans h.2⟩) (fun W l o o' hl ho hc hw => ⟨belowK_b (w := W0) (by omega) W l o o' hl ho hc hw, World.putObj_heap_other (by omega)⟩) (Below.refl _ _) (fun _ => rfl)
    (fun pre W => ((∃ v, Boxed W (m + 1) 57 v ∧ W.ownsRow m 3 1 v pre.length (pre.map (Value.int .i64)) ∧ True) ∧ SetAt W (m + 2) a b c d) ∧ Below m w W)
    (fun _ _ _ => False)
    (OwnFrom.and (OwnFrom.and (Own.from (holdsRow_own m (m + 1) 57 3 1 (fun pre : List Int => pre.length) (fun pre => pre.map (Value.int .i64)) (fun _ _ => True)) _) setAt_own) (ownFrom_below hmw (by omega)))
    (fun _ _ _ _ _ hs _ _ => hs)
    ⟨⟨⟨_, B1, World.ownsRow_nil _ _ _ _, trivial⟩, B2⟩, hb0⟩
    (fun x => { tmps := #[.agg #[.int .u64 a, .int .u64 b, .int .u64 c, .int .u64 d], .pointer (some ⟨m, 0, none⟩), .slice none 0 0, .pointer (some ⟨m + 1, 0, none⟩), .int .i64 x, .agg #[.int .u64 a, .int .u64 b, .int .u64 c, .int .u64 d], .func (.func 240) #[] #[.pointer (some ⟨m + 2, 0, none⟩)], .int .i64 x, undef, undef, undef, undef, undef], defers := [] }) ?assign ?body ?done ?stop
  case assign =>
    intro l x W K hK
    gi_wp2
    exact hK
  case body =>
    rintro l pre x W ⟨⟨⟨v, hv, hrow, _⟩, hset⟩, hB⟩ hlt'
    have hc := hv.cell
    have hBz := hB.size
    gi_wp2_with (gi_at_builtin; refine wpListIn_append_own _ rfl _ _ 57 rfl m 3 i0 (.int .i64 0) 1 8 Tryz.underlying57 hi hz0 hz1 hz2 rfl (by decide) _ _ _ rfl (hrow.alloc _) ⟨W.heap.size, 0, none⟩ 1 1 [.int .i64 x] rfl rfl (cell_one_new _ _ _) (by simp [Value.oneCell']) (by simp [maxLen]; omega) (by omega) (by have := hB.size; simp; omega) ?_; intro v' w1 hown' hgrow _; obtain ⟨g', cap', rfl⟩ := ownsRow_succ hown'; obtain ⟨hv1, hv2, hr2, hk2, hb2⟩ := hv.appended (by decide) hrow (by omega) (by omega) hown' hgrow; have hc1 := hv1.cell; have hf1 := hv1.frozen)
    have hs2 := ((hset.kept (World.grownBy_alloc W _ none) (by simp)).kept hgrow (hset.not_row hrow)).other (B' := m + 1) (by omega) (.slice (some ⟨g', 0, none⟩) (pre.length + 1) cap')
    exact ⟨hk2.from _, ⟨hb2, hs2.trans hset.symm⟩, ⟨⟨_, hv2, by simpa using hr2, trivial⟩, hs2⟩, hB.trans hb2⟩
  case done =>
    rintro D ys W hD rfl ⟨⟨⟨v, hv, hrow, _⟩, hset⟩, hB⟩ hK
    have hc := hv.cell
    gi_wp2
    refine ⟨by simp, .inl ⟨_, _, rfl, run_takeDeferred hK, ?_⟩⟩
    exact ⟨_, results_tmp rfl _ _ _, v, rfl, by rw [hm]; exact hB.trans (belowK_b (w := W0) (by omega) W D _ _ (by omega) hK rfl rfl), by rw [hm]; exact ownsRow_putObj hrow _ hK rfl⟩
  case stop =>
    rintro D c pre W _ _ h _
    exact h.elim
theorem zq2m.c (s : List Int) (r : List Int) (h : zq2m.u s = some r) : Contract CDEKP 133 [.v (.arr 4 (.int .u64)) s] (tupAV (.slice (.int .i64)) [] r) where
  enters us w := enters_fn (P := Tryz.prog) (fn := Tryz.f133) (by kernel_rfl) (by kernel_rfl) (by kernel_rfl) us w
  runs w S us hlt hG hr := by
    simp only [RepAs] at hr
    obtain ⟨u, q, rfl, h1, rfl⟩ := hr
    unfold zq2m.u at h
    obtain ⟨l, hl, h⟩ := Option.bind_eq_some_iff.1 h
    obtain ⟨h2, h⟩ := ite_some h
    simp only [Bool.and_eq_true, decide_eq_true_eq] at h2
    cases h
    obtain ⟨a, b, c, d, rfl⟩ : ∃ a b c d, s = [a, b, c, d] := by
      match s, h2.1 with
      | [a, b, c, d], _ => exact ⟨a, b, c, d, rfl⟩
    rw [rep_v] at h1
    obtain ⟨cs, ⟨_, h1⟩, rfl⟩ := h1
    obtain rfl : cs = [.int .u64 a, .int .u64 b, .int .u64 c, .int .u64 d] := repL_ints_eq h1
    refine (blist_walk hl h2.2 hlt hG).mono ?_
    rintro e w' ⟨v, rfl, hb, hrow⟩
    have hbs : Safe S (fun b o => S b o ∨ (w.heap.size ≤ b ∧ b < w'.heap.size)) w w' := ⟨fun b o h => .inl h, fun b o h => hb.cell (p := ⟨b, o, none⟩) (hlt b o h)⟩
    refine ⟨_, fun b o => S b o ∨ (w.heap.size ≤ b ∧ b < w'.heap.size), rfl, hb, hbs, fun b o h => ?_, ?_⟩
    · rcases h with h | h
      · exact ⟨.inl h, by have := hlt b o h; have := hb.size; omega⟩
      · exact ⟨.inr h.1, h.2⟩
    show RepA _ _ _ _ (.v (.slice (.int .i64)) r) _
    rw [rep_v]
    rcases hrow.2 with ⟨rfl, h0⟩ | ⟨g, cap, cur, rfl, hg, hgb, hcap, _, hsz, htk⟩
    · have e0 : r = [] := List.length_eq_zero_iff.1 h0
      rw [e0]
      exact ⟨[.slice none 0 0], ⟨none, 0, rfl, Nat.le_refl _, .inl rfl⟩, rfl⟩
    · refine ⟨[.slice (some ⟨g, 0, none⟩) r.length cap], ⟨some ⟨g, 0, none⟩, cap, rfl, hcap, .inr ⟨g, 0, r.map (Value.int .i64), rfl, repL_ints _, fun j hj => ⟨?_, .inr ⟨hg, (Array.getElem?_eq_some_iff.1 hgb).1⟩⟩⟩⟩, rfl⟩
      rw [Nat.zero_add, Lib.cell_of_heap hgb, ← Array.getElem?_toList]
      have hj2 : j < r.length * 1 := by rw [← hrow.1]; exact hj
      have e1 : (cur.toList.take (r.length * 1))[j]? = cur.toList[j]? := List.getElem?_take_of_lt hj2
      rw [← e1, htk, List.getElem?_eq_getElem hj]
noncomputable def zq2m.n : En CDEKP := En.of (e := argI (.arr 4 (.int .u64)) fun x0 => endU (zq2m.u x0) (tupAV (.slice (.int .i64)) [])) (entA_ok (argI_ok fun x0 => endU_ok fun r h => zq2m.c x0 r h))
end
end Go.Proofs.YtlcomipbinfooaaGreatDoor.K

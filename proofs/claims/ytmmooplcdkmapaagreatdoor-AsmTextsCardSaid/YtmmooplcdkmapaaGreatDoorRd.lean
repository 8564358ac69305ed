/- asm.Read -/
import Derived.Test.YtmmooplcdkmapaaGreatDoorZ11a
import Derived.Test.YtmmooplcdkmapaaGreatDoorKK
import Derived.Tactics
import Derived.Tactics2
import Derived.WalkKit
import Derived.OwnWalkIn
import Derived.TacticsInMore
import Derived.LoopNIn
import Derived.LoopIn
import Derived.Maps.AppendAt
import Derived.FnLit
set_option maxRecDepth 1000000
set_option linter.unusedVariables false
namespace Go.Proofs.YtmmooplcdkmapaaGreatDoor.K
open Go Go.RowKit
attribute [local go_sem] Oper.semAt_some

/-- The lines of a text, numbered. -/
def linesU : Nat → ByteArray → Nat → Option (List (Int × ByteArray))
  | 0, _, _ => none
  | k + 1, s, no => (strings_Cut.u s (bs [10])).bind fun r => bif r.2.2 then (linesU k r.2.1 (no + 1)).map (((no : Int), r.1) :: ·) else some [((no : Int), r.1)]

/-- A line that asm.Parse answers at. -/
abbrev RdL := { x : Int × ByteArray // (asm_Parse.u x.2).isSome = true }
def encRdL (x : RdL) : Array Value := #[.int .i64 x.1.1, .string x.1.2]

theorem cut_c {s : ByteArray} {r : ByteArray × ByteArray × Bool} (h : strings_Cut.u s (bs [10]) = some r) : Contract CKMP 34 [.v .str s, .v .str (bs [10])] (tupAV .str [.str, .bool] r) := by
  obtain ⟨av, h1, h2⟩ := strings_Cut.n.ok (Ω := AV) [.v .str s, .v .str (bs [10])] some (tupAV .str [.str, .bool] r) (by
    show ((strings_Cut.u s (bs [10])).bind fun r => some (tupAV .str [.str, .bool] r)) = _
    rw [h]; rfl)
  cases h1; exact h2
theorem parse_c {s : ByteArray} {r : T_s36 × Int} (h : asm_Parse.u s = some r) : Contract CKMP 11 [.v .str s] (tupAV E_s36 [.int .i64] r) := by
  obtain ⟨av, h1, h2⟩ := asm_Parse.n.ok (Ω := AV) [.v .str s] some (tupAV E_s36 [.int .i64] r) (by
    show ((asm_Parse.u s).bind fun r => some (tupAV E_s36 [.int .i64] r)) = _
    rw [h]; rfl)
  cases h1; exact h2

/-- What Cut answers, called. -/
theorem cut_calls {s : ByteArray} {r : ByteArray × ByteArray × Bool} (h : strings_Cut.u s (bs [10]) = some r) {m : Nat} {w0 w : World} {S : Nat → Nat → Prop} (hlt : ∀ b o, S b o → b < m) (hm : m ≤ w0.heap.size) (hG : GlobOK CKMP m w0 S) (hb : Below m w0 w) :
    Calls Tryz.prog 34 #[.string s, .string (bs [10])] w fun e w' => e = .returned (.tuple #[.string r.1, .string r.2.1, .bool r.2.2]) ∧ Below w.heap.size w w' := by
  have hs : Safe S S w0 w := ⟨fun _ _ h => h, fun b o hs => hb.cell (p := ⟨b, o, none⟩) (hlt b o hs)⟩
  have hz := hb.size
  refine ((cut_c h).runs w S [.string s, .string (bs [10])] (fun b o hs => by have := hlt b o hs; omega) ((hG.go hs hb).mono (by omega)) ?_).mono ?_
  · simp only [RepAs]; exact ⟨_, _, rfl, rep_str.2 rfl, _, _, rfl, rep_str.2 rfl, rfl⟩
  · rintro e w' ⟨u, S', rfl, hb', _, _, hr⟩
    simp only [tupAV, tupAVs, RepA, RepAs] at hr
    obtain ⟨vs, rfl, a, q, rfl, ⟨_, rfl, rfl⟩, b, q2, rfl, ⟨_, rfl, rfl⟩, c, q3, rfl, ⟨_, rfl, rfl⟩, rfl⟩ := hr
    exact ⟨rfl, hb'⟩
/-- The cells of an instruction. -/
def celI (i : T_s36) : List Value := [.int .u8 i.1, .int .u8 i.2.1, .int .u8 i.2.2.1, .int .u8 i.2.2.2.1]
theorem parse_calls {s : ByteArray} {r : T_s36 × Int} (h : asm_Parse.u s = some r) {m : Nat} {w0 w : World} {S : Nat → Nat → Prop} (hlt : ∀ b o, S b o → b < m) (hm : m ≤ w0.heap.size) (hG : GlobOK CKMP m w0 S) (hb : Below m w0 w) :
    Calls Tryz.prog 11 #[.string s] w fun e w' => e = .returned (.tuple #[.agg #[.int .u8 r.1.1, .int .u8 r.1.2.1, .int .u8 r.1.2.2.1, .int .u8 r.1.2.2.2.1], .int .i64 r.2]) ∧ Below w.heap.size w w' := by
  have hs : Safe S S w0 w := ⟨fun _ _ h => h, fun b o hs => hb.cell (p := ⟨b, o, none⟩) (hlt b o hs)⟩
  have hz := hb.size
  refine ((parse_c h).runs w S [.string s] (fun b o hs => by have := hlt b o hs; omega) ((hG.go hs hb).mono (by omega)) ?_).mono ?_
  · simp only [RepAs]; exact ⟨_, _, rfl, rep_str.2 rfl, rfl⟩
  · rintro e w' ⟨u, S', rfl, hb', _, _, hr⟩
    simp only [tupAV, tupAVs, RepA, RepAs] at hr
    obtain ⟨vs, rfl, a, q, rfl, ⟨cs, ⟨c1, d1, rfl, rfl, c2, d2, rfl, rfl, c3, d3, rfl, rfl, c4, d4, rfl, rfl, rfl⟩, rfl⟩, b, q2, rfl, ⟨_, rfl, rfl⟩, rfl⟩ := hr
    exact ⟨rfl, hb'⟩

set_option maxHeartbeats 1000000 in
theorem lines_in (w : World) (s : ByteArray) (F : Fence) (n : Nat) (hf : F.fn 15) (hro : F.round = none) :
    CallsIn F n Tryz.prog 15 #[.string s] w fun e w' => e = .returned (.func (.func 33) #[] #[.pointer (some ⟨w.heap.size, 0, none⟩)]) ∧ w' = w.alloc (.cells #[.string s] 9) := by
  refine callsIn_of_wp Tryz.func15 rfl hf ?_ hro
  simp only [Tryz.ntmps15, List.size_toArray, List.length_cons, List.length_nil, Nat.reduceAdd, Nat.reduceSub, Array.replicate_succ, Array.replicate_zero, List.push_toArray, List.append_toArray, List.nil_append, List.cons_append]
  gi_wp2
  go_ret
  exact ⟨rfl, rfl⟩

theorem belowGrow {w w' : World} (h : Below w.heap.size w w') : w.grownBy w' none := ⟨h.os, h.tape, h.output, h.size, fun k hk _ => h.block k hk⟩
theorem boxed_go {w w' : World} {B : Nat} {t : TypeId} {v : Value} (h : Boxed w B t v) (e : w'.heap[B]? = w.heap[B]?) : Boxed w' B t v := e.trans h

set_option maxHeartbeats 2000000 in
theorem lines_stops {m Bs k : Nat} {w0 w1 : World} {S : Nat → Nat → Prop} {s0 : ByteArray} {L : List RdL} (hL : linesU k s0 1 = some (L.map (·.1))) (hlen : L.length ≤ 4294967296)
    (hlt : ∀ b o, S b o → b < m) (hm : m ≤ w0.heap.size) (hG : GlobOK CKMP m w0 S) (hb : Below m w0 w1) (hBs : Boxed w1 Bs 9 (.string s0)) (hmB : m ≤ Bs) (n : Nat) (hn : 1 ≤ n) :
    SeqStopsW Fence.wide n Tryz.prog 33 #[.pointer (some ⟨Bs, 0, none⟩)] Bs encRdL (fun A B => Below m A B ∧ B.heap[Bs]? = A.heap[Bs]?) (· = L) (· <+: L) L.length w1 := fun l J Jx W hW hJ hJs hY h0 => by
  have hz0 := hb.size
  have hz1 := hW.size
  have hBlt := hBs.lt
  refine callsIn_of_wp Tryz.func33 rfl trivial ?_ rfl
  simp only [Tryz.ntmps33, List.size_toArray, List.length_cons, List.length_nil, Nat.reduceAdd, Nat.reduceSub, Array.replicate_succ, Array.replicate_zero, List.push_toArray, List.append_toArray, List.nil_append, List.cons_append]
  gi_wp2
  gi_loopw [3] (fun v wr => ∃ (pre rest : List RdL) (s : ByteArray) (k : Nat), v = .int .i64 ((pre.length + 1 : Nat) : Int) ∧ L = pre ++ rest ∧ linesU k s (pre.length + 1) = some (rest.map (·.1)) ∧ Boxed wr Bs 9 (.string s) ∧ Below m w0 wr ∧ J pre wr)
    (fun v _ => L.length + 1 - (match v with | .int _ n => n.toNat | _ => 0))
  case atStart =>
    exact ⟨[], L, s0, k, rfl, rfl, hL, boxed_go hBs (hW.block Bs hBlt), hb.trans (hW.mono (by omega)), h0⟩
  case round =>
    obtain ⟨pre, rest, s, k, rfl, hx, hl, hB, hbr, hJr⟩ := hrel
    cases k with
    | zero => cases hl
    | succ k =>
      unfold linesU at hl
      cases hc : strings_Cut.u s (bs [10]) with
      | none => rw [hc] at hl; cases hl
      | some r =>
      rw [hc, Option.bind_some] at hl
      obtain ⟨a, b, more⟩ := r
      have hcell := hB.cell
      have hfr := hB.frozen
      have kc := cut_calls hc hlt hm hG hbr
      obtain ⟨x, rest', rfl, hxe, hrest⟩ : ∃ x rest', rest = x :: rest' ∧ x.1 = (((pre.length + 1 : Nat) : Int), a) ∧ ((more = true ∧ linesU k b (pre.length + 1 + 1) = some (rest'.map (·.1))) ∨ (more = false ∧ rest' = [])) := by
        cases more with
        | true =>
          obtain ⟨l2, h1, h2⟩ := Option.map_eq_some_iff.1 (show (linesU k b (pre.length + 1 + 1)).map _ = _ from hl)
          cases rest with
          | nil => cases h2
          | cons x rest' =>
            simp only [List.map_cons, List.cons.injEq] at h2
            exact ⟨x, rest', rfl, h2.1.symm, .inl ⟨rfl, by rw [h1, h2.2]⟩⟩
        | false =>
          have h2 := Option.some.inj (show some [_] = some _ from hl)
          cases rest with
          | nil => cases h2
          | cons x rest' =>
            simp only [List.map_cons, List.cons.injEq] at h2
            exact ⟨x, rest', rfl, h2.1.symm, .inr ⟨rfl, by have := h2.2; simpa using this.symm⟩⟩
      have henc : encRdL x = #[.int .i64 ((pre.length : Int) + 1), .string a] := by unfold encRdL; rw [hxe]; simp
      have hpl : pre.length < L.length := by rw [hx]; simp
      gi_wp2_with (refine ⟨trivial, ?_⟩; gi_at_call 34; refine (callsIn_wide.2 kc).mono ?_; rintro e w2 ⟨rfl, hb2⟩; obtain ⟨fn, tmps, assign, body, hy, hR⟩ := hY pre x w2 (hJ pre _ _ none hJr (belowGrow hb2) (fun r e => by cases e)) hpl; rw [henc] at hy)
      refine hR.mono ?_
      rintro e W3 (⟨rfl, hJ3, hk3, hB3⟩ | ⟨rfl, hJx3⟩)
      · have hB3 := boxed_go (boxed_go hB (hb2.block Bs hB.lt)) hB3
        have hcell3 := hB3.cell
        have hfr3 := hB3.frozen
        rcases hrest with ⟨rfl, hl2⟩ | ⟨rfl, rfl⟩
        · gi_wp2
          go_roundw
          case rel => exact ⟨pre ++ [x], rest', b, k, by simp, by simp [hx], by simpa using hl2, hB3.set _, (hbr.trans ((hb2.mono (by have := hbr.size; omega)).trans hk3)).setCell (p := ⟨Bs, 0, none⟩) hmB _, hJs _ _ _ hJ3⟩
          case measure => simp; omega
        · gi_wp2
          refine bodyPost_ret (results_none rfl _ _ _) rfl ?_
          exact ⟨⟨_, rfl⟩, .inl ⟨pre ++ [x], by simp [hx], hJ3⟩⟩
      · gi_wp2
        refine bodyPost_ret (results_none rfl _ _ _) rfl ?_
        exact ⟨⟨_, rfl⟩, .inr ⟨pre ++ [x], ⟨rest', by simp [hx]⟩, hJx3⟩⟩

/-- What asm.Parse answers at a line. -/
def pvL (x : RdL) : T_s36 × Int := (asm_Parse.u x.1.2).get x.2
theorem pv_u (x : RdL) : asm_Parse.u x.1.2 = some (pvL x) := (Option.some_get x.2).symm
/-- The instructions among lines. -/
def gotL : List RdL → List T_s36
  | [] => []
  | x :: r => if (pvL x).2 = 0 then (pvL x).1 :: gotL r else gotL r
theorem gotL_app (a b : List RdL) : gotL (a ++ b) = gotL a ++ gotL b := by
  induction a with
  | nil => rfl
  | cons x r ih =>
    show gotL (x :: (r ++ b)) = gotL (x :: r) ++ gotL b
    simp only [gotL]
    rw [ih]
    split <;> rfl
theorem gotL_len : ∀ l : List RdL, (gotL l).length ≤ l.length
  | [] => Nat.le_refl _
  | x :: r => by
    have := gotL_len r
    unfold gotL
    split <;> simp <;> omega

/-- What holds between two lines. -/
structure RdI (m : Nat) (w : World) (pre : List RdL) (W : World) : Prop where
  out : ∃ v, Boxed W (m + 3) 22 v ∧ W.ownsRow m 37 4 v (gotL pre).length ((gotL pre).flatMap celI)
  b2 : Boxed W m 22 (.slice none 0 0)
  b3 : Boxed W (m + 1) 3 (.int .i64 0)
  b4 : Boxed W (m + 2) 24 (.int .i64 0)
  bs : ∃ u, Boxed W (m + 4) 9 u
  ok : ∀ x ∈ pre, (pvL x).2 = 0 ∨ (pvL x).2 = 11
  below : Below m w W

theorem RdI.grow {m : Nat} {w W W' : World} {pre : List RdL} {row : Option Nat} (h : RdI m w pre W) (hm : m ≤ w.heap.size) (hg : W.grownBy W' row) (hr : ∀ r, row = some r → m ≤ r ∧ ∃ o : Obj, W.heap[r]? = some o ∧ o.isCells = false) : RdI m w pre W' := by
  have box : ∀ {B : Nat} {t : TypeId} {v : Value}, Boxed W B t v → Boxed W' B t v := fun {B t v} hb => hb.kept hg (fun e => by
    obtain ⟨_, o, ho, hc⟩ := hr B e.symm
    rw [show W.heap[B]? = _ from hb] at ho; cases ho; cases hc)
  obtain ⟨v, hv, hrow⟩ := h.out
  refine ⟨⟨v, box hv, hrow.kept hg ?_⟩, box h.b2, box h.b3, box h.b4, h.bs.imp fun _ => box, h.ok, h.below.grown hg (by have := h.below.size; omega) (fun k e => (hr k e).1)⟩
  rcases hrow.2 with ⟨rfl, _⟩ | ⟨g, cap, cur, rfl, _, hgb, _⟩
  · exact .inl rfl
  · refine .inr fun e' => ?_
    obtain ⟨_, o, ho, hc⟩ := hr g (by simpa [Value.ownBlock] using e'.symm)
    rw [hgb] at ho; cases ho; cases hc
theorem RdI.set {m : Nat} {w W : World} {pre : List RdL} (h : RdI m w pre W) (v : Value) : RdI m w pre (W.setCell ⟨m + 4, 0, none⟩ v) := by
  obtain ⟨x, hv, hrow⟩ := h.out
  obtain ⟨u, hu⟩ := h.bs
  exact ⟨⟨x, hv.other (by omega) v, hrow.kept (grownBy_setCell' W (m + 4) v) (.inr (hu.not_row (by decide) hrow).symm)⟩, h.b2.other (by omega) v, h.b3.other (by omega) v, h.b4.other (by omega) v, ⟨v, hu.set v⟩, h.ok, h.below.setCell (p := ⟨m + 4, 0, none⟩) (by simp) v⟩
/-- What holds where a line is refused. -/
structure RdX (m : Nat) (w : World) (l : List RdL) (W : World) : Prop where
  at_ : ∃ pre x, l = pre ++ [x] ∧ (∀ x ∈ pre, (pvL x).2 = 0 ∨ (pvL x).2 = 11) ∧ (pvL x).2 ≠ 0 ∧ (pvL x).2 ≠ 11 ∧ Boxed W (m + 1) 3 (.int .i64 x.1.1) ∧ Boxed W (m + 2) 24 (.int .i64 (pvL x).2)
  b2 : Boxed W m 22 (.slice none 0 0)
  below : Below m w W
theorem RdX.grow {m : Nat} {w W W' : World} {pre : List RdL} {row : Option Nat} (h : RdX m w pre W) (hm : m ≤ w.heap.size) (hg : W.grownBy W' row) (hr : ∀ r, row = some r → m ≤ r ∧ ∃ o : Obj, W.heap[r]? = some o ∧ o.isCells = false) : RdX m w pre W' := by
  have box : ∀ {B : Nat} {t : TypeId} {v : Value}, Boxed W B t v → Boxed W' B t v := fun {B t v} hb => hb.kept hg (fun e => by
    obtain ⟨_, o, ho, hc⟩ := hr B e.symm
    rw [show W.heap[B]? = _ from hb] at ho; cases ho; cases hc)
  obtain ⟨p, x, h1, h2, h3, h4, h5, h6⟩ := h.at_
  exact ⟨⟨p, x, h1, h2, h3, h4, box h5, box h6⟩, box h.b2, h.below.grown hg (by have := h.below.size; omega) (fun k e => (hr k e).1)⟩

theorem RdI.alloc {m : Nat} {w W : World} {pre : List RdL} (h : RdI m w pre W) (hm : m ≤ w.heap.size) (o : Obj) : RdI m w pre (W.alloc o) := h.grow hm (World.grownBy_alloc W o none) (fun r e => by cases e)
theorem RdI.more {m : Nat} {w W : World} {pre : List RdL} {x : RdL} (h : RdI m w pre W) (hx : (pvL x).2 = 11) : RdI m w (pre ++ [x]) W := by
  have e : gotL (pre ++ [x]) = gotL pre := by rw [gotL_app]; simp [gotL, hx]
  refine ⟨by rw [e]; exact h.out, h.b2, h.b3, h.b4, h.bs, fun y hy => ?_, h.below⟩
  rcases List.mem_append.1 hy with h1 | h1
  · exact h.ok y h1
  · simp only [List.mem_singleton] at h1; subst h1; exact .inr hx
theorem RdI.push {m : Nat} {w W w1 : World} {pre : List RdL} {x : RdL} {v v' : Value} {tmp : Obj} (h : RdI m w pre W) (hx : (pvL x).2 = 0) (hm : m ≤ w.heap.size) (hv : Boxed W (m + 3) 22 v)
    (hrow : W.ownsRow m 37 4 v (gotL pre).length ((gotL pre).flatMap celI)) (hown : w1.ownsRow m 37 4 v' ((gotL pre).length + 1) ((gotL pre).flatMap celI ++ celI (pvL x).1)) (hgrow : (W.alloc tmp).grownBy w1 v.ownBlock) :
    Boxed w1 (m + 3) 22 v ∧ RdI m w (pre ++ [x]) (w1.setCell ⟨m + 3, 0, none⟩ v') ∧ KeepsOthers W (w1.setCell ⟨m + 3, 0, none⟩ v') ∧ Below m W (w1.setCell ⟨m + 3, 0, none⟩ v') ∧ (w1.setCell ⟨m + 3, 0, none⟩ v').heap[m + 4]? = W.heap[m + 4]? := by
  have hz := h.below.size
  obtain ⟨hv1, hv2, hr2, hk2, hb2⟩ := hv.appended (by decide) hrow (by omega) (by omega) hown hgrow
  have e : gotL (pre ++ [x]) = gotL pre ++ [(pvL x).1] := by rw [gotL_app]; simp [gotL, hx]
  have box : ∀ {B : Nat} {t : TypeId} {u : Value}, Boxed W B t u → t ≠ 37 → B ≠ m + 3 → Boxed (w1.setCell ⟨m + 3, 0, none⟩ v') B t u := fun {B t u} hb ht hne => ((hb.alloc tmp).kept hgrow (hb.not_row ht hrow)).other hne _
  obtain ⟨u, hu⟩ := h.bs
  refine ⟨hv1, ⟨⟨v', hv2, by rw [e]; simpa using hr2⟩, box h.b2 (by decide) (by omega), box h.b3 (by decide) (by omega), box h.b4 (by decide) (by omega), ⟨u, box hu (by decide) (by omega)⟩, fun y hy => ?_, h.below.trans hb2⟩, hk2, hb2, ?_⟩
  · rcases List.mem_append.1 hy with h1 | h1
    · exact h.ok y h1
    · simp only [List.mem_singleton] at h1; subst h1; exact .inl hx
  · have h1 : (w1.setCell ⟨m + 3, 0, none⟩ v').heap[m + 4]? = _ := box hu (by decide) (by omega)
    exact h1.trans hu.symm
theorem cell_four {W : World} {a b c d : Value} {t : TypeId} {B : Nat} (hB : B = W.heap.size) : ∀ (j : Nat) (u : Value), [a, b, c, d][j]? = some u → (W.alloc (.cells #[a, b, c, d] t)).cell? ((⟨B, 0, none⟩ : Addr).add j) = some u := by
  intro j u hj
  subst hB
  have h := World.alloc_heap_new W (.cells #[a, b, c, d] t)
  have e : (⟨W.heap.size, 0, none⟩ : Addr).add j = ⟨W.heap.size, j, none⟩ := by simp [Addr.add]; omega
  rw [e, Lib.cell_of_heap h, ← hj, ← Array.getElem?_toList]

theorem info_I : (Tryz.prog.info? 37).map (fun i => (i.zero, i.size, i.bytes)) = some (some (.agg #[.int .u8 0, .int .u8 0, .int .u8 0, .int .u8 0]), 4, 4) := by kernel_rfl

set_option maxHeartbeats 4000000 in
theorem read_walk {k : Nat} {w : World} {S : Nat → Nat → Prop} {s0 : ByteArray} {L : List RdL} (hL : linesU k s0 1 = some (L.map (·.1))) (hlen : L.length ≤ 4294967296)
    (hlt : ∀ b o, S b o → b < w.heap.size) (hG : GlobOK CKMP w.heap.size w S) :
    Calls Tryz.prog 7 #[.string s0] w fun e w' => ∃ v no er, e = .returned (.tuple #[v, .int .i64 no, .int .i64 er]) ∧ Below w.heap.size w w' ∧
      (((∀ x ∈ L, (pvL x).2 = 0 ∨ (pvL x).2 = 11) ∧ w'.ownsRow w.heap.size 37 4 v (gotL L).length ((gotL L).flatMap celI) ∧ no = 0 ∧ er = 0) ∨
       (v = .slice none 0 0 ∧ ∃ pre x r, L = pre ++ x :: r ∧ (∀ x ∈ pre, (pvL x).2 = 0 ∨ (pvL x).2 = 11) ∧ (pvL x).2 ≠ 0 ∧ (pvL x).2 ≠ 11 ∧ no = x.1.1 ∧ er = (pvL x).2)) := by
  refine (callsIn_wide (n := 9)).1 ?_
  obtain ⟨i0, hi, hz0, hz1, hz2⟩ := info_parts info_I
  refine callsIn_of_wp_marks Tryz.func7 rfl trivial ?_ rfl
  simp only [Tryz.ntmps7, List.size_toArray, List.length_cons, List.length_nil, Nat.reduceAdd, Nat.reduceSub, Array.replicate_succ, Array.replicate_zero, List.push_toArray, List.append_toArray, List.nil_append, List.cons_append]
  gi_wp2_with (refine ⟨trivial, ?_⟩; gi_at_call 15; refine (lines_in _ _ Fence.wide _ trivial rfl).mono ?_; rintro e w' ⟨rfl, rfl⟩)
  simp only [Nat.add_assoc, Nat.reduceAdd]
  obtain ⟨m, hm⟩ : ∃ m, w.heap.size = m := ⟨_, rfl⟩
  rw [hm] at hlt hG ⊢
  obtain ⟨W0, hW0⟩ : ∃ W0, (((((w.alloc (Obj.cells #[Value.slice none 0 0] 22)).alloc (Obj.cells #[Value.int IntKind.i64 0] 3)).alloc (Obj.cells #[Value.int IntKind.i64 0] 24)).alloc (Obj.cells #[Value.slice none 0 0] 22)).alloc (Obj.cells #[Value.string s0] 9)) = W0 := ⟨_, rfl⟩
  rw [hW0]
  have hz : W0.heap.size = m + 5 := by rw [← hW0]; simp; omega
  have hb0 : Below m w W0 := by
    rw [← hW0]
    exact (((((Below.refl m w).alloc (by omega) _).alloc (by simp; omega) _).alloc (by simp; omega) _).alloc (by simp; omega) _).alloc (by simp; omega) _
  have B0 : Boxed W0 m 22 (.slice none 0 0) := by rw [← hW0, ← hm]; exact ((((Boxed.new w _ _).alloc _).alloc _).alloc _).alloc _
  have B1 : Boxed W0 (m + 1) 3 (.int .i64 0) := by
    have := Boxed.new (w.alloc (Obj.cells #[Value.slice none 0 0] 22)) 3 (Value.int .i64 0)
    rw [World.size_alloc, hm] at this
    rw [← hW0]; exact ((this.alloc _).alloc _).alloc _
  have B2 : Boxed W0 (m + 2) 24 (.int .i64 0) := by
    have := Boxed.new ((w.alloc (Obj.cells #[Value.slice none 0 0] 22)).alloc (Obj.cells #[Value.int IntKind.i64 0] 3)) 24 (Value.int .i64 0)
    rw [World.size_alloc, World.size_alloc, hm] at this
    rw [← hW0]; exact (this.alloc _).alloc _
  have B3 : Boxed W0 (m + 3) 22 (.slice none 0 0) := by
    have := Boxed.new (((w.alloc (Obj.cells #[Value.slice none 0 0] 22)).alloc (Obj.cells #[Value.int IntKind.i64 0] 3)).alloc (Obj.cells #[Value.int IntKind.i64 0] 24)) 22 (Value.slice none 0 0)
    rw [World.size_alloc, World.size_alloc, World.size_alloc, hm] at this
    rw [← hW0]; exact this.alloc _
  have B4 : Boxed W0 (m + 4) 9 (.string s0) := by
    have := Boxed.new ((((w.alloc (Obj.cells #[Value.slice none 0 0] 22)).alloc (Obj.cells #[Value.int IntKind.i64 0] 3)).alloc (Obj.cells #[Value.int IntKind.i64 0] 24)).alloc (Obj.cells #[Value.slice none 0 0] 22)) 9 (Value.string s0)
    rw [World.size_alloc, World.size_alloc, World.size_alloc, World.size_alloc, hm] at this
    rw [← hW0]; exact this
  have I0 : RdI m w [] W0 := ⟨⟨_, B3, World.ownsRow_nil _ _ _ _⟩, B0, B1, B2, ⟨_, B4⟩, by simp, hb0⟩
  clear hW0
  have hmw : m ≤ w.heap.size := by omega
  refine wpIn_rangeFunc_ownW rfl (by omega) (gf := 33) (lb := #[.pointer (some ⟨m + 4, 0, none⟩)]) rfl trivial (enters_of Tryz.func33 (by kernel_rfl) rfl) (Bs := m + 4) (by omega)
    (lines_stops hL hlen hlt hmw hG hb0 B4 (by omega) _ (by omega)) (fun h k => ⟨h.1.trans k.1, k.2.trans h.2⟩) (fun W l o o' hl ho hc hw => ⟨belowK_b (w := W0) (by omega) W l o o' hl ho hc hw, World.putObj_heap_other (by omega)⟩) (Below.refl _ _) (fun _ => rfl)
    (RdI m w) (fun c pre W => c = .ret ∧ RdX m w pre W)
    (fun s A B row hs hg hr => hs.grow hmw hg (fun r e => ⟨by have := (hr r e).1; omega, (hr r e).2⟩)) (fun s A v hs => hs.set v)
    (fun c s A B row hs hg hr => ⟨hs.1, hs.2.grow hmw hg (fun r e => ⟨by have := (hr r e).1; omega, (hr r e).2⟩)⟩) I0
    (fun x => { tmps := #[.string s0, undef, .pointer (some ⟨m, 0, none⟩), .pointer (some ⟨m + 1, 0, none⟩), .pointer (some ⟨m + 2, 0, none⟩), .pointer (some ⟨m + 3, 0, none⟩), .int .i64 x.1.1, .string x.1.2, undef, undef, .string s0, .func (.func 33) #[] #[.pointer (some ⟨m + 4, 0, none⟩)], .int .i64 x.1.1, .string x.1.2, undef, undef, undef, undef, undef, undef, undef, undef, undef, undef, undef, undef, undef, undef, undef, undef, undef], defers := [] }) ?assign ?body ?done ?stop
  case assign =>
    intro l x W K hK
    unfold encRdL
    gi_wp2
    exact hK
  case body =>
    intro l pre x W hI hpl
    have kc := parse_calls (pv_u x) hlt hmw hG hI.below
    obtain ⟨p, hp⟩ : ∃ p, pvL x = p := ⟨_, rfl⟩
    rw [hp] at kc
    obtain ⟨⟨c1, c2, c3, c4, c5⟩, e⟩ := p
    have hWz := hI.below.size
    have hWb : m + 4 < W.heap.size := by obtain ⟨u, hu⟩ := hI.bs; exact hu.lt
    by_cases he : e = 0
    · subst he
      gi_wp2_with (first
        | (refine ⟨trivial, ?_⟩; gi_at_call 11; refine (CallsIn.inRound l (callsIn_wide.2 kc)).mono ?_; rintro e w2 ⟨rfl, hb2⟩
           have hI3 := (hI.grow hmw (belowGrow hb2) (fun r e => by cases e)).alloc hmw (.cells #[.int .u8 c1, .int .u8 c2, .int .u8 c3, .int .u8 c4] 37)
           obtain ⟨v, hv, hrow⟩ := hI3.out
           have hc := hv.cell)
        | (gi_at_builtin
           refine wpListIn_append_own _ rfl _ _ 22 rfl m 37 i0 (.agg #[.int .u8 0, .int .u8 0, .int .u8 0, .int .u8 0]) 4 4 Tryz.underlying22 hi hz0 hz1 hz2 (by kernel_rfl) (by decide) _ _ _ rfl (hrow.alloc _) ⟨_, 0, none⟩ 1 1 [.int .u8 c1, .int .u8 c2, .int .u8 c3, .int .u8 c4] rfl rfl (cell_four (by simp)) (by simp [Value.oneCell']) (by have := gotL_len pre; simp [maxLen]; omega) (by have := gotL_len pre; omega) (by have := hI3.below.size; simp at this ⊢; omega) ?_
           intro v' w1 hown' hgrow _
           obtain ⟨g', cap', rfl⟩ := ownsRow_succ hown'
           obtain ⟨hv1, hI4, hk4, hb4, hbs4⟩ := hI3.push (x := x) (by rw [hp]) hmw hv hrow (by rw [hp]; exact hown') hgrow
           have hc1 := hv1.cell
           have hf1 := hv1.frozen))
      exact ⟨(KeepsOthers.of_grownBy (belowGrow hb2) (fun j o e => by cases e)).trans ((KeepsOthers.alloc _ _).trans hk4), ⟨(hb2.mono (by omega)).trans (((Below.refl m w2).alloc (by have := hb2.size; omega) _).trans hb4), hbs4.trans ((Below.heap_alloc _ _ _ (by have := hb2.size; omega)).trans (hb2.block _ (by omega)))⟩, hI4⟩
    · have he1 : (e == 0) = false := by simpa using he
      by_cases hf : e = 11
      · subst hf
        gi_wp2_with (refine ⟨trivial, ?_⟩; gi_at_call 11; refine (CallsIn.inRound l (callsIn_wide.2 kc)).mono ?_; rintro e w2 ⟨rfl, hb2⟩)
        have hI3 := (hI.grow hmw (belowGrow hb2) (fun r e => by cases e)).alloc hmw (.cells #[.int .u8 c1, .int .u8 c2, .int .u8 c3, .int .u8 c4] 37)
        exact ⟨(KeepsOthers.of_grownBy (belowGrow hb2) (fun j o e => by cases e)).trans (KeepsOthers.alloc _ _), ⟨(hb2.mono (by omega)).trans ((Below.refl m w2).alloc (by have := hb2.size; omega) _), (Below.heap_alloc _ _ _ (by have := hb2.size; omega)).trans (hb2.block _ (by omega))⟩, hI3.more (by rw [hp])⟩
      · have hf1 : (e == 11) = false := by simpa using hf
        gi_wp2_with (refine ⟨trivial, ?_⟩; gi_at_call 11; refine (CallsIn.inRound l (callsIn_wide.2 kc)).mono ?_; rintro e w2 ⟨rfl, hb2⟩
                     have hI3 := (hI.grow hmw (belowGrow hb2) (fun r e => by cases e)).alloc hmw (.cells #[.int .u8 c1, .int .u8 c2, .int .u8 c3, .int .u8 c4] 37)
                     have y2 := hI3.b2.cell
                     have y3 := hI3.b3.cell
                     have y4 := hI3.b4.cell
                     have z2 := hI3.b2.frozen
                     have z3 := hI3.b3.frozen
                     have z4 := hI3.b4.frozen)
        refine ⟨(KeepsOthers.of_grownBy (belowGrow hb2) (fun j o e => by cases e)).trans ((KeepsOthers.alloc _ _).trans ((KeepsOthers.setCell _ _ _).trans ((KeepsOthers.setCell _ _ _).trans (KeepsOthers.setCell _ _ _)))), rfl, ⟨⟨pre, x, rfl, hI.ok, by rw [hp]; exact he, by rw [hp]; exact hf, ?_, ?_⟩, ?_, ?_⟩⟩
        · exact ((hI3.b3.other (by omega) _).set _).other (by omega) _
        · rw [hp]; exact ((hI3.b4.other (by omega) _).other (by omega) _).set _
        · exact ((hI3.b2.set _).other (by omega) _).other (by omega) _
        · exact ((hI3.below.setCell (p := ⟨m, 0, none⟩) (by simp) _).setCell (p := ⟨m + 1, 0, none⟩) (by simp) _).setCell (p := ⟨m + 2, 0, none⟩) (by simp) _
  case done =>
    rintro D xs W hD rfl hI hK
    obtain ⟨v, hv, hrow⟩ := hI.out
    obtain ⟨A, cap, rfl⟩ : ∃ A cap, v = .slice A (gotL xs).length cap := by
      rcases hrow.2 with ⟨h1, h2⟩ | ⟨g, cap, _, h1, _⟩
      · exact ⟨none, 0, by rw [h1, h2]⟩
      · exact ⟨_, _, h1⟩
    have y1 := hv.cell
    have y2 := hI.b2.cell
    have y3 := hI.b3.cell
    have y4 := hI.b4.cell
    have z2 := hI.b2.frozen
    have z3 := hI.b3.frozen
    have z4 := hI.b4.frozen
    gi_wp2
    obtain ⟨W5, hW5⟩ : ∃ W5, ((W.setCell ⟨m, 0, none⟩ (.slice A (gotL xs).length cap)).setCell ⟨m + 1, 0, none⟩ (.int .i64 0)).setCell ⟨m + 2, 0, none⟩ (.int .i64 0) = W5 := ⟨_, rfl⟩
    rw [hW5]
    have hK5 : W5.heap[D]? = some (.deferred (some [])) := by rw [← hW5]; exact ((KeepsOthers.setCell _ _ _).trans ((KeepsOthers.setCell _ _ _).trans (KeepsOthers.setCell _ _ _))).same D _ hK rfl
    have x2 : Boxed W5 m 22 (.slice A (gotL xs).length cap) := by rw [← hW5]; exact ((hI.b2.set _).other (by omega) _).other (by omega) _
    have x3 : Boxed W5 (m + 1) 3 (.int .i64 0) := by rw [← hW5]; exact ((hI.b3.other (by omega) _).set _).other (by omega) _
    have x4 : Boxed W5 (m + 2) 24 (.int .i64 0) := by rw [← hW5]; exact ((hI.b4.other (by omega) _).other (by omega) _).set _
    have bl5 : Below m w W5 := by rw [← hW5]; exact ((hI.below.setCell (p := ⟨m, 0, none⟩) (by simp) _).setCell (p := ⟨m + 1, 0, none⟩) (by simp) _).setCell (p := ⟨m + 2, 0, none⟩) (by simp) _
    have r5 : W5.ownsRow m 37 4 (.slice A (gotL xs).length cap) (gotL xs).length ((gotL xs).flatMap celI) := by
      rw [← hW5]
      have q2 := hI.b2.not_row (by decide) hrow
      have q3 := hI.b3.not_row (by decide) hrow
      have q4 := hI.b4.not_row (by decide) hrow
      exact ((hrow.kept (grownBy_setCell' _ _ _) (.inr q2.symm)).kept (grownBy_setCell' _ _ _) (.inr q3.symm)).kept (grownBy_setCell' _ _ _) (.inr q4.symm)
    clear hW5
    refine ⟨by simp, .inl ⟨_, _, rfl, run_takeDeferred hK5, ?_⟩⟩
    have g5 := grownBy_putObj' W5 D (.deferred none)
    have hD' : m + 5 ≤ D := by omega
    have c2 := (x2.kept g5 (by simp; omega)).cell
    have c3 := (x3.kept g5 (by simp; omega)).cell
    have c4 := (x4.kept g5 (by simp; omega)).cell
    refine ⟨.tuple #[.slice A (gotL xs).length cap, .int .i64 0, .int .i64 0], ?_, _, _, _, rfl, by rw [hm]; exact bl5.trans (belowK_b (w := W0) (by omega) W5 D _ _ (by omega) hK5 rfl rfl), .inl ⟨hI.ok, by rw [hm]; exact ownsRow_putObj r5 _ hK5 rfl, rfl, rfl⟩⟩
    simp [results, Tryz.f7, go_sem, c2, c3, c4]
  case stop =>
    rintro D c pre W hD hpre ⟨rfl, hX⟩ hK
    gi_wp2
    refine ⟨by simp, .inl ⟨_, _, rfl, run_takeDeferred hK, ?_⟩⟩
    obtain ⟨p, x, h1, h2, h3, h4, x3, x4⟩ := hX.at_
    have g5 := grownBy_putObj' W D (.deferred none)
    have hD' : m + 5 ≤ D := by omega
    have c2 := (hX.b2.kept g5 (by simp; omega)).cell
    have c3 := (x3.kept g5 (by simp; omega)).cell
    have c4 := (x4.kept g5 (by simp; omega)).cell
    obtain ⟨r, hr⟩ := hpre
    refine ⟨.tuple #[.slice none 0 0, .int .i64 x.1.1, .int .i64 (pvL x).2], ?_, _, _, _, rfl, by rw [hm]; exact hX.below.trans (belowK_b (w := W0) (by omega) W D _ _ (by omega) hK rfl rfl), .inr ⟨rfl, p, x, r, by rw [← hr, h1]; simp, h2, h3, h4, rfl, rfl⟩⟩
    simp [results, Tryz.f7, go_sem, c2, c3, c4]

/-- The lines, one by one: an instruction, nothing, or an end. -/
def readU : List (Int × ByteArray) → List T_s36 → Option (List T_s36 × Int × Int)
  | [], out => some (out, 0, 0)
  | x :: r, out => (asm_Parse.u x.2).bind fun p => bif p.2 == 0 then readU r (out ++ [p.1]) else bif p.2 == 11 then readU r out else some ([], x.1, p.2)
def asm_Read.u (s : ByteArray) : Option (List T_s36 × Int × Int) :=
  (linesU (s.size + 1) s 1).bind fun l => bif decide (l.length ≤ 4294967296) then (bif l.all (fun x => (asm_Parse.u x.2).isSome) then readU l [] else none) else none

theorem lnsL : ∀ l : List (Int × ByteArray), l.all (fun x => (asm_Parse.u x.2).isSome) = true → ∃ L : List RdL, L.map (·.1) = l
  | [], _ => ⟨[], rfl⟩
  | x :: r, h => by
    rw [List.all_cons, Bool.and_eq_true] at h
    obtain ⟨L, hL⟩ := lnsL r h.2
    exact ⟨⟨x, h.1⟩ :: L, by simp [hL]⟩
theorem readU_all : ∀ (L : List RdL) (out : List T_s36), (∀ x ∈ L, (pvL x).2 = 0 ∨ (pvL x).2 = 11) → readU (L.map (·.1)) out = some (out ++ gotL L, 0, 0)
  | [], out, _ => by simp [readU, gotL]
  | x :: r, out, h => by
    have ih := fun o => readU_all r o (fun y hy => h y (List.mem_cons_of_mem _ hy))
    have hx := h x (List.mem_cons_self ..)
    show (asm_Parse.u x.1.2).bind _ = _
    rw [pv_u x, Option.bind_some]
    by_cases h0 : (pvL x).2 = 0
    · rw [h0, show ((0 : Int) == 0) = true from rfl, cond_true, ih]; simp [gotL, h0]
    · have h11 := hx.resolve_left h0
      rw [h11, show ((11 : Int) == 0) = false from rfl, cond_false, show ((11 : Int) == 11) = true from rfl, cond_true, ih]; simp [gotL, h11]
theorem readU_at : ∀ (pre : List RdL) (x : RdL) (r : List RdL) (out : List T_s36), (∀ x ∈ pre, (pvL x).2 = 0 ∨ (pvL x).2 = 11) → (pvL x).2 ≠ 0 → (pvL x).2 ≠ 11 → readU ((pre ++ x :: r).map (·.1)) out = some ([], x.1.1, (pvL x).2)
  | [], x, r, out, _, h1, h2 => by
    show (asm_Parse.u x.1.2).bind _ = _
    rw [pv_u x, Option.bind_some, beq_eq_false_iff_ne.2 h1, cond_false, beq_eq_false_iff_ne.2 h2, cond_false]
  | y :: p, x, r, out, h, h1, h2 => by
    have ih := fun o => readU_at p x r o (fun y hy => h y (List.mem_cons_of_mem _ hy)) h1 h2
    have hy := h y (List.mem_cons_self ..)
    show (asm_Parse.u y.1.2).bind _ = _
    rw [pv_u y, Option.bind_some]
    by_cases h0 : (pvL y).2 = 0
    · rw [h0, show ((0 : Int) == 0) = true from rfl, cond_true]; exact ih _
    · have h11 := hy.resolve_left h0
      rw [h11, show ((11 : Int) == 0) = false from rfl, cond_false, show ((11 : Int) == 11) = true from rfl, cond_true]; exact ih _
theorem repL_I {w : World} {S : Nat → Nat → Prop} : ∀ l : List T_s36, RepL (RepC w S E_s36) l (l.flatMap celI)
  | [] => rfl
  | x :: l => ⟨celI x, l.flatMap celI, by simp, ⟨_, _, rfl, rfl, _, _, rfl, rfl, _, _, rfl, rfl, _, _, rfl, rfl, rfl⟩, repL_I l⟩

theorem asm_Read.c (s : ByteArray) (r : List T_s36 × Int × Int) (h : asm_Read.u s = some r) : Contract CKMP 7 [.v .str s] (tupAV (.slice E_s36) [.int .i64, .int .i64] r) where
  enters us w := enters_fn (P := Tryz.prog) (fn := Tryz.f7) (by kernel_rfl) (by kernel_rfl) (by kernel_rfl) us w
  runs w S us hlt hG hr := by
    simp only [RepAs] at hr
    obtain ⟨u, q, rfl, h1, rfl⟩ := hr
    obtain rfl := rep_str.1 h1
    unfold asm_Read.u at h
    obtain ⟨l, hl, h⟩ := Option.bind_eq_some_iff.1 h
    obtain ⟨h2, h⟩ := ite_some h
    obtain ⟨h3, h⟩ := ite_some h
    have h2 := of_decide_eq_true h2
    obtain ⟨L, rfl⟩ := lnsL l h3
    rw [List.length_map] at h2
    refine (read_walk hl h2 hlt hG).mono ?_
    rintro e w' ⟨v, no, er, rfl, hb, hcase⟩
    have hbs : Safe S (fun b o => S b o ∨ (w.heap.size ≤ b ∧ b < w'.heap.size)) w w' := ⟨fun b o h => .inl h, fun b o h => hb.cell (p := ⟨b, o, none⟩) (hlt b o h)⟩
    refine ⟨_, fun b o => S b o ∨ (w.heap.size ≤ b ∧ b < w'.heap.size), rfl, hb, hbs, fun b o h => ?_, ?_⟩
    · rcases h with h | h
      · exact ⟨.inl h, by have := hlt b o h; have := hb.size; omega⟩
      · exact ⟨.inr h.1, h.2⟩
    rcases hcase with ⟨hok, hrow, rfl, rfl⟩ | ⟨rfl, pre, x, t, rfl, hok, ha, hb', rfl, rfl⟩
    · rw [readU_all L [] hok] at h
      cases h
      simp only [tupAV, tupAVs, RepA, RepAs]
      refine ⟨[v, .int .i64 0, .int .i64 0], rfl, v, _, rfl, ?_, _, _, rfl, ⟨_, rfl, rfl⟩, _, _, rfl, ⟨_, rfl, rfl⟩, rfl⟩
      rw [List.nil_append]
      rcases hrow.2 with ⟨rfl, h0⟩ | ⟨g, cap, cur, rfl, hg, hgb, hcap, _, hsz, htk⟩
      · have e0 : gotL L = [] := List.length_eq_zero_iff.1 h0
        rw [e0]
        exact ⟨[.slice none 0 0], ⟨none, 0, rfl, Nat.le_refl _, .inl rfl⟩, rfl⟩
      · refine ⟨[.slice (some ⟨g, 0, none⟩) (gotL L).length cap], ⟨some ⟨g, 0, none⟩, cap, rfl, hcap, .inr ⟨g, 0, (gotL L).flatMap celI, rfl, repL_I _, fun j hj => ⟨?_, .inr ⟨hg, (Array.getElem?_eq_some_iff.1 hgb).1⟩⟩⟩⟩, rfl⟩
        rw [Nat.zero_add, Lib.cell_of_heap hgb, ← Array.getElem?_toList]
        have hj2 : j < (gotL L).length * 4 := by rw [← hrow.1]; exact hj
        have e1 : (cur.toList.take ((gotL L).length * 4))[j]? = cur.toList[j]? := List.getElem?_take_of_lt hj2
        rw [← e1, htk, List.getElem?_eq_getElem hj]
    · rw [readU_at pre x t [] hok ha hb'] at h
      cases h
      simp only [tupAV, tupAVs, RepA, RepAs]
      exact ⟨[.slice none 0 0, .int .i64 x.1.1, .int .i64 (pvL x).2], rfl, _, _, rfl, ⟨[.slice none 0 0], ⟨none, 0, rfl, Nat.le_refl _, .inl rfl⟩, rfl⟩, _, _, rfl, ⟨_, rfl, rfl⟩, _, _, rfl, ⟨_, rfl, rfl⟩, rfl⟩

noncomputable def asm_Read.n : En CKMP := En.of (e := argI .str fun x0 => endU (asm_Read.u x0) (tupAV (.slice E_s36) [.int .i64, .int .i64])) (entA_ok (argI_ok fun x0 => endU_ok fun r h => asm_Read.c x0 r h))
end Go.Proofs.YtmmooplcdkmapaaGreatDoor.K

/- prog.Reach -/
import Derived.Test.YthamolhikhcilaaDoorZ12
import Derived.Tactics
import Derived.Tactics2
import Derived.StillTactics
import Derived.Lib.OthersKept
import Derived.FnLit
import Derived.LoopTactic
set_option maxRecDepth 1000000
set_option linter.unusedVariables false
namespace Go.Proofs.YthamolhikhcilaaDoor.K
open Go Go.RowKit

/-- The places that are gone through from a place on: so many steps deep at most. -/
def comeU (l : List T_s50) : Nat → List Bool → Int → Option (List Bool)
  | 0, _, _ => none
  | k + 1, ws, at_ => bif at_ == (l.length : Int) then some ws else bif idxOK at_ ws.length then
      (bif ws.getD at_.toNat false then some ws else (prog_next.u l at_).bind fun r => bif decide (r.length ≤ 4294967296) then r.foldlM (comeU l k) (ws.set at_.toNat true) else none) else none

/-- What the walk leans on. -/
structure Rch (B bl bw bc g : Nat) (Al : Option Addr) (cl : Nat) (F : Value) (l : List T_s50) (ws : List Bool) (w : World) (S : Nat → Nat → Prop) : Prop where
  cl_ : w.cell? ⟨bl, 0, none⟩ = some (.slice Al l.length cl)
  cw : w.cell? ⟨bw, 0, none⟩ = some (.slice (some ⟨g, 0, none⟩) ws.length ws.length)
  cc : w.cell? ⟨bc, 0, none⟩ = some F
  hg : w.heap[g]? = some (.cells (ws.map Value.bool).toArray 4 (0, 0))
  lt : bl < w.heap.size ∧ bw < w.heap.size ∧ bc < w.heap.size
  ne : g ≠ bl ∧ g ≠ bw ∧ g ≠ bc
  base : B ≤ g ∧ B ≤ w.heap.size
  glob : GlobOK CK B w S
  prot : ∀ b o, S b o → b < w.heap.size ∧ b ≠ g
  rep : RepA m0 [] w S (.v (.slice E_s50) l) (.slice Al l.length cl)

section
variable {B bl bw bc g : Nat} {Al : Option Addr} {cl : Nat} {F : Value} {l : List T_s50} {ws ws' : List Bool} {w w' : World} {S S' : Nat → Nat → Prop}

theorem Rch.safe (h : Rch B bl bw bc g Al cl F l ws w S) (ht : Turned [g] w w') : Safe S S w w' :=
  ⟨fun _ _ h => h, fun b o hs => World.cell?_of_block (a := ⟨b, o, none⟩) (ht.block b (h.prot b o hs).1 (by simpa using (h.prot b o hs).2))⟩
theorem Rch.turn (h : Rch B bl bw bc g Al cl F l ws w S) (ht : Turned [g] w w') (hl : ws'.length = ws.length) (hg : w'.heap[g]? = some (.cells (ws'.map Value.bool).toArray 4 (0, 0))) : Rch B bl bw bc g Al cl F l ws' w' S := by
  have kp : ∀ b, b < w.heap.size → g ≠ b → w'.cell? ⟨b, 0, none⟩ = w.cell? ⟨b, 0, none⟩ := fun b hb hne => World.cell?_of_block (a := ⟨b, 0, none⟩) (ht.block b hb (by simpa using fun e => hne e.symm))
  have hsz := ht.size
  have hlt := h.lt
  have hbs := h.base
  refine ⟨by rw [kp _ h.lt.1 h.ne.1]; exact h.cl_, by rw [kp _ h.lt.2.1 h.ne.2.1, hl]; exact h.cw, by rw [kp _ h.lt.2.2 h.ne.2.2]; exact h.cc, hg, ⟨by omega, by omega, by omega⟩, h.ne, ⟨h.base.1, by omega⟩, ?_, fun b o hs => ⟨by have := (h.prot b o hs).1; omega, (h.prot b o hs).2⟩, ?_⟩
  · exact h.glob.go (h.safe ht) ⟨ht.os, ht.tape, ht.output, hsz, fun k hk => ht.block k (by omega) (by simp; omega)⟩
  · exact (RepA.go (h.safe ht) (Ext.refl (fun _ => false) m0 []) (by simp [AV.ids]) h.rep)
/-- Behind a call that turns nothing of what was there. -/
theorem Rch.below (h : Rch B bl bw bc g Al cl F l ws w S) (hb : Below w.heap.size w w') (hs : Safe S S' w w') (hn : ∀ b o, S' b o → (S b o ∨ w.heap.size ≤ b) ∧ b < w'.heap.size) : Rch B bl bw bc g Al cl F l ws w' S' := by
  have hglt : g < w.heap.size := (Array.getElem?_eq_some_iff.1 h.hg).1
  have kp : ∀ b, b < w.heap.size → w'.cell? ⟨b, 0, none⟩ = w.cell? ⟨b, 0, none⟩ := fun b hb' => World.cell?_of_block (a := ⟨b, 0, none⟩) (hb.block b hb')
  have hsz := hb.size
  have hlt := h.lt
  have hbs := h.base
  refine ⟨by rw [kp _ h.lt.1]; exact h.cl_, by rw [kp _ h.lt.2.1]; exact h.cw, by rw [kp _ h.lt.2.2]; exact h.cc, by rw [hb.block g hglt]; exact h.hg, ⟨by omega, by omega, by omega⟩, h.ne, ⟨h.base.1, by omega⟩, ?_, fun b o hs' => ⟨(hn b o hs').2, ?_⟩, ?_⟩
  · exact h.glob.go hs ⟨hb.os, hb.tape, hb.output, hsz, fun k hk => hb.block k (by omega)⟩
  · rcases (hn b o hs').1 with h1 | h1
    · exact (h.prot b o h1).2
    · omega
  · exact (RepA.go hs (Ext.refl (fun _ => false) m0 []) (by simp [AV.ids]) h.rep)

theorem _root_.Go.Proofs.YthamolhikhcilaaDoor.K.Turned.trans {bs : List Nat} {a b c : World} (h : Turned bs a b) (k : Turned bs b c) : Turned bs a c :=
  ⟨k.os.trans h.os, k.tape.trans h.tape, k.output.trans h.output, Nat.le_trans h.size k.size, fun i hi hb => (k.block i (Nat.lt_of_lt_of_le hi h.size) hb).trans (h.block i hi hb)⟩

/-- The closure, from a place on. -/
theorem come_walk : ∀ (k : Nat) (ws : List Bool) (at_ : Int) (ws' : List Bool), comeU l k ws at_ = some ws' → ∀ (w : World) (S : Nat → Nat → Prop), F = .func (.func 42) #[] #[.pointer (some ⟨bl, 0, none⟩), .pointer (some ⟨bw, 0, none⟩), .pointer (some ⟨bc, 0, none⟩)] →
    Rch B bl bw bc g Al cl F l ws w S → Calls Tryd.prog 42 #[.int .i64 at_, .pointer (some ⟨bl, 0, none⟩), .pointer (some ⟨bw, 0, none⟩), .pointer (some ⟨bc, 0, none⟩)] w fun e w' => e = .returned (.tuple #[]) ∧ Turned [g] w w' ∧ ws'.length = ws.length ∧ w'.heap[g]? = some (.cells (ws'.map Value.bool).toArray 4 (0, 0))
  | 0, ws, at_, ws', h, w, S, hF, hR => by cases h
  | k + 1, ws, at_, ws', h, w, S, hF, hR => by
    have ih := fun vs x vs' h w' S' => come_walk k vs x vs' h w' S' hF
    unfold comeU at h
    subst hF
    have c1 := hR.cl_
    have c2 := hR.cw
    have c3 := hR.cc
    go_enter Tryd.func42, Tryd.ntmps42
    cases h1 : (at_ == (l.length : Int)) with
    | true =>
      rw [h1] at h
      cases h
      have e1 : at_ = (l.length : Int) := by simpa using h1
      subst e1
      go_wp2
      refine bodyPost_ret_by (results_none rfl _ _ _) rfl ?_
      exact ⟨rfl, ⟨rfl, rfl, rfl, Nat.le_refl _, fun _ _ _ => rfl⟩, hR.hg⟩
    | false =>
      rw [h1, cond_false] at h
      obtain ⟨h2, h⟩ := ite_some h
      obtain ⟨b1, b2⟩ := idxOK_iff.1 h2
      obtain ⟨i, rfl⟩ := Int.eq_ofNat_of_zero_le b1
      have e1 : ¬ ((i : Int) = (l.length : Int)) := by simpa using h1
      have hi : i < ws.length := by omega
      have cg : w.cell? ⟨g, i, none⟩ = some (.bool ws[i]) := by rw [Lib.cell_of_heap hR.hg]; simp [hi]
      have hget : ws.getD (Int.toNat (i : Int)) false = ws[i] := by simp [List.getD_eq_getElem?_getD, hi]
      rw [hget] at h
      cases h3 : ws[i] with
      | true =>
        rw [h3, cond_true] at h
        cases h
        rw [h3] at cg
        go_wp2
        refine bodyPost_ret (results_none rfl _ _ _) rfl ?_
        exact ⟨rfl, ⟨rfl, rfl, rfl, Nat.le_refl _, fun _ _ _ => rfl⟩, hR.hg⟩
      | false =>
        rw [h3, cond_false] at h
        rw [h3] at cg
        cases hn : prog_next.u l (i : Int) with
        | none => rw [hn] at h; cases h
        | some r =>
        rw [hn, Option.bind_some] at h
        obtain ⟨hr, h⟩ := ite_some h
        have hr := of_decide_eq_true hr
        have fg : w.frozen? ⟨g, i, none⟩ = false := Lib.frozen_of_heap hR.hg i
        have hsz : (w.setCell ⟨g, i, none⟩ (.bool true)).heap.size = w.heap.size := World.size_setCell ..
        have ht1 : Turned [g] w (w.setCell ⟨g, i, none⟩ (.bool true)) := ⟨rfl, rfl, rfl, by omega, fun k _ hk => Below.heap_setCell _ _ _ _ (by simpa using hk)⟩
        have hg1 : (w.setCell ⟨g, i, none⟩ (.bool true)).heap[g]? = some (.cells ((ws.set i true).map Value.bool).toArray 4 (0, 0)) := by
          simp [World.setCell, Array.getElem?_modify, hR.hg, List.map_set]
        have hR1 := hR.turn ht1 (ws' := ws.set i true) (by simp) hg1
        clear hsz
        obtain ⟨W, hW⟩ : ∃ W, w.setCell ⟨g, i, none⟩ (.bool true) = W := ⟨_, rfl⟩
        rw [hW] at ht1 hg1 hR1
        have d1 := hR1.cl_
        have d2 := hR1.cw
        have d3 := hR1.cc
        have e43 := (prog_next.c l (i : Int) r hn).enters
        have k43 : Calls Tryd.prog 43 #[.slice Al l.length cl, .int .i64 i] W (fun e w' => ∃ u S', e = .returned u ∧ Below W.heap.size W w' ∧ Safe S S' W w' ∧ (∀ b o, S' b o → (S b o ∨ W.heap.size ≤ b) ∧ b < w'.heap.size) ∧ RepA m0 [] w' S' (tupAV (.slice (.int .i64)) [] r) u) := (prog_next.c l (i : Int) r hn).runs W S [.slice Al l.length cl, .int .i64 i] (fun b o hs => (hR1.prot b o hs).1) (hR1.glob.mono hR1.base.2) (by simp only [RepAs]; exact ⟨_, _, rfl, hR1.rep, _, _, rfl, rep_int.2 rfl, rfl⟩)
        go_wp2_with (go_at_call 43; refine k43.mono ?_)
        rintro e w2 ⟨u, S2, rfl, hb2, hs2, hn2, hrep2⟩
        have hR2 := hR1.below hb2 hs2 hn2
        obtain ⟨cs2, ⟨A2, cap2, rfl, hcap2, hpr2⟩, rfl⟩ : RepV w2 S2 (.slice (.int .i64)) r u := by simpa only [tupAV, rep_v] using hrep2
        have hvv : valOf (.slice (.int .i64)) [Value.slice A2 (List.length r) cap2] = .slice A2 r.length cap2 := rfl
        rw [hvv]
        clear hrep2
        go_wp2
        have ht2 : Turned [g] W w2 := ⟨hb2.os, hb2.tape, hb2.output, hb2.size, fun k hk _ => hb2.block k hk⟩
        go_loopw [24] (fun v wx => ∃ (j : Nat) (vs : List Bool), v = .int .i64 (j : Int) ∧ j ≤ r.length ∧ (r.drop j).foldlM (comeU l k) vs = some ws' ∧ vs.length = ws.length ∧ Turned [g] w2 wx ∧ Rch B bl bw bc g Al cl _ l vs wx S2) (fun v _ => r.length - (match v with | .int _ n => n.toNat | _ => 0))
        case atStart => exact ⟨0, ws.set i true, rfl, Nat.zero_le _, by rw [List.drop_zero]; exact h, by simp, ⟨rfl, rfl, rfl, Nat.le_refl _, fun _ _ _ => rfl⟩, hR2⟩
        case round =>
          obtain ⟨j, vs, rfl, hj, hf, hvl, htx, hRx⟩ := hrel
          have x1 := hRx.cl_
          have x2 := hRx.cw
          have x3 := hRx.cc
          by_cases hjl : j < r.length
          · have hjz : (j : Int) < (r.length : Int) := by omega
            obtain ⟨b, o, ds, rfl, hds, hcl⟩ := hpr2.resolve_left (by intro e; rw [e] at hjl; simp at hjl)
            have hds := repL_ints_eq hds
            have hdl : j < ds.length := by rw [hds]; simpa using hjl
            have hcx : wr.cell? ⟨b, o + j, none⟩ = some (.int .i64 r[j]) := by
              have hp := hR2.prot b (o + j) (hcl j hdl).2
              have h0 := World.cell?_of_block (a := ⟨b, o + j, none⟩) (htx.block b hp.1 (by simpa using hp.2))
              rw [h0, (hcl j hdl).1]
              simp [hds]
            rw [List.drop_eq_getElem_cons hjl, List.foldlM_cons] at hf
            cases hc : comeU l k vs r[j] with
            | none => rw [hc] at hf; cases hf
            | some ws2 =>
            rw [hc] at hf
            have hf : (r.drop (j + 1)).foldlM (comeU l k) ws2 = some ws' := hf
            have kk := ih vs r[j] ws2 hc wr S2 hRx
            have e42 : ∀ (us : Array Value) (w : World), (callFunc 42 us).run Tryd.prog w = .ok (.enter 42 us) w := fun us w => enters_fn (P := Tryd.prog) (fn := Tryd.f42) (by kernel_rfl) (by kernel_rfl) (by kernel_rfl) us w
            go_wp2_with (go_at_call 42; refine kk.mono ?_)
            rintro e w3 ⟨rfl, ht3, hl3, hg3⟩
            have hR3 := hRx.turn ht3 hl3 hg3
            go_wp2
            go_roundw
            case rel => exact ⟨j + 1, ws2, by congr 1, hjl, hf, by omega, htx.trans ht3, hR3⟩
            case measure => simp; omega
          · have hj2 : j = r.length := by omega
            subst hj2
            rw [List.drop_length] at hf
            cases hf
            go_wp2
            refine bodyPost_end (results_none rfl _ _ _) rfl ?_
            exact ⟨rfl, ht1.trans (ht2.trans htx), hvl, hRx.hg⟩
end

theorem repL_bools {w : World} {S : Nat → Nat → Prop} : ∀ l : List Bool, RepL (RepC w S .bool) l (l.map Value.bool)
  | [] => rfl
  | x :: l => ⟨[.bool x], _, rfl, rfl, repL_bools l⟩

/-- prog.Reach -/
def prog_Reach.u (l : List T_s50) : Option (List Bool) := (prog_fine.u l).bind fun b => bif !b then some [] else bif decide (l.length ≤ 65536) then comeU l 70 (List.replicate l.length false) 0 else none

theorem prog_Reach.c (l : List T_s50) (r : List Bool) (h : prog_Reach.u l = some r) : Contract CK 17 [.v (.slice E_s50) l] (tupAV (.slice .bool) [] r) where
  enters us w := enters_fn (P := Tryd.prog) (fn := Tryd.f17) (by kernel_rfl) (by kernel_rfl) (by kernel_rfl) us w
  runs w S us hlt hG hr := by
    simp only [RepAs] at hr
    obtain ⟨u, q, rfl, h1, rfl⟩ := hr
    have h1' := h1
    rw [rep_v] at h1
    obtain ⟨cs, ⟨A, cap, rfl, hcap, hp⟩, rfl⟩ := h1
    have hvv : valOf (.slice E_s50) [Value.slice A (List.length l) cap] = .slice A l.length cap := rfl
    rw [hvv] at h1' ⊢
    clear hvv
    unfold prog_Reach.u at h
    cases hf : prog_fine.u l with
    | none => rw [hf] at h; cases h
    | some b =>
    rw [hf, Option.bind_some] at h
    obtain ⟨V, hV⟩ : ∃ V, w.alloc (.cells #[.slice A l.length cap] 22) = V := ⟨_, rfl⟩
    have hVb : Below w.heap.size w V := hV ▸ (Below.refl _ w).alloc (Nat.le_refl _) _
    have hVs : Safe S S w V := safe_of_below hlt hVb
    have hVz : V.heap.size = w.heap.size + 1 := by rw [← hV]; simp
    have v0 : V.cell? ⟨w.heap.size, 0, none⟩ = some (.slice A l.length cap) := by rw [← hV]; simp
    have e35 := (prog_fine.c l b hf).enters
    have k35 : Calls Tryd.prog 35 #[.slice A l.length cap] V (fun e w' => ∃ u S', e = .returned u ∧ Below V.heap.size V w' ∧ Safe S S' V w' ∧ (∀ b o, S' b o → (S b o ∨ V.heap.size ≤ b) ∧ b < w'.heap.size) ∧ RepA m0 [] w' S' (tupAV .bool [] b) u) :=
      (prog_fine.c l b hf).runs V S [.slice A l.length cap] (fun b o hs => by have := hlt b o hs; omega) ((hG.go hVs hVb).mono (by omega)) (by simp only [RepAs]; exact ⟨_, _, rfl, RepA.go hVs (Ext.refl (fun _ => false) m0 []) (by simp [AV.ids]) h1', rfl⟩)
    show Calls Tryd.prog 17 #[.slice A l.length cap] w _
    go_enter Tryd.func17, Tryd.ntmps17
    go_wp2_with (go_at_call 35; refine k35.mono ?_)
    rintro e w1 ⟨u, S1, rfl, hb1, hs1, hn1, hrep1⟩
    have hu : u = .bool b := by simpa only [tupAV, rep_bool] using hrep1
    subst hu
    have hz1 := hb1.size
    have hbw : Below w.heap.size w w1 := hVb.trans ⟨hb1.os, hb1.tape, hb1.output, hb1.size, fun k hk => hb1.block k (by omega)⟩
    have hsw : Safe S S1 w w1 := hVs.trans hs1
    have v1 : w1.cell? ⟨w.heap.size, 0, none⟩ = some (.slice A l.length cap) := (World.cell?_of_block (a := ⟨w.heap.size, 0, none⟩) (hb1.block w.heap.size (by omega))).trans v0
    cases b with
    | false =>
      cases h
      go_wp2
      go_ret
      refine ⟨_, S1, rfl, hbw, hsw, fun b o hs => ?_, ?_⟩
      · obtain ⟨h2, h3⟩ := hn1 b o hs
        exact ⟨h2.imp id (by omega), h3⟩
      · simp only [tupAV, rep_v]
        exact ⟨[.slice none 0 0], ⟨none, 0, rfl, Nat.le_refl _, .inl rfl⟩, rfl⟩
    | true =>
      obtain ⟨hlen, h⟩ := ite_some (show (bif decide (l.length ≤ 65536) then comeU l 70 (List.replicate l.length false) 0 else none) = some r from h)
      have hlen := of_decide_eq_true hlen
      have hmk : (Instr.makeSlice 38 (.int .i64 (l.length : Int)) (.int .i64 (l.length : Int))).run Tryd.prog w1 = .ok (.slice (some ⟨w1.heap.size, 0, none⟩) l.length l.length) (w1.alloc (.cells ((List.replicate l.length false).map Value.bool).toArray 4)) := by
        obtain ⟨inf, hinf, hsz, hzero⟩ := (C_ok.ty 4 .bool (by kernel_rfl)).size
        have hr := run_make (P := Tryd.prog) w1 38 4 inf _ Tryd.underlying38 hinf hzero .i64 .i64 l.length l.length (by omega) (Int.le_refl _) ?_ (by omega)
        · rw [hr]
          have e1 : (valOf .bool (zc .bool)).cells = [Value.bool false].toArray := rfl
          have e2 := made_eq (c := [Value.bool false]) (k := 1) rfl l.length
          have e3 : madeCells [Value.bool false].toArray (l.length * 1) = ((List.replicate l.length false).map Value.bool).toArray := by
            apply Array.ext'
            rw [e2]
            simp
          rw [e1, hsz]
          show Result.ok _ (w1.alloc (.cells (madeCells [Value.bool false].toArray (Int.toNat (l.length : Int) * 1)) 4)) = _
          rw [Int.toNat_natCast, e3]
        · have : (inf.bytes : Int) ≤ 65536 := by
            have h1 : (Tryd.prog.info? 4).map (·.bytes) = some 1 := by kernel_rfl
            rw [show (Tryd.prog.info? 4) = some inf from hinf] at h1
            simp only [Option.map_some, Option.some.injEq] at h1
            omega
          have h2 : (l.length : Int) ≤ 65536 := by omega
          have := Int.mul_le_mul this h2 (by omega) (by omega)
          omega
      have hms : ((List.replicate l.length false).map Value.bool).length = l.length := by simp
      obtain ⟨Z, hZ⟩ : ∃ Z : List Value, (List.replicate l.length false).map Value.bool = Z := ⟨_, rfl⟩
      rw [hZ] at hmk
      have e42 : ∀ (us : Array Value) (w : World), (callFunc 42 us).run Tryd.prog w = .ok (.enter 42 us) w := fun us w => enters_fn (P := Tryd.prog) (fn := Tryd.f42) (by kernel_rfl) (by kernel_rfl) (by kernel_rfl) us w
      have hZl : Z.length = l.length := by rw [← hZ]; simp
      have hfr : ∀ b o, S1 b o → b < w1.heap.size := fun b o hs => (hn1 b o hs).2
      obtain ⟨W2, hW2⟩ : ∃ W2, (w1.alloc (.cells Z.toArray 4)).alloc (.cells #[.slice (some ⟨w1.heap.size, 0, none⟩) l.length l.length] 38) = W2 := ⟨_, rfl⟩
      have hz2 : W2.heap.size = w1.heap.size + 2 := by rw [← hW2]; simp
      have hst : ∀ Fv : Value, Fv.oneCell' = true → (store ⟨w1.heap.size + 2, 0, none⟩ Fv).run Tryd.prog (W2.alloc (.cells #[.nilFunc] 80)) = .ok () (W2.alloc (.cells #[Fv] 80)) := by
        intro Fv hFv
        have e0 : w1.heap.size + 2 = W2.heap.size := by omega
        rw [run_store _ _ _ _ _ hFv, e0]
        have hh : (W2.alloc (.cells #[.nilFunc] 80)).heap[W2.heap.size]? = some (.cells #[.nilFunc] 80 (0, 0)) := heap_alloc_new W2 _
        have h1 := Lib.cell_of_heap hh 0
        have h2 := Lib.frozen_of_heap hh 0
        rw [h1, h2]
        show Result.ok () ((W2.alloc (.cells #[.nilFunc] 80)).setCell ⟨W2.heap.size, 0, none⟩ Fv) = _
        rw [World.setCell_alloc_new]
        rfl
      have hst := hst _ (show (Value.func (.func 42) #[] #[.pointer (some ⟨w.heap.size, 0, none⟩), .pointer (some ⟨w1.heap.size + 1, 0, none⟩), .pointer (some ⟨w1.heap.size + 2, 0, none⟩)]).oneCell' = true from rfl)
      obtain ⟨W3, hW3⟩ : ∃ W3, W2.alloc (.cells #[Value.func (.func 42) #[] #[.pointer (some ⟨w.heap.size, 0, none⟩), .pointer (some ⟨w1.heap.size + 1, 0, none⟩), .pointer (some ⟨w1.heap.size + 2, 0, none⟩)]] 80) = W3 := ⟨_, rfl⟩
      rw [hW3] at hst
      have hz3 : W3.heap.size = w1.heap.size + 3 := by rw [← hW3]; simp; omega
      have b3 : ∀ k, k < w1.heap.size → W3.heap[k]? = w1.heap[k]? := fun k hk => by
        rw [← hW3, Lib.alloc_old _ _ _ (by omega), ← hW2, Lib.alloc_old _ _ _ (by simp; omega), Lib.alloc_old _ _ _ hk]
      have hb3 : Below w1.heap.size w1 W3 := by
        rw [← hW3, ← hW2]
        exact (((Below.refl _ w1).alloc (Nat.le_refl _) _).alloc (by simp) _).alloc (by simp; omega) _
      have hs3 : Safe S1 S1 w1 W3 := ⟨fun _ _ h => h, fun b o hs => World.cell?_of_block (a := ⟨b, o, none⟩) (b3 b (hfr b o hs))⟩
      have g3 : W3.heap[w1.heap.size]? = some (.cells Z.toArray 4 (0, 0)) := by
        rw [← hW3, Lib.alloc_old _ _ _ (by omega), ← hW2, Lib.alloc_old _ _ _ (by simp)]
        exact heap_alloc_new w1 _
      have g4 : W3.heap[w1.heap.size + 1]? = some (.cells #[.slice (some ⟨w1.heap.size, 0, none⟩) l.length l.length] 38 (0, 0)) := by
        rw [← hW3, Lib.alloc_old _ _ _ (by omega), ← hW2]
        have := heap_alloc_new (w1.alloc (.cells Z.toArray 4)) (.cells #[.slice (some ⟨w1.heap.size, 0, none⟩) l.length l.length] 38)
        simpa using this
      have g5 : W3.heap[w1.heap.size + 2]? = some (.cells #[Value.func (.func 42) #[] #[.pointer (some ⟨w.heap.size, 0, none⟩), .pointer (some ⟨w1.heap.size + 1, 0, none⟩), .pointer (some ⟨w1.heap.size + 2, 0, none⟩)]] 80 (0, 0)) := by
        rw [← hW3, ← hz2]
        exact heap_alloc_new W2 _
      have hwz := hbw.size
      have hR : Rch w.heap.size w.heap.size (w1.heap.size + 1) (w1.heap.size + 2) w1.heap.size A cap (Value.func (.func 42) #[] #[.pointer (some ⟨w.heap.size, 0, none⟩), .pointer (some ⟨w1.heap.size + 1, 0, none⟩), .pointer (some ⟨w1.heap.size + 2, 0, none⟩)]) l (List.replicate l.length false) W3 S1 := by
        refine ⟨?_, ?_, Lib.cell_of_heap g5 0, by rw [hZ]; exact g3, ⟨by omega, by omega, by omega⟩, ⟨by omega, by omega, by omega⟩, ⟨by omega, by omega⟩, ?_, fun b o hs => ?_, ?_⟩
        · exact (World.cell?_of_block (a := ⟨w.heap.size, 0, none⟩) (b3 w.heap.size (by omega))).trans v1
        · rw [Lib.cell_of_heap g4]; simp
        · exact hG.go (hsw.trans hs3) (hbw.trans ⟨hb3.os, hb3.tape, hb3.output, hb3.size, fun k hk => hb3.block k (by omega)⟩)
        · have := hfr b o hs; omega
        · exact RepA.go (hsw.trans hs3) (Ext.refl (fun _ => false) m0 []) (by simp [AV.ids]) h1'
      have kc := come_walk 70 _ 0 r h W3 S1 rfl hR
      have y3 := hR.cc
      go_wp2_with (go_at_call 42; refine kc.mono ?_)
      rintro e w4 ⟨rfl, ht4, hl4, hg4⟩
      have hR4 := hR.turn ht4 hl4 hg4
      have x2 := hR4.cw
      have x3 := hR4.cc
      have hl4 : r.length = l.length := by simpa using hl4
      rw [hl4] at x2
      have hz4 := ht4.size
      clear hst hR
      go_wp2
      go_ret
      have hbb : Below w.heap.size w w4 := by
        refine hbw.trans ⟨ht4.os.trans hb3.os, ht4.tape.trans hb3.tape, ht4.output.trans hb3.output, by omega, fun k hk => ?_⟩
        rw [ht4.block k (by omega) (by simp; omega)]
        exact b3 k (by omega)
      refine ⟨_, fun b o => S1 b o ∨ (b = w1.heap.size ∧ o < r.length), rfl, hbb, ⟨fun b o h => .inl (hsw.sub b o h), fun b o h => ?_⟩, fun b o h => ?_, ?_⟩
      · exact World.cell?_of_block (a := ⟨b, o, none⟩) (hbb.block b (hlt b o h))
      · rcases h with h | ⟨rfl, _⟩
        · exact ⟨(hn1 b o h).1.imp id (by omega), by have := (hn1 b o h).2; omega⟩
        · exact ⟨.inr (by omega), by omega⟩
      · simp only [tupAV, rep_v]
        refine ⟨[.slice (some ⟨w1.heap.size, 0, none⟩) l.length l.length], ⟨some ⟨w1.heap.size, 0, none⟩, l.length, by rw [hl4], Nat.le_of_eq hl4, .inr ⟨w1.heap.size, 0, r.map Value.bool, rfl, ?_, fun j hj => ⟨?_, .inr ⟨rfl, by simpa using hj⟩⟩⟩⟩, rfl⟩
        · exact repL_bools r
        · rw [Lib.cell_of_heap hg4]
          simp at hj
          simp [hj]

noncomputable def prog_Reach.e : Ent := argI (.slice E_s50) fun x0 => endU (prog_Reach.u x0) (tupAV (.slice .bool) [])
theorem prog_Reach.e_ok : EntOK CK 17 (fun {_} => prog_Reach.e) := entA_ok (argI_ok fun x0 => endU_ok fun r h => prog_Reach.c x0 r h)
end Go.Proofs.YthamolhikhcilaaDoor.K

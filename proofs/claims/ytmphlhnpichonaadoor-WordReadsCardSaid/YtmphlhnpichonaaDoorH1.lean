/- The library functions that the words lean on: their contracts, off the shelf. -/
import Derived.Test.YtmphlhnpichonaaDoorX
import Derived.Shelf.Strconv.Itoa3
import Derived.Shelf.Strconv.Atoi
set_option maxRecDepth 100000
set_option linter.unusedVariables false
namespace Go.Proofs.YtmphlhnpichonaaDoor.K
open Go Go.RowKit

def ren171 : Go.Shelf.Ren := ⟨fun | 171 => 78 | 243 => 99 | 246 => 118 | 283 => 135 | 284 => 136 | 285 => 137 | 286 => 138 | 129 => 146 | 317 => 145 | 318 => 147 | 319 => 148 | 320 => 149 | 337 => 152 | 338 => 153 | n => n, fun | 3 => 3 | 9 => 9 | 2 => 2 | 4 => 4 | 171 => 156 | 0 => 0 | 53 => 148 | 37 => 106 | 5 => 5 | 173 => 159 | 212 => 170 | 51 => 171 | 20 => 20 | 213 => 172 | 46 => 151 | 232 => 176 | 233 => 177 | n => n, fun | 17 => 4 | 18 => 5 | 19 => 6 | n => n⟩
theorem lays171 : Go.Proofs.LaysM.n171 Tryd.prog ren171 where
  mixed := by kernel_rfl
  f129 := Tryd.func146.trans (congrArg some (by kernel_rfl))
  f171 := Tryd.func78.trans (congrArg some (by kernel_rfl))
  f243 := Tryd.func99.trans (congrArg some (by kernel_rfl))
  f246 := Tryd.func118.trans (congrArg some (by kernel_rfl))
  f283 := Tryd.func135.trans (congrArg some (by kernel_rfl))
  f284 := Tryd.func136.trans (congrArg some (by kernel_rfl))
  f285 := Tryd.func137.trans (congrArg some (by kernel_rfl))
  f286 := Tryd.func138.trans (congrArg some (by kernel_rfl))
  f317 := Tryd.func145.trans (congrArg some (by kernel_rfl))
  f318 := Tryd.func147.trans (congrArg some (by kernel_rfl))
  f319 := Tryd.func148.trans (congrArg some (by kernel_rfl))
  f320 := Tryd.func149.trans (congrArg some (by kernel_rfl))
  f337 := Tryd.func152.trans (congrArg some (by kernel_rfl))
  f338 := Tryd.func153.trans (congrArg some (by kernel_rfl))
  t0 := Tryd.underlying0
  a0 := Tryd.isAgg0
  z0 := Tryd.sizeOf0
  v0 := Tryd.zeroValue0
  t2 := Tryd.underlying2
  a2 := Tryd.isAgg2
  z2 := Tryd.sizeOf2
  v2 := Tryd.zeroValue2
  t3 := Tryd.underlying3
  a3 := Tryd.isAgg3
  z3 := Tryd.sizeOf3
  v3 := Tryd.zeroValue3
  t4 := Tryd.underlying4
  a4 := Tryd.isAgg4
  z4 := Tryd.sizeOf4
  v4 := Tryd.zeroValue4
  t5 := Tryd.underlying5
  a5 := Tryd.isAgg5
  z5 := Tryd.sizeOf5
  v5 := Tryd.zeroValue5
  t9 := Tryd.underlying9
  a9 := Tryd.isAgg9
  z9 := Tryd.sizeOf9
  v9 := Tryd.zeroValue9
  t20 := Tryd.underlying20
  a20 := Tryd.isAgg20
  z20 := Tryd.sizeOf20
  v20 := Tryd.zeroValue20
  t37 := Tryd.underlying106
  a37 := Tryd.isAgg106
  z37 := Tryd.sizeOf106
  v37 := Tryd.zeroValue106
  t46 := Tryd.underlying151
  a46 := Tryd.isAgg151
  z46 := Tryd.sizeOf151
  v46 := Tryd.zeroValue151
  t51 := Tryd.underlying171
  a51 := Tryd.isAgg171
  z51 := Tryd.sizeOf171
  v51 := Tryd.zeroValue171
  t53 := Tryd.underlying148
  a53 := Tryd.isAgg148
  z53 := Tryd.sizeOf148
  v53 := Tryd.zeroValue148
  t171 := Tryd.underlying156
  a171 := Tryd.isAgg156
  z171 := Tryd.sizeOf156
  v171 := Tryd.zeroValue156
  t173 := Tryd.underlying159
  a173 := Tryd.isAgg159
  z173 := Tryd.sizeOf159
  v173 := Tryd.zeroValue159
  t212 := Tryd.underlying170
  a212 := Tryd.isAgg170
  z212 := Tryd.sizeOf170
  v212 := Tryd.zeroValue170
  t213 := Tryd.underlying172
  a213 := Tryd.isAgg172
  z213 := Tryd.sizeOf172
  t232 := Tryd.underlying176
  a232 := Tryd.isAgg176
  z232 := Tryd.sizeOf176
  v232 := Tryd.zeroValue176
  t233 := Tryd.underlying177
  a233 := Tryd.isAgg177
  z233 := Tryd.sizeOf177
  v233 := Tryd.zeroValue177
  g17 := by kernel_rfl
  g18 := by kernel_rfl
  g19 := by kernel_rfl
  i0 := by kernel_rfl
  i2 := by kernel_rfl
  i3 := by kernel_rfl
  i4 := by kernel_rfl
  i5 := by kernel_rfl
  i9 := by kernel_rfl
  i20 := by kernel_rfl
  i37 := by kernel_rfl
  i46 := by kernel_rfl
  i51 := by kernel_rfl
  i53 := by kernel_rfl
  i171 := by kernel_rfl
  i173 := by kernel_rfl
  i212 := by kernel_rfl
  i232 := by kernel_rfl
  i233 := by kernel_rfl
  m17 := by kernel_rfl
  m18 := by kernel_rfl
  m19 := by kernel_rfl
def ren172 : Go.Shelf.Ren := ⟨fun | 172 => 76 | 244 => 97 | 245 => 98 | 247 => 113 | 279 => 114 | 280 => 115 | 281 => 116 | 282 => 117 | 287 => 132 | 316 => 133 | 171 => 78 | 205 => 134 | 321 => 143 | 322 => 144 | 243 => 99 | 246 => 118 | 283 => 135 | 284 => 136 | 285 => 137 | 286 => 138 | 129 => 146 | 317 => 145 | 318 => 147 | 319 => 148 | 320 => 149 | 337 => 152 | 338 => 153 | n => n, fun | 9 => 9 | 3 => 3 | 75 => 100 | 76 => 101 | 4 => 4 | 5 => 5 | 167 => 134 | 37 => 106 | 0 => 0 | 85 => 135 | 2 => 2 | 168 => 137 | 53 => 148 | 175 => 149 | 46 => 151 | 210 => 154 | 127 => 123 | 145 => 169 | 143 => 167 | 21 => 21 | 171 => 156 | 173 => 159 | 212 => 170 | 51 => 171 | 20 => 20 | 213 => 172 | 232 => 176 | 233 => 177 | 80 => 110 | n => n, fun | 15 => 1 | 16 => 2 | 17 => 4 | 18 => 5 | 19 => 6 | n => n⟩
theorem lays172 : Go.Proofs.Lays.n172 Tryd.prog ren172 where
  mixed := by kernel_rfl
  f129 := Tryd.func146.trans (congrArg some (by kernel_rfl))
  f171 := Tryd.func78.trans (congrArg some (by kernel_rfl))
  f172 := Tryd.func76.trans (congrArg some (by kernel_rfl))
  f205 := Tryd.func134.trans (congrArg some (by kernel_rfl))
  f243 := Tryd.func99.trans (congrArg some (by kernel_rfl))
  f244 := Tryd.func97.trans (congrArg some (by kernel_rfl))
  f245 := Tryd.func98.trans (congrArg some (by kernel_rfl))
  f246 := Tryd.func118.trans (congrArg some (by kernel_rfl))
  f247 := Tryd.func113.trans (congrArg some (by kernel_rfl))
  f279 := Tryd.func114.trans (congrArg some (by kernel_rfl))
  f280 := Tryd.func115.trans (congrArg some (by kernel_rfl))
  f281 := Tryd.func116.trans (congrArg some (by kernel_rfl))
  f282 := Tryd.func117.trans (congrArg some (by kernel_rfl))
  f283 := Tryd.func135.trans (congrArg some (by kernel_rfl))
  f284 := Tryd.func136.trans (congrArg some (by kernel_rfl))
  f285 := Tryd.func137.trans (congrArg some (by kernel_rfl))
  f286 := Tryd.func138.trans (congrArg some (by kernel_rfl))
  f287 := Tryd.func132.trans (congrArg some (by kernel_rfl))
  f316 := Tryd.func133.trans (congrArg some (by kernel_rfl))
  f317 := Tryd.func145.trans (congrArg some (by kernel_rfl))
  f318 := Tryd.func147.trans (congrArg some (by kernel_rfl))
  f319 := Tryd.func148.trans (congrArg some (by kernel_rfl))
  f320 := Tryd.func149.trans (congrArg some (by kernel_rfl))
  f321 := Tryd.func143.trans (congrArg some (by kernel_rfl))
  f322 := Tryd.func144.trans (congrArg some (by kernel_rfl))
  f337 := Tryd.func152.trans (congrArg some (by kernel_rfl))
  f338 := Tryd.func153.trans (congrArg some (by kernel_rfl))
  t0 := Tryd.underlying0
  a0 := Tryd.isAgg0
  z0 := Tryd.sizeOf0
  v0 := Tryd.zeroValue0
  t2 := Tryd.underlying2
  a2 := Tryd.isAgg2
  z2 := Tryd.sizeOf2
  v2 := Tryd.zeroValue2
  t3 := Tryd.underlying3
  a3 := Tryd.isAgg3
  z3 := Tryd.sizeOf3
  v3 := Tryd.zeroValue3
  t4 := Tryd.underlying4
  a4 := Tryd.isAgg4
  z4 := Tryd.sizeOf4
  v4 := Tryd.zeroValue4
  t5 := Tryd.underlying5
  a5 := Tryd.isAgg5
  z5 := Tryd.sizeOf5
  v5 := Tryd.zeroValue5
  t9 := Tryd.underlying9
  a9 := Tryd.isAgg9
  z9 := Tryd.sizeOf9
  v9 := Tryd.zeroValue9
  t20 := Tryd.underlying20
  a20 := Tryd.isAgg20
  z20 := Tryd.sizeOf20
  v20 := Tryd.zeroValue20
  t21 := Tryd.underlying21
  a21 := Tryd.isAgg21
  z21 := Tryd.sizeOf21
  v21 := Tryd.zeroValue21
  t37 := Tryd.underlying106
  a37 := Tryd.isAgg106
  z37 := Tryd.sizeOf106
  v37 := Tryd.zeroValue106
  t46 := Tryd.underlying151
  a46 := Tryd.isAgg151
  z46 := Tryd.sizeOf151
  v46 := Tryd.zeroValue151
  t51 := Tryd.underlying171
  a51 := Tryd.isAgg171
  z51 := Tryd.sizeOf171
  v51 := Tryd.zeroValue171
  t53 := Tryd.underlying148
  a53 := Tryd.isAgg148
  z53 := Tryd.sizeOf148
  v53 := Tryd.zeroValue148
  t75 := Tryd.underlying100
  a75 := Tryd.isAgg100
  z75 := Tryd.sizeOf100
  v75 := Tryd.zeroValue100
  t76 := Tryd.underlying101
  a76 := Tryd.isAgg101
  z76 := Tryd.sizeOf101
  v76 := Tryd.zeroValue101
  t85 := Tryd.underlying135
  a85 := Tryd.isAgg135
  z85 := Tryd.sizeOf135
  v85 := Tryd.zeroValue135
  t127 := Tryd.underlying123
  a127 := Tryd.isAgg123
  z127 := Tryd.sizeOf123
  v127 := Tryd.zeroValue123
  t143 := Tryd.underlying167
  a143 := Tryd.isAgg167
  z143 := Tryd.sizeOf167
  v143 := Tryd.zeroValue167
  t145 := Tryd.underlying169
  a145 := Tryd.isAgg169
  z145 := Tryd.sizeOf169
  v145 := Tryd.zeroValue169
  t167 := Tryd.underlying134
  a167 := Tryd.isAgg134
  z167 := Tryd.sizeOf134
  v167 := Tryd.zeroValue134
  t168 := Tryd.underlying137
  a168 := Tryd.isAgg137
  z168 := Tryd.sizeOf137
  v168 := Tryd.zeroValue137
  t171 := Tryd.underlying156
  a171 := Tryd.isAgg156
  z171 := Tryd.sizeOf156
  v171 := Tryd.zeroValue156
  t173 := Tryd.underlying159
  a173 := Tryd.isAgg159
  z173 := Tryd.sizeOf159
  v173 := Tryd.zeroValue159
  t175 := Tryd.underlying149
  a175 := Tryd.isAgg149
  z175 := Tryd.sizeOf149
  v175 := Tryd.zeroValue149
  t210 := Tryd.underlying154
  a210 := Tryd.isAgg154
  z210 := Tryd.sizeOf154
  v210 := Tryd.zeroValue154
  t212 := Tryd.underlying170
  a212 := Tryd.isAgg170
  z212 := Tryd.sizeOf170
  v212 := Tryd.zeroValue170
  t213 := Tryd.underlying172
  a213 := Tryd.isAgg172
  z213 := Tryd.sizeOf172
  t232 := Tryd.underlying176
  a232 := Tryd.isAgg176
  z232 := Tryd.sizeOf176
  v232 := Tryd.zeroValue176
  t233 := Tryd.underlying177
  a233 := Tryd.isAgg177
  z233 := Tryd.sizeOf177
  v233 := Tryd.zeroValue177
  g15 := by kernel_rfl
  g16 := by kernel_rfl
  g17 := by kernel_rfl
  g18 := by kernel_rfl
  g19 := by kernel_rfl

/-- The powers of ten, and no other table. -/
def pow10 : List Int := [1, 10, 100, 1000, 10000, 100000, 1000000, 10000000, 100000000, 1000000000, 10000000000, 100000000000, 1000000000000, 10000000000000, 100000000000000, 1000000000000000, 10000000000000000, 100000000000000000, 1000000000000000000, 10000000000000000000]
noncomputable def C1 : Cfg := { C with G := fun g => bif g == 4 then some ⟨.arr 20 (.int .u64), pow10⟩ else none }
theorem C1_ok : C1.OK := ⟨C_ok.ty, C_ok.mixed⟩
theorem C_le : C.le C1 := ⟨rfl, fun g d h => by cases h⟩

theorem tab_of {w : World} {S : Nat → Nat → Prop} {B : Nat} (h : GlobOK C1 B w S) : Lib.TabIs Tryd.prog w "internal/strconv.uint64pow10" .u64 Lib.pow10Tab := by
  obtain ⟨_, cs, el, fr, h1, h2, _⟩ := h 4 ⟨.arr 20 (.int .u64), pow10⟩ rfl
  have h3 : cs = pow10.map (Value.int .u64) := repL_ints_eq h2.2
  unfold Lib.TabIs World.var?
  rw [show Tryd.prog.globalNamed "internal/strconv.uint64pow10" = some 4 by kernel_rfl]
  simp only [Option.bind_some, h1, h3]
  rfl

theorem enters_fn {P : Program} {f : FuncId} {fn : Func} (hf : P.funcs[f]? = some fn) (hb : fn.body.isSome = true) (hn : (fn.name == "runtime.NumGoroutine") = false) (us : Array Value) (w : World) : (callFunc f us).run P w = .ok (.enter f us) w := by
  have hpn : (program.run P w : Result Program) = .ok P w := rfl
  have hb' : fn.body.isNone = false := by cases h : fn.body <;> simp [h] at hb ⊢
  simp only [callFunc, Sem.run_bind, hpn, Result.andThen_ok, hf, hn, hb', Bool.false_eq_true, if_false, Sem.run_pure]

theorem below_grow (w : World) (k : Nat) (os : Array Obj) : Below w.heap.size w (Go.Sort.grow (w.drewN k) os) :=
  ⟨rfl, rfl, rfl, by simp [Go.Sort.grow], fun i hi => by simp only [Go.Sort.grow, World.heap_drewN]; exact Array.getElem?_append_left hi⟩

theorem safe_of_below {w w' : World} {S : Nat → Nat → Prop} (hS : ∀ b o, S b o → b < w.heap.size) (h : Below w.heap.size w w') : Safe S S w w' :=
  ⟨fun _ _ h => h, fun b o hs => World.cell?_of_block (a := ⟨b, o, none⟩) (h.block b (hS b o hs))⟩

/-- strconv.Itoa -/
def t78 (n : Int) : ByteArray := ⟨(Lib.itoa n).toArray⟩
def p78 (n : Int) : Bool := decide (-9223372036854775808 ≤ n) && decide (n ≤ 9223372036854775807)
theorem c78 (n : Int) (hp : p78 n = true) : Contract C1 78 [.v (.int .i64) n] (.v .str (t78 n)) where
  enters us w := enters_fn (P := Tryd.prog) (fn := Tryd.f78) (by kernel_rfl) (by kernel_rfl) (by kernel_rfl) us w
  runs w S us hlt hG hr := by
    simp only [RepAs] at hr
    obtain ⟨u, r, rfl, h1, rfl⟩ := hr
    rw [rep_int] at h1
    subst h1
    simp only [p78, Bool.and_eq_true, decide_eq_true_eq] at hp
    refine (Any.strconv_Itoa lays171 n hp.1 hp.2 w (tab_of hG)).mono ?_
    rintro e w' ⟨rfl, k, os, rfl⟩
    have hb := below_grow w k os
    exact ⟨_, S, rfl, hb, safe_of_below hlt hb, fun b o hs => ⟨.inl hs, Nat.lt_of_lt_of_le (hlt b o hs) hb.size⟩, rep_str.2 rfl⟩
noncomputable def e78 : Ent := fun {_} => ent1 (.int .i64) (fun n => p78 n) (fun n => .v .str (t78 n))
theorem e78_ok : EntOK C1 78 (fun {_} => e78) := ent1_ok fun n h => c78 n h

/-- strconv.Atoi, at a numeral of at most eighteen bytes -/
def t76 (s : ByteArray) : Int × Value := ((Lib.atoi s.data.toList).getD 0, .nilIface)
def p76 (s : ByteArray) : Bool := decide (s.size ≤ 18) && (Lib.atoi s.data.toList).isSome
theorem c76 (s : ByteArray) (hp : p76 s = true) : Contract C 76 [.v .str s] (.tup [.v (.int .i64) (t76 s).1, .v .raw (t76 s).2]) where
  enters us w := enters_fn (P := Tryd.prog) (fn := Tryd.f76) (by kernel_rfl) (by kernel_rfl) (by kernel_rfl) us w
  runs w S us hlt hG hr := by
    simp only [RepAs] at hr
    obtain ⟨u, r, rfl, h1, rfl⟩ := hr
    rw [rep_str] at h1
    subst h1
    simp only [p76, Bool.and_eq_true, decide_eq_true_eq, Option.isSome_iff_exists] at hp
    obtain ⟨hl, n, hn⟩ := hp
    refine (Any.strconv_Atoi lays172 s n hl hn w).mono ?_
    rintro e w' ⟨rfl, t, rfl⟩
    have hg := grows_bytes w (ren172.t 5) t
    have hb : Below w.heap.size w (Lib.bytesWorld w (ren172.t 5) t) := hg.below (Nat.le_refl _)
    refine ⟨_, S, rfl, hb, safe_of_below hlt hb, fun b o hs => ⟨.inl hs, Nat.lt_of_lt_of_le (hlt b o hs) hb.size⟩, ?_⟩
    simp only [RepA, RepAs]
    refine ⟨[.int .i64 n, .nilIface], rfl, _, _, rfl, ?_, _, _, rfl, ?_, rfl⟩
    · have : (t76 s).1 = n := by simp [t76, hn]
      rw [this]; exact ⟨[_], rfl, rfl⟩
    · exact ⟨[.nilIface], ⟨rfl, rfl⟩, rfl⟩
noncomputable def e76 : Ent := fun {_} => ent1 .str (fun s => p76 s) (fun s => .tup [.v (.int .i64) (t76 s).1, .v .raw (t76 s).2])
theorem e76_ok : EntOK C 76 (fun {_} => e76) := ent1_ok fun s h => c76 s h
end Go.Proofs.YtmphlhnpichonaaDoor.K

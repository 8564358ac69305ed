/- The tables that may be known, and the library functions that the program leans on, off the shelf. -/
import Derived.Test.YtaednhofihnfkaaDoorX
import Derived.Test.YtaednhofihnfkaaDoorKI
import Derived.Shelf.Strconv.Itoa3
import Derived.Shelf.Strconv.Atoi
import Derived.Shelf.Strings.Search1
import Derived.Shelf.Strings.Split
import Derived.Shelf.SortM.Plain
import Derived.Shelf.SortM.SortNone
import Derived.Shelf.SlicesE.Clone
import Derived.Shelf.SlSortCmp.NoneTotal
import Derived.Shelf.SlicesG.Cmp
set_option maxRecDepth 100000
set_option linter.unusedVariables false
namespace Go.Proofs.YtaednhofihnfkaaDoor.K
open Go Go.RowKit

/-- The powers of ten. -/
def pow10 : List Int := [1, 10, 100, 1000, 10000, 100000, 1000000, 10000000, 100000000, 1000000000, 10000000000, 100000000000, 1000000000000, 10000000000000, 100000000000000, 1000000000000000, 10000000000000000, 100000000000000000, 1000000000000000000, 10000000000000000000]
def orG (f h : Nat → Option Dat) : Nat → Option Dat := fun g => match f g with | some d => some d | none => h g
def gP : Nat → Option Dat := fun g => bif g == 5 then some (⟨.arr 20 (.int .u64), pow10⟩ : Dat) else none
noncomputable def CM : Cfg := { C with M := fun g => g == 0 }
theorem CM_ok : CM.OK := ⟨C_ok.ty, C_ok.mixed, C_ok.ob⟩
noncomputable def CP : Cfg := { C with G := gP }
theorem CP_ok : CP.OK := ⟨C_ok.ty, C_ok.mixed, C_ok.ob⟩
noncomputable def CMP : Cfg := { C with G := gP, M := fun g => g == 0 }
theorem CMP_ok : CMP.OK := ⟨C_ok.ty, C_ok.mixed, C_ok.ob⟩
theorem le_C_CM : C.le CM := ⟨rfl, (fun g d h => by cases h), (fun g h => by cases h)⟩
theorem le_C_CP : C.le CP := ⟨rfl, (fun g d h => by cases h), (fun g h => by cases h)⟩
theorem le_C_CMP : C.le CMP := ⟨rfl, (fun g d h => by cases h), (fun g h => by cases h)⟩
theorem le_CM_CMP : CM.le CMP := ⟨rfl, (fun g d h => by cases h), (fun g h => h)⟩
theorem le_CP_CMP : CP.le CMP := ⟨rfl, (fun g d h => h), (fun g h => by cases h)⟩
theorem enters_fn {P : Program} {f : FuncId} {fn : Func} (hf : P.funcs[f]? = some fn) (hb : fn.body.isSome = true) (hn : (fn.name == "runtime.NumGoroutine") = false) (us : Array Value) (w : World) : (callFunc f us).run P w = .ok (.enter f us) w := by
  have hpn : (program.run P w : Result Program) = .ok P w := rfl
  have hb' : fn.body.isNone = false := by cases h : fn.body <;> simp [h] at hb ⊢
  simp only [callFunc, Sem.run_bind, hpn, Result.andThen_ok, hf, hn, hb', Bool.false_eq_true, if_false, Sem.run_pure]

theorem below_grow (w : World) (k : Nat) (os : Array Obj) : Below w.heap.size w (Go.Sort.grow (w.drewN k) os) :=
  ⟨rfl, rfl, rfl, by simp [Go.Sort.grow], fun i hi => by simp only [Go.Sort.grow, World.heap_drewN]; exact Array.getElem?_append_left hi⟩

theorem safe_of_below {w w' : World} {S : Nat → Nat → Prop} (hS : ∀ b o, S b o → b < w.heap.size) (h : Below w.heap.size w w') : Safe S S w w' :=
  ⟨fun _ _ h => h, fun b o hs => World.cell?_of_block (a := ⟨b, o, none⟩) (h.block b (hS b o hs))⟩

def lays171_ren : Go.Shelf.Ren := ⟨fun | 171 => 74 | 243 => 94 | 246 => 109 | 283 => 119 | 284 => 120 | 285 => 121 | 286 => 122 | 129 => 92 | 317 => 126 | 318 => 127 | 319 => 128 | 320 => 129 | 337 => 132 | 338 => 133 | n => n, fun | 3 => 3 | 9 => 9 | 2 => 2 | 4 => 4 | 171 => 153 | 0 => 0 | 53 => 131 | 37 => 79 | 5 => 5 | 173 => 155 | 212 => 168 | 51 => 129 | 20 => 20 | 213 => 169 | 46 => 114 | 232 => 174 | 233 => 175 | n => n, fun | 17 => 5 | 18 => 6 | 19 => 7 | n => n⟩
theorem lays171 : Go.Proofs.LaysM.n171 Tryd.prog lays171_ren where
  mixed := by kernel_rfl
  f129 := Tryd.func92.trans (congrArg some (by kernel_rfl))
  f171 := Tryd.func74.trans (congrArg some (by kernel_rfl))
  f243 := Tryd.func94.trans (congrArg some (by kernel_rfl))
  f246 := Tryd.func109.trans (congrArg some (by kernel_rfl))
  f283 := Tryd.func119.trans (congrArg some (by kernel_rfl))
  f284 := Tryd.func120.trans (congrArg some (by kernel_rfl))
  f285 := Tryd.func121.trans (congrArg some (by kernel_rfl))
  f286 := Tryd.func122.trans (congrArg some (by kernel_rfl))
  f317 := Tryd.func126.trans (congrArg some (by kernel_rfl))
  f318 := Tryd.func127.trans (congrArg some (by kernel_rfl))
  f319 := Tryd.func128.trans (congrArg some (by kernel_rfl))
  f320 := Tryd.func129.trans (congrArg some (by kernel_rfl))
  f337 := Tryd.func132.trans (congrArg some (by kernel_rfl))
  f338 := Tryd.func133.trans (congrArg some (by kernel_rfl))
  t0 := Tryd.underlying0
  a0 := Tryd.isAgg0
  z0 := Tryd.sizeOf0
  v0 := Tryd.zeroValue0
  t2 := Tryd.underlying2
  a2 := Tryd.isAgg2
  z2 := Tryd.sizeOf2
  v2 := Tryd.zeroValue2
  t3 := Tryd.underlying3
  a3 := Tryd.isAgg3
  z3 := Tryd.sizeOf3
  v3 := Tryd.zeroValue3
  t4 := Tryd.underlying4
  a4 := Tryd.isAgg4
  z4 := Tryd.sizeOf4
  v4 := Tryd.zeroValue4
  t5 := Tryd.underlying5
  a5 := Tryd.isAgg5
  z5 := Tryd.sizeOf5
  v5 := Tryd.zeroValue5
  t9 := Tryd.underlying9
  a9 := Tryd.isAgg9
  z9 := Tryd.sizeOf9
  v9 := Tryd.zeroValue9
  t20 := Tryd.underlying20
  a20 := Tryd.isAgg20
  z20 := Tryd.sizeOf20
  v20 := Tryd.zeroValue20
  t37 := Tryd.underlying79
  a37 := Tryd.isAgg79
  z37 := Tryd.sizeOf79
  v37 := Tryd.zeroValue79
  t46 := Tryd.underlying114
  a46 := Tryd.isAgg114
  z46 := Tryd.sizeOf114
  v46 := Tryd.zeroValue114
  t51 := Tryd.underlying129
  a51 := Tryd.isAgg129
  z51 := Tryd.sizeOf129
  v51 := Tryd.zeroValue129
  t53 := Tryd.underlying131
  a53 := Tryd.isAgg131
  z53 := Tryd.sizeOf131
  v53 := Tryd.zeroValue131
  t171 := Tryd.underlying153
  a171 := Tryd.isAgg153
  z171 := Tryd.sizeOf153
  v171 := Tryd.zeroValue153
  t173 := Tryd.underlying155
  a173 := Tryd.isAgg155
  z173 := Tryd.sizeOf155
  v173 := Tryd.zeroValue155
  t212 := Tryd.underlying168
  a212 := Tryd.isAgg168
  z212 := Tryd.sizeOf168
  v212 := Tryd.zeroValue168
  t213 := Tryd.underlying169
  a213 := Tryd.isAgg169
  z213 := Tryd.sizeOf169
  t232 := Tryd.underlying174
  a232 := Tryd.isAgg174
  z232 := Tryd.sizeOf174
  v232 := Tryd.zeroValue174
  t233 := Tryd.underlying175
  a233 := Tryd.isAgg175
  z233 := Tryd.sizeOf175
  v233 := Tryd.zeroValue175
  g17 := by kernel_rfl
  g18 := by kernel_rfl
  g19 := by kernel_rfl
  i0 := by kernel_rfl
  i2 := by kernel_rfl
  i3 := by kernel_rfl
  i4 := by kernel_rfl
  i5 := by kernel_rfl
  i9 := by kernel_rfl
  i20 := by kernel_rfl
  i37 := by kernel_rfl
  i46 := by kernel_rfl
  i51 := by kernel_rfl
  i53 := by kernel_rfl
  i171 := by kernel_rfl
  i173 := by kernel_rfl
  i212 := by kernel_rfl
  i232 := by kernel_rfl
  i233 := by kernel_rfl
  m17 := by kernel_rfl
  m18 := by kernel_rfl
  m19 := by kernel_rfl
theorem tab_of {w : World} {S : Nat → Nat → Prop} {B : Nat} (h : GlobOK CP B w S) : Lib.TabIs Tryd.prog w "internal/strconv.uint64pow10" .u64 Lib.pow10Tab := by
  obtain ⟨_, cs, el, fr, h1, h2, _⟩ := h.tab 5 ⟨.arr 20 (.int .u64), pow10⟩ rfl
  have h3 : cs = pow10.map (Value.int .u64) := repL_ints_eq h2.2
  unfold Lib.TabIs World.var?
  rw [show Tryd.prog.globalNamed "internal/strconv.uint64pow10" = some 5 by kernel_rfl]
  simp only [Option.bind_some, h1, h3]
  rfl

/-- strconv.Itoa -/
def strconv_Itoa.u (n : Int) : Option ByteArray := bif decide (-9223372036854775808 ≤ n) && decide (n ≤ 9223372036854775807) then some ⟨(Lib.itoa n).toArray⟩ else none
theorem strconv_Itoa.c (n : Int) (r : ByteArray) (h : strconv_Itoa.u n = some r) : Contract CP 74 [.v (.int .i64) n] (tupAV .str [] r) where
  enters us w := enters_fn (P := Tryd.prog) (fn := Tryd.f74) (by kernel_rfl) (by kernel_rfl) (by kernel_rfl) us w
  runs w S us hlt hG hr := by
    simp only [RepAs] at hr
    obtain ⟨u, q, rfl, h1, rfl⟩ := hr
    rw [rep_int] at h1
    subst h1
    obtain ⟨hp, hq⟩ := ite_some h
    simp only [Bool.and_eq_true, decide_eq_true_eq] at hp
    cases hq
    refine (Any.strconv_Itoa lays171 n hp.1 hp.2 w (tab_of hG)).mono ?_
    rintro e w' ⟨rfl, k, os, rfl⟩
    have hb := below_grow w k os
    exact ⟨_, S, rfl, hb, safe_of_below hlt hb, fun b o hs => ⟨.inl hs, Nat.lt_of_lt_of_le (hlt b o hs) hb.size⟩, rep_str.2 rfl⟩
noncomputable def strconv_Itoa.e : Ent := argI (.int .i64) fun x0 => endU (strconv_Itoa.u x0) (tupAV .str [])
theorem strconv_Itoa.e_ok : EntOK CP 74 (fun {_} => strconv_Itoa.e) := entA_ok (argI_ok fun x0 => endU_ok fun r h => strconv_Itoa.c x0 r h)
def lays172_ren : Go.Shelf.Ren := ⟨fun | 172 => 82 | 244 => 102 | 245 => 103 | 247 => 113 | 279 => 114 | 280 => 115 | 281 => 116 | 282 => 117 | 287 => 123 | 316 => 124 | 171 => 74 | 205 => 125 | 321 => 130 | 322 => 131 | 243 => 94 | 246 => 109 | 283 => 119 | 284 => 120 | 285 => 121 | 286 => 122 | 129 => 92 | 317 => 126 | 318 => 127 | 319 => 128 | 320 => 129 | 337 => 132 | 338 => 133 | n => n, fun | 9 => 9 | 3 => 3 | 75 => 83 | 76 => 84 | 4 => 4 | 5 => 5 | 167 => 145 | 37 => 79 | 0 => 0 | 85 => 146 | 2 => 2 | 168 => 148 | 53 => 131 | 175 => 161 | 46 => 114 | 210 => 165 | 127 => 109 | 145 => 173 | 143 => 171 | 21 => 21 | 171 => 153 | 173 => 155 | 212 => 168 | 51 => 129 | 20 => 20 | 213 => 169 | 232 => 174 | 233 => 175 | 80 => 86 | n => n, fun | 15 => 3 | 16 => 4 | 17 => 5 | 18 => 6 | 19 => 7 | n => n⟩
theorem lays172 : Go.Proofs.Lays.n172 Tryd.prog lays172_ren where
  mixed := by kernel_rfl
  f129 := Tryd.func92.trans (congrArg some (by kernel_rfl))
  f171 := Tryd.func74.trans (congrArg some (by kernel_rfl))
  f172 := Tryd.func82.trans (congrArg some (by kernel_rfl))
  f205 := Tryd.func125.trans (congrArg some (by kernel_rfl))
  f243 := Tryd.func94.trans (congrArg some (by kernel_rfl))
  f244 := Tryd.func102.trans (congrArg some (by kernel_rfl))
  f245 := Tryd.func103.trans (congrArg some (by kernel_rfl))
  f246 := Tryd.func109.trans (congrArg some (by kernel_rfl))
  f247 := Tryd.func113.trans (congrArg some (by kernel_rfl))
  f279 := Tryd.func114.trans (congrArg some (by kernel_rfl))
  f280 := Tryd.func115.trans (congrArg some (by kernel_rfl))
  f281 := Tryd.func116.trans (congrArg some (by kernel_rfl))
  f282 := Tryd.func117.trans (congrArg some (by kernel_rfl))
  f283 := Tryd.func119.trans (congrArg some (by kernel_rfl))
  f284 := Tryd.func120.trans (congrArg some (by kernel_rfl))
  f285 := Tryd.func121.trans (congrArg some (by kernel_rfl))
  f286 := Tryd.func122.trans (congrArg some (by kernel_rfl))
  f287 := Tryd.func123.trans (congrArg some (by kernel_rfl))
  f316 := Tryd.func124.trans (congrArg some (by kernel_rfl))
  f317 := Tryd.func126.trans (congrArg some (by kernel_rfl))
  f318 := Tryd.func127.trans (congrArg some (by kernel_rfl))
  f319 := Tryd.func128.trans (congrArg some (by kernel_rfl))
  f320 := Tryd.func129.trans (congrArg some (by kernel_rfl))
  f321 := Tryd.func130.trans (congrArg some (by kernel_rfl))
  f322 := Tryd.func131.trans (congrArg some (by kernel_rfl))
  f337 := Tryd.func132.trans (congrArg some (by kernel_rfl))
  f338 := Tryd.func133.trans (congrArg some (by kernel_rfl))
  t0 := Tryd.underlying0
  a0 := Tryd.isAgg0
  z0 := Tryd.sizeOf0
  v0 := Tryd.zeroValue0
  t2 := Tryd.underlying2
  a2 := Tryd.isAgg2
  z2 := Tryd.sizeOf2
  v2 := Tryd.zeroValue2
  t3 := Tryd.underlying3
  a3 := Tryd.isAgg3
  z3 := Tryd.sizeOf3
  v3 := Tryd.zeroValue3
  t4 := Tryd.underlying4
  a4 := Tryd.isAgg4
  z4 := Tryd.sizeOf4
  v4 := Tryd.zeroValue4
  t5 := Tryd.underlying5
  a5 := Tryd.isAgg5
  z5 := Tryd.sizeOf5
  v5 := Tryd.zeroValue5
  t9 := Tryd.underlying9
  a9 := Tryd.isAgg9
  z9 := Tryd.sizeOf9
  v9 := Tryd.zeroValue9
  t20 := Tryd.underlying20
  a20 := Tryd.isAgg20
  z20 := Tryd.sizeOf20
  v20 := Tryd.zeroValue20
  t21 := Tryd.underlying21
  a21 := Tryd.isAgg21
  z21 := Tryd.sizeOf21
  v21 := Tryd.zeroValue21
  t37 := Tryd.underlying79
  a37 := Tryd.isAgg79
  z37 := Tryd.sizeOf79
  v37 := Tryd.zeroValue79
  t46 := Tryd.underlying114
  a46 := Tryd.isAgg114
  z46 := Tryd.sizeOf114
  v46 := Tryd.zeroValue114
  t51 := Tryd.underlying129
  a51 := Tryd.isAgg129
  z51 := Tryd.sizeOf129
  v51 := Tryd.zeroValue129
  t53 := Tryd.underlying131
  a53 := Tryd.isAgg131
  z53 := Tryd.sizeOf131
  v53 := Tryd.zeroValue131
  t75 := Tryd.underlying83
  a75 := Tryd.isAgg83
  z75 := Tryd.sizeOf83
  v75 := Tryd.zeroValue83
  t76 := Tryd.underlying84
  a76 := Tryd.isAgg84
  z76 := Tryd.sizeOf84
  v76 := Tryd.zeroValue84
  t85 := Tryd.underlying146
  a85 := Tryd.isAgg146
  z85 := Tryd.sizeOf146
  v85 := Tryd.zeroValue146
  t127 := Tryd.underlying109
  a127 := Tryd.isAgg109
  z127 := Tryd.sizeOf109
  v127 := Tryd.zeroValue109
  t143 := Tryd.underlying171
  a143 := Tryd.isAgg171
  z143 := Tryd.sizeOf171
  v143 := Tryd.zeroValue171
  t145 := Tryd.underlying173
  a145 := Tryd.isAgg173
  z145 := Tryd.sizeOf173
  v145 := Tryd.zeroValue173
  t167 := Tryd.underlying145
  a167 := Tryd.isAgg145
  z167 := Tryd.sizeOf145
  v167 := Tryd.zeroValue145
  t168 := Tryd.underlying148
  a168 := Tryd.isAgg148
  z168 := Tryd.sizeOf148
  v168 := Tryd.zeroValue148
  t171 := Tryd.underlying153
  a171 := Tryd.isAgg153
  z171 := Tryd.sizeOf153
  v171 := Tryd.zeroValue153
  t173 := Tryd.underlying155
  a173 := Tryd.isAgg155
  z173 := Tryd.sizeOf155
  v173 := Tryd.zeroValue155
  t175 := Tryd.underlying161
  a175 := Tryd.isAgg161
  z175 := Tryd.sizeOf161
  v175 := Tryd.zeroValue161
  t210 := Tryd.underlying165
  a210 := Tryd.isAgg165
  z210 := Tryd.sizeOf165
  v210 := Tryd.zeroValue165
  t212 := Tryd.underlying168
  a212 := Tryd.isAgg168
  z212 := Tryd.sizeOf168
  v212 := Tryd.zeroValue168
  t213 := Tryd.underlying169
  a213 := Tryd.isAgg169
  z213 := Tryd.sizeOf169
  t232 := Tryd.underlying174
  a232 := Tryd.isAgg174
  z232 := Tryd.sizeOf174
  v232 := Tryd.zeroValue174
  t233 := Tryd.underlying175
  a233 := Tryd.isAgg175
  z233 := Tryd.sizeOf175
  v233 := Tryd.zeroValue175
  g15 := by kernel_rfl
  g16 := by kernel_rfl
  g17 := by kernel_rfl
  g18 := by kernel_rfl
  g19 := by kernel_rfl
/-- strconv.Atoi, at a numeral of at most eighteen bytes -/
def strconv_Atoi.u (s : ByteArray) : Option (Int × Value) := bif decide (s.size ≤ 18) then (Lib.atoi s.data.toList).map fun n => (n, .nilIface) else none
theorem strconv_Atoi.c (s : ByteArray) (r : Int × Value) (h : strconv_Atoi.u s = some r) : Contract C 82 [.v .str s] (tupAV (.int .i64) [.raw .iface] r) where
  enters us w := enters_fn (P := Tryd.prog) (fn := Tryd.f82) (by kernel_rfl) (by kernel_rfl) (by kernel_rfl) us w
  runs w S us hlt hG hr := by
    simp only [RepAs] at hr
    obtain ⟨u, q, rfl, h1, rfl⟩ := hr
    rw [rep_str] at h1
    subst h1
    obtain ⟨hp, hq⟩ := ite_some h
    obtain ⟨n, hn, rfl⟩ := Option.map_eq_some_iff.1 hq
    refine (Any.strconv_Atoi lays172 s n (of_decide_eq_true hp) hn w).mono ?_
    rintro e w' ⟨rfl, t, rfl⟩
    have hg := grows_bytes w (lays172_ren.t 5) t
    have hb : Below w.heap.size w (Lib.bytesWorld w (lays172_ren.t 5) t) := hg.below (Nat.le_refl _)
    refine ⟨_, S, rfl, hb, safe_of_below hlt hb, fun b o hs => ⟨.inl hs, Nat.lt_of_lt_of_le (hlt b o hs) hb.size⟩, ?_⟩
    simp only [tupAV, tupAVs, RepA, RepAs]
    exact ⟨[.int .i64 n, .nilIface], rfl, _, _, rfl, ⟨[_], rfl, rfl⟩, _, _, rfl, ⟨[.nilIface], ⟨rfl, rfl⟩, rfl⟩, rfl⟩
noncomputable def strconv_Atoi.e : Ent := argI .str fun x0 => endU (strconv_Atoi.u x0) (tupAV (.int .i64) [.raw .iface])
theorem strconv_Atoi.e_ok : EntOK C 82 (fun {_} => strconv_Atoi.e) := entA_ok (argI_ok fun x0 => endU_ok fun r h => strconv_Atoi.c x0 r h)
def lays217_ren : Go.Shelf.Ren := ⟨fun | 217 => 95 | 266 => 110 | n => n, fun | 9 => 9 | 5 => 5 | 3 => 3 | 20 => 20 | n => n, fun | n => n⟩
theorem lays217 : Go.Proofs.Lays.n217 Tryd.prog lays217_ren where
  mixed := by kernel_rfl
  f217 := Tryd.func95.trans (congrArg some (by kernel_rfl))
  f266 := Tryd.func110.trans (congrArg some (by kernel_rfl))
  t3 := Tryd.underlying3
  a3 := Tryd.isAgg3
  z3 := Tryd.sizeOf3
  v3 := Tryd.zeroValue3
  t5 := Tryd.underlying5
  a5 := Tryd.isAgg5
  z5 := Tryd.sizeOf5
  v5 := Tryd.zeroValue5
  t9 := Tryd.underlying9
  a9 := Tryd.isAgg9
  z9 := Tryd.sizeOf9
  v9 := Tryd.zeroValue9
/-- internal/stringslite.IndexByte -/
def internal_stringslite_IndexByte.t (s : ByteArray) (c : Int) : Int := Lib.indexByte s.data.toList c.toNat.toUInt8
theorem internal_stringslite_IndexByte.c (s : ByteArray) (c : Int) : Contract C 95 [.v .str s, .v (.int .u8) c] (tupAV (.int .i64) [] (internal_stringslite_IndexByte.t s c)) where
  enters us w := enters_fn (P := Tryd.prog) (fn := Tryd.f95) (by kernel_rfl) (by kernel_rfl) (by kernel_rfl) us w
  runs w S us hlt hG hr := by
    simp only [RepAs] at hr
    obtain ⟨u, q, rfl, h1, v, q', rfl, h2, rfl⟩ := hr
    rw [rep_str] at h1
    rw [rep_int] at h2
    subst h1 h2
    refine (Any.stringslite_IndexByte lays217 s c w).mono ?_
    rintro e w' ⟨rfl, rfl⟩
    exact ⟨_, S, rfl, Below.refl _ _, Safe.refl _ _, fun b o hs => ⟨.inl hs, hlt b o hs⟩, rep_int.2 rfl⟩
noncomputable def internal_stringslite_IndexByte.e : Ent := argI .str fun x0 => argI (.int .u8) fun x1 => endT (tupAV (.int .i64) [] (internal_stringslite_IndexByte.t x0 x1))
theorem internal_stringslite_IndexByte.e_ok : EntOK C 95 (fun {_} => internal_stringslite_IndexByte.e) := entA_ok (argI_ok fun x0 => argI_ok fun x1 => endT_ok (internal_stringslite_IndexByte.c x0 x1))
def laysSplit_ren : Go.Shelf.Ren := ⟨fun | 146 => 44 | 221 => 65 | 268 => 77 | 138 => 78 | 143 => 79 | 195 => 99 | 197 => 100 | 218 => 101 | 219 => 76 | 260 => 112 | 217 => 95 | 225 => 96 | 224 => 97 | 267 => 98 | 266 => 110 | 314 => 111 | n => n, fun | 9 => 9 | 31 => 72 | 3 => 3 | 4 => 4 | 0 => 0 | 105 => 133 | 21 => 21 | 5 => 5 | 46 => 114 | 119 => 157 | 139 => 160 | 138 => 159 | 146 => 143 | 51 => 129 | 20 => 20 | n => n, fun | 1 => 0 | 3 => 1 | 4 => 2 | n => n⟩
theorem laysSplit : Go.Proofs.Lays.n146 Tryd.prog laysSplit_ren where
  mixed := by kernel_rfl
  f138 := Tryd.func78.trans (congrArg some (by kernel_rfl))
  f143 := Tryd.func79.trans (congrArg some (by kernel_rfl))
  f146 := Tryd.func44.trans (congrArg some (by kernel_rfl))
  f195 := Tryd.func99.trans (congrArg some (by kernel_rfl))
  f197 := Tryd.func100.trans (congrArg some (by kernel_rfl))
  f217 := Tryd.func95.trans (congrArg some (by kernel_rfl))
  f218 := Tryd.func101.trans (congrArg some (by kernel_rfl))
  f219 := Tryd.func76.trans (congrArg some (by kernel_rfl))
  f221 := Tryd.func65.trans (congrArg some (by kernel_rfl))
  f224 := Tryd.func97.trans (congrArg some (by kernel_rfl))
  f225 := Tryd.func96.trans (congrArg some (by kernel_rfl))
  f260 := Tryd.func112.trans (congrArg some (by kernel_rfl))
  f266 := Tryd.func110.trans (congrArg some (by kernel_rfl))
  f267 := Tryd.func98.trans (congrArg some (by kernel_rfl))
  f268 := Tryd.func77.trans (congrArg some (by kernel_rfl))
  f314 := Tryd.func111.trans (congrArg some (by kernel_rfl))
  t0 := Tryd.underlying0
  a0 := Tryd.isAgg0
  z0 := Tryd.sizeOf0
  v0 := Tryd.zeroValue0
  t3 := Tryd.underlying3
  a3 := Tryd.isAgg3
  z3 := Tryd.sizeOf3
  v3 := Tryd.zeroValue3
  t4 := Tryd.underlying4
  a4 := Tryd.isAgg4
  z4 := Tryd.sizeOf4
  v4 := Tryd.zeroValue4
  t5 := Tryd.underlying5
  a5 := Tryd.isAgg5
  z5 := Tryd.sizeOf5
  v5 := Tryd.zeroValue5
  t9 := Tryd.underlying9
  a9 := Tryd.isAgg9
  z9 := Tryd.sizeOf9
  v9 := Tryd.zeroValue9
  t21 := Tryd.underlying21
  a21 := Tryd.isAgg21
  z21 := Tryd.sizeOf21
  v21 := Tryd.zeroValue21
  t31 := Tryd.underlying72
  a31 := Tryd.isAgg72
  z31 := Tryd.sizeOf72
  v31 := Tryd.zeroValue72
  t46 := Tryd.underlying114
  a46 := Tryd.isAgg114
  z46 := Tryd.sizeOf114
  v46 := Tryd.zeroValue114
  t51 := Tryd.underlying129
  a51 := Tryd.isAgg129
  z51 := Tryd.sizeOf129
  v51 := Tryd.zeroValue129
  t105 := Tryd.underlying133
  a105 := Tryd.isAgg133
  z105 := Tryd.sizeOf133
  v105 := Tryd.zeroValue133
  t119 := Tryd.underlying157
  a119 := Tryd.isAgg157
  z119 := Tryd.sizeOf157
  t138 := Tryd.underlying159
  a138 := Tryd.isAgg159
  z138 := Tryd.sizeOf159
  v138 := Tryd.zeroValue159
  t139 := Tryd.underlying160
  a139 := Tryd.isAgg160
  z139 := Tryd.sizeOf160
  v139 := Tryd.zeroValue160
  t146 := Tryd.underlying143
  a146 := Tryd.isAgg143
  z146 := Tryd.sizeOf143
  v146 := Tryd.zeroValue143
  g1 := by kernel_rfl
  g3 := by kernel_rfl
  g4 := by kernel_rfl
/-- strings.Split -/
def strings_Split.u (s sep : ByteArray) : Option (List ByteArray) := bif decide (s.size < 4294967281) && decide (1 ≤ sep.size) then some (Lib.splitB sep 0 (Lib.countB s sep) s) else none
theorem alloc_heap (w : World) (cs : List Value) (t : TypeId) : (w.alloc (.cells cs.toArray t)).heap[w.heap.size]? = some (.cells cs.toArray t (0, 0)) := Array.getElem?_push_size
theorem alloc_size (w : World) (o : Obj) : (w.alloc o).heap.size = w.heap.size + 1 := Array.size_push _
theorem repL_strs {w : World} {S : Nat → Nat → Prop} : ∀ (l : List ByteArray), RepL (RepC w S .str) l (l.map Value.string)
  | [] => rfl
  | x :: l => ⟨[.string x], _, rfl, rfl, repL_strs l⟩
theorem strings_Split.c (s sep : ByteArray) (r : List ByteArray) (h : strings_Split.u s sep = some r) : Contract CM 44 [.v .str s, .v .str sep] (tupAV (.slice .str) [] r) where
  enters us w := enters_fn (P := Tryd.prog) (fn := Tryd.f44) (by kernel_rfl) (by kernel_rfl) (by kernel_rfl) us w
  runs w S us hlt hG hr := by
    simp only [RepAs] at hr
    obtain ⟨u, q, rfl, h1, v, q', rfl, h2, rfl⟩ := hr
    rw [rep_str] at h1 h2
    subst h1 h2
    obtain ⟨hp, hq⟩ := ite_some h
    simp only [Bool.and_eq_true, decide_eq_true_eq] at hp
    cases hq
    obtain ⟨_, ⟨m, hm⟩, _⟩ := hG.any 0 rfl
    refine (Any.strings_Split laysSplit (by kernel_rfl) s sep m w hp.1 hm hp.2).mono ?_
    rintro e w' ⟨rfl, rfl⟩
    have hlen := Lib.splitB_all sep hp.2 0 (Lib.countB s sep) s rfl
    have hb : Below w.heap.size w (w.alloc (.cells ((Lib.splitB sep 0 (Lib.countB s sep) s).map Value.string).toArray (laysSplit_ren.t 9))) := (Below.refl _ w).alloc (Nat.le_refl _) _
    refine ⟨_, fun b o => S b o ∨ (b = w.heap.size ∧ o < Lib.countB s sep + 1), rfl, hb, ⟨fun b o h => .inl h, fun b o h => World.cell?_of_block (a := ⟨b, o, none⟩) (hb.block b (hlt b o h))⟩, fun b o h => ?_, ?_⟩
    · rcases h with h | ⟨rfl, _⟩
      · exact ⟨.inl h, Nat.lt_of_lt_of_le (hlt b o h) hb.size⟩
      · exact ⟨.inr (Nat.le_refl _), by rw [alloc_size]; exact Nat.lt_succ_self _⟩
    · simp only [tupAV, rep_v]
      refine ⟨[_], ⟨some ⟨w.heap.size, 0, none⟩, Lib.countB s sep + 1, by rw [hlen], by rw [hlen]; exact Nat.le_refl _, .inr ⟨w.heap.size, 0, (Lib.splitB sep 0 (Lib.countB s sep) s).map Value.string, rfl, repL_strs _, fun j hj => ⟨?_, .inr ⟨rfl, ?_⟩⟩⟩⟩, rfl⟩
      · exact (cellsAt_block (alloc_heap w _ _) j hj)
      · rw [List.length_map, hlen] at hj; rw [Nat.zero_add]; exact hj
noncomputable def strings_Split.e : Ent := argI .str fun x0 => argI .str fun x1 => endU (strings_Split.u x0 x1) (tupAV (.slice .str) [])
theorem strings_Split.e_ok : EntOK CM 44 (fun {_} => strings_Split.e) := entA_ok (argI_ok fun x0 => argI_ok fun x1 => endU_ok fun r h => strings_Split.c x0 x1 r h)
def laysClone56_ren : Go.Shelf.Ren := ⟨fun | 41 => 56 | n => n, fun | 22 => 61 | 23 => 29 | 4 => 4 | n => n, fun | n => n⟩
theorem laysClone56 : Go.Proofs.SlLaysE0.n41 Tryd.prog laysClone56_ren where
  mixed := by kernel_rfl
  f41 := ⟨"slices.Clone[[]becket/event.Event,becket/event.Event]", by decide, Tryd.func56.trans (congrArg some (by kernel_rfl))⟩
  t4 := Tryd.underlying4
  a4 := Tryd.isAgg4
  z4 := Tryd.sizeOf4
  v4 := Tryd.zeroValue4
  t22 := Tryd.underlying61
  a22 := Tryd.isAgg61
  z22 := Tryd.sizeOf61
  v22 := Tryd.zeroValue61
/-- slices.Clone[[]becket/event.Event,becket/event.Event] -/
def slices_Clone_56.fx {Ω : Type} := cloneFx 29 (.pair (.int .i64) (.pair (.int .i64) (.pair (.int .i64) (.pair (.int .i64) .unit)))) (Ω := Ω)
theorem slices_Clone_56.fx_ok : FxOK C 56 (fun {_} => slices_Clone_56.fx) := cloneFx_ok (fun us w => enters_fn (P := Tryd.prog) (fn := Tryd.f56) (by kernel_rfl) (by kernel_rfl) (by kernel_rfl) us w) (fun ad n c news w h1 h2 h3 h4 => clone_lay C_ok laysClone56 (ts := 61) (e := (.pair (.int .i64) (.pair (.int .i64) (.pair (.int .i64) (.pair (.int .i64) .unit))))) (by kernel_rfl) (by kernel_rfl) Tryd.underlying61 (by decide) ad n c news w h1 h2 h3 h4) (fun n c w => AnyE.slices_Clone_nil laysClone56 n c w)
def laysBldS_ren : Go.Shelf.Ren := ⟨fun | 166 => 41 | 240 => 63 | 276 => 75 | n => n, fun | 70 => 78 | 9 => 9 | 3 => 3 | 75 => 83 | 0 => 0 | 72 => 81 | 37 => 79 | 4 => 4 | 164 => 117 | 80 => 86 | 5 => 5 | 20 => 20 | n => n, fun | n => n⟩
theorem laysBldS : Go.Proofs.Lays.n166 Tryd.prog laysBldS_ren where
  mixed := by kernel_rfl
  f166 := Tryd.func41.trans (congrArg some (by kernel_rfl))
  f240 := Tryd.func63.trans (congrArg some (by kernel_rfl))
  f276 := Tryd.func75.trans (congrArg some (by kernel_rfl))
  t0 := Tryd.underlying0
  a0 := Tryd.isAgg0
  z0 := Tryd.sizeOf0
  v0 := Tryd.zeroValue0
  t3 := Tryd.underlying3
  a3 := Tryd.isAgg3
  z3 := Tryd.sizeOf3
  v3 := Tryd.zeroValue3
  t4 := Tryd.underlying4
  a4 := Tryd.isAgg4
  z4 := Tryd.sizeOf4
  v4 := Tryd.zeroValue4
  t9 := Tryd.underlying9
  a9 := Tryd.isAgg9
  z9 := Tryd.sizeOf9
  v9 := Tryd.zeroValue9
  t20 := Tryd.underlying20
  a20 := Tryd.isAgg20
  z20 := Tryd.sizeOf20
  v20 := Tryd.zeroValue20
  t37 := Tryd.underlying79
  a37 := Tryd.isAgg79
  z37 := Tryd.sizeOf79
  v37 := Tryd.zeroValue79
  t70 := Tryd.underlying78
  a70 := Tryd.isAgg78
  z70 := Tryd.sizeOf78
  v70 := Tryd.zeroValue78
  t72 := Tryd.underlying81
  a72 := Tryd.isAgg81
  z72 := Tryd.sizeOf81
  v72 := Tryd.zeroValue81
  t75 := Tryd.underlying83
  a75 := Tryd.isAgg83
  z75 := Tryd.sizeOf83
  v75 := Tryd.zeroValue83
  t164 := Tryd.underlying117
  a164 := Tryd.isAgg117
  z164 := Tryd.sizeOf117
  v164 := Tryd.zeroValue117
theorem extralaysBldS : Builder.Extra Tryd.prog laysBldS_ren where
  sizeBuilder := by kernel_rfl
  liesBuilder := by kernel_rfl
  t5 := Tryd.underlying5
  a5 := Tryd.isAgg5
  z5 := Tryd.sizeOf5
  v5 := Tryd.zeroValue5
  infoByte := by kernel_rfl
  cellsByte := by kernel_rfl
  sizeByte := by kernel_rfl
  neB5 := by decide
/-- (strings.Builder).WriteString -/
def strings_Builder_WriteString.fx {Ω : Type} := bldStrFx 81 5 (Ω := Ω)
theorem strings_Builder_WriteString.fx_ok : FxOK C 41 (fun {_} => strings_Builder_WriteString.fx) := bldStrFx_ok (C := C) laysBldS extralaysBldS (fun us w => enters_fn (P := Tryd.prog) (fn := Tryd.f41) (by kernel_rfl) (by kernel_rfl) (by kernel_rfl) us w)
def laysBldG_ren : Go.Shelf.Ren := ⟨fun | 169 => 42 | n => n, fun | 70 => 78 | 9 => 9 | 0 => 0 | 72 => 81 | 37 => 79 | 127 => 109 | 3 => 3 | 5 => 5 | 20 => 20 | n => n, fun | n => n⟩
theorem laysBldG : Go.Proofs.Lays.n169 Tryd.prog laysBldG_ren where
  mixed := by kernel_rfl
  f169 := Tryd.func42.trans (congrArg some (by kernel_rfl))
  t0 := Tryd.underlying0
  a0 := Tryd.isAgg0
  z0 := Tryd.sizeOf0
  v0 := Tryd.zeroValue0
  t3 := Tryd.underlying3
  a3 := Tryd.isAgg3
  z3 := Tryd.sizeOf3
  v3 := Tryd.zeroValue3
  t9 := Tryd.underlying9
  a9 := Tryd.isAgg9
  z9 := Tryd.sizeOf9
  v9 := Tryd.zeroValue9
  t37 := Tryd.underlying79
  a37 := Tryd.isAgg79
  z37 := Tryd.sizeOf79
  v37 := Tryd.zeroValue79
  t70 := Tryd.underlying78
  a70 := Tryd.isAgg78
  z70 := Tryd.sizeOf78
  v70 := Tryd.zeroValue78
  t72 := Tryd.underlying81
  a72 := Tryd.isAgg81
  z72 := Tryd.sizeOf81
  v72 := Tryd.zeroValue81
  t127 := Tryd.underlying109
  a127 := Tryd.isAgg109
  z127 := Tryd.sizeOf109
  v127 := Tryd.zeroValue109
theorem extralaysBldG : Builder.Extra Tryd.prog laysBldG_ren where
  sizeBuilder := by kernel_rfl
  liesBuilder := by kernel_rfl
  t5 := Tryd.underlying5
  a5 := Tryd.isAgg5
  z5 := Tryd.sizeOf5
  v5 := Tryd.zeroValue5
  infoByte := by kernel_rfl
  cellsByte := by kernel_rfl
  sizeByte := by kernel_rfl
  neB5 := by decide
/-- (strings.Builder).String -/
def strings_Builder_String.fx {Ω : Type} := bldGetFx 81 5 (Ω := Ω)
theorem strings_Builder_String.fx_ok : FxOK C 42 (fun {_} => strings_Builder_String.fx) := bldGetFx_ok (C := C) laysBldG extralaysBldG (fun us w => enters_fn (P := Tryd.prog) (fn := Tryd.f42) (by kernel_rfl) (by kernel_rfl) (by kernel_rfl) us w)
end Go.Proofs.YtaednhofihnfkaaDoor.K

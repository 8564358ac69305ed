/- The tables that may be known, and the library functions that the program leans on, off the shelf. -/
import Derived.Test.YtjhkagfolmhacaaDoorX
import Derived.Test.YtjhkagfolmhacaaDoorKG
import Derived.Shelf.Strconv.Itoa3
import Derived.Shelf.Strconv.Atoi
import Derived.Shelf.Strings.Search1
import Derived.Shelf.Strings.Search3
import Derived.Shelf.Strings.Split
import Derived.Shelf.SortM.Plain
import Derived.Shelf.SortM.SortNone
import Derived.Shelf.SlicesE.Clone
set_option maxRecDepth 100000
set_option linter.unusedVariables false
namespace Go.Proofs.YtjhkagfolmhacaaDoor.K
open Go Go.RowKit

/-- The powers of ten. -/
def pow10 : List Int := [1, 10, 100, 1000, 10000, 100000, 1000000, 10000000, 100000000, 1000000000, 10000000000, 100000000000, 1000000000000, 10000000000000, 100000000000000, 1000000000000000, 10000000000000000, 100000000000000000, 1000000000000000000, 10000000000000000000]
/-- The table of opcodes. -/
def kindsT : List (ByteArray × (ByteArray × (Int × Unit))) := [(bs [110, 111, 112], bs [45, 45, 45], 0, ()), (bs [104, 97, 108, 116], bs [45, 45, 45], 5, ()), (bs [109, 111, 118], bs [114, 114, 45], 0, ()), (bs [115, 101, 116], bs [114, 105, 106], 0, ()), (bs [97, 100, 100], bs [114, 114, 114], 0, ()), (bs [115, 117, 98], bs [114, 114, 114], 0, ()), (bs [109, 117, 108], bs [114, 114, 114], 0, ()), (bs [100, 105, 118], bs [114, 114, 114], 0, ()), (bs [114, 101, 109], bs [114, 114, 114], 0, ()), (bs [97, 110, 100], bs [114, 114, 114], 0, ()), (bs [111, 114], bs [114, 114, 114], 0, ()), (bs [120, 111, 114], bs [114, 114, 114], 0, ()), (bs [115, 104, 108], bs [114, 114, 114], 0, ()), (bs [115, 104, 114], bs [114, 114, 114], 0, ()), (bs [110, 111, 116], bs [114, 114, 45], 0, ()), (bs [110, 101, 103], bs [114, 114, 45], 0, ()), (bs [108, 116], bs [114, 114, 114], 0, ()), (bs [101, 113], bs [114, 114, 114], 0, ()), (bs [106, 109, 112], bs [116, 45, 45], 1, ()), (bs [106, 122], bs [114, 116, 45], 1, ()), (bs [106, 110, 122], bs [114, 116, 45], 1, ()), (bs [106, 98, 97, 100], bs [116, 45, 45], 1, ()), (bs [99, 97, 108, 108], bs [116, 45, 45], 1, ()), (bs [114, 101, 116], bs [45, 45, 45], 1, ()), (bs [108, 111, 97, 100], bs [114, 114, 45], 0, ()), (bs [115, 116, 111, 114, 101], bs [114, 114, 45], 0, ()), (bs [102, 97, 105, 108], bs [115, 45, 45], 5, ()), (bs [101, 109, 105, 116], bs [114, 45, 45], 4, ()), (bs [110, 111, 119], bs [114, 45, 45], 4, ()), (bs [109, 101], bs [114, 45, 45], 4, ()), (bs [115, 112, 97, 119, 110], bs [114, 112, 114], 4, ()), (bs [106, 111, 105, 110], bs [114, 45, 45], 2, ()), (bs [115, 108, 101, 101, 112], bs [114, 45, 45], 2, ()), (bs [115, 101, 110, 100], bs [99, 114, 45], 2, ()), (bs [114, 101, 99, 118], bs [99, 114, 45], 2, ()), (bs [112, 111, 105, 115, 111, 110], bs [99, 114, 45], 4, ()), (bs [101, 110, 114, 111, 108], bs [98, 45, 45], 4, ()), (bs [114, 101, 115, 105, 103, 110], bs [98, 45, 45], 4, ()), (bs [115, 121, 110, 99], bs [98, 45, 45], 2, ()), (bs [102, 97, 108, 108], bs [107, 45, 45], 2, ()), (bs [102, 108, 117, 115, 104], bs [114, 107, 45], 4, ()), (bs [97, 108, 116], bs [114, 109, 110], 2, ()), (bs [103, 105, 110], bs [99, 114, 103], 3, ()), (bs [103, 98, 97, 114], bs [98, 45, 103], 3, ()), (bs [103, 116, 105, 109, 101], bs [114, 45, 103], 3, ()), (bs [103, 115, 107, 105, 112], bs [45, 45, 103], 3, ()), (bs [112, 104, 97, 115, 101], bs [114, 98, 45], 4, ()), (bs [115, 105, 122, 101], bs [114, 98, 45], 4, ())]
def orG (f h : Nat → Option Dat) : Nat → Option Dat := fun g => match f g with | some d => some d | none => h g
def gP : Nat → Option Dat := fun g => bif g == 6 then some (⟨.arr 20 (.int .u64), pow10⟩ : Dat) else none
def gK : Nat → Option Dat := fun g => bif g == 0 then some (⟨.arr 48 (.pair .str (.pair .str (.pair (.int .i64) .unit))), kindsT⟩ : Dat) else none
noncomputable def CK : Cfg := { C with G := gK }
theorem CK_ok : CK.OK := ⟨C_ok.ty, C_ok.mixed⟩
noncomputable def CM : Cfg := { C with M := fun g => g == 1 }
theorem CM_ok : CM.OK := ⟨C_ok.ty, C_ok.mixed⟩
noncomputable def CKM : Cfg := { C with G := gK, M := fun g => g == 1 }
theorem CKM_ok : CKM.OK := ⟨C_ok.ty, C_ok.mixed⟩
noncomputable def CP : Cfg := { C with G := gP }
theorem CP_ok : CP.OK := ⟨C_ok.ty, C_ok.mixed⟩
noncomputable def CKP : Cfg := { C with G := (orG gK gP) }
theorem CKP_ok : CKP.OK := ⟨C_ok.ty, C_ok.mixed⟩
noncomputable def CMP : Cfg := { C with G := gP, M := fun g => g == 1 }
theorem CMP_ok : CMP.OK := ⟨C_ok.ty, C_ok.mixed⟩
noncomputable def CKMP : Cfg := { C with G := (orG gK gP), M := fun g => g == 1 }
theorem CKMP_ok : CKMP.OK := ⟨C_ok.ty, C_ok.mixed⟩
theorem le_C_CK : C.le CK := ⟨rfl, (fun g d h => by cases h), (fun g h => by cases h)⟩
theorem le_C_CM : C.le CM := ⟨rfl, (fun g d h => by cases h), (fun g h => by cases h)⟩
theorem le_C_CKM : C.le CKM := ⟨rfl, (fun g d h => by cases h), (fun g h => by cases h)⟩
theorem le_C_CP : C.le CP := ⟨rfl, (fun g d h => by cases h), (fun g h => by cases h)⟩
theorem le_C_CKP : C.le CKP := ⟨rfl, (fun g d h => by cases h), (fun g h => by cases h)⟩
theorem le_C_CMP : C.le CMP := ⟨rfl, (fun g d h => by cases h), (fun g h => by cases h)⟩
theorem le_C_CKMP : C.le CKMP := ⟨rfl, (fun g d h => by cases h), (fun g h => by cases h)⟩
theorem le_CK_CKM : CK.le CKM := ⟨rfl, (fun g d h => h), (fun g h => by cases h)⟩
theorem le_CK_CKP : CK.le CKP := ⟨rfl, (fun g d h => by
  have h1 : gK g = some d := h
  show orG gK gP g = some d
  unfold orG
  rw [h1]), (fun g h => by cases h)⟩
theorem le_CK_CKMP : CK.le CKMP := ⟨rfl, (fun g d h => by
  have h1 : gK g = some d := h
  show orG gK gP g = some d
  unfold orG
  rw [h1]), (fun g h => by cases h)⟩
theorem le_CM_CKM : CM.le CKM := ⟨rfl, (fun g d h => by cases h), (fun g h => h)⟩
theorem le_CM_CMP : CM.le CMP := ⟨rfl, (fun g d h => by cases h), (fun g h => h)⟩
theorem le_CM_CKMP : CM.le CKMP := ⟨rfl, (fun g d h => by cases h), (fun g h => h)⟩
theorem le_CKM_CKMP : CKM.le CKMP := ⟨rfl, (fun g d h => by
  have h1 : gK g = some d := h
  show orG gK gP g = some d
  unfold orG
  rw [h1]), (fun g h => h)⟩
theorem le_CP_CKP : CP.le CKP := ⟨rfl, (fun g d h => by
  have h1 : gP g = some d := h
  show orG gK gP g = some d
  unfold orG gK
  cases hf : (g == 0) with
  | true => rw [show g = 0 by simpa using hf] at h1; cases h1
  | false => exact h1), (fun g h => by cases h)⟩
theorem le_CP_CMP : CP.le CMP := ⟨rfl, (fun g d h => h), (fun g h => by cases h)⟩
theorem le_CP_CKMP : CP.le CKMP := ⟨rfl, (fun g d h => by
  have h1 : gP g = some d := h
  show orG gK gP g = some d
  unfold orG gK
  cases hf : (g == 0) with
  | true => rw [show g = 0 by simpa using hf] at h1; cases h1
  | false => exact h1), (fun g h => by cases h)⟩
theorem le_CKP_CKMP : CKP.le CKMP := ⟨rfl, (fun g d h => h), (fun g h => by cases h)⟩
theorem le_CMP_CKMP : CMP.le CKMP := ⟨rfl, (fun g d h => by
  have h1 : gP g = some d := h
  show orG gK gP g = some d
  unfold orG gK
  cases hf : (g == 0) with
  | true => rw [show g = 0 by simpa using hf] at h1; cases h1
  | false => exact h1), (fun g h => h)⟩
theorem enters_fn {P : Program} {f : FuncId} {fn : Func} (hf : P.funcs[f]? = some fn) (hb : fn.body.isSome = true) (hn : (fn.name == "runtime.NumGoroutine") = false) (us : Array Value) (w : World) : (callFunc f us).run P w = .ok (.enter f us) w := by
  have hpn : (program.run P w : Result Program) = .ok P w := rfl
  have hb' : fn.body.isNone = false := by cases h : fn.body <;> simp [h] at hb ⊢
  simp only [callFunc, Sem.run_bind, hpn, Result.andThen_ok, hf, hn, hb', Bool.false_eq_true, if_false, Sem.run_pure]

theorem below_grow (w : World) (k : Nat) (os : Array Obj) : Below w.heap.size w (Go.Sort.grow (w.drewN k) os) :=
  ⟨rfl, rfl, rfl, by simp [Go.Sort.grow], fun i hi => by simp only [Go.Sort.grow, World.heap_drewN]; exact Array.getElem?_append_left hi⟩

theorem safe_of_below {w w' : World} {S : Nat → Nat → Prop} (hS : ∀ b o, S b o → b < w.heap.size) (h : Below w.heap.size w w') : Safe S S w w' :=
  ⟨fun _ _ h => h, fun b o hs => World.cell?_of_block (a := ⟨b, o, none⟩) (h.block b (hS b o hs))⟩

def lays171_ren : Go.Shelf.Ren := ⟨fun | 171 => 137 | 243 => 168 | 246 => 185 | 283 => 195 | 284 => 196 | 285 => 197 | 286 => 198 | 129 => 153 | 317 => 202 | 318 => 203 | 319 => 204 | 320 => 205 | 337 => 208 | 338 => 209 | n => n, fun | 3 => 3 | 9 => 9 | 2 => 2 | 4 => 4 | 171 => 219 | 0 => 0 | 53 => 189 | 37 => 108 | 5 => 5 | 173 => 221 | 212 => 234 | 51 => 187 | 20 => 20 | 213 => 235 | 46 => 153 | 232 => 240 | 233 => 241 | n => n, fun | 17 => 6 | 18 => 7 | 19 => 8 | n => n⟩
theorem lays171 : Go.Proofs.LaysM.n171 Tryd.prog lays171_ren where
  mixed := by kernel_rfl
  f129 := Tryd.func153.trans (congrArg some (by kernel_rfl))
  f171 := Tryd.func137.trans (congrArg some (by kernel_rfl))
  f243 := Tryd.func168.trans (congrArg some (by kernel_rfl))
  f246 := Tryd.func185.trans (congrArg some (by kernel_rfl))
  f283 := Tryd.func195.trans (congrArg some (by kernel_rfl))
  f284 := Tryd.func196.trans (congrArg some (by kernel_rfl))
  f285 := Tryd.func197.trans (congrArg some (by kernel_rfl))
  f286 := Tryd.func198.trans (congrArg some (by kernel_rfl))
  f317 := Tryd.func202.trans (congrArg some (by kernel_rfl))
  f318 := Tryd.func203.trans (congrArg some (by kernel_rfl))
  f319 := Tryd.func204.trans (congrArg some (by kernel_rfl))
  f320 := Tryd.func205.trans (congrArg some (by kernel_rfl))
  f337 := Tryd.func208.trans (congrArg some (by kernel_rfl))
  f338 := Tryd.func209.trans (congrArg some (by kernel_rfl))
  t0 := Tryd.underlying0
  a0 := Tryd.isAgg0
  z0 := Tryd.sizeOf0
  v0 := Tryd.zeroValue0
  t2 := Tryd.underlying2
  a2 := Tryd.isAgg2
  z2 := Tryd.sizeOf2
  v2 := Tryd.zeroValue2
  t3 := Tryd.underlying3
  a3 := Tryd.isAgg3
  z3 := Tryd.sizeOf3
  v3 := Tryd.zeroValue3
  t4 := Tryd.underlying4
  a4 := Tryd.isAgg4
  z4 := Tryd.sizeOf4
  v4 := Tryd.zeroValue4
  t5 := Tryd.underlying5
  a5 := Tryd.isAgg5
  z5 := Tryd.sizeOf5
  v5 := Tryd.zeroValue5
  t9 := Tryd.underlying9
  a9 := Tryd.isAgg9
  z9 := Tryd.sizeOf9
  v9 := Tryd.zeroValue9
  t20 := Tryd.underlying20
  a20 := Tryd.isAgg20
  z20 := Tryd.sizeOf20
  v20 := Tryd.zeroValue20
  t37 := Tryd.underlying108
  a37 := Tryd.isAgg108
  z37 := Tryd.sizeOf108
  v37 := Tryd.zeroValue108
  t46 := Tryd.underlying153
  a46 := Tryd.isAgg153
  z46 := Tryd.sizeOf153
  v46 := Tryd.zeroValue153
  t51 := Tryd.underlying187
  a51 := Tryd.isAgg187
  z51 := Tryd.sizeOf187
  v51 := Tryd.zeroValue187
  t53 := Tryd.underlying189
  a53 := Tryd.isAgg189
  z53 := Tryd.sizeOf189
  v53 := Tryd.zeroValue189
  t171 := Tryd.underlying219
  a171 := Tryd.isAgg219
  z171 := Tryd.sizeOf219
  v171 := Tryd.zeroValue219
  t173 := Tryd.underlying221
  a173 := Tryd.isAgg221
  z173 := Tryd.sizeOf221
  v173 := Tryd.zeroValue221
  t212 := Tryd.underlying234
  a212 := Tryd.isAgg234
  z212 := Tryd.sizeOf234
  v212 := Tryd.zeroValue234
  t213 := Tryd.underlying235
  a213 := Tryd.isAgg235
  z213 := Tryd.sizeOf235
  t232 := Tryd.underlying240
  a232 := Tryd.isAgg240
  z232 := Tryd.sizeOf240
  v232 := Tryd.zeroValue240
  t233 := Tryd.underlying241
  a233 := Tryd.isAgg241
  z233 := Tryd.sizeOf241
  v233 := Tryd.zeroValue241
  g17 := by kernel_rfl
  g18 := by kernel_rfl
  g19 := by kernel_rfl
  i0 := by kernel_rfl
  i2 := by kernel_rfl
  i3 := by kernel_rfl
  i4 := by kernel_rfl
  i5 := by kernel_rfl
  i9 := by kernel_rfl
  i20 := by kernel_rfl
  i37 := by kernel_rfl
  i46 := by kernel_rfl
  i51 := by kernel_rfl
  i53 := by kernel_rfl
  i171 := by kernel_rfl
  i173 := by kernel_rfl
  i212 := by kernel_rfl
  i232 := by kernel_rfl
  i233 := by kernel_rfl
  m17 := by kernel_rfl
  m18 := by kernel_rfl
  m19 := by kernel_rfl
theorem tab_of {w : World} {S : Nat → Nat → Prop} {B : Nat} (h : GlobOK CP B w S) : Lib.TabIs Tryd.prog w "internal/strconv.uint64pow10" .u64 Lib.pow10Tab := by
  obtain ⟨_, cs, el, fr, h1, h2, _⟩ := h.tab 6 ⟨.arr 20 (.int .u64), pow10⟩ rfl
  have h3 : cs = pow10.map (Value.int .u64) := repL_ints_eq h2.2
  unfold Lib.TabIs World.var?
  rw [show Tryd.prog.globalNamed "internal/strconv.uint64pow10" = some 6 by kernel_rfl]
  simp only [Option.bind_some, h1, h3]
  rfl

/-- strconv.Itoa -/
def strconv_Itoa.u (n : Int) : Option ByteArray := bif decide (-9223372036854775808 ≤ n) && decide (n ≤ 9223372036854775807) then some ⟨(Lib.itoa n).toArray⟩ else none
theorem strconv_Itoa.c (n : Int) (r : ByteArray) (h : strconv_Itoa.u n = some r) : Contract CP 137 [.v (.int .i64) n] (tupAV .str [] r) where
  enters us w := enters_fn (P := Tryd.prog) (fn := Tryd.f137) (by kernel_rfl) (by kernel_rfl) (by kernel_rfl) us w
  runs w S us hlt hG hr := by
    simp only [RepAs] at hr
    obtain ⟨u, q, rfl, h1, rfl⟩ := hr
    rw [rep_int] at h1
    subst h1
    obtain ⟨hp, hq⟩ := ite_some h
    simp only [Bool.and_eq_true, decide_eq_true_eq] at hp
    cases hq
    refine (Any.strconv_Itoa lays171 n hp.1 hp.2 w (tab_of hG)).mono ?_
    rintro e w' ⟨rfl, k, os, rfl⟩
    have hb := below_grow w k os
    exact ⟨_, S, rfl, hb, safe_of_below hlt hb, fun b o hs => ⟨.inl hs, Nat.lt_of_lt_of_le (hlt b o hs) hb.size⟩, rep_str.2 rfl⟩
noncomputable def strconv_Itoa.e : Ent := argI (.int .i64) fun x0 => endU (strconv_Itoa.u x0) (tupAV .str [])
theorem strconv_Itoa.e_ok : EntOK CP 137 (fun {_} => strconv_Itoa.e) := entA_ok (argI_ok fun x0 => endU_ok fun r h => strconv_Itoa.c x0 r h)
def lays172_ren : Go.Shelf.Ren := ⟨fun | 172 => 143 | 244 => 175 | 245 => 176 | 247 => 188 | 279 => 189 | 280 => 190 | 281 => 191 | 282 => 192 | 287 => 199 | 316 => 200 | 171 => 137 | 205 => 201 | 321 => 206 | 322 => 207 | 243 => 168 | 246 => 185 | 283 => 195 | 284 => 196 | 285 => 197 | 286 => 198 | 129 => 153 | 317 => 202 | 318 => 203 | 319 => 204 | 320 => 205 | 337 => 208 | 338 => 209 | n => n, fun | 9 => 9 | 3 => 3 | 75 => 112 | 76 => 114 | 4 => 4 | 5 => 5 | 167 => 210 | 37 => 108 | 0 => 0 | 85 => 211 | 2 => 2 | 168 => 213 | 53 => 189 | 175 => 227 | 46 => 153 | 210 => 231 | 127 => 157 | 145 => 239 | 143 => 237 | 21 => 21 | 171 => 219 | 173 => 221 | 212 => 234 | 51 => 187 | 20 => 20 | 213 => 235 | 232 => 240 | 233 => 241 | 80 => 116 | n => n, fun | 15 => 4 | 16 => 5 | 17 => 6 | 18 => 7 | 19 => 8 | n => n⟩
theorem lays172 : Go.Proofs.Lays.n172 Tryd.prog lays172_ren where
  mixed := by kernel_rfl
  f129 := Tryd.func153.trans (congrArg some (by kernel_rfl))
  f171 := Tryd.func137.trans (congrArg some (by kernel_rfl))
  f172 := Tryd.func143.trans (congrArg some (by kernel_rfl))
  f205 := Tryd.func201.trans (congrArg some (by kernel_rfl))
  f243 := Tryd.func168.trans (congrArg some (by kernel_rfl))
  f244 := Tryd.func175.trans (congrArg some (by kernel_rfl))
  f245 := Tryd.func176.trans (congrArg some (by kernel_rfl))
  f246 := Tryd.func185.trans (congrArg some (by kernel_rfl))
  f247 := Tryd.func188.trans (congrArg some (by kernel_rfl))
  f279 := Tryd.func189.trans (congrArg some (by kernel_rfl))
  f280 := Tryd.func190.trans (congrArg some (by kernel_rfl))
  f281 := Tryd.func191.trans (congrArg some (by kernel_rfl))
  f282 := Tryd.func192.trans (congrArg some (by kernel_rfl))
  f283 := Tryd.func195.trans (congrArg some (by kernel_rfl))
  f284 := Tryd.func196.trans (congrArg some (by kernel_rfl))
  f285 := Tryd.func197.trans (congrArg some (by kernel_rfl))
  f286 := Tryd.func198.trans (congrArg some (by kernel_rfl))
  f287 := Tryd.func199.trans (congrArg some (by kernel_rfl))
  f316 := Tryd.func200.trans (congrArg some (by kernel_rfl))
  f317 := Tryd.func202.trans (congrArg some (by kernel_rfl))
  f318 := Tryd.func203.trans (congrArg some (by kernel_rfl))
  f319 := Tryd.func204.trans (congrArg some (by kernel_rfl))
  f320 := Tryd.func205.trans (congrArg some (by kernel_rfl))
  f321 := Tryd.func206.trans (congrArg some (by kernel_rfl))
  f322 := Tryd.func207.trans (congrArg some (by kernel_rfl))
  f337 := Tryd.func208.trans (congrArg some (by kernel_rfl))
  f338 := Tryd.func209.trans (congrArg some (by kernel_rfl))
  t0 := Tryd.underlying0
  a0 := Tryd.isAgg0
  z0 := Tryd.sizeOf0
  v0 := Tryd.zeroValue0
  t2 := Tryd.underlying2
  a2 := Tryd.isAgg2
  z2 := Tryd.sizeOf2
  v2 := Tryd.zeroValue2
  t3 := Tryd.underlying3
  a3 := Tryd.isAgg3
  z3 := Tryd.sizeOf3
  v3 := Tryd.zeroValue3
  t4 := Tryd.underlying4
  a4 := Tryd.isAgg4
  z4 := Tryd.sizeOf4
  v4 := Tryd.zeroValue4
  t5 := Tryd.underlying5
  a5 := Tryd.isAgg5
  z5 := Tryd.sizeOf5
  v5 := Tryd.zeroValue5
  t9 := Tryd.underlying9
  a9 := Tryd.isAgg9
  z9 := Tryd.sizeOf9
  v9 := Tryd.zeroValue9
  t20 := Tryd.underlying20
  a20 := Tryd.isAgg20
  z20 := Tryd.sizeOf20
  v20 := Tryd.zeroValue20
  t21 := Tryd.underlying21
  a21 := Tryd.isAgg21
  z21 := Tryd.sizeOf21
  v21 := Tryd.zeroValue21
  t37 := Tryd.underlying108
  a37 := Tryd.isAgg108
  z37 := Tryd.sizeOf108
  v37 := Tryd.zeroValue108
  t46 := Tryd.underlying153
  a46 := Tryd.isAgg153
  z46 := Tryd.sizeOf153
  v46 := Tryd.zeroValue153
  t51 := Tryd.underlying187
  a51 := Tryd.isAgg187
  z51 := Tryd.sizeOf187
  v51 := Tryd.zeroValue187
  t53 := Tryd.underlying189
  a53 := Tryd.isAgg189
  z53 := Tryd.sizeOf189
  v53 := Tryd.zeroValue189
  t75 := Tryd.underlying112
  a75 := Tryd.isAgg112
  z75 := Tryd.sizeOf112
  v75 := Tryd.zeroValue112
  t76 := Tryd.underlying114
  a76 := Tryd.isAgg114
  z76 := Tryd.sizeOf114
  v76 := Tryd.zeroValue114
  t85 := Tryd.underlying211
  a85 := Tryd.isAgg211
  z85 := Tryd.sizeOf211
  v85 := Tryd.zeroValue211
  t127 := Tryd.underlying157
  a127 := Tryd.isAgg157
  z127 := Tryd.sizeOf157
  v127 := Tryd.zeroValue157
  t143 := Tryd.underlying237
  a143 := Tryd.isAgg237
  z143 := Tryd.sizeOf237
  v143 := Tryd.zeroValue237
  t145 := Tryd.underlying239
  a145 := Tryd.isAgg239
  z145 := Tryd.sizeOf239
  v145 := Tryd.zeroValue239
  t167 := Tryd.underlying210
  a167 := Tryd.isAgg210
  z167 := Tryd.sizeOf210
  v167 := Tryd.zeroValue210
  t168 := Tryd.underlying213
  a168 := Tryd.isAgg213
  z168 := Tryd.sizeOf213
  v168 := Tryd.zeroValue213
  t171 := Tryd.underlying219
  a171 := Tryd.isAgg219
  z171 := Tryd.sizeOf219
  v171 := Tryd.zeroValue219
  t173 := Tryd.underlying221
  a173 := Tryd.isAgg221
  z173 := Tryd.sizeOf221
  v173 := Tryd.zeroValue221
  t175 := Tryd.underlying227
  a175 := Tryd.isAgg227
  z175 := Tryd.sizeOf227
  v175 := Tryd.zeroValue227
  t210 := Tryd.underlying231
  a210 := Tryd.isAgg231
  z210 := Tryd.sizeOf231
  v210 := Tryd.zeroValue231
  t212 := Tryd.underlying234
  a212 := Tryd.isAgg234
  z212 := Tryd.sizeOf234
  v212 := Tryd.zeroValue234
  t213 := Tryd.underlying235
  a213 := Tryd.isAgg235
  z213 := Tryd.sizeOf235
  t232 := Tryd.underlying240
  a232 := Tryd.isAgg240
  z232 := Tryd.sizeOf240
  v232 := Tryd.zeroValue240
  t233 := Tryd.underlying241
  a233 := Tryd.isAgg241
  z233 := Tryd.sizeOf241
  v233 := Tryd.zeroValue241
  g15 := by kernel_rfl
  g16 := by kernel_rfl
  g17 := by kernel_rfl
  g18 := by kernel_rfl
  g19 := by kernel_rfl
/-- strconv.Atoi, at a numeral of at most eighteen bytes -/
def strconv_Atoi.u (s : ByteArray) : Option (Int × Value) := bif decide (s.size ≤ 18) then (Lib.atoi s.data.toList).map fun n => (n, .nilIface) else none
theorem strconv_Atoi.c (s : ByteArray) (r : Int × Value) (h : strconv_Atoi.u s = some r) : Contract C 143 [.v .str s] (tupAV (.int .i64) [.raw .iface] r) where
  enters us w := enters_fn (P := Tryd.prog) (fn := Tryd.f143) (by kernel_rfl) (by kernel_rfl) (by kernel_rfl) us w
  runs w S us hlt hG hr := by
    simp only [RepAs] at hr
    obtain ⟨u, q, rfl, h1, rfl⟩ := hr
    rw [rep_str] at h1
    subst h1
    obtain ⟨hp, hq⟩ := ite_some h
    obtain ⟨n, hn, rfl⟩ := Option.map_eq_some_iff.1 hq
    refine (Any.strconv_Atoi lays172 s n (of_decide_eq_true hp) hn w).mono ?_
    rintro e w' ⟨rfl, t, rfl⟩
    have hg := grows_bytes w (lays172_ren.t 5) t
    have hb : Below w.heap.size w (Lib.bytesWorld w (lays172_ren.t 5) t) := hg.below (Nat.le_refl _)
    refine ⟨_, S, rfl, hb, safe_of_below hlt hb, fun b o hs => ⟨.inl hs, Nat.lt_of_lt_of_le (hlt b o hs) hb.size⟩, ?_⟩
    simp only [tupAV, tupAVs, RepA, RepAs]
    exact ⟨[.int .i64 n, .nilIface], rfl, _, _, rfl, ⟨[_], rfl, rfl⟩, _, _, rfl, ⟨[.nilIface], ⟨rfl, rfl⟩, rfl⟩, rfl⟩
noncomputable def strconv_Atoi.e : Ent := argI .str fun x0 => endU (strconv_Atoi.u x0) (tupAV (.int .i64) [.raw .iface])
theorem strconv_Atoi.e_ok : EntOK C 143 (fun {_} => strconv_Atoi.e) := entA_ok (argI_ok fun x0 => endU_ok fun r h => strconv_Atoi.c x0 r h)
def lays217_ren : Go.Shelf.Ren := ⟨fun | 217 => 130 | 266 => 164 | n => n, fun | 9 => 9 | 5 => 5 | 3 => 3 | n => n, fun | n => n⟩
theorem lays217 : Go.Proofs.Lays.n217 Tryd.prog lays217_ren where
  mixed := by kernel_rfl
  f217 := Tryd.func130.trans (congrArg some (by kernel_rfl))
  f266 := Tryd.func164.trans (congrArg some (by kernel_rfl))
  t3 := Tryd.underlying3
  a3 := Tryd.isAgg3
  z3 := Tryd.sizeOf3
  v3 := Tryd.zeroValue3
  t5 := Tryd.underlying5
  a5 := Tryd.isAgg5
  z5 := Tryd.sizeOf5
  v5 := Tryd.zeroValue5
  t9 := Tryd.underlying9
  a9 := Tryd.isAgg9
  z9 := Tryd.sizeOf9
  v9 := Tryd.zeroValue9
/-- internal/stringslite.IndexByte -/
def internal_stringslite_IndexByte.t (s : ByteArray) (c : Int) : Int := Lib.indexByte s.data.toList c.toNat.toUInt8
theorem internal_stringslite_IndexByte.c (s : ByteArray) (c : Int) : Contract C 130 [.v .str s, .v (.int .u8) c] (tupAV (.int .i64) [] (internal_stringslite_IndexByte.t s c)) where
  enters us w := enters_fn (P := Tryd.prog) (fn := Tryd.f130) (by kernel_rfl) (by kernel_rfl) (by kernel_rfl) us w
  runs w S us hlt hG hr := by
    simp only [RepAs] at hr
    obtain ⟨u, q, rfl, h1, v, q', rfl, h2, rfl⟩ := hr
    rw [rep_str] at h1
    rw [rep_int] at h2
    subst h1 h2
    refine (Any.stringslite_IndexByte lays217 s c w).mono ?_
    rintro e w' ⟨rfl, rfl⟩
    exact ⟨_, S, rfl, Below.refl _ _, Safe.refl _ _, fun b o hs => ⟨.inl hs, hlt b o hs⟩, rep_int.2 rfl⟩
noncomputable def internal_stringslite_IndexByte.e : Ent := argI .str fun x0 => argI (.int .u8) fun x1 => endT (tupAV (.int .i64) [] (internal_stringslite_IndexByte.t x0 x1))
theorem internal_stringslite_IndexByte.e_ok : EntOK C 130 (fun {_} => internal_stringslite_IndexByte.e) := entA_ok (argI_ok fun x0 => argI_ok fun x1 => endT_ok (internal_stringslite_IndexByte.c x0 x1))
def lays144_ren : Go.Shelf.Ren := ⟨fun | 144 => 106 | 143 => 131 | 219 => 138 | 217 => 130 | 225 => 169 | 224 => 170 | 267 => 171 | 266 => 164 | 314 => 186 | n => n, fun | 9 => 9 | 4 => 4 | 3 => 3 | 5 => 5 | 46 => 153 | 146 => 208 | 51 => 187 | n => n, fun | 1 => 1 | n => n⟩
theorem lays144 : Go.Proofs.Lays.n144 Tryd.prog lays144_ren where
  mixed := by kernel_rfl
  f143 := Tryd.func131.trans (congrArg some (by kernel_rfl))
  f144 := Tryd.func106.trans (congrArg some (by kernel_rfl))
  f217 := Tryd.func130.trans (congrArg some (by kernel_rfl))
  f219 := Tryd.func138.trans (congrArg some (by kernel_rfl))
  f224 := Tryd.func170.trans (congrArg some (by kernel_rfl))
  f225 := Tryd.func169.trans (congrArg some (by kernel_rfl))
  f266 := Tryd.func164.trans (congrArg some (by kernel_rfl))
  f267 := Tryd.func171.trans (congrArg some (by kernel_rfl))
  f314 := Tryd.func186.trans (congrArg some (by kernel_rfl))
  t3 := Tryd.underlying3
  a3 := Tryd.isAgg3
  z3 := Tryd.sizeOf3
  v3 := Tryd.zeroValue3
  t4 := Tryd.underlying4
  a4 := Tryd.isAgg4
  z4 := Tryd.sizeOf4
  v4 := Tryd.zeroValue4
  t5 := Tryd.underlying5
  a5 := Tryd.isAgg5
  z5 := Tryd.sizeOf5
  v5 := Tryd.zeroValue5
  t9 := Tryd.underlying9
  a9 := Tryd.isAgg9
  z9 := Tryd.sizeOf9
  v9 := Tryd.zeroValue9
  t46 := Tryd.underlying153
  a46 := Tryd.isAgg153
  z46 := Tryd.sizeOf153
  v46 := Tryd.zeroValue153
  t51 := Tryd.underlying187
  a51 := Tryd.isAgg187
  z51 := Tryd.sizeOf187
  v51 := Tryd.zeroValue187
  t146 := Tryd.underlying208
  a146 := Tryd.isAgg208
  z146 := Tryd.sizeOf208
  v146 := Tryd.zeroValue208
  g1 := by kernel_rfl
/-- strings.Contains -/
def strings_Contains.u (s sub : ByteArray) : Option Bool := bif decide (s.size < 4294967281) then some (Lib.contains s.data.toList sub.data.toList) else none
theorem strings_Contains.c (s sub : ByteArray) (r : Bool) (h : strings_Contains.u s sub = some r) : Contract CM 106 [.v .str s, .v .str sub] (tupAV .bool [] r) where
  enters us w := enters_fn (P := Tryd.prog) (fn := Tryd.f106) (by kernel_rfl) (by kernel_rfl) (by kernel_rfl) us w
  runs w S us hlt hG hr := by
    simp only [RepAs] at hr
    obtain ⟨u, q, rfl, h1, v, q', rfl, h2, rfl⟩ := hr
    rw [rep_str] at h1 h2
    subst h1 h2
    obtain ⟨hp, hq⟩ := ite_some h
    cases hq
    obtain ⟨_, ⟨m, hm⟩, _⟩ := hG.any 1 rfl
    refine (Any.strings_Contains lays144 s sub m w (of_decide_eq_true hp) hm).mono ?_
    rintro e w' ⟨rfl, rfl⟩
    exact ⟨_, S, rfl, Below.refl _ _, Safe.refl _ _, fun b o hs => ⟨.inl hs, hlt b o hs⟩, rep_bool.2 rfl⟩
noncomputable def strings_Contains.e : Ent := argI .str fun x0 => argI .str fun x1 => endU (strings_Contains.u x0 x1) (tupAV .bool [])
theorem strings_Contains.e_ok : EntOK CM 106 (fun {_} => strings_Contains.e) := entA_ok (argI_ok fun x0 => argI_ok fun x1 => endU_ok fun r h => strings_Contains.c x0 x1 r h)
def laysSplit_ren : Go.Shelf.Ren := ⟨fun | 146 => 85 | 221 => 120 | 268 => 139 | 138 => 140 | 143 => 131 | 195 => 172 | 197 => 173 | 218 => 174 | 219 => 138 | 260 => 187 | 217 => 130 | 225 => 169 | 224 => 170 | 267 => 171 | 266 => 164 | 314 => 186 | n => n, fun | 9 => 9 | 31 => 95 | 3 => 3 | 4 => 4 | 0 => 0 | 105 => 196 | 21 => 21 | 5 => 5 | 46 => 153 | 119 => 223 | 139 => 226 | 138 => 225 | 146 => 208 | 51 => 187 | n => n, fun | 1 => 1 | 3 => 2 | 4 => 3 | n => n⟩
theorem laysSplit : Go.Proofs.Lays.n146 Tryd.prog laysSplit_ren where
  mixed := by kernel_rfl
  f138 := Tryd.func140.trans (congrArg some (by kernel_rfl))
  f143 := Tryd.func131.trans (congrArg some (by kernel_rfl))
  f146 := Tryd.func85.trans (congrArg some (by kernel_rfl))
  f195 := Tryd.func172.trans (congrArg some (by kernel_rfl))
  f197 := Tryd.func173.trans (congrArg some (by kernel_rfl))
  f217 := Tryd.func130.trans (congrArg some (by kernel_rfl))
  f218 := Tryd.func174.trans (congrArg some (by kernel_rfl))
  f219 := Tryd.func138.trans (congrArg some (by kernel_rfl))
  f221 := Tryd.func120.trans (congrArg some (by kernel_rfl))
  f224 := Tryd.func170.trans (congrArg some (by kernel_rfl))
  f225 := Tryd.func169.trans (congrArg some (by kernel_rfl))
  f260 := Tryd.func187.trans (congrArg some (by kernel_rfl))
  f266 := Tryd.func164.trans (congrArg some (by kernel_rfl))
  f267 := Tryd.func171.trans (congrArg some (by kernel_rfl))
  f268 := Tryd.func139.trans (congrArg some (by kernel_rfl))
  f314 := Tryd.func186.trans (congrArg some (by kernel_rfl))
  t0 := Tryd.underlying0
  a0 := Tryd.isAgg0
  z0 := Tryd.sizeOf0
  v0 := Tryd.zeroValue0
  t3 := Tryd.underlying3
  a3 := Tryd.isAgg3
  z3 := Tryd.sizeOf3
  v3 := Tryd.zeroValue3
  t4 := Tryd.underlying4
  a4 := Tryd.isAgg4
  z4 := Tryd.sizeOf4
  v4 := Tryd.zeroValue4
  t5 := Tryd.underlying5
  a5 := Tryd.isAgg5
  z5 := Tryd.sizeOf5
  v5 := Tryd.zeroValue5
  t9 := Tryd.underlying9
  a9 := Tryd.isAgg9
  z9 := Tryd.sizeOf9
  v9 := Tryd.zeroValue9
  t21 := Tryd.underlying21
  a21 := Tryd.isAgg21
  z21 := Tryd.sizeOf21
  v21 := Tryd.zeroValue21
  t31 := Tryd.underlying95
  a31 := Tryd.isAgg95
  z31 := Tryd.sizeOf95
  v31 := Tryd.zeroValue95
  t46 := Tryd.underlying153
  a46 := Tryd.isAgg153
  z46 := Tryd.sizeOf153
  v46 := Tryd.zeroValue153
  t51 := Tryd.underlying187
  a51 := Tryd.isAgg187
  z51 := Tryd.sizeOf187
  v51 := Tryd.zeroValue187
  t105 := Tryd.underlying196
  a105 := Tryd.isAgg196
  z105 := Tryd.sizeOf196
  v105 := Tryd.zeroValue196
  t119 := Tryd.underlying223
  a119 := Tryd.isAgg223
  z119 := Tryd.sizeOf223
  t138 := Tryd.underlying225
  a138 := Tryd.isAgg225
  z138 := Tryd.sizeOf225
  v138 := Tryd.zeroValue225
  t139 := Tryd.underlying226
  a139 := Tryd.isAgg226
  z139 := Tryd.sizeOf226
  v139 := Tryd.zeroValue226
  t146 := Tryd.underlying208
  a146 := Tryd.isAgg208
  z146 := Tryd.sizeOf208
  v146 := Tryd.zeroValue208
  g1 := by kernel_rfl
  g3 := by kernel_rfl
  g4 := by kernel_rfl
/-- strings.Split -/
def strings_Split.u (s sep : ByteArray) : Option (List ByteArray) := bif decide (s.size < 4294967281) && decide (1 ≤ sep.size) then some (Lib.splitB sep 0 (Lib.countB s sep) s) else none
theorem alloc_heap (w : World) (cs : List Value) (t : TypeId) : (w.alloc (.cells cs.toArray t)).heap[w.heap.size]? = some (.cells cs.toArray t (0, 0)) := Array.getElem?_push_size
theorem alloc_size (w : World) (o : Obj) : (w.alloc o).heap.size = w.heap.size + 1 := Array.size_push _
theorem repL_strs {w : World} {S : Nat → Nat → Prop} : ∀ (l : List ByteArray), RepL (RepC w S .str) l (l.map Value.string)
  | [] => rfl
  | x :: l => ⟨[.string x], _, rfl, rfl, repL_strs l⟩
theorem strings_Split.c (s sep : ByteArray) (r : List ByteArray) (h : strings_Split.u s sep = some r) : Contract CM 85 [.v .str s, .v .str sep] (tupAV (.slice .str) [] r) where
  enters us w := enters_fn (P := Tryd.prog) (fn := Tryd.f85) (by kernel_rfl) (by kernel_rfl) (by kernel_rfl) us w
  runs w S us hlt hG hr := by
    simp only [RepAs] at hr
    obtain ⟨u, q, rfl, h1, v, q', rfl, h2, rfl⟩ := hr
    rw [rep_str] at h1 h2
    subst h1 h2
    obtain ⟨hp, hq⟩ := ite_some h
    simp only [Bool.and_eq_true, decide_eq_true_eq] at hp
    cases hq
    obtain ⟨_, ⟨m, hm⟩, _⟩ := hG.any 1 rfl
    refine (Any.strings_Split laysSplit (by kernel_rfl) s sep m w hp.1 hm hp.2).mono ?_
    rintro e w' ⟨rfl, rfl⟩
    have hlen := Lib.splitB_all sep hp.2 0 (Lib.countB s sep) s rfl
    have hb : Below w.heap.size w (w.alloc (.cells ((Lib.splitB sep 0 (Lib.countB s sep) s).map Value.string).toArray (laysSplit_ren.t 9))) := (Below.refl _ w).alloc (Nat.le_refl _) _
    refine ⟨_, fun b o => S b o ∨ (b = w.heap.size ∧ o < Lib.countB s sep + 1), rfl, hb, ⟨fun b o h => .inl h, fun b o h => World.cell?_of_block (a := ⟨b, o, none⟩) (hb.block b (hlt b o h))⟩, fun b o h => ?_, ?_⟩
    · rcases h with h | ⟨rfl, _⟩
      · exact ⟨.inl h, Nat.lt_of_lt_of_le (hlt b o h) hb.size⟩
      · exact ⟨.inr (Nat.le_refl _), by rw [alloc_size]; exact Nat.lt_succ_self _⟩
    · simp only [tupAV, rep_v]
      refine ⟨[_], ⟨some ⟨w.heap.size, 0, none⟩, Lib.countB s sep + 1, by rw [hlen], by rw [hlen]; exact Nat.le_refl _, .inr ⟨w.heap.size, 0, (Lib.splitB sep 0 (Lib.countB s sep) s).map Value.string, rfl, repL_strs _, fun j hj => ⟨?_, .inr ⟨rfl, ?_⟩⟩⟩⟩, rfl⟩
      · exact (cellsAt_block (alloc_heap w _ _) j hj)
      · rw [List.length_map, hlen] at hj; rw [Nat.zero_add]; exact hj
noncomputable def strings_Split.e : Ent := argI .str fun x0 => argI .str fun x1 => endU (strings_Split.u x0 x1) (tupAV (.slice .str) [])
theorem strings_Split.e_ok : EntOK CM 85 (fun {_} => strings_Split.e) := entA_ok (argI_ok fun x0 => argI_ok fun x1 => endU_ok fun r h => strings_Split.c x0 x1 r h)
def laysClone97_ren : Go.Shelf.Ren := ⟨fun | 41 => 97 | n => n, fun | 22 => 82 | 23 => 51 | 4 => 4 | n => n, fun | n => n⟩
theorem laysClone97 : Go.Proofs.SlLaysE0.n41 Tryd.prog laysClone97_ren where
  mixed := by kernel_rfl
  f41 := ⟨"slices.Clone[[]becket/event.Event,becket/event.Event]", by decide, Tryd.func97.trans (congrArg some (by kernel_rfl))⟩
  t4 := Tryd.underlying4
  a4 := Tryd.isAgg4
  z4 := Tryd.sizeOf4
  v4 := Tryd.zeroValue4
  t22 := Tryd.underlying82
  a22 := Tryd.isAgg82
  z22 := Tryd.sizeOf82
  v22 := Tryd.zeroValue82
/-- slices.Clone[[]becket/event.Event,becket/event.Event] -/
def slices_Clone_97.fx {Ω : Type} := cloneFx 51 (.pair (.int .i64) (.pair (.int .i64) (.pair (.int .i64) (.pair (.int .i64) .unit)))) (Ω := Ω)
theorem slices_Clone_97.fx_ok : FxOK C 97 (fun {_} => slices_Clone_97.fx) := cloneFx_ok (fun us w => enters_fn (P := Tryd.prog) (fn := Tryd.f97) (by kernel_rfl) (by kernel_rfl) (by kernel_rfl) us w) (fun ad n c news w h1 h2 h3 h4 => clone_lay C_ok laysClone97 (ts := 82) (e := (.pair (.int .i64) (.pair (.int .i64) (.pair (.int .i64) (.pair (.int .i64) .unit))))) (by kernel_rfl) (by kernel_rfl) Tryd.underlying82 (by decide) ad n c news w h1 h2 h3 h4) (fun n c w => AnyE.slices_Clone_nil laysClone97 n c w)
def laysSort_ren : Go.Shelf.Ren := ⟨fun | 5 => 101 | 8 => 125 | 7 => 129 | 19 => 152 | 20 => 153 | 10 => 155 | 11 => 156 | 12 => 157 | 13 => 158 | 14 => 159 | 15 => 160 | 16 => 161 | 17 => 162 | 18 => 163 | 30 => 182 | 31 => 178 | 32 => 179 | 33 => 183 | 34 => 184 | 35 => 154 | 40 => 194 | n => n, fun | 23 => 25 | 25 => 3 | 3 => 3 | 32 => 153 | 22 => 25 | 0 => 0 | 44 => 187 | 46 => 189 | 4 => 4 | 36 => 181 | 35 => 180 | 41 => 99 | 5 => 5 | 9 => 9 | 53 => 199 | 57 => 203 | 63 => 216 | 64 => 126 | n => n, fun | n => n⟩
theorem laysSort : Go.Proofs.SlLaysM.n5 Tryd.prog laysSort_ren where
  mixed := by kernel_rfl
  f5 := ⟨"slices.Sort[[]int,int]", by decide, Tryd.func101.trans (congrArg some (by kernel_rfl))⟩
  f7 := ⟨"slices.pdqsortOrdered[int]", by decide, Tryd.func129.trans (congrArg some (by kernel_rfl))⟩
  f8 := Tryd.func125.trans (congrArg some (by kernel_rfl))
  f10 := ⟨"slices.insertionSortOrdered[int]", by decide, Tryd.func155.trans (congrArg some (by kernel_rfl))⟩
  f11 := ⟨"slices.heapSortOrdered[int]", by decide, Tryd.func156.trans (congrArg some (by kernel_rfl))⟩
  f12 := ⟨"slices.breakPatternsOrdered[int]", by decide, Tryd.func157.trans (congrArg some (by kernel_rfl))⟩
  f13 := ⟨"slices.choosePivotOrdered[int]", by decide, Tryd.func158.trans (congrArg some (by kernel_rfl))⟩
  f14 := ⟨"slices.reverseRangeOrdered[int]", by decide, Tryd.func159.trans (congrArg some (by kernel_rfl))⟩
  f15 := ⟨"slices.partialInsertionSortOrdered[int]", by decide, Tryd.func160.trans (congrArg some (by kernel_rfl))⟩
  f16 := ⟨"cmp.Less[int]", by decide, Tryd.func161.trans (congrArg some (by kernel_rfl))⟩
  f17 := ⟨"slices.partitionEqualOrdered[int]", by decide, Tryd.func162.trans (congrArg some (by kernel_rfl))⟩
  f18 := ⟨"slices.partitionOrdered[int]", by decide, Tryd.func163.trans (congrArg some (by kernel_rfl))⟩
  f19 := Tryd.func152.trans (congrArg some (by kernel_rfl))
  f20 := Tryd.func153.trans (congrArg some (by kernel_rfl))
  f30 := ⟨"slices.siftDownOrdered[int]", by decide, Tryd.func182.trans (congrArg some (by kernel_rfl))⟩
  f31 := Tryd.func178.trans (congrArg some (by kernel_rfl))
  f32 := Tryd.func179.trans (congrArg some (by kernel_rfl))
  f33 := ⟨"slices.medianAdjacentOrdered[int]", by decide, Tryd.func183.trans (congrArg some (by kernel_rfl))⟩
  f34 := ⟨"slices.medianOrdered[int]", by decide, Tryd.func184.trans (congrArg some (by kernel_rfl))⟩
  f35 := ⟨"cmp.isNaN[int]", by decide, Tryd.func154.trans (congrArg some (by kernel_rfl))⟩
  f40 := ⟨"slices.order2Ordered[int]", by decide, Tryd.func194.trans (congrArg some (by kernel_rfl))⟩
  t0 := Tryd.underlying0
  a0 := Tryd.isAgg0
  z0 := Tryd.sizeOf0
  v0 := Tryd.zeroValue0
  t3 := Tryd.underlying3
  a3 := Tryd.isAgg3
  z3 := Tryd.sizeOf3
  v3 := Tryd.zeroValue3
  t4 := Tryd.underlying4
  a4 := Tryd.isAgg4
  z4 := Tryd.sizeOf4
  v4 := Tryd.zeroValue4
  t5 := Tryd.underlying5
  a5 := Tryd.isAgg5
  z5 := Tryd.sizeOf5
  v5 := Tryd.zeroValue5
  t9 := Tryd.underlying9
  a9 := Tryd.isAgg9
  z9 := Tryd.sizeOf9
  v9 := Tryd.zeroValue9
  t22 := Tryd.underlying25
  a22 := Tryd.isAgg25
  z22 := Tryd.sizeOf25
  v22 := Tryd.zeroValue25
  t23 := Tryd.underlying25
  a23 := Tryd.isAgg25
  z23 := Tryd.sizeOf25
  v23 := Tryd.zeroValue25
  t25 := Tryd.underlying3
  a25 := Tryd.isAgg3
  z25 := Tryd.sizeOf3
  v25 := Tryd.zeroValue3
  t32 := Tryd.underlying153
  a32 := Tryd.isAgg153
  z32 := Tryd.sizeOf153
  v32 := Tryd.zeroValue153
  t35 := Tryd.underlying180
  a35 := Tryd.isAgg180
  z35 := Tryd.sizeOf180
  v35 := Tryd.zeroValue180
  t36 := Tryd.underlying181
  a36 := Tryd.isAgg181
  z36 := Tryd.sizeOf181
  v36 := Tryd.zeroValue181
  t41 := Tryd.underlying99
  a41 := Tryd.isAgg99
  z41 := Tryd.sizeOf99
  v41 := Tryd.zeroValue99
  t44 := Tryd.underlying187
  a44 := Tryd.isAgg187
  z44 := Tryd.sizeOf187
  v44 := Tryd.zeroValue187
  t46 := Tryd.underlying189
  a46 := Tryd.isAgg189
  z46 := Tryd.sizeOf189
  v46 := Tryd.zeroValue189
  t53 := Tryd.underlying199
  a53 := Tryd.isAgg199
  z53 := Tryd.sizeOf199
  v53 := Tryd.zeroValue199
  t57 := Tryd.underlying203
  a57 := Tryd.isAgg203
  z57 := Tryd.sizeOf203
  v57 := Tryd.zeroValue203
  t63 := Tryd.underlying216
  a63 := Tryd.isAgg216
  z63 := Tryd.sizeOf216
  v63 := Tryd.zeroValue216
  t64 := Tryd.underlying126
  a64 := Tryd.isAgg126
  z64 := Tryd.sizeOf126
  v64 := Tryd.zeroValue126
/-- slices.Sort[[]int,int] -/
def slices_Sort.fx {Ω : Type} := sortFx (Ω := Ω)
theorem slices_Sort.fx_ok : FxOK C 101 (fun {_} => slices_Sort.fx) := sortFx_ok (fun us w => enters_fn (P := Tryd.prog) (fn := Tryd.f101) (by kernel_rfl) (by kernel_rfl) (by kernel_rfl) us w) (fun blk cap zs w h1 h2 h3 => AnyM.slices_Sort_int laysSort blk 0 cap zs w h1 h2 h3) (fun p cap w => AnyM.slices_Sort_int_none laysSort p cap w)
end Go.Proofs.YtjhkagfolmhacaaDoor.K

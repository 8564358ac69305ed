/- The tables that may be known, and the library functions that the program leans on, off the shelf. -/
import Derived.Test.YtfihhbgppgkafaaDoorX
import Derived.Test.YtfihhbgppgkafaaDoorKF
import Derived.Shelf.Strconv.Itoa3
import Derived.Shelf.Strconv.Atoi
import Derived.Shelf.Strings.Search1
import Derived.Shelf.Strings.Search3
import Derived.Shelf.Strings.OnBuilder
import Derived.Shelf.Strings.Repeat
set_option maxRecDepth 100000
set_option linter.unusedVariables false
namespace Go.Proofs.YtfihhbgppgkafaaDoor.K
open Go Go.RowKit

/-- The powers of ten. -/
def pow10 : List Int := [1, 10, 100, 1000, 10000, 100000, 1000000, 10000000, 100000000, 1000000000, 10000000000, 100000000000, 1000000000000, 10000000000000, 100000000000000, 1000000000000000, 10000000000000000, 100000000000000000, 1000000000000000000, 10000000000000000000]
/-- The table of opcodes. -/
def kindsT : List (ByteArray × (ByteArray × (Int × Unit))) := [(bs [110, 111, 112], bs [45, 45, 45], 0, ()), (bs [104, 97, 108, 116], bs [45, 45, 45], 5, ()), (bs [109, 111, 118], bs [114, 114, 45], 0, ()), (bs [115, 101, 116], bs [114, 105, 106], 0, ()), (bs [97, 100, 100], bs [114, 114, 114], 0, ()), (bs [115, 117, 98], bs [114, 114, 114], 0, ()), (bs [109, 117, 108], bs [114, 114, 114], 0, ()), (bs [100, 105, 118], bs [114, 114, 114], 0, ()), (bs [114, 101, 109], bs [114, 114, 114], 0, ()), (bs [97, 110, 100], bs [114, 114, 114], 0, ()), (bs [111, 114], bs [114, 114, 114], 0, ()), (bs [120, 111, 114], bs [114, 114, 114], 0, ()), (bs [115, 104, 108], bs [114, 114, 114], 0, ()), (bs [115, 104, 114], bs [114, 114, 114], 0, ()), (bs [110, 111, 116], bs [114, 114, 45], 0, ()), (bs [110, 101, 103], bs [114, 114, 45], 0, ()), (bs [108, 116], bs [114, 114, 114], 0, ()), (bs [101, 113], bs [114, 114, 114], 0, ()), (bs [106, 109, 112], bs [116, 45, 45], 1, ()), (bs [106, 122], bs [114, 116, 45], 1, ()), (bs [106, 110, 122], bs [114, 116, 45], 1, ()), (bs [106, 98, 97, 100], bs [116, 45, 45], 1, ()), (bs [99, 97, 108, 108], bs [116, 45, 45], 1, ()), (bs [114, 101, 116], bs [45, 45, 45], 1, ()), (bs [108, 111, 97, 100], bs [114, 114, 45], 0, ()), (bs [115, 116, 111, 114, 101], bs [114, 114, 45], 0, ()), (bs [102, 97, 105, 108], bs [115, 45, 45], 5, ()), (bs [101, 109, 105, 116], bs [114, 45, 45], 4, ()), (bs [110, 111, 119], bs [114, 45, 45], 4, ()), (bs [109, 101], bs [114, 45, 45], 4, ()), (bs [115, 112, 97, 119, 110], bs [114, 112, 114], 4, ()), (bs [106, 111, 105, 110], bs [114, 45, 45], 2, ()), (bs [115, 108, 101, 101, 112], bs [114, 45, 45], 2, ()), (bs [115, 101, 110, 100], bs [99, 114, 45], 2, ()), (bs [114, 101, 99, 118], bs [99, 114, 45], 2, ()), (bs [112, 111, 105, 115, 111, 110], bs [99, 114, 45], 4, ()), (bs [101, 110, 114, 111, 108], bs [98, 45, 45], 4, ()), (bs [114, 101, 115, 105, 103, 110], bs [98, 45, 45], 4, ()), (bs [115, 121, 110, 99], bs [98, 45, 45], 2, ()), (bs [102, 97, 108, 108], bs [107, 45, 45], 2, ()), (bs [102, 108, 117, 115, 104], bs [114, 107, 45], 4, ()), (bs [97, 108, 116], bs [114, 109, 110], 2, ()), (bs [103, 105, 110], bs [99, 114, 103], 3, ()), (bs [103, 98, 97, 114], bs [98, 45, 103], 3, ()), (bs [103, 116, 105, 109, 101], bs [114, 45, 103], 3, ()), (bs [103, 115, 107, 105, 112], bs [45, 45, 103], 3, ()), (bs [112, 104, 97, 115, 101], bs [114, 98, 45], 4, ()), (bs [115, 105, 122, 101], bs [114, 98, 45], 4, ())]
def orG (f h : Nat → Option Dat) : Nat → Option Dat := fun g => match f g with | some d => some d | none => h g
def gP : Nat → Option Dat := fun g => bif g == 2 then some (⟨.arr 20 (.int .u64), pow10⟩ : Dat) else none
def gK : Nat → Option Dat := fun g => bif g == 0 then some (⟨.arr 48 (.pair .str (.pair .str (.pair (.int .i64) .unit))), kindsT⟩ : Dat) else none
noncomputable def CK : Cfg := { C with G := gK }
theorem CK_ok : CK.OK := ⟨C_ok.ty, C_ok.mixed⟩
noncomputable def CM : Cfg := { C with M := fun g => g == 1 }
theorem CM_ok : CM.OK := ⟨C_ok.ty, C_ok.mixed⟩
noncomputable def CKM : Cfg := { C with G := gK, M := fun g => g == 1 }
theorem CKM_ok : CKM.OK := ⟨C_ok.ty, C_ok.mixed⟩
noncomputable def CP : Cfg := { C with G := gP }
theorem CP_ok : CP.OK := ⟨C_ok.ty, C_ok.mixed⟩
noncomputable def CKP : Cfg := { C with G := (orG gK gP) }
theorem CKP_ok : CKP.OK := ⟨C_ok.ty, C_ok.mixed⟩
noncomputable def CMP : Cfg := { C with G := gP, M := fun g => g == 1 }
theorem CMP_ok : CMP.OK := ⟨C_ok.ty, C_ok.mixed⟩
noncomputable def CKMP : Cfg := { C with G := (orG gK gP), M := fun g => g == 1 }
theorem CKMP_ok : CKMP.OK := ⟨C_ok.ty, C_ok.mixed⟩
theorem le_C_CK : C.le CK := ⟨rfl, (fun g d h => by cases h), (fun g h => by cases h)⟩
theorem le_C_CM : C.le CM := ⟨rfl, (fun g d h => by cases h), (fun g h => by cases h)⟩
theorem le_C_CKM : C.le CKM := ⟨rfl, (fun g d h => by cases h), (fun g h => by cases h)⟩
theorem le_C_CP : C.le CP := ⟨rfl, (fun g d h => by cases h), (fun g h => by cases h)⟩
theorem le_C_CKP : C.le CKP := ⟨rfl, (fun g d h => by cases h), (fun g h => by cases h)⟩
theorem le_C_CMP : C.le CMP := ⟨rfl, (fun g d h => by cases h), (fun g h => by cases h)⟩
theorem le_C_CKMP : C.le CKMP := ⟨rfl, (fun g d h => by cases h), (fun g h => by cases h)⟩
theorem le_CK_CKM : CK.le CKM := ⟨rfl, (fun g d h => h), (fun g h => by cases h)⟩
theorem le_CK_CKP : CK.le CKP := ⟨rfl, (fun g d h => by
  have h1 : gK g = some d := h
  show orG gK gP g = some d
  unfold orG
  rw [h1]), (fun g h => by cases h)⟩
theorem le_CK_CKMP : CK.le CKMP := ⟨rfl, (fun g d h => by
  have h1 : gK g = some d := h
  show orG gK gP g = some d
  unfold orG
  rw [h1]), (fun g h => by cases h)⟩
theorem le_CM_CKM : CM.le CKM := ⟨rfl, (fun g d h => by cases h), (fun g h => h)⟩
theorem le_CM_CMP : CM.le CMP := ⟨rfl, (fun g d h => by cases h), (fun g h => h)⟩
theorem le_CM_CKMP : CM.le CKMP := ⟨rfl, (fun g d h => by cases h), (fun g h => h)⟩
theorem le_CKM_CKMP : CKM.le CKMP := ⟨rfl, (fun g d h => by
  have h1 : gK g = some d := h
  show orG gK gP g = some d
  unfold orG
  rw [h1]), (fun g h => h)⟩
theorem le_CP_CKP : CP.le CKP := ⟨rfl, (fun g d h => by
  have h1 : gP g = some d := h
  show orG gK gP g = some d
  unfold orG gK
  cases hf : (g == 0) with
  | true => rw [show g = 0 by simpa using hf] at h1; cases h1
  | false => exact h1), (fun g h => by cases h)⟩
theorem le_CP_CMP : CP.le CMP := ⟨rfl, (fun g d h => h), (fun g h => by cases h)⟩
theorem le_CP_CKMP : CP.le CKMP := ⟨rfl, (fun g d h => by
  have h1 : gP g = some d := h
  show orG gK gP g = some d
  unfold orG gK
  cases hf : (g == 0) with
  | true => rw [show g = 0 by simpa using hf] at h1; cases h1
  | false => exact h1), (fun g h => by cases h)⟩
theorem le_CKP_CKMP : CKP.le CKMP := ⟨rfl, (fun g d h => h), (fun g h => by cases h)⟩
theorem le_CMP_CKMP : CMP.le CKMP := ⟨rfl, (fun g d h => by
  have h1 : gP g = some d := h
  show orG gK gP g = some d
  unfold orG gK
  cases hf : (g == 0) with
  | true => rw [show g = 0 by simpa using hf] at h1; cases h1
  | false => exact h1), (fun g h => h)⟩
theorem enters_fn {P : Program} {f : FuncId} {fn : Func} (hf : P.funcs[f]? = some fn) (hb : fn.body.isSome = true) (hn : (fn.name == "runtime.NumGoroutine") = false) (us : Array Value) (w : World) : (callFunc f us).run P w = .ok (.enter f us) w := by
  have hpn : (program.run P w : Result Program) = .ok P w := rfl
  have hb' : fn.body.isNone = false := by cases h : fn.body <;> simp [h] at hb ⊢
  simp only [callFunc, Sem.run_bind, hpn, Result.andThen_ok, hf, hn, hb', Bool.false_eq_true, if_false, Sem.run_pure]

theorem below_grow (w : World) (k : Nat) (os : Array Obj) : Below w.heap.size w (Go.Sort.grow (w.drewN k) os) :=
  ⟨rfl, rfl, rfl, by simp [Go.Sort.grow], fun i hi => by simp only [Go.Sort.grow, World.heap_drewN]; exact Array.getElem?_append_left hi⟩

theorem safe_of_below {w w' : World} {S : Nat → Nat → Prop} (hS : ∀ b o, S b o → b < w.heap.size) (h : Below w.heap.size w w') : Safe S S w w' :=
  ⟨fun _ _ h => h, fun b o hs => World.cell?_of_block (a := ⟨b, o, none⟩) (h.block b (hS b o hs))⟩

def lays171_ren : Go.Shelf.Ren := ⟨fun | 171 => 84 | 243 => 113 | 246 => 133 | 283 => 151 | 284 => 152 | 285 => 153 | 286 => 154 | 129 => 172 | 317 => 173 | 318 => 174 | 319 => 175 | 320 => 176 | 337 => 186 | 338 => 187 | n => n, fun | 3 => 3 | 9 => 9 | 2 => 2 | 4 => 4 | 171 => 170 | 0 => 0 | 53 => 163 | 37 => 111 | 5 => 5 | 173 => 173 | 212 => 192 | 51 => 160 | 20 => 20 | 213 => 193 | 46 => 109 | 232 => 212 | 233 => 213 | n => n, fun | 17 => 2 | 18 => 5 | 19 => 6 | n => n⟩
theorem lays171 : Go.Proofs.LaysM.n171 Tryd.prog lays171_ren where
  mixed := by kernel_rfl
  f129 := Tryd.func172.trans (congrArg some (by kernel_rfl))
  f171 := Tryd.func84.trans (congrArg some (by kernel_rfl))
  f243 := Tryd.func113.trans (congrArg some (by kernel_rfl))
  f246 := Tryd.func133.trans (congrArg some (by kernel_rfl))
  f283 := Tryd.func151.trans (congrArg some (by kernel_rfl))
  f284 := Tryd.func152.trans (congrArg some (by kernel_rfl))
  f285 := Tryd.func153.trans (congrArg some (by kernel_rfl))
  f286 := Tryd.func154.trans (congrArg some (by kernel_rfl))
  f317 := Tryd.func173.trans (congrArg some (by kernel_rfl))
  f318 := Tryd.func174.trans (congrArg some (by kernel_rfl))
  f319 := Tryd.func175.trans (congrArg some (by kernel_rfl))
  f320 := Tryd.func176.trans (congrArg some (by kernel_rfl))
  f337 := Tryd.func186.trans (congrArg some (by kernel_rfl))
  f338 := Tryd.func187.trans (congrArg some (by kernel_rfl))
  t0 := Tryd.underlying0
  a0 := Tryd.isAgg0
  z0 := Tryd.sizeOf0
  v0 := Tryd.zeroValue0
  t2 := Tryd.underlying2
  a2 := Tryd.isAgg2
  z2 := Tryd.sizeOf2
  v2 := Tryd.zeroValue2
  t3 := Tryd.underlying3
  a3 := Tryd.isAgg3
  z3 := Tryd.sizeOf3
  v3 := Tryd.zeroValue3
  t4 := Tryd.underlying4
  a4 := Tryd.isAgg4
  z4 := Tryd.sizeOf4
  v4 := Tryd.zeroValue4
  t5 := Tryd.underlying5
  a5 := Tryd.isAgg5
  z5 := Tryd.sizeOf5
  v5 := Tryd.zeroValue5
  t9 := Tryd.underlying9
  a9 := Tryd.isAgg9
  z9 := Tryd.sizeOf9
  v9 := Tryd.zeroValue9
  t20 := Tryd.underlying20
  a20 := Tryd.isAgg20
  z20 := Tryd.sizeOf20
  v20 := Tryd.zeroValue20
  t37 := Tryd.underlying111
  a37 := Tryd.isAgg111
  z37 := Tryd.sizeOf111
  v37 := Tryd.zeroValue111
  t46 := Tryd.underlying109
  a46 := Tryd.isAgg109
  z46 := Tryd.sizeOf109
  v46 := Tryd.zeroValue109
  t51 := Tryd.underlying160
  a51 := Tryd.isAgg160
  z51 := Tryd.sizeOf160
  v51 := Tryd.zeroValue160
  t53 := Tryd.underlying163
  a53 := Tryd.isAgg163
  z53 := Tryd.sizeOf163
  v53 := Tryd.zeroValue163
  t171 := Tryd.underlying170
  a171 := Tryd.isAgg170
  z171 := Tryd.sizeOf170
  v171 := Tryd.zeroValue170
  t173 := Tryd.underlying173
  a173 := Tryd.isAgg173
  z173 := Tryd.sizeOf173
  v173 := Tryd.zeroValue173
  t212 := Tryd.underlying192
  a212 := Tryd.isAgg192
  z212 := Tryd.sizeOf192
  v212 := Tryd.zeroValue192
  t213 := Tryd.underlying193
  a213 := Tryd.isAgg193
  z213 := Tryd.sizeOf193
  t232 := Tryd.underlying212
  a232 := Tryd.isAgg212
  z232 := Tryd.sizeOf212
  v232 := Tryd.zeroValue212
  t233 := Tryd.underlying213
  a233 := Tryd.isAgg213
  z233 := Tryd.sizeOf213
  v233 := Tryd.zeroValue213
  g17 := by kernel_rfl
  g18 := by kernel_rfl
  g19 := by kernel_rfl
  i0 := by kernel_rfl
  i2 := by kernel_rfl
  i3 := by kernel_rfl
  i4 := by kernel_rfl
  i5 := by kernel_rfl
  i9 := by kernel_rfl
  i20 := by kernel_rfl
  i37 := by kernel_rfl
  i46 := by kernel_rfl
  i51 := by kernel_rfl
  i53 := by kernel_rfl
  i171 := by kernel_rfl
  i173 := by kernel_rfl
  i212 := by kernel_rfl
  i232 := by kernel_rfl
  i233 := by kernel_rfl
  m17 := by kernel_rfl
  m18 := by kernel_rfl
  m19 := by kernel_rfl
theorem tab_of {w : World} {S : Nat → Nat → Prop} {B : Nat} (h : GlobOK CP B w S) : Lib.TabIs Tryd.prog w "internal/strconv.uint64pow10" .u64 Lib.pow10Tab := by
  obtain ⟨_, cs, el, fr, h1, h2, _⟩ := h.tab 2 ⟨.arr 20 (.int .u64), pow10⟩ rfl
  have h3 : cs = pow10.map (Value.int .u64) := repL_ints_eq h2.2
  unfold Lib.TabIs World.var?
  rw [show Tryd.prog.globalNamed "internal/strconv.uint64pow10" = some 2 by kernel_rfl]
  simp only [Option.bind_some, h1, h3]
  rfl

/-- strconv.Itoa -/
def strconv_Itoa.u (n : Int) : Option ByteArray := bif decide (-9223372036854775808 ≤ n) && decide (n ≤ 9223372036854775807) then some ⟨(Lib.itoa n).toArray⟩ else none
theorem strconv_Itoa.c (n : Int) (r : ByteArray) (h : strconv_Itoa.u n = some r) : Contract CP 84 [.v (.int .i64) n] (tupAV .str [] r) where
  enters us w := enters_fn (P := Tryd.prog) (fn := Tryd.f84) (by kernel_rfl) (by kernel_rfl) (by kernel_rfl) us w
  runs w S us hlt hG hr := by
    simp only [RepAs] at hr
    obtain ⟨u, q, rfl, h1, rfl⟩ := hr
    rw [rep_int] at h1
    subst h1
    obtain ⟨hp, hq⟩ := ite_some h
    simp only [Bool.and_eq_true, decide_eq_true_eq] at hp
    cases hq
    refine (Any.strconv_Itoa lays171 n hp.1 hp.2 w (tab_of hG)).mono ?_
    rintro e w' ⟨rfl, k, os, rfl⟩
    have hb := below_grow w k os
    exact ⟨_, S, rfl, hb, safe_of_below hlt hb, fun b o hs => ⟨.inl hs, Nat.lt_of_lt_of_le (hlt b o hs) hb.size⟩, rep_str.2 rfl⟩
noncomputable def strconv_Itoa.e : Ent := argI (.int .i64) fun x0 => endU (strconv_Itoa.u x0) (tupAV .str [])
theorem strconv_Itoa.e_ok : EntOK CP 84 (fun {_} => strconv_Itoa.e) := entA_ok (argI_ok fun x0 => endU_ok fun r h => strconv_Itoa.c x0 r h)
def lays172_ren : Go.Shelf.Ren := ⟨fun | 172 => 115 | 244 => 134 | 245 => 135 | 247 => 155 | 279 => 156 | 280 => 157 | 281 => 158 | 282 => 159 | 287 => 177 | 316 => 178 | 171 => 84 | 205 => 179 | 321 => 188 | 322 => 189 | 243 => 113 | 246 => 133 | 283 => 151 | 284 => 152 | 285 => 153 | 286 => 154 | 129 => 172 | 317 => 173 | 318 => 174 | 319 => 175 | 320 => 176 | 337 => 186 | 338 => 187 | n => n, fun | 9 => 9 | 3 => 3 | 75 => 126 | 76 => 128 | 4 => 4 | 5 => 5 | 167 => 175 | 37 => 111 | 0 => 0 | 85 => 176 | 2 => 2 | 168 => 178 | 53 => 163 | 175 => 194 | 46 => 109 | 210 => 198 | 127 => 146 | 145 => 209 | 143 => 207 | 21 => 21 | 171 => 170 | 173 => 173 | 212 => 192 | 51 => 160 | 20 => 20 | 213 => 193 | 232 => 212 | 233 => 213 | 80 => 130 | n => n, fun | 15 => 3 | 16 => 4 | 17 => 2 | 18 => 5 | 19 => 6 | n => n⟩
theorem lays172 : Go.Proofs.Lays.n172 Tryd.prog lays172_ren where
  mixed := by kernel_rfl
  f129 := Tryd.func172.trans (congrArg some (by kernel_rfl))
  f171 := Tryd.func84.trans (congrArg some (by kernel_rfl))
  f172 := Tryd.func115.trans (congrArg some (by kernel_rfl))
  f205 := Tryd.func179.trans (congrArg some (by kernel_rfl))
  f243 := Tryd.func113.trans (congrArg some (by kernel_rfl))
  f244 := Tryd.func134.trans (congrArg some (by kernel_rfl))
  f245 := Tryd.func135.trans (congrArg some (by kernel_rfl))
  f246 := Tryd.func133.trans (congrArg some (by kernel_rfl))
  f247 := Tryd.func155.trans (congrArg some (by kernel_rfl))
  f279 := Tryd.func156.trans (congrArg some (by kernel_rfl))
  f280 := Tryd.func157.trans (congrArg some (by kernel_rfl))
  f281 := Tryd.func158.trans (congrArg some (by kernel_rfl))
  f282 := Tryd.func159.trans (congrArg some (by kernel_rfl))
  f283 := Tryd.func151.trans (congrArg some (by kernel_rfl))
  f284 := Tryd.func152.trans (congrArg some (by kernel_rfl))
  f285 := Tryd.func153.trans (congrArg some (by kernel_rfl))
  f286 := Tryd.func154.trans (congrArg some (by kernel_rfl))
  f287 := Tryd.func177.trans (congrArg some (by kernel_rfl))
  f316 := Tryd.func178.trans (congrArg some (by kernel_rfl))
  f317 := Tryd.func173.trans (congrArg some (by kernel_rfl))
  f318 := Tryd.func174.trans (congrArg some (by kernel_rfl))
  f319 := Tryd.func175.trans (congrArg some (by kernel_rfl))
  f320 := Tryd.func176.trans (congrArg some (by kernel_rfl))
  f321 := Tryd.func188.trans (congrArg some (by kernel_rfl))
  f322 := Tryd.func189.trans (congrArg some (by kernel_rfl))
  f337 := Tryd.func186.trans (congrArg some (by kernel_rfl))
  f338 := Tryd.func187.trans (congrArg some (by kernel_rfl))
  t0 := Tryd.underlying0
  a0 := Tryd.isAgg0
  z0 := Tryd.sizeOf0
  v0 := Tryd.zeroValue0
  t2 := Tryd.underlying2
  a2 := Tryd.isAgg2
  z2 := Tryd.sizeOf2
  v2 := Tryd.zeroValue2
  t3 := Tryd.underlying3
  a3 := Tryd.isAgg3
  z3 := Tryd.sizeOf3
  v3 := Tryd.zeroValue3
  t4 := Tryd.underlying4
  a4 := Tryd.isAgg4
  z4 := Tryd.sizeOf4
  v4 := Tryd.zeroValue4
  t5 := Tryd.underlying5
  a5 := Tryd.isAgg5
  z5 := Tryd.sizeOf5
  v5 := Tryd.zeroValue5
  t9 := Tryd.underlying9
  a9 := Tryd.isAgg9
  z9 := Tryd.sizeOf9
  v9 := Tryd.zeroValue9
  t20 := Tryd.underlying20
  a20 := Tryd.isAgg20
  z20 := Tryd.sizeOf20
  v20 := Tryd.zeroValue20
  t21 := Tryd.underlying21
  a21 := Tryd.isAgg21
  z21 := Tryd.sizeOf21
  v21 := Tryd.zeroValue21
  t37 := Tryd.underlying111
  a37 := Tryd.isAgg111
  z37 := Tryd.sizeOf111
  v37 := Tryd.zeroValue111
  t46 := Tryd.underlying109
  a46 := Tryd.isAgg109
  z46 := Tryd.sizeOf109
  v46 := Tryd.zeroValue109
  t51 := Tryd.underlying160
  a51 := Tryd.isAgg160
  z51 := Tryd.sizeOf160
  v51 := Tryd.zeroValue160
  t53 := Tryd.underlying163
  a53 := Tryd.isAgg163
  z53 := Tryd.sizeOf163
  v53 := Tryd.zeroValue163
  t75 := Tryd.underlying126
  a75 := Tryd.isAgg126
  z75 := Tryd.sizeOf126
  v75 := Tryd.zeroValue126
  t76 := Tryd.underlying128
  a76 := Tryd.isAgg128
  z76 := Tryd.sizeOf128
  v76 := Tryd.zeroValue128
  t85 := Tryd.underlying176
  a85 := Tryd.isAgg176
  z85 := Tryd.sizeOf176
  v85 := Tryd.zeroValue176
  t127 := Tryd.underlying146
  a127 := Tryd.isAgg146
  z127 := Tryd.sizeOf146
  v127 := Tryd.zeroValue146
  t143 := Tryd.underlying207
  a143 := Tryd.isAgg207
  z143 := Tryd.sizeOf207
  v143 := Tryd.zeroValue207
  t145 := Tryd.underlying209
  a145 := Tryd.isAgg209
  z145 := Tryd.sizeOf209
  v145 := Tryd.zeroValue209
  t167 := Tryd.underlying175
  a167 := Tryd.isAgg175
  z167 := Tryd.sizeOf175
  v167 := Tryd.zeroValue175
  t168 := Tryd.underlying178
  a168 := Tryd.isAgg178
  z168 := Tryd.sizeOf178
  v168 := Tryd.zeroValue178
  t171 := Tryd.underlying170
  a171 := Tryd.isAgg170
  z171 := Tryd.sizeOf170
  v171 := Tryd.zeroValue170
  t173 := Tryd.underlying173
  a173 := Tryd.isAgg173
  z173 := Tryd.sizeOf173
  v173 := Tryd.zeroValue173
  t175 := Tryd.underlying194
  a175 := Tryd.isAgg194
  z175 := Tryd.sizeOf194
  v175 := Tryd.zeroValue194
  t210 := Tryd.underlying198
  a210 := Tryd.isAgg198
  z210 := Tryd.sizeOf198
  v210 := Tryd.zeroValue198
  t212 := Tryd.underlying192
  a212 := Tryd.isAgg192
  z212 := Tryd.sizeOf192
  v212 := Tryd.zeroValue192
  t213 := Tryd.underlying193
  a213 := Tryd.isAgg193
  z213 := Tryd.sizeOf193
  t232 := Tryd.underlying212
  a232 := Tryd.isAgg212
  z232 := Tryd.sizeOf212
  v232 := Tryd.zeroValue212
  t233 := Tryd.underlying213
  a233 := Tryd.isAgg213
  z233 := Tryd.sizeOf213
  v233 := Tryd.zeroValue213
  g15 := by kernel_rfl
  g16 := by kernel_rfl
  g17 := by kernel_rfl
  g18 := by kernel_rfl
  g19 := by kernel_rfl
/-- strconv.Atoi, at a numeral of at most eighteen bytes -/
def strconv_Atoi.u (s : ByteArray) : Option (Int × Value) := bif decide (s.size ≤ 18) then (Lib.atoi s.data.toList).map fun n => (n, .nilIface) else none
theorem strconv_Atoi.c (s : ByteArray) (r : Int × Value) (h : strconv_Atoi.u s = some r) : Contract C 115 [.v .str s] (tupAV (.int .i64) [.raw .iface] r) where
  enters us w := enters_fn (P := Tryd.prog) (fn := Tryd.f115) (by kernel_rfl) (by kernel_rfl) (by kernel_rfl) us w
  runs w S us hlt hG hr := by
    simp only [RepAs] at hr
    obtain ⟨u, q, rfl, h1, rfl⟩ := hr
    rw [rep_str] at h1
    subst h1
    obtain ⟨hp, hq⟩ := ite_some h
    obtain ⟨n, hn, rfl⟩ := Option.map_eq_some_iff.1 hq
    refine (Any.strconv_Atoi lays172 s n (of_decide_eq_true hp) hn w).mono ?_
    rintro e w' ⟨rfl, t, rfl⟩
    have hg := grows_bytes w (lays172_ren.t 5) t
    have hb : Below w.heap.size w (Lib.bytesWorld w (lays172_ren.t 5) t) := hg.below (Nat.le_refl _)
    refine ⟨_, S, rfl, hb, safe_of_below hlt hb, fun b o hs => ⟨.inl hs, Nat.lt_of_lt_of_le (hlt b o hs) hb.size⟩, ?_⟩
    simp only [tupAV, tupAVs, RepA, RepAs]
    exact ⟨[.int .i64 n, .nilIface], rfl, _, _, rfl, ⟨[_], rfl, rfl⟩, _, _, rfl, ⟨[.nilIface], ⟨rfl, rfl⟩, rfl⟩, rfl⟩
noncomputable def strconv_Atoi.e : Ent := argI .str fun x0 => endU (strconv_Atoi.u x0) (tupAV (.int .i64) [.raw .iface])
theorem strconv_Atoi.e_ok : EntOK C 115 (fun {_} => strconv_Atoi.e) := entA_ok (argI_ok fun x0 => endU_ok fun r h => strconv_Atoi.c x0 r h)
def lays217_ren : Go.Shelf.Ren := ⟨fun | 217 => 108 | 266 => 129 | n => n, fun | 9 => 9 | 5 => 5 | 3 => 3 | n => n, fun | n => n⟩
theorem lays217 : Go.Proofs.Lays.n217 Tryd.prog lays217_ren where
  mixed := by kernel_rfl
  f217 := Tryd.func108.trans (congrArg some (by kernel_rfl))
  f266 := Tryd.func129.trans (congrArg some (by kernel_rfl))
  t3 := Tryd.underlying3
  a3 := Tryd.isAgg3
  z3 := Tryd.sizeOf3
  v3 := Tryd.zeroValue3
  t5 := Tryd.underlying5
  a5 := Tryd.isAgg5
  z5 := Tryd.sizeOf5
  v5 := Tryd.zeroValue5
  t9 := Tryd.underlying9
  a9 := Tryd.isAgg9
  z9 := Tryd.sizeOf9
  v9 := Tryd.zeroValue9
/-- internal/stringslite.IndexByte -/
def internal_stringslite_IndexByte.t (s : ByteArray) (c : Int) : Int := Lib.indexByte s.data.toList c.toNat.toUInt8
theorem internal_stringslite_IndexByte.c (s : ByteArray) (c : Int) : Contract C 108 [.v .str s, .v (.int .u8) c] (tupAV (.int .i64) [] (internal_stringslite_IndexByte.t s c)) where
  enters us w := enters_fn (P := Tryd.prog) (fn := Tryd.f108) (by kernel_rfl) (by kernel_rfl) (by kernel_rfl) us w
  runs w S us hlt hG hr := by
    simp only [RepAs] at hr
    obtain ⟨u, q, rfl, h1, v, q', rfl, h2, rfl⟩ := hr
    rw [rep_str] at h1
    rw [rep_int] at h2
    subst h1 h2
    refine (Any.stringslite_IndexByte lays217 s c w).mono ?_
    rintro e w' ⟨rfl, rfl⟩
    exact ⟨_, S, rfl, Below.refl _ _, Safe.refl _ _, fun b o hs => ⟨.inl hs, hlt b o hs⟩, rep_int.2 rfl⟩
noncomputable def internal_stringslite_IndexByte.e : Ent := argI .str fun x0 => argI (.int .u8) fun x1 => endT (tupAV (.int .i64) [] (internal_stringslite_IndexByte.t x0 x1))
theorem internal_stringslite_IndexByte.e_ok : EntOK C 108 (fun {_} => internal_stringslite_IndexByte.e) := entA_ok (argI_ok fun x0 => argI_ok fun x1 => endT_ok (internal_stringslite_IndexByte.c x0 x1))
def lays144_ren : Go.Shelf.Ren := ⟨fun | 144 => 79 | 143 => 111 | 219 => 130 | 217 => 108 | 225 => 145 | 224 => 146 | 267 => 147 | 266 => 129 | 314 => 161 | n => n, fun | 9 => 9 | 4 => 4 | 3 => 3 | 5 => 5 | 46 => 109 | 146 => 161 | 51 => 160 | n => n, fun | 1 => 1 | n => n⟩
theorem lays144 : Go.Proofs.Lays.n144 Tryd.prog lays144_ren where
  mixed := by kernel_rfl
  f143 := Tryd.func111.trans (congrArg some (by kernel_rfl))
  f144 := Tryd.func79.trans (congrArg some (by kernel_rfl))
  f217 := Tryd.func108.trans (congrArg some (by kernel_rfl))
  f219 := Tryd.func130.trans (congrArg some (by kernel_rfl))
  f224 := Tryd.func146.trans (congrArg some (by kernel_rfl))
  f225 := Tryd.func145.trans (congrArg some (by kernel_rfl))
  f266 := Tryd.func129.trans (congrArg some (by kernel_rfl))
  f267 := Tryd.func147.trans (congrArg some (by kernel_rfl))
  f314 := Tryd.func161.trans (congrArg some (by kernel_rfl))
  t3 := Tryd.underlying3
  a3 := Tryd.isAgg3
  z3 := Tryd.sizeOf3
  v3 := Tryd.zeroValue3
  t4 := Tryd.underlying4
  a4 := Tryd.isAgg4
  z4 := Tryd.sizeOf4
  v4 := Tryd.zeroValue4
  t5 := Tryd.underlying5
  a5 := Tryd.isAgg5
  z5 := Tryd.sizeOf5
  v5 := Tryd.zeroValue5
  t9 := Tryd.underlying9
  a9 := Tryd.isAgg9
  z9 := Tryd.sizeOf9
  v9 := Tryd.zeroValue9
  t46 := Tryd.underlying109
  a46 := Tryd.isAgg109
  z46 := Tryd.sizeOf109
  v46 := Tryd.zeroValue109
  t51 := Tryd.underlying160
  a51 := Tryd.isAgg160
  z51 := Tryd.sizeOf160
  v51 := Tryd.zeroValue160
  t146 := Tryd.underlying161
  a146 := Tryd.isAgg161
  z146 := Tryd.sizeOf161
  v146 := Tryd.zeroValue161
  g1 := by kernel_rfl
/-- strings.Contains -/
def strings_Contains.u (s sub : ByteArray) : Option Bool := bif decide (s.size < 4294967281) then some (Lib.contains s.data.toList sub.data.toList) else none
theorem strings_Contains.c (s sub : ByteArray) (r : Bool) (h : strings_Contains.u s sub = some r) : Contract CM 79 [.v .str s, .v .str sub] (tupAV .bool [] r) where
  enters us w := enters_fn (P := Tryd.prog) (fn := Tryd.f79) (by kernel_rfl) (by kernel_rfl) (by kernel_rfl) us w
  runs w S us hlt hG hr := by
    simp only [RepAs] at hr
    obtain ⟨u, q, rfl, h1, v, q', rfl, h2, rfl⟩ := hr
    rw [rep_str] at h1 h2
    subst h1 h2
    obtain ⟨hp, hq⟩ := ite_some h
    cases hq
    obtain ⟨_, ⟨m, hm⟩, _⟩ := hG.any 1 rfl
    refine (Any.strings_Contains lays144 s sub m w (of_decide_eq_true hp) hm).mono ?_
    rintro e w' ⟨rfl, rfl⟩
    exact ⟨_, S, rfl, Below.refl _ _, Safe.refl _ _, fun b o hs => ⟨.inl hs, hlt b o hs⟩, rep_bool.2 rfl⟩
noncomputable def strings_Contains.e : Ent := argI .str fun x0 => argI .str fun x1 => endU (strings_Contains.u x0 x1) (tupAV .bool [])
theorem strings_Contains.e_ok : EntOK CM 79 (fun {_} => strings_Contains.e) := entA_ok (argI_ok fun x0 => argI_ok fun x1 => endU_ok fun r h => strings_Contains.c x0 x1 r h)
def laysJoin_ren : Go.Shelf.Ren := ⟨fun | 156 => 71 | 165 => 107 | 166 => 98 | 169 => 99 | 240 => 123 | 241 => 128 | 276 => 140 | 277 => 144 | n => n, fun | 31 => 92 | 9 => 9 | 3 => 3 | 4 => 4 | 0 => 0 | 20 => 20 | 72 => 124 | 76 => 128 | 70 => 122 | 37 => 111 | 75 => 126 | 127 => 146 | 164 => 158 | 5 => 5 | 80 => 130 | n => n, fun | n => n⟩
theorem laysJoin : Go.Proofs.Lays.n156 Tryd.prog laysJoin_ren where
  mixed := by kernel_rfl
  f156 := Tryd.func71.trans (congrArg some (by kernel_rfl))
  f165 := Tryd.func107.trans (congrArg some (by kernel_rfl))
  f166 := Tryd.func98.trans (congrArg some (by kernel_rfl))
  f169 := Tryd.func99.trans (congrArg some (by kernel_rfl))
  f240 := Tryd.func123.trans (congrArg some (by kernel_rfl))
  f241 := Tryd.func128.trans (congrArg some (by kernel_rfl))
  f276 := Tryd.func140.trans (congrArg some (by kernel_rfl))
  f277 := Tryd.func144.trans (congrArg some (by kernel_rfl))
  t0 := Tryd.underlying0
  a0 := Tryd.isAgg0
  z0 := Tryd.sizeOf0
  v0 := Tryd.zeroValue0
  t3 := Tryd.underlying3
  a3 := Tryd.isAgg3
  z3 := Tryd.sizeOf3
  v3 := Tryd.zeroValue3
  t4 := Tryd.underlying4
  a4 := Tryd.isAgg4
  z4 := Tryd.sizeOf4
  v4 := Tryd.zeroValue4
  t9 := Tryd.underlying9
  a9 := Tryd.isAgg9
  z9 := Tryd.sizeOf9
  v9 := Tryd.zeroValue9
  t20 := Tryd.underlying20
  a20 := Tryd.isAgg20
  z20 := Tryd.sizeOf20
  v20 := Tryd.zeroValue20
  t31 := Tryd.underlying92
  a31 := Tryd.isAgg92
  z31 := Tryd.sizeOf92
  v31 := Tryd.zeroValue92
  t37 := Tryd.underlying111
  a37 := Tryd.isAgg111
  z37 := Tryd.sizeOf111
  v37 := Tryd.zeroValue111
  t70 := Tryd.underlying122
  a70 := Tryd.isAgg122
  z70 := Tryd.sizeOf122
  v70 := Tryd.zeroValue122
  t72 := Tryd.underlying124
  a72 := Tryd.isAgg124
  z72 := Tryd.sizeOf124
  v72 := Tryd.zeroValue124
  t75 := Tryd.underlying126
  a75 := Tryd.isAgg126
  z75 := Tryd.sizeOf126
  v75 := Tryd.zeroValue126
  t76 := Tryd.underlying128
  a76 := Tryd.isAgg128
  z76 := Tryd.sizeOf128
  v76 := Tryd.zeroValue128
  t127 := Tryd.underlying146
  a127 := Tryd.isAgg146
  z127 := Tryd.sizeOf146
  v127 := Tryd.zeroValue146
  t164 := Tryd.underlying158
  a164 := Tryd.isAgg158
  z164 := Tryd.sizeOf158
  v164 := Tryd.zeroValue158
theorem extraJoin : Builder.Extra Tryd.prog laysJoin_ren where
  sizeBuilder := by kernel_rfl
  liesBuilder := by kernel_rfl
  t5 := Tryd.underlying5
  a5 := Tryd.isAgg5
  z5 := Tryd.sizeOf5
  v5 := Tryd.zeroValue5
  infoByte := by kernel_rfl
  cellsByte := by kernel_rfl
  sizeByte := by kernel_rfl
  neB5 := by decide
theorem repL_strs_eq {w : World} {S : Nat → Nat → Prop} : ∀ {l : List ByteArray} {cs : List Value}, RepL (RepC w S .str) l cs → cs = l.map Value.string
  | [], cs, h => h
  | x :: l, cs, h => by
    obtain ⟨c, d, rfl, h1, h2⟩ := h
    rw [repL_strs_eq h2]
    have : c = [.string x] := h1
    rw [this]; rfl
/-- strings.Join -/
def joinB (l : List ByteArray) (sep : ByteArray) : ByteArray := ⟨(Lib.join (l.map (·.data.toList)) sep.data.toList).toArray⟩
def strings_Join.u (l : List ByteArray) (sep : ByteArray) : Option ByteArray := bif decide (l.length ≤ 140737488355328) && decide ((joinB l sep).size ≤ 140737488355328) then some (joinB l sep) else none
theorem strings_Join.c (l : List ByteArray) (sep : ByteArray) (r : ByteArray) (h : strings_Join.u l sep = some r) : Contract C 71 [.v (.slice .str) l, .v .str sep] (tupAV .str [] r) where
  enters us w := enters_fn (P := Tryd.prog) (fn := Tryd.f71) (by kernel_rfl) (by kernel_rfl) (by kernel_rfl) us w
  runs w S us hlt hG hr := by
    simp only [RepAs] at hr
    obtain ⟨u, q, rfl, h1, v, q', rfl, h2, rfl⟩ := hr
    rw [rep_str] at h2
    subst h2
    rw [rep_v] at h1
    obtain ⟨cs, ⟨A, cap, rfl, hcap, h3⟩, rfl⟩ := h1
    obtain ⟨hp, hq⟩ := ite_some h
    simp only [Bool.and_eq_true, decide_eq_true_eq] at hp
    cases hq
    have key : Calls Tryd.prog 71 #[.slice A l.length cap, .string sep] w fun e w' => e = .returned (.string (joinB l sep)) ∧ Below w.heap.size w w' := by
      rcases h3 with rfl | ⟨b, o, ds, rfl, h4, h5⟩
      · exact (Any.strings_Join_none laysJoin extraJoin A cap sep w).mono fun e w' ⟨he, hw⟩ => ⟨he, hw ▸ Below.refl _ _⟩
      · have hds := repL_strs_eq h4
        subst hds
        cases hl : l with
        | nil => exact (Any.strings_Join_none laysJoin extraJoin _ cap sep w).mono fun e w' ⟨he, hw⟩ => ⟨he, hw ▸ Below.refl _ _⟩
        | cons y t =>
          rw [← hl]
          have hn0 : 0 < (l.map Value.string).length := by simp [hl]
          exact Any.strings_Join laysJoin extraJoin b o cap l sep w (fun j x hx => by
            have hj : j < (l.map Value.string).length := by simpa using (List.getElem?_eq_some_iff.1 hx).1
            have := (h5 j hj).1
            obtain ⟨hj', rfl⟩ := List.getElem?_eq_some_iff.1 hx
            simpa using this) (hlt b (o + 0) (h5 0 hn0).2) hp.1 hcap (by simpa [joinB, ByteArray.size] using hp.2)
    refine key.mono ?_
    rintro e w' ⟨rfl, hb⟩
    exact ⟨_, S, rfl, hb, safe_of_below hlt hb, fun b o hs => ⟨.inl hs, Nat.lt_of_lt_of_le (hlt b o hs) hb.size⟩, rep_str.2 rfl⟩
noncomputable def strings_Join.e : Ent := argI (.slice .str) fun x0 => argI .str fun x1 => endU (strings_Join.u x0 x1) (tupAV .str [])
theorem strings_Join.e_ok : EntOK C 71 (fun {_} => strings_Join.e) := entA_ok (argI_ok fun x0 => argI_ok fun x1 => endU_ok fun r h => strings_Join.c x0 x1 r h)
def laysRepeat_ren : Go.Shelf.Ren := ⟨fun | 105 => 102 | 212 => 124 | 99 => 125 | 165 => 107 | 166 => 98 | 170 => 126 | 169 => 99 | 263 => 141 | 264 => 142 | 206 => 143 | 240 => 123 | 241 => 128 | 276 => 140 | 277 => 144 | n => n, fun | 9 => 9 | 3 => 3 | 4 => 4 | 20 => 20 | 0 => 0 | 46 => 109 | 109 => 147 | 5 => 5 | 72 => 124 | 76 => 128 | 51 => 160 | 146 => 161 | 53 => 163 | 148 => 164 | 70 => 122 | 37 => 111 | 75 => 126 | 127 => 146 | 164 => 158 | 80 => 130 | n => n, fun | n => n⟩
theorem laysRepeat : Go.Proofs.Lays.n105 Tryd.prog laysRepeat_ren where
  mixed := by kernel_rfl
  f99 := Tryd.func125.trans (congrArg some (by kernel_rfl))
  f105 := Tryd.func102.trans (congrArg some (by kernel_rfl))
  f165 := Tryd.func107.trans (congrArg some (by kernel_rfl))
  f166 := Tryd.func98.trans (congrArg some (by kernel_rfl))
  f169 := Tryd.func99.trans (congrArg some (by kernel_rfl))
  f170 := Tryd.func126.trans (congrArg some (by kernel_rfl))
  f206 := Tryd.func143.trans (congrArg some (by kernel_rfl))
  f212 := Tryd.func124.trans (congrArg some (by kernel_rfl))
  f240 := Tryd.func123.trans (congrArg some (by kernel_rfl))
  f241 := Tryd.func128.trans (congrArg some (by kernel_rfl))
  f263 := Tryd.func141.trans (congrArg some (by kernel_rfl))
  f264 := Tryd.func142.trans (congrArg some (by kernel_rfl))
  f276 := Tryd.func140.trans (congrArg some (by kernel_rfl))
  f277 := Tryd.func144.trans (congrArg some (by kernel_rfl))
  t0 := Tryd.underlying0
  a0 := Tryd.isAgg0
  z0 := Tryd.sizeOf0
  v0 := Tryd.zeroValue0
  t3 := Tryd.underlying3
  a3 := Tryd.isAgg3
  z3 := Tryd.sizeOf3
  v3 := Tryd.zeroValue3
  t4 := Tryd.underlying4
  a4 := Tryd.isAgg4
  z4 := Tryd.sizeOf4
  v4 := Tryd.zeroValue4
  t5 := Tryd.underlying5
  a5 := Tryd.isAgg5
  z5 := Tryd.sizeOf5
  v5 := Tryd.zeroValue5
  t9 := Tryd.underlying9
  a9 := Tryd.isAgg9
  z9 := Tryd.sizeOf9
  v9 := Tryd.zeroValue9
  t20 := Tryd.underlying20
  a20 := Tryd.isAgg20
  z20 := Tryd.sizeOf20
  v20 := Tryd.zeroValue20
  t37 := Tryd.underlying111
  a37 := Tryd.isAgg111
  z37 := Tryd.sizeOf111
  v37 := Tryd.zeroValue111
  t46 := Tryd.underlying109
  a46 := Tryd.isAgg109
  z46 := Tryd.sizeOf109
  v46 := Tryd.zeroValue109
  t51 := Tryd.underlying160
  a51 := Tryd.isAgg160
  z51 := Tryd.sizeOf160
  v51 := Tryd.zeroValue160
  t53 := Tryd.underlying163
  a53 := Tryd.isAgg163
  z53 := Tryd.sizeOf163
  v53 := Tryd.zeroValue163
  t70 := Tryd.underlying122
  a70 := Tryd.isAgg122
  z70 := Tryd.sizeOf122
  v70 := Tryd.zeroValue122
  t72 := Tryd.underlying124
  a72 := Tryd.isAgg124
  z72 := Tryd.sizeOf124
  v72 := Tryd.zeroValue124
  t75 := Tryd.underlying126
  a75 := Tryd.isAgg126
  z75 := Tryd.sizeOf126
  v75 := Tryd.zeroValue126
  t76 := Tryd.underlying128
  a76 := Tryd.isAgg128
  z76 := Tryd.sizeOf128
  v76 := Tryd.zeroValue128
  t109 := Tryd.underlying147
  a109 := Tryd.isAgg147
  z109 := Tryd.sizeOf147
  v109 := Tryd.zeroValue147
  t127 := Tryd.underlying146
  a127 := Tryd.isAgg146
  z127 := Tryd.sizeOf146
  v127 := Tryd.zeroValue146
  t146 := Tryd.underlying161
  a146 := Tryd.isAgg161
  z146 := Tryd.sizeOf161
  v146 := Tryd.zeroValue161
  t148 := Tryd.underlying164
  a148 := Tryd.isAgg164
  z148 := Tryd.sizeOf164
  v148 := Tryd.zeroValue164
  t164 := Tryd.underlying158
  a164 := Tryd.isAgg158
  z164 := Tryd.sizeOf158
  v164 := Tryd.zeroValue158
theorem extraRepeat : Builder.Extra Tryd.prog laysRepeat_ren where
  sizeBuilder := by kernel_rfl
  liesBuilder := by kernel_rfl
  t5 := Tryd.underlying5
  a5 := Tryd.isAgg5
  z5 := Tryd.sizeOf5
  v5 := Tryd.zeroValue5
  infoByte := by kernel_rfl
  cellsByte := by kernel_rfl
  sizeByte := by kernel_rfl
  neB5 := by decide
/-- strings.Repeat -/
def strings_Repeat.u (s : ByteArray) (c : Int) : Option ByteArray := bif decide (0 ≤ c) && decide (c ≤ 65536) && decide (s.size ≤ 2147483648) then some ⟨(Lib.repeatL s.data.toList c.toNat).toArray⟩ else none
theorem strings_Repeat.c (s : ByteArray) (c : Int) (r : ByteArray) (h : strings_Repeat.u s c = some r) : Contract C 102 [.v .str s, .v (.int .i64) c] (tupAV .str [] r) where
  enters us w := enters_fn (P := Tryd.prog) (fn := Tryd.f102) (by kernel_rfl) (by kernel_rfl) (by kernel_rfl) us w
  runs w S us hlt hG hr := by
    simp only [RepAs] at hr
    obtain ⟨u, q, rfl, h1, v, q', rfl, h2, rfl⟩ := hr
    rw [rep_str] at h1
    rw [rep_int] at h2
    subst h1 h2
    obtain ⟨hp, hq⟩ := ite_some h
    simp only [Bool.and_eq_true, decide_eq_true_eq] at hp
    cases hq
    obtain ⟨m, rfl⟩ := Int.eq_ofNat_of_zero_le hp.1.1
    have hm : s.size * m ≤ 140737488355328 := Nat.le_trans (Nat.mul_le_mul hp.2 (show m ≤ 65536 by omega)) (by decide)
    refine (Any.strings_Repeat laysRepeat extraRepeat s m w (by omega) hm).mono ?_
    rintro e w' ⟨rfl, hb⟩
    exact ⟨_, S, rfl, hb, safe_of_below hlt hb, fun b o hs => ⟨.inl hs, Nat.lt_of_lt_of_le (hlt b o hs) hb.size⟩, rep_str.2 rfl⟩
noncomputable def strings_Repeat.e : Ent := argI .str fun x0 => argI (.int .i64) fun x1 => endU (strings_Repeat.u x0 x1) (tupAV .str [])
theorem strings_Repeat.e_ok : EntOK C 102 (fun {_} => strings_Repeat.e) := entA_ok (argI_ok fun x0 => argI_ok fun x1 => endU_ok fun r h => strings_Repeat.c x0 x1 r h)
end Go.Proofs.YtfihhbgppgkafaaDoor.K

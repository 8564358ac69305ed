/- The tables that may be known, and the library functions that the program leans on, off the shelf. -/
import Derived.Test.YtmmooplcdkmapaaDoorX
import Derived.Test.YtmmooplcdkmapaaDoorKJ
import Derived.Shelf.Strconv.Itoa3
import Derived.Shelf.Strconv.Atoi
import Derived.Shelf.Strings.Search1
import Derived.Shelf.Strings.Search3
import Derived.Shelf.Strings.Split
set_option maxRecDepth 100000
set_option linter.unusedVariables false
namespace Go.Proofs.YtmmooplcdkmapaaDoor.K
open Go Go.RowKit

/-- The powers of ten. -/
def pow10 : List Int := [1, 10, 100, 1000, 10000, 100000, 1000000, 10000000, 100000000, 1000000000, 10000000000, 100000000000, 1000000000000, 10000000000000, 100000000000000, 1000000000000000, 10000000000000000, 100000000000000000, 1000000000000000000, 10000000000000000000]
/-- The table of opcodes. -/
def kindsT : List (ByteArray × (ByteArray × (Int × Unit))) := [(bs [110, 111, 112], bs [45, 45, 45], 0, ()), (bs [104, 97, 108, 116], bs [45, 45, 45], 5, ()), (bs [109, 111, 118], bs [114, 114, 45], 0, ()), (bs [115, 101, 116], bs [114, 105, 106], 0, ()), (bs [97, 100, 100], bs [114, 114, 114], 0, ()), (bs [115, 117, 98], bs [114, 114, 114], 0, ()), (bs [109, 117, 108], bs [114, 114, 114], 0, ()), (bs [100, 105, 118], bs [114, 114, 114], 0, ()), (bs [114, 101, 109], bs [114, 114, 114], 0, ()), (bs [97, 110, 100], bs [114, 114, 114], 0, ()), (bs [111, 114], bs [114, 114, 114], 0, ()), (bs [120, 111, 114], bs [114, 114, 114], 0, ()), (bs [115, 104, 108], bs [114, 114, 114], 0, ()), (bs [115, 104, 114], bs [114, 114, 114], 0, ()), (bs [110, 111, 116], bs [114, 114, 45], 0, ()), (bs [110, 101, 103], bs [114, 114, 45], 0, ()), (bs [108, 116], bs [114, 114, 114], 0, ()), (bs [101, 113], bs [114, 114, 114], 0, ()), (bs [106, 109, 112], bs [116, 45, 45], 1, ()), (bs [106, 122], bs [114, 116, 45], 1, ()), (bs [106, 110, 122], bs [114, 116, 45], 1, ()), (bs [106, 98, 97, 100], bs [116, 45, 45], 1, ()), (bs [99, 97, 108, 108], bs [116, 45, 45], 1, ()), (bs [114, 101, 116], bs [45, 45, 45], 1, ()), (bs [108, 111, 97, 100], bs [114, 114, 45], 0, ()), (bs [115, 116, 111, 114, 101], bs [114, 114, 45], 0, ()), (bs [102, 97, 105, 108], bs [115, 45, 45], 5, ()), (bs [101, 109, 105, 116], bs [114, 45, 45], 4, ()), (bs [110, 111, 119], bs [114, 45, 45], 4, ()), (bs [109, 101], bs [114, 45, 45], 4, ()), (bs [115, 112, 97, 119, 110], bs [114, 112, 114], 4, ()), (bs [106, 111, 105, 110], bs [114, 45, 45], 2, ()), (bs [115, 108, 101, 101, 112], bs [114, 45, 45], 2, ()), (bs [115, 101, 110, 100], bs [99, 114, 45], 2, ()), (bs [114, 101, 99, 118], bs [99, 114, 45], 2, ()), (bs [112, 111, 105, 115, 111, 110], bs [99, 114, 45], 4, ()), (bs [101, 110, 114, 111, 108], bs [98, 45, 45], 4, ()), (bs [114, 101, 115, 105, 103, 110], bs [98, 45, 45], 4, ()), (bs [115, 121, 110, 99], bs [98, 45, 45], 2, ()), (bs [102, 97, 108, 108], bs [107, 45, 45], 2, ()), (bs [102, 108, 117, 115, 104], bs [114, 107, 45], 4, ()), (bs [97, 108, 116], bs [114, 109, 110], 2, ()), (bs [103, 105, 110], bs [99, 114, 103], 3, ()), (bs [103, 98, 97, 114], bs [98, 45, 103], 3, ()), (bs [103, 116, 105, 109, 101], bs [114, 45, 103], 3, ()), (bs [103, 115, 107, 105, 112], bs [45, 45, 103], 3, ()), (bs [112, 104, 97, 115, 101], bs [114, 98, 45], 4, ()), (bs [115, 105, 122, 101], bs [114, 98, 45], 4, ())]
def orG (f h : Nat → Option Dat) : Nat → Option Dat := fun g => match f g with | some d => some d | none => h g
def gP : Nat → Option Dat := fun g => bif g == 4 then some (⟨.arr 20 (.int .u64), pow10⟩ : Dat) else none
def gK : Nat → Option Dat := fun g => bif g == 0 then some (⟨.arr 48 (.pair .str (.pair .str (.pair (.int .i64) .unit))), kindsT⟩ : Dat) else none
noncomputable def CK : Cfg := { C with G := gK }
theorem CK_ok : CK.OK := ⟨C_ok.ty, C_ok.mixed, C_ok.ob⟩
noncomputable def CM : Cfg := { C with M := fun g => g == 1 }
theorem CM_ok : CM.OK := ⟨C_ok.ty, C_ok.mixed, C_ok.ob⟩
noncomputable def CKM : Cfg := { C with G := gK, M := fun g => g == 1 }
theorem CKM_ok : CKM.OK := ⟨C_ok.ty, C_ok.mixed, C_ok.ob⟩
noncomputable def CP : Cfg := { C with G := gP }
theorem CP_ok : CP.OK := ⟨C_ok.ty, C_ok.mixed, C_ok.ob⟩
noncomputable def CKP : Cfg := { C with G := (orG gK gP) }
theorem CKP_ok : CKP.OK := ⟨C_ok.ty, C_ok.mixed, C_ok.ob⟩
noncomputable def CMP : Cfg := { C with G := gP, M := fun g => g == 1 }
theorem CMP_ok : CMP.OK := ⟨C_ok.ty, C_ok.mixed, C_ok.ob⟩
noncomputable def CKMP : Cfg := { C with G := (orG gK gP), M := fun g => g == 1 }
theorem CKMP_ok : CKMP.OK := ⟨C_ok.ty, C_ok.mixed, C_ok.ob⟩
theorem le_C_CK : C.le CK := ⟨rfl, (fun g d h => by cases h), (fun g h => by cases h)⟩
theorem le_C_CM : C.le CM := ⟨rfl, (fun g d h => by cases h), (fun g h => by cases h)⟩
theorem le_C_CKM : C.le CKM := ⟨rfl, (fun g d h => by cases h), (fun g h => by cases h)⟩
theorem le_C_CP : C.le CP := ⟨rfl, (fun g d h => by cases h), (fun g h => by cases h)⟩
theorem le_C_CKP : C.le CKP := ⟨rfl, (fun g d h => by cases h), (fun g h => by cases h)⟩
theorem le_C_CMP : C.le CMP := ⟨rfl, (fun g d h => by cases h), (fun g h => by cases h)⟩
theorem le_C_CKMP : C.le CKMP := ⟨rfl, (fun g d h => by cases h), (fun g h => by cases h)⟩
theorem le_CK_CKM : CK.le CKM := ⟨rfl, (fun g d h => h), (fun g h => by cases h)⟩
theorem le_CK_CKP : CK.le CKP := ⟨rfl, (fun g d h => by
  have h1 : gK g = some d := h
  show orG gK gP g = some d
  unfold orG
  rw [h1]), (fun g h => by cases h)⟩
theorem le_CK_CKMP : CK.le CKMP := ⟨rfl, (fun g d h => by
  have h1 : gK g = some d := h
  show orG gK gP g = some d
  unfold orG
  rw [h1]), (fun g h => by cases h)⟩
theorem le_CM_CKM : CM.le CKM := ⟨rfl, (fun g d h => by cases h), (fun g h => h)⟩
theorem le_CM_CMP : CM.le CMP := ⟨rfl, (fun g d h => by cases h), (fun g h => h)⟩
theorem le_CM_CKMP : CM.le CKMP := ⟨rfl, (fun g d h => by cases h), (fun g h => h)⟩
theorem le_CKM_CKMP : CKM.le CKMP := ⟨rfl, (fun g d h => by
  have h1 : gK g = some d := h
  show orG gK gP g = some d
  unfold orG
  rw [h1]), (fun g h => h)⟩
theorem le_CP_CKP : CP.le CKP := ⟨rfl, (fun g d h => by
  have h1 : gP g = some d := h
  show orG gK gP g = some d
  unfold orG gK
  cases hf : (g == 0) with
  | true => rw [show g = 0 by simpa using hf] at h1; cases h1
  | false => exact h1), (fun g h => by cases h)⟩
theorem le_CP_CMP : CP.le CMP := ⟨rfl, (fun g d h => h), (fun g h => by cases h)⟩
theorem le_CP_CKMP : CP.le CKMP := ⟨rfl, (fun g d h => by
  have h1 : gP g = some d := h
  show orG gK gP g = some d
  unfold orG gK
  cases hf : (g == 0) with
  | true => rw [show g = 0 by simpa using hf] at h1; cases h1
  | false => exact h1), (fun g h => by cases h)⟩
theorem le_CKP_CKMP : CKP.le CKMP := ⟨rfl, (fun g d h => h), (fun g h => by cases h)⟩
theorem le_CMP_CKMP : CMP.le CKMP := ⟨rfl, (fun g d h => by
  have h1 : gP g = some d := h
  show orG gK gP g = some d
  unfold orG gK
  cases hf : (g == 0) with
  | true => rw [show g = 0 by simpa using hf] at h1; cases h1
  | false => exact h1), (fun g h => h)⟩
theorem enters_fn {P : Program} {f : FuncId} {fn : Func} (hf : P.funcs[f]? = some fn) (hb : fn.body.isSome = true) (hn : (fn.name == "runtime.NumGoroutine") = false) (us : Array Value) (w : World) : (callFunc f us).run P w = .ok (.enter f us) w := by
  have hpn : (program.run P w : Result Program) = .ok P w := rfl
  have hb' : fn.body.isNone = false := by cases h : fn.body <;> simp [h] at hb ⊢
  simp only [callFunc, Sem.run_bind, hpn, Result.andThen_ok, hf, hn, hb', Bool.false_eq_true, if_false, Sem.run_pure]

theorem below_grow (w : World) (k : Nat) (os : Array Obj) : Below w.heap.size w (Go.Sort.grow (w.drewN k) os) :=
  ⟨rfl, rfl, rfl, by simp [Go.Sort.grow], fun i hi => by simp only [Go.Sort.grow, World.heap_drewN]; exact Array.getElem?_append_left hi⟩

theorem safe_of_below {w w' : World} {S : Nat → Nat → Prop} (hS : ∀ b o, S b o → b < w.heap.size) (h : Below w.heap.size w w') : Safe S S w w' :=
  ⟨fun _ _ h => h, fun b o hs => World.cell?_of_block (a := ⟨b, o, none⟩) (h.block b (hS b o hs))⟩

def lays171_ren : Go.Shelf.Ren := ⟨fun | 171 => 59 | 243 => 71 | 246 => 81 | 283 => 88 | 284 => 89 | 285 => 90 | 286 => 91 | 129 => 99 | 317 => 98 | 318 => 100 | 319 => 101 | 320 => 102 | 337 => 106 | 338 => 107 | n => n, fun | 3 => 3 | 9 => 9 | 2 => 2 | 4 => 4 | 171 => 121 | 0 => 0 | 53 => 122 | 37 => 54 | 5 => 5 | 173 => 125 | 212 => 141 | 51 => 131 | 20 => 20 | 213 => 142 | 46 => 109 | 232 => 155 | 233 => 156 | n => n, fun | 17 => 4 | 18 => 7 | 19 => 8 | n => n⟩
theorem lays171 : Go.Proofs.LaysM.n171 Tryd.prog lays171_ren where
  mixed := by kernel_rfl
  f129 := Tryd.func99.trans (congrArg some (by kernel_rfl))
  f171 := Tryd.func59.trans (congrArg some (by kernel_rfl))
  f243 := Tryd.func71.trans (congrArg some (by kernel_rfl))
  f246 := Tryd.func81.trans (congrArg some (by kernel_rfl))
  f283 := Tryd.func88.trans (congrArg some (by kernel_rfl))
  f284 := Tryd.func89.trans (congrArg some (by kernel_rfl))
  f285 := Tryd.func90.trans (congrArg some (by kernel_rfl))
  f286 := Tryd.func91.trans (congrArg some (by kernel_rfl))
  f317 := Tryd.func98.trans (congrArg some (by kernel_rfl))
  f318 := Tryd.func100.trans (congrArg some (by kernel_rfl))
  f319 := Tryd.func101.trans (congrArg some (by kernel_rfl))
  f320 := Tryd.func102.trans (congrArg some (by kernel_rfl))
  f337 := Tryd.func106.trans (congrArg some (by kernel_rfl))
  f338 := Tryd.func107.trans (congrArg some (by kernel_rfl))
  t0 := Tryd.underlying0
  a0 := Tryd.isAgg0
  z0 := Tryd.sizeOf0
  v0 := Tryd.zeroValue0
  t2 := Tryd.underlying2
  a2 := Tryd.isAgg2
  z2 := Tryd.sizeOf2
  v2 := Tryd.zeroValue2
  t3 := Tryd.underlying3
  a3 := Tryd.isAgg3
  z3 := Tryd.sizeOf3
  v3 := Tryd.zeroValue3
  t4 := Tryd.underlying4
  a4 := Tryd.isAgg4
  z4 := Tryd.sizeOf4
  v4 := Tryd.zeroValue4
  t5 := Tryd.underlying5
  a5 := Tryd.isAgg5
  z5 := Tryd.sizeOf5
  v5 := Tryd.zeroValue5
  t9 := Tryd.underlying9
  a9 := Tryd.isAgg9
  z9 := Tryd.sizeOf9
  v9 := Tryd.zeroValue9
  t20 := Tryd.underlying20
  a20 := Tryd.isAgg20
  z20 := Tryd.sizeOf20
  v20 := Tryd.zeroValue20
  t37 := Tryd.underlying54
  a37 := Tryd.isAgg54
  z37 := Tryd.sizeOf54
  v37 := Tryd.zeroValue54
  t46 := Tryd.underlying109
  a46 := Tryd.isAgg109
  z46 := Tryd.sizeOf109
  v46 := Tryd.zeroValue109
  t51 := Tryd.underlying131
  a51 := Tryd.isAgg131
  z51 := Tryd.sizeOf131
  v51 := Tryd.zeroValue131
  t53 := Tryd.underlying122
  a53 := Tryd.isAgg122
  z53 := Tryd.sizeOf122
  v53 := Tryd.zeroValue122
  t171 := Tryd.underlying121
  a171 := Tryd.isAgg121
  z171 := Tryd.sizeOf121
  v171 := Tryd.zeroValue121
  t173 := Tryd.underlying125
  a173 := Tryd.isAgg125
  z173 := Tryd.sizeOf125
  v173 := Tryd.zeroValue125
  t212 := Tryd.underlying141
  a212 := Tryd.isAgg141
  z212 := Tryd.sizeOf141
  v212 := Tryd.zeroValue141
  t213 := Tryd.underlying142
  a213 := Tryd.isAgg142
  z213 := Tryd.sizeOf142
  t232 := Tryd.underlying155
  a232 := Tryd.isAgg155
  z232 := Tryd.sizeOf155
  v232 := Tryd.zeroValue155
  t233 := Tryd.underlying156
  a233 := Tryd.isAgg156
  z233 := Tryd.sizeOf156
  v233 := Tryd.zeroValue156
  g17 := by kernel_rfl
  g18 := by kernel_rfl
  g19 := by kernel_rfl
  i0 := by kernel_rfl
  i2 := by kernel_rfl
  i3 := by kernel_rfl
  i4 := by kernel_rfl
  i5 := by kernel_rfl
  i9 := by kernel_rfl
  i20 := by kernel_rfl
  i37 := by kernel_rfl
  i46 := by kernel_rfl
  i51 := by kernel_rfl
  i53 := by kernel_rfl
  i171 := by kernel_rfl
  i173 := by kernel_rfl
  i212 := by kernel_rfl
  i232 := by kernel_rfl
  i233 := by kernel_rfl
  m17 := by kernel_rfl
  m18 := by kernel_rfl
  m19 := by kernel_rfl
theorem tab_of {w : World} {S : Nat → Nat → Prop} {B : Nat} (h : GlobOK CP B w S) : Lib.TabIs Tryd.prog w "internal/strconv.uint64pow10" .u64 Lib.pow10Tab := by
  obtain ⟨_, cs, el, fr, h1, h2, _⟩ := h.tab 4 ⟨.arr 20 (.int .u64), pow10⟩ rfl
  have h3 : cs = pow10.map (Value.int .u64) := repL_ints_eq h2.2
  unfold Lib.TabIs World.var?
  rw [show Tryd.prog.globalNamed "internal/strconv.uint64pow10" = some 4 by kernel_rfl]
  simp only [Option.bind_some, h1, h3]
  rfl

/-- strconv.Itoa -/
def strconv_Itoa.u (n : Int) : Option ByteArray := bif decide (-9223372036854775808 ≤ n) && decide (n ≤ 9223372036854775807) then some ⟨(Lib.itoa n).toArray⟩ else none
theorem strconv_Itoa.c (n : Int) (r : ByteArray) (h : strconv_Itoa.u n = some r) : Contract CP 59 [.v (.int .i64) n] (tupAV .str [] r) where
  enters us w := enters_fn (P := Tryd.prog) (fn := Tryd.f59) (by kernel_rfl) (by kernel_rfl) (by kernel_rfl) us w
  runs w S us hlt hG hr := by
    simp only [RepAs] at hr
    obtain ⟨u, q, rfl, h1, rfl⟩ := hr
    rw [rep_int] at h1
    subst h1
    obtain ⟨hp, hq⟩ := ite_some h
    simp only [Bool.and_eq_true, decide_eq_true_eq] at hp
    cases hq
    refine (Any.strconv_Itoa lays171 n hp.1 hp.2 w (tab_of hG)).mono ?_
    rintro e w' ⟨rfl, k, os, rfl⟩
    have hb := below_grow w k os
    exact ⟨_, S, rfl, hb, safe_of_below hlt hb, fun b o hs => ⟨.inl hs, Nat.lt_of_lt_of_le (hlt b o hs) hb.size⟩, rep_str.2 rfl⟩
noncomputable def strconv_Itoa.e : Ent := argI (.int .i64) fun x0 => endU (strconv_Itoa.u x0) (tupAV .str [])
theorem strconv_Itoa.e_ok : EntOK CP 59 (fun {_} => strconv_Itoa.e) := entA_ok (argI_ok fun x0 => endU_ok fun r h => strconv_Itoa.c x0 r h)
def lays172_ren : Go.Shelf.Ren := ⟨fun | 172 => 77 | 244 => 86 | 245 => 87 | 247 => 93 | 279 => 94 | 280 => 95 | 281 => 96 | 282 => 97 | 287 => 103 | 316 => 104 | 171 => 59 | 205 => 105 | 321 => 108 | 322 => 109 | 243 => 71 | 246 => 81 | 283 => 88 | 284 => 89 | 285 => 90 | 286 => 91 | 129 => 99 | 317 => 98 | 318 => 100 | 319 => 101 | 320 => 102 | 337 => 106 | 338 => 107 | n => n, fun | 9 => 9 | 3 => 3 | 75 => 78 | 76 => 79 | 4 => 4 | 5 => 5 | 167 => 134 | 37 => 54 | 0 => 0 | 85 => 135 | 2 => 2 | 168 => 137 | 53 => 122 | 175 => 144 | 46 => 109 | 210 => 148 | 127 => 105 | 145 => 154 | 143 => 152 | 21 => 21 | 171 => 121 | 173 => 125 | 212 => 141 | 51 => 131 | 20 => 20 | 213 => 142 | 232 => 155 | 233 => 156 | 80 => 81 | n => n, fun | 15 => 5 | 16 => 6 | 17 => 4 | 18 => 7 | 19 => 8 | n => n⟩
theorem lays172 : Go.Proofs.Lays.n172 Tryd.prog lays172_ren where
  mixed := by kernel_rfl
  f129 := Tryd.func99.trans (congrArg some (by kernel_rfl))
  f171 := Tryd.func59.trans (congrArg some (by kernel_rfl))
  f172 := Tryd.func77.trans (congrArg some (by kernel_rfl))
  f205 := Tryd.func105.trans (congrArg some (by kernel_rfl))
  f243 := Tryd.func71.trans (congrArg some (by kernel_rfl))
  f244 := Tryd.func86.trans (congrArg some (by kernel_rfl))
  f245 := Tryd.func87.trans (congrArg some (by kernel_rfl))
  f246 := Tryd.func81.trans (congrArg some (by kernel_rfl))
  f247 := Tryd.func93.trans (congrArg some (by kernel_rfl))
  f279 := Tryd.func94.trans (congrArg some (by kernel_rfl))
  f280 := Tryd.func95.trans (congrArg some (by kernel_rfl))
  f281 := Tryd.func96.trans (congrArg some (by kernel_rfl))
  f282 := Tryd.func97.trans (congrArg some (by kernel_rfl))
  f283 := Tryd.func88.trans (congrArg some (by kernel_rfl))
  f284 := Tryd.func89.trans (congrArg some (by kernel_rfl))
  f285 := Tryd.func90.trans (congrArg some (by kernel_rfl))
  f286 := Tryd.func91.trans (congrArg some (by kernel_rfl))
  f287 := Tryd.func103.trans (congrArg some (by kernel_rfl))
  f316 := Tryd.func104.trans (congrArg some (by kernel_rfl))
  f317 := Tryd.func98.trans (congrArg some (by kernel_rfl))
  f318 := Tryd.func100.trans (congrArg some (by kernel_rfl))
  f319 := Tryd.func101.trans (congrArg some (by kernel_rfl))
  f320 := Tryd.func102.trans (congrArg some (by kernel_rfl))
  f321 := Tryd.func108.trans (congrArg some (by kernel_rfl))
  f322 := Tryd.func109.trans (congrArg some (by kernel_rfl))
  f337 := Tryd.func106.trans (congrArg some (by kernel_rfl))
  f338 := Tryd.func107.trans (congrArg some (by kernel_rfl))
  t0 := Tryd.underlying0
  a0 := Tryd.isAgg0
  z0 := Tryd.sizeOf0
  v0 := Tryd.zeroValue0
  t2 := Tryd.underlying2
  a2 := Tryd.isAgg2
  z2 := Tryd.sizeOf2
  v2 := Tryd.zeroValue2
  t3 := Tryd.underlying3
  a3 := Tryd.isAgg3
  z3 := Tryd.sizeOf3
  v3 := Tryd.zeroValue3
  t4 := Tryd.underlying4
  a4 := Tryd.isAgg4
  z4 := Tryd.sizeOf4
  v4 := Tryd.zeroValue4
  t5 := Tryd.underlying5
  a5 := Tryd.isAgg5
  z5 := Tryd.sizeOf5
  v5 := Tryd.zeroValue5
  t9 := Tryd.underlying9
  a9 := Tryd.isAgg9
  z9 := Tryd.sizeOf9
  v9 := Tryd.zeroValue9
  t20 := Tryd.underlying20
  a20 := Tryd.isAgg20
  z20 := Tryd.sizeOf20
  v20 := Tryd.zeroValue20
  t21 := Tryd.underlying21
  a21 := Tryd.isAgg21
  z21 := Tryd.sizeOf21
  v21 := Tryd.zeroValue21
  t37 := Tryd.underlying54
  a37 := Tryd.isAgg54
  z37 := Tryd.sizeOf54
  v37 := Tryd.zeroValue54
  t46 := Tryd.underlying109
  a46 := Tryd.isAgg109
  z46 := Tryd.sizeOf109
  v46 := Tryd.zeroValue109
  t51 := Tryd.underlying131
  a51 := Tryd.isAgg131
  z51 := Tryd.sizeOf131
  v51 := Tryd.zeroValue131
  t53 := Tryd.underlying122
  a53 := Tryd.isAgg122
  z53 := Tryd.sizeOf122
  v53 := Tryd.zeroValue122
  t75 := Tryd.underlying78
  a75 := Tryd.isAgg78
  z75 := Tryd.sizeOf78
  v75 := Tryd.zeroValue78
  t76 := Tryd.underlying79
  a76 := Tryd.isAgg79
  z76 := Tryd.sizeOf79
  v76 := Tryd.zeroValue79
  t85 := Tryd.underlying135
  a85 := Tryd.isAgg135
  z85 := Tryd.sizeOf135
  v85 := Tryd.zeroValue135
  t127 := Tryd.underlying105
  a127 := Tryd.isAgg105
  z127 := Tryd.sizeOf105
  v127 := Tryd.zeroValue105
  t143 := Tryd.underlying152
  a143 := Tryd.isAgg152
  z143 := Tryd.sizeOf152
  v143 := Tryd.zeroValue152
  t145 := Tryd.underlying154
  a145 := Tryd.isAgg154
  z145 := Tryd.sizeOf154
  v145 := Tryd.zeroValue154
  t167 := Tryd.underlying134
  a167 := Tryd.isAgg134
  z167 := Tryd.sizeOf134
  v167 := Tryd.zeroValue134
  t168 := Tryd.underlying137
  a168 := Tryd.isAgg137
  z168 := Tryd.sizeOf137
  v168 := Tryd.zeroValue137
  t171 := Tryd.underlying121
  a171 := Tryd.isAgg121
  z171 := Tryd.sizeOf121
  v171 := Tryd.zeroValue121
  t173 := Tryd.underlying125
  a173 := Tryd.isAgg125
  z173 := Tryd.sizeOf125
  v173 := Tryd.zeroValue125
  t175 := Tryd.underlying144
  a175 := Tryd.isAgg144
  z175 := Tryd.sizeOf144
  v175 := Tryd.zeroValue144
  t210 := Tryd.underlying148
  a210 := Tryd.isAgg148
  z210 := Tryd.sizeOf148
  v210 := Tryd.zeroValue148
  t212 := Tryd.underlying141
  a212 := Tryd.isAgg141
  z212 := Tryd.sizeOf141
  v212 := Tryd.zeroValue141
  t213 := Tryd.underlying142
  a213 := Tryd.isAgg142
  z213 := Tryd.sizeOf142
  t232 := Tryd.underlying155
  a232 := Tryd.isAgg155
  z232 := Tryd.sizeOf155
  v232 := Tryd.zeroValue155
  t233 := Tryd.underlying156
  a233 := Tryd.isAgg156
  z233 := Tryd.sizeOf156
  v233 := Tryd.zeroValue156
  g15 := by kernel_rfl
  g16 := by kernel_rfl
  g17 := by kernel_rfl
  g18 := by kernel_rfl
  g19 := by kernel_rfl
/-- strconv.Atoi, at a numeral of at most eighteen bytes -/
def strconv_Atoi.u (s : ByteArray) : Option (Int × Value) := bif decide (s.size ≤ 18) then (Lib.atoi s.data.toList).map fun n => (n, .nilIface) else none
theorem strconv_Atoi.c (s : ByteArray) (r : Int × Value) (h : strconv_Atoi.u s = some r) : Contract C 77 [.v .str s] (tupAV (.int .i64) [.raw .iface] r) where
  enters us w := enters_fn (P := Tryd.prog) (fn := Tryd.f77) (by kernel_rfl) (by kernel_rfl) (by kernel_rfl) us w
  runs w S us hlt hG hr := by
    simp only [RepAs] at hr
    obtain ⟨u, q, rfl, h1, rfl⟩ := hr
    rw [rep_str] at h1
    subst h1
    obtain ⟨hp, hq⟩ := ite_some h
    obtain ⟨n, hn, rfl⟩ := Option.map_eq_some_iff.1 hq
    refine (Any.strconv_Atoi lays172 s n (of_decide_eq_true hp) hn w).mono ?_
    rintro e w' ⟨rfl, t, rfl⟩
    have hg := grows_bytes w (lays172_ren.t 5) t
    have hb : Below w.heap.size w (Lib.bytesWorld w (lays172_ren.t 5) t) := hg.below (Nat.le_refl _)
    refine ⟨_, S, rfl, hb, safe_of_below hlt hb, fun b o hs => ⟨.inl hs, Nat.lt_of_lt_of_le (hlt b o hs) hb.size⟩, ?_⟩
    simp only [tupAV, tupAVs, RepA, RepAs]
    exact ⟨[.int .i64 n, .nilIface], rfl, _, _, rfl, ⟨[_], rfl, rfl⟩, _, _, rfl, ⟨[.nilIface], ⟨rfl, rfl⟩, rfl⟩, rfl⟩
noncomputable def strconv_Atoi.e : Ent := argI .str fun x0 => endU (strconv_Atoi.u x0) (tupAV (.int .i64) [.raw .iface])
theorem strconv_Atoi.e_ok : EntOK C 77 (fun {_} => strconv_Atoi.e) := entA_ok (argI_ok fun x0 => endU_ok fun r h => strconv_Atoi.c x0 r h)
def lays217_ren : Go.Shelf.Ren := ⟨fun | 217 => 67 | 266 => 80 | n => n, fun | 9 => 9 | 5 => 5 | 3 => 3 | 20 => 20 | n => n, fun | n => n⟩
theorem lays217 : Go.Proofs.Lays.n217 Tryd.prog lays217_ren where
  mixed := by kernel_rfl
  f217 := Tryd.func67.trans (congrArg some (by kernel_rfl))
  f266 := Tryd.func80.trans (congrArg some (by kernel_rfl))
  t3 := Tryd.underlying3
  a3 := Tryd.isAgg3
  z3 := Tryd.sizeOf3
  v3 := Tryd.zeroValue3
  t5 := Tryd.underlying5
  a5 := Tryd.isAgg5
  z5 := Tryd.sizeOf5
  v5 := Tryd.zeroValue5
  t9 := Tryd.underlying9
  a9 := Tryd.isAgg9
  z9 := Tryd.sizeOf9
  v9 := Tryd.zeroValue9
/-- internal/stringslite.IndexByte -/
def internal_stringslite_IndexByte.t (s : ByteArray) (c : Int) : Int := Lib.indexByte s.data.toList c.toNat.toUInt8
theorem internal_stringslite_IndexByte.c (s : ByteArray) (c : Int) : Contract C 67 [.v .str s, .v (.int .u8) c] (tupAV (.int .i64) [] (internal_stringslite_IndexByte.t s c)) where
  enters us w := enters_fn (P := Tryd.prog) (fn := Tryd.f67) (by kernel_rfl) (by kernel_rfl) (by kernel_rfl) us w
  runs w S us hlt hG hr := by
    simp only [RepAs] at hr
    obtain ⟨u, q, rfl, h1, v, q', rfl, h2, rfl⟩ := hr
    rw [rep_str] at h1
    rw [rep_int] at h2
    subst h1 h2
    refine (Any.stringslite_IndexByte lays217 s c w).mono ?_
    rintro e w' ⟨rfl, rfl⟩
    exact ⟨_, S, rfl, Below.refl _ _, Safe.refl _ _, fun b o hs => ⟨.inl hs, hlt b o hs⟩, rep_int.2 rfl⟩
noncomputable def internal_stringslite_IndexByte.e : Ent := argI .str fun x0 => argI (.int .u8) fun x1 => endT (tupAV (.int .i64) [] (internal_stringslite_IndexByte.t x0 x1))
theorem internal_stringslite_IndexByte.e_ok : EntOK C 67 (fun {_} => internal_stringslite_IndexByte.e) := entA_ok (argI_ok fun x0 => argI_ok fun x1 => endT_ok (internal_stringslite_IndexByte.c x0 x1))
def lays144_ren : Go.Shelf.Ren := ⟨fun | 144 => 60 | 143 => 63 | 219 => 75 | 217 => 67 | 225 => 83 | 224 => 84 | 267 => 85 | 266 => 80 | 314 => 92 | n => n, fun | 9 => 9 | 4 => 4 | 3 => 3 | 5 => 5 | 46 => 109 | 146 => 132 | 51 => 131 | 20 => 20 | n => n, fun | 1 => 1 | n => n⟩
theorem lays144 : Go.Proofs.Lays.n144 Tryd.prog lays144_ren where
  mixed := by kernel_rfl
  f143 := Tryd.func63.trans (congrArg some (by kernel_rfl))
  f144 := Tryd.func60.trans (congrArg some (by kernel_rfl))
  f217 := Tryd.func67.trans (congrArg some (by kernel_rfl))
  f219 := Tryd.func75.trans (congrArg some (by kernel_rfl))
  f224 := Tryd.func84.trans (congrArg some (by kernel_rfl))
  f225 := Tryd.func83.trans (congrArg some (by kernel_rfl))
  f266 := Tryd.func80.trans (congrArg some (by kernel_rfl))
  f267 := Tryd.func85.trans (congrArg some (by kernel_rfl))
  f314 := Tryd.func92.trans (congrArg some (by kernel_rfl))
  t3 := Tryd.underlying3
  a3 := Tryd.isAgg3
  z3 := Tryd.sizeOf3
  v3 := Tryd.zeroValue3
  t4 := Tryd.underlying4
  a4 := Tryd.isAgg4
  z4 := Tryd.sizeOf4
  v4 := Tryd.zeroValue4
  t5 := Tryd.underlying5
  a5 := Tryd.isAgg5
  z5 := Tryd.sizeOf5
  v5 := Tryd.zeroValue5
  t9 := Tryd.underlying9
  a9 := Tryd.isAgg9
  z9 := Tryd.sizeOf9
  v9 := Tryd.zeroValue9
  t46 := Tryd.underlying109
  a46 := Tryd.isAgg109
  z46 := Tryd.sizeOf109
  v46 := Tryd.zeroValue109
  t51 := Tryd.underlying131
  a51 := Tryd.isAgg131
  z51 := Tryd.sizeOf131
  v51 := Tryd.zeroValue131
  t146 := Tryd.underlying132
  a146 := Tryd.isAgg132
  z146 := Tryd.sizeOf132
  v146 := Tryd.zeroValue132
  g1 := by kernel_rfl
/-- strings.Contains -/
def strings_Contains.u (s sub : ByteArray) : Option Bool := bif decide (s.size < 4294967281) then some (Lib.contains s.data.toList sub.data.toList) else none
theorem strings_Contains.c (s sub : ByteArray) (r : Bool) (h : strings_Contains.u s sub = some r) : Contract CM 60 [.v .str s, .v .str sub] (tupAV .bool [] r) where
  enters us w := enters_fn (P := Tryd.prog) (fn := Tryd.f60) (by kernel_rfl) (by kernel_rfl) (by kernel_rfl) us w
  runs w S us hlt hG hr := by
    simp only [RepAs] at hr
    obtain ⟨u, q, rfl, h1, v, q', rfl, h2, rfl⟩ := hr
    rw [rep_str] at h1 h2
    subst h1 h2
    obtain ⟨hp, hq⟩ := ite_some h
    cases hq
    obtain ⟨_, ⟨m, hm⟩, _⟩ := hG.any 1 rfl
    refine (Any.strings_Contains lays144 s sub m w (of_decide_eq_true hp) hm).mono ?_
    rintro e w' ⟨rfl, rfl⟩
    exact ⟨_, S, rfl, Below.refl _ _, Safe.refl _ _, fun b o hs => ⟨.inl hs, hlt b o hs⟩, rep_bool.2 rfl⟩
noncomputable def strings_Contains.e : Ent := argI .str fun x0 => argI .str fun x1 => endU (strings_Contains.u x0 x1) (tupAV .bool [])
theorem strings_Contains.e_ok : EntOK CM 60 (fun {_} => strings_Contains.e) := entA_ok (argI_ok fun x0 => argI_ok fun x1 => endU_ok fun r h => strings_Contains.c x0 x1 r h)
def laysSplit_ren : Go.Shelf.Ren := ⟨fun | 146 => 24 | 221 => 47 | 268 => 61 | 138 => 62 | 143 => 63 | 195 => 72 | 197 => 73 | 218 => 74 | 219 => 75 | 260 => 82 | 217 => 67 | 225 => 83 | 224 => 84 | 267 => 85 | 266 => 80 | 314 => 92 | n => n, fun | 9 => 9 | 31 => 53 | 3 => 3 | 4 => 4 | 0 => 0 | 105 => 116 | 21 => 21 | 5 => 5 | 46 => 109 | 119 => 127 | 139 => 130 | 138 => 129 | 146 => 132 | 51 => 131 | 20 => 20 | n => n, fun | 1 => 1 | 3 => 2 | 4 => 3 | n => n⟩
theorem laysSplit : Go.Proofs.Lays.n146 Tryd.prog laysSplit_ren where
  mixed := by kernel_rfl
  f138 := Tryd.func62.trans (congrArg some (by kernel_rfl))
  f143 := Tryd.func63.trans (congrArg some (by kernel_rfl))
  f146 := Tryd.func24.trans (congrArg some (by kernel_rfl))
  f195 := Tryd.func72.trans (congrArg some (by kernel_rfl))
  f197 := Tryd.func73.trans (congrArg some (by kernel_rfl))
  f217 := Tryd.func67.trans (congrArg some (by kernel_rfl))
  f218 := Tryd.func74.trans (congrArg some (by kernel_rfl))
  f219 := Tryd.func75.trans (congrArg some (by kernel_rfl))
  f221 := Tryd.func47.trans (congrArg some (by kernel_rfl))
  f224 := Tryd.func84.trans (congrArg some (by kernel_rfl))
  f225 := Tryd.func83.trans (congrArg some (by kernel_rfl))
  f260 := Tryd.func82.trans (congrArg some (by kernel_rfl))
  f266 := Tryd.func80.trans (congrArg some (by kernel_rfl))
  f267 := Tryd.func85.trans (congrArg some (by kernel_rfl))
  f268 := Tryd.func61.trans (congrArg some (by kernel_rfl))
  f314 := Tryd.func92.trans (congrArg some (by kernel_rfl))
  t0 := Tryd.underlying0
  a0 := Tryd.isAgg0
  z0 := Tryd.sizeOf0
  v0 := Tryd.zeroValue0
  t3 := Tryd.underlying3
  a3 := Tryd.isAgg3
  z3 := Tryd.sizeOf3
  v3 := Tryd.zeroValue3
  t4 := Tryd.underlying4
  a4 := Tryd.isAgg4
  z4 := Tryd.sizeOf4
  v4 := Tryd.zeroValue4
  t5 := Tryd.underlying5
  a5 := Tryd.isAgg5
  z5 := Tryd.sizeOf5
  v5 := Tryd.zeroValue5
  t9 := Tryd.underlying9
  a9 := Tryd.isAgg9
  z9 := Tryd.sizeOf9
  v9 := Tryd.zeroValue9
  t21 := Tryd.underlying21
  a21 := Tryd.isAgg21
  z21 := Tryd.sizeOf21
  v21 := Tryd.zeroValue21
  t31 := Tryd.underlying53
  a31 := Tryd.isAgg53
  z31 := Tryd.sizeOf53
  v31 := Tryd.zeroValue53
  t46 := Tryd.underlying109
  a46 := Tryd.isAgg109
  z46 := Tryd.sizeOf109
  v46 := Tryd.zeroValue109
  t51 := Tryd.underlying131
  a51 := Tryd.isAgg131
  z51 := Tryd.sizeOf131
  v51 := Tryd.zeroValue131
  t105 := Tryd.underlying116
  a105 := Tryd.isAgg116
  z105 := Tryd.sizeOf116
  v105 := Tryd.zeroValue116
  t119 := Tryd.underlying127
  a119 := Tryd.isAgg127
  z119 := Tryd.sizeOf127
  t138 := Tryd.underlying129
  a138 := Tryd.isAgg129
  z138 := Tryd.sizeOf129
  v138 := Tryd.zeroValue129
  t139 := Tryd.underlying130
  a139 := Tryd.isAgg130
  z139 := Tryd.sizeOf130
  v139 := Tryd.zeroValue130
  t146 := Tryd.underlying132
  a146 := Tryd.isAgg132
  z146 := Tryd.sizeOf132
  v146 := Tryd.zeroValue132
  g1 := by kernel_rfl
  g3 := by kernel_rfl
  g4 := by kernel_rfl
/-- strings.Split -/
def strings_Split.u (s sep : ByteArray) : Option (List ByteArray) := bif decide (s.size < 4294967281) && decide (1 ≤ sep.size) then some (Lib.splitB sep 0 (Lib.countB s sep) s) else none
theorem alloc_heap (w : World) (cs : List Value) (t : TypeId) : (w.alloc (.cells cs.toArray t)).heap[w.heap.size]? = some (.cells cs.toArray t (0, 0)) := Array.getElem?_push_size
theorem alloc_size (w : World) (o : Obj) : (w.alloc o).heap.size = w.heap.size + 1 := Array.size_push _
theorem repL_strs {w : World} {S : Nat → Nat → Prop} : ∀ (l : List ByteArray), RepL (RepC w S .str) l (l.map Value.string)
  | [] => rfl
  | x :: l => ⟨[.string x], _, rfl, rfl, repL_strs l⟩
theorem strings_Split.c (s sep : ByteArray) (r : List ByteArray) (h : strings_Split.u s sep = some r) : Contract CM 24 [.v .str s, .v .str sep] (tupAV (.slice .str) [] r) where
  enters us w := enters_fn (P := Tryd.prog) (fn := Tryd.f24) (by kernel_rfl) (by kernel_rfl) (by kernel_rfl) us w
  runs w S us hlt hG hr := by
    simp only [RepAs] at hr
    obtain ⟨u, q, rfl, h1, v, q', rfl, h2, rfl⟩ := hr
    rw [rep_str] at h1 h2
    subst h1 h2
    obtain ⟨hp, hq⟩ := ite_some h
    simp only [Bool.and_eq_true, decide_eq_true_eq] at hp
    cases hq
    obtain ⟨_, ⟨m, hm⟩, _⟩ := hG.any 1 rfl
    refine (Any.strings_Split laysSplit (by kernel_rfl) s sep m w hp.1 hm hp.2).mono ?_
    rintro e w' ⟨rfl, rfl⟩
    have hlen := Lib.splitB_all sep hp.2 0 (Lib.countB s sep) s rfl
    have hb : Below w.heap.size w (w.alloc (.cells ((Lib.splitB sep 0 (Lib.countB s sep) s).map Value.string).toArray (laysSplit_ren.t 9))) := (Below.refl _ w).alloc (Nat.le_refl _) _
    refine ⟨_, fun b o => S b o ∨ (b = w.heap.size ∧ o < Lib.countB s sep + 1), rfl, hb, ⟨fun b o h => .inl h, fun b o h => World.cell?_of_block (a := ⟨b, o, none⟩) (hb.block b (hlt b o h))⟩, fun b o h => ?_, ?_⟩
    · rcases h with h | ⟨rfl, _⟩
      · exact ⟨.inl h, Nat.lt_of_lt_of_le (hlt b o h) hb.size⟩
      · exact ⟨.inr (Nat.le_refl _), by rw [alloc_size]; exact Nat.lt_succ_self _⟩
    · simp only [tupAV, rep_v]
      refine ⟨[_], ⟨some ⟨w.heap.size, 0, none⟩, Lib.countB s sep + 1, by rw [hlen], by rw [hlen]; exact Nat.le_refl _, .inr ⟨w.heap.size, 0, (Lib.splitB sep 0 (Lib.countB s sep) s).map Value.string, rfl, repL_strs _, fun j hj => ⟨?_, .inr ⟨rfl, ?_⟩⟩⟩⟩, rfl⟩
      · exact (cellsAt_block (alloc_heap w _ _) j hj)
      · rw [List.length_map, hlen] at hj; rw [Nat.zero_add]; exact hj
noncomputable def strings_Split.e : Ent := argI .str fun x0 => argI .str fun x1 => endU (strings_Split.u x0 x1) (tupAV (.slice .str) [])
theorem strings_Split.e_ok : EntOK CM 24 (fun {_} => strings_Split.e) := entA_ok (argI_ok fun x0 => argI_ok fun x1 => endU_ok fun r h => strings_Split.c x0 x1 r h)
def laysBldS_ren : Go.Shelf.Ren := ⟨fun | 166 => 35 | 240 => 57 | 276 => 70 | n => n, fun | 70 => 74 | 9 => 9 | 3 => 3 | 75 => 78 | 0 => 0 | 72 => 76 | 37 => 54 | 4 => 4 | 164 => 113 | 80 => 81 | 5 => 5 | 20 => 20 | n => n, fun | n => n⟩
theorem laysBldS : Go.Proofs.Lays.n166 Tryd.prog laysBldS_ren where
  mixed := by kernel_rfl
  f166 := Tryd.func35.trans (congrArg some (by kernel_rfl))
  f240 := Tryd.func57.trans (congrArg some (by kernel_rfl))
  f276 := Tryd.func70.trans (congrArg some (by kernel_rfl))
  t0 := Tryd.underlying0
  a0 := Tryd.isAgg0
  z0 := Tryd.sizeOf0
  v0 := Tryd.zeroValue0
  t3 := Tryd.underlying3
  a3 := Tryd.isAgg3
  z3 := Tryd.sizeOf3
  v3 := Tryd.zeroValue3
  t4 := Tryd.underlying4
  a4 := Tryd.isAgg4
  z4 := Tryd.sizeOf4
  v4 := Tryd.zeroValue4
  t9 := Tryd.underlying9
  a9 := Tryd.isAgg9
  z9 := Tryd.sizeOf9
  v9 := Tryd.zeroValue9
  t20 := Tryd.underlying20
  a20 := Tryd.isAgg20
  z20 := Tryd.sizeOf20
  v20 := Tryd.zeroValue20
  t37 := Tryd.underlying54
  a37 := Tryd.isAgg54
  z37 := Tryd.sizeOf54
  v37 := Tryd.zeroValue54
  t70 := Tryd.underlying74
  a70 := Tryd.isAgg74
  z70 := Tryd.sizeOf74
  v70 := Tryd.zeroValue74
  t72 := Tryd.underlying76
  a72 := Tryd.isAgg76
  z72 := Tryd.sizeOf76
  v72 := Tryd.zeroValue76
  t75 := Tryd.underlying78
  a75 := Tryd.isAgg78
  z75 := Tryd.sizeOf78
  v75 := Tryd.zeroValue78
  t164 := Tryd.underlying113
  a164 := Tryd.isAgg113
  z164 := Tryd.sizeOf113
  v164 := Tryd.zeroValue113
theorem extralaysBldS : Builder.Extra Tryd.prog laysBldS_ren where
  sizeBuilder := by kernel_rfl
  liesBuilder := by kernel_rfl
  t5 := Tryd.underlying5
  a5 := Tryd.isAgg5
  z5 := Tryd.sizeOf5
  v5 := Tryd.zeroValue5
  infoByte := by kernel_rfl
  cellsByte := by kernel_rfl
  sizeByte := by kernel_rfl
  neB5 := by decide
/-- (strings.Builder).WriteString -/
def strings_Builder_WriteString.fx {Ω : Type} := bldStrFx 76 5 (Ω := Ω)
theorem strings_Builder_WriteString.fx_ok : FxOK C 35 (fun {_} => strings_Builder_WriteString.fx) := bldStrFx_ok (C := C) laysBldS extralaysBldS (fun us w => enters_fn (P := Tryd.prog) (fn := Tryd.f35) (by kernel_rfl) (by kernel_rfl) (by kernel_rfl) us w)
def laysBldG_ren : Go.Shelf.Ren := ⟨fun | 169 => 36 | n => n, fun | 70 => 74 | 9 => 9 | 0 => 0 | 72 => 76 | 37 => 54 | 127 => 105 | 3 => 3 | 5 => 5 | 20 => 20 | n => n, fun | n => n⟩
theorem laysBldG : Go.Proofs.Lays.n169 Tryd.prog laysBldG_ren where
  mixed := by kernel_rfl
  f169 := Tryd.func36.trans (congrArg some (by kernel_rfl))
  t0 := Tryd.underlying0
  a0 := Tryd.isAgg0
  z0 := Tryd.sizeOf0
  v0 := Tryd.zeroValue0
  t3 := Tryd.underlying3
  a3 := Tryd.isAgg3
  z3 := Tryd.sizeOf3
  v3 := Tryd.zeroValue3
  t9 := Tryd.underlying9
  a9 := Tryd.isAgg9
  z9 := Tryd.sizeOf9
  v9 := Tryd.zeroValue9
  t37 := Tryd.underlying54
  a37 := Tryd.isAgg54
  z37 := Tryd.sizeOf54
  v37 := Tryd.zeroValue54
  t70 := Tryd.underlying74
  a70 := Tryd.isAgg74
  z70 := Tryd.sizeOf74
  v70 := Tryd.zeroValue74
  t72 := Tryd.underlying76
  a72 := Tryd.isAgg76
  z72 := Tryd.sizeOf76
  v72 := Tryd.zeroValue76
  t127 := Tryd.underlying105
  a127 := Tryd.isAgg105
  z127 := Tryd.sizeOf105
  v127 := Tryd.zeroValue105
theorem extralaysBldG : Builder.Extra Tryd.prog laysBldG_ren where
  sizeBuilder := by kernel_rfl
  liesBuilder := by kernel_rfl
  t5 := Tryd.underlying5
  a5 := Tryd.isAgg5
  z5 := Tryd.sizeOf5
  v5 := Tryd.zeroValue5
  infoByte := by kernel_rfl
  cellsByte := by kernel_rfl
  sizeByte := by kernel_rfl
  neB5 := by decide
/-- (strings.Builder).String -/
def strings_Builder_String.fx {Ω : Type} := bldGetFx 76 5 (Ω := Ω)
theorem strings_Builder_String.fx_ok : FxOK C 36 (fun {_} => strings_Builder_String.fx) := bldGetFx_ok (C := C) laysBldG extralaysBldG (fun us w => enters_fn (P := Tryd.prog) (fn := Tryd.f36) (by kernel_rfl) (by kernel_rfl) (by kernel_rfl) us w)
end Go.Proofs.YtmmooplcdkmapaaDoor.K

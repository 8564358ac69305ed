/- The tables that may be known, and the library functions that the program leans on, off the shelf. -/
import Derived.Test.YtmphlhnpichonaaDoorX
import Derived.Test.YtmphlhnpichonaaDoorKF
import Derived.Shelf.Strconv.Itoa3
import Derived.Shelf.Strconv.Atoi
import Derived.Shelf.Strings.Search1
import Derived.Shelf.Strings.Search3
import Derived.Shelf.Strings.OnBuilder
set_option maxRecDepth 100000
set_option linter.unusedVariables false
namespace Go.Proofs.YtmphlhnpichonaaDoor.K
open Go Go.RowKit

/-- The powers of ten. -/
def pow10 : List Int := [1, 10, 100, 1000, 10000, 100000, 1000000, 10000000, 100000000, 1000000000, 10000000000, 100000000000, 1000000000000, 10000000000000, 100000000000000, 1000000000000000, 10000000000000000, 100000000000000000, 1000000000000000000, 10000000000000000000]
/-- The table of opcodes. -/
def kindsT : List (ByteArray × (ByteArray × (Int × Unit))) := [(bs [110, 111, 112], bs [45, 45, 45], 0, ()), (bs [104, 97, 108, 116], bs [45, 45, 45], 5, ()), (bs [109, 111, 118], bs [114, 114, 45], 0, ()), (bs [115, 101, 116], bs [114, 105, 106], 0, ()), (bs [97, 100, 100], bs [114, 114, 114], 0, ()), (bs [115, 117, 98], bs [114, 114, 114], 0, ()), (bs [109, 117, 108], bs [114, 114, 114], 0, ()), (bs [100, 105, 118], bs [114, 114, 114], 0, ()), (bs [114, 101, 109], bs [114, 114, 114], 0, ()), (bs [97, 110, 100], bs [114, 114, 114], 0, ()), (bs [111, 114], bs [114, 114, 114], 0, ()), (bs [120, 111, 114], bs [114, 114, 114], 0, ()), (bs [115, 104, 108], bs [114, 114, 114], 0, ()), (bs [115, 104, 114], bs [114, 114, 114], 0, ()), (bs [110, 111, 116], bs [114, 114, 45], 0, ()), (bs [110, 101, 103], bs [114, 114, 45], 0, ()), (bs [108, 116], bs [114, 114, 114], 0, ()), (bs [101, 113], bs [114, 114, 114], 0, ()), (bs [106, 109, 112], bs [116, 45, 45], 1, ()), (bs [106, 122], bs [114, 116, 45], 1, ()), (bs [106, 110, 122], bs [114, 116, 45], 1, ()), (bs [106, 98, 97, 100], bs [116, 45, 45], 1, ()), (bs [99, 97, 108, 108], bs [116, 45, 45], 1, ()), (bs [114, 101, 116], bs [45, 45, 45], 1, ()), (bs [108, 111, 97, 100], bs [114, 114, 45], 0, ()), (bs [115, 116, 111, 114, 101], bs [114, 114, 45], 0, ()), (bs [102, 97, 105, 108], bs [115, 45, 45], 5, ()), (bs [101, 109, 105, 116], bs [114, 45, 45], 4, ()), (bs [110, 111, 119], bs [114, 45, 45], 4, ()), (bs [109, 101], bs [114, 45, 45], 4, ()), (bs [115, 112, 97, 119, 110], bs [114, 112, 114], 4, ()), (bs [106, 111, 105, 110], bs [114, 45, 45], 2, ()), (bs [115, 108, 101, 101, 112], bs [114, 45, 45], 2, ()), (bs [115, 101, 110, 100], bs [99, 114, 45], 2, ()), (bs [114, 101, 99, 118], bs [99, 114, 45], 2, ()), (bs [112, 111, 105, 115, 111, 110], bs [99, 114, 45], 4, ()), (bs [101, 110, 114, 111, 108], bs [98, 45, 45], 4, ()), (bs [114, 101, 115, 105, 103, 110], bs [98, 45, 45], 4, ()), (bs [115, 121, 110, 99], bs [98, 45, 45], 2, ()), (bs [102, 97, 108, 108], bs [107, 45, 45], 2, ()), (bs [102, 108, 117, 115, 104], bs [114, 107, 45], 4, ()), (bs [97, 108, 116], bs [114, 109, 110], 2, ()), (bs [103, 105, 110], bs [99, 114, 103], 3, ()), (bs [103, 98, 97, 114], bs [98, 45, 103], 3, ()), (bs [103, 116, 105, 109, 101], bs [114, 45, 103], 3, ()), (bs [103, 115, 107, 105, 112], bs [45, 45, 103], 3, ()), (bs [112, 104, 97, 115, 101], bs [114, 98, 45], 4, ()), (bs [115, 105, 122, 101], bs [114, 98, 45], 4, ())]
def orG (f h : Nat → Option Dat) : Nat → Option Dat := fun g => match f g with | some d => some d | none => h g
def gP : Nat → Option Dat := fun g => bif g == 4 then some (⟨.arr 20 (.int .u64), pow10⟩ : Dat) else none
def gK : Nat → Option Dat := fun g => bif g == 0 then some (⟨.arr 48 (.pair .str (.pair .str (.pair (.int .i64) .unit))), kindsT⟩ : Dat) else none
noncomputable def CK : Cfg := { C with G := gK }
theorem CK_ok : CK.OK := ⟨C_ok.ty, C_ok.mixed⟩
noncomputable def CM : Cfg := { C with M := fun g => g == 3 }
theorem CM_ok : CM.OK := ⟨C_ok.ty, C_ok.mixed⟩
noncomputable def CKM : Cfg := { C with G := gK, M := fun g => g == 3 }
theorem CKM_ok : CKM.OK := ⟨C_ok.ty, C_ok.mixed⟩
noncomputable def CP : Cfg := { C with G := gP }
theorem CP_ok : CP.OK := ⟨C_ok.ty, C_ok.mixed⟩
noncomputable def CKP : Cfg := { C with G := (orG gK gP) }
theorem CKP_ok : CKP.OK := ⟨C_ok.ty, C_ok.mixed⟩
noncomputable def CMP : Cfg := { C with G := gP, M := fun g => g == 3 }
theorem CMP_ok : CMP.OK := ⟨C_ok.ty, C_ok.mixed⟩
noncomputable def CKMP : Cfg := { C with G := (orG gK gP), M := fun g => g == 3 }
theorem CKMP_ok : CKMP.OK := ⟨C_ok.ty, C_ok.mixed⟩
theorem le_C_CK : C.le CK := ⟨rfl, (fun g d h => by cases h), (fun g h => by cases h)⟩
theorem le_C_CM : C.le CM := ⟨rfl, (fun g d h => by cases h), (fun g h => by cases h)⟩
theorem le_C_CKM : C.le CKM := ⟨rfl, (fun g d h => by cases h), (fun g h => by cases h)⟩
theorem le_C_CP : C.le CP := ⟨rfl, (fun g d h => by cases h), (fun g h => by cases h)⟩
theorem le_C_CKP : C.le CKP := ⟨rfl, (fun g d h => by cases h), (fun g h => by cases h)⟩
theorem le_C_CMP : C.le CMP := ⟨rfl, (fun g d h => by cases h), (fun g h => by cases h)⟩
theorem le_C_CKMP : C.le CKMP := ⟨rfl, (fun g d h => by cases h), (fun g h => by cases h)⟩
theorem le_CK_CKM : CK.le CKM := ⟨rfl, (fun g d h => h), (fun g h => by cases h)⟩
theorem le_CK_CKP : CK.le CKP := ⟨rfl, (fun g d h => by
  have h1 : gK g = some d := h
  show orG gK gP g = some d
  unfold orG
  rw [h1]), (fun g h => by cases h)⟩
theorem le_CK_CKMP : CK.le CKMP := ⟨rfl, (fun g d h => by
  have h1 : gK g = some d := h
  show orG gK gP g = some d
  unfold orG
  rw [h1]), (fun g h => by cases h)⟩
theorem le_CM_CKM : CM.le CKM := ⟨rfl, (fun g d h => by cases h), (fun g h => h)⟩
theorem le_CM_CMP : CM.le CMP := ⟨rfl, (fun g d h => by cases h), (fun g h => h)⟩
theorem le_CM_CKMP : CM.le CKMP := ⟨rfl, (fun g d h => by cases h), (fun g h => h)⟩
theorem le_CKM_CKMP : CKM.le CKMP := ⟨rfl, (fun g d h => by
  have h1 : gK g = some d := h
  show orG gK gP g = some d
  unfold orG
  rw [h1]), (fun g h => h)⟩
theorem le_CP_CKP : CP.le CKP := ⟨rfl, (fun g d h => by
  have h1 : gP g = some d := h
  show orG gK gP g = some d
  unfold orG gK
  cases hf : (g == 0) with
  | true => rw [show g = 0 by simpa using hf] at h1; cases h1
  | false => exact h1), (fun g h => by cases h)⟩
theorem le_CP_CMP : CP.le CMP := ⟨rfl, (fun g d h => h), (fun g h => by cases h)⟩
theorem le_CP_CKMP : CP.le CKMP := ⟨rfl, (fun g d h => by
  have h1 : gP g = some d := h
  show orG gK gP g = some d
  unfold orG gK
  cases hf : (g == 0) with
  | true => rw [show g = 0 by simpa using hf] at h1; cases h1
  | false => exact h1), (fun g h => by cases h)⟩
theorem le_CKP_CKMP : CKP.le CKMP := ⟨rfl, (fun g d h => h), (fun g h => by cases h)⟩
theorem le_CMP_CKMP : CMP.le CKMP := ⟨rfl, (fun g d h => by
  have h1 : gP g = some d := h
  show orG gK gP g = some d
  unfold orG gK
  cases hf : (g == 0) with
  | true => rw [show g = 0 by simpa using hf] at h1; cases h1
  | false => exact h1), (fun g h => h)⟩
theorem enters_fn {P : Program} {f : FuncId} {fn : Func} (hf : P.funcs[f]? = some fn) (hb : fn.body.isSome = true) (hn : (fn.name == "runtime.NumGoroutine") = false) (us : Array Value) (w : World) : (callFunc f us).run P w = .ok (.enter f us) w := by
  have hpn : (program.run P w : Result Program) = .ok P w := rfl
  have hb' : fn.body.isNone = false := by cases h : fn.body <;> simp [h] at hb ⊢
  simp only [callFunc, Sem.run_bind, hpn, Result.andThen_ok, hf, hn, hb', Bool.false_eq_true, if_false, Sem.run_pure]

theorem below_grow (w : World) (k : Nat) (os : Array Obj) : Below w.heap.size w (Go.Sort.grow (w.drewN k) os) :=
  ⟨rfl, rfl, rfl, by simp [Go.Sort.grow], fun i hi => by simp only [Go.Sort.grow, World.heap_drewN]; exact Array.getElem?_append_left hi⟩

theorem safe_of_below {w w' : World} {S : Nat → Nat → Prop} (hS : ∀ b o, S b o → b < w.heap.size) (h : Below w.heap.size w w') : Safe S S w w' :=
  ⟨fun _ _ h => h, fun b o hs => World.cell?_of_block (a := ⟨b, o, none⟩) (h.block b (hS b o hs))⟩

def lays171_ren : Go.Shelf.Ren := ⟨fun | 171 => 78 | 243 => 99 | 246 => 118 | 283 => 135 | 284 => 136 | 285 => 137 | 286 => 138 | 129 => 146 | 317 => 145 | 318 => 147 | 319 => 148 | 320 => 149 | 337 => 152 | 338 => 153 | n => n, fun | 3 => 3 | 9 => 9 | 2 => 2 | 4 => 4 | 171 => 156 | 0 => 0 | 53 => 148 | 37 => 106 | 5 => 5 | 173 => 159 | 212 => 170 | 51 => 171 | 20 => 20 | 213 => 172 | 46 => 151 | 232 => 176 | 233 => 177 | n => n, fun | 17 => 4 | 18 => 5 | 19 => 6 | n => n⟩
theorem lays171 : Go.Proofs.LaysM.n171 Tryd.prog lays171_ren where
  mixed := by kernel_rfl
  f129 := Tryd.func146.trans (congrArg some (by kernel_rfl))
  f171 := Tryd.func78.trans (congrArg some (by kernel_rfl))
  f243 := Tryd.func99.trans (congrArg some (by kernel_rfl))
  f246 := Tryd.func118.trans (congrArg some (by kernel_rfl))
  f283 := Tryd.func135.trans (congrArg some (by kernel_rfl))
  f284 := Tryd.func136.trans (congrArg some (by kernel_rfl))
  f285 := Tryd.func137.trans (congrArg some (by kernel_rfl))
  f286 := Tryd.func138.trans (congrArg some (by kernel_rfl))
  f317 := Tryd.func145.trans (congrArg some (by kernel_rfl))
  f318 := Tryd.func147.trans (congrArg some (by kernel_rfl))
  f319 := Tryd.func148.trans (congrArg some (by kernel_rfl))
  f320 := Tryd.func149.trans (congrArg some (by kernel_rfl))
  f337 := Tryd.func152.trans (congrArg some (by kernel_rfl))
  f338 := Tryd.func153.trans (congrArg some (by kernel_rfl))
  t0 := Tryd.underlying0
  a0 := Tryd.isAgg0
  z0 := Tryd.sizeOf0
  v0 := Tryd.zeroValue0
  t2 := Tryd.underlying2
  a2 := Tryd.isAgg2
  z2 := Tryd.sizeOf2
  v2 := Tryd.zeroValue2
  t3 := Tryd.underlying3
  a3 := Tryd.isAgg3
  z3 := Tryd.sizeOf3
  v3 := Tryd.zeroValue3
  t4 := Tryd.underlying4
  a4 := Tryd.isAgg4
  z4 := Tryd.sizeOf4
  v4 := Tryd.zeroValue4
  t5 := Tryd.underlying5
  a5 := Tryd.isAgg5
  z5 := Tryd.sizeOf5
  v5 := Tryd.zeroValue5
  t9 := Tryd.underlying9
  a9 := Tryd.isAgg9
  z9 := Tryd.sizeOf9
  v9 := Tryd.zeroValue9
  t20 := Tryd.underlying20
  a20 := Tryd.isAgg20
  z20 := Tryd.sizeOf20
  v20 := Tryd.zeroValue20
  t37 := Tryd.underlying106
  a37 := Tryd.isAgg106
  z37 := Tryd.sizeOf106
  v37 := Tryd.zeroValue106
  t46 := Tryd.underlying151
  a46 := Tryd.isAgg151
  z46 := Tryd.sizeOf151
  v46 := Tryd.zeroValue151
  t51 := Tryd.underlying171
  a51 := Tryd.isAgg171
  z51 := Tryd.sizeOf171
  v51 := Tryd.zeroValue171
  t53 := Tryd.underlying148
  a53 := Tryd.isAgg148
  z53 := Tryd.sizeOf148
  v53 := Tryd.zeroValue148
  t171 := Tryd.underlying156
  a171 := Tryd.isAgg156
  z171 := Tryd.sizeOf156
  v171 := Tryd.zeroValue156
  t173 := Tryd.underlying159
  a173 := Tryd.isAgg159
  z173 := Tryd.sizeOf159
  v173 := Tryd.zeroValue159
  t212 := Tryd.underlying170
  a212 := Tryd.isAgg170
  z212 := Tryd.sizeOf170
  v212 := Tryd.zeroValue170
  t213 := Tryd.underlying172
  a213 := Tryd.isAgg172
  z213 := Tryd.sizeOf172
  t232 := Tryd.underlying176
  a232 := Tryd.isAgg176
  z232 := Tryd.sizeOf176
  v232 := Tryd.zeroValue176
  t233 := Tryd.underlying177
  a233 := Tryd.isAgg177
  z233 := Tryd.sizeOf177
  v233 := Tryd.zeroValue177
  g17 := by kernel_rfl
  g18 := by kernel_rfl
  g19 := by kernel_rfl
  i0 := by kernel_rfl
  i2 := by kernel_rfl
  i3 := by kernel_rfl
  i4 := by kernel_rfl
  i5 := by kernel_rfl
  i9 := by kernel_rfl
  i20 := by kernel_rfl
  i37 := by kernel_rfl
  i46 := by kernel_rfl
  i51 := by kernel_rfl
  i53 := by kernel_rfl
  i171 := by kernel_rfl
  i173 := by kernel_rfl
  i212 := by kernel_rfl
  i232 := by kernel_rfl
  i233 := by kernel_rfl
  m17 := by kernel_rfl
  m18 := by kernel_rfl
  m19 := by kernel_rfl
theorem tab_of {w : World} {S : Nat → Nat → Prop} {B : Nat} (h : GlobOK CP B w S) : Lib.TabIs Tryd.prog w "internal/strconv.uint64pow10" .u64 Lib.pow10Tab := by
  obtain ⟨_, cs, el, fr, h1, h2, _⟩ := h.tab 4 ⟨.arr 20 (.int .u64), pow10⟩ rfl
  have h3 : cs = pow10.map (Value.int .u64) := repL_ints_eq h2.2
  unfold Lib.TabIs World.var?
  rw [show Tryd.prog.globalNamed "internal/strconv.uint64pow10" = some 4 by kernel_rfl]
  simp only [Option.bind_some, h1, h3]
  rfl

/-- strconv.Itoa -/
def strconv_Itoa.u (n : Int) : Option ByteArray := bif decide (-9223372036854775808 ≤ n) && decide (n ≤ 9223372036854775807) then some ⟨(Lib.itoa n).toArray⟩ else none
theorem strconv_Itoa.c (n : Int) (r : ByteArray) (h : strconv_Itoa.u n = some r) : Contract CP 78 [.v (.int .i64) n] (tupAV .str [] r) where
  enters us w := enters_fn (P := Tryd.prog) (fn := Tryd.f78) (by kernel_rfl) (by kernel_rfl) (by kernel_rfl) us w
  runs w S us hlt hG hr := by
    simp only [RepAs] at hr
    obtain ⟨u, q, rfl, h1, rfl⟩ := hr
    rw [rep_int] at h1
    subst h1
    obtain ⟨hp, hq⟩ := ite_some h
    simp only [Bool.and_eq_true, decide_eq_true_eq] at hp
    cases hq
    refine (Any.strconv_Itoa lays171 n hp.1 hp.2 w (tab_of hG)).mono ?_
    rintro e w' ⟨rfl, k, os, rfl⟩
    have hb := below_grow w k os
    exact ⟨_, S, rfl, hb, safe_of_below hlt hb, fun b o hs => ⟨.inl hs, Nat.lt_of_lt_of_le (hlt b o hs) hb.size⟩, rep_str.2 rfl⟩
noncomputable def strconv_Itoa.e : Ent := argI (.int .i64) fun x0 => endU (strconv_Itoa.u x0) (tupAV .str [])
theorem strconv_Itoa.e_ok : EntOK CP 78 (fun {_} => strconv_Itoa.e) := entA_ok (argI_ok fun x0 => endU_ok fun r h => strconv_Itoa.c x0 r h)
def lays172_ren : Go.Shelf.Ren := ⟨fun | 172 => 76 | 244 => 97 | 245 => 98 | 247 => 113 | 279 => 114 | 280 => 115 | 281 => 116 | 282 => 117 | 287 => 132 | 316 => 133 | 171 => 78 | 205 => 134 | 321 => 143 | 322 => 144 | 243 => 99 | 246 => 118 | 283 => 135 | 284 => 136 | 285 => 137 | 286 => 138 | 129 => 146 | 317 => 145 | 318 => 147 | 319 => 148 | 320 => 149 | 337 => 152 | 338 => 153 | n => n, fun | 9 => 9 | 3 => 3 | 75 => 100 | 76 => 101 | 4 => 4 | 5 => 5 | 167 => 134 | 37 => 106 | 0 => 0 | 85 => 135 | 2 => 2 | 168 => 137 | 53 => 148 | 175 => 149 | 46 => 151 | 210 => 154 | 127 => 123 | 145 => 169 | 143 => 167 | 21 => 21 | 171 => 156 | 173 => 159 | 212 => 170 | 51 => 171 | 20 => 20 | 213 => 172 | 232 => 176 | 233 => 177 | 80 => 110 | n => n, fun | 15 => 1 | 16 => 2 | 17 => 4 | 18 => 5 | 19 => 6 | n => n⟩
theorem lays172 : Go.Proofs.Lays.n172 Tryd.prog lays172_ren where
  mixed := by kernel_rfl
  f129 := Tryd.func146.trans (congrArg some (by kernel_rfl))
  f171 := Tryd.func78.trans (congrArg some (by kernel_rfl))
  f172 := Tryd.func76.trans (congrArg some (by kernel_rfl))
  f205 := Tryd.func134.trans (congrArg some (by kernel_rfl))
  f243 := Tryd.func99.trans (congrArg some (by kernel_rfl))
  f244 := Tryd.func97.trans (congrArg some (by kernel_rfl))
  f245 := Tryd.func98.trans (congrArg some (by kernel_rfl))
  f246 := Tryd.func118.trans (congrArg some (by kernel_rfl))
  f247 := Tryd.func113.trans (congrArg some (by kernel_rfl))
  f279 := Tryd.func114.trans (congrArg some (by kernel_rfl))
  f280 := Tryd.func115.trans (congrArg some (by kernel_rfl))
  f281 := Tryd.func116.trans (congrArg some (by kernel_rfl))
  f282 := Tryd.func117.trans (congrArg some (by kernel_rfl))
  f283 := Tryd.func135.trans (congrArg some (by kernel_rfl))
  f284 := Tryd.func136.trans (congrArg some (by kernel_rfl))
  f285 := Tryd.func137.trans (congrArg some (by kernel_rfl))
  f286 := Tryd.func138.trans (congrArg some (by kernel_rfl))
  f287 := Tryd.func132.trans (congrArg some (by kernel_rfl))
  f316 := Tryd.func133.trans (congrArg some (by kernel_rfl))
  f317 := Tryd.func145.trans (congrArg some (by kernel_rfl))
  f318 := Tryd.func147.trans (congrArg some (by kernel_rfl))
  f319 := Tryd.func148.trans (congrArg some (by kernel_rfl))
  f320 := Tryd.func149.trans (congrArg some (by kernel_rfl))
  f321 := Tryd.func143.trans (congrArg some (by kernel_rfl))
  f322 := Tryd.func144.trans (congrArg some (by kernel_rfl))
  f337 := Tryd.func152.trans (congrArg some (by kernel_rfl))
  f338 := Tryd.func153.trans (congrArg some (by kernel_rfl))
  t0 := Tryd.underlying0
  a0 := Tryd.isAgg0
  z0 := Tryd.sizeOf0
  v0 := Tryd.zeroValue0
  t2 := Tryd.underlying2
  a2 := Tryd.isAgg2
  z2 := Tryd.sizeOf2
  v2 := Tryd.zeroValue2
  t3 := Tryd.underlying3
  a3 := Tryd.isAgg3
  z3 := Tryd.sizeOf3
  v3 := Tryd.zeroValue3
  t4 := Tryd.underlying4
  a4 := Tryd.isAgg4
  z4 := Tryd.sizeOf4
  v4 := Tryd.zeroValue4
  t5 := Tryd.underlying5
  a5 := Tryd.isAgg5
  z5 := Tryd.sizeOf5
  v5 := Tryd.zeroValue5
  t9 := Tryd.underlying9
  a9 := Tryd.isAgg9
  z9 := Tryd.sizeOf9
  v9 := Tryd.zeroValue9
  t20 := Tryd.underlying20
  a20 := Tryd.isAgg20
  z20 := Tryd.sizeOf20
  v20 := Tryd.zeroValue20
  t21 := Tryd.underlying21
  a21 := Tryd.isAgg21
  z21 := Tryd.sizeOf21
  v21 := Tryd.zeroValue21
  t37 := Tryd.underlying106
  a37 := Tryd.isAgg106
  z37 := Tryd.sizeOf106
  v37 := Tryd.zeroValue106
  t46 := Tryd.underlying151
  a46 := Tryd.isAgg151
  z46 := Tryd.sizeOf151
  v46 := Tryd.zeroValue151
  t51 := Tryd.underlying171
  a51 := Tryd.isAgg171
  z51 := Tryd.sizeOf171
  v51 := Tryd.zeroValue171
  t53 := Tryd.underlying148
  a53 := Tryd.isAgg148
  z53 := Tryd.sizeOf148
  v53 := Tryd.zeroValue148
  t75 := Tryd.underlying100
  a75 := Tryd.isAgg100
  z75 := Tryd.sizeOf100
  v75 := Tryd.zeroValue100
  t76 := Tryd.underlying101
  a76 := Tryd.isAgg101
  z76 := Tryd.sizeOf101
  v76 := Tryd.zeroValue101
  t85 := Tryd.underlying135
  a85 := Tryd.isAgg135
  z85 := Tryd.sizeOf135
  v85 := Tryd.zeroValue135
  t127 := Tryd.underlying123
  a127 := Tryd.isAgg123
  z127 := Tryd.sizeOf123
  v127 := Tryd.zeroValue123
  t143 := Tryd.underlying167
  a143 := Tryd.isAgg167
  z143 := Tryd.sizeOf167
  v143 := Tryd.zeroValue167
  t145 := Tryd.underlying169
  a145 := Tryd.isAgg169
  z145 := Tryd.sizeOf169
  v145 := Tryd.zeroValue169
  t167 := Tryd.underlying134
  a167 := Tryd.isAgg134
  z167 := Tryd.sizeOf134
  v167 := Tryd.zeroValue134
  t168 := Tryd.underlying137
  a168 := Tryd.isAgg137
  z168 := Tryd.sizeOf137
  v168 := Tryd.zeroValue137
  t171 := Tryd.underlying156
  a171 := Tryd.isAgg156
  z171 := Tryd.sizeOf156
  v171 := Tryd.zeroValue156
  t173 := Tryd.underlying159
  a173 := Tryd.isAgg159
  z173 := Tryd.sizeOf159
  v173 := Tryd.zeroValue159
  t175 := Tryd.underlying149
  a175 := Tryd.isAgg149
  z175 := Tryd.sizeOf149
  v175 := Tryd.zeroValue149
  t210 := Tryd.underlying154
  a210 := Tryd.isAgg154
  z210 := Tryd.sizeOf154
  v210 := Tryd.zeroValue154
  t212 := Tryd.underlying170
  a212 := Tryd.isAgg170
  z212 := Tryd.sizeOf170
  v212 := Tryd.zeroValue170
  t213 := Tryd.underlying172
  a213 := Tryd.isAgg172
  z213 := Tryd.sizeOf172
  t232 := Tryd.underlying176
  a232 := Tryd.isAgg176
  z232 := Tryd.sizeOf176
  v232 := Tryd.zeroValue176
  t233 := Tryd.underlying177
  a233 := Tryd.isAgg177
  z233 := Tryd.sizeOf177
  v233 := Tryd.zeroValue177
  g15 := by kernel_rfl
  g16 := by kernel_rfl
  g17 := by kernel_rfl
  g18 := by kernel_rfl
  g19 := by kernel_rfl
/-- strconv.Atoi, at a numeral of at most eighteen bytes -/
def strconv_Atoi.u (s : ByteArray) : Option (Int × Value) := bif decide (s.size ≤ 18) then (Lib.atoi s.data.toList).map fun n => (n, .nilIface) else none
theorem strconv_Atoi.c (s : ByteArray) (r : Int × Value) (h : strconv_Atoi.u s = some r) : Contract C 76 [.v .str s] (tupAV (.int .i64) [.raw .iface] r) where
  enters us w := enters_fn (P := Tryd.prog) (fn := Tryd.f76) (by kernel_rfl) (by kernel_rfl) (by kernel_rfl) us w
  runs w S us hlt hG hr := by
    simp only [RepAs] at hr
    obtain ⟨u, q, rfl, h1, rfl⟩ := hr
    rw [rep_str] at h1
    subst h1
    obtain ⟨hp, hq⟩ := ite_some h
    obtain ⟨n, hn, rfl⟩ := Option.map_eq_some_iff.1 hq
    refine (Any.strconv_Atoi lays172 s n (of_decide_eq_true hp) hn w).mono ?_
    rintro e w' ⟨rfl, t, rfl⟩
    have hg := grows_bytes w (lays172_ren.t 5) t
    have hb : Below w.heap.size w (Lib.bytesWorld w (lays172_ren.t 5) t) := hg.below (Nat.le_refl _)
    refine ⟨_, S, rfl, hb, safe_of_below hlt hb, fun b o hs => ⟨.inl hs, Nat.lt_of_lt_of_le (hlt b o hs) hb.size⟩, ?_⟩
    simp only [tupAV, tupAVs, RepA, RepAs]
    exact ⟨[.int .i64 n, .nilIface], rfl, _, _, rfl, ⟨[_], rfl, rfl⟩, _, _, rfl, ⟨[.nilIface], ⟨rfl, rfl⟩, rfl⟩, rfl⟩
noncomputable def strconv_Atoi.e : Ent := argI .str fun x0 => endU (strconv_Atoi.u x0) (tupAV (.int .i64) [.raw .iface])
theorem strconv_Atoi.e_ok : EntOK C 76 (fun {_} => strconv_Atoi.e) := entA_ok (argI_ok fun x0 => endU_ok fun r h => strconv_Atoi.c x0 r h)
def lays217_ren : Go.Shelf.Ren := ⟨fun | 217 => 150 | 266 => 154 | n => n, fun | 9 => 9 | 5 => 5 | 3 => 3 | n => n, fun | n => n⟩
theorem lays217 : Go.Proofs.Lays.n217 Tryd.prog lays217_ren where
  mixed := by kernel_rfl
  f217 := Tryd.func150.trans (congrArg some (by kernel_rfl))
  f266 := Tryd.func154.trans (congrArg some (by kernel_rfl))
  t3 := Tryd.underlying3
  a3 := Tryd.isAgg3
  z3 := Tryd.sizeOf3
  v3 := Tryd.zeroValue3
  t5 := Tryd.underlying5
  a5 := Tryd.isAgg5
  z5 := Tryd.sizeOf5
  v5 := Tryd.zeroValue5
  t9 := Tryd.underlying9
  a9 := Tryd.isAgg9
  z9 := Tryd.sizeOf9
  v9 := Tryd.zeroValue9
/-- internal/stringslite.IndexByte -/
def internal_stringslite_IndexByte.t (s : ByteArray) (c : Int) : Int := Lib.indexByte s.data.toList c.toNat.toUInt8
theorem internal_stringslite_IndexByte.c (s : ByteArray) (c : Int) : Contract C 150 [.v .str s, .v (.int .u8) c] (tupAV (.int .i64) [] (internal_stringslite_IndexByte.t s c)) where
  enters us w := enters_fn (P := Tryd.prog) (fn := Tryd.f150) (by kernel_rfl) (by kernel_rfl) (by kernel_rfl) us w
  runs w S us hlt hG hr := by
    simp only [RepAs] at hr
    obtain ⟨u, q, rfl, h1, v, q', rfl, h2, rfl⟩ := hr
    rw [rep_str] at h1
    rw [rep_int] at h2
    subst h1 h2
    refine (Any.stringslite_IndexByte lays217 s c w).mono ?_
    rintro e w' ⟨rfl, rfl⟩
    exact ⟨_, S, rfl, Below.refl _ _, Safe.refl _ _, fun b o hs => ⟨.inl hs, hlt b o hs⟩, rep_int.2 rfl⟩
noncomputable def internal_stringslite_IndexByte.e : Ent := argI .str fun x0 => argI (.int .u8) fun x1 => endT (tupAV (.int .i64) [] (internal_stringslite_IndexByte.t x0 x1))
theorem internal_stringslite_IndexByte.e_ok : EntOK C 150 (fun {_} => internal_stringslite_IndexByte.e) := entA_ok (argI_ok fun x0 => argI_ok fun x1 => endT_ok (internal_stringslite_IndexByte.c x0 x1))
def lays144_ren : Go.Shelf.Ren := ⟨fun | 144 => 141 | 143 => 151 | 219 => 155 | 217 => 150 | 225 => 156 | 224 => 157 | 267 => 158 | 266 => 154 | 314 => 159 | n => n, fun | 9 => 9 | 4 => 4 | 3 => 3 | 5 => 5 | 46 => 151 | 146 => 178 | 51 => 171 | n => n, fun | 1 => 3 | n => n⟩
theorem lays144 : Go.Proofs.Lays.n144 Tryd.prog lays144_ren where
  mixed := by kernel_rfl
  f143 := Tryd.func151.trans (congrArg some (by kernel_rfl))
  f144 := Tryd.func141.trans (congrArg some (by kernel_rfl))
  f217 := Tryd.func150.trans (congrArg some (by kernel_rfl))
  f219 := Tryd.func155.trans (congrArg some (by kernel_rfl))
  f224 := Tryd.func157.trans (congrArg some (by kernel_rfl))
  f225 := Tryd.func156.trans (congrArg some (by kernel_rfl))
  f266 := Tryd.func154.trans (congrArg some (by kernel_rfl))
  f267 := Tryd.func158.trans (congrArg some (by kernel_rfl))
  f314 := Tryd.func159.trans (congrArg some (by kernel_rfl))
  t3 := Tryd.underlying3
  a3 := Tryd.isAgg3
  z3 := Tryd.sizeOf3
  v3 := Tryd.zeroValue3
  t4 := Tryd.underlying4
  a4 := Tryd.isAgg4
  z4 := Tryd.sizeOf4
  v4 := Tryd.zeroValue4
  t5 := Tryd.underlying5
  a5 := Tryd.isAgg5
  z5 := Tryd.sizeOf5
  v5 := Tryd.zeroValue5
  t9 := Tryd.underlying9
  a9 := Tryd.isAgg9
  z9 := Tryd.sizeOf9
  v9 := Tryd.zeroValue9
  t46 := Tryd.underlying151
  a46 := Tryd.isAgg151
  z46 := Tryd.sizeOf151
  v46 := Tryd.zeroValue151
  t51 := Tryd.underlying171
  a51 := Tryd.isAgg171
  z51 := Tryd.sizeOf171
  v51 := Tryd.zeroValue171
  t146 := Tryd.underlying178
  a146 := Tryd.isAgg178
  z146 := Tryd.sizeOf178
  v146 := Tryd.zeroValue178
  g1 := by kernel_rfl
/-- strings.Contains -/
def strings_Contains.u (s sub : ByteArray) : Option Bool := bif decide (s.size < 4294967281) then some (Lib.contains s.data.toList sub.data.toList) else none
theorem strings_Contains.c (s sub : ByteArray) (r : Bool) (h : strings_Contains.u s sub = some r) : Contract CM 141 [.v .str s, .v .str sub] (tupAV .bool [] r) where
  enters us w := enters_fn (P := Tryd.prog) (fn := Tryd.f141) (by kernel_rfl) (by kernel_rfl) (by kernel_rfl) us w
  runs w S us hlt hG hr := by
    simp only [RepAs] at hr
    obtain ⟨u, q, rfl, h1, v, q', rfl, h2, rfl⟩ := hr
    rw [rep_str] at h1 h2
    subst h1 h2
    obtain ⟨hp, hq⟩ := ite_some h
    cases hq
    obtain ⟨_, ⟨m, hm⟩, _⟩ := hG.any 3 rfl
    refine (Any.strings_Contains lays144 s sub m w (of_decide_eq_true hp) hm).mono ?_
    rintro e w' ⟨rfl, rfl⟩
    exact ⟨_, S, rfl, Below.refl _ _, Safe.refl _ _, fun b o hs => ⟨.inl hs, hlt b o hs⟩, rep_bool.2 rfl⟩
noncomputable def strings_Contains.e : Ent := argI .str fun x0 => argI .str fun x1 => endU (strings_Contains.u x0 x1) (tupAV .bool [])
theorem strings_Contains.e_ok : EntOK CM 141 (fun {_} => strings_Contains.e) := entA_ok (argI_ok fun x0 => argI_ok fun x1 => endU_ok fun r h => strings_Contains.c x0 x1 r h)
def laysJoin_ren : Go.Shelf.Ren := ⟨fun | 156 => 61 | 165 => 82 | 166 => 83 | 169 => 84 | 240 => 101 | 241 => 102 | 276 => 119 | 277 => 120 | n => n, fun | 31 => 82 | 9 => 9 | 3 => 3 | 4 => 4 | 0 => 0 | 20 => 20 | 72 => 108 | 76 => 101 | 70 => 105 | 37 => 106 | 75 => 100 | 127 => 123 | 164 => 141 | 5 => 5 | 80 => 110 | n => n, fun | n => n⟩
theorem laysJoin : Go.Proofs.Lays.n156 Tryd.prog laysJoin_ren where
  mixed := by kernel_rfl
  f156 := Tryd.func61.trans (congrArg some (by kernel_rfl))
  f165 := Tryd.func82.trans (congrArg some (by kernel_rfl))
  f166 := Tryd.func83.trans (congrArg some (by kernel_rfl))
  f169 := Tryd.func84.trans (congrArg some (by kernel_rfl))
  f240 := Tryd.func101.trans (congrArg some (by kernel_rfl))
  f241 := Tryd.func102.trans (congrArg some (by kernel_rfl))
  f276 := Tryd.func119.trans (congrArg some (by kernel_rfl))
  f277 := Tryd.func120.trans (congrArg some (by kernel_rfl))
  t0 := Tryd.underlying0
  a0 := Tryd.isAgg0
  z0 := Tryd.sizeOf0
  v0 := Tryd.zeroValue0
  t3 := Tryd.underlying3
  a3 := Tryd.isAgg3
  z3 := Tryd.sizeOf3
  v3 := Tryd.zeroValue3
  t4 := Tryd.underlying4
  a4 := Tryd.isAgg4
  z4 := Tryd.sizeOf4
  v4 := Tryd.zeroValue4
  t9 := Tryd.underlying9
  a9 := Tryd.isAgg9
  z9 := Tryd.sizeOf9
  v9 := Tryd.zeroValue9
  t20 := Tryd.underlying20
  a20 := Tryd.isAgg20
  z20 := Tryd.sizeOf20
  v20 := Tryd.zeroValue20
  t31 := Tryd.underlying82
  a31 := Tryd.isAgg82
  z31 := Tryd.sizeOf82
  v31 := Tryd.zeroValue82
  t37 := Tryd.underlying106
  a37 := Tryd.isAgg106
  z37 := Tryd.sizeOf106
  v37 := Tryd.zeroValue106
  t70 := Tryd.underlying105
  a70 := Tryd.isAgg105
  z70 := Tryd.sizeOf105
  v70 := Tryd.zeroValue105
  t72 := Tryd.underlying108
  a72 := Tryd.isAgg108
  z72 := Tryd.sizeOf108
  v72 := Tryd.zeroValue108
  t75 := Tryd.underlying100
  a75 := Tryd.isAgg100
  z75 := Tryd.sizeOf100
  v75 := Tryd.zeroValue100
  t76 := Tryd.underlying101
  a76 := Tryd.isAgg101
  z76 := Tryd.sizeOf101
  v76 := Tryd.zeroValue101
  t127 := Tryd.underlying123
  a127 := Tryd.isAgg123
  z127 := Tryd.sizeOf123
  v127 := Tryd.zeroValue123
  t164 := Tryd.underlying141
  a164 := Tryd.isAgg141
  z164 := Tryd.sizeOf141
  v164 := Tryd.zeroValue141
theorem extraJoin : Builder.Extra Tryd.prog laysJoin_ren where
  sizeBuilder := by kernel_rfl
  liesBuilder := by kernel_rfl
  t5 := Tryd.underlying5
  a5 := Tryd.isAgg5
  z5 := Tryd.sizeOf5
  v5 := Tryd.zeroValue5
  infoByte := by kernel_rfl
  cellsByte := by kernel_rfl
  sizeByte := by kernel_rfl
  neB5 := by decide
theorem repL_strs_eq {w : World} {S : Nat → Nat → Prop} : ∀ {l : List ByteArray} {cs : List Value}, RepL (RepC w S .str) l cs → cs = l.map Value.string
  | [], cs, h => h
  | x :: l, cs, h => by
    obtain ⟨c, d, rfl, h1, h2⟩ := h
    rw [repL_strs_eq h2]
    have : c = [.string x] := h1
    rw [this]; rfl
/-- strings.Join -/
def joinB (l : List ByteArray) (sep : ByteArray) : ByteArray := ⟨(Lib.join (l.map (·.data.toList)) sep.data.toList).toArray⟩
def strings_Join.u (l : List ByteArray) (sep : ByteArray) : Option ByteArray := bif decide (l.length ≤ 140737488355328) && decide ((joinB l sep).size ≤ 140737488355328) then some (joinB l sep) else none
theorem strings_Join.c (l : List ByteArray) (sep : ByteArray) (r : ByteArray) (h : strings_Join.u l sep = some r) : Contract C 61 [.v (.slice .str) l, .v .str sep] (tupAV .str [] r) where
  enters us w := enters_fn (P := Tryd.prog) (fn := Tryd.f61) (by kernel_rfl) (by kernel_rfl) (by kernel_rfl) us w
  runs w S us hlt hG hr := by
    simp only [RepAs] at hr
    obtain ⟨u, q, rfl, h1, v, q', rfl, h2, rfl⟩ := hr
    rw [rep_str] at h2
    subst h2
    rw [rep_v] at h1
    obtain ⟨cs, ⟨A, cap, rfl, hcap, h3⟩, rfl⟩ := h1
    obtain ⟨hp, hq⟩ := ite_some h
    simp only [Bool.and_eq_true, decide_eq_true_eq] at hp
    cases hq
    have key : Calls Tryd.prog 61 #[.slice A l.length cap, .string sep] w fun e w' => e = .returned (.string (joinB l sep)) ∧ Below w.heap.size w w' := by
      rcases h3 with rfl | ⟨b, o, ds, rfl, h4, h5⟩
      · exact (Any.strings_Join_none laysJoin extraJoin A cap sep w).mono fun e w' ⟨he, hw⟩ => ⟨he, hw ▸ Below.refl _ _⟩
      · have hds := repL_strs_eq h4
        subst hds
        cases hl : l with
        | nil => exact (Any.strings_Join_none laysJoin extraJoin _ cap sep w).mono fun e w' ⟨he, hw⟩ => ⟨he, hw ▸ Below.refl _ _⟩
        | cons y t =>
          rw [← hl]
          have hn0 : 0 < (l.map Value.string).length := by simp [hl]
          exact Any.strings_Join laysJoin extraJoin b o cap l sep w (fun j x hx => by
            have hj : j < (l.map Value.string).length := by simpa using (List.getElem?_eq_some_iff.1 hx).1
            have := (h5 j hj).1
            obtain ⟨hj', rfl⟩ := List.getElem?_eq_some_iff.1 hx
            simpa using this) (hlt b (o + 0) (h5 0 hn0).2) hp.1 hcap (by simpa [joinB, ByteArray.size] using hp.2)
    refine key.mono ?_
    rintro e w' ⟨rfl, hb⟩
    exact ⟨_, S, rfl, hb, safe_of_below hlt hb, fun b o hs => ⟨.inl hs, Nat.lt_of_lt_of_le (hlt b o hs) hb.size⟩, rep_str.2 rfl⟩
noncomputable def strings_Join.e : Ent := argI (.slice .str) fun x0 => argI .str fun x1 => endU (strings_Join.u x0 x1) (tupAV .str [])
theorem strings_Join.e_ok : EntOK C 61 (fun {_} => strings_Join.e) := entA_ok (argI_ok fun x0 => argI_ok fun x1 => endU_ok fun r h => strings_Join.c x0 x1 r h)
end Go.Proofs.YtmphlhnpichonaaDoor.K

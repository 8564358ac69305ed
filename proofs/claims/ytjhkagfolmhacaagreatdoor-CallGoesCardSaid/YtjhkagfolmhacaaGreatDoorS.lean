/- The tables that may be known, and the library functions that the program leans on, off the shelf. -/
import Derived.Test.YtjhkagfolmhacaaGreatDoorX
import Derived.Test.YtjhkagfolmhacaaGreatDoorKG
import Derived.Shelf.Strings.Search1
import Derived.Shelf.Strings.Search3
import Derived.Shelf.SortM.Plain
import Derived.Shelf.SortM.SortNone
import Derived.Shelf.SlicesE.Clone
set_option maxRecDepth 100000
set_option linter.unusedVariables false
namespace Go.Proofs.YtjhkagfolmhacaaGreatDoor.K
open Go Go.RowKit

/-- The powers of ten. -/
def pow10 : List Int := [1, 10, 100, 1000, 10000, 100000, 1000000, 10000000, 100000000, 1000000000, 10000000000, 100000000000, 1000000000000, 10000000000000, 100000000000000, 1000000000000000, 10000000000000000, 100000000000000000, 1000000000000000000, 10000000000000000000]
/-- The table of opcodes. -/
def kindsT : List (ByteArray × (ByteArray × (Int × Unit))) := [(bs [110, 111, 112], bs [45, 45, 45], 0, ()), (bs [104, 97, 108, 116], bs [45, 45, 45], 5, ()), (bs [109, 111, 118], bs [114, 114, 45], 0, ()), (bs [115, 101, 116], bs [114, 105, 106], 0, ()), (bs [97, 100, 100], bs [114, 114, 114], 0, ()), (bs [115, 117, 98], bs [114, 114, 114], 0, ()), (bs [109, 117, 108], bs [114, 114, 114], 0, ()), (bs [100, 105, 118], bs [114, 114, 114], 0, ()), (bs [114, 101, 109], bs [114, 114, 114], 0, ()), (bs [97, 110, 100], bs [114, 114, 114], 0, ()), (bs [111, 114], bs [114, 114, 114], 0, ()), (bs [120, 111, 114], bs [114, 114, 114], 0, ()), (bs [115, 104, 108], bs [114, 114, 114], 0, ()), (bs [115, 104, 114], bs [114, 114, 114], 0, ()), (bs [110, 111, 116], bs [114, 114, 45], 0, ()), (bs [110, 101, 103], bs [114, 114, 45], 0, ()), (bs [108, 116], bs [114, 114, 114], 0, ()), (bs [101, 113], bs [114, 114, 114], 0, ()), (bs [106, 109, 112], bs [116, 45, 45], 1, ()), (bs [106, 122], bs [114, 116, 45], 1, ()), (bs [106, 110, 122], bs [114, 116, 45], 1, ()), (bs [106, 98, 97, 100], bs [116, 45, 45], 1, ()), (bs [99, 97, 108, 108], bs [116, 45, 45], 1, ()), (bs [114, 101, 116], bs [45, 45, 45], 1, ()), (bs [108, 111, 97, 100], bs [114, 114, 45], 0, ()), (bs [115, 116, 111, 114, 101], bs [114, 114, 45], 0, ()), (bs [102, 97, 105, 108], bs [115, 45, 45], 5, ()), (bs [101, 109, 105, 116], bs [114, 45, 45], 4, ()), (bs [110, 111, 119], bs [114, 45, 45], 4, ()), (bs [109, 101], bs [114, 45, 45], 4, ()), (bs [115, 112, 97, 119, 110], bs [114, 112, 114], 4, ()), (bs [106, 111, 105, 110], bs [114, 45, 45], 2, ()), (bs [115, 108, 101, 101, 112], bs [114, 45, 45], 2, ()), (bs [115, 101, 110, 100], bs [99, 114, 45], 2, ()), (bs [114, 101, 99, 118], bs [99, 114, 45], 2, ()), (bs [112, 111, 105, 115, 111, 110], bs [99, 114, 45], 4, ()), (bs [101, 110, 114, 111, 108], bs [98, 45, 45], 4, ()), (bs [114, 101, 115, 105, 103, 110], bs [98, 45, 45], 4, ()), (bs [115, 121, 110, 99], bs [98, 45, 45], 2, ()), (bs [102, 97, 108, 108], bs [107, 45, 45], 2, ()), (bs [102, 108, 117, 115, 104], bs [114, 107, 45], 4, ()), (bs [97, 108, 116], bs [114, 109, 110], 2, ()), (bs [103, 105, 110], bs [99, 114, 103], 3, ()), (bs [103, 98, 97, 114], bs [98, 45, 103], 3, ()), (bs [103, 116, 105, 109, 101], bs [114, 45, 103], 3, ()), (bs [103, 115, 107, 105, 112], bs [45, 45, 103], 3, ()), (bs [112, 104, 97, 115, 101], bs [114, 98, 45], 4, ()), (bs [115, 105, 122, 101], bs [114, 98, 45], 4, ())]
def orG (f h : Nat → Option Dat) : Nat → Option Dat := fun g => match f g with | some d => some d | none => h g
def gK : Nat → Option Dat := fun g => bif g == 0 then some (⟨.arr 48 (.pair .str (.pair .str (.pair (.int .i64) .unit))), kindsT⟩ : Dat) else none
noncomputable def CK : Cfg := { C with G := gK }
theorem CK_ok : CK.OK := ⟨C_ok.ty, C_ok.mixed⟩
noncomputable def CM : Cfg := { C with M := fun g => g == 1 }
theorem CM_ok : CM.OK := ⟨C_ok.ty, C_ok.mixed⟩
noncomputable def CKM : Cfg := { C with G := gK, M := fun g => g == 1 }
theorem CKM_ok : CKM.OK := ⟨C_ok.ty, C_ok.mixed⟩
theorem le_C_CK : C.le CK := ⟨rfl, (fun g d h => by cases h), (fun g h => by cases h)⟩
theorem le_C_CM : C.le CM := ⟨rfl, (fun g d h => by cases h), (fun g h => by cases h)⟩
theorem le_C_CKM : C.le CKM := ⟨rfl, (fun g d h => by cases h), (fun g h => by cases h)⟩
theorem le_CK_CKM : CK.le CKM := ⟨rfl, (fun g d h => h), (fun g h => by cases h)⟩
theorem le_CM_CKM : CM.le CKM := ⟨rfl, (fun g d h => by cases h), (fun g h => h)⟩
theorem enters_fn {P : Program} {f : FuncId} {fn : Func} (hf : P.funcs[f]? = some fn) (hb : fn.body.isSome = true) (hn : (fn.name == "runtime.NumGoroutine") = false) (us : Array Value) (w : World) : (callFunc f us).run P w = .ok (.enter f us) w := by
  have hpn : (program.run P w : Result Program) = .ok P w := rfl
  have hb' : fn.body.isNone = false := by cases h : fn.body <;> simp [h] at hb ⊢
  simp only [callFunc, Sem.run_bind, hpn, Result.andThen_ok, hf, hn, hb', Bool.false_eq_true, if_false, Sem.run_pure]

theorem below_grow (w : World) (k : Nat) (os : Array Obj) : Below w.heap.size w (Go.Sort.grow (w.drewN k) os) :=
  ⟨rfl, rfl, rfl, by simp [Go.Sort.grow], fun i hi => by simp only [Go.Sort.grow, World.heap_drewN]; exact Array.getElem?_append_left hi⟩

theorem safe_of_below {w w' : World} {S : Nat → Nat → Prop} (hS : ∀ b o, S b o → b < w.heap.size) (h : Below w.heap.size w w') : Safe S S w w' :=
  ⟨fun _ _ h => h, fun b o hs => World.cell?_of_block (a := ⟨b, o, none⟩) (h.block b (hS b o hs))⟩

def lays217_ren : Go.Shelf.Ren := ⟨fun | 217 => 96 | 266 => 124 | n => n, fun | 9 => 9 | 5 => 5 | 3 => 3 | n => n, fun | n => n⟩
theorem lays217 : Go.Proofs.Lays.n217 Tryz.prog lays217_ren where
  mixed := by kernel_rfl
  f217 := Tryz.func96.trans (congrArg some (by kernel_rfl))
  f266 := Tryz.func124.trans (congrArg some (by kernel_rfl))
  t3 := Tryz.underlying3
  a3 := Tryz.isAgg3
  z3 := Tryz.sizeOf3
  v3 := Tryz.zeroValue3
  t5 := Tryz.underlying5
  a5 := Tryz.isAgg5
  z5 := Tryz.sizeOf5
  v5 := Tryz.zeroValue5
  t9 := Tryz.underlying9
  a9 := Tryz.isAgg9
  z9 := Tryz.sizeOf9
  v9 := Tryz.zeroValue9
/-- internal/stringslite.IndexByte -/
def internal_stringslite_IndexByte.t (s : ByteArray) (c : Int) : Int := Lib.indexByte s.data.toList c.toNat.toUInt8
theorem internal_stringslite_IndexByte.c (s : ByteArray) (c : Int) : Contract C 96 [.v .str s, .v (.int .u8) c] (tupAV (.int .i64) [] (internal_stringslite_IndexByte.t s c)) where
  enters us w := enters_fn (P := Tryz.prog) (fn := Tryz.f96) (by kernel_rfl) (by kernel_rfl) (by kernel_rfl) us w
  runs w S us hlt hG hr := by
    simp only [RepAs] at hr
    obtain ⟨u, q, rfl, h1, v, q', rfl, h2, rfl⟩ := hr
    rw [rep_str] at h1
    rw [rep_int] at h2
    subst h1 h2
    refine (Any.stringslite_IndexByte lays217 s c w).mono ?_
    rintro e w' ⟨rfl, rfl⟩
    exact ⟨_, S, rfl, Below.refl _ _, Safe.refl _ _, fun b o hs => ⟨.inl hs, hlt b o hs⟩, rep_int.2 rfl⟩
noncomputable def internal_stringslite_IndexByte.e : Ent := argI .str fun x0 => argI (.int .u8) fun x1 => endT (tupAV (.int .i64) [] (internal_stringslite_IndexByte.t x0 x1))
theorem internal_stringslite_IndexByte.e_ok : EntOK C 96 (fun {_} => internal_stringslite_IndexByte.e) := entA_ok (argI_ok fun x0 => argI_ok fun x1 => endT_ok (internal_stringslite_IndexByte.c x0 x1))
def lays144_ren : Go.Shelf.Ren := ⟨fun | 144 => 143 | 143 => 146 | 219 => 148 | 217 => 96 | 225 => 149 | 224 => 150 | 267 => 151 | 266 => 124 | 314 => 152 | n => n, fun | 9 => 9 | 4 => 4 | 3 => 3 | 5 => 5 | 46 => 113 | 146 => 166 | 51 => 140 | n => n, fun | 1 => 1 | n => n⟩
theorem lays144 : Go.Proofs.Lays.n144 Tryz.prog lays144_ren where
  mixed := by kernel_rfl
  f143 := Tryz.func146.trans (congrArg some (by kernel_rfl))
  f144 := Tryz.func143.trans (congrArg some (by kernel_rfl))
  f217 := Tryz.func96.trans (congrArg some (by kernel_rfl))
  f219 := Tryz.func148.trans (congrArg some (by kernel_rfl))
  f224 := Tryz.func150.trans (congrArg some (by kernel_rfl))
  f225 := Tryz.func149.trans (congrArg some (by kernel_rfl))
  f266 := Tryz.func124.trans (congrArg some (by kernel_rfl))
  f267 := Tryz.func151.trans (congrArg some (by kernel_rfl))
  f314 := Tryz.func152.trans (congrArg some (by kernel_rfl))
  t3 := Tryz.underlying3
  a3 := Tryz.isAgg3
  z3 := Tryz.sizeOf3
  v3 := Tryz.zeroValue3
  t4 := Tryz.underlying4
  a4 := Tryz.isAgg4
  z4 := Tryz.sizeOf4
  v4 := Tryz.zeroValue4
  t5 := Tryz.underlying5
  a5 := Tryz.isAgg5
  z5 := Tryz.sizeOf5
  v5 := Tryz.zeroValue5
  t9 := Tryz.underlying9
  a9 := Tryz.isAgg9
  z9 := Tryz.sizeOf9
  v9 := Tryz.zeroValue9
  t46 := Tryz.underlying113
  a46 := Tryz.isAgg113
  z46 := Tryz.sizeOf113
  v46 := Tryz.zeroValue113
  t51 := Tryz.underlying140
  a51 := Tryz.isAgg140
  z51 := Tryz.sizeOf140
  v51 := Tryz.zeroValue140
  t146 := Tryz.underlying166
  a146 := Tryz.isAgg166
  z146 := Tryz.sizeOf166
  v146 := Tryz.zeroValue166
  g1 := by kernel_rfl
/-- strings.Contains -/
def strings_Contains.u (s sub : ByteArray) : Option Bool := bif decide (s.size < 4294967281) then some (Lib.contains s.data.toList sub.data.toList) else none
theorem strings_Contains.c (s sub : ByteArray) (r : Bool) (h : strings_Contains.u s sub = some r) : Contract CM 143 [.v .str s, .v .str sub] (tupAV .bool [] r) where
  enters us w := enters_fn (P := Tryz.prog) (fn := Tryz.f143) (by kernel_rfl) (by kernel_rfl) (by kernel_rfl) us w
  runs w S us hlt hG hr := by
    simp only [RepAs] at hr
    obtain ⟨u, q, rfl, h1, v, q', rfl, h2, rfl⟩ := hr
    rw [rep_str] at h1 h2
    subst h1 h2
    obtain ⟨hp, hq⟩ := ite_some h
    cases hq
    obtain ⟨_, ⟨m, hm⟩, _⟩ := hG.any 1 rfl
    refine (Any.strings_Contains lays144 s sub m w (of_decide_eq_true hp) hm).mono ?_
    rintro e w' ⟨rfl, rfl⟩
    exact ⟨_, S, rfl, Below.refl _ _, Safe.refl _ _, fun b o hs => ⟨.inl hs, hlt b o hs⟩, rep_bool.2 rfl⟩
noncomputable def strings_Contains.e : Ent := argI .str fun x0 => argI .str fun x1 => endU (strings_Contains.u x0 x1) (tupAV .bool [])
theorem strings_Contains.e_ok : EntOK CM 143 (fun {_} => strings_Contains.e) := entA_ok (argI_ok fun x0 => argI_ok fun x1 => endU_ok fun r h => strings_Contains.c x0 x1 r h)
def laysSort_ren : Go.Shelf.Ren := ⟨fun | 5 => 58 | 8 => 74 | 7 => 73 | 19 => 106 | 20 => 107 | 10 => 97 | 11 => 98 | 12 => 99 | 13 => 100 | 14 => 101 | 15 => 102 | 16 => 103 | 17 => 104 | 18 => 105 | 30 => 125 | 31 => 126 | 32 => 127 | 33 => 128 | 34 => 129 | 35 => 130 | 40 => 142 | n => n, fun | 23 => 50 | 25 => 3 | 3 => 3 | 32 => 113 | 22 => 50 | 0 => 0 | 44 => 140 | 46 => 142 | 4 => 4 | 36 => 133 | 35 => 132 | 41 => 95 | 5 => 5 | 9 => 9 | 53 => 148 | 57 => 152 | 63 => 160 | 64 => 92 | n => n, fun | n => n⟩
theorem laysSort : Go.Proofs.SlLaysM.n5 Tryz.prog laysSort_ren where
  mixed := by kernel_rfl
  f5 := ⟨"slices.Sort[[]int,int]", by decide, Tryz.func58.trans (congrArg some (by kernel_rfl))⟩
  f7 := ⟨"slices.pdqsortOrdered[int]", by decide, Tryz.func73.trans (congrArg some (by kernel_rfl))⟩
  f8 := Tryz.func74.trans (congrArg some (by kernel_rfl))
  f10 := ⟨"slices.insertionSortOrdered[int]", by decide, Tryz.func97.trans (congrArg some (by kernel_rfl))⟩
  f11 := ⟨"slices.heapSortOrdered[int]", by decide, Tryz.func98.trans (congrArg some (by kernel_rfl))⟩
  f12 := ⟨"slices.breakPatternsOrdered[int]", by decide, Tryz.func99.trans (congrArg some (by kernel_rfl))⟩
  f13 := ⟨"slices.choosePivotOrdered[int]", by decide, Tryz.func100.trans (congrArg some (by kernel_rfl))⟩
  f14 := ⟨"slices.reverseRangeOrdered[int]", by decide, Tryz.func101.trans (congrArg some (by kernel_rfl))⟩
  f15 := ⟨"slices.partialInsertionSortOrdered[int]", by decide, Tryz.func102.trans (congrArg some (by kernel_rfl))⟩
  f16 := ⟨"cmp.Less[int]", by decide, Tryz.func103.trans (congrArg some (by kernel_rfl))⟩
  f17 := ⟨"slices.partitionEqualOrdered[int]", by decide, Tryz.func104.trans (congrArg some (by kernel_rfl))⟩
  f18 := ⟨"slices.partitionOrdered[int]", by decide, Tryz.func105.trans (congrArg some (by kernel_rfl))⟩
  f19 := Tryz.func106.trans (congrArg some (by kernel_rfl))
  f20 := Tryz.func107.trans (congrArg some (by kernel_rfl))
  f30 := ⟨"slices.siftDownOrdered[int]", by decide, Tryz.func125.trans (congrArg some (by kernel_rfl))⟩
  f31 := Tryz.func126.trans (congrArg some (by kernel_rfl))
  f32 := Tryz.func127.trans (congrArg some (by kernel_rfl))
  f33 := ⟨"slices.medianAdjacentOrdered[int]", by decide, Tryz.func128.trans (congrArg some (by kernel_rfl))⟩
  f34 := ⟨"slices.medianOrdered[int]", by decide, Tryz.func129.trans (congrArg some (by kernel_rfl))⟩
  f35 := ⟨"cmp.isNaN[int]", by decide, Tryz.func130.trans (congrArg some (by kernel_rfl))⟩
  f40 := ⟨"slices.order2Ordered[int]", by decide, Tryz.func142.trans (congrArg some (by kernel_rfl))⟩
  t0 := Tryz.underlying0
  a0 := Tryz.isAgg0
  z0 := Tryz.sizeOf0
  v0 := Tryz.zeroValue0
  t3 := Tryz.underlying3
  a3 := Tryz.isAgg3
  z3 := Tryz.sizeOf3
  v3 := Tryz.zeroValue3
  t4 := Tryz.underlying4
  a4 := Tryz.isAgg4
  z4 := Tryz.sizeOf4
  v4 := Tryz.zeroValue4
  t5 := Tryz.underlying5
  a5 := Tryz.isAgg5
  z5 := Tryz.sizeOf5
  v5 := Tryz.zeroValue5
  t9 := Tryz.underlying9
  a9 := Tryz.isAgg9
  z9 := Tryz.sizeOf9
  v9 := Tryz.zeroValue9
  t22 := Tryz.underlying50
  a22 := Tryz.isAgg50
  z22 := Tryz.sizeOf50
  v22 := Tryz.zeroValue50
  t23 := Tryz.underlying50
  a23 := Tryz.isAgg50
  z23 := Tryz.sizeOf50
  v23 := Tryz.zeroValue50
  t25 := Tryz.underlying3
  a25 := Tryz.isAgg3
  z25 := Tryz.sizeOf3
  v25 := Tryz.zeroValue3
  t32 := Tryz.underlying113
  a32 := Tryz.isAgg113
  z32 := Tryz.sizeOf113
  v32 := Tryz.zeroValue113
  t35 := Tryz.underlying132
  a35 := Tryz.isAgg132
  z35 := Tryz.sizeOf132
  v35 := Tryz.zeroValue132
  t36 := Tryz.underlying133
  a36 := Tryz.isAgg133
  z36 := Tryz.sizeOf133
  v36 := Tryz.zeroValue133
  t41 := Tryz.underlying95
  a41 := Tryz.isAgg95
  z41 := Tryz.sizeOf95
  v41 := Tryz.zeroValue95
  t44 := Tryz.underlying140
  a44 := Tryz.isAgg140
  z44 := Tryz.sizeOf140
  v44 := Tryz.zeroValue140
  t46 := Tryz.underlying142
  a46 := Tryz.isAgg142
  z46 := Tryz.sizeOf142
  v46 := Tryz.zeroValue142
  t53 := Tryz.underlying148
  a53 := Tryz.isAgg148
  z53 := Tryz.sizeOf148
  v53 := Tryz.zeroValue148
  t57 := Tryz.underlying152
  a57 := Tryz.isAgg152
  z57 := Tryz.sizeOf152
  v57 := Tryz.zeroValue152
  t63 := Tryz.underlying160
  a63 := Tryz.isAgg160
  z63 := Tryz.sizeOf160
  v63 := Tryz.zeroValue160
  t64 := Tryz.underlying92
  a64 := Tryz.isAgg92
  z64 := Tryz.sizeOf92
  v64 := Tryz.zeroValue92
/-- slices.Sort[[]int,int] -/
def slices_Sort.fx {Ω : Type} := sortFx (Ω := Ω)
theorem slices_Sort.fx_ok : FxOK C 58 (fun {_} => slices_Sort.fx) := sortFx_ok (fun us w => enters_fn (P := Tryz.prog) (fn := Tryz.f58) (by kernel_rfl) (by kernel_rfl) (by kernel_rfl) us w) (fun blk cap zs w h1 h2 h3 => AnyM.slices_Sort_int laysSort blk 0 cap zs w h1 h2 h3) (fun p cap w => AnyM.slices_Sort_int_none laysSort p cap w)
end Go.Proofs.YtjhkagfolmhacaaGreatDoor.K

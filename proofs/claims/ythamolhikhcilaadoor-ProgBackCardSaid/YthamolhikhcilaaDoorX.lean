/- The types of the program that the proofs speak of. -/
import Derived.Test.YthamolhikhcilaaDoorKE
import Derived.Test.YthamolhikhcilaaDoorChecked
set_option maxRecDepth 100000
namespace Go.Proofs.YthamolhikhcilaaDoor.K
open Go Go.RowKit

abbrev E_s13 : ETy := (.pair .str (.pair (.int .u64) .unit))
abbrev T_s13 : Type := (ByteArray × (Int × Unit))
abbrev E_s183 : ETy := (.pair (.int .u8) (.pair (.int .u8) .unit))
abbrev T_s183 : Type := (Int × (Int × Unit))
abbrev E_s34 : ETy := (.pair (.int .i64) (.pair (.int .i64) .unit))
abbrev T_s34 : Type := (Int × (Int × Unit))
abbrev E_s81 : ETy := (.pair .str (.pair .str (.pair (.int .i64) .unit)))
abbrev T_s81 : Type := (ByteArray × (ByteArray × (Int × Unit)))
abbrev E_s200 : ETy := (.pair .str (.pair .str (.pair (.raw .iface) .unit)))
abbrev T_s200 : Type := (ByteArray × (ByteArray × (Value × Unit)))
abbrev E_s100 : ETy := (.pair (.slice .str) (.pair (.arr 3 (.int .i64)) .unit))
abbrev T_s100 : Type := ((List ByteArray) × ((List Int) × Unit))
abbrev E_s7 : ETy := (.pair (.int .i64) (.pair (.int .i64) (.pair .bool (.pair (.int .u8) .unit))))
abbrev T_s7 : Type := (Int × (Int × (Bool × (Int × Unit))))
abbrev E_s50 : ETy := (.pair (.int .u8) (.pair (.int .u8) E_s183))
abbrev T_s50 : Type := (Int × (Int × T_s183))
abbrev T_runtime_boundsError : Type := T_s7
abbrev T_runtime_errorAddressString : Type := T_s13
abbrev T_s35 : Type := T_s34
abbrev T_s36 : Type := T_s34
abbrev T_s51 : Type := T_s50
abbrev T_s82 : Type := T_s81
abbrev T_s101 : Type := T_s100
abbrev T_s123 : Type := T_s81
abbrev T_s124 : Type := T_s81
abbrev T_s184 : Type := T_s183
abbrev T_strconv_NumError : Type := T_s200
def tyL : List (TypeId × ETy) := [(3, (.int .i64)), (4, .bool), (9, .str), (5, (.int .u8)), (2, (.int .i64)), (6, (.int .u8)), (7, E_s7), (8, E_s7), (10, .str), (11, .str), (12, (.int .u64)), (13, E_s13), (14, E_s13), (20, (.raw .iface)), (21, (.int .i32)), (22, (.slice E_s50)), (24, (.int .i64)), (29, (.slice E_s34)), (31, (.slice E_s34)), (34, E_s34), (35, E_s34), (36, E_s34), (38, (.slice .bool)), (41, (.slice (.int .i64))), (50, E_s50), (51, E_s50), (70, (.slice (.int .u8))), (73, (.raw .iface)), (74, (.raw .iface)), (81, E_s81), (82, E_s81), (90, (.arr 3 (.int .u8))), (97, (.slice .str)), (99, (.arr 3 (.int .i64))), (100, E_s100), (101, E_s100), (120, (.slice E_s81)), (123, E_s81), (124, E_s81), (125, (.arr 48 E_s81)), (128, (.arr 3 .str)), (145, (.int .u64)), (147, (.int .i16)), (148, (.int .u16)), (154, (.int .i64)), (162, (.int .u32)), (164, (.int .u64)), (168, (.int .u64)), (178, (.arr 24 (.int .u8))), (182, (.arr 256 (.int .u8))), (183, E_s183), (184, E_s183), (185, (.arr 16 E_s183)), (188, (.int .i64)), (195, (.arr 20 (.int .u64))), (196, (.arr 65 (.int .u8))), (200, E_s200), (201, E_s200), (207, (.arr 32 (.int .u8))), (208, (.arr 64 (.int .u8))), (215, (.int .u8)), (216, (.int .u8)), (218, (.int .i32)), (219, (.int .i32))]
noncomputable def C : Cfg := { P := Tryd.prog, Ty := fun t => tyL.lookup t, G := fun _ => none, Ob := fun t => bif t == 72 then some 5 else none }
theorem gt3 : GoodTy Tryd.prog 3 (.int .i64) := ⟨by kernel_rfl, by kernel_rfl⟩
theorem gt4 : GoodTy Tryd.prog 4 .bool := ⟨by kernel_rfl, by kernel_rfl⟩
theorem gt9 : GoodTy Tryd.prog 9 .str := ⟨by kernel_rfl, by kernel_rfl⟩
theorem gt5 : GoodTy Tryd.prog 5 (.int .u8) := ⟨by kernel_rfl, by kernel_rfl⟩
theorem gt2 : GoodTy Tryd.prog 2 (.int .i64) := ⟨by kernel_rfl, by kernel_rfl⟩
theorem gt6 : GoodTy Tryd.prog 6 (.int .u8) := ⟨by kernel_rfl, by kernel_rfl⟩
theorem gt7 : GoodTy Tryd.prog 7 E_s7 := ⟨by kernel_rfl, by kernel_rfl⟩
theorem gt8 : GoodTy Tryd.prog 8 E_s7 := ⟨by kernel_rfl, by kernel_rfl⟩
theorem gt10 : GoodTy Tryd.prog 10 .str := ⟨by kernel_rfl, by kernel_rfl⟩
theorem gt11 : GoodTy Tryd.prog 11 .str := ⟨by kernel_rfl, by kernel_rfl⟩
theorem gt12 : GoodTy Tryd.prog 12 (.int .u64) := ⟨by kernel_rfl, by kernel_rfl⟩
theorem gt13 : GoodTy Tryd.prog 13 E_s13 := ⟨by kernel_rfl, by kernel_rfl⟩
theorem gt14 : GoodTy Tryd.prog 14 E_s13 := ⟨by kernel_rfl, by kernel_rfl⟩
theorem gt20 : GoodTy Tryd.prog 20 (.raw .iface) := ⟨by kernel_rfl, by kernel_rfl⟩
theorem gt21 : GoodTy Tryd.prog 21 (.int .i32) := ⟨by kernel_rfl, by kernel_rfl⟩
theorem gt22 : GoodTy Tryd.prog 22 (.slice E_s50) := ⟨by kernel_rfl, by kernel_rfl⟩
theorem gt24 : GoodTy Tryd.prog 24 (.int .i64) := ⟨by kernel_rfl, by kernel_rfl⟩
theorem gt29 : GoodTy Tryd.prog 29 (.slice E_s34) := ⟨by kernel_rfl, by kernel_rfl⟩
theorem gt31 : GoodTy Tryd.prog 31 (.slice E_s34) := ⟨by kernel_rfl, by kernel_rfl⟩
theorem gt34 : GoodTy Tryd.prog 34 E_s34 := ⟨by kernel_rfl, by kernel_rfl⟩
theorem gt35 : GoodTy Tryd.prog 35 E_s34 := ⟨by kernel_rfl, by kernel_rfl⟩
theorem gt36 : GoodTy Tryd.prog 36 E_s34 := ⟨by kernel_rfl, by kernel_rfl⟩
theorem gt38 : GoodTy Tryd.prog 38 (.slice .bool) := ⟨by kernel_rfl, by kernel_rfl⟩
theorem gt41 : GoodTy Tryd.prog 41 (.slice (.int .i64)) := ⟨by kernel_rfl, by kernel_rfl⟩
theorem gt50 : GoodTy Tryd.prog 50 E_s50 := ⟨by kernel_rfl, by kernel_rfl⟩
theorem gt51 : GoodTy Tryd.prog 51 E_s50 := ⟨by kernel_rfl, by kernel_rfl⟩
theorem gt70 : GoodTy Tryd.prog 70 (.slice (.int .u8)) := ⟨by kernel_rfl, by kernel_rfl⟩
theorem gt73 : GoodTy Tryd.prog 73 (.raw .iface) := ⟨by kernel_rfl, by kernel_rfl⟩
theorem gt74 : GoodTy Tryd.prog 74 (.raw .iface) := ⟨by kernel_rfl, by kernel_rfl⟩
theorem gt81 : GoodTy Tryd.prog 81 E_s81 := ⟨by kernel_rfl, by kernel_rfl⟩
theorem gt82 : GoodTy Tryd.prog 82 E_s81 := ⟨by kernel_rfl, by kernel_rfl⟩
theorem gt90 : GoodTy Tryd.prog 90 (.arr 3 (.int .u8)) := ⟨by kernel_rfl, by kernel_rfl⟩
theorem gt97 : GoodTy Tryd.prog 97 (.slice .str) := ⟨by kernel_rfl, by kernel_rfl⟩
theorem gt99 : GoodTy Tryd.prog 99 (.arr 3 (.int .i64)) := ⟨by kernel_rfl, by kernel_rfl⟩
theorem gt100 : GoodTy Tryd.prog 100 E_s100 := ⟨by kernel_rfl, by kernel_rfl⟩
theorem gt101 : GoodTy Tryd.prog 101 E_s100 := ⟨by kernel_rfl, by kernel_rfl⟩
theorem gt120 : GoodTy Tryd.prog 120 (.slice E_s81) := ⟨by kernel_rfl, by kernel_rfl⟩
theorem gt123 : GoodTy Tryd.prog 123 E_s81 := ⟨by kernel_rfl, by kernel_rfl⟩
theorem gt124 : GoodTy Tryd.prog 124 E_s81 := ⟨by kernel_rfl, by kernel_rfl⟩
theorem gt125 : GoodTy Tryd.prog 125 (.arr 48 E_s81) := ⟨by kernel_rfl, by kernel_rfl⟩
theorem gt128 : GoodTy Tryd.prog 128 (.arr 3 .str) := ⟨by kernel_rfl, by kernel_rfl⟩
theorem gt145 : GoodTy Tryd.prog 145 (.int .u64) := ⟨by kernel_rfl, by kernel_rfl⟩
theorem gt147 : GoodTy Tryd.prog 147 (.int .i16) := ⟨by kernel_rfl, by kernel_rfl⟩
theorem gt148 : GoodTy Tryd.prog 148 (.int .u16) := ⟨by kernel_rfl, by kernel_rfl⟩
theorem gt154 : GoodTy Tryd.prog 154 (.int .i64) := ⟨by kernel_rfl, by kernel_rfl⟩
theorem gt162 : GoodTy Tryd.prog 162 (.int .u32) := ⟨by kernel_rfl, by kernel_rfl⟩
theorem gt164 : GoodTy Tryd.prog 164 (.int .u64) := ⟨by kernel_rfl, by kernel_rfl⟩
theorem gt168 : GoodTy Tryd.prog 168 (.int .u64) := ⟨by kernel_rfl, by kernel_rfl⟩
theorem gt178 : GoodTy Tryd.prog 178 (.arr 24 (.int .u8)) := ⟨by kernel_rfl, by kernel_rfl⟩
theorem gt182 : GoodTy Tryd.prog 182 (.arr 256 (.int .u8)) := ⟨by kernel_rfl, by kernel_rfl⟩
theorem gt183 : GoodTy Tryd.prog 183 E_s183 := ⟨by kernel_rfl, by kernel_rfl⟩
theorem gt184 : GoodTy Tryd.prog 184 E_s183 := ⟨by kernel_rfl, by kernel_rfl⟩
theorem gt185 : GoodTy Tryd.prog 185 (.arr 16 E_s183) := ⟨by kernel_rfl, by kernel_rfl⟩
theorem gt188 : GoodTy Tryd.prog 188 (.int .i64) := ⟨by kernel_rfl, by kernel_rfl⟩
theorem gt195 : GoodTy Tryd.prog 195 (.arr 20 (.int .u64)) := ⟨by kernel_rfl, by kernel_rfl⟩
theorem gt196 : GoodTy Tryd.prog 196 (.arr 65 (.int .u8)) := ⟨by kernel_rfl, by kernel_rfl⟩
theorem gt200 : GoodTy Tryd.prog 200 E_s200 := ⟨by kernel_rfl, by kernel_rfl⟩
theorem gt201 : GoodTy Tryd.prog 201 E_s200 := ⟨by kernel_rfl, by kernel_rfl⟩
theorem gt207 : GoodTy Tryd.prog 207 (.arr 32 (.int .u8)) := ⟨by kernel_rfl, by kernel_rfl⟩
theorem gt208 : GoodTy Tryd.prog 208 (.arr 64 (.int .u8)) := ⟨by kernel_rfl, by kernel_rfl⟩
theorem gt215 : GoodTy Tryd.prog 215 (.int .u8) := ⟨by kernel_rfl, by kernel_rfl⟩
theorem gt216 : GoodTy Tryd.prog 216 (.int .u8) := ⟨by kernel_rfl, by kernel_rfl⟩
theorem gt218 : GoodTy Tryd.prog 218 (.int .i32) := ⟨by kernel_rfl, by kernel_rfl⟩
theorem gt219 : GoodTy Tryd.prog 219 (.int .i32) := ⟨by kernel_rfl, by kernel_rfl⟩
theorem lookup_all {α β : Type} [BEq α] [LawfulBEq α] {p : α → β → Prop} {t : α} {τ : β} : ∀ {l : List (α × β)}, (∀ q ∈ l, p q.1 q.2) → l.lookup t = some τ → p t τ
  | [], _, h => by simp at h
  | (a, b) :: l, hl, h => by
    rw [List.lookup_cons] at h
    split at h
    · rename_i e
      cases h
      have := eq_of_beq e
      subst this
      exact hl (_, _) (by simp)
    · exact lookup_all (fun q hq => hl q (List.mem_cons_of_mem _ hq)) h
theorem C_ok : C.OK where
  ty t τ h := lookup_all (p := GoodTy Tryd.prog) (l := tyL) (by
    intro q hq
    simp only [tyL, List.mem_cons, List.not_mem_nil, or_false] at hq
    rcases hq with rfl | rfl | rfl | rfl | rfl | rfl | rfl | rfl | rfl | rfl | rfl | rfl | rfl | rfl | rfl | rfl | rfl | rfl | rfl | rfl | rfl | rfl | rfl | rfl | rfl | rfl | rfl | rfl | rfl | rfl | rfl | rfl | rfl | rfl | rfl | rfl | rfl | rfl | rfl | rfl | rfl | rfl | rfl | rfl | rfl | rfl | rfl | rfl | rfl | rfl | rfl | rfl | rfl | rfl | rfl | rfl | rfl | rfl | rfl | rfl | rfl | rfl | rfl | rfl
    · exact gt3
    · exact gt4
    · exact gt9
    · exact gt5
    · exact gt2
    · exact gt6
    · exact gt7
    · exact gt8
    · exact gt10
    · exact gt11
    · exact gt12
    · exact gt13
    · exact gt14
    · exact gt20
    · exact gt21
    · exact gt22
    · exact gt24
    · exact gt29
    · exact gt31
    · exact gt34
    · exact gt35
    · exact gt36
    · exact gt38
    · exact gt41
    · exact gt50
    · exact gt51
    · exact gt70
    · exact gt73
    · exact gt74
    · exact gt81
    · exact gt82
    · exact gt90
    · exact gt97
    · exact gt99
    · exact gt100
    · exact gt101
    · exact gt120
    · exact gt123
    · exact gt124
    · exact gt125
    · exact gt128
    · exact gt145
    · exact gt147
    · exact gt148
    · exact gt154
    · exact gt162
    · exact gt164
    · exact gt168
    · exact gt178
    · exact gt182
    · exact gt183
    · exact gt184
    · exact gt185
    · exact gt188
    · exact gt195
    · exact gt196
    · exact gt200
    · exact gt201
    · exact gt207
    · exact gt208
    · exact gt215
    · exact gt216
    · exact gt218
    · exact gt219) h
  mixed := by kernel_rfl
  ob t te h := by
    have h : (bif t == 72 then some 5 else none : Option TypeId) = some te := h
    cases e : (t == 72) with
    | true => rw [show t = 72 by simpa using e]; exact ⟨by kernel_rfl, by kernel_rfl⟩
    | false => rw [e] at h; cases h
end Go.Proofs.YthamolhikhcilaaDoor.K

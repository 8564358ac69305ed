/- The types of the program that the proofs speak of. -/
import Derived.Test.YtfihhbgppgkafaaDoorKE
import Derived.Test.YtfihhbgppgkafaaDoorChecked
set_option maxRecDepth 100000
namespace Go.Proofs.YtfihhbgppgkafaaDoor.K
open Go Go.RowKit

abbrev E_s13 : ETy := (.pair .str (.pair (.int .u64) .unit))
abbrev T_s13 : Type := (ByteArray × (Int × Unit))
abbrev E_s82 : ETy := (.pair (.int .i64) (.pair (.int .i64) .unit))
abbrev T_s82 : Type := (Int × (Int × Unit))
abbrev E_s100 : ETy := (.pair .str (.pair .str (.pair (.int .i64) .unit)))
abbrev T_s100 : Type := (ByteArray × (ByteArray × (Int × Unit)))
abbrev E_s197 : ETy := (.pair .str (.pair .str (.pair (.raw .iface) .unit)))
abbrev T_s197 : Type := (ByteArray × (ByteArray × (Value × Unit)))
abbrev E_s7 : ETy := (.pair (.int .i64) (.pair (.int .i64) (.pair .bool (.pair (.int .u8) .unit))))
abbrev T_s7 : Type := (Int × (Int × (Bool × (Int × Unit))))
abbrev E_s46 : ETy := (.pair (.int .u8) (.pair (.int .u8) (.pair (.int .u8) (.pair (.int .u8) .unit))))
abbrev T_s46 : Type := (Int × (Int × (Int × (Int × Unit))))
abbrev E_s22 : ETy := (.pair (.int .i64) (.pair (.int .i64) (.pair (.int .i64) E_s82)))
abbrev T_s22 : Type := (Int × (Int × (Int × T_s82)))
abbrev T_runtime_boundsError : Type := T_s7
abbrev T_runtime_errorAddressString : Type := T_s13
abbrev T_s23 : Type := T_s22
abbrev T_s47 : Type := T_s46
abbrev T_s83 : Type := T_s82
abbrev T_s84 : Type := T_s82
abbrev T_s101 : Type := T_s100
abbrev T_s137 : Type := T_s100
abbrev T_s138 : Type := T_s100
abbrev T_strconv_NumError : Type := T_s197
def tyL : List (TypeId × ETy) := [(3, (.int .i64)), (4, .bool), (9, .str), (5, (.int .u8)), (2, (.int .i64)), (6, (.int .u8)), (7, E_s7), (8, E_s7), (10, .str), (11, .str), (12, (.int .u64)), (13, E_s13), (14, E_s13), (20, (.raw .iface)), (21, (.int .i32)), (22, E_s22), (23, E_s22), (24, (.int .i64)), (33, (.slice E_s22)), (46, E_s46), (47, E_s46), (71, (.int .u16)), (72, (.arr 2 (.int .u16))), (74, (.slice E_s46)), (77, (.slice E_s82)), (79, (.slice E_s82)), (82, E_s82), (83, E_s82), (84, E_s82), (92, (.slice .str)), (98, (.arr 3 (.int .u8))), (100, E_s100), (101, E_s100), (103, (.slice (.int .i64))), (108, (.int .i16)), (109, (.int .u64)), (111, (.slice (.int .u8))), (117, (.slice .bool)), (125, (.raw .iface)), (126, (.raw .iface)), (134, (.arr 2 (.int .i64))), (137, E_s100), (138, E_s100), (139, (.arr 48 E_s100)), (140, (.slice E_s100)), (150, (.slice (.arr 2 (.int .i64)))), (160, (.int .u32)), (163, (.int .u64)), (170, (.arr 24 (.int .u8))), (175, (.int .i64)), (184, (.int .i64)), (192, (.arr 20 (.int .u64))), (193, (.arr 65 (.int .u8))), (197, E_s197), (198, E_s197), (200, (.int .u64)), (212, (.arr 32 (.int .u8))), (213, (.arr 64 (.int .u8))), (219, (.int .u8)), (220, (.int .u8)), (222, (.int .i32)), (223, (.int .i32))]
noncomputable def C : Cfg := { P := Tryd.prog, Ty := fun t => tyL.lookup t, G := fun _ => none }
theorem gt3 : GoodTy Tryd.prog 3 (.int .i64) := ⟨by kernel_rfl, by kernel_rfl⟩
theorem gt4 : GoodTy Tryd.prog 4 .bool := ⟨by kernel_rfl, by kernel_rfl⟩
theorem gt9 : GoodTy Tryd.prog 9 .str := ⟨by kernel_rfl, by kernel_rfl⟩
theorem gt5 : GoodTy Tryd.prog 5 (.int .u8) := ⟨by kernel_rfl, by kernel_rfl⟩
theorem gt2 : GoodTy Tryd.prog 2 (.int .i64) := ⟨by kernel_rfl, by kernel_rfl⟩
theorem gt6 : GoodTy Tryd.prog 6 (.int .u8) := ⟨by kernel_rfl, by kernel_rfl⟩
theorem gt7 : GoodTy Tryd.prog 7 E_s7 := ⟨by kernel_rfl, by kernel_rfl⟩
theorem gt8 : GoodTy Tryd.prog 8 E_s7 := ⟨by kernel_rfl, by kernel_rfl⟩
theorem gt10 : GoodTy Tryd.prog 10 .str := ⟨by kernel_rfl, by kernel_rfl⟩
theorem gt11 : GoodTy Tryd.prog 11 .str := ⟨by kernel_rfl, by kernel_rfl⟩
theorem gt12 : GoodTy Tryd.prog 12 (.int .u64) := ⟨by kernel_rfl, by kernel_rfl⟩
theorem gt13 : GoodTy Tryd.prog 13 E_s13 := ⟨by kernel_rfl, by kernel_rfl⟩
theorem gt14 : GoodTy Tryd.prog 14 E_s13 := ⟨by kernel_rfl, by kernel_rfl⟩
theorem gt20 : GoodTy Tryd.prog 20 (.raw .iface) := ⟨by kernel_rfl, by kernel_rfl⟩
theorem gt21 : GoodTy Tryd.prog 21 (.int .i32) := ⟨by kernel_rfl, by kernel_rfl⟩
theorem gt22 : GoodTy Tryd.prog 22 E_s22 := ⟨by kernel_rfl, by kernel_rfl⟩
theorem gt23 : GoodTy Tryd.prog 23 E_s22 := ⟨by kernel_rfl, by kernel_rfl⟩
theorem gt24 : GoodTy Tryd.prog 24 (.int .i64) := ⟨by kernel_rfl, by kernel_rfl⟩
theorem gt33 : GoodTy Tryd.prog 33 (.slice E_s22) := ⟨by kernel_rfl, by kernel_rfl⟩
theorem gt46 : GoodTy Tryd.prog 46 E_s46 := ⟨by kernel_rfl, by kernel_rfl⟩
theorem gt47 : GoodTy Tryd.prog 47 E_s46 := ⟨by kernel_rfl, by kernel_rfl⟩
theorem gt71 : GoodTy Tryd.prog 71 (.int .u16) := ⟨by kernel_rfl, by kernel_rfl⟩
theorem gt72 : GoodTy Tryd.prog 72 (.arr 2 (.int .u16)) := ⟨by kernel_rfl, by kernel_rfl⟩
theorem gt74 : GoodTy Tryd.prog 74 (.slice E_s46) := ⟨by kernel_rfl, by kernel_rfl⟩
theorem gt77 : GoodTy Tryd.prog 77 (.slice E_s82) := ⟨by kernel_rfl, by kernel_rfl⟩
theorem gt79 : GoodTy Tryd.prog 79 (.slice E_s82) := ⟨by kernel_rfl, by kernel_rfl⟩
theorem gt82 : GoodTy Tryd.prog 82 E_s82 := ⟨by kernel_rfl, by kernel_rfl⟩
theorem gt83 : GoodTy Tryd.prog 83 E_s82 := ⟨by kernel_rfl, by kernel_rfl⟩
theorem gt84 : GoodTy Tryd.prog 84 E_s82 := ⟨by kernel_rfl, by kernel_rfl⟩
theorem gt92 : GoodTy Tryd.prog 92 (.slice .str) := ⟨by kernel_rfl, by kernel_rfl⟩
theorem gt98 : GoodTy Tryd.prog 98 (.arr 3 (.int .u8)) := ⟨by kernel_rfl, by kernel_rfl⟩
theorem gt100 : GoodTy Tryd.prog 100 E_s100 := ⟨by kernel_rfl, by kernel_rfl⟩
theorem gt101 : GoodTy Tryd.prog 101 E_s100 := ⟨by kernel_rfl, by kernel_rfl⟩
theorem gt103 : GoodTy Tryd.prog 103 (.slice (.int .i64)) := ⟨by kernel_rfl, by kernel_rfl⟩
theorem gt108 : GoodTy Tryd.prog 108 (.int .i16) := ⟨by kernel_rfl, by kernel_rfl⟩
theorem gt109 : GoodTy Tryd.prog 109 (.int .u64) := ⟨by kernel_rfl, by kernel_rfl⟩
theorem gt111 : GoodTy Tryd.prog 111 (.slice (.int .u8)) := ⟨by kernel_rfl, by kernel_rfl⟩
theorem gt117 : GoodTy Tryd.prog 117 (.slice .bool) := ⟨by kernel_rfl, by kernel_rfl⟩
theorem gt125 : GoodTy Tryd.prog 125 (.raw .iface) := ⟨by kernel_rfl, by kernel_rfl⟩
theorem gt126 : GoodTy Tryd.prog 126 (.raw .iface) := ⟨by kernel_rfl, by kernel_rfl⟩
theorem gt134 : GoodTy Tryd.prog 134 (.arr 2 (.int .i64)) := ⟨by kernel_rfl, by kernel_rfl⟩
theorem gt137 : GoodTy Tryd.prog 137 E_s100 := ⟨by kernel_rfl, by kernel_rfl⟩
theorem gt138 : GoodTy Tryd.prog 138 E_s100 := ⟨by kernel_rfl, by kernel_rfl⟩
theorem gt139 : GoodTy Tryd.prog 139 (.arr 48 E_s100) := ⟨by kernel_rfl, by kernel_rfl⟩
theorem gt140 : GoodTy Tryd.prog 140 (.slice E_s100) := ⟨by kernel_rfl, by kernel_rfl⟩
theorem gt150 : GoodTy Tryd.prog 150 (.slice (.arr 2 (.int .i64))) := ⟨by kernel_rfl, by kernel_rfl⟩
theorem gt160 : GoodTy Tryd.prog 160 (.int .u32) := ⟨by kernel_rfl, by kernel_rfl⟩
theorem gt163 : GoodTy Tryd.prog 163 (.int .u64) := ⟨by kernel_rfl, by kernel_rfl⟩
theorem gt170 : GoodTy Tryd.prog 170 (.arr 24 (.int .u8)) := ⟨by kernel_rfl, by kernel_rfl⟩
theorem gt175 : GoodTy Tryd.prog 175 (.int .i64) := ⟨by kernel_rfl, by kernel_rfl⟩
theorem gt184 : GoodTy Tryd.prog 184 (.int .i64) := ⟨by kernel_rfl, by kernel_rfl⟩
theorem gt192 : GoodTy Tryd.prog 192 (.arr 20 (.int .u64)) := ⟨by kernel_rfl, by kernel_rfl⟩
theorem gt193 : GoodTy Tryd.prog 193 (.arr 65 (.int .u8)) := ⟨by kernel_rfl, by kernel_rfl⟩
theorem gt197 : GoodTy Tryd.prog 197 E_s197 := ⟨by kernel_rfl, by kernel_rfl⟩
theorem gt198 : GoodTy Tryd.prog 198 E_s197 := ⟨by kernel_rfl, by kernel_rfl⟩
theorem gt200 : GoodTy Tryd.prog 200 (.int .u64) := ⟨by kernel_rfl, by kernel_rfl⟩
theorem gt212 : GoodTy Tryd.prog 212 (.arr 32 (.int .u8)) := ⟨by kernel_rfl, by kernel_rfl⟩
theorem gt213 : GoodTy Tryd.prog 213 (.arr 64 (.int .u8)) := ⟨by kernel_rfl, by kernel_rfl⟩
theorem gt219 : GoodTy Tryd.prog 219 (.int .u8) := ⟨by kernel_rfl, by kernel_rfl⟩
theorem gt220 : GoodTy Tryd.prog 220 (.int .u8) := ⟨by kernel_rfl, by kernel_rfl⟩
theorem gt222 : GoodTy Tryd.prog 222 (.int .i32) := ⟨by kernel_rfl, by kernel_rfl⟩
theorem gt223 : GoodTy Tryd.prog 223 (.int .i32) := ⟨by kernel_rfl, by kernel_rfl⟩
theorem lookup_all {α β : Type} [BEq α] [LawfulBEq α] {p : α → β → Prop} {t : α} {τ : β} : ∀ {l : List (α × β)}, (∀ q ∈ l, p q.1 q.2) → l.lookup t = some τ → p t τ
  | [], _, h => by simp at h
  | (a, b) :: l, hl, h => by
    rw [List.lookup_cons] at h
    split at h
    · rename_i e
      cases h
      have := eq_of_beq e
      subst this
      exact hl (_, _) (by simp)
    · exact lookup_all (fun q hq => hl q (List.mem_cons_of_mem _ hq)) h
theorem C_ok : C.OK where
  ty t τ h := lookup_all (p := GoodTy Tryd.prog) (l := tyL) (by
    intro q hq
    simp only [tyL, List.mem_cons, List.not_mem_nil, or_false] at hq
    rcases hq with rfl | rfl | rfl | rfl | rfl | rfl | rfl | rfl | rfl | rfl | rfl | rfl | rfl | rfl | rfl | rfl | rfl | rfl | rfl | rfl | rfl | rfl | rfl | rfl | rfl | rfl | rfl | rfl | rfl | rfl | rfl | rfl | rfl | rfl | rfl | rfl | rfl | rfl | rfl | rfl | rfl | rfl | rfl | rfl | rfl | rfl | rfl | rfl | rfl | rfl | rfl | rfl | rfl | rfl | rfl | rfl | rfl | rfl | rfl | rfl | rfl | rfl
    · exact gt3
    · exact gt4
    · exact gt9
    · exact gt5
    · exact gt2
    · exact gt6
    · exact gt7
    · exact gt8
    · exact gt10
    · exact gt11
    · exact gt12
    · exact gt13
    · exact gt14
    · exact gt20
    · exact gt21
    · exact gt22
    · exact gt23
    · exact gt24
    · exact gt33
    · exact gt46
    · exact gt47
    · exact gt71
    · exact gt72
    · exact gt74
    · exact gt77
    · exact gt79
    · exact gt82
    · exact gt83
    · exact gt84
    · exact gt92
    · exact gt98
    · exact gt100
    · exact gt101
    · exact gt103
    · exact gt108
    · exact gt109
    · exact gt111
    · exact gt117
    · exact gt125
    · exact gt126
    · exact gt134
    · exact gt137
    · exact gt138
    · exact gt139
    · exact gt140
    · exact gt150
    · exact gt160
    · exact gt163
    · exact gt170
    · exact gt175
    · exact gt184
    · exact gt192
    · exact gt193
    · exact gt197
    · exact gt198
    · exact gt200
    · exact gt212
    · exact gt213
    · exact gt219
    · exact gt220
    · exact gt222
    · exact gt223) h
  mixed := by kernel_rfl
end Go.Proofs.YtfihhbgppgkafaaDoor.K

/- The types of the program that the proofs speak of. -/
import Derived.Test.YtjhkagfolmhacaaDoorKE
import Derived.Test.YtjhkagfolmhacaaDoorChecked
set_option maxRecDepth 100000
namespace Go.Proofs.YtjhkagfolmhacaaDoor.K
open Go Go.RowKit

abbrev E_s13 : ETy := (.pair .str (.pair (.int .u64) .unit))
abbrev T_s13 : Type := (ByteArray × (Int × Unit))
abbrev E_s224 : ETy := (.pair (.int .u8) (.pair (.int .u8) .unit))
abbrev T_s224 : Type := (Int × (Int × Unit))
abbrev E_s102 : ETy := (.pair (.int .i64) (.pair (.int .i64) .unit))
abbrev T_s102 : Type := (Int × (Int × Unit))
abbrev E_s91 : ETy := (.pair .str (.pair .str (.pair (.int .i64) .unit)))
abbrev T_s91 : Type := (ByteArray × (ByteArray × (Int × Unit)))
abbrev E_s230 : ETy := (.pair .str (.pair .str (.pair (.raw .iface) .unit)))
abbrev T_s230 : Type := (ByteArray × (ByteArray × (Value × Unit)))
abbrev E_s7 : ETy := (.pair (.int .i64) (.pair (.int .i64) (.pair .bool (.pair (.int .u8) .unit))))
abbrev T_s7 : Type := (Int × (Int × (Bool × (Int × Unit))))
abbrev E_s22 : ETy := (.pair (.int .u8) (.pair (.int .u8) E_s224))
abbrev T_s22 : Type := (Int × (Int × T_s224))
abbrev E_s45 : ETy := (.pair (.int .i64) (.pair (.int .i64) E_s102))
abbrev T_s45 : Type := (Int × (Int × T_s102))
abbrev E_s47 : ETy := (.pair (.int .i64) (.pair (.int .i64) (.pair (.int .i64) (.pair E_s45 .unit))))
abbrev T_s47 : Type := (Int × (Int × (Int × (T_s45 × Unit))))
abbrev T_runtime_boundsError : Type := T_s7
abbrev T_runtime_errorAddressString : Type := T_s13
abbrev T_s23 : Type := T_s22
abbrev T_s46 : Type := T_s45
abbrev T_s48 : Type := T_s47
abbrev T_s51 : Type := T_s45
abbrev T_s52 : Type := T_s47
abbrev T_s53 : Type := T_s47
abbrev T_s92 : Type := T_s91
abbrev T_s103 : Type := T_s102
abbrev T_s158 : Type := T_s91
abbrev T_s159 : Type := T_s91
abbrev T_s225 : Type := T_s224
abbrev T_strconv_NumError : Type := T_s230
def tyL : List (TypeId × ETy) := [(3, (.int .i64)), (4, .bool), (9, .str), (5, (.int .u8)), (2, (.int .i64)), (6, (.int .u8)), (7, E_s7), (8, E_s7), (10, .str), (11, .str), (12, (.int .u64)), (13, E_s13), (14, E_s13), (20, (.raw .iface)), (21, (.int .i32)), (22, E_s22), (23, E_s22), (25, (.slice (.int .i64))), (29, (.slice E_s22)), (30, (.slice .bool)), (34, (.int .i64)), (38, (.slice E_s102)), (45, E_s45), (46, E_s45), (47, E_s47), (48, E_s47), (51, E_s45), (52, E_s47), (53, E_s47), (60, (.slice E_s47)), (62, (.slice E_s47)), (79, (.slice E_s45)), (82, (.slice E_s45)), (91, E_s91), (92, E_s91), (95, (.slice .str)), (102, E_s102), (103, E_s102), (108, (.slice (.int .u8))), (111, (.raw .iface)), (112, (.raw .iface)), (119, (.arr 3 (.int .u8))), (122, (.arr 9 .str)), (147, (.slice E_s91)), (151, (.int .i16)), (152, (.int .u16)), (153, (.int .u64)), (158, E_s91), (159, E_s91), (160, (.arr 48 E_s91)), (180, (.int .i64)), (187, (.int .u32)), (189, (.int .u64)), (199, (.int .u64)), (210, (.int .i64)), (219, (.arr 24 (.int .u8))), (223, (.arr 256 (.int .u8))), (224, E_s224), (225, E_s224), (226, (.arr 16 E_s224)), (230, E_s230), (231, E_s230), (234, (.arr 20 (.int .u64))), (235, (.arr 65 (.int .u8))), (240, (.arr 32 (.int .u8))), (241, (.arr 64 (.int .u8))), (248, (.int .u8)), (249, (.int .u8)), (251, (.int .i32)), (252, (.int .i32))]
noncomputable def C : Cfg := { P := Tryd.prog, Ty := fun t => tyL.lookup t, G := fun _ => none }
theorem gt3 : GoodTy Tryd.prog 3 (.int .i64) := ⟨by kernel_rfl, by kernel_rfl⟩
theorem gt4 : GoodTy Tryd.prog 4 .bool := ⟨by kernel_rfl, by kernel_rfl⟩
theorem gt9 : GoodTy Tryd.prog 9 .str := ⟨by kernel_rfl, by kernel_rfl⟩
theorem gt5 : GoodTy Tryd.prog 5 (.int .u8) := ⟨by kernel_rfl, by kernel_rfl⟩
theorem gt2 : GoodTy Tryd.prog 2 (.int .i64) := ⟨by kernel_rfl, by kernel_rfl⟩
theorem gt6 : GoodTy Tryd.prog 6 (.int .u8) := ⟨by kernel_rfl, by kernel_rfl⟩
theorem gt7 : GoodTy Tryd.prog 7 E_s7 := ⟨by kernel_rfl, by kernel_rfl⟩
theorem gt8 : GoodTy Tryd.prog 8 E_s7 := ⟨by kernel_rfl, by kernel_rfl⟩
theorem gt10 : GoodTy Tryd.prog 10 .str := ⟨by kernel_rfl, by kernel_rfl⟩
theorem gt11 : GoodTy Tryd.prog 11 .str := ⟨by kernel_rfl, by kernel_rfl⟩
theorem gt12 : GoodTy Tryd.prog 12 (.int .u64) := ⟨by kernel_rfl, by kernel_rfl⟩
theorem gt13 : GoodTy Tryd.prog 13 E_s13 := ⟨by kernel_rfl, by kernel_rfl⟩
theorem gt14 : GoodTy Tryd.prog 14 E_s13 := ⟨by kernel_rfl, by kernel_rfl⟩
theorem gt20 : GoodTy Tryd.prog 20 (.raw .iface) := ⟨by kernel_rfl, by kernel_rfl⟩
theorem gt21 : GoodTy Tryd.prog 21 (.int .i32) := ⟨by kernel_rfl, by kernel_rfl⟩
theorem gt22 : GoodTy Tryd.prog 22 E_s22 := ⟨by kernel_rfl, by kernel_rfl⟩
theorem gt23 : GoodTy Tryd.prog 23 E_s22 := ⟨by kernel_rfl, by kernel_rfl⟩
theorem gt25 : GoodTy Tryd.prog 25 (.slice (.int .i64)) := ⟨by kernel_rfl, by kernel_rfl⟩
theorem gt29 : GoodTy Tryd.prog 29 (.slice E_s22) := ⟨by kernel_rfl, by kernel_rfl⟩
theorem gt30 : GoodTy Tryd.prog 30 (.slice .bool) := ⟨by kernel_rfl, by kernel_rfl⟩
theorem gt34 : GoodTy Tryd.prog 34 (.int .i64) := ⟨by kernel_rfl, by kernel_rfl⟩
theorem gt38 : GoodTy Tryd.prog 38 (.slice E_s102) := ⟨by kernel_rfl, by kernel_rfl⟩
theorem gt45 : GoodTy Tryd.prog 45 E_s45 := ⟨by kernel_rfl, by kernel_rfl⟩
theorem gt46 : GoodTy Tryd.prog 46 E_s45 := ⟨by kernel_rfl, by kernel_rfl⟩
theorem gt47 : GoodTy Tryd.prog 47 E_s47 := ⟨by kernel_rfl, by kernel_rfl⟩
theorem gt48 : GoodTy Tryd.prog 48 E_s47 := ⟨by kernel_rfl, by kernel_rfl⟩
theorem gt51 : GoodTy Tryd.prog 51 E_s45 := ⟨by kernel_rfl, by kernel_rfl⟩
theorem gt52 : GoodTy Tryd.prog 52 E_s47 := ⟨by kernel_rfl, by kernel_rfl⟩
theorem gt53 : GoodTy Tryd.prog 53 E_s47 := ⟨by kernel_rfl, by kernel_rfl⟩
theorem gt60 : GoodTy Tryd.prog 60 (.slice E_s47) := ⟨by kernel_rfl, by kernel_rfl⟩
theorem gt62 : GoodTy Tryd.prog 62 (.slice E_s47) := ⟨by kernel_rfl, by kernel_rfl⟩
theorem gt79 : GoodTy Tryd.prog 79 (.slice E_s45) := ⟨by kernel_rfl, by kernel_rfl⟩
theorem gt82 : GoodTy Tryd.prog 82 (.slice E_s45) := ⟨by kernel_rfl, by kernel_rfl⟩
theorem gt91 : GoodTy Tryd.prog 91 E_s91 := ⟨by kernel_rfl, by kernel_rfl⟩
theorem gt92 : GoodTy Tryd.prog 92 E_s91 := ⟨by kernel_rfl, by kernel_rfl⟩
theorem gt95 : GoodTy Tryd.prog 95 (.slice .str) := ⟨by kernel_rfl, by kernel_rfl⟩
theorem gt102 : GoodTy Tryd.prog 102 E_s102 := ⟨by kernel_rfl, by kernel_rfl⟩
theorem gt103 : GoodTy Tryd.prog 103 E_s102 := ⟨by kernel_rfl, by kernel_rfl⟩
theorem gt108 : GoodTy Tryd.prog 108 (.slice (.int .u8)) := ⟨by kernel_rfl, by kernel_rfl⟩
theorem gt111 : GoodTy Tryd.prog 111 (.raw .iface) := ⟨by kernel_rfl, by kernel_rfl⟩
theorem gt112 : GoodTy Tryd.prog 112 (.raw .iface) := ⟨by kernel_rfl, by kernel_rfl⟩
theorem gt119 : GoodTy Tryd.prog 119 (.arr 3 (.int .u8)) := ⟨by kernel_rfl, by kernel_rfl⟩
theorem gt122 : GoodTy Tryd.prog 122 (.arr 9 .str) := ⟨by kernel_rfl, by kernel_rfl⟩
theorem gt147 : GoodTy Tryd.prog 147 (.slice E_s91) := ⟨by kernel_rfl, by kernel_rfl⟩
theorem gt151 : GoodTy Tryd.prog 151 (.int .i16) := ⟨by kernel_rfl, by kernel_rfl⟩
theorem gt152 : GoodTy Tryd.prog 152 (.int .u16) := ⟨by kernel_rfl, by kernel_rfl⟩
theorem gt153 : GoodTy Tryd.prog 153 (.int .u64) := ⟨by kernel_rfl, by kernel_rfl⟩
theorem gt158 : GoodTy Tryd.prog 158 E_s91 := ⟨by kernel_rfl, by kernel_rfl⟩
theorem gt159 : GoodTy Tryd.prog 159 E_s91 := ⟨by kernel_rfl, by kernel_rfl⟩
theorem gt160 : GoodTy Tryd.prog 160 (.arr 48 E_s91) := ⟨by kernel_rfl, by kernel_rfl⟩
theorem gt180 : GoodTy Tryd.prog 180 (.int .i64) := ⟨by kernel_rfl, by kernel_rfl⟩
theorem gt187 : GoodTy Tryd.prog 187 (.int .u32) := ⟨by kernel_rfl, by kernel_rfl⟩
theorem gt189 : GoodTy Tryd.prog 189 (.int .u64) := ⟨by kernel_rfl, by kernel_rfl⟩
theorem gt199 : GoodTy Tryd.prog 199 (.int .u64) := ⟨by kernel_rfl, by kernel_rfl⟩
theorem gt210 : GoodTy Tryd.prog 210 (.int .i64) := ⟨by kernel_rfl, by kernel_rfl⟩
theorem gt219 : GoodTy Tryd.prog 219 (.arr 24 (.int .u8)) := ⟨by kernel_rfl, by kernel_rfl⟩
theorem gt223 : GoodTy Tryd.prog 223 (.arr 256 (.int .u8)) := ⟨by kernel_rfl, by kernel_rfl⟩
theorem gt224 : GoodTy Tryd.prog 224 E_s224 := ⟨by kernel_rfl, by kernel_rfl⟩
theorem gt225 : GoodTy Tryd.prog 225 E_s224 := ⟨by kernel_rfl, by kernel_rfl⟩
theorem gt226 : GoodTy Tryd.prog 226 (.arr 16 E_s224) := ⟨by kernel_rfl, by kernel_rfl⟩
theorem gt230 : GoodTy Tryd.prog 230 E_s230 := ⟨by kernel_rfl, by kernel_rfl⟩
theorem gt231 : GoodTy Tryd.prog 231 E_s230 := ⟨by kernel_rfl, by kernel_rfl⟩
theorem gt234 : GoodTy Tryd.prog 234 (.arr 20 (.int .u64)) := ⟨by kernel_rfl, by kernel_rfl⟩
theorem gt235 : GoodTy Tryd.prog 235 (.arr 65 (.int .u8)) := ⟨by kernel_rfl, by kernel_rfl⟩
theorem gt240 : GoodTy Tryd.prog 240 (.arr 32 (.int .u8)) := ⟨by kernel_rfl, by kernel_rfl⟩
theorem gt241 : GoodTy Tryd.prog 241 (.arr 64 (.int .u8)) := ⟨by kernel_rfl, by kernel_rfl⟩
theorem gt248 : GoodTy Tryd.prog 248 (.int .u8) := ⟨by kernel_rfl, by kernel_rfl⟩
theorem gt249 : GoodTy Tryd.prog 249 (.int .u8) := ⟨by kernel_rfl, by kernel_rfl⟩
theorem gt251 : GoodTy Tryd.prog 251 (.int .i32) := ⟨by kernel_rfl, by kernel_rfl⟩
theorem gt252 : GoodTy Tryd.prog 252 (.int .i32) := ⟨by kernel_rfl, by kernel_rfl⟩
theorem lookup_all {α β : Type} [BEq α] [LawfulBEq α] {p : α → β → Prop} {t : α} {τ : β} : ∀ {l : List (α × β)}, (∀ q ∈ l, p q.1 q.2) → l.lookup t = some τ → p t τ
  | [], _, h => by simp at h
  | (a, b) :: l, hl, h => by
    rw [List.lookup_cons] at h
    split at h
    · rename_i e
      cases h
      have := eq_of_beq e
      subst this
      exact hl (_, _) (by simp)
    · exact lookup_all (fun q hq => hl q (List.mem_cons_of_mem _ hq)) h
theorem C_ok : C.OK where
  ty t τ h := lookup_all (p := GoodTy Tryd.prog) (l := tyL) (by
    intro q hq
    simp only [tyL, List.mem_cons, List.not_mem_nil, or_false] at hq
    rcases hq with rfl | rfl | rfl | rfl | rfl | rfl | rfl | rfl | rfl | rfl | rfl | rfl | rfl | rfl | rfl | rfl | rfl | rfl | rfl | rfl | rfl | rfl | rfl | rfl | rfl | rfl | rfl | rfl | rfl | rfl | rfl | rfl | rfl | rfl | rfl | rfl | rfl | rfl | rfl | rfl | rfl | rfl | rfl | rfl | rfl | rfl | rfl | rfl | rfl | rfl | rfl | rfl | rfl | rfl | rfl | rfl | rfl | rfl | rfl | rfl | rfl | rfl | rfl | rfl | rfl | rfl | rfl | rfl | rfl | rfl
    · exact gt3
    · exact gt4
    · exact gt9
    · exact gt5
    · exact gt2
    · exact gt6
    · exact gt7
    · exact gt8
    · exact gt10
    · exact gt11
    · exact gt12
    · exact gt13
    · exact gt14
    · exact gt20
    · exact gt21
    · exact gt22
    · exact gt23
    · exact gt25
    · exact gt29
    · exact gt30
    · exact gt34
    · exact gt38
    · exact gt45
    · exact gt46
    · exact gt47
    · exact gt48
    · exact gt51
    · exact gt52
    · exact gt53
    · exact gt60
    · exact gt62
    · exact gt79
    · exact gt82
    · exact gt91
    · exact gt92
    · exact gt95
    · exact gt102
    · exact gt103
    · exact gt108
    · exact gt111
    · exact gt112
    · exact gt119
    · exact gt122
    · exact gt147
    · exact gt151
    · exact gt152
    · exact gt153
    · exact gt158
    · exact gt159
    · exact gt160
    · exact gt180
    · exact gt187
    · exact gt189
    · exact gt199
    · exact gt210
    · exact gt219
    · exact gt223
    · exact gt224
    · exact gt225
    · exact gt226
    · exact gt230
    · exact gt231
    · exact gt234
    · exact gt235
    · exact gt240
    · exact gt241
    · exact gt248
    · exact gt249
    · exact gt251
    · exact gt252) h
  mixed := by kernel_rfl
end Go.Proofs.YtjhkagfolmhacaaDoor.K

/- The types of the program that the proofs speak of. -/
import Derived.Test.YtmmooplcdkmapaaDoorKE
import Derived.Test.YtmmooplcdkmapaaDoorChecked
set_option maxRecDepth 100000
namespace Go.Proofs.YtmmooplcdkmapaaDoor.K
open Go Go.RowKit

abbrev E_s13 : ETy := (.pair .str (.pair (.int .u64) .unit))
abbrev T_s13 : Type := (ByteArray × (Int × Unit))
abbrev E_s128 : ETy := (.pair (.int .u8) (.pair (.int .u8) .unit))
abbrev T_s128 : Type := (Int × (Int × Unit))
abbrev E_s47 : ETy := (.pair .str (.pair .str (.pair (.int .i64) .unit)))
abbrev T_s47 : Type := (ByteArray × (ByteArray × (Int × Unit)))
abbrev E_s147 : ETy := (.pair .str (.pair .str (.pair (.raw .iface) .unit)))
abbrev T_s147 : Type := (ByteArray × (ByteArray × (Value × Unit)))
abbrev E_s57 : ETy := (.pair (.slice .str) (.pair (.arr 3 (.int .i64)) .unit))
abbrev T_s57 : Type := ((List ByteArray) × ((List Int) × Unit))
abbrev E_s7 : ETy := (.pair (.int .i64) (.pair (.int .i64) (.pair .bool (.pair (.int .u8) .unit))))
abbrev T_s7 : Type := (Int × (Int × (Bool × (Int × Unit))))
abbrev E_s22 : ETy := (.pair (.int .u8) (.pair (.int .u8) E_s128))
abbrev T_s22 : Type := (Int × (Int × T_s128))
abbrev T_runtime_boundsError : Type := T_s7
abbrev T_runtime_errorAddressString : Type := T_s13
abbrev T_s23 : Type := T_s22
abbrev T_s48 : Type := T_s47
abbrev T_s58 : Type := T_s57
abbrev T_s85 : Type := T_s47
abbrev T_s86 : Type := T_s47
abbrev T_s129 : Type := T_s128
abbrev T_strconv_NumError : Type := T_s147
def tyL : List (TypeId × ETy) := [(3, (.int .i64)), (4, .bool), (9, .str), (5, (.int .u8)), (2, (.int .i64)), (6, (.int .u8)), (7, E_s7), (8, E_s7), (10, .str), (11, .str), (12, (.int .u64)), (13, E_s13), (14, E_s13), (20, (.raw .iface)), (21, (.int .i32)), (22, E_s22), (23, E_s22), (24, (.int .i64)), (36, (.slice E_s22)), (44, (.arr 3 (.int .u8))), (47, E_s47), (48, E_s47), (50, (.slice (.int .i64))), (53, (.slice .str)), (54, (.slice (.int .u8))), (56, (.arr 3 (.int .i64))), (57, E_s57), (58, E_s57), (77, (.raw .iface)), (78, (.raw .iface)), (85, E_s47), (86, E_s47), (87, (.arr 48 E_s47)), (90, (.arr 3 .str)), (92, (.slice E_s47)), (107, (.int .i16)), (108, (.int .u16)), (109, (.int .u64)), (121, (.arr 24 (.int .u8))), (122, (.int .u64)), (127, (.arr 256 (.int .u8))), (128, E_s128), (129, E_s128), (130, (.arr 16 E_s128)), (131, (.int .u32)), (134, (.int .i64)), (141, (.arr 20 (.int .u64))), (142, (.arr 65 (.int .u8))), (147, E_s147), (148, E_s147), (155, (.arr 32 (.int .u8))), (156, (.arr 64 (.int .u8))), (163, (.int .u8)), (164, (.int .u8)), (166, (.int .i32)), (167, (.int .i32))]
noncomputable def C : Cfg := { P := Tryd.prog, Ty := fun t => tyL.lookup t, G := fun _ => none, Ob := fun t => bif t == 76 then some 5 else none, Lk := fun t => bif t == 58 then some (0, 9, .str) else none }
theorem gt3 : GoodTy Tryd.prog 3 (.int .i64) := ⟨by kernel_rfl, by kernel_rfl⟩
theorem gt4 : GoodTy Tryd.prog 4 .bool := ⟨by kernel_rfl, by kernel_rfl⟩
theorem gt9 : GoodTy Tryd.prog 9 .str := ⟨by kernel_rfl, by kernel_rfl⟩
theorem gt5 : GoodTy Tryd.prog 5 (.int .u8) := ⟨by kernel_rfl, by kernel_rfl⟩
theorem gt2 : GoodTy Tryd.prog 2 (.int .i64) := ⟨by kernel_rfl, by kernel_rfl⟩
theorem gt6 : GoodTy Tryd.prog 6 (.int .u8) := ⟨by kernel_rfl, by kernel_rfl⟩
theorem gt7 : GoodTy Tryd.prog 7 E_s7 := ⟨by kernel_rfl, by kernel_rfl⟩
theorem gt8 : GoodTy Tryd.prog 8 E_s7 := ⟨by kernel_rfl, by kernel_rfl⟩
theorem gt10 : GoodTy Tryd.prog 10 .str := ⟨by kernel_rfl, by kernel_rfl⟩
theorem gt11 : GoodTy Tryd.prog 11 .str := ⟨by kernel_rfl, by kernel_rfl⟩
theorem gt12 : GoodTy Tryd.prog 12 (.int .u64) := ⟨by kernel_rfl, by kernel_rfl⟩
theorem gt13 : GoodTy Tryd.prog 13 E_s13 := ⟨by kernel_rfl, by kernel_rfl⟩
theorem gt14 : GoodTy Tryd.prog 14 E_s13 := ⟨by kernel_rfl, by kernel_rfl⟩
theorem gt20 : GoodTy Tryd.prog 20 (.raw .iface) := ⟨by kernel_rfl, by kernel_rfl⟩
theorem gt21 : GoodTy Tryd.prog 21 (.int .i32) := ⟨by kernel_rfl, by kernel_rfl⟩
theorem gt22 : GoodTy Tryd.prog 22 E_s22 := ⟨by kernel_rfl, by kernel_rfl⟩
theorem gt23 : GoodTy Tryd.prog 23 E_s22 := ⟨by kernel_rfl, by kernel_rfl⟩
theorem gt24 : GoodTy Tryd.prog 24 (.int .i64) := ⟨by kernel_rfl, by kernel_rfl⟩
theorem gt36 : GoodTy Tryd.prog 36 (.slice E_s22) := ⟨by kernel_rfl, by kernel_rfl⟩
theorem gt44 : GoodTy Tryd.prog 44 (.arr 3 (.int .u8)) := ⟨by kernel_rfl, by kernel_rfl⟩
theorem gt47 : GoodTy Tryd.prog 47 E_s47 := ⟨by kernel_rfl, by kernel_rfl⟩
theorem gt48 : GoodTy Tryd.prog 48 E_s47 := ⟨by kernel_rfl, by kernel_rfl⟩
theorem gt50 : GoodTy Tryd.prog 50 (.slice (.int .i64)) := ⟨by kernel_rfl, by kernel_rfl⟩
theorem gt53 : GoodTy Tryd.prog 53 (.slice .str) := ⟨by kernel_rfl, by kernel_rfl⟩
theorem gt54 : GoodTy Tryd.prog 54 (.slice (.int .u8)) := ⟨by kernel_rfl, by kernel_rfl⟩
theorem gt56 : GoodTy Tryd.prog 56 (.arr 3 (.int .i64)) := ⟨by kernel_rfl, by kernel_rfl⟩
theorem gt57 : GoodTy Tryd.prog 57 E_s57 := ⟨by kernel_rfl, by kernel_rfl⟩
theorem gt58 : GoodTy Tryd.prog 58 E_s57 := ⟨by kernel_rfl, by kernel_rfl⟩
theorem gt77 : GoodTy Tryd.prog 77 (.raw .iface) := ⟨by kernel_rfl, by kernel_rfl⟩
theorem gt78 : GoodTy Tryd.prog 78 (.raw .iface) := ⟨by kernel_rfl, by kernel_rfl⟩
theorem gt85 : GoodTy Tryd.prog 85 E_s47 := ⟨by kernel_rfl, by kernel_rfl⟩
theorem gt86 : GoodTy Tryd.prog 86 E_s47 := ⟨by kernel_rfl, by kernel_rfl⟩
theorem gt87 : GoodTy Tryd.prog 87 (.arr 48 E_s47) := ⟨by kernel_rfl, by kernel_rfl⟩
theorem gt90 : GoodTy Tryd.prog 90 (.arr 3 .str) := ⟨by kernel_rfl, by kernel_rfl⟩
theorem gt92 : GoodTy Tryd.prog 92 (.slice E_s47) := ⟨by kernel_rfl, by kernel_rfl⟩
theorem gt107 : GoodTy Tryd.prog 107 (.int .i16) := ⟨by kernel_rfl, by kernel_rfl⟩
theorem gt108 : GoodTy Tryd.prog 108 (.int .u16) := ⟨by kernel_rfl, by kernel_rfl⟩
theorem gt109 : GoodTy Tryd.prog 109 (.int .u64) := ⟨by kernel_rfl, by kernel_rfl⟩
theorem gt121 : GoodTy Tryd.prog 121 (.arr 24 (.int .u8)) := ⟨by kernel_rfl, by kernel_rfl⟩
theorem gt122 : GoodTy Tryd.prog 122 (.int .u64) := ⟨by kernel_rfl, by kernel_rfl⟩
theorem gt127 : GoodTy Tryd.prog 127 (.arr 256 (.int .u8)) := ⟨by kernel_rfl, by kernel_rfl⟩
theorem gt128 : GoodTy Tryd.prog 128 E_s128 := ⟨by kernel_rfl, by kernel_rfl⟩
theorem gt129 : GoodTy Tryd.prog 129 E_s128 := ⟨by kernel_rfl, by kernel_rfl⟩
theorem gt130 : GoodTy Tryd.prog 130 (.arr 16 E_s128) := ⟨by kernel_rfl, by kernel_rfl⟩
theorem gt131 : GoodTy Tryd.prog 131 (.int .u32) := ⟨by kernel_rfl, by kernel_rfl⟩
theorem gt134 : GoodTy Tryd.prog 134 (.int .i64) := ⟨by kernel_rfl, by kernel_rfl⟩
theorem gt141 : GoodTy Tryd.prog 141 (.arr 20 (.int .u64)) := ⟨by kernel_rfl, by kernel_rfl⟩
theorem gt142 : GoodTy Tryd.prog 142 (.arr 65 (.int .u8)) := ⟨by kernel_rfl, by kernel_rfl⟩
theorem gt147 : GoodTy Tryd.prog 147 E_s147 := ⟨by kernel_rfl, by kernel_rfl⟩
theorem gt148 : GoodTy Tryd.prog 148 E_s147 := ⟨by kernel_rfl, by kernel_rfl⟩
theorem gt155 : GoodTy Tryd.prog 155 (.arr 32 (.int .u8)) := ⟨by kernel_rfl, by kernel_rfl⟩
theorem gt156 : GoodTy Tryd.prog 156 (.arr 64 (.int .u8)) := ⟨by kernel_rfl, by kernel_rfl⟩
theorem gt163 : GoodTy Tryd.prog 163 (.int .u8) := ⟨by kernel_rfl, by kernel_rfl⟩
theorem gt164 : GoodTy Tryd.prog 164 (.int .u8) := ⟨by kernel_rfl, by kernel_rfl⟩
theorem gt166 : GoodTy Tryd.prog 166 (.int .i32) := ⟨by kernel_rfl, by kernel_rfl⟩
theorem gt167 : GoodTy Tryd.prog 167 (.int .i32) := ⟨by kernel_rfl, by kernel_rfl⟩
theorem lookup_all {α β : Type} [BEq α] [LawfulBEq α] {p : α → β → Prop} {t : α} {τ : β} : ∀ {l : List (α × β)}, (∀ q ∈ l, p q.1 q.2) → l.lookup t = some τ → p t τ
  | [], _, h => by simp at h
  | (a, b) :: l, hl, h => by
    rw [List.lookup_cons] at h
    split at h
    · rename_i e
      cases h
      have := eq_of_beq e
      subst this
      exact hl (_, _) (by simp)
    · exact lookup_all (fun q hq => hl q (List.mem_cons_of_mem _ hq)) h
theorem C_ok : C.OK where
  ty t τ h := lookup_all (p := GoodTy Tryd.prog) (l := tyL) (by
    intro q hq
    simp only [tyL, List.mem_cons, List.not_mem_nil, or_false] at hq
    rcases hq with rfl | rfl | rfl | rfl | rfl | rfl | rfl | rfl | rfl | rfl | rfl | rfl | rfl | rfl | rfl | rfl | rfl | rfl | rfl | rfl | rfl | rfl | rfl | rfl | rfl | rfl | rfl | rfl | rfl | rfl | rfl | rfl | rfl | rfl | rfl | rfl | rfl | rfl | rfl | rfl | rfl | rfl | rfl | rfl | rfl | rfl | rfl | rfl | rfl | rfl | rfl | rfl | rfl | rfl | rfl | rfl
    · exact gt3
    · exact gt4
    · exact gt9
    · exact gt5
    · exact gt2
    · exact gt6
    · exact gt7
    · exact gt8
    · exact gt10
    · exact gt11
    · exact gt12
    · exact gt13
    · exact gt14
    · exact gt20
    · exact gt21
    · exact gt22
    · exact gt23
    · exact gt24
    · exact gt36
    · exact gt44
    · exact gt47
    · exact gt48
    · exact gt50
    · exact gt53
    · exact gt54
    · exact gt56
    · exact gt57
    · exact gt58
    · exact gt77
    · exact gt78
    · exact gt85
    · exact gt86
    · exact gt87
    · exact gt90
    · exact gt92
    · exact gt107
    · exact gt108
    · exact gt109
    · exact gt121
    · exact gt122
    · exact gt127
    · exact gt128
    · exact gt129
    · exact gt130
    · exact gt131
    · exact gt134
    · exact gt141
    · exact gt142
    · exact gt147
    · exact gt148
    · exact gt155
    · exact gt156
    · exact gt163
    · exact gt164
    · exact gt166
    · exact gt167) h
  mixed := by kernel_rfl
  ob t te h := by
    have h : (bif t == 76 then some 5 else none : Option TypeId) = some te := h
    cases e : (t == 76) with
    | true => rw [show t = 76 by simpa using e]; exact ⟨by kernel_rfl, by kernel_rfl⟩
    | false => rw [e] at h; cases h
end Go.Proofs.YtmmooplcdkmapaaDoor.K

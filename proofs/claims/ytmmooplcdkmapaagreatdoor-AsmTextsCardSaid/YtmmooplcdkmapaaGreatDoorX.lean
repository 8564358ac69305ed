/- The types of the program that the proofs speak of. -/
import Derived.Test.YtmmooplcdkmapaaGreatDoorKE
import Derived.Test.YtmmooplcdkmapaaGreatDoorChecked
set_option maxRecDepth 100000
namespace Go.Proofs.YtmmooplcdkmapaaGreatDoor.K
open Go Go.RowKit

abbrev E_s13 : ETy := (.pair .str (.pair (.int .u64) .unit))
abbrev T_s13 : Type := (ByteArray × (Int × Unit))
abbrev E_s133 : ETy := (.pair (.int .u8) (.pair (.int .u8) .unit))
abbrev T_s133 : Type := (Int × (Int × Unit))
abbrev E_s73 : ETy := (.pair .str (.pair .str (.pair (.int .i64) .unit)))
abbrev T_s73 : Type := (ByteArray × (ByteArray × (Int × Unit)))
abbrev E_s149 : ETy := (.pair .str (.pair .str (.pair (.raw .iface) .unit)))
abbrev T_s149 : Type := (ByteArray × (ByteArray × (Value × Unit)))
abbrev E_s62 : ETy := (.pair (.slice .str) (.pair (.arr 3 (.int .i64)) .unit))
abbrev T_s62 : Type := ((List ByteArray) × ((List Int) × Unit))
abbrev E_s7 : ETy := (.pair (.int .i64) (.pair (.int .i64) (.pair .bool (.pair (.int .u8) .unit))))
abbrev T_s7 : Type := (Int × (Int × (Bool × (Int × Unit))))
abbrev E_s36 : ETy := (.pair (.int .u8) (.pair (.int .u8) E_s133))
abbrev T_s36 : Type := (Int × (Int × T_s133))
abbrev T_runtime_boundsError : Type := T_s7
abbrev T_runtime_errorAddressString : Type := T_s13
abbrev T_s37 : Type := T_s36
abbrev T_s63 : Type := T_s62
abbrev T_s74 : Type := T_s73
abbrev T_s90 : Type := T_s73
abbrev T_s91 : Type := T_s73
abbrev T_s134 : Type := T_s133
abbrev T_strconv_NumError : Type := T_s149
def tyL : List (TypeId × ETy) := [(3, (.int .i64)), (4, .bool), (9, .str), (5, (.int .u8)), (2, (.int .i64)), (6, (.int .u8)), (7, E_s7), (8, E_s7), (10, .str), (11, .str), (12, (.int .u64)), (13, E_s13), (14, E_s13), (20, (.raw .iface)), (21, (.int .i32)), (22, (.slice E_s36)), (24, (.int .i64)), (36, E_s36), (37, E_s36), (41, (.slice (.int .u8))), (44, (.raw .iface)), (45, (.raw .iface)), (57, (.arr 3 (.int .u8))), (60, (.slice .str)), (61, (.arr 3 (.int .i64))), (62, E_s62), (63, E_s62), (73, E_s73), (74, E_s73), (76, (.slice (.int .i64))), (90, E_s73), (91, E_s73), (92, (.arr 48 E_s73)), (95, (.arr 3 .str)), (106, (.slice E_s73)), (110, (.int .i16)), (111, (.int .u16)), (112, (.int .u64)), (123, (.int .u32)), (126, (.arr 24 (.int .u8))), (127, (.int .u64)), (132, (.arr 256 (.int .u8))), (133, E_s133), (134, E_s133), (135, (.arr 16 E_s133)), (136, (.int .i64)), (143, (.arr 20 (.int .u64))), (144, (.arr 65 (.int .u8))), (149, E_s149), (150, E_s149), (157, (.arr 32 (.int .u8))), (158, (.arr 64 (.int .u8))), (165, (.int .u8)), (166, (.int .u8)), (168, (.int .i32)), (169, (.int .i32))]
noncomputable def C : Cfg := { P := Tryz.prog, Ty := fun t => tyL.lookup t, G := fun _ => none, Ob := fun t => bif t == 43 then some 5 else none, Lk := fun t => bif t == 63 then some (0, 9, .str) else none }
theorem gt3 : GoodTy Tryz.prog 3 (.int .i64) := ⟨by kernel_rfl, by kernel_rfl⟩
theorem gt4 : GoodTy Tryz.prog 4 .bool := ⟨by kernel_rfl, by kernel_rfl⟩
theorem gt9 : GoodTy Tryz.prog 9 .str := ⟨by kernel_rfl, by kernel_rfl⟩
theorem gt5 : GoodTy Tryz.prog 5 (.int .u8) := ⟨by kernel_rfl, by kernel_rfl⟩
theorem gt2 : GoodTy Tryz.prog 2 (.int .i64) := ⟨by kernel_rfl, by kernel_rfl⟩
theorem gt6 : GoodTy Tryz.prog 6 (.int .u8) := ⟨by kernel_rfl, by kernel_rfl⟩
theorem gt7 : GoodTy Tryz.prog 7 E_s7 := ⟨by kernel_rfl, by kernel_rfl⟩
theorem gt8 : GoodTy Tryz.prog 8 E_s7 := ⟨by kernel_rfl, by kernel_rfl⟩
theorem gt10 : GoodTy Tryz.prog 10 .str := ⟨by kernel_rfl, by kernel_rfl⟩
theorem gt11 : GoodTy Tryz.prog 11 .str := ⟨by kernel_rfl, by kernel_rfl⟩
theorem gt12 : GoodTy Tryz.prog 12 (.int .u64) := ⟨by kernel_rfl, by kernel_rfl⟩
theorem gt13 : GoodTy Tryz.prog 13 E_s13 := ⟨by kernel_rfl, by kernel_rfl⟩
theorem gt14 : GoodTy Tryz.prog 14 E_s13 := ⟨by kernel_rfl, by kernel_rfl⟩
theorem gt20 : GoodTy Tryz.prog 20 (.raw .iface) := ⟨by kernel_rfl, by kernel_rfl⟩
theorem gt21 : GoodTy Tryz.prog 21 (.int .i32) := ⟨by kernel_rfl, by kernel_rfl⟩
theorem gt22 : GoodTy Tryz.prog 22 (.slice E_s36) := ⟨by kernel_rfl, by kernel_rfl⟩
theorem gt24 : GoodTy Tryz.prog 24 (.int .i64) := ⟨by kernel_rfl, by kernel_rfl⟩
theorem gt36 : GoodTy Tryz.prog 36 E_s36 := ⟨by kernel_rfl, by kernel_rfl⟩
theorem gt37 : GoodTy Tryz.prog 37 E_s36 := ⟨by kernel_rfl, by kernel_rfl⟩
theorem gt41 : GoodTy Tryz.prog 41 (.slice (.int .u8)) := ⟨by kernel_rfl, by kernel_rfl⟩
theorem gt44 : GoodTy Tryz.prog 44 (.raw .iface) := ⟨by kernel_rfl, by kernel_rfl⟩
theorem gt45 : GoodTy Tryz.prog 45 (.raw .iface) := ⟨by kernel_rfl, by kernel_rfl⟩
theorem gt57 : GoodTy Tryz.prog 57 (.arr 3 (.int .u8)) := ⟨by kernel_rfl, by kernel_rfl⟩
theorem gt60 : GoodTy Tryz.prog 60 (.slice .str) := ⟨by kernel_rfl, by kernel_rfl⟩
theorem gt61 : GoodTy Tryz.prog 61 (.arr 3 (.int .i64)) := ⟨by kernel_rfl, by kernel_rfl⟩
theorem gt62 : GoodTy Tryz.prog 62 E_s62 := ⟨by kernel_rfl, by kernel_rfl⟩
theorem gt63 : GoodTy Tryz.prog 63 E_s62 := ⟨by kernel_rfl, by kernel_rfl⟩
theorem gt73 : GoodTy Tryz.prog 73 E_s73 := ⟨by kernel_rfl, by kernel_rfl⟩
theorem gt74 : GoodTy Tryz.prog 74 E_s73 := ⟨by kernel_rfl, by kernel_rfl⟩
theorem gt76 : GoodTy Tryz.prog 76 (.slice (.int .i64)) := ⟨by kernel_rfl, by kernel_rfl⟩
theorem gt90 : GoodTy Tryz.prog 90 E_s73 := ⟨by kernel_rfl, by kernel_rfl⟩
theorem gt91 : GoodTy Tryz.prog 91 E_s73 := ⟨by kernel_rfl, by kernel_rfl⟩
theorem gt92 : GoodTy Tryz.prog 92 (.arr 48 E_s73) := ⟨by kernel_rfl, by kernel_rfl⟩
theorem gt95 : GoodTy Tryz.prog 95 (.arr 3 .str) := ⟨by kernel_rfl, by kernel_rfl⟩
theorem gt106 : GoodTy Tryz.prog 106 (.slice E_s73) := ⟨by kernel_rfl, by kernel_rfl⟩
theorem gt110 : GoodTy Tryz.prog 110 (.int .i16) := ⟨by kernel_rfl, by kernel_rfl⟩
theorem gt111 : GoodTy Tryz.prog 111 (.int .u16) := ⟨by kernel_rfl, by kernel_rfl⟩
theorem gt112 : GoodTy Tryz.prog 112 (.int .u64) := ⟨by kernel_rfl, by kernel_rfl⟩
theorem gt123 : GoodTy Tryz.prog 123 (.int .u32) := ⟨by kernel_rfl, by kernel_rfl⟩
theorem gt126 : GoodTy Tryz.prog 126 (.arr 24 (.int .u8)) := ⟨by kernel_rfl, by kernel_rfl⟩
theorem gt127 : GoodTy Tryz.prog 127 (.int .u64) := ⟨by kernel_rfl, by kernel_rfl⟩
theorem gt132 : GoodTy Tryz.prog 132 (.arr 256 (.int .u8)) := ⟨by kernel_rfl, by kernel_rfl⟩
theorem gt133 : GoodTy Tryz.prog 133 E_s133 := ⟨by kernel_rfl, by kernel_rfl⟩
theorem gt134 : GoodTy Tryz.prog 134 E_s133 := ⟨by kernel_rfl, by kernel_rfl⟩
theorem gt135 : GoodTy Tryz.prog 135 (.arr 16 E_s133) := ⟨by kernel_rfl, by kernel_rfl⟩
theorem gt136 : GoodTy Tryz.prog 136 (.int .i64) := ⟨by kernel_rfl, by kernel_rfl⟩
theorem gt143 : GoodTy Tryz.prog 143 (.arr 20 (.int .u64)) := ⟨by kernel_rfl, by kernel_rfl⟩
theorem gt144 : GoodTy Tryz.prog 144 (.arr 65 (.int .u8)) := ⟨by kernel_rfl, by kernel_rfl⟩
theorem gt149 : GoodTy Tryz.prog 149 E_s149 := ⟨by kernel_rfl, by kernel_rfl⟩
theorem gt150 : GoodTy Tryz.prog 150 E_s149 := ⟨by kernel_rfl, by kernel_rfl⟩
theorem gt157 : GoodTy Tryz.prog 157 (.arr 32 (.int .u8)) := ⟨by kernel_rfl, by kernel_rfl⟩
theorem gt158 : GoodTy Tryz.prog 158 (.arr 64 (.int .u8)) := ⟨by kernel_rfl, by kernel_rfl⟩
theorem gt165 : GoodTy Tryz.prog 165 (.int .u8) := ⟨by kernel_rfl, by kernel_rfl⟩
theorem gt166 : GoodTy Tryz.prog 166 (.int .u8) := ⟨by kernel_rfl, by kernel_rfl⟩
theorem gt168 : GoodTy Tryz.prog 168 (.int .i32) := ⟨by kernel_rfl, by kernel_rfl⟩
theorem gt169 : GoodTy Tryz.prog 169 (.int .i32) := ⟨by kernel_rfl, by kernel_rfl⟩
theorem lookup_all {α β : Type} [BEq α] [LawfulBEq α] {p : α → β → Prop} {t : α} {τ : β} : ∀ {l : List (α × β)}, (∀ q ∈ l, p q.1 q.2) → l.lookup t = some τ → p t τ
  | [], _, h => by simp at h
  | (a, b) :: l, hl, h => by
    rw [List.lookup_cons] at h
    split at h
    · rename_i e
      cases h
      have := eq_of_beq e
      subst this
      exact hl (_, _) (by simp)
    · exact lookup_all (fun q hq => hl q (List.mem_cons_of_mem _ hq)) h
theorem C_ok : C.OK where
  ty t τ h := lookup_all (p := GoodTy Tryz.prog) (l := tyL) (by
    intro q hq
    simp only [tyL, List.mem_cons, List.not_mem_nil, or_false] at hq
    rcases hq with rfl | rfl | rfl | rfl | rfl | rfl | rfl | rfl | rfl | rfl | rfl | rfl | rfl | rfl | rfl | rfl | rfl | rfl | rfl | rfl | rfl | rfl | rfl | rfl | rfl | rfl | rfl | rfl | rfl | rfl | rfl | rfl | rfl | rfl | rfl | rfl | rfl | rfl | rfl | rfl | rfl | rfl | rfl | rfl | rfl | rfl | rfl | rfl | rfl | rfl | rfl | rfl | rfl | rfl | rfl | rfl
    · exact gt3
    · exact gt4
    · exact gt9
    · exact gt5
    · exact gt2
    · exact gt6
    · exact gt7
    · exact gt8
    · exact gt10
    · exact gt11
    · exact gt12
    · exact gt13
    · exact gt14
    · exact gt20
    · exact gt21
    · exact gt22
    · exact gt24
    · exact gt36
    · exact gt37
    · exact gt41
    · exact gt44
    · exact gt45
    · exact gt57
    · exact gt60
    · exact gt61
    · exact gt62
    · exact gt63
    · exact gt73
    · exact gt74
    · exact gt76
    · exact gt90
    · exact gt91
    · exact gt92
    · exact gt95
    · exact gt106
    · exact gt110
    · exact gt111
    · exact gt112
    · exact gt123
    · exact gt126
    · exact gt127
    · exact gt132
    · exact gt133
    · exact gt134
    · exact gt135
    · exact gt136
    · exact gt143
    · exact gt144
    · exact gt149
    · exact gt150
    · exact gt157
    · exact gt158
    · exact gt165
    · exact gt166
    · exact gt168
    · exact gt169) h
  mixed := by kernel_rfl
  ob t te h := by
    have h : (bif t == 43 then some 5 else none : Option TypeId) = some te := h
    cases e : (t == 43) with
    | true => rw [show t = 43 by simpa using e]; exact ⟨by kernel_rfl, by kernel_rfl⟩
    | false => rw [e] at h; cases h
end Go.Proofs.YtmmooplcdkmapaaGreatDoor.K

/- The types of the program that the proofs speak of. -/
import Derived.Test.YtjhkagfolmhacaaGreatDoorKE
import Derived.Test.YtjhkagfolmhacaaGreatDoorChecked
set_option maxRecDepth 100000
namespace Go.Proofs.YtjhkagfolmhacaaGreatDoor.K
open Go Go.RowKit

abbrev E_s13 : ETy := (.pair .str (.pair (.int .u64) .unit))
abbrev T_s13 : Type := (ByteArray × (Int × Unit))
abbrev E_s69 : ETy := (.pair .str (.pair .str (.pair (.int .i64) .unit)))
abbrev T_s69 : Type := (ByteArray × (ByteArray × (Int × Unit)))
abbrev E_s7 : ETy := (.pair (.int .i64) (.pair (.int .i64) (.pair .bool (.pair (.int .u8) .unit))))
abbrev T_s7 : Type := (Int × (Int × (Bool × (Int × Unit))))
abbrev E_s54 : ETy := (.pair (.int .u8) (.pair (.int .u8) (.pair (.int .u8) (.pair (.int .u8) .unit))))
abbrev T_s54 : Type := (Int × (Int × (Int × (Int × Unit))))
abbrev E_s44 : ETy := (.pair (.int .i64) (.pair (.int .i64) (.pair (.int .i64) (.pair (.int .i64) (.pair (.int .i64) .unit)))))
abbrev T_s44 : Type := (Int × (Int × (Int × (Int × (Int × Unit)))))
abbrev E_s25 : ETy := (.pair (.int .i64) (.pair .bool (.pair (.arr 8 (.int .i64)) (.pair (.arr 16 (.int .i64)) (.pair (.int .i64) (.pair (.arr 8 (.int .i64)) .unit))))))
abbrev T_s25 : Type := (Int × (Bool × ((List Int) × ((List Int) × (Int × ((List Int) × Unit))))))
abbrev E_s29 : ETy := (.pair (.int .i64) (.pair (.int .i64) (.pair (.int .i64) (.pair (.int .i64) (.pair (.int .i64) (.pair (.slice E_s44) .unit))))))
abbrev T_s29 : Type := (Int × (Int × (Int × (Int × (Int × ((List T_s44) × Unit))))))
abbrev E_s60 : ETy := (.pair E_s54 (.pair E_s25 (.pair (.int .i64) .unit)))
abbrev T_s60 : Type := (T_s54 × (T_s25 × (Int × Unit)))
abbrev E_s46 : ETy := (.pair E_s25 (.pair E_s44 (.pair (.int .i64) (.pair .bool .unit))))
abbrev T_s46 : Type := (T_s25 × (T_s44 × (Int × (Bool × Unit))))
abbrev T_runtime_boundsError : Type := T_s7
abbrev T_runtime_errorAddressString : Type := T_s13
abbrev T_s26 : Type := T_s25
abbrev T_s30 : Type := T_s29
abbrev T_s34 : Type := T_s25
abbrev T_s35 : Type := T_s29
abbrev T_s45 : Type := T_s44
abbrev T_s47 : Type := T_s46
abbrev T_s55 : Type := T_s54
abbrev T_s61 : Type := T_s60
abbrev T_s70 : Type := T_s69
abbrev T_s108 : Type := T_s69
abbrev T_s109 : Type := T_s69
def tyL : List (TypeId × ETy) := [(3, (.int .i64)), (4, .bool), (9, .str), (5, (.int .u8)), (2, (.int .i64)), (6, (.int .u8)), (7, E_s7), (8, E_s7), (10, .str), (11, .str), (12, (.int .u64)), (13, E_s13), (14, E_s13), (20, (.raw .iface)), (21, (.int .i32)), (22, (.slice E_s54)), (23, (.arr 8 (.int .i64))), (24, (.arr 16 (.int .i64))), (25, E_s25), (26, E_s25), (28, (.slice E_s44)), (29, E_s29), (30, E_s29), (31, (.int .i64)), (34, E_s25), (35, E_s29), (44, E_s44), (45, E_s44), (46, E_s46), (47, E_s46), (50, (.slice (.int .i64))), (54, E_s54), (55, E_s54), (57, (.raw .func)), (60, E_s60), (61, E_s60), (69, E_s69), (70, E_s69), (90, (.slice E_s69)), (106, (.arr 3 (.int .u8))), (108, E_s69), (109, E_s69), (110, (.arr 48 E_s69)), (113, (.int .u64)), (128, (.slice .str)), (132, (.int .i64)), (140, (.int .u32)), (142, (.int .u64)), (148, (.int .u64)), (163, (.int .i16)), (164, (.int .u16)), (175, (.int .u8)), (176, (.int .u8)), (179, (.int .i32)), (180, (.int .i32))]
noncomputable def C : Cfg := { P := Tryz.prog, Ty := fun t => tyL.lookup t, G := fun _ => none }
theorem gt3 : GoodTy Tryz.prog 3 (.int .i64) := ⟨by kernel_rfl, by kernel_rfl⟩
theorem gt4 : GoodTy Tryz.prog 4 .bool := ⟨by kernel_rfl, by kernel_rfl⟩
theorem gt9 : GoodTy Tryz.prog 9 .str := ⟨by kernel_rfl, by kernel_rfl⟩
theorem gt5 : GoodTy Tryz.prog 5 (.int .u8) := ⟨by kernel_rfl, by kernel_rfl⟩
theorem gt2 : GoodTy Tryz.prog 2 (.int .i64) := ⟨by kernel_rfl, by kernel_rfl⟩
theorem gt6 : GoodTy Tryz.prog 6 (.int .u8) := ⟨by kernel_rfl, by kernel_rfl⟩
theorem gt7 : GoodTy Tryz.prog 7 E_s7 := ⟨by kernel_rfl, by kernel_rfl⟩
theorem gt8 : GoodTy Tryz.prog 8 E_s7 := ⟨by kernel_rfl, by kernel_rfl⟩
theorem gt10 : GoodTy Tryz.prog 10 .str := ⟨by kernel_rfl, by kernel_rfl⟩
theorem gt11 : GoodTy Tryz.prog 11 .str := ⟨by kernel_rfl, by kernel_rfl⟩
theorem gt12 : GoodTy Tryz.prog 12 (.int .u64) := ⟨by kernel_rfl, by kernel_rfl⟩
theorem gt13 : GoodTy Tryz.prog 13 E_s13 := ⟨by kernel_rfl, by kernel_rfl⟩
theorem gt14 : GoodTy Tryz.prog 14 E_s13 := ⟨by kernel_rfl, by kernel_rfl⟩
theorem gt20 : GoodTy Tryz.prog 20 (.raw .iface) := ⟨by kernel_rfl, by kernel_rfl⟩
theorem gt21 : GoodTy Tryz.prog 21 (.int .i32) := ⟨by kernel_rfl, by kernel_rfl⟩
theorem gt22 : GoodTy Tryz.prog 22 (.slice E_s54) := ⟨by kernel_rfl, by kernel_rfl⟩
theorem gt23 : GoodTy Tryz.prog 23 (.arr 8 (.int .i64)) := ⟨by kernel_rfl, by kernel_rfl⟩
theorem gt24 : GoodTy Tryz.prog 24 (.arr 16 (.int .i64)) := ⟨by kernel_rfl, by kernel_rfl⟩
theorem gt25 : GoodTy Tryz.prog 25 E_s25 := ⟨by kernel_rfl, by kernel_rfl⟩
theorem gt26 : GoodTy Tryz.prog 26 E_s25 := ⟨by kernel_rfl, by kernel_rfl⟩
theorem gt28 : GoodTy Tryz.prog 28 (.slice E_s44) := ⟨by kernel_rfl, by kernel_rfl⟩
theorem gt29 : GoodTy Tryz.prog 29 E_s29 := ⟨by kernel_rfl, by kernel_rfl⟩
theorem gt30 : GoodTy Tryz.prog 30 E_s29 := ⟨by kernel_rfl, by kernel_rfl⟩
theorem gt31 : GoodTy Tryz.prog 31 (.int .i64) := ⟨by kernel_rfl, by kernel_rfl⟩
theorem gt34 : GoodTy Tryz.prog 34 E_s25 := ⟨by kernel_rfl, by kernel_rfl⟩
theorem gt35 : GoodTy Tryz.prog 35 E_s29 := ⟨by kernel_rfl, by kernel_rfl⟩
theorem gt44 : GoodTy Tryz.prog 44 E_s44 := ⟨by kernel_rfl, by kernel_rfl⟩
theorem gt45 : GoodTy Tryz.prog 45 E_s44 := ⟨by kernel_rfl, by kernel_rfl⟩
theorem gt46 : GoodTy Tryz.prog 46 E_s46 := ⟨by kernel_rfl, by kernel_rfl⟩
theorem gt47 : GoodTy Tryz.prog 47 E_s46 := ⟨by kernel_rfl, by kernel_rfl⟩
theorem gt50 : GoodTy Tryz.prog 50 (.slice (.int .i64)) := ⟨by kernel_rfl, by kernel_rfl⟩
theorem gt54 : GoodTy Tryz.prog 54 E_s54 := ⟨by kernel_rfl, by kernel_rfl⟩
theorem gt55 : GoodTy Tryz.prog 55 E_s54 := ⟨by kernel_rfl, by kernel_rfl⟩
theorem gt57 : GoodTy Tryz.prog 57 (.raw .func) := ⟨by kernel_rfl, by kernel_rfl⟩
theorem gt60 : GoodTy Tryz.prog 60 E_s60 := ⟨by kernel_rfl, by kernel_rfl⟩
theorem gt61 : GoodTy Tryz.prog 61 E_s60 := ⟨by kernel_rfl, by kernel_rfl⟩
theorem gt69 : GoodTy Tryz.prog 69 E_s69 := ⟨by kernel_rfl, by kernel_rfl⟩
theorem gt70 : GoodTy Tryz.prog 70 E_s69 := ⟨by kernel_rfl, by kernel_rfl⟩
theorem gt90 : GoodTy Tryz.prog 90 (.slice E_s69) := ⟨by kernel_rfl, by kernel_rfl⟩
theorem gt106 : GoodTy Tryz.prog 106 (.arr 3 (.int .u8)) := ⟨by kernel_rfl, by kernel_rfl⟩
theorem gt108 : GoodTy Tryz.prog 108 E_s69 := ⟨by kernel_rfl, by kernel_rfl⟩
theorem gt109 : GoodTy Tryz.prog 109 E_s69 := ⟨by kernel_rfl, by kernel_rfl⟩
theorem gt110 : GoodTy Tryz.prog 110 (.arr 48 E_s69) := ⟨by kernel_rfl, by kernel_rfl⟩
theorem gt113 : GoodTy Tryz.prog 113 (.int .u64) := ⟨by kernel_rfl, by kernel_rfl⟩
theorem gt128 : GoodTy Tryz.prog 128 (.slice .str) := ⟨by kernel_rfl, by kernel_rfl⟩
theorem gt132 : GoodTy Tryz.prog 132 (.int .i64) := ⟨by kernel_rfl, by kernel_rfl⟩
theorem gt140 : GoodTy Tryz.prog 140 (.int .u32) := ⟨by kernel_rfl, by kernel_rfl⟩
theorem gt142 : GoodTy Tryz.prog 142 (.int .u64) := ⟨by kernel_rfl, by kernel_rfl⟩
theorem gt148 : GoodTy Tryz.prog 148 (.int .u64) := ⟨by kernel_rfl, by kernel_rfl⟩
theorem gt163 : GoodTy Tryz.prog 163 (.int .i16) := ⟨by kernel_rfl, by kernel_rfl⟩
theorem gt164 : GoodTy Tryz.prog 164 (.int .u16) := ⟨by kernel_rfl, by kernel_rfl⟩
theorem gt175 : GoodTy Tryz.prog 175 (.int .u8) := ⟨by kernel_rfl, by kernel_rfl⟩
theorem gt176 : GoodTy Tryz.prog 176 (.int .u8) := ⟨by kernel_rfl, by kernel_rfl⟩
theorem gt179 : GoodTy Tryz.prog 179 (.int .i32) := ⟨by kernel_rfl, by kernel_rfl⟩
theorem gt180 : GoodTy Tryz.prog 180 (.int .i32) := ⟨by kernel_rfl, by kernel_rfl⟩
theorem lookup_all {α β : Type} [BEq α] [LawfulBEq α] {p : α → β → Prop} {t : α} {τ : β} : ∀ {l : List (α × β)}, (∀ q ∈ l, p q.1 q.2) → l.lookup t = some τ → p t τ
  | [], _, h => by simp at h
  | (a, b) :: l, hl, h => by
    rw [List.lookup_cons] at h
    split at h
    · rename_i e
      cases h
      have := eq_of_beq e
      subst this
      exact hl (_, _) (by simp)
    · exact lookup_all (fun q hq => hl q (List.mem_cons_of_mem _ hq)) h
theorem C_ok : C.OK where
  ty t τ h := lookup_all (p := GoodTy Tryz.prog) (l := tyL) (by
    intro q hq
    simp only [tyL, List.mem_cons, List.not_mem_nil, or_false] at hq
    rcases hq with rfl | rfl | rfl | rfl | rfl | rfl | rfl | rfl | rfl | rfl | rfl | rfl | rfl | rfl | rfl | rfl | rfl | rfl | rfl | rfl | rfl | rfl | rfl | rfl | rfl | rfl | rfl | rfl | rfl | rfl | rfl | rfl | rfl | rfl | rfl | rfl | rfl | rfl | rfl | rfl | rfl | rfl | rfl | rfl | rfl | rfl | rfl | rfl | rfl | rfl | rfl | rfl | rfl | rfl | rfl
    · exact gt3
    · exact gt4
    · exact gt9
    · exact gt5
    · exact gt2
    · exact gt6
    · exact gt7
    · exact gt8
    · exact gt10
    · exact gt11
    · exact gt12
    · exact gt13
    · exact gt14
    · exact gt20
    · exact gt21
    · exact gt22
    · exact gt23
    · exact gt24
    · exact gt25
    · exact gt26
    · exact gt28
    · exact gt29
    · exact gt30
    · exact gt31
    · exact gt34
    · exact gt35
    · exact gt44
    · exact gt45
    · exact gt46
    · exact gt47
    · exact gt50
    · exact gt54
    · exact gt55
    · exact gt57
    · exact gt60
    · exact gt61
    · exact gt69
    · exact gt70
    · exact gt90
    · exact gt106
    · exact gt108
    · exact gt109
    · exact gt110
    · exact gt113
    · exact gt128
    · exact gt132
    · exact gt140
    · exact gt142
    · exact gt148
    · exact gt163
    · exact gt164
    · exact gt175
    · exact gt176
    · exact gt179
    · exact gt180) h
  mixed := by kernel_rfl
end Go.Proofs.YtjhkagfolmhacaaGreatDoor.K

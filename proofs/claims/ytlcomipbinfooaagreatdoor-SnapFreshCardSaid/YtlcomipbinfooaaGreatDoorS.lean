/- What functions of the program come to, and their laws. -/
import Derived.Test.YtlcomipbinfooaaGreatDoorKE
import Derived.Test.YtlcomipbinfooaaGreatDoorChecked
import Derived.Test.YtlcomipbinfooaaGreatDoorKG
import Derived.Shelf.Strconv.Itoa3
import Derived.Shelf.Spec.TrailingZeros
import Derived.Shelf.Strings.Search1
import Derived.Shelf.Strings.OnBuilder
import Derived.Shelf.Strings.Repeat
import Derived.Shelf.SortM.Plain
import Derived.Shelf.SortM.SortNone
import Derived.Shelf.SlicesE.Clone
namespace Go.Proofs.YtlcomipbinfooaaGreatDoor.K
open Go Go.RowKit
section
set_option maxRecDepth 100000
abbrev E_s13 : ETy := (.pair .str (.pair (.int .u64) .unit))
abbrev E_s74 : ETy := (.pair .bool (.pair (.int .i64) .unit))
abbrev T_s74 : Type := (Bool × (Int × Unit))
abbrev E_s81 : ETy := (.pair (.int .i64) (.pair (.int .i64) .unit))
abbrev T_s81 : Type := (Int × (Int × Unit))
abbrev E_s112 : ETy := (.pair .bool (.pair (.slice (.int .i64)) .unit))
abbrev T_s112 : Type := (Bool × ((List Int) × Unit))
abbrev E_s335 : ETy := (.pair .str (.pair .str (.pair (.int .i64) .unit)))
abbrev T_s335 : Type := (ByteArray × (ByteArray × (Int × Unit)))
abbrev E_s72 : ETy := (.pair (.slice (.int .i64)) (.pair (.slice (.int .i64)) .unit))
abbrev T_s72 : Type := ((List Int) × ((List Int) × Unit))
abbrev E_s63 : ETy := (.pair (.int .i64) E_s81)
abbrev T_s63 : Type := (Int × T_s81)
abbrev E_s153 : ETy := (.pair (.arr 4 (.int .u64)) (.pair (.arr 4 (.int .u64)) .unit))
abbrev T_s153 : Type := ((List Int) × ((List Int) × Unit))
abbrev E_s7 : ETy := (.pair (.int .i64) (.pair (.int .i64) (.pair .bool (.pair (.int .u8) .unit))))
abbrev E_s79 : ETy := (.pair (.int .u8) (.pair (.int .u8) (.pair (.int .u8) (.pair (.int .u8) .unit))))
abbrev T_s79 : Type := (Int × (Int × (Int × (Int × Unit))))
abbrev E_s110 : ETy := (.pair (.int .i64) E_s63)
abbrev T_s110 : Type := (Int × T_s63)
abbrev E_s227 : ETy := (.pair (.int .i64) E_s110)
abbrev T_s227 : Type := (Int × T_s110)
abbrev E_s175 : ETy := (.pair (.int .i64) (.pair (.slice E_s227) .unit))
abbrev T_s175 : Type := (Int × ((List T_s227) × Unit))
abbrev E_s76 : ETy := (.pair E_s74 (.pair E_s72 (.pair (.int .i64) .unit)))
abbrev T_s76 : Type := (T_s74 × (T_s72 × (Int × Unit)))
abbrev E_s67 : ETy := (.pair (.int .i64) (.pair .bool (.pair (.arr 8 (.int .i64)) (.pair (.arr 16 (.int .i64)) (.pair (.int .i64) (.pair (.arr 8 (.int .i64)) .unit))))))
abbrev T_s67 : Type := (Int × (Bool × ((List Int) × ((List Int) × (Int × ((List Int) × Unit))))))
abbrev E_s155 : ETy := (.pair E_s74 (.pair E_s153 (.pair (.int .i64) .unit)))
abbrev T_s155 : Type := (T_s74 × (T_s153 × (Int × Unit)))
abbrev E_s114 : ETy := (.pair E_s110 (.pair (.int .i64) (.pair (.slice (.int .i64)) (.pair E_s112 (.pair (.slice (.int .i64)) (.pair E_s112 .unit))))))
abbrev T_s114 : Type := (T_s110 × (Int × ((List Int) × (T_s112 × ((List Int) × (T_s112 × Unit))))))
abbrev E_s26 : ETy := (.pair (.slice (.slice E_s79)) (.pair (.slice E_s110) (.pair (.slice E_s74) (.pair (.int .i64) (.pair (.slice E_s63) .unit)))))
abbrev T_s26 : Type := ((List (List T_s79)) × ((List T_s110) × ((List T_s74) × (Int × ((List T_s63) × Unit)))))
abbrev E_s70 : ETy := (.pair (.int .i64) (.pair .bool (.pair (.int .i64) (.pair E_s67 (.pair (.int .i64) (.pair (.int .i64) E_s175))))))
abbrev T_s70 : Type := (Int × (Bool × (Int × (T_s67 × (Int × (Int × T_s175))))))
abbrev E_s60 : ETy := (.pair (.int .i64) (.pair (.slice E_s114) (.pair (.slice E_s155) (.pair (.slice E_s175) (.pair (.slice E_s63) (.pair (.slice (.int .i64)) .unit))))))
abbrev T_s60 : Type := (Int × ((List T_s114) × ((List T_s155) × ((List T_s175) × ((List T_s63) × ((List Int) × Unit))))))
abbrev E_s44 : ETy := (.pair (.int .i64) (.pair (.slice E_s70) (.pair (.slice E_s114) (.pair (.slice E_s76) (.pair (.slice (.slice (.int .i64))) (.pair (.slice E_s63) .unit))))))
abbrev T_s44 : Type := (Int × ((List T_s70) × ((List T_s114) × ((List T_s76) × ((List (List Int)) × ((List T_s63) × Unit))))))
abbrev E_s35 : ETy := (.pair (.int .i64) (.pair (.slice E_s70) (.pair (.slice E_s114) (.pair (.slice E_s155) (.pair (.slice (.slice (.int .i64))) (.pair (.slice E_s63) .unit))))))
abbrev T_s35 : Type := (Int × ((List T_s70) × ((List T_s114) × ((List T_s155) × ((List (List Int)) × ((List T_s63) × Unit))))))
def tyL : List (TypeId × ETy) := [(3, (.int .i64)), (4, .bool), (9, .str), (27, E_s26), (5, (.int .u8)), (2, (.int .i64)), (6, (.int .u8)), (7, E_s7), (8, E_s7), (10, .str), (11, .str), (12, (.int .u64)), (13, E_s13), (14, E_s13), (20, (.raw .iface)), (21, (.int .i32)), (22, (.slice (.slice E_s79))), (23, (.slice E_s110)), (24, (.slice E_s74)), (25, (.slice E_s63)), (26, E_s26), (30, (.slice E_s70)), (31, (.slice E_s114)), (32, (.slice E_s155)), (33, (.slice (.slice (.int .i64)))), (34, (.slice E_s63)), (35, E_s35), (36, E_s35), (37, (.int .i64)), (40, (.slice E_s70)), (41, (.slice E_s114)), (42, (.slice E_s76)), (43, (.slice E_s63)), (44, E_s44), (45, E_s44), (57, (.slice (.int .i64))), (59, (.slice E_s175)), (60, E_s60), (61, E_s60), (63, E_s63), (64, E_s63), (65, (.arr 8 (.int .i64))), (66, (.arr 16 (.int .i64))), (67, E_s67), (68, E_s67), (69, (.slice E_s227)), (70, E_s70), (71, E_s70), (72, E_s72), (73, E_s72), (74, E_s74), (75, E_s74), (76, E_s76), (77, E_s76), (78, (.slice E_s79)), (79, E_s79), (80, E_s79), (81, E_s81), (82, E_s81), (94, E_s81), (110, E_s110), (111, E_s110), (112, E_s112), (113, E_s112), (114, E_s114), (115, E_s114), (121, E_s63), (122, E_s63), (123, E_s63), (131, (.raw .func)), (133, (.slice (.int .u8))), (136, (.raw .iface)), (137, (.raw .iface)), (145, E_s112), (146, E_s114), (147, E_s114), (150, (.int .u64)), (151, (.arr 4 (.int .u64))), (152, (.arr 4 (.int .u64))), (153, E_s153), (154, E_s153), (155, E_s155), (156, E_s155), (175, E_s175), (176, E_s175), (201, E_s67), (202, E_s70), (203, E_s70), (227, E_s227), (228, E_s227), (235, (.slice .str)), (295, (.int .u64)), (327, (.int .u32)), (335, E_s335), (336, E_s335), (340, (.arr 2 (.int .i64))), (343, (.int .i64)), (355, (.slice E_s335)), (357, (.slice (.arr 2 (.int .i64)))), (358, (.int .u64)), (364, (.arr 64 (.int .u8))), (365, (.arr 24 (.int .u8))), (369, (.arr 3 (.int .u8))), (376, (.arr 20 (.int .u64))), (377, (.arr 65 (.int .u8))), (378, E_s335), (379, E_s335), (380, (.arr 48 E_s335)), (383, (.arr 32 (.int .u8))), (389, (.int .u8)), (390, (.int .u8)), (392, (.int .i32)), (393, (.int .i32))]
noncomputable def C : Cfg := { P := Tryz.prog, Ty := fun t => tyL.lookup t, G := fun _ => none, Ob := fun t => bif t == 135 then some 5 else none, Lk := fun t => bif t == 36 then [(1000000, 0, .unit), (5, 122, E_s63)] else bif t == 45 then [(1000000, 0, .unit), (5, 123, E_s63)] else bif t == 61 then [(1000000, 0, .unit), (3, 176, E_s175)] else [] }
theorem gt3 : GoodTy Tryz.prog 3 (.int .i64) := ⟨by kernel_rfl, by kernel_rfl⟩
theorem gt4 : GoodTy Tryz.prog 4 .bool := ⟨by kernel_rfl, by kernel_rfl⟩
theorem gt9 : GoodTy Tryz.prog 9 .str := ⟨by kernel_rfl, by kernel_rfl⟩
theorem gt27 : GoodTy Tryz.prog 27 E_s26 := ⟨by kernel_rfl, by kernel_rfl⟩
theorem gt5 : GoodTy Tryz.prog 5 (.int .u8) := ⟨by kernel_rfl, by kernel_rfl⟩
theorem gt2 : GoodTy Tryz.prog 2 (.int .i64) := ⟨by kernel_rfl, by kernel_rfl⟩
theorem gt6 : GoodTy Tryz.prog 6 (.int .u8) := ⟨by kernel_rfl, by kernel_rfl⟩
theorem gt7 : GoodTy Tryz.prog 7 E_s7 := ⟨by kernel_rfl, by kernel_rfl⟩
theorem gt8 : GoodTy Tryz.prog 8 E_s7 := ⟨by kernel_rfl, by kernel_rfl⟩
theorem gt10 : GoodTy Tryz.prog 10 .str := ⟨by kernel_rfl, by kernel_rfl⟩
theorem gt11 : GoodTy Tryz.prog 11 .str := ⟨by kernel_rfl, by kernel_rfl⟩
theorem gt12 : GoodTy Tryz.prog 12 (.int .u64) := ⟨by kernel_rfl, by kernel_rfl⟩
theorem gt13 : GoodTy Tryz.prog 13 E_s13 := ⟨by kernel_rfl, by kernel_rfl⟩
theorem gt14 : GoodTy Tryz.prog 14 E_s13 := ⟨by kernel_rfl, by kernel_rfl⟩
theorem gt20 : GoodTy Tryz.prog 20 (.raw .iface) := ⟨by kernel_rfl, by kernel_rfl⟩
theorem gt21 : GoodTy Tryz.prog 21 (.int .i32) := ⟨by kernel_rfl, by kernel_rfl⟩
theorem gt22 : GoodTy Tryz.prog 22 (.slice (.slice E_s79)) := ⟨by kernel_rfl, by kernel_rfl⟩
theorem gt23 : GoodTy Tryz.prog 23 (.slice E_s110) := ⟨by kernel_rfl, by kernel_rfl⟩
theorem gt24 : GoodTy Tryz.prog 24 (.slice E_s74) := ⟨by kernel_rfl, by kernel_rfl⟩
theorem gt25 : GoodTy Tryz.prog 25 (.slice E_s63) := ⟨by kernel_rfl, by kernel_rfl⟩
theorem gt26 : GoodTy Tryz.prog 26 E_s26 := ⟨by kernel_rfl, by kernel_rfl⟩
theorem gt30 : GoodTy Tryz.prog 30 (.slice E_s70) := ⟨by kernel_rfl, by kernel_rfl⟩
theorem gt31 : GoodTy Tryz.prog 31 (.slice E_s114) := ⟨by kernel_rfl, by kernel_rfl⟩
theorem gt32 : GoodTy Tryz.prog 32 (.slice E_s155) := ⟨by kernel_rfl, by kernel_rfl⟩
theorem gt33 : GoodTy Tryz.prog 33 (.slice (.slice (.int .i64))) := ⟨by kernel_rfl, by kernel_rfl⟩
theorem gt34 : GoodTy Tryz.prog 34 (.slice E_s63) := ⟨by kernel_rfl, by kernel_rfl⟩
theorem gt35 : GoodTy Tryz.prog 35 E_s35 := ⟨by kernel_rfl, by kernel_rfl⟩
theorem gt36 : GoodTy Tryz.prog 36 E_s35 := ⟨by kernel_rfl, by kernel_rfl⟩
theorem gt37 : GoodTy Tryz.prog 37 (.int .i64) := ⟨by kernel_rfl, by kernel_rfl⟩
theorem gt40 : GoodTy Tryz.prog 40 (.slice E_s70) := ⟨by kernel_rfl, by kernel_rfl⟩
theorem gt41 : GoodTy Tryz.prog 41 (.slice E_s114) := ⟨by kernel_rfl, by kernel_rfl⟩
theorem gt42 : GoodTy Tryz.prog 42 (.slice E_s76) := ⟨by kernel_rfl, by kernel_rfl⟩
theorem gt43 : GoodTy Tryz.prog 43 (.slice E_s63) := ⟨by kernel_rfl, by kernel_rfl⟩
theorem gt44 : GoodTy Tryz.prog 44 E_s44 := ⟨by kernel_rfl, by kernel_rfl⟩
theorem gt45 : GoodTy Tryz.prog 45 E_s44 := ⟨by kernel_rfl, by kernel_rfl⟩
theorem gt57 : GoodTy Tryz.prog 57 (.slice (.int .i64)) := ⟨by kernel_rfl, by kernel_rfl⟩
theorem gt59 : GoodTy Tryz.prog 59 (.slice E_s175) := ⟨by kernel_rfl, by kernel_rfl⟩
theorem gt60 : GoodTy Tryz.prog 60 E_s60 := ⟨by kernel_rfl, by kernel_rfl⟩
theorem gt61 : GoodTy Tryz.prog 61 E_s60 := ⟨by kernel_rfl, by kernel_rfl⟩
theorem gt63 : GoodTy Tryz.prog 63 E_s63 := ⟨by kernel_rfl, by kernel_rfl⟩
theorem gt64 : GoodTy Tryz.prog 64 E_s63 := ⟨by kernel_rfl, by kernel_rfl⟩
theorem gt65 : GoodTy Tryz.prog 65 (.arr 8 (.int .i64)) := ⟨by kernel_rfl, by kernel_rfl⟩
theorem gt66 : GoodTy Tryz.prog 66 (.arr 16 (.int .i64)) := ⟨by kernel_rfl, by kernel_rfl⟩
theorem gt67 : GoodTy Tryz.prog 67 E_s67 := ⟨by kernel_rfl, by kernel_rfl⟩
theorem gt68 : GoodTy Tryz.prog 68 E_s67 := ⟨by kernel_rfl, by kernel_rfl⟩
theorem gt69 : GoodTy Tryz.prog 69 (.slice E_s227) := ⟨by kernel_rfl, by kernel_rfl⟩
theorem gt70 : GoodTy Tryz.prog 70 E_s70 := ⟨by kernel_rfl, by kernel_rfl⟩
theorem gt71 : GoodTy Tryz.prog 71 E_s70 := ⟨by kernel_rfl, by kernel_rfl⟩
theorem gt72 : GoodTy Tryz.prog 72 E_s72 := ⟨by kernel_rfl, by kernel_rfl⟩
theorem gt73 : GoodTy Tryz.prog 73 E_s72 := ⟨by kernel_rfl, by kernel_rfl⟩
theorem gt74 : GoodTy Tryz.prog 74 E_s74 := ⟨by kernel_rfl, by kernel_rfl⟩
theorem gt75 : GoodTy Tryz.prog 75 E_s74 := ⟨by kernel_rfl, by kernel_rfl⟩
theorem gt76 : GoodTy Tryz.prog 76 E_s76 := ⟨by kernel_rfl, by kernel_rfl⟩
theorem gt77 : GoodTy Tryz.prog 77 E_s76 := ⟨by kernel_rfl, by kernel_rfl⟩
theorem gt78 : GoodTy Tryz.prog 78 (.slice E_s79) := ⟨by kernel_rfl, by kernel_rfl⟩
theorem gt79 : GoodTy Tryz.prog 79 E_s79 := ⟨by kernel_rfl, by kernel_rfl⟩
theorem gt80 : GoodTy Tryz.prog 80 E_s79 := ⟨by kernel_rfl, by kernel_rfl⟩
theorem gt81 : GoodTy Tryz.prog 81 E_s81 := ⟨by kernel_rfl, by kernel_rfl⟩
theorem gt82 : GoodTy Tryz.prog 82 E_s81 := ⟨by kernel_rfl, by kernel_rfl⟩
theorem gt94 : GoodTy Tryz.prog 94 E_s81 := ⟨by kernel_rfl, by kernel_rfl⟩
theorem gt110 : GoodTy Tryz.prog 110 E_s110 := ⟨by kernel_rfl, by kernel_rfl⟩
theorem gt111 : GoodTy Tryz.prog 111 E_s110 := ⟨by kernel_rfl, by kernel_rfl⟩
theorem gt112 : GoodTy Tryz.prog 112 E_s112 := ⟨by kernel_rfl, by kernel_rfl⟩
theorem gt113 : GoodTy Tryz.prog 113 E_s112 := ⟨by kernel_rfl, by kernel_rfl⟩
theorem gt114 : GoodTy Tryz.prog 114 E_s114 := ⟨by kernel_rfl, by kernel_rfl⟩
theorem gt115 : GoodTy Tryz.prog 115 E_s114 := ⟨by kernel_rfl, by kernel_rfl⟩
theorem gt121 : GoodTy Tryz.prog 121 E_s63 := ⟨by kernel_rfl, by kernel_rfl⟩
theorem gt122 : GoodTy Tryz.prog 122 E_s63 := ⟨by kernel_rfl, by kernel_rfl⟩
theorem gt123 : GoodTy Tryz.prog 123 E_s63 := ⟨by kernel_rfl, by kernel_rfl⟩
theorem gt131 : GoodTy Tryz.prog 131 (.raw .func) := ⟨by kernel_rfl, by kernel_rfl⟩
theorem gt133 : GoodTy Tryz.prog 133 (.slice (.int .u8)) := ⟨by kernel_rfl, by kernel_rfl⟩
theorem gt136 : GoodTy Tryz.prog 136 (.raw .iface) := ⟨by kernel_rfl, by kernel_rfl⟩
theorem gt137 : GoodTy Tryz.prog 137 (.raw .iface) := ⟨by kernel_rfl, by kernel_rfl⟩
theorem gt145 : GoodTy Tryz.prog 145 E_s112 := ⟨by kernel_rfl, by kernel_rfl⟩
theorem gt146 : GoodTy Tryz.prog 146 E_s114 := ⟨by kernel_rfl, by kernel_rfl⟩
theorem gt147 : GoodTy Tryz.prog 147 E_s114 := ⟨by kernel_rfl, by kernel_rfl⟩
theorem gt150 : GoodTy Tryz.prog 150 (.int .u64) := ⟨by kernel_rfl, by kernel_rfl⟩
theorem gt151 : GoodTy Tryz.prog 151 (.arr 4 (.int .u64)) := ⟨by kernel_rfl, by kernel_rfl⟩
theorem gt152 : GoodTy Tryz.prog 152 (.arr 4 (.int .u64)) := ⟨by kernel_rfl, by kernel_rfl⟩
theorem gt153 : GoodTy Tryz.prog 153 E_s153 := ⟨by kernel_rfl, by kernel_rfl⟩
theorem gt154 : GoodTy Tryz.prog 154 E_s153 := ⟨by kernel_rfl, by kernel_rfl⟩
theorem gt155 : GoodTy Tryz.prog 155 E_s155 := ⟨by kernel_rfl, by kernel_rfl⟩
theorem gt156 : GoodTy Tryz.prog 156 E_s155 := ⟨by kernel_rfl, by kernel_rfl⟩
theorem gt175 : GoodTy Tryz.prog 175 E_s175 := ⟨by kernel_rfl, by kernel_rfl⟩
theorem gt176 : GoodTy Tryz.prog 176 E_s175 := ⟨by kernel_rfl, by kernel_rfl⟩
theorem gt201 : GoodTy Tryz.prog 201 E_s67 := ⟨by kernel_rfl, by kernel_rfl⟩
theorem gt202 : GoodTy Tryz.prog 202 E_s70 := ⟨by kernel_rfl, by kernel_rfl⟩
theorem gt203 : GoodTy Tryz.prog 203 E_s70 := ⟨by kernel_rfl, by kernel_rfl⟩
theorem gt227 : GoodTy Tryz.prog 227 E_s227 := ⟨by kernel_rfl, by kernel_rfl⟩
theorem gt228 : GoodTy Tryz.prog 228 E_s227 := ⟨by kernel_rfl, by kernel_rfl⟩
theorem gt235 : GoodTy Tryz.prog 235 (.slice .str) := ⟨by kernel_rfl, by kernel_rfl⟩
theorem gt295 : GoodTy Tryz.prog 295 (.int .u64) := ⟨by kernel_rfl, by kernel_rfl⟩
theorem gt327 : GoodTy Tryz.prog 327 (.int .u32) := ⟨by kernel_rfl, by kernel_rfl⟩
theorem gt335 : GoodTy Tryz.prog 335 E_s335 := ⟨by kernel_rfl, by kernel_rfl⟩
theorem gt336 : GoodTy Tryz.prog 336 E_s335 := ⟨by kernel_rfl, by kernel_rfl⟩
theorem gt340 : GoodTy Tryz.prog 340 (.arr 2 (.int .i64)) := ⟨by kernel_rfl, by kernel_rfl⟩
theorem gt343 : GoodTy Tryz.prog 343 (.int .i64) := ⟨by kernel_rfl, by kernel_rfl⟩
theorem gt355 : GoodTy Tryz.prog 355 (.slice E_s335) := ⟨by kernel_rfl, by kernel_rfl⟩
theorem gt357 : GoodTy Tryz.prog 357 (.slice (.arr 2 (.int .i64))) := ⟨by kernel_rfl, by kernel_rfl⟩
theorem gt358 : GoodTy Tryz.prog 358 (.int .u64) := ⟨by kernel_rfl, by kernel_rfl⟩
theorem gt364 : GoodTy Tryz.prog 364 (.arr 64 (.int .u8)) := ⟨by kernel_rfl, by kernel_rfl⟩
theorem gt365 : GoodTy Tryz.prog 365 (.arr 24 (.int .u8)) := ⟨by kernel_rfl, by kernel_rfl⟩
theorem gt369 : GoodTy Tryz.prog 369 (.arr 3 (.int .u8)) := ⟨by kernel_rfl, by kernel_rfl⟩
theorem gt376 : GoodTy Tryz.prog 376 (.arr 20 (.int .u64)) := ⟨by kernel_rfl, by kernel_rfl⟩
theorem gt377 : GoodTy Tryz.prog 377 (.arr 65 (.int .u8)) := ⟨by kernel_rfl, by kernel_rfl⟩
theorem gt378 : GoodTy Tryz.prog 378 E_s335 := ⟨by kernel_rfl, by kernel_rfl⟩
theorem gt379 : GoodTy Tryz.prog 379 E_s335 := ⟨by kernel_rfl, by kernel_rfl⟩
theorem gt380 : GoodTy Tryz.prog 380 (.arr 48 E_s335) := ⟨by kernel_rfl, by kernel_rfl⟩
theorem gt383 : GoodTy Tryz.prog 383 (.arr 32 (.int .u8)) := ⟨by kernel_rfl, by kernel_rfl⟩
theorem gt389 : GoodTy Tryz.prog 389 (.int .u8) := ⟨by kernel_rfl, by kernel_rfl⟩
theorem gt390 : GoodTy Tryz.prog 390 (.int .u8) := ⟨by kernel_rfl, by kernel_rfl⟩
theorem gt392 : GoodTy Tryz.prog 392 (.int .i32) := ⟨by kernel_rfl, by kernel_rfl⟩
theorem gt393 : GoodTy Tryz.prog 393 (.int .i32) := ⟨by kernel_rfl, by kernel_rfl⟩
theorem lookup_all {α β : Type} [BEq α] [LawfulBEq α] {p : α → β → Prop} {t : α} {τ : β} : ∀ {l : List (α × β)}, (∀ q ∈ l, p q.1 q.2) → l.lookup t = some τ → p t τ
  | [], _, h => by simp at h
  | (a, b) :: l, hl, h => by
    rw [List.lookup_cons] at h
    split at h
    · rename_i e
      cases h
      have := eq_of_beq e
      subst this
      exact hl (_, _) (by simp)
    · exact lookup_all (fun q hq => hl q (List.mem_cons_of_mem _ hq)) h
theorem C_ok : C.OK where
  ty t τ h := lookup_all (p := GoodTy Tryz.prog) (l := tyL) (by
    intro q hq
    simp only [tyL, List.mem_cons, List.not_mem_nil, or_false] at hq
    rcases hq with rfl | rfl | rfl | rfl | rfl | rfl | rfl | rfl | rfl | rfl | rfl | rfl | rfl | rfl | rfl | rfl | rfl | rfl | rfl | rfl | rfl | rfl | rfl | rfl | rfl | rfl | rfl | rfl | rfl | rfl | rfl | rfl | rfl | rfl | rfl | rfl | rfl | rfl | rfl | rfl | rfl | rfl | rfl | rfl | rfl | rfl | rfl | rfl | rfl | rfl | rfl | rfl | rfl | rfl | rfl | rfl | rfl | rfl | rfl | rfl | rfl | rfl | rfl | rfl | rfl | rfl | rfl | rfl | rfl | rfl | rfl | rfl | rfl | rfl | rfl | rfl | rfl | rfl | rfl | rfl | rfl | rfl | rfl | rfl | rfl | rfl | rfl | rfl | rfl | rfl | rfl | rfl | rfl | rfl | rfl | rfl | rfl | rfl | rfl | rfl | rfl | rfl | rfl | rfl | rfl | rfl | rfl | rfl | rfl | rfl | rfl | rfl | rfl
    · exact gt3
    · exact gt4
    · exact gt9
    · exact gt27
    · exact gt5
    · exact gt2
    · exact gt6
    · exact gt7
    · exact gt8
    · exact gt10
    · exact gt11
    · exact gt12
    · exact gt13
    · exact gt14
    · exact gt20
    · exact gt21
    · exact gt22
    · exact gt23
    · exact gt24
    · exact gt25
    · exact gt26
    · exact gt30
    · exact gt31
    · exact gt32
    · exact gt33
    · exact gt34
    · exact gt35
    · exact gt36
    · exact gt37
    · exact gt40
    · exact gt41
    · exact gt42
    · exact gt43
    · exact gt44
    · exact gt45
    · exact gt57
    · exact gt59
    · exact gt60
    · exact gt61
    · exact gt63
    · exact gt64
    · exact gt65
    · exact gt66
    · exact gt67
    · exact gt68
    · exact gt69
    · exact gt70
    · exact gt71
    · exact gt72
    · exact gt73
    · exact gt74
    · exact gt75
    · exact gt76
    · exact gt77
    · exact gt78
    · exact gt79
    · exact gt80
    · exact gt81
    · exact gt82
    · exact gt94
    · exact gt110
    · exact gt111
    · exact gt112
    · exact gt113
    · exact gt114
    · exact gt115
    · exact gt121
    · exact gt122
    · exact gt123
    · exact gt131
    · exact gt133
    · exact gt136
    · exact gt137
    · exact gt145
    · exact gt146
    · exact gt147
    · exact gt150
    · exact gt151
    · exact gt152
    · exact gt153
    · exact gt154
    · exact gt155
    · exact gt156
    · exact gt175
    · exact gt176
    · exact gt201
    · exact gt202
    · exact gt203
    · exact gt227
    · exact gt228
    · exact gt235
    · exact gt295
    · exact gt327
    · exact gt335
    · exact gt336
    · exact gt340
    · exact gt343
    · exact gt355
    · exact gt357
    · exact gt358
    · exact gt364
    · exact gt365
    · exact gt369
    · exact gt376
    · exact gt377
    · exact gt378
    · exact gt379
    · exact gt380
    · exact gt383
    · exact gt389
    · exact gt390
    · exact gt392
    · exact gt393) h
  mixed := by kernel_rfl
  ob t te h := by
    have h : (bif t == 135 then some 5 else none : Option TypeId) = some te := h
    cases e : (t == 135) with
    | true => rw [show t = 135 by simpa using e]; exact ⟨by kernel_rfl, by kernel_rfl⟩
    | false => rw [e] at h; cases h
end
section
set_option linter.unusedVariables false
set_option linter.unusedSimpArgs false
set_option maxRecDepth 100000
def pow10 : List Int := [1, 10, 100, 1000, 10000, 100000, 1000000, 10000000, 100000000, 1000000000, 10000000000, 100000000000, 1000000000000, 10000000000000, 100000000000000, 1000000000000000, 10000000000000000, 100000000000000000, 1000000000000000000, 10000000000000000000]
def kindsT : List (ByteArray × (ByteArray × (Int × Unit))) := [(bs [110, 111, 112], bs [45, 45, 45], 0, ()), (bs [104, 97, 108, 116], bs [45, 45, 45], 5, ()), (bs [109, 111, 118], bs [114, 114, 45], 0, ()), (bs [115, 101, 116], bs [114, 105, 106], 0, ()), (bs [97, 100, 100], bs [114, 114, 114], 0, ()), (bs [115, 117, 98], bs [114, 114, 114], 0, ()), (bs [109, 117, 108], bs [114, 114, 114], 0, ()), (bs [100, 105, 118], bs [114, 114, 114], 0, ()), (bs [114, 101, 109], bs [114, 114, 114], 0, ()), (bs [97, 110, 100], bs [114, 114, 114], 0, ()), (bs [111, 114], bs [114, 114, 114], 0, ()), (bs [120, 111, 114], bs [114, 114, 114], 0, ()), (bs [115, 104, 108], bs [114, 114, 114], 0, ()), (bs [115, 104, 114], bs [114, 114, 114], 0, ()), (bs [110, 111, 116], bs [114, 114, 45], 0, ()), (bs [110, 101, 103], bs [114, 114, 45], 0, ()), (bs [108, 116], bs [114, 114, 114], 0, ()), (bs [101, 113], bs [114, 114, 114], 0, ()), (bs [106, 109, 112], bs [116, 45, 45], 1, ()), (bs [106, 122], bs [114, 116, 45], 1, ()), (bs [106, 110, 122], bs [114, 116, 45], 1, ()), (bs [106, 98, 97, 100], bs [116, 45, 45], 1, ()), (bs [99, 97, 108, 108], bs [116, 45, 45], 1, ()), (bs [114, 101, 116], bs [45, 45, 45], 1, ()), (bs [108, 111, 97, 100], bs [114, 114, 45], 0, ()), (bs [115, 116, 111, 114, 101], bs [114, 114, 45], 0, ()), (bs [102, 97, 105, 108], bs [115, 45, 45], 5, ()), (bs [101, 109, 105, 116], bs [114, 45, 45], 4, ()), (bs [110, 111, 119], bs [114, 45, 45], 4, ()), (bs [109, 101], bs [114, 45, 45], 4, ()), (bs [115, 112, 97, 119, 110], bs [114, 112, 114], 4, ()), (bs [106, 111, 105, 110], bs [114, 45, 45], 2, ()), (bs [115, 108, 101, 101, 112], bs [114, 45, 45], 2, ()), (bs [115, 101, 110, 100], bs [99, 114, 45], 2, ()), (bs [114, 101, 99, 118], bs [99, 114, 45], 2, ()), (bs [112, 111, 105, 115, 111, 110], bs [99, 114, 45], 4, ()), (bs [101, 110, 114, 111, 108], bs [98, 45, 45], 4, ()), (bs [114, 101, 115, 105, 103, 110], bs [98, 45, 45], 4, ()), (bs [115, 121, 110, 99], bs [98, 45, 45], 2, ()), (bs [102, 97, 108, 108], bs [107, 45, 45], 2, ()), (bs [102, 108, 117, 115, 104], bs [114, 107, 45], 4, ()), (bs [97, 108, 116], bs [114, 109, 110], 2, ()), (bs [103, 105, 110], bs [99, 114, 103], 3, ()), (bs [103, 98, 97, 114], bs [98, 45, 103], 3, ()), (bs [103, 116, 105, 109, 101], bs [114, 45, 103], 3, ()), (bs [103, 115, 107, 105, 112], bs [45, 45, 103], 3, ()), (bs [112, 104, 97, 115, 101], bs [114, 98, 45], 4, ()), (bs [115, 105, 122, 101], bs [114, 98, 45], 4, ())]
def deBruijnT : List Int := [0, 1, 56, 2, 57, 49, 28, 3, 61, 58, 42, 50, 38, 29, 17, 4, 62, 47, 59, 36, 45, 43, 51, 22, 53, 39, 33, 30, 24, 18, 12, 5, 63, 55, 48, 27, 60, 41, 37, 16, 46, 35, 44, 21, 52, 32, 23, 11, 54, 26, 40, 15, 34, 20, 31, 10, 25, 14, 19, 9, 13, 8, 7, 6]
def everybodyT : List Int := [65535, 0, 0, 0]
def orG (f h : Nat → Option Dat) : Nat → Option Dat := fun g => match f g with | some d => some d | none => h g
def gP : Nat → Option Dat := fun g => bif g == 3 then some (⟨.arr 20 (.int .u64), pow10⟩ : Dat) else none
def gK : Nat → Option Dat := fun g => bif g == 4 then some (⟨.arr 48 (.pair .str (.pair .str (.pair (.int .i64) .unit))), kindsT⟩ : Dat) else none
def gD : Nat → Option Dat := fun g => bif g == 1 then some (⟨.arr 64 (.int .u8), deBruijnT⟩ : Dat) else none
def gE : Nat → Option Dat := fun g => bif g == 0 then some (⟨.arr 4 (.int .u64), everybodyT⟩ : Dat) else none
noncomputable def CD : Cfg := { C with G := gD }
noncomputable def CP : Cfg := { C with G := gP }
noncomputable def CDEKP : Cfg := { C with G := (orG gD (orG gE (orG gK gP))) }
theorem CDEKP_ok : CDEKP.OK := ⟨C_ok.ty, C_ok.mixed, C_ok.ob⟩
theorem le_C_CDEKP : C.le CDEKP := ⟨rfl, (fun g d h => by cases h), (fun g h => by cases h)⟩
theorem le_CD_CDEKP : CD.le CDEKP := ⟨rfl, (fun g d h => by
  have h1 : gD g = some d := h
  unfold gD at h1
  cases hf : (g == 1) with
  | true => rw [hf] at h1; rw [show g = 1 by simpa using hf]; exact h1
  | false => rw [hf] at h1; cases h1), (fun g h => by cases h)⟩
theorem le_CP_CDEKP : CP.le CDEKP := ⟨rfl, (fun g d h => by
  have h1 : gP g = some d := h
  unfold gP at h1
  cases hf : (g == 3) with
  | true => rw [hf] at h1; rw [show g = 3 by simpa using hf]; exact h1
  | false => rw [hf] at h1; cases h1), (fun g h => by cases h)⟩
theorem enters_fn {P : Program} {f : FuncId} {fn : Func} (hf : P.funcs[f]? = some fn) (hb : fn.body.isSome = true) (hn : (fn.name == "runtime.NumGoroutine") = false) (us : Array Value) (w : World) : (callFunc f us).run P w = .ok (.enter f us) w := by
  have hpn : (program.run P w : Result Program) = .ok P w := rfl
  have hb' : fn.body.isNone = false := by cases h : fn.body <;> simp [h] at hb ⊢
  simp only [callFunc, Sem.run_bind, hpn, Result.andThen_ok, hf, hn, hb', Bool.false_eq_true, if_false, Sem.run_pure]
theorem below_grow (w : World) (k : Nat) (os : Array Obj) : Below w.heap.size w (Go.Sort.grow (w.drewN k) os) :=
  ⟨rfl, rfl, rfl, by simp [Go.Sort.grow], fun i hi => by simp only [Go.Sort.grow, World.heap_drewN]; exact Array.getElem?_append_left hi⟩
theorem safe_of_below {w w' : World} {S : Nat → Nat → Prop} (hS : ∀ b o, S b o → b < w.heap.size) (h : Below w.heap.size w w') : Safe S S w w' :=
  ⟨fun _ _ h => h, fun b o hs => World.cell?_of_block (a := ⟨b, o, none⟩) (h.block b (hS b o hs))⟩
def lays171_ren : Go.Shelf.Ren := ⟨fun | 171 => 207 | 243 => 247 | 246 => 279 | 283 => 292 | 284 => 293 | 285 => 294 | 286 => 295 | 129 => 276 | 317 => 304 | 318 => 305 | 319 => 306 | 320 => 307 | 337 => 311 | 338 => 277 | n => n, fun | 3 => 3 | 9 => 9 | 2 => 2 | 4 => 4 | 171 => 365 | 0 => 0 | 53 => 150 | 37 => 133 | 5 => 5 | 173 => 367 | 212 => 376 | 51 => 327 | 20 => 20 | 213 => 377 | 46 => 295 | 232 => 383 | 233 => 364 | n => n, fun | 17 => 3 | 18 => 5 | 19 => 1 | n => n⟩
theorem lays171 : Go.Proofs.LaysM.n171 Tryz.prog lays171_ren where
  mixed := by kernel_rfl
  f129 := Tryz.func276.trans (congrArg some (by kernel_rfl))
  f171 := Tryz.func207.trans (congrArg some (by kernel_rfl))
  f243 := Tryz.func247.trans (congrArg some (by kernel_rfl))
  f246 := Tryz.func279.trans (congrArg some (by kernel_rfl))
  f283 := Tryz.func292.trans (congrArg some (by kernel_rfl))
  f284 := Tryz.func293.trans (congrArg some (by kernel_rfl))
  f285 := Tryz.func294.trans (congrArg some (by kernel_rfl))
  f286 := Tryz.func295.trans (congrArg some (by kernel_rfl))
  f317 := Tryz.func304.trans (congrArg some (by kernel_rfl))
  f318 := Tryz.func305.trans (congrArg some (by kernel_rfl))
  f319 := Tryz.func306.trans (congrArg some (by kernel_rfl))
  f320 := Tryz.func307.trans (congrArg some (by kernel_rfl))
  f337 := Tryz.func311.trans (congrArg some (by kernel_rfl))
  f338 := Tryz.func277.trans (congrArg some (by kernel_rfl))
  t0 := Tryz.underlying0
  a0 := Tryz.isAgg0
  z0 := Tryz.sizeOf0
  v0 := Tryz.zeroValue0
  t2 := Tryz.underlying2
  a2 := Tryz.isAgg2
  z2 := Tryz.sizeOf2
  v2 := Tryz.zeroValue2
  t3 := Tryz.underlying3
  a3 := Tryz.isAgg3
  z3 := Tryz.sizeOf3
  v3 := Tryz.zeroValue3
  t4 := Tryz.underlying4
  a4 := Tryz.isAgg4
  z4 := Tryz.sizeOf4
  v4 := Tryz.zeroValue4
  t5 := Tryz.underlying5
  a5 := Tryz.isAgg5
  z5 := Tryz.sizeOf5
  v5 := Tryz.zeroValue5
  t9 := Tryz.underlying9
  a9 := Tryz.isAgg9
  z9 := Tryz.sizeOf9
  v9 := Tryz.zeroValue9
  t20 := Tryz.underlying20
  a20 := Tryz.isAgg20
  z20 := Tryz.sizeOf20
  v20 := Tryz.zeroValue20
  t37 := Tryz.underlying133
  a37 := Tryz.isAgg133
  z37 := Tryz.sizeOf133
  v37 := Tryz.zeroValue133
  t46 := Tryz.underlying295
  a46 := Tryz.isAgg295
  z46 := Tryz.sizeOf295
  v46 := Tryz.zeroValue295
  t51 := Tryz.underlying327
  a51 := Tryz.isAgg327
  z51 := Tryz.sizeOf327
  v51 := Tryz.zeroValue327
  t53 := Tryz.underlying150
  a53 := Tryz.isAgg150
  z53 := Tryz.sizeOf150
  v53 := Tryz.zeroValue150
  t171 := Tryz.underlying365
  a171 := Tryz.isAgg365
  z171 := Tryz.sizeOf365
  v171 := Tryz.zeroValue365
  t173 := Tryz.underlying367
  a173 := Tryz.isAgg367
  z173 := Tryz.sizeOf367
  v173 := Tryz.zeroValue367
  t212 := Tryz.underlying376
  a212 := Tryz.isAgg376
  z212 := Tryz.sizeOf376
  v212 := Tryz.zeroValue376
  t213 := Tryz.underlying377
  a213 := Tryz.isAgg377
  z213 := Tryz.sizeOf377
  t232 := Tryz.underlying383
  a232 := Tryz.isAgg383
  z232 := Tryz.sizeOf383
  v232 := Tryz.zeroValue383
  t233 := Tryz.underlying364
  a233 := Tryz.isAgg364
  z233 := Tryz.sizeOf364
  v233 := Tryz.zeroValue364
  g17 := by kernel_rfl
  g18 := by kernel_rfl
  g19 := by kernel_rfl
  i0 := by kernel_rfl
  i2 := by kernel_rfl
  i3 := by kernel_rfl
  i4 := by kernel_rfl
  i5 := by kernel_rfl
  i9 := by kernel_rfl
  i20 := by kernel_rfl
  i37 := by kernel_rfl
  i46 := by kernel_rfl
  i51 := by kernel_rfl
  i53 := by kernel_rfl
  i171 := by kernel_rfl
  i173 := by kernel_rfl
  i212 := by kernel_rfl
  i232 := by kernel_rfl
  i233 := by kernel_rfl
  m17 := by kernel_rfl
  m18 := by kernel_rfl
  m19 := by kernel_rfl
theorem tab_of {w : World} {S : Nat → Nat → Prop} {B : Nat} (h : GlobOK CP B w S) : Lib.TabIs Tryz.prog w "internal/strconv.uint64pow10" .u64 Lib.pow10Tab := by
  obtain ⟨_, cs, el, fr, h1, h2, _⟩ := h.tab 3 ⟨.arr 20 (.int .u64), pow10⟩ rfl
  have h3 : cs = pow10.map (Value.int .u64) := repL_ints_eq h2.2
  unfold Lib.TabIs World.var?
  rw [show Tryz.prog.globalNamed "internal/strconv.uint64pow10" = some 3 by kernel_rfl]
  simp only [Option.bind_some, h1, h3]
  rfl
def zq3b.u (n : Int) : Option ByteArray := bif decide (-9223372036854775808 ≤ n) && decide (n ≤ 9223372036854775807) then some ⟨(Lib.itoa n).toArray⟩ else none
theorem zq3b.c (n : Int) (r : ByteArray) (h : zq3b.u n = some r) : Contract CP 207 [.v (.int .i64) n] (tupAV .str [] r) where
  enters us w := enters_fn (P := Tryz.prog) (fn := Tryz.f207) (by kernel_rfl) (by kernel_rfl) (by kernel_rfl) us w
  runs w S us hlt hG hr := by
    simp only [RepAs] at hr
    obtain ⟨u, q, rfl, h1, rfl⟩ := hr
    rw [rep_int] at h1
    subst h1
    obtain ⟨hp, hq⟩ := ite_some h
    simp only [Bool.and_eq_true, decide_eq_true_eq] at hp
    cases hq
    refine (Any.strconv_Itoa lays171 n hp.1 hp.2 w (tab_of hG)).mono ?_
    rintro e w' ⟨rfl, k, os, rfl⟩
    have hb := below_grow w k os
    exact ⟨_, S, rfl, hb, safe_of_below hlt hb, fun b o hs => ⟨.inl hs, Nat.lt_of_lt_of_le (hlt b o hs) hb.size⟩, rep_str.2 rfl⟩
noncomputable def zq3b.e : Ent := argI (.int .i64) fun x0 => endU (zq3b.u x0) (tupAV .str [])
theorem zq3b.e_ok : EntOK CP 207 (fun {_} => zq3b.e) := entA_ok (argI_ok fun x0 => endU_ok fun r h => zq3b.c x0 r h)
def laysTz_ren : Go.Shelf.Ren := ⟨fun | 29 => 277 | n => n, fun | 22 => 150 | 3 => 3 | 4 => 4 | 25 => 295 | 54 => 364 | 0 => 0 | 5 => 5 | n => n, fun | 1 => 1 | n => n⟩
theorem laysTz : Go.Proofs.Lays7.n29 Tryz.prog laysTz_ren where
  mixed := by kernel_rfl
  f29 := Tryz.func277.trans (congrArg some (by kernel_rfl))
  t0 := Tryz.underlying0
  a0 := Tryz.isAgg0
  z0 := Tryz.sizeOf0
  v0 := Tryz.zeroValue0
  i0 := by kernel_rfl
  t3 := Tryz.underlying3
  a3 := Tryz.isAgg3
  z3 := Tryz.sizeOf3
  v3 := Tryz.zeroValue3
  i3 := by kernel_rfl
  t4 := Tryz.underlying4
  a4 := Tryz.isAgg4
  z4 := Tryz.sizeOf4
  v4 := Tryz.zeroValue4
  i4 := by kernel_rfl
  t5 := Tryz.underlying5
  a5 := Tryz.isAgg5
  z5 := Tryz.sizeOf5
  v5 := Tryz.zeroValue5
  i5 := by kernel_rfl
  t22 := Tryz.underlying150
  a22 := Tryz.isAgg150
  z22 := Tryz.sizeOf150
  v22 := Tryz.zeroValue150
  i22 := by kernel_rfl
  t25 := Tryz.underlying295
  a25 := Tryz.isAgg295
  z25 := Tryz.sizeOf295
  v25 := Tryz.zeroValue295
  i25 := by kernel_rfl
  t54 := Tryz.underlying364
  a54 := Tryz.isAgg364
  z54 := Tryz.sizeOf364
  g1 := by kernel_rfl
theorem tabD_of {w : World} {S : Nat → Nat → Prop} {B : Nat} (h : GlobOK CD B w S) : TabAt 1 Lib.deBruijn64tab w := by
  obtain ⟨_, cs, el, fr, h1, h2, _⟩ := h.tab 1 ⟨.arr 64 (.int .u8), deBruijnT⟩ rfl
  have h3 : cs = deBruijnT.map (Value.int .u8) := repL_ints_eq h2.2
  subst h3
  intro j hj
  rw [Lib.cell_of_heap h1]
  have e : deBruijnT.map (Value.int .u8) = Lib.deBruijn64tab.map (fun n : Nat => Value.int .u8 (n : Int)) := by kernel_rfl
  rw [e, List.getElem?_toArray, List.getElem?_map, List.getD_eq_getElem?_getD, List.getElem?_eq_getElem hj]
  rfl
def zq1h.u (n : Int) : Option Int := bif decide ((0 : Int) ≤ n) && decide (n < 18446744073709551616) then some (Lib.ctz 64 (Int.toNat n)) else none
theorem zq1h.c (n : Int) (r : Int) (h : zq1h.u n = some r) : Contract CD 277 [.v (.int .u64) n] (tupAV (.int .i64) [] r) where
  enters us w := enters_fn (P := Tryz.prog) (fn := Tryz.f277) (by kernel_rfl) (by kernel_rfl) (by kernel_rfl) us w
  runs w S us hlt hG hr := by
    simp only [RepAs] at hr
    obtain ⟨u, q, rfl, h1, rfl⟩ := hr
    rw [rep_int] at h1
    subst h1
    obtain ⟨hp, hq⟩ := ite_some h
    simp only [Bool.and_eq_true, decide_eq_true_eq] at hp
    cases hq
    obtain ⟨x, rfl⟩ := Int.eq_ofNat_of_zero_le hp.1
    refine (Any7.bits_TrailingZeros64 laysTz x (by omega) w (fun _ => tabD_of hG)).mono ?_
    rintro e w' ⟨rfl, rfl⟩
    exact ⟨_, S, rfl, Below.refl _ _, Safe.refl _ _, fun b o hs => ⟨.inl hs, hlt b o hs⟩, rep_int.2 (by rw [Int.toNat_natCast])⟩
noncomputable def zq1h.e : Ent := argI (.int .u64) fun x0 => endU (zq1h.u x0) (tupAV (.int .i64) [])
theorem zq1h.e_ok : EntOK CD 277 (fun {_} => zq1h.e) := entA_ok (argI_ok fun x0 => endU_ok fun r h => zq1h.c x0 r h)
def lays217_ren : Go.Shelf.Ren := ⟨fun | 217 => 312 | 266 => 313 | n => n, fun | 9 => 9 | 5 => 5 | 3 => 3 | 20 => 20 | n => n, fun | n => n⟩
theorem lays217 : Go.Proofs.Lays.n217 Tryz.prog lays217_ren where
  mixed := by kernel_rfl
  f217 := Tryz.func312.trans (congrArg some (by kernel_rfl))
  f266 := Tryz.func313.trans (congrArg some (by kernel_rfl))
  t3 := Tryz.underlying3
  a3 := Tryz.isAgg3
  z3 := Tryz.sizeOf3
  v3 := Tryz.zeroValue3
  t5 := Tryz.underlying5
  a5 := Tryz.isAgg5
  z5 := Tryz.sizeOf5
  v5 := Tryz.zeroValue5
  t9 := Tryz.underlying9
  a9 := Tryz.isAgg9
  z9 := Tryz.sizeOf9
  v9 := Tryz.zeroValue9
def zq1l.t (s : ByteArray) (c : Int) : Int := Lib.indexByte s.data.toList c.toNat.toUInt8
theorem zq1l.c (s : ByteArray) (c : Int) : Contract C 312 [.v .str s, .v (.int .u8) c] (tupAV (.int .i64) [] (zq1l.t s c)) where
  enters us w := enters_fn (P := Tryz.prog) (fn := Tryz.f312) (by kernel_rfl) (by kernel_rfl) (by kernel_rfl) us w
  runs w S us hlt hG hr := by
    simp only [RepAs] at hr
    obtain ⟨u, q, rfl, h1, v, q', rfl, h2, rfl⟩ := hr
    rw [rep_str] at h1
    rw [rep_int] at h2
    subst h1 h2
    refine (Any.stringslite_IndexByte lays217 s c w).mono ?_
    rintro e w' ⟨rfl, rfl⟩
    exact ⟨_, S, rfl, Below.refl _ _, Safe.refl _ _, fun b o hs => ⟨.inl hs, hlt b o hs⟩, rep_int.2 rfl⟩
noncomputable def zq1l.e : Ent := argI .str fun x0 => argI (.int .u8) fun x1 => endT (tupAV (.int .i64) [] (zq1l.t x0 x1))
theorem zq1l.e_ok : EntOK C 312 (fun {_} => zq1l.e) := entA_ok (argI_ok fun x0 => argI_ok fun x1 => endT_ok (zq1l.c x0 x1))
def laysJoin_ren : Go.Shelf.Ren := ⟨fun | 156 => 146 | 165 => 206 | 166 => 62 | 169 => 76 | 240 => 145 | 241 => 246 | 276 => 205 | 277 => 278 | n => n, fun | 31 => 235 | 9 => 9 | 3 => 3 | 4 => 4 | 0 => 0 | 20 => 20 | 72 => 135 | 76 => 138 | 70 => 132 | 37 => 133 | 75 => 137 | 127 => 246 | 164 => 292 | 5 => 5 | 80 => 163 | n => n, fun | n => n⟩
theorem laysJoin : Go.Proofs.Lays.n156 Tryz.prog laysJoin_ren where
  mixed := by kernel_rfl
  f156 := Tryz.func146.trans (congrArg some (by kernel_rfl))
  f165 := Tryz.func206.trans (congrArg some (by kernel_rfl))
  f166 := Tryz.func62.trans (congrArg some (by kernel_rfl))
  f169 := Tryz.func76.trans (congrArg some (by kernel_rfl))
  f240 := Tryz.func145.trans (congrArg some (by kernel_rfl))
  f241 := Tryz.func246.trans (congrArg some (by kernel_rfl))
  f276 := Tryz.func205.trans (congrArg some (by kernel_rfl))
  f277 := Tryz.func278.trans (congrArg some (by kernel_rfl))
  t0 := Tryz.underlying0
  a0 := Tryz.isAgg0
  z0 := Tryz.sizeOf0
  v0 := Tryz.zeroValue0
  t3 := Tryz.underlying3
  a3 := Tryz.isAgg3
  z3 := Tryz.sizeOf3
  v3 := Tryz.zeroValue3
  t4 := Tryz.underlying4
  a4 := Tryz.isAgg4
  z4 := Tryz.sizeOf4
  v4 := Tryz.zeroValue4
  t9 := Tryz.underlying9
  a9 := Tryz.isAgg9
  z9 := Tryz.sizeOf9
  v9 := Tryz.zeroValue9
  t20 := Tryz.underlying20
  a20 := Tryz.isAgg20
  z20 := Tryz.sizeOf20
  v20 := Tryz.zeroValue20
  t31 := Tryz.underlying235
  a31 := Tryz.isAgg235
  z31 := Tryz.sizeOf235
  v31 := Tryz.zeroValue235
  t37 := Tryz.underlying133
  a37 := Tryz.isAgg133
  z37 := Tryz.sizeOf133
  v37 := Tryz.zeroValue133
  t70 := Tryz.underlying132
  a70 := Tryz.isAgg132
  z70 := Tryz.sizeOf132
  v70 := Tryz.zeroValue132
  t72 := Tryz.underlying135
  a72 := Tryz.isAgg135
  z72 := Tryz.sizeOf135
  v72 := Tryz.zeroValue135
  t75 := Tryz.underlying137
  a75 := Tryz.isAgg137
  z75 := Tryz.sizeOf137
  v75 := Tryz.zeroValue137
  t76 := Tryz.underlying138
  a76 := Tryz.isAgg138
  z76 := Tryz.sizeOf138
  v76 := Tryz.zeroValue138
  t127 := Tryz.underlying246
  a127 := Tryz.isAgg246
  z127 := Tryz.sizeOf246
  v127 := Tryz.zeroValue246
  t164 := Tryz.underlying292
  a164 := Tryz.isAgg292
  z164 := Tryz.sizeOf292
  v164 := Tryz.zeroValue292
theorem extraJoin : Builder.Extra Tryz.prog laysJoin_ren where
  sizeBuilder := by kernel_rfl
  liesBuilder := by kernel_rfl
  t5 := Tryz.underlying5
  a5 := Tryz.isAgg5
  z5 := Tryz.sizeOf5
  v5 := Tryz.zeroValue5
  infoByte := by kernel_rfl
  cellsByte := by kernel_rfl
  sizeByte := by kernel_rfl
  neB5 := by decide
theorem repL_strs_eq {w : World} {S : Nat → Nat → Prop} : ∀ {l : List ByteArray} {cs : List Value}, RepL (RepC w S .str) l cs → cs = l.map Value.string
  | [], cs, h => h
  | x :: l, cs, h => by
    obtain ⟨c, d, rfl, h1, h2⟩ := h
    rw [repL_strs_eq h2]
    have : c = [.string x] := h1
    rw [this]; rfl
def joinB (l : List ByteArray) (sep : ByteArray) : ByteArray := ⟨(Lib.join (l.map (·.data.toList)) sep.data.toList).toArray⟩
def zq1t.u (l : List ByteArray) (sep : ByteArray) : Option ByteArray := bif decide (l.length ≤ 140737488355328) && decide ((joinB l sep).size ≤ 140737488355328) then some (joinB l sep) else none
theorem zq1t.c (l : List ByteArray) (sep : ByteArray) (r : ByteArray) (h : zq1t.u l sep = some r) : Contract C 146 [.v (.slice .str) l, .v .str sep] (tupAV .str [] r) where
  enters us w := enters_fn (P := Tryz.prog) (fn := Tryz.f146) (by kernel_rfl) (by kernel_rfl) (by kernel_rfl) us w
  runs w S us hlt hG hr := by
    simp only [RepAs] at hr
    obtain ⟨u, q, rfl, h1, v, q', rfl, h2, rfl⟩ := hr
    rw [rep_str] at h2
    subst h2
    rw [rep_v] at h1
    obtain ⟨cs, ⟨A, cap, rfl, hcap, h3⟩, rfl⟩ := h1
    obtain ⟨hp, hq⟩ := ite_some h
    simp only [Bool.and_eq_true, decide_eq_true_eq] at hp
    cases hq
    have key : Calls Tryz.prog 146 #[.slice A l.length cap, .string sep] w fun e w' => e = .returned (.string (joinB l sep)) ∧ Below w.heap.size w w' := by
      rcases h3 with rfl | ⟨b, o, ds, rfl, h4, h5⟩
      · exact (Any.strings_Join_none laysJoin extraJoin A cap sep w).mono fun e w' ⟨he, hw⟩ => ⟨he, hw ▸ Below.refl _ _⟩
      · have hds := repL_strs_eq h4
        subst hds
        cases hl : l with
        | nil => exact (Any.strings_Join_none laysJoin extraJoin _ cap sep w).mono fun e w' ⟨he, hw⟩ => ⟨he, hw ▸ Below.refl _ _⟩
        | cons y t =>
          rw [← hl]
          have hn0 : 0 < (l.map Value.string).length := by simp [hl]
          exact Any.strings_Join laysJoin extraJoin b o cap l sep w (fun j x hx => by
            have hj : j < (l.map Value.string).length := by simpa using (List.getElem?_eq_some_iff.1 hx).1
            have := (h5 j hj).1
            obtain ⟨hj', rfl⟩ := List.getElem?_eq_some_iff.1 hx
            simpa using this) (hlt b (o + 0) (h5 0 hn0).2) hp.1 hcap (by simpa [joinB, ByteArray.size] using hp.2)
    refine key.mono ?_
    rintro e w' ⟨rfl, hb⟩
    exact ⟨_, S, rfl, hb, safe_of_below hlt hb, fun b o hs => ⟨.inl hs, Nat.lt_of_lt_of_le (hlt b o hs) hb.size⟩, rep_str.2 rfl⟩
noncomputable def zq1t.e : Ent := argI (.slice .str) fun x0 => argI .str fun x1 => endU (zq1t.u x0 x1) (tupAV .str [])
theorem zq1t.e_ok : EntOK C 146 (fun {_} => zq1t.e) := entA_ok (argI_ok fun x0 => argI_ok fun x1 => endU_ok fun r h => zq1t.c x0 x1 r h)
def laysRepeat_ren : Go.Shelf.Ren := ⟨fun | 105 => 148 | 212 => 208 | 99 => 209 | 165 => 206 | 166 => 62 | 170 => 210 | 169 => 76 | 263 => 248 | 264 => 249 | 206 => 250 | 240 => 145 | 241 => 246 | 276 => 205 | 277 => 278 | n => n, fun | 9 => 9 | 3 => 3 | 4 => 4 | 20 => 20 | 0 => 0 | 46 => 295 | 109 => 296 | 5 => 5 | 72 => 135 | 76 => 138 | 51 => 327 | 146 => 328 | 53 => 150 | 148 => 330 | 70 => 132 | 37 => 133 | 75 => 137 | 127 => 246 | 164 => 292 | 80 => 163 | n => n, fun | n => n⟩
theorem laysRepeat : Go.Proofs.Lays.n105 Tryz.prog laysRepeat_ren where
  mixed := by kernel_rfl
  f99 := Tryz.func209.trans (congrArg some (by kernel_rfl))
  f105 := Tryz.func148.trans (congrArg some (by kernel_rfl))
  f165 := Tryz.func206.trans (congrArg some (by kernel_rfl))
  f166 := Tryz.func62.trans (congrArg some (by kernel_rfl))
  f169 := Tryz.func76.trans (congrArg some (by kernel_rfl))
  f170 := Tryz.func210.trans (congrArg some (by kernel_rfl))
  f206 := Tryz.func250.trans (congrArg some (by kernel_rfl))
  f212 := Tryz.func208.trans (congrArg some (by kernel_rfl))
  f240 := Tryz.func145.trans (congrArg some (by kernel_rfl))
  f241 := Tryz.func246.trans (congrArg some (by kernel_rfl))
  f263 := Tryz.func248.trans (congrArg some (by kernel_rfl))
  f264 := Tryz.func249.trans (congrArg some (by kernel_rfl))
  f276 := Tryz.func205.trans (congrArg some (by kernel_rfl))
  f277 := Tryz.func278.trans (congrArg some (by kernel_rfl))
  t0 := Tryz.underlying0
  a0 := Tryz.isAgg0
  z0 := Tryz.sizeOf0
  v0 := Tryz.zeroValue0
  t3 := Tryz.underlying3
  a3 := Tryz.isAgg3
  z3 := Tryz.sizeOf3
  v3 := Tryz.zeroValue3
  t4 := Tryz.underlying4
  a4 := Tryz.isAgg4
  z4 := Tryz.sizeOf4
  v4 := Tryz.zeroValue4
  t5 := Tryz.underlying5
  a5 := Tryz.isAgg5
  z5 := Tryz.sizeOf5
  v5 := Tryz.zeroValue5
  t9 := Tryz.underlying9
  a9 := Tryz.isAgg9
  z9 := Tryz.sizeOf9
  v9 := Tryz.zeroValue9
  t20 := Tryz.underlying20
  a20 := Tryz.isAgg20
  z20 := Tryz.sizeOf20
  v20 := Tryz.zeroValue20
  t37 := Tryz.underlying133
  a37 := Tryz.isAgg133
  z37 := Tryz.sizeOf133
  v37 := Tryz.zeroValue133
  t46 := Tryz.underlying295
  a46 := Tryz.isAgg295
  z46 := Tryz.sizeOf295
  v46 := Tryz.zeroValue295
  t51 := Tryz.underlying327
  a51 := Tryz.isAgg327
  z51 := Tryz.sizeOf327
  v51 := Tryz.zeroValue327
  t53 := Tryz.underlying150
  a53 := Tryz.isAgg150
  z53 := Tryz.sizeOf150
  v53 := Tryz.zeroValue150
  t70 := Tryz.underlying132
  a70 := Tryz.isAgg132
  z70 := Tryz.sizeOf132
  v70 := Tryz.zeroValue132
  t72 := Tryz.underlying135
  a72 := Tryz.isAgg135
  z72 := Tryz.sizeOf135
  v72 := Tryz.zeroValue135
  t75 := Tryz.underlying137
  a75 := Tryz.isAgg137
  z75 := Tryz.sizeOf137
  v75 := Tryz.zeroValue137
  t76 := Tryz.underlying138
  a76 := Tryz.isAgg138
  z76 := Tryz.sizeOf138
  v76 := Tryz.zeroValue138
  t109 := Tryz.underlying296
  a109 := Tryz.isAgg296
  z109 := Tryz.sizeOf296
  v109 := Tryz.zeroValue296
  t127 := Tryz.underlying246
  a127 := Tryz.isAgg246
  z127 := Tryz.sizeOf246
  v127 := Tryz.zeroValue246
  t146 := Tryz.underlying328
  a146 := Tryz.isAgg328
  z146 := Tryz.sizeOf328
  v146 := Tryz.zeroValue328
  t148 := Tryz.underlying330
  a148 := Tryz.isAgg330
  z148 := Tryz.sizeOf330
  v148 := Tryz.zeroValue330
  t164 := Tryz.underlying292
  a164 := Tryz.isAgg292
  z164 := Tryz.sizeOf292
  v164 := Tryz.zeroValue292
theorem extraRepeat : Builder.Extra Tryz.prog laysRepeat_ren where
  sizeBuilder := by kernel_rfl
  liesBuilder := by kernel_rfl
  t5 := Tryz.underlying5
  a5 := Tryz.isAgg5
  z5 := Tryz.sizeOf5
  v5 := Tryz.zeroValue5
  infoByte := by kernel_rfl
  cellsByte := by kernel_rfl
  sizeByte := by kernel_rfl
  neB5 := by decide
def zq2f.u (s : ByteArray) (c : Int) : Option ByteArray := bif decide (0 ≤ c) && decide (c ≤ 65536) && decide (s.size ≤ 2147483648) then some ⟨(Lib.repeatL s.data.toList c.toNat).toArray⟩ else none
theorem zq2f.c (s : ByteArray) (c : Int) (r : ByteArray) (h : zq2f.u s c = some r) : Contract C 148 [.v .str s, .v (.int .i64) c] (tupAV .str [] r) where
  enters us w := enters_fn (P := Tryz.prog) (fn := Tryz.f148) (by kernel_rfl) (by kernel_rfl) (by kernel_rfl) us w
  runs w S us hlt hG hr := by
    simp only [RepAs] at hr
    obtain ⟨u, q, rfl, h1, v, q', rfl, h2, rfl⟩ := hr
    rw [rep_str] at h1
    rw [rep_int] at h2
    subst h1 h2
    obtain ⟨hp, hq⟩ := ite_some h
    simp only [Bool.and_eq_true, decide_eq_true_eq] at hp
    cases hq
    obtain ⟨m, rfl⟩ := Int.eq_ofNat_of_zero_le hp.1.1
    have hm : s.size * m ≤ 140737488355328 := Nat.le_trans (Nat.mul_le_mul hp.2 (show m ≤ 65536 by omega)) (by decide)
    refine (Any.strings_Repeat laysRepeat extraRepeat s m w (by omega) hm).mono ?_
    rintro e w' ⟨rfl, hb⟩
    exact ⟨_, S, rfl, hb, safe_of_below hlt hb, fun b o hs => ⟨.inl hs, Nat.lt_of_lt_of_le (hlt b o hs) hb.size⟩, rep_str.2 rfl⟩
noncomputable def zq2f.e : Ent := argI .str fun x0 => argI (.int .i64) fun x1 => endU (zq2f.u x0 x1) (tupAV .str [])
theorem zq2f.e_ok : EntOK C 148 (fun {_} => zq2f.e) := entA_ok (argI_ok fun x0 => argI_ok fun x1 => endU_ok fun r h => zq2f.c x0 x1 r h)
def laysClone193_ren : Go.Shelf.Ren := ⟨fun | 41 => 193 | n => n, fun | 22 => 57 | 23 => 3 | 4 => 4 | n => n, fun | n => n⟩
theorem laysClone193 : Go.Proofs.SlLaysE0.n41 Tryz.prog laysClone193_ren where
  mixed := by kernel_rfl
  f41 := ⟨"slices.Clone[[]int,int]", by decide, Tryz.func193.trans (congrArg some (by kernel_rfl))⟩
  t4 := Tryz.underlying4
  a4 := Tryz.isAgg4
  z4 := Tryz.sizeOf4
  v4 := Tryz.zeroValue4
  t22 := Tryz.underlying57
  a22 := Tryz.isAgg57
  z22 := Tryz.sizeOf57
  v22 := Tryz.zeroValue57
def zq41.fx {Ω : Type} := cloneFx 3 (.int .i64) (Ω := Ω)
theorem zq41.fx_ok : FxOK C 193 (fun {_} => zq41.fx) := cloneFx_ok (fun us w => enters_fn (P := Tryz.prog) (fn := Tryz.f193) (by kernel_rfl) (by kernel_rfl) (by kernel_rfl) us w) (fun ad n c news w h1 h2 h3 h4 => clone_lay C_ok laysClone193 (ts := 57) (e := (.int .i64)) (by kernel_rfl) (by kernel_rfl) Tryz.underlying57 (by decide) ad n c news w h1 h2 h3 h4) (fun n c w => AnyE.slices_Clone_nil laysClone193 n c w)
def laysDelete137_ren : Go.Shelf.Ren := ⟨fun | 45 => 137 | n => n, fun | 22 => 34 | 23 => 122 | 3 => 3 | 4 => 4 | 0 => 0 | n => n, fun | n => n⟩
theorem laysDelete137 : Go.Proofs.SlLaysE0.n45 Tryz.prog laysDelete137_ren where
  mixed := by kernel_rfl
  f45 := ⟨"slices.Delete[[]becket/timers.Timer,becket/timers.Timer]", by decide, Tryz.func137.trans (congrArg some (by kernel_rfl))⟩
  t0 := Tryz.underlying0
  a0 := Tryz.isAgg0
  z0 := Tryz.sizeOf0
  v0 := Tryz.zeroValue0
  t3 := Tryz.underlying3
  a3 := Tryz.isAgg3
  z3 := Tryz.sizeOf3
  v3 := Tryz.zeroValue3
  t4 := Tryz.underlying4
  a4 := Tryz.isAgg4
  z4 := Tryz.sizeOf4
  v4 := Tryz.zeroValue4
  t22 := Tryz.underlying34
  a22 := Tryz.isAgg34
  z22 := Tryz.sizeOf34
  v22 := Tryz.zeroValue34
def zq3h.fx {Ω : Type} := delFx (.pair (.int .i64) (.pair (.int .i64) (.pair (.int .i64) .unit))) (Ω := Ω)
theorem zq3h.fx_ok : FxOK C 137 (fun {_} => zq3h.fx) := delFx_ok (t0 := 0) (fun us w => enters_fn (P := Tryz.prog) (fn := Tryz.f137) (by kernel_rfl) (by kernel_rfl) (by kernel_rfl) us w) (fun e blk cap i j m cs post tt w he h1 h2 h3 h4 h5 h6 h7 => by subst he; exact delete_lay C_ok laysDelete137 (e := (.pair (.int .i64) (.pair (.int .i64) (.pair (.int .i64) .unit)))) (by kernel_rfl) blk cap i j m cs post tt w h1 h2 h3 h4 h5 h6 h7)
def laysSort_ren : Go.Shelf.Ren := ⟨fun | 5 => 194 | 8 => 239 | 7 => 238 | 19 => 275 | 20 => 276 | 10 => 266 | 11 => 267 | 12 => 268 | 13 => 269 | 14 => 270 | 15 => 271 | 16 => 272 | 17 => 273 | 18 => 274 | 30 => 286 | 31 => 287 | 32 => 288 | 33 => 289 | 34 => 290 | 35 => 291 | 40 => 303 | n => n, fun | 23 => 57 | 25 => 3 | 3 => 3 | 32 => 295 | 22 => 57 | 0 => 0 | 44 => 327 | 46 => 150 | 4 => 4 | 36 => 344 | 35 => 343 | 41 => 312 | 5 => 5 | 9 => 9 | 53 => 358 | 57 => 362 | 63 => 373 | 64 => 192 | n => n, fun | n => n⟩
theorem laysSort : Go.Proofs.SlLaysM.n5 Tryz.prog laysSort_ren where
  mixed := by kernel_rfl
  f5 := ⟨"slices.Sort[[]int,int]", by decide, Tryz.func194.trans (congrArg some (by kernel_rfl))⟩
  f7 := ⟨"slices.pdqsortOrdered[int]", by decide, Tryz.func238.trans (congrArg some (by kernel_rfl))⟩
  f8 := Tryz.func239.trans (congrArg some (by kernel_rfl))
  f10 := ⟨"slices.insertionSortOrdered[int]", by decide, Tryz.func266.trans (congrArg some (by kernel_rfl))⟩
  f11 := ⟨"slices.heapSortOrdered[int]", by decide, Tryz.func267.trans (congrArg some (by kernel_rfl))⟩
  f12 := ⟨"slices.breakPatternsOrdered[int]", by decide, Tryz.func268.trans (congrArg some (by kernel_rfl))⟩
  f13 := ⟨"slices.choosePivotOrdered[int]", by decide, Tryz.func269.trans (congrArg some (by kernel_rfl))⟩
  f14 := ⟨"slices.reverseRangeOrdered[int]", by decide, Tryz.func270.trans (congrArg some (by kernel_rfl))⟩
  f15 := ⟨"slices.partialInsertionSortOrdered[int]", by decide, Tryz.func271.trans (congrArg some (by kernel_rfl))⟩
  f16 := ⟨"cmp.Less[int]", by decide, Tryz.func272.trans (congrArg some (by kernel_rfl))⟩
  f17 := ⟨"slices.partitionEqualOrdered[int]", by decide, Tryz.func273.trans (congrArg some (by kernel_rfl))⟩
  f18 := ⟨"slices.partitionOrdered[int]", by decide, Tryz.func274.trans (congrArg some (by kernel_rfl))⟩
  f19 := Tryz.func275.trans (congrArg some (by kernel_rfl))
  f20 := Tryz.func276.trans (congrArg some (by kernel_rfl))
  f30 := ⟨"slices.siftDownOrdered[int]", by decide, Tryz.func286.trans (congrArg some (by kernel_rfl))⟩
  f31 := Tryz.func287.trans (congrArg some (by kernel_rfl))
  f32 := Tryz.func288.trans (congrArg some (by kernel_rfl))
  f33 := ⟨"slices.medianAdjacentOrdered[int]", by decide, Tryz.func289.trans (congrArg some (by kernel_rfl))⟩
  f34 := ⟨"slices.medianOrdered[int]", by decide, Tryz.func290.trans (congrArg some (by kernel_rfl))⟩
  f35 := ⟨"cmp.isNaN[int]", by decide, Tryz.func291.trans (congrArg some (by kernel_rfl))⟩
  f40 := ⟨"slices.order2Ordered[int]", by decide, Tryz.func303.trans (congrArg some (by kernel_rfl))⟩
  t0 := Tryz.underlying0
  a0 := Tryz.isAgg0
  z0 := Tryz.sizeOf0
  v0 := Tryz.zeroValue0
  t3 := Tryz.underlying3
  a3 := Tryz.isAgg3
  z3 := Tryz.sizeOf3
  v3 := Tryz.zeroValue3
  t4 := Tryz.underlying4
  a4 := Tryz.isAgg4
  z4 := Tryz.sizeOf4
  v4 := Tryz.zeroValue4
  t5 := Tryz.underlying5
  a5 := Tryz.isAgg5
  z5 := Tryz.sizeOf5
  v5 := Tryz.zeroValue5
  t9 := Tryz.underlying9
  a9 := Tryz.isAgg9
  z9 := Tryz.sizeOf9
  v9 := Tryz.zeroValue9
  t22 := Tryz.underlying57
  a22 := Tryz.isAgg57
  z22 := Tryz.sizeOf57
  v22 := Tryz.zeroValue57
  t23 := Tryz.underlying57
  a23 := Tryz.isAgg57
  z23 := Tryz.sizeOf57
  v23 := Tryz.zeroValue57
  t25 := Tryz.underlying3
  a25 := Tryz.isAgg3
  z25 := Tryz.sizeOf3
  v25 := Tryz.zeroValue3
  t32 := Tryz.underlying295
  a32 := Tryz.isAgg295
  z32 := Tryz.sizeOf295
  v32 := Tryz.zeroValue295
  t35 := Tryz.underlying343
  a35 := Tryz.isAgg343
  z35 := Tryz.sizeOf343
  v35 := Tryz.zeroValue343
  t36 := Tryz.underlying344
  a36 := Tryz.isAgg344
  z36 := Tryz.sizeOf344
  v36 := Tryz.zeroValue344
  t41 := Tryz.underlying312
  a41 := Tryz.isAgg312
  z41 := Tryz.sizeOf312
  v41 := Tryz.zeroValue312
  t44 := Tryz.underlying327
  a44 := Tryz.isAgg327
  z44 := Tryz.sizeOf327
  v44 := Tryz.zeroValue327
  t46 := Tryz.underlying150
  a46 := Tryz.isAgg150
  z46 := Tryz.sizeOf150
  v46 := Tryz.zeroValue150
  t53 := Tryz.underlying358
  a53 := Tryz.isAgg358
  z53 := Tryz.sizeOf358
  v53 := Tryz.zeroValue358
  t57 := Tryz.underlying362
  a57 := Tryz.isAgg362
  z57 := Tryz.sizeOf362
  v57 := Tryz.zeroValue362
  t63 := Tryz.underlying373
  a63 := Tryz.isAgg373
  z63 := Tryz.sizeOf373
  v63 := Tryz.zeroValue373
  t64 := Tryz.underlying192
  a64 := Tryz.isAgg192
  z64 := Tryz.sizeOf192
  v64 := Tryz.zeroValue192
def zq4l.fx {Ω : Type} := sortFx (Ω := Ω)
theorem zq4l.fx_ok : FxOK C 194 (fun {_} => zq4l.fx) := sortFx_ok (fun us w => enters_fn (P := Tryz.prog) (fn := Tryz.f194) (by kernel_rfl) (by kernel_rfl) (by kernel_rfl) us w) (fun blk cap zs w h1 h2 h3 => AnyM.slices_Sort_int laysSort blk 0 cap zs w h1 h2 h3) (fun p cap w => AnyM.slices_Sort_int_none laysSort p cap w)
def laysBldS_ren : Go.Shelf.Ren := ⟨fun | 166 => 62 | 240 => 145 | 276 => 205 | n => n, fun | 70 => 132 | 9 => 9 | 3 => 3 | 75 => 137 | 0 => 0 | 72 => 135 | 37 => 133 | 4 => 4 | 164 => 292 | 80 => 163 | 5 => 5 | 20 => 20 | n => n, fun | n => n⟩
theorem laysBldS : Go.Proofs.Lays.n166 Tryz.prog laysBldS_ren where
  mixed := by kernel_rfl
  f166 := Tryz.func62.trans (congrArg some (by kernel_rfl))
  f240 := Tryz.func145.trans (congrArg some (by kernel_rfl))
  f276 := Tryz.func205.trans (congrArg some (by kernel_rfl))
  t0 := Tryz.underlying0
  a0 := Tryz.isAgg0
  z0 := Tryz.sizeOf0
  v0 := Tryz.zeroValue0
  t3 := Tryz.underlying3
  a3 := Tryz.isAgg3
  z3 := Tryz.sizeOf3
  v3 := Tryz.zeroValue3
  t4 := Tryz.underlying4
  a4 := Tryz.isAgg4
  z4 := Tryz.sizeOf4
  v4 := Tryz.zeroValue4
  t9 := Tryz.underlying9
  a9 := Tryz.isAgg9
  z9 := Tryz.sizeOf9
  v9 := Tryz.zeroValue9
  t20 := Tryz.underlying20
  a20 := Tryz.isAgg20
  z20 := Tryz.sizeOf20
  v20 := Tryz.zeroValue20
  t37 := Tryz.underlying133
  a37 := Tryz.isAgg133
  z37 := Tryz.sizeOf133
  v37 := Tryz.zeroValue133
  t70 := Tryz.underlying132
  a70 := Tryz.isAgg132
  z70 := Tryz.sizeOf132
  v70 := Tryz.zeroValue132
  t72 := Tryz.underlying135
  a72 := Tryz.isAgg135
  z72 := Tryz.sizeOf135
  v72 := Tryz.zeroValue135
  t75 := Tryz.underlying137
  a75 := Tryz.isAgg137
  z75 := Tryz.sizeOf137
  v75 := Tryz.zeroValue137
  t164 := Tryz.underlying292
  a164 := Tryz.isAgg292
  z164 := Tryz.sizeOf292
  v164 := Tryz.zeroValue292
theorem extralaysBldS : Builder.Extra Tryz.prog laysBldS_ren where
  sizeBuilder := by kernel_rfl
  liesBuilder := by kernel_rfl
  t5 := Tryz.underlying5
  a5 := Tryz.isAgg5
  z5 := Tryz.sizeOf5
  v5 := Tryz.zeroValue5
  infoByte := by kernel_rfl
  cellsByte := by kernel_rfl
  sizeByte := by kernel_rfl
  neB5 := by decide
def zq2u.fx {Ω : Type} := bldStrFx 135 5 (Ω := Ω)
theorem zq2u.fx_ok : FxOK C 62 (fun {_} => zq2u.fx) := bldStrFx_ok (C := C) laysBldS extralaysBldS (fun us w => enters_fn (P := Tryz.prog) (fn := Tryz.f62) (by kernel_rfl) (by kernel_rfl) (by kernel_rfl) us w)
def laysBldG_ren : Go.Shelf.Ren := ⟨fun | 169 => 76 | n => n, fun | 70 => 132 | 9 => 9 | 0 => 0 | 72 => 135 | 37 => 133 | 127 => 246 | 3 => 3 | 5 => 5 | 20 => 20 | n => n, fun | n => n⟩
theorem laysBldG : Go.Proofs.Lays.n169 Tryz.prog laysBldG_ren where
  mixed := by kernel_rfl
  f169 := Tryz.func76.trans (congrArg some (by kernel_rfl))
  t0 := Tryz.underlying0
  a0 := Tryz.isAgg0
  z0 := Tryz.sizeOf0
  v0 := Tryz.zeroValue0
  t3 := Tryz.underlying3
  a3 := Tryz.isAgg3
  z3 := Tryz.sizeOf3
  v3 := Tryz.zeroValue3
  t9 := Tryz.underlying9
  a9 := Tryz.isAgg9
  z9 := Tryz.sizeOf9
  v9 := Tryz.zeroValue9
  t37 := Tryz.underlying133
  a37 := Tryz.isAgg133
  z37 := Tryz.sizeOf133
  v37 := Tryz.zeroValue133
  t70 := Tryz.underlying132
  a70 := Tryz.isAgg132
  z70 := Tryz.sizeOf132
  v70 := Tryz.zeroValue132
  t72 := Tryz.underlying135
  a72 := Tryz.isAgg135
  z72 := Tryz.sizeOf135
  v72 := Tryz.zeroValue135
  t127 := Tryz.underlying246
  a127 := Tryz.isAgg246
  z127 := Tryz.sizeOf246
  v127 := Tryz.zeroValue246
theorem extralaysBldG : Builder.Extra Tryz.prog laysBldG_ren where
  sizeBuilder := by kernel_rfl
  liesBuilder := by kernel_rfl
  t5 := Tryz.underlying5
  a5 := Tryz.isAgg5
  z5 := Tryz.sizeOf5
  v5 := Tryz.zeroValue5
  infoByte := by kernel_rfl
  cellsByte := by kernel_rfl
  sizeByte := by kernel_rfl
  neB5 := by decide
def zq3f.fx {Ω : Type} := bldGetFx 135 5 (Ω := Ω)
theorem zq3f.fx_ok : FxOK C 76 (fun {_} => zq3f.fx) := bldGetFx_ok (C := C) laysBldG extralaysBldG (fun us w => enters_fn (P := Tryz.prog) (fn := Tryz.f76) (by kernel_rfl) (by kernel_rfl) (by kernel_rfl) us w)
end
end Go.Proofs.YtlcomipbinfooaaGreatDoor.K

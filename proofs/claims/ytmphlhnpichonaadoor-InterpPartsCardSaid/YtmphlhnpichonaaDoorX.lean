/- The types of the program that the proofs speak of. -/
import Derived.Test.YtmphlhnpichonaaDoorKE
import Derived.Test.YtmphlhnpichonaaDoorChecked
set_option maxRecDepth 100000
namespace Go.Proofs.YtmphlhnpichonaaDoor.K
open Go Go.RowKit

def tyL : List (TypeId × ETy) := [(3, (.int .i64)), (4, .bool), (9, .str), (27, (.int .i64)), (5, (.int .u8)), (2, (.int .i64)), (6, (.int .u8)), (7, (.pair (.int .i64) (.pair (.int .i64) (.pair .bool (.pair (.int .u8) .unit))))), (8, (.pair (.int .i64) (.pair (.int .i64) (.pair .bool (.pair (.int .u8) .unit))))), (10, .str), (11, .str), (12, (.int .u64)), (13, (.pair .str (.pair (.int .u64) .unit))), (14, (.pair .str (.pair (.int .u64) .unit))), (20, (.raw .iface)), (21, (.int .i32)), (22, (.arr 8 (.int .i64))), (23, (.arr 16 (.int .i64))), (24, (.pair (.int .i64) (.pair .bool (.pair (.arr 8 (.int .i64)) (.pair (.arr 16 (.int .i64)) (.pair (.int .i64) (.pair (.arr 8 (.int .i64)) .unit))))))), (25, (.pair (.int .i64) (.pair .bool (.pair (.arr 8 (.int .i64)) (.pair (.arr 16 (.int .i64)) (.pair (.int .i64) (.pair (.arr 8 (.int .i64)) .unit))))))), (26, (.pair (.int .i64) (.pair .bool (.pair (.arr 8 (.int .i64)) (.pair (.arr 16 (.int .i64)) (.pair (.int .i64) (.pair (.arr 8 (.int .i64)) .unit))))))), (51, (.slice (.pair (.int .u8) (.pair (.int .u8) (.pair (.int .u8) (.pair (.int .u8) .unit)))))), (62, (.arr 2 (.int .u8))), (77, (.raw .func)), (80, (.slice (.int .i64))), (82, (.slice .str)), (86, (.pair (.int .u8) (.pair (.int .u8) (.pair (.int .u8) (.pair (.int .u8) .unit))))), (87, (.pair (.int .u8) (.pair (.int .u8) (.pair (.int .u8) (.pair (.int .u8) .unit))))), (90, (.pair .str (.pair .str (.pair (.int .i64) .unit)))), (91, (.pair .str (.pair .str (.pair (.int .i64) .unit)))), (99, (.raw .iface)), (100, (.raw .iface)), (106, (.slice (.int .u8))), (114, (.slice (.pair .str (.pair .str (.pair (.int .i64) .unit))))), (128, (.pair .str (.pair .str (.pair (.int .i64) .unit)))), (129, (.pair .str (.pair .str (.pair (.int .i64) .unit)))), (130, (.arr 48 (.pair .str (.pair .str (.pair (.int .i64) .unit))))), (134, (.int .i64)), (144, (.arr 3 (.int .u8))), (148, (.int .u64)), (151, (.int .u64)), (153, (.pair .str (.pair .str (.pair (.raw .iface) .unit)))), (154, (.pair .str (.pair .str (.pair (.raw .iface) .unit)))), (156, (.arr 24 (.int .u8))), (163, (.int .i16)), (164, (.int .u16)), (170, (.arr 20 (.int .u64))), (171, (.int .u32)), (172, (.arr 65 (.int .u8))), (176, (.arr 32 (.int .u8))), (177, (.arr 64 (.int .u8))), (186, (.int .u8)), (187, (.int .u8)), (189, (.int .i32)), (190, (.int .i32))]
noncomputable def C : Cfg := { P := Tryd.prog, Ty := fun t => tyL.lookup t, G := fun _ => none }
theorem gt3 : GoodTy Tryd.prog 3 (.int .i64) := ⟨by kernel_rfl, by kernel_rfl⟩
theorem gt4 : GoodTy Tryd.prog 4 .bool := ⟨by kernel_rfl, by kernel_rfl⟩
theorem gt9 : GoodTy Tryd.prog 9 .str := ⟨by kernel_rfl, by kernel_rfl⟩
theorem gt27 : GoodTy Tryd.prog 27 (.int .i64) := ⟨by kernel_rfl, by kernel_rfl⟩
theorem gt5 : GoodTy Tryd.prog 5 (.int .u8) := ⟨by kernel_rfl, by kernel_rfl⟩
theorem gt2 : GoodTy Tryd.prog 2 (.int .i64) := ⟨by kernel_rfl, by kernel_rfl⟩
theorem gt6 : GoodTy Tryd.prog 6 (.int .u8) := ⟨by kernel_rfl, by kernel_rfl⟩
theorem gt7 : GoodTy Tryd.prog 7 (.pair (.int .i64) (.pair (.int .i64) (.pair .bool (.pair (.int .u8) .unit)))) := ⟨by kernel_rfl, by kernel_rfl⟩
theorem gt8 : GoodTy Tryd.prog 8 (.pair (.int .i64) (.pair (.int .i64) (.pair .bool (.pair (.int .u8) .unit)))) := ⟨by kernel_rfl, by kernel_rfl⟩
theorem gt10 : GoodTy Tryd.prog 10 .str := ⟨by kernel_rfl, by kernel_rfl⟩
theorem gt11 : GoodTy Tryd.prog 11 .str := ⟨by kernel_rfl, by kernel_rfl⟩
theorem gt12 : GoodTy Tryd.prog 12 (.int .u64) := ⟨by kernel_rfl, by kernel_rfl⟩
theorem gt13 : GoodTy Tryd.prog 13 (.pair .str (.pair (.int .u64) .unit)) := ⟨by kernel_rfl, by kernel_rfl⟩
theorem gt14 : GoodTy Tryd.prog 14 (.pair .str (.pair (.int .u64) .unit)) := ⟨by kernel_rfl, by kernel_rfl⟩
theorem gt20 : GoodTy Tryd.prog 20 (.raw .iface) := ⟨by kernel_rfl, by kernel_rfl⟩
theorem gt21 : GoodTy Tryd.prog 21 (.int .i32) := ⟨by kernel_rfl, by kernel_rfl⟩
theorem gt22 : GoodTy Tryd.prog 22 (.arr 8 (.int .i64)) := ⟨by kernel_rfl, by kernel_rfl⟩
theorem gt23 : GoodTy Tryd.prog 23 (.arr 16 (.int .i64)) := ⟨by kernel_rfl, by kernel_rfl⟩
theorem gt24 : GoodTy Tryd.prog 24 (.pair (.int .i64) (.pair .bool (.pair (.arr 8 (.int .i64)) (.pair (.arr 16 (.int .i64)) (.pair (.int .i64) (.pair (.arr 8 (.int .i64)) .unit)))))) := ⟨by kernel_rfl, by kernel_rfl⟩
theorem gt25 : GoodTy Tryd.prog 25 (.pair (.int .i64) (.pair .bool (.pair (.arr 8 (.int .i64)) (.pair (.arr 16 (.int .i64)) (.pair (.int .i64) (.pair (.arr 8 (.int .i64)) .unit)))))) := ⟨by kernel_rfl, by kernel_rfl⟩
theorem gt26 : GoodTy Tryd.prog 26 (.pair (.int .i64) (.pair .bool (.pair (.arr 8 (.int .i64)) (.pair (.arr 16 (.int .i64)) (.pair (.int .i64) (.pair (.arr 8 (.int .i64)) .unit)))))) := ⟨by kernel_rfl, by kernel_rfl⟩
theorem gt51 : GoodTy Tryd.prog 51 (.slice (.pair (.int .u8) (.pair (.int .u8) (.pair (.int .u8) (.pair (.int .u8) .unit))))) := ⟨by kernel_rfl, by kernel_rfl⟩
theorem gt62 : GoodTy Tryd.prog 62 (.arr 2 (.int .u8)) := ⟨by kernel_rfl, by kernel_rfl⟩
theorem gt77 : GoodTy Tryd.prog 77 (.raw .func) := ⟨by kernel_rfl, by kernel_rfl⟩
theorem gt80 : GoodTy Tryd.prog 80 (.slice (.int .i64)) := ⟨by kernel_rfl, by kernel_rfl⟩
theorem gt82 : GoodTy Tryd.prog 82 (.slice .str) := ⟨by kernel_rfl, by kernel_rfl⟩
theorem gt86 : GoodTy Tryd.prog 86 (.pair (.int .u8) (.pair (.int .u8) (.pair (.int .u8) (.pair (.int .u8) .unit)))) := ⟨by kernel_rfl, by kernel_rfl⟩
theorem gt87 : GoodTy Tryd.prog 87 (.pair (.int .u8) (.pair (.int .u8) (.pair (.int .u8) (.pair (.int .u8) .unit)))) := ⟨by kernel_rfl, by kernel_rfl⟩
theorem gt90 : GoodTy Tryd.prog 90 (.pair .str (.pair .str (.pair (.int .i64) .unit))) := ⟨by kernel_rfl, by kernel_rfl⟩
theorem gt91 : GoodTy Tryd.prog 91 (.pair .str (.pair .str (.pair (.int .i64) .unit))) := ⟨by kernel_rfl, by kernel_rfl⟩
theorem gt99 : GoodTy Tryd.prog 99 (.raw .iface) := ⟨by kernel_rfl, by kernel_rfl⟩
theorem gt100 : GoodTy Tryd.prog 100 (.raw .iface) := ⟨by kernel_rfl, by kernel_rfl⟩
theorem gt106 : GoodTy Tryd.prog 106 (.slice (.int .u8)) := ⟨by kernel_rfl, by kernel_rfl⟩
theorem gt114 : GoodTy Tryd.prog 114 (.slice (.pair .str (.pair .str (.pair (.int .i64) .unit)))) := ⟨by kernel_rfl, by kernel_rfl⟩
theorem gt128 : GoodTy Tryd.prog 128 (.pair .str (.pair .str (.pair (.int .i64) .unit))) := ⟨by kernel_rfl, by kernel_rfl⟩
theorem gt129 : GoodTy Tryd.prog 129 (.pair .str (.pair .str (.pair (.int .i64) .unit))) := ⟨by kernel_rfl, by kernel_rfl⟩
theorem gt130 : GoodTy Tryd.prog 130 (.arr 48 (.pair .str (.pair .str (.pair (.int .i64) .unit)))) := ⟨by kernel_rfl, by kernel_rfl⟩
theorem gt134 : GoodTy Tryd.prog 134 (.int .i64) := ⟨by kernel_rfl, by kernel_rfl⟩
theorem gt144 : GoodTy Tryd.prog 144 (.arr 3 (.int .u8)) := ⟨by kernel_rfl, by kernel_rfl⟩
theorem gt148 : GoodTy Tryd.prog 148 (.int .u64) := ⟨by kernel_rfl, by kernel_rfl⟩
theorem gt151 : GoodTy Tryd.prog 151 (.int .u64) := ⟨by kernel_rfl, by kernel_rfl⟩
theorem gt153 : GoodTy Tryd.prog 153 (.pair .str (.pair .str (.pair (.raw .iface) .unit))) := ⟨by kernel_rfl, by kernel_rfl⟩
theorem gt154 : GoodTy Tryd.prog 154 (.pair .str (.pair .str (.pair (.raw .iface) .unit))) := ⟨by kernel_rfl, by kernel_rfl⟩
theorem gt156 : GoodTy Tryd.prog 156 (.arr 24 (.int .u8)) := ⟨by kernel_rfl, by kernel_rfl⟩
theorem gt163 : GoodTy Tryd.prog 163 (.int .i16) := ⟨by kernel_rfl, by kernel_rfl⟩
theorem gt164 : GoodTy Tryd.prog 164 (.int .u16) := ⟨by kernel_rfl, by kernel_rfl⟩
theorem gt170 : GoodTy Tryd.prog 170 (.arr 20 (.int .u64)) := ⟨by kernel_rfl, by kernel_rfl⟩
theorem gt171 : GoodTy Tryd.prog 171 (.int .u32) := ⟨by kernel_rfl, by kernel_rfl⟩
theorem gt172 : GoodTy Tryd.prog 172 (.arr 65 (.int .u8)) := ⟨by kernel_rfl, by kernel_rfl⟩
theorem gt176 : GoodTy Tryd.prog 176 (.arr 32 (.int .u8)) := ⟨by kernel_rfl, by kernel_rfl⟩
theorem gt177 : GoodTy Tryd.prog 177 (.arr 64 (.int .u8)) := ⟨by kernel_rfl, by kernel_rfl⟩
theorem gt186 : GoodTy Tryd.prog 186 (.int .u8) := ⟨by kernel_rfl, by kernel_rfl⟩
theorem gt187 : GoodTy Tryd.prog 187 (.int .u8) := ⟨by kernel_rfl, by kernel_rfl⟩
theorem gt189 : GoodTy Tryd.prog 189 (.int .i32) := ⟨by kernel_rfl, by kernel_rfl⟩
theorem gt190 : GoodTy Tryd.prog 190 (.int .i32) := ⟨by kernel_rfl, by kernel_rfl⟩
theorem lookup_all {α β : Type} [BEq α] [LawfulBEq α] {p : α → β → Prop} {t : α} {τ : β} : ∀ {l : List (α × β)}, (∀ q ∈ l, p q.1 q.2) → l.lookup t = some τ → p t τ
  | [], _, h => by simp at h
  | (a, b) :: l, hl, h => by
    rw [List.lookup_cons] at h
    split at h
    · rename_i e
      cases h
      have := eq_of_beq e
      subst this
      exact hl (_, _) (by simp)
    · exact lookup_all (fun q hq => hl q (List.mem_cons_of_mem _ hq)) h
theorem C_ok : C.OK where
  ty t τ h := lookup_all (p := GoodTy Tryd.prog) (l := tyL) (by
    intro q hq
    simp only [tyL, List.mem_cons, List.not_mem_nil, or_false] at hq
    rcases hq with rfl | rfl | rfl | rfl | rfl | rfl | rfl | rfl | rfl | rfl | rfl | rfl | rfl | rfl | rfl | rfl | rfl | rfl | rfl | rfl | rfl | rfl | rfl | rfl | rfl | rfl | rfl | rfl | rfl | rfl | rfl | rfl | rfl | rfl | rfl | rfl | rfl | rfl | rfl | rfl | rfl | rfl | rfl | rfl | rfl | rfl | rfl | rfl | rfl | rfl | rfl | rfl | rfl | rfl | rfl
    · exact gt3
    · exact gt4
    · exact gt9
    · exact gt27
    · exact gt5
    · exact gt2
    · exact gt6
    · exact gt7
    · exact gt8
    · exact gt10
    · exact gt11
    · exact gt12
    · exact gt13
    · exact gt14
    · exact gt20
    · exact gt21
    · exact gt22
    · exact gt23
    · exact gt24
    · exact gt25
    · exact gt26
    · exact gt51
    · exact gt62
    · exact gt77
    · exact gt80
    · exact gt82
    · exact gt86
    · exact gt87
    · exact gt90
    · exact gt91
    · exact gt99
    · exact gt100
    · exact gt106
    · exact gt114
    · exact gt128
    · exact gt129
    · exact gt130
    · exact gt134
    · exact gt144
    · exact gt148
    · exact gt151
    · exact gt153
    · exact gt154
    · exact gt156
    · exact gt163
    · exact gt164
    · exact gt170
    · exact gt171
    · exact gt172
    · exact gt176
    · exact gt177
    · exact gt186
    · exact gt187
    · exact gt189
    · exact gt190) h
  mixed := by kernel_rfl
end Go.Proofs.YtmphlhnpichonaaDoor.K

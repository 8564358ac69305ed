/- The types of the program that the proofs speak of. -/
import Derived.Test.YtaednhofihnfkaaDoorKE
import Derived.Test.YtaednhofihnfkaaDoorChecked
set_option maxRecDepth 100000
namespace Go.Proofs.YtaednhofihnfkaaDoor.K
open Go Go.RowKit

abbrev E_s13 : ETy := (.pair .str (.pair (.int .u64) .unit))
abbrev T_s13 : Type := (ByteArray × (Int × Unit))
abbrev E_s158 : ETy := (.pair (.int .u8) (.pair (.int .u8) .unit))
abbrev T_s158 : Type := (Int × (Int × Unit))
abbrev E_s164 : ETy := (.pair .str (.pair .str (.pair (.raw .iface) .unit)))
abbrev T_s164 : Type := (ByteArray × (ByteArray × (Value × Unit)))
abbrev E_s7 : ETy := (.pair (.int .i64) (.pair (.int .i64) (.pair .bool (.pair (.int .u8) .unit))))
abbrev T_s7 : Type := (Int × (Int × (Bool × (Int × Unit))))
abbrev E_s22 : ETy := (.pair (.int .i64) (.pair (.int .i64) (.pair (.int .i64) (.pair (.int .i64) .unit))))
abbrev T_s22 : Type := (Int × (Int × (Int × (Int × Unit))))
abbrev E_s24 : ETy := (.pair (.int .i64) (.pair (.int .i64) (.pair (.int .i64) (.pair E_s22 .unit))))
abbrev T_s24 : Type := (Int × (Int × (Int × (T_s22 × Unit))))
abbrev T_runtime_boundsError : Type := T_s7
abbrev T_runtime_errorAddressString : Type := T_s13
abbrev T_s23 : Type := T_s22
abbrev T_s25 : Type := T_s24
abbrev T_s29 : Type := T_s22
abbrev T_s30 : Type := T_s24
abbrev T_s31 : Type := T_s24
abbrev T_s159 : Type := T_s158
abbrev T_strconv_NumError : Type := T_s164
def tyL : List (TypeId × ETy) := [(3, (.int .i64)), (4, .bool), (9, .str), (5, (.int .u8)), (2, (.int .i64)), (6, (.int .u8)), (7, E_s7), (8, E_s7), (10, .str), (11, .str), (12, (.int .u64)), (13, E_s13), (14, E_s13), (20, (.raw .iface)), (21, (.int .i32)), (22, E_s22), (23, E_s22), (24, E_s24), (25, E_s24), (26, (.int .i64)), (29, E_s22), (30, E_s24), (31, E_s24), (39, (.slice E_s24)), (41, (.slice E_s24)), (58, (.slice E_s22)), (61, (.slice E_s22)), (68, (.arr 9 .str)), (72, (.slice .str)), (79, (.slice (.int .u8))), (82, (.raw .iface)), (83, (.raw .iface)), (106, (.slice (.int .i64))), (114, (.int .u64)), (122, (.int .i64)), (129, (.int .u32)), (131, (.int .u64)), (136, (.int .u64)), (145, (.int .i64)), (153, (.arr 24 (.int .u8))), (157, (.arr 256 (.int .u8))), (158, E_s158), (159, E_s158), (160, (.arr 16 E_s158)), (164, E_s164), (165, E_s164), (168, (.arr 20 (.int .u64))), (169, (.arr 65 (.int .u8))), (174, (.arr 32 (.int .u8))), (175, (.arr 64 (.int .u8))), (182, (.int .u8)), (183, (.int .u8)), (185, (.int .i32)), (186, (.int .i32))]
noncomputable def C : Cfg := { P := Tryd.prog, Ty := fun t => tyL.lookup t, G := fun _ => none, Ob := fun t => bif t == 81 then some 5 else none }
theorem gt3 : GoodTy Tryd.prog 3 (.int .i64) := ⟨by kernel_rfl, by kernel_rfl⟩
theorem gt4 : GoodTy Tryd.prog 4 .bool := ⟨by kernel_rfl, by kernel_rfl⟩
theorem gt9 : GoodTy Tryd.prog 9 .str := ⟨by kernel_rfl, by kernel_rfl⟩
theorem gt5 : GoodTy Tryd.prog 5 (.int .u8) := ⟨by kernel_rfl, by kernel_rfl⟩
theorem gt2 : GoodTy Tryd.prog 2 (.int .i64) := ⟨by kernel_rfl, by kernel_rfl⟩
theorem gt6 : GoodTy Tryd.prog 6 (.int .u8) := ⟨by kernel_rfl, by kernel_rfl⟩
theorem gt7 : GoodTy Tryd.prog 7 E_s7 := ⟨by kernel_rfl, by kernel_rfl⟩
theorem gt8 : GoodTy Tryd.prog 8 E_s7 := ⟨by kernel_rfl, by kernel_rfl⟩
theorem gt10 : GoodTy Tryd.prog 10 .str := ⟨by kernel_rfl, by kernel_rfl⟩
theorem gt11 : GoodTy Tryd.prog 11 .str := ⟨by kernel_rfl, by kernel_rfl⟩
theorem gt12 : GoodTy Tryd.prog 12 (.int .u64) := ⟨by kernel_rfl, by kernel_rfl⟩
theorem gt13 : GoodTy Tryd.prog 13 E_s13 := ⟨by kernel_rfl, by kernel_rfl⟩
theorem gt14 : GoodTy Tryd.prog 14 E_s13 := ⟨by kernel_rfl, by kernel_rfl⟩
theorem gt20 : GoodTy Tryd.prog 20 (.raw .iface) := ⟨by kernel_rfl, by kernel_rfl⟩
theorem gt21 : GoodTy Tryd.prog 21 (.int .i32) := ⟨by kernel_rfl, by kernel_rfl⟩
theorem gt22 : GoodTy Tryd.prog 22 E_s22 := ⟨by kernel_rfl, by kernel_rfl⟩
theorem gt23 : GoodTy Tryd.prog 23 E_s22 := ⟨by kernel_rfl, by kernel_rfl⟩
theorem gt24 : GoodTy Tryd.prog 24 E_s24 := ⟨by kernel_rfl, by kernel_rfl⟩
theorem gt25 : GoodTy Tryd.prog 25 E_s24 := ⟨by kernel_rfl, by kernel_rfl⟩
theorem gt26 : GoodTy Tryd.prog 26 (.int .i64) := ⟨by kernel_rfl, by kernel_rfl⟩
theorem gt29 : GoodTy Tryd.prog 29 E_s22 := ⟨by kernel_rfl, by kernel_rfl⟩
theorem gt30 : GoodTy Tryd.prog 30 E_s24 := ⟨by kernel_rfl, by kernel_rfl⟩
theorem gt31 : GoodTy Tryd.prog 31 E_s24 := ⟨by kernel_rfl, by kernel_rfl⟩
theorem gt39 : GoodTy Tryd.prog 39 (.slice E_s24) := ⟨by kernel_rfl, by kernel_rfl⟩
theorem gt41 : GoodTy Tryd.prog 41 (.slice E_s24) := ⟨by kernel_rfl, by kernel_rfl⟩
theorem gt58 : GoodTy Tryd.prog 58 (.slice E_s22) := ⟨by kernel_rfl, by kernel_rfl⟩
theorem gt61 : GoodTy Tryd.prog 61 (.slice E_s22) := ⟨by kernel_rfl, by kernel_rfl⟩
theorem gt68 : GoodTy Tryd.prog 68 (.arr 9 .str) := ⟨by kernel_rfl, by kernel_rfl⟩
theorem gt72 : GoodTy Tryd.prog 72 (.slice .str) := ⟨by kernel_rfl, by kernel_rfl⟩
theorem gt79 : GoodTy Tryd.prog 79 (.slice (.int .u8)) := ⟨by kernel_rfl, by kernel_rfl⟩
theorem gt82 : GoodTy Tryd.prog 82 (.raw .iface) := ⟨by kernel_rfl, by kernel_rfl⟩
theorem gt83 : GoodTy Tryd.prog 83 (.raw .iface) := ⟨by kernel_rfl, by kernel_rfl⟩
theorem gt106 : GoodTy Tryd.prog 106 (.slice (.int .i64)) := ⟨by kernel_rfl, by kernel_rfl⟩
theorem gt114 : GoodTy Tryd.prog 114 (.int .u64) := ⟨by kernel_rfl, by kernel_rfl⟩
theorem gt122 : GoodTy Tryd.prog 122 (.int .i64) := ⟨by kernel_rfl, by kernel_rfl⟩
theorem gt129 : GoodTy Tryd.prog 129 (.int .u32) := ⟨by kernel_rfl, by kernel_rfl⟩
theorem gt131 : GoodTy Tryd.prog 131 (.int .u64) := ⟨by kernel_rfl, by kernel_rfl⟩
theorem gt136 : GoodTy Tryd.prog 136 (.int .u64) := ⟨by kernel_rfl, by kernel_rfl⟩
theorem gt145 : GoodTy Tryd.prog 145 (.int .i64) := ⟨by kernel_rfl, by kernel_rfl⟩
theorem gt153 : GoodTy Tryd.prog 153 (.arr 24 (.int .u8)) := ⟨by kernel_rfl, by kernel_rfl⟩
theorem gt157 : GoodTy Tryd.prog 157 (.arr 256 (.int .u8)) := ⟨by kernel_rfl, by kernel_rfl⟩
theorem gt158 : GoodTy Tryd.prog 158 E_s158 := ⟨by kernel_rfl, by kernel_rfl⟩
theorem gt159 : GoodTy Tryd.prog 159 E_s158 := ⟨by kernel_rfl, by kernel_rfl⟩
theorem gt160 : GoodTy Tryd.prog 160 (.arr 16 E_s158) := ⟨by kernel_rfl, by kernel_rfl⟩
theorem gt164 : GoodTy Tryd.prog 164 E_s164 := ⟨by kernel_rfl, by kernel_rfl⟩
theorem gt165 : GoodTy Tryd.prog 165 E_s164 := ⟨by kernel_rfl, by kernel_rfl⟩
theorem gt168 : GoodTy Tryd.prog 168 (.arr 20 (.int .u64)) := ⟨by kernel_rfl, by kernel_rfl⟩
theorem gt169 : GoodTy Tryd.prog 169 (.arr 65 (.int .u8)) := ⟨by kernel_rfl, by kernel_rfl⟩
theorem gt174 : GoodTy Tryd.prog 174 (.arr 32 (.int .u8)) := ⟨by kernel_rfl, by kernel_rfl⟩
theorem gt175 : GoodTy Tryd.prog 175 (.arr 64 (.int .u8)) := ⟨by kernel_rfl, by kernel_rfl⟩
theorem gt182 : GoodTy Tryd.prog 182 (.int .u8) := ⟨by kernel_rfl, by kernel_rfl⟩
theorem gt183 : GoodTy Tryd.prog 183 (.int .u8) := ⟨by kernel_rfl, by kernel_rfl⟩
theorem gt185 : GoodTy Tryd.prog 185 (.int .i32) := ⟨by kernel_rfl, by kernel_rfl⟩
theorem gt186 : GoodTy Tryd.prog 186 (.int .i32) := ⟨by kernel_rfl, by kernel_rfl⟩
theorem lookup_all {α β : Type} [BEq α] [LawfulBEq α] {p : α → β → Prop} {t : α} {τ : β} : ∀ {l : List (α × β)}, (∀ q ∈ l, p q.1 q.2) → l.lookup t = some τ → p t τ
  | [], _, h => by simp at h
  | (a, b) :: l, hl, h => by
    rw [List.lookup_cons] at h
    split at h
    · rename_i e
      cases h
      have := eq_of_beq e
      subst this
      exact hl (_, _) (by simp)
    · exact lookup_all (fun q hq => hl q (List.mem_cons_of_mem _ hq)) h
theorem C_ok : C.OK where
  ty t τ h := lookup_all (p := GoodTy Tryd.prog) (l := tyL) (by
    intro q hq
    simp only [tyL, List.mem_cons, List.not_mem_nil, or_false] at hq
    rcases hq with rfl | rfl | rfl | rfl | rfl | rfl | rfl | rfl | rfl | rfl | rfl | rfl | rfl | rfl | rfl | rfl | rfl | rfl | rfl | rfl | rfl | rfl | rfl | rfl | rfl | rfl | rfl | rfl | rfl | rfl | rfl | rfl | rfl | rfl | rfl | rfl | rfl | rfl | rfl | rfl | rfl | rfl | rfl | rfl | rfl | rfl | rfl | rfl | rfl | rfl | rfl | rfl | rfl | rfl
    · exact gt3
    · exact gt4
    · exact gt9
    · exact gt5
    · exact gt2
    · exact gt6
    · exact gt7
    · exact gt8
    · exact gt10
    · exact gt11
    · exact gt12
    · exact gt13
    · exact gt14
    · exact gt20
    · exact gt21
    · exact gt22
    · exact gt23
    · exact gt24
    · exact gt25
    · exact gt26
    · exact gt29
    · exact gt30
    · exact gt31
    · exact gt39
    · exact gt41
    · exact gt58
    · exact gt61
    · exact gt68
    · exact gt72
    · exact gt79
    · exact gt82
    · exact gt83
    · exact gt106
    · exact gt114
    · exact gt122
    · exact gt129
    · exact gt131
    · exact gt136
    · exact gt145
    · exact gt153
    · exact gt157
    · exact gt158
    · exact gt159
    · exact gt160
    · exact gt164
    · exact gt165
    · exact gt168
    · exact gt169
    · exact gt174
    · exact gt175
    · exact gt182
    · exact gt183
    · exact gt185
    · exact gt186) h
  mixed := by kernel_rfl
  ob t te h := by
    have h : (bif t == 81 then some 5 else none : Option TypeId) = some te := h
    cases e : (t == 81) with
    | true => rw [show t = 81 by simpa using e]; exact ⟨by kernel_rfl, by kernel_rfl⟩
    | false => rw [e] at h; cases h
end Go.Proofs.YtaednhofihnfkaaDoor.K

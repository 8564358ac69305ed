/- What functions of the program come to, plainly. -/
import Derived.Test.YtjhkagfolmhacaaGreatDoorZ05
set_option maxRecDepth 100000
set_option linter.unusedVariables false
namespace Go.Proofs.YtjhkagfolmhacaaGreatDoor.K
open Go Go.RowKit

/-- becket becketref08.Fine -/
noncomputable def ref08_Fine.sp : Spec := noS
def ref08_Fine.s {Ω : Type} (x0 : Int) (k : Bool → Option Ω) : Option Ω :=
  bif (decide (x0 ≥ (-2147483648))) then
    k (decide (x0 ≤ 2147483647))
  else
    k false
theorem ref08_Fine.ev {Ω : Type} (fuel : Fuel) (x0 : Int) (k : AV → Option Ω) : evFn C ref08_Fine.sp fuel Tryz.f32 (Tryz.f32.body.getD .skip) [(.v (.int .i64) (x0))] k = ref08_Fine.s x0 (fun r => k (tupAV .bool [] r)) := by kernel_rfl
def ref08_Fine.t (x0 : Int) : Bool :=
  bif (decide (x0 ≥ (-2147483648))) then
    (decide (x0 ≤ 2147483647))
  else
    false
theorem ref08_Fine.v {Ω : Type} (x0 : Int) (k : Bool → Option Ω) : ref08_Fine.s x0 k = k (ref08_Fine.t x0) := by
  delta ref08_Fine.s ref08_Fine.t; exact (cond_tot rfl rfl)
theorem ref08_Fine.c (x0 : Int) : Contract C 32 [(.v (.int .i64) (x0))] (tupAV .bool [] (ref08_Fine.t x0)) :=
  contract_s (S := fun k => ref08_Fine.s x0 k) C_ok noS_ok (by kernel_rfl) (by kernel_rfl) (by kernel_rfl) (ref08_Fine.ev ⟨1, fun _ => []⟩ x0 (dec .bool [])) (ref08_Fine.v x0 some)
noncomputable def ref08_Fine.e : Ent := argI (.int .i64) fun x0 => endT (tupAV .bool [] (ref08_Fine.t x0))
theorem ref08_Fine.e_ok : EntOK C 32 (fun {_} => ref08_Fine.e) := entA_ok (argI_ok fun x0 => endT_ok (ref08_Fine.c x0))

/-- becket word.Fine -/
noncomputable def word_Fine.sp : Spec := noS
def word_Fine.s {Ω : Type} (x0 : Int) (k : Bool → Option Ω) : Option Ω :=
  bif (decide (x0 ≥ (-2147483648))) then
    k (decide (x0 ≤ 2147483647))
  else
    k false
theorem word_Fine.ev {Ω : Type} (fuel : Fuel) (x0 : Int) (k : AV → Option Ω) : evFn C word_Fine.sp fuel Tryz.f38 (Tryz.f38.body.getD .skip) [(.v (.int .i64) (x0))] k = word_Fine.s x0 (fun r => k (tupAV .bool [] r)) := by kernel_rfl
def word_Fine.t (x0 : Int) : Bool :=
  bif (decide (x0 ≥ (-2147483648))) then
    (decide (x0 ≤ 2147483647))
  else
    false
theorem word_Fine.v {Ω : Type} (x0 : Int) (k : Bool → Option Ω) : word_Fine.s x0 k = k (word_Fine.t x0) := by
  delta word_Fine.s word_Fine.t; exact (cond_tot rfl rfl)
theorem word_Fine.c (x0 : Int) : Contract C 38 [(.v (.int .i64) (x0))] (tupAV .bool [] (word_Fine.t x0)) :=
  contract_s (S := fun k => word_Fine.s x0 k) C_ok noS_ok (by kernel_rfl) (by kernel_rfl) (by kernel_rfl) (word_Fine.ev ⟨1, fun _ => []⟩ x0 (dec .bool [])) (word_Fine.v x0 some)
noncomputable def word_Fine.e : Ent := argI (.int .i64) fun x0 => endT (tupAV .bool [] (word_Fine.t x0))
theorem word_Fine.e_ok : EntOK C 38 (fun {_} => word_Fine.e) := entA_ok (argI_ok fun x0 => endT_ok (word_Fine.c x0))

/-- becket becketref08.Not -/
noncomputable def ref08_Not.sp : Spec := (orS 32 (fun {_} => ref08_Fine.e) noS)
def ref08_Not.s {Ω : Type} (x0 : Int) (k : Int × Int → Option Ω) : Option Ω :=
  bif (!(ref08_Fine.t x0)) then
    k (0, 8)
  else
    k ((IntKind.wrap .i64 ((-1) - x0)), 0)
theorem ref08_Not.ev {Ω : Type} (fuel : Fuel) (x0 : Int) (k : AV → Option Ω) : evFn C ref08_Not.sp fuel Tryz.f87 (Tryz.f87.body.getD .skip) [(.v (.int .i64) (x0))] k = ref08_Not.s x0 (fun r => k (tupAV (.int .i64) [(.int .i64)] r)) := by kernel_rfl
def ref08_Not.t (x0 : Int) : Int × Int :=
  bif (!(ref08_Fine.t x0)) then
    (0, 8)
  else
    ((IntKind.wrap .i64 ((-1) - x0)), 0)
theorem ref08_Not.v {Ω : Type} (x0 : Int) (k : Int × Int → Option Ω) : ref08_Not.s x0 k = k (ref08_Not.t x0) := by
  delta ref08_Not.s ref08_Not.t; exact (cond_tot rfl rfl)
theorem ref08_Not.c (x0 : Int) : Contract C 87 [(.v (.int .i64) (x0))] (tupAV (.int .i64) [(.int .i64)] (ref08_Not.t x0)) :=
  contract_s (S := fun k => ref08_Not.s x0 k) C_ok (orS_ok ref08_Fine.e_ok noS_ok) (by kernel_rfl) (by kernel_rfl) (by kernel_rfl) (ref08_Not.ev ⟨1, fun _ => []⟩ x0 (dec (.int .i64) [(.int .i64)])) (ref08_Not.v x0 some)
noncomputable def ref08_Not.e : Ent := argI (.int .i64) fun x0 => endT (tupAV (.int .i64) [(.int .i64)] (ref08_Not.t x0))
theorem ref08_Not.e_ok : EntOK C 87 (fun {_} => ref08_Not.e) := entA_ok (argI_ok fun x0 => endT_ok (ref08_Not.c x0))

/-- becket becketref08.Wrap -/
noncomputable def ref08_Wrap.sp : Spec := noS
def ref08_Wrap.s {Ω : Type} (x0 : Int) (k : Int → Option Ω) : Option Ω :=
  bif (decide ((Int.tmod x0 4294967296) < 0)) then
    bif (decide ((IntKind.wrap .i64 ((Int.tmod x0 4294967296) + 4294967296)) > 2147483647)) then
      let v1 : Int := (IntKind.wrap .i64 ((IntKind.wrap .i64 ((Int.tmod x0 4294967296) + 4294967296)) - 4294967296))
      k v1
    else
      k (IntKind.wrap .i64 ((Int.tmod x0 4294967296) + 4294967296))
  else
    bif (decide ((Int.tmod x0 4294967296) > 2147483647)) then
      k (IntKind.wrap .i64 ((Int.tmod x0 4294967296) - 4294967296))
    else
      k (Int.tmod x0 4294967296)
theorem ref08_Wrap.ev {Ω : Type} (fuel : Fuel) (x0 : Int) (k : AV → Option Ω) : evFn C ref08_Wrap.sp fuel Tryz.f119 (Tryz.f119.body.getD .skip) [(.v (.int .i64) (x0))] k = ref08_Wrap.s x0 (fun r => k (tupAV (.int .i64) [] r)) := by kernel_rfl
def ref08_Wrap.t (x0 : Int) : Int :=
  bif (decide ((Int.tmod x0 4294967296) < 0)) then
    bif (decide ((IntKind.wrap .i64 ((Int.tmod x0 4294967296) + 4294967296)) > 2147483647)) then
      let v1 : Int := (IntKind.wrap .i64 ((IntKind.wrap .i64 ((Int.tmod x0 4294967296) + 4294967296)) - 4294967296))
      v1
    else
      (IntKind.wrap .i64 ((Int.tmod x0 4294967296) + 4294967296))
  else
    bif (decide ((Int.tmod x0 4294967296) > 2147483647)) then
      (IntKind.wrap .i64 ((Int.tmod x0 4294967296) - 4294967296))
    else
      (Int.tmod x0 4294967296)
theorem ref08_Wrap.v {Ω : Type} (x0 : Int) (k : Int → Option Ω) : ref08_Wrap.s x0 k = k (ref08_Wrap.t x0) := by
  delta ref08_Wrap.s ref08_Wrap.t; exact (cond_tot (cond_tot rfl rfl) (cond_tot rfl rfl))
theorem ref08_Wrap.c (x0 : Int) : Contract C 119 [(.v (.int .i64) (x0))] (tupAV (.int .i64) [] (ref08_Wrap.t x0)) :=
  contract_s (S := fun k => ref08_Wrap.s x0 k) C_ok noS_ok (by kernel_rfl) (by kernel_rfl) (by kernel_rfl) (ref08_Wrap.ev ⟨1, fun _ => []⟩ x0 (dec (.int .i64) [])) (ref08_Wrap.v x0 some)
noncomputable def ref08_Wrap.e : Ent := argI (.int .i64) fun x0 => endT (tupAV (.int .i64) [] (ref08_Wrap.t x0))
theorem ref08_Wrap.e_ok : EntOK C 119 (fun {_} => ref08_Wrap.e) := entA_ok (argI_ok fun x0 => endT_ok (ref08_Wrap.c x0))

/-- becket becketref08.Neg -/
noncomputable def ref08_Neg.sp : Spec := (orS 119 (fun {_} => ref08_Wrap.e) (orS 32 (fun {_} => ref08_Fine.e) noS))
def ref08_Neg.s {Ω : Type} (x0 : Int) (k : Int × Int → Option Ω) : Option Ω :=
  bif (!(ref08_Fine.t x0)) then
    k (0, 8)
  else
    k ((ref08_Wrap.t ((IntKind.wrap .i64 (0 - x0)))), 0)
theorem ref08_Neg.ev {Ω : Type} (fuel : Fuel) (x0 : Int) (k : AV → Option Ω) : evFn C ref08_Neg.sp fuel Tryz.f88 (Tryz.f88.body.getD .skip) [(.v (.int .i64) (x0))] k = ref08_Neg.s x0 (fun r => k (tupAV (.int .i64) [(.int .i64)] r)) := by kernel_rfl
def ref08_Neg.t (x0 : Int) : Int × Int :=
  bif (!(ref08_Fine.t x0)) then
    (0, 8)
  else
    ((ref08_Wrap.t ((IntKind.wrap .i64 (0 - x0)))), 0)
theorem ref08_Neg.v {Ω : Type} (x0 : Int) (k : Int × Int → Option Ω) : ref08_Neg.s x0 k = k (ref08_Neg.t x0) := by
  delta ref08_Neg.s ref08_Neg.t; exact (cond_tot rfl rfl)
theorem ref08_Neg.c (x0 : Int) : Contract C 88 [(.v (.int .i64) (x0))] (tupAV (.int .i64) [(.int .i64)] (ref08_Neg.t x0)) :=
  contract_s (S := fun k => ref08_Neg.s x0 k) C_ok (orS_ok ref08_Wrap.e_ok (orS_ok ref08_Fine.e_ok noS_ok)) (by kernel_rfl) (by kernel_rfl) (by kernel_rfl) (ref08_Neg.ev ⟨1, fun _ => []⟩ x0 (dec (.int .i64) [(.int .i64)])) (ref08_Neg.v x0 some)
noncomputable def ref08_Neg.e : Ent := argI (.int .i64) fun x0 => endT (tupAV (.int .i64) [(.int .i64)] (ref08_Neg.t x0))
theorem ref08_Neg.e_ok : EntOK C 88 (fun {_} => ref08_Neg.e) := entA_ok (argI_ok fun x0 => endT_ok (ref08_Neg.c x0))

/-- becket becketref08.up -/
noncomputable def ref08_up.sp : Spec := noS
def ref08_up.s {Ω : Type} (x0 : Int) (k : Int → Option Ω) : Option Ω :=
  bif (decide (x0 < 0)) then
    k (IntKind.wrap .i64 (x0 + 4294967296))
  else
    k x0
theorem ref08_up.ev {Ω : Type} (fuel : Fuel) (x0 : Int) (k : AV → Option Ω) : evFn C ref08_up.sp fuel Tryz.f121 (Tryz.f121.body.getD .skip) [(.v (.int .i64) (x0))] k = ref08_up.s x0 (fun r => k (tupAV (.int .i64) [] r)) := by kernel_rfl
def ref08_up.t (x0 : Int) : Int :=
  bif (decide (x0 < 0)) then
    (IntKind.wrap .i64 (x0 + 4294967296))
  else
    x0
theorem ref08_up.v {Ω : Type} (x0 : Int) (k : Int → Option Ω) : ref08_up.s x0 k = k (ref08_up.t x0) := by
  delta ref08_up.s ref08_up.t; exact (cond_tot rfl rfl)
theorem ref08_up.c (x0 : Int) : Contract C 121 [(.v (.int .i64) (x0))] (tupAV (.int .i64) [] (ref08_up.t x0)) :=
  contract_s (S := fun k => ref08_up.s x0 k) C_ok noS_ok (by kernel_rfl) (by kernel_rfl) (by kernel_rfl) (ref08_up.ev ⟨1, fun _ => []⟩ x0 (dec (.int .i64) [])) (ref08_up.v x0 some)
noncomputable def ref08_up.e : Ent := argI (.int .i64) fun x0 => endT (tupAV (.int .i64) [] (ref08_up.t x0))
theorem ref08_up.e_ok : EntOK C 121 (fun {_} => ref08_up.e) := entA_ok (argI_ok fun x0 => endT_ok (ref08_up.c x0))

/-- becket becketref08.moved -/
noncomputable def ref08_moved.sp : Spec := (orS 119 (fun {_} => ref08_Wrap.e) noS)
def ref08_moved.F (fuel : Nat) : Fuel := ⟨fuel, fun r => bif r == 2 then [3, 4, 5, 6, 8, 9, 10, 11, 12, 13, 14, 15, 16, 17, 18, 19, 20, 21, 22, 23, 24, 25, 26, 27, 28, 29, 30] else []⟩
def ref08_moved.E0 (e2_1 : Int) (e2_2 : Bool) (s2 : Int × Int) : List AV := [(.v (.int .i64) (s2.1)), (.v (.int .i64) (e2_1)), (.v .bool (e2_2)), .dead, .dead, .dead, .dead, (.v (.int .i64) (s2.2)), .dead, .dead, .dead, .dead, .dead, .dead, .dead, .dead, .dead, .dead, .dead, .dead, .dead, .dead, .dead, .dead, .dead, .dead, .dead, .dead, .dead, .dead, .dead]
def ref08_moved.H0 (e2_1 : Int) (e2_2 : Bool) (s2 : Int × Int) : Heap := []
noncomputable def ref08_moved.M0 {Ω : Type} (fuel : Nat) (e2_1 : Int) (e2_2 : Bool)  (k : AV → Option Ω) (m : Nat) (s : Int × Int) : Option Ω := loopK (fun env L k => evCode C ref08_moved.sp (ref08_moved.F fuel) (cl (cl (cr (cl (cr (Tryz.f120.body.getD .skip)))))) env L k) [false, false, false, true, true, true, true, false, true, true, true, true, true, true, true, true, true, true, true, true, true, true, true, true, true, true, true, true, true, true, true] 0 (blockK 0 (seqK (fun env L => evCode C ref08_moved.sp (ref08_moved.F fuel) (cr (cr (Tryz.f120.body.getD .skip))) env L (finK C Tryz.f120 k)) (finK C Tryz.f120 k))) m ((ref08_moved.E0 e2_1 e2_2) s) ((ref08_moved.H0 e2_1 e2_2) s)
def ref08_moved.b0 {Ω : Type} (e2_1 : Int) (e2_2 : Bool)   (k : Int → Option Ω) (r2 : Int × Int → Option Ω) (s2 : Int × Int) : Option Ω :=
  bif (decide (s2.2 < e2_1)) then
    bif (!e2_2) then
      r2 ((ref08_Wrap.t ((IntKind.wrap .i64 (2 * s2.1)))), (IntKind.wrap .i64 (s2.2 + 1)))
    else
      bif (decide (s2.1 < 0)) then
        bif ((Int.tmod s2.1 2) != 0) then
          r2 ((IntKind.wrap .i64 ((IntKind.wrap .i64 (Int.tdiv s2.1 2)) - 1)), (IntKind.wrap .i64 (s2.2 + 1)))
        else
          r2 ((IntKind.wrap .i64 (Int.tdiv s2.1 2)), (IntKind.wrap .i64 (s2.2 + 1)))
      else
        r2 ((IntKind.wrap .i64 (Int.tdiv s2.1 2)), (IntKind.wrap .i64 (s2.2 + 1)))
  else
    k s2.1
def ref08_moved.B0 {Ω : Type} (fuel : Nat) (e2_1 : Int) (e2_2 : Bool)  (k : Int → Option Ω) (r2 : Int × Int → Option Ω) (s2 : Int × Int) : Option Ω := ref08_moved.b0 e2_1 e2_2   k r2 s2
theorem ref08_moved.l0 {Ω : Type} (fuel : Nat) (e2_1 : Int) (e2_2 : Bool)  (k : AV → Option Ω) : ∀ m, (ref08_moved.M0 fuel e2_1 e2_2  k m) = iter (ref08_moved.B0 fuel e2_1 e2_2  (fun r => k (tupAV (.int .i64) [] r))) m :=
  loopK_iter (envOf := (ref08_moved.E0 e2_1 e2_2)) (LOf := (ref08_moved.H0 e2_1 e2_2)) (B := ref08_moved.B0 fuel e2_1 e2_2  (fun r => k (tupAV (.int .i64) [] r))) (fun R s => by kernel_rfl)
def ref08_moved.sl {Ω : Type} (x0 : Int) (x1 : Int) (x2 : Bool) (lp0 : Int → Bool → Int × Int → Option Ω) (k : Int → Option Ω) : Option Ω :=
  lp0 x1 x2 (x0, 0)
def ref08_moved.s {Ω : Type} (fuel : Nat) (x0 : Int) (x1 : Int) (x2 : Bool) (k : Int → Option Ω) : Option Ω := ref08_moved.sl x0 x1 x2 (fun e2_1 e2_2 => (iter (ref08_moved.B0 fuel e2_1 e2_2  k) fuel)) k
theorem ref08_moved.ev {Ω : Type} (fuel : Nat) (x0 : Int) (x1 : Int) (x2 : Bool) (k : AV → Option Ω) : evFn C ref08_moved.sp (ref08_moved.F fuel) Tryz.f120 (Tryz.f120.body.getD .skip) [(.v (.int .i64) (x0)), (.v (.int .i64) (x1)), (.v .bool (x2))] k = ref08_moved.s fuel x0 x1 x2 (fun r => k (tupAV (.int .i64) [] r)) := by
  have h0 : evFn C ref08_moved.sp (ref08_moved.F fuel) Tryz.f120 (Tryz.f120.body.getD .skip) [(.v (.int .i64) (x0)), (.v (.int .i64) (x1)), (.v .bool (x2))] k = ref08_moved.sl x0 x1 x2 (fun e2_1 e2_2 => (ref08_moved.M0 fuel e2_1 e2_2  k fuel)) (fun r => k (tupAV (.int .i64) [] r)) := by kernel_rfl
  have h1 : (fun e2_1 e2_2 => (ref08_moved.M0 fuel e2_1 e2_2  k fuel)) = (fun e2_1 e2_2 => (iter (ref08_moved.B0 fuel e2_1 e2_2  (fun r => k (tupAV (.int .i64) [] r))) fuel)) := funext fun e2_1 => funext fun e2_2 => ref08_moved.l0 fuel e2_1 e2_2   k fuel
  rw [h1] at h0
  exact h0
def ref08_moved.g0 {Ω : Type} (e2_1 : Int) (e2_2 : Bool)  (k : Int → Option Ω) : Nat → Int → Option Ω
  | 0, a2_0 =>
    k a2_0
  | d2 + 1, a2_0 =>
    bif (!e2_2) then
      ref08_moved.g0 e2_1 e2_2  k d2 ((ref08_Wrap.t ((IntKind.wrap .i64 (2 * a2_0)))))
    else
      bif (decide (a2_0 < 0)) then
        bif ((Int.tmod a2_0 2) != 0) then
          ref08_moved.g0 e2_1 e2_2  k d2 ((IntKind.wrap .i64 ((IntKind.wrap .i64 (Int.tdiv a2_0 2)) - 1)))
        else
          ref08_moved.g0 e2_1 e2_2  k d2 ((IntKind.wrap .i64 (Int.tdiv a2_0 2)))
      else
        ref08_moved.g0 e2_1 e2_2  k d2 ((IntKind.wrap .i64 (Int.tdiv a2_0 2)))
theorem ref08_moved.h0 {Ω : Type} (e2_1 : Int) (e2_2 : Bool)   (k : Int → Option Ω) (hN : (e2_1 : Int) ≤ 9223372036854775807) : ∀ (m : Nat) (i : Int) (a : Int), -9223372036854775808 ≤ i → Int.toNat ((e2_1 : Int) - i) < m → Le (ref08_moved.g0 e2_1 e2_2  k (Int.toNat ((e2_1 : Int) - i)) a) (iter (ref08_moved.B0 BIG e2_1 e2_2  k) m (a, i)) :=
  iter_count (e2_1 : Int) (fun i2 => (decide (i2 < e2_1))) (fun i => rfl) (fun (i2 : Int) (a2 : Int) => (a2, i2)) (fun xs i2 a2 => ref08_moved.g0 e2_1 e2_2  k xs a2) (ref08_moved.B0 BIG e2_1 e2_2  k)
    (fun i2 a2 r h0 => (Le.fls h0 (Le.refl _)))
    (fun i2 d2 a2 r h0 hw ih => (Le.tru h0 (Le.cond (ih _ hw ((ref08_Wrap.t ((IntKind.wrap .i64 (2 * a2)))))) (Le.cond (Le.cond (ih _ hw ((IntKind.wrap .i64 ((IntKind.wrap .i64 (Int.tdiv a2 2)) - 1)))) (ih _ hw ((IntKind.wrap .i64 (Int.tdiv a2 2))))) (ih _ hw ((IntKind.wrap .i64 (Int.tdiv a2 2))))))))
    hN
def ref08_moved.w {Ω : Type} (x0 : Int) (x1 : Int) (x2 : Bool) (k : Int → Option Ω) : Option Ω :=
  bif (decide (x1 ≤ 4611686018427387904)) then ref08_moved.g0 x1 x2  k ((Int.toNat (x1 - 0))) x0 else none
theorem ref08_moved.le {Ω : Type} (x0 : Int) (x1 : Int) (x2 : Bool) (k : Int → Option Ω) : Le (ref08_moved.w x0 x1 x2 k) (ref08_moved.s BIG x0 x1 x2 k) := by
  delta ref08_moved.w ref08_moved.s ref08_moved.sl
  exact (Le.gd fun hg => ref08_moved.h0 _ _   k (cnt_up hg) BIG 0 (x0) (by decide) (cnt_big hg (by decide)))
def ref08_moved.u (x0 : Int) (x1 : Int) (x2 : Bool) : Option (Int) := ref08_moved.w x0 x1 x2 some
theorem ref08_moved.c (x0 : Int) (x1 : Int) (x2 : Bool) (r : Int) (h : ref08_moved.u x0 x1 x2 = some r) : Contract C 120 [(.v (.int .i64) (x0)), (.v (.int .i64) (x1)), (.v .bool (x2))] (tupAV (.int .i64) [] r) :=
  contract_s (S := fun k => ref08_moved.s BIG x0 x1 x2 k) C_ok (orS_ok ref08_Wrap.e_ok noS_ok) (by kernel_rfl) (by kernel_rfl) (by kernel_rfl) (ref08_moved.ev BIG x0 x1 x2 (dec (.int .i64) [])) (ref08_moved.le x0 x1 x2 some r h)
noncomputable def ref08_moved.e : Ent := argI (.int .i64) fun x0 => argI (.int .i64) fun x1 => argI .bool fun x2 => endU (ref08_moved.u x0 x1 x2) (tupAV (.int .i64) [])
theorem ref08_moved.e_ok : EntOK C 120 (fun {_} => ref08_moved.e) := entA_ok (argI_ok fun x0 => argI_ok fun x1 => argI_ok fun x2 => endU_ok fun r h => ref08_moved.c x0 x1 x2 r h)

/-- becket becketref08.truth -/
noncomputable def ref08_truth.sp : Spec := noS
def ref08_truth.s {Ω : Type} (x0 : Bool) (k : Int → Option Ω) : Option Ω :=
  bif x0 then
    k 1
  else
    k 0
theorem ref08_truth.ev {Ω : Type} (fuel : Fuel) (x0 : Bool) (k : AV → Option Ω) : evFn C ref08_truth.sp fuel Tryz.f122 (Tryz.f122.body.getD .skip) [(.v .bool (x0))] k = ref08_truth.s x0 (fun r => k (tupAV (.int .i64) [] r)) := by kernel_rfl
def ref08_truth.t (x0 : Bool) : Int :=
  bif x0 then
    1
  else
    0
theorem ref08_truth.v {Ω : Type} (x0 : Bool) (k : Int → Option Ω) : ref08_truth.s x0 k = k (ref08_truth.t x0) := by
  delta ref08_truth.s ref08_truth.t; exact (cond_tot rfl rfl)
theorem ref08_truth.c (x0 : Bool) : Contract C 122 [(.v .bool (x0))] (tupAV (.int .i64) [] (ref08_truth.t x0)) :=
  contract_s (S := fun k => ref08_truth.s x0 k) C_ok noS_ok (by kernel_rfl) (by kernel_rfl) (by kernel_rfl) (ref08_truth.ev ⟨1, fun _ => []⟩ x0 (dec (.int .i64) [])) (ref08_truth.v x0 some)
noncomputable def ref08_truth.e : Ent := argI .bool fun x0 => endT (tupAV (.int .i64) [] (ref08_truth.t x0))
theorem ref08_truth.e_ok : EntOK C 122 (fun {_} => ref08_truth.e) := entA_ok (argI_ok fun x0 => endT_ok (ref08_truth.c x0))

/-- becket becketref08.bits -/
noncomputable def ref08_bits.sp : Spec := (orS 121 (fun {_} => ref08_up.e) (orS 119 (fun {_} => ref08_Wrap.e) noS))
def ref08_bits.F (fuel : Nat) : Fuel := ⟨fuel, fun r => bif r == 4 then [3, 4, 5, 6, 10, 11, 12, 13, 14, 15, 16, 17, 18, 19, 20, 21, 22, 23, 24, 25, 26, 27, 28, 29, 30, 31, 32, 33, 34, 35, 36, 37, 38, 39, 40, 41, 42, 43, 44, 45, 46, 47, 48, 49, 50, 51, 52] else []⟩
def ref08_bits.E0 (e4_1 : Int) (s4 : Int × Int × Int × Int × Int) : List AV := [(.v (.int .i64) (e4_1)), (.v (.int .i64) (s4.1)), (.v (.int .i64) (s4.2.1)), .dead, .dead, .dead, .dead, (.v (.int .i64) (s4.2.2.1)), (.v (.int .i64) (s4.2.2.2.1)), (.v (.int .i64) (s4.2.2.2.2)), .dead, .dead, .dead, .dead, .dead, .dead, .dead, .dead, .dead, .dead, .dead, .dead, .dead, .dead, .dead, .dead, .dead, .dead, .dead, .dead, .dead, .dead, .dead, .dead, .dead, .dead, .dead, .dead, .dead, .dead, .dead, .dead, .dead, .dead, .dead, .dead, .dead, .dead, .dead, .dead, .dead, .dead, .dead]
def ref08_bits.H0 (e4_1 : Int) (s4 : Int × Int × Int × Int × Int) : Heap := []
noncomputable def ref08_bits.M0 {Ω : Type} (fuel : Nat) (e4_1 : Int)  (k : AV → Option Ω) (m : Nat) (s : Int × Int × Int × Int × Int) : Option Ω := loopK (fun env L k => evCode C ref08_bits.sp (ref08_bits.F fuel) (cl (cl (cr (cl (cr (cr (cr (Tryz.f123.body.getD .skip)))))))) env L k) [false, false, false, true, true, true, true, false, false, false, true, true, true, true, true, true, true, true, true, true, true, true, true, true, true, true, true, true, true, true, true, true, true, true, true, true, true, true, true, true, true, true, true, true, true, true, true, true, true, true, true, true, true] 0 (blockK 0 (seqK (fun env L => evCode C ref08_bits.sp (ref08_bits.F fuel) (cr (cr (cr (cr (Tryz.f123.body.getD .skip))))) env L (finK C Tryz.f123 k)) (finK C Tryz.f123 k))) m ((ref08_bits.E0 e4_1) s) ((ref08_bits.H0 e4_1) s)
def ref08_bits.b0 {Ω : Type} (e4_1 : Int)   (k : Int → Option Ω) (r4 : Int × Int × Int × Int × Int → Option Ω) (s4 : Int × Int × Int × Int × Int) : Option Ω :=
  bif (decide (s4.2.2.2.2 < 32)) then
    bif (e4_1 == 7) then
      bif (e4_1 == 8) then
        bif ((IntKind.wrap .i64 ((Int.tmod s4.1 2) + (Int.tmod s4.2.1 2))) == 1) then
          r4 ((IntKind.wrap .i64 (Int.tdiv s4.1 2)), (IntKind.wrap .i64 (Int.tdiv s4.2.1 2)), (IntKind.wrap .i64 (s4.2.2.1 + s4.2.2.2.1)), (IntKind.wrap .i64 (2 * s4.2.2.2.1)), (IntKind.wrap .i64 (s4.2.2.2.2 + 1)))
        else
          r4 ((IntKind.wrap .i64 (Int.tdiv s4.1 2)), (IntKind.wrap .i64 (Int.tdiv s4.2.1 2)), s4.2.2.1, (IntKind.wrap .i64 (2 * s4.2.2.2.1)), (IntKind.wrap .i64 (s4.2.2.2.2 + 1)))
      else
        bif (decide ((IntKind.wrap .i64 ((Int.tmod s4.1 2) + (Int.tmod s4.2.1 2))) > 0)) then
          r4 ((IntKind.wrap .i64 (Int.tdiv s4.1 2)), (IntKind.wrap .i64 (Int.tdiv s4.2.1 2)), (IntKind.wrap .i64 (s4.2.2.1 + s4.2.2.2.1)), (IntKind.wrap .i64 (2 * s4.2.2.2.1)), (IntKind.wrap .i64 (s4.2.2.2.2 + 1)))
        else
          r4 ((IntKind.wrap .i64 (Int.tdiv s4.1 2)), (IntKind.wrap .i64 (Int.tdiv s4.2.1 2)), s4.2.2.1, (IntKind.wrap .i64 (2 * s4.2.2.2.1)), (IntKind.wrap .i64 (s4.2.2.2.2 + 1)))
    else
      bif (e4_1 == 8) then
        bif ((IntKind.wrap .i64 ((Int.tmod s4.1 2) + (Int.tmod s4.2.1 2))) == 1) then
          r4 ((IntKind.wrap .i64 (Int.tdiv s4.1 2)), (IntKind.wrap .i64 (Int.tdiv s4.2.1 2)), (IntKind.wrap .i64 (s4.2.2.1 + s4.2.2.2.1)), (IntKind.wrap .i64 (2 * s4.2.2.2.1)), (IntKind.wrap .i64 (s4.2.2.2.2 + 1)))
        else
          r4 ((IntKind.wrap .i64 (Int.tdiv s4.1 2)), (IntKind.wrap .i64 (Int.tdiv s4.2.1 2)), s4.2.2.1, (IntKind.wrap .i64 (2 * s4.2.2.2.1)), (IntKind.wrap .i64 (s4.2.2.2.2 + 1)))
      else
        bif ((IntKind.wrap .i64 ((Int.tmod s4.1 2) + (Int.tmod s4.2.1 2))) == 2) then
          r4 ((IntKind.wrap .i64 (Int.tdiv s4.1 2)), (IntKind.wrap .i64 (Int.tdiv s4.2.1 2)), (IntKind.wrap .i64 (s4.2.2.1 + s4.2.2.2.1)), (IntKind.wrap .i64 (2 * s4.2.2.2.1)), (IntKind.wrap .i64 (s4.2.2.2.2 + 1)))
        else
          r4 ((IntKind.wrap .i64 (Int.tdiv s4.1 2)), (IntKind.wrap .i64 (Int.tdiv s4.2.1 2)), s4.2.2.1, (IntKind.wrap .i64 (2 * s4.2.2.2.1)), (IntKind.wrap .i64 (s4.2.2.2.2 + 1)))
  else
    k (ref08_Wrap.t s4.2.2.1)
def ref08_bits.B0 {Ω : Type} (fuel : Nat) (e4_1 : Int)  (k : Int → Option Ω) (r4 : Int × Int × Int × Int × Int → Option Ω) (s4 : Int × Int × Int × Int × Int) : Option Ω := ref08_bits.b0 e4_1   k r4 s4
theorem ref08_bits.l0 {Ω : Type} (fuel : Nat) (e4_1 : Int)  (k : AV → Option Ω) : ∀ m, (ref08_bits.M0 fuel e4_1  k m) = iter (ref08_bits.B0 fuel e4_1  (fun r => k (tupAV (.int .i64) [] r))) m :=
  loopK_iter (envOf := (ref08_bits.E0 e4_1)) (LOf := (ref08_bits.H0 e4_1)) (B := ref08_bits.B0 fuel e4_1  (fun r => k (tupAV (.int .i64) [] r))) (fun R s => by kernel_rfl)
def ref08_bits.sl {Ω : Type} (x0 : Int) (x1 : Int) (x2 : Int) (lp0 : Int → Int × Int × Int × Int × Int → Option Ω) (k : Int → Option Ω) : Option Ω :=
  lp0 x0 ((ref08_up.t x1), (ref08_up.t x2), 0, 1, 0)
def ref08_bits.s {Ω : Type} (fuel : Nat) (x0 : Int) (x1 : Int) (x2 : Int) (k : Int → Option Ω) : Option Ω := ref08_bits.sl x0 x1 x2 (fun e4_1 => (iter (ref08_bits.B0 fuel e4_1  k) fuel)) k
theorem ref08_bits.ev {Ω : Type} (fuel : Nat) (x0 : Int) (x1 : Int) (x2 : Int) (k : AV → Option Ω) : evFn C ref08_bits.sp (ref08_bits.F fuel) Tryz.f123 (Tryz.f123.body.getD .skip) [(.v (.int .i64) (x0)), (.v (.int .i64) (x1)), (.v (.int .i64) (x2))] k = ref08_bits.s fuel x0 x1 x2 (fun r => k (tupAV (.int .i64) [] r)) := by
  have h0 : evFn C ref08_bits.sp (ref08_bits.F fuel) Tryz.f123 (Tryz.f123.body.getD .skip) [(.v (.int .i64) (x0)), (.v (.int .i64) (x1)), (.v (.int .i64) (x2))] k = ref08_bits.sl x0 x1 x2 (fun e4_1 => (ref08_bits.M0 fuel e4_1  k fuel)) (fun r => k (tupAV (.int .i64) [] r)) := by kernel_rfl
  have h1 : (fun e4_1 => (ref08_bits.M0 fuel e4_1  k fuel)) = (fun e4_1 => (iter (ref08_bits.B0 fuel e4_1  (fun r => k (tupAV (.int .i64) [] r))) fuel)) := funext fun e4_1 => ref08_bits.l0 fuel e4_1   k fuel
  rw [h1] at h0
  exact h0
def ref08_bits.g0 {Ω : Type} (e4_1 : Int)  (k : Int → Option Ω) : Nat → Int → Int → Int → Int → Option Ω
  | 0, a4_0, a4_1, a4_2, a4_3 =>
    k (ref08_Wrap.t a4_2)
  | d4 + 1, a4_0, a4_1, a4_2, a4_3 =>
    bif (e4_1 == 7) then
      bif (e4_1 == 8) then
        bif ((IntKind.wrap .i64 ((Int.tmod a4_0 2) + (Int.tmod a4_1 2))) == 1) then
          ref08_bits.g0 e4_1  k d4 ((IntKind.wrap .i64 (Int.tdiv a4_0 2))) ((IntKind.wrap .i64 (Int.tdiv a4_1 2))) ((IntKind.wrap .i64 (a4_2 + a4_3))) ((IntKind.wrap .i64 (2 * a4_3)))
        else
          ref08_bits.g0 e4_1  k d4 ((IntKind.wrap .i64 (Int.tdiv a4_0 2))) ((IntKind.wrap .i64 (Int.tdiv a4_1 2))) a4_2 ((IntKind.wrap .i64 (2 * a4_3)))
      else
        bif (decide ((IntKind.wrap .i64 ((Int.tmod a4_0 2) + (Int.tmod a4_1 2))) > 0)) then
          ref08_bits.g0 e4_1  k d4 ((IntKind.wrap .i64 (Int.tdiv a4_0 2))) ((IntKind.wrap .i64 (Int.tdiv a4_1 2))) ((IntKind.wrap .i64 (a4_2 + a4_3))) ((IntKind.wrap .i64 (2 * a4_3)))
        else
          ref08_bits.g0 e4_1  k d4 ((IntKind.wrap .i64 (Int.tdiv a4_0 2))) ((IntKind.wrap .i64 (Int.tdiv a4_1 2))) a4_2 ((IntKind.wrap .i64 (2 * a4_3)))
    else
      bif (e4_1 == 8) then
        bif ((IntKind.wrap .i64 ((Int.tmod a4_0 2) + (Int.tmod a4_1 2))) == 1) then
          ref08_bits.g0 e4_1  k d4 ((IntKind.wrap .i64 (Int.tdiv a4_0 2))) ((IntKind.wrap .i64 (Int.tdiv a4_1 2))) ((IntKind.wrap .i64 (a4_2 + a4_3))) ((IntKind.wrap .i64 (2 * a4_3)))
        else
          ref08_bits.g0 e4_1  k d4 ((IntKind.wrap .i64 (Int.tdiv a4_0 2))) ((IntKind.wrap .i64 (Int.tdiv a4_1 2))) a4_2 ((IntKind.wrap .i64 (2 * a4_3)))
      else
        bif ((IntKind.wrap .i64 ((Int.tmod a4_0 2) + (Int.tmod a4_1 2))) == 2) then
          ref08_bits.g0 e4_1  k d4 ((IntKind.wrap .i64 (Int.tdiv a4_0 2))) ((IntKind.wrap .i64 (Int.tdiv a4_1 2))) ((IntKind.wrap .i64 (a4_2 + a4_3))) ((IntKind.wrap .i64 (2 * a4_3)))
        else
          ref08_bits.g0 e4_1  k d4 ((IntKind.wrap .i64 (Int.tdiv a4_0 2))) ((IntKind.wrap .i64 (Int.tdiv a4_1 2))) a4_2 ((IntKind.wrap .i64 (2 * a4_3)))
theorem ref08_bits.h0 {Ω : Type} (e4_1 : Int)   (k : Int → Option Ω) (hN : (32 : Int) ≤ 9223372036854775807) : ∀ (m : Nat) (i : Int) (a : Int × Int × Int × Int), -9223372036854775808 ≤ i → Int.toNat ((32 : Int) - i) < m → Le (ref08_bits.g0 e4_1  k (Int.toNat ((32 : Int) - i)) a.1 a.2.1 a.2.2.1 a.2.2.2) (iter (ref08_bits.B0 BIG e4_1  k) m (a.1, a.2.1, a.2.2.1, a.2.2.2, i)) :=
  iter_count (32 : Int) (fun i4 => (decide (i4 < 32))) (fun i => rfl) (fun (i4 : Int) (a4 : Int × Int × Int × Int) => (a4.1, a4.2.1, a4.2.2.1, a4.2.2.2, i4)) (fun xs i4 a4 => ref08_bits.g0 e4_1  k xs a4.1 a4.2.1 a4.2.2.1 a4.2.2.2) (ref08_bits.B0 BIG e4_1  k)
    (fun i4 a4 r h0 => (Le.fls h0 (Le.refl _)))
    (fun i4 d4 a4 r h0 hw ih => (Le.tru h0 (Le.cond (Le.cond (Le.cond (ih _ hw ((IntKind.wrap .i64 (Int.tdiv a4.1 2)), (IntKind.wrap .i64 (Int.tdiv a4.2.1 2)), (IntKind.wrap .i64 (a4.2.2.1 + a4.2.2.2)), (IntKind.wrap .i64 (2 * a4.2.2.2)))) (ih _ hw ((IntKind.wrap .i64 (Int.tdiv a4.1 2)), (IntKind.wrap .i64 (Int.tdiv a4.2.1 2)), a4.2.2.1, (IntKind.wrap .i64 (2 * a4.2.2.2))))) (Le.cond (ih _ hw ((IntKind.wrap .i64 (Int.tdiv a4.1 2)), (IntKind.wrap .i64 (Int.tdiv a4.2.1 2)), (IntKind.wrap .i64 (a4.2.2.1 + a4.2.2.2)), (IntKind.wrap .i64 (2 * a4.2.2.2)))) (ih _ hw ((IntKind.wrap .i64 (Int.tdiv a4.1 2)), (IntKind.wrap .i64 (Int.tdiv a4.2.1 2)), a4.2.2.1, (IntKind.wrap .i64 (2 * a4.2.2.2)))))) (Le.cond (Le.cond (ih _ hw ((IntKind.wrap .i64 (Int.tdiv a4.1 2)), (IntKind.wrap .i64 (Int.tdiv a4.2.1 2)), (IntKind.wrap .i64 (a4.2.2.1 + a4.2.2.2)), (IntKind.wrap .i64 (2 * a4.2.2.2)))) (ih _ hw ((IntKind.wrap .i64 (Int.tdiv a4.1 2)), (IntKind.wrap .i64 (Int.tdiv a4.2.1 2)), a4.2.2.1, (IntKind.wrap .i64 (2 * a4.2.2.2))))) (Le.cond (ih _ hw ((IntKind.wrap .i64 (Int.tdiv a4.1 2)), (IntKind.wrap .i64 (Int.tdiv a4.2.1 2)), (IntKind.wrap .i64 (a4.2.2.1 + a4.2.2.2)), (IntKind.wrap .i64 (2 * a4.2.2.2)))) (ih _ hw ((IntKind.wrap .i64 (Int.tdiv a4.1 2)), (IntKind.wrap .i64 (Int.tdiv a4.2.1 2)), a4.2.2.1, (IntKind.wrap .i64 (2 * a4.2.2.2)))))))))
    hN
def ref08_bits.w {Ω : Type} (x0 : Int) (x1 : Int) (x2 : Int) (k : Int → Option Ω) : Option Ω :=
  ref08_bits.g0 x0  k ((Int.toNat ((32 : Int) - 0))) (ref08_up.t x1) (ref08_up.t x2) 0 1
theorem ref08_bits.le {Ω : Type} (x0 : Int) (x1 : Int) (x2 : Int) (k : Int → Option Ω) : Le (ref08_bits.w x0 x1 x2 k) (ref08_bits.s BIG x0 x1 x2 k) := by
  delta ref08_bits.w ref08_bits.s ref08_bits.sl
  exact (ref08_bits.h0 _   k (by decide) BIG 0 ((ref08_up.t x1), (ref08_up.t x2), 0, 1) (by decide) (by decide))
def ref08_bits.u (x0 : Int) (x1 : Int) (x2 : Int) : Option (Int) := ref08_bits.w x0 x1 x2 some
theorem ref08_bits.c (x0 : Int) (x1 : Int) (x2 : Int) (r : Int) (h : ref08_bits.u x0 x1 x2 = some r) : Contract C 123 [(.v (.int .i64) (x0)), (.v (.int .i64) (x1)), (.v (.int .i64) (x2))] (tupAV (.int .i64) [] r) :=
  contract_s (S := fun k => ref08_bits.s BIG x0 x1 x2 k) C_ok (orS_ok ref08_up.e_ok (orS_ok ref08_Wrap.e_ok noS_ok)) (by kernel_rfl) (by kernel_rfl) (by kernel_rfl) (ref08_bits.ev BIG x0 x1 x2 (dec (.int .i64) [])) (ref08_bits.le x0 x1 x2 some r h)
noncomputable def ref08_bits.e : Ent := argI (.int .i64) fun x0 => argI (.int .i64) fun x1 => argI (.int .i64) fun x2 => endU (ref08_bits.u x0 x1 x2) (tupAV (.int .i64) [])
theorem ref08_bits.e_ok : EntOK C 123 (fun {_} => ref08_bits.e) := entA_ok (argI_ok fun x0 => argI_ok fun x1 => argI_ok fun x2 => endU_ok fun r h => ref08_bits.c x0 x1 x2 r h)

/-- becket becketref08.Do -/
noncomputable def ref08_Do.sp : Spec := (orS 123 (fun {_} => ref08_bits.e) (orS 122 (fun {_} => ref08_truth.e) (orS 121 (fun {_} => ref08_up.e) (orS 120 (fun {_} => ref08_moved.e) (orS 119 (fun {_} => ref08_Wrap.e) (orS 32 (fun {_} => ref08_Fine.e) noS))))))
def ref08_Do.s {Ω : Type} (x0 : Int) (x1 : Int) (x2 : Int) (k : Int × Int → Option Ω) : Option Ω :=
  bif (decide (x0 < 1)) then
    k (0, 1)
  else
    bif (decide (x0 > 12)) then
      k (0, 1)
    else
      bif (!(ref08_Fine.t x1)) then
        k (0, 8)
      else
        bif (!(ref08_Fine.t x2)) then
          k (0, 8)
        else
          bif (x0 == 4) then
            bif (x2 == 0) then
              k (0, 16)
            else
              bif (x0 == 1) then
                k ((ref08_Wrap.t ((IntKind.wrap .i64 (x1 + x2)))), 0)
              else
                bif (x0 == 2) then
                  k ((ref08_Wrap.t ((IntKind.wrap .i64 (x1 - x2)))), 0)
                else
                  bif (x0 == 3) then
                    k ((ref08_Wrap.t ((IntKind.wrap .i64 (x1 * x2)))), 0)
                  else
                    bif (x0 == 4) then
                      bif (!(x2 == 0)) then
                        k ((ref08_Wrap.t ((IntKind.wrap .i64 (Int.tdiv x1 x2)))), 0)
                      else
                        none
                    else
                      bif (x0 == 5) then
                        bif (!(x2 == 0)) then
                          k ((IntKind.wrap .i64 (x1 - (IntKind.wrap .i64 (x2 * (IntKind.wrap .i64 (Int.tdiv x1 x2)))))), 0)
                        else
                          none
                      else
                        bif (x0 == 9) then
                          (ref08_moved.u x1 ((Int.tmod (ref08_up.t x2) 32)) false).bind fun y1 =>
                          k (y1, 0)
                        else
                          bif (x0 == 10) then
                            (ref08_moved.u x1 ((Int.tmod (ref08_up.t x2) 32)) true).bind fun y2 =>
                            k (y2, 0)
                          else
                            bif (x0 == 11) then
                              k ((ref08_truth.t ((decide (x1 < x2)))), 0)
                            else
                              bif (x0 == 12) then
                                k ((ref08_truth.t (x1 == x2)), 0)
                              else
                                (ref08_bits.u x0 x1 x2).bind fun y3 =>
                                k (y3, 0)
          else
            bif (x0 == 5) then
              bif (x2 == 0) then
                k (0, 16)
              else
                bif (x0 == 1) then
                  k ((ref08_Wrap.t ((IntKind.wrap .i64 (x1 + x2)))), 0)
                else
                  bif (x0 == 2) then
                    k ((ref08_Wrap.t ((IntKind.wrap .i64 (x1 - x2)))), 0)
                  else
                    bif (x0 == 3) then
                      k ((ref08_Wrap.t ((IntKind.wrap .i64 (x1 * x2)))), 0)
                    else
                      bif (x0 == 4) then
                        bif (!(x2 == 0)) then
                          k ((ref08_Wrap.t ((IntKind.wrap .i64 (Int.tdiv x1 x2)))), 0)
                        else
                          none
                      else
                        bif (x0 == 5) then
                          bif (!(x2 == 0)) then
                            k ((IntKind.wrap .i64 (x1 - (IntKind.wrap .i64 (x2 * (IntKind.wrap .i64 (Int.tdiv x1 x2)))))), 0)
                          else
                            none
                        else
                          bif (x0 == 9) then
                            (ref08_moved.u x1 ((Int.tmod (ref08_up.t x2) 32)) false).bind fun y4 =>
                            k (y4, 0)
                          else
                            bif (x0 == 10) then
                              (ref08_moved.u x1 ((Int.tmod (ref08_up.t x2) 32)) true).bind fun y5 =>
                              k (y5, 0)
                            else
                              bif (x0 == 11) then
                                k ((ref08_truth.t ((decide (x1 < x2)))), 0)
                              else
                                bif (x0 == 12) then
                                  k ((ref08_truth.t (x1 == x2)), 0)
                                else
                                  (ref08_bits.u x0 x1 x2).bind fun y6 =>
                                  k (y6, 0)
            else
              bif (x0 == 1) then
                k ((ref08_Wrap.t ((IntKind.wrap .i64 (x1 + x2)))), 0)
              else
                bif (x0 == 2) then
                  k ((ref08_Wrap.t ((IntKind.wrap .i64 (x1 - x2)))), 0)
                else
                  bif (x0 == 3) then
                    k ((ref08_Wrap.t ((IntKind.wrap .i64 (x1 * x2)))), 0)
                  else
                    bif (x0 == 4) then
                      bif (!(x2 == 0)) then
                        k ((ref08_Wrap.t ((IntKind.wrap .i64 (Int.tdiv x1 x2)))), 0)
                      else
                        none
                    else
                      bif (x0 == 5) then
                        bif (!(x2 == 0)) then
                          k ((IntKind.wrap .i64 (x1 - (IntKind.wrap .i64 (x2 * (IntKind.wrap .i64 (Int.tdiv x1 x2)))))), 0)
                        else
                          none
                      else
                        bif (x0 == 9) then
                          (ref08_moved.u x1 ((Int.tmod (ref08_up.t x2) 32)) false).bind fun y7 =>
                          k (y7, 0)
                        else
                          bif (x0 == 10) then
                            (ref08_moved.u x1 ((Int.tmod (ref08_up.t x2) 32)) true).bind fun y8 =>
                            k (y8, 0)
                          else
                            bif (x0 == 11) then
                              k ((ref08_truth.t ((decide (x1 < x2)))), 0)
                            else
                              bif (x0 == 12) then
                                k ((ref08_truth.t (x1 == x2)), 0)
                              else
                                (ref08_bits.u x0 x1 x2).bind fun y9 =>
                                k (y9, 0)
theorem ref08_Do.ev {Ω : Type} (fuel : Fuel) (x0 : Int) (x1 : Int) (x2 : Int) (k : AV → Option Ω) : evFn C ref08_Do.sp fuel Tryz.f95 (Tryz.f95.body.getD .skip) [(.v (.int .i64) (x0)), (.v (.int .i64) (x1)), (.v (.int .i64) (x2))] k = ref08_Do.s x0 x1 x2 (fun r => k (tupAV (.int .i64) [(.int .i64)] r)) := by kernel_rfl
def ref08_Do.u (x0 : Int) (x1 : Int) (x2 : Int) : Option (Int × Int) := ref08_Do.s x0 x1 x2 some
theorem ref08_Do.c (x0 : Int) (x1 : Int) (x2 : Int) (r : Int × Int) (h : ref08_Do.u x0 x1 x2 = some r) : Contract C 95 [(.v (.int .i64) (x0)), (.v (.int .i64) (x1)), (.v (.int .i64) (x2))] (tupAV (.int .i64) [(.int .i64)] r) :=
  contract_s (S := fun k => ref08_Do.s x0 x1 x2 k) C_ok (orS_ok ref08_bits.e_ok (orS_ok ref08_truth.e_ok (orS_ok ref08_up.e_ok (orS_ok ref08_moved.e_ok (orS_ok ref08_Wrap.e_ok (orS_ok ref08_Fine.e_ok noS_ok)))))) (by kernel_rfl) (by kernel_rfl) (by kernel_rfl) (ref08_Do.ev ⟨1, fun _ => []⟩ x0 x1 x2 (dec (.int .i64) [(.int .i64)])) h
noncomputable def ref08_Do.e : Ent := argI (.int .i64) fun x0 => argI (.int .i64) fun x1 => argI (.int .i64) fun x2 => endU (ref08_Do.u x0 x1 x2) (tupAV (.int .i64) [(.int .i64)])
theorem ref08_Do.e_ok : EntOK C 95 (fun {_} => ref08_Do.e) := entA_ok (argI_ok fun x0 => argI_ok fun x1 => argI_ok fun x2 => endU_ok fun r h => ref08_Do.c x0 x1 x2 r h)

/-- becket word.truth -/
noncomputable def word_truth.sp : Spec := noS
def word_truth.s {Ω : Type} (x0 : Bool) (k : Int → Option Ω) : Option Ω :=
  bif x0 then
    k 1
  else
    k 0
theorem word_truth.ev {Ω : Type} (fuel : Fuel) (x0 : Bool) (k : AV → Option Ω) : evFn C word_truth.sp fuel Tryz.f147 (Tryz.f147.body.getD .skip) [(.v .bool (x0))] k = word_truth.s x0 (fun r => k (tupAV (.int .i64) [] r)) := by kernel_rfl
def word_truth.t (x0 : Bool) : Int :=
  bif x0 then
    1
  else
    0
theorem word_truth.v {Ω : Type} (x0 : Bool) (k : Int → Option Ω) : word_truth.s x0 k = k (word_truth.t x0) := by
  delta word_truth.s word_truth.t; exact (cond_tot rfl rfl)
theorem word_truth.c (x0 : Bool) : Contract C 147 [(.v .bool (x0))] (tupAV (.int .i64) [] (word_truth.t x0)) :=
  contract_s (S := fun k => word_truth.s x0 k) C_ok noS_ok (by kernel_rfl) (by kernel_rfl) (by kernel_rfl) (word_truth.ev ⟨1, fun _ => []⟩ x0 (dec (.int .i64) [])) (word_truth.v x0 some)
noncomputable def word_truth.e : Ent := argI .bool fun x0 => endT (tupAV (.int .i64) [] (word_truth.t x0))
theorem word_truth.e_ok : EntOK C 147 (fun {_} => word_truth.e) := entA_ok (argI_ok fun x0 => endT_ok (word_truth.c x0))

/-- becket word.reckoned -/
noncomputable def word_reckoned.sp : Spec := (orS 147 (fun {_} => word_truth.e) noS)
def word_reckoned.s {Ω : Type} (x0 : Int) (x1 : Int) (x2 : Int) (k : Int → Option Ω) : Option Ω :=
  bif (x0 == 1) then
    k (IntKind.wrap .i64 (x1 + x2))
  else
    bif (x0 == 2) then
      k (IntKind.wrap .i64 (x1 - x2))
    else
      bif (x0 == 3) then
        k (IntKind.wrap .i64 (x1 * x2))
      else
        bif (x0 == 4) then
          bif (!(x2 == 0)) then
            k (IntKind.wrap .i64 (Int.tdiv x1 x2))
          else
            none
        else
          bif (x0 == 5) then
            bif (!(x2 == 0)) then
              k (Int.tmod x1 x2)
            else
              none
          else
            bif (x0 == 6) then
              let v1 : Int := (IntKind.wrap .i64 (BitVec.ofInt (IntKind.bits .i64) x1 &&& BitVec.ofInt (IntKind.bits .i64) x2).toNat)
              k v1
            else
              bif (x0 == 7) then
                let v2 : Int := (IntKind.wrap .i64 (BitVec.ofInt (IntKind.bits .i64) x1 ||| BitVec.ofInt (IntKind.bits .i64) x2).toNat)
                k v2
              else
                bif (x0 == 8) then
                  let v3 : Int := (IntKind.wrap .i64 (BitVec.ofInt (IntKind.bits .i64) x1 ^^^ BitVec.ofInt (IntKind.bits .i64) x2).toNat)
                  k v3
                else
                  bif (x0 == 9) then
                    let v4 : Int := (IntKind.wrap .i64 (BitVec.ofInt (IntKind.bits .i64) x2 &&& BitVec.ofInt (IntKind.bits .i64) 31).toNat)
                    bif (decide ((0 : Int) ≤ v4)) then
                      k (IntKind.wrap .i64 (x1 * (2 ^ (min (Int.toNat v4) (IntKind.bits .i64)))))
                    else
                      none
                  else
                    bif (x0 == 10) then
                      let v5 : Int := (IntKind.wrap .i64 (BitVec.ofInt (IntKind.bits .i64) x2 &&& BitVec.ofInt (IntKind.bits .i64) 31).toNat)
                      bif (decide ((0 : Int) ≤ v5)) then
                        k (Int.fdiv x1 (2 ^ (min (Int.toNat v5) (IntKind.bits .i64))))
                      else
                        none
                    else
                      bif (x0 == 11) then
                        k (word_truth.t ((decide (x1 < x2))))
                      else
                        k (word_truth.t (x1 == x2))
theorem word_reckoned.ev {Ω : Type} (fuel : Fuel) (x0 : Int) (x1 : Int) (x2 : Int) (k : AV → Option Ω) : evFn C word_reckoned.sp fuel Tryz.f145 (Tryz.f145.body.getD .skip) [(.v (.int .i64) (x0)), (.v (.int .i64) (x1)), (.v (.int .i64) (x2))] k = word_reckoned.s x0 x1 x2 (fun r => k (tupAV (.int .i64) [] r)) := by kernel_rfl
def word_reckoned.u (x0 : Int) (x1 : Int) (x2 : Int) : Option (Int) := word_reckoned.s x0 x1 x2 some
theorem word_reckoned.c (x0 : Int) (x1 : Int) (x2 : Int) (r : Int) (h : word_reckoned.u x0 x1 x2 = some r) : Contract C 145 [(.v (.int .i64) (x0)), (.v (.int .i64) (x1)), (.v (.int .i64) (x2))] (tupAV (.int .i64) [] r) :=
  contract_s (S := fun k => word_reckoned.s x0 x1 x2 k) C_ok (orS_ok word_truth.e_ok noS_ok) (by kernel_rfl) (by kernel_rfl) (by kernel_rfl) (word_reckoned.ev ⟨1, fun _ => []⟩ x0 x1 x2 (dec (.int .i64) [])) h
noncomputable def word_reckoned.e : Ent := argI (.int .i64) fun x0 => argI (.int .i64) fun x1 => argI (.int .i64) fun x2 => endU (word_reckoned.u x0 x1 x2) (tupAV (.int .i64) [])
theorem word_reckoned.e_ok : EntOK C 145 (fun {_} => word_reckoned.e) := entA_ok (argI_ok fun x0 => argI_ok fun x1 => argI_ok fun x2 => endU_ok fun r h => word_reckoned.c x0 x1 x2 r h)

/-- becket word.Wrap -/
noncomputable def word_Wrap.sp : Spec := noS
def word_Wrap.s {Ω : Type} (x0 : Int) (k : Int → Option Ω) : Option Ω :=
  k (IntKind.wrap .i64 (IntKind.wrap .i32 x0))
theorem word_Wrap.ev {Ω : Type} (fuel : Fuel) (x0 : Int) (k : AV → Option Ω) : evFn C word_Wrap.sp fuel Tryz.f144 (Tryz.f144.body.getD .skip) [(.v (.int .i64) (x0))] k = word_Wrap.s x0 (fun r => k (tupAV (.int .i64) [] r)) := by kernel_rfl
def word_Wrap.t (x0 : Int) : Int :=
  (IntKind.wrap .i64 (IntKind.wrap .i32 x0))
theorem word_Wrap.v {Ω : Type} (x0 : Int) (k : Int → Option Ω) : word_Wrap.s x0 k = k (word_Wrap.t x0) := by
  delta word_Wrap.s word_Wrap.t; exact rfl
theorem word_Wrap.c (x0 : Int) : Contract C 144 [(.v (.int .i64) (x0))] (tupAV (.int .i64) [] (word_Wrap.t x0)) :=
  contract_s (S := fun k => word_Wrap.s x0 k) C_ok noS_ok (by kernel_rfl) (by kernel_rfl) (by kernel_rfl) (word_Wrap.ev ⟨1, fun _ => []⟩ x0 (dec (.int .i64) [])) (word_Wrap.v x0 some)
noncomputable def word_Wrap.e : Ent := argI (.int .i64) fun x0 => endT (tupAV (.int .i64) [] (word_Wrap.t x0))
theorem word_Wrap.e_ok : EntOK C 144 (fun {_} => word_Wrap.e) := entA_ok (argI_ok fun x0 => endT_ok (word_Wrap.c x0))

/-- becket word.Do -/
noncomputable def word_Do.sp : Spec := (orS 145 (fun {_} => word_reckoned.e) (orS 144 (fun {_} => word_Wrap.e) (orS 38 (fun {_} => word_Fine.e) noS)))
def word_Do.s {Ω : Type} (x0 : Int) (x1 : Int) (x2 : Int) (k : Int × Int → Option Ω) : Option Ω :=
  bif (decide (x0 < 1)) then
    k (0, 1)
  else
    bif (decide (x0 > 12)) then
      k (0, 1)
    else
      bif (!(word_Fine.t x1)) then
        k (0, 8)
      else
        bif (!(word_Fine.t x2)) then
          k (0, 8)
        else
          bif (x0 == 4) then
            bif (x2 == 0) then
              k (0, 16)
            else
              (word_reckoned.u x0 x1 x2).bind fun y1 =>
              k ((word_Wrap.t y1), 0)
          else
            bif (x0 == 5) then
              bif (x2 == 0) then
                k (0, 16)
              else
                (word_reckoned.u x0 x1 x2).bind fun y2 =>
                k ((word_Wrap.t y2), 0)
            else
              (word_reckoned.u x0 x1 x2).bind fun y3 =>
              k ((word_Wrap.t y3), 0)
theorem word_Do.ev {Ω : Type} (fuel : Fuel) (x0 : Int) (x1 : Int) (x2 : Int) (k : AV → Option Ω) : evFn C word_Do.sp fuel Tryz.f139 (Tryz.f139.body.getD .skip) [(.v (.int .i64) (x0)), (.v (.int .i64) (x1)), (.v (.int .i64) (x2))] k = word_Do.s x0 x1 x2 (fun r => k (tupAV (.int .i64) [(.int .i64)] r)) := by kernel_rfl
def word_Do.u (x0 : Int) (x1 : Int) (x2 : Int) : Option (Int × Int) := word_Do.s x0 x1 x2 some
theorem word_Do.c (x0 : Int) (x1 : Int) (x2 : Int) (r : Int × Int) (h : word_Do.u x0 x1 x2 = some r) : Contract C 139 [(.v (.int .i64) (x0)), (.v (.int .i64) (x1)), (.v (.int .i64) (x2))] (tupAV (.int .i64) [(.int .i64)] r) :=
  contract_s (S := fun k => word_Do.s x0 x1 x2 k) C_ok (orS_ok word_reckoned.e_ok (orS_ok word_Wrap.e_ok (orS_ok word_Fine.e_ok noS_ok))) (by kernel_rfl) (by kernel_rfl) (by kernel_rfl) (word_Do.ev ⟨1, fun _ => []⟩ x0 x1 x2 (dec (.int .i64) [(.int .i64)])) h
noncomputable def word_Do.e : Ent := argI (.int .i64) fun x0 => argI (.int .i64) fun x1 => argI (.int .i64) fun x2 => endU (word_Do.u x0 x1 x2) (tupAV (.int .i64) [(.int .i64)])
theorem word_Do.e_ok : EntOK C 139 (fun {_} => word_Do.e) := entA_ok (argI_ok fun x0 => argI_ok fun x1 => argI_ok fun x2 => endU_ok fun r h => word_Do.c x0 x1 x2 r h)

/-- becket word.Not -/
noncomputable def word_Not.sp : Spec := (orS 139 (fun {_} => word_Do.e) noS)
def word_Not.s {Ω : Type} (x0 : Int) (k : Int × Int → Option Ω) : Option Ω :=
  (word_Do.u 8 x0 (-1)).bind fun y1 =>
  k (y1.1, y1.2)
theorem word_Not.ev {Ω : Type} (fuel : Fuel) (x0 : Int) (k : AV → Option Ω) : evFn C word_Not.sp fuel Tryz.f136 (Tryz.f136.body.getD .skip) [(.v (.int .i64) (x0))] k = word_Not.s x0 (fun r => k (tupAV (.int .i64) [(.int .i64)] r)) := by kernel_rfl
def word_Not.u (x0 : Int) : Option (Int × Int) := word_Not.s x0 some
theorem word_Not.c (x0 : Int) (r : Int × Int) (h : word_Not.u x0 = some r) : Contract C 136 [(.v (.int .i64) (x0))] (tupAV (.int .i64) [(.int .i64)] r) :=
  contract_s (S := fun k => word_Not.s x0 k) C_ok (orS_ok word_Do.e_ok noS_ok) (by kernel_rfl) (by kernel_rfl) (by kernel_rfl) (word_Not.ev ⟨1, fun _ => []⟩ x0 (dec (.int .i64) [(.int .i64)])) h
noncomputable def word_Not.e : Ent := argI (.int .i64) fun x0 => endU (word_Not.u x0) (tupAV (.int .i64) [(.int .i64)])
theorem word_Not.e_ok : EntOK C 136 (fun {_} => word_Not.e) := entA_ok (argI_ok fun x0 => endU_ok fun r h => word_Not.c x0 r h)

/-- becket word.Neg -/
noncomputable def word_Neg.sp : Spec := (orS 139 (fun {_} => word_Do.e) noS)
def word_Neg.s {Ω : Type} (x0 : Int) (k : Int × Int → Option Ω) : Option Ω :=
  (word_Do.u 2 0 x0).bind fun y1 =>
  k (y1.1, y1.2)
theorem word_Neg.ev {Ω : Type} (fuel : Fuel) (x0 : Int) (k : AV → Option Ω) : evFn C word_Neg.sp fuel Tryz.f137 (Tryz.f137.body.getD .skip) [(.v (.int .i64) (x0))] k = word_Neg.s x0 (fun r => k (tupAV (.int .i64) [(.int .i64)] r)) := by kernel_rfl
def word_Neg.u (x0 : Int) : Option (Int × Int) := word_Neg.s x0 some
theorem word_Neg.c (x0 : Int) (r : Int × Int) (h : word_Neg.u x0 = some r) : Contract C 137 [(.v (.int .i64) (x0))] (tupAV (.int .i64) [(.int .i64)] r) :=
  contract_s (S := fun k => word_Neg.s x0 k) C_ok (orS_ok word_Do.e_ok noS_ok) (by kernel_rfl) (by kernel_rfl) (by kernel_rfl) (word_Neg.ev ⟨1, fun _ => []⟩ x0 (dec (.int .i64) [(.int .i64)])) h
noncomputable def word_Neg.e : Ent := argI (.int .i64) fun x0 => endU (word_Neg.u x0) (tupAV (.int .i64) [(.int .i64)])
theorem word_Neg.e_ok : EntOK C 137 (fun {_} => word_Neg.e) := entA_ok (argI_ok fun x0 => endU_ok fun r h => word_Neg.c x0 r h)

end Go.Proofs.YtjhkagfolmhacaaGreatDoor.K

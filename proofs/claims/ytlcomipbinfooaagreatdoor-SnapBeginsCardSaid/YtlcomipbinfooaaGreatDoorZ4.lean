/- What functions of the program come to, and their laws. -/
import Derived.Test.YtlcomipbinfooaaGreatDoorZ3
namespace Go.Proofs.YtlcomipbinfooaaGreatDoor.K
open Go Go.RowKit
section
set_option linter.unusedVariables false
set_option linter.unusedSimpArgs false
set_option maxRecDepth 100000
variable {Ω : Type}
def law32_Small.F (fuel : Nat) : Fuel := ⟨fuel, fun r => bif r == 4 then mL 0 38 272998858751 else bif r == 2000001 then [5, 6, 7, 8, 9, 10, 11, 12, 13, 14, 15, 16, 17, 18, 19, 20, 21, 22, 23, 24, 25, 5026] else []⟩
noncomputable def law32_Small.V (fuel c : Nat) (env : List AV) (L : Heap) (k : Kont Ω) : Option Ω := evCode CDEKP (spE (C := CDEKP) [] []) (law32_Small.F fuel) (pCo c Tryz.f6) env L k
def law32_Small.E0 (e4_1 : (List (List T_s79))) (e4_2 : Int) (e4_3 : T_s26) (s4 : Int) : List AV := (dZ 28 ((.v (.slice (.slice E_s79)) (e4_1)) :: (.v (.int .i64) (e4_2)) :: (.v (.int .i64) (s4)) :: dZ 7 ([])))
def law32_Small.H0 (e4_1 : (List (List T_s79))) (e4_2 : Int) (e4_3 : T_s26) (s4 : Int) : Heap := [(.box E_s26 e4_3 false)]
noncomputable def law32_Small.M0 (fuel : Nat) (e4_1 : (List (List T_s79))) (e4_2 : Int) (e4_3 : T_s26)  (k : AV → Option Ω) (m : Nat) (s : Int) : Option Ω := loopK (law32_Small.V fuel 75) (mB 38 272998858751) [] 1 (blockK 0 (sqK (law32_Small.V fuel 15) (finK CDEKP Tryz.f6 k))) m ((law32_Small.E0 e4_1 e4_2 e4_3) s) ((law32_Small.H0 e4_1 e4_2 e4_3) s)
def law32_Small.b0 (e4_1 : (List (List T_s79))) (e4_2 : Int) (e4_3 : T_s26)   (k : Bool → Option Ω) (r4 : Int → Option Ω) (s4 : Int) : Option Ω :=
 bif (decide (s4 < e4_2)) then
 bif (idxOK s4 (List.length e4_1)) then
 bif (decide (((List.length (List.getD e4_1 (Int.toNat s4) []) : Nat) : Int) > 70)) then
 k false
 else
 r4 ((IntKind.wrap .i64 (s4 + 1)))
 else
 none
 else
 k true
theorem law32_Small.l0 (fuel : Nat) (e4_1 : (List (List T_s79))) (e4_2 : Int) (e4_3 : T_s26)  (k : AV → Option Ω) : ∀ m, (law32_Small.M0 fuel e4_1 e4_2 e4_3  k m) = iter (law32_Small.b0 e4_1 e4_2 e4_3  (fun r => k (tupAV .bool [] r))) m :=
 loopK_iter (envOf := (law32_Small.E0 e4_1 e4_2 e4_3)) (LOf := (law32_Small.H0 e4_1 e4_2 e4_3)) (B := law32_Small.b0 e4_1 e4_2 e4_3  (fun r => k (tupAV .bool [] r))) (fun R s => by kernel_rfl)
def law32_Small.sl (x0 : T_s26) (lp0 : (List (List T_s79)) → Int → T_s26 → Int → Option Ω) (k : Bool → Option Ω) : Option Ω :=
 (bif (decide (((List.length x0.1 : Nat) : Int) > 10)) then some (true, ()) else (bif (decide (((List.length x0.2.1 : Nat) : Int) > 20)) then some (true, ()) else (bif (decide (((List.length x0.2.2.1 : Nat) : Int) > 20)) then some (true, ()) else some ((decide (((List.length x0.2.2.2.2.1 : Nat) : Int) > 20)), ())))).bind fun j1 =>
 bif j1.1 then
 k false
 else
 lp0 x0.1 (((List.length x0.1 : Nat) : Int)) x0 (0)
def law32_Small.g0 (e4_1 : (List (List T_s79))) (e4_3 : T_s26)  (k : Bool → Option Ω) : List (List T_s79) → Option Ω
 | [] =>
 k true
 | x4 :: xs4 =>
 bif (decide (((List.length x4 : Nat) : Int) > 70)) then
 k false
 else
 law32_Small.g0 e4_1 e4_3  k xs4
theorem law32_Small.h0 (e4_1 : (List (List T_s79))) (e4_3 : T_s26)   (k : Bool → Option Ω) (hX : ((List.length e4_1 : Nat) : Int) ≤ 9223372036854775807) : ∀ (m : Nat) (i : Int) (a : Unit), 0 ≤ i → i ≤ ((List.length e4_1 : Nat) : Int) → ((List.length e4_1 : Nat) : Int) < m + i → Le (law32_Small.g0 e4_1 e4_3  k (List.drop (Int.toNat i) e4_1) ) (iter (law32_Small.b0 e4_1 (((List.length e4_1 : Nat) : Int)) e4_3  k) m (i)) :=
 iter_list e4_1 [] (fun (i4 : Int) (a4 : Unit) => (i4)) (fun xs i4 a4 => law32_Small.g0 e4_1 e4_3  k xs ) (law32_Small.b0 e4_1 (((List.length e4_1 : Nat) : Int)) e4_3  k)
 (fun i4 a4 r h0 => (Le.fls h0 (Le.refl _)))
 (fun i4 xs4 a4 r h0 h1 hw ih => (Le.tru h0 (Le.tru h1 (Le.cond (Le.refl _) (ih _ hw ())))))
 hX
def law32_Small.w (x0 : T_s26) (k : Bool → Option Ω) : Option Ω :=
 (bif (decide (((List.length x0.1 : Nat) : Int) > 10)) then some (true, ()) else (bif (decide (((List.length x0.2.1 : Nat) : Int) > 20)) then some (true, ()) else (bif (decide (((List.length x0.2.2.1 : Nat) : Int) > 20)) then some (true, ()) else some ((decide (((List.length x0.2.2.2.2.1 : Nat) : Int) > 20)), ())))).bind fun j1 =>
 bif j1.1 then
 k false
 else
 bif decide (((List.length x0.1 : Nat) : Int) ≤ 4611686018427387904) then law32_Small.g0 x0.1 x0  k x0.1  else none
theorem law32_Small.ev (fuel : Nat) (x0 : T_s26) (k : AV → Option Ω) : evFn CDEKP (spE (C := CDEKP) [] []) (law32_Small.F fuel) Tryz.f6 (Tryz.f6.body.getD .skip) [(.v E_s26 (x0))] k = law32_Small.sl x0 (fun e4_1 e4_2 e4_3 => (law32_Small.M0 fuel e4_1 e4_2 e4_3  k fuel)) (fun r => k (tupAV .bool [] r)) := by kernel_rfl
theorem law32_Small.le (x0 : T_s26) (k : AV → Option Ω) : Le (law32_Small.w x0 (fun r => k (tupAV .bool [] r))) (law32_Small.sl x0 (fun e4_1 e4_2 e4_3 => (law32_Small.M0 BIG e4_1 e4_2 e4_3  k BIG)) (fun r => k (tupAV .bool [] r))) := by
 have h1 := funext fun (e4_1 : (List (List T_s79))) => funext fun (e4_2 : Int) => funext fun (e4_3 : T_s26) => law32_Small.l0 BIG e4_1 e4_2 e4_3   k BIG
 rw [h1]
 delta law32_Small.w law32_Small.sl
 exact (Le.bnd fun j1 => (Le.cond (Le.refl _) (Le.gd fun hg => law32_Small.h0 _ _   _ (le_up (of_decide_eq_true hg)) BIG 0 () (by decide) (zero_le_len _) (big_list (of_decide_eq_true hg)))))
def law32_Small.u (x0 : T_s26) : Option (Bool) := law32_Small.w x0 some
noncomputable def law32_Small.n : En CDEKP := mkE CDEKP_ok (es := []) (ms := []) (fuel := (law32_Small.F BIG)) 6 Tryz.f6 [.ai E_s26] .bool [] (fun x {Ω} k => law32_Small.w x.1 k) (fun x Ω k => leV (law32_Small.ev BIG x.1 k) (law32_Small.le x.1 k)) (by kernel_rfl) (by kernel_rfl)
def conf_many.s (x0 : Int) (x1 : Int) (x2 : Int) (k : Int → Option Ω) : Option Ω :=
 bif (decide (x0 < x1)) then
 k 11
 else
 bif (decide (x0 > x2)) then
 k 5
 else
 k 0
def conf_many.t (x0 : Int) (x1 : Int) (x2 : Int) : Int :=
 bif (decide (x0 < x1)) then
 11
 else
 bif (decide (x0 > x2)) then
 5
 else
 0
theorem conf_many.v (x0 : Int) (x1 : Int) (x2 : Int) (k : Int → Option Ω) : conf_many.s x0 x1 x2 k = k (conf_many.t x0 x1 x2) := by
 delta conf_many.s conf_many.t; exact (cond_tot rfl (cond_tot rfl rfl))
noncomputable def conf_many.n : En CDEKP := mkT CDEKP_ok (es := []) (ms := []) (fuel := ⟨1, fun _ => []⟩) 162 Tryz.f162 [.ai (.int .i64), .ai (.int .i64), .ai (.int .i64)] (.int .i64) [] (fun x {Ω} k => conf_many.s x.1 x.2.1 x.2.2.1 k) (fun x => conf_many.t x.1 x.2.1 x.2.2.1) (fun x Ω k => by kernel_rfl) (fun x => conf_many.v x.1 x.2.1 x.2.2.1 some) (by kernel_rfl) (by kernel_rfl)
def conf_program.s (x0 : (List T_s79)) (k : Int → Option Ω) : Option Ω :=
 (prog_Check.u x0).bind fun y1 =>
 k y1.2
def conf_program.u (x0 : (List T_s79)) : Option (Int) := conf_program.s x0 some
noncomputable def conf_program.n : En CDEKP := mkE CDEKP_ok (es := [prog_Check.n]) (ms := []) (fuel := ⟨1, fun _ => []⟩) 164 Tryz.f164 [.ai (.slice E_s79)] (.int .i64) [] (fun x {Ω} k => conf_program.s x.1 k) (fun x Ω k => Le.of (by kernel_rfl)) (by kernel_rfl) (by kernel_rfl)
def conf_first_api_Instr__conf_program.F (fuel : Nat) : Fuel := ⟨fuel, fun r => bif r == 2 then mL 0 24 16773629 else []⟩
noncomputable def conf_first_api_Instr__conf_program.V (fuel c : Nat) (env : List AV) (L : Heap) (k : Kont Ω) : Option Ω := evCode CDEKP (spE (C := CDEKP) [conf_program.n] []) (conf_first_api_Instr__conf_program.F fuel) (pCo c Tryz.f163) env L k
def conf_first_api_Instr__conf_program.E0 (e2_1 : (List (List T_s79))) (e2_2 : Int) (s2 : Int) : List AV := (dZ 1 ((.fn 164 []) :: dZ 7 ((.v (.slice (.slice E_s79)) (e2_1)) :: (.v (.int .i64) (e2_2)) :: (.v (.int .i64) (s2)) :: dZ 12 ([]))))
def conf_first_api_Instr__conf_program.H0 (e2_1 : (List (List T_s79))) (e2_2 : Int) (s2 : Int) : Heap := []
noncomputable def conf_first_api_Instr__conf_program.M0 (fuel : Nat) (e2_1 : (List (List T_s79))) (e2_2 : Int)  (k : AV → Option Ω) (m : Nat) (s : Int) : Option Ω := loopK (conf_first_api_Instr__conf_program.V fuel 37) (mB 24 16773629) [] 0 (blockK 0 (sqK (conf_first_api_Instr__conf_program.V fuel 7) (finK CDEKP Tryz.f163 k))) m ((conf_first_api_Instr__conf_program.E0 e2_1 e2_2) s) ((conf_first_api_Instr__conf_program.H0 e2_1 e2_2) s)
def conf_first_api_Instr__conf_program.b0 (e2_1 : (List (List T_s79))) (e2_2 : Int)   (k : Int × Int → Option Ω) (r2 : Int → Option Ω) (s2 : Int) : Option Ω :=
 bif (decide (s2 < e2_2)) then
 bif (idxOK s2 (List.length e2_1)) then
 (conf_program.u ((List.getD e2_1 (Int.toNat s2) []))).bind fun y1 =>
 bif (y1 != 0) then
 k (s2, y1)
 else
 r2 ((IntKind.wrap .i64 (s2 + 1)))
 else
 none
 else
 k (0, 0)
theorem conf_first_api_Instr__conf_program.l0 (fuel : Nat) (e2_1 : (List (List T_s79))) (e2_2 : Int)  (k : AV → Option Ω) : ∀ m, (conf_first_api_Instr__conf_program.M0 fuel e2_1 e2_2  k m) = iter (conf_first_api_Instr__conf_program.b0 e2_1 e2_2  (fun r => k (tupAV (.int .i64) [(.int .i64)] r))) m :=
 loopK_iter (envOf := (conf_first_api_Instr__conf_program.E0 e2_1 e2_2)) (LOf := (conf_first_api_Instr__conf_program.H0 e2_1 e2_2)) (B := conf_first_api_Instr__conf_program.b0 e2_1 e2_2  (fun r => k (tupAV (.int .i64) [(.int .i64)] r))) (fun R s => by kernel_rfl)
def conf_first_api_Instr__conf_program.sl (x0 : (List (List T_s79))) (lp0 : (List (List T_s79)) → Int → Int → Option Ω) (k : Int × Int → Option Ω) : Option Ω :=
 lp0 x0 (((List.length x0 : Nat) : Int)) (0)
def conf_first_api_Instr__conf_program.g0 (e2_1 : (List (List T_s79)))  (k : Int × Int → Option Ω) : List (List T_s79) → Int → Option Ω
 | [], i2 =>
 k (0, 0)
 | x2 :: xs2, i2 =>
 (conf_program.u (x2)).bind fun y1 =>
 bif (y1 != 0) then
 k (i2, y1)
 else
 conf_first_api_Instr__conf_program.g0 e2_1  k xs2 (i2 + 1)
theorem conf_first_api_Instr__conf_program.h0 (e2_1 : (List (List T_s79)))   (k : Int × Int → Option Ω) (hX : ((List.length e2_1 : Nat) : Int) ≤ 9223372036854775807) : ∀ (m : Nat) (i : Int) (a : Unit), 0 ≤ i → i ≤ ((List.length e2_1 : Nat) : Int) → ((List.length e2_1 : Nat) : Int) < m + i → Le (conf_first_api_Instr__conf_program.g0 e2_1  k (List.drop (Int.toNat i) e2_1) i) (iter (conf_first_api_Instr__conf_program.b0 e2_1 (((List.length e2_1 : Nat) : Int))  k) m (i)) :=
 iter_list e2_1 [] (fun (i2 : Int) (a2 : Unit) => (i2)) (fun xs i2 a2 => conf_first_api_Instr__conf_program.g0 e2_1  k xs i2) (conf_first_api_Instr__conf_program.b0 e2_1 (((List.length e2_1 : Nat) : Int))  k)
 (fun i2 a2 r h0 => (Le.fls h0 (Le.refl _)))
 (fun i2 xs2 a2 r h0 h1 hw ih => (Le.tru h0 (Le.tru h1 (Le.bnd fun y1 => (Le.cond (Le.refl _) (ih _ hw ()))))))
 hX
def conf_first_api_Instr__conf_program.w (x0 : (List (List T_s79))) (k : Int × Int → Option Ω) : Option Ω :=
 bif decide (((List.length x0 : Nat) : Int) ≤ 4611686018427387904) then conf_first_api_Instr__conf_program.g0 x0  k x0 0 else none
theorem conf_first_api_Instr__conf_program.ev (fuel : Nat) (x0 : (List (List T_s79))) (k : AV → Option Ω) : evFn CDEKP (spE (C := CDEKP) [conf_program.n] []) (conf_first_api_Instr__conf_program.F fuel) Tryz.f163 (Tryz.f163.body.getD .skip) [(.v (.slice (.slice E_s79)) (x0)), (.fn 164 [])] k = conf_first_api_Instr__conf_program.sl x0 (fun e2_1 e2_2 => (conf_first_api_Instr__conf_program.M0 fuel e2_1 e2_2  k fuel)) (fun r => k (tupAV (.int .i64) [(.int .i64)] r)) := by kernel_rfl
theorem conf_first_api_Instr__conf_program.le (x0 : (List (List T_s79))) (k : AV → Option Ω) : Le (conf_first_api_Instr__conf_program.w x0 (fun r => k (tupAV (.int .i64) [(.int .i64)] r))) (conf_first_api_Instr__conf_program.sl x0 (fun e2_1 e2_2 => (conf_first_api_Instr__conf_program.M0 BIG e2_1 e2_2  k BIG)) (fun r => k (tupAV (.int .i64) [(.int .i64)] r))) := by
 have h1 := funext fun (e2_1 : (List (List T_s79))) => funext fun (e2_2 : Int) => conf_first_api_Instr__conf_program.l0 BIG e2_1 e2_2   k BIG
 rw [h1]
 delta conf_first_api_Instr__conf_program.w conf_first_api_Instr__conf_program.sl
 exact (Le.gd fun hg => conf_first_api_Instr__conf_program.h0 _   _ (le_up (of_decide_eq_true hg)) BIG 0 () (by decide) (zero_le_len _) (big_list (of_decide_eq_true hg)))
def conf_first_api_Instr__conf_program.u (x0 : (List (List T_s79))) : Option (Int × Int) := conf_first_api_Instr__conf_program.w x0 some
noncomputable def conf_first_api_Instr__conf_program.n : En CDEKP := mkE CDEKP_ok (es := [conf_program.n]) (ms := []) (fuel := (conf_first_api_Instr__conf_program.F BIG)) 163 Tryz.f163 [.ai (.slice (.slice E_s79)), .af0 164] (.int .i64) [(.int .i64)] (fun x {Ω} k => conf_first_api_Instr__conf_program.w x.1 k) (fun x Ω k => leV (conf_first_api_Instr__conf_program.ev BIG x.1 k) (conf_first_api_Instr__conf_program.le x.1 k)) (by kernel_rfl) (by kernel_rfl)
def conf_first_api_Chan__channel_Check.F (fuel : Nat) : Fuel := ⟨fuel, fun r => bif r == 2 then mL 0 24 16773629 else []⟩
noncomputable def conf_first_api_Chan__channel_Check.V (fuel c : Nat) (env : List AV) (L : Heap) (k : Kont Ω) : Option Ω := evCode CDEKP (spE (C := CDEKP) [channel_Check.n] []) (conf_first_api_Chan__channel_Check.F fuel) (pCo c Tryz.f165) env L k
def conf_first_api_Chan__channel_Check.E0 (e2_1 : (List T_s110)) (e2_2 : Int) (s2 : Int) : List AV := (dZ 1 ((.fn 166 []) :: dZ 7 ((.v (.slice E_s110) (e2_1)) :: (.v (.int .i64) (e2_2)) :: (.v (.int .i64) (s2)) :: dZ 12 ([]))))
def conf_first_api_Chan__channel_Check.H0 (e2_1 : (List T_s110)) (e2_2 : Int) (s2 : Int) : Heap := []
noncomputable def conf_first_api_Chan__channel_Check.M0 (fuel : Nat) (e2_1 : (List T_s110)) (e2_2 : Int)  (k : AV → Option Ω) (m : Nat) (s : Int) : Option Ω := loopK (conf_first_api_Chan__channel_Check.V fuel 37) (mB 24 16773629) [] 0 (blockK 0 (sqK (conf_first_api_Chan__channel_Check.V fuel 7) (finK CDEKP Tryz.f165 k))) m ((conf_first_api_Chan__channel_Check.E0 e2_1 e2_2) s) ((conf_first_api_Chan__channel_Check.H0 e2_1 e2_2) s)
def conf_first_api_Chan__channel_Check.b0 (e2_1 : (List T_s110)) (e2_2 : Int)   (k : Int × Int → Option Ω) (r2 : Int → Option Ω) (s2 : Int) : Option Ω :=
 bif (decide (s2 < e2_2)) then
 bif (idxOK s2 (List.length e2_1)) then
 bif ((channel_Check.t ((List.getD e2_1 (Int.toNat s2) (0, (0, (0, (0, ()))))))) != 0) then
 k (s2, (channel_Check.t ((List.getD e2_1 (Int.toNat s2) (0, (0, (0, (0, ()))))))))
 else
 r2 ((IntKind.wrap .i64 (s2 + 1)))
 else
 none
 else
 k (0, 0)
theorem conf_first_api_Chan__channel_Check.l0 (fuel : Nat) (e2_1 : (List T_s110)) (e2_2 : Int)  (k : AV → Option Ω) : ∀ m, (conf_first_api_Chan__channel_Check.M0 fuel e2_1 e2_2  k m) = iter (conf_first_api_Chan__channel_Check.b0 e2_1 e2_2  (fun r => k (tupAV (.int .i64) [(.int .i64)] r))) m :=
 loopK_iter (envOf := (conf_first_api_Chan__channel_Check.E0 e2_1 e2_2)) (LOf := (conf_first_api_Chan__channel_Check.H0 e2_1 e2_2)) (B := conf_first_api_Chan__channel_Check.b0 e2_1 e2_2  (fun r => k (tupAV (.int .i64) [(.int .i64)] r))) (fun R s => by kernel_rfl)
def conf_first_api_Chan__channel_Check.sl (x0 : (List T_s110)) (lp0 : (List T_s110) → Int → Int → Option Ω) (k : Int × Int → Option Ω) : Option Ω :=
 lp0 x0 (((List.length x0 : Nat) : Int)) (0)
def conf_first_api_Chan__channel_Check.g0 (e2_1 : (List T_s110))  (k : Int × Int → Option Ω) : List T_s110 → Int → Option Ω
 | [], i2 =>
 k (0, 0)
 | x2 :: xs2, i2 =>
 bif ((channel_Check.t (x2)) != 0) then
 k (i2, (channel_Check.t (x2)))
 else
 conf_first_api_Chan__channel_Check.g0 e2_1  k xs2 (i2 + 1)
theorem conf_first_api_Chan__channel_Check.h0 (e2_1 : (List T_s110))   (k : Int × Int → Option Ω) (hX : ((List.length e2_1 : Nat) : Int) ≤ 9223372036854775807) : ∀ (m : Nat) (i : Int) (a : Unit), 0 ≤ i → i ≤ ((List.length e2_1 : Nat) : Int) → ((List.length e2_1 : Nat) : Int) < m + i → Le (conf_first_api_Chan__channel_Check.g0 e2_1  k (List.drop (Int.toNat i) e2_1) i) (iter (conf_first_api_Chan__channel_Check.b0 e2_1 (((List.length e2_1 : Nat) : Int))  k) m (i)) :=
 iter_list e2_1 (0, (0, (0, (0, ())))) (fun (i2 : Int) (a2 : Unit) => (i2)) (fun xs i2 a2 => conf_first_api_Chan__channel_Check.g0 e2_1  k xs i2) (conf_first_api_Chan__channel_Check.b0 e2_1 (((List.length e2_1 : Nat) : Int))  k)
 (fun i2 a2 r h0 => (Le.fls h0 (Le.refl _)))
 (fun i2 xs2 a2 r h0 h1 hw ih => (Le.tru h0 (Le.tru h1 (Le.cond (Le.refl _) (ih _ hw ())))))
 hX
def conf_first_api_Chan__channel_Check.w (x0 : (List T_s110)) (k : Int × Int → Option Ω) : Option Ω :=
 bif decide (((List.length x0 : Nat) : Int) ≤ 4611686018427387904) then conf_first_api_Chan__channel_Check.g0 x0  k x0 0 else none
theorem conf_first_api_Chan__channel_Check.ev (fuel : Nat) (x0 : (List T_s110)) (k : AV → Option Ω) : evFn CDEKP (spE (C := CDEKP) [channel_Check.n] []) (conf_first_api_Chan__channel_Check.F fuel) Tryz.f165 (Tryz.f165.body.getD .skip) [(.v (.slice E_s110) (x0)), (.fn 166 [])] k = conf_first_api_Chan__channel_Check.sl x0 (fun e2_1 e2_2 => (conf_first_api_Chan__channel_Check.M0 fuel e2_1 e2_2  k fuel)) (fun r => k (tupAV (.int .i64) [(.int .i64)] r)) := by kernel_rfl
theorem conf_first_api_Chan__channel_Check.le (x0 : (List T_s110)) (k : AV → Option Ω) : Le (conf_first_api_Chan__channel_Check.w x0 (fun r => k (tupAV (.int .i64) [(.int .i64)] r))) (conf_first_api_Chan__channel_Check.sl x0 (fun e2_1 e2_2 => (conf_first_api_Chan__channel_Check.M0 BIG e2_1 e2_2  k BIG)) (fun r => k (tupAV (.int .i64) [(.int .i64)] r))) := by
 have h1 := funext fun (e2_1 : (List T_s110)) => funext fun (e2_2 : Int) => conf_first_api_Chan__channel_Check.l0 BIG e2_1 e2_2   k BIG
 rw [h1]
 delta conf_first_api_Chan__channel_Check.w conf_first_api_Chan__channel_Check.sl
 exact (Le.gd fun hg => conf_first_api_Chan__channel_Check.h0 _   _ (le_up (of_decide_eq_true hg)) BIG 0 () (by decide) (zero_le_len _) (big_list (of_decide_eq_true hg)))
def conf_first_api_Chan__channel_Check.u (x0 : (List T_s110)) : Option (Int × Int) := conf_first_api_Chan__channel_Check.w x0 some
noncomputable def conf_first_api_Chan__channel_Check.n : En CDEKP := mkE CDEKP_ok (es := [channel_Check.n]) (ms := []) (fuel := (conf_first_api_Chan__channel_Check.F BIG)) 165 Tryz.f165 [.ai (.slice E_s110), .af0 166] (.int .i64) [(.int .i64)] (fun x {Ω} k => conf_first_api_Chan__channel_Check.w x.1 k) (fun x Ω k => leV (conf_first_api_Chan__channel_Check.ev BIG x.1 k) (conf_first_api_Chan__channel_Check.le x.1 k)) (by kernel_rfl) (by kernel_rfl)
def conf_first_api_Barrier__barrier_Check.F (fuel : Nat) : Fuel := ⟨fuel, fun r => bif r == 2 then mL 0 24 16773629 else []⟩
noncomputable def conf_first_api_Barrier__barrier_Check.V (fuel c : Nat) (env : List AV) (L : Heap) (k : Kont Ω) : Option Ω := evCode CDEKP (spE (C := CDEKP) [barrier_Check.n] []) (conf_first_api_Barrier__barrier_Check.F fuel) (pCo c Tryz.f167) env L k
def conf_first_api_Barrier__barrier_Check.E0 (e2_1 : (List T_s74)) (e2_2 : Int) (s2 : Int) : List AV := (dZ 1 ((.fn 168 []) :: dZ 7 ((.v (.slice E_s74) (e2_1)) :: (.v (.int .i64) (e2_2)) :: (.v (.int .i64) (s2)) :: dZ 12 ([]))))
def conf_first_api_Barrier__barrier_Check.H0 (e2_1 : (List T_s74)) (e2_2 : Int) (s2 : Int) : Heap := []
noncomputable def conf_first_api_Barrier__barrier_Check.M0 (fuel : Nat) (e2_1 : (List T_s74)) (e2_2 : Int)  (k : AV → Option Ω) (m : Nat) (s : Int) : Option Ω := loopK (conf_first_api_Barrier__barrier_Check.V fuel 37) (mB 24 16773629) [] 0 (blockK 0 (sqK (conf_first_api_Barrier__barrier_Check.V fuel 7) (finK CDEKP Tryz.f167 k))) m ((conf_first_api_Barrier__barrier_Check.E0 e2_1 e2_2) s) ((conf_first_api_Barrier__barrier_Check.H0 e2_1 e2_2) s)
def conf_first_api_Barrier__barrier_Check.b0 (e2_1 : (List T_s74)) (e2_2 : Int)   (k : Int × Int → Option Ω) (r2 : Int → Option Ω) (s2 : Int) : Option Ω :=
 bif (decide (s2 < e2_2)) then
 bif (idxOK s2 (List.length e2_1)) then
 bif ((barrier_Check.t ((List.getD e2_1 (Int.toNat s2) (false, (0, ()))))) != 0) then
 k (s2, (barrier_Check.t ((List.getD e2_1 (Int.toNat s2) (false, (0, ()))))))
 else
 r2 ((IntKind.wrap .i64 (s2 + 1)))
 else
 none
 else
 k (0, 0)
theorem conf_first_api_Barrier__barrier_Check.l0 (fuel : Nat) (e2_1 : (List T_s74)) (e2_2 : Int)  (k : AV → Option Ω) : ∀ m, (conf_first_api_Barrier__barrier_Check.M0 fuel e2_1 e2_2  k m) = iter (conf_first_api_Barrier__barrier_Check.b0 e2_1 e2_2  (fun r => k (tupAV (.int .i64) [(.int .i64)] r))) m :=
 loopK_iter (envOf := (conf_first_api_Barrier__barrier_Check.E0 e2_1 e2_2)) (LOf := (conf_first_api_Barrier__barrier_Check.H0 e2_1 e2_2)) (B := conf_first_api_Barrier__barrier_Check.b0 e2_1 e2_2  (fun r => k (tupAV (.int .i64) [(.int .i64)] r))) (fun R s => by kernel_rfl)
def conf_first_api_Barrier__barrier_Check.sl (x0 : (List T_s74)) (lp0 : (List T_s74) → Int → Int → Option Ω) (k : Int × Int → Option Ω) : Option Ω :=
 lp0 x0 (((List.length x0 : Nat) : Int)) (0)
def conf_first_api_Barrier__barrier_Check.g0 (e2_1 : (List T_s74))  (k : Int × Int → Option Ω) : List T_s74 → Int → Option Ω
 | [], i2 =>
 k (0, 0)
 | x2 :: xs2, i2 =>
 bif ((barrier_Check.t (x2)) != 0) then
 k (i2, (barrier_Check.t (x2)))
 else
 conf_first_api_Barrier__barrier_Check.g0 e2_1  k xs2 (i2 + 1)
theorem conf_first_api_Barrier__barrier_Check.h0 (e2_1 : (List T_s74))   (k : Int × Int → Option Ω) (hX : ((List.length e2_1 : Nat) : Int) ≤ 9223372036854775807) : ∀ (m : Nat) (i : Int) (a : Unit), 0 ≤ i → i ≤ ((List.length e2_1 : Nat) : Int) → ((List.length e2_1 : Nat) : Int) < m + i → Le (conf_first_api_Barrier__barrier_Check.g0 e2_1  k (List.drop (Int.toNat i) e2_1) i) (iter (conf_first_api_Barrier__barrier_Check.b0 e2_1 (((List.length e2_1 : Nat) : Int))  k) m (i)) :=
 iter_list e2_1 (false, (0, ())) (fun (i2 : Int) (a2 : Unit) => (i2)) (fun xs i2 a2 => conf_first_api_Barrier__barrier_Check.g0 e2_1  k xs i2) (conf_first_api_Barrier__barrier_Check.b0 e2_1 (((List.length e2_1 : Nat) : Int))  k)
 (fun i2 a2 r h0 => (Le.fls h0 (Le.refl _)))
 (fun i2 xs2 a2 r h0 h1 hw ih => (Le.tru h0 (Le.tru h1 (Le.cond (Le.refl _) (ih _ hw ())))))
 hX
def conf_first_api_Barrier__barrier_Check.w (x0 : (List T_s74)) (k : Int × Int → Option Ω) : Option Ω :=
 bif decide (((List.length x0 : Nat) : Int) ≤ 4611686018427387904) then conf_first_api_Barrier__barrier_Check.g0 x0  k x0 0 else none
theorem conf_first_api_Barrier__barrier_Check.ev (fuel : Nat) (x0 : (List T_s74)) (k : AV → Option Ω) : evFn CDEKP (spE (C := CDEKP) [barrier_Check.n] []) (conf_first_api_Barrier__barrier_Check.F fuel) Tryz.f167 (Tryz.f167.body.getD .skip) [(.v (.slice E_s74) (x0)), (.fn 168 [])] k = conf_first_api_Barrier__barrier_Check.sl x0 (fun e2_1 e2_2 => (conf_first_api_Barrier__barrier_Check.M0 fuel e2_1 e2_2  k fuel)) (fun r => k (tupAV (.int .i64) [(.int .i64)] r)) := by kernel_rfl
theorem conf_first_api_Barrier__barrier_Check.le (x0 : (List T_s74)) (k : AV → Option Ω) : Le (conf_first_api_Barrier__barrier_Check.w x0 (fun r => k (tupAV (.int .i64) [(.int .i64)] r))) (conf_first_api_Barrier__barrier_Check.sl x0 (fun e2_1 e2_2 => (conf_first_api_Barrier__barrier_Check.M0 BIG e2_1 e2_2  k BIG)) (fun r => k (tupAV (.int .i64) [(.int .i64)] r))) := by
 have h1 := funext fun (e2_1 : (List T_s74)) => funext fun (e2_2 : Int) => conf_first_api_Barrier__barrier_Check.l0 BIG e2_1 e2_2   k BIG
 rw [h1]
 delta conf_first_api_Barrier__barrier_Check.w conf_first_api_Barrier__barrier_Check.sl
 exact (Le.gd fun hg => conf_first_api_Barrier__barrier_Check.h0 _   _ (le_up (of_decide_eq_true hg)) BIG 0 () (by decide) (zero_le_len _) (big_list (of_decide_eq_true hg)))
def conf_first_api_Barrier__barrier_Check.u (x0 : (List T_s74)) : Option (Int × Int) := conf_first_api_Barrier__barrier_Check.w x0 some
noncomputable def conf_first_api_Barrier__barrier_Check.n : En CDEKP := mkE CDEKP_ok (es := [barrier_Check.n]) (ms := []) (fuel := (conf_first_api_Barrier__barrier_Check.F BIG)) 167 Tryz.f167 [.ai (.slice E_s74), .af0 168] (.int .i64) [(.int .i64)] (fun x {Ω} k => conf_first_api_Barrier__barrier_Check.w x.1 k) (fun x Ω k => leV (conf_first_api_Barrier__barrier_Check.ev BIG x.1 k) (conf_first_api_Barrier__barrier_Check.le x.1 k)) (by kernel_rfl) (by kernel_rfl)
def conf_buckets.s (x0 : Int) (k : Int → Option Ω) : Option Ω :=
 (bif (decide (x0 < 0)) then some (true, ()) else some ((decide (x0 > 4)), ())).bind fun j1 =>
 bif j1.1 then
 k 8
 else
 k 0
def conf_buckets.t (x0 : Int) : Int :=
 let j1 : Bool × Unit := (bif (decide (x0 < 0)) then (true, ()) else ((decide (x0 > 4)), ()))
 bif j1.1 then
 8
 else
 0
theorem conf_buckets.v (x0 : Int) (k : Int → Option Ω) : conf_buckets.s x0 k = k (conf_buckets.t x0) := by
 delta conf_buckets.s conf_buckets.t; exact (join_tot (cond_some rfl rfl) (cond_tot rfl rfl))
noncomputable def conf_buckets.n : En CDEKP := mkT CDEKP_ok (es := []) (ms := []) (fuel := ⟨1, fun r => bif r == 2000001 then [3, 4, 5, 6, 7, 5008] else []⟩) 169 Tryz.f169 [.ai (.int .i64)] (.int .i64) [] (fun x {Ω} k => conf_buckets.s x.1 k) (fun x => conf_buckets.t x.1) (fun x Ω k => by kernel_rfl) (fun x => conf_buckets.v x.1 some) (by kernel_rfl) (by kernel_rfl)
def conf_start.s (x0 : T_s63) (x1 : Int) (x2 : Int) (k : Int → Option Ω) : Option Ω :=
 (bif (decide (x0.1 < 0)) then some (true, ()) else (bif (decide (x0.1 ≥ x1)) then some (true, ()) else (bif (!(word_Fine.t x0.2.1)) then some (true, ()) else (bif (decide (x0.2.2.1 < 0)) then some (true, ()) else (bif (decide ((0 : Int) ≤ x2)) then (let v1 : Bool := (decide (x0.2.2.1 ≥ (IntKind.wrap .i64 ((1 : Int) * (2 ^ (min (Int.toNat x2) (IntKind.bits .i64))))))); some (v1, ())) else none))))).bind fun j2 =>
 bif j2.1 then
 k 8
 else
 k 0
def conf_start.u (x0 : T_s63) (x1 : Int) (x2 : Int) : Option (Int) := conf_start.s x0 x1 x2 some
noncomputable def conf_start.n : En CDEKP := mkE CDEKP_ok (es := [word_Fine.n]) (ms := []) (fuel := ⟨1, fun r => bif r == 2000001 then [7, 8, 9, 10, 11, 12, 13, 14, 15, 16, 17, 18, 19, 20, 21, 22, 23, 24, 25, 26, 27, 28, 29, 30, 31, 32, 5033] else []⟩) 172 Tryz.f172 [.ai E_s63, .ai (.int .i64), .ai (.int .i64)] (.int .i64) [] (fun x {Ω} k => conf_start.s x.1 x.2.1 x.2.2.1 k) (fun x Ω k => Le.of (by kernel_rfl)) (by kernel_rfl) (by kernel_rfl)
def conf_part_1.s (x0 : T_s63) (x1 : T_s26) (k : Int → Option Ω) : Option Ω :=
 (conf_start.u x0 (((List.length x1.1 : Nat) : Int)) (((List.length x1.2.2.1 : Nat) : Int))).bind fun y1 =>
 k y1
def conf_part_1.u (x0 : T_s63) (x1 : T_s26) : Option (Int) := conf_part_1.s x0 x1 some
noncomputable def conf_part_1.n : En CDEKP := mkE CDEKP_ok (es := [conf_start.n]) (ms := []) (fuel := ⟨1, fun _ => []⟩) 171 Tryz.f171 [.ai E_s63, .ap E_s26] (.int .i64) [] (fun x {Ω} k => conf_part_1.s x.1 x.2.1 k) (fun x Ω k => Le.of (by kernel_rfl)) (by kernel_rfl) (by kernel_rfl)
def conf_first_api_Start__conf_part_1.F (fuel : Nat) : Fuel := ⟨fuel, fun r => bif r == 2 then mL 0 24 16773629 else []⟩
noncomputable def conf_first_api_Start__conf_part_1.V (fuel c : Nat) (env : List AV) (L : Heap) (k : Kont Ω) : Option Ω := evCode CDEKP (spE (C := CDEKP) [conf_part_1.n] []) (conf_first_api_Start__conf_part_1.F fuel) (pCo c Tryz.f170) env L k
def conf_first_api_Start__conf_part_1.E0 (e2_1 : T_s26) (e2_2 : (List T_s63)) (e2_3 : Int) (s2 : Int) : List AV := (dZ 1 ((.fn 171 [(.vp E_s26 e2_1 [])]) :: dZ 7 ((.v (.slice E_s63) (e2_2)) :: (.v (.int .i64) (e2_3)) :: (.v (.int .i64) (s2)) :: dZ 12 ([]))))
def conf_first_api_Start__conf_part_1.H0 (e2_1 : T_s26) (e2_2 : (List T_s63)) (e2_3 : Int) (s2 : Int) : Heap := []
noncomputable def conf_first_api_Start__conf_part_1.M0 (fuel : Nat) (e2_1 : T_s26) (e2_2 : (List T_s63)) (e2_3 : Int)  (k : AV → Option Ω) (m : Nat) (s : Int) : Option Ω := loopK (conf_first_api_Start__conf_part_1.V fuel 37) (mB 24 16773629) [] 0 (blockK 0 (sqK (conf_first_api_Start__conf_part_1.V fuel 7) (finK CDEKP Tryz.f170 k))) m ((conf_first_api_Start__conf_part_1.E0 e2_1 e2_2 e2_3) s) ((conf_first_api_Start__conf_part_1.H0 e2_1 e2_2 e2_3) s)
def conf_first_api_Start__conf_part_1.b0 (e2_1 : T_s26) (e2_2 : (List T_s63)) (e2_3 : Int)   (k : Int × Int → Option Ω) (r2 : Int → Option Ω) (s2 : Int) : Option Ω :=
 bif (decide (s2 < e2_3)) then
 bif (idxOK s2 (List.length e2_2)) then
 (conf_part_1.u ((List.getD e2_2 (Int.toNat s2) (0, (0, (0, ()))))) e2_1).bind fun y1 =>
 bif (y1 != 0) then
 k (s2, y1)
 else
 r2 ((IntKind.wrap .i64 (s2 + 1)))
 else
 none
 else
 k (0, 0)
theorem conf_first_api_Start__conf_part_1.l0 (fuel : Nat) (e2_1 : T_s26) (e2_2 : (List T_s63)) (e2_3 : Int)  (k : AV → Option Ω) : ∀ m, (conf_first_api_Start__conf_part_1.M0 fuel e2_1 e2_2 e2_3  k m) = iter (conf_first_api_Start__conf_part_1.b0 e2_1 e2_2 e2_3  (fun r => k (tupAV (.int .i64) [(.int .i64)] r))) m :=
 loopK_iter (envOf := (conf_first_api_Start__conf_part_1.E0 e2_1 e2_2 e2_3)) (LOf := (conf_first_api_Start__conf_part_1.H0 e2_1 e2_2 e2_3)) (B := conf_first_api_Start__conf_part_1.b0 e2_1 e2_2 e2_3  (fun r => k (tupAV (.int .i64) [(.int .i64)] r))) (fun R s => by kernel_rfl)
def conf_first_api_Start__conf_part_1.sl (x0 : (List T_s63)) (c1_0 : T_s26) (lp0 : T_s26 → (List T_s63) → Int → Int → Option Ω) (k : Int × Int → Option Ω) : Option Ω :=
 lp0 c1_0 x0 (((List.length x0 : Nat) : Int)) (0)
def conf_first_api_Start__conf_part_1.g0 (e2_1 : T_s26) (e2_2 : (List T_s63))  (k : Int × Int → Option Ω) : List T_s63 → Int → Option Ω
 | [], i2 =>
 k (0, 0)
 | x2 :: xs2, i2 =>
 (conf_part_1.u (x2) e2_1).bind fun y1 =>
 bif (y1 != 0) then
 k (i2, y1)
 else
 conf_first_api_Start__conf_part_1.g0 e2_1 e2_2  k xs2 (i2 + 1)
theorem conf_first_api_Start__conf_part_1.h0 (e2_1 : T_s26) (e2_2 : (List T_s63))   (k : Int × Int → Option Ω) (hX : ((List.length e2_2 : Nat) : Int) ≤ 9223372036854775807) : ∀ (m : Nat) (i : Int) (a : Unit), 0 ≤ i → i ≤ ((List.length e2_2 : Nat) : Int) → ((List.length e2_2 : Nat) : Int) < m + i → Le (conf_first_api_Start__conf_part_1.g0 e2_1 e2_2  k (List.drop (Int.toNat i) e2_2) i) (iter (conf_first_api_Start__conf_part_1.b0 e2_1 e2_2 (((List.length e2_2 : Nat) : Int))  k) m (i)) :=
 iter_list e2_2 (0, (0, (0, ()))) (fun (i2 : Int) (a2 : Unit) => (i2)) (fun xs i2 a2 => conf_first_api_Start__conf_part_1.g0 e2_1 e2_2  k xs i2) (conf_first_api_Start__conf_part_1.b0 e2_1 e2_2 (((List.length e2_2 : Nat) : Int))  k)
 (fun i2 a2 r h0 => (Le.fls h0 (Le.refl _)))
 (fun i2 xs2 a2 r h0 h1 hw ih => (Le.tru h0 (Le.tru h1 (Le.bnd fun y1 => (Le.cond (Le.refl _) (ih _ hw ()))))))
 hX
def conf_first_api_Start__conf_part_1.w (x0 : (List T_s63)) (c1_0 : T_s26) (k : Int × Int → Option Ω) : Option Ω :=
 bif decide (((List.length x0 : Nat) : Int) ≤ 4611686018427387904) then conf_first_api_Start__conf_part_1.g0 c1_0 x0  k x0 0 else none
theorem conf_first_api_Start__conf_part_1.ev (fuel : Nat) (x0 : (List T_s63)) (c1_0 : T_s26) (k : AV → Option Ω) : evFn CDEKP (spE (C := CDEKP) [conf_part_1.n] []) (conf_first_api_Start__conf_part_1.F fuel) Tryz.f170 (Tryz.f170.body.getD .skip) [(.v (.slice E_s63) (x0)), (.fn 171 [(.vp E_s26 c1_0 [])])] k = conf_first_api_Start__conf_part_1.sl x0 c1_0 (fun e2_1 e2_2 e2_3 => (conf_first_api_Start__conf_part_1.M0 fuel e2_1 e2_2 e2_3  k fuel)) (fun r => k (tupAV (.int .i64) [(.int .i64)] r)) := by kernel_rfl
theorem conf_first_api_Start__conf_part_1.le (x0 : (List T_s63)) (c1_0 : T_s26) (k : AV → Option Ω) : Le (conf_first_api_Start__conf_part_1.w x0 c1_0 (fun r => k (tupAV (.int .i64) [(.int .i64)] r))) (conf_first_api_Start__conf_part_1.sl x0 c1_0 (fun e2_1 e2_2 e2_3 => (conf_first_api_Start__conf_part_1.M0 BIG e2_1 e2_2 e2_3  k BIG)) (fun r => k (tupAV (.int .i64) [(.int .i64)] r))) := by
 have h1 := funext fun (e2_1 : T_s26) => funext fun (e2_2 : (List T_s63)) => funext fun (e2_3 : Int) => conf_first_api_Start__conf_part_1.l0 BIG e2_1 e2_2 e2_3   k BIG
 rw [h1]
 delta conf_first_api_Start__conf_part_1.w conf_first_api_Start__conf_part_1.sl
 exact (Le.gd fun hg => conf_first_api_Start__conf_part_1.h0 _ _   _ (le_up (of_decide_eq_true hg)) BIG 0 () (by decide) (zero_le_len _) (big_list (of_decide_eq_true hg)))
def conf_first_api_Start__conf_part_1.u (x0 : (List T_s63)) (c1_0 : T_s26) : Option (Int × Int) := conf_first_api_Start__conf_part_1.w x0 c1_0 some
noncomputable def conf_first_api_Start__conf_part_1.n : En CDEKP := mkE CDEKP_ok (es := [conf_part_1.n]) (ms := []) (fuel := (conf_first_api_Start__conf_part_1.F BIG)) 170 Tryz.f170 [.ai (.slice E_s63), .af1 171 E_s26] (.int .i64) [(.int .i64)] (fun x {Ω} k => conf_first_api_Start__conf_part_1.w x.1 x.2.1 k) (fun x Ω k => leV (conf_first_api_Start__conf_part_1.ev BIG x.1 x.2.1 k) (conf_first_api_Start__conf_part_1.le x.1 x.2.1 k)) (by kernel_rfl) (by kernel_rfl)
def conf_part.s (x0 : T_s26) (x1 : Int) (k : Int × Int → Option Ω) : Option Ω :=
 bif (x1 == 1) then
 bif ((conf_many.t (((List.length x0.1 : Nat) : Int)) 1 8) != 0) then
 k (0, (conf_many.t (((List.length x0.1 : Nat) : Int)) 1 8))
 else
 (conf_first_api_Instr__conf_program.u x0.1).bind fun y1 =>
 k (y1.1, y1.2)
 else
 bif (x1 == 2) then
 bif ((conf_many.t (((List.length x0.2.1 : Nat) : Int)) 0 8) != 0) then
 k (0, (conf_many.t (((List.length x0.2.1 : Nat) : Int)) 0 8))
 else
 (conf_first_api_Chan__channel_Check.u x0.2.1).bind fun y2 =>
 k (y2.1, y2.2)
 else
 bif (x1 == 3) then
 bif ((conf_many.t (((List.length x0.2.2.1 : Nat) : Int)) 0 8) != 0) then
 k (0, (conf_many.t (((List.length x0.2.2.1 : Nat) : Int)) 0 8))
 else
 (conf_first_api_Barrier__barrier_Check.u x0.2.2.1).bind fun y3 =>
 k (y3.1, y3.2)
 else
 bif (x1 == 4) then
 k (0, (conf_buckets.t x0.2.2.2.1))
 else
 bif ((conf_many.t (((List.length x0.2.2.2.2.1 : Nat) : Int)) 1 16) != 0) then
 k (0, (conf_many.t (((List.length x0.2.2.2.2.1 : Nat) : Int)) 1 16))
 else
 (conf_first_api_Start__conf_part_1.u x0.2.2.2.2.1 x0).bind fun y4 =>
 k (y4.1, y4.2)
def conf_part.u (x0 : T_s26) (x1 : Int) : Option (Int × Int) := conf_part.s x0 x1 some
noncomputable def conf_part.n : En CDEKP := mkE CDEKP_ok (es := [conf_many.n, conf_first_api_Instr__conf_program.n, conf_first_api_Chan__channel_Check.n, conf_first_api_Barrier__barrier_Check.n, conf_buckets.n, conf_first_api_Start__conf_part_1.n]) (ms := []) (fuel := ⟨1, fun _ => []⟩) 92 Tryz.f92 [.ai E_s26, .ai (.int .i64)] (.int .i64) [(.int .i64)] (fun x {Ω} k => conf_part.s x.1 x.2.1 k) (fun x Ω k => Le.of (by kernel_rfl)) (by kernel_rfl) (by kernel_rfl)
def conf_Check.F (fuel : Nat) : Fuel := ⟨fuel, fun r => bif r == 2 then mL 0 24 16777193 else []⟩
noncomputable def conf_Check.V (fuel c : Nat) (env : List AV) (L : Heap) (k : Kont Ω) : Option Ω := evCode CDEKP (spE (C := CDEKP) [conf_part.n] []) (conf_Check.F fuel) (pCo c Tryz.f22) env L k
def conf_Check.E0 (e2_1 : T_s26) (s2 : Int) : List AV := (dZ 1 ((.ref 0 []) :: (.ref 1 []) :: dZ 1 ((.v (.int .i64) (s2)) :: dZ 19 ([]))))
def conf_Check.H0 (e2_1 : T_s26) (s2 : Int) : Heap := [(.box E_s26 e2_1 false), (.box E_s81 (0, (0, ())) false)]
noncomputable def conf_Check.M0 (fuel : Nat) (e2_1 : T_s26)  (k : AV → Option Ω) (m : Nat) (s : Int) : Option Ω := loopK (conf_Check.V fuel 37) (mB 24 16777193) [] 2 (blockK 0 (sqK (conf_Check.V fuel 7) (finK CDEKP Tryz.f22 k))) m ((conf_Check.E0 e2_1) s) ((conf_Check.H0 e2_1) s)
def conf_Check.b0 (e2_1 : T_s26)   (k : T_s81 × Int → Option Ω) (r2 : Int → Option Ω) (s2 : Int) : Option Ω :=
 bif (decide (s2 ≤ 5)) then
 (conf_part.u e2_1 s2).bind fun y1 =>
 bif (y1.2 != 0) then
 k ((s2, (y1.1, ())), y1.2)
 else
 r2 ((IntKind.wrap .i64 (s2 + 1)))
 else
 k ((0, (0, ())), 0)
theorem conf_Check.l0 (fuel : Nat) (e2_1 : T_s26)  (k : AV → Option Ω) : ∀ m, (conf_Check.M0 fuel e2_1  k m) = iter (conf_Check.b0 e2_1  (fun r => k (tupAV E_s81 [(.int .i64)] r))) m :=
 loopK_iter (envOf := (conf_Check.E0 e2_1)) (LOf := (conf_Check.H0 e2_1)) (B := conf_Check.b0 e2_1  (fun r => k (tupAV E_s81 [(.int .i64)] r))) (fun R s => by kernel_rfl)
def conf_Check.sl (x0 : T_s26) (lp0 : T_s26 → Int → Option Ω) (k : T_s81 × Int → Option Ω) : Option Ω :=
 lp0 x0 (1)
def conf_Check.g0 (e2_1 : T_s26)  (k : T_s81 × Int → Option Ω) : Nat → Int → Option Ω
 | 0, i2 =>
 k ((0, (0, ())), 0)
 | d2 + 1, i2 =>
 (conf_part.u e2_1 i2).bind fun y1 =>
 bif (y1.2 != 0) then
 k ((i2, (y1.1, ())), y1.2)
 else
 conf_Check.g0 e2_1  k d2 (i2 + 1)
theorem conf_Check.h0 (e2_1 : T_s26)   (k : T_s81 × Int → Option Ω) (hN : ((5 : Int) + 1) ≤ 9223372036854775807) : ∀ (m : Nat) (i : Int) (a : Unit), -9223372036854775808 ≤ i → Int.toNat (((5 : Int) + 1) - i) < m → Le (conf_Check.g0 e2_1  k (Int.toNat (((5 : Int) + 1) - i)) i) (iter (conf_Check.b0 e2_1  k) m (i)) :=
 iter_count ((5 : Int) + 1) (fun i2 => (decide (i2 ≤ 5))) (fun i => le_lt1 i _) (fun (i2 : Int) (a2 : Unit) => (i2)) (fun xs i2 a2 => conf_Check.g0 e2_1  k xs i2) (conf_Check.b0 e2_1  k)
 (fun i2 a2 r h0 => (Le.fls h0 (Le.refl _)))
 (fun i2 d2 a2 r h0 hw ih => (Le.tru h0 (Le.bnd fun y1 => (Le.cond (Le.refl _) (ih _ hw ())))))
 hN
def conf_Check.w (x0 : T_s26) (k : T_s81 × Int → Option Ω) : Option Ω :=
 conf_Check.g0 x0  k ((Int.toNat ((5 + 1) - 1))) 1
theorem conf_Check.ev (fuel : Nat) (x0 : T_s26) (k : AV → Option Ω) : evFn CDEKP (spE (C := CDEKP) [conf_part.n] []) (conf_Check.F fuel) Tryz.f22 (Tryz.f22.body.getD .skip) [(.v E_s26 (x0))] k = conf_Check.sl x0 (fun e2_1 => (conf_Check.M0 fuel e2_1  k fuel)) (fun r => k (tupAV E_s81 [(.int .i64)] r)) := by kernel_rfl
theorem conf_Check.le (x0 : T_s26) (k : AV → Option Ω) : Le (conf_Check.w x0 (fun r => k (tupAV E_s81 [(.int .i64)] r))) (conf_Check.sl x0 (fun e2_1 => (conf_Check.M0 BIG e2_1  k BIG)) (fun r => k (tupAV E_s81 [(.int .i64)] r))) := by
 have h1 := funext fun (e2_1 : T_s26) => conf_Check.l0 BIG e2_1   k BIG
 rw [h1]
 delta conf_Check.w conf_Check.sl
 exact (conf_Check.h0 _   _ (by decide) BIG 1 () (by decide) (by decide))
def conf_Check.u (x0 : T_s26) : Option (T_s81 × Int) := conf_Check.w x0 some
noncomputable def conf_Check.n : En CDEKP := mkE CDEKP_ok (es := [conf_part.n]) (ms := []) (fuel := (conf_Check.F BIG)) 22 Tryz.f22 [.ai E_s26] E_s81 [(.int .i64)] (fun x {Ω} k => conf_Check.w x.1 k) (fun x Ω k => leV (conf_Check.ev BIG x.1 k) (conf_Check.le x.1 k)) (by kernel_rfl) (by kernel_rfl)
def ref32_Many.s (x0 : Int) (x1 : Int) (x2 : Int) (k : Int → Option Ω) : Option Ω :=
 bif (decide (x0 < x1)) then
 k 11
 else
 bif (decide (x0 > x2)) then
 k 5
 else
 k 0
def ref32_Many.t (x0 : Int) (x1 : Int) (x2 : Int) : Int :=
 bif (decide (x0 < x1)) then
 11
 else
 bif (decide (x0 > x2)) then
 5
 else
 0
theorem ref32_Many.v (x0 : Int) (x1 : Int) (x2 : Int) (k : Int → Option Ω) : ref32_Many.s x0 x1 x2 k = k (ref32_Many.t x0 x1 x2) := by
 delta ref32_Many.s ref32_Many.t; exact (cond_tot rfl (cond_tot rfl rfl))
noncomputable def ref32_Many.n : En CDEKP := mkT CDEKP_ok (es := []) (ms := []) (fuel := ⟨1, fun _ => []⟩) 103 Tryz.f103 [.ai (.int .i64), .ai (.int .i64), .ai (.int .i64)] (.int .i64) [] (fun x {Ω} k => ref32_Many.s x.1 x.2.1 x.2.2.1 k) (fun x => ref32_Many.t x.1 x.2.1 x.2.2.1) (fun x Ω k => by kernel_rfl) (fun x => ref32_Many.v x.1 x.2.1 x.2.2.1 some) (by kernel_rfl) (by kernel_rfl)
def ref32_power.F (fuel : Nat) : Fuel := ⟨fuel, fun r => bif r == 3 then mL 0 13 8166 else []⟩
noncomputable def ref32_power.V (fuel c : Nat) (env : List AV) (L : Heap) (k : Kont Ω) : Option Ω := evCode CDEKP (spE (C := CDEKP) [] []) (ref32_power.F fuel) (pCo c Tryz.f181) env L k
def ref32_power.E0 (e3_1 : Int) (s3 : Int × Int) : List AV := ((.v (.int .i64) (e3_1)) :: dZ 2 ((.v (.int .i64) (s3.1)) :: (.v (.int .i64) (s3.2)) :: dZ 8 ([])))
def ref32_power.H0 (e3_1 : Int) (s3 : Int × Int) : Heap := []
noncomputable def ref32_power.M0 (fuel : Nat) (e3_1 : Int)  (k : AV → Option Ω) (m : Nat) (s : Int × Int) : Option Ω := loopK (ref32_power.V fuel 75) (mB 13 8166) [] 0 (blockK 0 (sqK (ref32_power.V fuel 15) (finK CDEKP Tryz.f181 k))) m ((ref32_power.E0 e3_1) s) ((ref32_power.H0 e3_1) s)
def ref32_power.b0 (e3_1 : Int)   (k : Int → Option Ω) (r3 : Int × Int → Option Ω) (s3 : Int × Int) : Option Ω :=
 bif (decide (s3.2 < e3_1)) then
 r3 ((IntKind.wrap .i64 (s3.1 * 2)), (IntKind.wrap .i64 (s3.2 + 1)))
 else
 k s3.1
theorem ref32_power.l0 (fuel : Nat) (e3_1 : Int)  (k : AV → Option Ω) : ∀ m, (ref32_power.M0 fuel e3_1  k m) = iter (ref32_power.b0 e3_1  (fun r => k (tupAV (.int .i64) [] r))) m :=
 loopK_iter (envOf := (ref32_power.E0 e3_1)) (LOf := (ref32_power.H0 e3_1)) (B := ref32_power.b0 e3_1  (fun r => k (tupAV (.int .i64) [] r))) (fun R s => by kernel_rfl)
def ref32_power.sl (x0 : Int) (lp0 : Int → Int × Int → Option Ω) (k : Int → Option Ω) : Option Ω :=
 lp0 x0 (1, 0)
def ref32_power.g0 (e3_1 : Int)  (k : Int → Option Ω) : Nat → Int → Option Ω
 | 0, a3_0 =>
 k a3_0
 | d3 + 1, a3_0 =>
 ref32_power.g0 e3_1  k d3 ((IntKind.wrap .i64 (a3_0 * 2)))
theorem ref32_power.h0 (e3_1 : Int)   (k : Int → Option Ω) (hN : (e3_1 : Int) ≤ 9223372036854775807) : ∀ (m : Nat) (i : Int) (a : Int), -9223372036854775808 ≤ i → Int.toNat ((e3_1 : Int) - i) < m → Le (ref32_power.g0 e3_1  k (Int.toNat ((e3_1 : Int) - i)) a) (iter (ref32_power.b0 e3_1  k) m (a, i)) :=
 iter_count (e3_1 : Int) (fun i3 => (decide (i3 < e3_1))) (fun i => rfl) (fun (i3 : Int) (a3 : Int) => (a3, i3)) (fun xs i3 a3 => ref32_power.g0 e3_1  k xs a3) (ref32_power.b0 e3_1  k)
 (fun i3 a3 r h0 => (Le.fls h0 (Le.refl _)))
 (fun i3 d3 a3 r h0 hw ih => (Le.tru h0 (ih _ hw ((IntKind.wrap .i64 (a3 * 2))))))
 hN
def ref32_power.w (x0 : Int) (k : Int → Option Ω) : Option Ω :=
 bif (decide (x0 ≤ 4611686018427387904)) then ref32_power.g0 x0  k ((Int.toNat (x0 - 0))) 1 else none
theorem ref32_power.ev (fuel : Nat) (x0 : Int) (k : AV → Option Ω) : evFn CDEKP (spE (C := CDEKP) [] []) (ref32_power.F fuel) Tryz.f181 (Tryz.f181.body.getD .skip) [(.v (.int .i64) (x0))] k = ref32_power.sl x0 (fun e3_1 => (ref32_power.M0 fuel e3_1  k fuel)) (fun r => k (tupAV (.int .i64) [] r)) := by kernel_rfl
theorem ref32_power.le (x0 : Int) (k : AV → Option Ω) : Le (ref32_power.w x0 (fun r => k (tupAV (.int .i64) [] r))) (ref32_power.sl x0 (fun e3_1 => (ref32_power.M0 BIG e3_1  k BIG)) (fun r => k (tupAV (.int .i64) [] r))) := by
 have h1 := funext fun (e3_1 : Int) => ref32_power.l0 BIG e3_1   k BIG
 rw [h1]
 delta ref32_power.w ref32_power.sl
 exact (Le.gd fun hg => ref32_power.h0 _   _ (cnt_up hg) BIG 0 (1) (by decide) (cnt_big hg (by decide)))
def ref32_power.u (x0 : Int) : Option (Int) := ref32_power.w x0 some
noncomputable def ref32_power.n : En CDEKP := mkE CDEKP_ok (es := []) (ms := []) (fuel := (ref32_power.F BIG)) 181 Tryz.f181 [.ai (.int .i64)] (.int .i64) [] (fun x {Ω} k => ref32_power.w x.1 k) (fun x Ω k => leV (ref32_power.ev BIG x.1 k) (ref32_power.le x.1 k)) (by kernel_rfl) (by kernel_rfl)
def ref32_start.s (x0 : T_s63) (x1 : Int) (x2 : Int) (k : Int → Option Ω) : Option Ω :=
 (bif (decide (x0.1 < 0)) then some (true, ()) else (bif (decide (x0.1 ≥ x1)) then some (true, ()) else (bif (!(ref08_Fine.t x0.2.1)) then some (true, ()) else (bif (decide (x0.2.2.1 < 0)) then some (true, ()) else ((ref32_power.u x2).bind fun y1 => some ((decide (x0.2.2.1 ≥ y1)), ())))))).bind fun j2 =>
 bif j2.1 then
 k 8
 else
 k 0
def ref32_start.u (x0 : T_s63) (x1 : Int) (x2 : Int) : Option (Int) := ref32_start.s x0 x1 x2 some
noncomputable def ref32_start.n : En CDEKP := mkE CDEKP_ok (es := [ref08_Fine.n, ref32_power.n]) (ms := []) (fuel := ⟨1, fun r => bif r == 2000001 then [7, 8, 9, 10, 11, 12, 13, 14, 15, 16, 17, 18, 19, 20, 21, 22, 23, 24, 25, 26, 27, 28, 29, 30, 31, 32, 5033] else []⟩) 107 Tryz.f107 [.ai E_s63, .ai (.int .i64), .ai (.int .i64)] (.int .i64) [] (fun x {Ω} k => ref32_start.s x.1 x.2.1 x.2.2.1 k) (fun x Ω k => Le.of (by kernel_rfl)) (by kernel_rfl) (by kernel_rfl)
def ref32_Check.F (fuel : Nat) : Fuel := ⟨fuel, fun r => bif r == 34 then mL 0 140 1393796574908163946345982392040522594091001 else bif r == 23 then mL 0 140 1393796574908163946345982392040522594119673 else bif r == 14 then mL 0 140 1393796574908163946345982392040522594123257 else bif r == 5 then mL 0 140 1393796574908163946345982392040522594123737 else bif r == 2000028 then [98, 99, 100, 101, 102, 103, 104, 5105] else []⟩
noncomputable def ref32_Check.V (fuel c : Nat) (env : List AV) (L : Heap) (k : Kont Ω) : Option Ω := evCode CDEKP (spE (C := CDEKP) [ref32_Many.n, ref12_Check.n, ref18_Check.n, ref22_Check.n, ref32_start.n] []) (ref32_Check.F fuel) (pCo c Tryz.f28) env L k
def ref32_Check.E0 (e5_1 : T_s26) (s34 : Int) : List AV := (dZ 1 ((.ref 0 []) :: (.ref 1 []) :: dZ 12 ((.v (.int .i64) (s34)) :: dZ 124 ([]))))
def ref32_Check.H0 (e5_1 : T_s26) (s34 : Int) : Heap := [(.box E_s26 e5_1 false), (.box E_s81 (0, (0, ())) false)]
noncomputable def ref32_Check.M0 (fuel : Nat) (e5_1 : T_s26)  (k : AV → Option Ω) (m : Nat) (s : Int) : Option Ω := loopK (ref32_Check.V fuel 9727) (mB 140 1393796574908163946345982392040522594091001) [] 2 (blockK 6 (sqK (ref32_Check.V fuel 2047) (finK CDEKP Tryz.f28 k))) m ((ref32_Check.E0 e5_1) s) ((ref32_Check.H0 e5_1) s)
def ref32_Check.E1 (e5_1 : T_s26) (s23 : Int) : List AV := (dZ 1 ((.ref 0 []) :: (.ref 1 []) :: dZ 9 ((.v (.int .i64) (s23)) :: dZ 127 ([]))))
def ref32_Check.H1 (e5_1 : T_s26) (s23 : Int) : Heap := [(.box E_s26 e5_1 false), (.box E_s81 (0, (0, ())) false)]
noncomputable def ref32_Check.M1 (fuel : Nat) (e5_1 : T_s26)  (k : AV → Option Ω) (m : Nat) (s : Int) : Option Ω := loopK (ref32_Check.V fuel 1215) (mB 140 1393796574908163946345982392040522594119673) [] 2 (blockK 4 (sqK (ref32_Check.V fuel 255) (finK CDEKP Tryz.f28 k))) m ((ref32_Check.E1 e5_1) s) ((ref32_Check.H1 e5_1) s)
def ref32_Check.E2 (e5_1 : T_s26) (s14 : Int) : List AV := (dZ 1 ((.ref 0 []) :: (.ref 1 []) :: dZ 6 ((.v (.int .i64) (s14)) :: dZ 130 ([]))))
def ref32_Check.H2 (e5_1 : T_s26) (s14 : Int) : Heap := [(.box E_s26 e5_1 false), (.box E_s81 (0, (0, ())) false)]
noncomputable def ref32_Check.M2 (fuel : Nat) (e5_1 : T_s26)  (k : AV → Option Ω) (m : Nat) (s : Int) : Option Ω := loopK (ref32_Check.V fuel 303) (mB 140 1393796574908163946345982392040522594123257) [] 2 (blockK 2 (sqK (ref32_Check.V fuel 63) (finK CDEKP Tryz.f28 k))) m ((ref32_Check.E2 e5_1) s) ((ref32_Check.H2 e5_1) s)
def ref32_Check.E3 (e5_1 : T_s26) (s5 : Int) : List AV := (dZ 1 ((.ref 0 []) :: (.ref 1 []) :: dZ 2 ((.v (.int .i64) (s5)) :: dZ 134 ([]))))
def ref32_Check.H3 (e5_1 : T_s26) (s5 : Int) : Heap := [(.box E_s26 e5_1 false), (.box E_s81 (0, (0, ())) false)]
noncomputable def ref32_Check.M3 (fuel : Nat) (e5_1 : T_s26)  (k : AV → Option Ω) (m : Nat) (s : Int) : Option Ω := loopK (ref32_Check.V fuel 75) (mB 140 1393796574908163946345982392040522594123737) [] 2 (blockK 0 (sqK (ref32_Check.V fuel 15) (finK CDEKP Tryz.f28 k))) m ((ref32_Check.E3 e5_1) s) ((ref32_Check.H3 e5_1) s)
def ref32_Check.b0 (e5_1 : T_s26)   (k : T_s81 × Int → Option Ω) (r34 : Int → Option Ω) (s34 : Int) : Option Ω :=
 bif (decide (s34 < ((List.length e5_1.2.2.2.2.1 : Nat) : Int))) then
 bif (idxOK s34 (List.length e5_1.2.2.2.2.1)) then
 (ref32_start.u ((List.getD e5_1.2.2.2.2.1 (Int.toNat s34) (0, (0, (0, ()))))) (((List.length e5_1.1 : Nat) : Int)) (((List.length e5_1.2.2.1 : Nat) : Int))).bind fun y3 =>
 bif (y3 != 0) then
 k ((5, (s34, ())), y3)
 else
 r34 ((IntKind.wrap .i64 (s34 + 1)))
 else
 none
 else
 k ((0, (0, ())), 0)
def ref32_Check.b1 (e5_1 : T_s26)  (lp0 : T_s26 → Int → Option Ω) (k : T_s81 × Int → Option Ω) (r23 : Int → Option Ω) (s23 : Int) : Option Ω :=
 bif (decide (s23 < ((List.length e5_1.2.2.1 : Nat) : Int))) then
 bif (idxOK s23 (List.length e5_1.2.2.1)) then
 bif ((ref22_Check.t ((List.getD e5_1.2.2.1 (Int.toNat s23) (false, (0, ()))))) != 0) then
 k ((3, (s23, ())), (ref22_Check.t ((List.getD e5_1.2.2.1 (Int.toNat s23) (false, (0, ()))))))
 else
 r23 ((IntKind.wrap .i64 (s23 + 1)))
 else
 none
 else
 (bif (decide (e5_1.2.2.2.1 < 0)) then some (true, ()) else some ((decide (e5_1.2.2.2.1 > 4)), ())).bind fun j2 =>
 bif j2.1 then
 k ((4, (0, ())), 8)
 else
 bif ((ref32_Many.t (((List.length e5_1.2.2.2.2.1 : Nat) : Int)) 1 16) != 0) then
 k ((5, (0, ())), (ref32_Many.t (((List.length e5_1.2.2.2.2.1 : Nat) : Int)) 1 16))
 else
 lp0 e5_1 (0)
def ref32_Check.B1 (fuel : Nat) (e5_1 : T_s26)  (k : T_s81 × Int → Option Ω) (r23 : Int → Option Ω) (s23 : Int) : Option Ω := ref32_Check.b1 e5_1  (fun e5_1 => (iter (ref32_Check.b0 e5_1  k) fuel)) k r23 s23
def ref32_Check.b2 (e5_1 : T_s26)  (lp1 : T_s26 → Int → Option Ω) (k : T_s81 × Int → Option Ω) (r14 : Int → Option Ω) (s14 : Int) : Option Ω :=
 bif (decide (s14 < ((List.length e5_1.2.1 : Nat) : Int))) then
 bif (idxOK s14 (List.length e5_1.2.1)) then
 bif ((ref18_Check.t ((List.getD e5_1.2.1 (Int.toNat s14) (0, (0, (0, (0, ()))))))) != 0) then
 k ((2, (s14, ())), (ref18_Check.t ((List.getD e5_1.2.1 (Int.toNat s14) (0, (0, (0, (0, ()))))))))
 else
 r14 ((IntKind.wrap .i64 (s14 + 1)))
 else
 none
 else
 bif ((ref32_Many.t (((List.length e5_1.2.2.1 : Nat) : Int)) 0 8) != 0) then
 k ((3, (0, ())), (ref32_Many.t (((List.length e5_1.2.2.1 : Nat) : Int)) 0 8))
 else
 lp1 e5_1 (0)
def ref32_Check.B2 (fuel : Nat) (e5_1 : T_s26)  (k : T_s81 × Int → Option Ω) (r14 : Int → Option Ω) (s14 : Int) : Option Ω := ref32_Check.b2 e5_1  (fun e5_1 => (iter (ref32_Check.B1 fuel e5_1  k) fuel)) k r14 s14
def ref32_Check.b3 (e5_1 : T_s26)  (lp2 : T_s26 → Int → Option Ω) (k : T_s81 × Int → Option Ω) (r5 : Int → Option Ω) (s5 : Int) : Option Ω :=
 bif (decide (s5 < ((List.length e5_1.1 : Nat) : Int))) then
 bif (idxOK s5 (List.length e5_1.1)) then
 (ref12_Check.u ((List.getD e5_1.1 (Int.toNat s5) []))).bind fun y1 =>
 bif (y1.2 != 0) then
 k ((1, (s5, ())), y1.2)
 else
 r5 ((IntKind.wrap .i64 (s5 + 1)))
 else
 none
 else
 bif ((ref32_Many.t (((List.length e5_1.2.1 : Nat) : Int)) 0 8) != 0) then
 k ((2, (0, ())), (ref32_Many.t (((List.length e5_1.2.1 : Nat) : Int)) 0 8))
 else
 lp2 e5_1 (0)
def ref32_Check.B3 (fuel : Nat) (e5_1 : T_s26)  (k : T_s81 × Int → Option Ω) (r5 : Int → Option Ω) (s5 : Int) : Option Ω := ref32_Check.b3 e5_1  (fun e5_1 => (iter (ref32_Check.B2 fuel e5_1  k) fuel)) k r5 s5
theorem ref32_Check.l0 (fuel : Nat) (e5_1 : T_s26)  (k : AV → Option Ω) : ∀ m, (ref32_Check.M0 fuel e5_1  k m) = iter (ref32_Check.b0 e5_1  (fun r => k (tupAV E_s81 [(.int .i64)] r))) m :=
 loopK_iter (envOf := (ref32_Check.E0 e5_1)) (LOf := (ref32_Check.H0 e5_1)) (B := ref32_Check.b0 e5_1  (fun r => k (tupAV E_s81 [(.int .i64)] r))) (fun R s => by kernel_rfl)
theorem ref32_Check.l1 (fuel : Nat) (e5_1 : T_s26)  (k : AV → Option Ω) : ∀ m, (ref32_Check.M1 fuel e5_1  k m) = iter (ref32_Check.B1 fuel e5_1  (fun r => k (tupAV E_s81 [(.int .i64)] r))) m :=
 loopK_iter (envOf := (ref32_Check.E1 e5_1)) (LOf := (ref32_Check.H1 e5_1)) (B := ref32_Check.B1 fuel e5_1  (fun r => k (tupAV E_s81 [(.int .i64)] r))) (fun R s => by
 have h0 : ref32_Check.V fuel 1215 ((ref32_Check.E1 e5_1) s) ((ref32_Check.H1 e5_1) s) (loopC R (mB 140 1393796574908163946345982392040522594119673) [] 2 (blockK 4 (sqK (ref32_Check.V fuel 255) (finK CDEKP Tryz.f28 k)))) = ref32_Check.b1 e5_1  (fun e5_1 => (ref32_Check.M0 fuel e5_1  k fuel)) (fun r => k (tupAV E_s81 [(.int .i64)] r)) (fun s => R ((ref32_Check.E1 e5_1) s) ((ref32_Check.H1 e5_1) s)) s := by kernel_rfl
 have h1 := funext fun (e5_1 : T_s26) => ref32_Check.l0 fuel e5_1   k fuel
 rw [h1] at h0
 exact h0)
theorem ref32_Check.l2 (fuel : Nat) (e5_1 : T_s26)  (k : AV → Option Ω) : ∀ m, (ref32_Check.M2 fuel e5_1  k m) = iter (ref32_Check.B2 fuel e5_1  (fun r => k (tupAV E_s81 [(.int .i64)] r))) m :=
 loopK_iter (envOf := (ref32_Check.E2 e5_1)) (LOf := (ref32_Check.H2 e5_1)) (B := ref32_Check.B2 fuel e5_1  (fun r => k (tupAV E_s81 [(.int .i64)] r))) (fun R s => by
 have h0 : ref32_Check.V fuel 303 ((ref32_Check.E2 e5_1) s) ((ref32_Check.H2 e5_1) s) (loopC R (mB 140 1393796574908163946345982392040522594123257) [] 2 (blockK 2 (sqK (ref32_Check.V fuel 63) (finK CDEKP Tryz.f28 k)))) = ref32_Check.b2 e5_1  (fun e5_1 => (ref32_Check.M1 fuel e5_1  k fuel)) (fun r => k (tupAV E_s81 [(.int .i64)] r)) (fun s => R ((ref32_Check.E2 e5_1) s) ((ref32_Check.H2 e5_1) s)) s := by kernel_rfl
 have h2 := funext fun (e5_1 : T_s26) => ref32_Check.l1 fuel e5_1   k fuel
 rw [h2] at h0
 exact h0)
theorem ref32_Check.l3 (fuel : Nat) (e5_1 : T_s26)  (k : AV → Option Ω) : ∀ m, (ref32_Check.M3 fuel e5_1  k m) = iter (ref32_Check.B3 fuel e5_1  (fun r => k (tupAV E_s81 [(.int .i64)] r))) m :=
 loopK_iter (envOf := (ref32_Check.E3 e5_1)) (LOf := (ref32_Check.H3 e5_1)) (B := ref32_Check.B3 fuel e5_1  (fun r => k (tupAV E_s81 [(.int .i64)] r))) (fun R s => by
 have h0 : ref32_Check.V fuel 75 ((ref32_Check.E3 e5_1) s) ((ref32_Check.H3 e5_1) s) (loopC R (mB 140 1393796574908163946345982392040522594123737) [] 2 (blockK 0 (sqK (ref32_Check.V fuel 15) (finK CDEKP Tryz.f28 k)))) = ref32_Check.b3 e5_1  (fun e5_1 => (ref32_Check.M2 fuel e5_1  k fuel)) (fun r => k (tupAV E_s81 [(.int .i64)] r)) (fun s => R ((ref32_Check.E3 e5_1) s) ((ref32_Check.H3 e5_1) s)) s := by kernel_rfl
 have h3 := funext fun (e5_1 : T_s26) => ref32_Check.l2 fuel e5_1   k fuel
 rw [h3] at h0
 exact h0)
def ref32_Check.sl (x0 : T_s26) (lp3 : T_s26 → Int → Option Ω) (k : T_s81 × Int → Option Ω) : Option Ω :=
 bif ((ref32_Many.t (((List.length x0.1 : Nat) : Int)) 1 8) != 0) then
 k ((1, (0, ())), (ref32_Many.t (((List.length x0.1 : Nat) : Int)) 1 8))
 else
 lp3 x0 (0)
def ref32_Check.g0 (e5_1 : T_s26)  (k : T_s81 × Int → Option Ω) : Nat → Int → Option Ω
 | 0, i34 =>
 k ((0, (0, ())), 0)
 | d34 + 1, i34 =>
 bif (idxOK i34 (List.length e5_1.2.2.2.2.1)) then
 (ref32_start.u ((List.getD e5_1.2.2.2.2.1 (Int.toNat i34) (0, (0, (0, ()))))) (((List.length e5_1.1 : Nat) : Int)) (((List.length e5_1.2.2.1 : Nat) : Int))).bind fun y3 =>
 bif (y3 != 0) then
 k ((5, (i34, ())), y3)
 else
 ref32_Check.g0 e5_1  k d34 (i34 + 1)
 else
 none
theorem ref32_Check.h0 (e5_1 : T_s26)   (k : T_s81 × Int → Option Ω) (hN : (((List.length e5_1.2.2.2.2.1 : Nat) : Int) : Int) ≤ 9223372036854775807) : ∀ (m : Nat) (i : Int) (a : Unit), -9223372036854775808 ≤ i → Int.toNat ((((List.length e5_1.2.2.2.2.1 : Nat) : Int) : Int) - i) < m → Le (ref32_Check.g0 e5_1  k (Int.toNat ((((List.length e5_1.2.2.2.2.1 : Nat) : Int) : Int) - i)) i) (iter (ref32_Check.b0 e5_1  k) m (i)) :=
 iter_count (((List.length e5_1.2.2.2.2.1 : Nat) : Int) : Int) (fun i34 => (decide (i34 < ((List.length e5_1.2.2.2.2.1 : Nat) : Int)))) (fun i => rfl) (fun (i34 : Int) (a34 : Unit) => (i34)) (fun xs i34 a34 => ref32_Check.g0 e5_1  k xs i34) (ref32_Check.b0 e5_1  k)
 (fun i34 a34 r h0 => (Le.fls h0 (Le.refl _)))
 (fun i34 d34 a34 r h0 hw ih => (Le.tru h0 (Le.cond (Le.bnd fun y3 => (Le.cond (Le.refl _) (ih _ hw ()))) Le.nil)))
 hN
def ref32_Check.g1 (e5_1 : T_s26)  (k : T_s81 × Int → Option Ω) : Nat → Int → Option Ω
 | 0, i23 =>
 (bif (decide (e5_1.2.2.2.1 < 0)) then some (true, ()) else some ((decide (e5_1.2.2.2.1 > 4)), ())).bind fun j2 =>
 bif j2.1 then
 k ((4, (0, ())), 8)
 else
 bif ((ref32_Many.t (((List.length e5_1.2.2.2.2.1 : Nat) : Int)) 1 16) != 0) then
 k ((5, (0, ())), (ref32_Many.t (((List.length e5_1.2.2.2.2.1 : Nat) : Int)) 1 16))
 else
 bif (decide (((List.length e5_1.2.2.2.2.1 : Nat) : Int) ≤ 4611686018427387904)) then ref32_Check.g0 e5_1  k ((Int.toNat (((List.length e5_1.2.2.2.2.1 : Nat) : Int) - 0))) 0 else none
 | d23 + 1, i23 =>
 bif (idxOK i23 (List.length e5_1.2.2.1)) then
 bif ((ref22_Check.t ((List.getD e5_1.2.2.1 (Int.toNat i23) (false, (0, ()))))) != 0) then
 k ((3, (i23, ())), (ref22_Check.t ((List.getD e5_1.2.2.1 (Int.toNat i23) (false, (0, ()))))))
 else
 ref32_Check.g1 e5_1  k d23 (i23 + 1)
 else
 none
theorem ref32_Check.h1 (e5_1 : T_s26)   (k : T_s81 × Int → Option Ω) (hN : (((List.length e5_1.2.2.1 : Nat) : Int) : Int) ≤ 9223372036854775807) : ∀ (m : Nat) (i : Int) (a : Unit), -9223372036854775808 ≤ i → Int.toNat ((((List.length e5_1.2.2.1 : Nat) : Int) : Int) - i) < m → Le (ref32_Check.g1 e5_1  k (Int.toNat ((((List.length e5_1.2.2.1 : Nat) : Int) : Int) - i)) i) (iter (ref32_Check.B1 BIG e5_1  k) m (i)) :=
 iter_count (((List.length e5_1.2.2.1 : Nat) : Int) : Int) (fun i23 => (decide (i23 < ((List.length e5_1.2.2.1 : Nat) : Int)))) (fun i => rfl) (fun (i23 : Int) (a23 : Unit) => (i23)) (fun xs i23 a23 => ref32_Check.g1 e5_1  k xs i23) (ref32_Check.B1 BIG e5_1  k)
 (fun i23 a23 r h0 => (Le.fls h0 (Le.bnd fun j2 => (Le.cond (Le.refl _) (Le.cond (Le.refl _) (Le.gd fun hg => ref32_Check.h0 _   _ (cnt_up hg) BIG 0 () (by decide) (cnt_big hg (by decide))))))))
 (fun i23 d23 a23 r h0 hw ih => (Le.tru h0 (Le.cond (Le.cond (Le.refl _) (ih _ hw ())) Le.nil)))
 hN
def ref32_Check.g2 (e5_1 : T_s26)  (k : T_s81 × Int → Option Ω) : Nat → Int → Option Ω
 | 0, i14 =>
 bif ((ref32_Many.t (((List.length e5_1.2.2.1 : Nat) : Int)) 0 8) != 0) then
 k ((3, (0, ())), (ref32_Many.t (((List.length e5_1.2.2.1 : Nat) : Int)) 0 8))
 else
 bif (decide (((List.length e5_1.2.2.1 : Nat) : Int) ≤ 4611686018427387904)) then ref32_Check.g1 e5_1  k ((Int.toNat (((List.length e5_1.2.2.1 : Nat) : Int) - 0))) 0 else none
 | d14 + 1, i14 =>
 bif (idxOK i14 (List.length e5_1.2.1)) then
 bif ((ref18_Check.t ((List.getD e5_1.2.1 (Int.toNat i14) (0, (0, (0, (0, ()))))))) != 0) then
 k ((2, (i14, ())), (ref18_Check.t ((List.getD e5_1.2.1 (Int.toNat i14) (0, (0, (0, (0, ()))))))))
 else
 ref32_Check.g2 e5_1  k d14 (i14 + 1)
 else
 none
theorem ref32_Check.h2 (e5_1 : T_s26)   (k : T_s81 × Int → Option Ω) (hN : (((List.length e5_1.2.1 : Nat) : Int) : Int) ≤ 9223372036854775807) : ∀ (m : Nat) (i : Int) (a : Unit), -9223372036854775808 ≤ i → Int.toNat ((((List.length e5_1.2.1 : Nat) : Int) : Int) - i) < m → Le (ref32_Check.g2 e5_1  k (Int.toNat ((((List.length e5_1.2.1 : Nat) : Int) : Int) - i)) i) (iter (ref32_Check.B2 BIG e5_1  k) m (i)) :=
 iter_count (((List.length e5_1.2.1 : Nat) : Int) : Int) (fun i14 => (decide (i14 < ((List.length e5_1.2.1 : Nat) : Int)))) (fun i => rfl) (fun (i14 : Int) (a14 : Unit) => (i14)) (fun xs i14 a14 => ref32_Check.g2 e5_1  k xs i14) (ref32_Check.B2 BIG e5_1  k)
 (fun i14 a14 r h0 => (Le.fls h0 (Le.cond (Le.refl _) (Le.gd fun hg => ref32_Check.h1 _   _ (cnt_up hg) BIG 0 () (by decide) (cnt_big hg (by decide))))))
 (fun i14 d14 a14 r h0 hw ih => (Le.tru h0 (Le.cond (Le.cond (Le.refl _) (ih _ hw ())) Le.nil)))
 hN
def ref32_Check.g3 (e5_1 : T_s26)  (k : T_s81 × Int → Option Ω) : Nat → Int → Option Ω
 | 0, i5 =>
 bif ((ref32_Many.t (((List.length e5_1.2.1 : Nat) : Int)) 0 8) != 0) then
 k ((2, (0, ())), (ref32_Many.t (((List.length e5_1.2.1 : Nat) : Int)) 0 8))
 else
 bif (decide (((List.length e5_1.2.1 : Nat) : Int) ≤ 4611686018427387904)) then ref32_Check.g2 e5_1  k ((Int.toNat (((List.length e5_1.2.1 : Nat) : Int) - 0))) 0 else none
 | d5 + 1, i5 =>
 bif (idxOK i5 (List.length e5_1.1)) then
 (ref12_Check.u ((List.getD e5_1.1 (Int.toNat i5) []))).bind fun y1 =>
 bif (y1.2 != 0) then
 k ((1, (i5, ())), y1.2)
 else
 ref32_Check.g3 e5_1  k d5 (i5 + 1)
 else
 none
theorem ref32_Check.h3 (e5_1 : T_s26)   (k : T_s81 × Int → Option Ω) (hN : (((List.length e5_1.1 : Nat) : Int) : Int) ≤ 9223372036854775807) : ∀ (m : Nat) (i : Int) (a : Unit), -9223372036854775808 ≤ i → Int.toNat ((((List.length e5_1.1 : Nat) : Int) : Int) - i) < m → Le (ref32_Check.g3 e5_1  k (Int.toNat ((((List.length e5_1.1 : Nat) : Int) : Int) - i)) i) (iter (ref32_Check.B3 BIG e5_1  k) m (i)) :=
 iter_count (((List.length e5_1.1 : Nat) : Int) : Int) (fun i5 => (decide (i5 < ((List.length e5_1.1 : Nat) : Int)))) (fun i => rfl) (fun (i5 : Int) (a5 : Unit) => (i5)) (fun xs i5 a5 => ref32_Check.g3 e5_1  k xs i5) (ref32_Check.B3 BIG e5_1  k)
 (fun i5 a5 r h0 => (Le.fls h0 (Le.cond (Le.refl _) (Le.gd fun hg => ref32_Check.h2 _   _ (cnt_up hg) BIG 0 () (by decide) (cnt_big hg (by decide))))))
 (fun i5 d5 a5 r h0 hw ih => (Le.tru h0 (Le.cond (Le.bnd fun y1 => (Le.cond (Le.refl _) (ih _ hw ()))) Le.nil)))
 hN
def ref32_Check.w (x0 : T_s26) (k : T_s81 × Int → Option Ω) : Option Ω :=
 bif ((ref32_Many.t (((List.length x0.1 : Nat) : Int)) 1 8) != 0) then
 k ((1, (0, ())), (ref32_Many.t (((List.length x0.1 : Nat) : Int)) 1 8))
 else
 bif (decide (((List.length x0.1 : Nat) : Int) ≤ 4611686018427387904)) then ref32_Check.g3 x0  k ((Int.toNat (((List.length x0.1 : Nat) : Int) - 0))) 0 else none
theorem ref32_Check.ev (fuel : Nat) (x0 : T_s26) (k : AV → Option Ω) : evFn CDEKP (spE (C := CDEKP) [ref32_Many.n, ref12_Check.n, ref18_Check.n, ref22_Check.n, ref32_start.n] []) (ref32_Check.F fuel) Tryz.f28 (Tryz.f28.body.getD .skip) [(.v E_s26 (x0))] k = ref32_Check.sl x0 (fun e5_1 => (ref32_Check.M3 fuel e5_1  k fuel)) (fun r => k (tupAV E_s81 [(.int .i64)] r)) := by kernel_rfl
theorem ref32_Check.le (x0 : T_s26) (k : AV → Option Ω) : Le (ref32_Check.w x0 (fun r => k (tupAV E_s81 [(.int .i64)] r))) (ref32_Check.sl x0 (fun e5_1 => (ref32_Check.M3 BIG e5_1  k BIG)) (fun r => k (tupAV E_s81 [(.int .i64)] r))) := by
 have h4 := funext fun (e5_1 : T_s26) => ref32_Check.l3 BIG e5_1   k BIG
 rw [h4]
 delta ref32_Check.w ref32_Check.sl
 exact (Le.cond (Le.refl _) (Le.gd fun hg => ref32_Check.h3 _   _ (cnt_up hg) BIG 0 () (by decide) (cnt_big hg (by decide))))
def ref32_Check.u (x0 : T_s26) : Option (T_s81 × Int) := ref32_Check.w x0 some
noncomputable def ref32_Check.n : En CDEKP := mkE CDEKP_ok (es := [ref32_Many.n, ref12_Check.n, ref18_Check.n, ref22_Check.n, ref32_start.n]) (ms := []) (fuel := (ref32_Check.F BIG)) 28 Tryz.f28 [.ai E_s26] E_s81 [(.int .i64)] (fun x {Ω} k => ref32_Check.w x.1 k) (fun x Ω k => leV (ref32_Check.ev BIG x.1 k) (ref32_Check.le x.1 k)) (by kernel_rfl) (by kernel_rfl)
def snap_Begin.F (fuel : Nat) : Fuel := ⟨fuel, fun r => bif r == 19 then mL 0 101 2535301087119655332822573382843 else bif r == 13 then mL 0 101 2535301200456450921694058512315 else []⟩
noncomputable def snap_Begin.V (fuel c : Nat) (env : List AV) (L : Heap) (k : Kont Ω) : Option Ω := evCode CDEKP (spE (C := CDEKP) [conf_Check.n, proc_New.n, chantab_New.n, bartab_New.n, proc_Spawn.n, bartab_Enrol.n] []) (snap_Begin.F fuel) (pCo c Tryz.f8) env L k
def snap_Begin.E0 (e19_1 : Int) (e13_1 : (List T_s63)) (e13_2 : Int) (e19_2 : Int) (e13_3 : T_s26) (e13_4 : T_s81) (e19_3 : T_s63) (s19 : Int × T_s35) : List AV := (dZ 2 ((.ref 1 []) :: dZ 3 ((.ref 4 []) :: dZ 1 ((.v (.int .i64) (e19_1)) :: (.ref 6 []) :: dZ 40 ((.v (.slice E_s63) (e13_1)) :: (.v (.int .i64) (e13_2)) :: (.v (.int .i64) (e19_1)) :: dZ 22 ((.v (.int .i64) (e19_2)) :: (.v (.int .i64) (s19.1)) :: dZ 24 ([])))))))
def snap_Begin.H0 (e19_1 : Int) (e13_1 : (List T_s63)) (e13_2 : Int) (e19_2 : Int) (e13_3 : T_s26) (e13_4 : T_s81) (e19_3 : T_s63) (s19 : Int × T_s35) : Heap := [(.box E_s26 e13_3 false), (.box E_s35 (0, ([], ([], ([], ([], ([], ())))))) false), (.box E_s81 e13_4 false), .resv, (.lbx E_s35 s19.2 [(5, some 5)]), (.row 122 E_s63 [] false), (.box E_s63 e19_3 false)]
noncomputable def snap_Begin.M0 (fuel : Nat) (e19_1 : Int) (e13_1 : (List T_s63)) (e13_2 : Int) (e19_2 : Int) (e13_3 : T_s26) (e13_4 : T_s81) (e19_3 : T_s63) (R13 : List AV → Heap → Option Ω) (k : AV → Option Ω) (m : Nat) (s : Int × T_s35) : Option Ω := loopK (snap_Begin.V fuel 642239) (mB 101 2535301087119655332822573382843) [] 7 (blockK 2 (blockK 1 (sqK (snap_Begin.V fuel 15551) (loopC R13 (mB 101 2535301200456450921694058512315) [] 6 (blockK 0 (sqK (snap_Begin.V fuel 255) (finK CDEKP Tryz.f8 k))))))) m ((snap_Begin.E0 e19_1 e13_1 e13_2 e19_2 e13_3 e13_4 e19_3) s) ((snap_Begin.H0 e19_1 e13_1 e13_2 e19_2 e13_3 e13_4 e19_3) s)
def snap_Begin.E1 (e13_1 : (List T_s63)) (e13_2 : Int) (e13_3 : T_s26) (e13_4 : T_s81) (s13 : Int × T_s35) : List AV := (dZ 2 ((.ref 1 []) :: dZ 3 ((.ref 4 []) :: dZ 43 ((.v (.slice E_s63) (e13_1)) :: (.v (.int .i64) (e13_2)) :: (.v (.int .i64) (s13.1)) :: dZ 48 ([])))))
def snap_Begin.H1 (e13_1 : (List T_s63)) (e13_2 : Int) (e13_3 : T_s26) (e13_4 : T_s81) (s13 : Int × T_s35) : Heap := [(.box E_s26 e13_3 false), (.box E_s35 (0, ([], ([], ([], ([], ([], ())))))) false), (.box E_s81 e13_4 false), .resv, (.lbx E_s35 s13.2 [(5, some 5)]), (.row 122 E_s63 [] false)]
noncomputable def snap_Begin.M1 (fuel : Nat) (e13_1 : (List T_s63)) (e13_2 : Int) (e13_3 : T_s26) (e13_4 : T_s81)  (k : AV → Option Ω) (m : Nat) (s : Int × T_s35) : Option Ω := loopK (snap_Begin.V fuel 1215) (mB 101 2535301200456450921694058512315) [] 6 (blockK 0 (sqK (snap_Begin.V fuel 255) (finK CDEKP Tryz.f8 k))) m ((snap_Begin.E1 e13_1 e13_2 e13_3 e13_4) s) ((snap_Begin.H1 e13_1 e13_2 e13_3 e13_4) s)
def snap_Begin.b0 (e19_1 : Int) (e13_1 : (List T_s63)) (e13_2 : Int) (e19_2 : Int) (e13_3 : T_s26) (e13_4 : T_s81) (e19_3 : T_s63) (r13 : Int × T_s35 → Option Ω)  (k : T_s35 × Int → Option Ω) (r19 : Int × T_s35 → Option Ω) (s19 : Int × T_s35) : Option Ω :=
 bif (decide (s19.1 < e19_2)) then
 bif (decide ((0 : Int) ≤ s19.1)) then
 let v6 : Int := (IntKind.wrap .i64 (BitVec.ofInt (IntKind.bits .i64) (Int.fdiv e19_3.2.2.1 (2 ^ (min (Int.toNat s19.1) (IntKind.bits .i64)))) &&& BitVec.ofInt (IntKind.bits .i64) 1).toNat)
 bif (v6 == 0) then
 r19 ((IntKind.wrap .i64 (s19.1 + 1)), s19.2)
 else
 (bartab_Enrol.u s19.2.2.2.2.1 s19.1 e19_1).bind fun y7 =>
 bif (y7.2 != 0) then
 k ((0, ([], ([], ([], ([], ([], ())))))), y7.2)
 else
 r19 ((IntKind.wrap .i64 (s19.1 + 1)), (s19.2.1, (s19.2.2.1, (s19.2.2.2.1, (y7.1, s19.2.2.2.2.2)))))
 else
 none
 else
 r13 ((IntKind.wrap .i64 (e19_1 + 1)), s19.2)
def snap_Begin.b1 (e13_1 : (List T_s63)) (e13_2 : Int) (e13_3 : T_s26) (e13_4 : T_s81)  (lp0 : Int → (List T_s63) → Int → Int → T_s26 → T_s81 → T_s63 → Int × T_s35 → Option Ω) (k : T_s35 × Int → Option Ω) (r13 : Int × T_s35 → Option Ω) (s13 : Int × T_s35) : Option Ω :=
 bif (decide (s13.1 < e13_2)) then
 bif (idxOK s13.1 (List.length e13_1)) then
 (proc_Spawn.u s13.2.2.1 ((List.getD e13_1 (Int.toNat s13.1) (0, (0, (0, ())))).1) ((List.getD e13_1 (Int.toNat s13.1) (0, (0, (0, ())))).2.1)).bind fun y5 =>
 bif (y5.2.2 != 0) then
 k ((0, ([], ([], ([], ([], ([], ())))))), y5.2.2)
 else
 lp0 s13.1 e13_1 e13_2 (((List.length s13.2.2.2.2.1 : Nat) : Int)) e13_3 e13_4 ((List.getD e13_1 (Int.toNat s13.1) (0, (0, (0, ()))))) (0, (s13.2.1, (y5.1, s13.2.2.2)))
 else
 none
 else
 let v8 : T_s35 := (s13.2.1, (s13.2.2.1, (s13.2.2.2.1, (s13.2.2.2.2.1, (s13.2.2.2.2.2.1, ([], s13.2.2.2.2.2.2.2))))))
 k (v8, 0)
def snap_Begin.B1 (fuel : Nat) (e13_1 : (List T_s63)) (e13_2 : Int) (e13_3 : T_s26) (e13_4 : T_s81)  (k : T_s35 × Int → Option Ω) (r13 : Int × T_s35 → Option Ω) (s13 : Int × T_s35) : Option Ω := snap_Begin.b1 e13_1 e13_2 e13_3 e13_4  (fun e19_1 e13_1 e13_2 e19_2 e13_3 e13_4 e19_3 => (iter (snap_Begin.b0 e19_1 e13_1 e13_2 e19_2 e13_3 e13_4 e19_3 r13 k) fuel)) k r13 s13
theorem snap_Begin.l0 (fuel : Nat) (e19_1 : Int) (e13_1 : (List T_s63)) (e13_2 : Int) (e19_2 : Int) (e13_3 : T_s26) (e13_4 : T_s81) (e19_3 : T_s63) (R13 : List AV → Heap → Option Ω) (k : AV → Option Ω) : ∀ m, (snap_Begin.M0 fuel e19_1 e13_1 e13_2 e19_2 e13_3 e13_4 e19_3 R13 k m) = iter (snap_Begin.b0 e19_1 e13_1 e13_2 e19_2 e13_3 e13_4 e19_3 (fun s13 => R13 ((snap_Begin.E1 e13_1 e13_2 e13_3 e13_4) s13) ((snap_Begin.H1 e13_1 e13_2 e13_3 e13_4) s13)) (fun r => k (tupAV E_s35 [(.int .i64)] r))) m :=
 loopK_iter (envOf := (snap_Begin.E0 e19_1 e13_1 e13_2 e19_2 e13_3 e13_4 e19_3)) (LOf := (snap_Begin.H0 e19_1 e13_1 e13_2 e19_2 e13_3 e13_4 e19_3)) (B := snap_Begin.b0 e19_1 e13_1 e13_2 e19_2 e13_3 e13_4 e19_3 (fun s13 => R13 ((snap_Begin.E1 e13_1 e13_2 e13_3 e13_4) s13) ((snap_Begin.H1 e13_1 e13_2 e13_3 e13_4) s13)) (fun r => k (tupAV E_s35 [(.int .i64)] r))) (fun R s => by kernel_rfl)
theorem snap_Begin.l1 (fuel : Nat) (e13_1 : (List T_s63)) (e13_2 : Int) (e13_3 : T_s26) (e13_4 : T_s81)  (k : AV → Option Ω) : ∀ m, (snap_Begin.M1 fuel e13_1 e13_2 e13_3 e13_4  k m) = iter (snap_Begin.B1 fuel e13_1 e13_2 e13_3 e13_4  (fun r => k (tupAV E_s35 [(.int .i64)] r))) m :=
 loopK_iter (envOf := (snap_Begin.E1 e13_1 e13_2 e13_3 e13_4)) (LOf := (snap_Begin.H1 e13_1 e13_2 e13_3 e13_4)) (B := snap_Begin.B1 fuel e13_1 e13_2 e13_3 e13_4  (fun r => k (tupAV E_s35 [(.int .i64)] r))) (fun R s => by
 have h0 : snap_Begin.V fuel 1215 ((snap_Begin.E1 e13_1 e13_2 e13_3 e13_4) s) ((snap_Begin.H1 e13_1 e13_2 e13_3 e13_4) s) (loopC R (mB 101 2535301200456450921694058512315) [] 6 (blockK 0 (sqK (snap_Begin.V fuel 255) (finK CDEKP Tryz.f8 k)))) = snap_Begin.b1 e13_1 e13_2 e13_3 e13_4  (fun e19_1 e13_1 e13_2 e19_2 e13_3 e13_4 e19_3 => (snap_Begin.M0 fuel e19_1 e13_1 e13_2 e19_2 e13_3 e13_4 e19_3 R k fuel)) (fun r => k (tupAV E_s35 [(.int .i64)] r)) (fun s => R ((snap_Begin.E1 e13_1 e13_2 e13_3 e13_4) s) ((snap_Begin.H1 e13_1 e13_2 e13_3 e13_4) s)) s := by kernel_rfl
 have h1 := funext fun (e19_1 : Int) => funext fun (e13_1 : (List T_s63)) => funext fun (e13_2 : Int) => funext fun (e19_2 : Int) => funext fun (e13_3 : T_s26) => funext fun (e13_4 : T_s81) => funext fun (e19_3 : T_s63) => snap_Begin.l0 fuel e19_1 e13_1 e13_2 e19_2 e13_3 e13_4 e19_3  R k fuel
 rw [h1] at h0
 exact h0)
def snap_Begin.sl (x0 : T_s26) (lp1 : (List T_s63) → Int → T_s26 → T_s81 → Int × T_s35 → Option Ω) (k : T_s35 × Int → Option Ω) : Option Ω :=
 (conf_Check.u x0).bind fun y1 =>
 bif (y1.2 != 0) then
 k ((0, ([], ([], ([], ([], ([], ())))))), y1.2)
 else
 proc_New.u.bind fun y2 =>
 bif (decide (x0.2.2.2.1 = x0.2.2.2.1) && decide ((0 : Int) ≤ x0.2.2.2.1) && decide (x0.2.2.2.1 ≤ (2147483648 : Int))) then
 (chantab_New.u x0.2.1).bind fun y3 =>
 bif (y3.2.2 != 0) then
 k ((0, ([], ([], ([], ([], ([], ())))))), y3.2.2)
 else
 (bartab_New.u x0.2.2.1).bind fun y4 =>
 bif (y4.2.2 != 0) then
 k ((0, ([], ([], ([], ([], ([], ())))))), y4.2.2)
 else
 lp1 x0.2.2.2.2.1 (((List.length x0.2.2.2.2.1 : Nat) : Int)) x0 y1.1 (0, (0, (y2, (y3.1, (y4.1, ((List.replicate (Int.toNat x0.2.2.2.1) []), ([], ())))))))
 else
 none
def snap_Begin.g0 (e19_1 : Int) (e13_1 : (List T_s63)) (e13_2 : Int) (e19_2 : Int) (e13_3 : T_s26) (e13_4 : T_s81) (e19_3 : T_s63) (r13 : Int × T_s35 → Option Ω) (k : T_s35 × Int → Option Ω) : Nat → Int → T_s35 → Option Ω
 | 0, i19, a19_1 =>
 r13 ((e19_1 + 1), a19_1)
 | d19 + 1, i19, a19_1 =>
 bif (decide ((0 : Int) ≤ i19)) then
 let v6 : Int := (IntKind.wrap .i64 (BitVec.ofInt (IntKind.bits .i64) (Int.fdiv e19_3.2.2.1 (2 ^ (min (Int.toNat i19) (IntKind.bits .i64)))) &&& BitVec.ofInt (IntKind.bits .i64) 1).toNat)
 bif (v6 == 0) then
 snap_Begin.g0 e19_1 e13_1 e13_2 e19_2 e13_3 e13_4 e19_3 r13 k d19 (i19 + 1) a19_1
 else
 (bartab_Enrol.u a19_1.2.2.2.1 i19 e19_1).bind fun y7 =>
 bif (y7.2 != 0) then
 k ((0, ([], ([], ([], ([], ([], ())))))), y7.2)
 else
 snap_Begin.g0 e19_1 e13_1 e13_2 e19_2 e13_3 e13_4 e19_3 r13 k d19 (i19 + 1) ((a19_1.1, (a19_1.2.1, (a19_1.2.2.1, (y7.1, a19_1.2.2.2.2)))))
 else
 none
theorem snap_Begin.h0 (e19_1 : Int) (e13_1 : (List T_s63)) (e13_2 : Int) (e19_2 : Int) (e13_3 : T_s26) (e13_4 : T_s81) (e19_3 : T_s63) (r13 : Int × T_s35 → Option Ω) (r13' : Int × T_s35 → Option Ω) (hr13 : ∀ q : T_s35, Le (r13 ((e19_1 + 1), q)) (r13' ((IntKind.wrap .i64 (e19_1 + 1)), q))) (k : T_s35 × Int → Option Ω) (hN : (e19_2 : Int) ≤ 9223372036854775807) : ∀ (m : Nat) (i : Int) (a : T_s35), -9223372036854775808 ≤ i → Int.toNat ((e19_2 : Int) - i) < m → Le (snap_Begin.g0 e19_1 e13_1 e13_2 e19_2 e13_3 e13_4 e19_3 r13 k (Int.toNat ((e19_2 : Int) - i)) i a) (iter (snap_Begin.b0 e19_1 e13_1 e13_2 e19_2 e13_3 e13_4 e19_3 r13' k) m (i, a)) :=
 iter_count (e19_2 : Int) (fun i19 => (decide (i19 < e19_2))) (fun i => rfl) (fun (i19 : Int) (a19 : T_s35) => (i19, a19)) (fun xs i19 a19 => snap_Begin.g0 e19_1 e13_1 e13_2 e19_2 e13_3 e13_4 e19_3 r13 k xs i19 a19) (snap_Begin.b0 e19_1 e13_1 e13_2 e19_2 e13_3 e13_4 e19_3 r13' k)
 (fun i19 a19 r h0 => (Le.fls h0 (hr13 (a19))))
 (fun i19 d19 a19 r h0 hw ih => (Le.tru h0 (Le.cond (let v6 : Int := (IntKind.wrap .i64 (BitVec.ofInt (IntKind.bits .i64) (Int.fdiv e19_3.2.2.1 (2 ^ (min (Int.toNat i19) (IntKind.bits .i64)))) &&& BitVec.ofInt (IntKind.bits .i64) 1).toNat); (Le.cond (ih _ hw (a19)) (Le.bnd fun y7 => (Le.cond (Le.refl _) (ih _ hw ((a19.1, (a19.2.1, (a19.2.2.1, (y7.1, a19.2.2.2.2)))))))))) Le.nil)))
 hN
def snap_Begin.g1 (e13_1 : (List T_s63)) (e13_3 : T_s26) (e13_4 : T_s81)  (k : T_s35 × Int → Option Ω) : List T_s63 → Int → T_s35 → Option Ω
 | [], i13, a13_1 =>
 let v8 : T_s35 := (a13_1.1, (a13_1.2.1, (a13_1.2.2.1, (a13_1.2.2.2.1, (a13_1.2.2.2.2.1, ([], a13_1.2.2.2.2.2.2))))))
 k (v8, 0)
 | x13 :: xs13, i13, a13_1 =>
 (proc_Spawn.u a13_1.2.1 (x13.1) (x13.2.1)).bind fun y5 =>
 bif (y5.2.2 != 0) then
 k ((0, ([], ([], ([], ([], ([], ())))))), y5.2.2)
 else
 bif (decide ((((List.length a13_1.2.2.2.1 : Nat) : Int)) ≤ 4611686018427387904)) then snap_Begin.g0 i13 e13_1 (((List.length e13_1 : Nat) : Int)) (((List.length a13_1.2.2.2.1 : Nat) : Int)) e13_3 e13_4 x13 (fun q => snap_Begin.g1 e13_1 e13_3 e13_4  k xs13 q.1 q.2) k ((Int.toNat ((((List.length a13_1.2.2.2.1 : Nat) : Int)) - 0))) 0 ((a13_1.1, (y5.1, a13_1.2.2))) else none
theorem snap_Begin.h1 (e13_1 : (List T_s63)) (e13_3 : T_s26) (e13_4 : T_s81)   (k : T_s35 × Int → Option Ω) (hX : ((List.length e13_1 : Nat) : Int) ≤ 9223372036854775807) : ∀ (m : Nat) (i : Int) (a : T_s35), 0 ≤ i → i ≤ ((List.length e13_1 : Nat) : Int) → ((List.length e13_1 : Nat) : Int) < m + i → Le (snap_Begin.g1 e13_1 e13_3 e13_4  k (List.drop (Int.toNat i) e13_1) i a) (iter (snap_Begin.B1 BIG e13_1 (((List.length e13_1 : Nat) : Int)) e13_3 e13_4  k) m (i, a)) :=
 iter_list e13_1 (0, (0, (0, ()))) (fun (i13 : Int) (a13 : T_s35) => (i13, a13)) (fun xs i13 a13 => snap_Begin.g1 e13_1 e13_3 e13_4  k xs i13 a13) (snap_Begin.B1 BIG e13_1 (((List.length e13_1 : Nat) : Int)) e13_3 e13_4  k)
 (fun i13 a13 r h0 => (Le.fls h0 (let v8 : T_s35 := (a13.1, (a13.2.1, (a13.2.2.1, (a13.2.2.2.1, (a13.2.2.2.2.1, ([], a13.2.2.2.2.2.2)))))); (Le.refl _))))
 (fun i13 xs13 a13 r h0 h1 hw ih => (Le.tru h0 (Le.tru h1 (Le.bnd fun y5 => (Le.cond (Le.refl _) (Le.gd fun hg => snap_Begin.h0 _ _ _ _ _ _ _ _ _ (fun q => ih _ hw q) _ (cnt_up hg) BIG 0 ((a13.1, (y5.1, a13.2.2))) (by decide) (cnt_big hg (by decide))))))))
 hX
def snap_Begin.w (x0 : T_s26) (k : T_s35 × Int → Option Ω) : Option Ω :=
 (conf_Check.u x0).bind fun y1 =>
 bif (y1.2 != 0) then
 k ((0, ([], ([], ([], ([], ([], ())))))), y1.2)
 else
 proc_New.u.bind fun y2 =>
 bif (decide (x0.2.2.2.1 = x0.2.2.2.1) && decide ((0 : Int) ≤ x0.2.2.2.1) && decide (x0.2.2.2.1 ≤ (2147483648 : Int))) then
 (chantab_New.u x0.2.1).bind fun y3 =>
 bif (y3.2.2 != 0) then
 k ((0, ([], ([], ([], ([], ([], ())))))), y3.2.2)
 else
 (bartab_New.u x0.2.2.1).bind fun y4 =>
 bif (y4.2.2 != 0) then
 k ((0, ([], ([], ([], ([], ([], ())))))), y4.2.2)
 else
 bif decide (((List.length x0.2.2.2.2.1 : Nat) : Int) ≤ 4611686018427387904) then snap_Begin.g1 x0.2.2.2.2.1 x0 y1.1  k x0.2.2.2.2.1 0 ((0, (y2, (y3.1, (y4.1, ((List.replicate (Int.toNat x0.2.2.2.1) []), ([], ()))))))) else none
 else
 none
theorem snap_Begin.ev (fuel : Nat) (x0 : T_s26) (k : AV → Option Ω) : evFn CDEKP (spE (C := CDEKP) [conf_Check.n, proc_New.n, chantab_New.n, bartab_New.n, proc_Spawn.n, bartab_Enrol.n] []) (snap_Begin.F fuel) Tryz.f8 (Tryz.f8.body.getD .skip) [(.v E_s26 (x0))] k = snap_Begin.sl x0 (fun e13_1 e13_2 e13_3 e13_4 => (snap_Begin.M1 fuel e13_1 e13_2 e13_3 e13_4  k fuel)) (fun r => k (tupAV E_s35 [(.int .i64)] r)) := by kernel_rfl
theorem snap_Begin.le (x0 : T_s26) (k : AV → Option Ω) : Le (snap_Begin.w x0 (fun r => k (tupAV E_s35 [(.int .i64)] r))) (snap_Begin.sl x0 (fun e13_1 e13_2 e13_3 e13_4 => (snap_Begin.M1 BIG e13_1 e13_2 e13_3 e13_4  k BIG)) (fun r => k (tupAV E_s35 [(.int .i64)] r))) := by
 have h2 := funext fun (e13_1 : (List T_s63)) => funext fun (e13_2 : Int) => funext fun (e13_3 : T_s26) => funext fun (e13_4 : T_s81) => snap_Begin.l1 BIG e13_1 e13_2 e13_3 e13_4   k BIG
 rw [h2]
 delta snap_Begin.w snap_Begin.sl
 exact (Le.bnd fun y1 => (Le.cond (Le.refl _) (Le.bnd fun y2 => (Le.cond (Le.bnd fun y3 => (Le.cond (Le.refl _) (Le.bnd fun y4 => (Le.cond (Le.refl _) (Le.gd fun hg => snap_Begin.h1 _ _ _   _ (le_up (of_decide_eq_true hg)) BIG 0 ((0, (y2, (y3.1, (y4.1, ((List.replicate (Int.toNat x0.2.2.2.1) []), ([], ()))))))) (by decide) (zero_le_len _) (big_list (of_decide_eq_true hg))))))) Le.nil))))
def snap_Begin.u (x0 : T_s26) : Option (T_s35 × Int) := snap_Begin.w x0 some
noncomputable def snap_Begin.n : En CDEKP := mkE CDEKP_ok (es := [conf_Check.n, proc_New.n, chantab_New.n, bartab_New.n, proc_Spawn.n, bartab_Enrol.n]) (ms := []) (fuel := (snap_Begin.F BIG)) 8 Tryz.f8 [.ai E_s26] E_s35 [(.int .i64)] (fun x {Ω} k => snap_Begin.w x.1 k) (fun x Ω k => leV (snap_Begin.ev BIG x.1 k) (snap_Begin.le x.1 k)) (by kernel_rfl) (by kernel_rfl)
def ref36_bit.F (fuel : Nat) : Fuel := ⟨fuel, fun r => bif r == 2 then mL 0 16 65500 else []⟩
noncomputable def ref36_bit.V (fuel c : Nat) (env : List AV) (L : Heap) (k : Kont Ω) : Option Ω := evCode CDEKP (spE (C := CDEKP) [] []) (ref36_bit.F fuel) (pCo c Tryz.f33) env L k
def ref36_bit.E0 (e2_1 : Int) (s2 : Int × Int) : List AV := ((.v (.int .i64) (s2.1)) :: (.v (.int .i64) (e2_1)) :: dZ 3 ((.v (.int .i64) (s2.2)) :: dZ 10 ([])))
def ref36_bit.H0 (e2_1 : Int) (s2 : Int × Int) : Heap := []
noncomputable def ref36_bit.M0 (fuel : Nat) (e2_1 : Int)  (k : AV → Option Ω) (m : Nat) (s : Int × Int) : Option Ω := loopK (ref36_bit.V fuel 37) (mB 16 65500) [] 0 (blockK 0 (sqK (ref36_bit.V fuel 7) (finK CDEKP Tryz.f33 k))) m ((ref36_bit.E0 e2_1) s) ((ref36_bit.H0 e2_1) s)
def ref36_bit.b0 (e2_1 : Int)   (k : Bool → Option Ω) (r2 : Int × Int → Option Ω) (s2 : Int × Int) : Option Ω :=
 bif (decide (s2.2 < e2_1)) then
 r2 ((IntKind.wrap .i64 (Int.tdiv s2.1 2)), (IntKind.wrap .i64 (s2.2 + 1)))
 else
 k ((Int.tmod s2.1 2) == 1)
theorem ref36_bit.l0 (fuel : Nat) (e2_1 : Int)  (k : AV → Option Ω) : ∀ m, (ref36_bit.M0 fuel e2_1  k m) = iter (ref36_bit.b0 e2_1  (fun r => k (tupAV .bool [] r))) m :=
 loopK_iter (envOf := (ref36_bit.E0 e2_1)) (LOf := (ref36_bit.H0 e2_1)) (B := ref36_bit.b0 e2_1  (fun r => k (tupAV .bool [] r))) (fun R s => by kernel_rfl)
def ref36_bit.sl (x0 : Int) (x1 : Int) (lp0 : Int → Int × Int → Option Ω) (k : Bool → Option Ω) : Option Ω :=
 lp0 x1 (x0, 0)
def ref36_bit.g0 (e2_1 : Int)  (k : Bool → Option Ω) : Nat → Int → Option Ω
 | 0, a2_0 =>
 k ((Int.tmod a2_0 2) == 1)
 | d2 + 1, a2_0 =>
 ref36_bit.g0 e2_1  k d2 ((IntKind.wrap .i64 (Int.tdiv a2_0 2)))
theorem ref36_bit.h0 (e2_1 : Int)   (k : Bool → Option Ω) (hN : (e2_1 : Int) ≤ 9223372036854775807) : ∀ (m : Nat) (i : Int) (a : Int), -9223372036854775808 ≤ i → Int.toNat ((e2_1 : Int) - i) < m → Le (ref36_bit.g0 e2_1  k (Int.toNat ((e2_1 : Int) - i)) a) (iter (ref36_bit.b0 e2_1  k) m (a, i)) :=
 iter_count (e2_1 : Int) (fun i2 => (decide (i2 < e2_1))) (fun i => rfl) (fun (i2 : Int) (a2 : Int) => (a2, i2)) (fun xs i2 a2 => ref36_bit.g0 e2_1  k xs a2) (ref36_bit.b0 e2_1  k)
 (fun i2 a2 r h0 => (Le.fls h0 (Le.refl _)))
 (fun i2 d2 a2 r h0 hw ih => (Le.tru h0 (ih _ hw ((IntKind.wrap .i64 (Int.tdiv a2 2))))))
 hN
def ref36_bit.w (x0 : Int) (x1 : Int) (k : Bool → Option Ω) : Option Ω :=
 bif (decide (x1 ≤ 4611686018427387904)) then ref36_bit.g0 x1  k ((Int.toNat (x1 - 0))) x0 else none
theorem ref36_bit.ev (fuel : Nat) (x0 : Int) (x1 : Int) (k : AV → Option Ω) : evFn CDEKP (spE (C := CDEKP) [] []) (ref36_bit.F fuel) Tryz.f33 (Tryz.f33.body.getD .skip) [(.v (.int .i64) (x0)), (.v (.int .i64) (x1))] k = ref36_bit.sl x0 x1 (fun e2_1 => (ref36_bit.M0 fuel e2_1  k fuel)) (fun r => k (tupAV .bool [] r)) := by kernel_rfl
theorem ref36_bit.le (x0 : Int) (x1 : Int) (k : AV → Option Ω) : Le (ref36_bit.w x0 x1 (fun r => k (tupAV .bool [] r))) (ref36_bit.sl x0 x1 (fun e2_1 => (ref36_bit.M0 BIG e2_1  k BIG)) (fun r => k (tupAV .bool [] r))) := by
 have h1 := funext fun (e2_1 : Int) => ref36_bit.l0 BIG e2_1   k BIG
 rw [h1]
 delta ref36_bit.w ref36_bit.sl
 exact (Le.gd fun hg => ref36_bit.h0 _   _ (cnt_up hg) BIG 0 (x0) (by decide) (cnt_big hg (by decide)))
def ref36_bit.u (x0 : Int) (x1 : Int) : Option (Bool) := ref36_bit.w x0 x1 some
noncomputable def ref36_bit.n : En CDEKP := mkE CDEKP_ok (es := []) (ms := []) (fuel := (ref36_bit.F BIG)) 33 Tryz.f33 [.ai (.int .i64), .ai (.int .i64)] .bool [] (fun x {Ω} k => ref36_bit.w x.1 x.2.1 k) (fun x Ω k => leV (ref36_bit.ev BIG x.1 x.2.1 k) (ref36_bit.le x.1 x.2.1 k)) (by kernel_rfl) (by kernel_rfl)
def ref36_Begin.F (fuel : Nat) : Fuel := ⟨fuel, fun r => bif r == 15 then mL 0 106 81129638414606681695789005004729 else bif r == 10 then mL 0 106 81129638414606681695789005135801 else bif r == 3000009 then [4] else []⟩
noncomputable def ref36_Begin.V (fuel c : Nat) (env : List AV) (L : Heap) (k : Kont Ω) : Option Ω := evCode CDEKP (spE (C := CDEKP) [ref32_Check.n, ref31_New.n, ref19_New.n, ref23_New.n, ref31_Spawn.n, ref36_bit.n, ref23_Enrol.n] []) (ref36_Begin.F fuel) (pCo c Tryz.f9) env L k
def ref36_Begin.E0 (e15_1 : Int) (e10_1 : T_s26) (e10_2 : T_s81) (s15 : Int × T_s44) : List AV := (dZ 1 ((.ref 0 []) :: (.ref 1 []) :: dZ 3 ((.ref 4 []) :: dZ 6 ((.v (.int .i64) (e15_1)) :: dZ 3 ((.v (.int .i64) (s15.1)) :: dZ 88 ([]))))))
def ref36_Begin.H0 (e15_1 : Int) (e10_1 : T_s26) (e10_2 : T_s81) (s15 : Int × T_s44) : Heap := [(.box E_s26 e10_1 false), (.box E_s44 (0, ([], ([], ([], ([], ([], ())))))) false), (.box E_s81 e10_2 false), .resv, (.box E_s44 s15.2 false), (.row 123 E_s63 [] true)]
noncomputable def ref36_Begin.M0 (fuel : Nat) (e15_1 : Int) (e10_1 : T_s26) (e10_2 : T_s81) (R10 : List AV → Heap → Option Ω) (k : AV → Option Ω) (m : Nat) (s : Int × T_s44) : Option Ω := loopK (ref36_Begin.V fuel 641407) (mB 106 81129638414606681695789005004729) [] 6 (blockK 2 (blockK 1 (sqK (ref36_Begin.V fuel 14719) (loopC R10 (mB 106 81129638414606681695789005135801) [] 6 (blockK 0 (sqK (ref36_Begin.V fuel 511) (finK CDEKP Tryz.f9 k))))))) m ((ref36_Begin.E0 e15_1 e10_1 e10_2) s) ((ref36_Begin.H0 e15_1 e10_1 e10_2) s)
def ref36_Begin.E1 (e10_1 : T_s26) (e10_2 : T_s81) (s10 : Int × T_s44) : List AV := (dZ 1 ((.ref 0 []) :: (.ref 1 []) :: dZ 3 ((.ref 4 []) :: dZ 6 ((.v (.int .i64) (s10.1)) :: dZ 92 ([])))))
def ref36_Begin.H1 (e10_1 : T_s26) (e10_2 : T_s81) (s10 : Int × T_s44) : Heap := [(.box E_s26 e10_1 false), (.box E_s44 (0, ([], ([], ([], ([], ([], ())))))) false), (.box E_s81 e10_2 false), .resv, (.box E_s44 s10.2 false), (.row 123 E_s63 [] true)]
noncomputable def ref36_Begin.M1 (fuel : Nat) (e10_1 : T_s26) (e10_2 : T_s81)  (k : AV → Option Ω) (m : Nat) (s : Int × T_s44) : Option Ω := loopK (ref36_Begin.V fuel 2431) (mB 106 81129638414606681695789005135801) [] 6 (blockK 0 (sqK (ref36_Begin.V fuel 511) (finK CDEKP Tryz.f9 k))) m ((ref36_Begin.E1 e10_1 e10_2) s) ((ref36_Begin.H1 e10_1 e10_2) s)
def ref36_Begin.b0 (e15_1 : Int) (e10_1 : T_s26) (e10_2 : T_s81) (r10 : Int × T_s44 → Option Ω)  (k : T_s44 × Int → Option Ω) (r15 : Int × T_s44 → Option Ω) (s15 : Int × T_s44) : Option Ω :=
 bif (decide (s15.1 < ((List.length s15.2.2.2.2.1 : Nat) : Int))) then
 bif (idxOK e15_1 (List.length e10_1.2.2.2.2.1)) then
 (ref36_bit.u ((List.getD e10_1.2.2.2.2.1 (Int.toNat e15_1) (0, (0, (0, ())))).2.2.1) s15.1).bind fun y6 =>
 bif y6 then
 (ref23_Enrol.u s15.2.2.2.2.1 s15.1 e15_1).bind fun y7 =>
 r15 ((IntKind.wrap .i64 (s15.1 + 1)), (s15.2.1, (s15.2.2.1, (s15.2.2.2.1, (y7.1, s15.2.2.2.2.2)))))
 else
 r15 ((IntKind.wrap .i64 (s15.1 + 1)), s15.2)
 else
 none
 else
 r10 ((IntKind.wrap .i64 (e15_1 + 1)), s15.2)
def ref36_Begin.b1 (e10_1 : T_s26) (e10_2 : T_s81)  (lp0 : Int → T_s26 → T_s81 → Int × T_s44 → Option Ω) (k : T_s44 × Int → Option Ω) (r10 : Int × T_s44 → Option Ω) (s10 : Int × T_s44) : Option Ω :=
 bif (decide (s10.1 < ((List.length e10_1.2.2.2.2.1 : Nat) : Int))) then
 bif (idxOK s10.1 (List.length e10_1.2.2.2.2.1)) then
 bif (idxOK s10.1 (List.length e10_1.2.2.2.2.1)) then
 (ref31_Spawn.u s10.2.2.1 ((List.getD e10_1.2.2.2.2.1 (Int.toNat s10.1) (0, (0, (0, ())))).1) ((List.getD e10_1.2.2.2.2.1 (Int.toNat s10.1) (0, (0, (0, ())))).2.1)).bind fun y5 =>
 lp0 s10.1 e10_1 e10_2 (0, (s10.2.1, (y5.1, s10.2.2.2)))
 else
 none
 else
 none
 else
 k (s10.2, 0)
def ref36_Begin.B1 (fuel : Nat) (e10_1 : T_s26) (e10_2 : T_s81)  (k : T_s44 × Int → Option Ω) (r10 : Int × T_s44 → Option Ω) (s10 : Int × T_s44) : Option Ω := ref36_Begin.b1 e10_1 e10_2  (fun e15_1 e10_1 e10_2 => (iter (ref36_Begin.b0 e15_1 e10_1 e10_2 r10 k) fuel)) k r10 s10
theorem ref36_Begin.l0 (fuel : Nat) (e15_1 : Int) (e10_1 : T_s26) (e10_2 : T_s81) (R10 : List AV → Heap → Option Ω) (k : AV → Option Ω) : ∀ m, (ref36_Begin.M0 fuel e15_1 e10_1 e10_2 R10 k m) = iter (ref36_Begin.b0 e15_1 e10_1 e10_2 (fun s10 => R10 ((ref36_Begin.E1 e10_1 e10_2) s10) ((ref36_Begin.H1 e10_1 e10_2) s10)) (fun r => k (tupAV E_s44 [(.int .i64)] r))) m :=
 loopK_iter (envOf := (ref36_Begin.E0 e15_1 e10_1 e10_2)) (LOf := (ref36_Begin.H0 e15_1 e10_1 e10_2)) (B := ref36_Begin.b0 e15_1 e10_1 e10_2 (fun s10 => R10 ((ref36_Begin.E1 e10_1 e10_2) s10) ((ref36_Begin.H1 e10_1 e10_2) s10)) (fun r => k (tupAV E_s44 [(.int .i64)] r))) (fun R s => by kernel_rfl)
theorem ref36_Begin.l1 (fuel : Nat) (e10_1 : T_s26) (e10_2 : T_s81)  (k : AV → Option Ω) : ∀ m, (ref36_Begin.M1 fuel e10_1 e10_2  k m) = iter (ref36_Begin.B1 fuel e10_1 e10_2  (fun r => k (tupAV E_s44 [(.int .i64)] r))) m :=
 loopK_iter (envOf := (ref36_Begin.E1 e10_1 e10_2)) (LOf := (ref36_Begin.H1 e10_1 e10_2)) (B := ref36_Begin.B1 fuel e10_1 e10_2  (fun r => k (tupAV E_s44 [(.int .i64)] r))) (fun R s => by
 have h0 : ref36_Begin.V fuel 2431 ((ref36_Begin.E1 e10_1 e10_2) s) ((ref36_Begin.H1 e10_1 e10_2) s) (loopC R (mB 106 81129638414606681695789005135801) [] 6 (blockK 0 (sqK (ref36_Begin.V fuel 511) (finK CDEKP Tryz.f9 k)))) = ref36_Begin.b1 e10_1 e10_2  (fun e15_1 e10_1 e10_2 => (ref36_Begin.M0 fuel e15_1 e10_1 e10_2 R k fuel)) (fun r => k (tupAV E_s44 [(.int .i64)] r)) (fun s => R ((ref36_Begin.E1 e10_1 e10_2) s) ((ref36_Begin.H1 e10_1 e10_2) s)) s := by kernel_rfl
 have h1 := funext fun (e15_1 : Int) => funext fun (e10_1 : T_s26) => funext fun (e10_2 : T_s81) => ref36_Begin.l0 fuel e15_1 e10_1 e10_2  R k fuel
 rw [h1] at h0
 exact h0)
def ref36_Begin.sl (x0 : T_s26) (lp1 : T_s26 → T_s81 → Int × T_s44 → Option Ω) (k : T_s44 × Int → Option Ω) : Option Ω :=
 (ref32_Check.u x0).bind fun y1 =>
 bif (y1.2 != 0) then
 k ((0, ([], ([], ([], ([], ([], ())))))), y1.2)
 else
 ref31_New.u.bind fun y2 =>
 bif (decide (x0.2.2.2.1 = x0.2.2.2.1) && decide ((0 : Int) ≤ x0.2.2.2.1) && decide (x0.2.2.2.1 ≤ (2147483648 : Int))) then
 (ref19_New.u x0.2.1).bind fun y3 =>
 (ref23_New.u x0.2.2.1).bind fun y4 =>
 lp1 x0 y1.1 (0, (0, (y2, (y3.1, (y4.1, ((List.replicate (Int.toNat x0.2.2.2.1) []), ([], ())))))))
 else
 none
def ref36_Begin.gb0 (e15_1 : Int) (e10_1 : T_s26) (e10_2 : T_s81) (r10 : Int × T_s44 → Option Ω) (k : T_s44 × Int → Option Ω) (r15 : Int × T_s44 → Option Ω) (s15 : Int × T_s44) : Option Ω :=
 bif (decide (s15.1 < ((List.length s15.2.2.2.2.1 : Nat) : Int))) then
 bif (idxOK e15_1 (List.length e10_1.2.2.2.2.1)) then
 (ref36_bit.u ((List.getD e10_1.2.2.2.2.1 (Int.toNat e15_1) (0, (0, (0, ())))).2.2.1) s15.1).bind fun y6 =>
 bif y6 then
 (ref23_Enrol.u s15.2.2.2.2.1 s15.1 e15_1).bind fun y7 =>
 r15 ((IntKind.wrap .i64 (s15.1 + 1)), (s15.2.1, (s15.2.2.1, (s15.2.2.2.1, (y7.1, s15.2.2.2.2.2)))))
 else
 r15 ((IntKind.wrap .i64 (s15.1 + 1)), s15.2)
 else
 none
 else
 r10 ((e15_1 + 1), s15.2)
def ref36_Begin.g0 (e15_1 : Int) (e10_1 : T_s26) (e10_2 : T_s81) (r10 : Int × T_s44 → Option Ω) (k : T_s44 × Int → Option Ω) (s : Int × T_s44) : Option Ω := iter (ref36_Begin.gb0 e15_1 e10_1 e10_2 r10 k) BIG s
theorem ref36_Begin.h0 (e15_1 : Int) (e10_1 : T_s26) (e10_2 : T_s81) (r10 : Int × T_s44 → Option Ω) (r10' : Int × T_s44 → Option Ω) (hr10 : ∀ q : T_s44, Le (r10 ((e15_1 + 1), q)) (r10' ((IntKind.wrap .i64 (e15_1 + 1)), q))) (k : T_s44 × Int → Option Ω) (s : Int × T_s44) : Le (ref36_Begin.g0 e15_1 e10_1 e10_2 r10 k s) (iter (ref36_Begin.b0 e15_1 e10_1 e10_2 r10' k) BIG s) :=
 iter_le (B := ref36_Begin.gb0 e15_1 e10_1 e10_2 r10 k) (B' := (ref36_Begin.b0 e15_1 e10_1 e10_2 r10' k)) (fun r15 r15' s15 ih => (Le.cond (Le.cond (Le.bnd fun y6 => (Le.cond (Le.bnd fun y7 => (ih _)) (ih _))) Le.nil) (hr10 (s15.2)))) BIG s
def ref36_Begin.g1 (e10_1 : T_s26) (e10_2 : T_s81)  (k : T_s44 × Int → Option Ω) : Nat → Int → T_s44 → Option Ω
 | 0, i10, a10_1 =>
 k (a10_1, 0)
 | d10 + 1, i10, a10_1 =>
 bif (idxOK i10 (List.length e10_1.2.2.2.2.1)) then
 bif (idxOK i10 (List.length e10_1.2.2.2.2.1)) then
 (ref31_Spawn.u a10_1.2.1 ((List.getD e10_1.2.2.2.2.1 (Int.toNat i10) (0, (0, (0, ())))).1) ((List.getD e10_1.2.2.2.2.1 (Int.toNat i10) (0, (0, (0, ())))).2.1)).bind fun y5 =>
 ref36_Begin.g0 i10 e10_1 e10_2 (fun q => ref36_Begin.g1 e10_1 e10_2  k d10 q.1 q.2) k (0, (a10_1.1, (y5.1, a10_1.2.2)))
 else
 none
 else
 none
theorem ref36_Begin.h1 (e10_1 : T_s26) (e10_2 : T_s81)   (k : T_s44 × Int → Option Ω) (hN : (((List.length e10_1.2.2.2.2.1 : Nat) : Int) : Int) ≤ 9223372036854775807) : ∀ (m : Nat) (i : Int) (a : T_s44), -9223372036854775808 ≤ i → Int.toNat ((((List.length e10_1.2.2.2.2.1 : Nat) : Int) : Int) - i) < m → Le (ref36_Begin.g1 e10_1 e10_2  k (Int.toNat ((((List.length e10_1.2.2.2.2.1 : Nat) : Int) : Int) - i)) i a) (iter (ref36_Begin.B1 BIG e10_1 e10_2  k) m (i, a)) :=
 iter_count (((List.length e10_1.2.2.2.2.1 : Nat) : Int) : Int) (fun i10 => (decide (i10 < ((List.length e10_1.2.2.2.2.1 : Nat) : Int)))) (fun i => rfl) (fun (i10 : Int) (a10 : T_s44) => (i10, a10)) (fun xs i10 a10 => ref36_Begin.g1 e10_1 e10_2  k xs i10 a10) (ref36_Begin.B1 BIG e10_1 e10_2  k)
 (fun i10 a10 r h0 => (Le.fls h0 (Le.refl _)))
 (fun i10 d10 a10 r h0 hw ih => (Le.tru h0 (Le.cond (Le.cond (Le.bnd fun y5 => (ref36_Begin.h0 _ _ _ _ _ (fun q => ih _ hw q) _ _)) Le.nil) Le.nil)))
 hN
def ref36_Begin.w (x0 : T_s26) (k : T_s44 × Int → Option Ω) : Option Ω :=
 (ref32_Check.u x0).bind fun y1 =>
 bif (y1.2 != 0) then
 k ((0, ([], ([], ([], ([], ([], ())))))), y1.2)
 else
 ref31_New.u.bind fun y2 =>
 bif (decide (x0.2.2.2.1 = x0.2.2.2.1) && decide ((0 : Int) ≤ x0.2.2.2.1) && decide (x0.2.2.2.1 ≤ (2147483648 : Int))) then
 (ref19_New.u x0.2.1).bind fun y3 =>
 (ref23_New.u x0.2.2.1).bind fun y4 =>
 bif (decide (((List.length x0.2.2.2.2.1 : Nat) : Int) ≤ 4611686018427387904)) then ref36_Begin.g1 x0 y1.1  k ((Int.toNat (((List.length x0.2.2.2.2.1 : Nat) : Int) - 0))) 0 ((0, (y2, (y3.1, (y4.1, ((List.replicate (Int.toNat x0.2.2.2.1) []), ([], ()))))))) else none
 else
 none
theorem ref36_Begin.ev (fuel : Nat) (x0 : T_s26) (k : AV → Option Ω) : evFn CDEKP (spE (C := CDEKP) [ref32_Check.n, ref31_New.n, ref19_New.n, ref23_New.n, ref31_Spawn.n, ref36_bit.n, ref23_Enrol.n] []) (ref36_Begin.F fuel) Tryz.f9 (Tryz.f9.body.getD .skip) [(.v E_s26 (x0))] k = ref36_Begin.sl x0 (fun e10_1 e10_2 => (ref36_Begin.M1 fuel e10_1 e10_2  k fuel)) (fun r => k (tupAV E_s44 [(.int .i64)] r)) := by kernel_rfl
theorem ref36_Begin.le (x0 : T_s26) (k : AV → Option Ω) : Le (ref36_Begin.w x0 (fun r => k (tupAV E_s44 [(.int .i64)] r))) (ref36_Begin.sl x0 (fun e10_1 e10_2 => (ref36_Begin.M1 BIG e10_1 e10_2  k BIG)) (fun r => k (tupAV E_s44 [(.int .i64)] r))) := by
 have h2 := funext fun (e10_1 : T_s26) => funext fun (e10_2 : T_s81) => ref36_Begin.l1 BIG e10_1 e10_2   k BIG
 rw [h2]
 delta ref36_Begin.w ref36_Begin.sl
 exact (Le.bnd fun y1 => (Le.cond (Le.refl _) (Le.bnd fun y2 => (Le.cond (Le.bnd fun y3 => (Le.bnd fun y4 => (Le.gd fun hg => ref36_Begin.h1 _ _   _ (cnt_up hg) BIG 0 ((0, (y2, (y3.1, (y4.1, ((List.replicate (Int.toNat x0.2.2.2.1) []), ([], ()))))))) (by decide) (cnt_big hg (by decide))))) Le.nil))))
def ref36_Begin.u (x0 : T_s26) : Option (T_s44 × Int) := ref36_Begin.w x0 some
noncomputable def ref36_Begin.n : En CDEKP := mkE CDEKP_ok (es := [ref32_Check.n, ref31_New.n, ref19_New.n, ref23_New.n, ref31_Spawn.n, ref36_bit.n, ref23_Enrol.n]) (ms := []) (fuel := (ref36_Begin.F BIG)) 9 Tryz.f9 [.ai E_s26] E_s44 [(.int .i64)] (fun x {Ω} k => ref36_Begin.w x.1 k) (fun x Ω k => leV (ref36_Begin.ev BIG x.1 k) (ref36_Begin.le x.1 k)) (by kernel_rfl) (by kernel_rfl)
def ref36_sameChan.s (x0 : T_s114) (x1 : T_s114) (k : Bool → Option Ω) : Option Ω :=
 bif (eqI E_s110 x0.1 x1.1) then
 bif (x0.2.1 == x1.2.1) then
 (ref02_Same.u x0.2.2.1 x1.2.2.1).bind fun y1 =>
 bif y1 then
 bif (eqI .bool x0.2.2.2.1.1 x1.2.2.2.1.1) then
 (ref02_Same.u x0.2.2.2.1.2.1 x1.2.2.2.1.2.1).bind fun y2 =>
 bif y2 then
 (ref02_Same.u x0.2.2.2.2.1 x1.2.2.2.2.1).bind fun y3 =>
 bif y3 then
 bif (eqI .bool x0.2.2.2.2.2.1.1 x1.2.2.2.2.2.1.1) then
 (ref02_Same.u x0.2.2.2.2.2.1.2.1 x1.2.2.2.2.2.1.2.1).bind fun y4 =>
 k y4
 else
 k false
 else
 k false
 else
 k false
 else
 k false
 else
 k false
 else
 k false
 else
 k false
def ref36_sameChan.u (x0 : T_s114) (x1 : T_s114) : Option (Bool) := ref36_sameChan.s x0 x1 some
noncomputable def ref36_sameChan.n : En CDEKP := mkE CDEKP_ok (es := [ref02_Same.n]) (ms := []) (fuel := ⟨1, fun _ => []⟩) 37 Tryz.f37 [.ai E_s114, .ai E_s114] .bool [] (fun x {Ω} k => ref36_sameChan.s x.1 x.2.1 k) (fun x Ω k => Le.of (by kernel_rfl)) (by kernel_rfl) (by kernel_rfl)
def ref36_sameBar.s (x0 : T_s76) (x1 : T_s76) (k : Bool → Option Ω) : Option Ω :=
 bif (eqI E_s74 x0.1 x1.1) then
 bif (x0.2.2.1 == x1.2.2.1) then
 (ref02_Same.u x0.2.1.1 x1.2.1.1).bind fun y1 =>
 bif y1 then
 (ref02_Same.u x0.2.1.2.1 x1.2.1.2.1).bind fun y2 =>
 k y2
 else
 k false
 else
 k false
 else
 k false
def ref36_sameBar.u (x0 : T_s76) (x1 : T_s76) : Option (Bool) := ref36_sameBar.s x0 x1 some
noncomputable def ref36_sameBar.n : En CDEKP := mkE CDEKP_ok (es := [ref02_Same.n]) (ms := []) (fuel := ⟨1, fun _ => []⟩) 38 Tryz.f38 [.ai E_s76, .ai E_s76] .bool [] (fun x {Ω} k => ref36_sameBar.s x.1 x.2.1 k) (fun x Ω k => Le.of (by kernel_rfl)) (by kernel_rfl) (by kernel_rfl)
def ref36_Same.F (fuel : Nat) : Fuel := ⟨fuel, fun r => bif r == 14 then mL 0 113 10384593717069655257060992658440051 else bif r == 9 then mL 0 113 10384593717069655257060992658440115 else bif r == 4 then mL 0 113 10384593717069655257060992658440147 else bif r == 2000001 then [8, 9, 10, 11, 12, 13, 14, 15, 16, 17, 18, 19, 20, 21, 22, 23, 24, 25, 26, 27, 28, 29, 30, 31, 32, 33, 34, 35, 36, 37, 38, 39, 40, 41, 42, 43, 44, 45, 46, 47, 48, 49, 50, 51, 52, 53, 54, 5055] else []⟩
noncomputable def ref36_Same.V (fuel c : Nat) (env : List AV) (L : Heap) (k : Kont Ω) : Option Ω := evCode CDEKP (spE (C := CDEKP) [ref31_Same.n, ref06_Same.n, ref36_sameChan.n, ref36_sameBar.n, ref02_Same.n] []) (ref36_Same.F fuel) (pCo c Tryz.f10) env L k
def ref36_Same.E0 (e4_1 : T_s44) (e4_2 : T_s44) (s14 : Int) : List AV := (dZ 2 ((.ref 0 []) :: (.ref 1 []) :: dZ 3 ((.v (.int .i64) (s14)) :: dZ 105 ([]))))
def ref36_Same.H0 (e4_1 : T_s44) (e4_2 : T_s44) (s14 : Int) : Heap := [(.box E_s44 e4_1 false), (.box E_s44 e4_2 false)]
noncomputable def ref36_Same.M0 (fuel : Nat) (e4_1 : T_s44) (e4_2 : T_s44)  (k : AV → Option Ω) (m : Nat) (s : Int) : Option Ω := loopK (ref36_Same.V fuel 303) (mB 113 10384593717069655257060992658440051) [] 2 (blockK 4 (sqK (ref36_Same.V fuel 63) (finK CDEKP Tryz.f10 k))) m ((ref36_Same.E0 e4_1 e4_2) s) ((ref36_Same.H0 e4_1 e4_2) s)
def ref36_Same.E1 (e4_1 : T_s44) (e4_2 : T_s44) (s9 : Int) : List AV := (dZ 2 ((.ref 0 []) :: (.ref 1 []) :: dZ 2 ((.v (.int .i64) (s9)) :: dZ 106 ([]))))
def ref36_Same.H1 (e4_1 : T_s44) (e4_2 : T_s44) (s9 : Int) : Heap := [(.box E_s44 e4_1 false), (.box E_s44 e4_2 false)]
noncomputable def ref36_Same.M1 (fuel : Nat) (e4_1 : T_s44) (e4_2 : T_s44)  (k : AV → Option Ω) (m : Nat) (s : Int) : Option Ω := loopK (ref36_Same.V fuel 151) (mB 113 10384593717069655257060992658440115) [] 2 (blockK 2 (sqK (ref36_Same.V fuel 31) (finK CDEKP Tryz.f10 k))) m ((ref36_Same.E1 e4_1 e4_2) s) ((ref36_Same.H1 e4_1 e4_2) s)
def ref36_Same.E2 (e4_1 : T_s44) (e4_2 : T_s44) (s4 : Int) : List AV := (dZ 2 ((.ref 0 []) :: (.ref 1 []) :: dZ 1 ((.v (.int .i64) (s4)) :: dZ 107 ([]))))
def ref36_Same.H2 (e4_1 : T_s44) (e4_2 : T_s44) (s4 : Int) : Heap := [(.box E_s44 e4_1 false), (.box E_s44 e4_2 false)]
noncomputable def ref36_Same.M2 (fuel : Nat) (e4_1 : T_s44) (e4_2 : T_s44)  (k : AV → Option Ω) (m : Nat) (s : Int) : Option Ω := loopK (ref36_Same.V fuel 75) (mB 113 10384593717069655257060992658440147) [] 2 (blockK 0 (sqK (ref36_Same.V fuel 15) (finK CDEKP Tryz.f10 k))) m ((ref36_Same.E2 e4_1 e4_2) s) ((ref36_Same.H2 e4_1 e4_2) s)
def ref36_Same.b0 (e4_1 : T_s44) (e4_2 : T_s44)   (k : Bool → Option Ω) (r14 : Int → Option Ω) (s14 : Int) : Option Ω :=
 bif (decide (s14 < ((List.length e4_1.2.2.2.2.1 : Nat) : Int))) then
 bif (idxOK s14 (List.length e4_1.2.2.2.2.1)) then
 bif (idxOK s14 (List.length e4_2.2.2.2.2.1)) then
 (ref02_Same.u ((List.getD e4_1.2.2.2.2.1 (Int.toNat s14) [])) ((List.getD e4_2.2.2.2.2.1 (Int.toNat s14) []))).bind fun y8 =>
 bif (!y8) then
 k false
 else
 r14 ((IntKind.wrap .i64 (s14 + 1)))
 else
 none
 else
 none
 else
 k true
def ref36_Same.b1 (e4_1 : T_s44) (e4_2 : T_s44)  (lp0 : T_s44 → T_s44 → Int → Option Ω) (k : Bool → Option Ω) (r9 : Int → Option Ω) (s9 : Int) : Option Ω :=
 bif (decide (s9 < ((List.length e4_1.2.2.2.1 : Nat) : Int))) then
 bif (idxOK s9 (List.length e4_1.2.2.2.1)) then
 bif (idxOK s9 (List.length e4_2.2.2.2.1)) then
 (ref36_sameBar.u ((List.getD e4_1.2.2.2.1 (Int.toNat s9) ((false, (0, ())), (([], ([], ())), (0, ()))))) ((List.getD e4_2.2.2.2.1 (Int.toNat s9) ((false, (0, ())), (([], ([], ())), (0, ())))))).bind fun y7 =>
 bif (!y7) then
 k false
 else
 r9 ((IntKind.wrap .i64 (s9 + 1)))
 else
 none
 else
 none
 else
 lp0 e4_1 e4_2 (0)
def ref36_Same.B1 (fuel : Nat) (e4_1 : T_s44) (e4_2 : T_s44)  (k : Bool → Option Ω) (r9 : Int → Option Ω) (s9 : Int) : Option Ω := ref36_Same.b1 e4_1 e4_2  (fun e4_1 e4_2 => (iter (ref36_Same.b0 e4_1 e4_2  k) fuel)) k r9 s9
def ref36_Same.b2 (e4_1 : T_s44) (e4_2 : T_s44)  (lp1 : T_s44 → T_s44 → Int → Option Ω) (k : Bool → Option Ω) (r4 : Int → Option Ω) (s4 : Int) : Option Ω :=
 bif (decide (s4 < ((List.length e4_1.2.2.1 : Nat) : Int))) then
 bif (idxOK s4 (List.length e4_1.2.2.1)) then
 let v4 : T_s114 := (List.getD e4_1.2.2.1 (Int.toNat s4) ((0, (0, (0, (0, ())))), (0, ([], ((false, ([], ())), ([], ((false, ([], ())), ())))))))
 bif (idxOK s4 (List.length e4_2.2.2.1)) then
 let v5 : T_s114 := (List.getD e4_2.2.2.1 (Int.toNat s4) ((0, (0, (0, (0, ())))), (0, ([], ((false, ([], ())), ([], ((false, ([], ())), ())))))))
 (ref36_sameChan.u v4 v5).bind fun y6 =>
 bif (!y6) then
 k false
 else
 r4 ((IntKind.wrap .i64 (s4 + 1)))
 else
 none
 else
 none
 else
 lp1 e4_1 e4_2 (0)
def ref36_Same.B2 (fuel : Nat) (e4_1 : T_s44) (e4_2 : T_s44)  (k : Bool → Option Ω) (r4 : Int → Option Ω) (s4 : Int) : Option Ω := ref36_Same.b2 e4_1 e4_2  (fun e4_1 e4_2 => (iter (ref36_Same.B1 fuel e4_1 e4_2  k) fuel)) k r4 s4
theorem ref36_Same.l0 (fuel : Nat) (e4_1 : T_s44) (e4_2 : T_s44)  (k : AV → Option Ω) : ∀ m, (ref36_Same.M0 fuel e4_1 e4_2  k m) = iter (ref36_Same.b0 e4_1 e4_2  (fun r => k (tupAV .bool [] r))) m :=
 loopK_iter (envOf := (ref36_Same.E0 e4_1 e4_2)) (LOf := (ref36_Same.H0 e4_1 e4_2)) (B := ref36_Same.b0 e4_1 e4_2  (fun r => k (tupAV .bool [] r))) (fun R s => by kernel_rfl)
theorem ref36_Same.l1 (fuel : Nat) (e4_1 : T_s44) (e4_2 : T_s44)  (k : AV → Option Ω) : ∀ m, (ref36_Same.M1 fuel e4_1 e4_2  k m) = iter (ref36_Same.B1 fuel e4_1 e4_2  (fun r => k (tupAV .bool [] r))) m :=
 loopK_iter (envOf := (ref36_Same.E1 e4_1 e4_2)) (LOf := (ref36_Same.H1 e4_1 e4_2)) (B := ref36_Same.B1 fuel e4_1 e4_2  (fun r => k (tupAV .bool [] r))) (fun R s => by
 have h0 : ref36_Same.V fuel 151 ((ref36_Same.E1 e4_1 e4_2) s) ((ref36_Same.H1 e4_1 e4_2) s) (loopC R (mB 113 10384593717069655257060992658440115) [] 2 (blockK 2 (sqK (ref36_Same.V fuel 31) (finK CDEKP Tryz.f10 k)))) = ref36_Same.b1 e4_1 e4_2  (fun e4_1 e4_2 => (ref36_Same.M0 fuel e4_1 e4_2  k fuel)) (fun r => k (tupAV .bool [] r)) (fun s => R ((ref36_Same.E1 e4_1 e4_2) s) ((ref36_Same.H1 e4_1 e4_2) s)) s := by kernel_rfl
 have h1 := funext fun (e4_1 : T_s44) => funext fun (e4_2 : T_s44) => ref36_Same.l0 fuel e4_1 e4_2   k fuel
 rw [h1] at h0
 exact h0)
theorem ref36_Same.l2 (fuel : Nat) (e4_1 : T_s44) (e4_2 : T_s44)  (k : AV → Option Ω) : ∀ m, (ref36_Same.M2 fuel e4_1 e4_2  k m) = iter (ref36_Same.B2 fuel e4_1 e4_2  (fun r => k (tupAV .bool [] r))) m :=
 loopK_iter (envOf := (ref36_Same.E2 e4_1 e4_2)) (LOf := (ref36_Same.H2 e4_1 e4_2)) (B := ref36_Same.B2 fuel e4_1 e4_2  (fun r => k (tupAV .bool [] r))) (fun R s => by
 have h0 : ref36_Same.V fuel 75 ((ref36_Same.E2 e4_1 e4_2) s) ((ref36_Same.H2 e4_1 e4_2) s) (loopC R (mB 113 10384593717069655257060992658440147) [] 2 (blockK 0 (sqK (ref36_Same.V fuel 15) (finK CDEKP Tryz.f10 k)))) = ref36_Same.b2 e4_1 e4_2  (fun e4_1 e4_2 => (ref36_Same.M1 fuel e4_1 e4_2  k fuel)) (fun r => k (tupAV .bool [] r)) (fun s => R ((ref36_Same.E2 e4_1 e4_2) s) ((ref36_Same.H2 e4_1 e4_2) s)) s := by kernel_rfl
 have h2 := funext fun (e4_1 : T_s44) => funext fun (e4_2 : T_s44) => ref36_Same.l1 fuel e4_1 e4_2   k fuel
 rw [h2] at h0
 exact h0)
def ref36_Same.sl (x0 : T_s44) (x1 : T_s44) (lp2 : T_s44 → T_s44 → Int → Option Ω) (k : Bool → Option Ω) : Option Ω :=
 (bif (x0.1 != x1.1) then some (true, ()) else ((ref31_Same.u x0.2.1 x1.2.1).bind fun y1 => (bif (!y1) then some (true, ()) else (bif (((List.length x0.2.2.1 : Nat) : Int) != ((List.length x1.2.2.1 : Nat) : Int)) then some (true, ()) else (bif (((List.length x0.2.2.2.1 : Nat) : Int) != ((List.length x1.2.2.2.1 : Nat) : Int)) then some (true, ()) else (bif (((List.length x0.2.2.2.2.1 : Nat) : Int) != ((List.length x1.2.2.2.2.1 : Nat) : Int)) then some (true, ()) else ((ref06_Same.u x0.2.2.2.2.2.1 x1.2.2.2.2.2.1).bind fun y2 => some ((!y2), ())))))))).bind fun j3 =>
 bif j3.1 then
 k false
 else
 lp2 x0 x1 (0)
def ref36_Same.g0 (e4_1 : T_s44) (e4_2 : T_s44)  (k : Bool → Option Ω) : Nat → Int → Option Ω
 | 0, i14 =>
 k true
 | d14 + 1, i14 =>
 bif (idxOK i14 (List.length e4_1.2.2.2.2.1)) then
 bif (idxOK i14 (List.length e4_2.2.2.2.2.1)) then
 (ref02_Same.u ((List.getD e4_1.2.2.2.2.1 (Int.toNat i14) [])) ((List.getD e4_2.2.2.2.2.1 (Int.toNat i14) []))).bind fun y8 =>
 bif (!y8) then
 k false
 else
 ref36_Same.g0 e4_1 e4_2  k d14 (i14 + 1)
 else
 none
 else
 none
theorem ref36_Same.h0 (e4_1 : T_s44) (e4_2 : T_s44)   (k : Bool → Option Ω) (hN : (((List.length e4_1.2.2.2.2.1 : Nat) : Int) : Int) ≤ 9223372036854775807) : ∀ (m : Nat) (i : Int) (a : Unit), -9223372036854775808 ≤ i → Int.toNat ((((List.length e4_1.2.2.2.2.1 : Nat) : Int) : Int) - i) < m → Le (ref36_Same.g0 e4_1 e4_2  k (Int.toNat ((((List.length e4_1.2.2.2.2.1 : Nat) : Int) : Int) - i)) i) (iter (ref36_Same.b0 e4_1 e4_2  k) m (i)) :=
 iter_count (((List.length e4_1.2.2.2.2.1 : Nat) : Int) : Int) (fun i14 => (decide (i14 < ((List.length e4_1.2.2.2.2.1 : Nat) : Int)))) (fun i => rfl) (fun (i14 : Int) (a14 : Unit) => (i14)) (fun xs i14 a14 => ref36_Same.g0 e4_1 e4_2  k xs i14) (ref36_Same.b0 e4_1 e4_2  k)
 (fun i14 a14 r h0 => (Le.fls h0 (Le.refl _)))
 (fun i14 d14 a14 r h0 hw ih => (Le.tru h0 (Le.cond (Le.cond (Le.bnd fun y8 => (Le.cond (Le.refl _) (ih _ hw ()))) Le.nil) Le.nil)))
 hN
def ref36_Same.g1 (e4_1 : T_s44) (e4_2 : T_s44)  (k : Bool → Option Ω) : Nat → Int → Option Ω
 | 0, i9 =>
 bif (decide (((List.length e4_1.2.2.2.2.1 : Nat) : Int) ≤ 4611686018427387904)) then ref36_Same.g0 e4_1 e4_2  k ((Int.toNat (((List.length e4_1.2.2.2.2.1 : Nat) : Int) - 0))) 0 else none
 | d9 + 1, i9 =>
 bif (idxOK i9 (List.length e4_1.2.2.2.1)) then
 bif (idxOK i9 (List.length e4_2.2.2.2.1)) then
 (ref36_sameBar.u ((List.getD e4_1.2.2.2.1 (Int.toNat i9) ((false, (0, ())), (([], ([], ())), (0, ()))))) ((List.getD e4_2.2.2.2.1 (Int.toNat i9) ((false, (0, ())), (([], ([], ())), (0, ())))))).bind fun y7 =>
 bif (!y7) then
 k false
 else
 ref36_Same.g1 e4_1 e4_2  k d9 (i9 + 1)
 else
 none
 else
 none
theorem ref36_Same.h1 (e4_1 : T_s44) (e4_2 : T_s44)   (k : Bool → Option Ω) (hN : (((List.length e4_1.2.2.2.1 : Nat) : Int) : Int) ≤ 9223372036854775807) : ∀ (m : Nat) (i : Int) (a : Unit), -9223372036854775808 ≤ i → Int.toNat ((((List.length e4_1.2.2.2.1 : Nat) : Int) : Int) - i) < m → Le (ref36_Same.g1 e4_1 e4_2  k (Int.toNat ((((List.length e4_1.2.2.2.1 : Nat) : Int) : Int) - i)) i) (iter (ref36_Same.B1 BIG e4_1 e4_2  k) m (i)) :=
 iter_count (((List.length e4_1.2.2.2.1 : Nat) : Int) : Int) (fun i9 => (decide (i9 < ((List.length e4_1.2.2.2.1 : Nat) : Int)))) (fun i => rfl) (fun (i9 : Int) (a9 : Unit) => (i9)) (fun xs i9 a9 => ref36_Same.g1 e4_1 e4_2  k xs i9) (ref36_Same.B1 BIG e4_1 e4_2  k)
 (fun i9 a9 r h0 => (Le.fls h0 (Le.gd fun hg => ref36_Same.h0 _ _   _ (cnt_up hg) BIG 0 () (by decide) (cnt_big hg (by decide)))))
 (fun i9 d9 a9 r h0 hw ih => (Le.tru h0 (Le.cond (Le.cond (Le.bnd fun y7 => (Le.cond (Le.refl _) (ih _ hw ()))) Le.nil) Le.nil)))
 hN
def ref36_Same.g2 (e4_1 : T_s44) (e4_2 : T_s44)  (k : Bool → Option Ω) : Nat → Int → Option Ω
 | 0, i4 =>
 bif (decide (((List.length e4_1.2.2.2.1 : Nat) : Int) ≤ 4611686018427387904)) then ref36_Same.g1 e4_1 e4_2  k ((Int.toNat (((List.length e4_1.2.2.2.1 : Nat) : Int) - 0))) 0 else none
 | d4 + 1, i4 =>
 bif (idxOK i4 (List.length e4_1.2.2.1)) then
 let v4 : T_s114 := (List.getD e4_1.2.2.1 (Int.toNat i4) ((0, (0, (0, (0, ())))), (0, ([], ((false, ([], ())), ([], ((false, ([], ())), ())))))))
 bif (idxOK i4 (List.length e4_2.2.2.1)) then
 let v5 : T_s114 := (List.getD e4_2.2.2.1 (Int.toNat i4) ((0, (0, (0, (0, ())))), (0, ([], ((false, ([], ())), ([], ((false, ([], ())), ())))))))
 (ref36_sameChan.u v4 v5).bind fun y6 =>
 bif (!y6) then
 k false
 else
 ref36_Same.g2 e4_1 e4_2  k d4 (i4 + 1)
 else
 none
 else
 none
theorem ref36_Same.h2 (e4_1 : T_s44) (e4_2 : T_s44)   (k : Bool → Option Ω) (hN : (((List.length e4_1.2.2.1 : Nat) : Int) : Int) ≤ 9223372036854775807) : ∀ (m : Nat) (i : Int) (a : Unit), -9223372036854775808 ≤ i → Int.toNat ((((List.length e4_1.2.2.1 : Nat) : Int) : Int) - i) < m → Le (ref36_Same.g2 e4_1 e4_2  k (Int.toNat ((((List.length e4_1.2.2.1 : Nat) : Int) : Int) - i)) i) (iter (ref36_Same.B2 BIG e4_1 e4_2  k) m (i)) :=
 iter_count (((List.length e4_1.2.2.1 : Nat) : Int) : Int) (fun i4 => (decide (i4 < ((List.length e4_1.2.2.1 : Nat) : Int)))) (fun i => rfl) (fun (i4 : Int) (a4 : Unit) => (i4)) (fun xs i4 a4 => ref36_Same.g2 e4_1 e4_2  k xs i4) (ref36_Same.B2 BIG e4_1 e4_2  k)
 (fun i4 a4 r h0 => (Le.fls h0 (Le.gd fun hg => ref36_Same.h1 _ _   _ (cnt_up hg) BIG 0 () (by decide) (cnt_big hg (by decide)))))
 (fun i4 d4 a4 r h0 hw ih => (Le.tru h0 (Le.cond (let v4 : T_s114 := (List.getD e4_1.2.2.1 (Int.toNat i4) ((0, (0, (0, (0, ())))), (0, ([], ((false, ([], ())), ([], ((false, ([], ())), ()))))))); (Le.cond (let v5 : T_s114 := (List.getD e4_2.2.2.1 (Int.toNat i4) ((0, (0, (0, (0, ())))), (0, ([], ((false, ([], ())), ([], ((false, ([], ())), ()))))))); (Le.bnd fun y6 => (Le.cond (Le.refl _) (ih _ hw ())))) Le.nil)) Le.nil)))
 hN
def ref36_Same.w (x0 : T_s44) (x1 : T_s44) (k : Bool → Option Ω) : Option Ω :=
 (bif (x0.1 != x1.1) then some (true, ()) else ((ref31_Same.u x0.2.1 x1.2.1).bind fun y1 => (bif (!y1) then some (true, ()) else (bif (((List.length x0.2.2.1 : Nat) : Int) != ((List.length x1.2.2.1 : Nat) : Int)) then some (true, ()) else (bif (((List.length x0.2.2.2.1 : Nat) : Int) != ((List.length x1.2.2.2.1 : Nat) : Int)) then some (true, ()) else (bif (((List.length x0.2.2.2.2.1 : Nat) : Int) != ((List.length x1.2.2.2.2.1 : Nat) : Int)) then some (true, ()) else ((ref06_Same.u x0.2.2.2.2.2.1 x1.2.2.2.2.2.1).bind fun y2 => some ((!y2), ())))))))).bind fun j3 =>
 bif j3.1 then
 k false
 else
 bif (decide (((List.length x0.2.2.1 : Nat) : Int) ≤ 4611686018427387904)) then ref36_Same.g2 x0 x1  k ((Int.toNat (((List.length x0.2.2.1 : Nat) : Int) - 0))) 0 else none
theorem ref36_Same.ev (fuel : Nat) (x0 : T_s44) (x1 : T_s44) (k : AV → Option Ω) : evFn CDEKP (spE (C := CDEKP) [ref31_Same.n, ref06_Same.n, ref36_sameChan.n, ref36_sameBar.n, ref02_Same.n] []) (ref36_Same.F fuel) Tryz.f10 (Tryz.f10.body.getD .skip) [(.v E_s44 (x0)), (.v E_s44 (x1))] k = ref36_Same.sl x0 x1 (fun e4_1 e4_2 => (ref36_Same.M2 fuel e4_1 e4_2  k fuel)) (fun r => k (tupAV .bool [] r)) := by kernel_rfl
theorem ref36_Same.le (x0 : T_s44) (x1 : T_s44) (k : AV → Option Ω) : Le (ref36_Same.w x0 x1 (fun r => k (tupAV .bool [] r))) (ref36_Same.sl x0 x1 (fun e4_1 e4_2 => (ref36_Same.M2 BIG e4_1 e4_2  k BIG)) (fun r => k (tupAV .bool [] r))) := by
 have h3 := funext fun (e4_1 : T_s44) => funext fun (e4_2 : T_s44) => ref36_Same.l2 BIG e4_1 e4_2   k BIG
 rw [h3]
 delta ref36_Same.w ref36_Same.sl
 exact (Le.bnd fun j3 => (Le.cond (Le.refl _) (Le.gd fun hg => ref36_Same.h2 _ _   _ (cnt_up hg) BIG 0 () (by decide) (cnt_big hg (by decide)))))
def ref36_Same.u (x0 : T_s44) (x1 : T_s44) : Option (Bool) := ref36_Same.w x0 x1 some
noncomputable def ref36_Same.n : En CDEKP := mkE CDEKP_ok (es := [ref31_Same.n, ref06_Same.n, ref36_sameChan.n, ref36_sameBar.n, ref02_Same.n]) (ms := []) (fuel := (ref36_Same.F BIG)) 10 Tryz.f10 [.ai E_s44, .ai E_s44] .bool [] (fun x {Ω} k => ref36_Same.w x.1 x.2.1 k) (fun x Ω k => leV (ref36_Same.ev BIG x.1 x.2.1 k) (ref36_Same.le x.1 x.2.1 k)) (by kernel_rfl) (by kernel_rfl)
def snap_Snap_waiting.g0 (e2_1 : Int) (e2_2 : Int) (e5_1 : Int) (e2_3 : (List Int)) (e2_4 : Int) (e5_2 : Int) (e5_3 : (List T_s227)) (e2_5 : T_s35) (r2 : Int → Option Ω) (k : (List Int) × (List Int) → Option Ω) : List T_s227 → Option Ω
 | [] =>
 r2 ((e5_2 + 1))
 | x5 :: xs5 =>
 (bif (x5.1 == e2_1) then some ((x5.2.1 == e2_2), ()) else some (false, ())).bind fun j3 =>
 bif j3.1 then
 none
 else
 snap_Snap_waiting.g0 e2_1 e2_2 e5_1 e2_3 e2_4 e5_2 e5_3 e2_5 r2 k xs5
def snap_Snap_waiting.g1 (e2_1 : Int) (e2_2 : Int) (e2_3 : (List Int)) (e2_5 : T_s35)  (k : (List Int) × (List Int) → Option Ω) : List Int → Int → Option Ω
 | [], i2 =>
 k ([], [])
 | x2 :: xs2, i2 =>
 bif (idxOK x2 (List.length e2_5.2.1)) then
 let v2 : (List T_s227) := (List.getD e2_5.2.1 (Int.toNat x2) (0, (false, (0, ((0, (false, ((List.replicate 8 0), ((List.replicate 16 0), (0, ((List.replicate 8 0), ())))))), (0, (0, (0, ([], ()))))))))).2.2.2.2.2.2.2.1
 bif decide (((List.length v2 : Nat) : Int) ≤ 4611686018427387904) then snap_Snap_waiting.g0 e2_1 e2_2 x2 e2_3 (((List.length e2_3 : Nat) : Int)) i2 v2 e2_5 (fun q => snap_Snap_waiting.g1 e2_1 e2_2 e2_3 e2_5  k xs2 q) k v2  else none
 else
 none
def slices_Equal_int_int.F (fuel : Nat) : Fuel := ⟨fuel, fun r => bif r == 4 then mL 0 26 67096572 else []⟩
noncomputable def slices_Equal_int_int.V (fuel c : Nat) (env : List AV) (L : Heap) (k : Kont Ω) : Option Ω := evCode CDEKP (spE (C := CDEKP) [] []) (slices_Equal_int_int.F fuel) (pCo c Tryz.f84) env L k
def slices_Equal_int_int.E0 (e4_1 : (List Int)) (e4_2 : (List Int)) (e4_3 : Int) (s4 : Int) : List AV := ((.v (.slice (.int .i64)) (e4_1)) :: (.v (.slice (.int .i64)) (e4_2)) :: dZ 10 ((.v (.int .i64) (e4_3)) :: (.v (.int .i64) (s4)) :: dZ 12 ([])))
def slices_Equal_int_int.H0 (e4_1 : (List Int)) (e4_2 : (List Int)) (e4_3 : Int) (s4 : Int) : Heap := []
noncomputable def slices_Equal_int_int.M0 (fuel : Nat) (e4_1 : (List Int)) (e4_2 : (List Int)) (e4_3 : Int)  (k : AV → Option Ω) (m : Nat) (s : Int) : Option Ω := loopK (slices_Equal_int_int.V fuel 75) (mB 26 67096572) [] 0 (blockK 0 (sqK (slices_Equal_int_int.V fuel 15) (finK CDEKP Tryz.f84 k))) m ((slices_Equal_int_int.E0 e4_1 e4_2 e4_3) s) ((slices_Equal_int_int.H0 e4_1 e4_2 e4_3) s)
def slices_Equal_int_int.b0 (e4_1 : (List Int)) (e4_2 : (List Int)) (e4_3 : Int)   (k : Bool → Option Ω) (r4 : Int → Option Ω) (s4 : Int) : Option Ω :=
 bif (decide (s4 < e4_3)) then
 bif (idxOK s4 (List.length e4_1)) then
 bif (idxOK s4 (List.length e4_2)) then
 bif ((List.getD e4_1 (Int.toNat s4) 0) != (List.getD e4_2 (Int.toNat s4) 0)) then
 k false
 else
 r4 ((IntKind.wrap .i64 (s4 + 1)))
 else
 none
 else
 none
 else
 k true
theorem slices_Equal_int_int.l0 (fuel : Nat) (e4_1 : (List Int)) (e4_2 : (List Int)) (e4_3 : Int)  (k : AV → Option Ω) : ∀ m, (slices_Equal_int_int.M0 fuel e4_1 e4_2 e4_3  k m) = iter (slices_Equal_int_int.b0 e4_1 e4_2 e4_3  (fun r => k (tupAV .bool [] r))) m :=
 loopK_iter (envOf := (slices_Equal_int_int.E0 e4_1 e4_2 e4_3)) (LOf := (slices_Equal_int_int.H0 e4_1 e4_2 e4_3)) (B := slices_Equal_int_int.b0 e4_1 e4_2 e4_3  (fun r => k (tupAV .bool [] r))) (fun R s => by kernel_rfl)
def slices_Equal_int_int.sl (x0 : (List Int)) (x1 : (List Int)) (lp0 : (List Int) → (List Int) → Int → Int → Option Ω) (k : Bool → Option Ω) : Option Ω :=
 bif (((List.length x0 : Nat) : Int) != ((List.length x1 : Nat) : Int)) then
 k false
 else
 lp0 x0 x1 (((List.length x0 : Nat) : Int)) (0)
def slices_Equal_int_int.g0 (e4_1 : (List Int)) (e4_2 : (List Int))  (k : Bool → Option Ω) : List Int → Int → Option Ω
 | [], i4 =>
 k true
 | x4 :: xs4, i4 =>
 bif (idxOK i4 (List.length e4_2)) then
 bif (x4 != (List.getD e4_2 (Int.toNat i4) 0)) then
 k false
 else
 slices_Equal_int_int.g0 e4_1 e4_2  k xs4 (i4 + 1)
 else
 none
theorem slices_Equal_int_int.h0 (e4_1 : (List Int)) (e4_2 : (List Int))   (k : Bool → Option Ω) (hX : ((List.length e4_1 : Nat) : Int) ≤ 9223372036854775807) : ∀ (m : Nat) (i : Int) (a : Unit), 0 ≤ i → i ≤ ((List.length e4_1 : Nat) : Int) → ((List.length e4_1 : Nat) : Int) < m + i → Le (slices_Equal_int_int.g0 e4_1 e4_2  k (List.drop (Int.toNat i) e4_1) i) (iter (slices_Equal_int_int.b0 e4_1 e4_2 (((List.length e4_1 : Nat) : Int))  k) m (i)) :=
 iter_list e4_1 0 (fun (i4 : Int) (a4 : Unit) => (i4)) (fun xs i4 a4 => slices_Equal_int_int.g0 e4_1 e4_2  k xs i4) (slices_Equal_int_int.b0 e4_1 e4_2 (((List.length e4_1 : Nat) : Int))  k)
 (fun i4 a4 r h0 => (Le.fls h0 (Le.refl _)))
 (fun i4 xs4 a4 r h0 h1 hw ih => (Le.tru h0 (Le.tru h1 (Le.cond (Le.cond (Le.refl _) (ih _ hw ())) Le.nil))))
 hX
def slices_Equal_int_int.w (x0 : (List Int)) (x1 : (List Int)) (k : Bool → Option Ω) : Option Ω :=
 bif (((List.length x0 : Nat) : Int) != ((List.length x1 : Nat) : Int)) then
 k false
 else
 bif decide (((List.length x0 : Nat) : Int) ≤ 4611686018427387904) then slices_Equal_int_int.g0 x0 x1  k x0 0 else none
theorem slices_Equal_int_int.ev (fuel : Nat) (x0 : (List Int)) (x1 : (List Int)) (k : AV → Option Ω) : evFn CDEKP (spE (C := CDEKP) [] []) (slices_Equal_int_int.F fuel) Tryz.f84 (Tryz.f84.body.getD .skip) [(.v (.slice (.int .i64)) (x0)), (.v (.slice (.int .i64)) (x1))] k = slices_Equal_int_int.sl x0 x1 (fun e4_1 e4_2 e4_3 => (slices_Equal_int_int.M0 fuel e4_1 e4_2 e4_3  k fuel)) (fun r => k (tupAV .bool [] r)) := by kernel_rfl
theorem slices_Equal_int_int.le (x0 : (List Int)) (x1 : (List Int)) (k : AV → Option Ω) : Le (slices_Equal_int_int.w x0 x1 (fun r => k (tupAV .bool [] r))) (slices_Equal_int_int.sl x0 x1 (fun e4_1 e4_2 e4_3 => (slices_Equal_int_int.M0 BIG e4_1 e4_2 e4_3  k BIG)) (fun r => k (tupAV .bool [] r))) := by
 have h1 := funext fun (e4_1 : (List Int)) => funext fun (e4_2 : (List Int)) => funext fun (e4_3 : Int) => slices_Equal_int_int.l0 BIG e4_1 e4_2 e4_3   k BIG
 rw [h1]
 delta slices_Equal_int_int.w slices_Equal_int_int.sl
 exact (Le.cond (Le.refl _) (Le.gd fun hg => slices_Equal_int_int.h0 _ _   _ (le_up (of_decide_eq_true hg)) BIG 0 () (by decide) (zero_le_len _) (big_list (of_decide_eq_true hg))))
def slices_Equal_int_int.u (x0 : (List Int)) (x1 : (List Int)) : Option (Bool) := slices_Equal_int_int.w x0 x1 some
noncomputable def slices_Equal_int_int.n : En CDEKP := mkE CDEKP_ok (es := []) (ms := []) (fuel := (slices_Equal_int_int.F BIG)) 84 Tryz.f84 [.ai (.slice (.int .i64)), .ai (.slice (.int .i64))] .bool [] (fun x {Ω} k => slices_Equal_int_int.w x.1 x.2.1 k) (fun x Ω k => leV (slices_Equal_int_int.ev BIG x.1 x.2.1 k) (slices_Equal_int_int.le x.1 x.2.1 k)) (by kernel_rfl) (by kernel_rfl)
noncomputable def slices_Clone_193.n : Me CDEKP := Me.of (g := 193) (fx := fun {_} => slices_Clone_193.fx) (FxOK.mono le_C_CDEKP slices_Clone_193.fx_ok)
noncomputable def slices_Sort.n : Me CDEKP := Me.of (g := 194) (fx := fun {_} => slices_Sort.fx) (FxOK.mono le_C_CDEKP slices_Sort.fx_ok)
def snap_alike.s (x0 : (List Int)) (x1 : (List Int)) (k : Bool → Option Ω) : Option Ω :=
 bif (decide (List.length x0 ≤ rowMax)) then
 bif (decide (List.length x1 ≤ rowMax)) then
 bif (decide (List.length x0 ≤ rowMax)) then
 bif (decide (List.length x1 ≤ rowMax)) then
 (slices_Equal_int_int.u (sortB leI x0) (sortB leI x1)).bind fun y1 =>
 k y1
 else
 none
 else
 none
 else
 none
 else
 none
noncomputable def snap_alike.n : En CDEKP := mkE CDEKP_ok (es := [slices_Equal_int_int.n]) (ms := [slices_Clone_193.n, slices_Sort.n]) (fuel := ⟨1, fun _ => []⟩) 130 Tryz.f130 [.ai (.slice (.int .i64)), .ai (.slice (.int .i64))] .bool [] (fun x {Ω} k => snap_alike.s x.1 x.2.1 k) (fun x Ω k => Le.of (by kernel_rfl)) (by kernel_rfl) (by kernel_rfl)
def snap_Snap_open.F (fuel : Nat) : Fuel := ⟨fuel, fun r => bif r == 3 then mL 0 28 268434547 else bif r == 2000005 then [14, 15, 16, 17, 18, 19, 5020] else []⟩
noncomputable def snap_Snap_open.V (fuel c : Nat) (env : List AV) (L : Heap) (k : Kont Ω) : Option Ω := evCode CDEKP (spE (C := CDEKP) [bitset_Of.n] []) (snap_Snap_open.F fuel) (pCo c Tryz.f135) env L k
def snap_Snap_open.E0 (e3_1 : (List T_s70)) (e3_2 : Int) (e3_3 : T_s35) (e3_4 : (List Int)) (s3 : Int × (List Int)) : List AV := (dZ 2 ((.ref 1 []) :: (.rs 2) :: dZ 3 ((.v (.slice E_s70) (e3_1)) :: (.v (.int .i64) (e3_2)) :: (.v (.int .i64) (s3.1)) :: dZ 18 ([]))))
def snap_Snap_open.H0 (e3_1 : (List T_s70)) (e3_2 : Int) (e3_3 : T_s35) (e3_4 : (List Int)) (s3 : Int × (List Int)) : Heap := [(.box E_s35 e3_3 false), (.box (.arr 4 (.int .u64)) e3_4 false), (.row 3 (.int .i64) s3.2 false)]
noncomputable def snap_Snap_open.M0 (fuel : Nat) (e3_1 : (List T_s70)) (e3_2 : Int) (e3_3 : T_s35) (e3_4 : (List Int))  (k : AV → Option Ω) (m : Nat) (s : Int × (List Int)) : Option Ω := loopK (snap_Snap_open.V fuel 75) (mB 28 268434547) [] 3 (blockK 0 (sqK (snap_Snap_open.V fuel 15) (finK CDEKP Tryz.f135 k))) m ((snap_Snap_open.E0 e3_1 e3_2 e3_3 e3_4) s) ((snap_Snap_open.H0 e3_1 e3_2 e3_3 e3_4) s)
def snap_Snap_open.b0 (e3_1 : (List T_s70)) (e3_2 : Int) (e3_3 : T_s35) (e3_4 : (List Int))   (k : (List Int) → Option Ω) (r3 : Int × (List Int) → Option Ω) (s3 : Int × (List Int)) : Option Ω :=
 bif (decide (s3.1 < e3_2)) then
 bif (idxOK s3.1 (List.length e3_1)) then
 let v1 : T_s70 := (List.getD e3_1 (Int.toNat s3.1) (0, (false, (0, ((0, (false, ((List.replicate 8 0), ((List.replicate 16 0), (0, ((List.replicate 8 0), ())))))), (0, (0, (0, ([], ())))))))))
 (bif v1.2.1 then some ((v1.2.2.2.2.1 != 3), ()) else some (false, ())).bind fun j2 =>
 bif j2.1 then
 bif (decide (List.length s3.2 + List.length [s3.1] ≤ rowMax)) then
 r3 ((IntKind.wrap .i64 (s3.1 + 1)), (s3.2 ++ [s3.1]))
 else
 none
 else
 r3 ((IntKind.wrap .i64 (s3.1 + 1)), s3.2)
 else
 none
 else
 (bitset_Of.u s3.2).bind fun y3 =>
 k y3
theorem snap_Snap_open.l0 (fuel : Nat) (e3_1 : (List T_s70)) (e3_2 : Int) (e3_3 : T_s35) (e3_4 : (List Int))  (k : AV → Option Ω) : ∀ m, (snap_Snap_open.M0 fuel e3_1 e3_2 e3_3 e3_4  k m) = iter (snap_Snap_open.b0 e3_1 e3_2 e3_3 e3_4  (fun r => k (tupAV (.arr 4 (.int .u64)) [] r))) m :=
 loopK_iter (envOf := (snap_Snap_open.E0 e3_1 e3_2 e3_3 e3_4)) (LOf := (snap_Snap_open.H0 e3_1 e3_2 e3_3 e3_4)) (B := snap_Snap_open.b0 e3_1 e3_2 e3_3 e3_4  (fun r => k (tupAV (.arr 4 (.int .u64)) [] r))) (fun R s => by kernel_rfl)
def snap_Snap_open.sl (x0 : T_s35) (lp0 : (List T_s70) → Int → T_s35 → (List Int) → Int × (List Int) → Option Ω) (k : (List Int) → Option Ω) : Option Ω :=
 lp0 x0.2.1 (((List.length x0.2.1 : Nat) : Int)) x0 (List.replicate 4 0) (0, [])
def snap_Snap_open.g0 (e3_1 : (List T_s70)) (e3_3 : T_s35) (e3_4 : (List Int))  (k : (List Int) → Option Ω) : List T_s70 → Int → (List Int) → Option Ω
 | [], i3, a3_1 =>
 (bitset_Of.u a3_1).bind fun y3 =>
 k y3
 | x3 :: xs3, i3, a3_1 =>
 let v1 : T_s70 := x3
 (bif v1.2.1 then some ((v1.2.2.2.2.1 != 3), ()) else some (false, ())).bind fun j2 =>
 bif j2.1 then
 bif (decide (List.length a3_1 + List.length [i3] ≤ rowMax)) then
 snap_Snap_open.g0 e3_1 e3_3 e3_4  k xs3 (i3 + 1) (a3_1 ++ [i3])
 else
 none
 else
 snap_Snap_open.g0 e3_1 e3_3 e3_4  k xs3 (i3 + 1) a3_1
theorem snap_Snap_open.h0 (e3_1 : (List T_s70)) (e3_3 : T_s35) (e3_4 : (List Int))   (k : (List Int) → Option Ω) (hX : ((List.length e3_1 : Nat) : Int) ≤ 9223372036854775807) : ∀ (m : Nat) (i : Int) (a : (List Int)), 0 ≤ i → i ≤ ((List.length e3_1 : Nat) : Int) → ((List.length e3_1 : Nat) : Int) < m + i → Le (snap_Snap_open.g0 e3_1 e3_3 e3_4  k (List.drop (Int.toNat i) e3_1) i a) (iter (snap_Snap_open.b0 e3_1 (((List.length e3_1 : Nat) : Int)) e3_3 e3_4  k) m (i, a)) :=
 iter_list e3_1 (0, (false, (0, ((0, (false, ((List.replicate 8 0), ((List.replicate 16 0), (0, ((List.replicate 8 0), ())))))), (0, (0, (0, ([], ())))))))) (fun (i3 : Int) (a3 : (List Int)) => (i3, a3)) (fun xs i3 a3 => snap_Snap_open.g0 e3_1 e3_3 e3_4  k xs i3 a3) (snap_Snap_open.b0 e3_1 (((List.length e3_1 : Nat) : Int)) e3_3 e3_4  k)
 (fun i3 a3 r h0 => (Le.fls h0 (Le.bnd fun y3 => (Le.refl _))))
 (fun i3 xs3 a3 r h0 h1 hw ih => (Le.tru h0 (Le.tru h1 (let v1 : T_s70 := (List.getD e3_1 (Int.toNat i3) (0, (false, (0, ((0, (false, ((List.replicate 8 0), ((List.replicate 16 0), (0, ((List.replicate 8 0), ())))))), (0, (0, (0, ([], ()))))))))); (Le.bnd fun j2 => (Le.cond (Le.cond (ih _ hw ((a3 ++ [i3]))) Le.nil) (ih _ hw (a3))))))))
 hX
def snap_Snap_open.w (x0 : T_s35) (k : (List Int) → Option Ω) : Option Ω :=
 bif decide (((List.length x0.2.1 : Nat) : Int) ≤ 4611686018427387904) then snap_Snap_open.g0 x0.2.1 x0 (List.replicate 4 0)  k x0.2.1 0 ([]) else none
theorem snap_Snap_open.ev (fuel : Nat) (x0 : T_s35) (k : AV → Option Ω) : evFn CDEKP (spE (C := CDEKP) [bitset_Of.n] []) (snap_Snap_open.F fuel) Tryz.f135 (Tryz.f135.body.getD .skip) [(.v E_s35 (x0))] k = snap_Snap_open.sl x0 (fun e3_1 e3_2 e3_3 e3_4 => (snap_Snap_open.M0 fuel e3_1 e3_2 e3_3 e3_4  k fuel)) (fun r => k (tupAV (.arr 4 (.int .u64)) [] r)) := by kernel_rfl
theorem snap_Snap_open.le (x0 : T_s35) (k : AV → Option Ω) : Le (snap_Snap_open.w x0 (fun r => k (tupAV (.arr 4 (.int .u64)) [] r))) (snap_Snap_open.sl x0 (fun e3_1 e3_2 e3_3 e3_4 => (snap_Snap_open.M0 BIG e3_1 e3_2 e3_3 e3_4  k BIG)) (fun r => k (tupAV (.arr 4 (.int .u64)) [] r))) := by
 have h1 := funext fun (e3_1 : (List T_s70)) => funext fun (e3_2 : Int) => funext fun (e3_3 : T_s35) => funext fun (e3_4 : (List Int)) => snap_Snap_open.l0 BIG e3_1 e3_2 e3_3 e3_4   k BIG
 rw [h1]
 delta snap_Snap_open.w snap_Snap_open.sl
 exact (Le.gd fun hg => snap_Snap_open.h0 _ _ _   _ (le_up (of_decide_eq_true hg)) BIG 0 ([]) (by decide) (zero_le_len _) (big_list (of_decide_eq_true hg)))
noncomputable def snap_Snap_open.n : En CDEKP := mkE CDEKP_ok (es := [bitset_Of.n]) (ms := []) (fuel := (snap_Snap_open.F BIG)) 135 Tryz.f135 [.ai E_s35] (.arr 4 (.int .u64)) [] (fun x {Ω} k => snap_Snap_open.w x.1 k) (fun x Ω k => leV (snap_Snap_open.ev BIG x.1 k) (snap_Snap_open.le x.1 k)) (by kernel_rfl) (by kernel_rfl)
def slices_Index_timers_Timer_timers_Timer.F (fuel : Nat) : Fuel := ⟨fuel, fun r => bif r == 2 then mL 0 19 523894 else []⟩
noncomputable def slices_Index_timers_Timer_timers_Timer.V (fuel c : Nat) (env : List AV) (L : Heap) (k : Kont Ω) : Option Ω := evCode CDEKP (spE (C := CDEKP) [] []) (slices_Index_timers_Timer_timers_Timer.F fuel) (pCo c Tryz.f136) env L k
def slices_Index_timers_Timer_timers_Timer.E0 (e2_1 : (List T_s63)) (e2_2 : Int) (e2_3 : T_s63) (s2 : Int) : List AV := ((.v (.slice E_s63) (e2_1)) :: dZ 2 ((.ref 0 []) :: dZ 3 ((.v (.int .i64) (e2_2)) :: (.v (.int .i64) (s2)) :: dZ 10 ([]))))
def slices_Index_timers_Timer_timers_Timer.H0 (e2_1 : (List T_s63)) (e2_2 : Int) (e2_3 : T_s63) (s2 : Int) : Heap := [(.box E_s63 e2_3 false)]
noncomputable def slices_Index_timers_Timer_timers_Timer.M0 (fuel : Nat) (e2_1 : (List T_s63)) (e2_2 : Int) (e2_3 : T_s63)  (k : AV → Option Ω) (m : Nat) (s : Int) : Option Ω := loopK (slices_Index_timers_Timer_timers_Timer.V fuel 37) (mB 19 523894) [] 1 (blockK 0 (sqK (slices_Index_timers_Timer_timers_Timer.V fuel 7) (finK CDEKP Tryz.f136 k))) m ((slices_Index_timers_Timer_timers_Timer.E0 e2_1 e2_2 e2_3) s) ((slices_Index_timers_Timer_timers_Timer.H0 e2_1 e2_2 e2_3) s)
def slices_Index_timers_Timer_timers_Timer.b0 (e2_1 : (List T_s63)) (e2_2 : Int) (e2_3 : T_s63)   (k : Int → Option Ω) (r2 : Int → Option Ω) (s2 : Int) : Option Ω :=
 bif (decide (s2 < e2_2)) then
 bif (idxOK s2 (List.length e2_1)) then
 bif (eqI E_s63 e2_3 (List.getD e2_1 (Int.toNat s2) (0, (0, (0, ()))))) then
 k s2
 else
 r2 ((IntKind.wrap .i64 (s2 + 1)))
 else
 none
 else
 k (-1)
theorem slices_Index_timers_Timer_timers_Timer.l0 (fuel : Nat) (e2_1 : (List T_s63)) (e2_2 : Int) (e2_3 : T_s63)  (k : AV → Option Ω) : ∀ m, (slices_Index_timers_Timer_timers_Timer.M0 fuel e2_1 e2_2 e2_3  k m) = iter (slices_Index_timers_Timer_timers_Timer.b0 e2_1 e2_2 e2_3  (fun r => k (tupAV (.int .i64) [] r))) m :=
 loopK_iter (envOf := (slices_Index_timers_Timer_timers_Timer.E0 e2_1 e2_2 e2_3)) (LOf := (slices_Index_timers_Timer_timers_Timer.H0 e2_1 e2_2 e2_3)) (B := slices_Index_timers_Timer_timers_Timer.b0 e2_1 e2_2 e2_3  (fun r => k (tupAV (.int .i64) [] r))) (fun R s => by kernel_rfl)
def slices_Index_timers_Timer_timers_Timer.sl (x0 : (List T_s63)) (x1 : T_s63) (lp0 : (List T_s63) → Int → T_s63 → Int → Option Ω) (k : Int → Option Ω) : Option Ω :=
 lp0 x0 (((List.length x0 : Nat) : Int)) x1 (0)
def slices_Index_timers_Timer_timers_Timer.g0 (e2_1 : (List T_s63)) (e2_3 : T_s63)  (k : Int → Option Ω) : List T_s63 → Int → Option Ω
 | [], i2 =>
 k (-1)
 | x2 :: xs2, i2 =>
 bif (eqI E_s63 e2_3 x2) then
 k i2
 else
 slices_Index_timers_Timer_timers_Timer.g0 e2_1 e2_3  k xs2 (i2 + 1)
theorem slices_Index_timers_Timer_timers_Timer.h0 (e2_1 : (List T_s63)) (e2_3 : T_s63)   (k : Int → Option Ω) (hX : ((List.length e2_1 : Nat) : Int) ≤ 9223372036854775807) : ∀ (m : Nat) (i : Int) (a : Unit), 0 ≤ i → i ≤ ((List.length e2_1 : Nat) : Int) → ((List.length e2_1 : Nat) : Int) < m + i → Le (slices_Index_timers_Timer_timers_Timer.g0 e2_1 e2_3  k (List.drop (Int.toNat i) e2_1) i) (iter (slices_Index_timers_Timer_timers_Timer.b0 e2_1 (((List.length e2_1 : Nat) : Int)) e2_3  k) m (i)) :=
 iter_list e2_1 (0, (0, (0, ()))) (fun (i2 : Int) (a2 : Unit) => (i2)) (fun xs i2 a2 => slices_Index_timers_Timer_timers_Timer.g0 e2_1 e2_3  k xs i2) (slices_Index_timers_Timer_timers_Timer.b0 e2_1 (((List.length e2_1 : Nat) : Int)) e2_3  k)
 (fun i2 a2 r h0 => (Le.fls h0 (Le.refl _)))
 (fun i2 xs2 a2 r h0 h1 hw ih => (Le.tru h0 (Le.tru h1 (Le.cond (Le.refl _) (ih _ hw ())))))
 hX
def slices_Index_timers_Timer_timers_Timer.w (x0 : (List T_s63)) (x1 : T_s63) (k : Int → Option Ω) : Option Ω :=
 bif decide (((List.length x0 : Nat) : Int) ≤ 4611686018427387904) then slices_Index_timers_Timer_timers_Timer.g0 x0 x1  k x0 0 else none
theorem slices_Index_timers_Timer_timers_Timer.ev (fuel : Nat) (x0 : (List T_s63)) (x1 : T_s63) (k : AV → Option Ω) : evFn CDEKP (spE (C := CDEKP) [] []) (slices_Index_timers_Timer_timers_Timer.F fuel) Tryz.f136 (Tryz.f136.body.getD .skip) [(.v (.slice E_s63) (x0)), (.v E_s63 (x1))] k = slices_Index_timers_Timer_timers_Timer.sl x0 x1 (fun e2_1 e2_2 e2_3 => (slices_Index_timers_Timer_timers_Timer.M0 fuel e2_1 e2_2 e2_3  k fuel)) (fun r => k (tupAV (.int .i64) [] r)) := by kernel_rfl
theorem slices_Index_timers_Timer_timers_Timer.le (x0 : (List T_s63)) (x1 : T_s63) (k : AV → Option Ω) : Le (slices_Index_timers_Timer_timers_Timer.w x0 x1 (fun r => k (tupAV (.int .i64) [] r))) (slices_Index_timers_Timer_timers_Timer.sl x0 x1 (fun e2_1 e2_2 e2_3 => (slices_Index_timers_Timer_timers_Timer.M0 BIG e2_1 e2_2 e2_3  k BIG)) (fun r => k (tupAV (.int .i64) [] r))) := by
 have h1 := funext fun (e2_1 : (List T_s63)) => funext fun (e2_2 : Int) => funext fun (e2_3 : T_s63) => slices_Index_timers_Timer_timers_Timer.l0 BIG e2_1 e2_2 e2_3   k BIG
 rw [h1]
 delta slices_Index_timers_Timer_timers_Timer.w slices_Index_timers_Timer_timers_Timer.sl
 exact (Le.gd fun hg => slices_Index_timers_Timer_timers_Timer.h0 _ _   _ (le_up (of_decide_eq_true hg)) BIG 0 () (by decide) (zero_le_len _) (big_list (of_decide_eq_true hg)))
noncomputable def slices_Index_timers_Timer_timers_Timer.n : En CDEKP := mkE CDEKP_ok (es := []) (ms := []) (fuel := (slices_Index_timers_Timer_timers_Timer.F BIG)) 136 Tryz.f136 [.ai (.slice E_s63), .ai E_s63] (.int .i64) [] (fun x {Ω} k => slices_Index_timers_Timer_timers_Timer.w x.1 x.2.1 k) (fun x Ω k => leV (slices_Index_timers_Timer_timers_Timer.ev BIG x.1 x.2.1 k) (slices_Index_timers_Timer_timers_Timer.le x.1 x.2.1 k)) (by kernel_rfl) (by kernel_rfl)
noncomputable def slices_Delete_137.n : Me CDEKP := Me.of (g := 137) (fx := fun {_} => slices_Delete_137.fx) (FxOK.mono le_C_CDEKP slices_Delete_137.fx_ok)
def slices_Equal_barrier_Bar_barrier_Bar.F (fuel : Nat) : Fuel := ⟨fuel, fun r => bif r == 4 then mL 0 26 67096572 else []⟩
noncomputable def slices_Equal_barrier_Bar_barrier_Bar.V (fuel c : Nat) (env : List AV) (L : Heap) (k : Kont Ω) : Option Ω := evCode CDEKP (spE (C := CDEKP) [] []) (slices_Equal_barrier_Bar_barrier_Bar.F fuel) (pCo c Tryz.f80) env L k
def slices_Equal_barrier_Bar_barrier_Bar.E0 (e4_1 : (List T_s155)) (e4_2 : (List T_s155)) (e4_3 : Int) (s4 : Int) : List AV := ((.v (.slice E_s155) (e4_1)) :: (.v (.slice E_s155) (e4_2)) :: dZ 10 ((.v (.int .i64) (e4_3)) :: (.v (.int .i64) (s4)) :: dZ 12 ([])))
def slices_Equal_barrier_Bar_barrier_Bar.H0 (e4_1 : (List T_s155)) (e4_2 : (List T_s155)) (e4_3 : Int) (s4 : Int) : Heap := []
noncomputable def slices_Equal_barrier_Bar_barrier_Bar.M0 (fuel : Nat) (e4_1 : (List T_s155)) (e4_2 : (List T_s155)) (e4_3 : Int)  (k : AV → Option Ω) (m : Nat) (s : Int) : Option Ω := loopK (slices_Equal_barrier_Bar_barrier_Bar.V fuel 75) (mB 26 67096572) [] 0 (blockK 0 (sqK (slices_Equal_barrier_Bar_barrier_Bar.V fuel 15) (finK CDEKP Tryz.f80 k))) m ((slices_Equal_barrier_Bar_barrier_Bar.E0 e4_1 e4_2 e4_3) s) ((slices_Equal_barrier_Bar_barrier_Bar.H0 e4_1 e4_2 e4_3) s)
def slices_Equal_barrier_Bar_barrier_Bar.b0 (e4_1 : (List T_s155)) (e4_2 : (List T_s155)) (e4_3 : Int)   (k : Bool → Option Ω) (r4 : Int → Option Ω) (s4 : Int) : Option Ω :=
 bif (decide (s4 < e4_3)) then
 bif (idxOK s4 (List.length e4_1)) then
 let v1 : T_s155 := (List.getD e4_1 (Int.toNat s4) ((false, (0, ())), (((List.replicate 4 0), ((List.replicate 4 0), ())), (0, ()))))
 bif (idxOK s4 (List.length e4_2)) then
 let v2 : T_s155 := (List.getD e4_2 (Int.toNat s4) ((false, (0, ())), (((List.replicate 4 0), ((List.replicate 4 0), ())), (0, ()))))
 bif (!(eqI E_s155 v1 v2)) then
 k false
 else
 r4 ((IntKind.wrap .i64 (s4 + 1)))
 else
 none
 else
 none
 else
 k true
theorem slices_Equal_barrier_Bar_barrier_Bar.l0 (fuel : Nat) (e4_1 : (List T_s155)) (e4_2 : (List T_s155)) (e4_3 : Int)  (k : AV → Option Ω) : ∀ m, (slices_Equal_barrier_Bar_barrier_Bar.M0 fuel e4_1 e4_2 e4_3  k m) = iter (slices_Equal_barrier_Bar_barrier_Bar.b0 e4_1 e4_2 e4_3  (fun r => k (tupAV .bool [] r))) m :=
 loopK_iter (envOf := (slices_Equal_barrier_Bar_barrier_Bar.E0 e4_1 e4_2 e4_3)) (LOf := (slices_Equal_barrier_Bar_barrier_Bar.H0 e4_1 e4_2 e4_3)) (B := slices_Equal_barrier_Bar_barrier_Bar.b0 e4_1 e4_2 e4_3  (fun r => k (tupAV .bool [] r))) (fun R s => by kernel_rfl)
def slices_Equal_barrier_Bar_barrier_Bar.sl (x0 : (List T_s155)) (x1 : (List T_s155)) (lp0 : (List T_s155) → (List T_s155) → Int → Int → Option Ω) (k : Bool → Option Ω) : Option Ω :=
 bif (((List.length x0 : Nat) : Int) != ((List.length x1 : Nat) : Int)) then
 k false
 else
 lp0 x0 x1 (((List.length x0 : Nat) : Int)) (0)
def slices_Equal_barrier_Bar_barrier_Bar.g0 (e4_1 : (List T_s155)) (e4_2 : (List T_s155))  (k : Bool → Option Ω) : List T_s155 → Int → Option Ω
 | [], i4 =>
 k true
 | x4 :: xs4, i4 =>
 let v1 : T_s155 := x4
 bif (idxOK i4 (List.length e4_2)) then
 let v2 : T_s155 := (List.getD e4_2 (Int.toNat i4) ((false, (0, ())), (((List.replicate 4 0), ((List.replicate 4 0), ())), (0, ()))))
 bif (!(eqI E_s155 v1 v2)) then
 k false
 else
 slices_Equal_barrier_Bar_barrier_Bar.g0 e4_1 e4_2  k xs4 (i4 + 1)
 else
 none
theorem slices_Equal_barrier_Bar_barrier_Bar.h0 (e4_1 : (List T_s155)) (e4_2 : (List T_s155))   (k : Bool → Option Ω) (hX : ((List.length e4_1 : Nat) : Int) ≤ 9223372036854775807) : ∀ (m : Nat) (i : Int) (a : Unit), 0 ≤ i → i ≤ ((List.length e4_1 : Nat) : Int) → ((List.length e4_1 : Nat) : Int) < m + i → Le (slices_Equal_barrier_Bar_barrier_Bar.g0 e4_1 e4_2  k (List.drop (Int.toNat i) e4_1) i) (iter (slices_Equal_barrier_Bar_barrier_Bar.b0 e4_1 e4_2 (((List.length e4_1 : Nat) : Int))  k) m (i)) :=
 iter_list e4_1 ((false, (0, ())), (((List.replicate 4 0), ((List.replicate 4 0), ())), (0, ()))) (fun (i4 : Int) (a4 : Unit) => (i4)) (fun xs i4 a4 => slices_Equal_barrier_Bar_barrier_Bar.g0 e4_1 e4_2  k xs i4) (slices_Equal_barrier_Bar_barrier_Bar.b0 e4_1 e4_2 (((List.length e4_1 : Nat) : Int))  k)
 (fun i4 a4 r h0 => (Le.fls h0 (Le.refl _)))
 (fun i4 xs4 a4 r h0 h1 hw ih => (Le.tru h0 (Le.tru h1 (let v1 : T_s155 := (List.getD e4_1 (Int.toNat i4) ((false, (0, ())), (((List.replicate 4 0), ((List.replicate 4 0), ())), (0, ())))); (Le.cond (let v2 : T_s155 := (List.getD e4_2 (Int.toNat i4) ((false, (0, ())), (((List.replicate 4 0), ((List.replicate 4 0), ())), (0, ())))); (Le.cond (Le.refl _) (ih _ hw ()))) Le.nil)))))
 hX
def slices_Equal_barrier_Bar_barrier_Bar.w (x0 : (List T_s155)) (x1 : (List T_s155)) (k : Bool → Option Ω) : Option Ω :=
 bif (((List.length x0 : Nat) : Int) != ((List.length x1 : Nat) : Int)) then
 k false
 else
 bif decide (((List.length x0 : Nat) : Int) ≤ 4611686018427387904) then slices_Equal_barrier_Bar_barrier_Bar.g0 x0 x1  k x0 0 else none
theorem slices_Equal_barrier_Bar_barrier_Bar.ev (fuel : Nat) (x0 : (List T_s155)) (x1 : (List T_s155)) (k : AV → Option Ω) : evFn CDEKP (spE (C := CDEKP) [] []) (slices_Equal_barrier_Bar_barrier_Bar.F fuel) Tryz.f80 (Tryz.f80.body.getD .skip) [(.v (.slice E_s155) (x0)), (.v (.slice E_s155) (x1))] k = slices_Equal_barrier_Bar_barrier_Bar.sl x0 x1 (fun e4_1 e4_2 e4_3 => (slices_Equal_barrier_Bar_barrier_Bar.M0 fuel e4_1 e4_2 e4_3  k fuel)) (fun r => k (tupAV .bool [] r)) := by kernel_rfl
theorem slices_Equal_barrier_Bar_barrier_Bar.le (x0 : (List T_s155)) (x1 : (List T_s155)) (k : AV → Option Ω) : Le (slices_Equal_barrier_Bar_barrier_Bar.w x0 x1 (fun r => k (tupAV .bool [] r))) (slices_Equal_barrier_Bar_barrier_Bar.sl x0 x1 (fun e4_1 e4_2 e4_3 => (slices_Equal_barrier_Bar_barrier_Bar.M0 BIG e4_1 e4_2 e4_3  k BIG)) (fun r => k (tupAV .bool [] r))) := by
 have h1 := funext fun (e4_1 : (List T_s155)) => funext fun (e4_2 : (List T_s155)) => funext fun (e4_3 : Int) => slices_Equal_barrier_Bar_barrier_Bar.l0 BIG e4_1 e4_2 e4_3   k BIG
 rw [h1]
 delta slices_Equal_barrier_Bar_barrier_Bar.w slices_Equal_barrier_Bar_barrier_Bar.sl
 exact (Le.cond (Le.refl _) (Le.gd fun hg => slices_Equal_barrier_Bar_barrier_Bar.h0 _ _   _ (le_up (of_decide_eq_true hg)) BIG 0 () (by decide) (zero_le_len _) (big_list (of_decide_eq_true hg))))
noncomputable def slices_Equal_barrier_Bar_barrier_Bar.n : En CDEKP := mkE CDEKP_ok (es := []) (ms := []) (fuel := (slices_Equal_barrier_Bar_barrier_Bar.F BIG)) 80 Tryz.f80 [.ai (.slice E_s155), .ai (.slice E_s155)] .bool [] (fun x {Ω} k => slices_Equal_barrier_Bar_barrier_Bar.w x.1 x.2.1 k) (fun x Ω k => leV (slices_Equal_barrier_Bar_barrier_Bar.ev BIG x.1 x.2.1 k) (slices_Equal_barrier_Bar_barrier_Bar.le x.1 x.2.1 k)) (by kernel_rfl) (by kernel_rfl)
def slices_Equal_timers_Timer_timers_Timer.F (fuel : Nat) : Fuel := ⟨fuel, fun r => bif r == 4 then mL 0 26 67096572 else []⟩
noncomputable def slices_Equal_timers_Timer_timers_Timer.V (fuel c : Nat) (env : List AV) (L : Heap) (k : Kont Ω) : Option Ω := evCode CDEKP (spE (C := CDEKP) [] []) (slices_Equal_timers_Timer_timers_Timer.F fuel) (pCo c Tryz.f81) env L k
def slices_Equal_timers_Timer_timers_Timer.E0 (e4_1 : (List T_s63)) (e4_2 : (List T_s63)) (e4_3 : Int) (s4 : Int) : List AV := ((.v (.slice E_s63) (e4_1)) :: (.v (.slice E_s63) (e4_2)) :: dZ 10 ((.v (.int .i64) (e4_3)) :: (.v (.int .i64) (s4)) :: dZ 12 ([])))
def slices_Equal_timers_Timer_timers_Timer.H0 (e4_1 : (List T_s63)) (e4_2 : (List T_s63)) (e4_3 : Int) (s4 : Int) : Heap := []
noncomputable def slices_Equal_timers_Timer_timers_Timer.M0 (fuel : Nat) (e4_1 : (List T_s63)) (e4_2 : (List T_s63)) (e4_3 : Int)  (k : AV → Option Ω) (m : Nat) (s : Int) : Option Ω := loopK (slices_Equal_timers_Timer_timers_Timer.V fuel 75) (mB 26 67096572) [] 0 (blockK 0 (sqK (slices_Equal_timers_Timer_timers_Timer.V fuel 15) (finK CDEKP Tryz.f81 k))) m ((slices_Equal_timers_Timer_timers_Timer.E0 e4_1 e4_2 e4_3) s) ((slices_Equal_timers_Timer_timers_Timer.H0 e4_1 e4_2 e4_3) s)
def slices_Equal_timers_Timer_timers_Timer.b0 (e4_1 : (List T_s63)) (e4_2 : (List T_s63)) (e4_3 : Int)   (k : Bool → Option Ω) (r4 : Int → Option Ω) (s4 : Int) : Option Ω :=
 bif (decide (s4 < e4_3)) then
 bif (idxOK s4 (List.length e4_1)) then
 bif (idxOK s4 (List.length e4_2)) then
 let v1 : Bool := (!(eqI E_s63 (List.getD e4_1 (Int.toNat s4) (0, (0, (0, ())))) (List.getD e4_2 (Int.toNat s4) (0, (0, (0, ()))))))
 bif v1 then
 k false
 else
 r4 ((IntKind.wrap .i64 (s4 + 1)))
 else
 none
 else
 none
 else
 k true
theorem slices_Equal_timers_Timer_timers_Timer.l0 (fuel : Nat) (e4_1 : (List T_s63)) (e4_2 : (List T_s63)) (e4_3 : Int)  (k : AV → Option Ω) : ∀ m, (slices_Equal_timers_Timer_timers_Timer.M0 fuel e4_1 e4_2 e4_3  k m) = iter (slices_Equal_timers_Timer_timers_Timer.b0 e4_1 e4_2 e4_3  (fun r => k (tupAV .bool [] r))) m :=
 loopK_iter (envOf := (slices_Equal_timers_Timer_timers_Timer.E0 e4_1 e4_2 e4_3)) (LOf := (slices_Equal_timers_Timer_timers_Timer.H0 e4_1 e4_2 e4_3)) (B := slices_Equal_timers_Timer_timers_Timer.b0 e4_1 e4_2 e4_3  (fun r => k (tupAV .bool [] r))) (fun R s => by kernel_rfl)
def slices_Equal_timers_Timer_timers_Timer.sl (x0 : (List T_s63)) (x1 : (List T_s63)) (lp0 : (List T_s63) → (List T_s63) → Int → Int → Option Ω) (k : Bool → Option Ω) : Option Ω :=
 bif (((List.length x0 : Nat) : Int) != ((List.length x1 : Nat) : Int)) then
 k false
 else
 lp0 x0 x1 (((List.length x0 : Nat) : Int)) (0)
def slices_Equal_timers_Timer_timers_Timer.g0 (e4_1 : (List T_s63)) (e4_2 : (List T_s63))  (k : Bool → Option Ω) : List T_s63 → Int → Option Ω
 | [], i4 =>
 k true
 | x4 :: xs4, i4 =>
 bif (idxOK i4 (List.length e4_2)) then
 let v1 : Bool := (!(eqI E_s63 x4 (List.getD e4_2 (Int.toNat i4) (0, (0, (0, ()))))))
 bif v1 then
 k false
 else
 slices_Equal_timers_Timer_timers_Timer.g0 e4_1 e4_2  k xs4 (i4 + 1)
 else
 none
theorem slices_Equal_timers_Timer_timers_Timer.h0 (e4_1 : (List T_s63)) (e4_2 : (List T_s63))   (k : Bool → Option Ω) (hX : ((List.length e4_1 : Nat) : Int) ≤ 9223372036854775807) : ∀ (m : Nat) (i : Int) (a : Unit), 0 ≤ i → i ≤ ((List.length e4_1 : Nat) : Int) → ((List.length e4_1 : Nat) : Int) < m + i → Le (slices_Equal_timers_Timer_timers_Timer.g0 e4_1 e4_2  k (List.drop (Int.toNat i) e4_1) i) (iter (slices_Equal_timers_Timer_timers_Timer.b0 e4_1 e4_2 (((List.length e4_1 : Nat) : Int))  k) m (i)) :=
 iter_list e4_1 (0, (0, (0, ()))) (fun (i4 : Int) (a4 : Unit) => (i4)) (fun xs i4 a4 => slices_Equal_timers_Timer_timers_Timer.g0 e4_1 e4_2  k xs i4) (slices_Equal_timers_Timer_timers_Timer.b0 e4_1 e4_2 (((List.length e4_1 : Nat) : Int))  k)
 (fun i4 a4 r h0 => (Le.fls h0 (Le.refl _)))
 (fun i4 xs4 a4 r h0 h1 hw ih => (Le.tru h0 (Le.tru h1 (Le.cond (let v1 : Bool := (!(eqI E_s63 (List.getD e4_1 (Int.toNat i4) (0, (0, (0, ())))) (List.getD e4_2 (Int.toNat i4) (0, (0, (0, ())))))); (Le.cond (Le.refl _) (ih _ hw ()))) Le.nil))))
 hX
def slices_Equal_timers_Timer_timers_Timer.w (x0 : (List T_s63)) (x1 : (List T_s63)) (k : Bool → Option Ω) : Option Ω :=
 bif (((List.length x0 : Nat) : Int) != ((List.length x1 : Nat) : Int)) then
 k false
 else
 bif decide (((List.length x0 : Nat) : Int) ≤ 4611686018427387904) then slices_Equal_timers_Timer_timers_Timer.g0 x0 x1  k x0 0 else none
theorem slices_Equal_timers_Timer_timers_Timer.ev (fuel : Nat) (x0 : (List T_s63)) (x1 : (List T_s63)) (k : AV → Option Ω) : evFn CDEKP (spE (C := CDEKP) [] []) (slices_Equal_timers_Timer_timers_Timer.F fuel) Tryz.f81 (Tryz.f81.body.getD .skip) [(.v (.slice E_s63) (x0)), (.v (.slice E_s63) (x1))] k = slices_Equal_timers_Timer_timers_Timer.sl x0 x1 (fun e4_1 e4_2 e4_3 => (slices_Equal_timers_Timer_timers_Timer.M0 fuel e4_1 e4_2 e4_3  k fuel)) (fun r => k (tupAV .bool [] r)) := by kernel_rfl
theorem slices_Equal_timers_Timer_timers_Timer.le (x0 : (List T_s63)) (x1 : (List T_s63)) (k : AV → Option Ω) : Le (slices_Equal_timers_Timer_timers_Timer.w x0 x1 (fun r => k (tupAV .bool [] r))) (slices_Equal_timers_Timer_timers_Timer.sl x0 x1 (fun e4_1 e4_2 e4_3 => (slices_Equal_timers_Timer_timers_Timer.M0 BIG e4_1 e4_2 e4_3  k BIG)) (fun r => k (tupAV .bool [] r))) := by
 have h1 := funext fun (e4_1 : (List T_s63)) => funext fun (e4_2 : (List T_s63)) => funext fun (e4_3 : Int) => slices_Equal_timers_Timer_timers_Timer.l0 BIG e4_1 e4_2 e4_3   k BIG
 rw [h1]
 delta slices_Equal_timers_Timer_timers_Timer.w slices_Equal_timers_Timer_timers_Timer.sl
 exact (Le.cond (Le.refl _) (Le.gd fun hg => slices_Equal_timers_Timer_timers_Timer.h0 _ _   _ (le_up (of_decide_eq_true hg)) BIG 0 () (by decide) (zero_le_len _) (big_list (of_decide_eq_true hg))))
noncomputable def slices_Equal_timers_Timer_timers_Timer.n : En CDEKP := mkE CDEKP_ok (es := []) (ms := []) (fuel := (slices_Equal_timers_Timer_timers_Timer.F BIG)) 81 Tryz.f81 [.ai (.slice E_s63), .ai (.slice E_s63)] .bool [] (fun x {Ω} k => slices_Equal_timers_Timer_timers_Timer.w x.1 x.2.1 k) (fun x Ω k => leV (slices_Equal_timers_Timer_timers_Timer.ev BIG x.1 x.2.1 k) (slices_Equal_timers_Timer_timers_Timer.le x.1 x.2.1 k)) (by kernel_rfl) (by kernel_rfl)
def slices_Equal_api_Guard_api_Guard.F (fuel : Nat) : Fuel := ⟨fuel, fun r => bif r == 4 then mL 0 26 67096572 else []⟩
noncomputable def slices_Equal_api_Guard_api_Guard.V (fuel c : Nat) (env : List AV) (L : Heap) (k : Kont Ω) : Option Ω := evCode CDEKP (spE (C := CDEKP) [] []) (slices_Equal_api_Guard_api_Guard.F fuel) (pCo c Tryz.f160) env L k
def slices_Equal_api_Guard_api_Guard.E0 (e4_1 : (List T_s227)) (e4_2 : (List T_s227)) (e4_3 : Int) (s4 : Int) : List AV := ((.v (.slice E_s227) (e4_1)) :: (.v (.slice E_s227) (e4_2)) :: dZ 10 ((.v (.int .i64) (e4_3)) :: (.v (.int .i64) (s4)) :: dZ 12 ([])))
def slices_Equal_api_Guard_api_Guard.H0 (e4_1 : (List T_s227)) (e4_2 : (List T_s227)) (e4_3 : Int) (s4 : Int) : Heap := []
noncomputable def slices_Equal_api_Guard_api_Guard.M0 (fuel : Nat) (e4_1 : (List T_s227)) (e4_2 : (List T_s227)) (e4_3 : Int)  (k : AV → Option Ω) (m : Nat) (s : Int) : Option Ω := loopK (slices_Equal_api_Guard_api_Guard.V fuel 75) (mB 26 67096572) [] 0 (blockK 0 (sqK (slices_Equal_api_Guard_api_Guard.V fuel 15) (finK CDEKP Tryz.f160 k))) m ((slices_Equal_api_Guard_api_Guard.E0 e4_1 e4_2 e4_3) s) ((slices_Equal_api_Guard_api_Guard.H0 e4_1 e4_2 e4_3) s)
def slices_Equal_api_Guard_api_Guard.b0 (e4_1 : (List T_s227)) (e4_2 : (List T_s227)) (e4_3 : Int)   (k : Bool → Option Ω) (r4 : Int → Option Ω) (s4 : Int) : Option Ω :=
 bif (decide (s4 < e4_3)) then
 bif (idxOK s4 (List.length e4_1)) then
 bif (idxOK s4 (List.length e4_2)) then
 let v1 : Bool := (!(eqI E_s227 (List.getD e4_1 (Int.toNat s4) (0, (0, (0, (0, (0, ())))))) (List.getD e4_2 (Int.toNat s4) (0, (0, (0, (0, (0, ()))))))))
 bif v1 then
 k false
 else
 r4 ((IntKind.wrap .i64 (s4 + 1)))
 else
 none
 else
 none
 else
 k true
theorem slices_Equal_api_Guard_api_Guard.l0 (fuel : Nat) (e4_1 : (List T_s227)) (e4_2 : (List T_s227)) (e4_3 : Int)  (k : AV → Option Ω) : ∀ m, (slices_Equal_api_Guard_api_Guard.M0 fuel e4_1 e4_2 e4_3  k m) = iter (slices_Equal_api_Guard_api_Guard.b0 e4_1 e4_2 e4_3  (fun r => k (tupAV .bool [] r))) m :=
 loopK_iter (envOf := (slices_Equal_api_Guard_api_Guard.E0 e4_1 e4_2 e4_3)) (LOf := (slices_Equal_api_Guard_api_Guard.H0 e4_1 e4_2 e4_3)) (B := slices_Equal_api_Guard_api_Guard.b0 e4_1 e4_2 e4_3  (fun r => k (tupAV .bool [] r))) (fun R s => by kernel_rfl)
def slices_Equal_api_Guard_api_Guard.sl (x0 : (List T_s227)) (x1 : (List T_s227)) (lp0 : (List T_s227) → (List T_s227) → Int → Int → Option Ω) (k : Bool → Option Ω) : Option Ω :=
 bif (((List.length x0 : Nat) : Int) != ((List.length x1 : Nat) : Int)) then
 k false
 else
 lp0 x0 x1 (((List.length x0 : Nat) : Int)) (0)
def slices_Equal_api_Guard_api_Guard.g0 (e4_1 : (List T_s227)) (e4_2 : (List T_s227))  (k : Bool → Option Ω) : List T_s227 → Int → Option Ω
 | [], i4 =>
 k true
 | x4 :: xs4, i4 =>
 bif (idxOK i4 (List.length e4_2)) then
 let v1 : Bool := (!(eqI E_s227 x4 (List.getD e4_2 (Int.toNat i4) (0, (0, (0, (0, (0, ()))))))))
 bif v1 then
 k false
 else
 slices_Equal_api_Guard_api_Guard.g0 e4_1 e4_2  k xs4 (i4 + 1)
 else
 none
theorem slices_Equal_api_Guard_api_Guard.h0 (e4_1 : (List T_s227)) (e4_2 : (List T_s227))   (k : Bool → Option Ω) (hX : ((List.length e4_1 : Nat) : Int) ≤ 9223372036854775807) : ∀ (m : Nat) (i : Int) (a : Unit), 0 ≤ i → i ≤ ((List.length e4_1 : Nat) : Int) → ((List.length e4_1 : Nat) : Int) < m + i → Le (slices_Equal_api_Guard_api_Guard.g0 e4_1 e4_2  k (List.drop (Int.toNat i) e4_1) i) (iter (slices_Equal_api_Guard_api_Guard.b0 e4_1 e4_2 (((List.length e4_1 : Nat) : Int))  k) m (i)) :=
 iter_list e4_1 (0, (0, (0, (0, (0, ()))))) (fun (i4 : Int) (a4 : Unit) => (i4)) (fun xs i4 a4 => slices_Equal_api_Guard_api_Guard.g0 e4_1 e4_2  k xs i4) (slices_Equal_api_Guard_api_Guard.b0 e4_1 e4_2 (((List.length e4_1 : Nat) : Int))  k)
 (fun i4 a4 r h0 => (Le.fls h0 (Le.refl _)))
 (fun i4 xs4 a4 r h0 h1 hw ih => (Le.tru h0 (Le.tru h1 (Le.cond (let v1 : Bool := (!(eqI E_s227 (List.getD e4_1 (Int.toNat i4) (0, (0, (0, (0, (0, ())))))) (List.getD e4_2 (Int.toNat i4) (0, (0, (0, (0, (0, ())))))))); (Le.cond (Le.refl _) (ih _ hw ()))) Le.nil))))
 hX
def slices_Equal_api_Guard_api_Guard.w (x0 : (List T_s227)) (x1 : (List T_s227)) (k : Bool → Option Ω) : Option Ω :=
 bif (((List.length x0 : Nat) : Int) != ((List.length x1 : Nat) : Int)) then
 k false
 else
 bif decide (((List.length x0 : Nat) : Int) ≤ 4611686018427387904) then slices_Equal_api_Guard_api_Guard.g0 x0 x1  k x0 0 else none
theorem slices_Equal_api_Guard_api_Guard.ev (fuel : Nat) (x0 : (List T_s227)) (x1 : (List T_s227)) (k : AV → Option Ω) : evFn CDEKP (spE (C := CDEKP) [] []) (slices_Equal_api_Guard_api_Guard.F fuel) Tryz.f160 (Tryz.f160.body.getD .skip) [(.v (.slice E_s227) (x0)), (.v (.slice E_s227) (x1))] k = slices_Equal_api_Guard_api_Guard.sl x0 x1 (fun e4_1 e4_2 e4_3 => (slices_Equal_api_Guard_api_Guard.M0 fuel e4_1 e4_2 e4_3  k fuel)) (fun r => k (tupAV .bool [] r)) := by kernel_rfl
theorem slices_Equal_api_Guard_api_Guard.le (x0 : (List T_s227)) (x1 : (List T_s227)) (k : AV → Option Ω) : Le (slices_Equal_api_Guard_api_Guard.w x0 x1 (fun r => k (tupAV .bool [] r))) (slices_Equal_api_Guard_api_Guard.sl x0 x1 (fun e4_1 e4_2 e4_3 => (slices_Equal_api_Guard_api_Guard.M0 BIG e4_1 e4_2 e4_3  k BIG)) (fun r => k (tupAV .bool [] r))) := by
 have h1 := funext fun (e4_1 : (List T_s227)) => funext fun (e4_2 : (List T_s227)) => funext fun (e4_3 : Int) => slices_Equal_api_Guard_api_Guard.l0 BIG e4_1 e4_2 e4_3   k BIG
 rw [h1]
 delta slices_Equal_api_Guard_api_Guard.w slices_Equal_api_Guard_api_Guard.sl
 exact (Le.cond (Le.refl _) (Le.gd fun hg => slices_Equal_api_Guard_api_Guard.h0 _ _   _ (le_up (of_decide_eq_true hg)) BIG 0 () (by decide) (zero_le_len _) (big_list (of_decide_eq_true hg))))
noncomputable def slices_Equal_api_Guard_api_Guard.n : En CDEKP := mkE CDEKP_ok (es := []) (ms := []) (fuel := (slices_Equal_api_Guard_api_Guard.F BIG)) 160 Tryz.f160 [.ai (.slice E_s227), .ai (.slice E_s227)] .bool [] (fun x {Ω} k => slices_Equal_api_Guard_api_Guard.w x.1 x.2.1 k) (fun x Ω k => leV (slices_Equal_api_Guard_api_Guard.ev BIG x.1 x.2.1 k) (slices_Equal_api_Guard_api_Guard.le x.1 x.2.1 k)) (by kernel_rfl) (by kernel_rfl)

def law21_From.s (x0 : T_s153) (k : T_s72 → Option Ω) : Option Ω :=
 (bitset_List.u x0.1).bind fun y1 =>
 (bitset_List.u x0.2.1).bind fun y2 =>
 k (y1, (y2, ()))
def law21_From.u (x0 : T_s153) : Option (T_s72) := law21_From.s x0 some
noncomputable def law21_From.n : En CDEKP := mkE CDEKP_ok (es := [bitset_List.n]) (ms := []) (fuel := ⟨1, fun _ => []⟩) 185 Tryz.f185 [.ai E_s153] E_s72 [] (fun x {Ω} k => law21_From.s x.1 k) (fun x Ω k => Le.of (by kernel_rfl)) (by kernel_rfl) (by kernel_rfl)
def law22_From.s (x0 : T_s155) (k : T_s76 → Option Ω) : Option Ω :=
 (law21_From.u x0.2.1).bind fun y1 =>
 k (x0.1, (y1, (x0.2.2.1, ())))
def law22_From.u (x0 : T_s155) : Option (T_s76) := law22_From.s x0 some
noncomputable def law22_From.n : En CDEKP := mkE CDEKP_ok (es := [law21_From.n]) (ms := []) (fuel := ⟨1, fun _ => []⟩) 120 Tryz.f120 [.ai E_s155] E_s76 [] (fun x {Ω} k => law22_From.s x.1 k) (fun x Ω k => Le.of (by kernel_rfl)) (by kernel_rfl) (by kernel_rfl)
def law23_From.F (fuel : Nat) : Fuel := ⟨fuel, fun r => bif r == 3 then mL 0 19 523831 else []⟩
noncomputable def law23_From.V (fuel c : Nat) (env : List AV) (L : Heap) (k : Kont Ω) : Option Ω := evCode CDEKP (spE (C := CDEKP) [law22_From.n] []) (law23_From.F fuel) (pCo c Tryz.f42) env L k
def law23_From.E0 (e3_1 : (List T_s155)) (e3_2 : Int) (s3 : Int × (List T_s76)) : List AV := (dZ 3 ((.rs 1) :: dZ 2 ((.v (.slice E_s155) (e3_1)) :: (.v (.int .i64) (e3_2)) :: (.v (.int .i64) (s3.1)) :: dZ 10 ([]))))
def law23_From.H0 (e3_1 : (List T_s155)) (e3_2 : Int) (s3 : Int × (List T_s76)) : Heap := [(.row 77 E_s76 [] false), (.row 77 E_s76 s3.2 false)]
noncomputable def law23_From.M0 (fuel : Nat) (e3_1 : (List T_s155)) (e3_2 : Int)  (k : AV → Option Ω) (m : Nat) (s : Int × (List T_s76)) : Option Ω := loopK (law23_From.V fuel 75) (mB 19 523831) [] 2 (blockK 0 (sqK (law23_From.V fuel 15) (finK CDEKP Tryz.f42 k))) m ((law23_From.E0 e3_1 e3_2) s) ((law23_From.H0 e3_1 e3_2) s)
def law23_From.b0 (e3_1 : (List T_s155)) (e3_2 : Int)   (k : (List T_s76) → Option Ω) (r3 : Int × (List T_s76) → Option Ω) (s3 : Int × (List T_s76)) : Option Ω :=
 bif (decide (s3.1 < e3_2)) then
 bif (idxOK s3.1 (List.length e3_1)) then
 let v1 : T_s155 := (List.getD e3_1 (Int.toNat s3.1) ((false, (0, ())), (((List.replicate 4 0), ((List.replicate 4 0), ())), (0, ()))))
 (law22_From.u v1).bind fun y2 =>
 bif (decide (List.length s3.2 + List.length [y2] ≤ rowMax)) then
 r3 ((IntKind.wrap .i64 (s3.1 + 1)), (s3.2 ++ [y2]))
 else
 none
 else
 none
 else
 k s3.2
theorem law23_From.l0 (fuel : Nat) (e3_1 : (List T_s155)) (e3_2 : Int)  (k : AV → Option Ω) : ∀ m, (law23_From.M0 fuel e3_1 e3_2  k m) = iter (law23_From.b0 e3_1 e3_2  (fun r => k (tupAV (.slice E_s76) [] r))) m :=
 loopK_iter (envOf := (law23_From.E0 e3_1 e3_2)) (LOf := (law23_From.H0 e3_1 e3_2)) (B := law23_From.b0 e3_1 e3_2  (fun r => k (tupAV (.slice E_s76) [] r))) (fun R s => by kernel_rfl)
def law23_From.sl (x0 : (List T_s155)) (lp0 : (List T_s155) → Int → Int × (List T_s76) → Option Ω) (k : (List T_s76) → Option Ω) : Option Ω :=
 lp0 x0 (((List.length x0 : Nat) : Int)) (0, [])
def law23_From.g0 (e3_1 : (List T_s155))  (k : (List T_s76) → Option Ω) : List T_s155 → (List T_s76) → Option Ω
 | [], a3_1 =>
 k a3_1
 | x3 :: xs3, a3_1 =>
 let v1 : T_s155 := x3
 (law22_From.u v1).bind fun y2 =>
 bif (decide (List.length a3_1 + List.length [y2] ≤ rowMax)) then
 law23_From.g0 e3_1  k xs3 (a3_1 ++ [y2])
 else
 none
theorem law23_From.h0 (e3_1 : (List T_s155))   (k : (List T_s76) → Option Ω) (hX : ((List.length e3_1 : Nat) : Int) ≤ 9223372036854775807) : ∀ (m : Nat) (i : Int) (a : (List T_s76)), 0 ≤ i → i ≤ ((List.length e3_1 : Nat) : Int) → ((List.length e3_1 : Nat) : Int) < m + i → Le (law23_From.g0 e3_1  k (List.drop (Int.toNat i) e3_1) a) (iter (law23_From.b0 e3_1 (((List.length e3_1 : Nat) : Int))  k) m (i, a)) :=
 iter_list e3_1 ((false, (0, ())), (((List.replicate 4 0), ((List.replicate 4 0), ())), (0, ()))) (fun (i3 : Int) (a3 : (List T_s76)) => (i3, a3)) (fun xs i3 a3 => law23_From.g0 e3_1  k xs a3) (law23_From.b0 e3_1 (((List.length e3_1 : Nat) : Int))  k)
 (fun i3 a3 r h0 => (Le.fls h0 (Le.refl _)))
 (fun i3 xs3 a3 r h0 h1 hw ih => (Le.tru h0 (Le.tru h1 (let v1 : T_s155 := (List.getD e3_1 (Int.toNat i3) ((false, (0, ())), (((List.replicate 4 0), ((List.replicate 4 0), ())), (0, ())))); (Le.bnd fun y2 => (Le.cond (ih _ hw ((a3 ++ [y2]))) Le.nil))))))
 hX
def law23_From.w (x0 : (List T_s155)) (k : (List T_s76) → Option Ω) : Option Ω :=
 bif decide (((List.length x0 : Nat) : Int) ≤ 4611686018427387904) then law23_From.g0 x0  k x0 ([]) else none
theorem law23_From.ev (fuel : Nat) (x0 : (List T_s155)) (k : AV → Option Ω) : evFn CDEKP (spE (C := CDEKP) [law22_From.n] []) (law23_From.F fuel) Tryz.f42 (Tryz.f42.body.getD .skip) [(.v (.slice E_s155) (x0))] k = law23_From.sl x0 (fun e3_1 e3_2 => (law23_From.M0 fuel e3_1 e3_2  k fuel)) (fun r => k (tupAV (.slice E_s76) [] r)) := by kernel_rfl
theorem law23_From.le (x0 : (List T_s155)) (k : AV → Option Ω) : Le (law23_From.w x0 (fun r => k (tupAV (.slice E_s76) [] r))) (law23_From.sl x0 (fun e3_1 e3_2 => (law23_From.M0 BIG e3_1 e3_2  k BIG)) (fun r => k (tupAV (.slice E_s76) [] r))) := by
 have h1 := funext fun (e3_1 : (List T_s155)) => funext fun (e3_2 : Int) => law23_From.l0 BIG e3_1 e3_2   k BIG
 rw [h1]
 delta law23_From.w law23_From.sl
 exact (Le.gd fun hg => law23_From.h0 _   _ (le_up (of_decide_eq_true hg)) BIG 0 ([]) (by decide) (zero_le_len _) (big_list (of_decide_eq_true hg)))
def law23_From.u (x0 : (List T_s155)) : Option ((List T_s76)) := law23_From.w x0 some
noncomputable def law23_From.n : En CDEKP := mkE CDEKP_ok (es := [law22_From.n]) (ms := []) (fuel := (law23_From.F BIG)) 42 Tryz.f42 [.ai (.slice E_s155)] (.slice E_s76) [] (fun x {Ω} k => law23_From.w x.1 k) (fun x Ω k => leV (law23_From.ev BIG x.1 k) (law23_From.le x.1 k)) (by kernel_rfl) (by kernel_rfl)
def law36_From.F (fuel : Nat) : Fuel := ⟨fuel, fun r => bif r == 3 then mL 0 35 34345058291 else []⟩
noncomputable def law36_From.V (fuel c : Nat) (env : List AV) (L : Heap) (k : Kont Ω) : Option Ω := evCode CDEKP (spE (C := CDEKP) [law31_From.n, law19_From.n, law23_From.n] []) (law36_From.F fuel) (pCo c Tryz.f11) env L k
def law36_From.E0 (e3_1 : (List T_s63)) (e3_2 : Int) (e3_3 : T_s35) (e3_4 : Int) (e3_5 : (List T_s70)) (e3_6 : (List T_s114)) (e3_7 : (List T_s76)) (e3_8 : (List (List Int))) (s3 : Int × (List T_s63)) : List AV := (dZ 2 ((.ref 1 []) :: (.ref 2 []) :: dZ 17 ((.v (.slice E_s63) (e3_1)) :: (.v (.int .i64) (e3_2)) :: (.v (.int .i64) (s3.1)) :: dZ 11 ([]))))
def law36_From.H0 (e3_1 : (List T_s63)) (e3_2 : Int) (e3_3 : T_s35) (e3_4 : Int) (e3_5 : (List T_s70)) (e3_6 : (List T_s114)) (e3_7 : (List T_s76)) (e3_8 : (List (List Int))) (s3 : Int × (List T_s63)) : Heap := [(.box E_s35 e3_3 false), (.box E_s44 (0, ([], ([], ([], ([], ([], ())))))) false), (.lbx E_s44 (e3_4, (e3_5, (e3_6, (e3_7, (e3_8, ([], ())))))) [(5, some 3)]), (.row 123 E_s63 s3.2 false)]
noncomputable def law36_From.M0 (fuel : Nat) (e3_1 : (List T_s63)) (e3_2 : Int) (e3_3 : T_s35) (e3_4 : Int) (e3_5 : (List T_s70)) (e3_6 : (List T_s114)) (e3_7 : (List T_s76)) (e3_8 : (List (List Int)))  (k : AV → Option Ω) (m : Nat) (s : Int × (List T_s63)) : Option Ω := loopK (law36_From.V fuel 75) (mB 35 34345058291) [] 4 (blockK 0 (sqK (law36_From.V fuel 15) (finK CDEKP Tryz.f11 k))) m ((law36_From.E0 e3_1 e3_2 e3_3 e3_4 e3_5 e3_6 e3_7 e3_8) s) ((law36_From.H0 e3_1 e3_2 e3_3 e3_4 e3_5 e3_6 e3_7 e3_8) s)
def law36_From.b0 (e3_1 : (List T_s63)) (e3_2 : Int) (e3_3 : T_s35) (e3_4 : Int) (e3_5 : (List T_s70)) (e3_6 : (List T_s114)) (e3_7 : (List T_s76)) (e3_8 : (List (List Int)))   (k : T_s44 → Option Ω) (r3 : Int × (List T_s63) → Option Ω) (s3 : Int × (List T_s63)) : Option Ω :=
 bif (decide (s3.1 < e3_2)) then
 bif (idxOK s3.1 (List.length e3_1)) then
 bif (decide (List.length s3.2 + List.length [(List.getD e3_1 (Int.toNat s3.1) (0, (0, (0, ()))))] ≤ rowMax)) then
 r3 ((IntKind.wrap .i64 (s3.1 + 1)), (s3.2 ++ [(List.getD e3_1 (Int.toNat s3.1) (0, (0, (0, ()))))]))
 else
 none
 else
 none
 else
 k (e3_4, (e3_5, (e3_6, (e3_7, (e3_8, (s3.2, ()))))))
theorem law36_From.l0 (fuel : Nat) (e3_1 : (List T_s63)) (e3_2 : Int) (e3_3 : T_s35) (e3_4 : Int) (e3_5 : (List T_s70)) (e3_6 : (List T_s114)) (e3_7 : (List T_s76)) (e3_8 : (List (List Int)))  (k : AV → Option Ω) : ∀ m, (law36_From.M0 fuel e3_1 e3_2 e3_3 e3_4 e3_5 e3_6 e3_7 e3_8  k m) = iter (law36_From.b0 e3_1 e3_2 e3_3 e3_4 e3_5 e3_6 e3_7 e3_8  (fun r => k (tupAV E_s44 [] r))) m :=
 loopK_iter (envOf := (law36_From.E0 e3_1 e3_2 e3_3 e3_4 e3_5 e3_6 e3_7 e3_8)) (LOf := (law36_From.H0 e3_1 e3_2 e3_3 e3_4 e3_5 e3_6 e3_7 e3_8)) (B := law36_From.b0 e3_1 e3_2 e3_3 e3_4 e3_5 e3_6 e3_7 e3_8  (fun r => k (tupAV E_s44 [] r))) (fun R s => by kernel_rfl)
def law36_From.sl (x0 : T_s35) (lp0 : (List T_s63) → Int → T_s35 → Int → (List T_s70) → (List T_s114) → (List T_s76) → (List (List Int)) → Int × (List T_s63) → Option Ω) (k : T_s44 → Option Ω) : Option Ω :=
 (law31_From.u x0.2.1).bind fun y1 =>
 (law19_From.u x0.2.2.1).bind fun y2 =>
 (law23_From.u x0.2.2.2.1).bind fun y3 =>
 lp0 x0.2.2.2.2.2.1 (((List.length x0.2.2.2.2.2.1 : Nat) : Int)) x0 x0.1 y1 y2 y3 x0.2.2.2.2.1 (0, [])
def law36_From.g0 (e3_1 : (List T_s63)) (e3_3 : T_s35) (e3_4 : Int) (e3_5 : (List T_s70)) (e3_6 : (List T_s114)) (e3_7 : (List T_s76)) (e3_8 : (List (List Int)))  (k : T_s44 → Option Ω) : List T_s63 → (List T_s63) → Option Ω
 | [], a3_1 =>
 k (e3_4, (e3_5, (e3_6, (e3_7, (e3_8, (a3_1, ()))))))
 | x3 :: xs3, a3_1 =>
 bif (decide (List.length a3_1 + List.length [x3] ≤ rowMax)) then
 law36_From.g0 e3_1 e3_3 e3_4 e3_5 e3_6 e3_7 e3_8  k xs3 (a3_1 ++ [x3])
 else
 none
theorem law36_From.h0 (e3_1 : (List T_s63)) (e3_3 : T_s35) (e3_4 : Int) (e3_5 : (List T_s70)) (e3_6 : (List T_s114)) (e3_7 : (List T_s76)) (e3_8 : (List (List Int)))   (k : T_s44 → Option Ω) (hX : ((List.length e3_1 : Nat) : Int) ≤ 9223372036854775807) : ∀ (m : Nat) (i : Int) (a : (List T_s63)), 0 ≤ i → i ≤ ((List.length e3_1 : Nat) : Int) → ((List.length e3_1 : Nat) : Int) < m + i → Le (law36_From.g0 e3_1 e3_3 e3_4 e3_5 e3_6 e3_7 e3_8  k (List.drop (Int.toNat i) e3_1) a) (iter (law36_From.b0 e3_1 (((List.length e3_1 : Nat) : Int)) e3_3 e3_4 e3_5 e3_6 e3_7 e3_8  k) m (i, a)) :=
 iter_list e3_1 (0, (0, (0, ()))) (fun (i3 : Int) (a3 : (List T_s63)) => (i3, a3)) (fun xs i3 a3 => law36_From.g0 e3_1 e3_3 e3_4 e3_5 e3_6 e3_7 e3_8  k xs a3) (law36_From.b0 e3_1 (((List.length e3_1 : Nat) : Int)) e3_3 e3_4 e3_5 e3_6 e3_7 e3_8  k)
 (fun i3 a3 r h0 => (Le.fls h0 (Le.refl _)))
 (fun i3 xs3 a3 r h0 h1 hw ih => (Le.tru h0 (Le.tru h1 (Le.cond (ih _ hw ((a3 ++ [(List.getD e3_1 (Int.toNat i3) (0, (0, (0, ()))))]))) Le.nil))))
 hX
def law36_From.w (x0 : T_s35) (k : T_s44 → Option Ω) : Option Ω :=
 (law31_From.u x0.2.1).bind fun y1 =>
 (law19_From.u x0.2.2.1).bind fun y2 =>
 (law23_From.u x0.2.2.2.1).bind fun y3 =>
 bif decide (((List.length x0.2.2.2.2.2.1 : Nat) : Int) ≤ 4611686018427387904) then law36_From.g0 x0.2.2.2.2.2.1 x0 x0.1 y1 y2 y3 x0.2.2.2.2.1  k x0.2.2.2.2.2.1 ([]) else none
theorem law36_From.ev (fuel : Nat) (x0 : T_s35) (k : AV → Option Ω) : evFn CDEKP (spE (C := CDEKP) [law31_From.n, law19_From.n, law23_From.n] []) (law36_From.F fuel) Tryz.f11 (Tryz.f11.body.getD .skip) [(.v E_s35 (x0))] k = law36_From.sl x0 (fun e3_1 e3_2 e3_3 e3_4 e3_5 e3_6 e3_7 e3_8 => (law36_From.M0 fuel e3_1 e3_2 e3_3 e3_4 e3_5 e3_6 e3_7 e3_8  k fuel)) (fun r => k (tupAV E_s44 [] r)) := by kernel_rfl
theorem law36_From.le (x0 : T_s35) (k : AV → Option Ω) : Le (law36_From.w x0 (fun r => k (tupAV E_s44 [] r))) (law36_From.sl x0 (fun e3_1 e3_2 e3_3 e3_4 e3_5 e3_6 e3_7 e3_8 => (law36_From.M0 BIG e3_1 e3_2 e3_3 e3_4 e3_5 e3_6 e3_7 e3_8  k BIG)) (fun r => k (tupAV E_s44 [] r))) := by
 have h1 := funext fun (e3_1 : (List T_s63)) => funext fun (e3_2 : Int) => funext fun (e3_3 : T_s35) => funext fun (e3_4 : Int) => funext fun (e3_5 : (List T_s70)) => funext fun (e3_6 : (List T_s114)) => funext fun (e3_7 : (List T_s76)) => funext fun (e3_8 : (List (List Int))) => law36_From.l0 BIG e3_1 e3_2 e3_3 e3_4 e3_5 e3_6 e3_7 e3_8   k BIG
 rw [h1]
 delta law36_From.w law36_From.sl
 exact (Le.bnd fun y1 => (Le.bnd fun y2 => (Le.bnd fun y3 => (Le.gd fun hg => law36_From.h0 _ _ _ _ _ _ _   _ (le_up (of_decide_eq_true hg)) BIG 0 ([]) (by decide) (zero_le_len _) (big_list (of_decide_eq_true hg))))))
def law36_From.u (x0 : T_s35) : Option (T_s44) := law36_From.w x0 some
noncomputable def law36_From.n : En CDEKP := mkE CDEKP_ok (es := [law31_From.n, law19_From.n, law23_From.n]) (ms := []) (fuel := (law36_From.F BIG)) 11 Tryz.f11 [.ai E_s35] E_s44 [] (fun x {Ω} k => law36_From.w x.1 k) (fun x Ω k => leV (law36_From.ev BIG x.1 k) (law36_From.le x.1 k)) (by kernel_rfl) (by kernel_rfl)
def snap_number_0.s (x0 : Int) (k : ByteArray → Option Ω) : Option Ω :=
 bif (decide (x0 < 1000000000)) then
 (word_Text.u x0).bind fun y1 =>
 k y1.1
 else
 none
def snap_number_0.u (x0 : Int) : Option (ByteArray) := snap_number_0.s x0 some
noncomputable def snap_number_0.n : En CDEKP := mkE CDEKP_ok (es := [word_Text.n]) (ms := []) (fuel := ⟨1, fun _ => []⟩) 64 Tryz.f64 [.ai (.int .i64)] .str [] (fun x {Ω} k => snap_number_0.s x.1 k) (fun x Ω k => Le.of (by kernel_rfl)) (by kernel_rfl) (by kernel_rfl)
def snap_number_1.s (x0 : Int) (k : ByteArray → Option Ω) : Option Ω :=
 bif (decide (x0 < 1000000000)) then
 (word_Text.u x0).bind fun y1 =>
 k y1.1
 else
 (snap_number_0.u (Int.tmod x0 1000000000)).bind fun y2 =>
 (snap_number_0.u ((IntKind.wrap .i64 (Int.tdiv x0 1000000000)))).bind fun y3 =>
 (strings_Repeat.u (bs [48]) ((IntKind.wrap .i64 (9 - ((y2).size : Int))))).bind fun y4 =>
 bif (decide ((y3).size + (y4).size ≤ catMax)) then
 bif (decide (((y3 ++ y4)).size + (y2).size ≤ catMax)) then
 k ((y3 ++ y4) ++ y2)
 else
 none
 else
 none
def snap_number_1.u (x0 : Int) : Option (ByteArray) := snap_number_1.s x0 some
noncomputable def snap_number_1.n : En CDEKP := mkE CDEKP_ok (es := [snap_number_0.n, word_Text.n, strings_Repeat.n]) (ms := []) (fuel := ⟨1, fun _ => []⟩) 64 Tryz.f64 [.ai (.int .i64)] .str [] (fun x {Ω} k => snap_number_1.s x.1 k) (fun x Ω k => Le.of (by kernel_rfl)) (by kernel_rfl) (by kernel_rfl)
def snap_number.s (x0 : Int) (k : ByteArray → Option Ω) : Option Ω :=
 bif (decide (x0 < 1000000000)) then
 (word_Text.u x0).bind fun y1 =>
 k y1.1
 else
 (snap_number_1.u (Int.tmod x0 1000000000)).bind fun y2 =>
 (snap_number_1.u ((IntKind.wrap .i64 (Int.tdiv x0 1000000000)))).bind fun y3 =>
 (strings_Repeat.u (bs [48]) ((IntKind.wrap .i64 (9 - ((y2).size : Int))))).bind fun y4 =>
 bif (decide ((y3).size + (y4).size ≤ catMax)) then
 bif (decide (((y3 ++ y4)).size + (y2).size ≤ catMax)) then
 k ((y3 ++ y4) ++ y2)
 else
 none
 else
 none
def snap_number.u (x0 : Int) : Option (ByteArray) := snap_number.s x0 some
noncomputable def snap_number.n : En CDEKP := mkE CDEKP_ok (es := [snap_number_1.n, word_Text.n, strings_Repeat.n]) (ms := []) (fuel := ⟨1, fun _ => []⟩) 64 Tryz.f64 [.ai (.int .i64)] .str [] (fun x {Ω} k => snap_number.s x.1 k) (fun x Ω k => Le.of (by kernel_rfl)) (by kernel_rfl) (by kernel_rfl)
def snap_row.F (fuel : Nat) : Fuel := ⟨fuel, fun r => bif r == 3 then mL 0 22 4193847 else []⟩
noncomputable def snap_row.V (fuel c : Nat) (env : List AV) (L : Heap) (k : Kont Ω) : Option Ω := evCode CDEKP (spE (C := CDEKP) [strings_Join.n] []) (snap_row.F fuel) (pCo c Tryz.f63) env L k
def snap_row.E0 (e3_1 : (List ByteArray)) (e3_2 : Int) (s3 : Int × (List ByteArray)) : List AV := (dZ 3 ((.rs 0) :: dZ 2 ((.v (.slice .str) (e3_1)) :: (.v (.int .i64) (e3_2)) :: (.v (.int .i64) (s3.1)) :: dZ 13 ([]))))
def snap_row.H0 (e3_1 : (List ByteArray)) (e3_2 : Int) (s3 : Int × (List ByteArray)) : Heap := [(.row 9 .str s3.2 false)]
noncomputable def snap_row.M0 (fuel : Nat) (e3_1 : (List ByteArray)) (e3_2 : Int)  (k : AV → Option Ω) (m : Nat) (s : Int × (List ByteArray)) : Option Ω := loopK (snap_row.V fuel 75) (mB 22 4193847) [] 1 (blockK 0 (sqK (snap_row.V fuel 15) (finK CDEKP Tryz.f63 k))) m ((snap_row.E0 e3_1 e3_2) s) ((snap_row.H0 e3_1 e3_2) s)
def snap_row.b0 (e3_1 : (List ByteArray)) (e3_2 : Int)   (k : ByteArray → Option Ω) (r3 : Int × (List ByteArray) → Option Ω) (s3 : Int × (List ByteArray)) : Option Ω :=
 bif (decide (s3.1 < e3_2)) then
 bif (idxOK s3.1 (List.length e3_1)) then
 bif (!(((List.getD e3_1 (Int.toNat s3.1) (bs []))).data.toList == ((bs [])).data.toList)) then
 bif (decide (List.length s3.2 + List.length [(List.getD e3_1 (Int.toNat s3.1) (bs []))] ≤ rowMax)) then
 r3 ((IntKind.wrap .i64 (s3.1 + 1)), (s3.2 ++ [(List.getD e3_1 (Int.toNat s3.1) (bs []))]))
 else
 none
 else
 r3 ((IntKind.wrap .i64 (s3.1 + 1)), s3.2)
 else
 none
 else
 (strings_Join.u s3.2 (bs [32])).bind fun y1 =>
 bif (decide ((y1).size + ((bs [10])).size ≤ catMax)) then
 k (y1 ++ (bs [10]))
 else
 none
theorem snap_row.l0 (fuel : Nat) (e3_1 : (List ByteArray)) (e3_2 : Int)  (k : AV → Option Ω) : ∀ m, (snap_row.M0 fuel e3_1 e3_2  k m) = iter (snap_row.b0 e3_1 e3_2  (fun r => k (tupAV .str [] r))) m :=
 loopK_iter (envOf := (snap_row.E0 e3_1 e3_2)) (LOf := (snap_row.H0 e3_1 e3_2)) (B := snap_row.b0 e3_1 e3_2  (fun r => k (tupAV .str [] r))) (fun R s => by kernel_rfl)
def snap_row.sl (x0 : (List ByteArray)) (lp0 : (List ByteArray) → Int → Int × (List ByteArray) → Option Ω) (k : ByteArray → Option Ω) : Option Ω :=
 lp0 x0 (((List.length x0 : Nat) : Int)) (0, [])
def snap_row.g0 (e3_1 : (List ByteArray))  (k : ByteArray → Option Ω) : List ByteArray → (List ByteArray) → Option Ω
 | [], a3_1 =>
 (strings_Join.u a3_1 (bs [32])).bind fun y1 =>
 bif (decide ((y1).size + ((bs [10])).size ≤ catMax)) then
 k (y1 ++ (bs [10]))
 else
 none
 | x3 :: xs3, a3_1 =>
 bif (!((x3).data.toList == ((bs [])).data.toList)) then
 bif (decide (List.length a3_1 + List.length [x3] ≤ rowMax)) then
 snap_row.g0 e3_1  k xs3 (a3_1 ++ [x3])
 else
 none
 else
 snap_row.g0 e3_1  k xs3 a3_1
theorem snap_row.h0 (e3_1 : (List ByteArray))   (k : ByteArray → Option Ω) (hX : ((List.length e3_1 : Nat) : Int) ≤ 9223372036854775807) : ∀ (m : Nat) (i : Int) (a : (List ByteArray)), 0 ≤ i → i ≤ ((List.length e3_1 : Nat) : Int) → ((List.length e3_1 : Nat) : Int) < m + i → Le (snap_row.g0 e3_1  k (List.drop (Int.toNat i) e3_1) a) (iter (snap_row.b0 e3_1 (((List.length e3_1 : Nat) : Int))  k) m (i, a)) :=
 iter_list e3_1 (bs []) (fun (i3 : Int) (a3 : (List ByteArray)) => (i3, a3)) (fun xs i3 a3 => snap_row.g0 e3_1  k xs a3) (snap_row.b0 e3_1 (((List.length e3_1 : Nat) : Int))  k)
 (fun i3 a3 r h0 => (Le.fls h0 (Le.bnd fun y1 => (Le.cond (Le.refl _) Le.nil))))
 (fun i3 xs3 a3 r h0 h1 hw ih => (Le.tru h0 (Le.tru h1 (Le.cond (Le.cond (ih _ hw ((a3 ++ [(List.getD e3_1 (Int.toNat i3) (bs []))]))) Le.nil) (ih _ hw (a3))))))
 hX
def snap_row.w (x0 : (List ByteArray)) (k : ByteArray → Option Ω) : Option Ω :=
 bif decide (((List.length x0 : Nat) : Int) ≤ 4611686018427387904) then snap_row.g0 x0  k x0 ([]) else none
theorem snap_row.ev (fuel : Nat) (x0 : (List ByteArray)) (k : AV → Option Ω) : evFn CDEKP (spE (C := CDEKP) [strings_Join.n] []) (snap_row.F fuel) Tryz.f63 (Tryz.f63.body.getD .skip) [(.v (.slice .str) (x0))] k = snap_row.sl x0 (fun e3_1 e3_2 => (snap_row.M0 fuel e3_1 e3_2  k fuel)) (fun r => k (tupAV .str [] r)) := by kernel_rfl
theorem snap_row.le (x0 : (List ByteArray)) (k : AV → Option Ω) : Le (snap_row.w x0 (fun r => k (tupAV .str [] r))) (snap_row.sl x0 (fun e3_1 e3_2 => (snap_row.M0 BIG e3_1 e3_2  k BIG)) (fun r => k (tupAV .str [] r))) := by
 have h1 := funext fun (e3_1 : (List ByteArray)) => funext fun (e3_2 : Int) => snap_row.l0 BIG e3_1 e3_2   k BIG
 rw [h1]
 delta snap_row.w snap_row.sl
 exact (Le.gd fun hg => snap_row.h0 _   _ (le_up (of_decide_eq_true hg)) BIG 0 ([]) (by decide) (zero_le_len _) (big_list (of_decide_eq_true hg)))
noncomputable def snap_row.n : En CDEKP := mkE CDEKP_ok (es := [strings_Join.n]) (ms := []) (fuel := (snap_row.F BIG)) 63 Tryz.f63 [.ai (.slice .str)] .str [] (fun x {Ω} k => snap_row.w x.1 k) (fun x Ω k => leV (snap_row.ev BIG x.1 k) (snap_row.le x.1 k)) (by kernel_rfl) (by kernel_rfl)
def snap_mode.s (x0 : T_s70) (k : ByteArray → Option Ω) : Option Ω :=
 bif (x0.2.2.2.2.1 == 1) then
 k (bs [119, 97, 105, 116, 115])
 else
 bif (x0.2.2.2.2.1 == 2) then
 k (bs [102, 97, 108, 108, 115])
 else
 bif (x0.2.2.2.2.1 == 3) then
 (snap_number.u x0.2.2.2.2.2.1).bind fun y1 =>
 bif (decide (((bs [111, 118, 101, 114, 32])).size + (y1).size ≤ catMax)) then
 k ((bs [111, 118, 101, 114, 32]) ++ y1)
 else
 none
 else
 k (bs [114, 117, 110, 115])
noncomputable def snap_mode.n : En CDEKP := mkE CDEKP_ok (es := [snap_number.n]) (ms := []) (fuel := ⟨1, fun _ => []⟩) 150 Tryz.f150 [.ai E_s70] .str [] (fun x {Ω} k => snap_mode.s x.1 k) (fun x Ω k => Le.of (by kernel_rfl)) (by kernel_rfl) (by kernel_rfl)
def snap_numbers_1.s (x0 : Int) (x1 : Int) (k : ByteArray → Option Ω) : Option Ω :=
 (snap_number.u x1).bind fun y1 =>
 k y1
def snap_numbers_1.u (x0 : Int) (x1 : Int) : Option (ByteArray) := snap_numbers_1.s x0 x1 some
noncomputable def snap_numbers_1.n : En CDEKP := mkE CDEKP_ok (es := [snap_number.n]) (ms := []) (fuel := ⟨1, fun _ => []⟩) 155 Tryz.f155 [.ai (.int .i64), .ai (.int .i64)] .str [] (fun x {Ω} k => snap_numbers_1.s x.1 x.2.1 k) (fun x Ω k => Le.of (by kernel_rfl)) (by kernel_rfl) (by kernel_rfl)
def snap_each_int__snap_numbers_1.F (fuel : Nat) : Fuel := ⟨fuel, fun r => bif r == 3 then mL 0 25 33552605 else []⟩
noncomputable def snap_each_int__snap_numbers_1.V (fuel c : Nat) (env : List AV) (L : Heap) (k : Kont Ω) : Option Ω := evCode CDEKP (spE (C := CDEKP) [strings_Join.n, snap_numbers_1.n] []) (snap_each_int__snap_numbers_1.F fuel) (pCo c Tryz.f153) env L k
def snap_each_int__snap_numbers_1.E0 (e3_1 : (List Int)) (e3_2 : Int) (s3 : Int × (List ByteArray)) : List AV := (dZ 1 ((.fn 155 []) :: dZ 3 ((.rs 0) :: dZ 2 ((.v (.slice (.int .i64)) (e3_1)) :: (.v (.int .i64) (e3_2)) :: (.v (.int .i64) (s3.1)) :: dZ 14 ([])))))
def snap_each_int__snap_numbers_1.H0 (e3_1 : (List Int)) (e3_2 : Int) (s3 : Int × (List ByteArray)) : Heap := [(.row 9 .str s3.2 false)]
noncomputable def snap_each_int__snap_numbers_1.M0 (fuel : Nat) (e3_1 : (List Int)) (e3_2 : Int)  (k : AV → Option Ω) (m : Nat) (s : Int × (List ByteArray)) : Option Ω := loopK (snap_each_int__snap_numbers_1.V fuel 75) (mB 25 33552605) [] 1 (blockK 0 (sqK (snap_each_int__snap_numbers_1.V fuel 15) (finK CDEKP Tryz.f153 k))) m ((snap_each_int__snap_numbers_1.E0 e3_1 e3_2) s) ((snap_each_int__snap_numbers_1.H0 e3_1 e3_2) s)
def snap_each_int__snap_numbers_1.b0 (e3_1 : (List Int)) (e3_2 : Int)   (k : ByteArray → Option Ω) (r3 : Int × (List ByteArray) → Option Ω) (s3 : Int × (List ByteArray)) : Option Ω :=
 bif (decide (s3.1 < e3_2)) then
 bif (idxOK s3.1 (List.length e3_1)) then
 (snap_numbers_1.u s3.1 ((List.getD e3_1 (Int.toNat s3.1) 0))).bind fun y1 =>
 bif (decide (List.length s3.2 + List.length [y1] ≤ rowMax)) then
 r3 ((IntKind.wrap .i64 (s3.1 + 1)), (s3.2 ++ [y1]))
 else
 none
 else
 none
 else
 (strings_Join.u s3.2 (bs [32])).bind fun y2 =>
 k y2
theorem snap_each_int__snap_numbers_1.l0 (fuel : Nat) (e3_1 : (List Int)) (e3_2 : Int)  (k : AV → Option Ω) : ∀ m, (snap_each_int__snap_numbers_1.M0 fuel e3_1 e3_2  k m) = iter (snap_each_int__snap_numbers_1.b0 e3_1 e3_2  (fun r => k (tupAV .str [] r))) m :=
 loopK_iter (envOf := (snap_each_int__snap_numbers_1.E0 e3_1 e3_2)) (LOf := (snap_each_int__snap_numbers_1.H0 e3_1 e3_2)) (B := snap_each_int__snap_numbers_1.b0 e3_1 e3_2  (fun r => k (tupAV .str [] r))) (fun R s => by kernel_rfl)
def snap_each_int__snap_numbers_1.sl (x0 : (List Int)) (lp0 : (List Int) → Int → Int × (List ByteArray) → Option Ω) (k : ByteArray → Option Ω) : Option Ω :=
 lp0 x0 (((List.length x0 : Nat) : Int)) (0, [])
def snap_each_int__snap_numbers_1.g0 (e3_1 : (List Int))  (k : ByteArray → Option Ω) : List Int → Int → (List ByteArray) → Option Ω
 | [], i3, a3_1 =>
 (strings_Join.u a3_1 (bs [32])).bind fun y2 =>
 k y2
 | x3 :: xs3, i3, a3_1 =>
 (snap_numbers_1.u i3 (x3)).bind fun y1 =>
 bif (decide (List.length a3_1 + List.length [y1] ≤ rowMax)) then
 snap_each_int__snap_numbers_1.g0 e3_1  k xs3 (i3 + 1) (a3_1 ++ [y1])
 else
 none
theorem snap_each_int__snap_numbers_1.h0 (e3_1 : (List Int))   (k : ByteArray → Option Ω) (hX : ((List.length e3_1 : Nat) : Int) ≤ 9223372036854775807) : ∀ (m : Nat) (i : Int) (a : (List ByteArray)), 0 ≤ i → i ≤ ((List.length e3_1 : Nat) : Int) → ((List.length e3_1 : Nat) : Int) < m + i → Le (snap_each_int__snap_numbers_1.g0 e3_1  k (List.drop (Int.toNat i) e3_1) i a) (iter (snap_each_int__snap_numbers_1.b0 e3_1 (((List.length e3_1 : Nat) : Int))  k) m (i, a)) :=
 iter_list e3_1 0 (fun (i3 : Int) (a3 : (List ByteArray)) => (i3, a3)) (fun xs i3 a3 => snap_each_int__snap_numbers_1.g0 e3_1  k xs i3 a3) (snap_each_int__snap_numbers_1.b0 e3_1 (((List.length e3_1 : Nat) : Int))  k)
 (fun i3 a3 r h0 => (Le.fls h0 (Le.bnd fun y2 => (Le.refl _))))
 (fun i3 xs3 a3 r h0 h1 hw ih => (Le.tru h0 (Le.tru h1 (Le.bnd fun y1 => (Le.cond (ih _ hw ((a3 ++ [y1]))) Le.nil)))))
 hX
def snap_each_int__snap_numbers_1.w (x0 : (List Int)) (k : ByteArray → Option Ω) : Option Ω :=
 bif decide (((List.length x0 : Nat) : Int) ≤ 4611686018427387904) then snap_each_int__snap_numbers_1.g0 x0  k x0 0 ([]) else none
theorem snap_each_int__snap_numbers_1.ev (fuel : Nat) (x0 : (List Int)) (k : AV → Option Ω) : evFn CDEKP (spE (C := CDEKP) [strings_Join.n, snap_numbers_1.n] []) (snap_each_int__snap_numbers_1.F fuel) Tryz.f153 (Tryz.f153.body.getD .skip) [(.v (.slice (.int .i64)) (x0)), (.fn 155 [])] k = snap_each_int__snap_numbers_1.sl x0 (fun e3_1 e3_2 => (snap_each_int__snap_numbers_1.M0 fuel e3_1 e3_2  k fuel)) (fun r => k (tupAV .str [] r)) := by kernel_rfl
theorem snap_each_int__snap_numbers_1.le (x0 : (List Int)) (k : AV → Option Ω) : Le (snap_each_int__snap_numbers_1.w x0 (fun r => k (tupAV .str [] r))) (snap_each_int__snap_numbers_1.sl x0 (fun e3_1 e3_2 => (snap_each_int__snap_numbers_1.M0 BIG e3_1 e3_2  k BIG)) (fun r => k (tupAV .str [] r))) := by
 have h1 := funext fun (e3_1 : (List Int)) => funext fun (e3_2 : Int) => snap_each_int__snap_numbers_1.l0 BIG e3_1 e3_2   k BIG
 rw [h1]
 delta snap_each_int__snap_numbers_1.w snap_each_int__snap_numbers_1.sl
 exact (Le.gd fun hg => snap_each_int__snap_numbers_1.h0 _   _ (le_up (of_decide_eq_true hg)) BIG 0 ([]) (by decide) (zero_le_len _) (big_list (of_decide_eq_true hg)))
def snap_each_int__snap_numbers_1.u (x0 : (List Int)) : Option (ByteArray) := snap_each_int__snap_numbers_1.w x0 some
noncomputable def snap_each_int__snap_numbers_1.n : En CDEKP := mkE CDEKP_ok (es := [strings_Join.n, snap_numbers_1.n]) (ms := []) (fuel := (snap_each_int__snap_numbers_1.F BIG)) 153 Tryz.f153 [.ai (.slice (.int .i64)), .af0 155] .str [] (fun x {Ω} k => snap_each_int__snap_numbers_1.w x.1 k) (fun x Ω k => leV (snap_each_int__snap_numbers_1.ev BIG x.1 k) (snap_each_int__snap_numbers_1.le x.1 k)) (by kernel_rfl) (by kernel_rfl)
def snap_numbers.s (x0 : (List Int)) (k : ByteArray → Option Ω) : Option Ω :=
 (snap_each_int__snap_numbers_1.u x0).bind fun y1 =>
 k y1
noncomputable def snap_numbers.n : En CDEKP := mkE CDEKP_ok (es := [snap_each_int__snap_numbers_1.n]) (ms := []) (fuel := ⟨1, fun _ => []⟩) 73 Tryz.f73 [.ai (.slice (.int .i64))] .str [] (fun x {Ω} k => snap_numbers.s x.1 k) (fun x Ω k => Le.of (by kernel_rfl)) (by kernel_rfl) (by kernel_rfl)
noncomputable def strings_Builder_WriteString.n : Me CDEKP := Me.of (g := 62) (fx := fun {_} => strings_Builder_WriteString.fx) (FxOK.mono le_C_CDEKP strings_Builder_WriteString.fx_ok)
noncomputable def strings_Builder_String.n : Me CDEKP := Me.of (g := 76) (fx := fun {_} => strings_Builder_String.fx) (FxOK.mono le_C_CDEKP strings_Builder_String.fx_ok)
noncomputable def law36_alive.tab : FuncId → Option Func := (tabS 265 Tryz.f265 (tabS 264 Tryz.f264 (tabS 255 Tryz.f255 (tabS 236 Tryz.f236 (tabS 235 Tryz.f235 (tabS 234 Tryz.f234 (tabS 232 Tryz.f232 (tabS 214 Tryz.f214 (tabS 192 Tryz.f192 (tabS 191 Tryz.f191 (tabS 188 Tryz.f188 (tabS 155 Tryz.f155 (tabS 154 Tryz.f154 (tabS 153 Tryz.f153 (tabS 152 Tryz.f152 (tabS 129 Tryz.f129 (tabS 128 Tryz.f128 (tabS 127 Tryz.f127 (tabS 126 Tryz.f126 (tabS 125 Tryz.f125 (tabS 90 Tryz.f90 (tabS 89 Tryz.f89 (tabS 88 Tryz.f88 (tabS 87 Tryz.f87 (tabS 86 Tryz.f86 (tabS 85 Tryz.f85 (tabS 83 Tryz.f83 (tabS 82 Tryz.f82 (tabS 75 Tryz.f75 (tabS 74 Tryz.f74 (tabS 72 Tryz.f72 (tabS 71 Tryz.f71 (tabS 70 Tryz.f70 (tabS 69 Tryz.f69 (tabS 68 Tryz.f68 (tabS 67 Tryz.f67 (tabS 66 Tryz.f66 (tabS 65 Tryz.f65 (tabS 55 Tryz.f55 (tabS 54 Tryz.f54 (tabS 53 Tryz.f53 (tabS 52 Tryz.f52 (tabS 51 Tryz.f51 (tabS 50 Tryz.f50 (tabS 20 Tryz.f20 (tabS 19 Tryz.f19 (tabS 17 Tryz.f17 (tabS 15 Tryz.f15 tab0))))))))))))))))))))))))))))))))))))))))))))))))
theorem law36_alive.tab_ok : tabOK CDEKP law36_alive.tab := (tabS_ok (by kernel_rfl) (by kernel_rfl) (by kernel_rfl) (tabS_ok (by kernel_rfl) (by kernel_rfl) (by kernel_rfl) (tabS_ok (by kernel_rfl) (by kernel_rfl) (by kernel_rfl) (tabS_ok (by kernel_rfl) (by kernel_rfl) (by kernel_rfl) (tabS_ok (by kernel_rfl) (by kernel_rfl) (by kernel_rfl) (tabS_ok (by kernel_rfl) (by kernel_rfl) (by kernel_rfl) (tabS_ok (by kernel_rfl) (by kernel_rfl) (by kernel_rfl) (tabS_ok (by kernel_rfl) (by kernel_rfl) (by kernel_rfl) (tabS_ok (by kernel_rfl) (by kernel_rfl) (by kernel_rfl) (tabS_ok (by kernel_rfl) (by kernel_rfl) (by kernel_rfl) (tabS_ok (by kernel_rfl) (by kernel_rfl) (by kernel_rfl) (tabS_ok (by kernel_rfl) (by kernel_rfl) (by kernel_rfl) (tabS_ok (by kernel_rfl) (by kernel_rfl) (by kernel_rfl) (tabS_ok (by kernel_rfl) (by kernel_rfl) (by kernel_rfl) (tabS_ok (by kernel_rfl) (by kernel_rfl) (by kernel_rfl) (tabS_ok (by kernel_rfl) (by kernel_rfl) (by kernel_rfl) (tabS_ok (by kernel_rfl) (by kernel_rfl) (by kernel_rfl) (tabS_ok (by kernel_rfl) (by kernel_rfl) (by kernel_rfl) (tabS_ok (by kernel_rfl) (by kernel_rfl) (by kernel_rfl) (tabS_ok (by kernel_rfl) (by kernel_rfl) (by kernel_rfl) (tabS_ok (by kernel_rfl) (by kernel_rfl) (by kernel_rfl) (tabS_ok (by kernel_rfl) (by kernel_rfl) (by kernel_rfl) (tabS_ok (by kernel_rfl) (by kernel_rfl) (by kernel_rfl) (tabS_ok (by kernel_rfl) (by kernel_rfl) (by kernel_rfl) (tabS_ok (by kernel_rfl) (by kernel_rfl) (by kernel_rfl) (tabS_ok (by kernel_rfl) (by kernel_rfl) (by kernel_rfl) (tabS_ok (by kernel_rfl) (by kernel_rfl) (by kernel_rfl) (tabS_ok (by kernel_rfl) (by kernel_rfl) (by kernel_rfl) (tabS_ok (by kernel_rfl) (by kernel_rfl) (by kernel_rfl) (tabS_ok (by kernel_rfl) (by kernel_rfl) (by kernel_rfl) (tabS_ok (by kernel_rfl) (by kernel_rfl) (by kernel_rfl) (tabS_ok (by kernel_rfl) (by kernel_rfl) (by kernel_rfl) (tabS_ok (by kernel_rfl) (by kernel_rfl) (by kernel_rfl) (tabS_ok (by kernel_rfl) (by kernel_rfl) (by kernel_rfl) (tabS_ok (by kernel_rfl) (by kernel_rfl) (by kernel_rfl) (tabS_ok (by kernel_rfl) (by kernel_rfl) (by kernel_rfl) (tabS_ok (by kernel_rfl) (by kernel_rfl) (by kernel_rfl) (tabS_ok (by kernel_rfl) (by kernel_rfl) (by kernel_rfl) (tabS_ok (by kernel_rfl) (by kernel_rfl) (by kernel_rfl) (tabS_ok (by kernel_rfl) (by kernel_rfl) (by kernel_rfl) (tabS_ok (by kernel_rfl) (by kernel_rfl) (by kernel_rfl) (tabS_ok (by kernel_rfl) (by kernel_rfl) (by kernel_rfl) (tabS_ok (by kernel_rfl) (by kernel_rfl) (by kernel_rfl) (tabS_ok (by kernel_rfl) (by kernel_rfl) (by kernel_rfl) (tabS_ok (by kernel_rfl) (by kernel_rfl) (by kernel_rfl) (tabS_ok (by kernel_rfl) (by kernel_rfl) (by kernel_rfl) (tabS_ok (by kernel_rfl) (by kernel_rfl) (by kernel_rfl) (tabS_ok (by kernel_rfl) (by kernel_rfl) (by kernel_rfl) tab0_ok))))))))))))))))))))))))))))))))))))))))))))))))
noncomputable def law36_alive.sp : Spec := spE (C := CDEKP) [snap_Begin.n, snap_row.n, snap_number.n, snap_numbers.n, slices_Equal_barrier_Bar_barrier_Bar.n, slices_Equal_timers_Timer_timers_Timer.n, slices_Equal_int_int.n, proc_Fine.n, word_Fine.n, snap_alike.n, slices_Index_int_int.n, barrier_Fine.n, bitset_List.n, bitset_Sub.n, snap_Snap_open.n, slices_Index_timers_Timer_timers_Timer.n, strings_Join.n, strings_Repeat.n, proc_Handle.n, snap_mode.n, frame_Text.n, slices_Equal_api_Guard_api_Guard.n, channel_Check.n, channel_shares.n, guard_beside.n, poison_Fine.n, slices_Contains_int_int.n, guard_number.n] [strings_Builder_WriteString.n, strings_Builder_String.n, slices_Delete_137.n]
def law36_alive.u : Option (Bool) := some true
theorem law36_alive.ev : evFn CDEKP (allF CDEKP law36_alive.sp ⟨400, fun _ => []⟩ law36_alive.tab 40) ⟨400, fun _ => []⟩ Tryz.f7 (Tryz.f7.body.getD .skip) [] (dec .bool []) = some true := by kernel_rfl
theorem law36_alive.c (r : Bool) (h : law36_alive.u = some r) : Contract CDEKP 7 [] (tupAV .bool [] r) := by
 cases h
 exact contract_u CDEKP_ok (allF_ok CDEKP_ok (spE_ok _ _) law36_alive.tab_ok 40) (by kernel_rfl) (by kernel_rfl) (by kernel_rfl) law36_alive.ev
noncomputable def law36_alive.n : En CDEKP := En.of (g := 7) (e := endU (law36_alive.u) (tupAV .bool [])) (entA_ok (endU_ok fun r h => law36_alive.c r h))
def law36_SnapBegins.s (x0 : T_s26) (k : Bool → Option Ω) : Option Ω :=
 (law32_Small.u x0).bind fun y1 =>
 bif (!y1) then
 law36_alive.u.bind fun y2 =>
 k y2
 else
 (snap_Begin.u x0).bind fun y3 =>
 (ref36_Begin.u x0).bind fun y4 =>
 (law36_From.u y3.1).bind fun y5 =>
 (ref36_Same.u y5 y4.1).bind fun y6 =>
 bif y6 then
 bif (y3.2 == y4.2) then
 law36_alive.u.bind fun y7 =>
 k y7
 else
 k false
 else
 k false
def law36_SnapBegins.u (x0 : T_s26) : Option (Bool) := law36_SnapBegins.s x0 some
noncomputable def law36_SnapBegins.n : En CDEKP := mkE CDEKP_ok (es := [law32_Small.n, law36_alive.n, snap_Begin.n, ref36_Begin.n, ref36_Same.n, law36_From.n]) (ms := []) (fuel := ⟨1, fun _ => []⟩) 3 Tryz.f3 [.ai E_s26] .bool [] (fun x {Ω} k => law36_SnapBegins.s x.1 k) (fun x Ω k => Le.of (by kernel_rfl)) (by kernel_rfl) (by kernel_rfl)
end
end Go.Proofs.YtlcomipbinfooaaGreatDoor.K

/- What functions of the program come to, and their laws. -/
import Derived.Test.YtlcomipbinfooaaGreatDoorZ4
import Derived.Test.YtlcomipbinfooaaGreatDoorW1
import Derived.KernelRfl
import Derived.IntWalk
import Derived.Lib.TrailingZeros
namespace Go.Proofs.YtlcomipbinfooaaGreatDoor.K
open Go Go.RowKit
section
set_option linter.unusedVariables false
set_option linter.unusedSimpArgs false
set_option maxRecDepth 100000
abbrev Ch : Type := Int × (Int × (Int × (Int × Unit)))
abbrev Bc : Type := Bool × (Int × Unit)
abbrev Sta : Type := Int × (Int × (Int × Unit))
abbrev Cf : Type := List (List In) × (List Ch × (List Bc × (Int × (List Sta × Unit))))
def ckL {α : Type} (f : α → Option Int) : List α → Int → Option (Int × Int)
  | [], _ => some (0, 0)
  | x :: xs, i => (f x).bind fun e => bif (e != 0) then some (i, e) else ckL f xs (i + 1)
theorem ckL_congr {α : Type} {f g : α → Option Int} : ∀ {l : List α} {i : Int}, (∀ x ∈ l, f x = g x) → ckL f l i = ckL g l i
  | [], _, _ => rfl
  | x :: xs, i, h => by
    unfold ckL
    rw [h x (by simp)]
    congr 1; funext e
    rw [ckL_congr fun y hy => h y (List.mem_cons_of_mem _ hy)]
theorem ckL_some {α : Type} {f : α → Option Int} : ∀ {l : List α} {i : Int}, (∀ x ∈ l, (f x).isSome = true) → ∃ r, ckL f l i = some r ∧ (r.2 = 0 → ∀ x ∈ l, f x = some 0)
  | [], _, _ => ⟨_, rfl, fun _ x hx => by cases hx⟩
  | x :: xs, i, h => by
    unfold ckL
    have hx := h x (by simp)
    cases hf : f x with
    | none => rw [hf] at hx; cases hx
    | some e =>
      rw [Option.bind_some]
      cases he : (e != 0) with
      | true => exact ⟨_, rfl, fun h0 => by simp only at h0; rw [h0] at he; cases he⟩
      | false =>
        have he : e = 0 := by simpa using he
        subst he
        obtain ⟨r, h1, h2⟩ := ckL_some (l := xs) (i := i + 1) fun y hy => h y (List.mem_cons_of_mem _ hy)
        refine ⟨r, h1, fun h0 y hy => ?_⟩
        rcases List.mem_cons.1 hy with rfl | hy
        · exact hf
        · exact h2 h0 y hy
theorem ref_loop {α Ω : Type} (f : α → Option Int) (z : α) (l : List α) (g : Nat → Int → Option Ω) (kk : Int → Int → Option Ω) (b : Option Ω) (h0 : ∀ i, g 0 i = b)
    (hs : ∀ d (i : Int), g (d + 1) i = bif idxOK i l.length then (f (l.getD i.toNat z)).bind (fun e => bif (e != 0) then kk i e else g d (i + 1)) else none) :
    ∀ (xs : List α) (n : Nat), l.drop n = xs → n + xs.length = l.length → g xs.length (n : Int) = (ckL f xs (n : Int)).bind fun r => bif (r.2 != 0) then kk r.1 r.2 else b
  | [], n, _, _ => by
    show g 0 _ = _
    rw [h0]; rfl
  | x :: xs, n, hd, hl => by
    show g (xs.length + 1) _ = _
    have hl' : n + (xs.length + 1) = l.length := by simpa using hl
    have hx : l.getD n z = x := by
      have : (l.drop n)[0]? = some x := by rw [hd]; rfl
      rw [List.getElem?_drop, Nat.add_zero] at this
      rw [List.getD_eq_getElem?_getD, this]; rfl
    rw [hs, idxOK_nat (by omega), cond_true, Int.toNat_natCast, hx]
    unfold ckL
    cases f x with
    | none => rfl
    | some e =>
      simp only [Option.bind_some]
      cases he : (e != 0) with
      | true => simp only [cond_true, Option.bind_some, he]
      | false =>
        simp only [cond_false]
        have hd' : l.drop (n + 1) = xs := by rw [← List.drop_drop, hd]; rfl
        have := ref_loop f z l g kk b h0 hs xs (n + 1) hd' (by omega)
        rw [show ((n + 1 : Nat) : Int) = (n : Int) + 1 from by omega] at this
        exact this
theorem power_u : ∀ n : Nat, n < 9 → ref32_power.u (n : Int) = some (IntKind.wrap .i64 ((1 : Int) * (2 ^ (min (Int.toNat (n : Int)) (IntKind.bits .i64)))))
  | 0, _ => by kernel_rfl
  | 1, _ => by kernel_rfl
  | 2, _ => by kernel_rfl
  | 3, _ => by kernel_rfl
  | 4, _ => by kernel_rfl
  | 5, _ => by kernel_rfl
  | 6, _ => by kernel_rfl
  | 7, _ => by kernel_rfl
  | 8, _ => by kernel_rfl
  | n + 9, h => by omega
theorem start_eq (s : Sta) (p : Int) {b : Nat} (hb : b < 9) : conf_start.u s p (b : Int) = ref32_start.u s p (b : Int) := by
  unfold conf_start.u ref32_start.u conf_start.s ref32_start.s
  rw [power_u b hb, show decide ((0 : Int) ≤ (b : Int)) = true from by simp, fine_eq]
  rfl
theorem start_ok (s : Sta) (p : Int) {b : Nat} (hb : b < 9) : ∃ e, conf_start.u s p (b : Int) = some e ∧ (e = 0 → word_Fine.t s.2.1 = true ∧ 0 ≤ s.2.2.1 ∧ s.2.2.1 < 2 ^ b) := by
  have hp : (IntKind.wrap .i64 ((1 : Int) * (2 ^ (min (Int.toNat (b : Int)) (IntKind.bits .i64))))) = 2 ^ b := by
    match b, hb with
    | 0, _ => decide
    | 1, _ => decide
    | 2, _ => decide
    | 3, _ => decide
    | 4, _ => decide
    | 5, _ => decide
    | 6, _ => decide
    | 7, _ => decide
    | 8, _ => decide
    | n + 9, h => omega
  unfold conf_start.u conf_start.s
  rw [show decide ((0 : Int) ≤ (b : Int)) = true from by simp, hp]
  cases h1 : decide (s.1 < 0) with
  | true => exact ⟨8, rfl, fun h => by cases h⟩
  | false =>
  cases h2 : decide (s.1 ≥ p) with
  | true => exact ⟨8, rfl, fun h => by cases h⟩
  | false =>
  cases h3 : word_Fine.t s.2.1 with
  | false => exact ⟨8, rfl, fun h => by cases h⟩
  | true =>
  cases h4 : decide (s.2.2.1 < 0) with
  | true => exact ⟨8, rfl, fun h => by cases h⟩
  | false =>
  cases h5 : decide (s.2.2.1 ≥ 2 ^ b) with
  | true => exact ⟨8, by simp only [cond_false, cond_true, Bool.not_true, Option.bind_some], fun h => by cases h⟩
  | false =>
    refine ⟨0, by simp only [cond_false, cond_true, Bool.not_true, Option.bind_some], fun _ => ⟨rfl, ?_, ?_⟩⟩
    · simpa using h4
    · simpa using h5
theorem chan_eq (x : Ch) : channel_Check.t x = ref18_Check.t x := rfl
theorem bar_eq (x : Bc) : barrier_Check.t x = ref22_Check.t x := by
  unfold barrier_Check.t ref22_Check.t phase_Fine.t
  by_cases h1 : x.2.1 ≥ 1
  · by_cases h2 : x.2.1 ≤ 65535
    · have h3 : (0 : Int) ≤ x.2.1 := by omega
      have h4 : ¬ x.2.1 < 1 := by omega
      have h5 : ¬ x.2.1 > 65535 := by omega
      simp [h1, h2, h3, h4, h5]
    · have h4 : ¬ x.2.1 < 1 := by omega
      have h5 : x.2.1 > 65535 := by omega
      simp [h1, h2, h4, h5]
  · have h4 : x.2.1 < 1 := by omega
    simp [h1, h4]
def goP : List (Int × Option (Int × Int)) → Option ((Int × (Int × Unit)) × Int)
  | [] => some ((0, (0, ())), 0)
  | (i, p) :: r => p.bind fun y => bif (y.2 != 0) then some ((i, (y.1, ())), y.2) else goP r
def manyP (n a b : Int) (p : Option (Int × Int)) : Option (Int × Int) := bif (conf_many.t n a b != 0) then some (0, conf_many.t n a b) else p
def partsP (c : Cf) : List (Int × Option (Int × Int)) :=
  [(1, manyP (List.length c.1 : Nat) 1 8 (ckL conf_program.u c.1 0)), (2, manyP (List.length c.2.1 : Nat) 0 8 (ckL (fun x => some (channel_Check.t x)) c.2.1 0)),
   (3, manyP (List.length c.2.2.1 : Nat) 0 8 (ckL (fun x => some (barrier_Check.t x)) c.2.2.1 0)), (4, some (0, conf_buckets.t c.2.2.2.1)),
   (5, manyP (List.length c.2.2.2.2.1 : Nat) 1 16 (ckL (fun s => conf_start.u s (List.length c.1 : Nat) (List.length c.2.2.1 : Nat)) c.2.2.2.2.1 0))]
theorem first1 {Ω : Type} (e : List (List In)) (k : Int × Int → Option Ω) : ∀ (xs : List (List In)) (i : Int), conf_first_api_Instr__conf_program.g0 e k xs i = (ckL conf_program.u xs i).bind k
  | [], i => rfl
  | x :: xs, i => by
    show (conf_program.u x).bind _ = _
    unfold ckL
    cases conf_program.u x with
    | none => rfl
    | some y =>
      simp only [Option.bind_some]
      cases (y != 0) with
      | true => rfl
      | false => exact first1 e k xs (i + 1)
theorem first2 {Ω : Type} (e : List Ch) (k : Int × Int → Option Ω) : ∀ (xs : List Ch) (i : Int), conf_first_api_Chan__channel_Check.g0 e k xs i = (ckL (fun x => some (channel_Check.t x)) xs i).bind k
  | [], i => rfl
  | x :: xs, i => by
    show (bif (channel_Check.t x != 0) then _ else _) = _
    unfold ckL
    simp only [Option.bind_some]
    cases (channel_Check.t x != 0) with
    | true => rfl
    | false => exact first2 e k xs (i + 1)
theorem first3 {Ω : Type} (e : List Bc) (k : Int × Int → Option Ω) : ∀ (xs : List Bc) (i : Int), conf_first_api_Barrier__barrier_Check.g0 e k xs i = (ckL (fun x => some (barrier_Check.t x)) xs i).bind k
  | [], i => rfl
  | x :: xs, i => by
    show (bif (barrier_Check.t x != 0) then _ else _) = _
    unfold ckL
    simp only [Option.bind_some]
    cases (barrier_Check.t x != 0) with
    | true => rfl
    | false => exact first3 e k xs (i + 1)
theorem first4 {Ω : Type} (c : Cf) (e : List Sta) (k : Int × Int → Option Ω) : ∀ (xs : List Sta) (i : Int), conf_first_api_Start__conf_part_1.g0 c e k xs i = (ckL (fun s => conf_start.u s (List.length c.1 : Nat) (List.length c.2.2.1 : Nat)) xs i).bind k
  | [], i => rfl
  | x :: xs, i => by
    show (conf_part_1.u x c).bind _ = _
    unfold ckL
    have : conf_part_1.u x c = conf_start.u x (List.length c.1 : Nat) (List.length c.2.2.1 : Nat) := by
      unfold conf_part_1.u conf_part_1.s
      cases conf_start.u x (List.length c.1 : Nat) (List.length c.2.2.1 : Nat) <;> rfl
    rw [this]
    cases conf_start.u x (List.length c.1 : Nat) (List.length c.2.2.1 : Nat) with
    | none => rfl
    | some y =>
      simp only [Option.bind_some]
      cases (y != 0) with
      | true => rfl
      | false => exact first4 c e k xs (i + 1)
theorem bind_some' {α : Type} (o : Option α) : o.bind some = o := by cases o <;> rfl
theorem bind_eta (o : Option (Int × Int)) : (o.bind fun y => some (y.1, y.2)) = o := by cases o <;> rfl
structure CfS (c : Cf) : Prop where
  l1 : c.1.length ≤ 10
  l2 : c.2.1.length ≤ 20
  l3 : c.2.2.1.length ≤ 20
  l5 : c.2.2.2.2.1.length ≤ 20
  ok : ∀ l ∈ c.1, PrOK l
theorem conf_go (c : Cf) (h : CfS c) : conf_Check.u c = goP (partsP c) := by
  have p1 : conf_part.u c 1 = manyP (List.length c.1 : Nat) 1 8 (ckL conf_program.u c.1 0) := by
    show (bif (conf_many.t _ 1 8 != 0) then some (0, _) else _) = _
    unfold manyP
    congr 1
    unfold conf_first_api_Instr__conf_program.u conf_first_api_Instr__conf_program.w
    rw [dec_len h.l1 (by omega), cond_true, first1, bind_some', bind_eta]
  have p2 : conf_part.u c 2 = manyP (List.length c.2.1 : Nat) 0 8 (ckL (fun x => some (channel_Check.t x)) c.2.1 0) := by
    show (bif (conf_many.t _ 0 8 != 0) then some (0, _) else _) = _
    unfold manyP
    congr 1
    unfold conf_first_api_Chan__channel_Check.u conf_first_api_Chan__channel_Check.w
    rw [dec_len h.l2 (by omega), cond_true, first2, bind_some', bind_eta]
  have p3 : conf_part.u c 3 = manyP (List.length c.2.2.1 : Nat) 0 8 (ckL (fun x => some (barrier_Check.t x)) c.2.2.1 0) := by
    show (bif (conf_many.t _ 0 8 != 0) then some (0, _) else _) = _
    unfold manyP
    congr 1
    unfold conf_first_api_Barrier__barrier_Check.u conf_first_api_Barrier__barrier_Check.w
    rw [dec_len h.l3 (by omega), cond_true, first3, bind_some', bind_eta]
  have p5 : conf_part.u c 5 = manyP (List.length c.2.2.2.2.1 : Nat) 1 16 (ckL (fun s => conf_start.u s (List.length c.1 : Nat) (List.length c.2.2.1 : Nat)) c.2.2.2.2.1 0) := by
    show (bif (conf_many.t _ 1 16 != 0) then some (0, _) else _) = _
    unfold manyP
    congr 1
    unfold conf_first_api_Start__conf_part_1.u conf_first_api_Start__conf_part_1.w
    rw [dec_len h.l5 (by omega), cond_true, first4, bind_some', bind_eta]
  show (conf_part.u c 1).bind _ = _
  rw [p1]
  unfold partsP goP
  congr 1; funext y
  congr 1
  show (conf_part.u c 2).bind _ = _
  rw [p2]
  unfold goP
  congr 1; funext y
  congr 1
  show (conf_part.u c 3).bind _ = _
  rw [p3]
  unfold goP
  congr 1; funext y
  congr 1
  show (conf_part.u c 4).bind _ = _
  unfold goP
  congr 1; funext y
  congr 1
  show (conf_part.u c 5).bind _ = _
  rw [p5]
  unfold goP
  congr 1
abbrev PlE : Type := (Int × (Int × Unit)) × Int
theorem many_bind (n a b i : Int) (p : Option (Int × Int)) (R : Option PlE) : ((manyP n a b p).bind fun y => bif (y.2 != 0) then some ((i, (y.1, ())), y.2) else R) = bif (conf_many.t n a b != 0) then some ((i, (0, ())), conf_many.t n a b) else p.bind fun y => bif (y.2 != 0) then some ((i, (y.1, ())), y.2) else R := by
  unfold manyP
  cases hm : (conf_many.t n a b != 0) with
  | true => simp only [cond_true, Option.bind_some, hm]
  | false => rfl
theorem ref_go (c : Cf) (h : CfS c) : ref32_Check.u c = goP (partsP c) := by
  -- starts
  have s5 : ∀ (hb : c.2.2.1.length < 9), ref32_Check.g0 c (some : PlE → Option PlE) c.2.2.2.2.1.length 0 = (ckL (fun s => conf_start.u s (List.length c.1 : Nat) (List.length c.2.2.1 : Nat)) c.2.2.2.2.1 0).bind fun y => bif (y.2 != 0) then some ((5, (y.1, ())), y.2) else some ((0, (0, ())), 0) := fun hb => by
    refine ref_loop (fun s => conf_start.u s (List.length c.1 : Nat) (List.length c.2.2.1 : Nat)) (0, (0, (0, ()))) c.2.2.2.2.1 (ref32_Check.g0 c some) (fun i e => some ((5, (i, ())), e)) _ (fun i => rfl) (fun d i => ?_) c.2.2.2.2.1 0 rfl (by omega)
    simp only [start_eq _ _ hb]
    rfl
  have b5 : c.2.2.1.length < 9 → (bif (ref32_Many.t (((List.length c.2.2.2.2.1 : Nat) : Int)) 1 16 != 0) then some ((5, (0, ())), (ref32_Many.t (((List.length c.2.2.2.2.1 : Nat) : Int)) 1 16))
      else bif (decide (((List.length c.2.2.2.2.1 : Nat) : Int) ≤ 4611686018427387904)) then ref32_Check.g0 c (some : PlE → Option PlE) ((Int.toNat (((List.length c.2.2.2.2.1 : Nat) : Int) - 0))) 0 else none) = goP ((partsP c).drop 4) := fun hb => by
    show _ = Option.bind _ _
    rw [many_bind, dec_len h.l5 (by omega), cond_true, show Int.toNat (((List.length c.2.2.2.2.1 : Nat) : Int) - 0) = c.2.2.2.2.1.length from by omega, s5 hb]
    rfl
  -- barriers, buckets
  have b4 : c.2.2.1.length < 9 → ∀ i, ref32_Check.g1 c (some : PlE → Option PlE) 0 i = goP ((partsP c).drop 3) := fun hb i => by
    show ((bif (decide (c.2.2.2.1 < 0)) then some (true, ()) else some ((decide (c.2.2.2.1 > 4)), ())).bind fun j2 : Bool × Unit => bif j2.1 then some ((4, (0, ())), 8) else _) = Option.bind (some (0, conf_buckets.t c.2.2.2.1)) _
    rw [b5 hb, Option.bind_some]
    unfold conf_buckets.t
    cases decide (c.2.2.2.1 < 0) with
    | true => rfl
    | false => cases decide (c.2.2.2.1 > 4) <;> rfl
  have s3 : c.2.2.1.length < 9 → ref32_Check.g1 c (some : PlE → Option PlE) c.2.2.1.length 0 = (ckL (fun x => some (barrier_Check.t x)) c.2.2.1 0).bind fun y => bif (y.2 != 0) then some ((3, (y.1, ())), y.2) else goP ((partsP c).drop 3) := fun hb => by
    refine ref_loop (fun x => some (barrier_Check.t x)) (false, (0, ())) c.2.2.1 (ref32_Check.g1 c some) (fun i e => some ((3, (i, ())), e)) _ (b4 hb) (fun d i => ?_) c.2.2.1 0 rfl (by omega)
    simp only [bar_eq]
    rfl
  have b3 : (bif ((ref32_Many.t (((List.length c.2.2.1 : Nat) : Int)) 0 8) != 0) then some ((3, (0, ())), (ref32_Many.t (((List.length c.2.2.1 : Nat) : Int)) 0 8))
      else bif (decide (((List.length c.2.2.1 : Nat) : Int) ≤ 4611686018427387904)) then ref32_Check.g1 c (some : PlE → Option PlE) ((Int.toNat (((List.length c.2.2.1 : Nat) : Int) - 0))) 0 else none) = goP ((partsP c).drop 2) := by
    show _ = Option.bind _ _
    rw [many_bind]
    show (bif (conf_many.t _ 0 8 != 0) then _ else _) = _
    cases hm : (conf_many.t (((List.length c.2.2.1 : Nat) : Int)) 0 8 != 0) with
    | true => rfl
    | false =>
      have hb : c.2.2.1.length < 9 := by
        unfold conf_many.t at hm
        have h0 : decide (((List.length c.2.2.1 : Nat) : Int) < 0) = false := by simp
        rw [h0, cond_false] at hm
        by_cases h8 : ((List.length c.2.2.1 : Nat) : Int) > 8
        · rw [decide_eq_true h8] at hm; cases hm
        · omega
      simp only [cond_false]
      rw [dec_len h.l3 (by omega), cond_true, show Int.toNat (((List.length c.2.2.1 : Nat) : Int) - 0) = c.2.2.1.length from by omega, s3 hb]
      rfl
  have s2 : ref32_Check.g2 c (some : PlE → Option PlE) c.2.1.length 0 = (ckL (fun x => some (channel_Check.t x)) c.2.1 0).bind fun y => bif (y.2 != 0) then some ((2, (y.1, ())), y.2) else goP ((partsP c).drop 2) := by
    refine ref_loop (fun x => some (channel_Check.t x)) (0, (0, (0, (0, ())))) c.2.1 (ref32_Check.g2 c some) (fun i e => some ((2, (i, ())), e)) _ (fun i => b3) (fun d i => ?_) c.2.1 0 rfl (by omega)
    simp only [chan_eq]
    rfl
  have b2 : (bif ((ref32_Many.t (((List.length c.2.1 : Nat) : Int)) 0 8) != 0) then some ((2, (0, ())), (ref32_Many.t (((List.length c.2.1 : Nat) : Int)) 0 8))
      else bif (decide (((List.length c.2.1 : Nat) : Int) ≤ 4611686018427387904)) then ref32_Check.g2 c (some : PlE → Option PlE) ((Int.toNat (((List.length c.2.1 : Nat) : Int) - 0))) 0 else none) = goP ((partsP c).drop 1) := by
    show _ = Option.bind _ _
    rw [many_bind, dec_len h.l2 (by omega), cond_true, show Int.toNat (((List.length c.2.1 : Nat) : Int) - 0) = c.2.1.length from by omega, s2]
    rfl
  have prog_eq : ∀ l ∈ c.1, conf_program.u l = (ref12_Check.u l).bind fun y => some y.2 := fun l hl => by
    obtain ⟨v, h1, h2⟩ := check_law (h.ok l hl)
    show ((prog_Check.u l).bind fun y => some y.2) = _
    rw [h1, h2]
  have s1 : ref32_Check.g3 c (some : PlE → Option PlE) c.1.length 0 = (ckL (fun l => (ref12_Check.u l).bind fun y => some y.2) c.1 0).bind fun y => bif (y.2 != 0) then some ((1, (y.1, ())), y.2) else goP ((partsP c).drop 1) := by
    refine ref_loop (fun l => (ref12_Check.u l).bind fun y => some y.2) [] c.1 (ref32_Check.g3 c some) (fun i e => some ((1, (i, ())), e)) _ (fun i => b2) (fun d i => ?_) c.1 0 rfl (by omega)
    show (bif (idxOK i (List.length c.1)) then (ref12_Check.u ((List.getD c.1 (Int.toNat i) []))).bind _ else none) = _
    congr 1
    cases ref12_Check.u ((List.getD c.1 (Int.toNat i) [])) <;> rfl
  rw [← ckL_congr prog_eq] at s1
  unfold ref32_Check.u ref32_Check.w
  show _ = Option.bind _ _
  rw [many_bind, dec_len h.l1 (by omega), cond_true, show Int.toNat (((List.length c.1 : Nat) : Int) - 0) = c.1.length from by omega, s1]
  rfl
structure CfOK (c : Cf) : Prop where
  chans : c.2.1.length ≤ 8 ∧ ∀ x ∈ c.2.1, channel_Check.t x = 0
  bars : c.2.2.1.length ≤ 8 ∧ ∀ x ∈ c.2.2.1, barrier_Check.t x = 0
  pails : 0 ≤ c.2.2.2.1 ∧ c.2.2.2.1 ≤ 4
  starts : c.2.2.2.2.1.length ≤ 16 ∧ ∀ s ∈ c.2.2.2.2.1, word_Fine.t s.2.1 = true ∧ 0 ≤ s.2.2.1 ∧ s.2.2.1 < 2 ^ c.2.2.1.length
theorem goP_step {i : Int} {p : Option (Int × Int)} {r : List (Int × Option (Int × Int))} {v : PlE} (h : goP ((i, p) :: r) = some v) (h0 : v.2 = 0) : ∃ y, p = some y ∧ y.2 = 0 ∧ goP r = some v := by
  show _
  have h : (p.bind fun y => bif (y.2 != 0) then some ((i, (y.1, ())), y.2) else goP r) = some v := h
  obtain ⟨y, hy, h⟩ := Option.bind_eq_some_iff.1 h
  cases he : (y.2 != 0) with
  | true =>
    rw [he, cond_true] at h
    cases h
    simp only at h0
    rw [h0] at he; cases he
  | false => rw [he, cond_false] at h; exact ⟨y, hy, by simpa using he, h⟩
theorem manyP_ok {n a b : Int} {p : Option (Int × Int)} {y : Int × Int} (h : manyP n a b p = some y) (h0 : y.2 = 0) : n ≤ b ∧ p = some y := by
  unfold manyP at h
  cases hm : (conf_many.t n a b != 0) with
  | true =>
    rw [hm, cond_true] at h
    cases h
    simp only at h0
    rw [h0] at hm; cases hm
  | false =>
    rw [hm, cond_false] at h
    refine ⟨?_, h⟩
    unfold conf_many.t at hm
    by_cases h1 : n < a
    · rw [decide_eq_true h1] at hm; cases hm
    · rw [decide_eq_false h1, cond_false] at hm
      by_cases h2 : n > b
      · rw [decide_eq_true h2] at hm; cases hm
      · omega
theorem manyP_some {n a b : Int} {p : Option (Int × Int)} {r : Int × Int} (h : p = some r) : ∃ y, manyP n a b p = some y := by
  unfold manyP
  cases (conf_many.t n a b != 0) with
  | true => exact ⟨_, rfl⟩
  | false => exact ⟨r, h⟩
theorem goP_some {i : Int} {p : Option (Int × Int)} {r : List (Int × Option (Int × Int))} {y : Int × Int} (h : p = some y) (hr : y.2 = 0 → ∃ v, goP r = some v) : ∃ v, goP ((i, p) :: r) = some v := by
  show ∃ v, (p.bind fun y => bif (y.2 != 0) then some ((i, (y.1, ())), y.2) else goP r) = some v
  rw [h, Option.bind_some]
  cases he : (y.2 != 0) with
  | true => exact ⟨_, rfl⟩
  | false => exact hr (by simpa using he)
theorem check36 (c : Cf) (h : CfS c) : ∃ v : PlE, conf_Check.u c = some v ∧ ref32_Check.u c = some v ∧ (v.2 = 0 → CfOK c) := by
  rw [conf_go c h, ref_go c h]
  obtain ⟨r1, e1, _⟩ := ckL_some (f := conf_program.u) (l := c.1) (i := 0) fun l hl => by
    obtain ⟨v, h1, _⟩ := check_law (h.ok l hl)
    show ((prog_Check.u l).bind fun y => some y.2).isSome = true
    rw [h1]; rfl
  obtain ⟨r2, e2, f2⟩ := ckL_some (f := fun x : Ch => some (channel_Check.t x)) (l := c.2.1) (i := 0) fun l hl => rfl
  obtain ⟨r3, e3, f3⟩ := ckL_some (f := fun x : Bc => some (barrier_Check.t x)) (l := c.2.2.1) (i := 0) fun l hl => rfl
  have s5 : c.2.2.1.length ≤ 8 → ∃ r, ckL (fun s : Sta => conf_start.u s (List.length c.1 : Nat) (List.length c.2.2.1 : Nat)) c.2.2.2.2.1 0 = some r ∧ (r.2 = 0 → ∀ s ∈ c.2.2.2.2.1, conf_start.u s (List.length c.1 : Nat) (List.length c.2.2.1 : Nat) = some 0) := fun hb =>
    ckL_some fun s hs => by
      obtain ⟨e, h1, _⟩ := start_ok s (List.length c.1 : Nat) (b := c.2.2.1.length) (by omega)
      show (conf_start.u s (List.length c.1 : Nat) (List.length c.2.2.1 : Nat)).isSome = true
      rw [h1]; rfl
  have hv : ∃ v, goP (partsP c) = some v := by
    obtain ⟨y1, k1⟩ := manyP_some (n := (List.length c.1 : Nat)) (a := 1) (b := 8) e1
    refine goP_some k1 fun _ => ?_
    obtain ⟨y2, k2⟩ := manyP_some (n := (List.length c.2.1 : Nat)) (a := 0) (b := 8) e2
    refine goP_some k2 fun _ => ?_
    obtain ⟨y3, k3⟩ := manyP_some (n := (List.length c.2.2.1 : Nat)) (a := 0) (b := 8) e3
    refine goP_some k3 fun h0 => ?_
    obtain ⟨hb, _⟩ := manyP_ok k3 h0
    refine goP_some rfl fun _ => ?_
    obtain ⟨r5, e5, _⟩ := s5 (by omega)
    obtain ⟨y5, k5⟩ := manyP_some (n := (List.length c.2.2.2.2.1 : Nat)) (a := 1) (b := 16) e5
    exact goP_some k5 fun _ => ⟨_, rfl⟩
  obtain ⟨v, hv⟩ := hv
  refine ⟨v, hv, hv, fun h0 => ?_⟩
  obtain ⟨y1, k1, z1, hv⟩ := goP_step hv h0
  obtain ⟨y2, k2, z2, hv⟩ := goP_step hv h0
  obtain ⟨y3, k3, z3, hv⟩ := goP_step hv h0
  obtain ⟨y4, k4, z4, hv⟩ := goP_step hv h0
  obtain ⟨y5, k5, z5, hv⟩ := goP_step hv h0
  obtain ⟨n2, k2⟩ := manyP_ok k2 z2
  obtain ⟨n3, k3⟩ := manyP_ok k3 z3
  obtain ⟨n5, k5⟩ := manyP_ok k5 z5
  have hb : c.2.2.1.length ≤ 8 := by omega
  obtain ⟨r5, e5, f5⟩ := s5 hb
  rw [e2] at k2; cases k2
  rw [e3] at k3; cases k3
  rw [e5] at k5; cases k5
  have f2 := f2 z2
  have f3 := f3 z3
  have f5 := f5 z5
  refine ⟨⟨by omega, fun x hx => Option.some.inj (f2 x hx)⟩, ⟨hb, fun x hx => Option.some.inj (f3 x hx)⟩, ?_, ⟨by omega, fun s hs => ?_⟩⟩
  · cases k4
    have z4 : conf_buckets.t c.2.2.2.1 = 0 := z4
    unfold conf_buckets.t at z4
    by_cases h1 : c.2.2.2.1 < 0
    · rw [decide_eq_true h1] at z4; cases z4
    · by_cases h2 : c.2.2.2.1 > 4
      · rw [decide_eq_false h1, decide_eq_true h2] at z4; cases z4
      · omega
  · obtain ⟨e, h1, h2⟩ := start_ok s (List.length c.1 : Nat) (b := c.2.2.1.length) (by omega)
    rw [f5 s hs] at h1
    cases h1
    exact h2 rfl
theorem push_loop {α β Ω : Type} (g : List α → List β → Option Ω) (f : α → β) (k : List β → Option Ω) (h0 : ∀ a, g [] a = k a) (hs : ∀ x xs a, g (x :: xs) a = bif (decide (List.length a + List.length [f x] ≤ rowMax)) then g xs (a ++ [f x]) else none) :
    ∀ (xs : List α) (a : List β), a.length + xs.length ≤ 1000 → g xs a = k (a ++ xs.map f)
  | [], a, _ => by rw [h0]; simp
  | x :: xs, a, h => by
    simp only [List.length_cons] at h
    rw [hs, decide_eq_true (show List.length a + List.length [f x] ≤ rowMax by simp [rowMax]; omega), cond_true, push_loop g f k h0 hs xs _ (by simp; omega)]
    simp
theorem push_loop_i {α β Ω : Type} (g : List α → Int → List β → Option Ω) (f : α → β) (k : List β → Option Ω) (P : α → Prop) (h0 : ∀ i a, g [] i a = k a) (hs : ∀ x xs i a, P x → g (x :: xs) i a = bif (decide (List.length a + List.length [f x] ≤ rowMax)) then g xs (i + 1) (a ++ [f x]) else none) :
    ∀ (xs : List α) (i : Int) (a : List β), a.length + xs.length ≤ 1000 → (∀ x ∈ xs, P x) → g xs i a = k (a ++ xs.map f)
  | [], i, a, _, _ => by rw [h0]; simp
  | x :: xs, i, a, h, hp => by
    simp only [List.length_cons] at h
    rw [hs x xs i a (hp x (by simp)), decide_eq_true (show List.length a + List.length [f x] ≤ rowMax by simp [rowMax]; omega), cond_true, push_loop_i g f k P h0 hs xs _ _ (by simp; omega) (fun y hy => hp y (List.mem_cons_of_mem _ hy))]
    simp
theorem chan_new {x : Ch} (h : channel_Check.t x = 0) : (channel_New.t x).2 = 0 := by unfold channel_New.t; rw [h]; rfl
theorem rchan_new {x : Ch} (h : channel_Check.t x = 0) : (ref18_New.t x).2 = 0 := by
  unfold ref18_New.t
  rw [← chan_eq, h]
  show (bif (x.1 == 1) then _ else _ : _ × Int).2 = 0
  cases (x.1 == 1) <;> rfl
theorem bar_new {x : Bc} (h : barrier_Check.t x = 0) : barrier_New.t x = ((x, (((List.replicate 4 0), ((List.replicate 4 0), ())), (0, ()))), 0) := by unfold barrier_New.t; rw [h]; rfl
theorem rbar_new {x : Bc} (h : barrier_Check.t x = 0) : ref22_New.t x = ((x, (([], ([], ())), (0, ()))), 0) := by unfold ref22_New.t; rw [← bar_eq, h]; rfl
theorem chan_alike {x : Ch} (h : channel_Check.t x = 0) : (channel_New.t x).1 = (ref18_New.t x).1 := by
  have hk : 0 ≤ x.1 ∧ x.1 ≤ 3 := by
    unfold channel_Check.t at h
    by_cases h1 : x.1 < 0
    · simp [h1] at h
    · by_cases h2 : x.1 > 3
      · simp [h1, h2] at h
      · omega
  obtain ⟨k, r⟩ := x
  have hk : 0 ≤ k ∧ k ≤ 3 := hk
  unfold channel_New.t ref18_New.t
  rw [← chan_eq, h]
  have : k = 0 ∨ k = 1 ∨ k = 2 ∨ k = 3 := by omega
  rcases this with rfl | rfl | rfl | rfl <;> (show _ = _; kernel_rfl)
theorem chantab_new {l : List Ch} (hl : l.length ≤ 8) (h : ∀ x ∈ l, channel_Check.t x = 0) : chantab_New.u l = some (l.map (fun x => (channel_New.t x).1), 0, 0) ∧ ref19_New.u l = some (l.map (fun x => (channel_New.t x).1), 0, 0) := by
  unfold chantab_New.u chantab_New.w ref19_New.u ref19_New.w
  rw [decide_eq_false (show ¬ ((List.length l : Nat) : Int) > 8 by omega), cond_false, cond_false, dec_len hl (by omega), cond_true, cond_true]
  constructor
  · rw [push_loop_i (chantab_New.g0 l some) (fun x => (channel_New.t x).1) (fun a => some (a, 0, 0)) (fun x => channel_Check.t x = 0) (fun _ _ => rfl) (fun x xs i a hx => ?_) l 0 [] (by simp; omega) h]
    · rfl
    · show (bif ((channel_New.t x).2 != 0) then _ else _) = _
      rw [chan_new hx]; rfl
  · rw [push_loop_i (ref19_New.g0 l some) (fun x => (channel_New.t x).1) (fun a => some (a, 0, 0)) (fun x => channel_Check.t x = 0) (fun _ _ => rfl) (fun x xs i a hx => ?_) l 0 [] (by simp; omega) h]
    · rfl
    · show (bif ((ref18_New.t x).2 != 0) then _ else _) = _
      rw [rchan_new hx, chan_alike hx]; rfl
theorem bartab_new {l : List Bc} (hl : l.length ≤ 8) (h : ∀ x ∈ l, barrier_Check.t x = 0) : bartab_New.u l = some (l.map (fun x => (x, (((List.replicate 4 0), ((List.replicate 4 0), ())), (0, ())))), 0, 0) ∧ ref23_New.u l = some (l.map (fun x => (x, (([], ([], ())), (0, ())))), 0, 0) := by
  unfold bartab_New.u bartab_New.w ref23_New.u ref23_New.w
  rw [decide_eq_false (show ¬ ((List.length l : Nat) : Int) > 8 by omega), cond_false, cond_false, dec_len hl (by omega), cond_true, cond_true]
  constructor
  · rw [push_loop_i (bartab_New.g0 l some) (fun x => (x, (((List.replicate 4 0), ((List.replicate 4 0), ())), (0, ())))) (fun a => some (a, 0, 0)) (fun x => barrier_Check.t x = 0) (fun _ _ => rfl) (fun x xs i a hx => ?_) l 0 [] (by simp; omega) h]
    · rfl
    · show (bif ((barrier_New.t x).2 != 0) then _ else bif (decide (List.length a + List.length [(barrier_New.t x).1] ≤ rowMax)) then bartab_New.g0 l some xs (i + 1) (a ++ [(barrier_New.t x).1]) else none) = _
      rw [bar_new hx]; rfl
  · rw [push_loop_i (ref23_New.g0 l some) (fun x => (x, (([], ([], ())), (0, ())))) (fun a => some (a, 0, 0)) (fun x => barrier_Check.t x = 0) (fun _ _ => rfl) (fun x xs i a hx => ?_) l 0 [] (by simp; omega) h]
    · rfl
    · show (bif ((ref22_New.t x).2 != 0) then _ else bif (decide (List.length a + List.length [(ref22_New.t x).1] ≤ rowMax)) then ref23_New.g0 l some xs (i + 1) (a ++ [(ref22_New.t x).1]) else none) = _
      rw [rbar_new hx]; rfl
theorem from19 {l : List _} (hl : l.length ≤ 1000) : law19_From.u l = some l := by
  unfold law19_From.u law19_From.w
  rw [dec_len hl (by omega), cond_true, push_loop (law19_From.g0 l some) law18_From.t some (fun _ => rfl) (fun x xs a => rfl) l [] (by simpa using hl)]
  have : (fun x => law18_From.t x) = id := by funext x; rfl
  show some ([] ++ l.map (fun x => law18_From.t x)) = _
  rw [this]; simp
theorem from31 {l : List _} (hl : l.length ≤ 1000) : law31_From.u l = some l := by
  unfold law31_From.u law31_From.w
  rw [dec_len hl (by omega), cond_true, push_loop (law31_From.g0 l some) id some (fun _ => rfl) (fun x xs a => rfl) l [] (by simpa using hl)]
  simp
def wd (s : List Int) (i : Nat) : Nat := (s.getD i 0).toNat
def bit (s : List Int) (j : Nat) : Bool := (wd s (j / 64)).testBit (j % 64)
structure SetOK (s : List Int) : Prop where
  len : s.length = 4
  lo : ∀ i, 0 ≤ s.getD i 0
  hi : ∀ i, s.getD i 0 < 18446744073709551616
theorem SetOK.wd {s : List Int} (h : SetOK s) (i : Nat) : s.getD i 0 = (wd s i : Int) ∧ wd s i < 18446744073709551616 := by
  have h1 := h.lo i
  have h2 := h.hi i
  unfold K.wd
  omega
theorem ctz_bits {x : Nat} (h0 : 0 < x) (h1 : x < 18446744073709551616) : Lib.ctz 64 x < 64 ∧ x.testBit (Lib.ctz 64 x) = true ∧ ∀ i, i < Lib.ctz 64 x → x.testBit i = false := by
  obtain ⟨m, hm, ht⟩ := Lib.ctzFrom_spec 64 x h0 h1
  have e : Lib.ctz 64 x = Lib.ctzFrom 64 x := by unfold Lib.ctz; rw [if_neg (by omega)]
  rw [e]
  refine ⟨ht, ?_, fun i hi => ?_⟩
  · rw [hm]
    have : Lib.ctzFrom 64 (2 ^ Lib.ctzFrom 64 x * (2 * m + 1)) = Lib.ctzFrom 64 x := by rw [← hm]
    rw [this, Nat.testBit_two_pow_mul]
    simp
  · have h2 := congrArg (fun y => y.testBit i) hm
    simp only [Nat.testBit_two_pow_mul] at h2
    rw [h2]
    simp; omega
theorem mask_eq {w r : Nat} (hw : w < 18446744073709551616) (hr : r < 64) : IntKind.wrap .u64 ((Int.fdiv (w : Int) (2 ^ (min (Int.toNat (r : Int)) (IntKind.bits .u64)))) * (2 ^ (min (Int.toNat (r : Int)) (IntKind.bits .u64)))) = ((2 ^ r * (w / 2 ^ r) : Nat) : Int) := by
  have e : min (Int.toNat (r : Int)) (IntKind.bits .u64) = r := by
    show min _ 64 = r
    omega
  rw [e]
  have e2 : ((2 : Int) ^ r) = ((2 ^ r : Nat) : Int) := by simp
  rw [e2]
  have e3 : Int.fdiv (w : Int) ((2 ^ r : Nat) : Int) = ((w / 2 ^ r : Nat) : Int) := by
    rw [Int.fdiv_eq_ediv_of_nonneg _ (Int.natCast_nonneg _)]; exact (Int.natCast_ediv _ _).symm
  rw [e3, ← Int.natCast_mul, IntKind.wrap_u64]
  have := Nat.div_mul_le_self w (2 ^ r)
  rw [Nat.mul_comm (2 ^ r)]
  omega
theorem mask_bit (w r i : Nat) : (2 ^ r * (w / 2 ^ r)).testBit i = (decide (r ≤ i) && w.testBit i) := by
  rw [Nat.testBit_two_pow_mul, Nat.testBit_div_two_pow]
  by_cases h : r ≤ i
  · simp [h, show i - r + r = i by omega, show r + (i - r) = i by omega]
  · simp [h]
structure NextIs (s : List Int) (n : Nat) (r : Int × Bool) : Prop where
  yes : r.2 = true → ∃ j : Nat, r.1 = j ∧ n ≤ j ∧ j < 256 ∧ bit s j = true ∧ ∀ i, n ≤ i → i < j → bit s i = false
  no : r.2 = false → r.1 = 0 ∧ ∀ i, n ≤ i → i < 256 → bit s i = false
theorem tz_u {x : Nat} (h : x < 18446744073709551616) : math_bits_TrailingZeros64.u (x : Int) = some ((Lib.ctz 64 x : Nat) : Int) := by
  unfold math_bits_TrailingZeros64.u
  rw [decide_eq_true (by omega), decide_eq_true (by omega)]
  rfl
theorem next_g {s : List Int} (hs : SetOK s) {n : Nat} (hn : n ≤ 256) : ∀ (d i : Nat), i + d = 4 → n / 64 ≤ i → (∀ j, n ≤ j → j < 64 * i → bit s j = false) → ∃ r, bitset_Next.g0 (n : Int) s some d (i : Int) = some r ∧ NextIs s n r
  | 0, i, hi, _, hb => by
    refine ⟨(0, false), rfl, ⟨fun h => (by cases h), fun _ => ⟨rfl, fun j h1 h2 => hb j h1 (by omega)⟩⟩⟩
  | d + 1, i, hi, hq, hb => by
    obtain ⟨hw, hw2⟩ := hs.wd i
    have eq : (IntKind.wrap .i64 (Int.tdiv (n : Int) 64)) = ((n / 64 : Nat) : Int) := by
      rw [show Int.tdiv (n : Int) 64 = ((n / 64 : Nat) : Int) from rfl, wrapN (by omega)]
    have er : Int.tmod (n : Int) 64 = ((n % 64 : Nat) : Int) := rfl
    obtain ⟨m, hm, hm2, hmb⟩ : ∃ m : Nat, ((bif ((i : Int) == (IntKind.wrap .i64 (Int.tdiv (n : Int) 64))) then (bif (decide ((0 : Int) ≤ (Int.tmod (n : Int) 64))) then (let v1 : Int := (Int.fdiv (List.getD s (Int.toNat (i : Int)) 0) (2 ^ (min (Int.toNat (Int.tmod (n : Int) 64)) (IntKind.bits .u64)))); (bif (decide ((0 : Int) ≤ (Int.tmod (n : Int) 64))) then some ((IntKind.wrap .u64 (v1 * (2 ^ (min (Int.toNat (Int.tmod (n : Int) 64)) (IntKind.bits .u64))))), ()) else none)) else none) else some ((List.getD s (Int.toNat (i : Int)) 0), ())) : Option (Int × Unit)) = some ((m : Int), ()) ∧ m < 18446744073709551616 ∧ ∀ t, t < 64 → m.testBit t = (decide (n ≤ 64 * i + t) && (wd s i).testBit t) := by
      rw [eq, er, Int.toNat_natCast]
      by_cases h : i = n / 64
      · rw [show ((i : Int) == ((n / 64 : Nat) : Int)) = true by rw [h]; simp, cond_true, decide_eq_true (Int.natCast_nonneg _), cond_true, hw]
        refine ⟨2 ^ (n % 64) * (wd s i / 2 ^ (n % 64)), ?_, ?_, fun t ht => ?_⟩
        · show some (IntKind.wrap .u64 _, ()) = _
          rw [mask_eq hw2 (by omega)]
        · have := Nat.div_mul_le_self (wd s i) (2 ^ (n % 64))
          rw [Nat.mul_comm]
          omega
        · rw [mask_bit]
          congr 1
          by_cases h3 : n % 64 ≤ t
          · rw [decide_eq_true h3, decide_eq_true (by omega)]
          · rw [decide_eq_false h3, decide_eq_false (by omega)]
      · rw [show ((i : Int) == ((n / 64 : Nat) : Int)) = false by simp; omega, cond_false, hw]
        exact ⟨wd s i, rfl, hw2, fun t ht => by rw [decide_eq_true (by omega)]; rfl⟩
    unfold bitset_Next.g0
    rw [idxOK_nat (by omega), cond_true, hm, Option.bind_some]
    have bit_at : ∀ t, t < 64 → bit s (64 * i + t) = (wd s i).testBit t := fun t ht => by
      unfold bit
      rw [show (64 * i + t) / 64 = i by omega, show (64 * i + t) % 64 = t by omega]
    by_cases h0 : m = 0
    · rw [show ((((m : Int), ()) : Int × Unit).1 != 0) = false by simp [h0], cond_false]
      have := next_g hs hn d (i + 1) (by omega) (by omega) fun j h1 h2 => by
        by_cases h3 : j < 64 * i
        · exact hb j h1 h3
        · have h4 := hmb (j - 64 * i) (by omega)
          rw [h0, Nat.zero_testBit, show 64 * i + (j - 64 * i) = j by omega, decide_eq_true h1, Bool.true_and, ← bit_at _ (by omega), show 64 * i + (j - 64 * i) = j by omega] at h4
          exact h4.symm
      rw [show (((i + 1 : Nat)) : Int) = (i : Int) + 1 by omega] at this
      exact this
    · rw [show ((((m : Int), ()) : Int × Unit).1 != 0) = true by simp [h0], cond_true]
      obtain ⟨c1, c2, c3⟩ := ctz_bits (Nat.pos_of_ne_zero h0) hm2
      show ∃ r, ((math_bits_TrailingZeros64.u (m : Int)).bind fun y3 => some ((IntKind.wrap .i64 ((IntKind.wrap .i64 ((i : Int) * 64)) + y3)), true)) = some r ∧ _
      rw [tz_u hm2, Option.bind_some]
      refine ⟨_, rfl, ⟨fun _ => ⟨64 * i + Lib.ctz 64 m, ?_, ?_, by omega, ?_, fun j h1 h2 => ?_⟩, fun h => (by cases h)⟩⟩
      · show IntKind.wrap .i64 (IntKind.wrap .i64 ((i : Int) * 64) + _) = _
        rw [wrapN (x := (i : Int) * 64) (by omega), wrapN (by omega)]
        omega
      · have := hmb _ c1
        rw [c2] at this
        have := (Bool.and_eq_true_iff.1 this.symm).1
        simpa using this
      · have := hmb _ c1
        rw [c2] at this
        rw [bit_at _ c1]
        exact (Bool.and_eq_true_iff.1 this.symm).2
      · by_cases h3 : j < 64 * i
        · exact hb j h1 h3
        · have h4 := hmb (j - 64 * i) (by omega)
          rw [c3 _ (by omega), show 64 * i + (j - 64 * i) = j by omega, decide_eq_true h1, Bool.true_and, ← bit_at _ (by omega), show 64 * i + (j - 64 * i) = j by omega] at h4
          exact h4.symm
theorem next_u {s : List Int} (hs : SetOK s) {n : Nat} (hn : n ≤ 256) : ∃ r, bitset_Next.u s (n : Int) = some r ∧ NextIs s n r := by
  have eq : (IntKind.wrap .i64 (Int.tdiv (n : Int) 64)) = ((n / 64 : Nat) : Int) := by
    rw [show Int.tdiv (n : Int) 64 = ((n / 64 : Nat) : Int) from rfl, wrapN (by omega)]
  unfold bitset_Next.u bitset_Next.w
  rw [if_neg (show ¬ (0 : Int) > (n : Int) by omega), eq, decide_eq_true (Int.natCast_nonneg _), cond_true, show Int.toNat ((4 : Int) - ((n / 64 : Nat) : Int)) = 4 - n / 64 by omega]
  exact next_g hs hn (4 - n / 64) (n / 64) (by omega) (Nat.le_refl _) fun j h1 h2 => by omega
def numsF (s : List Int) (n : Nat) : List Nat := (List.range' n (256 - n)).filter (bit s)
def nums (s : List Int) : List Int := (numsF s 0).map fun j : Nat => (j : Int)
theorem numsF_none {s : List Int} {n : Nat} (h : ∀ i, n ≤ i → i < 256 → bit s i = false) : numsF s n = [] := by
  unfold numsF
  rw [List.filter_eq_nil_iff]
  intro j hj
  rw [List.mem_range'_1] at hj
  rw [h j hj.1 (by omega)]
  simp
theorem numsF_cons {s : List Int} {n j : Nat} (h1 : n ≤ j) (h2 : j < 256) (h3 : bit s j = true) (h4 : ∀ i, n ≤ i → i < j → bit s i = false) : numsF s n = j :: numsF s (j + 1) := by
  unfold numsF
  have e : List.range' n (256 - n) = List.range' n (j - n) ++ (j :: List.range' (j + 1) (256 - (j + 1))) := by
    rw [← List.range'_succ, show 256 - (j + 1) + 1 = 256 - j by omega]
    have := List.range'_append_1 (s := n) (m := j - n) (n := 256 - j)
    rw [show n + (j - n) = j by omega, show j - n + (256 - j) = 256 - n by omega] at this
    exact this.symm
  rw [e, List.filter_append, List.filter_cons_of_pos h3]
  have : (List.range' n (j - n)).filter (bit s) = [] := by
    rw [List.filter_eq_nil_iff]
    intro i hi
    rw [List.mem_range'_1] at hi
    rw [h4 i hi.1 (by omega)]
    simp
  rw [this, List.nil_append]
theorem bits_u {s : List Int} (hs : SetOK s) : ∀ (k n : Nat), n ≤ 256 → 256 - n < k → bitsU k s (n : Int) = some ((numsF s n).map fun j : Nat => (j : Int))
  | 0, _, _, h => by omega
  | k + 1, n, hn, hk => by
    obtain ⟨r, hr, hy, hno⟩ := next_u hs hn
    unfold bitsU
    rw [hr, Option.bind_some]
    cases h2 : r.2 with
    | false =>
      rw [numsF_none (hno h2).2]; rfl
    | true =>
      obtain ⟨j, e1, l1, l2, b1, b2⟩ := hy h2
      rw [cond_true, numsF_cons l1 l2 b1 b2, e1, wrapN (by omega), show (j : Int) + 1 = ((j + 1 : Nat) : Int) by omega, bits_u hs k (j + 1) (by omega) (by omega)]
      rfl
theorem nums_len (s : List Int) : (nums s).length ≤ 256 := by
  unfold nums numsF
  rw [List.length_map]
  have := List.length_filter_le (bit s) (List.range' 0 (256 - 0))
  simpa using this
theorem list_u {s : List Int} (hs : SetOK s) : bitset_List.u s = some (nums s) := by
  unfold bitset_List.u
  have h := bits_u hs 300 0 (by omega) (by omega)
  have hl := nums_len s
  rw [show ((0 : Nat) : Int) = 0 from rfl] at h
  rw [h, Option.bind_some]
  show (bif decide (s.length = 4) && decide ((nums s).length ≤ 4294967296) then some (nums s) else none) = _
  rw [decide_eq_true hs.len, decide_eq_true (by omega)]
  rfl
theorem ofInt_nat {w : Nat} (h : w < 18446744073709551616) : (BitVec.ofInt (IntKind.bits .u64) (w : Int)).toNat = w := by
  show (BitVec.ofInt 64 (w : Int)).toNat = w
  rw [BitVec.ofInt_natCast, BitVec.toNat_ofNat]
  exact Nat.mod_eq_of_lt (by omega)
theorem or_u64 {a b : Nat} (ha : a < 18446744073709551616) (hb : b < 18446744073709551616) : IntKind.wrap .u64 ((BitVec.ofInt (IntKind.bits .u64) (a : Int) ||| BitVec.ofInt (IntKind.bits .u64) (b : Int)).toNat : Int) = ((a ||| b : Nat) : Int) ∧ a ||| b < 18446744073709551616 := by
  have h : a ||| b < 2 ^ 64 := Nat.or_lt_two_pow (by omega) (by omega)
  rw [BitVec.toNat_or, ofInt_nat ha, ofInt_nat hb, IntKind.wrap_u64]
  omega
theorem and_u64 {a b : Nat} (ha : a < 18446744073709551616) (hb : b < 18446744073709551616) : IntKind.wrap .u64 ((BitVec.ofInt (IntKind.bits .u64) (a : Int) &&& BitVec.ofInt (IntKind.bits .u64) (b : Int)).toNat : Int) = ((a &&& b : Nat) : Int) ∧ a &&& b < 18446744073709551616 := by
  have h : a &&& b < 2 ^ 64 := Nat.and_lt_two_pow _ (by omega)
  rw [BitVec.toNat_and, ofInt_nat ha, ofInt_nat hb, IntKind.wrap_u64]
  omega
theorem pow_lt64 {r : Nat} (hr : r < 64) : (2 : Nat) ^ r < 18446744073709551616 := Nat.lt_of_lt_of_le (Nat.pow_lt_pow_right (by omega) hr) (by decide)
theorem add_u {s : List Int} (hs : SetOK s) {p : Nat} (hp : p < 256) : ∃ s', bitset_Add.u s (p : Int) = some s' ∧ SetOK s' ∧ ∀ j, j < 256 → bit s' j = (bit s j || decide (j = p)) := by
  have eq : (IntKind.wrap .i64 (Int.tdiv (p : Int) 64)) = ((p / 64 : Nat) : Int) := by
    rw [show Int.tdiv (p : Int) 64 = ((p / 64 : Nat) : Int) from rfl, wrapN (by omega)]
  have er : Int.tmod (p : Int) 64 = ((p % 64 : Nat) : Int) := rfl
  have hf : bitset_fine.t (p : Int) = true := by
    unfold bitset_fine.t
    rw [decide_eq_true (show (p : Int) ≥ 0 by omega), cond_true, decide_eq_true (by omega)]
  obtain ⟨hw, hw2⟩ := hs.wd (p / 64)
  have hpw := pow_lt64 (show p % 64 < 64 by omega)
  have e1 : IntKind.wrap .u64 ((1 : Int) * (2 ^ (min (Int.toNat ((p % 64 : Nat) : Int)) (IntKind.bits .u64)))) = ((2 ^ (p % 64) : Nat) : Int) := by
    rw [show min (Int.toNat ((p % 64 : Nat) : Int)) (IntKind.bits .u64) = p % 64 by show min _ 64 = _; omega, Int.one_mul, show ((2 : Int) ^ (p % 64)) = ((2 ^ (p % 64) : Nat) : Int) by simp, IntKind.wrap_u64]
    generalize (2 : Nat) ^ (p % 64) = z at hpw ⊢
    omega
  obtain ⟨o1, o2⟩ := or_u64 hw2 hpw
  unfold bitset_Add.u bitset_Add.s
  rw [hf, cond_true, eq, idxOK_nat (by omega), cond_true, er, decide_eq_true (Int.natCast_nonneg _), cond_true, e1, Int.toNat_natCast, hw]
  show ∃ s', some (List.set s (p / 64) _) = some s' ∧ _
  rw [o1]
  have get : ∀ i, (List.set s (p / 64) ((wd s (p / 64) ||| 2 ^ (p % 64) : Nat) : Int)).getD i 0 = if i = p / 64 then ((wd s (p / 64) ||| 2 ^ (p % 64) : Nat) : Int) else s.getD i 0 := fun i => by
    simp only [List.getD_eq_getElem?_getD, List.getElem?_set]
    by_cases h : p / 64 = i
    · subst h
      rw [if_pos rfl, if_pos (by rw [hs.len]; omega), if_pos rfl]; rfl
    · rw [if_neg h, if_neg (Ne.symm h)]
  refine ⟨_, rfl, ⟨by rw [List.length_set]; exact hs.len, fun i => ?_, fun i => ?_⟩, fun j hj => ?_⟩
  · rw [get]; split
    · exact Int.natCast_nonneg _
    · exact hs.lo i
  · rw [get]; split
    · omega
    · exact hs.hi i
  · have hb : bit (List.set s (p / 64) ((wd s (p / 64) ||| 2 ^ (p % 64) : Nat) : Int)) j = ((List.getD (List.set s (p / 64) ((wd s (p / 64) ||| 2 ^ (p % 64) : Nat) : Int)) (j / 64) 0).toNat).testBit (j % 64) := rfl
    rw [hb, get]
    unfold bit
    by_cases h : j / 64 = p / 64
    · rw [if_pos h, Int.toNat_natCast, Nat.testBit_or, Nat.testBit_two_pow, h]
      congr 1
      rw [Bool.eq_iff_iff, decide_eq_true_iff, decide_eq_true_iff]
      omega
    · rw [if_neg h, decide_eq_false (show ¬ j = p by intro e; exact h (by rw [e])), Bool.or_false]; rfl
theorem has_u {s : List Int} (hs : SetOK s) {p : Nat} (hp : p < 256) : bitset_Has.u s (p : Int) = some (bit s p) := by
  have eq : (IntKind.wrap .i64 (Int.tdiv (p : Int) 64)) = ((p / 64 : Nat) : Int) := by
    rw [show Int.tdiv (p : Int) 64 = ((p / 64 : Nat) : Int) from rfl, wrapN (by omega)]
  have er : Int.tmod (p : Int) 64 = ((p % 64 : Nat) : Int) := rfl
  have hf : bitset_fine.t (p : Int) = true := by
    unfold bitset_fine.t
    rw [decide_eq_true (show (p : Int) ≥ 0 by omega), cond_true, decide_eq_true (by omega)]
  obtain ⟨hw, hw2⟩ := hs.wd (p / 64)
  have e3 : Int.fdiv ((wd s (p / 64) : Nat) : Int) (2 ^ (min (Int.toNat ((p % 64 : Nat) : Int)) (IntKind.bits .u64))) = ((wd s (p / 64) / 2 ^ (p % 64) : Nat) : Int) := by
    rw [show min (Int.toNat ((p % 64 : Nat) : Int)) (IntKind.bits .u64) = p % 64 by show min _ 64 = _; omega, show ((2 : Int) ^ (p % 64)) = ((2 ^ (p % 64) : Nat) : Int) by simp, Int.fdiv_eq_ediv_of_nonneg _ (Int.natCast_nonneg _)]
    exact (Int.natCast_ediv _ _).symm
  have hd : wd s (p / 64) / 2 ^ (p % 64) < 18446744073709551616 := Nat.lt_of_le_of_lt (Nat.div_le_self _ _) hw2
  unfold bitset_Has.u bitset_Has.s
  rw [hf, cond_true, eq, idxOK_nat (by omega), cond_true, er, decide_eq_true (Int.natCast_nonneg _), cond_true, Int.toNat_natCast, hw, e3]
  show some (IntKind.wrap .u64 ((BitVec.ofInt (IntKind.bits .u64) ((wd s (p / 64) / 2 ^ (p % 64) : Nat) : Int) &&& BitVec.ofInt (IntKind.bits .u64) ((1 : Nat) : Int)).toNat : Int) == 1) = _
  rw [(and_u64 hd (by omega)).1]
  unfold bit
  congr 1
  rw [Nat.testBit, Nat.shiftRight_eq_div_pow, Nat.and_comm]
  have : 1 &&& (wd s (p / 64) / 2 ^ (p % 64)) = (wd s (p / 64) / 2 ^ (p % 64)) % 2 := by rw [Nat.and_comm]; exact Nat.and_one_is_mod _
  rw [this]
  have h2 := Nat.mod_two_eq_zero_or_one (wd s (p / 64) / 2 ^ (p % 64))
  rcases h2 with h2 | h2 <;> rw [h2] <;> rfl
def andn (x y : Nat) : Nat := (BitVec.ofInt (IntKind.bits .u64) (x : Int) &&& ~~~BitVec.ofInt (IntKind.bits .u64) (y : Int)).toNat
theorem andn_lt (x y : Nat) : andn x y < 18446744073709551616 := (BitVec.ofInt (IntKind.bits .u64) (x : Int) &&& ~~~BitVec.ofInt (IntKind.bits .u64) (y : Int)).isLt
theorem less1 (x y : Nat) : bitset_Less_1.t (x : Int) (y : Int) = ((andn x y : Nat) : Int) := by
  show IntKind.wrap .u64 ((andn x y : Nat) : Int) = _
  have := andn_lt x y
  rw [IntKind.wrap_u64]
  omega
theorem andn_bit {x y : Nat} (hx : x < 18446744073709551616) (hy : y < 18446744073709551616) {i : Nat} (hi : i < 64) : (andn x y).testBit i = (x.testBit i && !y.testBit i) := by
  unfold andn
  have ex : (BitVec.ofInt (IntKind.bits .u64) (x : Int)).getLsbD i = x.testBit i := by rw [BitVec.getLsbD, ofInt_nat hx]
  have ey : (BitVec.ofInt (IntKind.bits .u64) (y : Int)).getLsbD i = y.testBit i := by rw [BitVec.getLsbD, ofInt_nat hy]
  have h : (BitVec.ofInt (IntKind.bits .u64) (x : Int) &&& ~~~BitVec.ofInt (IntKind.bits .u64) (y : Int)).getLsbD i = (x.testBit i && !y.testBit i) := by
    rw [BitVec.getLsbD_and, BitVec.getLsbD_not, ex, ey]
    show (_ && (decide (i < 64) && _)) = _
    rw [decide_eq_true hi, Bool.true_and]
  exact h
theorem bits_zero {x : Nat} (hx : x < 18446744073709551616) (h : ∀ i, i < 64 → x.testBit i = false) : x = 0 := by
  apply Nat.eq_of_testBit_eq
  intro i
  rw [Nat.zero_testBit]
  by_cases hi : i < 64
  · exact h i hi
  · exact Nat.testBit_lt_two_pow (Nat.lt_of_lt_of_le hx (by
      have : 2 ^ 64 ≤ 2 ^ i := Nat.pow_le_pow_right (by omega) (by omega)
      exact this))
theorem sub_u {s t : List Int} (hs : SetOK s) (ht : SetOK t) : ∃ b, bitset_Sub.u s t = some b ∧ (b = true ↔ ∀ j, j < 256 → bit s j = true → bit t j = true) := by
  obtain ⟨a0, a1, a2, a3, rfl⟩ : ∃ a b c d, s = [a, b, c, d] := by
    match s, hs.len with
    | [a, b, c, d], _ => exact ⟨a, b, c, d, rfl⟩
  obtain ⟨b0, b1, b2, b3, rfl⟩ : ∃ a b c d, t = [a, b, c, d] := by
    match t, ht.len with
    | [a, b, c, d], _ => exact ⟨a, b, c, d, rfl⟩
  have e : bitset_Sub.u [a0, a1, a2, a3] [b0, b1, b2, b3] = some (bitset_Less_1.t a0 b0 == 0 && (bitset_Less_1.t a1 b1 == 0 && (bitset_Less_1.t a2 b2 == 0 && (bitset_Less_1.t a3 b3 == 0 && true)))) := by kernel_rfl
  refine ⟨_, e, ?_⟩
  have word : ∀ i, i < 4 → ((bitset_Less_1.t ([a0, a1, a2, a3].getD i 0) ([b0, b1, b2, b3].getD i 0) == 0) = true ↔ ∀ r, r < 64 → bit [a0, a1, a2, a3] (64 * i + r) = true → bit [b0, b1, b2, b3] (64 * i + r) = true) := fun i hi => by
    obtain ⟨w1, w2⟩ := hs.wd i
    obtain ⟨v1, v2⟩ := ht.wd i
    rw [w1, v1, less1]
    have at_ : ∀ (q : List Int) r, r < 64 → bit q (64 * i + r) = (wd q i).testBit r := fun q r hr => by
      unfold bit
      rw [show (64 * i + r) / 64 = i by omega, show (64 * i + r) % 64 = r by omega]
    constructor
    · intro h r hr hb
      rw [at_ _ _ hr] at hb ⊢
      have h0 : andn (wd [a0, a1, a2, a3] i) (wd [b0, b1, b2, b3] i) = 0 := by
        have := of_decide_eq_true (show decide (((andn (wd [a0, a1, a2, a3] i) (wd [b0, b1, b2, b3] i) : Nat) : Int) = 0) = true by simpa using h)
        omega
      have := andn_bit w2 v2 hr
      rw [h0, Nat.zero_testBit, hb, Bool.true_and] at this
      simpa using this.symm
    · intro h
      have h0 : andn (wd [a0, a1, a2, a3] i) (wd [b0, b1, b2, b3] i) = 0 := bits_zero (andn_lt _ _) fun r hr => by
        rw [andn_bit w2 v2 hr]
        cases hb : (wd [a0, a1, a2, a3] i).testBit r with
        | false => rfl
        | true =>
          have := h r hr (by rw [at_ _ _ hr]; exact hb)
          rw [at_ _ _ hr] at this
          rw [this]; rfl
      rw [h0]; rfl
  have w0 := word 0 (by omega)
  have w1 := word 1 (by omega)
  have w2 := word 2 (by omega)
  have w3 := word 3 (by omega)
  simp only [Bool.and_eq_true, Bool.and_true]
  constructor
  · rintro ⟨h0, h1, h2, h3⟩ j hj hb
    have k : j / 64 = 0 ∨ j / 64 = 1 ∨ j / 64 = 2 ∨ j / 64 = 3 := by omega
    have ej : j = 64 * (j / 64) + j % 64 := by omega
    rcases k with k | k | k | k <;> rw [k] at ej <;> rw [ej] at hb ⊢
    · exact w0.1 h0 _ (by omega) hb
    · exact w1.1 h1 _ (by omega) hb
    · exact w2.1 h2 _ (by omega) hb
    · exact w3.1 h3 _ (by omega) hb
  · intro h
    exact ⟨w0.2 fun r hr hb => h _ (by omega) hb, w1.2 fun r hr hb => h _ (by omega) hb, w2.2 fun r hr hb => h _ (by omega) hb, w3.2 fun r hr hb => h _ (by omega) hb⟩
abbrev Gd : Type := Int × (Int × (Int × (Int × (Int × Unit))))
abbrev Pr : Type := Int × (Bool × (Int × (Fr × (Int × (Int × (Int × (List Gd × Unit)))))))
def fr0 : Fr := (0, (false, ((List.replicate 8 0), ((List.replicate 16 0), (0, ((List.replicate 8 0), ()))))))
def frN (a : Int) : Fr := (0, (false, ((List.set (List.replicate 8 0) 0 a), ((List.replicate 16 0), (0, ((List.replicate 8 0), ()))))))
def pr0 : Pr := (0, (false, (0, (fr0, (0, (0, (0, ([], ()))))))))
def prN (s : Sta) : Pr := (1, (true, (s.1, (frN s.2.1, (0, (0, (0, ([], ()))))))))
def tabP (l : List Sta) : List Pr := l.map prN ++ List.replicate (16 - l.length) pr0
theorem frN_ok (a : Int) : FrOK (frN a) := ⟨rfl, rfl, rfl⟩
theorem frN_fine {a : Int} (h : word_Fine.t a = true) : FrFine (frN a) = true := by
  unfold FrFine frN
  simp only [List.replicate, List.set, List.all_cons, List.all_nil, h, fine0]
  rfl
theorem one0 : proc_one.u pr0 = some true := by kernel_rfl
theorem oneN {s : Sta} (h : word_Fine.t s.2.1 = true) : proc_one.u (prN s) = some true := by
  have e : proc_one.u (prN s) = (frame_Fine.u (frN s.2.1)).bind fun y2 => bif y2 then some (eqI .bool ((0 : Int) == 1) (decide (((List.length ([] : List Gd) : Nat) : Int) > 0))) else some false := rfl
  rw [e, frame_fine (frN_ok _), frN_fine h]
  rfl
theorem fine_g (e : List Pr) (he : e.length = 16) : ∀ xs : List Pr, (∀ x ∈ xs, proc_one.u x = some true) → proc_Fine.g0 e some xs = some true
  | [], _ => by
    show some (((List.length e : Nat) : Int) == 16) = _
    rw [he]; rfl
  | x :: xs, h => by
    show (proc_one.u x).bind _ = _
    rw [h x (by simp)]
    exact fine_g e he xs fun y hy => h y (List.mem_cons_of_mem _ hy)
theorem pfine {T : List Pr} (hl : T.length = 16) (h : ∀ x ∈ T, proc_one.u x = some true) : proc_Fine.u T = some true := by
  unfold proc_Fine.u proc_Fine.w
  rw [dec_len (n := 16) (by omega) (by omega), cond_true]
  exact fine_g T hl T h
theorem tabP_len {l : List Sta} (h : l.length ≤ 16) : (tabP l).length = 16 := by unfold tabP; simp; omega
theorem tabP_mem {l : List Sta} {x : Pr} (h : x ∈ tabP l) : (∃ s ∈ l, x = prN s) ∨ x = pr0 := by
  unfold tabP at h
  rcases List.mem_append.1 h with h | h
  · obtain ⟨s, hs, rfl⟩ := List.mem_map.1 h; exact .inl ⟨s, hs, rfl⟩
  · exact .inr (List.eq_of_mem_replicate h)
theorem tab_fine {l : List Sta} (hl : l.length ≤ 16) (h : ∀ s ∈ l, word_Fine.t s.2.1 = true) : proc_Fine.u (tabP l) = some true :=
  pfine (tabP_len hl) fun x hx => by
    rcases tabP_mem hx with ⟨s, hs, rfl⟩ | rfl
    · exact oneN (h s hs)
    · exact one0
theorem rfine_step {T : List Pr} {d i : Nat} (hi : i < T.length) (h : (∃ s : Sta, word_Fine.t s.2.1 = true ∧ T.getD i pr0 = prN s) ∨ T.getD i pr0 = pr0) : ref31_Fine.g0 T some (d + 1) (i : Int) = ref31_Fine.g0 T some d ((i : Int) + 1) := by
  have e : ∀ x, T.getD i pr0 = x → List.getD T (Int.toNat (i : Int)) (0, (false, (0, ((0, (false, ((List.replicate 8 0), ((List.replicate 16 0), (0, ((List.replicate 8 0), ())))))), (0, (0, (0, ([], ())))))))) = x := fun x hx => hx
  rcases h with ⟨s, hs, hx⟩ | hx
  · have hf : ref13_Fine.u (prN s).2.2.2.1 = some true := by
      show ref13_Fine.u (frN s.2.1) = _
      rw [ref_fine (frN_ok _), frN_fine hs]
    conv => lhs; unfold ref31_Fine.g0
    rw [idxOK_nat hi, cond_true, e _ hx]
    dsimp only
    rw [hf]
    rfl
  · conv => lhs; unfold ref31_Fine.g0
    rw [idxOK_nat hi, cond_true, e _ hx]
    show _ = _
    kernel_rfl
theorem rfine_g {T : List Pr} (hl : T.length = 16) (h : ∀ i, i < 16 → (∃ s : Sta, word_Fine.t s.2.1 = true ∧ T.getD i pr0 = prN s) ∨ T.getD i pr0 = pr0) : ∀ (d i : Nat), i + d = 16 → ref31_Fine.g0 T some d (i : Int) = some true
  | 0, i, _ => rfl
  | d + 1, i, hi => by
    rw [rfine_step (by omega) (h i (by omega))]
    have := rfine_g hl h d (i + 1) (by omega)
    rw [show ((i + 1 : Nat) : Int) = (i : Int) + 1 by omega] at this
    exact this
theorem tabP_at {l : List Sta} (h : ∀ s ∈ l, word_Fine.t s.2.1 = true) (i : Nat) : (∃ s : Sta, word_Fine.t s.2.1 = true ∧ (tabP l).getD i pr0 = prN s) ∨ (tabP l).getD i pr0 = pr0 := by
  rw [List.getD_eq_getElem?_getD]
  cases hx : (tabP l)[i]? with
  | none => exact .inr rfl
  | some x =>
    rcases tabP_mem (List.mem_of_getElem? hx) with ⟨s, hs, rfl⟩ | rfl
    · exact .inl ⟨s, h s hs, rfl⟩
    · exact .inr rfl
theorem tab_rfine {l : List Sta} (hl : l.length ≤ 16) (h : ∀ s ∈ l, word_Fine.t s.2.1 = true) : ref31_Fine.u (tabP l) = some true := by
  unfold ref31_Fine.u ref31_Fine.w
  rw [show (((List.length (tabP l) : Nat) : Int) != 16) = false by rw [tabP_len hl]; rfl, cond_false]
  exact rfine_g (tabP_len hl) (fun i _ => tabP_at h i) 16 0 rfl
theorem copyL_all {α : Type} {xs ys : List α} (h : xs.length = ys.length) : copyL xs ys = ys := by
  unfold copyL
  rw [h, List.take_length, ← h, List.drop_length, List.append_nil]
theorem with_u {T : List Pr} (hl : T.length = 16) {i : Nat} (hi : i < 16) (x : Pr) : proc_with.u T (i : Int) x = some (T.set i x) := by
  unfold proc_with.u proc_with.s
  rw [copyL_all (by simp), idxOK_nat (by omega), hl]
  rfl
theorem put_u {T : List Pr} (hl : T.length = 16) {i : Nat} (hi : i < 16) (x : Pr) : ref31_Put.u T (i : Int) x = some (T.set i x) := by
  unfold ref31_Put.u ref31_Put.s
  rw [idxOK_nat (by omega), decide_eq_true (show List.length T ≤ rowMax by rw [hl]; decide)]
  rfl
theorem tabP_set {l : List Sta} {s : Sta} (hl : l.length < 16) : (tabP l).set l.length (prN s) = tabP (l ++ [s]) := by
  unfold tabP
  rw [show 16 - l.length = (16 - (l ++ [s]).length) + 1 by simp; omega, List.replicate_succ, List.set_append_right _ _ (by simp)]
  simp
theorem new_fr {a : Int} (h : word_Fine.t a = true) : frame_New.t a = (frN a, 0) ∧ ref13_New.t a = (frN a, 0) := by
  unfold frame_New.t ref13_New.t
  rw [fine_eq, h]
  exact ⟨rfl, rfl⟩
theorem make_ok {i : Nat} (hi : i < 16) : ∃ h, handle_Make.t (i : Int) (IntKind.wrap .i64 ((0 : Int) + 1)) = (h, 0) := by
  have key : (handle_Make.t (i : Int) (IntKind.wrap .i64 ((0 : Int) + 1))).2 = 0 := by
    have : i = 0 ∨ i = 1 ∨ i = 2 ∨ i = 3 ∨ i = 4 ∨ i = 5 ∨ i = 6 ∨ i = 7 ∨ i = 8 ∨ i = 9 ∨ i = 10 ∨ i = 11 ∨ i = 12 ∨ i = 13 ∨ i = 14 ∨ i = 15 := by omega
    rcases this with rfl | rfl | rfl | rfl | rfl | rfl | rfl | rfl | rfl | rfl | rfl | rfl | rfl | rfl | rfl | rfl <;> decide
  exact ⟨(handle_Make.t (i : Int) (IntKind.wrap .i64 ((0 : Int) + 1))).1, Prod.ext rfl key⟩
theorem spawn_skip (T R : List Pr) (p a : Int) : ∀ (l : List Sta) (i : Int), proc_Spawn.g0 T p a some (l.map prN ++ R) i = proc_Spawn.g0 T p a some R (i + (l.length : Nat))
  | [], i => by simp
  | s :: l, i => by
    show proc_Spawn.g0 T p a some (l.map prN ++ R) (i + 1) = _
    rw [spawn_skip T R p a l (i + 1)]
    congr 1
    simp only [List.length_cons]
    omega
theorem spawn_u {l : List Sta} {s : Sta} (hl : l.length < 16) (h : ∀ s ∈ l, word_Fine.t s.2.1 = true) (hs : word_Fine.t s.2.1 = true) : ∃ n, proc_Spawn.u (tabP l) s.1 s.2.1 = some (tabP (l ++ [s]), n, 0) := by
  unfold proc_Spawn.u proc_Spawn.w
  rw [tab_fine (by omega) h, Option.bind_some, hs, dec_len (n := 16) (by rw [tabP_len (by omega)]; omega) (by omega)]
  simp only [Bool.not_true, cond_false, cond_true]
  have e : tabP l = l.map prN ++ (pr0 :: List.replicate (16 - l.length - 1) pr0) := by
    unfold tabP
    rw [← List.replicate_succ, show 16 - l.length - 1 + 1 = 16 - l.length by omega]
  have e2 : proc_Spawn.g0 (tabP l) s.1 s.2.1 some (tabP l) 0 = proc_Spawn.g0 (tabP l) s.1 s.2.1 some (pr0 :: List.replicate (16 - l.length - 1) pr0) ((l.length : Nat) : Int) := by
    conv => lhs; arg 5; rw [e]
    rw [spawn_skip, Int.zero_add]
  rw [e2]
  obtain ⟨n, hn⟩ := make_ok hl
  refine ⟨n, ?_⟩
  conv => lhs; unfold proc_Spawn.g0
  show (bif ((frame_New.t s.2.1).2 != 0) then _ else (proc_with.u (tabP l) ((l.length : Nat) : Int) ((IntKind.wrap .i64 ((0 : Int) + 1)), (true, (s.1, ((frame_New.t s.2.1).1, (0, (0, (0, ([], ())))))))) ).bind fun y6 => some (y6, (handle_Make.t ((l.length : Nat) : Int) (IntKind.wrap .i64 ((0 : Int) + 1))).1, (handle_Make.t ((l.length : Nat) : Int) (IntKind.wrap .i64 ((0 : Int) + 1))).2)) = _
  rw [(new_fr hs).1, hn, with_u (tabP_len (by omega)) hl]
  show some ((tabP l).set l.length (prN s), n, 0) = _
  rw [tabP_set hl]
theorem tabP_lt {l : List Sta} {i : Nat} (hi : i < l.length) : ∃ s ∈ l, (tabP l).getD i pr0 = prN s := by
  unfold tabP
  refine ⟨l[i], List.getElem_mem hi, ?_⟩
  rw [List.getD_eq_getElem?_getD, List.getElem?_append_left (by simpa using hi)]
  simp [hi]
theorem tabP_end {l : List Sta} (hl : l.length < 16) : (tabP l).getD l.length pr0 = pr0 := by
  unfold tabP
  rw [List.getD_eq_getElem?_getD, List.getElem?_append_right (by simp)]
  simp [show 0 < 16 - l.length by omega]
theorem rspawn_skip {l : List Sta} (hl : l.length < 16) (p a : Int) : ∀ (j d : Nat), j ≤ l.length → j + d = 16 → ref31_Spawn.g0 (tabP l) p a some 16 0 = ref31_Spawn.g0 (tabP l) p a some d (j : Int)
  | 0, d, _, hd => by obtain rfl : d = 16 := by omega
                      rfl
  | j + 1, d, hj, hd => by
    rw [rspawn_skip hl p a j (d + 1) (by omega) (by omega)]
    obtain ⟨s, hs, hx⟩ := tabP_lt (l := l) (i := j) (by omega)
    have e : List.getD (tabP l) (Int.toNat (j : Int)) (0, (false, (0, ((0, (false, ((List.replicate 8 0), ((List.replicate 16 0), (0, ((List.replicate 8 0), ())))))), (0, (0, (0, ([], ())))))))) = prN s := hx
    conv => lhs; unfold ref31_Spawn.g0
    rw [idxOK_nat (show j < List.length (tabP l) by rw [tabP_len (by omega)]; omega), cond_true, e]
    show ref31_Spawn.g0 (tabP l) p a some d ((j : Int) + 1) = _
    rw [show ((j + 1 : Nat) : Int) = (j : Int) + 1 by omega]
theorem rspawn_u {l : List Sta} {s : Sta} (hl : l.length < 16) (h : ∀ s ∈ l, word_Fine.t s.2.1 = true) (hs : word_Fine.t s.2.1 = true) : ∃ n, ref31_Spawn.u (tabP l) s.1 s.2.1 = some (tabP (l ++ [s]), n, 0) := by
  unfold ref31_Spawn.u ref31_Spawn.w
  rw [tab_rfine (by omega) h, Option.bind_some, fine_eq, hs]
  simp only [Bool.not_true, cond_false]
  have e2 : ref31_Spawn.g0 (tabP l) s.1 s.2.1 some (Int.toNat ((16 : Int) - 0)) 0 = ref31_Spawn.g0 (tabP l) s.1 s.2.1 some (15 - l.length + 1) ((l.length : Nat) : Int) := rspawn_skip hl s.1 s.2.1 l.length _ (Nat.le_refl _) (by omega)
  rw [e2]
  have e : List.getD (tabP l) (Int.toNat ((l.length : Nat) : Int)) (0, (false, (0, ((0, (false, ((List.replicate 8 0), ((List.replicate 16 0), (0, ((List.replicate 8 0), ())))))), (0, (0, (0, ([], ())))))))) = pr0 := tabP_end hl
  refine ⟨(ref01_Make.t ((l.length : Nat) : Int) (IntKind.wrap .i64 ((0 : Int) + 1))).1, ?_⟩
  conv => lhs; unfold ref31_Spawn.g0
  rw [idxOK_nat (show l.length < List.length (tabP l) by rw [tabP_len (by omega)]; omega), cond_true, cond_true, e]
  show (ref31_Put.u (tabP l) ((l.length : Nat) : Int) ((IntKind.wrap .i64 ((0 : Int) + 1)), (true, (s.1, ((ref13_New.t s.2.1).1, (0, (0, (0, ([], ())))))))) ).bind (fun y9 => some (y9, (ref01_Make.t ((l.length : Nat) : Int) (IntKind.wrap .i64 ((0 : Int) + 1))).1, 0)) = _
  rw [(new_fr hs).2, put_u (tabP_len (by omega)) hl]
  show some ((tabP l).set l.length (prN s), _, 0) = _
  rw [tabP_set hl]
abbrev Rl : Type := (List Int) × ((List Int) × Unit)
abbrev Ba : Type := Bc × (Rl × (Int × Unit))
structure BR (p : Nat) (x y : Ba) : Prop where
  conf : y.1 = x.1
  fine : barrier_Check.t x.1 = 0
  set : SetOK x.2.1.1
  at_ : x.2.1.2.1 = [0, 0, 0, 0]
  ph : x.2.2.1 = 0
  mem : y.2.1.1 = nums x.2.1.1
  ry : y.2.1.2.1 = []
  rph : y.2.2.1 = 0
  lt : ∀ j, j < 256 → bit x.2.1.1 j = true → j < p
theorem zero4_ok : SetOK [0, 0, 0, 0] := ⟨rfl, fun i => (by match i with | 0 => decide | 1 => decide | 2 => decide | 3 => decide | n + 4 => exact Int.le_refl 0), fun i => (by match i with | 0 => decide | 1 => decide | 2 => decide | 3 => decide | n + 4 => exact (by decide : (0 : Int) < 18446744073709551616))⟩
theorem zero4_bit (j : Nat) : bit [0, 0, 0, 0] j = false := by
  unfold bit
  have : wd [0, 0, 0, 0] (j / 64) = 0 := by
    unfold wd
    match j / 64 with | 0 => rfl | 1 => rfl | 2 => rfl | 3 => rfl | n + 4 => rfl
  rw [this, Nat.zero_testBit]
theorem all_ok : SetOK everybodyT := ⟨rfl, fun i => (by match i with | 0 => decide | 1 => decide | 2 => decide | 3 => decide | n + 4 => exact Int.le_refl 0), fun i => (by match i with | 0 => decide | 1 => decide | 2 => decide | 3 => decide | n + 4 => exact (by decide : (0 : Int) < 18446744073709551616))⟩
theorem all_bit {j : Nat} (h : j < 256) : bit everybodyT j = decide (j < 16) := by
  have key : ((List.range 256).all fun j => bit everybodyT j == decide (j < 16)) = true := by kernel_rfl
  rw [List.all_eq_true] at key
  have := key j (List.mem_range.2 h)
  simpa using this
theorem roll_fine {x y : Ba} {p : Nat} (h : BR p x y) (hp : p ≤ 16) : roll_Fine.u x.2.1 = some true := by
  obtain ⟨b1, e1, k1⟩ := sub_u h.set all_ok
  have b1t : b1 = true := k1.2 fun j hj hb => by rw [all_bit hj]; have := h.lt j hj hb; simp; omega
  obtain ⟨b2, e2, k2⟩ := sub_u zero4_ok h.set
  have b2t : b2 = true := k2.2 fun j hj hb => by rw [zero4_bit] at hb; cases hb
  unfold roll_Fine.u roll_Fine.s
  rw [e1, Option.bind_some, b1t, cond_true, h.at_, e2, b2t]
  rfl
theorem bar_fine {x y : Ba} {p : Nat} (h : BR p x y) (hp : p ≤ 16) : barrier_Fine.u x = some true := by
  have hc := h.fine
  have hf : phase_Fine.t x.2.2.1 x.1.2.1 = true := by
    rw [h.ph]
    unfold barrier_Check.t at hc
    cases hq : phase_Fine.t 0 x.1.2.1 with
    | true => rfl
    | false => rw [hq] at hc; cases hc
  unfold barrier_Fine.u barrier_Fine.s
  rw [hf, cond_true, roll_fine h hp]
  rfl
theorem go4 {s t : List Int} (hs : s.length = 4) (ht : t.length = 4) (h : eqI.go (eqI (.int .u64)) 4 s t = true) : s = t := by
  match s, t, hs, ht with
  | [a, b, c, d], [a', b', c', d'], _, _ =>
    have h : ((a == a') && ((b == b') && ((c == c') && ((d == d') && true)))) = true := h
    simp only [Bool.and_eq_true, beq_iff_eq, Bool.and_true] at h
    obtain ⟨rfl, rfl, rfl, rfl⟩ := h
    rfl
theorem asked_u {x y : Ba} {p : Nat} (h : BR p x y) (hp : p < 16) : roll_asked.u x.2.1 (p : Int) = some 0 := by
  unfold roll_asked.u roll_asked.s
  rw [roll_fine h (by omega), Option.bind_some, has_u all_ok (by omega), Option.bind_some, all_bit (by omega), decide_eq_true hp]
  rfl
theorem enrol_x {x y : Ba} {p : Nat} (h : BR p x y) (hp : p < 16) : ∃ s', SetOK s' ∧ (∀ j, j < 256 → bit s' j = (bit x.2.1.1 j || decide (j = p))) ∧ barrier_Enrol.u x (p : Int) = some ((x.1, ((s', x.2.1.2), (x.2.2.1, ()))), 0) := by
  obtain ⟨s', e1, o1, b1⟩ := add_u h.set (p := p) (by omega)
  refine ⟨s', o1, b1, ?_⟩
  have hn : bit x.2.1.1 p = false := by
    cases hb : bit x.2.1.1 p with
    | false => rfl
    | true => have := h.lt p (by omega) hb; omega
  have er : roll_Enrol.u x.2.1 (p : Int) = some ((s', x.2.1.2), 0) := by
    unfold roll_Enrol.u roll_Enrol.s
    rw [asked_u h hp, Option.bind_some, show ((0 : Int) != 0) = false from rfl, cond_false, has_u h.set (by omega), Option.bind_some, hn, cond_false, e1]
    rfl
  unfold barrier_Enrol.u barrier_Enrol.s
  rw [bar_fine h (by omega), Option.bind_some, Bool.not_true, cond_false, er, Option.bind_some]
  show some ((barrier_Bar_with.t x (s', x.2.1.2) 0).1, (barrier_Bar_with.t x (s', x.2.1.2) 0).2) = _
  have hne : barrier_Bar_with.t x (s', x.2.1.2) 0 = ((x.1, ((s', x.2.1.2), (x.2.2.1, ()))), 0) := by
    unfold barrier_Bar_with.t
    rw [show ((0 : Int) != 0) = false from rfl, cond_false]
    dsimp only
    cases hq : eqI E_s155 (x.1, ((s', x.2.1.2), (x.2.2.1, ()))) x with
    | false => rfl
    | true =>
      exfalso
      have h1 : (_ && ((eqI.go (eqI (.int .u64)) 4 s' x.2.1.1 && _) && _)) = true := hq
      simp only [Bool.and_eq_true] at h1
      have h2 := go4 o1.len h.set.len h1.2.1.1
      have h3 := b1 p (by omega)
      rw [decide_eq_true rfl, Bool.or_true, h2, hn] at h3
      cases h3
  rw [hne]
theorem rhas_g (l : List Int) (e : List Int) (p : Int) : ref04_Has.g0 e p some l = some (l.any fun x => x == p) := by
  induction l with
  | nil => rfl
  | cons x l ih =>
    show (bif (x == p) then some true else ref04_Has.g0 e p some l) = _
    rw [ih, List.any_cons]
    cases (x == p) <;> rfl
theorem rhas_u {l : List Int} (hl : l.length ≤ 1000) (p : Int) : ref04_Has.u l p = some (l.any fun x => x == p) := by
  unfold ref04_Has.u ref04_Has.w
  rw [dec_len hl (by omega), cond_true, rhas_g]
theorem any_nums {s : List Int} {p : Nat} (hp : p < 256) : ((nums s).any fun x => x == (p : Int)) = bit s p := by
  rw [Bool.eq_iff_iff, List.any_eq_true]
  unfold nums numsF
  constructor
  · rintro ⟨x, hx, hq⟩
    obtain ⟨j, hj, rfl⟩ := List.mem_map.1 hx
    rw [List.mem_filter] at hj
    have : j = p := by have : (j : Int) = (p : Int) := by simpa using hq
                       omega
    subst this
    exact hj.2
  · intro hb
    refine ⟨(p : Int), List.mem_map.2 ⟨p, List.mem_filter.2 ⟨?_, hb⟩, rfl⟩, by simp⟩
    rw [List.mem_range'_1]; omega
theorem rof_g {e : List Int} (he : e.length ≤ 1000) {f : Nat → Bool} (hf : ∀ j : Nat, j < 256 → (e.any fun x => x == (j : Int)) = f j) : ∀ (d i : Nat) (a : List Int), i + d = 256 → a.length ≤ i → ref04_Of.g0 e some d (i : Int) a = some (a ++ ((List.range' i d).filter f).map fun j : Nat => (j : Int))
  | 0, i, a, _, _ => by show some a = _; simp
  | d + 1, i, a, hi, ha => by
    show ((ref04_Has.u e (i : Int)).bind fun y1 => bif y1 then (bif (decide (List.length a + List.length [(i : Int)] ≤ rowMax)) then ref04_Of.g0 e some d ((i : Int) + 1) (a ++ [(i : Int)]) else none) else ref04_Of.g0 e some d ((i : Int) + 1) a) = _
    rw [rhas_u he, hf i (by omega), Option.bind_some, List.range'_succ, show (i : Int) + 1 = ((i + 1 : Nat) : Int) by omega]
    cases hb : f i with
    | true =>
      rw [cond_true, decide_eq_true (show List.length a + List.length [(i : Int)] ≤ rowMax by simp [rowMax]; omega), cond_true, rof_g he hf d (i + 1) _ (by omega) (by simp; omega), List.filter_cons_of_pos hb]
      simp
    | false =>
      rw [cond_false, rof_g he hf d (i + 1) _ (by omega) (by omega), List.filter_cons_of_neg (by rw [hb]; simp)]
theorem rof_u {e : List Int} (he : e.length ≤ 1000) {f : Nat → Bool} (hf : ∀ j : Nat, j < 256 → (e.any fun x => x == (j : Int)) = f j) : ref04_Of.u e = some (((List.range' 0 256).filter f).map fun j : Nat => (j : Int)) := by
  unfold ref04_Of.u ref04_Of.w
  have := rof_g he hf 256 0 [] (by omega) (by simp)
  exact this
theorem radd_u {s s' : List Int} {p : Nat} (hp : p < 256) (h : ∀ j, j < 256 → bit s' j = (bit s j || decide (j = p))) : ref04_Add.u (nums s) (p : Int) = some (nums s') := by
  have hl := nums_len s
  have e : ref04_Of.u (nums s ++ [(p : Int)]) = some (((List.range' 0 256).filter (bit s')).map fun j : Nat => (j : Int)) := by
    refine rof_u (by simp; omega) fun j hj => ?_
    rw [List.any_append, any_nums hj, h j hj]
    congr 1
    show ((p : Int) == (j : Int) || false) = _
    rw [Bool.or_false, Bool.eq_iff_iff, decide_eq_true_iff, beq_iff_eq]
    omega
  unfold ref04_Add.u ref04_Add.s
  rw [decide_eq_true (show List.length (nums s) ≤ rowMax by simp [rowMax]; omega), decide_eq_true (show List.length (nums s) + List.length [(p : Int)] ≤ rowMax by simp [rowMax]; omega), cond_true, cond_true, e]
  rfl
theorem nums_mem {s : List Int} {x : Int} (h : x ∈ nums s) : ∃ j : Nat, x = j ∧ j < 256 ∧ bit s j = true := by
  unfold nums numsF at h
  obtain ⟨j, hj, rfl⟩ := List.mem_map.1 h
  rw [List.mem_filter, List.mem_range'_1] at hj
  exact ⟨j, rfl, by omega, hj.2⟩
theorem rfine21_g {r : Rl} (hr : r.2.1 = []) (h : ∀ x ∈ r.1, 0 ≤ x ∧ x ≤ 15) (hl : r.1.length ≤ 1000) : ∀ (d i : Nat), i + d = r.1.length → ref21_Fine.g0 r some d (i : Int) = some true
  | 0, i, _ => by
    show (ref04_Less.u r.2.1 r.1).bind _ = _
    rw [hr]; rfl
  | d + 1, i, hi => by
    have hx : 0 ≤ List.getD r.1 i 0 ∧ List.getD r.1 i 0 ≤ 15 := by
      rw [List.getD_eq_getElem?_getD, List.getElem?_eq_getElem (by omega)]
      exact h _ (List.getElem_mem _)
    conv => lhs; unfold ref21_Fine.g0
    rw [idxOK_nat (by omega), cond_true, Int.toNat_natCast, decide_eq_false (by omega), decide_eq_false (show ¬ List.getD r.1 i 0 > 15 by omega)]
    have := rfine21_g hr h hl d (i + 1) (by omega)
    rw [show ((i + 1 : Nat) : Int) = (i : Int) + 1 by omega] at this
    exact this
theorem rfine21_u {x y : Ba} {p : Nat} (h : BR p x y) (hp : p ≤ 16) : ref21_Fine.u y.2.1 = some true := by
  have hl : y.2.1.1.length ≤ 256 := by rw [h.mem]; exact nums_len _
  unfold ref21_Fine.u ref21_Fine.w
  rw [dec_len hl (by omega), cond_true, show Int.toNat (((List.length y.2.1.1 : Nat) : Int) - 0) = y.2.1.1.length by omega]
  refine rfine21_g h.ry (fun z hz => ?_) (by omega) _ 0 (by omega)
  rw [h.mem] at hz
  obtain ⟨j, rfl, h1, h2⟩ := nums_mem hz
  have := h.lt j h1 h2
  omega
theorem enrol_y {x y : Ba} {p : Nat} (h : BR p x y) (hp : p < 16) {s' : List Int} (b1 : ∀ j, j < 256 → bit s' j = (bit x.2.1.1 j || decide (j = p))) : ref22_Enrol.u y (p : Int) = some ((y.1, ((nums s', y.2.1.2), y.2.2)), 0) := by
  have hn : bit x.2.1.1 p = false := by
    cases hb : bit x.2.1.1 p with
    | false => rfl
    | true => have := h.lt p (by omega) hb; omega
  have ea : ref21_asked.u y.2.1 (p : Int) = some 0 := by
    unfold ref21_asked.u ref21_asked.s
    rw [rfine21_u h (by omega), Option.bind_some, decide_eq_false (by omega), decide_eq_false (show ¬ (p : Int) > 15 by omega)]
    rfl
  have er : ref21_Enrol.u y.2.1 (p : Int) = some ((nums s', y.2.1.2), 0) := by
    unfold ref21_Enrol.u ref21_Enrol.s
    have hl := nums_len x.2.1.1
    rw [ea, Option.bind_some, show ((0 : Int) != 0) = false from rfl, cond_false, h.mem, rhas_u (by omega), any_nums (by omega), hn, Option.bind_some, cond_false, radd_u (by omega) b1]
    rfl
  have hf : ref22_Fine.u y = some true := by
    have hc := h.fine
    have hq : ref20_Fine.t y.2.2.1 y.1.2.1 = true := by
      rw [h.rph, h.conf]
      unfold barrier_Check.t at hc
      cases hq : phase_Fine.t 0 x.1.2.1 with
      | true => exact hq
      | false => rw [hq] at hc; cases hc
    unfold ref22_Fine.u ref22_Fine.s
    rw [hq, cond_true, rfine21_u h (by omega)]
    rfl
  unfold ref22_Enrol.u ref22_Enrol.s
  rw [hf, Option.bind_some, Bool.not_true, cond_false, er]
  rfl
theorem enrol_u {x y : Ba} {p : Nat} (h : BR p x y) (hp : p < 16) : ∃ x' y', barrier_Enrol.u x (p : Int) = some (x', 0) ∧ ref22_Enrol.u y (p : Int) = some (y', 0) ∧ BR (p + 1) x' y' := by
  obtain ⟨s', o1, b1, e1⟩ := enrol_x h hp
  refine ⟨_, _, e1, enrol_y h hp b1, ⟨h.conf, h.fine, o1, h.at_, h.ph, rfl, h.ry, h.rph, fun j hj hb => ?_⟩⟩
  have hb : bit s' j = true := hb
  rw [b1 j hj] at hb
  rcases Bool.or_eq_true_iff.1 hb with hb | hb
  · have := h.lt j hj hb; omega
  · have := of_decide_eq_true hb; omega
theorem BR.more {x y : Ba} {p : Nat} (h : BR p x y) : BR (p + 1) x y := ⟨h.conf, h.fine, h.set, h.at_, h.ph, h.mem, h.ry, h.rph, fun j hj hb => by have := h.lt j hj hb; omega⟩
abbrev ba0 : Ba := ((false, (0, ())), (((List.replicate 4 0), ((List.replicate 4 0), ())), (0, ())))
abbrev rba0 : Ba := ((false, (0, ())), (([], ([], ())), (0, ())))
theorem tab_enrol {T : List Ba} {b : Nat} {p : Int} {x' : Ba} (hb : b < T.length) (hT : T.length ≤ 1000) (h : barrier_Enrol.u (T.getD b ba0) p = some (x', 0)) : bartab_Enrol.u T (b : Int) p = some (T.set b x', 0) := by
  unfold bartab_Enrol.u bartab_Enrol.s bartab_change__bartab_Enrol_1.u bartab_change__bartab_Enrol_1.s
  rw [decide_eq_false (show ¬ (b : Int) < 0 by omega), decide_eq_false (show ¬ (b : Int) ≥ ((List.length T : Nat) : Int) by omega), idxOK_nat hb, copyL_all (by simp), idxOK_nat hb]
  have e1 : bartab_Enrol_1.u (T.getD b ba0) p = some (x', 0) := by
    unfold bartab_Enrol_1.u bartab_Enrol_1.s
    rw [h]; rfl
  show ((bartab_Enrol_1.u (T.getD b ba0) p).bind fun y3 => _).bind _ = _
  rw [e1]
  show ((bif (decide (((List.length T : Nat) : Int) = ((List.length T : Nat) : Int)) && decide ((0 : Int) ≤ ((List.length T : Nat) : Int)) && decide (((List.length T : Nat) : Int) ≤ (2147483648 : Int))) then some (T.set b x', (0 : Int)) else none) : Option (List Ba × Int)).bind _ = _
  rw [decide_eq_true rfl, decide_eq_true (Int.natCast_nonneg _), decide_eq_true (show ((List.length T : Nat) : Int) ≤ 2147483648 by omega)]
  rfl
theorem rtab_enrol {T : List Ba} {b : Nat} {p : Int} {x' : Ba} (hb : b < T.length) (hT : T.length ≤ 1000) (h : ref22_Enrol.u (T.getD b rba0) p = some (x', 0)) : ref23_Enrol.u T (b : Int) p = some (T.set b x', 0) := by
  have hi : ref23_is.t T (b : Int) = true := by
    unfold ref23_is.t
    rw [decide_eq_true (show (b : Int) ≥ 0 by omega), cond_true, decide_eq_true (by omega)]
  have hp : ref23_put.u T (b : Int) x' 0 = some (T.set b x', 0) := by
    unfold ref23_put.u ref23_put.s
    rw [show ((0 : Int) != 0) = false from rfl, cond_false, decide_eq_true (show List.length T ≤ rowMax by simp [rowMax]; omega), cond_true, idxOK_nat hb]
    rfl
  unfold ref23_Enrol.u ref23_Enrol.s
  rw [hi, Bool.not_true, cond_false, idxOK_nat hb, cond_true]
  show ((ref22_Enrol.u (T.getD b rba0) p).bind fun y1 => (ref23_put.u T (b : Int) y1.1 y1.2).bind fun y2 => some (y2.1, y2.2)) = _
  rw [h, Option.bind_some, hp]
  rfl
def sbit (n : Int) (b : Int) : Bool := !((IntKind.wrap .i64 (BitVec.ofInt (IntKind.bits .i64) (Int.fdiv n (2 ^ (min (Int.toNat b) (IntKind.bits .i64)))) &&& BitVec.ofInt (IntKind.bits .i64) 1).toNat) == 0)
theorem bits_alike {n b : Nat} (hn : n < 256) (hb : b < 8) : ref36_bit.u (n : Int) (b : Int) = some (sbit (n : Int) (b : Int)) := by
  have key : ((List.range 256).all fun n => (List.range 8).all fun b => ref36_bit.u (n : Int) (b : Int) == some (sbit (n : Int) (b : Int))) = true := by kernel_rfl
  rw [List.all_eq_true] at key
  have k1 := key n (List.mem_range.2 hn)
  rw [List.all_eq_true] at k1
  have k2 := k1 b (List.mem_range.2 hb)
  simpa using k2
structure RelT (p b : Nat) (T T' : List Ba) : Prop where
  len : T'.length = T.length
  at_ : ∀ i, i < T.length → BR (if i < b then p + 1 else p) (T.getD i ba0) (T'.getD i rba0)
theorem getD_set {α : Type} {T : List α} {b i : Nat} {x z : α} (hb : b < T.length) : (T.set b x).getD i z = if i = b then x else T.getD i z := by
  simp only [List.getD_eq_getElem?_getD, List.getElem?_set]
  by_cases h : b = i
  · subst h; rw [if_pos rfl, if_pos hb, if_pos rfl]; rfl
  · rw [if_neg h, if_neg (Ne.symm h)]
theorem RelT.set {p b : Nat} {T T' : List Ba} {x y : Ba} (h : RelT p b T T') (hb : b < T.length) (hx : BR (p + 1) x y) : RelT p (b + 1) (T.set b x) (T'.set b y) := by
  refine ⟨by rw [List.length_set, List.length_set, h.len], fun i hi => ?_⟩
  rw [List.length_set] at hi
  rw [getD_set hb, getD_set (by rw [h.len]; exact hb)]
  by_cases e : i = b
  · subst e
    rw [if_pos rfl, if_pos rfl, if_pos (by omega)]; exact hx
  · rw [if_neg e, if_neg e]
    have := h.at_ i hi
    by_cases e2 : i < b
    · rw [if_pos e2] at this; rw [if_pos (by omega)]; exact this
    · rw [if_neg e2] at this; rw [if_neg (by omega)]; exact this
theorem RelT.skip {p b : Nat} {T T' : List Ba} (h : RelT p b T T') : RelT p (b + 1) T T' := by
  refine ⟨h.len, fun i hi => ?_⟩
  have := h.at_ i hi
  by_cases e2 : i < b
  · rw [if_pos e2] at this; rw [if_pos (by omega)]; exact this
  · rw [if_neg e2] at this
    by_cases e3 : i < b + 1
    · rw [if_pos e3]; exact this.more
    · rw [if_neg e3]; exact this
theorem RelT.next {p b : Nat} {T T' : List Ba} (h : RelT p b T T') (hb : T.length ≤ b) : RelT (p + 1) 0 T T' := ⟨h.len, fun i hi => by
  have := h.at_ i hi
  rw [if_pos (by omega)] at this
  rw [if_neg (by omega)]; exact this⟩
theorem inner {p : Nat} (hp : p < 16) {s : Sta} (hs : 0 ≤ s.2.2.1 ∧ s.2.2.1 < 256) : ∀ (d b : Nat) (T T' : List Ba), b + d = T.length → T.length ≤ 8 → RelT p b T T' → ∃ Tf Tf' : List Ba, Tf.length = T.length ∧ RelT (p + 1) 0 Tf Tf' ∧
    (∀ {Ω : Type} (e1 : List T_s63) (e2 e3 : Int) (e4 : T_s26) (e5 : T_s81) (r : Int × T_s35 → Option Ω) (k : T_s35 × Int → Option Ω) a1 a2 a3 a5, snap_Begin.g0 (p : Int) e1 e2 e3 e4 e5 s r k d (b : Int) (a1, (a2, (a3, (T, a5)))) = r ((p : Int) + 1, (a1, (a2, (a3, (Tf, a5)))))) ∧
    (∀ {Ω : Type} (n : Nat) (c : T_s26) (e : T_s81) (r : Int × T_s44 → Option Ω) (k : T_s44 × Int → Option Ω) a1 a2 a3 a5, d < n → p < c.2.2.2.2.1.length → c.2.2.2.2.1.getD p (0, (0, (0, ()))) = s →
      iter (ref36_Begin.gb0 (p : Int) c e r k) n ((b : Int), (a1, (a2, (a3, (T', a5))))) = r ((p : Int) + 1, (a1, (a2, (a3, (Tf', a5))))))
  | 0, b, T, T', hd, hl, hr => by
    refine ⟨T, T', rfl, hr.next (by omega), fun e1 e2 e3 e4 e5 r k a1 a2 a3 a5 => rfl, fun n c e r k a1 a2 a3 a5 hn hc hs' => ?_⟩
    obtain ⟨n, rfl⟩ : ∃ m, n = m + 1 := ⟨n - 1, by omega⟩
    show (bif (decide ((b : Int) < ((List.length T' : Nat) : Int))) then _ else _) = _
    rw [decide_eq_false (by rw [hr.len]; omega)]
    rfl
  | d + 1, b, T, T', hd, hl, hr => by
    obtain ⟨n0, hn0⟩ := Int.eq_ofNat_of_zero_le hs.1
    have hbit := bits_alike (n := n0) (b := b) (by omega) (by omega)
    rw [← hn0] at hbit
    have hb : b < T.length := by omega
    cases hv : sbit s.2.2.1 (b : Int) with
    | false =>
      obtain ⟨Tf, Tf', q1, q2, q3, q4⟩ := inner hp hs d (b + 1) T T' (by omega) hl hr.skip
      refine ⟨Tf, Tf', q1, q2, fun e1 e2 e3 e4 e5 r k a1 a2 a3 a5 => ?_, fun n c e r k a1 a2 a3 a5 hn hc hs' => ?_⟩
      · rw [← q3 e1 e2 e3 e4 e5 r k a1 a2 a3 a5, show ((b + 1 : Nat) : Int) = (b : Int) + 1 by omega]
        show (bif (decide ((0 : Int) ≤ (b : Int))) then (bif _ then snap_Begin.g0 (p : Int) e1 e2 e3 e4 e5 s r k d ((b : Int) + 1) _ else _) else none) = _
        rw [decide_eq_true (by omega), cond_true]
        have : ((IntKind.wrap .i64 (BitVec.ofInt (IntKind.bits .i64) (Int.fdiv s.2.2.1 (2 ^ (min (Int.toNat (b : Int)) (IntKind.bits .i64)))) &&& BitVec.ofInt (IntKind.bits .i64) 1).toNat) == 0) = true := by
          unfold sbit at hv; simpa using hv
        rw [this, cond_true]
      · obtain ⟨n, rfl⟩ : ∃ m, n = m + 1 := ⟨n - 1, by omega⟩
        rw [← q4 n c e r k a1 a2 a3 a5 (by omega) hc hs']
        show (bif (decide ((b : Int) < ((List.length T' : Nat) : Int))) then (bif (idxOK (p : Int) (List.length c.2.2.2.2.1)) then ((ref36_bit.u ((List.getD c.2.2.2.2.1 (Int.toNat (p : Int)) (0, (0, (0, ())))).2.2.1) (b : Int)).bind fun y6 => bif y6 then _ else iter (ref36_Begin.gb0 (p : Int) c e r k) n ((IntKind.wrap .i64 ((b : Int) + 1)), _)) else none) else _) = _
        rw [decide_eq_true (by rw [hr.len]; omega), cond_true, idxOK_nat hc, cond_true, Int.toNat_natCast, hs', hbit, hv, Option.bind_some, cond_false, wrapN (by omega), show ((b + 1 : Nat) : Int) = (b : Int) + 1 by omega]
    | true =>
      have hBR := hr.at_ b hb
      rw [if_neg (by omega)] at hBR
      obtain ⟨x', y', e1x, e1y, hBR'⟩ := enrol_u hBR hp
      obtain ⟨Tf, Tf', q1, q2, q3, q4⟩ := inner hp hs d (b + 1) (T.set b x') (T'.set b y') (by rw [List.length_set]; omega) (by rw [List.length_set]; exact hl) (hr.set hb hBR')
      rw [List.length_set] at q1
      refine ⟨Tf, Tf', q1, q2, fun e1 e2 e3 e4 e5 r k a1 a2 a3 a5 => ?_, fun n c e r k a1 a2 a3 a5 hn hc hs' => ?_⟩
      · rw [← q3 e1 e2 e3 e4 e5 r k a1 a2 a3 a5, show ((b + 1 : Nat) : Int) = (b : Int) + 1 by omega]
        show (bif (decide ((0 : Int) ≤ (b : Int))) then (bif _ then _ else (bartab_Enrol.u T (b : Int) (p : Int)).bind fun y7 => bif (y7.2 != 0) then _ else snap_Begin.g0 (p : Int) e1 e2 e3 e4 e5 s r k d ((b : Int) + 1) (a1, (a2, (a3, (y7.1, a5))))) else none) = _
        rw [decide_eq_true (by omega), cond_true]
        have : ((IntKind.wrap .i64 (BitVec.ofInt (IntKind.bits .i64) (Int.fdiv s.2.2.1 (2 ^ (min (Int.toNat (b : Int)) (IntKind.bits .i64)))) &&& BitVec.ofInt (IntKind.bits .i64) 1).toNat) == 0) = false := by
          unfold sbit at hv; simpa using hv
        rw [this, cond_false, tab_enrol hb (by omega) e1x, Option.bind_some]
        rfl
      · obtain ⟨n, rfl⟩ : ∃ m, n = m + 1 := ⟨n - 1, by omega⟩
        rw [← q4 n c e r k a1 a2 a3 a5 (by omega) hc hs']
        show (bif (decide ((b : Int) < ((List.length T' : Nat) : Int))) then (bif (idxOK (p : Int) (List.length c.2.2.2.2.1)) then ((ref36_bit.u ((List.getD c.2.2.2.2.1 (Int.toNat (p : Int)) (0, (0, (0, ())))).2.2.1) (b : Int)).bind fun y6 => bif y6 then ((ref23_Enrol.u T' (b : Int) (p : Int)).bind fun y7 => iter (ref36_Begin.gb0 (p : Int) c e r k) n ((IntKind.wrap .i64 ((b : Int) + 1)), (a1, (a2, (a3, (y7.1, a5)))))) else _) else none) else _) = _
        rw [decide_eq_true (by rw [hr.len]; omega), cond_true, idxOK_nat hc, cond_true, Int.toNat_natCast, hs', hbit, hv, Option.bind_some, cond_true, rtab_enrol (by rw [hr.len]; exact hb) (by rw [hr.len]; omega) e1y, Option.bind_some, wrapN (by omega), show ((b + 1 : Nat) : Int) = (b : Int) + 1 by omega]
theorem outer {S : List Sta} (hS : S.length ≤ 16) (hf : ∀ s ∈ S, word_Fine.t s.2.1 = true ∧ 0 ≤ s.2.2.1 ∧ s.2.2.1 < 256) (c : T_s26) (hc : c.2.2.2.2.1 = S) (e1 : List T_s63) (e3 : T_s26) (e4 : T_s81) (e5 : T_s81) : ∀ (xs l : List Sta) (T T' : List Ba), l ++ xs = S → T.length ≤ 8 → RelT l.length 0 T T' → ∃ Tf Tf' : List Ba, Tf.length = T.length ∧ RelT S.length 0 Tf Tf' ∧
    (∀ (k : T_s35 × Int → Option (T_s35 × Int)) a1 a3 a5 a6 a7, snap_Begin.g1 e1 e3 e4 k xs ((l.length : Nat) : Int) (a1, (tabP l, (a3, (T, (a5, (a6, a7)))))) = k ((a1, (tabP S, (a3, (Tf, (a5, ([], a7)))))), 0)) ∧
    (∀ (k : T_s44 × Int → Option (T_s44 × Int)) a1 a3 a5, ref36_Begin.g1 c e5 k xs.length ((l.length : Nat) : Int) (a1, (tabP l, (a3, (T', a5)))) = k ((a1, (tabP S, (a3, (Tf', a5)))), 0))
  | [], l, T, T', hl, hT, hr => by
    obtain rfl : l = S := by simpa using hl
    exact ⟨T, T', rfl, hr, fun k a1 a3 a5 a6 a7 => rfl, fun k a1 a3 a5 => rfl⟩
  | x :: xs, l, T, T', hl, hT, hr => by
    have hx : x ∈ S := by rw [← hl]; simp
    have hlen : l.length < S.length := by rw [← hl]; simp
    have hfl : ∀ s ∈ l, word_Fine.t s.2.1 = true := fun s hs => (hf s (by rw [← hl]; simp [hs])).1
    obtain ⟨n1, s1⟩ := spawn_u (l := l) (s := x) (by omega) hfl (hf x hx).1
    obtain ⟨n2, s2⟩ := rspawn_u (l := l) (s := x) (by omega) hfl (hf x hx).1
    obtain ⟨Tm, Tm', m1, m2, m3, m4⟩ := inner (p := l.length) (by omega) (s := x) (hf x hx).2 T.length 0 T T' (by omega) hT hr
    have m2' : RelT (l ++ [x]).length 0 Tm Tm' := by simpa using m2
    obtain ⟨Tf, Tf', q1, q2, q3, q4⟩ := outer hS hf c hc e1 e3 e4 e5 xs (l ++ [x]) Tm Tm' (by rw [← hl]; simp) (by omega) m2'
    refine ⟨Tf, Tf', by omega, q2, fun k a1 a3 a5 a6 a7 => ?_, fun k a1 a3 a5 => ?_⟩
    · rw [← q3 k a1 a3 a5 a6 a7]
      show ((proc_Spawn.u (tabP l) x.1 x.2.1).bind fun y5 => bif (y5.2.2 != 0) then _ else bif (decide (((List.length T : Nat) : Int) ≤ 4611686018427387904)) then snap_Begin.g0 ((l.length : Nat) : Int) e1 (((List.length e1 : Nat) : Int)) (((List.length T : Nat) : Int)) e3 e4 x (fun q => snap_Begin.g1 e1 e3 e4 k xs q.1 q.2) k (Int.toNat (((List.length T : Nat) : Int) - 0)) 0 (a1, (y5.1, (a3, (T, (a5, (a6, a7)))))) else none) = _
      rw [s1, Option.bind_some, show (((tabP (l ++ [x]), n1, (0 : Int)) : List Pr × Int × Int).2.2 != 0) = false from rfl, cond_false, dec_len (n := 8) hT (by omega), cond_true, show Int.toNat (((List.length T : Nat) : Int) - 0) = T.length by omega]
      have := m3 e1 (((List.length e1 : Nat) : Int)) (((List.length T : Nat) : Int)) e3 e4 (fun q => snap_Begin.g1 e1 e3 e4 k xs q.1 q.2) k a1 (tabP (l ++ [x])) a3 (a5, (a6, a7))
      rw [show ((0 : Nat) : Int) = 0 from rfl] at this
      rw [this]
      show snap_Begin.g1 e1 e3 e4 k xs (((l.length : Nat) : Int) + 1) _ = _
      congr 1
      simp
    · rw [← q4 k a1 a3 a5]
      have hx2 : c.2.2.2.2.1.getD l.length (0, (0, (0, ()))) = x := by
        rw [hc, ← hl, List.getD_eq_getElem?_getD, List.getElem?_append_right (Nat.le_refl _)]
        simp
      show (bif (idxOK ((l.length : Nat) : Int) (List.length c.2.2.2.2.1)) then bif (idxOK ((l.length : Nat) : Int) (List.length c.2.2.2.2.1)) then ((ref31_Spawn.u (tabP l) ((List.getD c.2.2.2.2.1 (Int.toNat ((l.length : Nat) : Int)) (0, (0, (0, ())))).1) ((List.getD c.2.2.2.2.1 (Int.toNat ((l.length : Nat) : Int)) (0, (0, (0, ())))).2.1)).bind fun y5 => iter (ref36_Begin.gb0 ((l.length : Nat) : Int) c e5 (fun q => ref36_Begin.g1 c e5 k xs.length q.1 q.2) k) BIG (0, (a1, (y5.1, (a3, (T', a5)))))) else none else none) = _
      rw [idxOK_nat (by rw [hc]; exact hlen), cond_true, cond_true, Int.toNat_natCast, hx2, s2, Option.bind_some]
      have := m4 BIG c e5 (fun q => ref36_Begin.g1 c e5 k xs.length q.1 q.2) k a1 (tabP (l ++ [x])) a3 a5 (by unfold BIG; omega) (by rw [hc]; exact hlen) hx2
      rw [show ((0 : Nat) : Int) = 0 from rfl] at this
      rw [this]
      show ref36_Begin.g1 c e5 k xs.length (((l.length : Nat) : Int) + 1) _ = _
      congr 1
      simp
theorem samePr {x : Pr} (h : x.2.2.2.2.2.2.2.1 = []) : ref31_SameProc.u x x = some true := by
  unfold ref31_SameProc.u ref31_SameProc.s
  simp only [beq_self_eq_true, cond_true, eqI_self .bool _ rfl, eqI_self E_s67 _ rfl, h]
  rfl
theorem same31_go {T : List Pr} (h : ∀ x ∈ T, x.2.2.2.2.2.2.2.1 = []) : ∀ (xs : List Pr) (n : Nat), T.drop n = xs → ref31_Same.g0 T T some xs (n : Int) = some true
  | [], n, _ => rfl
  | x :: xs, n, hd => by
    have hx0 : T[n]? = some x := by
      have : (T.drop n)[0]? = some x := by rw [hd]; rfl
      rwa [List.getElem?_drop, Nat.add_zero] at this
    have hlt : n < T.length := (List.getElem?_eq_some_iff.1 hx0).1
    have hx : T.getD n pr0 = x := by rw [List.getD_eq_getElem?_getD, hx0]; rfl
    show (bif (idxOK (n : Int) (List.length T)) then ((ref31_SameProc.u x (T.getD (Int.toNat (n : Int)) pr0)).bind fun y3 => bif (!y3) then some false else ref31_Same.g0 T T some xs ((n : Int) + 1)) else none) = _
    rw [idxOK_nat hlt, cond_true, Int.toNat_natCast, hx, samePr (h x (List.mem_of_getElem? hx0)), Option.bind_some]
    have := same31_go h xs (n + 1) (by rw [← List.drop_drop, hd]; rfl)
    rw [show ((n + 1 : Nat) : Int) = (n : Int) + 1 by omega] at this
    exact this
theorem same31 {T : List Pr} (hl : T.length ≤ 1000) (h : ∀ x ∈ T, x.2.2.2.2.2.2.2.1 = []) : ref31_Same.u T T = some true := by
  unfold ref31_Same.u ref31_Same.w
  rw [show (((List.length T : Nat) : Int) != ((List.length T : Nat) : Int)) = false by simp, cond_false, dec_len hl (by omega), cond_true]
  exact same31_go h T 0 rfl
theorem sameBa {x : Ba} (h1 : x.2.1.1.length ≤ 1000) (h2 : x.2.1.2.1.length ≤ 1000) : ref36_sameBar.u x x = some true := by
  unfold ref36_sameBar.u ref36_sameBar.s
  simp only [beq_self_eq_true, cond_true, eqI_self E_s74 _ rfl]
  rw [same_u (by omega), Option.bind_some, cond_true, same_u (by omega)]
  rfl
theorem sameCh {x : T_s114} (h1 : x.2.2.1.length ≤ 1000) (h2 : x.2.2.2.1.2.1.length ≤ 1000) (h3 : x.2.2.2.2.1.length ≤ 1000) (h4 : x.2.2.2.2.2.1.2.1.length ≤ 1000) : ref36_sameChan.u x x = some true := by
  unfold ref36_sameChan.u ref36_sameChan.s
  simp only [beq_self_eq_true, cond_true, eqI_self E_s110 _ rfl, eqI_self .bool _ rfl]
  rw [same_u (by omega), Option.bind_some, cond_true, same_u (by omega), Option.bind_some, cond_true, same_u (by omega), Option.bind_some, cond_true, same_u (by omega)]
  rfl
theorem go_on {Ω : Type} (g : Nat → Int → Option Ω) (b : Option Ω) (n : Nat) (h0 : ∀ i, g 0 i = b) (hs : ∀ (d i : Nat), i < n → g (d + 1) (i : Int) = g d ((i : Int) + 1)) : ∀ (d i : Nat), i + d = n → g d (i : Int) = b
  | 0, i, _ => h0 _
  | d + 1, i, hi => by
    rw [hs d i (by omega), show (i : Int) + 1 = ((i + 1 : Nat) : Int) by omega]
    exact go_on g b n h0 hs d (i + 1) (by omega)
theorem same36 (w : T_s44) (hp : w.2.1.length ≤ 1000) (hg : ∀ x ∈ w.2.1, x.2.2.2.2.2.2.2.1 = []) (hc : w.2.2.1.length ≤ 1000) (hcs : ∀ x ∈ w.2.2.1, ref36_sameChan.u x x = some true) (hb : w.2.2.2.1.length ≤ 1000) (hbs : ∀ x ∈ w.2.2.2.1, ref36_sameBar.u x x = some true)
    (hk : w.2.2.2.2.1.length ≤ 1000) (hks : ∀ x ∈ w.2.2.2.2.1, x.length ≤ 1000) (ht : w.2.2.2.2.2.1 = []) : ref36_Same.u w w = some true := by
  have at_ : ∀ {α : Type} (l : List α) (z : α) (i : Nat), i < l.length → l.getD i z ∈ l := fun l z i hi => by
    rw [List.getD_eq_getElem?_getD, List.getElem?_eq_getElem hi]; exact List.getElem_mem _
  have g0 : ref36_Same.g0 w w some w.2.2.2.2.1.length 0 = some true := by
    refine go_on (ref36_Same.g0 w w some) (some true) w.2.2.2.2.1.length (fun _ => rfl) (fun d i hi => ?_) _ 0 (by omega)
    conv => lhs; unfold ref36_Same.g0
    rw [idxOK_nat hi, cond_true, cond_true, Int.toNat_natCast, same_u (by have := hks _ (at_ w.2.2.2.2.1 [] i hi); omega)]
    rfl
  have g1 : ref36_Same.g1 w w some w.2.2.2.1.length 0 = some true := by
    refine go_on (ref36_Same.g1 w w some) (some true) w.2.2.2.1.length (fun i => ?_) (fun d i hi => ?_) _ 0 (by omega)
    · show (bif (decide (((List.length w.2.2.2.2.1 : Nat) : Int) ≤ 4611686018427387904)) then ref36_Same.g0 w w some (Int.toNat (((List.length w.2.2.2.2.1 : Nat) : Int) - 0)) 0 else none) = _
      rw [dec_len hk (by omega), cond_true, show Int.toNat (((List.length w.2.2.2.2.1 : Nat) : Int) - 0) = w.2.2.2.2.1.length by omega, g0]
    · conv => lhs; unfold ref36_Same.g1
      rw [idxOK_nat hi, cond_true, cond_true, Int.toNat_natCast, hbs _ (at_ w.2.2.2.1 _ i hi)]
      rfl
  have g2 : ref36_Same.g2 w w some w.2.2.1.length 0 = some true := by
    refine go_on (ref36_Same.g2 w w some) (some true) w.2.2.1.length (fun i => ?_) (fun d i hi => ?_) _ 0 (by omega)
    · show (bif (decide (((List.length w.2.2.2.1 : Nat) : Int) ≤ 4611686018427387904)) then ref36_Same.g1 w w some (Int.toNat (((List.length w.2.2.2.1 : Nat) : Int) - 0)) 0 else none) = _
      rw [dec_len hb (by omega), cond_true, show Int.toNat (((List.length w.2.2.2.1 : Nat) : Int) - 0) = w.2.2.2.1.length by omega, g1]
    · conv => lhs; unfold ref36_Same.g2
      rw [idxOK_nat hi, cond_true]
      dsimp only
      rw [cond_true, Int.toNat_natCast, hcs _ (at_ w.2.2.1 _ i hi)]
      rfl
  unfold ref36_Same.u ref36_Same.w
  rw [show (w.1 != w.1) = false by simp, cond_false, same31 hp hg, Option.bind_some, ht]
  simp only [bne_self_eq_false, Bool.not_true, cond_false]
  rw [show ref06_Same.u [] [] = some true from rfl, Option.bind_some]
  show (bif (decide (((List.length w.2.2.1 : Nat) : Int) ≤ 4611686018427387904)) then ref36_Same.g2 w w some (Int.toNat (((List.length w.2.2.1 : Nat) : Int) - 0)) 0 else none) = _
  rw [dec_len hc (by omega), cond_true, show Int.toNat (((List.length w.2.2.1 : Nat) : Int) - 0) = w.2.2.1.length by omega, g2]
theorem small_g (e1 : List (List In)) (e3 : Cf) : ∀ xs : List (List In), ∃ b, law32_Small.g0 e1 e3 some xs = some b
  | [] => ⟨_, rfl⟩
  | x :: xs => by
    show ∃ b, (bif (decide (((List.length x : Nat) : Int) > 70)) then some false else law32_Small.g0 e1 e3 some xs) = some b
    cases (decide (((List.length x : Nat) : Int) > 70)) with
    | true => exact ⟨_, rfl⟩
    | false => exact small_g e1 e3 xs
theorem small_u (c : Cf) : ∃ b, law32_Small.u c = some b ∧ (b = true → c.1.length ≤ 10 ∧ c.2.1.length ≤ 20 ∧ c.2.2.1.length ≤ 20 ∧ c.2.2.2.2.1.length ≤ 20) := by
  unfold law32_Small.u law32_Small.w
  by_cases h1 : ((List.length c.1 : Nat) : Int) > 10
  · rw [decide_eq_true h1]; exact ⟨false, rfl, fun h => by cases h⟩
  · rw [decide_eq_false h1, cond_false]
    by_cases h2 : ((List.length c.2.1 : Nat) : Int) > 20
    · rw [decide_eq_true h2]; exact ⟨false, rfl, fun h => by cases h⟩
    · rw [decide_eq_false h2, cond_false]
      by_cases h3 : ((List.length c.2.2.1 : Nat) : Int) > 20
      · rw [decide_eq_true h3]; exact ⟨false, rfl, fun h => by cases h⟩
      · rw [decide_eq_false h3, cond_false]
        by_cases h4 : ((List.length c.2.2.2.2.1 : Nat) : Int) > 20
        · rw [decide_eq_true h4]; exact ⟨false, rfl, fun h => by cases h⟩
        · rw [decide_eq_false h4]
          show ∃ b, (bif decide (((List.length c.1 : Nat) : Int) ≤ 4611686018427387904) then law32_Small.g0 c.1 c some c.1 else none) = some b ∧ _
          rw [dec_len (n := 10) (by omega) (by omega), cond_true]
          obtain ⟨b, hb⟩ := small_g c.1 c c.1
          exact ⟨b, hb, fun _ => by omega⟩
theorem from22 {x y : Ba} {p : Nat} (h : BR p x y) : law22_From.u x = some y := by
  have hz : nums [0, 0, 0, 0] = [] := by
    unfold nums numsF
    rw [List.filter_eq_nil_iff.2 (fun j _ => by rw [zero4_bit]; simp)]; rfl
  unfold law22_From.u law22_From.s law21_From.u law21_From.s
  rw [list_u h.set, Option.bind_some, h.at_, list_u zero4_ok, Option.bind_some, hz]
  show some (x.1, ((nums x.2.1.1, ([], ())), (x.2.2.1, ()))) = _
  have e1 := h.conf
  have e2 := h.mem
  have e3 := h.ry
  have e4 := h.rph
  have e5 := h.ph
  obtain ⟨y1, ⟨y2, y3, u⟩, y4, u'⟩ := y
  simp only at e1 e2 e3 e4
  rw [e1, e2, e3, e4, e5]
theorem from23_g {T' : List Ba} (e : List Ba) : ∀ (xs ys a : List Ba), xs.length = ys.length → (∀ i, i < xs.length → ∃ p, BR p (xs.getD i ba0) (ys.getD i rba0)) → a.length + xs.length ≤ 1000 → law23_From.g0 e some xs a = some (a ++ ys)
  | [], [], a, _, _, _ => by show some a = _; simp
  | [], _ :: _, _, h, _, _ => by cases h
  | _ :: _, [], _, h, _, _ => by cases h
  | x :: xs, y :: ys, a, hl, h, hn => by
    simp only [List.length_cons] at hl hn
    obtain ⟨p, hp⟩ := h 0 (by simp)
    have hp : BR p x y := hp
    show ((law22_From.u x).bind fun y2 => bif (decide (List.length a + List.length [y2] ≤ rowMax)) then law23_From.g0 e some xs (a ++ [y2]) else none) = _
    rw [from22 hp, Option.bind_some, decide_eq_true (show List.length a + List.length [y] ≤ rowMax by simp [rowMax]; omega), cond_true, from23_g (T' := T') e xs ys (a ++ [y]) (by omega) (fun i hi => h (i + 1) (by simp; omega)) (by simp; omega)]
    simp
theorem from23 {p : Nat} {T T' : List Ba} (h : RelT p 0 T T') (hl : T.length ≤ 8) : law23_From.u T = some T' := by
  unfold law23_From.u law23_From.w
  rw [dec_len hl (by omega), cond_true]
  exact from23_g (T' := T') T T T' [] h.len.symm (fun i hi => ⟨_, h.at_ i hi⟩) (by simp; omega)
theorem nums_zero : nums [0, 0, 0, 0] = [] := by
  unfold nums numsF
  rw [List.filter_eq_nil_iff.2 (fun j _ => by rw [zero4_bit]; simp)]; rfl
abbrev snap0 : T_s35 := (0, ([], ([], ([], ([], ([], ()))))))
theorem from_zero : law36_From.u snap0 = some snap0 := by rfl
theorem same_zero : ref36_Same.u snap0 snap0 = some true := by
  refine same36 snap0 (by decide) (fun x hx => ?_) (by decide) (fun x hx => ?_) (by decide) (fun x hx => ?_) (by decide) (fun x hx => ?_) rfl <;> cases hx
theorem rel0 {l : List Bc} (h : ∀ x ∈ l, barrier_Check.t x = 0) : RelT 0 0 (l.map fun x => ((x, (((List.replicate 4 0), ((List.replicate 4 0), ())), (0, ()))) : Ba)) (l.map fun x => ((x, (([], ([], ())), (0, ()))) : Ba)) := by
  refine ⟨by simp, fun i hi => ?_⟩
  rw [List.length_map] at hi
  have e1 : (l.map fun x => ((x, (((List.replicate 4 0), ((List.replicate 4 0), ())), (0, ()))) : Ba)).getD i ba0 = (l[i], (((List.replicate 4 0), ((List.replicate 4 0), ())), (0, ()))) := by
    rw [List.getD_eq_getElem?_getD, List.getElem?_map, List.getElem?_eq_getElem hi]; rfl
  have e2 : (l.map fun x => ((x, (([], ([], ())), (0, ()))) : Ba)).getD i rba0 = (l[i], (([], ([], ())), (0, ()))) := by
    rw [List.getD_eq_getElem?_getD, List.getElem?_map, List.getElem?_eq_getElem hi]; rfl
  rw [e1, e2]
  exact ⟨rfl, h _ (List.getElem_mem _), zero4_ok, rfl, rfl, nums_zero.symm, rfl, rfl, fun j hj hb => by
    have hb : bit [0, 0, 0, 0] j = true := hb
    rw [zero4_bit] at hb; cases hb⟩
theorem begin_law (c : T_s26) (h : CfS c) : ∃ (s w : T_s35) (e : Int), snap_Begin.u c = some (s, e) ∧ ref36_Begin.u c = some (w, e) ∧ law36_From.u s = some w ∧ ref36_Same.u w w = some true := by
  obtain ⟨v, h1, h2, hok⟩ := check36 c h
  unfold snap_Begin.u snap_Begin.w ref36_Begin.u ref36_Begin.w
  rw [h1, h2, Option.bind_some, Option.bind_some]
  cases he : (v.2 != 0) with
  | true => exact ⟨snap0, snap0, v.2, by rw [cond_true], by rw [cond_true], from_zero, same_zero⟩
  | false =>
    have he : v.2 = 0 := by simpa using he
    obtain ⟨⟨c1, c2⟩, ⟨b1, b2⟩, ⟨k1, k2⟩, ⟨s1, s2⟩⟩ := hok he
    have hpail : (decide (c.2.2.2.1 = c.2.2.2.1) && decide ((0 : Int) ≤ c.2.2.2.1) && decide (c.2.2.2.1 ≤ (2147483648 : Int))) = true := by
      rw [decide_eq_true rfl, decide_eq_true k1, decide_eq_true (by omega)]; rfl
    obtain ⟨n1, n2⟩ := chantab_new c1 c2
    obtain ⟨m1, m2⟩ := bartab_new b1 b2
    have hf : ∀ s ∈ c.2.2.2.2.1, word_Fine.t s.2.1 = true ∧ 0 ≤ s.2.2.1 ∧ s.2.2.1 < 256 := fun s hs => by
      obtain ⟨q1, q2, q3⟩ := s2 s hs
      refine ⟨q1, q2, Int.lt_of_lt_of_le q3 ?_⟩
      have : (2 : Nat) ^ c.2.2.1.length ≤ 2 ^ 8 := Nat.pow_le_pow_right (by omega) b1
      have e : ((2 : Int) ^ c.2.2.1.length) = ((2 ^ c.2.2.1.length : Nat) : Int) := by simp
      rw [e]; exact_mod_cast this
    obtain ⟨Tf, Tf', q1, q2, q3, q4⟩ := outer s1 hf c rfl c.2.2.2.2.1 c v.1 v.1 c.2.2.2.2.1 [] _ _ rfl (by rw [List.length_map]; exact b1) (rel0 b2)
    have q3 := q3 some 0 (c.2.1.map fun x => (channel_New.t x).1) (List.replicate (Int.toNat c.2.2.2.1) []) [] ()
    have q4 := q4 some 0 (c.2.1.map fun x => (channel_New.t x).1) ((List.replicate (Int.toNat c.2.2.2.1) []), ([], ()))
    have hTf : Tf.length ≤ 8 := by rw [q1, List.length_map]; exact b1
    have hTf' : Tf'.length ≤ 8 := by rw [q2.len]; exact hTf
    refine ⟨(0, (tabP c.2.2.2.2.1, (c.2.1.map fun x => (channel_New.t x).1, (Tf, ((List.replicate (Int.toNat c.2.2.2.1) []), ([], ())))))), (0, (tabP c.2.2.2.2.1, (c.2.1.map fun x => (channel_New.t x).1, (Tf', ((List.replicate (Int.toNat c.2.2.2.1) []), ([], ())))))), 0, ?_, ?_, ?_, ?_⟩
    · rw [cond_false, show proc_New.u = some (tabP []) from rfl, Option.bind_some, hpail, cond_true, n1, Option.bind_some, m1, Option.bind_some, dec_len s1 (by omega), cond_true]
      exact q3
    · rw [cond_false, show ref31_New.u = some (tabP []) from rfl, Option.bind_some, hpail, cond_true, n2, Option.bind_some, m2, Option.bind_some, dec_len s1 (by omega), cond_true, show Int.toNat (((List.length c.2.2.2.2.1 : Nat) : Int) - 0) = c.2.2.2.2.1.length by omega]
      exact q4
    · unfold law36_From.u law36_From.w
      rw [from31 (by rw [tabP_len s1]; omega), Option.bind_some, from19 (by rw [List.length_map]; omega), Option.bind_some, from23 q2 hTf]
      rfl
    · refine same36 _ (by rw [tabP_len s1]; omega) (fun x hx => ?_) (by rw [List.length_map]; omega) (fun x hx => ?_) (Nat.le_trans hTf' (by decide)) (fun x hx => ?_) (by rw [List.length_replicate]; omega) (fun x hx => by rw [List.eq_of_mem_replicate hx]; simp) rfl
      · rcases tabP_mem hx with ⟨s, _, rfl⟩ | rfl <;> rfl
      · obtain ⟨y, hy, rfl⟩ := List.mem_map.1 hx
        refine sameCh ?_ ?_ ?_ ?_ <;> (unfold channel_New.t; rw [c2 y hy]; simp)
      · obtain ⟨i, hi, hx⟩ := List.mem_iff_getElem.1 hx
        have hb := q2.at_ i (by rw [← q2.len]; exact hi)
        have ex : Tf'.getD i rba0 = x := by rw [List.getD_eq_getElem?_getD, List.getElem?_eq_getElem hi, hx]; rfl
        rw [ex] at hb
        refine sameBa ?_ ?_
        · rw [hb.mem]; have := nums_len (Tf.getD i ba0).2.1.1; omega
        · rw [hb.ry]; simp
theorem law_begins (c : T_s26) (hP : ∀ l ∈ c.1, PrOK l) : law36_SnapBegins.u c = some true := by
  unfold law36_SnapBegins.u law36_SnapBegins.s
  obtain ⟨b, hb, hs⟩ := small_u c
  rw [hb, Option.bind_some]
  cases b with
  | false => rfl
  | true =>
    obtain ⟨l1, l2, l3, l5⟩ := hs rfl
    obtain ⟨s, w, e, h1, h2, h3, h4⟩ := begin_law c ⟨l1, l2, l3, l5, hP⟩
    rw [Bool.not_true, cond_false, h1, Option.bind_some, h2, Option.bind_some]
    dsimp only
    rw [h3, Option.bind_some, h4, Option.bind_some, cond_true, beq_self_eq_true, cond_true]
    rfl
abbrev tyIn : ETy := .pair (.int .u8) (.pair (.int .u8) (.pair (.int .u8) (.pair (.int .u8) .unit)))
theorem u8_of {n : Int} (h : (Lit.int .u8 n).wf = true) : 0 ≤ n ∧ n ≤ 255 := by
  simp [Lit.wf, IntKind.min, IntKind.max, IntKind.signed, IntKind.bits] at h
  omega
theorem inOK_of {x : In} (h : fits tyIn x) : InOK x := ⟨u8_of h.1, u8_of h.2.1, u8_of h.2.2.1, u8_of h.2.2.2.1⟩
theorem row_SnapBegins (xs : Args [E_s26]) (h : fitsA _ xs) : law36_SnapBegins.u xs.1 = some true := law_begins xs.1 fun l hl x hx => inOK_of ((h.1.1.2 l hl).2 x hx)
end
end Go.Proofs.YtlcomipbinfooaaGreatDoor.K

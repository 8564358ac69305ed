/- What functions of the program come to, and their laws. -/
import Derived.Test.YtlcomipbinfooaaGreatDoorZ4
import Derived.Test.YtlcomipbinfooaaGreatDoorW1
import Derived.KernelRfl
import Derived.IntWalk
import Derived.Lib.TrailingZeros
namespace Go.Proofs.YtlcomipbinfooaaGreatDoor.K
open Go Go.RowKit
section
set_option linter.unusedVariables false
set_option linter.unusedSimpArgs false
set_option maxRecDepth 100000
abbrev Ch : Type := Int × (Int × (Int × (Int × Unit)))
abbrev Bc : Type := Bool × (Int × Unit)
abbrev Sta : Type := Int × (Int × (Int × Unit))
abbrev Cf : Type := List (List In) × (List Ch × (List Bc × (Int × (List Sta × Unit))))
def ckL {α : Type} (f : α → Option Int) : List α → Int → Option (Int × Int)
  | [], _ => some (0, 0)
  | x :: xs, i => (f x).bind fun e => bif (e != 0) then some (i, e) else ckL f xs (i + 1)
theorem ckL_congr {α : Type} {f g : α → Option Int} : ∀ {l : List α} {i : Int}, (∀ x ∈ l, f x = g x) → ckL f l i = ckL g l i
  | [], _, _ => rfl
  | x :: xs, i, h => by
    unfold ckL
    rw [h x (by simp)]
    congr 1; funext e
    rw [ckL_congr fun y hy => h y (List.mem_cons_of_mem _ hy)]
theorem ckL_some {α : Type} {f : α → Option Int} : ∀ {l : List α} {i : Int}, (∀ x ∈ l, (f x).isSome = true) → ∃ r, ckL f l i = some r ∧ (r.2 = 0 → ∀ x ∈ l, f x = some 0)
  | [], _, _ => ⟨_, rfl, fun _ x hx => by cases hx⟩
  | x :: xs, i, h => by
    unfold ckL
    have hx := h x (by simp)
    cases hf : f x with
    | none => rw [hf] at hx; cases hx
    | some e =>
      rw [Option.bind_some]
      cases he : (e != 0) with
      | true => exact ⟨_, rfl, fun h0 => by simp only at h0; rw [h0] at he; cases he⟩
      | false =>
        have he : e = 0 := by simpa using he
        subst he
        obtain ⟨r, h1, h2⟩ := ckL_some (l := xs) (i := i + 1) fun y hy => h y (List.mem_cons_of_mem _ hy)
        refine ⟨r, h1, fun h0 y hy => ?_⟩
        rcases List.mem_cons.1 hy with rfl | hy
        · exact hf
        · exact h2 h0 y hy
theorem ref_loop {α Ω : Type} (f : α → Option Int) (z : α) (l : List α) (g : Nat → Int → Option Ω) (kk : Int → Int → Option Ω) (b : Option Ω) (h0 : ∀ i, g 0 i = b)
    (hs : ∀ d (i : Int), g (d + 1) i = bif idxOK i l.length then (f (l.getD i.toNat z)).bind (fun e => bif (e != 0) then kk i e else g d (i + 1)) else none) :
    ∀ (xs : List α) (n : Nat), l.drop n = xs → n + xs.length = l.length → g xs.length (n : Int) = (ckL f xs (n : Int)).bind fun r => bif (r.2 != 0) then kk r.1 r.2 else b
  | [], n, _, _ => by
    show g 0 _ = _
    rw [h0]; rfl
  | x :: xs, n, hd, hl => by
    show g (xs.length + 1) _ = _
    have hl' : n + (xs.length + 1) = l.length := by simpa using hl
    have hx : l.getD n z = x := by
      have : (l.drop n)[0]? = some x := by rw [hd]; rfl
      rw [List.getElem?_drop, Nat.add_zero] at this
      rw [List.getD_eq_getElem?_getD, this]; rfl
    rw [hs, idxOK_nat (by omega), cond_true, Int.toNat_natCast, hx]
    unfold ckL
    cases f x with
    | none => rfl
    | some e =>
      simp only [Option.bind_some]
      cases he : (e != 0) with
      | true => simp only [cond_true, Option.bind_some, he]
      | false =>
        simp only [cond_false]
        have hd' : l.drop (n + 1) = xs := by rw [← List.drop_drop, hd]; rfl
        have := ref_loop f z l g kk b h0 hs xs (n + 1) hd' (by omega)
        rw [show ((n + 1 : Nat) : Int) = (n : Int) + 1 from by omega] at this
        exact this
theorem power_u : ∀ n : Nat, n < 9 → zq4j.u (n : Int) = some (IntKind.wrap .i64 ((1 : Int) * (2 ^ (min (Int.toNat (n : Int)) (IntKind.bits .i64)))))
  | 0, _ => by kernel_rfl
  | 1, _ => by kernel_rfl
  | 2, _ => by kernel_rfl
  | 3, _ => by kernel_rfl
  | 4, _ => by kernel_rfl
  | 5, _ => by kernel_rfl
  | 6, _ => by kernel_rfl
  | 7, _ => by kernel_rfl
  | 8, _ => by kernel_rfl
  | n + 9, h => by omega
theorem start_eq (s : Sta) (p : Int) {b : Nat} (hb : b < 9) : zq20.u s p (b : Int) = zq4q.u s p (b : Int) := by
  unfold zq20.u zq4q.u zq20.s zq4q.s
  rw [power_u b hb, show decide ((0 : Int) ≤ (b : Int)) = true from by simp, fine_eq]
  rfl
theorem start_ok (s : Sta) (p : Int) {b : Nat} (hb : b < 9) : ∃ e, zq20.u s p (b : Int) = some e ∧ (e = 0 → zq1j.t s.2.1 = true ∧ 0 ≤ s.2.2.1 ∧ s.2.2.1 < 2 ^ b) := by
  have hp : (IntKind.wrap .i64 ((1 : Int) * (2 ^ (min (Int.toNat (b : Int)) (IntKind.bits .i64))))) = 2 ^ b := by
    match b, hb with
    | 0, _ => decide
    | 1, _ => decide
    | 2, _ => decide
    | 3, _ => decide
    | 4, _ => decide
    | 5, _ => decide
    | 6, _ => decide
    | 7, _ => decide
    | 8, _ => decide
    | n + 9, h => omega
  unfold zq20.u zq20.s
  rw [show decide ((0 : Int) ≤ (b : Int)) = true from by simp, hp]
  cases h1 : decide (s.1 < 0) with
  | true => exact ⟨8, rfl, fun h => by cases h⟩
  | false =>
  cases h2 : decide (s.1 ≥ p) with
  | true => exact ⟨8, rfl, fun h => by cases h⟩
  | false =>
  cases h3 : zq1j.t s.2.1 with
  | false => exact ⟨8, rfl, fun h => by cases h⟩
  | true =>
  cases h4 : decide (s.2.2.1 < 0) with
  | true => exact ⟨8, rfl, fun h => by cases h⟩
  | false =>
  cases h5 : decide (s.2.2.1 ≥ 2 ^ b) with
  | true => exact ⟨8, by simp only [cond_false, cond_true, Bool.not_true, Option.bind_some], fun h => by cases h⟩
  | false =>
    refine ⟨0, by simp only [cond_false, cond_true, Bool.not_true, Option.bind_some], fun _ => ⟨rfl, ?_, ?_⟩⟩
    · simpa using h4
    · simpa using h5
theorem chan_eq (x : Ch) : zq0z.t x = zq4v.t x := rfl
theorem bar_eq (x : Bc) : zq12.t x = zq4n.t x := by
  unfold zq12.t zq4n.t zq2p.t
  by_cases h1 : x.2.1 ≥ 1
  · by_cases h2 : x.2.1 ≤ 65535
    · have h3 : (0 : Int) ≤ x.2.1 := by omega
      have h4 : ¬ x.2.1 < 1 := by omega
      have h5 : ¬ x.2.1 > 65535 := by omega
      simp [h1, h2, h3, h4, h5]
    · have h4 : ¬ x.2.1 < 1 := by omega
      have h5 : x.2.1 > 65535 := by omega
      simp [h1, h2, h4, h5]
  · have h4 : x.2.1 < 1 := by omega
    simp [h1, h4]
def goP : List (Int × Option (Int × Int)) → Option ((Int × (Int × Unit)) × Int)
  | [] => some ((0, (0, ())), 0)
  | (i, p) :: r => p.bind fun y => bif (y.2 != 0) then some ((i, (y.1, ())), y.2) else goP r
def manyP (n a b : Int) (p : Option (Int × Int)) : Option (Int × Int) := bif (zq1w.t n a b != 0) then some (0, zq1w.t n a b) else p
def partsP (c : Cf) : List (Int × Option (Int × Int)) :=
  [(1, manyP (List.length c.1 : Nat) 1 8 (ckL zq2o.u c.1 0)), (2, manyP (List.length c.2.1 : Nat) 0 8 (ckL (fun x => some (zq0z.t x)) c.2.1 0)),
   (3, manyP (List.length c.2.2.1 : Nat) 0 8 (ckL (fun x => some (zq12.t x)) c.2.2.1 0)), (4, some (0, zq2j.t c.2.2.2.1)),
   (5, manyP (List.length c.2.2.2.2.1 : Nat) 1 16 (ckL (fun s => zq20.u s (List.length c.1 : Nat) (List.length c.2.2.1 : Nat)) c.2.2.2.2.1 0))]
theorem first1 {Ω : Type} (e : List (List In)) (k : Int × Int → Option Ω) : ∀ (xs : List (List In)) (i : Int), zq0a.g0 e k xs i = (ckL zq2o.u xs i).bind k
  | [], i => rfl
  | x :: xs, i => by
    show (zq2o.u x).bind _ = _
    unfold ckL
    cases zq2o.u x with
    | none => rfl
    | some y =>
      simp only [Option.bind_some]
      cases (y != 0) with
      | true => rfl
      | false => exact first1 e k xs (i + 1)
theorem first2 {Ω : Type} (e : List Ch) (k : Int × Int → Option Ω) : ∀ (xs : List Ch) (i : Int), zq0b.g0 e k xs i = (ckL (fun x => some (zq0z.t x)) xs i).bind k
  | [], i => rfl
  | x :: xs, i => by
    show (bif (zq0z.t x != 0) then _ else _) = _
    unfold ckL
    simp only [Option.bind_some]
    cases (zq0z.t x != 0) with
    | true => rfl
    | false => exact first2 e k xs (i + 1)
theorem first3 {Ω : Type} (e : List Bc) (k : Int × Int → Option Ω) : ∀ (xs : List Bc) (i : Int), zq08.g0 e k xs i = (ckL (fun x => some (zq12.t x)) xs i).bind k
  | [], i => rfl
  | x :: xs, i => by
    show (bif (zq12.t x != 0) then _ else _) = _
    unfold ckL
    simp only [Option.bind_some]
    cases (zq12.t x != 0) with
    | true => rfl
    | false => exact first3 e k xs (i + 1)
theorem first4 {Ω : Type} (c : Cf) (e : List Sta) (k : Int × Int → Option Ω) : ∀ (xs : List Sta) (i : Int), zq0d.g0 c e k xs i = (ckL (fun s => zq20.u s (List.length c.1 : Nat) (List.length c.2.2.1 : Nat)) xs i).bind k
  | [], i => rfl
  | x :: xs, i => by
    show (zq3e.u x c).bind _ = _
    unfold ckL
    have : zq3e.u x c = zq20.u x (List.length c.1 : Nat) (List.length c.2.2.1 : Nat) := by
      unfold zq3e.u zq3e.s
      cases zq20.u x (List.length c.1 : Nat) (List.length c.2.2.1 : Nat) <;> rfl
    rw [this]
    cases zq20.u x (List.length c.1 : Nat) (List.length c.2.2.1 : Nat) with
    | none => rfl
    | some y =>
      simp only [Option.bind_some]
      cases (y != 0) with
      | true => rfl
      | false => exact first4 c e k xs (i + 1)
theorem bind_some' {α : Type} (o : Option α) : o.bind some = o := by cases o <;> rfl
theorem bind_eta (o : Option (Int × Int)) : (o.bind fun y => some (y.1, y.2)) = o := by cases o <;> rfl
structure CfS (c : Cf) : Prop where
  l1 : c.1.length ≤ 10
  l2 : c.2.1.length ≤ 20
  l3 : c.2.2.1.length ≤ 20
  l5 : c.2.2.2.2.1.length ≤ 20
  ok : ∀ l ∈ c.1, PrOK l
theorem conf_go (c : Cf) (h : CfS c) : zq1b.u c = goP (partsP c) := by
  have p1 : zq2z.u c 1 = manyP (List.length c.1 : Nat) 1 8 (ckL zq2o.u c.1 0) := by
    show (bif (zq1w.t _ 1 8 != 0) then some (0, _) else _) = _
    unfold manyP
    congr 1
    unfold zq0a.u zq0a.w
    rw [dec_len h.l1 (by omega), cond_true, first1, bind_some', bind_eta]
  have p2 : zq2z.u c 2 = manyP (List.length c.2.1 : Nat) 0 8 (ckL (fun x => some (zq0z.t x)) c.2.1 0) := by
    show (bif (zq1w.t _ 0 8 != 0) then some (0, _) else _) = _
    unfold manyP
    congr 1
    unfold zq0b.u zq0b.w
    rw [dec_len h.l2 (by omega), cond_true, first2, bind_some', bind_eta]
  have p3 : zq2z.u c 3 = manyP (List.length c.2.2.1 : Nat) 0 8 (ckL (fun x => some (zq12.t x)) c.2.2.1 0) := by
    show (bif (zq1w.t _ 0 8 != 0) then some (0, _) else _) = _
    unfold manyP
    congr 1
    unfold zq08.u zq08.w
    rw [dec_len h.l3 (by omega), cond_true, first3, bind_some', bind_eta]
  have p5 : zq2z.u c 5 = manyP (List.length c.2.2.2.2.1 : Nat) 1 16 (ckL (fun s => zq20.u s (List.length c.1 : Nat) (List.length c.2.2.1 : Nat)) c.2.2.2.2.1 0) := by
    show (bif (zq1w.t _ 1 16 != 0) then some (0, _) else _) = _
    unfold manyP
    congr 1
    unfold zq0d.u zq0d.w
    rw [dec_len h.l5 (by omega), cond_true, first4, bind_some', bind_eta]
  show (zq2z.u c 1).bind _ = _
  rw [p1]
  unfold partsP goP
  congr 1; funext y
  congr 1
  show (zq2z.u c 2).bind _ = _
  rw [p2]
  unfold goP
  congr 1; funext y
  congr 1
  show (zq2z.u c 3).bind _ = _
  rw [p3]
  unfold goP
  congr 1; funext y
  congr 1
  show (zq2z.u c 4).bind _ = _
  unfold goP
  congr 1; funext y
  congr 1
  show (zq2z.u c 5).bind _ = _
  rw [p5]
  unfold goP
  congr 1
abbrev PlE : Type := (Int × (Int × Unit)) × Int
theorem many_bind (n a b i : Int) (p : Option (Int × Int)) (R : Option PlE) : ((manyP n a b p).bind fun y => bif (y.2 != 0) then some ((i, (y.1, ())), y.2) else R) = bif (zq1w.t n a b != 0) then some ((i, (0, ())), zq1w.t n a b) else p.bind fun y => bif (y.2 != 0) then some ((i, (y.1, ())), y.2) else R := by
  unfold manyP
  cases hm : (zq1w.t n a b != 0) with
  | true => simp only [cond_true, Option.bind_some, hm]
  | false => rfl
theorem ref_go (c : Cf) (h : CfS c) : zq1u.u c = goP (partsP c) := by
  -- starts
  have s5 : ∀ (hb : c.2.2.1.length < 9), zq1u.g0 c (some : PlE → Option PlE) c.2.2.2.2.1.length 0 = (ckL (fun s => zq20.u s (List.length c.1 : Nat) (List.length c.2.2.1 : Nat)) c.2.2.2.2.1 0).bind fun y => bif (y.2 != 0) then some ((5, (y.1, ())), y.2) else some ((0, (0, ())), 0) := fun hb => by
    refine ref_loop (fun s => zq20.u s (List.length c.1 : Nat) (List.length c.2.2.1 : Nat)) (0, (0, (0, ()))) c.2.2.2.2.1 (zq1u.g0 c some) (fun i e => some ((5, (i, ())), e)) _ (fun i => rfl) (fun d i => ?_) c.2.2.2.2.1 0 rfl (by omega)
    simp only [start_eq _ _ hb]
    rfl
  have b5 : c.2.2.1.length < 9 → (bif (zq3i.t (((List.length c.2.2.2.2.1 : Nat) : Int)) 1 16 != 0) then some ((5, (0, ())), (zq3i.t (((List.length c.2.2.2.2.1 : Nat) : Int)) 1 16))
      else bif (decide (((List.length c.2.2.2.2.1 : Nat) : Int) ≤ 4611686018427387904)) then zq1u.g0 c (some : PlE → Option PlE) ((Int.toNat (((List.length c.2.2.2.2.1 : Nat) : Int) - 0))) 0 else none) = goP ((partsP c).drop 4) := fun hb => by
    show _ = Option.bind _ _
    rw [many_bind, dec_len h.l5 (by omega), cond_true, show Int.toNat (((List.length c.2.2.2.2.1 : Nat) : Int) - 0) = c.2.2.2.2.1.length from by omega, s5 hb]
    rfl
  -- barriers, buckets
  have b4 : c.2.2.1.length < 9 → ∀ i, zq1u.g1 c (some : PlE → Option PlE) 0 i = goP ((partsP c).drop 3) := fun hb i => by
    show ((bif (decide (c.2.2.2.1 < 0)) then some (true, ()) else some ((decide (c.2.2.2.1 > 4)), ())).bind fun j2 : Bool × Unit => bif j2.1 then some ((4, (0, ())), 8) else _) = Option.bind (some (0, zq2j.t c.2.2.2.1)) _
    rw [b5 hb, Option.bind_some]
    unfold zq2j.t
    cases decide (c.2.2.2.1 < 0) with
    | true => rfl
    | false => cases decide (c.2.2.2.1 > 4) <;> rfl
  have s3 : c.2.2.1.length < 9 → zq1u.g1 c (some : PlE → Option PlE) c.2.2.1.length 0 = (ckL (fun x => some (zq12.t x)) c.2.2.1 0).bind fun y => bif (y.2 != 0) then some ((3, (y.1, ())), y.2) else goP ((partsP c).drop 3) := fun hb => by
    refine ref_loop (fun x => some (zq12.t x)) (false, (0, ())) c.2.2.1 (zq1u.g1 c some) (fun i e => some ((3, (i, ())), e)) _ (b4 hb) (fun d i => ?_) c.2.2.1 0 rfl (by omega)
    simp only [bar_eq]
    rfl
  have b3 : (bif ((zq3i.t (((List.length c.2.2.1 : Nat) : Int)) 0 8) != 0) then some ((3, (0, ())), (zq3i.t (((List.length c.2.2.1 : Nat) : Int)) 0 8))
      else bif (decide (((List.length c.2.2.1 : Nat) : Int) ≤ 4611686018427387904)) then zq1u.g1 c (some : PlE → Option PlE) ((Int.toNat (((List.length c.2.2.1 : Nat) : Int) - 0))) 0 else none) = goP ((partsP c).drop 2) := by
    show _ = Option.bind _ _
    rw [many_bind]
    show (bif (zq1w.t _ 0 8 != 0) then _ else _) = _
    cases hm : (zq1w.t (((List.length c.2.2.1 : Nat) : Int)) 0 8 != 0) with
    | true => rfl
    | false =>
      have hb : c.2.2.1.length < 9 := by
        unfold zq1w.t at hm
        have h0 : decide (((List.length c.2.2.1 : Nat) : Int) < 0) = false := by simp
        rw [h0, cond_false] at hm
        by_cases h8 : ((List.length c.2.2.1 : Nat) : Int) > 8
        · rw [decide_eq_true h8] at hm; cases hm
        · omega
      simp only [cond_false]
      rw [dec_len h.l3 (by omega), cond_true, show Int.toNat (((List.length c.2.2.1 : Nat) : Int) - 0) = c.2.2.1.length from by omega, s3 hb]
      rfl
  have s2 : zq1u.g2 c (some : PlE → Option PlE) c.2.1.length 0 = (ckL (fun x => some (zq0z.t x)) c.2.1 0).bind fun y => bif (y.2 != 0) then some ((2, (y.1, ())), y.2) else goP ((partsP c).drop 2) := by
    refine ref_loop (fun x => some (zq0z.t x)) (0, (0, (0, (0, ())))) c.2.1 (zq1u.g2 c some) (fun i e => some ((2, (i, ())), e)) _ (fun i => b3) (fun d i => ?_) c.2.1 0 rfl (by omega)
    simp only [chan_eq]
    rfl
  have b2 : (bif ((zq3i.t (((List.length c.2.1 : Nat) : Int)) 0 8) != 0) then some ((2, (0, ())), (zq3i.t (((List.length c.2.1 : Nat) : Int)) 0 8))
      else bif (decide (((List.length c.2.1 : Nat) : Int) ≤ 4611686018427387904)) then zq1u.g2 c (some : PlE → Option PlE) ((Int.toNat (((List.length c.2.1 : Nat) : Int) - 0))) 0 else none) = goP ((partsP c).drop 1) := by
    show _ = Option.bind _ _
    rw [many_bind, dec_len h.l2 (by omega), cond_true, show Int.toNat (((List.length c.2.1 : Nat) : Int) - 0) = c.2.1.length from by omega, s2]
    rfl
  have prog_eq : ∀ l ∈ c.1, zq2o.u l = (zq2w.u l).bind fun y => some y.2 := fun l hl => by
    obtain ⟨v, h1, h2⟩ := check_law (h.ok l hl)
    show ((zq13.u l).bind fun y => some y.2) = _
    rw [h1, h2]
  have s1 : zq1u.g3 c (some : PlE → Option PlE) c.1.length 0 = (ckL (fun l => (zq2w.u l).bind fun y => some y.2) c.1 0).bind fun y => bif (y.2 != 0) then some ((1, (y.1, ())), y.2) else goP ((partsP c).drop 1) := by
    refine ref_loop (fun l => (zq2w.u l).bind fun y => some y.2) [] c.1 (zq1u.g3 c some) (fun i e => some ((1, (i, ())), e)) _ (fun i => b2) (fun d i => ?_) c.1 0 rfl (by omega)
    show (bif (idxOK i (List.length c.1)) then (zq2w.u ((List.getD c.1 (Int.toNat i) []))).bind _ else none) = _
    congr 1
    cases zq2w.u ((List.getD c.1 (Int.toNat i) [])) <;> rfl
  rw [← ckL_congr prog_eq] at s1
  unfold zq1u.u zq1u.w
  show _ = Option.bind _ _
  rw [many_bind, dec_len h.l1 (by omega), cond_true, show Int.toNat (((List.length c.1 : Nat) : Int) - 0) = c.1.length from by omega, s1]
  rfl
structure CfOK (c : Cf) : Prop where
  chans : c.2.1.length ≤ 8 ∧ ∀ x ∈ c.2.1, zq0z.t x = 0
  bars : c.2.2.1.length ≤ 8 ∧ ∀ x ∈ c.2.2.1, zq12.t x = 0
  pails : 0 ≤ c.2.2.2.1 ∧ c.2.2.2.1 ≤ 4
  starts : c.2.2.2.2.1.length ≤ 16 ∧ ∀ s ∈ c.2.2.2.2.1, zq1j.t s.2.1 = true ∧ 0 ≤ s.2.2.1 ∧ s.2.2.1 < 2 ^ c.2.2.1.length
theorem goP_step {i : Int} {p : Option (Int × Int)} {r : List (Int × Option (Int × Int))} {v : PlE} (h : goP ((i, p) :: r) = some v) (h0 : v.2 = 0) : ∃ y, p = some y ∧ y.2 = 0 ∧ goP r = some v := by
  show _
  have h : (p.bind fun y => bif (y.2 != 0) then some ((i, (y.1, ())), y.2) else goP r) = some v := h
  obtain ⟨y, hy, h⟩ := Option.bind_eq_some_iff.1 h
  cases he : (y.2 != 0) with
  | true =>
    rw [he, cond_true] at h
    cases h
    simp only at h0
    rw [h0] at he; cases he
  | false => rw [he, cond_false] at h; exact ⟨y, hy, by simpa using he, h⟩
theorem manyP_ok {n a b : Int} {p : Option (Int × Int)} {y : Int × Int} (h : manyP n a b p = some y) (h0 : y.2 = 0) : n ≤ b ∧ p = some y := by
  unfold manyP at h
  cases hm : (zq1w.t n a b != 0) with
  | true =>
    rw [hm, cond_true] at h
    cases h
    simp only at h0
    rw [h0] at hm; cases hm
  | false =>
    rw [hm, cond_false] at h
    refine ⟨?_, h⟩
    unfold zq1w.t at hm
    by_cases h1 : n < a
    · rw [decide_eq_true h1] at hm; cases hm
    · rw [decide_eq_false h1, cond_false] at hm
      by_cases h2 : n > b
      · rw [decide_eq_true h2] at hm; cases hm
      · omega
theorem manyP_some {n a b : Int} {p : Option (Int × Int)} {r : Int × Int} (h : p = some r) : ∃ y, manyP n a b p = some y := by
  unfold manyP
  cases (zq1w.t n a b != 0) with
  | true => exact ⟨_, rfl⟩
  | false => exact ⟨r, h⟩
theorem goP_some {i : Int} {p : Option (Int × Int)} {r : List (Int × Option (Int × Int))} {y : Int × Int} (h : p = some y) (hr : y.2 = 0 → ∃ v, goP r = some v) : ∃ v, goP ((i, p) :: r) = some v := by
  show ∃ v, (p.bind fun y => bif (y.2 != 0) then some ((i, (y.1, ())), y.2) else goP r) = some v
  rw [h, Option.bind_some]
  cases he : (y.2 != 0) with
  | true => exact ⟨_, rfl⟩
  | false => exact hr (by simpa using he)
theorem check36 (c : Cf) (h : CfS c) : ∃ v : PlE, zq1b.u c = some v ∧ zq1u.u c = some v ∧ (v.2 = 0 → CfOK c) := by
  rw [conf_go c h, ref_go c h]
  obtain ⟨r1, e1, _⟩ := ckL_some (f := zq2o.u) (l := c.1) (i := 0) fun l hl => by
    obtain ⟨v, h1, _⟩ := check_law (h.ok l hl)
    show ((zq13.u l).bind fun y => some y.2).isSome = true
    rw [h1]; rfl
  obtain ⟨r2, e2, f2⟩ := ckL_some (f := fun x : Ch => some (zq0z.t x)) (l := c.2.1) (i := 0) fun l hl => rfl
  obtain ⟨r3, e3, f3⟩ := ckL_some (f := fun x : Bc => some (zq12.t x)) (l := c.2.2.1) (i := 0) fun l hl => rfl
  have s5 : c.2.2.1.length ≤ 8 → ∃ r, ckL (fun s : Sta => zq20.u s (List.length c.1 : Nat) (List.length c.2.2.1 : Nat)) c.2.2.2.2.1 0 = some r ∧ (r.2 = 0 → ∀ s ∈ c.2.2.2.2.1, zq20.u s (List.length c.1 : Nat) (List.length c.2.2.1 : Nat) = some 0) := fun hb =>
    ckL_some fun s hs => by
      obtain ⟨e, h1, _⟩ := start_ok s (List.length c.1 : Nat) (b := c.2.2.1.length) (by omega)
      show (zq20.u s (List.length c.1 : Nat) (List.length c.2.2.1 : Nat)).isSome = true
      rw [h1]; rfl
  have hv : ∃ v, goP (partsP c) = some v := by
    obtain ⟨y1, k1⟩ := manyP_some (n := (List.length c.1 : Nat)) (a := 1) (b := 8) e1
    refine goP_some k1 fun _ => ?_
    obtain ⟨y2, k2⟩ := manyP_some (n := (List.length c.2.1 : Nat)) (a := 0) (b := 8) e2
    refine goP_some k2 fun _ => ?_
    obtain ⟨y3, k3⟩ := manyP_some (n := (List.length c.2.2.1 : Nat)) (a := 0) (b := 8) e3
    refine goP_some k3 fun h0 => ?_
    obtain ⟨hb, _⟩ := manyP_ok k3 h0
    refine goP_some rfl fun _ => ?_
    obtain ⟨r5, e5, _⟩ := s5 (by omega)
    obtain ⟨y5, k5⟩ := manyP_some (n := (List.length c.2.2.2.2.1 : Nat)) (a := 1) (b := 16) e5
    exact goP_some k5 fun _ => ⟨_, rfl⟩
  obtain ⟨v, hv⟩ := hv
  refine ⟨v, hv, hv, fun h0 => ?_⟩
  obtain ⟨y1, k1, z1, hv⟩ := goP_step hv h0
  obtain ⟨y2, k2, z2, hv⟩ := goP_step hv h0
  obtain ⟨y3, k3, z3, hv⟩ := goP_step hv h0
  obtain ⟨y4, k4, z4, hv⟩ := goP_step hv h0
  obtain ⟨y5, k5, z5, hv⟩ := goP_step hv h0
  obtain ⟨n2, k2⟩ := manyP_ok k2 z2
  obtain ⟨n3, k3⟩ := manyP_ok k3 z3
  obtain ⟨n5, k5⟩ := manyP_ok k5 z5
  have hb : c.2.2.1.length ≤ 8 := by omega
  obtain ⟨r5, e5, f5⟩ := s5 hb
  rw [e2] at k2; cases k2
  rw [e3] at k3; cases k3
  rw [e5] at k5; cases k5
  have f2 := f2 z2
  have f3 := f3 z3
  have f5 := f5 z5
  refine ⟨⟨by omega, fun x hx => Option.some.inj (f2 x hx)⟩, ⟨hb, fun x hx => Option.some.inj (f3 x hx)⟩, ?_, ⟨by omega, fun s hs => ?_⟩⟩
  · cases k4
    have z4 : zq2j.t c.2.2.2.1 = 0 := z4
    unfold zq2j.t at z4
    by_cases h1 : c.2.2.2.1 < 0
    · rw [decide_eq_true h1] at z4; cases z4
    · by_cases h2 : c.2.2.2.1 > 4
      · rw [decide_eq_false h1, decide_eq_true h2] at z4; cases z4
      · omega
  · obtain ⟨e, h1, h2⟩ := start_ok s (List.length c.1 : Nat) (b := c.2.2.1.length) (by omega)
    rw [f5 s hs] at h1
    cases h1
    exact h2 rfl
theorem push_loop {α β Ω : Type} (g : List α → List β → Option Ω) (f : α → β) (k : List β → Option Ω) (h0 : ∀ a, g [] a = k a) (hs : ∀ x xs a, g (x :: xs) a = bif (decide (List.length a + List.length [f x] ≤ rowMax)) then g xs (a ++ [f x]) else none) :
    ∀ (xs : List α) (a : List β), a.length + xs.length ≤ 1000 → g xs a = k (a ++ xs.map f)
  | [], a, _ => by rw [h0]; simp
  | x :: xs, a, h => by
    simp only [List.length_cons] at h
    rw [hs, decide_eq_true (show List.length a + List.length [f x] ≤ rowMax by simp [rowMax]; omega), cond_true, push_loop g f k h0 hs xs _ (by simp; omega)]
    simp
theorem push_loop_i {α β Ω : Type} (g : List α → Int → List β → Option Ω) (f : α → β) (k : List β → Option Ω) (P : α → Prop) (h0 : ∀ i a, g [] i a = k a) (hs : ∀ x xs i a, P x → g (x :: xs) i a = bif (decide (List.length a + List.length [f x] ≤ rowMax)) then g xs (i + 1) (a ++ [f x]) else none) :
    ∀ (xs : List α) (i : Int) (a : List β), a.length + xs.length ≤ 1000 → (∀ x ∈ xs, P x) → g xs i a = k (a ++ xs.map f)
  | [], i, a, _, _ => by rw [h0]; simp
  | x :: xs, i, a, h, hp => by
    simp only [List.length_cons] at h
    rw [hs x xs i a (hp x (by simp)), decide_eq_true (show List.length a + List.length [f x] ≤ rowMax by simp [rowMax]; omega), cond_true, push_loop_i g f k P h0 hs xs _ _ (by simp; omega) (fun y hy => hp y (List.mem_cons_of_mem _ hy))]
    simp
theorem chan_new {x : Ch} (h : zq0z.t x = 0) : (zq1m.t x).2 = 0 := by unfold zq1m.t; rw [h]; rfl
theorem rchan_new {x : Ch} (h : zq0z.t x = 0) : (zq4w.t x).2 = 0 := by
  unfold zq4w.t
  rw [← chan_eq, h]
  show (bif (x.1 == 1) then _ else _ : _ × Int).2 = 0
  cases (x.1 == 1) <;> rfl
theorem bar_new {x : Bc} (h : zq12.t x = 0) : zq28.t x = ((x, (((List.replicate 4 0), ((List.replicate 4 0), ())), (0, ()))), 0) := by unfold zq28.t; rw [h]; rfl
theorem rbar_new {x : Bc} (h : zq12.t x = 0) : zq4y.t x = ((x, (([], ([], ())), (0, ()))), 0) := by unfold zq4y.t; rw [← bar_eq, h]; rfl
theorem chan_alike {x : Ch} (h : zq0z.t x = 0) : (zq1m.t x).1 = (zq4w.t x).1 := by
  have hk : 0 ≤ x.1 ∧ x.1 ≤ 3 := by
    unfold zq0z.t at h
    by_cases h1 : x.1 < 0
    · simp [h1] at h
    · by_cases h2 : x.1 > 3
      · simp [h1, h2] at h
      · omega
  obtain ⟨k, r⟩ := x
  have hk : 0 ≤ k ∧ k ≤ 3 := hk
  unfold zq1m.t zq4w.t
  rw [← chan_eq, h]
  have : k = 0 ∨ k = 1 ∨ k = 2 ∨ k = 3 := by omega
  rcases this with rfl | rfl | rfl | rfl <;> (show _ = _; kernel_rfl)
theorem chantab_new {l : List Ch} (hl : l.length ≤ 8) (h : ∀ x ∈ l, zq0z.t x = 0) : zq0y.u l = some (l.map (fun x => (zq1m.t x).1), 0, 0) ∧ zq4e.u l = some (l.map (fun x => (zq1m.t x).1), 0, 0) := by
  unfold zq0y.u zq0y.w zq4e.u zq4e.w
  rw [decide_eq_false (show ¬ ((List.length l : Nat) : Int) > 8 by omega), cond_false, cond_false, dec_len hl (by omega), cond_true, cond_true]
  constructor
  · rw [push_loop_i (zq0y.g0 l some) (fun x => (zq1m.t x).1) (fun a => some (a, 0, 0)) (fun x => zq0z.t x = 0) (fun _ _ => rfl) (fun x xs i a hx => ?_) l 0 [] (by simp; omega) h]
    · rfl
    · show (bif ((zq1m.t x).2 != 0) then _ else _) = _
      rw [chan_new hx]; rfl
  · rw [push_loop_i (zq4e.g0 l some) (fun x => (zq1m.t x).1) (fun a => some (a, 0, 0)) (fun x => zq0z.t x = 0) (fun _ _ => rfl) (fun x xs i a hx => ?_) l 0 [] (by simp; omega) h]
    · rfl
    · show (bif ((zq4w.t x).2 != 0) then _ else _) = _
      rw [rchan_new hx, chan_alike hx]; rfl
theorem bartab_new {l : List Bc} (hl : l.length ≤ 8) (h : ∀ x ∈ l, zq12.t x = 0) : zq14.u l = some (l.map (fun x => (x, (((List.replicate 4 0), ((List.replicate 4 0), ())), (0, ())))), 0, 0) ∧ zq4c.u l = some (l.map (fun x => (x, (([], ([], ())), (0, ())))), 0, 0) := by
  unfold zq14.u zq14.w zq4c.u zq4c.w
  rw [decide_eq_false (show ¬ ((List.length l : Nat) : Int) > 8 by omega), cond_false, cond_false, dec_len hl (by omega), cond_true, cond_true]
  constructor
  · rw [push_loop_i (zq14.g0 l some) (fun x => (x, (((List.replicate 4 0), ((List.replicate 4 0), ())), (0, ())))) (fun a => some (a, 0, 0)) (fun x => zq12.t x = 0) (fun _ _ => rfl) (fun x xs i a hx => ?_) l 0 [] (by simp; omega) h]
    · rfl
    · show (bif ((zq28.t x).2 != 0) then _ else bif (decide (List.length a + List.length [(zq28.t x).1] ≤ rowMax)) then zq14.g0 l some xs (i + 1) (a ++ [(zq28.t x).1]) else none) = _
      rw [bar_new hx]; rfl
  · rw [push_loop_i (zq4c.g0 l some) (fun x => (x, (([], ([], ())), (0, ())))) (fun a => some (a, 0, 0)) (fun x => zq12.t x = 0) (fun _ _ => rfl) (fun x xs i a hx => ?_) l 0 [] (by simp; omega) h]
    · rfl
    · show (bif ((zq4y.t x).2 != 0) then _ else bif (decide (List.length a + List.length [(zq4y.t x).1] ≤ rowMax)) then zq4c.g0 l some xs (i + 1) (a ++ [(zq4y.t x).1]) else none) = _
      rw [rbar_new hx]; rfl
theorem from19 {l : List _} (hl : l.length ≤ 1000) : zq19.u l = some l := by
  unfold zq19.u zq19.w
  rw [dec_len hl (by omega), cond_true, push_loop (zq19.g0 l some) zq2h.t some (fun _ => rfl) (fun x xs a => rfl) l [] (by simpa using hl)]
  have : (fun x => zq2h.t x) = id := by funext x; rfl
  show some ([] ++ l.map (fun x => zq2h.t x)) = _
  rw [this]; simp
theorem from31 {l : List _} (hl : l.length ≤ 1000) : zq17.u l = some l := by
  unfold zq17.u zq17.w
  rw [dec_len hl (by omega), cond_true, push_loop (zq17.g0 l some) id some (fun _ => rfl) (fun x xs a => rfl) l [] (by simpa using hl)]
  simp
def wd (s : List Int) (i : Nat) : Nat := (s.getD i 0).toNat
def bit (s : List Int) (j : Nat) : Bool := (wd s (j / 64)).testBit (j % 64)
structure SetOK (s : List Int) : Prop where
  len : s.length = 4
  lo : ∀ i, 0 ≤ s.getD i 0
  hi : ∀ i, s.getD i 0 < 18446744073709551616
theorem SetOK.wd {s : List Int} (h : SetOK s) (i : Nat) : s.getD i 0 = (wd s i : Int) ∧ wd s i < 18446744073709551616 := by
  have h1 := h.lo i
  have h2 := h.hi i
  unfold K.wd
  omega
theorem ctz_bits {x : Nat} (h0 : 0 < x) (h1 : x < 18446744073709551616) : Lib.ctz 64 x < 64 ∧ x.testBit (Lib.ctz 64 x) = true ∧ ∀ i, i < Lib.ctz 64 x → x.testBit i = false := by
  obtain ⟨m, hm, ht⟩ := Lib.ctzFrom_spec 64 x h0 h1
  have e : Lib.ctz 64 x = Lib.ctzFrom 64 x := by unfold Lib.ctz; rw [if_neg (by omega)]
  rw [e]
  refine ⟨ht, ?_, fun i hi => ?_⟩
  · rw [hm]
    have : Lib.ctzFrom 64 (2 ^ Lib.ctzFrom 64 x * (2 * m + 1)) = Lib.ctzFrom 64 x := by rw [← hm]
    rw [this, Nat.testBit_two_pow_mul]
    simp
  · have h2 := congrArg (fun y => y.testBit i) hm
    simp only [Nat.testBit_two_pow_mul] at h2
    rw [h2]
    simp; omega
theorem mask_eq {w r : Nat} (hw : w < 18446744073709551616) (hr : r < 64) : IntKind.wrap .u64 ((Int.fdiv (w : Int) (2 ^ (min (Int.toNat (r : Int)) (IntKind.bits .u64)))) * (2 ^ (min (Int.toNat (r : Int)) (IntKind.bits .u64)))) = ((2 ^ r * (w / 2 ^ r) : Nat) : Int) := by
  have e : min (Int.toNat (r : Int)) (IntKind.bits .u64) = r := by
    show min _ 64 = r
    omega
  rw [e]
  have e2 : ((2 : Int) ^ r) = ((2 ^ r : Nat) : Int) := by simp
  rw [e2]
  have e3 : Int.fdiv (w : Int) ((2 ^ r : Nat) : Int) = ((w / 2 ^ r : Nat) : Int) := by
    rw [Int.fdiv_eq_ediv_of_nonneg _ (Int.natCast_nonneg _)]; exact (Int.natCast_ediv _ _).symm
  rw [e3, ← Int.natCast_mul, IntKind.wrap_u64]
  have := Nat.div_mul_le_self w (2 ^ r)
  rw [Nat.mul_comm (2 ^ r)]
  omega
theorem mask_bit (w r i : Nat) : (2 ^ r * (w / 2 ^ r)).testBit i = (decide (r ≤ i) && w.testBit i) := by
  rw [Nat.testBit_two_pow_mul, Nat.testBit_div_two_pow]
  by_cases h : r ≤ i
  · simp [h, show i - r + r = i by omega, show r + (i - r) = i by omega]
  · simp [h]
structure NextIs (s : List Int) (n : Nat) (r : Int × Bool) : Prop where
  yes : r.2 = true → ∃ j : Nat, r.1 = j ∧ n ≤ j ∧ j < 256 ∧ bit s j = true ∧ ∀ i, n ≤ i → i < j → bit s i = false
  no : r.2 = false → r.1 = 0 ∧ ∀ i, n ≤ i → i < 256 → bit s i = false
theorem tz_u {x : Nat} (h : x < 18446744073709551616) : zq1h.u (x : Int) = some ((Lib.ctz 64 x : Nat) : Int) := by
  unfold zq1h.u
  rw [decide_eq_true (by omega), decide_eq_true (by omega)]
  rfl
theorem next_g {s : List Int} (hs : SetOK s) {n : Nat} (hn : n ≤ 256) : ∀ (d i : Nat), i + d = 4 → n / 64 ≤ i → (∀ j, n ≤ j → j < 64 * i → bit s j = false) → ∃ r, zq0v.g0 (n : Int) s some d (i : Int) = some r ∧ NextIs s n r
  | 0, i, hi, _, hb => by
    refine ⟨(0, false), rfl, ⟨fun h => (by cases h), fun _ => ⟨rfl, fun j h1 h2 => hb j h1 (by omega)⟩⟩⟩
  | d + 1, i, hi, hq, hb => by
    obtain ⟨hw, hw2⟩ := hs.wd i
    have eq : (IntKind.wrap .i64 (Int.tdiv (n : Int) 64)) = ((n / 64 : Nat) : Int) := by
      rw [show Int.tdiv (n : Int) 64 = ((n / 64 : Nat) : Int) from rfl, wrapN (by omega)]
    have er : Int.tmod (n : Int) 64 = ((n % 64 : Nat) : Int) := rfl
    obtain ⟨m, hm, hm2, hmb⟩ : ∃ m : Nat, ((bif ((i : Int) == (IntKind.wrap .i64 (Int.tdiv (n : Int) 64))) then (bif (decide ((0 : Int) ≤ (Int.tmod (n : Int) 64))) then (let v1 : Int := (Int.fdiv (List.getD s (Int.toNat (i : Int)) 0) (2 ^ (min (Int.toNat (Int.tmod (n : Int) 64)) (IntKind.bits .u64)))); (bif (decide ((0 : Int) ≤ (Int.tmod (n : Int) 64))) then some ((IntKind.wrap .u64 (v1 * (2 ^ (min (Int.toNat (Int.tmod (n : Int) 64)) (IntKind.bits .u64))))), ()) else none)) else none) else some ((List.getD s (Int.toNat (i : Int)) 0), ())) : Option (Int × Unit)) = some ((m : Int), ()) ∧ m < 18446744073709551616 ∧ ∀ t, t < 64 → m.testBit t = (decide (n ≤ 64 * i + t) && (wd s i).testBit t) := by
      rw [eq, er, Int.toNat_natCast]
      by_cases h : i = n / 64
      · rw [show ((i : Int) == ((n / 64 : Nat) : Int)) = true by rw [h]; simp, cond_true, decide_eq_true (Int.natCast_nonneg _), cond_true, hw]
        refine ⟨2 ^ (n % 64) * (wd s i / 2 ^ (n % 64)), ?_, ?_, fun t ht => ?_⟩
        · show some (IntKind.wrap .u64 _, ()) = _
          rw [mask_eq hw2 (by omega)]
        · have := Nat.div_mul_le_self (wd s i) (2 ^ (n % 64))
          rw [Nat.mul_comm]
          omega
        · rw [mask_bit]
          congr 1
          by_cases h3 : n % 64 ≤ t
          · rw [decide_eq_true h3, decide_eq_true (by omega)]
          · rw [decide_eq_false h3, decide_eq_false (by omega)]
      · rw [show ((i : Int) == ((n / 64 : Nat) : Int)) = false by simp; omega, cond_false, hw]
        exact ⟨wd s i, rfl, hw2, fun t ht => by rw [decide_eq_true (by omega)]; rfl⟩
    unfold zq0v.g0
    rw [idxOK_nat (by omega), cond_true, hm, Option.bind_some]
    have bit_at : ∀ t, t < 64 → bit s (64 * i + t) = (wd s i).testBit t := fun t ht => by
      unfold bit
      rw [show (64 * i + t) / 64 = i by omega, show (64 * i + t) % 64 = t by omega]
    by_cases h0 : m = 0
    · rw [show ((((m : Int), ()) : Int × Unit).1 != 0) = false by simp [h0], cond_false]
      have := next_g hs hn d (i + 1) (by omega) (by omega) fun j h1 h2 => by
        by_cases h3 : j < 64 * i
        · exact hb j h1 h3
        · have h4 := hmb (j - 64 * i) (by omega)
          rw [h0, Nat.zero_testBit, show 64 * i + (j - 64 * i) = j by omega, decide_eq_true h1, Bool.true_and, ← bit_at _ (by omega), show 64 * i + (j - 64 * i) = j by omega] at h4
          exact h4.symm
      rw [show (((i + 1 : Nat)) : Int) = (i : Int) + 1 by omega] at this
      exact this
    · rw [show ((((m : Int), ()) : Int × Unit).1 != 0) = true by simp [h0], cond_true]
      obtain ⟨c1, c2, c3⟩ := ctz_bits (Nat.pos_of_ne_zero h0) hm2
      show ∃ r, ((zq1h.u (m : Int)).bind fun y3 => some ((IntKind.wrap .i64 ((IntKind.wrap .i64 ((i : Int) * 64)) + y3)), true)) = some r ∧ _
      rw [tz_u hm2, Option.bind_some]
      refine ⟨_, rfl, ⟨fun _ => ⟨64 * i + Lib.ctz 64 m, ?_, ?_, by omega, ?_, fun j h1 h2 => ?_⟩, fun h => (by cases h)⟩⟩
      · show IntKind.wrap .i64 (IntKind.wrap .i64 ((i : Int) * 64) + _) = _
        rw [wrapN (x := (i : Int) * 64) (by omega), wrapN (by omega)]
        omega
      · have := hmb _ c1
        rw [c2] at this
        have := (Bool.and_eq_true_iff.1 this.symm).1
        simpa using this
      · have := hmb _ c1
        rw [c2] at this
        rw [bit_at _ c1]
        exact (Bool.and_eq_true_iff.1 this.symm).2
      · by_cases h3 : j < 64 * i
        · exact hb j h1 h3
        · have h4 := hmb (j - 64 * i) (by omega)
          rw [c3 _ (by omega), show 64 * i + (j - 64 * i) = j by omega, decide_eq_true h1, Bool.true_and, ← bit_at _ (by omega), show 64 * i + (j - 64 * i) = j by omega] at h4
          exact h4.symm
theorem next_u {s : List Int} (hs : SetOK s) {n : Nat} (hn : n ≤ 256) : ∃ r, zq0v.u s (n : Int) = some r ∧ NextIs s n r := by
  have eq : (IntKind.wrap .i64 (Int.tdiv (n : Int) 64)) = ((n / 64 : Nat) : Int) := by
    rw [show Int.tdiv (n : Int) 64 = ((n / 64 : Nat) : Int) from rfl, wrapN (by omega)]
  unfold zq0v.u zq0v.w
  rw [if_neg (show ¬ (0 : Int) > (n : Int) by omega), eq, decide_eq_true (Int.natCast_nonneg _), cond_true, show Int.toNat ((4 : Int) - ((n / 64 : Nat) : Int)) = 4 - n / 64 by omega]
  exact next_g hs hn (4 - n / 64) (n / 64) (by omega) (Nat.le_refl _) fun j h1 h2 => by omega
def numsF (s : List Int) (n : Nat) : List Nat := (List.range' n (256 - n)).filter (bit s)
def nums (s : List Int) : List Int := (numsF s 0).map fun j : Nat => (j : Int)
theorem numsF_none {s : List Int} {n : Nat} (h : ∀ i, n ≤ i → i < 256 → bit s i = false) : numsF s n = [] := by
  unfold numsF
  rw [List.filter_eq_nil_iff]
  intro j hj
  rw [List.mem_range'_1] at hj
  rw [h j hj.1 (by omega)]
  simp
theorem numsF_cons {s : List Int} {n j : Nat} (h1 : n ≤ j) (h2 : j < 256) (h3 : bit s j = true) (h4 : ∀ i, n ≤ i → i < j → bit s i = false) : numsF s n = j :: numsF s (j + 1) := by
  unfold numsF
  have e : List.range' n (256 - n) = List.range' n (j - n) ++ (j :: List.range' (j + 1) (256 - (j + 1))) := by
    rw [← List.range'_succ, show 256 - (j + 1) + 1 = 256 - j by omega]
    have := List.range'_append_1 (s := n) (m := j - n) (n := 256 - j)
    rw [show n + (j - n) = j by omega, show j - n + (256 - j) = 256 - n by omega] at this
    exact this.symm
  rw [e, List.filter_append, List.filter_cons_of_pos h3]
  have : (List.range' n (j - n)).filter (bit s) = [] := by
    rw [List.filter_eq_nil_iff]
    intro i hi
    rw [List.mem_range'_1] at hi
    rw [h4 i hi.1 (by omega)]
    simp
  rw [this, List.nil_append]
theorem bits_u {s : List Int} (hs : SetOK s) : ∀ (k n : Nat), n ≤ 256 → 256 - n < k → bitsU k s (n : Int) = some ((numsF s n).map fun j : Nat => (j : Int))
  | 0, _, _, h => by omega
  | k + 1, n, hn, hk => by
    obtain ⟨r, hr, hy, hno⟩ := next_u hs hn
    unfold bitsU
    rw [hr, Option.bind_some]
    cases h2 : r.2 with
    | false =>
      rw [numsF_none (hno h2).2]; rfl
    | true =>
      obtain ⟨j, e1, l1, l2, b1, b2⟩ := hy h2
      rw [cond_true, numsF_cons l1 l2 b1 b2, e1, wrapN (by omega), show (j : Int) + 1 = ((j + 1 : Nat) : Int) by omega, bits_u hs k (j + 1) (by omega) (by omega)]
      rfl
theorem nums_len (s : List Int) : (nums s).length ≤ 256 := by
  unfold nums numsF
  rw [List.length_map]
  have := List.length_filter_le (bit s) (List.range' 0 (256 - 0))
  simpa using this
theorem list_u {s : List Int} (hs : SetOK s) : zq2m.u s = some (nums s) := by
  unfold zq2m.u
  have h := bits_u hs 300 0 (by omega) (by omega)
  have hl := nums_len s
  rw [show ((0 : Nat) : Int) = 0 from rfl] at h
  rw [h, Option.bind_some]
  show (bif decide (s.length = 4) && decide ((nums s).length ≤ 4294967296) then some (nums s) else none) = _
  rw [decide_eq_true hs.len, decide_eq_true (by omega)]
  rfl
theorem ofInt_nat {w : Nat} (h : w < 18446744073709551616) : (BitVec.ofInt (IntKind.bits .u64) (w : Int)).toNat = w := by
  show (BitVec.ofInt 64 (w : Int)).toNat = w
  rw [BitVec.ofInt_natCast, BitVec.toNat_ofNat]
  exact Nat.mod_eq_of_lt (by omega)
theorem or_u64 {a b : Nat} (ha : a < 18446744073709551616) (hb : b < 18446744073709551616) : IntKind.wrap .u64 ((BitVec.ofInt (IntKind.bits .u64) (a : Int) ||| BitVec.ofInt (IntKind.bits .u64) (b : Int)).toNat : Int) = ((a ||| b : Nat) : Int) ∧ a ||| b < 18446744073709551616 := by
  have h : a ||| b < 2 ^ 64 := Nat.or_lt_two_pow (by omega) (by omega)
  rw [BitVec.toNat_or, ofInt_nat ha, ofInt_nat hb, IntKind.wrap_u64]
  omega
theorem and_u64 {a b : Nat} (ha : a < 18446744073709551616) (hb : b < 18446744073709551616) : IntKind.wrap .u64 ((BitVec.ofInt (IntKind.bits .u64) (a : Int) &&& BitVec.ofInt (IntKind.bits .u64) (b : Int)).toNat : Int) = ((a &&& b : Nat) : Int) ∧ a &&& b < 18446744073709551616 := by
  have h : a &&& b < 2 ^ 64 := Nat.and_lt_two_pow _ (by omega)
  rw [BitVec.toNat_and, ofInt_nat ha, ofInt_nat hb, IntKind.wrap_u64]
  omega
theorem pow_lt64 {r : Nat} (hr : r < 64) : (2 : Nat) ^ r < 18446744073709551616 := Nat.lt_of_lt_of_le (Nat.pow_lt_pow_right (by omega) hr) (by decide)
theorem add_u {s : List Int} (hs : SetOK s) {p : Nat} (hp : p < 256) : ∃ s', zq39.u s (p : Int) = some s' ∧ SetOK s' ∧ ∀ j, j < 256 → bit s' j = (bit s j || decide (j = p)) := by
  have eq : (IntKind.wrap .i64 (Int.tdiv (p : Int) 64)) = ((p / 64 : Nat) : Int) := by
    rw [show Int.tdiv (p : Int) 64 = ((p / 64 : Nat) : Int) from rfl, wrapN (by omega)]
  have er : Int.tmod (p : Int) 64 = ((p % 64 : Nat) : Int) := rfl
  have hf : zq2l.t (p : Int) = true := by
    unfold zq2l.t
    rw [decide_eq_true (show (p : Int) ≥ 0 by omega), cond_true, decide_eq_true (by omega)]
  obtain ⟨hw, hw2⟩ := hs.wd (p / 64)
  have hpw := pow_lt64 (show p % 64 < 64 by omega)
  have e1 : IntKind.wrap .u64 ((1 : Int) * (2 ^ (min (Int.toNat ((p % 64 : Nat) : Int)) (IntKind.bits .u64)))) = ((2 ^ (p % 64) : Nat) : Int) := by
    rw [show min (Int.toNat ((p % 64 : Nat) : Int)) (IntKind.bits .u64) = p % 64 by show min _ 64 = _; omega, Int.one_mul, show ((2 : Int) ^ (p % 64)) = ((2 ^ (p % 64) : Nat) : Int) by simp, IntKind.wrap_u64]
    generalize (2 : Nat) ^ (p % 64) = z at hpw ⊢
    omega
  obtain ⟨o1, o2⟩ := or_u64 hw2 hpw
  unfold zq39.u zq39.s
  rw [hf, cond_true, eq, idxOK_nat (by omega), cond_true, er, decide_eq_true (Int.natCast_nonneg _), cond_true, e1, Int.toNat_natCast, hw]
  show ∃ s', some (List.set s (p / 64) _) = some s' ∧ _
  rw [o1]
  have get : ∀ i, (List.set s (p / 64) ((wd s (p / 64) ||| 2 ^ (p % 64) : Nat) : Int)).getD i 0 = if i = p / 64 then ((wd s (p / 64) ||| 2 ^ (p % 64) : Nat) : Int) else s.getD i 0 := fun i => by
    simp only [List.getD_eq_getElem?_getD, List.getElem?_set]
    by_cases h : p / 64 = i
    · subst h
      rw [if_pos rfl, if_pos (by rw [hs.len]; omega), if_pos rfl]; rfl
    · rw [if_neg h, if_neg (Ne.symm h)]
  refine ⟨_, rfl, ⟨by rw [List.length_set]; exact hs.len, fun i => ?_, fun i => ?_⟩, fun j hj => ?_⟩
  · rw [get]; split
    · exact Int.natCast_nonneg _
    · exact hs.lo i
  · rw [get]; split
    · omega
    · exact hs.hi i
  · have hb : bit (List.set s (p / 64) ((wd s (p / 64) ||| 2 ^ (p % 64) : Nat) : Int)) j = ((List.getD (List.set s (p / 64) ((wd s (p / 64) ||| 2 ^ (p % 64) : Nat) : Int)) (j / 64) 0).toNat).testBit (j % 64) := rfl
    rw [hb, get]
    unfold bit
    by_cases h : j / 64 = p / 64
    · rw [if_pos h, Int.toNat_natCast, Nat.testBit_or, Nat.testBit_two_pow, h]
      congr 1
      rw [Bool.eq_iff_iff, decide_eq_true_iff, decide_eq_true_iff]
      omega
    · rw [if_neg h, decide_eq_false (show ¬ j = p by intro e; exact h (by rw [e])), Bool.or_false]; rfl
theorem has_u {s : List Int} (hs : SetOK s) {p : Nat} (hp : p < 256) : zq3x.u s (p : Int) = some (bit s p) := by
  have eq : (IntKind.wrap .i64 (Int.tdiv (p : Int) 64)) = ((p / 64 : Nat) : Int) := by
    rw [show Int.tdiv (p : Int) 64 = ((p / 64 : Nat) : Int) from rfl, wrapN (by omega)]
  have er : Int.tmod (p : Int) 64 = ((p % 64 : Nat) : Int) := rfl
  have hf : zq2l.t (p : Int) = true := by
    unfold zq2l.t
    rw [decide_eq_true (show (p : Int) ≥ 0 by omega), cond_true, decide_eq_true (by omega)]
  obtain ⟨hw, hw2⟩ := hs.wd (p / 64)
  have e3 : Int.fdiv ((wd s (p / 64) : Nat) : Int) (2 ^ (min (Int.toNat ((p % 64 : Nat) : Int)) (IntKind.bits .u64))) = ((wd s (p / 64) / 2 ^ (p % 64) : Nat) : Int) := by
    rw [show min (Int.toNat ((p % 64 : Nat) : Int)) (IntKind.bits .u64) = p % 64 by show min _ 64 = _; omega, show ((2 : Int) ^ (p % 64)) = ((2 ^ (p % 64) : Nat) : Int) by simp, Int.fdiv_eq_ediv_of_nonneg _ (Int.natCast_nonneg _)]
    exact (Int.natCast_ediv _ _).symm
  have hd : wd s (p / 64) / 2 ^ (p % 64) < 18446744073709551616 := Nat.lt_of_le_of_lt (Nat.div_le_self _ _) hw2
  unfold zq3x.u zq3x.s
  rw [hf, cond_true, eq, idxOK_nat (by omega), cond_true, er, decide_eq_true (Int.natCast_nonneg _), cond_true, Int.toNat_natCast, hw, e3]
  show some (IntKind.wrap .u64 ((BitVec.ofInt (IntKind.bits .u64) ((wd s (p / 64) / 2 ^ (p % 64) : Nat) : Int) &&& BitVec.ofInt (IntKind.bits .u64) ((1 : Nat) : Int)).toNat : Int) == 1) = _
  rw [(and_u64 hd (by omega)).1]
  unfold bit
  congr 1
  rw [Nat.testBit, Nat.shiftRight_eq_div_pow, Nat.and_comm]
  have : 1 &&& (wd s (p / 64) / 2 ^ (p % 64)) = (wd s (p / 64) / 2 ^ (p % 64)) % 2 := by rw [Nat.and_comm]; exact Nat.and_one_is_mod _
  rw [this]
  have h2 := Nat.mod_two_eq_zero_or_one (wd s (p / 64) / 2 ^ (p % 64))
  rcases h2 with h2 | h2 <;> rw [h2] <;> rfl
def andn (x y : Nat) : Nat := (BitVec.ofInt (IntKind.bits .u64) (x : Int) &&& ~~~BitVec.ofInt (IntKind.bits .u64) (y : Int)).toNat
theorem andn_lt (x y : Nat) : andn x y < 18446744073709551616 := (BitVec.ofInt (IntKind.bits .u64) (x : Int) &&& ~~~BitVec.ofInt (IntKind.bits .u64) (y : Int)).isLt
theorem less1 (x y : Nat) : zq1y.t (x : Int) (y : Int) = ((andn x y : Nat) : Int) := by
  show IntKind.wrap .u64 ((andn x y : Nat) : Int) = _
  have := andn_lt x y
  rw [IntKind.wrap_u64]
  omega
theorem andn_bit {x y : Nat} (hx : x < 18446744073709551616) (hy : y < 18446744073709551616) {i : Nat} (hi : i < 64) : (andn x y).testBit i = (x.testBit i && !y.testBit i) := by
  unfold andn
  have ex : (BitVec.ofInt (IntKind.bits .u64) (x : Int)).getLsbD i = x.testBit i := by rw [BitVec.getLsbD, ofInt_nat hx]
  have ey : (BitVec.ofInt (IntKind.bits .u64) (y : Int)).getLsbD i = y.testBit i := by rw [BitVec.getLsbD, ofInt_nat hy]
  have h : (BitVec.ofInt (IntKind.bits .u64) (x : Int) &&& ~~~BitVec.ofInt (IntKind.bits .u64) (y : Int)).getLsbD i = (x.testBit i && !y.testBit i) := by
    rw [BitVec.getLsbD_and, BitVec.getLsbD_not, ex, ey]
    show (_ && (decide (i < 64) && _)) = _
    rw [decide_eq_true hi, Bool.true_and]
  exact h
theorem bits_zero {x : Nat} (hx : x < 18446744073709551616) (h : ∀ i, i < 64 → x.testBit i = false) : x = 0 := by
  apply Nat.eq_of_testBit_eq
  intro i
  rw [Nat.zero_testBit]
  by_cases hi : i < 64
  · exact h i hi
  · exact Nat.testBit_lt_two_pow (Nat.lt_of_lt_of_le hx (by
      have : 2 ^ 64 ≤ 2 ^ i := Nat.pow_le_pow_right (by omega) (by omega)
      exact this))
theorem sub_u {s t : List Int} (hs : SetOK s) (ht : SetOK t) : ∃ b, zq3a.u s t = some b ∧ (b = true ↔ ∀ j, j < 256 → bit s j = true → bit t j = true) := by
  obtain ⟨a0, a1, a2, a3, rfl⟩ : ∃ a b c d, s = [a, b, c, d] := by
    match s, hs.len with
    | [a, b, c, d], _ => exact ⟨a, b, c, d, rfl⟩
  obtain ⟨b0, b1, b2, b3, rfl⟩ : ∃ a b c d, t = [a, b, c, d] := by
    match t, ht.len with
    | [a, b, c, d], _ => exact ⟨a, b, c, d, rfl⟩
  have e : zq3a.u [a0, a1, a2, a3] [b0, b1, b2, b3] = some (zq1y.t a0 b0 == 0 && (zq1y.t a1 b1 == 0 && (zq1y.t a2 b2 == 0 && (zq1y.t a3 b3 == 0 && true)))) := by kernel_rfl
  refine ⟨_, e, ?_⟩
  have word : ∀ i, i < 4 → ((zq1y.t ([a0, a1, a2, a3].getD i 0) ([b0, b1, b2, b3].getD i 0) == 0) = true ↔ ∀ r, r < 64 → bit [a0, a1, a2, a3] (64 * i + r) = true → bit [b0, b1, b2, b3] (64 * i + r) = true) := fun i hi => by
    obtain ⟨w1, w2⟩ := hs.wd i
    obtain ⟨v1, v2⟩ := ht.wd i
    rw [w1, v1, less1]
    have at_ : ∀ (q : List Int) r, r < 64 → bit q (64 * i + r) = (wd q i).testBit r := fun q r hr => by
      unfold bit
      rw [show (64 * i + r) / 64 = i by omega, show (64 * i + r) % 64 = r by omega]
    constructor
    · intro h r hr hb
      rw [at_ _ _ hr] at hb ⊢
      have h0 : andn (wd [a0, a1, a2, a3] i) (wd [b0, b1, b2, b3] i) = 0 := by
        have := of_decide_eq_true (show decide (((andn (wd [a0, a1, a2, a3] i) (wd [b0, b1, b2, b3] i) : Nat) : Int) = 0) = true by simpa using h)
        omega
      have := andn_bit w2 v2 hr
      rw [h0, Nat.zero_testBit, hb, Bool.true_and] at this
      simpa using this.symm
    · intro h
      have h0 : andn (wd [a0, a1, a2, a3] i) (wd [b0, b1, b2, b3] i) = 0 := bits_zero (andn_lt _ _) fun r hr => by
        rw [andn_bit w2 v2 hr]
        cases hb : (wd [a0, a1, a2, a3] i).testBit r with
        | false => rfl
        | true =>
          have := h r hr (by rw [at_ _ _ hr]; exact hb)
          rw [at_ _ _ hr] at this
          rw [this]; rfl
      rw [h0]; rfl
  have w0 := word 0 (by omega)
  have w1 := word 1 (by omega)
  have w2 := word 2 (by omega)
  have w3 := word 3 (by omega)
  simp only [Bool.and_eq_true, Bool.and_true]
  constructor
  · rintro ⟨h0, h1, h2, h3⟩ j hj hb
    have k : j / 64 = 0 ∨ j / 64 = 1 ∨ j / 64 = 2 ∨ j / 64 = 3 := by omega
    have ej : j = 64 * (j / 64) + j % 64 := by omega
    rcases k with k | k | k | k <;> rw [k] at ej <;> rw [ej] at hb ⊢
    · exact w0.1 h0 _ (by omega) hb
    · exact w1.1 h1 _ (by omega) hb
    · exact w2.1 h2 _ (by omega) hb
    · exact w3.1 h3 _ (by omega) hb
  · intro h
    exact ⟨w0.2 fun r hr hb => h _ (by omega) hb, w1.2 fun r hr hb => h _ (by omega) hb, w2.2 fun r hr hb => h _ (by omega) hb, w3.2 fun r hr hb => h _ (by omega) hb⟩
abbrev Gd : Type := Int × (Int × (Int × (Int × (Int × Unit))))
abbrev Pr : Type := Int × (Bool × (Int × (Fr × (Int × (Int × (Int × (List Gd × Unit)))))))
def fr0 : Fr := (0, (false, ((List.replicate 8 0), ((List.replicate 16 0), (0, ((List.replicate 8 0), ()))))))
def frN (a : Int) : Fr := (0, (false, ((List.set (List.replicate 8 0) 0 a), ((List.replicate 16 0), (0, ((List.replicate 8 0), ()))))))
def pr0 : Pr := (0, (false, (0, (fr0, (0, (0, (0, ([], ()))))))))
def prN (s : Sta) : Pr := (1, (true, (s.1, (frN s.2.1, (0, (0, (0, ([], ()))))))))
def tabP (l : List Sta) : List Pr := l.map prN ++ List.replicate (16 - l.length) pr0
theorem frN_ok (a : Int) : FrOK (frN a) := ⟨rfl, rfl, rfl⟩
theorem frN_fine {a : Int} (h : zq1j.t a = true) : FrFine (frN a) = true := by
  unfold FrFine frN
  simp only [List.replicate, List.set, List.all_cons, List.all_nil, h, fine0]
  rfl
theorem one0 : zq3t.u pr0 = some true := by kernel_rfl
theorem oneN {s : Sta} (h : zq1j.t s.2.1 = true) : zq3t.u (prN s) = some true := by
  have e : zq3t.u (prN s) = (zq3s.u (frN s.2.1)).bind fun y2 => bif y2 then some (eqI .bool ((0 : Int) == 1) (decide (((List.length ([] : List Gd) : Nat) : Int) > 0))) else some false := rfl
  rw [e, frame_fine (frN_ok _), frN_fine h]
  rfl
theorem fine_g (e : List Pr) (he : e.length = 16) : ∀ xs : List Pr, (∀ x ∈ xs, zq3t.u x = some true) → zq0s.g0 e some xs = some true
  | [], _ => by
    show some (((List.length e : Nat) : Int) == 16) = _
    rw [he]; rfl
  | x :: xs, h => by
    show (zq3t.u x).bind _ = _
    rw [h x (by simp)]
    exact fine_g e he xs fun y hy => h y (List.mem_cons_of_mem _ hy)
theorem pfine {T : List Pr} (hl : T.length = 16) (h : ∀ x ∈ T, zq3t.u x = some true) : zq0s.u T = some true := by
  unfold zq0s.u zq0s.w
  rw [dec_len (n := 16) (by omega) (by omega), cond_true]
  exact fine_g T hl T h
theorem tabP_len {l : List Sta} (h : l.length ≤ 16) : (tabP l).length = 16 := by unfold tabP; simp; omega
theorem tabP_mem {l : List Sta} {x : Pr} (h : x ∈ tabP l) : (∃ s ∈ l, x = prN s) ∨ x = pr0 := by
  unfold tabP at h
  rcases List.mem_append.1 h with h | h
  · obtain ⟨s, hs, rfl⟩ := List.mem_map.1 h; exact .inl ⟨s, hs, rfl⟩
  · exact .inr (List.eq_of_mem_replicate h)
theorem tab_fine {l : List Sta} (hl : l.length ≤ 16) (h : ∀ s ∈ l, zq1j.t s.2.1 = true) : zq0s.u (tabP l) = some true :=
  pfine (tabP_len hl) fun x hx => by
    rcases tabP_mem hx with ⟨s, hs, rfl⟩ | rfl
    · exact oneN (h s hs)
    · exact one0
theorem copyL_all {α : Type} {xs ys : List α} (h : xs.length = ys.length) : copyL xs ys = ys := by
  unfold copyL
  rw [h, List.take_length, ← h, List.drop_length, List.append_nil]
theorem with_u {T : List Pr} (hl : T.length = 16) {i : Nat} (hi : i < 16) (x : Pr) : zq3u.u T (i : Int) x = some (T.set i x) := by
  unfold zq3u.u zq3u.s
  rw [copyL_all (by simp), idxOK_nat (by omega), hl]
  rfl
theorem tabP_set {l : List Sta} {s : Sta} (hl : l.length < 16) : (tabP l).set l.length (prN s) = tabP (l ++ [s]) := by
  unfold tabP
  rw [show 16 - l.length = (16 - (l ++ [s]).length) + 1 by simp; omega, List.replicate_succ, List.set_append_right _ _ (by simp)]
  simp
theorem new_fr {a : Int} (h : zq1j.t a = true) : zq2v.t a = (frN a, 0) ∧ zq57.t a = (frN a, 0) := by
  unfold zq2v.t zq57.t
  rw [fine_eq, h]
  exact ⟨rfl, rfl⟩
theorem make_ok {i : Nat} (hi : i < 16) : ∃ h, zq23.t (i : Int) (IntKind.wrap .i64 ((0 : Int) + 1)) = (h, 0) := by
  have key : (zq23.t (i : Int) (IntKind.wrap .i64 ((0 : Int) + 1))).2 = 0 := by
    have : i = 0 ∨ i = 1 ∨ i = 2 ∨ i = 3 ∨ i = 4 ∨ i = 5 ∨ i = 6 ∨ i = 7 ∨ i = 8 ∨ i = 9 ∨ i = 10 ∨ i = 11 ∨ i = 12 ∨ i = 13 ∨ i = 14 ∨ i = 15 := by omega
    rcases this with rfl | rfl | rfl | rfl | rfl | rfl | rfl | rfl | rfl | rfl | rfl | rfl | rfl | rfl | rfl | rfl <;> decide
  exact ⟨(zq23.t (i : Int) (IntKind.wrap .i64 ((0 : Int) + 1))).1, Prod.ext rfl key⟩
theorem spawn_skip (T R : List Pr) (p a : Int) : ∀ (l : List Sta) (i : Int), zq0x.g0 T p a some (l.map prN ++ R) i = zq0x.g0 T p a some R (i + (l.length : Nat))
  | [], i => by simp
  | s :: l, i => by
    show zq0x.g0 T p a some (l.map prN ++ R) (i + 1) = _
    rw [spawn_skip T R p a l (i + 1)]
    congr 1
    simp only [List.length_cons]
    omega
theorem spawn_u {l : List Sta} {s : Sta} (hl : l.length < 16) (h : ∀ s ∈ l, zq1j.t s.2.1 = true) (hs : zq1j.t s.2.1 = true) : ∃ n, zq0x.u (tabP l) s.1 s.2.1 = some (tabP (l ++ [s]), n, 0) := by
  unfold zq0x.u zq0x.w
  rw [tab_fine (by omega) h, Option.bind_some, hs, dec_len (n := 16) (by rw [tabP_len (by omega)]; omega) (by omega)]
  simp only [Bool.not_true, cond_false, cond_true]
  have e : tabP l = l.map prN ++ (pr0 :: List.replicate (16 - l.length - 1) pr0) := by
    unfold tabP
    rw [← List.replicate_succ, show 16 - l.length - 1 + 1 = 16 - l.length by omega]
  have e2 : zq0x.g0 (tabP l) s.1 s.2.1 some (tabP l) 0 = zq0x.g0 (tabP l) s.1 s.2.1 some (pr0 :: List.replicate (16 - l.length - 1) pr0) ((l.length : Nat) : Int) := by
    conv => lhs; arg 5; rw [e]
    rw [spawn_skip, Int.zero_add]
  rw [e2]
  obtain ⟨n, hn⟩ := make_ok hl
  refine ⟨n, ?_⟩
  conv => lhs; unfold zq0x.g0
  show (bif ((zq2v.t s.2.1).2 != 0) then _ else (zq3u.u (tabP l) ((l.length : Nat) : Int) ((IntKind.wrap .i64 ((0 : Int) + 1)), (true, (s.1, ((zq2v.t s.2.1).1, (0, (0, (0, ([], ())))))))) ).bind fun y6 => some (y6, (zq23.t ((l.length : Nat) : Int) (IntKind.wrap .i64 ((0 : Int) + 1))).1, (zq23.t ((l.length : Nat) : Int) (IntKind.wrap .i64 ((0 : Int) + 1))).2)) = _
  rw [(new_fr hs).1, hn, with_u (tabP_len (by omega)) hl]
  show some ((tabP l).set l.length (prN s), n, 0) = _
  rw [tabP_set hl]
abbrev Rl : Type := (List Int) × ((List Int) × Unit)
abbrev Ba : Type := Bc × (Rl × (Int × Unit))
structure BR (p : Nat) (x y : Ba) : Prop where
  conf : y.1 = x.1
  fine : zq12.t x.1 = 0
  set : SetOK x.2.1.1
  at_ : x.2.1.2.1 = [0, 0, 0, 0]
  ph : x.2.2.1 = 0
  mem : y.2.1.1 = nums x.2.1.1
  ry : y.2.1.2.1 = []
  rph : y.2.2.1 = 0
  lt : ∀ j, j < 256 → bit x.2.1.1 j = true → j < p
theorem zero4_ok : SetOK [0, 0, 0, 0] := ⟨rfl, fun i => (by match i with | 0 => decide | 1 => decide | 2 => decide | 3 => decide | n + 4 => exact Int.le_refl 0), fun i => (by match i with | 0 => decide | 1 => decide | 2 => decide | 3 => decide | n + 4 => exact (by decide : (0 : Int) < 18446744073709551616))⟩
theorem zero4_bit (j : Nat) : bit [0, 0, 0, 0] j = false := by
  unfold bit
  have : wd [0, 0, 0, 0] (j / 64) = 0 := by
    unfold wd
    match j / 64 with | 0 => rfl | 1 => rfl | 2 => rfl | 3 => rfl | n + 4 => rfl
  rw [this, Nat.zero_testBit]
theorem all_ok : SetOK everybodyT := ⟨rfl, fun i => (by match i with | 0 => decide | 1 => decide | 2 => decide | 3 => decide | n + 4 => exact Int.le_refl 0), fun i => (by match i with | 0 => decide | 1 => decide | 2 => decide | 3 => decide | n + 4 => exact (by decide : (0 : Int) < 18446744073709551616))⟩
theorem all_bit {j : Nat} (h : j < 256) : bit everybodyT j = decide (j < 16) := by
  have key : ((List.range 256).all fun j => bit everybodyT j == decide (j < 16)) = true := by kernel_rfl
  rw [List.all_eq_true] at key
  have := key j (List.mem_range.2 h)
  simpa using this
theorem roll_fine {x y : Ba} {p : Nat} (h : BR p x y) (hp : p ≤ 16) : zq45.u x.2.1 = some true := by
  obtain ⟨b1, e1, k1⟩ := sub_u h.set all_ok
  have b1t : b1 = true := k1.2 fun j hj hb => by rw [all_bit hj]; have := h.lt j hj hb; simp; omega
  obtain ⟨b2, e2, k2⟩ := sub_u zero4_ok h.set
  have b2t : b2 = true := k2.2 fun j hj hb => by rw [zero4_bit] at hb; cases hb
  unfold zq45.u zq45.s
  rw [e1, Option.bind_some, b1t, cond_true, h.at_, e2, b2t]
  rfl
theorem bar_fine {x y : Ba} {p : Nat} (h : BR p x y) (hp : p ≤ 16) : zq2t.u x = some true := by
  have hc := h.fine
  have hf : zq2p.t x.2.2.1 x.1.2.1 = true := by
    rw [h.ph]
    unfold zq12.t at hc
    cases hq : zq2p.t 0 x.1.2.1 with
    | true => rfl
    | false => rw [hq] at hc; cases hc
  unfold zq2t.u zq2t.s
  rw [hf, cond_true, roll_fine h hp]
  rfl
theorem go4 {s t : List Int} (hs : s.length = 4) (ht : t.length = 4) (h : eqI.go (eqI (.int .u64)) 4 s t = true) : s = t := by
  match s, t, hs, ht with
  | [a, b, c, d], [a', b', c', d'], _, _ =>
    have h : ((a == a') && ((b == b') && ((c == c') && ((d == d') && true)))) = true := h
    simp only [Bool.and_eq_true, beq_iff_eq, Bool.and_true] at h
    obtain ⟨rfl, rfl, rfl, rfl⟩ := h
    rfl
theorem asked_u {x y : Ba} {p : Nat} (h : BR p x y) (hp : p < 16) : zq4b.u x.2.1 (p : Int) = some 0 := by
  unfold zq4b.u zq4b.s
  rw [roll_fine h (by omega), Option.bind_some, has_u all_ok (by omega), Option.bind_some, all_bit (by omega), decide_eq_true hp]
  rfl
theorem enrol_x {x y : Ba} {p : Nat} (h : BR p x y) (hp : p < 16) : ∃ s', SetOK s' ∧ (∀ j, j < 256 → bit s' j = (bit x.2.1.1 j || decide (j = p))) ∧ zq30.u x (p : Int) = some ((x.1, ((s', x.2.1.2), (x.2.2.1, ()))), 0) := by
  obtain ⟨s', e1, o1, b1⟩ := add_u h.set (p := p) (by omega)
  refine ⟨s', o1, b1, ?_⟩
  have hn : bit x.2.1.1 p = false := by
    cases hb : bit x.2.1.1 p with
    | false => rfl
    | true => have := h.lt p (by omega) hb; omega
  have er : zq4a.u x.2.1 (p : Int) = some ((s', x.2.1.2), 0) := by
    unfold zq4a.u zq4a.s
    rw [asked_u h hp, Option.bind_some, show ((0 : Int) != 0) = false from rfl, cond_false, has_u h.set (by omega), Option.bind_some, hn, cond_false, e1]
    rfl
  unfold zq30.u zq30.s
  rw [bar_fine h (by omega), Option.bind_some, Bool.not_true, cond_false, er, Option.bind_some]
  show some ((zq22.t x (s', x.2.1.2) 0).1, (zq22.t x (s', x.2.1.2) 0).2) = _
  have hne : zq22.t x (s', x.2.1.2) 0 = ((x.1, ((s', x.2.1.2), (x.2.2.1, ()))), 0) := by
    unfold zq22.t
    rw [show ((0 : Int) != 0) = false from rfl, cond_false]
    dsimp only
    cases hq : eqI E_s155 (x.1, ((s', x.2.1.2), (x.2.2.1, ()))) x with
    | false => rfl
    | true =>
      exfalso
      have h1 : (_ && ((eqI.go (eqI (.int .u64)) 4 s' x.2.1.1 && _) && _)) = true := hq
      simp only [Bool.and_eq_true] at h1
      have h2 := go4 o1.len h.set.len h1.2.1.1
      have h3 := b1 p (by omega)
      rw [decide_eq_true rfl, Bool.or_true, h2, hn] at h3
      cases h3
  rw [hne]
theorem rhas_g (l : List Int) (e : List Int) (p : Int) : zq3o.g0 e p some l = some (l.any fun x => x == p) := by
  induction l with
  | nil => rfl
  | cons x l ih =>
    show (bif (x == p) then some true else zq3o.g0 e p some l) = _
    rw [ih, List.any_cons]
    cases (x == p) <;> rfl
theorem rhas_u {l : List Int} (hl : l.length ≤ 1000) (p : Int) : zq3o.u l p = some (l.any fun x => x == p) := by
  unfold zq3o.u zq3o.w
  rw [dec_len hl (by omega), cond_true, rhas_g]
theorem any_nums {s : List Int} {p : Nat} (hp : p < 256) : ((nums s).any fun x => x == (p : Int)) = bit s p := by
  rw [Bool.eq_iff_iff, List.any_eq_true]
  unfold nums numsF
  constructor
  · rintro ⟨x, hx, hq⟩
    obtain ⟨j, hj, rfl⟩ := List.mem_map.1 hx
    rw [List.mem_filter] at hj
    have : j = p := by have : (j : Int) = (p : Int) := by simpa using hq
                       omega
    subst this
    exact hj.2
  · intro hb
    refine ⟨(p : Int), List.mem_map.2 ⟨p, List.mem_filter.2 ⟨?_, hb⟩, rfl⟩, by simp⟩
    rw [List.mem_range'_1]; omega
theorem rof_g {e : List Int} (he : e.length ≤ 1000) {f : Nat → Bool} (hf : ∀ j : Nat, j < 256 → (e.any fun x => x == (j : Int)) = f j) : ∀ (d i : Nat) (a : List Int), i + d = 256 → a.length ≤ i → zq3y.g0 e some d (i : Int) a = some (a ++ ((List.range' i d).filter f).map fun j : Nat => (j : Int))
  | 0, i, a, _, _ => by show some a = _; simp
  | d + 1, i, a, hi, ha => by
    show ((zq3o.u e (i : Int)).bind fun y1 => bif y1 then (bif (decide (List.length a + List.length [(i : Int)] ≤ rowMax)) then zq3y.g0 e some d ((i : Int) + 1) (a ++ [(i : Int)]) else none) else zq3y.g0 e some d ((i : Int) + 1) a) = _
    rw [rhas_u he, hf i (by omega), Option.bind_some, List.range'_succ, show (i : Int) + 1 = ((i + 1 : Nat) : Int) by omega]
    cases hb : f i with
    | true =>
      rw [cond_true, decide_eq_true (show List.length a + List.length [(i : Int)] ≤ rowMax by simp [rowMax]; omega), cond_true, rof_g he hf d (i + 1) _ (by omega) (by simp; omega), List.filter_cons_of_pos hb]
      simp
    | false =>
      rw [cond_false, rof_g he hf d (i + 1) _ (by omega) (by omega), List.filter_cons_of_neg (by rw [hb]; simp)]
theorem rof_u {e : List Int} (he : e.length ≤ 1000) {f : Nat → Bool} (hf : ∀ j : Nat, j < 256 → (e.any fun x => x == (j : Int)) = f j) : zq3y.u e = some (((List.range' 0 256).filter f).map fun j : Nat => (j : Int)) := by
  unfold zq3y.u zq3y.w
  have := rof_g he hf 256 0 [] (by omega) (by simp)
  exact this
theorem radd_u {s s' : List Int} {p : Nat} (hp : p < 256) (h : ∀ j, j < 256 → bit s' j = (bit s j || decide (j = p))) : zq4x.u (nums s) (p : Int) = some (nums s') := by
  have hl := nums_len s
  have e : zq3y.u (nums s ++ [(p : Int)]) = some (((List.range' 0 256).filter (bit s')).map fun j : Nat => (j : Int)) := by
    refine rof_u (by simp; omega) fun j hj => ?_
    rw [List.any_append, any_nums hj, h j hj]
    congr 1
    show ((p : Int) == (j : Int) || false) = _
    rw [Bool.or_false, Bool.eq_iff_iff, decide_eq_true_iff, beq_iff_eq]
    omega
  unfold zq4x.u zq4x.s
  rw [decide_eq_true (show List.length (nums s) ≤ rowMax by simp [rowMax]; omega), decide_eq_true (show List.length (nums s) + List.length [(p : Int)] ≤ rowMax by simp [rowMax]; omega), cond_true, cond_true, e]
  rfl
theorem nums_mem {s : List Int} {x : Int} (h : x ∈ nums s) : ∃ j : Nat, x = j ∧ j < 256 ∧ bit s j = true := by
  unfold nums numsF at h
  obtain ⟨j, hj, rfl⟩ := List.mem_map.1 h
  rw [List.mem_filter, List.mem_range'_1] at hj
  exact ⟨j, rfl, by omega, hj.2⟩
theorem rfine21_g {r : Rl} (hr : r.2.1 = []) (h : ∀ x ∈ r.1, 0 ≤ x ∧ x ≤ 15) (hl : r.1.length ≤ 1000) : ∀ (d i : Nat), i + d = r.1.length → zq3r.g0 r some d (i : Int) = some true
  | 0, i, _ => by
    show (zq4f.u r.2.1 r.1).bind _ = _
    rw [hr]; rfl
  | d + 1, i, hi => by
    have hx : 0 ≤ List.getD r.1 i 0 ∧ List.getD r.1 i 0 ≤ 15 := by
      rw [List.getD_eq_getElem?_getD, List.getElem?_eq_getElem (by omega)]
      exact h _ (List.getElem_mem _)
    conv => lhs; unfold zq3r.g0
    rw [idxOK_nat (by omega), cond_true, Int.toNat_natCast, decide_eq_false (by omega), decide_eq_false (show ¬ List.getD r.1 i 0 > 15 by omega)]
    have := rfine21_g hr h hl d (i + 1) (by omega)
    rw [show ((i + 1 : Nat) : Int) = (i : Int) + 1 by omega] at this
    exact this
theorem rfine21_u {x y : Ba} {p : Nat} (h : BR p x y) (hp : p ≤ 16) : zq3r.u y.2.1 = some true := by
  have hl : y.2.1.1.length ≤ 256 := by rw [h.mem]; exact nums_len _
  unfold zq3r.u zq3r.w
  rw [dec_len hl (by omega), cond_true, show Int.toNat (((List.length y.2.1.1 : Nat) : Int) - 0) = y.2.1.1.length by omega]
  refine rfine21_g h.ry (fun z hz => ?_) (by omega) _ 0 (by omega)
  rw [h.mem] at hz
  obtain ⟨j, rfl, h1, h2⟩ := nums_mem hz
  have := h.lt j h1 h2
  omega
theorem enrol_y {x y : Ba} {p : Nat} (h : BR p x y) (hp : p < 16) {s' : List Int} (b1 : ∀ j, j < 256 → bit s' j = (bit x.2.1.1 j || decide (j = p))) : zq4m.u y (p : Int) = some ((y.1, ((nums s', y.2.1.2), y.2.2)), 0) := by
  have hn : bit x.2.1.1 p = false := by
    cases hb : bit x.2.1.1 p with
    | false => rfl
    | true => have := h.lt p (by omega) hb; omega
  have ea : zq4k.u y.2.1 (p : Int) = some 0 := by
    unfold zq4k.u zq4k.s
    rw [rfine21_u h (by omega), Option.bind_some, decide_eq_false (by omega), decide_eq_false (show ¬ (p : Int) > 15 by omega)]
    rfl
  have er : zq4p.u y.2.1 (p : Int) = some ((nums s', y.2.1.2), 0) := by
    unfold zq4p.u zq4p.s
    have hl := nums_len x.2.1.1
    rw [ea, Option.bind_some, show ((0 : Int) != 0) = false from rfl, cond_false, h.mem, rhas_u (by omega), any_nums (by omega), hn, Option.bind_some, cond_false, radd_u (by omega) b1]
    rfl
  have hf : zq4u.u y = some true := by
    have hc := h.fine
    have hq : zq56.t y.2.2.1 y.1.2.1 = true := by
      rw [h.rph, h.conf]
      unfold zq12.t at hc
      cases hq : zq2p.t 0 x.1.2.1 with
      | true => exact hq
      | false => rw [hq] at hc; cases hc
    unfold zq4u.u zq4u.s
    rw [hq, cond_true, rfine21_u h (by omega)]
    rfl
  unfold zq4m.u zq4m.s
  rw [hf, Option.bind_some, Bool.not_true, cond_false, er]
  rfl
theorem enrol_u {x y : Ba} {p : Nat} (h : BR p x y) (hp : p < 16) : ∃ x' y', zq30.u x (p : Int) = some (x', 0) ∧ zq4m.u y (p : Int) = some (y', 0) ∧ BR (p + 1) x' y' := by
  obtain ⟨s', o1, b1, e1⟩ := enrol_x h hp
  refine ⟨_, _, e1, enrol_y h hp b1, ⟨h.conf, h.fine, o1, h.at_, h.ph, rfl, h.ry, h.rph, fun j hj hb => ?_⟩⟩
  have hb : bit s' j = true := hb
  rw [b1 j hj] at hb
  rcases Bool.or_eq_true_iff.1 hb with hb | hb
  · have := h.lt j hj hb; omega
  · have := of_decide_eq_true hb; omega
theorem BR.more {x y : Ba} {p : Nat} (h : BR p x y) : BR (p + 1) x y := ⟨h.conf, h.fine, h.set, h.at_, h.ph, h.mem, h.ry, h.rph, fun j hj hb => by have := h.lt j hj hb; omega⟩
abbrev ba0 : Ba := ((false, (0, ())), (((List.replicate 4 0), ((List.replicate 4 0), ())), (0, ())))
abbrev rba0 : Ba := ((false, (0, ())), (([], ([], ())), (0, ())))
theorem tab_enrol {T : List Ba} {b : Nat} {p : Int} {x' : Ba} (hb : b < T.length) (hT : T.length ≤ 1000) (h : zq30.u (T.getD b ba0) p = some (x', 0)) : zq34.u T (b : Int) p = some (T.set b x', 0) := by
  unfold zq34.u zq34.s zq25.u zq25.s
  rw [decide_eq_false (show ¬ (b : Int) < 0 by omega), decide_eq_false (show ¬ (b : Int) ≥ ((List.length T : Nat) : Int) by omega), idxOK_nat hb, copyL_all (by simp), idxOK_nat hb]
  have e1 : zq3d.u (T.getD b ba0) p = some (x', 0) := by
    unfold zq3d.u zq3d.s
    rw [h]; rfl
  show ((zq3d.u (T.getD b ba0) p).bind fun y3 => _).bind _ = _
  rw [e1]
  show ((bif (decide (((List.length T : Nat) : Int) = ((List.length T : Nat) : Int)) && decide ((0 : Int) ≤ ((List.length T : Nat) : Int)) && decide (((List.length T : Nat) : Int) ≤ (2147483648 : Int))) then some (T.set b x', (0 : Int)) else none) : Option (List Ba × Int)).bind _ = _
  rw [decide_eq_true rfl, decide_eq_true (Int.natCast_nonneg _), decide_eq_true (show ((List.length T : Nat) : Int) ≤ 2147483648 by omega)]
  rfl
def sbit (n : Int) (b : Int) : Bool := !((IntKind.wrap .i64 (BitVec.ofInt (IntKind.bits .i64) (Int.fdiv n (2 ^ (min (Int.toNat b) (IntKind.bits .i64)))) &&& BitVec.ofInt (IntKind.bits .i64) 1).toNat) == 0)
structure RelT (p b : Nat) (T T' : List Ba) : Prop where
  len : T'.length = T.length
  at_ : ∀ i, i < T.length → BR (if i < b then p + 1 else p) (T.getD i ba0) (T'.getD i rba0)
theorem getD_set {α : Type} {T : List α} {b i : Nat} {x z : α} (hb : b < T.length) : (T.set b x).getD i z = if i = b then x else T.getD i z := by
  simp only [List.getD_eq_getElem?_getD, List.getElem?_set]
  by_cases h : b = i
  · subst h; rw [if_pos rfl, if_pos hb, if_pos rfl]; rfl
  · rw [if_neg h, if_neg (Ne.symm h)]


theorem small_g (e1 : List (List In)) (e3 : Cf) : ∀ xs : List (List In), ∃ b, zq0u.g0 e1 e3 some xs = some b
  | [] => ⟨_, rfl⟩
  | x :: xs => by
    show ∃ b, (bif (decide (((List.length x : Nat) : Int) > 70)) then some false else zq0u.g0 e1 e3 some xs) = some b
    cases (decide (((List.length x : Nat) : Int) > 70)) with
    | true => exact ⟨_, rfl⟩
    | false => exact small_g e1 e3 xs
theorem small_u (c : Cf) : ∃ b, zq0u.u c = some b ∧ (b = true → c.1.length ≤ 10 ∧ c.2.1.length ≤ 20 ∧ c.2.2.1.length ≤ 20 ∧ c.2.2.2.2.1.length ≤ 20) := by
  unfold zq0u.u zq0u.w
  by_cases h1 : ((List.length c.1 : Nat) : Int) > 10
  · rw [decide_eq_true h1]; exact ⟨false, rfl, fun h => by cases h⟩
  · rw [decide_eq_false h1, cond_false]
    by_cases h2 : ((List.length c.2.1 : Nat) : Int) > 20
    · rw [decide_eq_true h2]; exact ⟨false, rfl, fun h => by cases h⟩
    · rw [decide_eq_false h2, cond_false]
      by_cases h3 : ((List.length c.2.2.1 : Nat) : Int) > 20
      · rw [decide_eq_true h3]; exact ⟨false, rfl, fun h => by cases h⟩
      · rw [decide_eq_false h3, cond_false]
        by_cases h4 : ((List.length c.2.2.2.2.1 : Nat) : Int) > 20
        · rw [decide_eq_true h4]; exact ⟨false, rfl, fun h => by cases h⟩
        · rw [decide_eq_false h4]
          show ∃ b, (bif decide (((List.length c.1 : Nat) : Int) ≤ 4611686018427387904) then zq0u.g0 c.1 c some c.1 else none) = some b ∧ _
          rw [dec_len (n := 10) (by omega) (by omega), cond_true]
          obtain ⟨b, hb⟩ := small_g c.1 c c.1
          exact ⟨b, hb, fun _ => by omega⟩
theorem from22 {x y : Ba} {p : Nat} (h : BR p x y) : zq3m.u x = some y := by
  have hz : nums [0, 0, 0, 0] = [] := by
    unfold nums numsF
    rw [List.filter_eq_nil_iff.2 (fun j _ => by rw [zero4_bit]; simp)]; rfl
  unfold zq3m.u zq3m.s zq4h.u zq4h.s
  rw [list_u h.set, Option.bind_some, h.at_, list_u zero4_ok, Option.bind_some, hz]
  show some (x.1, ((nums x.2.1.1, ([], ())), (x.2.2.1, ()))) = _
  have e1 := h.conf
  have e2 := h.mem
  have e3 := h.ry
  have e4 := h.rph
  have e5 := h.ph
  obtain ⟨y1, ⟨y2, y3, u⟩, y4, u'⟩ := y
  simp only at e1 e2 e3 e4
  rw [e1, e2, e3, e4, e5]
theorem from23_g {T' : List Ba} (e : List Ba) : ∀ (xs ys a : List Ba), xs.length = ys.length → (∀ i, i < xs.length → ∃ p, BR p (xs.getD i ba0) (ys.getD i rba0)) → a.length + xs.length ≤ 1000 → zq15.g0 e some xs a = some (a ++ ys)
  | [], [], a, _, _, _ => by show some a = _; simp
  | [], _ :: _, _, h, _, _ => by cases h
  | _ :: _, [], _, h, _, _ => by cases h
  | x :: xs, y :: ys, a, hl, h, hn => by
    simp only [List.length_cons] at hl hn
    obtain ⟨p, hp⟩ := h 0 (by simp)
    have hp : BR p x y := hp
    show ((zq3m.u x).bind fun y2 => bif (decide (List.length a + List.length [y2] ≤ rowMax)) then zq15.g0 e some xs (a ++ [y2]) else none) = _
    rw [from22 hp, Option.bind_some, decide_eq_true (show List.length a + List.length [y] ≤ rowMax by simp [rowMax]; omega), cond_true, from23_g (T' := T') e xs ys (a ++ [y]) (by omega) (fun i hi => h (i + 1) (by simp; omega)) (by simp; omega)]
    simp
theorem from23 {p : Nat} {T T' : List Ba} (h : RelT p 0 T T') (hl : T.length ≤ 8) : zq15.u T = some T' := by
  unfold zq15.u zq15.w
  rw [dec_len hl (by omega), cond_true]
  exact from23_g (T' := T') T T T' [] h.len.symm (fun i hi => ⟨_, h.at_ i hi⟩) (by simp; omega)
theorem nums_zero : nums [0, 0, 0, 0] = [] := by
  unfold nums numsF
  rw [List.filter_eq_nil_iff.2 (fun j _ => by rw [zero4_bit]; simp)]; rfl
abbrev snap0 : T_s35 := (0, ([], ([], ([], ([], ([], ()))))))
theorem rel0 {l : List Bc} (h : ∀ x ∈ l, zq12.t x = 0) : RelT 0 0 (l.map fun x => ((x, (((List.replicate 4 0), ((List.replicate 4 0), ())), (0, ()))) : Ba)) (l.map fun x => ((x, (([], ([], ())), (0, ()))) : Ba)) := by
  refine ⟨by simp, fun i hi => ?_⟩
  rw [List.length_map] at hi
  have e1 : (l.map fun x => ((x, (((List.replicate 4 0), ((List.replicate 4 0), ())), (0, ()))) : Ba)).getD i ba0 = (l[i], (((List.replicate 4 0), ((List.replicate 4 0), ())), (0, ()))) := by
    rw [List.getD_eq_getElem?_getD, List.getElem?_map, List.getElem?_eq_getElem hi]; rfl
  have e2 : (l.map fun x => ((x, (([], ([], ())), (0, ()))) : Ba)).getD i rba0 = (l[i], (([], ([], ())), (0, ()))) := by
    rw [List.getD_eq_getElem?_getD, List.getElem?_map, List.getElem?_eq_getElem hi]; rfl
  rw [e1, e2]
  exact ⟨rfl, h _ (List.getElem_mem _), zero4_ok, rfl, rfl, nums_zero.symm, rfl, rfl, fun j hj hb => by
    have hb : bit [0, 0, 0, 0] j = true := hb
    rw [zero4_bit] at hb; cases hb⟩
theorem start_prog {s : Sta} {p : Int} {b : Nat} (h : zq20.u s p (b : Int) = some 0) : 0 ≤ s.1 ∧ s.1 < p := by
  unfold zq20.u zq20.s at h
  rw [show decide ((0 : Int) ≤ (b : Int)) = true from by simp] at h
  cases h1 : decide (s.1 < 0) with
  | true => rw [h1] at h; exact absurd (Option.some.inj (show some (8 : Int) = some 0 from h)) (by decide)
  | false =>
    cases h2 : decide (s.1 ≥ p) with
    | true => rw [h1, h2] at h; exact absurd (Option.some.inj (show some (8 : Int) = some 0 from h)) (by decide)
    | false =>
      have h1 := of_decide_eq_false h1
      have h2 := of_decide_eq_false h2
      omega
theorem check_prog (c : Cf) (h : CfS c) {v : PlE} (hv : zq1b.u c = some v) (h0 : v.2 = 0) : ∀ s ∈ c.2.2.2.2.1, 0 ≤ s.1 ∧ s.1 < 8 := by
  rw [conf_go c h] at hv
  obtain ⟨y1, k1, z1, hv⟩ := goP_step hv h0
  obtain ⟨y2, k2, z2, hv⟩ := goP_step hv h0
  obtain ⟨y3, k3, z3, hv⟩ := goP_step hv h0
  obtain ⟨y4, k4, z4, hv⟩ := goP_step hv h0
  obtain ⟨y5, k5, z5, hv⟩ := goP_step hv h0
  obtain ⟨n1, _⟩ := manyP_ok k1 z1
  obtain ⟨n3, k3⟩ := manyP_ok k3 z3
  obtain ⟨n5, k5⟩ := manyP_ok k5 z5
  have hb : c.2.2.1.length ≤ 8 := by omega
  obtain ⟨r5, e5, f5⟩ := ckL_some (f := fun s : Sta => zq20.u s (List.length c.1 : Nat) (List.length c.2.2.1 : Nat)) (l := c.2.2.2.2.1) (i := 0) fun s hs => by
    obtain ⟨e, h1, _⟩ := start_ok s (List.length c.1 : Nat) (b := c.2.2.1.length) (by omega)
    show (zq20.u s (List.length c.1 : Nat) (List.length c.2.2.1 : Nat)).isSome = true
    rw [h1]; rfl
  rw [e5] at k5; cases k5
  intro s hs
  have := start_prog (f5 z5 s hs)
  omega
def sb (S : List Sta) (j i : Nat) : Bool := sbit (S.getD j (0, (0, (0, ())))).2.2.1 (i : Int)
structure BP (S : List Sta) (q i : Nat) (x : Ba) : Prop where
  rel : ∃ y, BR q x y
  bits : ∀ j, j < 256 → bit x.2.1.1 j = (decide (j < q) && sb S j i)
structure RelP (S : List Sta) (p b : Nat) (T : List Ba) : Prop where
  at_ : ∀ i, i < T.length → BP S (if i < b then p + 1 else p) i (T.getD i ba0)
theorem BP.enrol {S : List Sta} {p i : Nat} {x : Ba} (h : BP S p i x) (hp : p < 16) (hs : sb S p i = true) : ∃ x', zq30.u x (p : Int) = some (x', 0) ∧ BP S (p + 1) i x' := by
  obtain ⟨y, hy⟩ := h.rel
  obtain ⟨x', y', e1, e2, hr⟩ := enrol_u hy hp
  obtain ⟨s', o1, b1, e3⟩ := enrol_x hy hp
  rw [e1] at e3
  have e4 : x' = (x.1, ((s', x.2.1.2), (x.2.2.1, ()))) := congrArg Prod.fst (Option.some.inj e3)
  refine ⟨x', e1, ⟨y', hr⟩, fun j hj => ?_⟩
  rw [e4]
  show bit s' j = _
  rw [b1 j hj, h.bits j hj]
  by_cases e : j = p
  · subst e; rw [hs, decide_eq_true (rfl : j = j), Bool.or_true, decide_eq_true (show j < j + 1 by omega)]; rfl
  · rw [decide_eq_false e, Bool.or_false]
    by_cases e2 : j < p
    · rw [decide_eq_true e2, decide_eq_true (show j < p + 1 by omega)]
    · rw [decide_eq_false e2, decide_eq_false (show ¬ j < p + 1 by omega)]
theorem BP.skip {S : List Sta} {p i : Nat} {x : Ba} (h : BP S p i x) (hs : sb S p i = false) : BP S (p + 1) i x := by
  obtain ⟨y, hy⟩ := h.rel
  refine ⟨⟨y, hy.more⟩, fun j hj => ?_⟩
  rw [h.bits j hj]
  by_cases e : j = p
  · subst e; rw [hs, Bool.and_false, Bool.and_false]
  · by_cases e2 : j < p
    · rw [decide_eq_true e2, decide_eq_true (show j < p + 1 by omega)]
    · rw [decide_eq_false e2, decide_eq_false (show ¬ j < p + 1 by omega)]
theorem RelP.set {S : List Sta} {p b : Nat} {T : List Ba} {x : Ba} (h : RelP S p b T) (hb : b < T.length) (hx : BP S (p + 1) b x) : RelP S p (b + 1) (T.set b x) := by
  refine ⟨fun i hi => ?_⟩
  rw [List.length_set] at hi
  rw [getD_set hb]
  by_cases e : i = b
  · subst e
    rw [if_pos rfl, if_pos (by omega)]; exact hx
  · rw [if_neg e]
    have := h.at_ i hi
    by_cases e2 : i < b
    · rw [if_pos e2] at this; rw [if_pos (by omega)]; exact this
    · rw [if_neg e2] at this; rw [if_neg (by omega)]; exact this
theorem RelP.skip {S : List Sta} {p b : Nat} {T : List Ba} (h : RelP S p b T) (hs : sb S p b = false) : RelP S p (b + 1) T := by
  refine ⟨fun i hi => ?_⟩
  have := h.at_ i hi
  by_cases e2 : i < b
  · rw [if_pos e2] at this; rw [if_pos (by omega)]; exact this
  · rw [if_neg e2] at this
    by_cases e3 : i < b + 1
    · obtain rfl : i = b := by omega
      rw [if_pos e3]; exact this.skip hs
    · rw [if_neg e3]; exact this
theorem RelP.next {S : List Sta} {p b : Nat} {T : List Ba} (h : RelP S p b T) (hb : T.length ≤ b) : RelP S (p + 1) 0 T := ⟨fun i hi => by
  have := h.at_ i hi
  rw [if_pos (by omega)] at this
  rw [if_neg (by omega)]; exact this⟩
theorem inner2 {S : List Sta} {p : Nat} (hp : p < 16) {s : Sta} (hS : S.getD p (0, (0, (0, ()))) = s) : ∀ (d b : Nat) (T : List Ba), b + d = T.length → T.length ≤ 8 → RelP S p b T → ∃ Tf : List Ba, Tf.length = T.length ∧ RelP S (p + 1) 0 Tf ∧
    (∀ {Ω : Type} (e1 : List T_s63) (e2 e3 : Int) (e4 : T_s26) (e5 : T_s81) (r : Int × T_s35 → Option Ω) (k : T_s35 × Int → Option Ω) a1 a2 a3 a5, zq0m.g0 (p : Int) e1 e2 e3 e4 e5 s r k d (b : Int) (a1, (a2, (a3, (T, a5)))) = r ((p : Int) + 1, (a1, (a2, (a3, (Tf, a5))))))
  | 0, b, T, hd, hl, hr => ⟨T, rfl, hr.next (by omega), fun e1 e2 e3 e4 e5 r k a1 a2 a3 a5 => rfl⟩
  | d + 1, b, T, hd, hl, hr => by
    have hb : b < T.length := by omega
    cases hv : sbit s.2.2.1 (b : Int) with
    | false =>
      obtain ⟨Tf, q1, q2, q3⟩ := inner2 hp hS d (b + 1) T (by omega) hl (hr.skip (by unfold sb; rw [hS]; exact hv))
      refine ⟨Tf, q1, q2, fun e1 e2 e3 e4 e5 r k a1 a2 a3 a5 => ?_⟩
      rw [← q3 e1 e2 e3 e4 e5 r k a1 a2 a3 a5, show ((b + 1 : Nat) : Int) = (b : Int) + 1 by omega]
      show (bif (decide ((0 : Int) ≤ (b : Int))) then (bif _ then zq0m.g0 (p : Int) e1 e2 e3 e4 e5 s r k d ((b : Int) + 1) _ else _) else none) = _
      rw [decide_eq_true (by omega), cond_true]
      have : ((IntKind.wrap .i64 (BitVec.ofInt (IntKind.bits .i64) (Int.fdiv s.2.2.1 (2 ^ (min (Int.toNat (b : Int)) (IntKind.bits .i64)))) &&& BitVec.ofInt (IntKind.bits .i64) 1).toNat) == 0) = true := by
        unfold sbit at hv; simpa using hv
      rw [this, cond_true]
    | true =>
      have hBP := hr.at_ b hb
      rw [if_neg (by omega)] at hBP
      obtain ⟨x', e1x, hBP'⟩ := hBP.enrol hp (by unfold sb; rw [hS]; exact hv)
      obtain ⟨Tf, q1, q2, q3⟩ := inner2 hp hS d (b + 1) (T.set b x') (by rw [List.length_set]; omega) (by rw [List.length_set]; exact hl) (hr.set hb hBP')
      rw [List.length_set] at q1
      refine ⟨Tf, q1, q2, fun e1 e2 e3 e4 e5 r k a1 a2 a3 a5 => ?_⟩
      rw [← q3 e1 e2 e3 e4 e5 r k a1 a2 a3 a5, show ((b + 1 : Nat) : Int) = (b : Int) + 1 by omega]
      show (bif (decide ((0 : Int) ≤ (b : Int))) then (bif _ then _ else (zq34.u T (b : Int) (p : Int)).bind fun y7 => bif (y7.2 != 0) then _ else zq0m.g0 (p : Int) e1 e2 e3 e4 e5 s r k d ((b : Int) + 1) (a1, (a2, (a3, (y7.1, a5))))) else none) = _
      rw [decide_eq_true (by omega), cond_true]
      have : ((IntKind.wrap .i64 (BitVec.ofInt (IntKind.bits .i64) (Int.fdiv s.2.2.1 (2 ^ (min (Int.toNat (b : Int)) (IntKind.bits .i64)))) &&& BitVec.ofInt (IntKind.bits .i64) 1).toNat) == 0) = false := by
        unfold sbit at hv; simpa using hv
      rw [this, cond_false, tab_enrol hb (by omega) e1x, Option.bind_some]
      rfl
theorem outer2 {S : List Sta} (hS : S.length ≤ 16) (hf : ∀ s ∈ S, zq1j.t s.2.1 = true) (e1 : List T_s63) (e3 : T_s26) (e4 : T_s81) : ∀ (xs l : List Sta) (T : List Ba), l ++ xs = S → T.length ≤ 8 → RelP S l.length 0 T → ∃ Tf : List Ba, Tf.length = T.length ∧ RelP S S.length 0 Tf ∧
    (∀ (k : T_s35 × Int → Option (T_s35 × Int)) a1 a3 a5 a6 a7, zq0m.g1 e1 e3 e4 k xs ((l.length : Nat) : Int) (a1, (tabP l, (a3, (T, (a5, (a6, a7)))))) = k ((a1, (tabP S, (a3, (Tf, (a5, ([], a7)))))), 0))
  | [], l, T, hl, hT, hr => by
    obtain rfl : l = S := by simpa using hl
    exact ⟨T, rfl, hr, fun k a1 a3 a5 a6 a7 => rfl⟩
  | x :: xs, l, T, hl, hT, hr => by
    have hx : x ∈ S := by rw [← hl]; simp
    have hlen : l.length < S.length := by rw [← hl]; simp
    have hfl : ∀ s ∈ l, zq1j.t s.2.1 = true := fun s hs => hf s (by rw [← hl]; simp [hs])
    obtain ⟨n1, s1⟩ := spawn_u (l := l) (s := x) (by omega) hfl (hf x hx)
    have hx2 : S.getD l.length (0, (0, (0, ()))) = x := by
      rw [← hl, List.getD_eq_getElem?_getD, List.getElem?_append_right (Nat.le_refl _)]
      simp
    obtain ⟨Tm, m1, m2, m3⟩ := inner2 (p := l.length) (by omega) (s := x) hx2 T.length 0 T (by omega) hT hr
    have m2' : RelP S (l ++ [x]).length 0 Tm := by simpa using m2
    obtain ⟨Tf, q1, q2, q3⟩ := outer2 hS hf e1 e3 e4 xs (l ++ [x]) Tm (by rw [← hl]; simp) (by omega) m2'
    refine ⟨Tf, by omega, q2, fun k a1 a3 a5 a6 a7 => ?_⟩
    rw [← q3 k a1 a3 a5 a6 a7]
    show ((zq0x.u (tabP l) x.1 x.2.1).bind fun y5 => bif (y5.2.2 != 0) then _ else bif (decide (((List.length T : Nat) : Int) ≤ 4611686018427387904)) then zq0m.g0 ((l.length : Nat) : Int) e1 (((List.length e1 : Nat) : Int)) (((List.length T : Nat) : Int)) e3 e4 x (fun q => zq0m.g1 e1 e3 e4 k xs q.1 q.2) k (Int.toNat (((List.length T : Nat) : Int) - 0)) 0 (a1, (y5.1, (a3, (T, (a5, (a6, a7)))))) else none) = _
    rw [s1, Option.bind_some, show (((tabP (l ++ [x]), n1, (0 : Int)) : List Pr × Int × Int).2.2 != 0) = false from rfl, cond_false, dec_len (n := 8) hT (by omega), cond_true, show Int.toNat (((List.length T : Nat) : Int) - 0) = T.length by omega]
    have := m3 e1 (((List.length e1 : Nat) : Int)) (((List.length T : Nat) : Int)) e3 e4 (fun q => zq0m.g1 e1 e3 e4 k xs q.1 q.2) k a1 (tabP (l ++ [x])) a3 (a5, (a6, a7))
    rw [show ((0 : Nat) : Int) = 0 from rfl] at this
    rw [this]
    show zq0m.g1 e1 e3 e4 k xs (((l.length : Nat) : Int) + 1) _ = _
    congr 1
    simp
theorem relP0 {S : List Sta} {l : List Bc} (h : ∀ x ∈ l, zq12.t x = 0) : RelP S 0 0 (l.map fun x => ((x, (((List.replicate 4 0), ((List.replicate 4 0), ())), (0, ()))) : Ba)) := by
  refine ⟨fun i hi => ⟨⟨_, (rel0 h).at_ i hi⟩, fun j hj => ?_⟩⟩
  rw [List.length_map] at hi
  have e1 : (l.map fun x => ((x, (((List.replicate 4 0), ((List.replicate 4 0), ())), (0, ()))) : Ba)).getD i ba0 = (l[i], (((List.replicate 4 0), ((List.replicate 4 0), ())), (0, ()))) := by
    rw [List.getD_eq_getElem?_getD, List.getElem?_map, List.getElem?_eq_getElem hi]; rfl
  rw [e1, if_neg (by omega), decide_eq_false (by omega)]
  exact zero4_bit j
abbrev snapB (c : T_s26) (Tf : List Ba) : T_s35 := (0, (tabP c.2.2.2.2.1, (c.2.1.map fun x => (zq1m.t x).1, (Tf, ((List.replicate (Int.toNat c.2.2.2.1) []), ([], ()))))))
structure Begun (c : T_s26) (Tf : List Ba) : Prop where
  ok : CfOK c
  prog : ∀ s ∈ c.2.2.2.2.1, 0 ≤ s.1 ∧ s.1 < 8
  len : Tf.length = c.2.2.1.length
  rel : RelP c.2.2.2.2.1 c.2.2.2.2.1.length 0 Tf
theorem begin_whole (c : T_s26) (h : CfS c) : (∃ e : Int, e ≠ 0 ∧ zq0m.u c = some (snap0, e)) ∨ ∃ Tf, Begun c Tf ∧ zq0m.u c = some (snapB c Tf, 0) := by
  obtain ⟨v, h1, _, hok⟩ := check36 c h
  unfold zq0m.u zq0m.w
  rw [h1, Option.bind_some]
  cases he : (v.2 != 0) with
  | true => exact .inl ⟨v.2, by simpa using he, by rw [cond_true]⟩
  | false =>
    have he : v.2 = 0 := by simpa using he
    have hC := hok he
    obtain ⟨⟨c1, c2⟩, ⟨b1, b2⟩, ⟨k1, k2⟩, ⟨s1, s2⟩⟩ := hok he
    have hpail : (decide (c.2.2.2.1 = c.2.2.2.1) && decide ((0 : Int) ≤ c.2.2.2.1) && decide (c.2.2.2.1 ≤ (2147483648 : Int))) = true := by
      rw [decide_eq_true rfl, decide_eq_true k1, decide_eq_true (by omega)]; rfl
    obtain ⟨n1, _⟩ := chantab_new c1 c2
    obtain ⟨m1, _⟩ := bartab_new b1 b2
    obtain ⟨Tf, q1, q2, q3⟩ := outer2 s1 (fun s hs => (s2 s hs).1) c.2.2.2.2.1 c v.1 c.2.2.2.2.1 [] _ rfl (by rw [List.length_map]; exact b1) (relP0 b2)
    have q3 := q3 some 0 (c.2.1.map fun x => (zq1m.t x).1) (List.replicate (Int.toNat c.2.2.2.1) []) [] ()
    refine .inr ⟨Tf, ⟨hC, check_prog c h h1 he, by rw [q1, List.length_map], q2⟩, ?_⟩
    rw [cond_false, show zq4i.u = some (tabP []) from rfl, Option.bind_some, hpail, cond_true, n1, Option.bind_some, m1, Option.bind_some, dec_len s1 (by omega), cond_true]
    exact q3
end
section
set_option linter.unusedVariables false
set_option linter.unusedSimpArgs false
set_option maxRecDepth 100000
def idxs (f : Pr → Bool) : List Pr → Nat → List Int
  | [], _ => []
  | x :: xs, i => (bif f x then [(i : Int)] else []) ++ idxs f xs (i + 1)
theorem idxs_len (f : Pr → Bool) : ∀ (xs : List Pr) (i : Nat), (idxs f xs i).length ≤ xs.length
  | [], _ => Nat.le_refl _
  | x :: xs, i => by
    have := idxs_len f xs (i + 1)
    unfold idxs
    cases f x <;> simp <;> omega
theorem idx_loop {Ω : Type} (g : List Pr → Int → List Int → Option Ω) (K : List Int → Option Ω) (f : Pr → Bool) (h0 : ∀ i a, g [] i a = K a)
    (hs : ∀ x xs i a, g (x :: xs) i a = bif f x then (bif (decide (List.length a + List.length [i] ≤ rowMax)) then g xs (i + 1) (a ++ [i]) else none) else g xs (i + 1) a) :
    ∀ (xs : List Pr) (i : Nat) (a : List Int), a.length + xs.length ≤ 1000 → g xs (i : Int) a = K (a ++ idxs f xs i)
  | [], i, a, _ => by rw [h0]; simp [idxs]
  | x :: xs, i, a, hn => by
    simp only [List.length_cons] at hn
    rw [hs, show (i : Int) + 1 = ((i + 1 : Nat) : Int) by omega]
    cases hf : f x with
    | true =>
      rw [cond_true, decide_eq_true (show List.length a + List.length [(i : Int)] ≤ rowMax by simp [rowMax]; omega), cond_true, idx_loop g K f h0 hs xs (i + 1) (a ++ [(i : Int)]) (by simp; omega)]
      simp [idxs, hf]
    | false =>
      rw [cond_false, idx_loop g K f h0 hs xs (i + 1) a (by omega)]
      simp [idxs, hf]
theorem idxs_none {f : Pr → Bool} : ∀ {xs : List Pr} {i : Nat}, (∀ x ∈ xs, f x = false) → idxs f xs i = []
  | [], _, _ => rfl
  | x :: xs, i, h => by
    unfold idxs
    rw [h x (by simp), idxs_none fun y hy => h y (List.mem_cons_of_mem _ hy)]; rfl
theorem idxs_app {f : Pr → Bool} : ∀ {xs ys : List Pr} {i : Nat}, idxs f (xs ++ ys) i = idxs f xs i ++ idxs f ys (i + xs.length)
  | [], ys, i => by simp [idxs]
  | x :: xs, ys, i => by
    simp only [List.cons_append, idxs, idxs_app (xs := xs), List.append_assoc, List.length_cons]
    rw [show i + 1 + xs.length = i + (xs.length + 1) by omega]
theorem idxs_all {f : Pr → Bool} : ∀ {xs : List Pr} {i : Nat}, (∀ x ∈ xs, f x = true) → idxs f xs i = (List.range' i xs.length).map fun j : Nat => (j : Int)
  | [], _, _ => rfl
  | x :: xs, i, h => by
    unfold idxs
    rw [h x (by simp), idxs_all fun y hy => h y (List.mem_cons_of_mem _ hy), List.length_cons, List.range'_succ]; rfl
theorem idxs_tab {f : Pr → Bool} (h1 : ∀ s, f (prN s) = true) (h0 : f pr0 = false) (l : List Sta) : idxs f (tabP l) 0 = (List.range' 0 l.length).map fun j : Nat => (j : Int) := by
  unfold tabP
  rw [idxs_app, idxs_all (fun x hx => by obtain ⟨s, _, rfl⟩ := List.mem_map.1 hx; exact h1 s), idxs_none (fun x hx => by rw [List.eq_of_mem_replicate hx]; exact h0)]
  simp
theorem idxs_tab0 {f : Pr → Bool} (h1 : ∀ s, f (prN s) = false) (h0 : f pr0 = false) (l : List Sta) : idxs f (tabP l) 0 = [] :=
  idxs_none fun x hx => by
    rcases tabP_mem hx with ⟨s, _, rfl⟩ | rfl
    · exact h1 s
    · exact h0
theorem join_if {Ω : Type} {b c : Bool} (k : Bool × Unit → Option Ω) : ((bif b then some (c, ()) else some (false, ())) : Option (Bool × Unit)).bind k = k (b && c, ()) := by cases b <;> rfl
theorem in_u {T : List Pr} (hl : T.length ≤ 100) (hf : zq0s.u T = some true) (m : Int) : zq27.u T m = some (idxs (fun x => x.2.1 && (x.2.2.2.2.1 == m)) T 0) := by
  unfold zq27.u zq27.s zq0k.u zq0k.w
  rw [hf, Option.bind_some, Bool.not_true, cond_false, dec_len hl (by omega), cond_true]
  have := idx_loop (fun xs i a => zq0k.g0 m T some xs i a) some (fun x => x.2.1 && (x.2.2.2.2.1 == m)) (fun _ _ => rfl) (fun x xs i a => by
    show ((bif x.2.1 then some ((zq3g.t x m), ()) else some (false, ())) : Option (Bool × Unit)).bind _ = _
    rw [join_if]; rfl) T 0 [] (by simp; omega)
  have this : zq0k.g0 m T some T 0 [] = some ([] ++ idxs (fun x => x.2.1 && (x.2.2.2.2.1 == m)) T 0) := this
  rw [this]; rfl
theorem all0 : zq1d.u [] = some (0, 11) := by kernel_rfl
theorem alike0 : zq26.u [] [] = some true := by kernel_rfl
theorem chan_fine {y : Ch} (hy : zq0z.t y = 0) : zq31.u (zq1m.t y).1 = some true ∧ (zq1m.t y).1.2.2.2.1.2.1 = [] ∧ (zq1m.t y).1.2.2.2.2.2.1.2.1 = [] := by
  have e : (zq1m.t y).1 = (y, (0, ([], ((zq1z.t y 1, ([], ())), ([], ((zq1z.t y 2, ([], ())), ())))))) := by
    unfold zq1m.t; rw [hy]; rfl
  have hroom : 0 ≤ y.2.1 := by
    rcases Int.lt_or_le y.2.1 0 with h1 | h1
    · exfalso
      unfold zq0z.t at hy
      rw [decide_eq_true h1] at hy
      cases h2 : decide (y.1 < 0) with
      | true => rw [h2] at hy; cases hy
      | false =>
        rw [h2] at hy
        cases h3 : decide (y.1 > 3) with
        | true => rw [h3] at hy; cases hy
        | false => rw [h3] at hy; cases hy
    · exact h1
  have hc : ∀ b : Bool, zq18.u (b, ([], ())) = some true := fun b => by cases b <;> rfl
  refine ⟨?_, by rw [e], by rw [e]⟩
  rw [e]
  unfold zq31.u zq31.s
  dsimp only
  rw [hy, show ((0 : Int) != 0) = false from rfl, cond_false, show zq2k.t 0 = true from rfl]
  rw [decide_eq_false (show ¬ ((List.length ([] : List Int) : Nat) : Int) > y.2.1 by simp; omega)]
  rw [eqI_self .bool _ rfl, eqI_self .bool _ rfl, hc, hc]
  rfl
theorem of_g (e e3 : List Int) : ∀ (xs a : List Int), SetOK a → (∀ x ∈ xs, ∃ j : Nat, x = j ∧ j < 256) → ∃ st, zq1c.g0 e e3 some xs a = some st ∧ SetOK st ∧ ∀ j, j < 256 → bit st j = (bit a j || xs.any fun x => x == (j : Int))
  | [], a, ha, _ => ⟨a, rfl, ha, fun j _ => by simp⟩
  | x :: xs, a, ha, hx => by
    obtain ⟨p, rfl, hp⟩ := hx x (by simp)
    obtain ⟨s', e1, o1, b1⟩ := add_u ha hp
    obtain ⟨st, q1, q2, q3⟩ := of_g e e3 xs s' o1 fun y hy => hx y (List.mem_cons_of_mem _ hy)
    refine ⟨st, ?_, q2, fun j hj => ?_⟩
    · show (zq39.u a (p : Int)).bind _ = _
      rw [e1]; exact q1
    · rw [q3 j hj, b1 j hj, List.any_cons, Bool.or_assoc]
      congr 2
      rw [Bool.eq_iff_iff, decide_eq_true_iff, beq_iff_eq]; omega
theorem bsof_u {l : List Int} (hl : l.length ≤ 1000) (hx : ∀ x ∈ l, ∃ j : Nat, x = j ∧ j < 256) : ∃ st, zq1c.u l = some st ∧ SetOK st ∧ ∀ j, j < 256 → bit st j = l.any fun x => x == (j : Int) := by
  obtain ⟨st, q1, q2, q3⟩ := of_g l (List.replicate 4 0) l [0, 0, 0, 0] zero4_ok hx
  refine ⟨st, ?_, q2, fun j hj => by rw [q3 j hj, zero4_bit]; rfl⟩
  unfold zq1c.u zq1c.w
  rw [dec_len hl (by omega), cond_true]
  exact q1
theorem handle_some {T : List Pr} (hf : zq0s.u T = some true) (x : Int) : ∃ y, zq3c.u T x = some y := by
  unfold zq3c.u zq3c.s
  rw [hf, Option.bind_some, Bool.not_true, cond_false]
  unfold zq4d.u zq4d.s
  cases h1 : decide (x ≥ 0) with
  | false => exact ⟨0, rfl⟩
  | true =>
    cases h2 : decide (x < ((List.length T : Nat) : Int)) with
    | false => exact ⟨0, rfl⟩
    | true =>
      have h1 := of_decide_eq_true h1
      have h2 := of_decide_eq_true h2
      have hi : idxOK x (List.length T) = true := by
        obtain ⟨n, rfl⟩ := Int.eq_ofNat_of_zero_le h1
        exact idxOK_nat (by omega)
      rw [hi]
      simp only [cond_true, Option.bind_some]
      cases (List.getD T (Int.toNat x) (0, (false, (0, ((0, (false, ((List.replicate 8 0), ((List.replicate 16 0), (0, ((List.replicate 8 0), ())))))), (0, (0, (0, ([], ()))))))))).2.1 with
      | true => exact ⟨_, rfl⟩
      | false => exact ⟨_, rfl⟩
section
variable {c : T_s26} {Tf : List Ba} (h : Begun c Tf)
include h
theorem Begun.n : c.2.2.2.2.1.length ≤ 16 := h.ok.starts.1
theorem Begun.wd : ∀ s ∈ c.2.2.2.2.1, zq1j.t s.2.1 = true := fun s hs => (h.ok.starts.2 s hs).1
theorem Begun.fine : zq0s.u (tabP c.2.2.2.2.1) = some true := tab_fine h.n h.wd
theorem Begun.in0 : zq27.u (tabP c.2.2.2.2.1) 0 = some ((List.range' 0 c.2.2.2.2.1.length).map fun j : Nat => (j : Int)) := by
  rw [in_u (by rw [tabP_len h.n]; omega) h.fine, idxs_tab (fun s => rfl) rfl]
theorem Begun.inm {m : Int} (hm : (0 == m) = false) : zq27.u (tabP c.2.2.2.2.1) m = some [] := by
  rw [in_u (by rw [tabP_len h.n]; omega) h.fine, idxs_tab0 (fun s => by show (true && (0 == m)) = false; rw [hm]; rfl) rfl]
theorem Begun.waiting (k o : Int) : zq09.u (snapB c Tf) k o = some ([], []) := by
  unfold zq09.u zq09.w
  rw [show (snapB c Tf).2.1 = tabP c.2.2.2.2.1 from rfl, h.inm rfl]
  rfl
theorem Begun.processes : zq0n.u (snapB c Tf) = some true := by
  have key : ∀ xs : List Pr, (∀ x ∈ xs, (∃ s ∈ c.2.2.2.2.1, x = prN s) ∨ x = pr0) → zq0n.g0 (tabP c.2.2.2.2.1) (snapB c Tf) some xs = some true := by
    intro xs
    induction xs with
    | nil => intro _; rfl
    | cons x xs ih =>
      intro hx
      have hr := ih fun y hy => hx y (List.mem_cons_of_mem _ hy)
      rcases hx x (by simp) with ⟨s, hs, rfl⟩ | rfl
      · have hp := h.prog s hs
        have hin : zq2r.t s.1 8 = true := by
          unfold zq2r.t
          rw [decide_eq_true (show s.1 ≥ 0 by omega), cond_true, decide_eq_true (by omega)]
        show ((bif (!(zq2r.t s.1 8)) then some (true, ()) else (bif (!(zq2r.t 0 512)) then some (true, ()) else some ((!(zq2r.t 0 6)), ()))) : Option (Bool × Unit)).bind (fun j3 => bif j3.1 then some false else (zq1d.u []).bind fun y4 => ((bif ((0 : Int) == 1) then some ((y4.2 != 0), ()) else some (false, ())) : Option (Bool × Unit)).bind fun j5 => bif j5.1 then some false else zq0n.g0 (tabP c.2.2.2.2.1) (snapB c Tf) some xs) = _
        rw [hin, all0]
        exact hr
      · show ((bif (!(zq2r.t 0 8)) then some (true, ()) else (bif (!(zq2r.t 0 512)) then some (true, ()) else some ((!(zq2r.t 0 6)), ()))) : Option (Bool × Unit)).bind (fun j3 => bif j3.1 then some false else (zq1d.u []).bind fun y4 => ((bif ((0 : Int) == 1) then some ((y4.2 != 0), ()) else some (false, ())) : Option (Bool × Unit)).bind fun j5 => bif j5.1 then some false else zq0n.g0 (tabP c.2.2.2.2.1) (snapB c Tf) some xs) = _
        rw [all0]
        exact hr
  unfold zq0n.u zq0n.w
  rw [show (snapB c Tf).2.1 = tabP c.2.2.2.2.1 from rfl, h.fine, Option.bind_some, Bool.not_true, cond_false, dec_len (n := 16) (by rw [tabP_len h.n]; omega) (by omega), cond_true]
  exact key _ fun x hx => tabP_mem hx
theorem Begun.channels : zq0e.u (snapB c Tf) = some true := by
  have key : ∀ (e : List T_s114) (xs : List T_s114) (i : Int), (∀ x ∈ xs, ∃ y, zq0z.t y = 0 ∧ x = (zq1m.t y).1) → zq0e.g1 e (snapB c Tf) some xs i = some true := by
    intro e xs
    induction xs with
    | nil => intro i _; rfl
    | cons x xs ih =>
      intro i hx
      obtain ⟨y, hy, rfl⟩ := hx x (by simp)
      obtain ⟨q1, q2, q3⟩ := chan_fine hy
      have hr := ih (i + 1) fun y hy => hx y (List.mem_cons_of_mem _ hy)
      show ((zq09.u (snapB c Tf) 2 i).bind fun y2 => (zq09.u (snapB c Tf) 1 i).bind fun y3 => ((zq31.u (zq1m.t y).1).bind fun y4 => (bif (!y4) then some (true, ()) else ((zq26.u (zq1m.t y).1.2.2.2.1.2.1 y2.1).bind fun y5 => (bif (!y5) then some (true, ()) else ((zq26.u (zq1m.t y).1.2.2.2.2.2.1.2.1 y3.1).bind fun y6 => some ((!y6), ())))))).bind fun j7 => _) = _
      rw [h.waiting, h.waiting, Option.bind_some, Option.bind_some, q1, q2, q3, alike0]
      exact hr
  unfold zq0e.u zq0e.w
  rw [show (snapB c Tf).2.2.1 = c.2.1.map fun x => (zq1m.t x).1 from rfl, dec_len (n := 8) (by rw [List.length_map]; exact h.ok.chans.1) (by omega), cond_true]
  exact key _ _ _ fun x hx => by
    obtain ⟨y, hy, rfl⟩ := List.mem_map.1 hx
    exact ⟨y, h.ok.chans.2 y hy, rfl⟩
theorem Begun.open_ : ∃ st, zq0r.u (snapB c Tf) = some st ∧ SetOK st ∧ ∀ j, j < 256 → bit st j = decide (j < c.2.2.2.2.1.length) := by
  have hT : (tabP c.2.2.2.2.1).length = 16 := tabP_len h.n
  have e1 := idx_loop (fun xs i a => zq0r.g0 (tabP c.2.2.2.2.1) (snapB c Tf) (List.replicate 4 0) some xs i a) (fun a => (zq1c.u a).bind some) (fun x => x.2.1 && (x.2.2.2.2.1 != 3)) (fun _ _ => rfl) (fun x xs i a => by
    show ((bif x.2.1 then some ((x.2.2.2.2.1 != 3), ()) else some (false, ())) : Option (Bool × Unit)).bind _ = _
    rw [join_if]) (tabP c.2.2.2.2.1) 0 [] (by rw [hT]; simp)
  rw [idxs_tab (fun s => rfl) rfl, List.nil_append] at e1
  obtain ⟨st, q1, q2, q3⟩ := bsof_u (l := (List.range' 0 c.2.2.2.2.1.length).map fun j : Nat => (j : Int)) (by have := h.n; simp; omega) (fun x hx => by
    obtain ⟨j, hj, rfl⟩ := List.mem_map.1 hx
    rw [List.mem_range'_1] at hj
    have := h.n
    exact ⟨j, rfl, by omega⟩)
  refine ⟨st, ?_, q2, fun j hj => ?_⟩
  · unfold zq0r.u zq0r.w
    rw [show (snapB c Tf).2.1 = tabP c.2.2.2.2.1 from rfl, dec_len (n := 16) (by omega) (by omega), cond_true]
    refine Eq.trans e1 ?_
    show (zq1c.u _).bind some = _
    rw [q1]; rfl
  · rw [q3 j hj, Bool.eq_iff_iff, List.any_eq_true, decide_eq_true_iff]
    constructor
    · rintro ⟨x, hx, hq⟩
      obtain ⟨i, hi, rfl⟩ := List.mem_map.1 hx
      rw [List.mem_range'_1] at hi
      have : (i : Int) = (j : Int) := by simpa using hq
      omega
    · intro hj2
      exact ⟨(j : Int), List.mem_map.2 ⟨j, List.mem_range'_1.2 (by omega), rfl⟩, by simp⟩
theorem Begun.bar {i : Nat} (hi : i < Tf.length) : BP c.2.2.2.2.1 c.2.2.2.2.1.length i (Tf.getD i ba0) := by
  have := h.rel.at_ i hi
  rwa [if_neg (by omega)] at this
theorem Begun.barriers : zq0p.u (snapB c Tf) = some true := by
  obtain ⟨st, o1, o2, o3⟩ := h.open_
  have key : ∀ (e : List Ba) (xs : List Ba) (i : Nat), Tf.drop i = xs → zq0p.g0 e (snapB c Tf) some xs (i : Int) = some true := by
    intro e xs
    induction xs with
    | nil => intro i _; rfl
    | cons x xs ih =>
      intro i hd
      have hx0 : Tf[i]? = some x := by
        have : (Tf.drop i)[0]? = some x := by rw [hd]; rfl
        rwa [List.getElem?_drop, Nat.add_zero] at this
      have hi := (List.getElem?_eq_some_iff.1 hx0).1
      have hb := h.bar hi
      rw [show Tf.getD i ba0 = x by rw [List.getD_eq_getElem?_getD, hx0]; rfl] at hb
      obtain ⟨y, hy⟩ := hb.rel
      have hr := ih (i + 1) (by rw [← List.drop_drop, hd]; rfl)
      rw [show ((i + 1 : Nat) : Int) = (i : Int) + 1 by omega] at hr
      obtain ⟨b, s1, s2⟩ := sub_u hy.set o2
      have hbt : b = true := s2.2 fun j hj hjb => by
        rw [o3 j hj]
        rw [hb.bits j hj, Bool.and_eq_true] at hjb
        exact hjb.1
      show ((zq09.u (snapB c Tf) 3 (i : Int)).bind fun y2 => (zq2t.u x).bind fun y3 => bif (!y3) then _ else (zq2m.u x.2.1.2.1).bind fun y4 => (zq26.u y4 y2.1).bind fun y5 => bif (!y5) then _ else (zq0r.u (snapB c Tf)).bind fun y6 => (zq3a.u x.2.1.1 y6).bind fun y7 => bif (!y7) then _ else zq0p.g0 e (snapB c Tf) some xs ((i : Int) + 1)) = _
      rw [h.waiting, Option.bind_some, bar_fine hy h.n, Option.bind_some, Bool.not_true, cond_false, hy.at_, list_u zero4_ok, Option.bind_some, nums_zero, alike0, Option.bind_some, Bool.not_true, cond_false, o1, Option.bind_some, s1, Option.bind_some, hbt, Bool.not_true, cond_false]
      exact hr
  unfold zq0p.u zq0p.w
  have hl : Tf.length ≤ 8 := by rw [h.len]; exact h.ok.bars.1
  rw [show (snapB c Tf).2.2.2.1 = Tf from rfl, dec_len hl (by omega), cond_true]
  exact key Tf Tf 0 rfl
theorem Begun.buckets : zq0q.u (snapB c Tf) = some true := by
  have key : ∀ (e : List (List Int)) (n : Nat), zq0q.g0 e (snapB c Tf) some (List.replicate n []) [] = some true := by
    intro e n
    induction n with
    | zero =>
      show (zq27.u (tabP c.2.2.2.2.1) 2).bind _ = _
      rw [h.inm rfl, Option.bind_some, alike0]; rfl
    | succ n ih =>
      rw [List.replicate_succ]
      exact ih
  have hk := h.ok.pails
  unfold zq0q.u zq0q.w
  rw [show (snapB c Tf).2.2.2.2.1 = List.replicate (Int.toNat c.2.2.2.1) [] from rfl, dec_len (n := 4) (by rw [List.length_replicate]; omega) (by omega), cond_true]
  exact key _ _
theorem Begun.clocks : zq07.u (snapB c Tf) = some true := by
  unfold zq07.u zq07.w
  rw [show (snapB c Tf).2.1 = tabP c.2.2.2.2.1 from rfl, h.inm rfl]
  rfl
theorem Begun.sound : zq3n.u (snapB c Tf) = some true := by
  unfold zq3n.u zq3n.s
  rw [show (snapB c Tf).1 = 0 from rfl, show zq38.t 0 = true by decide, cond_true, h.processes, Option.bind_some, cond_true, h.channels, Option.bind_some, cond_true, h.barriers, Option.bind_some, cond_true, h.buckets, Option.bind_some, cond_true, h.clocks]
  rfl
theorem Begun.handles : ∃ l, zq0t.u (tabP c.2.2.2.2.1) = some l := by
  have hT : (tabP c.2.2.2.2.1).length = 16 := tabP_len h.n
  have key : ∀ (e : Int) (d i : Nat) (a : List Int), i + d = a.length → ∃ l, zq0t.g0 (tabP c.2.2.2.2.1) e some d (i : Int) a = some l := by
    intro e d
    induction d with
    | zero => intro i a _; exact ⟨a, rfl⟩
    | succ d ih =>
      intro i a hi
      obtain ⟨y, hy⟩ := handle_some h.fine (List.getD a (Int.toNat (i : Int)) 0)
      obtain ⟨l, hl⟩ := ih (i + 1) (List.set a i y) (by simp; omega)
      rw [show ((i + 1 : Nat) : Int) = (i : Int) + 1 by omega] at hl
      refine ⟨l, ?_⟩
      conv => lhs; unfold zq0t.g0
      rw [idxOK_nat (by omega), cond_true, hy, Option.bind_some, cond_true]
      exact hl
  have e1 := idx_loop (fun xs i a => zq0g.g0 (tabP c.2.2.2.2.1) some xs i a) some (fun x => x.2.1 && (x.2.2.2.2.1 != 3)) (fun _ _ => rfl) (fun x xs i a => by
    show ((bif x.2.1 then some ((zq2a.t x), ()) else some (false, ())) : Option (Bool × Unit)).bind _ = _
    rw [join_if]; rfl) (tabP c.2.2.2.2.1) 0 [] (by rw [hT]; simp)
  have e2 : zq0g.u (tabP c.2.2.2.2.1) = some ([] ++ idxs (fun x => x.2.1 && (x.2.2.2.2.1 != 3)) (tabP c.2.2.2.2.1) 0) := by
    unfold zq0g.u zq0g.w
    rw [h.fine, Option.bind_some, Bool.not_true, cond_false, dec_len (n := 16) (by omega) (by omega), cond_true]
    exact e1
  unfold zq0t.u zq0t.w
  have hl := idxs_len (fun x : Pr => x.2.1 && (x.2.2.2.2.1 != 3)) (tabP c.2.2.2.2.1) 0
  rw [e2, Option.bind_some, List.nil_append, dec_len (n := 16) (by omega) (by omega), cond_true, show ∀ n : Nat, Int.toNat ((n : Int) - 0) = n from fun n => by omega]
  exact key _ _ 0 _ (by omega)
theorem Begun.view : ∃ v, zq1e.u (snapB c Tf) = some v ∧ v.2.2.2.1 = [] := by
  obtain ⟨l, hl⟩ := h.handles
  unfold zq1e.u zq1e.w
  rw [show (snapB c Tf).2.1 = tabP c.2.2.2.2.1 from rfl, hl, Option.bind_some, h.inm rfl]
  exact ⟨_, rfl, rfl⟩
end
abbrev tyIn : ETy := .pair (.int .u8) (.pair (.int .u8) (.pair (.int .u8) (.pair (.int .u8) .unit)))
theorem u8_of {n : Int} (h : (Lit.int .u8 n).wf = true) : 0 ≤ n ∧ n ≤ 255 := by
  simp [Lit.wf, IntKind.min, IntKind.max, IntKind.signed, IntKind.bits] at h
  omega
theorem inOK_of {x : In} (h : fits tyIn x) : InOK x := ⟨u8_of h.1, u8_of h.2.1, u8_of h.2.2.1, u8_of h.2.2.2.1⟩
end
section
set_option linter.unusedVariables false
set_option linter.unusedSimpArgs false
set_option maxRecDepth 100000
theorem sbit_one {n b : Nat} (hn : n < 256) (hb : b < 8) : (decide ((0 : Int) ≤ (b : Int)) = true) ∧ ((IntKind.wrap .i64 (BitVec.ofInt (IntKind.bits .i64) (Int.fdiv (n : Int) (2 ^ (min (Int.toNat (b : Int)) (IntKind.bits .i64)))) &&& BitVec.ofInt (IntKind.bits .i64) 1).toNat) == 1) = sbit (n : Int) (b : Int) := by
  refine ⟨decide_eq_true (by omega), ?_⟩
  have key : ((List.range 256).all fun n => (List.range 8).all fun b => ((IntKind.wrap .i64 (BitVec.ofInt (IntKind.bits .i64) (Int.fdiv (n : Int) (2 ^ (min (Int.toNat (b : Int)) (IntKind.bits .i64)))) &&& BitVec.ofInt (IntKind.bits .i64) 1).toNat) == 1) == sbit (n : Int) (b : Int)) = true := by kernel_rfl
  rw [List.all_eq_true] at key
  have k1 := key n (List.mem_range.2 hn)
  rw [List.all_eq_true] at k1
  have k2 := k1 b (List.mem_range.2 hb)
  simpa using k2
def barR (x : Ba) : Ba := (x.1, ((nums x.2.1.1, ([], ())), (0, ())))
theorem any_g (e14 e18 : Int) (e1 : List T_s63) (e2 e3 : Int) (e4 : List Int) (e5 : T_s26) (e6 : T_s35) (e7 : T_s63) {Ω : Type} (r : Int → Option Ω) (k : Bool → Option Ω) : ∀ (xs : List Int) (a : Bool), zq04.g0 e14 e18 e1 e2 e3 e4 e5 e6 e7 r k xs a = zq04.g0 e14 e18 e1 e2 e3 e4 e5 e6 e7 r k [] (a || xs.any fun x => x == e14)
  | [], a => by simp
  | x :: xs, a => by
    show ((bif a then some (true, ()) else some ((x == e14), ())) : Option (Bool × Unit)).bind (fun j15 => zq04.g0 e14 e18 e1 e2 e3 e4 e5 e6 e7 r k xs j15.1) = _
    have : ((bif a then some (true, ()) else some ((x == e14), ())) : Option (Bool × Unit)) = some ((a || (x == e14)), ()) := by cases a <;> rfl
    rw [this, Option.bind_some, any_g e14 e18 e1 e2 e3 e4 e5 e6 e7 r k xs, List.any_cons, Bool.or_assoc]
section
variable {c : T_s26} {Tf : List Ba} (h : Begun c Tf)
include h
theorem Begun.isR {i : Nat} (hi : i < Tf.length) : BR c.2.2.2.2.1.length (Tf.getD i ba0) (barR (Tf.getD i ba0)) := by
  obtain ⟨y, hy⟩ := (h.bar hi).rel
  exact ⟨rfl, hy.fine, hy.set, hy.at_, hy.ph, rfl, rfl, rfl, hy.lt⟩
theorem Begun.from_ : zq1a.u (snapB c Tf) = some (0, (tabP c.2.2.2.2.1, (c.2.1.map fun x => (zq1m.t x).1, (Tf.map barR, ((List.replicate (Int.toNat c.2.2.2.1) []), ([], ())))))) := by
  have hl : Tf.length ≤ 8 := by rw [h.len]; exact h.ok.bars.1
  have hr : RelT c.2.2.2.2.1.length 0 Tf (Tf.map barR) := by
    refine ⟨by simp, fun i hi => ?_⟩
    rw [if_neg (by omega), show (Tf.map barR).getD i rba0 = barR (Tf.getD i ba0) by
      rw [List.getD_eq_getElem?_getD, List.getD_eq_getElem?_getD, List.getElem?_map, List.getElem?_eq_getElem hi]; rfl]
    exact h.isR hi
  have hc := h.ok.chans.1
  unfold zq1a.u zq1a.w
  rw [from31 (show List.length (tabP c.2.2.2.2.1) ≤ 1000 by rw [tabP_len h.n]; omega), Option.bind_some, from19 (show List.length (c.2.1.map fun x => (zq1m.t x).1) ≤ 1000 by rw [List.length_map]; omega), Option.bind_some, from23 hr hl]
  rfl
theorem Begun.fresh1 {p : Nat} {s : Sta} (hp : p < c.2.2.2.2.1.length) (hs : c.2.2.2.2.1.getD p (0, (0, (0, ()))) = s) (e1 : List T_s63) (e2 e3 : Int) (r : Int → Option Bool) : ∀ (d b : Nat), b + d = Tf.length → zq04.g1 (p : Int) e1 e2 e3 c (snapB c Tf) s r some d (b : Int) = r ((p : Int) + 1)
  | 0, b, _ => rfl
  | d + 1, b, hb => by
    have hb' : b < Tf.length := by omega
    have hl : Tf.length ≤ 8 := by rw [h.len]; exact h.ok.bars.1
    have hn := h.n
    conv => lhs; unfold zq04.g1
    rw [h.from_, Option.bind_some]
    dsimp only
    have hg : List.getD (Tf.map barR) (Int.toNat (b : Int)) ((false, (0, ())), (([], ([], ())), (0, ()))) = barR (Tf.getD b ba0) := by
      rw [Int.toNat_natCast, List.getD_eq_getElem?_getD, List.getD_eq_getElem?_getD, List.getElem?_map, List.getElem?_eq_getElem hb']; rfl
    rw [idxOK_nat (by rw [List.length_map]; exact hb'), cond_true, hg]
    have hm : (barR (Tf.getD b ba0)).2.1.1 = nums (Tf.getD b ba0).2.1.1 := rfl
    have hnl := nums_len (Tf.getD b ba0).2.1.1
    rw [hm, dec_len hnl (by omega), cond_true, any_g, Bool.false_or, any_nums (by omega), (h.bar hb').bits p (by omega), decide_eq_true hp, Bool.true_and]
    have hsm : s ∈ c.2.2.2.2.1 := by
      rw [← hs, List.getD_eq_getElem?_getD, List.getElem?_eq_getElem hp]; exact List.getElem_mem _
    obtain ⟨q1, q2, q3⟩ := h.ok.starts.2 s hsm
    have hlt : s.2.2.1 < 256 := by
      refine Int.lt_of_lt_of_le q3 ?_
      have : (2 : Nat) ^ c.2.2.1.length ≤ 2 ^ 8 := Nat.pow_le_pow_right (by omega) h.ok.bars.1
      have e : ((2 : Int) ^ c.2.2.1.length) = ((2 ^ c.2.2.1.length : Nat) : Int) := by simp
      rw [e]; exact_mod_cast this
    obtain ⟨n0, hn0⟩ := Int.eq_ofNat_of_zero_le q2
    obtain ⟨w1, w2⟩ := sbit_one (n := n0) (b := b) (by omega) (by omega)
    rw [← hn0] at w2
    have hsb : sb c.2.2.2.2.1 p b = sbit s.2.2.1 (b : Int) := by unfold sb; rw [hs]
    conv => lhs; unfold zq04.g0
    rw [w1, cond_true]
    dsimp only
    rw [w2, hsb, eqI_self .bool _ rfl, Bool.not_true, cond_false]
    have := Begun.fresh1 hp hs e1 e2 e3 r d (b + 1) (by omega)
    rw [show ((b + 1 : Nat) : Int) = (b : Int) + 1 by omega] at this
    exact this
theorem Begun.fresh2 (e1 : List T_s63) : ∀ (xs : List Sta) (p : Nat), c.2.2.2.2.1.drop p = xs → zq04.g2 e1 c (snapB c Tf) some xs (p : Int) = some true
  | [], p, _ => rfl
  | x :: xs, p, hd => by
    have hn := h.n
    have hx0 : c.2.2.2.2.1[p]? = some x := by
      have : (c.2.2.2.2.1.drop p)[0]? = some x := by rw [hd]; rfl
      rwa [List.getElem?_drop, Nat.add_zero] at this
    have hp := (List.getElem?_eq_some_iff.1 hx0).1
    have hs : c.2.2.2.2.1.getD p (0, (0, (0, ()))) = x := by rw [List.getD_eq_getElem?_getD, hx0]; rfl
    have hT : (tabP c.2.2.2.2.1).length = 16 := tabP_len hn
    have ht : List.getD (snapB c Tf).2.1 (Int.toNat (p : Int)) (0, (false, (0, ((0, (false, ((List.replicate 8 0), ((List.replicate 16 0), (0, ((List.replicate 8 0), ())))))), (0, (0, (0, ([], ())))))))) = prN x := by
      show (tabP c.2.2.2.2.1).getD p pr0 = prN x
      unfold tabP
      rw [List.getD_eq_getElem?_getD, List.getElem?_append_left (by simpa using hp), List.getElem?_map, hx0]; rfl
    have hl : Tf.length ≤ 8 := by rw [h.len]; exact h.ok.bars.1
    conv => lhs; unfold zq04.g2
    rw [idxOK_nat (show p < List.length (snapB c Tf).2.1 by show p < (tabP c.2.2.2.2.1).length; omega), cond_true, cond_true, ht]
    have f1 : ((prN x).2.2.1 != x.1) = false := by simp [prN]
    have f2 : (List.getD (prN x).2.2.2.1.2.2.1 0 0 != x.2.1) = false := by simp [prN, frN]
    dsimp only
    rw [f1, f2, cond_false, Option.bind_some]
    dsimp only
    rw [cond_false, dec_len hl (by omega), cond_true, show Int.toNat (((List.length Tf : Nat) : Int) - 0) = Tf.length by omega]
    have := h.fresh1 hp hs e1 (((List.length e1 : Nat) : Int)) (((List.length Tf : Nat) : Int)) (fun q => zq04.g2 e1 c (snapB c Tf) some xs q) Tf.length 0 (by omega)
    refine Eq.trans this ?_
    have := Begun.fresh2 e1 xs (p + 1) (by rw [← List.drop_drop, hd]; rfl)
    rw [show ((p + 1 : Nat) : Int) = (p : Int) + 1 by omega] at this
    exact this
end
theorem law_fresh (c : T_s26) (hP : ∀ l ∈ c.1, PrOK l) : zq04.u c = some true := by
  unfold zq04.u zq04.w
  obtain ⟨b, hb, hs⟩ := small_u c
  rw [hb, Option.bind_some]
  cases b with
  | false => rfl
  | true =>
    obtain ⟨l1, l2, l3, l5⟩ := hs rfl
    rw [Bool.not_true, cond_false]
    rcases begin_whole c ⟨l1, l2, l3, l5, hP⟩ with ⟨e, he, h1⟩ | ⟨Tf, h, h1⟩
    · rw [h1, Option.bind_some]
      dsimp only
      rw [show (e != 0) = true by simpa using he, cond_true]
      rfl
    · have hk := h.ok.pails
      have hn := h.n
      obtain ⟨v, v1, v2⟩ := h.view
      rw [h1, Option.bind_some]
      dsimp only
      rw [show ((0 : Int) != 0) = false from rfl, cond_false, h.sound, Option.bind_some, Bool.not_true, cond_false, h.in0, Option.bind_some, v1, Option.bind_some, v2]
      rw [List.length_map, List.length_range', List.length_map, h.len, List.length_replicate]
      rw [show (((c.2.2.2.2.1.length : Nat) : Int) != ((c.2.2.2.2.1.length : Nat) : Int)) = false by simp, cond_false]
      rw [show (((c.2.1.length : Nat) : Int) != ((c.2.1.length : Nat) : Int)) = false by simp, cond_false]
      rw [show (((c.2.2.1.length : Nat) : Int) != ((c.2.2.1.length : Nat) : Int)) = false by simp, cond_false]
      rw [show (((Int.toNat c.2.2.2.1 : Nat) : Int) != c.2.2.2.1) = false by simp; omega, cond_false]
      rw [show ((IntKind.wrap .i64 (((List.length ([] : List T_s175) : Nat) : Int) + ((List.length ([] : List T_s63) : Nat) : Int))) != 0) = false by decide, cond_false, dec_len (n := 16) hn (by omega), cond_true]
      exact h.fresh2 _ _ 0 rfl
theorem row_SnapFresh (xs : Args [E_s26]) (h : fitsA _ xs) : zq04.u xs.1 = some true := law_fresh xs.1 fun l hl x hx => inOK_of ((h.1.1.2 l hl).2 x hx)
end
end Go.Proofs.YtlcomipbinfooaaGreatDoor.K

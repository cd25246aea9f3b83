/-
 NormUpDown: the law. No program in sight.
-/
import Derived.Test.YtkkhgdmmbhpckaaGreatNud
namespace Go.Proofs.YtkkhgdmmbhpckaaGreat.Ab
open Go.RowKit
attribute [local instance] baLawful
def ltr (k : Nat) : ByteArray := { data := #[UInt8.ofNat (97 + k)] }
def abc : ByteArray := { data := #[97, 98, 99, 100, 101, 102, 103, 104] }
theorem letr : ∀ k : Nat, k < 8 → bslc abc (k : Int) (IntKind.i64.wrap ((k : Int) + 1)) = some (ltr k)
 | 0, _ => by kernel_rfl
 | 1, _ => by kernel_rfl
 | 2, _ => by kernel_rfl
 | 3, _ => by kernel_rfl
 | 4, _ => by kernel_rfl
 | 5, _ => by kernel_rfl
 | 6, _ => by kernel_rfl
 | 7, _ => by kernel_rfl
 | k + 8, h => absurd h (by omega)
def rkL (s : ByteArray) : Nat := (s.data.toList.headD 0).toNat
theorem rk_ltr : ∀ k : Nat, k < 8 → rkL (ltr k) = 97 + k := by
 have : ∀ k : Fin 8, rkL (ltr k.1) = 97 + k.1 := by decide
 exact fun k hk => this ⟨k, hk⟩
theorem ltr_inj {a b : Nat} (ha : a < 8) (hb : b < 8) (h : ltr a = ltr b) : a = b := by
 have h1 := rk_ltr a ha
 have h2 := rk_ltr b hb
 rw [h] at h1
 omega
def lo (x : Int) : Nat := an x 7
def hi (x : Int) : Nat := an (sh x 3) 7
theorem lo_lt (x : Int) : lo x < 8 := Nat.lt_of_le_of_lt (an_le _ _) (by decide)
theorem hi_lt (x : Int) : hi x < 8 := Nat.lt_of_le_of_lt (an_le _ _) (by decide)
theorem lo_nat : ∀ k : Nat, k < 8 → lo (k : Int) = k := by
 have : ∀ k : Fin 8, lo ((k.1 : Nat) : Int) = k.1 := by decide
 exact fun k hk => this ⟨k, hk⟩
theorem lo_w (x : Int) : IntKind.i64.wrap (an x 7 : Int) = (lo x : Int) := wrap_an _ _ (by decide)
theorem id_some {n : Nat} (x : Int) : law14_NormUpDown_c1 n x = some (ltr (lo x)) := by
 unfold law14_NormUpDown_c1
 rw [lo_w]
 exact (congrArg (fun z => Option.bind z _) (letr (lo x) (lo_lt x))).trans rfl
theorem aixS {k : Nat} (h : k < 8) : aix 8 (k : Int) = some k := by
 unfold aix
 rw [if_pos ⟨by omega, by omega⟩]
 rfl
def mat (g : Nat → Nat → Bool) : List Bool := (List.range 64).map fun m => g (m / 8) (m % 8)
def put2 (g : Nat → Nat → Bool) (a b : Nat) (v : Bool) : Nat → Nat → Bool := fun x y => if x = a ∧ y = b then v else g x y
theorem mat_len (g : Nat → Nat → Bool) : (mat g).length = 64 := by simp [mat]
theorem mat_get {g : Nat → Nat → Bool} {a b : Nat} (ha : a < 8) (hb : b < 8) : (mat g)[a * 8 + b]? = some (g a b) := by
 unfold mat
 rw [List.getElem?_map, List.getElem?_range (by omega), Option.map_some, show (a * 8 + b) / 8 = a by omega, show (a * 8 + b) % 8 = b by omega]
theorem mat_congr {g h : Nat → Nat → Bool} (e : ∀ a b, a < 8 → b < 8 → g a b = h a b) : mat g = mat h := by
 unfold mat
 refine List.map_congr_left fun m hm => ?_
 have := List.mem_range.1 hm
 exact e _ _ (by omega) (by omega)
theorem mat_set {g : Nat → Nat → Bool} {a b : Nat} (ha : a < 8) (hb : b < 8) (v : Bool) : bset (mat g) (a * 8 + b) v = some (mat (put2 g a b v)) := by
 unfold bset
 rw [mat_len, if_pos (by omega)]
 congr 1
 refine List.ext_getElem (by simp [mat]) fun m h1 h2 => ?_
 rw [List.getElem_set]
 rw [mat_len] at h2
 simp only [mat, List.getElem_map, List.getElem_range]
 unfold put2
 by_cases h : a * 8 + b = m
 ·rw [if_pos h, if_pos ⟨by omega, by omega⟩]
 ·rw [if_neg h, if_neg (by omega)]
def prP (x : Int) : GPair := ⟨ltr (lo x), ltr (hi x)⟩
def addG (g : Nat → Nat → Bool) (ys : List Int) : Nat → Nat → Bool := ys.foldl (fun g x => put2 g (lo x) (hi x) true) g
theorem addG_iff : ∀ (ys : List Int) (g : Nat → Nat → Bool) (a b : Nat), addG g ys a b = true ↔ g a b = true ∨ ∃ x ∈ ys, a = lo x ∧ b = hi x
 | [], g, a, b => by simp [addG]
 | x :: ys, g, a, b => by
  have ih := addG_iff ys (put2 g (lo x) (hi x) true) a b
  refine Iff.trans ih ?_
  unfold put2
  by_cases h : a = lo x ∧ b = hi x
  ·rw [if_pos h]
   exact ⟨fun _ => .inr ⟨x, List.mem_cons_self .., h⟩, fun _ => .inl rfl⟩
  ·rw [if_neg h]
   constructor
   ·rintro (h1 | ⟨y, h1, h2⟩)
    ·exact .inl h1
    ·exact .inr ⟨y, List.mem_cons_of_mem _ h1, h2⟩
   ·rintro (h1 | ⟨y, h1, h2⟩)
    ·exact .inl h1
    ·rcases List.mem_cons.1 h1 with rfl | h1
     ·exact absurd h2 h
     ·exact .inr ⟨y, h1, h2⟩
theorem ud1 {n : Nat} (t0 : List Int) : ∀ (c i : Nat) (out : List GPair) (g : Nat → Nat → Bool), i ≤ 20 → 20 - i < c → out.length ≤ i →
  law14_NormUpDown_L1 n t0 c (out, mat g, (i : Int)) = some (out ++ ((t0.drop i).take (20 - i)).map prP, mat (addG g ((t0.drop i).take (20 - i))))
 | 0, _, _, _, _, h, _ => by omega
 | c + 1, i, out, g, hi20, hc, ho => by
  rw [law14_NormUpDown_L1]
  by_cases h : i < t0.length
  ·rw [dlt h, if_pos rfl, Zo]
   by_cases h2 : i < 20
   ·obtain ⟨m, hm⟩ : ∃ m, 20 - i = m + 1 := ⟨19 - i, by omega⟩
    have e2 : IntKind.i64.wrap (an (sh t0[i] 3) 7 : Int) = (hi t0[i] : Int) := wrap_an _ _ (by decide)
    rw [show decide ((i : Int) < 20) = true from decide_eq_true (by omega), if_pos rfl, idxS h, Zo, id_some, Zo, id_some, Zo, appS (by simp; omega), Zo, lo_w, e2, aixS (lo_lt _), Zo, aixS (hi_lt _), Zo, mat_set (lo_lt _) (hi_lt _), Zo, wr1 (by omega), List.drop_eq_getElem_cons h, hm, List.take_succ_cons]
    have ih := ud1 (n := n) t0 c (i + 1) (out ++ [prP t0[i]]) (put2 g (lo t0[i]) (hi t0[i]) true) (by omega) (by omega) (by rw [List.length_append, List.length_singleton]; omega)
    rw [show 20 - (i + 1) = m by omega] at ih
    refine ih.trans ?_
    rw [List.map_cons, List.append_assoc]
    rfl
   ·rw [show decide ((i : Int) < 20) = false from decide_eq_false (by omega), if_neg (by decide), show 20 - i = 0 by omega, List.take_zero, List.map_nil, List.append_nil]
    rfl
  ·rw [dnlt (by omega), if_neg (by decide), Zo, if_neg (by decide), List.drop_eq_nil_of_le (by omega), List.take_nil, List.map_nil, List.append_nil]
   rfl
theorem d8 {i : Nat} (h : i < 8) : decide ((i : Int) < 8) = true := decide_eq_true (by omega)
theorem dn8 {i : Nat} (h : ¬ i < 8) : decide ((i : Int) < 8) = false := decide_eq_false (by omega)
theorem ud2 {n : Nat} : ∀ (c i : Nat) (g : Nat → Nat → Bool), i ≤ 8 → 8 - i < c →
  law14_NormUpDown_L2 n c (mat g, (i : Int)) = some (mat fun a b => g a b || (decide (a = b) && decide (i ≤ a)))
 | 0, _, _, _, h => by omega
 | c + 1, i, g, hi, hc => by
  rw [law14_NormUpDown_L2]
  by_cases h : i < 8
  ·rw [d8 h, if_pos rfl, aixS h, Zo, mat_set h h, Zo, wr1 (by omega), ud2 c (i + 1) _ (by omega) (by omega)]
   congr 1
   refine mat_congr fun a b _ _ => ?_
   unfold put2
   by_cases e : a = i ∧ b = i
   ·rw [if_pos e, e.1, e.2, decide_eq_true rfl, decide_eq_true (Nat.le_refl i)]
    simp
   ·rw [if_neg e]
    by_cases e2 : a = b
    ·have : (i + 1 ≤ a) ↔ (i ≤ a) := by omega
     simp only [this]
    ·rw [decide_eq_false e2]
     rfl
  ·rw [dn8 h, if_neg (by decide)]
   congr 1
   refine mat_congr fun a b ha _ => ?_
   rw [decide_eq_false (show ¬ i ≤ a by omega), Bool.and_false, Bool.or_false]
def stp (k : Nat) (g : Nat → Nat → Bool) : Nat → Nat → Bool := fun a b => g a b || (g a k && g k b)
def part (k i j : Nat) (g : Nat → Nat → Bool) : Nat → Nat → Bool := fun a b => if a < i ∨ (a = i ∧ b < j) then stp k g a b else g a b
theorem abs1 (x y : Bool) : (x || (x && y)) = x := by cases x <;> cases y <;> rfl
theorem abs2 (x y : Bool) : (x || (y && x)) = x := by cases x <;> cases y <;> rfl
theorem part_row {k i j : Nat} {g : Nat → Nat → Bool} (a : Nat) : part k i j g a k = g a k := by
 unfold part stp
 split
 ·exact abs1 _ _
 ·rfl
theorem part_col {k i j : Nat} {g : Nat → Nat → Bool} (b : Nat) : part k i j g k b = g k b := by
 unfold part stp
 split
 ·exact abs2 _ _
 ·rfl
theorem part_put {k i j : Nat} {g : Nat → Nat → Bool} : mat (put2 (part k i j g) i j (stp k g i j)) = mat (part k i (j + 1) g) := mat_congr fun a b _ _ => by
 unfold put2
 by_cases e : a = i ∧ b = j
 ·rw [if_pos e, e.1, e.2]
  unfold part
  rw [if_pos (.inr ⟨rfl, Nat.lt_succ_self j⟩)]
 ·rw [if_neg e]
  unfold part
  have : (a < i ∨ (a = i ∧ b < j)) ↔ (a < i ∨ (a = i ∧ b < j + 1)) := by omega
  simp only [this]
theorem ud5 {n k i : Nat} (hk : k < 8) (hi : i < 8) (g : Nat → Nat → Bool) : ∀ (c j : Nat), j ≤ 8 → 8 - j < c →
  law14_NormUpDown_L5 n (k : Int) (i : Int) c (mat (part k i j g), (j : Int)) = some (mat (part k i 8 g))
 | 0, _, _, h => by omega
 | c + 1, j, hj, hc => by
  rw [law14_NormUpDown_L5]
  by_cases h : j < 8
  ·have ih := ud5 (n := n) hk hi g c (j + 1) (by omega) (by omega)
   have e0 : part k i j g i j = g i j := by
    unfold part
    rw [if_neg (by omega)]
   have key : ∀ v, v = stp k g i j → ((bset (mat (part k i j g)) (i * 8 + j) v).bind fun l => law14_NormUpDown_L5 n (k : Int) (i : Int) c (l, IntKind.i64.wrap ((j : Int) + 1))) = some (mat (part k i 8 g)) := fun v hv => by
    rw [mat_set hi h, Zo, hv, part_put, wr1 (by omega)]
    exact ih
   rw [d8 h, if_pos rfl, aixS hi, Zo, aixS h, Zo, mat_get hi h, Zo, e0]
   cases e1 : g i j with
   | true =>
    rw [if_pos rfl]
    exact key _ (by unfold stp; rw [e1]; rfl)
   | false =>
    rw [if_neg (by decide), aixS hk, Zo, mat_get hi hk, Zo, part_row]
    cases e2 : g i k with
    | true =>
     rw [if_pos rfl, mat_get hk h, Zo, part_col]
     exact key _ (by unfold stp; rw [e1, e2]; rfl)
    | false =>
     rw [if_neg (by decide)]
     exact key _ (by unfold stp; rw [e1, e2]; rfl)
  ·rw [dn8 h, if_neg (by decide), show j = 8 by omega]
theorem ud4 {n k : Nat} (hn : 8 < n) (hk : k < 8) (g : Nat → Nat → Bool) : ∀ (c i : Nat), i ≤ 8 → 8 - i < c →
  law14_NormUpDown_L4 n (k : Int) c (mat (part k i 0 g), (i : Int)) = some (mat (stp k g))
 | 0, _, _, h => by omega
 | c + 1, i, hi, hc => by
  rw [law14_NormUpDown_L4]
  by_cases h : i < 8
  ·have h5 : law14_NormUpDown_L5 n (k : Int) (i : Int) n (mat (part k i 0 g), 0) = _ := ud5 hk h g n 0 (by omega) (by omega)
   have e : mat (part k i 8 g) = mat (part k (i + 1) 0 g) := mat_congr fun a b _ hb => by
    unfold part
    have : (a < i ∨ (a = i ∧ b < 8)) ↔ (a < i + 1 ∨ (a = i + 1 ∧ b < 0)) := by omega
    simp only [this]
   rw [d8 h, if_pos rfl, h5, Zo, wr1 (by omega), e]
   exact ud4 hn hk g c (i + 1) (by omega) (by omega)
  ·rw [dn8 h, if_neg (by decide)]
   congr 1
   refine mat_congr fun a b ha _ => ?_
   unfold part
   rw [if_pos (by omega)]
def iter : Nat → (Nat → Nat → Bool) → (Nat → Nat → Bool)
 | 0, g => g
 | k + 1, g => stp k (iter k g)
theorem ud3 {n : Nat} (hn : 8 < n) (g : Nat → Nat → Bool) : ∀ (c k : Nat), k ≤ 8 → 8 - k < c →
  law14_NormUpDown_L3 n c (mat (iter k g), (k : Int)) = some (mat (iter 8 g))
 | 0, _, _, h => by omega
 | c + 1, k, hk, hc => by
  rw [law14_NormUpDown_L3]
  by_cases h : k < 8
  ·have e : mat (iter k g) = mat (part k 0 0 (iter k g)) := mat_congr fun a b _ _ => by
    unfold part
    rw [if_neg (by omega)]
   have h4 : law14_NormUpDown_L4 n (k : Int) n (mat (iter k g), 0) = _ := e ▸ ud4 hn h (iter k g) n 0 (by omega) (by omega)
   rw [d8 h, if_pos rfl, h4, Zo, wr1 (by omega)]
   exact ud3 hn g c (k + 1) (by omega) (by omega)
  ·rw [dn8 h, if_neg (by decide), show k = 8 by omega]
theorem iter_of {g : Nat → Nat → Bool} {a b : Nat} (h : g a b = true) : ∀ k, iter k g a b = true
 | 0 => h
 | k + 1 => by
  unfold iter stp
  rw [iter_of h k]
  rfl
theorem stp_iff {k : Nat} {g : Nat → Nat → Bool} {a b : Nat} : stp k g a b = true ↔ g a b = true ∨ (g a k = true ∧ g k b = true) := by
 unfold stp
 rw [Bool.or_eq_true, Bool.and_eq_true]
theorem iter_trans {g : Nat → Nat → Bool} : ∀ (k m : Nat), m < k → ∀ a b, iter k g a m = true → iter k g m b = true → iter k g a b = true
 | 0, _, h, _, _, _, _ => by omega
 | k + 1, m, hm, a, b, h1, h2 => by
  have ih := iter_trans (g := g) k
  rw [iter, stp_iff] at h1 h2 ⊢
  rcases Nat.lt_or_ge m k with hmk | hmk
  ·rcases h1 with h1 | ⟨h1, h3⟩
   ·rcases h2 with h2 | ⟨h2, h4⟩
    ·exact .inl (ih m hmk a b h1 h2)
    ·exact .inr ⟨ih m hmk a k h1 h2, h4⟩
   ·rcases h2 with h2 | ⟨_, h4⟩
    ·exact .inr ⟨h1, ih m hmk k b h3 h2⟩
    ·exact .inr ⟨h1, h4⟩
  ·obtain rfl : m = k := by omega
   have h1 : iter m g a m = true := by
    rcases h1 with h1 | ⟨h1, _⟩
    ·exact h1
    ·exact h1
   have h2 : iter m g m b = true := by
    rcases h2 with h2 | ⟨_, h2⟩
    ·exact h2
    ·exact h2
   exact .inr ⟨h1, h2⟩
def base (ys : List Int) : Nat → Nat → Bool := fun a b => addG (fun _ _ => false) ys a b || (decide (a = b) && decide (0 ≤ a))
theorem base_iff {ys : List Int} {a b : Nat} : base ys a b = true ↔ a = b ∨ ∃ x ∈ ys, a = lo x ∧ b = hi x := by
 unfold base
 rw [Bool.or_eq_true, addG_iff, Bool.and_eq_true, decide_eq_true_iff, decide_eq_true_iff]
 constructor
 ·rintro ((h | h) | h)
  ·cases h
  ·exact .inr h
  ·exact .inl h.1
 ·rintro (h | h)
  ·exact .inr ⟨h, Nat.zero_le _⟩
  ·exact .inl (.inr h)
theorem iter_dn {ys : List Int} : ∀ (k : Nat), k ≤ 8 → ∀ a b, a < 8 → b < 8 → iter k (base ys) a b = true → Dn (ys.map prP) (ltr a) (ltr b)
 | 0, _, a, b, _, _, h => by
  rcases base_iff.1 h with rfl | ⟨x, hx, rfl, rfl⟩
  ·exact .refl
  ·exact Rch.refl.step (mem_sB.2 (List.mem_map.2 ⟨x, hx, rfl⟩))
 | k + 1, hk, a, b, ha, hb, h => by
  rw [iter, stp_iff] at h
  rcases h with h | ⟨h1, h2⟩
  ·exact iter_dn k (by omega) a b ha hb h
  ·exact (iter_dn k (by omega) a k ha (by omega) h1).trans (iter_dn k (by omega) k b (by omega) hb h2)
def rch (ys : List Int) : Nat → Nat → Bool := iter 8 (base ys)
theorem dn_iff {ys : List Int} {a : Nat} (ha : a < 8) {y : ByteArray} : Dn (ys.map prP) (ltr a) y ↔ ∃ b, b < 8 ∧ y = ltr b ∧ rch ys a b = true := by
 constructor
 ·intro h
  induction h with
  | refl => exact ⟨a, ha, rfl, iter_of (base_iff.2 (.inl rfl)) 8⟩
  | step _ hc ih =>
   obtain ⟨b, hb, rfl, h1⟩ := ih
   obtain ⟨x, hx, e⟩ := List.mem_map.1 (mem_sB.1 hc)
   unfold prP at e
   injection e with e1 e2
   have e1 := ltr_inj (lo_lt x) hb e1
   refine ⟨hi x, hi_lt x, e2.symm, iter_trans 8 b hb a (hi x) h1 (iter_of (base_iff.2 (.inr ⟨x, hx, e1.symm, rfl⟩)) 8)⟩
 ·rintro ⟨b, hb, rfl, h⟩
  exact iter_dn 8 (Nat.le_refl _) a b ha hb h
theorem dn_iff2 {ys : List Int} {a : Nat} (ha : a < 8) {y : ByteArray} (hu : Dn (ys.map prP) y (ltr a)) : ∃ b, b < 8 ∧ y = ltr b ∧ rch ys b a = true := by
 have hy : ∃ b, b < 8 ∧ y = ltr b := by
  rcases hu.first with e | ⟨s, h1, _⟩
  ·exact ⟨a, ha, e⟩
  ·obtain ⟨x, hx, e⟩ := List.mem_map.1 (mem_sB.1 h1)
   unfold prP at e
   injection e with e1 _
   exact ⟨lo x, lo_lt x, e1.symm⟩
 obtain ⟨b, hb, rfl⟩ := hy
 obtain ⟨c, hc, e, h⟩ := (dn_iff hb).1 hu
 obtain rfl := ltr_inj ha hc e
 exact ⟨b, hb, rfl, h⟩
def suf (f : Nat → Bool) : Nat → Nat → List ByteArray
 | 0, _ => []
 | m + 1, j => if f j then ltr j :: suf f m (j + 1) else suf f m (j + 1)
theorem mem_suf {f : Nat → Bool} {y : ByteArray} : ∀ m j, y ∈ suf f m j ↔ ∃ b, j ≤ b ∧ b < j + m ∧ y = ltr b ∧ f b = true
 | 0, j => by
  constructor
  ·intro h; cases h
  ·rintro ⟨b, h1, h2, _⟩; omega
 | m + 1, j => by
  have ih := mem_suf (f := f) (y := y) m (j + 1)
  unfold suf
  cases e : f j with
  | true =>
   rw [if_pos rfl, List.mem_cons, ih]
   constructor
   ·rintro (rfl | ⟨b, h1, h2, h3⟩)
    ·exact ⟨j, Nat.le_refl _, by omega, rfl, e⟩
    ·exact ⟨b, by omega, by omega, h3⟩
   ·rintro ⟨b, h1, h2, h3, h4⟩
    rcases Nat.lt_or_ge j b with hlt | hge
    ·exact .inr ⟨b, by omega, by omega, h3, h4⟩
    ·obtain rfl : b = j := by omega
     exact .inl h3
  | false =>
   rw [if_neg (by decide), ih]
   constructor
   ·rintro ⟨b, h1, h2, h3⟩
    exact ⟨b, by omega, by omega, h3⟩
   ·rintro ⟨b, h1, h2, h3, h4⟩
    rcases Nat.lt_or_ge j b with hlt | hge
    ·exact ⟨b, by omega, by omega, h3, h4⟩
    ·obtain rfl : b = j := by omega
     rw [e] at h4
     cases h4
theorem ltr_lt : ∀ a b : Nat, a < b → b < 8 → tx.lt (ltr a) (ltr b) := by
 have : (List.range 8).all (fun b => (List.range b).all fun a => tx.lt (ltr a) (ltr b)) = true := by kernel_rfl
 exact fun a b h1 h2 => List.all_eq_true.1 (List.all_eq_true.1 this b (List.mem_range.2 h2)) a (List.mem_range.2 h1)
theorem suf_rises {f : Nat → Bool} : ∀ m j, j + m ≤ 8 → tx.Rises (suf f m j)
 | 0, _, _ => List.Pairwise.nil
 | m + 1, j, h => by
  have ih := suf_rises (f := f) m (j + 1) (by omega)
  unfold suf
  split
  ·refine List.pairwise_cons.2 ⟨fun y hy => ?_, ih⟩
   obtain ⟨b, h1, h2, rfl, _⟩ := (mem_suf m (j + 1)).1 hy
   exact ltr_lt j b (by omega) (by omega)
  ·exact ih
structure At (D : List ByteArray) (f : Nat → Bool) (j x : Nat) : Prop where
 l : x ≤ D.length
 d : D.drop x = suf f (8 - j) j
theorem At.yes {D : List ByteArray} {f : Nat → Bool} {j x : Nat} (h : At D f j x) (hj : j < 8) (hf : f j = true) : ∃ hx : x < D.length, D[x] = ltr j ∧ At D f (j + 1) (x + 1) := by
 have e := h.d
 obtain ⟨m, hm⟩ : ∃ m, 8 - j = m + 1 := ⟨7 - j, by omega⟩
 rw [hm, suf, if_pos hf] at e
 have hx : x < D.length := by
  rcases Nat.lt_or_ge x D.length with h | h
  ·exact h
  ·rw [List.drop_eq_nil_of_le h] at e
   cases e
 rw [List.drop_eq_getElem_cons hx] at e
 injection e with e1 e2
 exact ⟨hx, e1, by omega, by rw [e2, show 8 - (j + 1) = m by omega]⟩
theorem At.no {D : List ByteArray} {f : Nat → Bool} {j x : Nat} (h : At D f j x) (hj : j < 8) (hf : f j = false) : At D f (j + 1) x := by
 obtain ⟨m, hm⟩ : ∃ m, 8 - j = m + 1 := ⟨7 - j, by omega⟩
 have e := h.d
 rw [hm, suf, if_neg (by rw [hf]; decide)] at e
 exact ⟨h.l, by rw [e, show 8 - (j + 1) = m by omega]⟩
theorem At.fin {D : List ByteArray} {f : Nat → Bool} {x : Nat} (h : At D f 8 x) : x = D.length := by
 have e : D.drop x = [] := h.d
 have := List.drop_eq_nil_iff.1 e
 have := h.l
 omega
theorem suf_len {f : Nat → Bool} : ∀ m j, (suf f m j).length ≤ m
 | 0, _ => Nat.le_refl _
 | m + 1, j => by
  have := suf_len (f := f) m (j + 1)
  unfold suf
  split <;> simp <;> omega
theorem ud7 {n i : Nat} {g : Nat → Nat → Bool} {D U : List ByteArray} (hi : i < 8) (hD : D.length ≤ 8) (hU : U.length ≤ 8) : ∀ (c j x y : Nat), j ≤ 8 → 8 - j < c → At D (fun b => g i b) j x → At U (fun b => g b i) j y →
  law14_NormUpDown_L7 n (mat g) (i : Int) D U c ((x : Int), (y : Int), (j : Int)) = some (.inl ((D.length : Int), (U.length : Int)))
 | 0, _, _, _, _, h, _, _ => by omega
 | c + 1, j, x, y, hj, hc, h1, h2 => by
  rw [law14_NormUpDown_L7]
  by_cases h : j < 8
  ·have hx := h1.l
   have hy := h2.l
   rw [d8 h, if_pos rfl, id_some (n := n) (j : Int), lo_nat j h, aixS hi, Zo, aixS h, Zo, mat_get hi h, Zo]
   have b : ∀ x', At D (fun b => g i b) (j + 1) x' → ((some j).bind fun k25 => (some i).bind fun k26 => ((mat g)[k25 * 8 + k26]?).bind fun u27 =>
     (if u27 then (if (decide ((U.length : Int) ≤ (y : Int))) then some (.inr false) else (idx U (y : Int)).bind fun x10 => (some (ltr j)).bind fun t1584 =>
      (if (x10.toList == t1584.toList) then law14_NormUpDown_L7 n (mat g) (i : Int) D U c ((x' : Int), (IntKind.i64.wrap ((y : Int) + 1)), (IntKind.i64.wrap ((j : Int) + 1))) else some (.inr false)))
     else law14_NormUpDown_L7 n (mat g) (i : Int) D U c ((x' : Int), (y : Int), (IntKind.i64.wrap ((j : Int) + 1))))) = some (.inl ((D.length : Int), (U.length : Int))) := fun x' h1' => by
    rw [Zo, Zo, mat_get h hi, Zo]
    cases e : g j i with
    | true =>
     obtain ⟨hy', e2, h2'⟩ := h2.yes h e
     rw [if_pos rfl, decide_eq_false (by omega), if_neg (by decide), idxS hy', Zo, Zo, e2, if_pos (by simp), wr1 (by omega), wr1 (by omega)]
     exact ud7 hi hD hU c (j + 1) x' (y + 1) (by omega) (by omega) h1' h2'
    | false =>
     rw [if_neg (by decide), wr1 (by omega)]
     exact ud7 hi hD hU c (j + 1) x' y (by omega) (by omega) h1' (h2.no h e)
   cases e : g i j with
   | true =>
    obtain ⟨hx', e2, h1'⟩ := h1.yes h e
    rw [if_pos rfl, decide_eq_false (by omega), if_neg (by decide), idxS hx', Zo, Zo, e2, if_pos (by simp), wr1 (by omega), Zo]
    exact b (x + 1) h1'
   | false =>
    rw [if_neg (by decide), Zo]
    exact b x (h1.no h e)
  ·obtain rfl : j = 8 := by omega
   rw [dn8 h, if_neg (by decide), h1.fin, h2.fin]
theorem ud6 {n : Nat} (hn : 100 < n) {ys : List Int} (hy : ys.length ≤ 20) : ∀ (c i : Nat), i ≤ 8 → 8 - i < c → law14_NormUpDown_L6 n (ys.map prP) (mat (rch ys)) c (i : Int) = some (.inl ())
 | 0, _, _, h => by omega
 | c + 1, i, hi, hc => by
  rw [law14_NormUpDown_L6]
  by_cases h : i < 8
  ·obtain ⟨D, d1, d2, d3⟩ := down_some (n := n) (p := ⟨[], [], ys.map prP, [], [], [], [], []⟩) (by simp; omega) (by simp; omega) (ltr i)
   obtain ⟨U, u1, u2, u3⟩ := up_some (n := n) (p := ⟨[], [], ys.map prP, [], [], [], [], []⟩) (by simp; omega) (by simp; omega) (ltr i)
   have hD : D = suf (fun b => rch ys i b) 8 0 := tx.ext d2 (suf_rises 8 0 (by omega)) fun y => (d3 y).trans ((dn_iff h).trans ⟨fun ⟨b, h1, h2, h3⟩ => (mem_suf 8 0).2 ⟨b, Nat.zero_le _, by omega, h2, h3⟩, fun hm => by
    obtain ⟨b, _, h1, h2, h3⟩ := (mem_suf 8 0).1 hm
    exact ⟨b, by omega, h2, h3⟩⟩)
   have hU : U = suf (fun b => rch ys b i) 8 0 := tx.ext u2 (suf_rises 8 0 (by omega)) fun y => (u3 y).trans ⟨fun hd => by
    obtain ⟨b, h1, h2, h3⟩ := dn_iff2 h hd
    exact (mem_suf 8 0).2 ⟨b, Nat.zero_le _, by omega, h2, h3⟩, fun hm => by
    obtain ⟨b, _, h1, rfl, h3⟩ := (mem_suf 8 0).1 hm
    exact (dn_iff (by omega)).2 ⟨i, h, rfl, h3⟩⟩
   have lD : D.length ≤ 8 := hD ▸ suf_len 8 0
   have lU : U.length ≤ 8 := hU ▸ suf_len 8 0
   have h7 : law14_NormUpDown_L7 n (mat (rch ys)) (i : Int) D U n (0, 0, 0) = _ := ud7 (n := n) (g := rch ys) h lD lU n 0 0 0 (by omega) (by omega) ⟨Nat.zero_le _, by rw [List.drop_zero]; exact hD⟩ ⟨Nat.zero_le _, by rw [List.drop_zero]; exact hU⟩
   rw [d8 h, if_pos rfl, id_some, Zo, lo_nat i h, d1, Zo, Zo, u1, Zo, h7, Zo]
   dsimp only
   rw [if_neg (by simp), if_neg (by simp), wr1 (by omega)]
   exact ud6 hn hy c (i + 1) (by omega) (by omega)
  ·rw [dn8 h, if_neg (by decide)]
theorem law_updown {n : Nat} (hn : 100 < n) (t0 : List Int) : law14_NormUpDown n t0 = some true := by
 have h1 : law14_NormUpDown_L1 n t0 n ([], List.replicate 64 false, 0) = _ := (show List.replicate 64 false = mat (fun _ _ => false) by kernel_rfl) ▸ ud1 (n := n) t0 n 0 [] (fun _ _ => false) (by omega) (by omega) (Nat.le_refl _)
 have h2 : law14_NormUpDown_L2 n n (mat (addG (fun _ _ => false) ((t0.drop 0).take (20 - 0))), 0) = _ := ud2 (n := n) n 0 _ (by omega) (by omega)
 have h3 : law14_NormUpDown_L3 n n (mat (base ((t0.drop 0).take (20 - 0))), 0) = _ := ud3 (n := n) (by omega) (base ((t0.drop 0).take (20 - 0))) n 0 (by omega) (by omega)
 have h6 : law14_NormUpDown_L6 n (((t0.drop 0).take (20 - 0)).map prP) (mat (rch ((t0.drop 0).take (20 - 0)))) n 0 = _ := ud6 (n := n) hn (ys := (t0.drop 0).take (20 - 0)) (by rw [List.length_take]; omega) n 0 (by omega) (by omega)
 unfold law14_NormUpDown
 rw [h1, Zo]
 dsimp only
 rw [h2, Zo]
 refine (congrArg (fun z => Option.bind z _) h3).trans ?_
 rw [Zo]
 refine (congrArg (fun z => Option.bind z _) h6).trans ?_
 rfl
theorem law_updown_ex {p : Prop} (a0 : List Int) (_ : p) : ∃ n, law14_NormUpDown n a0 = some true := ⟨1000, law_updown (by decide) a0⟩
end Go.Proofs.YtkkhgdmmbhpckaaGreat.Ab

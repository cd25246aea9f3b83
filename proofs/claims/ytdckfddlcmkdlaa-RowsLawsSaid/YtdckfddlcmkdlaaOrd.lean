/-
  The order of tuples, and sets of them la rising lists. No program in sight.
-/
import Derived.Test.YtdckfddlcmkdlaaCmp
import Derived.Sort.Statements
namespace Go.Proofs.Ytdckfddlcmkdlaa
open Go.RowKit
namespace TO
open Cmp Lib

theorem cb_anti : ∀ a b : List UInt8, compareBytes a b = - compareBytes b a
  | [], [] => rfl
  | [], _ :: _ => rfl
  | _ :: _, [] => rfl
  | a :: la, b :: lb => by
    have ih := cb_anti la lb
    simp only [compareBytes]
    by_cases h1 : a < b
    · have h2 : ¬ b < a := by rw [UInt8.lt_iff_toNat_lt] at *; omega
      simp [h1, h2]
    · by_cases h2 : b < a
      · simp [h1, h2]
      · simp [h1, h2, ih]
theorem cb_zero : ∀ a b : List UInt8, compareBytes a b = 0 ↔ a = b
  | [], [] => by simp [compareBytes]
  | [], _ :: _ => by simp [compareBytes]
  | _ :: _, [] => by simp [compareBytes]
  | a :: la, b :: lb => by
    have ih := cb_zero la lb
    simp only [compareBytes, List.cons.injEq]
    by_cases h1 : a < b
    · have h3 : a ≠ b := by intro e; subst e; rw [UInt8.lt_iff_toNat_lt] at h1; omega
      simp [h1, h3]
    · by_cases h2 : b < a
      · have h3 : a ≠ b := by intro e; subst e; exact h1 h2
        simp [h1, h2, h3]
      · have h3 : a = b := by
          rw [UInt8.lt_iff_toNat_lt] at *
          exact UInt8.toNat_inj.1 (by omega)
        subst h3
        simp [ih]
theorem cb_trans : ∀ a b c : List UInt8, compareBytes a b < 0 → compareBytes b c < 0 → compareBytes a c < 0
  | _, [], [], _, h => by simp [compareBytes] at h
  | [], [], _ :: _, h, _ => by simp [compareBytes] at h
  | _ :: _, [], _ :: _, h, _ => by simp [compareBytes] at h
  | _, _ :: _, [], _, h => by simp [compareBytes] at h
  | [], _ :: _, _ :: _, _, _ => by simp [compareBytes]
  | a :: la, b :: lb, c :: lc, h1, h2 => by
    have ih := cb_trans la lb lc
    simp only [compareBytes] at *
    by_cases x1 : a < b <;> by_cases x2 : b < a <;> by_cases x3 : b < c <;> by_cases x4 : c < b <;> simp [x1, x2, x3, x4] at h1 h2
    all_goals (simp only [UInt8.lt_iff_toNat_lt] at *)
    all_goals (first | omega | skip)
    all_goals (by_cases y1 : a.toNat < c.toNat <;> by_cases y2 : c.toNat < a.toNat <;> simp [y1, y2])
    all_goals (first | omega | exact ih h1 h2)

theorem cmpS_anti (a b : ByteArray) : cmpS a b = - cmpS b a := cb_anti _ _
theorem cmpS_zero (a b : ByteArray) : cmpS a b = 0 ↔ a = b := by
  rw [cmpS, cb_zero]
  exact ⟨fun h => Tp.bytes_inj h, fun h => by rw [h]⟩
theorem cmpS_trans {a b c : ByteArray} : cmpS a b < 0 → cmpS b c < 0 → cmpS a c < 0 := cb_trans _ _ _

def cfL (x y : List ByteArray) : Int := orI (List.zipWith cmpS x y)
theorem cfL_anti : ∀ x y, cfL x y = - cfL y x
  | [], [] => rfl
  | [], _ :: _ => rfl
  | _ :: _, [] => rfl
  | a :: x, b :: y => by
    have ih := cfL_anti x y
    have h := cmpS_anti a b
    unfold cfL at *
    simp only [List.zipWith_cons_cons, orI]
    by_cases h1 : cmpS b a = 0
    · simp [h, h1, ih]
    · simp [h, h1]
theorem cfL_zero : ∀ x y : List ByteArray, x.length = y.length → (cfL x y = 0 ↔ x = y)
  | [], [], _ => by simp [cfL, orI]
  | [], _ :: _, h => by simp at h
  | _ :: _, [], h => by simp at h
  | a :: x, b :: y, h => by
    have ih := cfL_zero x y (by simpa using h)
    unfold cfL at *
    simp only [List.zipWith_cons_cons, orI, List.cons.injEq]
    by_cases h1 : cmpS a b = 0
    · rw [if_pos h1, ih]
      have := (cmpS_zero a b).1 h1
      simp [this]
    · have : a ≠ b := fun e => h1 ((cmpS_zero a b).2 e)
      simp [h1, this]
theorem cfL_trans : ∀ x y z : List ByteArray, x.length = y.length → y.length = z.length → cfL x y < 0 → cfL y z < 0 → cfL x z < 0
  | [], [], [], _, _, h, _ => by simp [cfL, orI] at h
  | [], _ :: _, _, h, _, _, _ => by simp at h
  | _ :: _, [], _, h, _, _, _ => by simp at h
  | _, [], _ :: _, _, h, _, _ => by simp at h
  | _, _ :: _, [], _, h, _, _ => by simp at h
  | a :: x, b :: y, c :: z, h1, h2, h3, h4 => by
    have ih := cfL_trans x y z (by simpa using h1) (by simpa using h2)
    unfold cfL at *
    simp only [List.zipWith_cons_cons, orI] at *
    by_cases e1 : cmpS a b = 0
    · have e := (cmpS_zero a b).1 e1
      subst e
      rw [if_pos e1] at h3
      by_cases e2 : cmpS a c = 0
      · rw [if_pos e2] at h4 ⊢
        exact ih h3 h4
      · rw [if_neg e2] at h4 ⊢
        exact h4
    · rw [if_neg e1] at h3
      by_cases e2 : cmpS b c = 0
      · have e := (cmpS_zero b c).1 e2
        subst e
        rw [if_neg e1]
        exact h3
      · rw [if_neg e2] at h4
        have h5 := cmpS_trans h3 h4
        rw [if_neg (by omega)]
        exact h5

def toL (t : Tp) : List ByteArray := [t.ot, t.oi, t.rl, t.st, t.si, t.sr]
theorem toL_inj {x y : Tp} (h : toL x = toL y) : x = y := by
  cases x; cases y
  simp only [toL, List.cons.injEq, and_true] at h
  obtain ⟨rfl, rfl, rfl, rfl, rfl, rfl⟩ := h
  rfl
theorem cf_eq (x y : Tp) : cf x y = cfL (toL x) (toL y) := rfl
theorem cf_anti (x y : Tp) : cf x y = - cf y x := by rw [cf_eq, cf_eq]; exact cfL_anti _ _
theorem cf_zero (x y : Tp) : cf x y = 0 ↔ x = y := by
  rw [cf_eq, cfL_zero (toL x) (toL y) rfl]
  exact ⟨toL_inj, fun h => by rw [h]⟩

theorem lt_irrefl (x : Tp) : ltB x x = false := by
  have := (cf_zero x x).2 rfl
  simp [ltB, this]
theorem lt_trans {x y z : Tp} (h1 : ltB x y = true) (h2 : ltB y z = true) : ltB x z = true := by
  simp only [ltB, decide_eq_true_eq] at *
  exact cfL_trans (toL x) (toL y) (toL z) rfl rfl h1 h2
theorem lt_total {x y : Tp} (h1 : ltB x y = false) (h2 : ltB y x = false) : x = y := by
  simp only [ltB, decide_eq_false_iff_not] at *
  have := cf_anti x y
  exact (cf_zero x y).1 (by omega)
theorem lt_asymm {x y : Tp} (h : ltB x y = true) : ltB y x = false := by
  cases h2 : ltB y x with
  | false => rfl
  | true =>
    have := lt_trans h h2
    rw [lt_irrefl] at this
    cases this
theorem lt_ne {x y : Tp} (h : ltB x y = true) : x ≠ y := by
  rintro rfl
  rw [lt_irrefl] at h
  cases h
theorem swo : Go.Sort.SWO ltB where
  irrefl := lt_irrefl
  trans _ _ _ := lt_trans
  ntrans x y z h1 h2 := by
    cases h : ltB x z with
    | false => rfl
    | true =>
      cases h3 : ltB y x with
      | true =>
        have := lt_trans h3 h
        rw [h2] at this
        cases this
      | false =>
        have := lt_total h1 h3
        subst this
        rw [h2] at h
        cases h

/-! ### Sets as rising lists -/
def Rises (l : List Tp) : Prop := l.Pairwise fun x y => ltB x y = true
theorem Rises.ext : ∀ {a b : List Tp}, Rises a → Rises b → (∀ x, x ∈ a ↔ x ∈ b) → a = b
  | [], [], _, _, _ => rfl
  | [], y :: _, _, _, h => by
    have := (h y).2 (List.mem_cons_self ..)
    cases this
  | x :: _, [], _, _, h => by
    have := (h x).1 (List.mem_cons_self ..)
    cases this
  | x :: a, y :: b, ha, hb, h => by
    obtain ⟨ha1, ha2⟩ := List.pairwise_cons.1 ha
    obtain ⟨hb1, hb2⟩ := List.pairwise_cons.1 hb
    have hxy : x = y := by
      rcases List.mem_cons.1 ((h x).1 (List.mem_cons_self ..)) with e | e
      · exact e
      · rcases List.mem_cons.1 ((h y).2 (List.mem_cons_self ..)) with e2 | e2
        · exact e2.symm
        · have h1 := hb1 x e
          have h2 := ha1 y e2
          rw [lt_asymm h1] at h2
          cases h2
    subst hxy
    congr 1
    refine Rises.ext ha2 hb2 fun z => ⟨fun hz => ?_, fun hz => ?_⟩
    · rcases List.mem_cons.1 ((h z).1 (List.mem_cons_of_mem _ hz)) with e | e
      · subst e
        exact absurd rfl (lt_ne (ha1 z hz))
      · exact e
    · rcases List.mem_cons.1 ((h z).2 (List.mem_cons_of_mem _ hz)) with e | e
      · subst e
        exact absurd rfl (lt_ne (hb1 z hz))
      · exact e
theorem Rises.nodup {l : List Tp} (h : Rises l) : l.Nodup := h.imp fun hxy => lt_ne hxy
theorem Rises.filter {l : List Tp} (h : Rises l) (p : Tp → Bool) : Rises (l.filter p) := List.Pairwise.filter p h

def ins (x : Tp) : List Tp → List Tp
  | [] => [x]
  | y :: l => if ltB x y then x :: y :: l else if ltB y x then y :: ins x l else y :: l
theorem mem_ins {x z : Tp} : ∀ {l : List Tp}, z ∈ ins x l ↔ z = x ∨ z ∈ l
  | [] => by simp [ins]
  | y :: l => by
    have ih := mem_ins (x := x) (z := z) (l := l)
    simp only [ins]
    by_cases h1 : ltB x y = true
    · simp [h1]
    · by_cases h2 : ltB y x = true
      · simp only [h1, h2, if_true, Bool.false_eq_true, if_false, List.mem_cons, ih]
        constructor
        · rintro (h | h | h) <;> simp [h]
        · rintro (h | h | h) <;> simp [h]
      · have := lt_total (by simpa using h1) (by simpa using h2)
        subst this
        simp [h1]
theorem rises_ins {x : Tp} : ∀ {l : List Tp}, Rises l → Rises (ins x l)
  | [], _ => by simp [ins, Rises]
  | y :: l, h => by
    obtain ⟨h1, h2⟩ := List.pairwise_cons.1 h
    simp only [ins]
    by_cases e1 : ltB x y = true
    · rw [if_pos e1]
      refine List.pairwise_cons.2 ⟨fun z hz => ?_, h⟩
      rcases List.mem_cons.1 hz with e | e
      · subst e; exact e1
      · exact lt_trans e1 (h1 z e)
    · rw [if_neg e1]
      by_cases e2 : ltB y x = true
      · rw [if_pos e2]
        refine List.pairwise_cons.2 ⟨fun z hz => ?_, rises_ins h2⟩
        rcases mem_ins.1 hz with e | e
        · subst e; exact e2
        · exact h1 z e
      · rw [if_neg e2]
        exact h
/-- The set of a list. -/
def ofL (l : List Tp) : List Tp := l.foldr ins []
theorem rises_ofL : ∀ l, Rises (ofL l)
  | [] => List.Pairwise.nil
  | _ :: l => rises_ins (rises_ofL l)
theorem mem_ofL {z : Tp} : ∀ {l : List Tp}, z ∈ ofL l ↔ z ∈ l
  | [] => by simp [ofL]
  | x :: l => by
    have ih := mem_ofL (z := z) (l := l)
    show z ∈ ins x (ofL l) ↔ _
    rw [mem_ins, ih, List.mem_cons]
theorem ofL_eq {l s : List Tp} (hs : Rises s) (h : ∀ x, x ∈ s ↔ x ∈ l) : ofL l = s :=
  (rises_ofL l).ext hs fun x => mem_ofL.trans (h x).symm
theorem ofL_self {l : List Tp} (h : Rises l) : ofL l = l := ofL_eq h fun _ => Iff.rfl
theorem ofL_congr {a b : List Tp} (h : ∀ x, x ∈ a ↔ x ∈ b) : ofL a = ofL b := ofL_eq (rises_ofL b) fun x => mem_ofL.trans (h x).symm

/-- What is left of one set without another. -/
def sub (a b : List Tp) : List Tp := a.filter fun x => decide (x ∉ b)
theorem mem_sub {a b : List Tp} {x : Tp} : x ∈ sub a b ↔ x ∈ a ∧ x ∉ b := by simp [sub]
theorem rises_sub {a : List Tp} (h : Rises a) (b : List Tp) : Rises (sub a b) := h.filter _
end TO
end Go.Proofs.Ytdckfddlcmkdlaa

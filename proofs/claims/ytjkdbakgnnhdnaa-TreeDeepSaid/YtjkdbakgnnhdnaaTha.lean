/-
 tree.Has and what it calls, walked by hand: subjects in a row.
-/
import Derived.Test.YtjkdbakgnnhdnaaProg
import Derived.Deep.LoopGhost
import Derived.Deep.DeepCutAuto
import Derived.WalkSpells
import Derived.WalkLawsBesides
import Derived.StillTailTactics
import Derived.Handy
import Derived.Shelf.Abstract
import Derived.Below
import Derived.Lib.Hide
import Derived.Lib.SmallJoins
import Derived.Deep.Heap
namespace Go.Proofs.Ytjkdbakgnnhdnaa.Tr
open Go.RowKit
structure S3 where
 a : ByteArray
 b : ByteArray
 c : ByteArray
deriving DecidableEq
def S3.v (x : S3) : Value := .agg #[.string x.a, .string x.b, .string x.c]
structure RowS (w : World) (b o : Nat) (l : List S3) : Prop where
 lt : b < w.heap.size
 at0 : ∀ k (h : k < l.length), w.cell? ⟨b, o + k * 3, none⟩ = some (.string l[k].a)
 at1 : ∀ k (h : k < l.length), w.cell? ⟨b, o + k * 3 + 1, none⟩ = some (.string l[k].b)
 at2 : ∀ k (h : k < l.length), w.cell? ⟨b, o + k * 3 + 2, none⟩ = some (.string l[k].c)
theorem RowS.keep {w w' : World} {b o : Nat} {l : List S3} (h : RowS w b o l) (hb : Below w.heap.size w w') : RowS w' b o l :=
 ⟨Nat.lt_of_lt_of_le h.lt hb.size, fun k hk => (hb.cell (p := ⟨b, o + k * 3, none⟩) h.lt).trans (h.at0 k hk), fun k hk => (hb.cell (p := ⟨b, o + k * 3 + 1, none⟩) h.lt).trans (h.at1 k hk), fun k hk => (hb.cell (p := ⟨b, o + k * 3 + 2, none⟩) h.lt).trans (h.at2 k hk)⟩
def SubsAt (w : World) (v : Value) (l : List S3) : Prop := (l = [] ∧ ∃ a c, v = .slice a 0 c) ∨ ∃ b o c, v = .slice (some ⟨b, o, none⟩) l.length c ∧ RowS w b o l
theorem SubsAt.keep {w w' : World} {v : Value} {l : List S3} (h : SubsAt w v l) (hb : Below w.heap.size w w') : SubsAt w' v l := by
 rcases h with h | ⟨b, o, c, h1, h2⟩
 ·exact .inl h
 ·exact .inr ⟨b, o, c, h1, h2.keep hb⟩
theorem toList_inj' {x y : ByteArray} (h : x.toList = y.toList) : x = y := by
 rw [ByteArray.toList_eq, ByteArray.toList_eq] at h
 exact ByteArray.ext (Array.toList_inj.mp h)
theorem eq_ways (y : S3) (xa xb xc : ByteArray) : (xa.toList = y.a.toList ∧ xb.toList = y.b.toList ∧ xc.toList = y.c.toList ∧ y = ⟨xa, xb, xc⟩) ∨ (¬ xa.toList = y.a.toList ∧ y ≠ ⟨xa, xb, xc⟩) ∨ (xa.toList = y.a.toList ∧ ¬ xb.toList = y.b.toList ∧ y ≠ ⟨xa, xb, xc⟩) ∨ (xa.toList = y.a.toList ∧ xb.toList = y.b.toList ∧ ¬ xc.toList = y.c.toList ∧ y ≠ ⟨xa, xb, xc⟩) := by
 obtain ⟨ya, yb, yc⟩ := y
 by_cases e1 : xa.toList = ya.toList
 ·by_cases e2 : xb.toList = yb.toList
  ·by_cases e3 : xc.toList = yc.toList
   ·exact .inl ⟨e1, e2, e3, by rw [toList_inj' e1, toList_inj' e2, toList_inj' e3]⟩
   ·exact .inr (.inr (.inr ⟨e1, e2, e3, fun h => e3 (by cases h; rfl)⟩))
  ·exact .inr (.inr (.inl ⟨e1, e2, fun h => e2 (by cases h; rfl)⟩))
 ·exact .inr (.inl ⟨e1, fun h => e1 (by cases h; rfl)⟩)
set_option maxRecDepth 100000 in
set_option maxHeartbeats 1000000 in
theorem index_row (w : World) (b o c : Nat) (l : List S3) (x : S3) (h : RowS w b o l) (hl : l.length ≤ 9223372036854775807) : Calls Try.prog 32 #[.slice (some ⟨b, o, none⟩) l.length c, x.v] w fun e w' => ∃ i : Int, e = .returned (.int .i64 i) ∧ (0 ≤ i ↔ x ∈ l) ∧ Below w.heap.size w w' := by
 obtain ⟨xa, xb, xc⟩ := x
 have hr := Lib.hid h
 clear h
 show Calls Try.prog 32 #[.slice (some ⟨b, o, none⟩) l.length c, .agg #[.string xa, .string xb, .string xc]] w _
 go_enter Try.func32, Try.ntmps32
 go_wp2
 go_loopg [8] l.length (fun gh s8 wr => ∃ k : Nat, k ≤ l.length ∧ l.length - k ≤ gh ∧ s8 = .int .i64 k ∧ RowKit.Hid (Below w.heap.size w wr ∧ wr.heap[w.heap.size]? = some (.cells #[.string xa, .string xb, .string xc] 30) ∧ ∀ j (hj : j < l.length), j < k → l[j] ≠ ⟨xa, xb, xc⟩))
 case atStart => exact ⟨0, Nat.zero_le _, Nat.le_refl _, rfl, Lib.hid ⟨(Below.refl _ w).alloc (Nat.le_refl _) _, Go.Deep.blk_alloc_new _ _, fun j _ hj => absurd hj (Nat.not_lt_zero _)⟩⟩
 case round =>
  obtain ⟨k, hk, hg, rfl, hT⟩ := hrel
  by_cases hlt : k < l.length
  ·have s7 : (k : Int) < l.length := by omega
   have hk2 := hr.out.keep hT.out.1
   have g0 := hk2.at0 k hlt
   have g1 := hk2.at1 k hlt
   have g2 := hk2.at2 k hlt
   have b0 : wr.cell? ⟨w.heap.size, 0, none⟩ = some (.string xa) := Go.Joins.cell_of_block hT.out.2.1 0
   have b1 : wr.cell? ⟨w.heap.size, 1, none⟩ = some (.string xb) := Go.Joins.cell_of_block hT.out.2.1 1
   have b2 : wr.cell? ⟨w.heap.size, 2, none⟩ = some (.string xc) := Go.Joins.cell_of_block hT.out.2.1 2
   have hE := Lib.hid (eq_ways l[k] xa xb xc)
   have hD : RowKit.Hid (∃ y : S3, l[k] = y) := Lib.hid ⟨_, rfl⟩
   clear hk2
   generalize hy : l[k] = y at g0 g1 g2 hE
   have hy := Lib.hid hy
   clear hD
   obtain ⟨ya, yb, yc⟩ := y
   rcases hE.out with ⟨e1, e2, e3, e⟩ | ⟨e1, e⟩ | ⟨e1, e2, e⟩ | ⟨e1, e2, e3, e⟩
   ·have e := Lib.hid e
    go_wp2
    go_region
    all_goals go_wp2
    all_goals go_ret
    all_goals exact ⟨_, rfl, ⟨fun _ => by rw [← e.out, ← hy.out]; exact List.getElem_mem _, fun _ => Int.natCast_nonneg _⟩, hT.out.1.drew⟩
   all_goals
    have e := Lib.hid e
    go_wp2
    go_region
    all_goals go_wp2
    all_goals go_roundg (l.length - (k + 1))
    all_goals first | omega | exact ⟨k + 1, by omega, Nat.le_refl _, by go_num, Lib.hid ⟨hT.out.1.drew, hT.out.2.1, fun j hj hjk => by
     rcases Nat.lt_succ_iff_lt_or_eq.1 hjk with h | h
     ·exact hT.out.2.2 j hj h
     ·subst h
      rw [hy.out]
      exact e.out⟩⟩
  ·have s7 : ¬ (k : Int) < l.length := by omega
   go_wp2
   go_ret
   refine ⟨_, rfl, ⟨fun h => absurd h (by decide), fun hm => ?_⟩, hT.out.1⟩
   obtain ⟨j, hj, hjx⟩ := List.mem_iff_getElem.1 hm
   exact absurd hjx (hT.out.2.2 j hj (by omega))
theorem index_nil (w : World) (a : Option Addr) (c : Nat) (x : S3) : Calls Try.prog 32 #[.slice a 0 c, x.v] w fun e w' => e = .returned (.int .i64 (-1)) ∧ Below w.heap.size w w' := by
 obtain ⟨xa, xb, xc⟩ := x
 show Calls Try.prog 32 #[.slice a 0 c, .agg #[.string xa, .string xb, .string xc]] w _
 go_enter Try.func32, Try.ntmps32
 go_wp2
 go_loopg [8] 1 (fun gh s8 wr => 1 ≤ gh ∧ s8 = .int .i64 0 ∧ RowKit.Hid (Below w.heap.size w wr))
 case atStart => exact ⟨Nat.le_refl _, rfl, Lib.hid ((Below.refl _ w).alloc (Nat.le_refl _) _)⟩
 case round =>
  obtain ⟨_, rfl, hT⟩ := hrel
  go_wp2
  go_ret
  exact ⟨rfl, hT.out⟩
theorem contains_calls (w : World) (v : Value) (l : List S3) (x : S3) (h : SubsAt w v l) (hl : l.length ≤ 9223372036854775807) : Calls Try.prog 16 #[v, x.v] w fun e w' => e = .returned (.bool (decide (x ∈ l))) ∧ Below w.heap.size w w' := by
 obtain ⟨xa, xb, xc⟩ := x
 have hL : ∀ w1, Below w.heap.size w w1 → Calls Try.prog 32 #[v, .agg #[.string xa, .string xb, .string xc]] w1 fun e w' => ∃ i : Int, e = .returned (.int .i64 i) ∧ (0 ≤ i ↔ ⟨xa, xb, xc⟩ ∈ l) ∧ Below w1.heap.size w1 w' := by
  intro w1 hb
  rcases h with ⟨rfl, a, c, rfl⟩ | ⟨b, o, c, rfl, hr⟩
  ·exact (index_nil w1 a c ⟨xa, xb, xc⟩).mono fun e w' he => ⟨-1, he.1, by simp, he.2⟩
  ·exact index_row w1 b o c l ⟨xa, xb, xc⟩ (hr.keep hb) hl
 have hL := Lib.hid hL
 have hv : ∃ A n c, v = .slice A n c := by
  rcases h with ⟨rfl, a, c, rfl⟩ | ⟨b, o, c, rfl, hr⟩
  ·exact ⟨_, _, _, rfl⟩
  ·exact ⟨_, _, _, rfl⟩
 obtain ⟨A, n, c, rfl⟩ := hv
 clear h
 show Calls Try.prog 16 #[.slice A n c, .agg #[.string xa, .string xb, .string xc]] w _
 go_enter Try.func16, Try.ntmps16
 have b0 : (w.alloc (.cells #[.string xa, .string xb, .string xc] 30)).cell? ⟨w.heap.size, 0, none⟩ = some (.string xa) := Go.Joins.cell_of_block (Go.Deep.blk_alloc_new _ _) 0
 go_wp2_with (go_at_fn 32)
 refine Calls.mono (hL.out _ ((Below.refl _ w).alloc (Nat.le_refl _) _)) ?_
 rintro e w2 ⟨i, rfl, hi, hb⟩
 by_cases hx : (⟨xa, xb, xc⟩ : S3) ∈ l
 ·have s7 : 0 ≤ i := hi.2 hx
  have q := Lib.hid hx
  clear hi
  go_wp2
  go_ret
  exact ⟨by rw [decide_eq_true q.out]; rfl, ((Below.refl _ w).alloc (Nat.le_refl _) _).trans (hb.mono (by simp))⟩
 ·have s7 : ¬ 0 ≤ i := fun h => hx (hi.1 h)
  have q := Lib.hid hx
  clear hi
  go_wp2
  go_ret
  exact ⟨by rw [decide_eq_false q.out, ← decide_eq_false (Int.not_le.2 s7)]; rfl, ((Below.refl _ w).alloc (Nat.le_refl _) _).trans (hb.mono (by simp))⟩
end Go.Proofs.Ytjkdbakgnnhdnaa.Tr

/-
 Pairs: what is below what, what is above what. No program in sight.
-/
import Derived.Test.YtkkhgdmmbhpckaaGreatRc
namespace Go.Proofs.YtkkhgdmmbhpckaaGreat.Ab
open Go.RowKit
attribute [local instance] baLawful
def sB (l : List GPair) (x : ByteArray) : List ByteArray := (l.filter fun p => x == p.a).map fun p => p.b
theorem mem_sB {l : List GPair} {x y : ByteArray} : y ∈ sB l x ↔ ⟨x, y⟩ ∈ l := by
 unfold sB
 rw [List.mem_map]
 constructor
 ·rintro ⟨⟨a, b⟩, h1, rfl⟩
  obtain ⟨h1, h2⟩ := List.mem_filter.1 h1
  have : x = a := by simpa using h2
  subst this
  exact h1
 ·intro h
  exact ⟨⟨x, y⟩, List.mem_filter.2 ⟨h, by simp⟩, rfl⟩
theorem sB_len (l : List GPair) (x : ByteArray) : (sB l x).length ≤ l.length := by
 unfold sB
 rw [List.length_map]
 exact List.length_filter_le ..
def Dn (l : List GPair) : ByteArray → ByteArray → Prop := Rch (sB l)
def mB (l : List GPair) : List (ByteArray × List ByteArray) := l.foldl (fun es p => madd p.a [p.b] es) []
theorem nxt_mB (l : List GPair) : nxt (mB l) = sB l := by
 funext x
 exact (fold_get (fun p : GPair => p.a) (fun p => p.b) x l []).trans (List.nil_append _)
theorem small_mB (l : List GPair) : small l.length (mB l) := by
 have := fold_small (fun p : GPair => p.a) (fun p => p.b) l 0 [] small_nil
 rwa [Nat.zero_add] at this
theorem below_fold {n : Nat} (l0 : List GPair) : ∀ (l : List GPair) (m : Nat) (es : List (ByteArray × List ByteArray)), small m es → m + l.length < 2147483648 →
  foldK (norm_below_L1_f n l0) (norm_below_L1_e n l0) l es = some (l.foldl (fun es p => madd p.a [p.b] es) es)
 | [], m, es, h, hm => by
  rw [foldK]
  exact grd_t (h.dec (by simp at hm; omega))
 | p :: l, m, es, h, hm => by
  rw [List.length_cons] at hm
  have h2 := h.add p.a p.b
  rw [foldK]
  unfold norm_below_L1_f
  dsimp only
  rw [grd_t (h.dec (by omega)), grd_t (h.fam (by omega) p.a), Zo, grd_t (h2.dec (by omega))]
  exact below_fold l0 l (m + 1) _ h2 (by omega)
theorem below_some {n : Nat} {l : List GPair} (hn : l.length < n) (hl : l.length < 2147483648) : norm_below n l = some (mB l) := by
 unfold norm_below
 have hL : norm_below_L1 n l n ([], 0) = _ := norm_below_L1_list n l (by omega) n [] 0 (Nat.zero_le _) (by omega)
 rw [hL, List.drop_zero, below_fold l l 0 [] small_nil (by omega), Zo]
 exact grd_t ((small_mB l).dec (by omega))
theorem reachB {n : Nat} {l : List GPair} (hn : l.length + 1 < n) (hl : l.length < 1073741824) (role : ByteArray) : ∃ r, norm_reach n role (mB l) = some r ∧ tx.Rises r ∧ ∀ y, y ∈ r ↔ Dn l role y := by
 have e := nxt_mB l
 have h := reach_some (n := n) (next := mB l) (U := role :: l.map fun p => p.b) (role := role)
 rw [e] at h
 refine h (fun x y hy => ?_) (by simp; omega) (fun x => by have := sB_len l x; omega) (by simp; omega) (fun x => by have := sB_len l x; omega) (List.mem_cons_self ..)
 exact List.mem_cons_of_mem _ (List.mem_map.2 ⟨⟨x, y⟩, mem_sB.1 hy, rfl⟩)
theorem down_some {n : Nat} {p : GRoles} (hn : p.inherit.length + 1 < n) (hl : p.inherit.length < 1073741824) (role : ByteArray) : ∃ r, norm_Down n p role = some r ∧ tx.Rises r ∧ ∀ y, y ∈ r ↔ Dn p.inherit role y := by
 obtain ⟨r, h1, h2⟩ := reachB hn hl role
 refine ⟨r, ?_, h2⟩
 unfold norm_Down
 rw [below_some (by omega) (by omega), Zo, h1]
 rfl
def sA (l : List GPair) (x : ByteArray) : List ByteArray := (l.filter fun p => x == p.b).map fun p => p.a
theorem mem_sA {l : List GPair} {x y : ByteArray} : y ∈ sA l x ↔ ⟨y, x⟩ ∈ l := by
 unfold sA
 rw [List.mem_map]
 constructor
 ·rintro ⟨⟨a, b⟩, h1, rfl⟩
  obtain ⟨h1, h2⟩ := List.mem_filter.1 h1
  have : x = b := by simpa using h2
  subst this
  exact h1
 ·intro h
  exact ⟨⟨y, x⟩, List.mem_filter.2 ⟨h, by simp⟩, rfl⟩
theorem sA_len (l : List GPair) (x : ByteArray) : (sA l x).length ≤ l.length := by
 unfold sA
 rw [List.length_map]
 exact List.length_filter_le ..
theorem up_dn {l : List GPair} {a b : ByteArray} : Rch (sA l) a b ↔ Dn l b a := by
 constructor
 ·intro h
  induction h with
  | refl => exact .refl
  | step _ hc ih => exact Rch.head (mem_sB.2 (mem_sA.1 hc)) ih
 ·intro h
  induction h with
  | refl => exact .refl
  | step _ hc ih => exact Rch.head (mem_sA.2 (mem_sB.1 hc)) ih
def mA (l : List GPair) : List (ByteArray × List ByteArray) := l.foldl (fun es p => madd p.b [p.a] es) []
theorem nxt_mA (l : List GPair) : nxt (mA l) = sA l := by
 funext x
 exact (fold_get (fun p : GPair => p.b) (fun p => p.a) x l []).trans (List.nil_append _)
theorem small_mA (l : List GPair) : small l.length (mA l) := by
 have := fold_small (fun p : GPair => p.b) (fun p => p.a) l 0 [] small_nil
 rwa [Nat.zero_add] at this
theorem above_fold {n : Nat} (p : GRoles) : ∀ (l : List GPair) (m : Nat) (es : List (ByteArray × List ByteArray)), small m es → m + l.length < 2147483648 →
  foldK (norm_Up_L1_f n p) (norm_Up_L1_e n p) l es = some (l.foldl (fun es p => madd p.b [p.a] es) es)
 | [], m, es, h, hm => by
  rw [foldK]
  exact grd_t (h.dec (by simp at hm; omega))
 | q :: l, m, es, h, hm => by
  rw [List.length_cons] at hm
  have h2 := h.add q.b q.a
  rw [foldK]
  unfold norm_Up_L1_f
  dsimp only
  rw [grd_t (h.dec (by omega)), grd_t (h.fam (by omega) q.b), Zo, grd_t (h2.dec (by omega))]
  exact above_fold p l (m + 1) _ h2 (by omega)
theorem up_some {n : Nat} {p : GRoles} (hn : p.inherit.length + 1 < n) (hl : p.inherit.length < 1073741824) (role : ByteArray) : ∃ r, norm_Up n p role = some r ∧ tx.Rises r ∧ ∀ y, y ∈ r ↔ Dn p.inherit y role := by
 have e := nxt_mA p.inherit
 have h := reach_some (n := n) (next := mA p.inherit) (U := role :: p.inherit.map fun p => p.a) (role := role)
 rw [e] at h
 obtain ⟨r, h1, h2, h3⟩ := h (fun x y hy => List.mem_cons_of_mem _ (List.mem_map.2 ⟨⟨y, x⟩, mem_sA.1 hy, rfl⟩)) (by simp; omega) (fun x => by have := sA_len p.inherit x; omega) (by simp; omega) (fun x => by have := sA_len p.inherit x; omega) (List.mem_cons_self ..)
 refine ⟨r, ?_, h2, fun y => (h3 y).trans up_dn⟩
 have hL : norm_Up_L1 n p n ([], 0) = _ := norm_Up_L1_list n p (by omega) n [] 0 (Nat.zero_le _) (by omega)
 have hF : foldK (norm_Up_L1_f n p) (norm_Up_L1_e n p) p.inherit [] = some (mA p.inherit) := above_fold p p.inherit 0 [] small_nil (by omega)
 unfold norm_Up
 rw [hL, List.drop_zero, hF, Zo, h1, Zo]
 exact grd_t ((small_mA p.inherit).dec (by omega))
end Go.Proofs.YtkkhgdmmbhpckaaGreat.Ab

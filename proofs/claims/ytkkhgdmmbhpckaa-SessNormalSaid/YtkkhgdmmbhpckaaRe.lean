/-
 Pairs: what is below what. No program in sight.
-/
import Derived.Test.YtkkhgdmmbhpckaaRc
namespace Go.Proofs.Ytkkhgdmmbhpckaa.Ab
open Go.RowKit
attribute [local instance] baLawful
def sB (l : List GPair) (x : ByteArray) : List ByteArray := (l.filter fun p => x == p.a).map fun p => p.b
theorem mem_sB {l : List GPair} {x y : ByteArray} : y ∈ sB l x ↔ ⟨x, y⟩ ∈ l := by
 unfold sB
 rw [List.mem_map]
 constructor
 ·rintro ⟨⟨a, b⟩, h1, rfl⟩
  obtain ⟨h1, h2⟩ := List.mem_filter.1 h1
  have : x = a := by simpa using h2
  subst this
  exact h1
 ·intro h
  exact ⟨⟨x, y⟩, List.mem_filter.2 ⟨h, by simp⟩, rfl⟩
theorem sB_len (l : List GPair) (x : ByteArray) : (sB l x).length ≤ l.length := by
 unfold sB
 rw [List.length_map]
 exact List.length_filter_le ..
def Dn (l : List GPair) : ByteArray → ByteArray → Prop := Rch (sB l)
def mB (l : List GPair) : List (ByteArray × List ByteArray) := l.foldl (fun es p => madd p.a [p.b] es) []
theorem nxt_mB (l : List GPair) : nxt (mB l) = sB l := by
 funext x
 exact (fold_get (fun p : GPair => p.a) (fun p => p.b) x l []).trans (List.nil_append _)
theorem small_mB (l : List GPair) : small l.length (mB l) := by
 have := fold_small (fun p : GPair => p.a) (fun p => p.b) l 0 [] small_nil
 rwa [Nat.zero_add] at this
theorem below_fold {n : Nat} (l0 : List GPair) : ∀ (l : List GPair) (m : Nat) (es : List (ByteArray × List ByteArray)), small m es → m + l.length < 2147483648 →
  foldK (norm_below_L1_f n l0) (norm_below_L1_e n l0) l es = some (l.foldl (fun es p => madd p.a [p.b] es) es)
 | [], m, es, h, hm => by
  rw [foldK]
  exact grd_t (h.dec (by simp at hm; omega))
 | p :: l, m, es, h, hm => by
  rw [List.length_cons] at hm
  have h2 := h.add p.a p.b
  rw [foldK]
  unfold norm_below_L1_f
  dsimp only
  rw [grd_t (h.dec (by omega)), grd_t (h.fam (by omega) p.a), Zo, grd_t (h2.dec (by omega))]
  exact below_fold l0 l (m + 1) _ h2 (by omega)
theorem below_some {n : Nat} {l : List GPair} (hn : l.length < n) (hl : l.length < 2147483648) : norm_below n l = some (mB l) := by
 unfold norm_below
 have hL : norm_below_L1 n l n ([], 0) = _ := norm_below_L1_list n l (by omega) n [] 0 (Nat.zero_le _) (by omega)
 rw [hL, List.drop_zero, below_fold l l 0 [] small_nil (by omega), Zo]
 exact grd_t ((small_mB l).dec (by omega))
theorem reachB {n : Nat} {l : List GPair} (hn : l.length + 1 < n) (hl : l.length < 1073741824) (role : ByteArray) : ∃ r, norm_reach n role (mB l) = some r ∧ tx.Rises r ∧ ∀ y, y ∈ r ↔ Dn l role y := by
 have e := nxt_mB l
 have h := reach_some (n := n) (next := mB l) (U := role :: l.map fun p => p.b) (role := role)
 rw [e] at h
 refine h (fun x y hy => ?_) (by simp; omega) (fun x => by have := sB_len l x; omega) (by simp; omega) (fun x => by have := sB_len l x; omega) (List.mem_cons_self ..)
 exact List.mem_cons_of_mem _ (List.mem_map.2 ⟨⟨x, y⟩, mem_sB.1 hy, rfl⟩)
theorem down_some {n : Nat} {p : GRoles} (hn : p.inherit.length + 1 < n) (hl : p.inherit.length < 1073741824) (role : ByteArray) : ∃ r, norm_Down n p role = some r ∧ tx.Rises r ∧ ∀ y, y ∈ r ↔ Dn p.inherit role y := by
 obtain ⟨r, h1, h2⟩ := reachB hn hl role
 refine ⟨r, ?_, h2⟩
 unfold norm_Down
 rw [below_some (by omega) (by omega), Zo, h1]
 rfl
theorem rises_len {l : List ByteArray} (h : tx.Rises l) {U : List ByteArray} (hU : ∀ x ∈ l, x ∈ U) : l.length ≤ U.length := nodup_len (tx.nodup h) hU
theorem dn_in {l : List GPair} {a b : ByteArray} (h : Dn l a b) : b ∈ a :: l.map fun p => p.b := by
 cases h with
 | refl => exact List.mem_cons_self ..
 | step _ hc => exact List.mem_cons_of_mem _ (List.mem_map.2 ⟨⟨_, _⟩, mem_sB.1 hc, rfl⟩)
theorem has_texts {n : Nat} {l : List ByteArray} {u : ByteArray} (hn : l.length < n) (hl : l.length < 4611686018427387904) : slices_Contains_string n l u = some (l.any fun x => decide (u = x)) := by
 obtain ⟨r, e, h⟩ := ixf_loop (L := slices_Index_string_L1 n l u) (xs := l) (P := fun x => some (u.toList == x.toList)) (fun x => decide (u = x)) (fun _ _ => rfl) (fun x _ => by rw [beqS]) hl n 0 (by omega) (by omega)
 have e : slices_Index_string_L1 n l u n 0 = some r := e
 rw [List.drop_zero] at h
 unfold slices_Contains_string slices_Index_string
 rw [e, Zo]
 rcases h with ⟨h1, k, rfl⟩ | ⟨h1, rfl⟩
 ·rw [h1]
  simp
 ·rw [h1]
  simp
def RingP (l : List GPair) : Prop := ∃ x ∈ l, Dn l x.b x.a
def SaidP (l : List GPair) (x : GPair) : Prop := ∃ s, ⟨x.a, s⟩ ∈ l ∧ s ≠ x.b ∧ Dn l s x.b
end Go.Proofs.Ytkkhgdmmbhpckaa.Ab

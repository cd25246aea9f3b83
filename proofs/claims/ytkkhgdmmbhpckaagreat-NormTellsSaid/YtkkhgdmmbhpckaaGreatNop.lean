/-
 NormOnce: the law. No program in sight.
-/
import Derived.Test.YtkkhgdmmbhpckaaGreatNol
import Derived.Test.YtkkhgdmmbhpckaaGreatPz
namespace Go.Proofs.YtkkhgdmmbhpckaaGreat.Ab
open Go.RowKit
attribute [local instance] baLawful
def sA (l : List GPair) (x : ByteArray) : List ByteArray := (l.filter fun p => x == p.b).map fun p => p.a
theorem fU_ {l : List GPair} {x y : ByteArray} : y ∈ sA l x ↔ ⟨y, x⟩ ∈ l := by
 unfold sA;rw [List.mem_map];constructor
 ·rintro ⟨⟨a, b⟩, h1, rfl⟩
  obtain ⟨h1, h2⟩ := List.mem_filter.1 h1;have : x = b := by simpa using h2
  subst this;exact h1
 ·intro h
  exact ⟨⟨y, x⟩, List.mem_filter.2 ⟨h, by simp⟩, rfl⟩
theorem rG_ (l : List GPair) (x : ByteArray) : (sA l x).length ≤ l.length := by
 unfold sA;rw [List.length_map];exact List.length_filter_le ..
theorem up_dn {l : List GPair} {a b : ByteArray} : Rch (sA l) a b ↔ Dn l b a := by
 constructor
 ·intro h
  induction h with
  | refl => exact .refl
  | step _ hc ih => exact Rch.head (xD_.2 (fU_.1 hc)) ih
 ·intro h
  induction h with
  | refl => exact .refl
  | step _ hc ih => exact Rch.head (fU_.2 (xD_.1 hc)) ih
def mA (l : List GPair) : List (ByteArray × List ByteArray) := l.foldl (fun es p => madd p.b [p.a] es) []
theorem nxt_mA (l : List GPair) : nxt (mA l) = sA l := by
 funext x;exact (gZ_ (fun p : GPair => p.b) (fun p => p.a) x l []).trans (List.nil_append _)
theorem p4_ (l : List GPair) : small l.length (mA l) := by
 have := kK_ (fun p : GPair => p.b) (fun p => p.a) l 0 [] kb_;rwa [Nat.zero_add] at this
theorem u9_ {n : Nat} (p : GRoles) : ∀ (l : List GPair) (m : Nat) (es : List (ByteArray × List ByteArray)), small m es → m + l.length < 2147483648 →
  jg_ (zp_ n p) (vc_ n p) l es = some (l.foldl (fun es p => madd p.b [p.a] es) es)
 | [], m, es, h, hm => by
  rw [jg_];exact uG_ (h.dec (by simp at hm; omega))
 | q :: l, m, es, h, hm => by
  rw [List.length_cons] at hm;have h2 := h.add q.b q.a;rw [jg_];unfold zp_;dsimp only;rw [uG_ (h.dec (by omega)), uG_ (h.fam (by omega) q.b), Zo, uG_ (h2.dec (by omega))];exact u9_ p l (m + 1) _ h2 (by omega)
theorem nj_ {n : Nat} {p : GRoles} (hn : p.inherit.length + 1 < n) (hl : p.inherit.length < 1073741824) (role : ByteArray) : ∃ r, wN_ n p role = some r ∧ tx.Rises r ∧ ∀ y, y ∈ r ↔ Dn p.inherit y role := by
 have e := nxt_mA p.inherit;have h := gf_ (n := n) (next := mA p.inherit) (U := role :: p.inherit.map fun p => p.a) (role := role);rw [e] at h;obtain ⟨r, h1, h2, h3⟩ := h (fun x y hy => List.mem_cons_of_mem _ (List.mem_map.2 ⟨⟨y, x⟩, fU_.1 hy, rfl⟩)) (by simp; omega) (fun x => by have := rG_ p.inherit x; omega) (by simp; omega) (fun x => by have := rG_ p.inherit x; omega) (List.mem_cons_self ..)
 refine ⟨r, ?_, h2, fun y => (h3 y).trans up_dn⟩;have hL : zd_ n p n ([], 0) = _ := um_ n p (by omega) n [] 0 (Nat.zero_le _) (by omega);have hF : jg_ (zp_ n p) (vc_ n p) p.inherit [] = some (mA p.inherit) := u9_ p p.inherit 0 [] kb_ (by omega);unfold wN_;rw [hL, List.drop_zero, hF, Zo, h1, Zo];exact uG_ ((p4_ p.inherit).dec (by omega))
section
variable {n : Nat} (hn : 200000 ≤ n)
end
end Go.Proofs.YtkkhgdmmbhpckaaGreat.Ab

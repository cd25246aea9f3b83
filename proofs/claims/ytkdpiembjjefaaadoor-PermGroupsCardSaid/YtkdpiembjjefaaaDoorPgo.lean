/-
  PermGroups: the entries that it makes are apart. No program in sight.
-/
import Derived.Test.YtkdpiembjjefaaaDoorPgn
namespace Go.Proofs.YtkdpiembjjefaaaDoor.Ab
open Go.RowKit
theorem cfE_zero {x y : GEntry} (h : cfE x y = 0) : x.kind = y.kind ∧ x.name = y.name := by
  unfold cfE lex at h
  split at h
  · split at h
    · rename_i h1 h2
      refine ⟨?_, (cm_zero _ _).1 h⟩
      have h2 : cmI x.kind y.kind = 0 := h2
      unfold cmI at h2
      split at h2
      · omega
      · split at h2
        · omega
        · omega
    · rename_i h1 h2
      exact absurd h h2
  · rename_i h1
    exact absurd h h1
theorem nmG_inj : ∀ i j : Nat, i < 10 → j < 10 → nmG i = nmG j → i = j := by
  have : ∀ i j : Fin 10, nmG i.1 = nmG j.1 → i = j := by decide
  exact fun i j hi hj h => congrArg Fin.val (this ⟨i, hi⟩ ⟨j, hj⟩ h)
theorem ns_mem {x : GEntry} : ∀ {i : Nat} {r : List Int}, x ∈ ns i r → ∃ j v, i ≤ j ∧ j < i + r.length ∧ v ∈ r ∧ x = nG j v
  | _, [], h => by cases h
  | i, v :: r, h => by
    rcases List.mem_cons.1 (show x ∈ nG i v :: ns (i + 1) r from h) with e | h2
    · exact ⟨i, v, Nat.le_refl _, by simp, List.mem_cons_self .., e⟩
    · obtain ⟨j, w, h3, h4, h5, h6⟩ := ns_mem h2
      exact ⟨j, w, by omega, by simp; omega, List.mem_cons_of_mem _ h5, h6⟩
theorem ns_apart : ∀ {i : Nat} {r : List Int}, i + r.length ≤ 10 → (ns i r).Pairwise fun x y => cfE x y ≠ 0
  | _, [], _ => List.Pairwise.nil
  | i, v :: r, h => by
    rw [List.length_cons] at h
    refine List.pairwise_cons.2 ⟨fun y hy e => ?_, ns_apart (by omega)⟩
    obtain ⟨j, w, h3, h4, _, rfl⟩ := ns_mem hy
    have := nmG_inj i j (by omega) (by omega) (cfE_zero e).2
    omega
def e0 (m o : Int) : List GEntry := [⟨1, false, ByteArray.empty, 0⟩, ⟨3, false, ByteArray.empty, 0⟩, ⟨5, false, ByteArray.empty, m⟩, ⟨6, false, ByteArray.empty, o⟩]
theorem kind_ne {x y : GEntry} {a b : Int} (hx : x.kind = a) (hy : y.kind = b) (h : a ≠ b) : cfE x y ≠ 0 := fun e => h (by rw [← hx, ← hy]; exact (cfE_zero e).1)
theorem aG_apart {m o : Int} {r : List Int} (h : r.length ≤ 10) : (e0 m o ++ ns 0 r).Pairwise fun x y => cfE x y ≠ 0 := by
  refine List.pairwise_append.2 ⟨?_, ns_apart (by omega), fun x hx y hy => ?_⟩
  · simp only [e0, List.pairwise_cons, List.mem_cons, List.not_mem_nil, or_false]
    refine ⟨?_, ?_, ?_, ?_, List.Pairwise.nil⟩
    · rintro y (rfl | rfl | rfl) <;> exact kind_ne rfl rfl (by simp)
    · rintro y (rfl | rfl) <;> exact kind_ne rfl rfl (by simp)
    · rintro y rfl
      exact kind_ne rfl rfl (by simp)
    · intro y hy
      cases hy
  · obtain ⟨j, w, _, _, _, rfl⟩ := ns_mem hy
    simp only [e0, List.mem_cons, List.not_mem_nil, or_false] at hx
    rcases hx with rfl | rfl | rfl | rfl <;> exact kind_ne (b := 4) rfl rfl (by simp)
theorem name_ok : ∀ i : Nat, i < 10 → atom_Name 100 (nmG i) = some true
  | 0, _ => by kernel_rfl
  | 1, _ => by kernel_rfl
  | 2, _ => by kernel_rfl
  | 3, _ => by kernel_rfl
  | 4, _ => by kernel_rfl
  | 5, _ => by kernel_rfl
  | 6, _ => by kernel_rfl
  | 7, _ => by kernel_rfl
  | 8, _ => by kernel_rfl
  | 9, _ => by kernel_rfl
  | i + 10, h => absurd h (by omega)
theorem good_nG {i : Nat} (h : i < 10) (v : Int) : mask_good 100 (nG i v) = some true := by
  unfold mask_good nG
  dsimp only
  rw [name_ok i h]
  have h1 : bt v = (an (sh v 1) 7 : Nat) := wrap_an _ 7 (by decide)
  have h2 := an_le (sh v 1) 7
  rw [h1]
  have h3 : an (sh v 1) 7 ≤ 7 := h2
  simp
  omega
end Go.Proofs.YtkdpiembjjefaaaDoor.Ab

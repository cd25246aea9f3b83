/-
  PermGroups: who may what. No program in sight.
-/
import Derived.Test.YtkdpiembjjefaaaDoorPgp
namespace Go.Proofs.YtkdpiembjjefaaaDoor.Ab
open Go.RowKit
def f0 : List GFile := [⟨1, { data := #[117] }, [], ByteArray.empty, ByteArray.empty, [], 0⟩, ⟨1, { data := #[111] }, [], ByteArray.empty, ByteArray.empty, [], 0⟩, ⟨2, { data := #[103] }, [], ByteArray.empty, ByteArray.empty, [], 0⟩]
def dirG (m o : Int) (r : List Int) : GFile := ⟨3, { data := #[47] }, [], { data := #[111] }, { data := #[103] }, e0 m o ++ ns 0 r, 0⟩
theorem gs_len : ∀ (i : Nat) (r : List Int), (gs i r).length = r.length
  | _, [] => rfl
  | i, _ :: r => congrArg (· + 1) (gs_len (i + 1) r)
theorem gs_mem {x : GFile} : ∀ {i : Nat} {r : List Int}, x ∈ gs i r → ∃ j v, i ≤ j ∧ j < i + r.length ∧ v ∈ r ∧ x = gG j v
  | _, [], h => by cases h
  | i, v :: r, h => by
    rcases List.mem_cons.1 (show x ∈ gG i v :: gs (i + 1) r from h) with e | h2
    · exact ⟨i, v, Nat.le_refl _, by simp, List.mem_cons_self .., e⟩
    · obtain ⟨j, w, h3, h4, h5, h6⟩ := gs_mem h2
      exact ⟨j, w, by omega, by simp; omega, List.mem_cons_of_mem _ h5, h6⟩
theorem fileG {m o : Int} {r : List Int} (h : r.length ≤ 10) : perm_File 100 ((f0 ++ gs 0 r) ++ [dirG m o r]) { data := #[47] } = some (dirG m o r, true) := by
  have hl : (f0 ++ gs 0 r).length = 3 + r.length := by rw [List.length_append, gs_len]; rfl
  refine file_some (d := dirG m o r) (fun f hf => ?_) rfl (by omega) (by omega)
  rcases List.mem_append.1 hf with hf | hf
  · simp only [f0, List.mem_cons, List.not_mem_nil, or_false] at hf
    rcases hf with rfl | rfl | rfl
    · exact .inl rfl
    · exact .inl rfl
    · exact .inr rfl
  · obtain ⟨j, v, _, _, _, rfl⟩ := gs_mem hf
    exact .inr rfl
theorem userG {m o : Int} {r : List Int} (h : r.length ≤ 10) {u : ByteArray} (hu : u = { data := #[117] } ∨ u = { data := #[111] }) : perm_isUser 100 ((f0 ++ gs 0 r) ++ [dirG m o r]) u = some true := by
  have hl : ((f0 ++ gs 0 r) ++ [dirG m o r]).length = 4 + r.length := by rw [List.length_append, List.length_append, gs_len]; simp [f0]; omega
  rw [isUser_some (by omega) (by omega)]
  refine congrArg some (List.any_eq_true.2 ?_)
  rcases hu with rfl | rfl
  · exact ⟨⟨1, { data := #[117] }, [], ByteArray.empty, ByteArray.empty, [], 0⟩, by simp [f0], rfl⟩
  · exact ⟨⟨1, { data := #[111] }, [], ByteArray.empty, ByteArray.empty, [], 0⟩, by simp [f0], rfl⟩
theorem bits_ok {b : Int} (hb : b = 1 ∨ b = 2 ∨ b = 4) : ((if (b != 4) then (if (b != 2) then some (b != 1) else some false) else some false) : Option Bool) = some false := by
  rcases hb with rfl | rfl | rfl <;> rfl
theorem can_o {m o b : Int} {r : List Int} (h : r.length ≤ 10) (hm : 0 ≤ m ∧ m ≤ 7) (ho : 0 ≤ o ∧ o ≤ 7) (hb : b = 1 ∨ b = 2 ∨ b = 4) : perm_Can 100 ((f0 ++ gs 0 r) ++ [dirG m o r]) { data := #[111] } { data := #[47] } b = some false := by
  have hl : (srtE (e0 m o ++ ns 0 r)).length = 4 + r.length := by rw [srtE_len, List.length_append, ns_len]; rfl
  unfold perm_Can
  rw [fileG h, Option.bind_some, if_pos rfl, userG h (.inr rfl), Option.bind_some, if_pos rfl, bits_ok hb, Option.bind_some, if_neg (by decide), show (dirG m o r, true).1.acl = e0 m o ++ ns 0 r from rfl, aG_acl h hm ho, Option.bind_some, show (srtE (e0 m o ++ ns 0 r), true).1 = srtE (e0 m o ++ ns 0 r) from rfl, c1_some (by omega) (by omega), Option.bind_some, beqS, decide_eq_true (show (dirG m o r, true).1.owner = { data := #[111] } from rfl), if_pos rfl, c1_some (by omega) (by omega), Option.bind_some, f1]
  rcases hb with rfl | rfl | rfl <;> rfl
end Go.Proofs.YtkdpiembjjefaaaDoor.Ab

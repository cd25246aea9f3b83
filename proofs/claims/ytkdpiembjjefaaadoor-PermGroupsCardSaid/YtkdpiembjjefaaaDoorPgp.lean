/-
  PermGroups: what is found of its entries. No program in sight.
-/
import Derived.Test.YtkdpiembjjefaaaDoorPgo
namespace Go.Proofs.YtkdpiembjjefaaaDoor.Ab
open Go.RowKit
theorem aG_mem {m o : Int} {r : List Int} {x : GEntry} (h : x ∈ e0 m o ++ ns 0 r) : x = ⟨1, false, ByteArray.empty, 0⟩ ∨ x = ⟨3, false, ByteArray.empty, 0⟩ ∨ x = ⟨5, false, ByteArray.empty, m⟩ ∨ x = ⟨6, false, ByteArray.empty, o⟩ ∨ ∃ j v, j < r.length ∧ v ∈ r ∧ x = nG j v := by
  rcases List.mem_append.1 h with h | h
  · simp only [e0, List.mem_cons, List.not_mem_nil, or_false] at h
    rcases h with h | h | h | h
    · exact .inl h
    · exact .inr (.inl h)
    · exact .inr (.inr (.inl h))
    · exact .inr (.inr (.inr (.inl h)))
  · obtain ⟨j, v, _, h2, h3, h4⟩ := ns_mem h
    exact .inr (.inr (.inr (.inr ⟨j, v, by omega, h3, h4⟩)))
theorem find_s {m o : Int} {r : List Int} {k : Int} {x : GEntry} (hx : x ∈ e0 m o ++ ns 0 r) (hk : keyE false k { data := #[] } x = true) (hu : ∀ y ∈ e0 m o ++ ns 0 r, keyE false k { data := #[] } y = true → y = x) : findE (srtE (e0 m o ++ ns 0 r)) false k { data := #[] } = (x, true) :=
  findE_of ((srtE_perm _).mem_iff.2 hx) hk fun y hy => hu y ((srtE_perm _).mem_iff.1 hy)
theorem f1 (m o : Int) (r : List Int) : findE (srtE (e0 m o ++ ns 0 r)) false 1 { data := #[] } = (⟨1, false, ByteArray.empty, 0⟩, true) := find_s (by simp [e0]) rfl fun y hy hk => by
  rcases aG_mem hy with rfl | rfl | rfl | rfl | ⟨j, v, _, _, rfl⟩ <;> first | rfl | exact Bool.noConfusion (show false = true from hk)
theorem f3 (m o : Int) (r : List Int) : findE (srtE (e0 m o ++ ns 0 r)) false 3 { data := #[] } = (⟨3, false, ByteArray.empty, 0⟩, true) := find_s (by simp [e0]) rfl fun y hy hk => by
  rcases aG_mem hy with rfl | rfl | rfl | rfl | ⟨j, v, _, _, rfl⟩ <;> first | rfl | exact Bool.noConfusion (show false = true from hk)
theorem f5 (m o : Int) (r : List Int) : findE (srtE (e0 m o ++ ns 0 r)) false 5 { data := #[] } = (⟨5, false, ByteArray.empty, m⟩, true) := find_s (by simp [e0]) rfl fun y hy hk => by
  rcases aG_mem hy with rfl | rfl | rfl | rfl | ⟨j, v, _, _, rfl⟩ <;> first | rfl | exact Bool.noConfusion (show false = true from hk)
theorem f6 (m o : Int) (r : List Int) : findE (srtE (e0 m o ++ ns 0 r)) false 6 { data := #[] } = (⟨6, false, ByteArray.empty, o⟩, true) := find_s (by simp [e0]) rfl fun y hy hk => by
  rcases aG_mem hy with rfl | rfl | rfl | rfl | ⟨j, v, _, _, rfl⟩ <;> first | rfl | exact Bool.noConfusion (show false = true from hk)
theorem f2 (m o : Int) (r : List Int) (u : ByteArray) : findE (srtE (e0 m o ++ ns 0 r)) false 2 u = (zE, false) := findE_none fun y hy => by
  rcases aG_mem ((srtE_perm _).mem_iff.1 hy) with rfl | rfl | rfl | rfl | ⟨j, v, _, _, rfl⟩ <;> rfl
theorem ns_len : ∀ (i : Nat) (r : List Int), (ns i r).length = r.length
  | _, [] => rfl
  | i, _ :: r => congrArg (· + 1) (ns_len (i + 1) r)
theorem aG_acl {m o : Int} {r : List Int} (h : r.length ≤ 10) (hm : 0 ≤ m ∧ m ≤ 7) (ho : 0 ≤ o ∧ o ≤ 7) : mask_Acl 100 (e0 m o ++ ns 0 r) = some (srtE (e0 m o ++ ns 0 r), true) := by
  have hl : (e0 m o ++ ns 0 r).length = 4 + r.length := by rw [List.length_append, ns_len]; rfl
  refine acl_some (aG_apart h) (by omega) (by omega) (fun x hx => ?_) (fun x hx => ?_) (by rw [f1]) (by rw [f3]) (by rw [f5]) (by rw [f6])
  · rcases aG_mem hx with rfl | rfl | rfl | rfl | ⟨j, v, hj, _, rfl⟩
    · simp [mask_good]
    · simp [mask_good]
    · unfold mask_good
      simp [hm.1, hm.2]
    · unfold mask_good
      simp [ho.1, ho.2]
    · exact good_nG (by omega) v
  · rcases aG_mem hx with rfl | rfl | rfl | rfl | ⟨j, v, _, _, rfl⟩ <;> rfl
end Go.Proofs.YtkdpiembjjefaaaDoor.Ab

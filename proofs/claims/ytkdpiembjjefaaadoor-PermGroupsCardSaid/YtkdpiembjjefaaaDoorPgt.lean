/-
  PermGroups: what the user may. No program in sight.
-/
import Derived.Test.YtkdpiembjjefaaaDoorPgr
namespace Go.Proofs.YtkdpiembjjefaaaDoor.Ab
open Go.RowKit
theorem can_u {m o b : Int} {r : List Int} (h : r.length ≤ 10) (hm : 0 ≤ m ∧ m ≤ 7) (ho : 0 ≤ o ∧ o ≤ 7) (hb : b = 1 ∨ b = 2 ∨ b = 4) : perm_Can 100 ((f0 ++ gs 0 r) ++ [dirG m o r]) uU { data := #[47] } b = some (if r.any mem then (bitOn m b && r.any fun x => mem x && bitOn (bt x) b) else bitOn o b) := by
  have hl : (srtE (e0 m o ++ ns 0 r)).length = 4 + r.length := by rw [srtE_len, List.length_append, ns_len]; rfl
  have hL : ((f0 ++ gs 0 r) ++ [dirG m o r]).length = 4 + r.length := by rw [List.length_append, List.length_append, gs_len]; simp [f0]; omega
  have hfl := List.length_filter_le (grpE ((f0 ++ gs 0 r) ++ [dirG m o r]) uU (dirG m o r)) (srtE (e0 m o ++ ns 0 r))
  have hus : ∀ f ∈ (f0 ++ gs 0 r) ++ [dirG m o r], f.users.length < 100 ∧ f.users.length < 4611686018427387904 := by
    intro f hf
    have : f.users.length ≤ 1 := by
      rcases List.mem_append.1 hf with hf | hf
      · rcases List.mem_append.1 hf with hf | hf
        · simp only [f0, List.mem_cons, List.not_mem_nil, or_false] at hf
          rcases hf with rfl | rfl | rfl <;> simp
        · obtain ⟨k, v, _, rfl⟩ := gs_at.1 hf
          unfold gG
          cases mem v <;> simp
      · obtain rfl := List.mem_singleton.1 hf
        simp [dirG]
    omega
  have hgr : perm_groups 100 ((f0 ++ gs 0 r) ++ [dirG m o r]) uU (dirG m o r) (srtE (e0 m o ++ ns 0 r)) = _ := groups_some uU (dirG m o r) (by omega) (by omega) hus (by omega) (by omega)
  unfold perm_Can
  rw [fileG h, Option.bind_some, if_pos rfl, userG (u := uU) h (.inl rfl), Option.bind_some, if_pos rfl, bits_ok hb, Option.bind_some, if_neg (by decide), show (dirG m o r, true).1.acl = e0 m o ++ ns 0 r from rfl, aG_acl h hm ho, Option.bind_some, show (srtE (e0 m o ++ ns 0 r), true).1 = srtE (e0 m o ++ ns 0 r) from rfl, c1_some (by omega) (by omega), Option.bind_some, beqS, decide_eq_false (show ¬ (dirG m o r, true).1.owner = uU from (by decide : ¬ ({ data := #[111] } : ByteArray) = uU)), if_neg (by decide), find_some (by omega) (by omega), Option.bind_some, f2, if_neg (by decide)]
  show ((perm_groups 100 ((f0 ++ gs 0 r) ++ [dirG m o r]) uU (dirG m o r) (srtE (e0 m o ++ ns 0 r))).bind _) = _
  rw [hgr, Option.bind_some, f5]
  cases hA : r.any mem
  · have hn : (srtE (e0 m o ++ ns 0 r)).filter (grpE ((f0 ++ gs 0 r) ++ [dirG m o r]) uU (dirG m o r)) = [] := List.eq_nil_iff_forall_not_mem.2 fun x hx => by
      obtain ⟨k, v, h1, h2, _⟩ := (grp_mem h x).1 hx
      exact List.any_eq_false.1 hA v (List.mem_of_getElem? h1) h2
    rw [hn, if_neg (by simp), c1_some (by omega) (by omega), Option.bind_some, f6, if_neg (by decide)]
  · obtain ⟨v, hv, hv2⟩ := List.any_eq_true.1 hA
    obtain ⟨k, hk, rfl⟩ := List.getElem_of_mem hv
    have hx := (grp_mem (m := m) (o := o) h (nG k r[k])).2 ⟨k, r[k], List.getElem?_eq_getElem hk, hv2, rfl⟩
    have h0 := List.length_pos_of_mem hx
    have he : ((srtE (e0 m o ++ ns 0 r)).filter (grpE ((f0 ++ gs 0 r) ++ [dirG m o r]) uU (dirG m o r))).any (fun x => bitOn x.bits b) = r.any fun x => mem x && bitOn (bt x) b := by
      rw [Bool.eq_iff_iff, List.any_eq_true, List.any_eq_true]
      constructor
      · rintro ⟨x, h1, h2⟩
        obtain ⟨k, v, h3, h4, rfl⟩ := (grp_mem h x).1 h1
        exact ⟨v, List.mem_of_getElem? h3, by rw [h4]; exact h2⟩
      · rintro ⟨v, h1, h2⟩
        obtain ⟨k, hk, rfl⟩ := List.getElem_of_mem h1
        have h2 := Bool.and_eq_true_iff.1 h2
        exact ⟨nG k r[k], (grp_mem h _).2 ⟨k, r[k], List.getElem?_eq_getElem hk, h2.1, rfl⟩, h2.2⟩
    rw [if_pos (decide_eq_true (by omega)), any_some (by omega) (by omega), he, if_pos rfl]
    cases bitOn m b <;> rfl
end Go.Proofs.YtkdpiembjjefaaaDoor.Ab

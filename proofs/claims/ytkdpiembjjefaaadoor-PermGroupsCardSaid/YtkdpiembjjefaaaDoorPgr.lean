/-
  PermGroups: the entries of a user's groups. No program in sight.
-/
import Derived.Test.YtkdpiembjjefaaaDoorPgq
namespace Go.Proofs.YtkdpiembjjefaaaDoor.Ab
open Go.RowKit
theorem ns_at {x : GEntry} : ∀ {i : Nat} {r : List Int}, x ∈ ns i r ↔ ∃ k v, r[k]? = some v ∧ x = nG (i + k) v
  | _, [] => ⟨fun h => (by cases h), fun ⟨k, v, h, _⟩ => (by simp at h)⟩
  | i, w :: r => by
    rw [ns_cons, List.mem_cons, ns_at (i := i + 1) (r := r)]
    constructor
    · rintro (e | ⟨k, v, h1, h2⟩)
      · exact ⟨0, w, rfl, e⟩
      · exact ⟨k + 1, v, h1, by rw [h2, show i + (k + 1) = i + 1 + k by omega]⟩
    · rintro ⟨k, v, h1, h2⟩
      cases k with
      | zero =>
        obtain rfl := Option.some.inj h1
        exact .inl h2
      | succ k => exact .inr ⟨k, v, h1, by rw [h2, show i + (k + 1) = i + 1 + k by omega]⟩
theorem gs_at {x : GFile} : ∀ {i : Nat} {r : List Int}, x ∈ gs i r ↔ ∃ k v, r[k]? = some v ∧ x = gG (i + k) v
  | _, [] => ⟨fun h => (by cases h), fun ⟨k, v, h, _⟩ => (by simp at h)⟩
  | i, w :: r => by
    rw [gs_cons, List.mem_cons, gs_at (i := i + 1) (r := r)]
    constructor
    · rintro (e | ⟨k, v, h1, h2⟩)
      · exact ⟨0, w, rfl, e⟩
      · exact ⟨k + 1, v, h1, by rw [h2, show i + (k + 1) = i + 1 + k by omega]⟩
    · rintro ⟨k, v, h1, h2⟩
      cases k with
      | zero =>
        obtain rfl := Option.some.inj h1
        exact .inl h2
      | succ k => exact .inr ⟨k, v, h1, by rw [h2, show i + (k + 1) = i + 1 + k by omega]⟩
theorem nmG_g : ∀ i : Nat, i < 10 → nmG i ≠ { data := #[103] } := by
  have : ∀ i : Fin 10, nmG i.1 ≠ { data := #[103] } := by decide
  exact fun i hi => this ⟨i, hi⟩
def uU : ByteArray := { data := #[117] }
theorem gG_in (k : Nat) (v : Int) (g : ByteArray) : inG uU g (gG k v) = (decide (nmG k = g) && mem v) := by
  unfold inG gG
  cases mem v
  · simp
  · simp [uU]
theorem inU_nm {m o : Int} {r : List Int} {j : Nat} (h : r.length ≤ 10) (hj : j < 10) : ((f0 ++ gs 0 r) ++ [dirG m o r]).any (inG uU (nmG j)) = true ↔ ∃ v, r[j]? = some v ∧ mem v = true := by
  rw [List.any_eq_true]
  constructor
  · rintro ⟨f, hf, hi⟩
    rcases List.mem_append.1 hf with hf | hf
    · rcases List.mem_append.1 hf with hf | hf
      · simp only [f0, List.mem_cons, List.not_mem_nil, or_false] at hf
        rcases hf with rfl | rfl | rfl
        · exact Bool.noConfusion (show false = true from hi)
        · exact Bool.noConfusion (show false = true from hi)
        · simp [inG] at hi
      · obtain ⟨k, v, h1, rfl⟩ := gs_at.1 hf
        rw [gG_in, Bool.and_eq_true] at hi
        have hk : k < r.length := by
          rcases Nat.lt_or_ge k r.length with h2 | h2
          · exact h2
          · rw [List.getElem?_eq_none h2] at h1
            cases h1
        have e := nmG_inj (0 + k) j (by omega) hj (of_decide_eq_true hi.1)
        exact ⟨v, by rw [← e, Nat.zero_add]; exact h1, hi.2⟩
    · obtain rfl := List.mem_singleton.1 hf
      exact Bool.noConfusion (show false = true from hi)
  · rintro ⟨v, h1, h2⟩
    exact ⟨gG j v, List.mem_append_left _ (List.mem_append_right _ (gs_at.2 ⟨j, v, h1, by rw [Nat.zero_add]⟩)), by rw [gG_in, h2, decide_eq_true rfl]; rfl⟩
theorem inU_g {m o : Int} {r : List Int} (h : r.length ≤ 10) : ((f0 ++ gs 0 r) ++ [dirG m o r]).any (inG uU { data := #[103] }) = false := by
  rw [List.any_eq_false]
  intro f hf hi
  rcases List.mem_append.1 hf with hf | hf
  · rcases List.mem_append.1 hf with hf | hf
    · simp only [f0, List.mem_cons, List.not_mem_nil, or_false] at hf
      rcases hf with rfl | rfl | rfl
      · exact Bool.noConfusion (show false = true from hi)
      · exact Bool.noConfusion (show false = true from hi)
      · simp [inG] at hi
    · obtain ⟨k, v, h1, rfl⟩ := gs_at.1 hf
      rw [gG_in, Bool.and_eq_true] at hi
      have hk : k < r.length := by
        rcases Nat.lt_or_ge k r.length with h2 | h2
        · exact h2
        · rw [List.getElem?_eq_none h2] at h1
          cases h1
      exact nmG_g (0 + k) (by omega) (of_decide_eq_true hi.1)
  · obtain rfl := List.mem_singleton.1 hf
    exact Bool.noConfusion (show false = true from hi)
/-- Which entries speak of the user's groups: those of members. -/
theorem grp_mem {m o : Int} {r : List Int} (h : r.length ≤ 10) (x : GEntry) : x ∈ (srtE (e0 m o ++ ns 0 r)).filter (grpE ((f0 ++ gs 0 r) ++ [dirG m o r]) uU (dirG m o r)) ↔ ∃ k v, r[k]? = some v ∧ mem v = true ∧ x = nG k v := by
  rw [List.mem_filter, (srtE_perm _).mem_iff]
  constructor
  · rintro ⟨hx, hg⟩
    rcases List.mem_append.1 hx with hx | hx
    · simp only [e0, List.mem_cons, List.not_mem_nil, or_false] at hx
      rcases hx with rfl | rfl | rfl | rfl
      · exact Bool.noConfusion (show false = true from hg)
      · have e : grpE ((f0 ++ gs 0 r) ++ [dirG m o r]) uU (dirG m o r) ⟨3, false, ByteArray.empty, 0⟩ = false := by
          unfold grpE
          rw [show (dirG m o r).group = { data := #[103] } from rfl, inU_g h]
          rfl
        rw [e] at hg
        cases hg
      · exact Bool.noConfusion (show false = true from hg)
      · exact Bool.noConfusion (show false = true from hg)
    · obtain ⟨k, v, h1, rfl⟩ := ns_at.1 hx
      rw [Nat.zero_add] at hg ⊢
      have hk : k < r.length := by
        rcases Nat.lt_or_ge k r.length with h2 | h2
        · exact h2
        · rw [List.getElem?_eq_none h2] at h1
          cases h1
      have hg : ((f0 ++ gs 0 r) ++ [dirG m o r]).any (inG uU (nmG k)) = true := hg
      obtain ⟨w, h3, h4⟩ := (inU_nm h (by omega)).1 hg
      rw [h1] at h3
      obtain rfl := Option.some.inj h3
      exact ⟨k, v, h1, h4, rfl⟩
  · rintro ⟨k, v, h1, h2, rfl⟩
    have hk : k < r.length := by
      rcases Nat.lt_or_ge k r.length with h3 | h3
      · exact h3
      · rw [List.getElem?_eq_none h3] at h1
        cases h1
    refine ⟨List.mem_append_right _ (ns_at.2 ⟨k, v, h1, by rw [Nat.zero_add]⟩), ?_⟩
    exact (inU_nm h (by omega)).2 ⟨v, h1, h2⟩
end Go.Proofs.YtkdpiembjjefaaaDoor.Ab

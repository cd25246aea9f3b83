/-
  The policy of numbers: what a number's bits pick of a row.
-/
import Derived.Test.YtkkhgdmmbhpckaaGc
namespace Go.Proofs.Ytkkhgdmmbhpckaa.Ab
open Go.RowKit

/-- A number's i-th bit. -/
def bitN (n : Int) (i : Nat) : Bool := IntKind.i64.wrap (an (sh n i) 1 : Int) == 1
/-- Those of a row whose bits are set. -/
def fewG (n : Int) : List ByteArray → Nat → List ByteArray
  | [], _ => []
  | x :: r, i => if bitN n i then x :: fewG n r (i + 1) else fewG n r (i + 1)
theorem few_ok (n : Int) (all : List ByteArray) (hl : all.length ≤ 60) : PureOK Try.prog 39 [.v (.int .i64 n), .sl (all.map fun x => [D.v (.string x)])] (.sl ((fewG n all 0).map fun x => [D.v (.string x)])) true := by
  refine pure_run (tab := tab) tab_ok fol Try.func39 rfl (by kernel_rfl) (by kernel_rfl) (by simp [Try.f39]) ?_
  simp -implicitDefEqProofs only [go_sem, Nat.reduceAdd]
  refine run_loopA (α := { z0 : Nat × List ByteArray × Nat × Nat × Nat // z0.1 ≤ all.length ∧ z0.2.1 ++ fewG n (all.drop z0.1) z0.1 = fewG n all 0 ∧ 3 ≤ z0.2.2.1 ∧ z0.2.2.1 < 3 + z0.2.2.2.2 + 1 ∧ z0.2.1.length ≤ z0.1 }) [(4, 25)] [] (fun z0 fr => upd 6 (.v (.int .i64 (z0.1.1 : Int))) (upd 5 (accV z0.1.2.2.1 z0.1.2.2.2.1 (z0.1.2.1.map fun x => [D.v (.string x)])) fr)) (fun z0 hp => upd (z0.1.2.2.1) (accO 1 z0.1.2.2.2.1 false (z0.1.2.1.map fun x => [D.v (.string x)])) (hp)) (fun z0 => z0.1.2.2.2.2) (fun z0 => all.length - z0.1.1) ⟨(0, [], 3, 0, 0), by simp⟩ ⟨wk_upd (by first | rfl | simp [upd_at, forget_at]) (wk_upd (by first | rfl | simp [upd_at, forget_at]) (wk_self _ _)), wh_upd (by first | rfl | simp [upd_at]) (wh_cut _ _ _), by simp⟩ ?_
  rintro ⟨⟨i, out, id, ver, m⟩, hI⟩
  simp only at hI
  obtain ⟨hk1, hk2, hk3, hk4, hk5⟩ := hI
  by_cases hk : i < all.length
  · have c1 := dec_lt hk
    have w1 : IntKind.i64.wrap ((i : Int) + 1) = ((i + 1 : Nat) : Int) := wrap_one (by omega)
    have w2 : IntKind.u64.wrap (i : Int) = (i : Int) := by rw [IntKind.wrap_u64]; omega
    rw [List.drop_eq_getElem_cons hk] at hk2
    simp only [fewG] at hk2
    have n0 : ¬ (i : Int) < 0 := by omega
    simp -implicitDefEqProofs only [go_sem, Nat.reduceEqDiff, Nat.reduceAdd, Nat.reduceLeDiff, reduceCtorEq, ↓reduceIte, c1, w2, n0]
    refine onC_split (fun h => ?_) (fun h => ?_)
    · have h : bitN n i = true := h
      rw [h] at hk2
      rcases out with _ | ⟨z, r⟩
      · simp -implicitDefEqProofs only [go_sem, Bool.and_self, beq_self_eq_true, Nat.reduceLT, Nat.reduceEqDiff, Nat.reduceAdd, Nat.reduceLeDiff, reduceCtorEq, ↓reduceIte, at_map hk, w1, List.map, chk_cons, chk_nil, Nat.reduceLeDiff]
        exact ⟨⟨(i + 1, [all[i]], 3 + m + 4 + 6 + 6, 0, m + 60), ⟨by first | omega | (simp only; omega), by simpa using hk2, by first | omega | (simp only; omega), by first | omega | (simp only; omega), by simp⟩⟩, ⟨wk_upd (by first | rfl | simp [upd_at, forget_at, accV_app, accV_cons, accV_nil]) (wk_upd (by first | rfl | simp [upd_at, forget_at, accV_app, accV_cons, accV_nil]) ((by repeat first | exact wk_base _ _ | refine wk_skip rfl ?_))), wh_upd (by first | rfl | simp [upd_at, accO_cons]) ((by repeat first | exact wh_base _ _ _ | refine wh_skip (by first | (left; first | omega | exact accI_le _ (by omega) (by omega)) | (right; simp)) ?_)), by simp only; omega⟩, by simp only; omega⟩
      · have b1 : r.length + 1 + 1 ≤ 4294967296 := by simp at hk5; omega
        have b2 : r.length + 1 ≤ i := by simpa using hk5
        have b3 : ¬ id = 3 + m + 4 + 6 + 5 := by omega
        simp -implicitDefEqProofs only [go_sem, Bool.and_self, beq_self_eq_true, Nat.reduceLT, Nat.reduceEqDiff, Nat.reduceAdd, Nat.reduceLeDiff, ↓reduceIte, at_map hk, w1, List.map, chk_cons, chk_nil, b1, b3, Nat.le_refl]
        exact ⟨⟨(i + 1, z :: r ++ [all[i]], id, ver + 1, m + 60), ⟨by first | omega | (simp only; omega), by simpa using hk2, by first | omega | (simp only; omega), by first | omega | (simp only; omega), by simp; omega⟩⟩, ⟨wk_upd (by first | rfl | simp [upd_at, forget_at, accV_app, accV_cons, accV_nil]) (wk_upd (by first | rfl | simp [upd_at, accV_cons]) ((by repeat first | exact wk_base _ _ | refine wk_skip rfl ?_))), wh_upd (by first | rfl | simp [upd_at, accO_cons]) ((by repeat first | exact wh_base _ _ _ | refine wh_skip (by first | (left; first | omega | exact accI_le _ (by omega) (by omega)) | (right; simp)) ?_)), by simp only; omega⟩, by simp only; omega⟩
    · have h : bitN n i = false := h
      rw [h] at hk2
      simp -implicitDefEqProofs only [go_sem, Nat.reduceEqDiff, Nat.reduceAdd, ↓reduceIte, w1]
      exact ⟨⟨(i + 1, out, id, ver, m + 60), ⟨by first | omega | (simp only; omega), by simpa using hk2, hk3, by first | omega | (simp only; omega), by first | omega | (simp only; omega)⟩⟩, ⟨wk_upd (by first | rfl | simp [upd_at, forget_at, accV_app, accV_cons, accV_nil]) (wk_upd (by first | rfl | simp [upd_at, forget_at, accV_app, accV_cons, accV_nil]) ((by repeat first | exact wk_base _ _ | refine wk_skip rfl ?_))), wh_upd (by first | rfl | simp [upd_at]) ((by repeat first | exact wh_base _ _ _ | refine wh_skip (by first | (left; first | omega | exact accI_le _ (by omega) (by omega)) | (right; simp)) ?_)), by simp only; omega⟩, by simp only; omega⟩
  · have c1 := dec_nlt (Nat.le_of_not_lt hk)
    rw [List.drop_eq_nil_of_le (by omega)] at hk2
    simp only [fewG, List.append_nil] at hk2
    rcases out with _ | ⟨z, r⟩
    · simp -implicitDefEqProofs only [go_sem, Nat.reduceEqDiff, Nat.reduceAdd, Nat.reduceLeDiff, ↓reduceIte, c1, List.map]
      exact end_pure (b := false) (by simp -implicitDefEqProofs only [go_sem, ↓reduceIte, Try.f39] <;> rfl) rfl (by rw [← hk2]; rfl) (fun _ => rfl)
    · simp -implicitDefEqProofs only [go_sem, Nat.reduceEqDiff, Nat.reduceAdd, Nat.reduceLeDiff, ↓reduceIte, c1, List.map]
      exact end_pure (b := false) (by simp -implicitDefEqProofs only [go_sem, ↓reduceIte, Try.f39] <;> rfl) (acc_toR (id := id) (ver := ver) (sz := 1) (es := (z :: r).map fun x => [D.v (.string x)]) (by simp [upd_at, accO_cons])) (by rw [← hk2]) (fun _ => rfl)
end Go.Proofs.Ytkkhgdmmbhpckaa.Ab

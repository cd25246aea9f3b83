/-
  PermGroups: the law. No program in sight.
-/
import Derived.Test.YtkdpiembjjefaaaDoorPgt
namespace Go.Proofs.YtkdpiembjjefaaaDoor.Ab
open Go.RowKit
def nz (x b : Int) : Bool := (IntKind.i64.wrap (an x b : Int)) != 0
theorem an7 (x : Int) : 0 ≤ IntKind.i64.wrap (an x 7 : Int) ∧ IntKind.i64.wrap (an x 7 : Int) ≤ 7 := by
  have h := an_le x 7
  rw [show (BitVec.ofInt 64 7).toNat = 7 from rfl] at h
  rw [wrap_an x 7 (by decide)]
  omega
theorem of8 {p : Int → Prop} (h : ∀ i : Fin 8, p (i.1 : Int)) {x : Int} (hx : 0 ≤ x ∧ x ≤ 7) : p x := by
  have := h ⟨x.toNat, by omega⟩
  rwa [show ((x.toNat : Nat) : Int) = x by omega] at this
theorem bit_nz {x b : Int} (hx : 0 ≤ x ∧ x ≤ 7) (hb : b = 1 ∨ b = 2 ∨ b = 4) : bitOn x b = nz x b := by
  revert hb
  refine of8 (p := fun x => b = 1 ∨ b = 2 ∨ b = 4 → bitOn x b = nz x b) (fun i => ?_) hx
  rintro (rfl | rfl | rfl) <;> revert i <;> decide
theorem or_all : ∀ i j : Fin 8, (0 ≤ orW i.1 j.1 ∧ orW i.1 j.1 ≤ 7) ∧ nz (orW i.1 j.1) 1 = (nz i.1 1 || nz j.1 1) ∧ nz (orW i.1 j.1) 2 = (nz i.1 2 || nz j.1 2) ∧ nz (orW i.1 j.1) 4 = (nz i.1 4 || nz j.1 4) := by decide
theorem and_all : ∀ i j : Fin 8, nz (IntKind.i64.wrap (an i.1 j.1 : Int)) 1 = (nz i.1 1 && nz j.1 1) ∧ nz (IntKind.i64.wrap (an i.1 j.1 : Int)) 2 = (nz i.1 2 && nz j.1 2) ∧ nz (IntKind.i64.wrap (an i.1 j.1 : Int)) 4 = (nz i.1 4 && nz j.1 4) := by decide
theorem or_ok {w x : Int} (hw : 0 ≤ w ∧ w ≤ 7) (hx : 0 ≤ x ∧ x ≤ 7) : (0 ≤ orW w x ∧ orW w x ≤ 7) ∧ nz (orW w x) 1 = (nz w 1 || nz x 1) ∧ nz (orW w x) 2 = (nz w 2 || nz x 2) ∧ nz (orW w x) 4 = (nz w 4 || nz x 4) :=
  of8 (p := fun w => (0 ≤ orW w x ∧ orW w x ≤ 7) ∧ nz (orW w x) 1 = (nz w 1 || nz x 1) ∧ nz (orW w x) 2 = (nz w 2 || nz x 2) ∧ nz (orW w x) 4 = (nz w 4 || nz x 4)) (fun i => of8 (p := fun x => (0 ≤ orW i.1 x ∧ orW i.1 x ≤ 7) ∧ nz (orW i.1 x) 1 = (nz i.1 1 || nz x 1) ∧ nz (orW i.1 x) 2 = (nz i.1 2 || nz x 2) ∧ nz (orW i.1 x) 4 = (nz i.1 4 || nz x 4)) (fun j => or_all i j) hx) hw
theorem and_ok {w x b : Int} (hw : 0 ≤ w ∧ w ≤ 7) (hx : 0 ≤ x ∧ x ≤ 7) (hb : b = 1 ∨ b = 2 ∨ b = 4) : nz (IntKind.i64.wrap (an w x : Int)) b = (nz w b && nz x b) := by
  refine of8 (p := fun w => nz (IntKind.i64.wrap (an w x : Int)) b = (nz w b && nz x b)) (fun i => of8 (p := fun x => nz (IntKind.i64.wrap (an i.1 x : Int)) b = (nz i.1 b && nz x b)) (fun j => ?_) hx) hw
  rcases hb with rfl | rfl | rfl
  · exact (and_all i j).1
  · exact (and_all i j).2.1
  · exact (and_all i j).2.2
theorem wS_ok {b : Int} (hb : b = 1 ∨ b = 2 ∨ b = 4) : ∀ (r : List Int) (w : Int), 0 ≤ w ∧ w ≤ 7 → (0 ≤ wS w r ∧ wS w r ≤ 7) ∧ nz (wS w r) b = (nz w b || r.any fun x => mem x && nz (bt x) b)
  | [], w, h => ⟨h, by simp [wS]⟩
  | x :: r, w, h => by
    have hx : 0 ≤ bt x ∧ bt x ≤ 7 := an7 (sh x 1)
    obtain ⟨h1, h2, h3, h4⟩ := or_ok h hx
    have hnz : nz (orW w (bt x)) b = (nz w b || nz (bt x) b) := by
      rcases hb with rfl | rfl | rfl
      · exact h2
      · exact h3
      · exact h4
    rw [wS_cons, List.any_cons]
    cases mem x
    · simpa using wS_ok hb r w h
    · obtain ⟨g1, g2⟩ := wS_ok hb r _ h1
      refine ⟨g1, ?_⟩
      rw [if_pos rfl, g2, hnz, Bool.true_and, Bool.or_assoc]
theorem l2_some {l5 : List GFile} {w : Int} (hu : ∀ b : Int, b = 1 ∨ b = 2 ∨ b = 4 → perm_Can 100 l5 { data := #[117] } { data := #[47] } b = some (nz w b)) (ho : ∀ b : Int, b = 1 ∨ b = 2 ∨ b = 4 → perm_Can 100 l5 { data := #[111] } { data := #[47] } b = some false) :
    law20_PermGroups_L2 100 l5 w 100 1 = some (.inl ()) := by
  have step : ∀ (c : Nat) (b : Int), b = 1 ∨ b = 2 ∨ b = 4 → law20_PermGroups_L2 100 l5 w (c + 1) b = law20_PermGroups_L2 100 l5 w c (IntKind.i64.wrap (2 * b)) := by
    intro c b hb
    rw [law20_PermGroups_L2, hu b hb, ho b hb, decide_eq_true (show b ≤ 4 by omega), if_pos rfl, Option.bind_some, Option.bind_some, show ((IntKind.i64.wrap (an w b : Int)) != 0) = nz w b from rfl, beq_self_eq_true, if_pos rfl, if_neg (by decide)]
  rw [show (100 : Nat) = 96 + 1 + 1 + 1 + 1 from rfl] at *
  rw [step _ 1 (.inl rfl), show IntKind.i64.wrap (2 * 1) = 2 from rfl, step _ 2 (.inr (.inl rfl)), show IntKind.i64.wrap (2 * 2) = 4 from rfl, step _ 4 (.inr (.inr rfl)), show IntKind.i64.wrap (2 * 4) = 8 from rfl]
  rfl
theorem law_permGroups (t0 : List Int) (t1 t2 : Int) : law20_PermGroups 100 t0 t1 t2 = some true := by
  have hm := an7 t1
  have ho := an7 t2
  generalize hM : IntKind.i64.wrap (an t1 7 : Int) = m at hm
  generalize hO : IntKind.i64.wrap (an t2 7 : Int) = o at ho
  generalize hr : (t0.drop 0).take (10 - 0) = r
  have hr10 : r.length ≤ 10 := by rw [← hr]; simp; omega
  have e1 : law20_PermGroups_L1 100 t0 100 (f0, e0 m o, 0, false, ((0 : Nat) : Int)) = some (f0 ++ gs 0 r, e0 m o ++ ns 0 r, wS 0 r, r.any mem) := by
    rw [pg_loop t0 100 0 f0 (e0 m o) 0 false (by omega) (by omega) (by decide) (by simp [e0]), hr, Bool.false_or]
  have e2 : app (f0 ++ gs 0 r) [dirG m o r] = some ((f0 ++ gs 0 r) ++ [dirG m o r]) := appS (by rw [List.length_append, gs_len]; simp [f0]; omega)
  unfold law20_PermGroups
  rw [hM, hO]
  refine (congrArg (fun z => Option.bind z _) e1).trans ?_
  rw [Option.bind_some]
  dsimp only
  refine (congrArg (fun z => Option.bind z _) e2).trans ?_
  rw [Option.bind_some]
  have key : ∀ w : Int, (∀ b : Int, b = 1 ∨ b = 2 ∨ b = 4 → (if r.any mem then (bitOn m b && r.any fun x => mem x && bitOn (bt x) b) else bitOn o b) = nz w b) → law20_PermGroups_L2 100 ((f0 ++ gs 0 r) ++ [dirG m o r]) w 100 1 = some (.inl ()) := fun w hw =>
    l2_some (fun b hb => by rw [← hw b hb]; exact can_u hr10 hm ho hb) (fun b hb => can_o hr10 hm ho hb)
  have hbits : ∀ b : Int, b = 1 ∨ b = 2 ∨ b = 4 → (fun x => mem x && bitOn (bt x) b) = fun x => mem x && nz (bt x) b := fun b hb => funext fun x => by rw [bit_nz (show 0 ≤ bt x ∧ bt x ≤ 7 from an7 (sh x 1)) hb]
  cases ha : r.any mem
  · rw [if_neg (by decide), Option.bind_some, key o fun b hb => by rw [ha, if_neg (by decide), bit_nz ho hb], Option.bind_some]
    rfl
  · rw [if_pos rfl, Option.bind_some, key (IntKind.i64.wrap (an (wS 0 r) m : Int)) fun b hb => by
      obtain ⟨h1, h2⟩ := wS_ok hb r 0 ⟨by decide, by decide⟩
      rw [ha, if_pos rfl, and_ok h1 hm hb, h2, bit_nz hm hb, hbits b hb, Bool.and_comm]
      rcases hb with rfl | rfl | rfl <;> rfl, Option.bind_some]
    rfl
theorem law_permGroups_ex (a0 : List Int) (a1 a2 : Int) (_ : a0.length ≤ maxLen ∧ ∀ y ∈ a0, (Lit.int .i64 y).wf = true) (_ : (Lit.int .i64 a1).wf = true) (_ : (Lit.int .i64 a2).wf = true) : ∃ n, law20_PermGroups n a0 a1 a2 = some true := ⟨100, law_permGroups a0 a1 a2⟩
end Go.Proofs.YtkdpiembjjefaaaDoor.Ab

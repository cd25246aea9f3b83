/-
  GlobGroups: the walk.
-/
import Derived.Test.YtkkhgdmmbhpckaaGp
import Derived.Test.YtkkhgdmmbhpckaaGn
namespace Go.Proofs.Ytkkhgdmmbhpckaa.Ab
open Go.RowKit

set_option maxHeartbeats 2000000 in
theorem groups_ok (l : List Int) (n : Int) : PureOK Try.prog 3 [.sl (l.map fun x => [D.v (.int .i64 x)]), .v (.int .i64 n)] (.v (.bool true)) true := by
  have hm := made_ok l
  have hs := small_made l
  generalize madeP l = p at hm hs
  have hF := small_fit hs
  have ha := ask_ok n
  have hwho := who_or n
  generalize askN n = a at ha hwho
  refine pure_run (tab := tab) tab_ok fol Try.func3 rfl (by kernel_rfl) (by kernel_rfl) (by simp [Try.f3]) ?_
  simp -implicitDefEqProofs only [go_sem, Nat.reduceAdd, reduceCtorEq, ↓reduceIte]
  refine onCall_pure (by simp -implicitDefEqProofs only [go_sem] <;> rfl) hm (.inr rfl) ?_
  simp -implicitDefEqProofs only [go_sem, Nat.reduceEqDiff, Nat.reduceAdd, ↓reduceIte]
  refine onCall_pure (by simp -implicitDefEqProofs only [go_sem] <;> rfl) ha (.inr rfl) ?_
  simp -implicitDefEqProofs only [go_sem, Bool.and_self, Nat.reduceEqDiff, Nat.reduceAdd, Nat.reduceLeDiff, reduceCtorEq, ↓reduceIte]
  refine run_loopA (α := { z0 : Nat × List Stm × Nat × Nat × Nat // z0.1 ≤ p.stms.length ∧ z0.2.1 = (p.stms.take z0.1).map (flatS p) ∧ 15 ≤ z0.2.2.1 ∧ z0.2.2.1 < 16 + z0.2.2.2.2 }) [(8, 11), (19, 78)] [10] (fun z0 fr => upd 8 (.v (.int .i64 (z0.1.1 : Int))) fr) (fun z0 hp => upd (10) (some (.bx [.d (.sl (p.users.map fun x => [D.v (.string x)])) false, .d (.sl (p.acts.map fun x => [D.v (.string x)])) false, .d (.sl (p.ress.map fun x => [D.v (.string x)])) false, .d (.sl (p.grps.map grpD)) false, accV z0.1.2.2.1 z0.1.2.2.2.1 (z0.1.2.1.map stmD), .d (.sl (p.bnds.map bndD)) false])) (upd (z0.1.2.2.1) (accO 6 z0.1.2.2.2.1 false (z0.1.2.1.map stmD)) (hp))) (fun z0 => z0.1.2.2.2.2) (fun z0 => p.stms.length - z0.1.1) ⟨(0, [], 15, 0, 0), by simp⟩ ⟨wk_upd (by first | rfl | simp [upd_at, forget_at]) (wk_self _ _), wh_upd (by first | rfl | simp [upd_at]) (wh_upd (by first | rfl | simp [upd_at]) (wh_cut _ _ _)), by simp⟩ ?_
  rintro ⟨⟨i, fl, id, ver, m⟩, hI⟩
  simp only at hI
  obtain ⟨q1, q2, q3, q4⟩ := hI
  have s8 := hs.stms
  obtain ⟨d1, d2, d3, d4, d5, d6⟩ : ¬ id = 10 ∧ ¬ id = 5 ∧ ¬ id = 6 ∧ ¬ 10 = id ∧ ¬ 5 = id ∧ ¬ 6 = id := by omega
  by_cases hk : i < p.stms.length
  · have c1 := dec_lt hk
    have w1 : IntKind.i64.wrap ((i : Int) + 1) = ((i + 1 : Nat) : Int) := wrap_one (by omega)
    obtain ⟨n', en⟩ := hs.su _ (List.getElem_mem hk)
    have st := small_stm n'
    rw [← en] at st
    obtain ⟨u3, g2, fa, fr⟩ := st
    have b0 : (p.stms[i]).users.length ≤ 4294967296 := by omega
    simp -implicitDefEqProofs only [go_sem, Nat.reduceLT, Nat.reduceEqDiff, Nat.reduceAdd, Nat.reduceLeDiff, reduceCtorEq, ↓reduceIte, c1, at_map hk, d5, List.map, chk_nil, Nat.left_eq_add, chk_str, b0, Bool.false_and]
    refine run_loopA (α := { z0 : Nat × List ByteArray × Nat × Nat // z0.1 ≤ (p.stms[i]).groups.length ∧ flatU p z0.2.1 ((p.stms[i]).groups.drop z0.1) = flatU p (p.stms[i]).users (p.stms[i]).groups ∧ z0.2.1.length ≤ 3 + 8 * z0.1 }) [(10, 11), (36, 71)] [15 + m + 5 + 5, 15 + m + 12] (fun z0 fr => upd 10 (.v (.int .i64 (z0.1.1 : Int))) fr) (fun z0 hp => upd (15 + m + 5 + 5) (some (.bx [.v (.string (p.stms[i]).sid), .v (.bool (p.stms[i]).deny), .so (15 + m + 12) z0.1.2.2.1 0 z0.1.2.1.length, .d (.sl ((p.stms[i]).groups.map fun x => [D.v (.string x)])) false, .d (.sl ((p.stms[i]).acts.map fun x => [D.v (.string x)])) false, .d (.sl ((p.stms[i]).ress.map fun x => [D.v (.string x)])) false])) (upd (15 + m + 12) (some (.rw (z0.1.2.1.map fun x => [D.v (.string x)]) 1 z0.1.2.2.1 false false)) (hp))) (fun z0 => z0.1.2.2.2) (fun z0 => (p.stms[i]).groups.length - z0.1.1) ⟨(0, (p.stms[i]).users, 1, 0), ⟨by omega, by simp only [List.drop_zero], by omega⟩⟩ ⟨wk_upd (by first | rfl | simp [upd_at, forget_at]) (wk_self _ _), wh_upd (by first | rfl | simp [upd_at]) (wh_upd (by first | rfl | simp [upd_at]) (wh_cut _ _ _)), by simp⟩ ?_
    rintro ⟨⟨j, us, v, m1⟩, hI⟩
    simp only at hI
    obtain ⟨r1, r2, r3⟩ := hI
    by_cases hj : j < (p.stms[i]).groups.length
    · have e1 := dec_lt hj
      have w2 : IntKind.i64.wrap ((j : Int) + 1) = ((j + 1 : Nat) : Int) := wrap_one (by omega)
      rw [List.drop_eq_getElem_cons hj] at r2
      simp only [flatU] at r2
      simp -implicitDefEqProofs only [go_sem, Nat.reduceEqDiff, Nat.reduceAdd, Nat.reduceLeDiff, reduceCtorEq, ↓reduceIte, e1]
      refine run_loopA (α := { z0 : Nat × List ByteArray × Nat × Nat // z0.1 ≤ p.grps.length ∧ fltK (p.stms[i]).groups[j] z0.2.1 (p.grps.drop z0.1) = fltK (p.stms[i]).groups[j] us p.grps ∧ z0.2.1.length ≤ 3 + 8 * j + 3 * z0.1 }) [(11, 11), (43, 71)] [15 + m + 5 + 5, 15 + m + 12] (fun z0 fr => upd 11 (.v (.int .i64 (z0.1.1 : Int))) fr) (fun z0 hp => upd (15 + m + 5 + 5) (some (.bx [.v (.string (p.stms[i]).sid), .v (.bool (p.stms[i]).deny), .so (15 + m + 12) z0.1.2.2.1 0 z0.1.2.1.length, .d (.sl ((p.stms[i]).groups.map fun x => [D.v (.string x)])) false, .d (.sl ((p.stms[i]).acts.map fun x => [D.v (.string x)])) false, .d (.sl ((p.stms[i]).ress.map fun x => [D.v (.string x)])) false])) (upd (15 + m + 12) (some (.rw (z0.1.2.1.map fun x => [D.v (.string x)]) 1 z0.1.2.2.1 false false)) (hp))) (fun z0 => z0.1.2.2.2) (fun z0 => p.grps.length - z0.1.1) ⟨(0, us, v, 0), ⟨by omega, by simp only [List.drop_zero], by omega⟩⟩ ⟨wk_upd (by first | rfl | simp [upd_at, forget_at]) (wk_self _ _), wh_upd (by first | rfl | simp [upd_at]) (wh_upd (by first | rfl | simp [upd_at]) (wh_cut _ _ _)), by simp⟩ ?_
      rintro ⟨⟨k, us2, v2, m2⟩, hI⟩
      simp only at hI
      obtain ⟨k1, k2, k3⟩ := hI
      by_cases hk2 : k < p.grps.length
      · have e2 := dec_lt hk2
        have gl : p.grps.length = 2 := by rw [hs.grps]; rfl
        have gu : (p.grps[k]).users.length ≤ 3 := (show ∀ g ∈ p.grps, g.users.length ≤ 3 by rw [hs.grps]; decide) _ (List.getElem_mem hk2)
        have w3 : IntKind.i64.wrap ((k : Int) + 1) = ((k + 1 : Nat) : Int) := wrap_one (by omega)
        have b1 : us2.length + (p.grps[k]).users.length ≤ 4294967296 := by omega
        rw [List.drop_eq_getElem_cons hk2] at k2
        simp only [fltK] at k2
        simp -implicitDefEqProofs only [go_sem, Nat.reduceEqDiff, Nat.reduceAdd, Nat.reduceLeDiff, reduceCtorEq, ↓reduceIte, e2, at_map hk2, at_map hj, d5]
        refine Rd_endF (by rfl) ?_
        simp -implicitDefEqProofs only [go_sem, ↓reduceIte]
        refine onC_split (fun h => ?_) (fun h => ?_)
        · have h : eqS (p.grps[k]).name (p.stms[i]).groups[j] = true := h
          rw [h] at k2
          simp -implicitDefEqProofs only [go_sem, Nat.reduceLT, Nat.reduceEqDiff, Nat.reduceAdd, Nat.reduceLeDiff, reduceCtorEq, ↓reduceIte, Nat.left_eq_add, Nat.add_eq_left, at_map hk2, d5, chk_str, b1, Bool.false_and, Nat.le_refl]
          refine Rd_endF (by rfl) ?_
          simp -implicitDefEqProofs only [go_sem, Nat.reduceEqDiff, Nat.reduceAdd, ↓reduceIte, w3]
          exact ⟨⟨(k + 1, us2 ++ (p.grps[k]).users, v2 + 1, m2 + 60), ⟨by omega, by simpa using k2, by simp; omega⟩⟩, ⟨wk_upd (by first | rfl | simp [upd_at, forget_at, accV_app, accV_cons, accV_nil]) ((by repeat first | exact wk_base _ _ | refine wk_skip rfl ?_ | refine wk_forget rfl ?_)), wh_upd (by first | rfl | simp [upd_at]) (wh_upd (by first | rfl | simp [upd_at]) ((by repeat first | exact wh_base _ _ _ | refine wh_skip (by first | (left; first | omega | exact accI_le _ (by omega) (by omega)) | (right; simp)) ?_ | refine wh_cut2 (by omega) (by intro k hk; first | exact absurd hk List.not_mem_nil | (simp only [List.mem_cons, List.not_mem_nil, or_false] at hk ⊢; omega)) ?_))), by simp only; omega⟩, by simp only; omega⟩
        · have h : eqS (p.grps[k]).name (p.stms[i]).groups[j] = false := h
          rw [h] at k2
          simp -implicitDefEqProofs only [go_sem, Nat.reduceEqDiff, Nat.reduceAdd, ↓reduceIte, w3]
          exact ⟨⟨(k + 1, us2, v2, m2 + 60), ⟨by omega, by simpa using k2, by first | omega | (simp only; omega)⟩⟩, ⟨wk_upd (by first | rfl | simp [upd_at, forget_at, accV_app, accV_cons, accV_nil]) ((by repeat first | exact wk_base _ _ | refine wk_skip rfl ?_ | refine wk_forget rfl ?_)), wh_upd (by first | rfl | simp [upd_at]) (wh_upd (by first | rfl | simp [upd_at]) ((by repeat first | exact wh_base _ _ _ | refine wh_skip (by first | (left; first | omega | exact accI_le _ (by omega) (by omega)) | (right; simp)) ?_ | refine wh_cut2 (by omega) (by intro k hk; first | exact absurd hk List.not_mem_nil | (simp only [List.mem_cons, List.not_mem_nil, or_false] at hk ⊢; omega)) ?_))), by simp only; omega⟩, by simp only; omega⟩
      · have e2 := dec_nlt (Nat.le_of_not_lt hk2)
        rw [List.drop_eq_nil_of_le (by omega)] at k2
        simp only [fltK] at k2
        rw [← k2] at r2
        have gl : p.grps.length = 2 := by rw [hs.grps]; rfl
        simp -implicitDefEqProofs only [go_sem, Nat.reduceEqDiff, Nat.reduceAdd, Nat.reduceLeDiff, reduceCtorEq, ↓reduceIte, e2, w2, d5]
        
        exact ⟨⟨(j + 1, us2, v2, m1 + m2 + 100), ⟨by omega, r2, by first | omega | (simp only; omega)⟩⟩, ⟨wk_upd (by first | rfl | simp [upd_at, forget_at, accV_app, accV_cons, accV_nil]) ((by repeat first | exact wk_base _ _ | refine wk_skip rfl ?_ | refine wk_forget rfl ?_)), wh_upd (by first | rfl | simp [upd_at]) (wh_upd (by first | rfl | simp [upd_at]) ((by repeat first | exact wh_base _ _ _ | refine wh_skip (by first | (left; first | omega | exact accI_le _ (by omega) (by omega)) | (right; simp)) ?_ | refine wh_cut2 (by omega) (by intro k hk; first | exact absurd hk List.not_mem_nil | (simp only [List.mem_cons, List.not_mem_nil, or_false] at hk ⊢; omega)) ?_))), by simp only; omega⟩, by simp only; omega⟩
    · have e1 := dec_nlt (Nat.le_of_not_lt hj)
      rw [List.drop_eq_nil_of_le (by omega)] at r2
      simp only [flatU] at r2
      have z0 : ¬ 15 + m = 0 := by omega
      have z1 : ¬ 15 + m + 5 + 7 + 6 + 1 + m1 = 0 := by omega
      have fle : fl.length = i := by rw [q2]; simp; omega
      obtain ⟨f1, f2, f3, f4⟩ : ¬ id = 15 + m + 5 + 5 ∧ ¬ id = 15 + m + 12 ∧ ¬ id = 15 + m + 5 + 7 + 6 + 1 + m1 + 5 + 2 + 3 ∧ ¬ id = 15 + m + 5 + 7 + 6 + 1 + m1 + 5 + 2 + 4 := ⟨by omega, by omega, by omega, by omega⟩
      rcases fl with _ | ⟨z, r⟩
      · have fe : [flatS p (p.stms[i])] = (p.stms.take (i + 1)).map (flatS p) := by
          rw [List.take_succ_eq_append_getElem hk, List.map_append, ← q2]; rfl
        simp -implicitDefEqProofs only [go_sem, Bool.and_self, beq_self_eq_true, Nat.reduceLT, Nat.reduceEqDiff, Nat.reduceAdd, Nat.reduceMul, Nat.reduceLeDiff, reduceCtorEq, ↓reduceIte, e1, z0, z1, w1, frz, upds, List.cons_append, List.nil_append, List.map, chk_cons, chk_nil, Nat.add_eq_left]
        
        exact ⟨⟨(i + 1, [flatS p (p.stms[i])], 15 + m + 5 + 7 + 6 + 1 + m1 + 5 + 2 + 4, 0, m + m1 + 100), ⟨by omega, fe, by first | omega | (simp only; omega), by first | omega | (simp only; omega)⟩⟩, ⟨wk_upd (by first | rfl | simp [upd_at, forget_at, accV_app, accV_cons, accV_nil, d1, d2, d3, d4, d5, d6, f1, f2, flatS, ← r2]) ((by repeat first | exact wk_base _ _ | refine wk_skip rfl ?_ | refine wk_forget rfl ?_)), wh_upd (by first | rfl | simp [upd_at, accO_app, accO_cons, accV_app, accV_cons, accV_nil, accO_nil, d1, d2, d3, d4, d5, d6, f1, f2, flatS, ← r2]) (wh_upd (by first | rfl | simp [upd_at, accO_cons, flatS, ← r2]) ((by repeat first | exact wh_base _ _ _ | refine wh_skip (by first | (left; first | omega | exact accI_le _ (by omega) (by omega)) | (right; simp)) ?_ | refine wh_cut2 (by omega) (by intro k hk; first | exact absurd hk List.not_mem_nil | (simp only [List.mem_cons, List.not_mem_nil, or_false] at hk ⊢; omega)) ?_))), by simp only; omega⟩, by simp only; omega⟩
      · have fe : z :: r ++ [flatS p (p.stms[i])] = (p.stms.take (i + 1)).map (flatS p) := by
          rw [List.take_succ_eq_append_getElem hk, List.map_append, ← q2]; rfl
        have n1 : ¬ 15 + m + 5 + 7 + 6 + 1 ≤ id := by omega
        have b1 : r.length + 1 + 1 ≤ 4294967296 := by simp at fle; omega
        simp -implicitDefEqProofs only [go_sem, Bool.and_self, beq_self_eq_true, Nat.reduceLT, Nat.reduceEqDiff, Nat.reduceAdd, Nat.reduceMul, Nat.reduceLeDiff, reduceCtorEq, ↓reduceIte, e1, z0, z1, w1, frz, upds, List.cons_append, List.nil_append, List.map, chk_cons, chk_nil, d1, d4, Nat.add_eq_left, f1, f2, f3, b1, n1, Nat.le_refl]
        exact ⟨⟨(i + 1, z :: r ++ [flatS p (p.stms[i])], id, ver + 1, m + m1 + 100), ⟨by omega, fe, q3, by first | omega | (simp only; omega)⟩⟩, ⟨wk_upd (by first | rfl | simp [upd_at, forget_at, accV_app, accV_cons, accV_nil, d1, d2, d3, d4, d5, d6, f1, f2, f3, f4, flatS, ← r2]) ((by repeat first | exact wk_base _ _ | refine wk_skip rfl ?_ | refine wk_forget rfl ?_)), wh_upd (by first | rfl | simp [upd_at, accV_cons, flatS, ← r2]) (wh_upd (by first | rfl | simp [upd_at, accO_cons, d1, flatS, ← r2]) ((by repeat first | exact wh_base _ _ _ | refine wh_skip (by first | (left; first | omega | exact accI_le _ (by omega) (by omega)) | (right; simp)) ?_ | refine wh_cut2 (by omega) (by intro k hk; first | exact absurd hk List.not_mem_nil | (simp only [List.mem_cons, List.not_mem_nil, or_false] at hk ⊢; omega)) ?_))), by simp only; omega⟩, by simp only; omega⟩
  · have c1 := dec_nlt (Nat.le_of_not_lt hk)
    have ep : ({ p with stms := fl } : Pol) = flatP p := by rw [q2, List.take_of_length_le (by omega)]; rfl
    have hm1 : mayB { p with stms := fl } a.who a.act a.obj = mayB p a.who a.act a.obj := by rw [ep, mayB_flat]
    have F1 := may_ok p a.who a.act a.obj hF
    have F2 := may_ok { p with stms := fl } a.who a.act a.obj (ep ▸ fit_flat hs)
    have I1 := in_ok p a.who { data := #[103] } hF
    have I2 := in_ok p a.who { data := #[104] } hF
    have I3 := in_ok p a.who { data := #[107] } hF
    simp -implicitDefEqProofs only [go_sem, Nat.reduceEqDiff, Nat.reduceAdd, Nat.reduceLeDiff, reduceCtorEq, ↓reduceIte, c1, d5, d6]
    obtain ⟨who, act, obj⟩ := a
    simp only at hwho hm1 F1 F2 I1 I2 I3
    rcases hwho with rfl | rfl | rfl | rfl
    · have e1 : inB p { data := #[117] } { data := #[103] } = true := by rw [inB, hs.grps]; kernel_rfl
      have e2 : inB p { data := #[117] } { data := #[104] } = false := by rw [inB, hs.grps]; kernel_rfl
      have e3 : inB p { data := #[117] } { data := #[107] } = false := by rw [inB, hs.grps]; kernel_rfl
      have x1 : (({ data := #[117] } : ByteArray).toList == ({ data := #[117] } : ByteArray).toList) = true := by kernel_rfl
      have x2 : (({ data := #[117] } : ByteArray).toList == ({ data := #[118] } : ByteArray).toList) = false := by kernel_rfl
      have x3 : (({ data := #[117] } : ByteArray).toList == ({ data := #[119] } : ByteArray).toList) = false := by kernel_rfl
      rcases fl with _ | ⟨z, r⟩
      · simp -implicitDefEqProofs only [go_sem, beq_self_eq_true, Nat.reduceEqDiff, Nat.reduceAdd, Nat.reduceLeDiff, reduceCtorEq, ↓reduceIte, d5, d6]
        refine onCallD_pure (by first | rfl | (simp -implicitDefEqProofs only [go_sem, Int.reduceToNat, Int.reduceLT, Int.reduceLE, List.all_cons, List.all_nil, isCell, Bool.and_self, Int.reduceBEq, Int.reduceBNe, beq_self_eq_true, bne_self_eq_false, decide_true, decide_false, Nat.reduceLT, Nat.reduceBEq, Int.reduceEq, Nat.reduceEqDiff, Nat.reduceAdd, Nat.reduceSub, Nat.reduceMul, Nat.reduceLeDiff, reduceCtorEq, ↓reduceIte, d1, d2, d3, d4, d5, d6, x1, x2, x3, List.map] <;> rfl)) F1 (.inr rfl) ?_
        simp -implicitDefEqProofs only [go_sem, Bool.and_self, Nat.reduceEqDiff, Nat.reduceAdd, Nat.reduceLeDiff, reduceCtorEq, ↓reduceIte, d6, List.map]
        refine onCallD_pure (by first | rfl | (simp -implicitDefEqProofs only [go_sem, Int.reduceToNat, Int.reduceLT, Int.reduceLE, List.all_cons, List.all_nil, isCell, Bool.and_self, Int.reduceBEq, Int.reduceBNe, beq_self_eq_true, bne_self_eq_false, decide_true, decide_false, Nat.reduceLT, Nat.reduceBEq, Int.reduceEq, Nat.reduceEqDiff, Nat.reduceAdd, Nat.reduceSub, Nat.reduceMul, Nat.reduceLeDiff, reduceCtorEq, ↓reduceIte, d1, d2, d3, d4, d5, d6, x1, x2, x3, List.map] <;> rfl)) F2 (.inr rfl) ?_
        simp -implicitDefEqProofs only [go_sem, Bool.and_self, beq_self_eq_true, Nat.reduceEqDiff, Nat.reduceAdd, Nat.reduceLeDiff, reduceCtorEq, ↓reduceIte, d5, d6, hm1]
        refine onCallD_pure (by first | rfl | (simp -implicitDefEqProofs only [go_sem, Int.reduceToNat, Int.reduceLT, Int.reduceLE, List.all_cons, List.all_nil, isCell, Bool.and_self, Int.reduceBEq, Int.reduceBNe, beq_self_eq_true, bne_self_eq_false, decide_true, decide_false, Nat.reduceLT, Nat.reduceBEq, Int.reduceEq, Nat.reduceEqDiff, Nat.reduceAdd, Nat.reduceSub, Nat.reduceMul, Nat.reduceLeDiff, reduceCtorEq, ↓reduceIte, d1, d2, d3, d4, d5, d6, x1, x2, x3, List.map] <;> rfl)) I1 (.inr rfl) ?_
        simp -implicitDefEqProofs only [go_sem, Bool.and_self, beq_self_eq_true, Nat.reduceEqDiff, Nat.reduceAdd, Nat.reduceLeDiff, reduceCtorEq, ↓reduceIte, d5, d6, e1]
        refine onCallD_pure (by first | rfl | (simp -implicitDefEqProofs only [go_sem, Int.reduceToNat, Int.reduceLT, Int.reduceLE, List.all_cons, List.all_nil, isCell, Bool.and_self, Int.reduceBEq, Int.reduceBNe, beq_self_eq_true, bne_self_eq_false, decide_true, decide_false, Nat.reduceLT, Nat.reduceBEq, Int.reduceEq, Nat.reduceEqDiff, Nat.reduceAdd, Nat.reduceSub, Nat.reduceMul, Nat.reduceLeDiff, reduceCtorEq, ↓reduceIte, d1, d2, d3, d4, d5, d6, x1, x2, x3, List.map] <;> rfl)) I2 (.inr rfl) ?_
        simp -implicitDefEqProofs only [go_sem, Bool.and_self, beq_self_eq_true, Nat.reduceEqDiff, Nat.reduceAdd, Nat.reduceLeDiff, reduceCtorEq, ↓reduceIte, d5, d6, x3, e2]
        refine onCallD_pure (by first | rfl | (simp -implicitDefEqProofs only [go_sem, Int.reduceToNat, Int.reduceLT, Int.reduceLE, List.all_cons, List.all_nil, isCell, Bool.and_self, Int.reduceBEq, Int.reduceBNe, beq_self_eq_true, bne_self_eq_false, decide_true, decide_false, Nat.reduceLT, Nat.reduceBEq, Int.reduceEq, Nat.reduceEqDiff, Nat.reduceAdd, Nat.reduceSub, Nat.reduceMul, Nat.reduceLeDiff, reduceCtorEq, ↓reduceIte, d1, d2, d3, d4, d5, d6, x1, x2, x3, List.map] <;> rfl)) I3 (.inr rfl) ?_
        simp -implicitDefEqProofs only [go_sem, Bool.and_self, Nat.reduceEqDiff, Nat.reduceAdd, ↓reduceIte, e3]
        refine onCallD_pure (by first | rfl | (simp -implicitDefEqProofs only [go_sem, Int.reduceToNat, Int.reduceLT, Int.reduceLE, List.all_cons, List.all_nil, isCell, Bool.and_self, Int.reduceBEq, Int.reduceBNe, beq_self_eq_true, bne_self_eq_false, decide_true, decide_false, Nat.reduceLT, Nat.reduceBEq, Int.reduceEq, Nat.reduceEqDiff, Nat.reduceAdd, Nat.reduceSub, Nat.reduceMul, Nat.reduceLeDiff, reduceCtorEq, ↓reduceIte, d1, d2, d3, d4, d5, d6, x1, x2, x3, List.map] <;> rfl)) awake24 (.inr rfl) ?_
        simp -implicitDefEqProofs only [go_sem, Bool.and_self, Nat.reduceEqDiff, Nat.reduceAdd, ↓reduceIte]
        refine Rd_endF (by kernel_rfl) ?_
        simp -implicitDefEqProofs only [go_sem]
        exact end_pure (by simp -implicitDefEqProofs only [go_sem, ↓reduceIte, Try.f3] <;> rfl) rfl rfl (fun _ => rfl)
      · simp -implicitDefEqProofs only [go_sem, beq_self_eq_true, Nat.reduceEqDiff, Nat.reduceAdd, Nat.reduceLeDiff, reduceCtorEq, ↓reduceIte, d5, d6]
        refine onCallD_pure (by first | rfl | (simp -implicitDefEqProofs only [go_sem, Int.reduceToNat, Int.reduceLT, Int.reduceLE, List.all_cons, List.all_nil, isCell, Bool.and_self, Int.reduceBEq, Int.reduceBNe, beq_self_eq_true, bne_self_eq_false, decide_true, decide_false, Nat.reduceLT, Nat.reduceBEq, Int.reduceEq, Nat.reduceEqDiff, Nat.reduceAdd, Nat.reduceSub, Nat.reduceMul, Nat.reduceLeDiff, reduceCtorEq, ↓reduceIte, d1, d2, d3, d4, d5, d6, x1, x2, x3, List.map] <;> rfl)) F1 (.inr rfl) ?_
        simp -implicitDefEqProofs only [go_sem, Bool.and_self, Nat.reduceEqDiff, Nat.reduceAdd, Nat.reduceLeDiff, reduceCtorEq, ↓reduceIte, d6, List.map]
        refine onCallD_pure (by first | rfl | (simp -implicitDefEqProofs only [go_sem, ↓reduceIte, d1] <;> rfl)) F2 (.inr rfl) ?_
        simp -implicitDefEqProofs only [go_sem, Bool.and_self, beq_self_eq_true, Nat.reduceEqDiff, Nat.reduceAdd, Nat.reduceLeDiff, reduceCtorEq, ↓reduceIte, d5, d6, hm1]
        refine onCallD_pure (by first | rfl | (simp -implicitDefEqProofs only [go_sem, Int.reduceToNat, Int.reduceLT, Int.reduceLE, List.all_cons, List.all_nil, isCell, Bool.and_self, Int.reduceBEq, Int.reduceBNe, beq_self_eq_true, bne_self_eq_false, decide_true, decide_false, Nat.reduceLT, Nat.reduceBEq, Int.reduceEq, Nat.reduceEqDiff, Nat.reduceAdd, Nat.reduceSub, Nat.reduceMul, Nat.reduceLeDiff, reduceCtorEq, ↓reduceIte, d1, d2, d3, d4, d5, d6, x1, x2, x3, List.map] <;> rfl)) I1 (.inr rfl) ?_
        simp -implicitDefEqProofs only [go_sem, Bool.and_self, beq_self_eq_true, Nat.reduceEqDiff, Nat.reduceAdd, Nat.reduceLeDiff, reduceCtorEq, ↓reduceIte, d5, d6, e1]
        refine onCallD_pure (by first | rfl | (simp -implicitDefEqProofs only [go_sem, Int.reduceToNat, Int.reduceLT, Int.reduceLE, List.all_cons, List.all_nil, isCell, Bool.and_self, Int.reduceBEq, Int.reduceBNe, beq_self_eq_true, bne_self_eq_false, decide_true, decide_false, Nat.reduceLT, Nat.reduceBEq, Int.reduceEq, Nat.reduceEqDiff, Nat.reduceAdd, Nat.reduceSub, Nat.reduceMul, Nat.reduceLeDiff, reduceCtorEq, ↓reduceIte, d1, d2, d3, d4, d5, d6, x1, x2, x3, List.map] <;> rfl)) I2 (.inr rfl) ?_
        simp -implicitDefEqProofs only [go_sem, Bool.and_self, beq_self_eq_true, Nat.reduceEqDiff, Nat.reduceAdd, Nat.reduceLeDiff, reduceCtorEq, ↓reduceIte, d5, d6, x3, e2]
        refine onCallD_pure (by first | rfl | (simp -implicitDefEqProofs only [go_sem, Int.reduceToNat, Int.reduceLT, Int.reduceLE, List.all_cons, List.all_nil, isCell, Bool.and_self, Int.reduceBEq, Int.reduceBNe, beq_self_eq_true, bne_self_eq_false, decide_true, decide_false, Nat.reduceLT, Nat.reduceBEq, Int.reduceEq, Nat.reduceEqDiff, Nat.reduceAdd, Nat.reduceSub, Nat.reduceMul, Nat.reduceLeDiff, reduceCtorEq, ↓reduceIte, d1, d2, d3, d4, d5, d6, x1, x2, x3, List.map] <;> rfl)) I3 (.inr rfl) ?_
        simp -implicitDefEqProofs only [go_sem, Bool.and_self, Nat.reduceEqDiff, Nat.reduceAdd, ↓reduceIte, e3]
        refine onCallD_pure (by first | rfl | (simp -implicitDefEqProofs only [go_sem, Int.reduceToNat, Int.reduceLT, Int.reduceLE, List.all_cons, List.all_nil, isCell, Bool.and_self, Int.reduceBEq, Int.reduceBNe, beq_self_eq_true, bne_self_eq_false, decide_true, decide_false, Nat.reduceLT, Nat.reduceBEq, Int.reduceEq, Nat.reduceEqDiff, Nat.reduceAdd, Nat.reduceSub, Nat.reduceMul, Nat.reduceLeDiff, reduceCtorEq, ↓reduceIte, d1, d2, d3, d4, d5, d6, x1, x2, x3, List.map] <;> rfl)) awake24 (.inr rfl) ?_
        simp -implicitDefEqProofs only [go_sem, Bool.and_self, Nat.reduceEqDiff, Nat.reduceAdd, ↓reduceIte]
        refine Rd_endF (by kernel_rfl) ?_
        simp -implicitDefEqProofs only [go_sem]
        exact end_pure (by simp -implicitDefEqProofs only [go_sem, ↓reduceIte, Try.f3] <;> rfl) rfl rfl (fun _ => rfl)
    · have e1 : inB p { data := #[118] } { data := #[103] } = true := by rw [inB, hs.grps]; kernel_rfl
      have e2 : inB p { data := #[118] } { data := #[104] } = false := by rw [inB, hs.grps]; kernel_rfl
      have e3 : inB p { data := #[118] } { data := #[107] } = false := by rw [inB, hs.grps]; kernel_rfl
      have x1 : (({ data := #[118] } : ByteArray).toList == ({ data := #[117] } : ByteArray).toList) = false := by kernel_rfl
      have x2 : (({ data := #[118] } : ByteArray).toList == ({ data := #[118] } : ByteArray).toList) = true := by kernel_rfl
      have x3 : (({ data := #[118] } : ByteArray).toList == ({ data := #[119] } : ByteArray).toList) = false := by kernel_rfl
      rcases fl with _ | ⟨z, r⟩
      · simp -implicitDefEqProofs only [go_sem, beq_self_eq_true, Nat.reduceEqDiff, Nat.reduceAdd, Nat.reduceLeDiff, reduceCtorEq, ↓reduceIte, d5, d6, x1]
        refine onCallD_pure (by first | rfl | (simp -implicitDefEqProofs only [go_sem, Int.reduceToNat, Int.reduceLT, Int.reduceLE, List.all_cons, List.all_nil, isCell, Bool.and_self, Int.reduceBEq, Int.reduceBNe, beq_self_eq_true, bne_self_eq_false, decide_true, decide_false, Nat.reduceLT, Nat.reduceBEq, Int.reduceEq, Nat.reduceEqDiff, Nat.reduceAdd, Nat.reduceSub, Nat.reduceMul, Nat.reduceLeDiff, reduceCtorEq, ↓reduceIte, d1, d2, d3, d4, d5, d6, x1, x2, x3, List.map] <;> rfl)) F1 (.inr rfl) ?_
        simp -implicitDefEqProofs only [go_sem, Bool.and_self, Nat.reduceEqDiff, Nat.reduceAdd, Nat.reduceLeDiff, reduceCtorEq, ↓reduceIte, d6, List.map]
        refine onCallD_pure (by first | rfl | (simp -implicitDefEqProofs only [go_sem, Int.reduceToNat, Int.reduceLT, Int.reduceLE, List.all_cons, List.all_nil, isCell, Bool.and_self, Int.reduceBEq, Int.reduceBNe, beq_self_eq_true, bne_self_eq_false, decide_true, decide_false, Nat.reduceLT, Nat.reduceBEq, Int.reduceEq, Nat.reduceEqDiff, Nat.reduceAdd, Nat.reduceSub, Nat.reduceMul, Nat.reduceLeDiff, reduceCtorEq, ↓reduceIte, d1, d2, d3, d4, d5, d6, x1, x2, x3, List.map] <;> rfl)) F2 (.inr rfl) ?_
        simp -implicitDefEqProofs only [go_sem, Bool.and_self, beq_self_eq_true, Nat.reduceEqDiff, Nat.reduceAdd, Nat.reduceLeDiff, reduceCtorEq, ↓reduceIte, d5, d6, hm1]
        refine onCallD_pure (by first | rfl | (simp -implicitDefEqProofs only [go_sem, Int.reduceToNat, Int.reduceLT, Int.reduceLE, List.all_cons, List.all_nil, isCell, Bool.and_self, Int.reduceBEq, Int.reduceBNe, beq_self_eq_true, bne_self_eq_false, decide_true, decide_false, Nat.reduceLT, Nat.reduceBEq, Int.reduceEq, Nat.reduceEqDiff, Nat.reduceAdd, Nat.reduceSub, Nat.reduceMul, Nat.reduceLeDiff, reduceCtorEq, ↓reduceIte, d1, d2, d3, d4, d5, d6, x1, x2, x3, List.map] <;> rfl)) I1 (.inr rfl) ?_
        simp -implicitDefEqProofs only [go_sem, Bool.and_self, beq_self_eq_true, Nat.reduceEqDiff, Nat.reduceAdd, Nat.reduceLeDiff, reduceCtorEq, ↓reduceIte, d5, d6, e1]
        refine onCallD_pure (by first | rfl | (simp -implicitDefEqProofs only [go_sem, Int.reduceToNat, Int.reduceLT, Int.reduceLE, List.all_cons, List.all_nil, isCell, Bool.and_self, Int.reduceBEq, Int.reduceBNe, beq_self_eq_true, bne_self_eq_false, decide_true, decide_false, Nat.reduceLT, Nat.reduceBEq, Int.reduceEq, Nat.reduceEqDiff, Nat.reduceAdd, Nat.reduceSub, Nat.reduceMul, Nat.reduceLeDiff, reduceCtorEq, ↓reduceIte, d1, d2, d3, d4, d5, d6, x1, x2, x3, List.map] <;> rfl)) I2 (.inr rfl) ?_
        simp -implicitDefEqProofs only [go_sem, Bool.and_self, beq_self_eq_true, Nat.reduceEqDiff, Nat.reduceAdd, Nat.reduceLeDiff, reduceCtorEq, ↓reduceIte, d5, d6, x3, e2]
        refine onCallD_pure (by first | rfl | (simp -implicitDefEqProofs only [go_sem, Int.reduceToNat, Int.reduceLT, Int.reduceLE, List.all_cons, List.all_nil, isCell, Bool.and_self, Int.reduceBEq, Int.reduceBNe, beq_self_eq_true, bne_self_eq_false, decide_true, decide_false, Nat.reduceLT, Nat.reduceBEq, Int.reduceEq, Nat.reduceEqDiff, Nat.reduceAdd, Nat.reduceSub, Nat.reduceMul, Nat.reduceLeDiff, reduceCtorEq, ↓reduceIte, d1, d2, d3, d4, d5, d6, x1, x2, x3, List.map] <;> rfl)) I3 (.inr rfl) ?_
        simp -implicitDefEqProofs only [go_sem, Bool.and_self, Nat.reduceEqDiff, Nat.reduceAdd, ↓reduceIte, e3]
        refine onCallD_pure (by first | rfl | (simp -implicitDefEqProofs only [go_sem, Int.reduceToNat, Int.reduceLT, Int.reduceLE, List.all_cons, List.all_nil, isCell, Bool.and_self, Int.reduceBEq, Int.reduceBNe, beq_self_eq_true, bne_self_eq_false, decide_true, decide_false, Nat.reduceLT, Nat.reduceBEq, Int.reduceEq, Nat.reduceEqDiff, Nat.reduceAdd, Nat.reduceSub, Nat.reduceMul, Nat.reduceLeDiff, reduceCtorEq, ↓reduceIte, d1, d2, d3, d4, d5, d6, x1, x2, x3, List.map] <;> rfl)) awake24 (.inr rfl) ?_
        simp -implicitDefEqProofs only [go_sem, Bool.and_self, Nat.reduceEqDiff, Nat.reduceAdd, ↓reduceIte]
        refine Rd_endF (by kernel_rfl) ?_
        simp -implicitDefEqProofs only [go_sem]
        exact end_pure (by simp -implicitDefEqProofs only [go_sem, ↓reduceIte, Try.f3] <;> rfl) rfl rfl (fun _ => rfl)
      · simp -implicitDefEqProofs only [go_sem, beq_self_eq_true, Nat.reduceEqDiff, Nat.reduceAdd, Nat.reduceLeDiff, reduceCtorEq, ↓reduceIte, d5, d6, x1]
        refine onCallD_pure (by first | rfl | (simp -implicitDefEqProofs only [go_sem, Int.reduceToNat, Int.reduceLT, Int.reduceLE, List.all_cons, List.all_nil, isCell, Bool.and_self, Int.reduceBEq, Int.reduceBNe, beq_self_eq_true, bne_self_eq_false, decide_true, decide_false, Nat.reduceLT, Nat.reduceBEq, Int.reduceEq, Nat.reduceEqDiff, Nat.reduceAdd, Nat.reduceSub, Nat.reduceMul, Nat.reduceLeDiff, reduceCtorEq, ↓reduceIte, d1, d2, d3, d4, d5, d6, x1, x2, x3, List.map] <;> rfl)) F1 (.inr rfl) ?_
        simp -implicitDefEqProofs only [go_sem, Bool.and_self, Nat.reduceEqDiff, Nat.reduceAdd, Nat.reduceLeDiff, reduceCtorEq, ↓reduceIte, d6, List.map]
        refine onCallD_pure (by first | rfl | (simp -implicitDefEqProofs only [go_sem, ↓reduceIte, d1] <;> rfl)) F2 (.inr rfl) ?_
        simp -implicitDefEqProofs only [go_sem, Bool.and_self, beq_self_eq_true, Nat.reduceEqDiff, Nat.reduceAdd, Nat.reduceLeDiff, reduceCtorEq, ↓reduceIte, d5, d6, hm1]
        refine onCallD_pure (by first | rfl | (simp -implicitDefEqProofs only [go_sem, Int.reduceToNat, Int.reduceLT, Int.reduceLE, List.all_cons, List.all_nil, isCell, Bool.and_self, Int.reduceBEq, Int.reduceBNe, beq_self_eq_true, bne_self_eq_false, decide_true, decide_false, Nat.reduceLT, Nat.reduceBEq, Int.reduceEq, Nat.reduceEqDiff, Nat.reduceAdd, Nat.reduceSub, Nat.reduceMul, Nat.reduceLeDiff, reduceCtorEq, ↓reduceIte, d1, d2, d3, d4, d5, d6, x1, x2, x3, List.map] <;> rfl)) I1 (.inr rfl) ?_
        simp -implicitDefEqProofs only [go_sem, Bool.and_self, beq_self_eq_true, Nat.reduceEqDiff, Nat.reduceAdd, Nat.reduceLeDiff, reduceCtorEq, ↓reduceIte, d5, d6, e1]
        refine onCallD_pure (by first | rfl | (simp -implicitDefEqProofs only [go_sem, Int.reduceToNat, Int.reduceLT, Int.reduceLE, List.all_cons, List.all_nil, isCell, Bool.and_self, Int.reduceBEq, Int.reduceBNe, beq_self_eq_true, bne_self_eq_false, decide_true, decide_false, Nat.reduceLT, Nat.reduceBEq, Int.reduceEq, Nat.reduceEqDiff, Nat.reduceAdd, Nat.reduceSub, Nat.reduceMul, Nat.reduceLeDiff, reduceCtorEq, ↓reduceIte, d1, d2, d3, d4, d5, d6, x1, x2, x3, List.map] <;> rfl)) I2 (.inr rfl) ?_
        simp -implicitDefEqProofs only [go_sem, Bool.and_self, beq_self_eq_true, Nat.reduceEqDiff, Nat.reduceAdd, Nat.reduceLeDiff, reduceCtorEq, ↓reduceIte, d5, d6, x3, e2]
        refine onCallD_pure (by first | rfl | (simp -implicitDefEqProofs only [go_sem, Int.reduceToNat, Int.reduceLT, Int.reduceLE, List.all_cons, List.all_nil, isCell, Bool.and_self, Int.reduceBEq, Int.reduceBNe, beq_self_eq_true, bne_self_eq_false, decide_true, decide_false, Nat.reduceLT, Nat.reduceBEq, Int.reduceEq, Nat.reduceEqDiff, Nat.reduceAdd, Nat.reduceSub, Nat.reduceMul, Nat.reduceLeDiff, reduceCtorEq, ↓reduceIte, d1, d2, d3, d4, d5, d6, x1, x2, x3, List.map] <;> rfl)) I3 (.inr rfl) ?_
        simp -implicitDefEqProofs only [go_sem, Bool.and_self, Nat.reduceEqDiff, Nat.reduceAdd, ↓reduceIte, e3]
        refine onCallD_pure (by first | rfl | (simp -implicitDefEqProofs only [go_sem, Int.reduceToNat, Int.reduceLT, Int.reduceLE, List.all_cons, List.all_nil, isCell, Bool.and_self, Int.reduceBEq, Int.reduceBNe, beq_self_eq_true, bne_self_eq_false, decide_true, decide_false, Nat.reduceLT, Nat.reduceBEq, Int.reduceEq, Nat.reduceEqDiff, Nat.reduceAdd, Nat.reduceSub, Nat.reduceMul, Nat.reduceLeDiff, reduceCtorEq, ↓reduceIte, d1, d2, d3, d4, d5, d6, x1, x2, x3, List.map] <;> rfl)) awake24 (.inr rfl) ?_
        simp -implicitDefEqProofs only [go_sem, Bool.and_self, Nat.reduceEqDiff, Nat.reduceAdd, ↓reduceIte]
        refine Rd_endF (by kernel_rfl) ?_
        simp -implicitDefEqProofs only [go_sem]
        exact end_pure (by simp -implicitDefEqProofs only [go_sem, ↓reduceIte, Try.f3] <;> rfl) rfl rfl (fun _ => rfl)
    · have e1 : inB p { data := #[119] } { data := #[103] } = false := by rw [inB, hs.grps]; kernel_rfl
      have e2 : inB p { data := #[119] } { data := #[104] } = true := by rw [inB, hs.grps]; kernel_rfl
      have e3 : inB p { data := #[119] } { data := #[107] } = false := by rw [inB, hs.grps]; kernel_rfl
      have x1 : (({ data := #[119] } : ByteArray).toList == ({ data := #[117] } : ByteArray).toList) = false := by kernel_rfl
      have x2 : (({ data := #[119] } : ByteArray).toList == ({ data := #[118] } : ByteArray).toList) = false := by kernel_rfl
      have x3 : (({ data := #[119] } : ByteArray).toList == ({ data := #[119] } : ByteArray).toList) = true := by kernel_rfl
      rcases fl with _ | ⟨z, r⟩
      · simp -implicitDefEqProofs only [go_sem, Nat.reduceEqDiff, Nat.reduceAdd, Nat.reduceLeDiff, reduceCtorEq, ↓reduceIte, d5, d6, x1, x2]
        refine onCallD_pure (by first | rfl | (simp -implicitDefEqProofs only [go_sem, Int.reduceToNat, Int.reduceLT, Int.reduceLE, List.all_cons, List.all_nil, isCell, Bool.and_self, Int.reduceBEq, Int.reduceBNe, beq_self_eq_true, bne_self_eq_false, decide_true, decide_false, Nat.reduceLT, Nat.reduceBEq, Int.reduceEq, Nat.reduceEqDiff, Nat.reduceAdd, Nat.reduceSub, Nat.reduceMul, Nat.reduceLeDiff, reduceCtorEq, ↓reduceIte, d1, d2, d3, d4, d5, d6, x1, x2, x3, List.map] <;> rfl)) F1 (.inr rfl) ?_
        simp -implicitDefEqProofs only [go_sem, Bool.and_self, Nat.reduceEqDiff, Nat.reduceAdd, Nat.reduceLeDiff, reduceCtorEq, ↓reduceIte, d6, List.map]
        refine onCallD_pure (by first | rfl | (simp -implicitDefEqProofs only [go_sem, Int.reduceToNat, Int.reduceLT, Int.reduceLE, List.all_cons, List.all_nil, isCell, Bool.and_self, Int.reduceBEq, Int.reduceBNe, beq_self_eq_true, bne_self_eq_false, decide_true, decide_false, Nat.reduceLT, Nat.reduceBEq, Int.reduceEq, Nat.reduceEqDiff, Nat.reduceAdd, Nat.reduceSub, Nat.reduceMul, Nat.reduceLeDiff, reduceCtorEq, ↓reduceIte, d1, d2, d3, d4, d5, d6, x1, x2, x3, List.map] <;> rfl)) F2 (.inr rfl) ?_
        simp -implicitDefEqProofs only [go_sem, Bool.and_self, beq_self_eq_true, Nat.reduceEqDiff, Nat.reduceAdd, Nat.reduceLeDiff, reduceCtorEq, ↓reduceIte, d5, d6, hm1]
        refine onCallD_pure (by first | rfl | (simp -implicitDefEqProofs only [go_sem, Int.reduceToNat, Int.reduceLT, Int.reduceLE, List.all_cons, List.all_nil, isCell, Bool.and_self, Int.reduceBEq, Int.reduceBNe, beq_self_eq_true, bne_self_eq_false, decide_true, decide_false, Nat.reduceLT, Nat.reduceBEq, Int.reduceEq, Nat.reduceEqDiff, Nat.reduceAdd, Nat.reduceSub, Nat.reduceMul, Nat.reduceLeDiff, reduceCtorEq, ↓reduceIte, d1, d2, d3, d4, d5, d6, x1, x2, x3, List.map] <;> rfl)) I1 (.inr rfl) ?_
        simp -implicitDefEqProofs only [go_sem, Bool.and_self, beq_self_eq_true, Nat.reduceEqDiff, Nat.reduceAdd, Nat.reduceLeDiff, reduceCtorEq, ↓reduceIte, d5, d6, e1]
        refine onCallD_pure (by first | rfl | (simp -implicitDefEqProofs only [go_sem, Int.reduceToNat, Int.reduceLT, Int.reduceLE, List.all_cons, List.all_nil, isCell, Bool.and_self, Int.reduceBEq, Int.reduceBNe, beq_self_eq_true, bne_self_eq_false, decide_true, decide_false, Nat.reduceLT, Nat.reduceBEq, Int.reduceEq, Nat.reduceEqDiff, Nat.reduceAdd, Nat.reduceSub, Nat.reduceMul, Nat.reduceLeDiff, reduceCtorEq, ↓reduceIte, d1, d2, d3, d4, d5, d6, x1, x2, x3, List.map] <;> rfl)) I2 (.inr rfl) ?_
        simp -implicitDefEqProofs only [go_sem, Bool.and_self, beq_self_eq_true, Nat.reduceEqDiff, Nat.reduceAdd, Nat.reduceLeDiff, reduceCtorEq, ↓reduceIte, d5, d6, e2]
        refine onCallD_pure (by first | rfl | (simp -implicitDefEqProofs only [go_sem, Int.reduceToNat, Int.reduceLT, Int.reduceLE, List.all_cons, List.all_nil, isCell, Bool.and_self, Int.reduceBEq, Int.reduceBNe, beq_self_eq_true, bne_self_eq_false, decide_true, decide_false, Nat.reduceLT, Nat.reduceBEq, Int.reduceEq, Nat.reduceEqDiff, Nat.reduceAdd, Nat.reduceSub, Nat.reduceMul, Nat.reduceLeDiff, reduceCtorEq, ↓reduceIte, d1, d2, d3, d4, d5, d6, x1, x2, x3, List.map] <;> rfl)) I3 (.inr rfl) ?_
        simp -implicitDefEqProofs only [go_sem, Bool.and_self, Nat.reduceEqDiff, Nat.reduceAdd, ↓reduceIte, e3]
        refine onCallD_pure (by first | rfl | (simp -implicitDefEqProofs only [go_sem, Int.reduceToNat, Int.reduceLT, Int.reduceLE, List.all_cons, List.all_nil, isCell, Bool.and_self, Int.reduceBEq, Int.reduceBNe, beq_self_eq_true, bne_self_eq_false, decide_true, decide_false, Nat.reduceLT, Nat.reduceBEq, Int.reduceEq, Nat.reduceEqDiff, Nat.reduceAdd, Nat.reduceSub, Nat.reduceMul, Nat.reduceLeDiff, reduceCtorEq, ↓reduceIte, d1, d2, d3, d4, d5, d6, x1, x2, x3, List.map] <;> rfl)) awake24 (.inr rfl) ?_
        simp -implicitDefEqProofs only [go_sem, Bool.and_self, Nat.reduceEqDiff, Nat.reduceAdd, ↓reduceIte]
        refine Rd_endF (by kernel_rfl) ?_
        simp -implicitDefEqProofs only [go_sem]
        exact end_pure (by simp -implicitDefEqProofs only [go_sem, ↓reduceIte, Try.f3] <;> rfl) rfl rfl (fun _ => rfl)
      · simp -implicitDefEqProofs only [go_sem, Nat.reduceEqDiff, Nat.reduceAdd, Nat.reduceLeDiff, reduceCtorEq, ↓reduceIte, d5, d6, x1, x2]
        refine onCallD_pure (by first | rfl | (simp -implicitDefEqProofs only [go_sem, Int.reduceToNat, Int.reduceLT, Int.reduceLE, List.all_cons, List.all_nil, isCell, Bool.and_self, Int.reduceBEq, Int.reduceBNe, beq_self_eq_true, bne_self_eq_false, decide_true, decide_false, Nat.reduceLT, Nat.reduceBEq, Int.reduceEq, Nat.reduceEqDiff, Nat.reduceAdd, Nat.reduceSub, Nat.reduceMul, Nat.reduceLeDiff, reduceCtorEq, ↓reduceIte, d1, d2, d3, d4, d5, d6, x1, x2, x3, List.map] <;> rfl)) F1 (.inr rfl) ?_
        simp -implicitDefEqProofs only [go_sem, Bool.and_self, Nat.reduceEqDiff, Nat.reduceAdd, Nat.reduceLeDiff, reduceCtorEq, ↓reduceIte, d6, List.map]
        refine onCallD_pure (by first | rfl | (simp -implicitDefEqProofs only [go_sem, ↓reduceIte, d1] <;> rfl)) F2 (.inr rfl) ?_
        simp -implicitDefEqProofs only [go_sem, Bool.and_self, beq_self_eq_true, Nat.reduceEqDiff, Nat.reduceAdd, Nat.reduceLeDiff, reduceCtorEq, ↓reduceIte, d5, d6, hm1]
        refine onCallD_pure (by first | rfl | (simp -implicitDefEqProofs only [go_sem, Int.reduceToNat, Int.reduceLT, Int.reduceLE, List.all_cons, List.all_nil, isCell, Bool.and_self, Int.reduceBEq, Int.reduceBNe, beq_self_eq_true, bne_self_eq_false, decide_true, decide_false, Nat.reduceLT, Nat.reduceBEq, Int.reduceEq, Nat.reduceEqDiff, Nat.reduceAdd, Nat.reduceSub, Nat.reduceMul, Nat.reduceLeDiff, reduceCtorEq, ↓reduceIte, d1, d2, d3, d4, d5, d6, x1, x2, x3, List.map] <;> rfl)) I1 (.inr rfl) ?_
        simp -implicitDefEqProofs only [go_sem, Bool.and_self, beq_self_eq_true, Nat.reduceEqDiff, Nat.reduceAdd, Nat.reduceLeDiff, reduceCtorEq, ↓reduceIte, d5, d6, e1]
        refine onCallD_pure (by first | rfl | (simp -implicitDefEqProofs only [go_sem, Int.reduceToNat, Int.reduceLT, Int.reduceLE, List.all_cons, List.all_nil, isCell, Bool.and_self, Int.reduceBEq, Int.reduceBNe, beq_self_eq_true, bne_self_eq_false, decide_true, decide_false, Nat.reduceLT, Nat.reduceBEq, Int.reduceEq, Nat.reduceEqDiff, Nat.reduceAdd, Nat.reduceSub, Nat.reduceMul, Nat.reduceLeDiff, reduceCtorEq, ↓reduceIte, d1, d2, d3, d4, d5, d6, x1, x2, x3, List.map] <;> rfl)) I2 (.inr rfl) ?_
        simp -implicitDefEqProofs only [go_sem, Bool.and_self, beq_self_eq_true, Nat.reduceEqDiff, Nat.reduceAdd, Nat.reduceLeDiff, reduceCtorEq, ↓reduceIte, d5, d6, e2]
        refine onCallD_pure (by first | rfl | (simp -implicitDefEqProofs only [go_sem, Int.reduceToNat, Int.reduceLT, Int.reduceLE, List.all_cons, List.all_nil, isCell, Bool.and_self, Int.reduceBEq, Int.reduceBNe, beq_self_eq_true, bne_self_eq_false, decide_true, decide_false, Nat.reduceLT, Nat.reduceBEq, Int.reduceEq, Nat.reduceEqDiff, Nat.reduceAdd, Nat.reduceSub, Nat.reduceMul, Nat.reduceLeDiff, reduceCtorEq, ↓reduceIte, d1, d2, d3, d4, d5, d6, x1, x2, x3, List.map] <;> rfl)) I3 (.inr rfl) ?_
        simp -implicitDefEqProofs only [go_sem, Bool.and_self, Nat.reduceEqDiff, Nat.reduceAdd, ↓reduceIte, e3]
        refine onCallD_pure (by first | rfl | (simp -implicitDefEqProofs only [go_sem, Int.reduceToNat, Int.reduceLT, Int.reduceLE, List.all_cons, List.all_nil, isCell, Bool.and_self, Int.reduceBEq, Int.reduceBNe, beq_self_eq_true, bne_self_eq_false, decide_true, decide_false, Nat.reduceLT, Nat.reduceBEq, Int.reduceEq, Nat.reduceEqDiff, Nat.reduceAdd, Nat.reduceSub, Nat.reduceMul, Nat.reduceLeDiff, reduceCtorEq, ↓reduceIte, d1, d2, d3, d4, d5, d6, x1, x2, x3, List.map] <;> rfl)) awake24 (.inr rfl) ?_
        simp -implicitDefEqProofs only [go_sem, Bool.and_self, Nat.reduceEqDiff, Nat.reduceAdd, ↓reduceIte]
        refine Rd_endF (by kernel_rfl) ?_
        simp -implicitDefEqProofs only [go_sem]
        exact end_pure (by simp -implicitDefEqProofs only [go_sem, ↓reduceIte, Try.f3] <;> rfl) rfl rfl (fun _ => rfl)
    · have e1 : inB p { data := #[120] } { data := #[103] } = false := by rw [inB, hs.grps]; kernel_rfl
      have e2 : inB p { data := #[120] } { data := #[104] } = false := by rw [inB, hs.grps]; kernel_rfl
      have e3 : inB p { data := #[120] } { data := #[107] } = false := by rw [inB, hs.grps]; kernel_rfl
      have x1 : (({ data := #[120] } : ByteArray).toList == ({ data := #[117] } : ByteArray).toList) = false := by kernel_rfl
      have x2 : (({ data := #[120] } : ByteArray).toList == ({ data := #[118] } : ByteArray).toList) = false := by kernel_rfl
      have x3 : (({ data := #[120] } : ByteArray).toList == ({ data := #[119] } : ByteArray).toList) = false := by kernel_rfl
      rcases fl with _ | ⟨z, r⟩
      · simp -implicitDefEqProofs only [go_sem, Nat.reduceEqDiff, Nat.reduceAdd, Nat.reduceLeDiff, reduceCtorEq, ↓reduceIte, d5, d6, x1, x2]
        refine onCallD_pure (by first | rfl | (simp -implicitDefEqProofs only [go_sem, Int.reduceToNat, Int.reduceLT, Int.reduceLE, List.all_cons, List.all_nil, isCell, Bool.and_self, Int.reduceBEq, Int.reduceBNe, beq_self_eq_true, bne_self_eq_false, decide_true, decide_false, Nat.reduceLT, Nat.reduceBEq, Int.reduceEq, Nat.reduceEqDiff, Nat.reduceAdd, Nat.reduceSub, Nat.reduceMul, Nat.reduceLeDiff, reduceCtorEq, ↓reduceIte, d1, d2, d3, d4, d5, d6, x1, x2, x3, List.map] <;> rfl)) F1 (.inr rfl) ?_
        simp -implicitDefEqProofs only [go_sem, Bool.and_self, Nat.reduceEqDiff, Nat.reduceAdd, Nat.reduceLeDiff, reduceCtorEq, ↓reduceIte, d6, List.map]
        refine onCallD_pure (by first | rfl | (simp -implicitDefEqProofs only [go_sem, Int.reduceToNat, Int.reduceLT, Int.reduceLE, List.all_cons, List.all_nil, isCell, Bool.and_self, Int.reduceBEq, Int.reduceBNe, beq_self_eq_true, bne_self_eq_false, decide_true, decide_false, Nat.reduceLT, Nat.reduceBEq, Int.reduceEq, Nat.reduceEqDiff, Nat.reduceAdd, Nat.reduceSub, Nat.reduceMul, Nat.reduceLeDiff, reduceCtorEq, ↓reduceIte, d1, d2, d3, d4, d5, d6, x1, x2, x3, List.map] <;> rfl)) F2 (.inr rfl) ?_
        simp -implicitDefEqProofs only [go_sem, Bool.and_self, beq_self_eq_true, Nat.reduceEqDiff, Nat.reduceAdd, Nat.reduceLeDiff, reduceCtorEq, ↓reduceIte, d5, d6, hm1]
        refine onCallD_pure (by first | rfl | (simp -implicitDefEqProofs only [go_sem, Int.reduceToNat, Int.reduceLT, Int.reduceLE, List.all_cons, List.all_nil, isCell, Bool.and_self, Int.reduceBEq, Int.reduceBNe, beq_self_eq_true, bne_self_eq_false, decide_true, decide_false, Nat.reduceLT, Nat.reduceBEq, Int.reduceEq, Nat.reduceEqDiff, Nat.reduceAdd, Nat.reduceSub, Nat.reduceMul, Nat.reduceLeDiff, reduceCtorEq, ↓reduceIte, d1, d2, d3, d4, d5, d6, x1, x2, x3, List.map] <;> rfl)) I1 (.inr rfl) ?_
        simp -implicitDefEqProofs only [go_sem, Bool.and_self, beq_self_eq_true, Nat.reduceEqDiff, Nat.reduceAdd, Nat.reduceLeDiff, reduceCtorEq, ↓reduceIte, d5, d6, e1]
        refine onCallD_pure (by first | rfl | (simp -implicitDefEqProofs only [go_sem, Int.reduceToNat, Int.reduceLT, Int.reduceLE, List.all_cons, List.all_nil, isCell, Bool.and_self, Int.reduceBEq, Int.reduceBNe, beq_self_eq_true, bne_self_eq_false, decide_true, decide_false, Nat.reduceLT, Nat.reduceBEq, Int.reduceEq, Nat.reduceEqDiff, Nat.reduceAdd, Nat.reduceSub, Nat.reduceMul, Nat.reduceLeDiff, reduceCtorEq, ↓reduceIte, d1, d2, d3, d4, d5, d6, x1, x2, x3, List.map] <;> rfl)) I2 (.inr rfl) ?_
        simp -implicitDefEqProofs only [go_sem, Bool.and_self, beq_self_eq_true, Nat.reduceEqDiff, Nat.reduceAdd, Nat.reduceLeDiff, reduceCtorEq, ↓reduceIte, d5, d6, x3, e2]
        refine onCallD_pure (by first | rfl | (simp -implicitDefEqProofs only [go_sem, Int.reduceToNat, Int.reduceLT, Int.reduceLE, List.all_cons, List.all_nil, isCell, Bool.and_self, Int.reduceBEq, Int.reduceBNe, beq_self_eq_true, bne_self_eq_false, decide_true, decide_false, Nat.reduceLT, Nat.reduceBEq, Int.reduceEq, Nat.reduceEqDiff, Nat.reduceAdd, Nat.reduceSub, Nat.reduceMul, Nat.reduceLeDiff, reduceCtorEq, ↓reduceIte, d1, d2, d3, d4, d5, d6, x1, x2, x3, List.map] <;> rfl)) I3 (.inr rfl) ?_
        simp -implicitDefEqProofs only [go_sem, Bool.and_self, Nat.reduceEqDiff, Nat.reduceAdd, ↓reduceIte, e3]
        refine onCallD_pure (by first | rfl | (simp -implicitDefEqProofs only [go_sem, Int.reduceToNat, Int.reduceLT, Int.reduceLE, List.all_cons, List.all_nil, isCell, Bool.and_self, Int.reduceBEq, Int.reduceBNe, beq_self_eq_true, bne_self_eq_false, decide_true, decide_false, Nat.reduceLT, Nat.reduceBEq, Int.reduceEq, Nat.reduceEqDiff, Nat.reduceAdd, Nat.reduceSub, Nat.reduceMul, Nat.reduceLeDiff, reduceCtorEq, ↓reduceIte, d1, d2, d3, d4, d5, d6, x1, x2, x3, List.map] <;> rfl)) awake24 (.inr rfl) ?_
        simp -implicitDefEqProofs only [go_sem, Bool.and_self, Nat.reduceEqDiff, Nat.reduceAdd, ↓reduceIte]
        refine Rd_endF (by kernel_rfl) ?_
        simp -implicitDefEqProofs only [go_sem]
        exact end_pure (by simp -implicitDefEqProofs only [go_sem, ↓reduceIte, Try.f3] <;> rfl) rfl rfl (fun _ => rfl)
      · simp -implicitDefEqProofs only [go_sem, Nat.reduceEqDiff, Nat.reduceAdd, Nat.reduceLeDiff, reduceCtorEq, ↓reduceIte, d5, d6, x1, x2]
        refine onCallD_pure (by first | rfl | (simp -implicitDefEqProofs only [go_sem, Int.reduceToNat, Int.reduceLT, Int.reduceLE, List.all_cons, List.all_nil, isCell, Bool.and_self, Int.reduceBEq, Int.reduceBNe, beq_self_eq_true, bne_self_eq_false, decide_true, decide_false, Nat.reduceLT, Nat.reduceBEq, Int.reduceEq, Nat.reduceEqDiff, Nat.reduceAdd, Nat.reduceSub, Nat.reduceMul, Nat.reduceLeDiff, reduceCtorEq, ↓reduceIte, d1, d2, d3, d4, d5, d6, x1, x2, x3, List.map] <;> rfl)) F1 (.inr rfl) ?_
        simp -implicitDefEqProofs only [go_sem, Bool.and_self, Nat.reduceEqDiff, Nat.reduceAdd, Nat.reduceLeDiff, reduceCtorEq, ↓reduceIte, d6, List.map]
        refine onCallD_pure (by first | rfl | (simp -implicitDefEqProofs only [go_sem, ↓reduceIte, d1] <;> rfl)) F2 (.inr rfl) ?_
        simp -implicitDefEqProofs only [go_sem, Bool.and_self, beq_self_eq_true, Nat.reduceEqDiff, Nat.reduceAdd, Nat.reduceLeDiff, reduceCtorEq, ↓reduceIte, d5, d6, hm1]
        refine onCallD_pure (by first | rfl | (simp -implicitDefEqProofs only [go_sem, Int.reduceToNat, Int.reduceLT, Int.reduceLE, List.all_cons, List.all_nil, isCell, Bool.and_self, Int.reduceBEq, Int.reduceBNe, beq_self_eq_true, bne_self_eq_false, decide_true, decide_false, Nat.reduceLT, Nat.reduceBEq, Int.reduceEq, Nat.reduceEqDiff, Nat.reduceAdd, Nat.reduceSub, Nat.reduceMul, Nat.reduceLeDiff, reduceCtorEq, ↓reduceIte, d1, d2, d3, d4, d5, d6, x1, x2, x3, List.map] <;> rfl)) I1 (.inr rfl) ?_
        simp -implicitDefEqProofs only [go_sem, Bool.and_self, beq_self_eq_true, Nat.reduceEqDiff, Nat.reduceAdd, Nat.reduceLeDiff, reduceCtorEq, ↓reduceIte, d5, d6, e1]
        refine onCallD_pure (by first | rfl | (simp -implicitDefEqProofs only [go_sem, Int.reduceToNat, Int.reduceLT, Int.reduceLE, List.all_cons, List.all_nil, isCell, Bool.and_self, Int.reduceBEq, Int.reduceBNe, beq_self_eq_true, bne_self_eq_false, decide_true, decide_false, Nat.reduceLT, Nat.reduceBEq, Int.reduceEq, Nat.reduceEqDiff, Nat.reduceAdd, Nat.reduceSub, Nat.reduceMul, Nat.reduceLeDiff, reduceCtorEq, ↓reduceIte, d1, d2, d3, d4, d5, d6, x1, x2, x3, List.map] <;> rfl)) I2 (.inr rfl) ?_
        simp -implicitDefEqProofs only [go_sem, Bool.and_self, beq_self_eq_true, Nat.reduceEqDiff, Nat.reduceAdd, Nat.reduceLeDiff, reduceCtorEq, ↓reduceIte, d5, d6, x3, e2]
        refine onCallD_pure (by first | rfl | (simp -implicitDefEqProofs only [go_sem, Int.reduceToNat, Int.reduceLT, Int.reduceLE, List.all_cons, List.all_nil, isCell, Bool.and_self, Int.reduceBEq, Int.reduceBNe, beq_self_eq_true, bne_self_eq_false, decide_true, decide_false, Nat.reduceLT, Nat.reduceBEq, Int.reduceEq, Nat.reduceEqDiff, Nat.reduceAdd, Nat.reduceSub, Nat.reduceMul, Nat.reduceLeDiff, reduceCtorEq, ↓reduceIte, d1, d2, d3, d4, d5, d6, x1, x2, x3, List.map] <;> rfl)) I3 (.inr rfl) ?_
        simp -implicitDefEqProofs only [go_sem, Bool.and_self, Nat.reduceEqDiff, Nat.reduceAdd, ↓reduceIte, e3]
        refine onCallD_pure (by first | rfl | (simp -implicitDefEqProofs only [go_sem, Int.reduceToNat, Int.reduceLT, Int.reduceLE, List.all_cons, List.all_nil, isCell, Bool.and_self, Int.reduceBEq, Int.reduceBNe, beq_self_eq_true, bne_self_eq_false, decide_true, decide_false, Nat.reduceLT, Nat.reduceBEq, Int.reduceEq, Nat.reduceEqDiff, Nat.reduceAdd, Nat.reduceSub, Nat.reduceMul, Nat.reduceLeDiff, reduceCtorEq, ↓reduceIte, d1, d2, d3, d4, d5, d6, x1, x2, x3, List.map] <;> rfl)) awake24 (.inr rfl) ?_
        simp -implicitDefEqProofs only [go_sem, Bool.and_self, Nat.reduceEqDiff, Nat.reduceAdd, ↓reduceIte]
        refine Rd_endF (by kernel_rfl) ?_
        simp -implicitDefEqProofs only [go_sem]
        exact end_pure (by simp -implicitDefEqProofs only [go_sem, ↓reduceIte, Try.f3] <;> rfl) rfl rfl (fun _ => rfl)
end Go.Proofs.Ytkkhgdmmbhpckaa.Ab

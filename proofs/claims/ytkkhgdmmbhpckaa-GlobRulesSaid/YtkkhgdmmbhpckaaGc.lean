/-
  Who may what, by statements: bears, bounded, May.
-/
import Derived.Test.YtkkhgdmmbhpckaaGb
namespace Go.Proofs.Ytkkhgdmmbhpckaa.Ab
open Go.RowKit

theorem bears_prd (p : Pol) (u : ByteArray) (hF : FitPol p) (ip iu : Nat) (hp0 : Hp) (h1 : hp0 ip = some (.bx ((polD p).map (lift true)))) (h2 : hp0 iu = some (.bx [.v (.string u)])) :
    PrdOK Try.prog 69 [.pt ip 0, .pt iu 0] (fun x => .v (.string x)) (fun _ => True) (fun g => inB p u g) [ip, iu] hp0 := by
  intro g _ nx
  refine ⟨nx + 1 + 5, by omega, fun hp1 hh => ?_⟩
  have e1 := (hh ip (by simp)).trans h1
  have e2 := (hh iu (by simp)).trans h2
  simp only [polD, List.map_cons, List.map_nil, lift_sl] at e1
  refine inl_run (tab := tab) tab_ok fol Try.func69 rfl (by kernel_rfl) (by kernel_rfl) (by simp [Try.f69]) ?_
  simp -implicitDefEqProofs only [go_sem, Nat.reduceEqDiff, Nat.reduceAdd, Nat.reduceLeDiff, reduceCtorEq, ↓reduceIte, e1, e2]
  refine onCall_pure (by simp -implicitDefEqProofs only [go_sem] <;> rfl) (in_ok p u g hF) (.inr rfl) ?_
  simp -implicitDefEqProofs only [go_sem, Nat.reduceAdd, ↓reduceIte]
  exact end_ret (by simp -implicitDefEqProofs only [go_sem, ↓reduceIte, Try.f69] <;> rfl) ⟨rfl, rfl, rfl⟩
/-- Does a statement bear on a request? -/
def beaB (p : Pol) (s : Stm) (u a r : ByteArray) : Bool := (s.users.any (eqS u) || s.groups.any fun g => inB p u g) && matsB s.acts a && matsB s.ress r
theorem bears_ok (p : Pol) (s : Stm) (u a r : ByteArray) (hF : FitPol p) (hS : Fit s.users ∧ Fit s.groups ∧ FitP s.acts ∧ FitP s.ress) :
    PureOK Try.prog 41 [.ag (polD p), .ag (stmD s), .v (.string u), .v (.string a), .v (.string r)] (.v (.bool (beaB p s u a r))) true := by
  obtain ⟨s1, s2, s3, s4⟩ := hS
  refine pure_run (tab := tab) tab_ok fol Try.func41 rfl (by kernel_rfl) (by kernel_rfl) (by simp [Try.f41]) ?_
  simp -implicitDefEqProofs only [go_sem, Nat.reduceEqDiff, Nat.reduceAdd, reduceCtorEq, ↓reduceIte]
  refine onCall_pure (by simp -implicitDefEqProofs only [go_sem] <;> rfl) (contains_ok s.users u s1) (.inr rfl) ?_
  simp -implicitDefEqProofs only [go_sem, Nat.reduceAdd, ↓reduceIte]
  have tail : ∀ (b : Bool) (s' : St), True := fun _ _ => trivial
  refine Rt_gS (by rfl) (by rfl) (fun h => ?_) (fun h => ?_)
  · simp -implicitDefEqProofs only [go_sem, List.all_cons, List.all_nil, isCell, Bool.and_self, Nat.reduceEqDiff, Nat.reduceAdd, reduceCtorEq, ↓reduceIte, h]
    obtain ⟨nx', g1, g2⟩ := ctf_str true (bears_prd p u hF 0 2 (upd 2 (some (.bx [.v (.string u)])) (upd 1 (some (.bx ((stmD s).map (lift true)))) (upd 0 (some (.bx ((polD p).map (lift true)))) noHp))) rfl rfl) s.groups (fun _ _ => trivial) s2 15
    refine onCall_inl ?_
    refine (g2 _ fun i hi => ?_).mono fun v hp2 nx2 hq => ?_
    · simp only [List.mem_cons, List.not_mem_nil, or_false] at hi
      rcases hi with rfl | rfl <;> rfl
    · obtain ⟨rfl, rfl, rfl⟩ := hq
      repeat' (first
        | simp -implicitDefEqProofs only [go_sem, Nat.reduceEqDiff, Nat.reduceAdd, reduceCtorEq, ↓reduceIte]
        | refine Rd_endF (by rfl) ?_
        | (refine onC_split (fun h => ?_) (fun h => ?_) <;> (try simp only [Bool.not_eq_eq_eq_not, Bool.not_true, Bool.not_false, Bool.not_eq_true, Bool.not_eq_false, decide_eq_true_eq, decide_eq_false_iff_not] at h) <;> (try simp only [h, decide_true, decide_false, not_true, not_false, not_false_eq_true]))
        | (refine Rt_gS (by rfl) (by rfl) (fun h => ?_) (fun h => ?_) <;> (try simp only [Bool.not_true] at h) <;> (try simp only [h]))
        | (refine Rd_gS (by rfl) (by rfl) (fun h => ?_) (fun h => ?_) <;> (try simp only [Bool.not_eq_eq_eq_not, Bool.not_true, Bool.not_false, Bool.not_eq_true, Bool.not_eq_false, decide_eq_true_eq, decide_eq_false_iff_not] at h) <;> (try simp only [h, decide_true, decide_false, not_true, not_false, not_false_eq_true]))
        | refine onCall_pure (by simp -implicitDefEqProofs only [go_sem]; rfl) (by first | with_reducible exact matches_ok s.acts a s3 | with_reducible exact matches_ok s.ress r s4) (by first | exact .inr rfl | exact .inl rfl) ?_
        | refine onCallD_pure (by simp -implicitDefEqProofs only [go_sem, Int.reduceToNat, Int.reduceLT, Int.reduceLE, List.all_cons, List.all_nil, isCell, Bool.and_self, Int.reduceBEq, Int.reduceBNe, beq_self_eq_true, bne_self_eq_false, decide_true, decide_false, Nat.reduceLT, Nat.reduceBEq, Int.reduceEq, Nat.reduceEqDiff, Nat.reduceAdd, Nat.reduceSub, Nat.reduceMul, Nat.reduceLeDiff, reduceCtorEq, ↓reduceIte]; rfl) (by first | with_reducible exact matches_ok s.acts a s3 | with_reducible exact matches_ok s.ress r s4) (by first | exact .inr rfl | exact .inl rfl) ?_)
      all_goals exact end_pure (by simp -implicitDefEqProofs only [go_sem, ↓reduceIte, Try.f41] <;> rfl) rfl (by simp only [*, Bool.or_false, Bool.or_true, Bool.and_true, Bool.true_and, Bool.false_and, Bool.and_false, beaB]) (fun _ => rfl)
  · simp -implicitDefEqProofs only [go_sem, Nat.reduceEqDiff, Nat.reduceAdd, reduceCtorEq, ↓reduceIte, h]
    repeat' (first
      | simp -implicitDefEqProofs only [go_sem, Nat.reduceEqDiff, Nat.reduceAdd, reduceCtorEq, ↓reduceIte]
      | refine Rd_endF (by rfl) ?_
      | (refine onC_split (fun h => ?_) (fun h => ?_) <;> (try simp only [Bool.not_eq_eq_eq_not, Bool.not_true, Bool.not_false, Bool.not_eq_true, Bool.not_eq_false, decide_eq_true_eq, decide_eq_false_iff_not] at h) <;> (try simp only [h, decide_true, decide_false, not_true, not_false, not_false_eq_true]))
      | (refine Rt_gS (by rfl) (by rfl) (fun h => ?_) (fun h => ?_) <;> (try simp only [Bool.not_true] at h) <;> (try simp only [h]))
      | (refine Rd_gS (by rfl) (by rfl) (fun h => ?_) (fun h => ?_) <;> (try simp only [Bool.not_eq_eq_eq_not, Bool.not_true, Bool.not_false, Bool.not_eq_true, Bool.not_eq_false, decide_eq_true_eq, decide_eq_false_iff_not] at h) <;> (try simp only [h, decide_true, decide_false, not_true, not_false, not_false_eq_true]))
      | refine onCall_pure (by simp -implicitDefEqProofs only [go_sem]; rfl) (by first | with_reducible exact matches_ok s.acts a s3 | with_reducible exact matches_ok s.ress r s4) (by first | exact .inr rfl | exact .inl rfl) ?_
      | refine onCallD_pure (by simp -implicitDefEqProofs only [go_sem, Int.reduceToNat, Int.reduceLT, Int.reduceLE, List.all_cons, List.all_nil, isCell, Bool.and_self, Int.reduceBEq, Int.reduceBNe, beq_self_eq_true, bne_self_eq_false, decide_true, decide_false, Nat.reduceLT, Nat.reduceBEq, Int.reduceEq, Nat.reduceEqDiff, Nat.reduceAdd, Nat.reduceSub, Nat.reduceMul, Nat.reduceLeDiff, reduceCtorEq, ↓reduceIte]; rfl) (by first | with_reducible exact matches_ok s.acts a s3 | with_reducible exact matches_ok s.ress r s4) (by first | exact .inr rfl | exact .inl rfl) ?_)
    all_goals exact end_pure (by simp -implicitDefEqProofs only [go_sem, ↓reduceIte, Try.f41] <;> rfl) rfl (by simp only [*, Bool.true_or, Bool.and_true, Bool.true_and, Bool.false_and, Bool.and_false, Bool.not_false, beaB]) (fun _ => rfl)
/-- What a row of boundaries says. -/
def bouB (u a r : ByteArray) : List Bnd → Bool → Bool
  | [], so => !so
  | b :: l, so => if eqS b.user u then (if matsB b.acts a && matsB b.ress r then true else bouB u a r l true) else bouB u a r l so
theorem bounded_ok (p : Pol) (u a r : ByteArray) (hF : FitPol p) : PureOK Try.prog 42 [.ag (polD p), .v (.string u), .v (.string a), .v (.string r)] (.v (.bool (bouB u a r p.bnds false))) true := by
  have hb := hF.bnds
  refine pure_run (tab := tab) tab_ok fol Try.func42 rfl (by kernel_rfl) (by kernel_rfl) (by simp [Try.f42]) ?_
  simp -implicitDefEqProofs only [go_sem, Nat.reduceEqDiff, Nat.reduceAdd, reduceCtorEq, ↓reduceIte]
  refine run_loopA (α := { z0 : Nat × Bool × Nat // z0.1 ≤ p.bnds.length ∧ bouB u a r (p.bnds.drop z0.1) z0.2.1 = bouB u a r p.bnds false }) [(8, 9), (11, 11), (15, 33)] [] (fun z0 fr => upd 15 (.v (.int .i64 (z0.1.1 : Int))) (upd 9 (.v (.bool z0.1.2.1)) fr)) (fun z0 hp => hp) (fun z0 => z0.1.2.2) (fun z0 => p.bnds.length - z0.1.1) ⟨(0, false, 0), by simp⟩ ⟨wk_upd (by first | rfl | simp [upd_at, forget_at]) (wk_upd (by first | rfl | simp [upd_at, forget_at]) (wk_self _ _)), wh_cut _ _ _, by simp⟩ ?_
  rintro ⟨⟨k, so, m⟩, hI⟩
  simp only at hI
  obtain ⟨hk1, hk2⟩ := hI
  by_cases hk : k < p.bnds.length
  · have c1 := dec_lt hk
    have w1 : IntKind.i64.wrap ((k : Int) + 1) = ((k + 1 : Nat) : Int) := wrap_one (by omega)
    rw [List.drop_eq_getElem_cons hk] at hk2
    simp only [bouB] at hk2
    obtain ⟨q1, q2⟩ := hF.bu _ (List.getElem_mem hk)
    simp -implicitDefEqProofs only [go_sem, Nat.reduceEqDiff, Nat.reduceAdd, Nat.reduceLeDiff, reduceCtorEq, ↓reduceIte, c1, at_map hk]
    refine onC_split (fun h => ?_) (fun h => ?_)
    · have h : eqS (p.bnds[k]).user u = false := by simpa [eqS] using h
      rw [h] at hk2
      simp -implicitDefEqProofs only [go_sem, Nat.reduceEqDiff, Nat.reduceAdd, ↓reduceIte, w1]
      exact ⟨⟨(k + 1, so, m + 15), ⟨by omega, by simpa using hk2⟩⟩, ⟨wk_upd (by first | rfl | simp [upd_at, forget_at, accV_app, accV_cons, accV_nil]) (wk_upd (by first | rfl | simp [upd_at, forget_at, accV_app, accV_cons, accV_nil]) ((by repeat first | exact wk_base _ _ | refine wk_skip rfl ?_))), (by repeat first | exact wh_base _ _ _ | refine wh_skip (by first | (left; first | omega | exact accI_le _ (by omega) (by omega)) | (right; simp)) ?_), by simp only; omega⟩, by simp only; omega⟩
    · have h : eqS (p.bnds[k]).user u = true := by simpa [eqS] using h
      rw [h] at hk2
      repeat' (first
        | simp -implicitDefEqProofs only [go_sem, Nat.reduceEqDiff, Nat.reduceAdd, Nat.reduceLeDiff, reduceCtorEq, ↓reduceIte, w1]
        | refine Rd_endF (by rfl) ?_
        | (refine onC_split (fun h => ?_) (fun h => ?_) <;> (try simp only [Bool.not_eq_eq_eq_not, Bool.not_true, Bool.not_false, Bool.not_eq_true, Bool.not_eq_false, decide_eq_true_eq, decide_eq_false_iff_not] at h) <;> (try simp only [h]))
        | (refine Rt_gS (by rfl) (by rfl) (fun h => ?_) (fun h => ?_) <;> (try simp only [Bool.not_true] at h) <;> (try simp only [h]))
        | (refine Rd_gS (by rfl) (by rfl) (fun h => ?_) (fun h => ?_) <;> (try simp only [Bool.not_eq_eq_eq_not, Bool.not_true, Bool.not_false, Bool.not_eq_true, Bool.not_eq_false, decide_eq_true_eq, decide_eq_false_iff_not] at h) <;> (try simp only [h, decide_true, decide_false, not_true, not_false, not_false_eq_true]))
        | refine onCall_pure (by simp -implicitDefEqProofs only [go_sem]; rfl) (by first | with_reducible exact matches_ok (p.bnds[k]).acts a q1 | with_reducible exact matches_ok (p.bnds[k]).ress r q2) (by first | exact .inr rfl | exact .inl rfl) ?_
        | refine onCallD_pure (by simp -implicitDefEqProofs only [go_sem, Int.reduceToNat, Int.reduceLT, Int.reduceLE, List.all_cons, List.all_nil, isCell, Bool.and_self, Int.reduceBEq, Int.reduceBNe, beq_self_eq_true, bne_self_eq_false, decide_true, decide_false, Nat.reduceLT, Nat.reduceBEq, Int.reduceEq, Nat.reduceEqDiff, Nat.reduceAdd, Nat.reduceSub, Nat.reduceMul, Nat.reduceLeDiff, reduceCtorEq, ↓reduceIte, w1]; rfl) (by first | with_reducible exact matches_ok (p.bnds[k]).acts a q1 | with_reducible exact matches_ok (p.bnds[k]).ress r q2) (by first | exact .inr rfl | exact .inl rfl) ?_)
      all_goals first
        | exact end_pure (by simp -implicitDefEqProofs only [go_sem, ↓reduceIte, Try.f42] <;> rfl) rfl (by rw [← hk2]; simp only [*, Bool.and_true, ↓reduceIte]) (fun _ => rfl)
        | exact ⟨⟨(k + 1, true, m + 60), ⟨by omega, by simpa only [*, Bool.and_true, Bool.and_false, Bool.true_and, Bool.false_and, Bool.false_eq_true, if_true, if_false] using hk2⟩⟩, ⟨wk_upd (by first | rfl | simp [upd_at, forget_at, accV_app, accV_cons, accV_nil]) (wk_upd (by first | rfl | simp [upd_at, forget_at, accV_app, accV_cons, accV_nil]) ((by repeat first | exact wk_base _ _ | refine wk_skip rfl ?_))), (by repeat first | exact wh_base _ _ _ | refine wh_skip (by first | (left; first | omega | exact accI_le _ (by omega) (by omega)) | (right; simp)) ?_), by simp only; omega⟩, by simp only; omega⟩
  · have c1 := dec_nlt (Nat.le_of_not_lt hk)
    rw [List.drop_eq_nil_of_le (by omega)] at hk2
    simp only [bouB] at hk2
    simp -implicitDefEqProofs only [go_sem, Nat.reduceEqDiff, Nat.reduceAdd, Nat.reduceLeDiff, ↓reduceIte, c1]
    exact end_pure (by simp -implicitDefEqProofs only [go_sem, ↓reduceIte, Try.f42] <;> rfl) rfl (by rw [← hk2]) (fun _ => rfl)
/-- What a row of statements says. -/
def mayL (p : Pol) (u a r : ByteArray) : List Stm → Bool → Bool
  | [], al => al && bouB u a r p.bnds false
  | s :: l, al => if beaB p s u a r then (if s.deny then false else mayL p u a r l true) else mayL p u a r l al
def mayB (p : Pol) (u a r : ByteArray) : Bool := if p.users.any (eqS u) && p.acts.any (eqS a) && p.ress.any (eqS r) then mayL p u a r p.stms false else false
theorem may_ok (p : Pol) (u a r : ByteArray) (hF : FitPol p) : PureOK Try.prog 13 [.ag (polD p), .v (.string u), .v (.string a), .v (.string r)] (.v (.bool (mayB p u a r))) true := by
  have f1 := hF.users
  have f2 := hF.acts
  have f3 := hF.ress
  have hb := hF.stms
  refine pure_run (tab := tab) tab_ok fol Try.func13 rfl (by kernel_rfl) (by kernel_rfl) (by simp [Try.f13]) ?_
  repeat' (first
    | simp -implicitDefEqProofs only [go_sem, Nat.reduceEqDiff, Nat.reduceAdd, reduceCtorEq, ↓reduceIte]
    | refine Rd_endF (by rfl) ?_
    | (refine onC_split (fun h => ?_) (fun h => ?_) <;> (try simp only [Bool.not_eq_eq_eq_not, Bool.not_true, Bool.not_false] at h) <;> (try simp only [h]))
    | (refine Rt_gS (by rfl) (by rfl) (fun h => ?_) (fun h => ?_) <;> (try simp only [Bool.not_eq_eq_eq_not, Bool.not_true, Bool.not_false] at h) <;> (try simp only [h]))
    | (refine Rd_gS (by rfl) (by rfl) (fun h => ?_) (fun h => ?_) <;> (try simp only [Bool.not_eq_eq_eq_not, Bool.not_true, Bool.not_false, Bool.not_eq_true, Bool.not_eq_false, decide_eq_true_eq, decide_eq_false_iff_not] at h) <;> (try simp only [h, decide_true, decide_false, not_true, not_false, not_false_eq_true]))
    | refine onCall_pure (by simp -implicitDefEqProofs only [go_sem]; rfl) (by first | with_reducible exact contains_ok p.users u f1 | with_reducible exact contains_ok p.acts a f2 | with_reducible exact contains_ok p.ress r f3) (by first | exact .inr rfl | exact .inl rfl) ?_
    | refine onCallD_pure (by simp -implicitDefEqProofs only [go_sem, Int.reduceToNat, Int.reduceLT, Int.reduceLE, List.all_cons, List.all_nil, isCell, Bool.and_self, Int.reduceBEq, Int.reduceBNe, beq_self_eq_true, bne_self_eq_false, decide_true, decide_false, Nat.reduceLT, Nat.reduceBEq, Int.reduceEq, Nat.reduceEqDiff, Nat.reduceAdd, Nat.reduceSub, Nat.reduceMul, Nat.reduceLeDiff, reduceCtorEq, ↓reduceIte]; rfl) (by first | with_reducible exact contains_ok p.users u f1 | with_reducible exact contains_ok p.acts a f2 | with_reducible exact contains_ok p.ress r f3) (by first | exact .inr rfl | exact .inl rfl) ?_)
  all_goals first
    | exact end_pure (by simp -implicitDefEqProofs only [go_sem, ↓reduceIte, Try.f13] <;> rfl) rfl (by simp only [*, Bool.and_true, Bool.false_and, Bool.and_false, Bool.false_eq_true, ↓reduceIte, mayB]) (fun _ => rfl)
    | skip
  have e0 : mayB p u a r = mayL p u a r p.stms false := by simp only [*, Bool.and_true, ↓reduceIte, mayB]
  rw [e0]
  refine run_loopA (α := { z0 : Nat × Bool × Nat // z0.1 ≤ p.stms.length ∧ mayL p u a r (p.stms.drop z0.1) z0.2.1 = mayL p u a r p.stms false }) [(8, 9), (11, 11), (34, 47)] [] (fun z0 fr => upd 34 (.v (.int .i64 (z0.1.1 : Int))) (upd 9 (.v (.bool z0.1.2.1)) fr)) (fun z0 hp => hp) (fun z0 => z0.1.2.2) (fun z0 => p.stms.length - z0.1.1) ⟨(0, false, 0), by simp⟩ ⟨wk_upd (by first | rfl | simp [upd_at, forget_at]) (wk_upd (by first | rfl | simp [upd_at, forget_at]) (wk_self _ _)), wh_cut _ _ _, by simp⟩ ?_
  rintro ⟨⟨k, al, m⟩, hI⟩
  simp only at hI
  obtain ⟨hk1, hk2⟩ := hI
  by_cases hk : k < p.stms.length
  · have c1 := dec_lt hk
    have w1 : IntKind.i64.wrap ((k : Int) + 1) = ((k + 1 : Nat) : Int) := wrap_one (by omega)
    rw [List.drop_eq_getElem_cons hk] at hk2
    simp only [mayL] at hk2
    have q := hF.su _ (List.getElem_mem hk)
    repeat' (first
      | simp -implicitDefEqProofs only [go_sem, Nat.reduceEqDiff, Nat.reduceAdd, Nat.reduceLeDiff, reduceCtorEq, ↓reduceIte, c1, at_map hk, w1]
      | refine Rd_endF (by rfl) ?_
      | (refine onC_split (fun h => ?_) (fun h => ?_) <;> (try simp only [Bool.not_eq_eq_eq_not, Bool.not_true, Bool.not_false] at h) <;> (try simp only [h]))
      | (refine Rt_gS (by rfl) (by rfl) (fun h => ?_) (fun h => ?_) <;> (try simp only [Bool.not_eq_eq_eq_not, Bool.not_true, Bool.not_false, Bool.not_eq_true, Bool.not_eq_false, decide_eq_true_eq, decide_eq_false_iff_not] at h) <;> (try simp only [h, decide_true, decide_false, not_true, not_false, not_false_eq_true]))
      | (refine Rd_gS (by rfl) (by rfl) (fun h => ?_) (fun h => ?_) <;> (try simp only [Bool.not_eq_eq_eq_not, Bool.not_true, Bool.not_false, Bool.not_eq_true, Bool.not_eq_false, decide_eq_true_eq, decide_eq_false_iff_not] at h) <;> (try simp only [h, decide_true, decide_false, not_true, not_false, not_false_eq_true]))
      | refine onCall_pure (by simp -implicitDefEqProofs only [go_sem]; rfl) (by first | with_reducible exact bears_ok p p.stms[k] u a r hF q) (by first | exact .inr rfl | exact .inl rfl) ?_
      | refine onCallD_pure (by simp -implicitDefEqProofs only [go_sem, Int.reduceToNat, Int.reduceLT, Int.reduceLE, List.all_cons, List.all_nil, isCell, Bool.and_self, Int.reduceBEq, Int.reduceBNe, beq_self_eq_true, bne_self_eq_false, decide_true, decide_false, Nat.reduceLT, Nat.reduceBEq, Int.reduceEq, Nat.reduceEqDiff, Nat.reduceAdd, Nat.reduceSub, Nat.reduceMul, Nat.reduceLeDiff, reduceCtorEq, ↓reduceIte, c1, at_map hk, w1]; rfl) (by first | with_reducible exact bears_ok p p.stms[k] u a r hF q) (by first | exact .inr rfl | exact .inl rfl) ?_)
    all_goals first
      | exact end_pure (by simp -implicitDefEqProofs only [go_sem, ↓reduceIte, Try.f13] <;> rfl) rfl (by rw [← hk2]; simp only [*, ↓reduceIte]) (fun _ => rfl)
      | exact ⟨⟨(k + 1, al, m + 60), ⟨by omega, by simpa only [*, Bool.false_eq_true, if_true, if_false] using hk2⟩⟩, ⟨wk_upd (by first | rfl | simp [upd_at, forget_at, accV_app, accV_cons, accV_nil]) (wk_upd (by first | rfl | simp [upd_at, forget_at, accV_app, accV_cons, accV_nil]) ((by repeat first | exact wk_base _ _ | refine wk_skip rfl ?_))), (by repeat first | exact wh_base _ _ _ | refine wh_skip (by first | (left; first | omega | exact accI_le _ (by omega) (by omega)) | (right; simp)) ?_), by simp only; omega⟩, by simp only; omega⟩
      | exact ⟨⟨(k + 1, true, m + 60), ⟨by omega, by simpa only [*, Bool.false_eq_true, if_true, if_false] using hk2⟩⟩, ⟨wk_upd (by first | rfl | simp [upd_at, forget_at, accV_app, accV_cons, accV_nil]) (wk_upd (by first | rfl | simp [upd_at, forget_at, accV_app, accV_cons, accV_nil]) ((by repeat first | exact wk_base _ _ | refine wk_skip rfl ?_))), (by repeat first | exact wh_base _ _ _ | refine wh_skip (by first | (left; first | omega | exact accI_le _ (by omega) (by omega)) | (right; simp)) ?_), by simp only; omega⟩, by simp only; omega⟩
  · have c1 := dec_nlt (Nat.le_of_not_lt hk)
    rw [List.drop_eq_nil_of_le (by omega)] at hk2
    simp only [mayL] at hk2
    repeat' (first
      | simp -implicitDefEqProofs only [go_sem, Nat.reduceEqDiff, Nat.reduceAdd, Nat.reduceLeDiff, ↓reduceIte, c1]
      | refine Rd_endF (by rfl) ?_
      | (refine onC_split (fun h => ?_) (fun h => ?_) <;> (try simp only [Bool.not_eq_eq_eq_not, Bool.not_true, Bool.not_false, Bool.not_eq_true, Bool.not_eq_false, decide_eq_true_eq, decide_eq_false_iff_not] at h) <;> (try simp only [h, decide_true, decide_false, not_true, not_false, not_false_eq_true]))
      | (refine Rt_gS (by rfl) (by rfl) (fun h => ?_) (fun h => ?_) <;> (try simp only [Bool.not_true] at h) <;> (try simp only [h]))
      | (refine Rd_gS (by rfl) (by rfl) (fun h => ?_) (fun h => ?_) <;> (try simp only [Bool.not_eq_eq_eq_not, Bool.not_true, Bool.not_false, Bool.not_eq_true, Bool.not_eq_false, decide_eq_true_eq, decide_eq_false_iff_not] at h) <;> (try simp only [h, decide_true, decide_false, not_true, not_false, not_false_eq_true]))
      | refine onCall_pure (by simp -implicitDefEqProofs only [go_sem]; rfl) (by first | with_reducible exact bounded_ok p u a r hF) (by first | exact .inr rfl | exact .inl rfl) ?_
      | refine onCallD_pure (by simp -implicitDefEqProofs only [go_sem, Int.reduceToNat, Int.reduceLT, Int.reduceLE, List.all_cons, List.all_nil, isCell, Bool.and_self, Int.reduceBEq, Int.reduceBNe, beq_self_eq_true, bne_self_eq_false, decide_true, decide_false, Nat.reduceLT, Nat.reduceBEq, Int.reduceEq, Nat.reduceEqDiff, Nat.reduceAdd, Nat.reduceSub, Nat.reduceMul, Nat.reduceLeDiff, reduceCtorEq, ↓reduceIte, c1]; rfl) (by first | with_reducible exact bounded_ok p u a r hF) (by first | exact .inr rfl | exact .inl rfl) ?_)
    all_goals exact end_pure (by simp -implicitDefEqProofs only [go_sem, ↓reduceIte, Try.f13] <;> rfl) rfl (by rw [← hk2]; simp only [*, Bool.true_and, Bool.false_and]) (fun _ => rfl)
end Go.Proofs.Ytkkhgdmmbhpckaa.Ab

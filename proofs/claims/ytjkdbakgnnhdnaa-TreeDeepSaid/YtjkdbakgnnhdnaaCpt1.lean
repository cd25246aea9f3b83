/-
 slices.Compact at a struct, over a row of the caller's own.
-/
import Derived.Test.YtjkdbakgnnhdnaaLtx
import Derived.Test.YtjkdbakgnnhdnaaSgs
namespace Go.Proofs.Ytjkdbakgnnhdnaa.Ab
open Go.RowKit Lib
section
variable {α : Type} [Inhabited α] [DecidableEq α]
def cq (xs : List α) (m : Nat) : List α := compactUpTo xs.toArray m
def yq (xs : List α) (m : Nat) : List α := cq xs m ++ xs.drop (cq xs m).length
theorem cq_one {xs : List α} (h : 0 < xs.length) : cq xs 1 = xs.take 1 := by
 obtain ⟨x, r, rfl⟩ : ∃ x r, xs = x :: r := by cases xs with | nil => simp at h | cons x r => exact ⟨x, r, rfl⟩
 simp [cq, compactUpTo, keeps, List.range_succ]
omit [DecidableEq α] in
theorem tget {xs : List α} {k : Nat} (h : k < xs.length) : xs.toArray[k]! = xs[k] := by simp [h]
theorem cq_eq {xs : List α} {m : Nat} (h : m + 1 < xs.length) (he : xs[m + 1] = xs[m]) : cq xs (m + 2) = cq xs (m + 1) := by
 unfold cq
 rw [compactUpTo_succ, keeps_neg (by omega) (by rw [Nat.add_sub_cancel, tget h, tget (by omega), he]), if_neg (by decide), List.append_nil]
theorem cq_ne {xs : List α} {m : Nat} (h : m + 1 < xs.length) (he : xs[m + 1] ≠ xs[m]) : cq xs (m + 2) = cq xs (m + 1) ++ [xs[m + 1]] := by
 unfold cq
 rw [compactUpTo_succ, keeps_pos (by rw [Nat.add_sub_cancel, tget h, tget (by omega)]; exact he), if_pos rfl, tget h]
theorem cq_le (xs : List α) : ∀ m, (cq xs m).length ≤ m
 | 0 => by simp [cq, compactUpTo]
 | m + 1 => by
  have := cq_le xs m
  unfold cq at *
  rw [compactUpTo_succ, List.length_append]
  split <;> simp <;> omega
theorem yq_len {xs : List α} {m : Nat} (h : m ≤ xs.length) : (yq xs m).length = xs.length := by
 have := cq_le xs m
 unfold yq
 rw [List.length_append, List.length_drop]
 omega
theorem yq_at {xs : List α} {m j : Nat} (h1 : (cq xs m).length ≤ j) (h2 : j < xs.length) : (yq xs m)[j]? = some xs[j] := by
 unfold yq
 rw [List.getElem?_append_right h1, List.getElem?_drop, show (cq xs m).length + (j - (cq xs m).length) = j by omega, List.getElem?_eq_getElem h2]
theorem yq_init {xs : List α} {k : Nat} (h : cq xs k = xs.take k) (hk : k ≤ xs.length) : yq xs k = xs := by
 unfold yq
 rw [h, List.length_take, Nat.min_eq_left hk, List.take_append_drop]
theorem yq_same {xs : List α} {m : Nat} (h : cq xs (m + 2) = cq xs (m + 1)) : yq xs (m + 2) = yq xs (m + 1) := by
 unfold yq
 rw [h]
theorem yq_set {xs : List α} {m : Nat} (h : m + 1 < xs.length) (hl : (cq xs (m + 1)).length < xs.length) (he : xs[m + 1] ≠ xs[m]) : (yq xs (m + 1)).set (cq xs (m + 1)).length xs[m + 1] = yq xs (m + 2) := by
 unfold yq
 rw [cq_ne h he, List.set_append_right _ _ (Nat.le_refl _), Nat.sub_self, List.drop_eq_getElem_cons hl, List.set_cons_zero, List.append_assoc, List.length_append, List.length_singleton]
 rfl
theorem cq_all (xs : List α) : cq xs xs.length = compact xs := rfl
end
theorem bq (a b : ByteArray) : (a == b) = decide (a = b) := by
 rw [beq_toListBytes, Bool.eq_iff_iff, beq_iff_eq, decide_eq_true_eq]
 exact ⟨fun h => bytes_inj (by simpa [Lib.toList_data] using h), fun h => by rw [h]⟩
theorem tup_eq (x y : GTuple) : (x.obj.type_ == y.obj.type_ && (x.obj.id_ == y.obj.id_ && (x.rel == y.rel && (x.sub_.type_ == y.sub_.type_ && (x.sub_.id_ == y.sub_.id_ && (x.sub_.rel == y.sub_.rel)))))) = decide (x = y) := by
 obtain ⟨⟨_, _⟩, _, ⟨_, _, _⟩⟩ := x
 obtain ⟨⟨_, _⟩, _, ⟨_, _, _⟩⟩ := y
 simp only [bq, GTuple.mk.injEq, GObj.mk.injEq, GSub.mk.injEq, Bool.decide_and, Bool.and_assoc]
theorem tup_cpt {i ver : Nat} {br : Bool} (xs : List GTuple) (h0 : 0 < xs.length) (hn : xs.length ≤ 4294967296) {hp : Hp} (nx : Nat) :
  InlOK Try.prog 58 [.so i ver 0 xs.length] (upd i (some (.rw (xs.map eGTuple) 6 ver br false)) hp) nx fun v hp' _ => ∃ es, (compact xs).length ≤ es.length ∧ es.take (compact xs).length = (compact xs).map eGTuple ∧ v = .so i ver 0 (compact xs).length ∧ hp' = upd i (some (.rw es 6 ver br false)) hp := by
 refine inl_run (tab := tab) tab_ok fol Try.func58 rfl (by kernel_rfl) (by kernel_rfl) (by simp [Try.f58]) ?_
 by_cases h1 : xs.length < 2
 ·have c0 : decide ((xs.length : Int) < 2) = true := by simp; omega
  simp -implicitDefEqProofs only [go_sem, Nat.reduceAdd, reduceCtorEq, ↓reduceIte, c0]
  have e1 : compact xs = xs := by
   have : xs.length = 1 := by omega
   rw [← cq_all, this, cq_one h0, ← this, List.take_length]
  refine end_ret (v := .so i ver 0 xs.length) (by simp -implicitDefEqProofs only [go_sem, ↓reduceIte, Try.f58] <;> rfl) ⟨xs.map eGTuple, ?_⟩
  rw [e1]
  exact ⟨by simp, List.take_of_length_le (by simp), rfl, rfl⟩
 have c0 : decide ((xs.length : Int) < 2) = false := by simp; omega
 simp -implicitDefEqProofs only [go_sem, Nat.reduceAdd, reduceCtorEq, ↓reduceIte, c0]
 refine run_loop (fun p : { p : Nat × Nat // 1 ≤ p.1 ∧ p.1 ≤ xs.length ∧ cq xs p.1 = xs.take p.1 } => ⟨upd 0 (.so i ver 0 xs.length) (upd 3 (.v (.int .i64 (p.1.1 : Int))) noFr), upd i (some (.rw (xs.map eGTuple) 6 ver br false)) (hp), p.1.2⟩) (fun p => xs.length + 1 - p.1.1) ⟨(1, _), Nat.le_refl _, h0, cq_one h0⟩ ⟨wk_upd rfl (wk_upd rfl (wk_no _)), (WH.upd (by simp [upd_at] <;> rfl) (WH.base fun t ht => by simp_all [upd_at])).all, Nat.le_refl _⟩ ?_
 rintro ⟨⟨k, m⟩, hI⟩
 simp only at hI
 obtain ⟨k1, k2, k3⟩ := hI
 by_cases hk : k < xs.length
 ·obtain ⟨q, rfl⟩ : ∃ q, k = q + 1 := ⟨k - 1, by omega⟩
  have c1 := dec_lt hk
  have w1 : IntKind.i64.wrap (((q + 1 : Nat) : Int) - 1) = (q : Int) := by rw [IntWalk.i64_in _ (by omega)]; omega
  have w2 : IntKind.i64.wrap (((q + 1 : Nat) : Int) + 1) = ((q + 1 + 1 : Nat) : Int) := wrap_one (by omega)
  have r1 : (xs.map eGTuple)[q + 1]? = some (eGTuple xs[q + 1]) := by rw [List.getElem?_map, List.getElem?_eq_getElem hk]; rfl
  have r2 : (xs.map eGTuple)[q]? = some (eGTuple xs[q]) := by rw [List.getElem?_map, List.getElem?_eq_getElem (by omega)]; rfl
  have l2 : q < xs.length := by omega
  simp -implicitDefEqProofs only [go_sem, Nat.reduceEqDiff, Nat.reduceAdd, reduceCtorEq, ↓reduceIte, c1, w1, r1, r2, hk, l2]
  refine Rd_endF (by rfl) ?_
  simp -implicitDefEqProofs only [go_sem, ↓reduceIte]
  refine onC_split (fun h => ?_) (fun h => ?_)
  ·have hd : xs[q + 1] = xs[q] := of_decide_eq_true ((tup_eq _ _).symm.trans h)
   have e1 : cq xs (q + 1 + (0 + 1)) = xs.take (q + 1) := (cq_eq hk hd).trans k3
   have hle := Nat.le_of_lt hk
   simp -implicitDefEqProofs only [go_sem, Nat.reduceEqDiff, Nat.reduceAdd, reduceCtorEq, ↓reduceIte, or_true, hle, hk]
   refine run_loop (fun p : { p : Nat × Nat × List GTuple × Nat // q + 1 + (p.1 + 1) ≤ xs.length ∧ p.2.1 = (cq xs (q + 1 + (p.1 + 1))).length ∧ p.2.2.1 = yq xs (q + 1 + (p.1 + 1)) ∧ p.2.1 ≤ q + 1 + p.1 } => ⟨upd 0 (.so i ver 0 xs.length) (upd 3 (.v (.int .i64 (p.1.2.1 : Int))) (upd 4 (.so i ver (q + 1) (xs.length - (q + 1))) (upd 5 (.v (.int .i64 ((p.1.1 + 1 : Nat) : Int))) noFr))), upd i (some (.rw (p.1.2.2.1.map eGTuple) 6 ver br false)) (hp), p.1.2.2.2⟩) (fun p => xs.length - p.1.1) ⟨(0, q + 1, xs, _), by omega, by show q + 1 = _; rw [e1, List.length_take]; omega, ((yq_same (cq_eq hk hd)).trans (yq_init k3 k2)).symm, Nat.le_refl _⟩ ⟨wk_upd rfl (wk_upd rfl (wk_upd rfl (wk_upd rfl (wk_no _)))), (WH.upd (by simp [upd_at] <;> rfl) (WH.base fun t ht => by simp_all [upd_at])).all, Nat.le_refl _⟩ ?_
   rintro ⟨⟨t, l, ys, m⟩, hI⟩
   simp only at hI
   obtain ⟨t1, t2, t3, t4⟩ := hI
   have hy : ys.length = xs.length := by rw [t3]; exact yq_len t1
   have n3 : l < xs.length := by omega
   by_cases hm : q + 1 + (t + 1) < xs.length
   ·have c2 : decide (((t + 1 : Nat) : Int) < ((xs.length - (q + 1) : Nat) : Int)) = true := dec_lt (by omega)
    have w3 : IntKind.i64.wrap (((t + 1 : Nat) : Int) - 1) = (t : Int) := by rw [IntWalk.i64_in _ (by omega)]; omega
    have n1 : t + 1 < xs.length - (q + 1) := by omega
    have n2 : t < xs.length - (q + 1) := by omega
    have hm2 : q + 1 + t < xs.length := by omega
    have r3 : (ys.map eGTuple)[q + 1 + (t + 1)]? = some (eGTuple xs[q + 1 + (t + 1)]) := by rw [List.getElem?_map, t3, yq_at (by omega) hm]; rfl
    have r4 : (ys.map eGTuple)[q + 1 + t]? = some (eGTuple xs[q + 1 + t]) := by rw [List.getElem?_map, t3, yq_at (by omega) hm2]; rfl
    simp -implicitDefEqProofs only [go_sem, Nat.reduceEqDiff, Nat.reduceAdd, reduceCtorEq, ↓reduceIte, c2, w3, r3, r4, n1, n2]
    refine Rd_endF (by rfl) ?_
    simp -implicitDefEqProofs only [go_sem, ↓reduceIte]
    have w5 : IntKind.i64.wrap (((t + 1 : Nat) : Int) + 1) = ((t + 1 + 1 : Nat) : Int) := wrap_one (by omega)
    refine onC_split (fun h => ?_) (fun h => ?_)
    ·have hne : xs[q + 1 + (t + 1)] ≠ xs[q + 1 + t] := by
      rw [tup_eq] at h
      simpa using h
     have w4 : IntKind.i64.wrap ((l : Int) + 1) = ((l + 1 : Nat) : Int) := wrap_one (by omega)
     have r5 : (ys.map eGTuple)[l]? = some (eGTuple xs[l]) := by rw [List.getElem?_map, t3, yq_at (by omega) n3]; rfl
     have r6 : (ys.map eGTuple).set l (eGTuple xs[q + 1 + (t + 1)]) = (yq xs (q + 1 + (t + 1 + 1))).map eGTuple := by
      rw [← List.map_set, t3, t2]
      exact congrArg _ (yq_set (m := q + 1 + t) hm (by rw [← show l = (cq xs (q + 1 + t + 1)).length from t2]; exact n3) hne)
     simp -implicitDefEqProofs only [go_sem, Nat.reduceEqDiff, Nat.reduceAdd, reduceCtorEq, ↓reduceIte, r3, r5, n1, n3, r6, w4, w5, setL, List.take_zero, List.nil_append, List.length_cons, List.length_nil, List.drop_succ_cons, List.drop_zero, List.drop_nil, List.append_nil]
     have e6 : (cq xs (q + 1 + (t + 1 + 1))).length = l + 1 := by rw [show cq xs (q + 1 + (t + 1 + 1)) = _ from cq_ne (m := q + 1 + t) hm hne, List.length_append, List.length_singleton, t2]; rfl
     exact ⟨⟨(t + 1, l + 1, yq xs (q + 1 + (t + 1 + 1)), _), by simp only; omega, by simp only; omega, rfl, by simp only; omega⟩, ⟨wk_upd rfl (wk_upd rfl (wk_upd rfl (wk_upd rfl (wk_no _)))), (WH.upd (by simp [upd_at] <;> rfl) (WH.base fun t ht => by simp_all [upd_at])).all, Nat.le_refl _⟩, by simp only; omega⟩
    ·have heq : xs[q + 1 + (t + 1)] = xs[q + 1 + t] := by
      rw [tup_eq] at h
      simpa using h
     have e5 : cq xs (q + 1 + (t + 1 + 1)) = cq xs (q + 1 + (t + 1)) := cq_eq (m := q + 1 + t) hm heq
     simp -implicitDefEqProofs only [go_sem, Nat.reduceEqDiff, Nat.reduceAdd, reduceCtorEq, ↓reduceIte, w5]
     exact ⟨⟨(t + 1, l, ys, _), by simp only; omega, by simp only; rw [e5]; exact t2, by simp only; rw [t3]; exact (yq_same (m := q + 1 + t) e5).symm, by simp only; omega⟩, ⟨wk_upd rfl (wk_upd rfl (wk_upd rfl (wk_upd rfl (wk_no _)))), (WH.upd (by simp [upd_at] <;> rfl) (WH.base fun t ht => by simp_all [upd_at])).all, Nat.le_refl _⟩, by simp only; omega⟩
   ·have em : q + 1 + (t + 1) = xs.length := by omega
    have hl : l = (compact xs).length := by rw [t2, em, cq_all]
    subst hl
    have c2 : decide (((t + 1 : Nat) : Int) < ((xs.length - (q + 1) : Nat) : Int)) = false := dec_nlt (by omega)
    have n4 := Nat.le_of_lt n3
    have n5 : ¬ (xs.length - (compact xs).length = 0) := by omega
    have n6 : (compact xs).length + (xs.length - (compact xs).length) ≤ xs.length := by omega
    simp -implicitDefEqProofs only [go_sem, Nat.reduceLT, Nat.reduceEqDiff, Nat.reduceAdd, reduceCtorEq, ↓reduceIte, c2, or_true, true_or, n3, n4, n5, n6, hy, Nat.sub_zero]
    have hcl := cq_le xs xs.length
    rw [cq_all] at hcl
    refine end_ret (v := .so i ver 0 (compact xs).length) (by simp -implicitDefEqProofs only [go_sem, ↓reduceIte, Try.f58] <;> rfl) ⟨_, ?_, ?_, rfl, upd_upd _ _ _ _⟩
    ·simp only [List.length_append, List.length_take, List.length_map, List.length_replicate, hy]
     omega
    ·rw [List.append_assoc, List.take_append_of_le_length (by rw [List.length_take, List.length_map, hy]; omega), List.take_take, Nat.min_self, ← List.map_take, t3, em]
     unfold yq
     rw [cq_all, List.take_left]
  
  ·have hd : xs[q + 1] ≠ xs[q] := of_decide_eq_false ((tup_eq _ _).symm.trans h)
   simp -implicitDefEqProofs only [go_sem, Nat.reduceEqDiff, Nat.reduceAdd, reduceCtorEq, ↓reduceIte, w2]
   exact ⟨⟨(q + 1 + 1, _), by omega, by omega, by rw [cq_ne hk hd, k3, List.take_append_getElem]⟩, ⟨wk_upd rfl (wk_upd rfl (wk_no _)), (WH.upd (by simp [upd_at] <;> rfl) (WH.base fun t ht => by simp_all [upd_at])).all, Nat.le_refl _⟩, by simp only; omega⟩
 ·have e1 : k = xs.length := by omega
  have c1 : decide ((k : Int) < (xs.length : Int)) = false := by simp; omega
  simp -implicitDefEqProofs only [go_sem, Nat.reduceEqDiff, Nat.reduceAdd, reduceCtorEq, ↓reduceIte, c1]
  have e2 : compact xs = xs := by
   rw [← cq_all, ← e1, k3, e1, List.take_length]
  refine end_ret (v := .so i ver 0 xs.length) (by simp -implicitDefEqProofs only [go_sem, ↓reduceIte, Try.f58] <;> rfl) ⟨xs.map eGTuple, ?_⟩
  rw [e2]
  exact ⟨by simp, List.take_of_length_le (by simp), rfl, rfl⟩
end Go.Proofs.Ytjkdbakgnnhdnaa.Ab

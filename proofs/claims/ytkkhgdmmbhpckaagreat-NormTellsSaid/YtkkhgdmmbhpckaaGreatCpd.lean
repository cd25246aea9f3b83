/-
 slices.CompactFunc by a function that tells equal ones, over a row of the caller's own.
-/
import Derived.Test.YtkkhgdmmbhpckaaGreatNda
import Derived.Test.YtkkhgdmmbhpckaaGreatPre
import Derived.Test.YtkkhgdmmbhpckaaGreatCq
namespace Go.Proofs.YtkkhgdmmbhpckaaGreat.Ab
open Go.RowKit Lib
theorem sd_cpt {i ver : Nat} (xs : List GSod) (heq : ∀ x ∈ xs, ∀ y ∈ xs, PureOK Tryz.prog 44 [.ag (eGSod x), .ag (eGSod y)] (.v (.bool (decide (x = y)))) true) (h0 : 0 < xs.length) (hn : xs.length ≤ 4294967296) {hp : Hp} (nx : Nat) :
  InlOK Tryz.prog 68 [.so i ver 0 xs.length, .fn 44 []] (upd i (some (.rw (xs.map eGSod) 3 ver false false)) hp) nx fun v hp' _ => ∃ es, (compact xs).length ≤ es.length ∧ es.take (compact xs).length = (compact xs).map eGSod ∧ v = .so i ver 0 (compact xs).length ∧ hp' = upd i (some (.rw es 3 ver false false)) hp := by
 refine v4_ (tab := tab) qo_ fol Tryz.func68 rfl (by kernel_rfl) (by kernel_rfl) (by simp [Tryz.f68]) ?_;by_cases h1 : xs.length < 2
 ·have c0 : decide ((xs.length : Int) < 2) = true := by simp; omega
  simp -implicitDefEqProofs only [go_sem, Nat.reduceAdd, reduceCtorEq, ↓reduceIte, c0]
  have e1 : compact xs = xs := by
   have : xs.length = 1 := by omega
   rw [← xO_, this, k4_ h0, ← this, List.take_length]
  refine xt_ (v := .so i ver 0 xs.length) (by simp -implicitDefEqProofs only [go_sem, ↓reduceIte, Tryz.f68] <;> rfl) ⟨xs.map eGSod, ?_⟩
  rw [e1];exact ⟨by simp, List.take_of_length_le (by simp), rfl, rfl⟩
 have c0 : decide ((xs.length : Int) < 2) = false := by simp; omega
 simp -implicitDefEqProofs only [go_sem, Nat.reduceAdd, reduceCtorEq, ↓reduceIte, c0]
 refine va_ (fun p : { p : Nat × Nat // 1 ≤ p.1 ∧ p.1 ≤ xs.length ∧ cq xs p.1 = xs.take p.1 } => ⟨upd 0 (.so i ver 0 xs.length) (upd 1 (.fn 44 []) (upd 5 (.v (.int .i64 (p.1.1 : Int))) noFr)), upd i (some (.rw (xs.map eGSod) 3 ver false false)) (hp), p.1.2⟩) (fun p => xs.length + 1 - p.1.1) ⟨(1, _), Nat.le_refl _, h0, k4_ h0⟩ ⟨qu_ rfl (qu_ rfl (qu_ rfl (vx_ _))), (WH.upd (by simp [qP_] <;> rfl) (WH.base fun t ht => by simp_all [qP_])).all, Nat.le_refl _⟩ ?_
 rintro ⟨⟨k, m⟩, hI⟩;simp only at hI;obtain ⟨k1, k2, k3⟩ := hI;by_cases hk : k < xs.length
 ·obtain ⟨q, rfl⟩ : ∃ q, k = q + 1 := ⟨k - 1, by omega⟩
  have c1 := w5_ hk;have w1 : IntKind.i64.wrap (((q + 1 : Nat) : Int) - 1) = (q : Int) := by rw [IntWalk.i64_in _ (by omega)]; omega
  have w2 : IntKind.i64.wrap (((q + 1 : Nat) : Int) + 1) = ((q + 1 + 1 : Nat) : Int) := xn_ (by omega);have r1 : (xs.map eGSod)[q + 1]? = some (eGSod xs[q + 1]) := by rw [List.getElem?_map, List.getElem?_eq_getElem hk]; rfl
  have r2 : (xs.map eGSod)[q]? = some (eGSod xs[q]) := by rw [List.getElem?_map, List.getElem?_eq_getElem (by omega)]; rfl
  have l2 : q < xs.length := by omega
  simp -implicitDefEqProofs only [go_sem, Nat.reduceEqDiff, Nat.reduceAdd, reduceCtorEq, ↓reduceIte, c1, w1, r1, r2, hk, l2]
  refine zn_ (by first | rfl | (simp -implicitDefEqProofs only [go_sem]; done) | (simp -implicitDefEqProofs only [go_sem]; rfl)) (heq xs[q + 1] (List.getElem_mem _) xs[q] (List.getElem_mem _)) (.inr rfl) ?_
  simp -implicitDefEqProofs only [go_sem, Bool.and_self]
  refine qf_ (by rfl) ?_
  simp -implicitDefEqProofs only [go_sem, ↓reduceIte]
  refine zm_ (fun h => ?_) (fun h => ?_)
  ·have hd : xs[q + 1] = xs[q] := of_decide_eq_true h
   have e1 : cq xs (q + 1 + (0 + 1)) = xs.take (q + 1) := (yg_ hk hd).trans k3;have hle := Nat.le_of_lt hk
   simp -implicitDefEqProofs only [go_sem, Nat.reduceEqDiff, Nat.reduceAdd, reduceCtorEq, ↓reduceIte, or_true, hle, hk]
   refine va_ (fun p : { p : Nat × Nat × List GSod × Nat // q + 1 + (p.1 + 1) ≤ xs.length ∧ p.2.1 = (cq xs (q + 1 + (p.1 + 1))).length ∧ p.2.2.1 = yq xs (q + 1 + (p.1 + 1)) ∧ p.2.1 ≤ q + 1 + p.1 } => ⟨upd 0 (.so i ver 0 xs.length) (upd 1 (.fn 44 []) (upd 5 (.v (.int .i64 (p.1.2.1 : Int))) (upd 6 (.so i ver (q + 1) (xs.length - (q + 1))) (upd 7 (.v (.int .i64 ((p.1.1 + 1 : Nat) : Int))) noFr)))), upd i (some (.rw (p.1.2.2.1.map eGSod) 3 ver false false)) (hp), p.1.2.2.2⟩) (fun p => xs.length - p.1.1) ⟨(0, q + 1, xs, _), by omega, by show q + 1 = _; rw [e1, List.length_take]; omega, ((wa_ (yg_ hk hd)).trans (gU_ k3 k2)).symm, Nat.le_refl _⟩ ⟨qu_ rfl (qu_ rfl (qu_ rfl (qu_ rfl (qu_ rfl (vx_ _))))), (WH.upd (by simp [qP_] <;> rfl) (WH.base fun t ht => by simp_all [qP_])).all, Nat.le_refl _⟩ ?_
   rintro ⟨⟨t, l, ys, m⟩, hI⟩;simp only at hI;obtain ⟨t1, t2, t3, t4⟩ := hI;have hy : ys.length = xs.length := by rw [t3]; exact fK_ t1
   have n3 : l < xs.length := by omega
   by_cases hm : q + 1 + (t + 1) < xs.length
   ·have c2 : decide (((t + 1 : Nat) : Int) < ((xs.length - (q + 1) : Nat) : Int)) = true := w5_ (by omega)
    have w3 : IntKind.i64.wrap (((t + 1 : Nat) : Int) - 1) = (t : Int) := by rw [IntWalk.i64_in _ (by omega)]; omega
    have n1 : t + 1 < xs.length - (q + 1) := by omega
    have n2 : t < xs.length - (q + 1) := by omega
    have hm2 : q + 1 + t < xs.length := by omega
    have r3 : (ys.map eGSod)[q + 1 + (t + 1)]? = some (eGSod xs[q + 1 + (t + 1)]) := by rw [List.getElem?_map, t3, yh_ (by omega) hm]; rfl
    have r4 : (ys.map eGSod)[q + 1 + t]? = some (eGSod xs[q + 1 + t]) := by rw [List.getElem?_map, t3, yh_ (by omega) hm2]; rfl
    simp -implicitDefEqProofs only [go_sem, Nat.reduceEqDiff, Nat.reduceAdd, reduceCtorEq, ↓reduceIte, c2, w3, r3, r4, n1, n2]
    refine zn_ (by first | rfl | (simp -implicitDefEqProofs only [go_sem]; done) | (simp -implicitDefEqProofs only [go_sem]; rfl)) (heq xs[q + 1 + (t + 1)] (List.getElem_mem _) xs[q + 1 + t] (List.getElem_mem _)) (.inr rfl) ?_
    simp -implicitDefEqProofs only [go_sem, Bool.and_self, Nat.reduceAdd, ↓reduceIte]
    refine qf_ (by rfl) ?_
    simp -implicitDefEqProofs only [go_sem, ↓reduceIte]
    have w5 : IntKind.i64.wrap (((t + 1 : Nat) : Int) + 1) = ((t + 1 + 1 : Nat) : Int) := xn_ (by omega);refine zm_ (fun h => ?_) (fun h => ?_)
    ·have hne : xs[q + 1 + (t + 1)] ≠ xs[q + 1 + t] := by
      simpa using h
     have w4 : IntKind.i64.wrap ((l : Int) + 1) = ((l + 1 : Nat) : Int) := xn_ (by omega);have r5 : (ys.map eGSod)[l]? = some (eGSod xs[l]) := by rw [List.getElem?_map, t3, yh_ (by omega) n3]; rfl
     have r6 : (ys.map eGSod).set l (eGSod xs[q + 1 + (t + 1)]) = (yq xs (q + 1 + (t + 1 + 1))).map eGSod := by
      rw [← List.map_set, t3, t2];exact congrArg _ (fL_ (m := q + 1 + t) hm (by rw [← show l = (cq xs (q + 1 + t + 1)).length from t2]; exact n3) hne)
     simp -implicitDefEqProofs only [go_sem, Nat.reduceEqDiff, Nat.reduceAdd, reduceCtorEq, ↓reduceIte, r3, r5, n1, n3, r6, w4, w5, setL, List.take_zero, List.nil_append, List.length_cons, List.length_nil, List.drop_succ_cons, List.drop_zero, List.drop_nil, List.append_nil]
     have e6 : (cq xs (q + 1 + (t + 1 + 1))).length = l + 1 := by rw [show cq xs (q + 1 + (t + 1 + 1)) = _ from gT_ (m := q + 1 + t) hm hne, List.length_append, List.length_singleton, t2]; rfl
     exact ⟨⟨(t + 1, l + 1, yq xs (q + 1 + (t + 1 + 1)), _), by simp only; omega, by simp only; omega, rfl, by simp only; omega⟩, ⟨qu_ rfl (qu_ rfl (qu_ rfl (qu_ rfl (qu_ rfl (vx_ _))))), (WH.upd (by simp [qP_] <;> rfl) (WH.base fun t ht => by simp_all [qP_])).all, Nat.le_refl _⟩, by simp only; omega⟩
    ·have heq : xs[q + 1 + (t + 1)] = xs[q + 1 + t] := by
      simpa using h
     have e5 : cq xs (q + 1 + (t + 1 + 1)) = cq xs (q + 1 + (t + 1)) := yg_ (m := q + 1 + t) hm heq
     simp -implicitDefEqProofs only [go_sem, Nat.reduceEqDiff, Nat.reduceAdd, reduceCtorEq, ↓reduceIte, w5]
     exact ⟨⟨(t + 1, l, ys, _), by simp only; omega, by simp only; rw [e5]; exact t2, by simp only; rw [t3]; exact (wa_ (m := q + 1 + t) e5).symm, by simp only; omega⟩, ⟨qu_ rfl (qu_ rfl (qu_ rfl (qu_ rfl (qu_ rfl (vx_ _))))), (WH.upd (by simp [qP_] <;> rfl) (WH.base fun t ht => by simp_all [qP_])).all, Nat.le_refl _⟩, by simp only; omega⟩
   ·have em : q + 1 + (t + 1) = xs.length := by omega
    have hl : l = (compact xs).length := by rw [t2, em, xO_]
    subst hl;have c2 : decide (((t + 1 : Nat) : Int) < ((xs.length - (q + 1) : Nat) : Int)) = false := ub_ (by omega);have n4 := Nat.le_of_lt n3;have n5 : ¬ (xs.length - (compact xs).length = 0) := by omega
    have n6 : (compact xs).length + (xs.length - (compact xs).length) ≤ xs.length := by omega
    simp -implicitDefEqProofs only [go_sem, Nat.reduceLT, Nat.reduceEqDiff, Nat.reduceAdd, reduceCtorEq, ↓reduceIte, c2, or_true, true_or, n3, n4, n5, n6, hy, Nat.sub_zero]
    have hcl := hB_ xs xs.length;rw [xO_] at hcl
    refine xt_ (v := .so i ver 0 (compact xs).length) (by simp -implicitDefEqProofs only [go_sem, ↓reduceIte, Tryz.f68] <;> rfl) ⟨_, ?_, ?_, rfl, kI_ _ _ _ _⟩
    ·simp only [List.length_append, List.length_take, List.length_map, List.length_replicate, hy]
     omega
    ·rw [List.append_assoc, List.take_append_of_le_length (by rw [List.length_take, List.length_map, hy]; omega), List.take_take, Nat.min_self, ← List.map_take, t3, em]
     unfold yq;rw [xO_, List.take_left]
  
  ·have hd : xs[q + 1] ≠ xs[q] := of_decide_eq_false h
   simp -implicitDefEqProofs only [go_sem, Nat.reduceEqDiff, Nat.reduceAdd, reduceCtorEq, ↓reduceIte, w2]
   exact ⟨⟨(q + 1 + 1, _), by omega, by omega, by rw [gT_ hk hd, k3, List.take_append_getElem]⟩, ⟨qu_ rfl (qu_ rfl (qu_ rfl (vx_ _))), (WH.upd (by simp [qP_] <;> rfl) (WH.base fun t ht => by simp_all [qP_])).all, Nat.le_refl _⟩, by simp only; omega⟩
 ·have e1 : k = xs.length := by omega
  have c1 : decide ((k : Int) < (xs.length : Int)) = false := by simp; omega
  simp -implicitDefEqProofs only [go_sem, Nat.reduceEqDiff, Nat.reduceAdd, reduceCtorEq, ↓reduceIte, c1]
  have e2 : compact xs = xs := by
   rw [← xO_, ← e1, k3, e1, List.take_length]
  refine xt_ (v := .so i ver 0 xs.length) (by simp -implicitDefEqProofs only [go_sem, ↓reduceIte, Tryz.f68] <;> rfl) ⟨xs.map eGSod, ?_⟩
  rw [e2];exact ⟨by simp, List.take_of_length_le (by simp), rfl, rfl⟩
theorem eqt_sd (s t : List ByteArray) {n : Nat} (hn : s.length < n) (hs : s.length < 4611686018427387904) : qv_ n s t = some (decide (s = t)) := by
 unfold qv_;by_cases h : s.length = t.length
 ·have hL := ku_ (L := qy_ n s t) (xs := s) (ys := t) (E := fun x y => x.toList == y.toList) (fun x y => beqS x y) (fun _ _ => rfl) h hs n 0 (Nat.zero_le _) (by omega)
  have hL : qy_ n s t n 0 = _ := hL;rw [show ((s.length : Int) != (t.length : Int)) = false by simp [h], if_neg (by decide), hL, List.drop_zero, List.drop_zero, Zo];by_cases e : s = t
  ·rw [if_pos e, decide_eq_true e]
  ·rw [if_neg e, decide_eq_false e]
 ·rw [show ((s.length : Int) != (t.length : Int)) = true by simpa using fun e => h (by omega), if_pos rfl, decide_eq_false fun e => h (by rw [e])]
theorem sW_ (x y : GSod) (hx : x.roles.length < 4611686018427387904) : PureOK Tryz.prog 44 [.ag (eGSod x), .ag (eGSod y)] (.v (.bool (decide (x = y)))) true := wd_ (n := x.roles.length + 1) (by
 unfold xu_;rw [beqS, eqt_sd x.roles y.roles (by omega) hx];obtain ⟨a, b, c⟩ := x;obtain ⟨a', b', c'⟩ := y;simp only [GSod.mk.injEq];by_cases h1 : a = a' <;> by_cases h2 : b = b' <;> by_cases h3 : c = c' <;> simp [h1, h2, h3])
def uj_ (_n : Nat) (xs : List GSod) : Option (List GSod) := if decide (0 < xs.length) && (decide (xs.length ≤ 4294967296) && xs.all fun x => decide (x.roles.length < 4611686018427387904)) then some (compact xs) else none
theorem hA_ {n : Nat} {xs l : List GSod} (h : uj_ n xs = some l) {id ver : Nat} {hp : Hp} {nx : Nat} (hi : hp id = some (.rw (xs.map eGSod) 3 ver false false)) :
  InlOK Tryz.prog 68 [.so id ver 0 xs.length, .fn 44 []] hp nx fun v hp2 _ => v = .so id (ver + 1) 0 l.length ∧ hp2 = upd id (some (.rw (l.map eGSod) 3 (ver + 1) false false)) hp := by
 unfold uj_ at h;split at h
 ·rename_i hc
  simp only [Bool.and_eq_true, decide_eq_true_eq, List.all_eq_true] at hc;obtain ⟨h1, h2, h3⟩ := hc;cases h;have hw := sd_cpt (i := id) (ver := ver) xs (fun x hx y _ => sW_ x y (h3 x hx)) h1 h2 (hp := hp) nx;exact gK_ hi (gJ_ hw)
 ·cases h
theorem ne_ {hp : Hp} {nx : Nat} : InlOK Tryz.prog 68 [.v (.slice none 0 0), .fn 44 []] hp nx fun v hp2 _ => v = .v (.slice none 0 0) ∧ hp2 = hp := by
 refine v4_ (tab := tab) qo_ fol Tryz.func68 rfl (by kernel_rfl) (by kernel_rfl) (by simp [Tryz.f68]) ?_
 simp -implicitDefEqProofs only [go_sem, Int.reduceLT, decide_true, Nat.reduceAdd, reduceCtorEq, ↓reduceIte]
 refine xt_ (v := .v (.slice none 0 0)) (by simp -implicitDefEqProofs only [go_sem, ↓reduceIte, Tryz.f68] <;> rfl) ⟨rfl, rfl⟩
end Go.Proofs.YtkkhgdmmbhpckaaGreat.Ab

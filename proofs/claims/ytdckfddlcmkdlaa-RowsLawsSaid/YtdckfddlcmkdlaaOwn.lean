/-
  A row of tuples of the call's own: a store into it, a clearing of its end. No program in sight.
-/
import Derived.Test.YtdckfddlcmkdlaaRd
import Derived.Test.YtdckfddlcmkdlaaLaw
import Derived.Lib.SliceRun
namespace Go.Proofs.Ytdckfddlcmkdlaa
open Go.RowKit
namespace Own
open Rd Lw

theorem list_mid (l e : List Value) (a m N : Nat) (he : e.length = m) (h1 : a + m ≤ N) (h2 : N ≤ l.length) :
    (l.take a ++ e ++ l.drop (a + m)).take N = (l.take N).take a ++ e ++ (l.take N).drop (a + m) := by
  apply List.ext_getElem?
  intro i
  have hta : (l.take a).length = a := by rw [List.length_take]; omega
  have htn : ((l.take N).take a).length = a := by rw [List.length_take, List.length_take]; omega
  rw [List.getElem?_take]
  by_cases hi : i < N
  · rw [if_pos hi, List.append_assoc, List.append_assoc]
    by_cases hia : i < a
    · rw [List.getElem?_append_left (by omega), List.getElem?_append_left (by omega), List.getElem?_take, List.getElem?_take, List.getElem?_take, if_pos hia, if_pos hia, if_pos hi]
    · have L : (l.take a ++ (e ++ l.drop (a + m)))[i]? = (e ++ l.drop (a + m))[i - a]? := by rw [List.getElem?_append_right (by omega), hta]
      have R : ((l.take N).take a ++ (e ++ (l.take N).drop (a + m)))[i]? = (e ++ (l.take N).drop (a + m))[i - a]? := by rw [List.getElem?_append_right (by omega), htn]
      rw [L, R]
      by_cases him : i - a < m
      · rw [List.getElem?_append_left (by omega), List.getElem?_append_left (by omega)]
      · rw [List.getElem?_append_right (by omega), List.getElem?_append_right (by omega), List.getElem?_drop, List.getElem?_drop, List.getElem?_take, if_pos (by omega)]
  · rw [if_neg hi, List.append_assoc]
    symm
    apply List.getElem?_eq_none
    rw [List.length_append, List.length_append, htn, he, List.length_drop, List.length_take]
    omega

theorem flat_take (xs : List Tp) (k : Nat) : (flat xs).take (k * 6) = flat (xs.take k) := by
  induction xs generalizing k with
  | nil => simp [flat]
  | cons x xs ih =>
    cases k with
    | zero => simp [flat]
    | succ k =>
      have := ih k
      unfold flat at *
      rw [List.take_succ_cons, List.flatMap_cons, List.flatMap_cons, List.take_append, Tp.enc_len]
      have e1 : (k + 1) * 6 - 6 = k * 6 := by omega
      rw [e1, this, List.take_of_length_le (by rw [Tp.enc_len]; omega)]
theorem flat_drop (xs : List Tp) (k : Nat) : (flat xs).drop (k * 6) = flat (xs.drop k) := by
  induction xs generalizing k with
  | nil => simp [flat]
  | cons x xs ih =>
    cases k with
    | zero => simp
    | succ k =>
      have := ih k
      unfold flat at *
      rw [List.drop_succ_cons, List.flatMap_cons, List.drop_append, Tp.enc_len]
      have e1 : (k + 1) * 6 - 6 = k * 6 := by omega
      rw [e1, this, List.drop_eq_nil_of_le (by rw [Tp.enc_len]; omega), List.nil_append]
theorem flat_set (ys : List Tp) (k : Nat) (x : Tp) (hk : k < ys.length) : flat (ys.set k x) = (flat ys).take (k * 6) ++ x.enc ++ (flat ys).drop (k * 6 + 6) := by
  have e : k * 6 + 6 = (k + 1) * 6 := by omega
  rw [e, flat_take, flat_drop, List.set_eq_take_append_cons_drop, if_pos hk]
  simp [flat]

section
variable {P : Program} {w : World} {base g n c : Nat} {e : TypeId} {ys : List Tp}
theorem form (h : w.ownsRow base e 6 (.slice (some ⟨g, 0, none⟩) n c) n (flat ys)) : ∃ cur : Array Value, base ≤ g ∧ w.heap[g]? = some (.cells cur e (0, 0)) ∧ n ≤ c ∧ c ≤ maxLen ∧ cur.size = c * 6 ∧ cur.toList.take (n * 6) = flat ys ∧ ys.length = n := by
  have hl := h.1
  rw [flat_len] at hl
  rcases h.2 with ⟨e0, _⟩ | ⟨g', cap', cur, e0, hb, hg, hn, hm, hs, ht⟩
  · cases e0
  · injection e0 with e1 _ e3
    injection e1 with e1
    injection e1 with e1
    subst e1; subst e3
    exact ⟨cur, hb, hg, hn, hm, hs, ht, by omega⟩

theorem drewN {n : Nat} {v : Value} {xs : List Value} {size : Nat} (h : w.ownsRow base e size v n xs) (q : Nat) : (w.drewN q).ownsRow base e size v n xs := h

theorem ext_own {n : Nat} {v : Value} {xs : List Value} {size : Nat} {w' : World} (h : w.ownsRow base e size v n xs) (hb : Below w.heap.size w w') : w'.ownsRow base e size v n xs := by
  refine ⟨h.1, ?_⟩
  rcases h.2 with h0 | ⟨g, cap, cur, hv, hg, hh, r⟩
  · exact .inl h0
  · exact .inr ⟨g, cap, cur, hv, hg, (hb.block g (Array.getElem?_eq_some_iff.1 hh).1).trans hh, r⟩
theorem slice_of {n : Nat} {v : Value} {xs : List Value} {size : Nat} (h : w.ownsRow base e size v n xs) : ∃ A c, v = .slice A n c := by
  rcases h.2 with ⟨hv, h0⟩ | ⟨g, cap, cur, hv, _⟩
  · exact ⟨none, 0, by rw [hv, h0]⟩
  · exact ⟨_, _, hv⟩

theorem wp_store_own {o : Oper} {a : Act} {K : Act → World → Prop} {Q : Exit → Act → World → Prop} (ty : TypeId) (px vx : Operand) (ho : o.op = .store ty px vx) (k : Nat) (x : Tp) (h : w.ownsRow base e 6 (.slice (some ⟨g, 0, none⟩) n c) n (flat ys)) (hk : k < n)
    (hx : a.eval px = .pointer (some ⟨g, k * 6, none⟩)) (hy : a.eval vx = x.val) (hi : (P.info? ty).map (·.size) = some 6)
    (hK : ∀ w', w'.ownsRow base e 6 (.slice (some ⟨g, 0, none⟩) n c) n (flat (ys.set k x)) → Only g w w' → K (a.put o.dst (.tuple #[])) w') : o.wp P a w K Q := by
  obtain ⟨cur, hb, hg, hn, hm, hs, ht, hl⟩ := form h
  have hsz : k * 6 + 6 ≤ n * 6 := by omega
  have hsz2 : n * 6 ≤ c * 6 := by omega
  have hst := run_storeCells_at (P := P) g (k * 6) e x.enc 0 cur w hg (by rw [Tp.enc_len]; omega) x.enc_one
  rw [Nat.add_zero, Tp.enc_len] at hst
  have hsv : (storeVar ty ⟨g, k * 6, none⟩ x.val).run P w = .ok () (w.setRow g (cur.toList.take (k * 6) ++ x.enc ++ cur.toList.drop (k * 6 + 6)).toArray) := by
    have hc : x.val.cells = x.enc.toArray := rfl
    cases hq : P.info? ty with
    | none => simp [hq] at hi
    | some i =>
      have hs2 : i.size = 6 := by simpa [hq] using hi
      simp [storeVar, Sem.run_bind, sizeOf, typeInfo, hq, hc, hs2, Tp.enc_len, hst]
  unfold Oper.wp execOp
  simp only [ho, hx, hy, Instr.storeAt, Instr.sureAddr, Sem.run_bind, Sem.run_pure, Result.andThen_ok, hsv]
  refine hK _ ⟨by rw [flat_len, List.length_set, hl], .inr ⟨g, c, _, rfl, hb, setRow_heap w g cur _ e (0, 0) hg, hn, hm, ?_, ?_⟩⟩ (Only.setRow w g _)
  · simp [Tp.enc_len]
    omega
  · rw [flat_set ys k x (by omega), ← ht]
    exact list_mid cur.toList x.enc (k * 6) 6 (n * 6) x.enc_len hsz (by simp; omega)
theorem wpList_store_own {ops : Array Oper} {rest : List Oper} {o : Oper} {a : Act} {Q : Exit → Act → World → Prop} (hgd : o.guard = none) (ty : TypeId) (px vx : Operand) (ho : o.op = .store ty px vx) (k : Nat) (x : Tp) (h : w.ownsRow base e 6 (.slice (some ⟨g, 0, none⟩) n c) n (flat ys)) (hk : k < n)
    (hx : a.eval px = .pointer (some ⟨g, k * 6, none⟩)) (hy : a.eval vx = x.val) (hi : (P.info? ty).map (·.size) = some 6)
    (hK : ∀ w', w'.ownsRow base e 6 (.slice (some ⟨g, 0, none⟩) n c) n (flat (ys.set k x)) → Only g w w' → wpList P ops Q rest (a.put o.dst (.tuple #[])) w') : wpList P ops Q (o :: rest) a w :=
  wpList_plain hgd fun _ hk' => wp_store_own ty px vx ho k x h hk hx hy hi fun w' h1 h2 => hk' _ _ (hK w' h1 h2)

theorem zero_one (z : Array Value) (h1 : ∀ v ∈ z.toList, v.oneCell' = true) (hz : 0 < z.size) (m : Nat) : (Builtin.zeroCells z m).size = m * z.size ∧ ∀ v ∈ (Builtin.zeroCells z m).toList, v.oneCell' = true := by
  constructor
  · simp [Builtin.zeroCells]
  · intro v hv
    simp only [Builtin.zeroCells, Array.toList_map, List.mem_map] at hv
    obtain ⟨i, _, rfl⟩ := hv
    have : i % z.size < z.size := Nat.mod_lt _ hz
    simp [this]
    exact h1 _ (by simp)

theorem wp_clear_own {o : Oper} {a : Act} {K : Act → World → Prop} {Q : Exit → Act → World → Prop} (x : Operand) (t ee : TypeId) (ho : o.op = .call { callee := .builtin .clear, args := #[x], argTypes := #[t] }) (k m cc : Nat) (h : w.ownsRow base e 6 (.slice (some ⟨g, 0, none⟩) n c) n (flat ys)) (hk : k + m ≤ n) (hm0 : 0 < m)
    (hx : a.eval x = .slice (some ⟨g, k * 6, none⟩) m cc) (ht : P.underlying t = some (.slice ee)) (hz : ∀ w, (zeroValue ee).run P w = .ok (default : Tp).val w)
    (hK : ∀ w', At w' (some ⟨g, 0, none⟩) k c (ys.take k) → Only g w w' → K (a.put o.dst (.tuple #[])) w') : o.wp P a w K Q := by
  obtain ⟨cur, hb, hg, hn, hm, hs, htk, hl⟩ := form h
  have hat := At.of_own h
  obtain ⟨z1, z2⟩ := zero_one (default : Tp).enc.toArray (by simpa using (default : Tp).enc_one) (by decide) m
  have z1' : (Builtin.zeroCells (default : Tp).enc.toArray m).toList.length = m * 6 := by rw [Array.length_toList, z1]; rfl
  have hst := run_storeCells_at (P := P) g (k * 6) e (Builtin.zeroCells (default : Tp).enc.toArray m).toList 0 cur w hg (by rw [z1']; omega) z2
  rw [Nat.add_zero, z1'] at hst
  have hrun : ∀ ty, (Builtin.clear_ #[t] ty #[.slice (some ⟨g, k * 6, none⟩) m cc]).run P w = .ok (.tuple #[]) (w.setRow g (cur.toList.take (k * 6) ++ (Builtin.zeroCells (default : Tp).enc.toArray m).toList ++ cur.toList.drop (k * 6 + m * 6)).toArray) := by
    intro ty
    obtain ⟨m', rfl⟩ : ∃ m', m = m' + 1 := ⟨m - 1, by omega⟩
    have hc : (default : Tp).val.cells = (default : Tp).enc.toArray := rfl
    simp [Builtin.clear_, run_underlying ht, hz, hc, hst]
  unfold Oper.wp execOp
  simp only [ho, resolve, invoke, builtin, Sem.run_bind, Sem.run_pure, Result.andThen_ok, List.map_toArray, List.map_cons, List.map_nil, hx, hrun]
  have hold : w.heap[g]? = some (.cells cur e (0, 0)) := hg
  refine hK _ ⟨by rw [List.length_take, hl]; omega, by omega, hm, fun h => (by cases h), fun i y hy => ?_⟩ (Only.setRow w g _)
  rw [List.getElem?_take] at hy
  split at hy
  · rename_i hik
    obtain ⟨b, o', e1, hb1, hc1⟩ := hat.at_ i y hy
    injection e1 with e1
    injection e1 with e1 e2
    subst e1; subst e2
    refine ⟨g, 0, rfl, by simpa using hb1, fun j v hv => ?_⟩
    have h2 := hc1 j v hv
    have hj : j < 6 := by
      have := (List.getElem?_eq_some_iff.1 hv).1
      rwa [Tp.enc_len] at this
    rw [cell_of_row w g _ cur e (0, 0) hold] at h2
    rw [cell_of_row _ g _ _ e (0, 0) (setRow_heap w g cur _ e (0, 0) hold)]
    rw [List.getElem?_toArray, List.append_assoc, List.getElem?_append_left (by rw [List.length_take]; simp; omega), List.getElem?_take, if_pos (by omega), Array.getElem?_toList]
    exact h2
  · cases hy
theorem wpList_clear_own {ops : Array Oper} {rest : List Oper} {o : Oper} {a : Act} {Q : Exit → Act → World → Prop} (hgd : o.guard = none) (x : Operand) (t ee : TypeId) (ho : o.op = .call { callee := .builtin .clear, args := #[x], argTypes := #[t] }) (k m cc : Nat) (h : w.ownsRow base e 6 (.slice (some ⟨g, 0, none⟩) n c) n (flat ys)) (hk : k + m ≤ n) (hm0 : 0 < m)
    (hx : a.eval x = .slice (some ⟨g, k * 6, none⟩) m cc) (ht : P.underlying t = some (.slice ee)) (hz : ∀ w, (zeroValue ee).run P w = .ok (default : Tp).val w)
    (hK : ∀ w', At w' (some ⟨g, 0, none⟩) k c (ys.take k) → Only g w w' → wpList P ops Q rest (a.put o.dst (.tuple #[])) w') : wpList P ops Q (o :: rest) a w :=
  wpList_plain hgd fun _ hk' => wp_clear_own x t ee ho k m cc h hk hm0 hx ht hz fun w' h1 h2 => hk' _ _ (hK w' h1 h2)
end
end Own
end Go.Proofs.Ytdckfddlcmkdlaa

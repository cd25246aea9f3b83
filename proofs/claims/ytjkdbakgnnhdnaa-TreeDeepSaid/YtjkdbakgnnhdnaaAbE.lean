/-
 Open orders: two neighbours.
-/
import Derived.Test.YtjkdbakgnnhdnaaAbD
namespace Go.Proofs.Ytjkdbakgnnhdnaa.Ab
open Go.RowKit
section
variable {P : Program} {tab : Nat → TI}
def gd (ops : Array Oper) (o : Oper) (fr : Fr) : Option Bool :=
 match o.guard with
 | none => some true
 | some (j, t) => match (ops[j]?).bind (·.dst) with
  | none => some false
  | some d => match fr d with
   | .v (.bool b) => some (b == t)
   | .tu [] => some false
   | _ => none
theorem guardW_gd {ops : Array Oper} {o : Oper} {s : St} {y n : Prop} (h : guardW ops o s y n) : (gd ops o s.fr = some true ∧ y) ∨ (gd ops o s.fr = some false ∧ n) := by
 unfold guardW at h
 unfold gd
 split at h
 ·rename_i e; rw [e]; exact .inl ⟨rfl, h⟩
 ·rename_i j t e
  rw [e]
  split at h
  ·rename_i e2; simp only [e2]; exact .inr ⟨trivial, h⟩
  ·rename_i d e2
   simp only [e2]
   split at h
   ·rename_i b e3
    simp only [e3]
    by_cases hb : b = t
    ·exact .inl ⟨by simp [hb], h.1 hb⟩
    ·exact .inr ⟨by simp [hb], h.2 (by cases b <;> cases t <;> simp_all)⟩
   ·rename_i e3; simp only [e3]; exact .inr ⟨trivial, h⟩
   ·exact h.elim
theorem gd_guardW {ops : Array Oper} {o : Oper} {s : St} {y n : Prop} (h : (gd ops o s.fr = some true ∧ y) ∨ (gd ops o s.fr = some false ∧ n)) : guardW ops o s y n := by
 unfold gd at h
 unfold guardW
 split at h
 ·rename_i e
  simp only [e]
  rcases h with h | h
  ·exact h.2
  ·cases h.1
 ·rename_i j t e
  simp only [e]
  split at h
  ·rename_i e2
   simp only [e2]
   rcases h with h | h
   ·cases h.1
   ·exact h.2
  ·rename_i d e2
   simp only [e2]
   split at h
   ·rename_i b e3
    simp only [e3]
    rcases h with h | h
    ·have hb : b = t := by simpa using h.1
     exact ⟨fun _ => h.2, fun e => by subst hb; cases b <;> cases e⟩
    ·have hb : ¬ b = t := by simpa using h.1
     exact ⟨fun e => absurd e hb, fun _ => h.2⟩
   ·rename_i e3
    simp only [e3]
    rcases h with h | h
    ·cases h.1
    ·exact h.2
   ·rcases h with h | h <;> cases h.1
theorem gd_congr {ops : Array Oper} {o : Oper} {fr fr' : Fr} (h : ∀ t ∈ readsOf ops o, fr t = fr' t) : gd ops o fr = gd ops o fr' := by
 unfold gd
 cases hg : o.guard with
 | none => rfl
 | some p =>
  obtain ⟨j, t⟩ := p
  simp only
  cases hd : (ops[j]?).bind (·.dst) with
  | none => rfl
  | some d => simp only [h d (by simp [readsOf, hg, hd])]
theorem ev_congr {ops : Array Oper} {o : Oper} {fr fr' : Fr} (h : ∀ t ∈ readsOf ops o, fr t = fr' t) : ∀ x ∈ o.op.operands.toList, ev fr x = ev fr' x := by
 intro x hx
 cases x with
 | tmp t =>
  refine h t ?_
  simp only [readsOf, List.mem_append, List.mem_filterMap]
  exact .inl ⟨.tmp t, hx, rfl⟩
 | _ => rfl
def ExD (P : Program) (tab : Nat → TI) (op : Op) (id nx : Nat) (fr : Fr) (hp : Hp) (v : AV) (δ : List (Nat × AO)) (ids : List Nat) (n : Option Nat) : Prop :=
 match op with
 | .call { callee := .value f, args, .. } => ∃ g caps, ev fr f = .fn g caps ∧ ((∃ ds b is d fr', toDl hp (args.toList.map (ev fr) ++ caps) = some (ds, b, is) ∧ PureOK P g ds d fr' ∧ (is = [] ∨ fr' = true) ∧ v = lift (!fr' && b) d ∧ δ = [] ∧ ids = idsOp (ev fr) op ∧ n = none) ∨
   ∃ nx', DetOK P g (args.toList.map (ev fr) ++ caps) hp nx ids v δ nx' ∧ n = some nx')
 | op => evalOp tab (ev fr) hp id op = some (v, δ) ∧ ids = idsOp (ev fr) op ∧ n = none
theorem execD_ex {op : Op} {id nx : Nat} {fr : Fr} {hp : Hp} {K : AV → List (Nat × AO) → List Nat → Option Nat → Prop} (h : execD P tab op id nx fr hp K) : ∃ v δ ids n, ExD P tab op id nx fr hp v δ ids n ∧ K v δ ids n := by
 unfold execD at h
 unfold ExD
 split at h
 ·split at h
  ·rename_i g caps e
   rcases h with ⟨ds, b, is, d, fr', h1, h2, h3, h4⟩ | ⟨ids, v, δ, nx', h1, h2⟩
   ·exact ⟨_, _, _, _, ⟨g, caps, e, .inl ⟨ds, b, is, d, fr', h1, h2, h3, rfl, rfl, rfl, rfl⟩⟩, h4⟩
   ·exact ⟨_, _, _, _, ⟨g, caps, e, .inr ⟨nx', h1, rfl⟩⟩, h2⟩
  ·exact h.elim
 ·rename_i hne
  split at h
  ·rename_i v δ e
   refine ⟨v, δ, _, _, ?_, h⟩
   split
   ·rename_i f args ty
    exact absurd rfl (hne f args ty)
   ·exact ⟨e, rfl, rfl⟩
  ·exact h.elim
theorem ex_execW {op : Op} {id : Nat} {s : St} {K : AV → Hp → Nat → Prop} {v : AV} {δ : List (Nat × AO)} {ids : List Nat} {n : Option Nat} (h : ExD P tab op id s.nx s.fr s.hp v δ ids n) (hK : K v (upds δ s.hp) (n.getD s.nx)) : execW P tab op id s K := by
 unfold ExD at h
 unfold execW
 split at h
 ·obtain ⟨g, caps, e, h⟩ := h
  simp only [callW, e]
  rcases h with ⟨ds, b, is, d, fr', h1, h2, h3, rfl, rfl, rfl, rfl⟩ | ⟨nx', h1, rfl⟩
  ·exact .inl ⟨ds, b, is, d, fr', h1, h2, h3, hK⟩
  ·refine .inr ((h1 s.hp ⟨fun _ _ => rfl, fun _ => rfl⟩).mono ?_)
   rintro _ _ _ ⟨rfl, rfl, rfl⟩
   exact hK
 ·rename_i hne
  obtain ⟨h, rfl, rfl⟩ := h
  split
  ·rename_i f args ty
   exact absurd rfl (hne f args ty)
  ·rw [h]; exact hK
theorem ExD_congr {op : Op} {id nx nx1 : Nat} {fr fr' : Fr} {hp hp' : Hp} {v : AV} {δ : List (Nat × AO)} {ids : List Nat} {n : Option Nat} (h : ExD P tab op id nx fr hp v δ ids n) (hρ : ∀ x ∈ op.operands.toList, ev fr x = ev fr' x) (hh : ∀ i ∈ ids, hp i = hp' i) (hw : n.isSome = true → sent ∈ ids → hp = hp') (hn : n.isSome = true → nx = nx1) : ExD P tab op id nx1 fr' hp' v δ ids n := by
 have hids : idsOp (ev fr) op = idsOp (ev fr') op := by
  unfold idsOp
  split
  ·rw [List.map_congr_left hρ]
  ·rfl
 unfold ExD at *
 split at h
 ·rename_i f args ty
  obtain ⟨g, caps, e, h⟩ := h
  have hf : ev fr f = ev fr' f := hρ f (by simp [Op.operands, Call.operands])
  have ha : args.toList.map (ev fr) = args.toList.map (ev fr') := List.map_congr_left fun x hx => hρ x (by simp [Op.operands, Call.operands] at hx ⊢; exact .inr hx)
  refine ⟨g, caps, hf ▸ e, ?_⟩
  rcases h with ⟨ds, b, is, d, fr2, h1, h2, h3, h4, h5, h6, h7⟩ | ⟨nx', h1, h2⟩
  ·refine .inl ⟨ds, b, is, d, fr2, ?_, h2, h3, h4, h5, h6.trans hids, h7⟩
   rw [← ha, ← toDl_local (hp := hp) (hp' := hp')]
   ·exact h1
   ·intro i hi
    refine hh i ?_
    rw [h6]
    simp only [idsOp, looks, if_true, Op.operands, Call.operands]
    rw [idsL_append] at hi
    simp only [Array.toList_append, List.map_append, idsL_append, List.mem_append]
    rcases List.mem_append.1 hi with hi | hi
    ·exact .inr hi
    ·exact .inl (by simp [idsL, e, idsA]; exact hi)
  ·subst h2
   have hnx := hn rfl
   subst hnx
   refine .inr ⟨nx', fun hp1 hq => ?_, rfl⟩
   rw [← ha]
   exact h1 hp1 ⟨fun i hi => (hq.1 i hi).trans (hh i hi).symm, fun hs => (hq.2 hs).trans (hw rfl hs).symm⟩
 ·obtain ⟨h1, h2, h3⟩ := h
  rw [← evalOp_congr hρ fun i hi => hh i (by rw [h2]; exact hi)]
  exact ⟨h1, h2.trans hids, h3⟩
def Sat (P : Program) (tab : Nat → TI) (ops : Array Oper) (nx0 k : Nat) (o : Oper) (nx : Nat) (fr : Fr) (hp : Hp) (v : AV) (δ : List (Nat × AO)) (rc : Rec) (n : Option Nat) : Prop :=
 (gd ops o fr = some true ∧ ExD P tab o.op (nx0 + k) nx fr hp v δ rc.ids n ∧ rc.ks = δ.map (·.1) ∧ rc.g = n.isSome) ∨ (gd ops o fr = some false ∧ v = .tu [] ∧ δ = [] ∧ n = none ∧ rc.ids = [] ∧ rc.ks = [] ∧ rc.g = false)
theorem Sat.ks {ops : Array Oper} {nx0 k : Nat} {o : Oper} {nx : Nat} {fr : Fr} {hp : Hp} {v : AV} {δ : List (Nat × AO)} {rc : Rec} {n : Option Nat} (h : Sat P tab ops nx0 k o nx fr hp v δ rc n) : rc.ks = δ.map (·.1) ∧ rc.g = n.isSome := by
 rcases h with h | h
 ·exact h.2.2
 ·rw [h.2.2.1, h.2.2.2.1]; exact ⟨h.2.2.2.2.2.1, h.2.2.2.2.2.2⟩
theorem frAt_v {ops : Array Oper} {v v' : Nat → AV} {fr0 : Fr} {S : Nat → Bool} : ∀ n, (∀ k, k < n → v k = v' k) → frAt ops v fr0 S n = frAt ops v' fr0 S n
 | 0, _ => rfl
 | n + 1, h => by simp only [frAt, frAt_v n fun k hk => h k (by omega), h n (by omega)]
theorem hpAt_v {δ δ' : Nat → List (Nat × AO)} {hp0 : Hp} {S : Nat → Bool} : ∀ n, (∀ k, k < n → δ k = δ' k) → hpAt δ hp0 S n = hpAt δ' hp0 S n
 | 0, _ => rfl
 | n + 1, h => by simp only [hpAt, hpAt_v n fun k hk => h k (by omega), h n (by omega)]
theorem WD_trace {ops : Array Oper} {nx0 nxb : Nat} {K : St → Prop} {fr0 : Fr} {hp0 : Hp} : ∀ (r : List Oper) (i : Nat) (acc : List Rec) (v : Nat → AV) (δ : Nat → List (Nat × AO)) (rc : Nat → Rec) (m : Nat → Option Nat), i + r.length = ops.size → (∀ (k : Nat) (o : Oper), r[k]? = some o → ops[i + k]? = some o) → acc.reverse = (List.range i).map rc →
  WD P tab ops nx0 K (nxAt m nxb (fun _ => true) i) i r acc (frAt ops v fr0 (fun _ => true) i) (hpAt δ hp0 (fun _ => true) i) →
  ∃ v' δ' rc' m', (∀ k, k < i → v' k = v k ∧ δ' k = δ k ∧ rc' k = rc k ∧ m' k = m k) ∧ (∀ k o, i ≤ k → ops[k]? = some o → Sat P tab ops nx0 k o (nxAt m' nxb (fun _ => true) k) (frAt ops v' fr0 (fun _ => true) k) (hpAt δ' hp0 (fun _ => true) k) (v' k) (δ' k) (rc' k) (m' k)) ∧
   okAll ops ((List.range ops.size).map rc') = true ∧ K ⟨frAt ops v' fr0 (fun _ => true) ops.size, hpAt δ' hp0 (fun _ => true) ops.size, nxAt m' nxb (fun _ => true) ops.size⟩
 | [], i, acc, v, δ, rc, m, hl, hr, ha, h => by
  simp only [List.length_nil, Nat.add_zero] at hl
  subst hl
  obtain ⟨h1, h2⟩ := h
  refine ⟨v, δ, rc, m, fun _ _ => ⟨rfl, rfl, rfl, rfl⟩, fun k o hk ho => ?_, by rw [← ha]; exact h1, h2⟩
  have := (Array.getElem?_eq_some_iff.1 ho).1
  omega
 | o :: r, i, acc, v, δ, rc, m, hl, hr, ha, h => by
  have ho : ops[i]? = some o := by simpa using hr 0 o rfl
  simp only [List.length_cons] at hl
  have step : ∀ (v1 : AV) (δ1 : List (Nat × AO)) (rc1 : Rec) (m1 : Option Nat), Sat P tab ops nx0 i o (nxAt m nxb (fun _ => true) i) (frAt ops v fr0 (fun _ => true) i) (hpAt δ hp0 (fun _ => true) i) v1 δ1 rc1 m1 →
    WD P tab ops nx0 K (m1.getD (nxAt m nxb (fun _ => true) i)) (i + 1) r (rc1 :: acc) (putS o.dst v1 (frAt ops v fr0 (fun _ => true) i)) (upds δ1 (hpAt δ hp0 (fun _ => true) i)) →
    ∃ v' δ' rc' m', (∀ k, k < i → v' k = v k ∧ δ' k = δ k ∧ rc' k = rc k ∧ m' k = m k) ∧ (∀ k o, i ≤ k → ops[k]? = some o → Sat P tab ops nx0 k o (nxAt m' nxb (fun _ => true) k) (frAt ops v' fr0 (fun _ => true) k) (hpAt δ' hp0 (fun _ => true) k) (v' k) (δ' k) (rc' k) (m' k)) ∧
     okAll ops ((List.range ops.size).map rc') = true ∧ K ⟨frAt ops v' fr0 (fun _ => true) ops.size, hpAt δ' hp0 (fun _ => true) ops.size, nxAt m' nxb (fun _ => true) ops.size⟩ := by
   intro v1 δ1 rc1 m1 hs hw
   have e1 : frAt ops (upd i v1 v) fr0 (fun _ => true) (i + 1) = putS o.dst v1 (frAt ops v fr0 (fun _ => true) i) := by
    simp only [frAt, if_true, upd_same, ho, Option.bind_some]
    rw [frAt_v i fun k hk => upd_ne _ _ (by omega)]
   have e2 : hpAt (upd i δ1 δ) hp0 (fun _ => true) (i + 1) = upds δ1 (hpAt δ hp0 (fun _ => true) i) := by
    simp only [hpAt, if_true, upd_same]
    rw [hpAt_v i fun k hk => upd_ne _ _ (by omega)]
   have e3 : nxAt (upd i m1 m) nxb (fun _ => true) (i + 1) = m1.getD (nxAt m nxb (fun _ => true) i) := by
    simp only [nxAt, if_true, upd_same]
    rw [nxAt_v i fun k hk => upd_ne _ _ (by omega)]
   rw [← e1, ← e2, ← e3] at hw
   obtain ⟨v', δ', rc', m', g1, g2, g3⟩ := WD_trace r (i + 1) (rc1 :: acc) (upd i v1 v) (upd i δ1 δ) (upd i rc1 rc) (upd i m1 m) (by omega) (fun k o' hk => by
    have := hr (k + 1) o' (by simpa using hk)
    rw [Nat.add_assoc, Nat.add_comm 1 k]
    exact this) (by
    rw [List.reverse_cons, ha, List.range_succ, List.map_append]
    congr 1
    ·exact List.map_congr_left fun k hk => (upd_ne _ _ (by have := List.mem_range.1 hk; omega)).symm
    ·simp [upd_same]) hw
   refine ⟨v', δ', rc', m', fun k hk => ?_, fun k o' hk ho' => ?_, g3⟩
   ·obtain ⟨q1, q2, q3, q4⟩ := g1 k (by omega)
    rw [upd_ne _ _ (by omega)] at q1 q2 q3 q4
    exact ⟨q1, q2, q3, q4⟩
   ·by_cases e : k = i
    ·subst e
     rw [ho] at ho'
     cases ho'
     obtain ⟨q1, q2, q3, q4⟩ := g1 k (by omega)
     rw [upd_same] at q1 q2 q3 q4
     rw [q1, q2, q3, q4, frAt_v k fun j hj => ?_, hpAt_v k fun j hj => ?_, nxAt_v k fun j hj => ?_]
     ·exact hs
     ·have := (g1 j (by omega)).2.2.2
      rw [upd_ne _ _ (by omega)] at this
      exact this
     ·have := (g1 j (by omega)).2.1
      rw [upd_ne _ _ (by omega)] at this
      exact this
     ·have := (g1 j (by omega)).1
      rw [upd_ne _ _ (by omega)] at this
      exact this
    ·exact g2 k o' (by omega) ho'
  unfold WD at h
  rcases guardW_gd h with ⟨hg, h⟩ | ⟨hg, h⟩
  ·obtain ⟨v1, δ1, ids1, n1, h1, h2⟩ := execD_ex h
   exact step v1 δ1 _ n1 (.inl ⟨hg, h1, rfl, rfl⟩) h2
  ·exact step (.tu []) [] ⟨[], [], false⟩ none (.inr ⟨hg, rfl, rfl, rfl, rfl, rfl, rfl⟩) h
end
end Go.Proofs.Ytjkdbakgnnhdnaa.Ab

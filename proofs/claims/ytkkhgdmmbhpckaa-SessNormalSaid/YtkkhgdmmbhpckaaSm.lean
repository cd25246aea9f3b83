/-
 What sess.Roles, Active, May, MayIn answer, told plainly. No program in sight.
-/
import Derived.Test.YtkkhgdmmbhpckaaRg
import Derived.Test.YtkkhgdmmbhpckaaTx
namespace Go.Proofs.Ytkkhgdmmbhpckaa.Ab
open Go.RowKit
theorem once_some {n : Nat} {xs : List ByteArray} (h : xs.length ≤ 4294967296) : norm_Once n xs = some (tx.ofL xs) := by
 unfold norm_Once
 rw [if_pos h]
 exact congrArg some (once_set xs)
attribute [local instance] baLawful
structure Few (p : GRoles) : Prop where
 u : p.users.length ≤ 100000
 i : p.inherit.length ≤ 4000
 a : p.assign.length ≤ 100000
 g : p.grants.length ≤ 100000
 s : p.sessions.length ≤ 100000
 r : ∀ x ∈ p.sessions, x.roles.length ≤ 100000
section
variable {n : Nat} {p : GRoles} (hn : 200000 ≤ n) (hf : Few p)
include hn hf in
theorem closed_fold : ∀ (roles out : List ByteArray) (rs : List ByteArray), out.length + roles.length * 4001 ≤ 4294967296 →
  ∃ L, foldK (sess_closed_L1_f n p rs) (sess_closed_L1_e n p rs) roles out = some L ∧ (∀ y, y ∈ L ↔ y ∈ out ∨ ∃ s ∈ roles, Dn p.inherit s y) ∧ L.length ≤ out.length + roles.length * 4001
 | [], out, rs, h => ⟨out, rfl, fun y => by simp, by simp⟩
 | x :: roles, out, rs, h => by
  have hi := hf.i
  rw [List.length_cons, Nat.add_mul] at h
  obtain ⟨d, h1, h2, h3⟩ := down_some (n := n) (p := p) (by omega) (by omega) x
  have hd := rises_len h2 (U := x :: p.inherit.map fun p => p.b) fun y hy => dn_in ((h3 y).1 hy)
  rw [List.length_cons, List.length_map] at hd
  rw [foldK]
  unfold sess_closed_L1_f
  dsimp only
  rw [h1, Zo]
  have happ : app out d = some (out ++ d) := appS (by omega)
  obtain ⟨L, k1, k2, k3⟩ := closed_fold roles (out ++ d) rs (by rw [List.length_append]; omega)
  refine ⟨L, ?_, fun y => (k2 y).trans ?_, ?_⟩
  ·cases out with
   | nil =>
    rw [decide_eq_true (by rfl), if_pos rfl, happ, Zo]
    exact k1
   | cons z out =>
    rw [decide_eq_false (by simp), if_neg (by decide), happ, Zo]
    exact k1
  ·rw [List.mem_append, h3]
   constructor
   ·rintro ((h | h) | ⟨s, hs, h⟩)
    ·exact .inl h
    ·exact .inr ⟨x, List.mem_cons_self .., h⟩
    ·exact .inr ⟨s, List.mem_cons_of_mem _ hs, h⟩
   ·rintro (h | ⟨s, hs, h⟩)
    ·exact .inl (.inl h)
    ·rcases List.mem_cons.1 hs with rfl | hs
     ·exact .inl (.inr h)
     ·exact .inr ⟨s, hs, h⟩
  ·rw [List.length_append] at k3
   rw [List.length_cons, Nat.add_mul]
   omega
include hn hf in
theorem closed_some {roles : List ByteArray} (hr : roles.length ≤ 100000) : ∃ r, sess_closed n p roles = some r ∧ tx.Rises r ∧ (∀ y, y ∈ r ↔ ∃ s ∈ roles, Dn p.inherit s y) ∧ r.length ≤ 104000 := by
 have hi := hf.i
 obtain ⟨L, k1, k2, k3⟩ := closed_fold hn hf roles [] roles (by simp; omega)
 have hL : sess_closed_L1 n p roles n ([], 0) = _ := sess_closed_L1_list n p roles (by omega) n [] 0 (Nat.zero_le _) (by omega)
 have hm : ∀ y, y ∈ tx.ofL L ↔ ∃ s ∈ roles, Dn p.inherit s y := fun y => by
  rw [tx.mem_ofL, k2]
  simp
 unfold sess_closed
 rw [hL, List.drop_zero, k1, Zo, once_some (by simp at k3; omega)]
 refine ⟨_, rfl, tx.rises_ofL _, hm, ?_⟩
 have := rises_len (tx.rises_ofL L) (U := roles ++ p.inherit.map fun p => p.b) fun y hy => by
  obtain ⟨s, hs, hd⟩ := (hm y).1 hy
  rcases List.mem_cons.1 (dn_in hd) with rfl | h
  ·exact List.mem_append_left _ hs
  ·exact List.mem_append_right _ h
 rw [List.length_append, List.length_map] at this
 omega
def RolP (p : GRoles) (u y : ByteArray) : Prop := u ∈ p.users ∧ ∃ s, ⟨u, s⟩ ∈ p.assign ∧ Dn p.inherit s y
def ActP (p : GRoles) (s y : ByteArray) : Prop := ∃ x, (p.sessions.find? fun x => decide (x.name = s)) = some x ∧ ∃ r ∈ x.roles, Dn p.inherit r y
theorem own_fold {q : GRoles} (u : ByteArray) : ∀ (xs : List GPair) (own : List ByteArray), own.length + xs.length ≤ 4294967296 →
  foldK (sess_Roles_L1_f n q u) (sess_Roles_L1_e n q u) xs own = some (own ++ (xs.filter fun x => decide (x.a = u)).map fun x => x.b)
 | [], own, _ => by simp [foldK, sess_Roles_L1_e]
 | x :: xs, own, h => by
  rw [List.length_cons] at h
  rw [foldK]
  unfold sess_Roles_L1_f
  dsimp only
  rw [beqS, List.filter_cons]
  by_cases e : x.a = u
  ·have happ : app own [x.b] = some (own ++ [x.b]) := appS (by simp; omega)
   rw [decide_eq_true e, if_pos rfl, happ, Zo, if_pos rfl]
   refine (own_fold u xs _ (by rw [List.length_append, List.length_singleton]; omega)).trans ?_
   simp
  ·rw [decide_eq_false e, if_neg (by decide), if_neg (by decide)]
   exact own_fold u xs own (by omega)
include hn hf in
theorem roles_some (u : ByteArray) : ∃ r, sess_Roles n p u = some r ∧ tx.Rises r ∧ (∀ y, y ∈ r ↔ RolP p u y) ∧ r.length ≤ 104000 := by
 have hu := hf.u
 have ha := hf.a
 unfold sess_Roles
 rw [has_texts (by omega) (by omega), Zo]
 have hany : (p.users.any fun x => decide (u = x)) = true ↔ u ∈ p.users := by
  rw [List.any_eq_true]
  exact ⟨fun ⟨x, hx, e⟩ => of_decide_eq_true e ▸ hx, fun h => ⟨u, h, decide_eq_true rfl⟩⟩
 by_cases h : u ∈ p.users
 ·rw [hany.2 h, if_pos rfl]
  have hL : sess_Roles_L1 n p u n ([], 0) = _ := sess_Roles_L1_list n p u (by omega) n [] 0 (Nat.zero_le _) (by omega)
  have hlen := List.length_filter_le (fun x : GPair => decide (x.a = u)) p.assign
  rw [hL, List.drop_zero, own_fold u _ _ (by simp; omega), Zo, List.nil_append]
  obtain ⟨r, k1, k2, k3, k4⟩ := closed_some hn hf (roles := (p.assign.filter fun x => decide (x.a = u)).map fun x => x.b) (by rw [List.length_map]; omega)
  rw [k1, Zo]
  refine ⟨r, rfl, k2, fun y => (k3 y).trans ?_, k4⟩
  constructor
  ·rintro ⟨s, hs, hd⟩
   obtain ⟨⟨a, b⟩, h1, rfl⟩ := List.mem_map.1 hs
   obtain ⟨m1, m2⟩ := List.mem_filter.1 h1
   have m2 : a = u := of_decide_eq_true m2
   exact ⟨h, b, m2 ▸ m1, hd⟩
  ·rintro ⟨_, s, hs, hd⟩
   exact ⟨s, List.mem_map.2 ⟨⟨u, s⟩, List.mem_filter.2 ⟨hs, decide_eq_true rfl⟩, rfl⟩, hd⟩
 ·have : (p.users.any fun x => decide (u = x)) = false := by
   cases e : (p.users.any fun x => decide (u = x)) with
   | false => rfl
   | true => exact absurd (hany.1 e) h
  rw [this, if_neg (by decide)]
  exact ⟨[], rfl, List.Pairwise.nil, fun y => ⟨fun h => (by cases h), fun h2 => absurd h2.1 h⟩, by simp⟩
include hn hf in
theorem active_fold (s : ByteArray) : ∀ xs : List GSession, (∀ x ∈ xs, x.roles.length ≤ 100000) →
  ∃ r, foldK (sess_Active_L1_f n p s) (sess_Active_L1_e n p s) xs () = some r ∧ (((xs.find? fun x => decide (x.name = s)) = none ∧ r = .inl ()) ∨ ∃ x q, (xs.find? fun x => decide (x.name = s)) = some x ∧ r = .inr q ∧ tx.Rises q ∧ (∀ y, y ∈ q ↔ ∃ r ∈ x.roles, Dn p.inherit r y) ∧ q.length ≤ 104000)
 | [], _ => ⟨_, rfl, .inl ⟨rfl, rfl⟩⟩
 | x :: xs, h => by
  rw [foldK]
  unfold sess_Active_L1_f
  dsimp only
  rw [beqS]
  by_cases e : x.name = s
  ·obtain ⟨q, k1, k2, k3, k4⟩ := closed_some hn hf (roles := x.roles) (h x (List.mem_cons_self ..))
   rw [decide_eq_true e, if_pos rfl, k1, Zo]
   exact ⟨_, rfl, .inr ⟨x, q, by rw [List.find?_cons_of_pos (by simp [e])], rfl, k2, k3, k4⟩⟩
  ·rw [decide_eq_false e, if_neg (by decide)]
   obtain ⟨r, k1, k2⟩ := active_fold s xs fun y hy => h y (List.mem_cons_of_mem _ hy)
   rw [List.find?_cons_of_neg (by simp [e])]
   exact ⟨r, k1, k2⟩
include hn hf in
theorem active_some (s : ByteArray) : ∃ r, sess_Active n p s = some r ∧ tx.Rises r ∧ (∀ y, y ∈ r ↔ ActP p s y) ∧ r.length ≤ 104000 := by
 have hs := hf.s
 unfold sess_Active
 obtain ⟨r, k1, k2⟩ := active_fold hn hf s p.sessions hf.r
 have hL : sess_Active_L1 n p s n 0 = _ := sess_Active_L1_list n p s (by omega) n () 0 (Nat.zero_le _) (by omega)
 rw [hL, List.drop_zero, k1, Zo]
 rcases k2 with ⟨h1, rfl⟩ | ⟨x, q, h1, rfl, h2, h3, h4⟩
 ·refine ⟨[], rfl, List.Pairwise.nil, fun y => ⟨fun h => (by cases h), fun ⟨x, h2, _⟩ => ?_⟩, by simp⟩
  rw [h1] at h2
  cases h2
 ·refine ⟨q, rfl, h2, fun y => (h3 y).trans ⟨fun h => ⟨x, h1, h⟩, fun ⟨x', h5, h6⟩ => ?_⟩, h4⟩
  rw [h1] at h5
  cases h5
  exact h6
include hn hf in
theorem granted_some {roles : List ByteArray} (hr : roles.length ≤ 104000) (op obj : ByteArray) : ∃ b, sess_granted n p roles op obj = some b ∧ (b = true ↔ ∃ g ∈ p.grants, g.op = op ∧ g.obj = obj ∧ g.role ∈ roles) := by
 have hg := hf.g
 have hc : ∀ g, ∃ b, sess_granted_c1 n g op obj roles = some b ∧ (b = true ↔ g.op = op ∧ g.obj = obj ∧ g.role ∈ roles) := by
  intro g
  unfold sess_granted_c1
  rw [beqS, beqS]
  by_cases e1 : g.op = op
  ·rw [decide_eq_true e1, if_pos rfl]
   by_cases e2 : g.obj = obj
   ·rw [decide_eq_true e2, if_pos rfl, has_texts (by omega) (by omega), Zo]
    refine ⟨_, rfl, ?_⟩
    rw [List.any_eq_true]
    exact ⟨fun ⟨x, hx, e⟩ => ⟨e1, e2, of_decide_eq_true e ▸ hx⟩, fun h => ⟨g.role, h.2.2, decide_eq_true rfl⟩⟩
   ·rw [decide_eq_false e2, if_neg (by decide)]
    exact ⟨false, rfl, fun h => (by cases h), fun h => absurd h.2.1 e2⟩
  ·rw [decide_eq_false e1, if_neg (by decide)]
   exact ⟨false, rfl, fun h => (by cases h), fun h => absurd h.1 e1⟩
 obtain ⟨q, hq⟩ := Classical.axiomOfChoice hc
 obtain ⟨r, e, h⟩ := ixf_loop (L := slices_IndexFunc_Grant__sess_granted_c1_L1 n p.grants op obj roles) (xs := p.grants) (P := fun g => sess_granted_c1 n g op obj roles) q (fun _ _ => rfl) (fun g _ => (hq g).1) (by omega) n 0 (by omega) (by omega)
 have e : slices_IndexFunc_Grant__sess_granted_c1_L1 n p.grants op obj roles n 0 = some r := e
 rw [List.drop_zero] at h
 have hany : p.grants.any q = true ↔ ∃ g ∈ p.grants, g.op = op ∧ g.obj = obj ∧ g.role ∈ roles := by
  rw [List.any_eq_true]
  exact ⟨fun ⟨g, h1, h2⟩ => ⟨g, h1, (hq g).2.1 h2⟩, fun ⟨g, h1, h2⟩ => ⟨g, h1, (hq g).2.2 h2⟩⟩
 unfold sess_granted slices_ContainsFunc_Grant__sess_granted_c1 slices_IndexFunc_Grant__sess_granted_c1
 rw [e, Zo]
 rcases h with ⟨h1, k, rfl⟩ | ⟨h1, rfl⟩
 ·exact ⟨true, by simp, fun _ => hany.1 h1, fun _ => rfl⟩
 ·refine ⟨false, by simp, fun h => (by cases h), fun h => ?_⟩
  have := hany.2 h
  rw [h1] at this
  exact this
def MayP (p : GRoles) (u op obj : ByteArray) : Prop := ∃ g ∈ p.grants, g.op = op ∧ g.obj = obj ∧ RolP p u g.role
def MayInP (p : GRoles) (s op obj : ByteArray) : Prop := ∃ g ∈ p.grants, g.op = op ∧ g.obj = obj ∧ ActP p s g.role
include hn hf in
theorem may_some (u op obj : ByteArray) : ∃ b, sess_May n p u op obj = some b ∧ (b = true ↔ MayP p u op obj) := by
 obtain ⟨r, h1, _, h2, h3⟩ := roles_some hn hf u
 obtain ⟨b, k1, k2⟩ := granted_some hn hf h3 op obj
 refine ⟨b, ?_, k2.trans ?_⟩
 ·unfold sess_May
  rw [h1, Zo, k1]
  rfl
 ·exact exists_congr fun g => and_congr_right fun _ => and_congr_right fun _ => and_congr_right fun _ => h2 _
include hn hf in
theorem mayIn_some (u op obj : ByteArray) : ∃ b, sess_MayIn n p u op obj = some b ∧ (b = true ↔ MayInP p u op obj) := by
 obtain ⟨r, h1, _, h2, h3⟩ := active_some hn hf u
 obtain ⟨b, k1, k2⟩ := granted_some hn hf h3 op obj
 refine ⟨b, ?_, k2.trans ?_⟩
 ·unfold sess_MayIn
  rw [h1, Zo, k1]
  rfl
 ·exact exists_congr fun g => and_congr_right fun _ => and_congr_right fun _ => and_congr_right fun _ => h2 _
end
end Go.Proofs.Ytkkhgdmmbhpckaa.Ab

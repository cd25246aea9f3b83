/-
 NormOnce: what norm.Normal, Of, Facts, Same, Up, Down answer. No program in sight.
-/
import Derived.Test.YtkkhgdmmbhpckaaGreatOf8
import Derived.Test.YtkkhgdmmbhpckaaGreatRgz
import Derived.Test.YtkkhgdmmbhpckaaGreatCpe
import Derived.Test.YtkkhgdmmbhpckaaGreatSes
namespace Go.Proofs.YtkkhgdmmbhpckaaGreat.Ab
open Go.RowKit Go.Sort
attribute [local instance] baLawful
theorem once_some {n : Nat} {xs : List ByteArray} (h : xs.length ≤ 4294967296) : norm_Once n xs = some (tx.ofL xs) := by
 unfold norm_Once
 rw [if_pos h]
 exact congrArg some (once_set xs)
/-- A loop that appends one for each. -/
theorem fold_map {α β : Type} {f : List β → α → (List β → Option (List β)) → Option (List β)} {e : List β → Option (List β)} (g : α → β) (he : ∀ st, e st = some st) : ∀ (xs : List α) (st : List β), (∀ st x k, st.length < 4294967296 → x ∈ xs → f st x k = k (st ++ [g x])) → st.length + xs.length ≤ 4294967296 → foldK f e xs st = some (st ++ xs.map g)
 | [], st, _, _ => by simp [foldK, he]
 | x :: xs, st, hf, h => by
  rw [List.length_cons] at h
  rw [foldK, hf st x _ (by omega) (List.mem_cons_self ..)]
  refine (fold_map g he xs (st ++ [g x]) (fun st y k h1 h2 => hf st y k h1 (List.mem_cons_of_mem _ h2)) (by rw [List.length_append, List.length_singleton]; omega)).trans ?_
  simp
theorem appOne {α : Type} {xs : List α} {y : α} (h : xs.length < 4294967296) : app xs [y] = some (xs ++ [y]) := appS (by simp; omega)
/-! ### separations, sessions -/
noncomputable def tOsd : Lin GSod := pre_Sd.lin zero_Sd
noncomputable def tOse : Lin GSession := pre_Se.lin zero_Se
def onceS (x : GSod) : GSod := ⟨x.name, x.n_, tx.ofL x.roles⟩
def onceE (x : GSession) : GSession := ⟨x.name, x.user, tx.ofL x.roles⟩
noncomputable def sodsN (l : List GSod) : List GSod := tOsd.ofL (l.map onceS)
noncomputable def sesN (l : List GSession) : List GSession := tOse.ofL (l.map onceE)
theorem onceS_twice (x : GSod) : onceS (onceS x) = onceS x := by
 unfold onceS
 rw [tx.ofL_self (tx.rises_ofL x.roles)]
theorem onceE_twice (x : GSession) : onceE (onceE x) = onceE x := by
 unfold onceE
 rw [tx.ofL_self (tx.rises_ofL x.roles)]
theorem sodsN_twice (l : List GSod) : sodsN (sodsN l) = sodsN l := by
 have e : (sodsN l).map onceS = sodsN l := by
  conv => rhs; rw [← List.map_id (sodsN l)]
  refine List.map_congr_left fun x hx => ?_
  obtain ⟨y, _, rfl⟩ := List.mem_map.1 (tOsd.mem_ofL.1 hx)
  exact onceS_twice y
 show tOsd.ofL ((sodsN l).map onceS) = _
 rw [e]
 exact tOsd.ofL_self (tOsd.rises_ofL _)
theorem sesN_twice (l : List GSession) : sesN (sesN l) = sesN l := by
 have e : (sesN l).map onceE = sesN l := by
  conv => rhs; rw [← List.map_id (sesN l)]
  refine List.map_congr_left fun x hx => ?_
  obtain ⟨y, _, rfl⟩ := List.mem_map.1 (tOse.mem_ofL.1 hx)
  exact onceE_twice y
 show tOse.ofL ((sesN l).map onceE) = _
 rw [e]
 exact tOse.ofL_self (tOse.rises_ofL _)
theorem sods_some {n : Nat} {l : List GSod} (hn : l.length < n) (hl : l.length ≤ 100000) (hr : ∀ x ∈ l, x.roles.length ≤ 100000) : norm_sods n l = some (sodsN l) := by
 have hL : norm_sods_L1 n l n ([], 0) = _ := norm_sods_L1_list n l (by omega) n [] 0 (Nat.zero_le _) (by omega)
 have hF : foldK (norm_sods_L1_f n l) (norm_sods_L1_e n l) l [] = some ([] ++ l.map onceS) := fold_map onceS (fun _ => rfl) l [] (fun st x k h1 h2 => by
  have := hr x h2
  unfold norm_sods_L1_f
  dsimp only
  rw [once_some (by omega), Option.bind_some, appOne h1, Option.bind_some]
  rfl) (by simp; omega)
 unfold norm_sods
 rw [hL, List.drop_zero, hF, Option.bind_some, List.nil_append]
 by_cases h0 : l = []
 ·subst h0
  rfl
 ·have h1 : 0 < (l.map onceS).length := by rw [List.length_map]; exact List.length_pos_iff.2 h0
  have h2 : (l.map onceS).length ≤ 4294967296 := by rw [List.length_map]; omega
  have h3 : ∀ ys : List GSod, (∀ x ∈ ys, x ∈ l.map onceS) → (ys.all fun x => decide (x.roles.length < 4611686018427387904)) = true := fun ys hys => by
   rw [List.all_eq_true]
   intro x hx
   obtain ⟨y, hy, rfl⟩ := List.mem_map.1 (hys x hx)
   have k1 := ofL_len tx y.roles
   have k2 := hr y hy
   exact decide_eq_true (by show (tx.ofL y.roles).length < _; omega)
  have hp := srtC_perm cfSd (l.map onceS)
  have hlen := hp.length_eq
  have e1 : sort_Sod n (l.map onceS) = some (srtC cfSd (l.map onceS)) := by
   unfold sort_Sod
   rw [if_pos (by rw [decide_eq_true h1, decide_eq_true h2, h3 _ fun _ h => h]; rfl)]
  have e2 : cpt_Sod n (srtC cfSd (l.map onceS)) = some (Lib.compact (srtC cfSd (l.map onceS))) := by
   unfold cpt_Sod
   rw [if_pos (by rw [decide_eq_true (by omega), decide_eq_true (by omega), h3 _ fun x h => hp.mem_iff.1 h]; rfl)]
  rw [decide_eq_false (by omega), if_neg (by decide), e1, Option.bind_some, e2, Option.bind_some]
  exact congrArg some (tOsd.compact_sorted (fun x => hp.mem_iff) (srtC_sorted pre_Sd (l.map onceS)))
theorem ses_some {n : Nat} {l : List GSession} (hn : l.length < n) (hl : l.length ≤ 100000) (hr : ∀ x ∈ l, x.roles.length ≤ 100000) : norm_sessions n l = some (sesN l) := by
 have hL : norm_sessions_L1 n l n ([], 0) = _ := norm_sessions_L1_list n l (by omega) n [] 0 (Nat.zero_le _) (by omega)
 have hF : foldK (norm_sessions_L1_f n l) (norm_sessions_L1_e n l) l [] = some ([] ++ l.map onceE) := fold_map onceE (fun _ => rfl) l [] (fun st x k h1 h2 => by
  have := hr x h2
  unfold norm_sessions_L1_f
  dsimp only
  rw [once_some (by omega), Option.bind_some, appOne h1, Option.bind_some]
  rfl) (by simp; omega)
 unfold norm_sessions
 rw [hL, List.drop_zero, hF, Option.bind_some, List.nil_append]
 by_cases h0 : l = []
 ·subst h0
  rfl
 ·have h1 : 0 < (l.map onceE).length := by rw [List.length_map]; exact List.length_pos_iff.2 h0
  have h2 : (l.map onceE).length ≤ 4294967296 := by rw [List.length_map]; omega
  have h3 : ∀ ys : List GSession, (∀ x ∈ ys, x ∈ l.map onceE) → (ys.all fun x => decide (x.roles.length < 4611686018427387904)) = true := fun ys hys => by
   rw [List.all_eq_true]
   intro x hx
   obtain ⟨y, hy, rfl⟩ := List.mem_map.1 (hys x hx)
   have k1 := ofL_len tx y.roles
   have k2 := hr y hy
   exact decide_eq_true (by show (tx.ofL y.roles).length < _; omega)
  have hp := srtC_perm cfSe (l.map onceE)
  have hlen := hp.length_eq
  have e1 : sort_Session n (l.map onceE) = some (srtC cfSe (l.map onceE)) := by
   unfold sort_Session
   rw [if_pos (by rw [decide_eq_true h1, decide_eq_true h2, h3 _ fun _ h => h]; rfl)]
  have e2 : cpt_Session n (srtC cfSe (l.map onceE)) = some (Lib.compact (srtC cfSe (l.map onceE))) := by
   unfold cpt_Session
   rw [if_pos (by rw [decide_eq_true (by omega), decide_eq_true (by omega), h3 _ fun x h => hp.mem_iff.1 h]; rfl)]
  rw [decide_eq_false (by omega), if_neg (by decide), e1, Option.bind_some, e2, Option.bind_some]
  exact congrArg some (tOse.compact_sorted (fun x => hp.mem_iff) (srtC_sorted pre_Se (l.map onceE)))
/-! ### the pairs that are needed -/
def LeastP (l M : List GPair) : Prop := M.Sublist (tOpr.ofL l) ∧ ((RingP (tOpr.ofL l) ∧ M = tOpr.ofL l) ∨ (¬ RingP (tOpr.ofL l) ∧ ∀ x, x ∈ M ↔ x ∈ tOpr.ofL l ∧ ¬ Said (tOpr.ofL l) x))
theorem LeastP.rises {l M : List GPair} (h : LeastP l M) : tOpr.Rises M := (tOpr.rises_ofL l).sublist h.1
theorem LeastP.len {l M : List GPair} (h : LeastP l M) : M.length ≤ l.length := Nat.le_trans h.1.length_le (ofL_len tOpr l)
theorem LeastP.one {l l' M M' : List GPair} (h : LeastP l M) (h' : LeastP l' M') (e : ∀ x, x ∈ l ↔ x ∈ l') : M = M' := by
 have r1 := h.rises
 have r2 := h'.rises
 unfold LeastP at h'
 rw [← tOpr.ofL_congr e] at h'
 rcases h.2 with ⟨a, b⟩ | ⟨a, b⟩
 ·rcases h'.2 with ⟨a', b'⟩ | ⟨a', _⟩
  ·rw [b, b']
  ·exact absurd a a'
 ·rcases h'.2 with ⟨a', _⟩ | ⟨_, b'⟩
  ·exact absurd a' a
  ·exact tOpr.ext r1 r2 fun x => (b x).trans (b' x).symm
theorem LeastP.again {l M M' : List GPair} (h : LeastP l M) (h' : LeastP M M') : M' = M := by
 have e : tOpr.ofL M = M := tOpr.ofL_self h.rises
 have r2 := h'.rises
 unfold LeastP at h'
 rw [e] at h'
 rcases h'.2 with ⟨_, b⟩ | ⟨a', b'⟩
 ·exact b
 ·rcases h.2 with ⟨a, b⟩ | ⟨a, b⟩
  ·rw [b] at a'
   exact absurd a a'
  ·refine tOpr.ext r2 h.rises fun x => (b' x).trans ⟨fun hx => hx.1, fun hx => ⟨hx, fun hs => ((b x).1 hx).2 ?_⟩⟩
   obtain ⟨s, h1, h2, h3⟩ := hs
   exact ⟨s, ((b _).1 h1).1, h2, dn_sub (fun y hy => ((b y).1 hy).1) h3⟩
theorem LeastP.dn {l M : List GPair} (h : LeastP l M) (u v : ByteArray) : Dn M u v ↔ Dn l u v := by
 have e : Dn (tOpr.ofL l) u v ↔ Dn l u v := ⟨dn_sub fun x hx => tOpr.mem_ofL.1 hx, dn_sub fun x hx => tOpr.mem_ofL.2 hx⟩
 rw [← e]
 rcases h.2 with ⟨_, b⟩ | ⟨a, b⟩
 ·rw [b]
 ·exact dn_least a b u v
/-! ### the normal form -/
structure Mid (p : GRoles) : Prop where
 u : p.users.length ≤ 10000
 r : p.roles.length ≤ 10000
 i : p.inherit.length ≤ 10000
 a : p.assign.length ≤ 10000
 g : p.grants.length ≤ 10000
 s : p.ssd.length ≤ 10000
 d : p.dsd.length ≤ 10000
 e : p.sessions.length ≤ 10000
 sr : ∀ x ∈ p.ssd, x.roles.length ≤ 100000
 dr : ∀ x ∈ p.dsd, x.roles.length ≤ 100000
 er : ∀ x ∈ p.sessions, x.roles.length ≤ 100000
noncomputable def norN (p : GRoles) (M : List GPair) : GRoles := ⟨tx.ofL p.users, tx.ofL p.roles, M, tOpr.ofL p.assign, tOgt.ofL p.grants, sodsN p.ssd, sodsN p.dsd, sesN p.sessions⟩
theorem normal_some {n : Nat} (hn : 200000 ≤ n) {p : GRoles} (h : Mid p) : ∃ M, norm_Normal n p = some (norN p M) ∧ LeastP p.inherit M := by
 obtain ⟨h1, h2, h3, h4, h5, h6, h7, h8, h9, h10, h11⟩ := h
 obtain ⟨M, l1, l2⟩ := least_some (n := n) (l := p.inherit) (by omega) (by omega)
 refine ⟨M, ?_, l2⟩
 unfold norm_Normal
 rw [once_some (by omega), Option.bind_some, once_some (by omega), Option.bind_some, l1, Option.bind_some, show norm_pairs n p.assign = some (tOpr.ofL p.assign) from if_pos (by omega), Option.bind_some, show norm_grants n p.grants = some (tOgt.ofL p.grants) from if_pos (by omega), Option.bind_some, sods_some (by omega) (by omega) h9, Option.bind_some, sods_some (by omega) (by omega) h10, Option.bind_some, ses_some (by omega) (by omega) h11, Option.bind_some]
 rfl
theorem norN_mid {p : GRoles} (h : Mid p) {M : List GPair} (hM : LeastP p.inherit M) : Mid (norN p M) := by
 obtain ⟨h1, h2, h3, h4, h5, h6, h7, h8, h9, h10, h11⟩ := h
 have k1 := ofL_len tx p.users
 have k2 := ofL_len tx p.roles
 have k3 := hM.len
 have k4 := ofL_len tOpr p.assign
 have k5 := ofL_len tOgt p.grants
 have k6 := ofL_len tOsd (p.ssd.map onceS)
 have k7 := ofL_len tOsd (p.dsd.map onceS)
 have k8 := ofL_len tOse (p.sessions.map onceE)
 rw [List.length_map] at k6 k7 k8
 have hS : ∀ l : List GSod, (∀ x ∈ l, x.roles.length ≤ 100000) → ∀ x ∈ sodsN l, x.roles.length ≤ 100000 := fun l hl x hx => by
  obtain ⟨y, hy, rfl⟩ := List.mem_map.1 (tOsd.mem_ofL.1 hx)
  have := ofL_len tx y.roles
  have := hl y hy
  show (tx.ofL y.roles).length ≤ _
  omega
 refine ⟨?_, ?_, ?_, ?_, ?_, ?_, ?_, ?_, hS _ h9, hS _ h10, fun x hx => ?_⟩
 ·show (tx.ofL p.users).length ≤ _; omega
 ·show (tx.ofL p.roles).length ≤ _; omega
 ·show M.length ≤ _; omega
 ·show (tOpr.ofL p.assign).length ≤ _; omega
 ·show (tOgt.ofL p.grants).length ≤ _; omega
 ·show (tOsd.ofL (p.ssd.map onceS)).length ≤ _; omega
 ·show (tOsd.ofL (p.dsd.map onceS)).length ≤ _; omega
 ·show (tOse.ofL (p.sessions.map onceE)).length ≤ _; omega
 ·obtain ⟨y, hy, rfl⟩ := List.mem_map.1 (tOse.mem_ofL.1 hx)
  have := ofL_len tx y.roles
  have := h11 y hy
  show (tx.ofL y.roles).length ≤ _
  omega
theorem norN_twice {p : GRoles} {M M' : List GPair} (hM : LeastP p.inherit M) (hM' : LeastP M M') : norN (norN p M) M' = norN p M := by
 have e := hM.again hM'
 subst e
 show (⟨tx.ofL (tx.ofL p.users), tx.ofL (tx.ofL p.roles), M', tOpr.ofL (tOpr.ofL p.assign), tOgt.ofL (tOgt.ofL p.grants), sodsN (sodsN p.ssd), sodsN (sodsN p.dsd), sesN (sesN p.sessions)⟩ : GRoles) = _
 rw [tx.ofL_self (tx.rises_ofL _), tx.ofL_self (tx.rises_ofL _), tOpr.ofL_self (tOpr.rises_ofL _), tOgt.ofL_self (tOgt.rises_ofL _), sodsN_twice, sodsN_twice, sesN_twice]
 rfl
theorem ofL_map {α β : Type} (O : Lin β) (g : α → β) {l m : List α} (h : ∀ x, x ∈ l ↔ x ∈ m) : O.ofL (l.map g) = O.ofL (m.map g) := O.ofL_congr fun y => by
 rw [List.mem_map, List.mem_map]
 exact exists_congr fun x => and_congr_left fun _ => h x
theorem fm_same {β : Type} {g : GFact → Option β} {l m : List GFact} (h : ∀ x, x ∈ l ↔ x ∈ m) (y : β) : y ∈ l.filterMap g ↔ y ∈ m.filterMap g := by
 rw [List.mem_filterMap, List.mem_filterMap]
 exact exists_congr fun x => and_congr_left fun _ => h x
/-- Facts in whatever order, as often as one likes. -/
theorem norN_facts {l m : List GFact} (h : ∀ x, x ∈ l ↔ x ∈ m) {M M' : List GPair} (h1 : LeastP (inhF l) M) (h2 : LeastP (inhF m) M') : norN (ofF l) M = norN (ofF m) M' := by
 have e := h1.one h2 (fm_same h)
 subst e
 show (⟨tx.ofL (usersF l), tx.ofL (rolesF l), M, tOpr.ofL (asgF l), tOgt.ofL (grF l), sodsN (ssdF l), sodsN (dsdF l), sesN (sesF l)⟩ : GRoles) = ⟨tx.ofL (usersF m), tx.ofL (rolesF m), M, tOpr.ofL (asgF m), tOgt.ofL (grF m), sodsN (ssdF m), sodsN (dsdF m), sesN (sesF m)⟩
 rw [show tx.ofL (usersF l) = tx.ofL (usersF m) from tx.ofL_congr (fm_same h), show tx.ofL (rolesF l) = tx.ofL (rolesF m) from tx.ofL_congr (fm_same h), show tOpr.ofL (asgF l) = tOpr.ofL (asgF m) from tOpr.ofL_congr (fm_same h), show tOgt.ofL (grF l) = tOgt.ofL (grF m) from tOgt.ofL_congr (fm_same h), show sodsN (ssdF l) = sodsN (ssdF m) from ofL_map tOsd onceS (fm_same h), show sodsN (dsdF l) = sodsN (dsdF m) from ofL_map tOsd onceS (fm_same h), show sesN (sesF l) = sesN (sesF m) from ofL_map tOse onceE (fm_same h)]
theorem mid_ofF {l : List GFact} (hl : l.length ≤ 10000) (hx : ∀ x ∈ l, x.l.length ≤ 100000) : Mid (ofF l) where
 u := Nat.le_trans (fm_len _ _) hl
 r := Nat.le_trans (fm_len _ _) hl
 i := Nat.le_trans (fm_len _ _) hl
 a := Nat.le_trans (fm_len _ _) hl
 g := Nat.le_trans (fm_len _ _) hl
 s := Nat.le_trans (fm_len _ _) hl
 d := Nat.le_trans (fm_len _ _) hl
 e := Nat.le_trans (fm_len _ _) hl
 sr := fun x h => by
  obtain ⟨f, h1, _, rfl⟩ := mem_ssdF.1 h
  exact hx f h1
 dr := fun x h => by
  obtain ⟨f, h1, _, rfl⟩ := mem_dsdF.1 h
  exact hx f h1
 er := fun x h => by
  obtain ⟨f, h1, _, rfl⟩ := mem_sesF.1 h
  exact hx f h1
/-! ### facts of a policy -/
def fU (s : ByteArray) : GFact := ⟨1, s, ByteArray.empty, ByteArray.empty, 0, [], 0⟩
def fR (s : ByteArray) : GFact := ⟨2, s, ByteArray.empty, ByteArray.empty, 0, [], 0⟩
def fI (x : GPair) : GFact := ⟨3, x.a, x.b, ByteArray.empty, 0, [], 0⟩
def fA (x : GPair) : GFact := ⟨4, x.a, x.b, ByteArray.empty, 0, [], 0⟩
def fG (x : GGrant) : GFact := ⟨5, x.role, x.op, x.obj, 0, [], 0⟩
def fS (x : GSod) : GFact := ⟨6, x.name, ByteArray.empty, ByteArray.empty, x.n_, x.roles, 0⟩
def fD (x : GSod) : GFact := ⟨7, x.name, ByteArray.empty, ByteArray.empty, x.n_, x.roles, 0⟩
def fE (x : GSession) : GFact := ⟨8, x.name, x.user, ByteArray.empty, 0, x.roles, 0⟩
def factsF (p : GRoles) : List GFact := p.users.map fU ++ p.roles.map fR ++ p.inherit.map fI ++ p.assign.map fA ++ p.grants.map fG ++ p.ssd.map fS ++ p.dsd.map fD ++ p.sessions.map fE
theorem facts_some {n : Nat} (hn : 200000 ≤ n) {p : GRoles} (h : Mid p) : norm_Facts n p = some (factsF p) := by
 obtain ⟨h1, h2, h3, h4, h5, h6, h7, h8, h9, h10, h11⟩ := h
 have nil0 : ∀ {l : List ByteArray}, l.length = 0 → l = [] := fun h => List.eq_nil_of_length_eq_zero h
 have L1 : norm_Facts_L1 n p n ([], 0) = _ := norm_Facts_L1_list n p (by omega) n [] 0 (Nat.zero_le _) (by omega)
 have F1 : foldK (norm_Facts_L1_f n p) (norm_Facts_L1_e n p) p.users [] = some ([] ++ p.users.map fU) := fold_map fU (fun _ => rfl) _ _ (fun st x k h _ => by unfold norm_Facts_L1_f; dsimp only; rw [appOne h, Option.bind_some]; rfl) (by simp; omega)
 rw [List.drop_zero, F1, List.nil_append] at L1
 have L2 : ∀ st, norm_Facts_L2 n p n (st, 0) = _ := fun st => norm_Facts_L2_list n p (by omega) n st 0 (Nat.zero_le _) (by omega)
 have F2 : ∀ st : List GFact, st.length ≤ 10000 → foldK (norm_Facts_L2_f n p) (norm_Facts_L2_e n p) p.roles st = some (st ++ p.roles.map fR) := fun st hst => fold_map fR (fun _ => rfl) _ _ (fun st x k h _ => by unfold norm_Facts_L2_f; dsimp only; rw [appOne h, Option.bind_some]; rfl) (by omega)
 have L3 : ∀ st, norm_Facts_L3 n p n (st, 0) = _ := fun st => norm_Facts_L3_list n p (by omega) n st 0 (Nat.zero_le _) (by omega)
 have F3 : ∀ st : List GFact, st.length ≤ 20000 → foldK (norm_Facts_L3_f n p) (norm_Facts_L3_e n p) p.inherit st = some (st ++ p.inherit.map fI) := fun st hst => fold_map fI (fun _ => rfl) _ _ (fun st x k h _ => by unfold norm_Facts_L3_f; dsimp only; rw [appOne h, Option.bind_some]; rfl) (by omega)
 have L4 : ∀ st, norm_Facts_L4 n p n (st, 0) = _ := fun st => norm_Facts_L4_list n p (by omega) n st 0 (Nat.zero_le _) (by omega)
 have F4 : ∀ st : List GFact, st.length ≤ 30000 → foldK (norm_Facts_L4_f n p) (norm_Facts_L4_e n p) p.assign st = some (st ++ p.assign.map fA) := fun st hst => fold_map fA (fun _ => rfl) _ _ (fun st x k h _ => by unfold norm_Facts_L4_f; dsimp only; rw [appOne h, Option.bind_some]; rfl) (by omega)
 have L5 : ∀ st, norm_Facts_L5 n p n (st, 0) = _ := fun st => norm_Facts_L5_list n p (by omega) n st 0 (Nat.zero_le _) (by omega)
 have F5 : ∀ st : List GFact, st.length ≤ 40000 → foldK (norm_Facts_L5_f n p) (norm_Facts_L5_e n p) p.grants st = some (st ++ p.grants.map fG) := fun st hst => fold_map fG (fun _ => rfl) _ _ (fun st x k h _ => by unfold norm_Facts_L5_f; dsimp only; rw [appOne h, Option.bind_some]; rfl) (by omega)
 have L6 : ∀ st, norm_Facts_L6 n p n (st, 0) = _ := fun st => norm_Facts_L6_list n p (by omega) n st 0 (Nat.zero_le _) (by omega)
 have F6 : ∀ st : List GFact, st.length ≤ 50000 → foldK (norm_Facts_L6_f n p) (norm_Facts_L6_e n p) p.ssd st = some (st ++ p.ssd.map fS) := fun st hst => fold_map fS (fun _ => rfl) _ _ (fun st x k h hm => by
  unfold norm_Facts_L6_f
  dsimp only
  by_cases e : x.roles.length = 0
  ·rw [decide_eq_true e, if_pos rfl, appOne h, Option.bind_some, fS, nil0 e]
  ·rw [decide_eq_false e, if_neg (by decide), decide_eq_true (by have := h9 x hm; omega), grd, if_pos rfl, appOne h, Option.bind_some, fS]) (by omega)
 have L7 : ∀ st, norm_Facts_L7 n p n (st, 0) = _ := fun st => norm_Facts_L7_list n p (by omega) n st 0 (Nat.zero_le _) (by omega)
 have F7 : ∀ st : List GFact, st.length ≤ 60000 → foldK (norm_Facts_L7_f n p) (norm_Facts_L7_e n p) p.dsd st = some (st ++ p.dsd.map fD) := fun st hst => fold_map fD (fun _ => rfl) _ _ (fun st x k h hm => by
  unfold norm_Facts_L7_f
  dsimp only
  by_cases e : x.roles.length = 0
  ·rw [decide_eq_true e, if_pos rfl, appOne h, Option.bind_some, fD, nil0 e]
  ·rw [decide_eq_false e, if_neg (by decide), decide_eq_true (by have := h10 x hm; omega), grd, if_pos rfl, appOne h, Option.bind_some, fD]) (by omega)
 have L8 : ∀ st, norm_Facts_L8 n p n (st, 0) = _ := fun st => norm_Facts_L8_list n p (by omega) n st 0 (Nat.zero_le _) (by omega)
 have F8 : ∀ st : List GFact, st.length ≤ 70000 → foldK (norm_Facts_L8_f n p) (norm_Facts_L8_e n p) p.sessions st = some (st ++ p.sessions.map fE) := fun st hst => fold_map fE (fun _ => rfl) _ _ (fun st x k h hm => by
  unfold norm_Facts_L8_f
  dsimp only
  by_cases e : x.roles.length = 0
  ·rw [decide_eq_true e, if_pos rfl, appOne h, Option.bind_some, fE, nil0 e]
  ·rw [decide_eq_false e, if_neg (by decide), decide_eq_true (by have := h11 x hm; omega), grd, if_pos rfl, appOne h, Option.bind_some, fE]) (by omega)
 unfold norm_Facts
 rw [L1, Option.bind_some, L2, List.drop_zero, F2 _ (by simp; omega), Option.bind_some, L3, List.drop_zero, F3 _ (by simp; omega), Option.bind_some, L4, List.drop_zero, F4 _ (by simp; omega), Option.bind_some, L5, List.drop_zero, F5 _ (by simp; omega), Option.bind_some, L6, List.drop_zero, F6 _ (by simp; omega), Option.bind_some, L7, List.drop_zero, F7 _ (by simp; omega), Option.bind_some, L8, List.drop_zero, F8 _ (by simp; omega), Option.bind_some]
 rfl
theorem fm_map {α β : Type} {k : Int} {g : GFact → β} {h : α → GFact} (hk : ∀ x, (h x).kind = k) (l : List α) : (l.map h).filterMap (fun f => if f.kind = k then some (g f) else none) = l.map fun x => g (h x) := by
 induction l with
 | nil => rfl
 | cons x l ih => rw [List.map_cons, fk_pos (hk x), ih, List.map_cons]
theorem fm_map0 {α β : Type} {k j : Int} {g : GFact → β} {h : α → GFact} (hk : ∀ x, (h x).kind = j) (hne : ¬ j = k) (l : List α) : (l.map h).filterMap (fun f => if f.kind = k then some (g f) else none) = [] := by
 induction l with
 | nil => rfl
 | cons x l ih => rw [List.map_cons, fk_neg (by rw [hk x]; exact hne), ih]
theorem of_facts (p : GRoles) : ofF (factsF p) = p := by
 have u : usersF (factsF p) = p.users := by
  unfold usersF factsF
  simp only [List.filterMap_append]
  rw [fm_map (k := 1) (h := fU) (fun _ => rfl), fm_map0 (j := 2) (h := fR) (fun _ => rfl) (by decide), fm_map0 (j := 3) (h := fI) (fun _ => rfl) (by decide), fm_map0 (j := 4) (h := fA) (fun _ => rfl) (by decide), fm_map0 (j := 5) (h := fG) (fun _ => rfl) (by decide), fm_map0 (j := 6) (h := fS) (fun _ => rfl) (by decide), fm_map0 (j := 7) (h := fD) (fun _ => rfl) (by decide), fm_map0 (j := 8) (h := fE) (fun _ => rfl) (by decide)]
  simp [fU]
 have r : rolesF (factsF p) = p.roles := by
  unfold rolesF factsF
  simp only [List.filterMap_append]
  rw [fm_map0 (j := 1) (h := fU) (fun _ => rfl) (by decide), fm_map (k := 2) (h := fR) (fun _ => rfl), fm_map0 (j := 3) (h := fI) (fun _ => rfl) (by decide), fm_map0 (j := 4) (h := fA) (fun _ => rfl) (by decide), fm_map0 (j := 5) (h := fG) (fun _ => rfl) (by decide), fm_map0 (j := 6) (h := fS) (fun _ => rfl) (by decide), fm_map0 (j := 7) (h := fD) (fun _ => rfl) (by decide), fm_map0 (j := 8) (h := fE) (fun _ => rfl) (by decide)]
  simp [fR]
 have i : inhF (factsF p) = p.inherit := by
  unfold inhF factsF
  simp only [List.filterMap_append]
  rw [fm_map0 (j := 1) (h := fU) (fun _ => rfl) (by decide), fm_map0 (j := 2) (h := fR) (fun _ => rfl) (by decide), fm_map (k := 3) (h := fI) (fun _ => rfl), fm_map0 (j := 4) (h := fA) (fun _ => rfl) (by decide), fm_map0 (j := 5) (h := fG) (fun _ => rfl) (by decide), fm_map0 (j := 6) (h := fS) (fun _ => rfl) (by decide), fm_map0 (j := 7) (h := fD) (fun _ => rfl) (by decide), fm_map0 (j := 8) (h := fE) (fun _ => rfl) (by decide)]
  simp [fI]
 have a : asgF (factsF p) = p.assign := by
  unfold asgF factsF
  simp only [List.filterMap_append]
  rw [fm_map0 (j := 1) (h := fU) (fun _ => rfl) (by decide), fm_map0 (j := 2) (h := fR) (fun _ => rfl) (by decide), fm_map0 (j := 3) (h := fI) (fun _ => rfl) (by decide), fm_map (k := 4) (h := fA) (fun _ => rfl), fm_map0 (j := 5) (h := fG) (fun _ => rfl) (by decide), fm_map0 (j := 6) (h := fS) (fun _ => rfl) (by decide), fm_map0 (j := 7) (h := fD) (fun _ => rfl) (by decide), fm_map0 (j := 8) (h := fE) (fun _ => rfl) (by decide)]
  simp [fA]
 have g : grF (factsF p) = p.grants := by
  unfold grF factsF
  simp only [List.filterMap_append]
  rw [fm_map0 (j := 1) (h := fU) (fun _ => rfl) (by decide), fm_map0 (j := 2) (h := fR) (fun _ => rfl) (by decide), fm_map0 (j := 3) (h := fI) (fun _ => rfl) (by decide), fm_map0 (j := 4) (h := fA) (fun _ => rfl) (by decide), fm_map (k := 5) (h := fG) (fun _ => rfl), fm_map0 (j := 6) (h := fS) (fun _ => rfl) (by decide), fm_map0 (j := 7) (h := fD) (fun _ => rfl) (by decide), fm_map0 (j := 8) (h := fE) (fun _ => rfl) (by decide)]
  simp [fG]
 have s : ssdF (factsF p) = p.ssd := by
  unfold ssdF factsF
  simp only [List.filterMap_append]
  rw [fm_map0 (j := 1) (h := fU) (fun _ => rfl) (by decide), fm_map0 (j := 2) (h := fR) (fun _ => rfl) (by decide), fm_map0 (j := 3) (h := fI) (fun _ => rfl) (by decide), fm_map0 (j := 4) (h := fA) (fun _ => rfl) (by decide), fm_map0 (j := 5) (h := fG) (fun _ => rfl) (by decide), fm_map (k := 6) (h := fS) (fun _ => rfl), fm_map0 (j := 7) (h := fD) (fun _ => rfl) (by decide), fm_map0 (j := 8) (h := fE) (fun _ => rfl) (by decide)]
  simp [fS]
 have d : dsdF (factsF p) = p.dsd := by
  unfold dsdF factsF
  simp only [List.filterMap_append]
  rw [fm_map0 (j := 1) (h := fU) (fun _ => rfl) (by decide), fm_map0 (j := 2) (h := fR) (fun _ => rfl) (by decide), fm_map0 (j := 3) (h := fI) (fun _ => rfl) (by decide), fm_map0 (j := 4) (h := fA) (fun _ => rfl) (by decide), fm_map0 (j := 5) (h := fG) (fun _ => rfl) (by decide), fm_map0 (j := 6) (h := fS) (fun _ => rfl) (by decide), fm_map (k := 7) (h := fD) (fun _ => rfl), fm_map0 (j := 8) (h := fE) (fun _ => rfl) (by decide)]
  simp [fD]
 have e : sesF (factsF p) = p.sessions := by
  unfold sesF factsF
  simp only [List.filterMap_append]
  rw [fm_map0 (j := 1) (h := fU) (fun _ => rfl) (by decide), fm_map0 (j := 2) (h := fR) (fun _ => rfl) (by decide), fm_map0 (j := 3) (h := fI) (fun _ => rfl) (by decide), fm_map0 (j := 4) (h := fA) (fun _ => rfl) (by decide), fm_map0 (j := 5) (h := fG) (fun _ => rfl) (by decide), fm_map0 (j := 6) (h := fS) (fun _ => rfl) (by decide), fm_map0 (j := 7) (h := fD) (fun _ => rfl) (by decide), fm_map (k := 8) (h := fE) (fun _ => rfl)]
  simp [fE]
 unfold ofF
 rw [u, r, i, a, g, s, d, e]
theorem facts_len {p : GRoles} (h : Mid p) : (factsF p).length ≤ 80000 ∧ ∀ x ∈ factsF p, x.l.length ≤ 100000 := by
 obtain ⟨h1, h2, h3, h4, h5, h6, h7, h8, h9, h10, h11⟩ := h
 constructor
 ·unfold factsF
  simp only [List.length_append, List.length_map]
  omega
 ·intro x hx
  unfold factsF at hx
  simp only [List.mem_append, List.mem_map] at hx
  rcases hx with ((((((⟨y, hy, rfl⟩ | ⟨y, hy, rfl⟩) | ⟨y, hy, rfl⟩) | ⟨y, hy, rfl⟩) | ⟨y, hy, rfl⟩) | ⟨y, hy, rfl⟩) | ⟨y, hy, rfl⟩) | ⟨y, hy, rfl⟩
  ·exact Nat.zero_le _
  ·exact Nat.zero_le _
  ·exact Nat.zero_le _
  ·exact Nat.zero_le _
  ·exact Nat.zero_le _
  ·exact h9 y hy
  ·exact h10 y hy
  ·exact h11 y hy
end Go.Proofs.YtkkhgdmmbhpckaaGreat.Ab

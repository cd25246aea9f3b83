/-
 sess.Valid, told plainly: users' and sessions' roles; the whole. No program in sight.
-/
import Derived.Test.YtkkhgdmmbhpckaaVl
namespace Go.Proofs.Ytkkhgdmmbhpckaa.Ab
open Go.RowKit
section
variable {n : Nat} {p : GRoles} (hn : 200000 ≤ n) (hf : Few p)
def StatP (p : GRoles) (f : GFact) : Prop := ∀ u ∈ p.users, ((cntP f.l (RolP p u) : Nat) : Int) < f.n_
theorem lists_fold {R : ByteArray → List ByteArray} (hR : ∀ u, sess_Roles n p u = some (R u)) {ks : List ByteArray} : ∀ (xs : List ByteArray) (acc : List (List ByteArray)), acc.length + xs.length ≤ 4294967296 → foldK (sess_static_L1_f n p ks) (sess_static_L1_e n p ks) xs acc = some (acc ++ xs.map R)
 | [], acc, _ => by simp [foldK, sess_static_L1_e]
 | x :: xs, acc, h => by
  rw [List.length_cons] at h
  have happ : app acc [R x] = some (acc ++ [R x]) := appS (by simp; omega)
  rw [foldK]
  unfold sess_static_L1_f
  dsimp only
  rw [hR x, Zo, happ, Zo]
  refine (lists_fold hR xs _ (by rw [List.length_append, List.length_singleton]; omega)).trans ?_
  simp
include hn in
theorem over_some {R : ByteArray → List ByteArray} (hR : ∀ u, tx.Rises (R u) ∧ (∀ y, y ∈ R u ↔ RolP p u y) ∧ (R u).length ≤ 104000) {us : List ByteArray} (hu : us.length ≤ 100000) {f : GFact} (hx : f.l.length ≤ 100000) :
  ∃ b, slices_ContainsFunc_____string___string___sess_static_c1 n (us.map R) f = some b ∧ (b = false ↔ ∀ u ∈ us, ((cntP f.l (RolP p u) : Nat) : Int) < f.n_) := by
 have hc : ∀ u, sess_static_c1 n (R u) f = some (decide (f.n_ ≤ ((cntP f.l (RolP p u) : Nat) : Int))) := fun u => by
  unfold sess_static_c1
  rw [common_some hn hx (hR u).1 (hR u).2.2 (hR u).2.1]
  rfl
 have hlen : (us.map R).length = us.length := List.length_map ..
 obtain ⟨q, hq⟩ : ∃ q : List ByteArray → Bool, ∀ l ∈ us.map R, sess_static_c1 n l f = some (q l) := by
  refine ⟨fun l => (sess_static_c1 n l f).getD false, fun l hl => ?_⟩
  obtain ⟨u, _, rfl⟩ := List.mem_map.1 hl
  show sess_static_c1 n (R u) f = some ((sess_static_c1 n (R u) f).getD false)
  rw [hc u]
  rfl
 obtain ⟨r, e, h⟩ := ixf_loop (L := slices_IndexFunc_____string___string___sess_static_c1_L1 n (us.map R) f) (xs := us.map R) (P := fun l => sess_static_c1 n l f) q (fun _ _ => rfl) hq (by omega) n 0 (by omega) (by omega)
 have e : slices_IndexFunc_____string___string___sess_static_c1_L1 n (us.map R) f n 0 = some r := e
 rw [List.drop_zero] at h
 have hany : (us.map R).any q = false ↔ ∀ u ∈ us, ((cntP f.l (RolP p u) : Nat) : Int) < f.n_ := by
  rw [List.any_eq_false]
  constructor
  ·intro h u hu
   have h2 := h (R u) (List.mem_map.2 ⟨u, hu, rfl⟩)
   have h3 := hq (R u) (List.mem_map.2 ⟨u, hu, rfl⟩)
   rw [hc u] at h3
   have h3 := Option.some.inj h3
   rw [← h3, decide_eq_true_eq] at h2
   omega
  ·intro h l hl
   have h3 := hq l hl
   obtain ⟨u, hu, rfl⟩ := List.mem_map.1 hl
   rw [hc u] at h3
   have h3 := Option.some.inj h3
   have := h u hu
   rw [← h3, decide_eq_true_eq]
   omega
 unfold slices_ContainsFunc_____string___string___sess_static_c1 slices_IndexFunc_____string___string___sess_static_c1
 rw [e, Zo]
 rcases h with ⟨h1, k, rfl⟩ | ⟨h1, rfl⟩
 ·refine ⟨true, by simp, fun h => (by cases h), fun h => ?_⟩
  rw [hany.2 h] at h1
  cases h1
 ·exact ⟨false, by simp, fun _ => hany.1 h1, fun _ => rfl⟩
include hn in
theorem stat_fold {R : ByteArray → List ByteArray} (hR : ∀ u, tx.Rises (R u) ∧ (∀ y, y ∈ R u ↔ RolP p u y) ∧ (R u).length ≤ 104000) {us : List ByteArray} (hu : us.length ≤ 100000) (hus : ∀ u, u ∈ us ↔ u ∈ p.users) {l : List GFact} : ∀ xs : List GFact, (∀ x ∈ xs, x.l.length ≤ 100000) →
  ∃ r, foldK (sess_static_L2_f n l (us.map R)) (sess_static_L2_e n l (us.map R)) xs () = some r ∧ ((r = .inl () ∧ ∀ x ∈ xs, x.kind = 6 → StatP p x) ∨ (∃ a, r = .inr (a, true) ∧ ¬ ∀ x ∈ xs, x.kind = 6 → StatP p x))
 | [], _ => ⟨_, rfl, .inl ⟨rfl, fun _ h => by cases h⟩⟩
 | x :: xs, h => by
  have hx := h x (List.mem_cons_self ..)
  obtain ⟨r, k1, k2⟩ := stat_fold hR hu hus (l := l) xs fun y hy => h y (List.mem_cons_of_mem _ hy)
  have hs : StatP p x ↔ ∀ u ∈ us, ((cntP x.l (RolP p u) : Nat) : Int) < x.n_ := forall_congr' fun u => imp_congr_left (hus u).symm
  rw [foldK]
  unfold sess_static_L2_f
  dsimp only
  by_cases k6 : x.kind = 6
  ·obtain ⟨b, e, hb⟩ := over_some hn hR hu hx
   rw [show (x.kind == 6) = true by simp [k6], if_pos rfl, e, Zo]
   cases b with
   | true =>
    rw [if_pos rfl]
    exact ⟨_, rfl, .inr ⟨_, rfl, fun h2 => Bool.noConfusion (hb.2 (hs.1 (h2 x (List.mem_cons_self ..) k6)))⟩⟩
   | false =>
    rw [if_neg (by decide)]
    refine ⟨r, k1, k2.imp (fun ⟨e, h2⟩ => ⟨e, fun y hy hk => ?_⟩) fun ⟨a, e, h2⟩ => ⟨a, e, fun h3 => h2 fun y hy => h3 y (List.mem_cons_of_mem _ hy)⟩⟩
    rcases List.mem_cons.1 hy with rfl | hy
    ·exact hs.2 (hb.1 rfl)
    ·exact h2 y hy hk
  ·rw [show (x.kind == 6) = false by simp [k6], if_neg (by decide)]
   refine ⟨r, k1, k2.imp (fun ⟨e, h2⟩ => ⟨e, fun y hy hk => ?_⟩) fun ⟨a, e, h2⟩ => ⟨a, e, fun h3 => h2 fun y hy => h3 y (List.mem_cons_of_mem _ hy)⟩⟩
   rcases List.mem_cons.1 hy with rfl | hy
   ·exact absurd hk k6
   ·exact h2 y hy hk
include hn hf in
theorem stat_some {l : List GFact} (hl : l.length ≤ 100000) (hx : ∀ x ∈ l, x.l.length ≤ 100000) : ∃ a b, sess_static n l p = some (a, b) ∧ (b = false ↔ ∀ x ∈ l, x.kind = 6 → StatP p x) := by
 obtain ⟨R, hR⟩ := Classical.axiomOfChoice (roles_some hn hf)
 have hlen := ofL_len tx p.users
 have hfu := hf.u
 obtain ⟨r, k1, k2⟩ := stat_fold hn (R := R) (fun u => (hR u).2) (us := tx.ofL p.users) (by omega) (fun u => tx.mem_ofL) (l := l) l hx
 unfold sess_static
 rw [once_some (by omega), Zo]
 have hL1 : sess_static_L1 n p (tx.ofL p.users) n ([], 0) = _ := sess_static_L1_list n p (tx.ofL p.users) (by omega) n [] 0 (Nat.zero_le _) (by omega)
 rw [hL1, List.drop_zero, lists_fold (fun u => (hR u).1) _ _ (by simp; omega), Zo, List.nil_append]
 have hL2 : sess_static_L2 n l ((tx.ofL p.users).map R) n 0 = _ := sess_static_L2_list n l ((tx.ofL p.users).map R) (by omega) n () 0 (Nat.zero_le _) (by omega)
 rw [hL2, List.drop_zero, k1, Zo]
 rcases k2 with ⟨rfl, h⟩ | ⟨a, rfl, h⟩
 ·exact ⟨0, false, rfl, fun _ => h, fun _ => rfl⟩
 ·exact ⟨a, true, rfl, fun h => (by cases h), fun h2 => absurd h2 h⟩
def SesP (p : GRoles) (f : GFact) : Prop := (∀ r ∈ f.l, RolP p f.b r) ∧ ∀ d ∈ p.dsd, ((cntP d.roles (ActP p f.a) : Nat) : Int) < d.n_
include hn in
theorem dyn_fold {act : List ByteArray} {Q : ByteArray → Prop} (h1 : tx.Rises act) (h2 : ∀ y, y ∈ act ↔ Q y) (h3 : act.length ≤ 104000) : ∀ xs : List GSod, (∀ x ∈ xs, x.roles.length ≤ 100000) →
  ∃ r, foldK (sess_session_L1_f n p act) (sess_session_L1_e n p act) xs () = some r ∧ ((r = .inl () ∧ ∀ d ∈ xs, ((cntP d.roles Q : Nat) : Int) < d.n_) ∨ (r = .inr 19 ∧ ¬ ∀ d ∈ xs, ((cntP d.roles Q : Nat) : Int) < d.n_))
 | [], _ => ⟨_, rfl, .inl ⟨rfl, fun _ h => by cases h⟩⟩
 | x :: xs, h => by
  obtain ⟨r, k1, k2⟩ := dyn_fold h1 h2 h3 xs fun y hy => h y (List.mem_cons_of_mem _ hy)
  rw [foldK]
  unfold sess_session_L1_f
  dsimp only
  rw [common_some hn (h x (List.mem_cons_self ..)) h1 h3 h2, Zo]
  by_cases e : x.n_ ≤ ((cntP x.roles Q : Nat) : Int)
  ·rw [decide_eq_true e, if_pos rfl]
   exact ⟨_, rfl, .inr ⟨rfl, fun h4 => by have := h4 x (List.mem_cons_self ..); omega⟩⟩
  ·rw [decide_eq_false e, if_neg (by decide)]
   refine ⟨r, k1, k2.imp (fun ⟨e2, h4⟩ => ⟨e2, fun y hy => ?_⟩) fun ⟨e2, h4⟩ => ⟨e2, fun h5 => h4 fun y hy => h5 y (List.mem_cons_of_mem _ hy)⟩⟩
   rcases List.mem_cons.1 hy with rfl | hy
   ·omega
   ·exact h4 y hy
include hn hf in
theorem ses_some {f : GFact} (hx : f.l.length ≤ 100000) (hd : p.dsd.length ≤ 100000) (hdr : ∀ d ∈ p.dsd, d.roles.length ≤ 100000) : ∃ e, sess_session n f p = some e ∧ (e = 0 ↔ SesP p f) := by
 obtain ⟨r, r1, r2, r3, r4⟩ := roles_some hn hf f.b
 obtain ⟨a, a1, a2, a3, a4⟩ := active_some hn hf f.a
 have hlen := ofL_len tx f.l
 have hle := cntP_le f.l (RolP p f.b)
 unfold sess_session SesP
 rw [r1, Zo, common_some hn hx r2 r4 r3, Zo, once_some (by omega), Zo]
 by_cases h : cntP f.l (RolP p f.b) < (tx.ofL f.l).length
 ·rw [dlt h, if_pos rfl]
  exact ⟨18, rfl, fun h => (by cases h), fun h2 => by have := cntP_all.2 h2.1; omega⟩
 ·have hall : ∀ x ∈ f.l, RolP p f.b x := cntP_all.1 (by omega)
  rw [dnlt (by omega), if_neg (by decide), a1, Zo]
  obtain ⟨q, k1, k2⟩ := dyn_fold hn (p := p) a2 a3 a4 p.dsd hdr
  have hL : sess_session_L1 n p a n 0 = _ := sess_session_L1_list n p a (by omega) n () 0 (Nat.zero_le _) (by omega)
  rw [hL, List.drop_zero, k1, Zo]
  rcases k2 with ⟨rfl, h2⟩ | ⟨rfl, h2⟩
  ·exact ⟨0, rfl, fun _ => ⟨hall, h2⟩, fun _ => rfl⟩
  ·exact ⟨19, rfl, fun h => (by cases h), fun h3 => absurd h3.2 h2⟩
include hn hf in
theorem sess_fold (hd : p.dsd.length ≤ 100000) (hdr : ∀ d ∈ p.dsd, d.roles.length ≤ 100000) {l : List GFact} : ∀ xs : List GFact, (∀ x ∈ xs, x.l.length ≤ 100000) →
  ∃ r, foldK (sess_Valid_L4_f n l p) (sess_Valid_L4_e n l p) xs () = some r ∧ ((r = .inl () ∧ ∀ x ∈ xs, x.kind = 8 → SesP p x) ∨ (∃ a e, r = .inr (a, e) ∧ e ≠ 0 ∧ ¬ ∀ x ∈ xs, x.kind = 8 → SesP p x))
 | [], _ => ⟨_, rfl, .inl ⟨rfl, fun _ h => by cases h⟩⟩
 | x :: xs, h => by
  obtain ⟨r, k1, k2⟩ := sess_fold hd hdr (l := l) xs fun y hy => h y (List.mem_cons_of_mem _ hy)
  rw [foldK]
  unfold sess_Valid_L4_f
  dsimp only
  by_cases k8 : x.kind = 8
  ·obtain ⟨e, e1, e2⟩ := ses_some hn hf (h x (List.mem_cons_self ..)) hd hdr
   rw [show (x.kind != 8) = false by simp [k8], if_neg (by decide), e1, Zo]
   by_cases h0 : e = 0
   ·rw [show (e != 0) = false by simp [h0], if_neg (by decide)]
    refine ⟨r, k1, k2.imp (fun ⟨e, h2⟩ => ⟨e, fun y hy hk => ?_⟩) fun ⟨a, b, e, e3, h2⟩ => ⟨a, b, e, e3, fun h3 => h2 fun y hy => h3 y (List.mem_cons_of_mem _ hy)⟩⟩
    rcases List.mem_cons.1 hy with rfl | hy
    ·exact e2.1 h0
    ·exact h2 y hy hk
   ·rw [show (e != 0) = true by simp [h0], if_pos rfl]
    exact ⟨_, rfl, .inr ⟨_, _, rfl, h0, fun h3 => h0 (e2.2 (h3 x (List.mem_cons_self ..) k8))⟩⟩
  ·rw [show (x.kind != 8) = true by simp [k8], if_pos rfl]
   refine ⟨r, k1, k2.imp (fun ⟨e, h2⟩ => ⟨e, fun y hy hk => ?_⟩) fun ⟨a, b, e, e3, h2⟩ => ⟨a, b, e, e3, fun h3 => h2 fun y hy => h3 y (List.mem_cons_of_mem _ hy)⟩⟩
   rcases List.mem_cons.1 hy with rfl | hy
   ·exact absurd hk k8
   ·exact h2 y hy hk
end
theorem mark1 {n : Nat} {q : GRoles} : ∀ (xs us : List ByteArray) (m m2 : List (ByteArray × Int)), Told m us → ∃ m', foldK (sess_Valid_L1_f n q) (sess_Valid_L1_e n q) xs (m, m2) = some (m', m2) ∧ Told m' (us ++ xs)
 | [], us, m, m2, h => ⟨m, rfl, by simpa using h⟩
 | x :: xs, us, m, m2, h => by
  obtain ⟨m', k1, k2⟩ := mark1 (n := n) (q := q) xs (us ++ [x]) (mset x 1 m) m2 (h.add x)
  rw [List.append_assoc, List.singleton_append] at k2
  exact ⟨m', k1, k2⟩
theorem mark2 {n : Nat} {q : GRoles} : ∀ (xs us : List ByteArray) (m : List (ByteArray × Int)), Told m us → ∃ m', foldK (sess_Valid_L2_f n q) (sess_Valid_L2_e n q) xs m = some m' ∧ Told m' (us ++ xs)
 | [], us, m, h => ⟨m, rfl, by simpa using h⟩
 | x :: xs, us, m, h => by
  obtain ⟨m', k1, k2⟩ := mark2 (n := n) (q := q) xs (us ++ [x]) (mset x 1 m) (h.add x)
  rw [List.append_assoc, List.singleton_append] at k2
  exact ⟨m', k1, k2⟩
theorem each_some {n : Nat} (hn : 200000 ≤ n) {l : List GFact} (hl : l.length ≤ 100000) (hx : ∀ x ∈ l, x.l.length ≤ 100000) {m1 m2 : List (ByteArray × Int)} {us rs : List ByteArray} (h1 : Told m1 us) (h2 : Told m2 rs) : ∀ (c i : Nat), i ≤ l.length → l.length - i < c →
  ∃ r, sess_Valid_L3 n l m1 m2 c (i : Int) = some r ∧ ((r = .inl () ∧ ∀ j (h : j < l.length), i ≤ j → OneP us rs l[j] (l.take j)) ∨ (∃ a e, r = .inr (a, e) ∧ e ≠ 0 ∧ ¬ ∀ j (h : j < l.length), OneP us rs l[j] (l.take j)))
 | 0, _, _, h => by omega
 | c + 1, i, hi, hc => by
  rw [sess_Valid_L3]
  by_cases h : i < l.length
  ·have e0 : slc l 0 (i : Int) = some (l.take i) := by
    have := slcS (xs := l) (a := 0) (b := i) (Nat.zero_le _) (by omega)
    rwa [List.drop_zero] at this
   obtain ⟨e, e1, e2⟩ := one_some hn (t := ⟨m1, m2⟩) h1 h2 (f := l[i]) (hx _ (List.getElem_mem h)) (ahead := l.take i) (by rw [List.length_take]; omega) fun x hm => hx x (List.mem_of_mem_take hm)
   rw [dlt h, if_pos rfl, idxS h, Zo, e0, Zo, e1, Zo, wr1 (by omega)]
   by_cases h0 : e = 0
   ·rw [show (e != 0) = false by simp [h0], if_neg (by decide)]
    obtain ⟨r, k1, k2⟩ := each_some hn hl hx h1 h2 c (i + 1) (by omega) (by omega)
    refine ⟨r, k1, k2.imp_left fun ⟨e, h3⟩ => ⟨e, fun j hj hij => ?_⟩⟩
    rcases Nat.lt_or_ge i j with hlt | hge
    ·exact h3 j hj hlt
    ·have : j = i := by omega
     subst this
     exact e2.1 h0
   ·rw [show (e != 0) = true by simp [h0], if_pos rfl]
    exact ⟨_, rfl, .inr ⟨_, _, rfl, h0, fun h3 => h0 (e2.2 (h3 i h))⟩⟩
  ·rw [dnlt (by omega), if_neg (by decide)]
   exact ⟨_, rfl, .inl ⟨rfl, fun j hj hij => by omega⟩⟩
structure ValidF (l : List GFact) : Prop where
 one : ∀ j (h : j < l.length), OneP (usersF l) (rolesF l) l[j] (l.take j)
 ring : ¬ RingP (inhF l)
 stat : ∀ x ∈ l, x.kind = 6 → StatP (ofF l) x
 sess : ∀ x ∈ l, x.kind = 8 → SesP (ofF l) x
theorem few_ofF {l : List GFact} (hl : l.length ≤ 4000) (hx : ∀ x ∈ l, x.l.length ≤ 100000) : Few (ofF l) where
 u := Nat.le_trans (fm_len _ _) (by omega)
 i := Nat.le_trans (fm_len _ _) (by omega)
 a := Nat.le_trans (fm_len _ _) (by omega)
 g := Nat.le_trans (fm_len _ _) (by omega)
 s := Nat.le_trans (fm_len _ _) (by omega)
 r := fun x h => by
  obtain ⟨f, h1, _, rfl⟩ := mem_sesF.1 h
  exact hx f h1
theorem valid_some {n : Nat} (hn : 200000 ≤ n) {l : List GFact} (hl : l.length ≤ 4000) (hx : ∀ x ∈ l, x.l.length ≤ 100000) : ∃ a e, sess_Valid n l = some (a, e) ∧ (e = 0 ↔ ValidF l) ∧ (e = 0 → a = 0) := by
 have hf := few_ofF hl hx
 have hu : (usersF l).length ≤ 4000 := Nat.le_trans (fm_len _ _) hl
 have hr : (rolesF l).length ≤ 4000 := Nat.le_trans (fm_len _ _) hl
 have hd : (ofF l).dsd.length ≤ 100000 := Nat.le_trans (fm_len _ _) (by omega)
 have hdr : ∀ d ∈ (ofF l).dsd, d.roles.length ≤ 100000 := fun d h => by
  obtain ⟨f, h1, _, rfl⟩ := mem_dsdF.1 h
  exact hx f h1
 obtain ⟨m1, a1, a2⟩ := mark1 (n := n) (q := ofF l) (usersF l) [] [] [] told_nil
 obtain ⟨m2, b1, b2⟩ := mark2 (n := n) (q := ofF l) (rolesF l) [] [] told_nil
 rw [List.nil_append] at a2 b2
 have hL1 : sess_Valid_L1 n (ofF l) n ([], [], 0) = _ := sess_Valid_L1_list n (ofF l) (by show (usersF l).length < _; omega) n ([], []) 0 (Nat.zero_le _) (by show (usersF l).length - 0 < _; omega)
 have hL2 : sess_Valid_L2 n (ofF l) n ([], 0) = _ := sess_Valid_L2_list n (ofF l) (by show (rolesF l).length < _; omega) n [] 0 (Nat.zero_le _) (by show (rolesF l).length - 0 < _; omega)
 obtain ⟨r3, c1, c2⟩ := each_some hn (l := l) (by omega) hx a2 b2 n 0 (Nat.zero_le _) (by omega)
 have c1 : sess_Valid_L3 n l m1 m2 n 0 = some r3 := c1
 unfold sess_Valid
 rw [ofN_some (by omega) (by omega) fun x h => by have := hx x h; omega, Zo, hL1, List.drop_zero]
 have a1 : foldK (sess_Valid_L1_f n (ofF l)) (sess_Valid_L1_e n (ofF l)) (ofF l).users ([], []) = some (m1, []) := a1
 have b1 : foldK (sess_Valid_L2_f n (ofF l)) (sess_Valid_L2_e n (ofF l)) (ofF l).roles [] = some m2 := b1
 rw [a1, Zo]
 dsimp only
 rw [hL2, List.drop_zero, b1, Zo, c1, Zo]
 rcases c2 with ⟨rfl, h1⟩ | ⟨a, e, rfl, he, h1⟩
 ·dsimp only
  obtain ⟨a, b, d1, d2⟩ := loop_some hn hl
  rw [d1, Zo]
  dsimp only
  cases b with
  | true =>
   rw [if_pos rfl]
   exact ⟨a, 14, rfl, ⟨fun h => (by cases h), fun h => absurd (d2.1 rfl) h.ring⟩, fun h => (by cases h)⟩
  | false =>
   have hring : ¬ RingP (inhF l) := fun h => Bool.noConfusion (d2.2 h)
   obtain ⟨a, b, e1, e2⟩ := stat_some hn hf (l := l) (by omega) hx
   rw [if_neg (by decide), e1, Zo]
   dsimp only
   cases b with
   | true =>
    rw [if_pos rfl]
    exact ⟨a, 17, rfl, ⟨fun h => (by cases h), fun h => Bool.noConfusion (e2.2 h.stat)⟩, fun h => (by cases h)⟩
   | false =>
    obtain ⟨r, k1, k2⟩ := sess_fold hn hf hd hdr (l := l) l hx
    have hL4 : sess_Valid_L4 n l (ofF l) n 0 = _ := sess_Valid_L4_list n l (ofF l) (by omega) n () 0 (Nat.zero_le _) (by omega)
    rw [if_neg (by decide), hL4, List.drop_zero, k1, Zo]
    rcases k2 with ⟨rfl, h3⟩ | ⟨a, e, rfl, he, h3⟩
    ·exact ⟨0, 0, rfl, ⟨fun _ => ⟨fun j h => h1 j h (Nat.zero_le _), hring, e2.1 rfl, h3⟩, fun _ => rfl⟩, fun _ => rfl⟩
    ·exact ⟨a, e, rfl, ⟨fun h => absurd h he, fun h => absurd h.sess h3⟩, fun h => absurd h he⟩
 ·exact ⟨a, e, rfl, ⟨fun h => absurd h he, fun h => absurd h.one h1⟩, fun h => absurd h he⟩
end Go.Proofs.Ytkkhgdmmbhpckaa.Ab

/-
 sess.Valid, told plainly. No program in sight.
-/
import Derived.Test.YtkkhgdmmbhpckaaSvb
import Derived.Test.YtkkhgdmmbhpckaaSm
import Derived.Test.YtkkhgdmmbhpckaaFo
import Derived.Test.YtkkhgdmmbhpckaaBi
import Derived.Test.YtkkhgdmmbhpckaaCn
namespace Go.Proofs.Ytkkhgdmmbhpckaa.Ab
open Go.RowKit
abbrev St8 := List ByteArray × List ByteArray × List GPair × List GPair × List GGrant × List GSod × List GSod × List GSession
def cat8 (s : St8) (l : List GFact) : St8 := (s.1 ++ usersF l, s.2.1 ++ rolesF l, s.2.2.1 ++ inhF l, s.2.2.2.1 ++ asgF l, s.2.2.2.2.1 ++ grF l, s.2.2.2.2.2.1 ++ ssdF l, s.2.2.2.2.2.2.1 ++ dsdF l, s.2.2.2.2.2.2.2 ++ sesF l)
def le8 (s : St8) (m : Nat) : Prop := s.1.length ≤ m ∧ s.2.1.length ≤ m ∧ s.2.2.1.length ≤ m ∧ s.2.2.2.1.length ≤ m ∧ s.2.2.2.2.1.length ≤ m ∧ s.2.2.2.2.2.1.length ≤ m ∧ s.2.2.2.2.2.2.1.length ≤ m ∧ s.2.2.2.2.2.2.2.length ≤ m
theorem cat8_cons (s : St8) (x : GFact) (l : List GFact) : cat8 s (x :: l) = cat8 (cat8 s [x]) l := by
 have h : ∀ {β : Type} (g : GFact → Option β), (x :: l).filterMap g = [x].filterMap g ++ l.filterMap g := fun g => by rw [← List.filterMap_append]; rfl
 unfold cat8 usersF rolesF inhF asgF grF ssdF dsdF sesF
 rw [h, h, h, h, h, h, h, h]
 simp only [List.append_assoc]
theorem one8 {β : Type} {k : Int} {g : GFact → β} {x : GFact} : [x].filterMap (fun f => if f.kind = k then some (g f) else none) = if x.kind = k then [g x] else [] := by
 by_cases h : x.kind = k <;> simp [h]
theorem le8_one {s : St8} {m : Nat} (h : le8 s m) (x : GFact) : le8 (cat8 s [x]) (m + 1) := by
 have k : ∀ {β : Type} (g : GFact → Option β), ([x].filterMap g).length ≤ 1 := fun g => List.length_filterMap_le ..
 obtain ⟨h1, h2, h3, h4, h5, h6, h7, h8⟩ := h
 unfold le8 cat8 usersF rolesF inhF asgF grF ssdF dsdF sesF
 simp only [List.length_append]
 exact ⟨Nat.add_le_add h1 (k _), Nat.add_le_add h2 (k _), Nat.add_le_add h3 (k _), Nat.add_le_add h4 (k _), Nat.add_le_add h5 (k _), Nat.add_le_add h6 (k _), Nat.add_le_add h7 (k _), Nat.add_le_add h8 (k _)⟩
theorem app1 {α : Type} {xs : List α} {y : α} {m : Nat} (h : xs.length ≤ m) (hm : m < 4294967296) : app xs [y] = some (xs ++ [y]) := appS (by simp; omega)
theorem ofN_step {n : Nat} {t0 : List GFact} {s : St8} {m : Nat} (h : le8 s m) (hm : m < 4294967296) {x : GFact} (hx : x.l.length ≤ 4294967296) (k : St8 → Option St8) : norm_Of_L1_f n t0 s x k = k (cat8 s [x]) := by
 obtain ⟨s1, s2, s3, s4, s5, s6, s7, s8⟩ := s
 obtain ⟨h1, h2, h3, h4, h5, h6, h7, h8⟩ := h
 unfold norm_Of_L1_f cat8 usersF rolesF inhF asgF grF ssdF dsdF sesF
 simp only [one8]
 have hl : x.l.length = 0 → x.l = [] := List.eq_nil_of_length_eq_zero
 by_cases k1 : x.kind = 1
 ·simp [k1, app1 h1 hm]
 by_cases k2 : x.kind = 2
 ·simp [k2, app1 h2 hm]
 by_cases k3 : x.kind = 3
 ·simp [k3, app1 h3 hm]
 by_cases k4 : x.kind = 4
 ·simp [k4, app1 h4 hm]
 by_cases k5 : x.kind = 5
 ·simp [k5, app1 h5 hm]
 by_cases k6 : x.kind = 6
 ·by_cases e : x.l.length = 0
  ·simp [k6, app1 h6 hm, hl e]
  ·have e2 : ¬ x.l = [] := fun h => e (by rw [h]; rfl)
   simp [k6, app1 h6 hm, e2, grd, hx]
 by_cases k7 : x.kind = 7
 ·by_cases e : x.l.length = 0
  ·simp [k7, app1 h7 hm, hl e]
  ·have e2 : ¬ x.l = [] := fun h => e (by rw [h]; rfl)
   simp [k7, app1 h7 hm, e2, grd, hx]
 by_cases k8 : x.kind = 8
 ·by_cases e : x.l.length = 0
  ·simp [k8, app1 h8 hm, hl e]
  ·have e2 : ¬ x.l = [] := fun h => e (by rw [h]; rfl)
   simp [k8, app1 h8 hm, e2, grd, hx]
 simp [k1, k2, k3, k4, k5, k6, k7, k8]
theorem ofN_fold {n : Nat} {t0 : List GFact} : ∀ (xs : List GFact) (s : St8) (m : Nat), le8 s m → m + xs.length ≤ 4294967296 → (∀ x ∈ xs, x.l.length ≤ 4294967296) → foldK (norm_Of_L1_f n t0) (norm_Of_L1_e n t0) xs s = some (cat8 s xs)
 | [], s, m, _, _, _ => by
  obtain ⟨s1, s2, s3, s4, s5, s6, s7, s8⟩ := s
  simp [foldK, norm_Of_L1_e, cat8, usersF, rolesF, inhF, asgF, grF, ssdF, dsdF, sesF]
 | x :: xs, s, m, h, hm, hx => by
  rw [List.length_cons] at hm
  rw [foldK, ofN_step h (by omega) (hx x (List.mem_cons_self ..)), cat8_cons s x xs]
  exact ofN_fold xs _ (m + 1) (le8_one h x) (by omega) fun y hy => hx y (List.mem_cons_of_mem _ hy)
theorem le8_nil {m : Nat} : le8 ([], [], [], [], [], [], [], []) m := ⟨Nat.zero_le _, Nat.zero_le _, Nat.zero_le _, Nat.zero_le _, Nat.zero_le _, Nat.zero_le _, Nat.zero_le _, Nat.zero_le _⟩
theorem ofN_some {n : Nat} {l : List GFact} (hn : l.length < n) (hl : l.length ≤ 100000) (hx : ∀ x ∈ l, x.l.length ≤ 4294967296) : norm_Of n l = some (ofF l) := by
 unfold norm_Of
 have hL : norm_Of_L1 n l n ([], [], [], [], [], [], [], [], 0) = _ := norm_Of_L1_list n l (by omega) n ([], [], [], [], [], [], [], []) 0 (Nat.zero_le _) (by omega)
 rw [hL, List.drop_zero, ofN_fold l _ 0 le8_nil (by omega) hx]
 rfl
theorem ofD_step {n : Nat} {t0 : List GFact} {s : St8} {m : Nat} (h : le8 s m) (hm : m < 4294967296) {x : GFact} (hx : x.l.length ≤ 4294967296) (k : St8 → Option St8) : ref13_Of_L1_f n t0 s x k = k (cat8 s [x]) := by
 obtain ⟨s1, s2, s3, s4, s5, s6, s7, s8⟩ := s
 obtain ⟨h1, h2, h3, h4, h5, h6, h7, h8⟩ := h
 unfold ref13_Of_L1_f cat8 usersF rolesF inhF asgF grF ssdF dsdF sesF
 simp only [one8]
 have hl : app [] x.l = some x.l := appS (by simpa using hx)
 by_cases k1 : x.kind = 1
 ·simp [k1, app1 h1 hm]
 by_cases k2 : x.kind = 2
 ·simp [k2, app1 h2 hm]
 by_cases k3 : x.kind = 3
 ·simp [k3, app1 h3 hm]
 by_cases k4 : x.kind = 4
 ·simp [k4, app1 h4 hm]
 by_cases k5 : x.kind = 5
 ·simp [k5, app1 h5 hm]
 by_cases k6 : x.kind = 6
 ·simp [k6, app1 h6 hm, hl]
 by_cases k7 : x.kind = 7
 ·simp [k7, app1 h7 hm, hl]
 by_cases k8 : x.kind = 8
 ·simp [k8, app1 h8 hm, hl]
 simp [k1, k2, k3, k4, k5, k6, k7, k8]
theorem ofD_fold {n : Nat} {t0 : List GFact} : ∀ (xs : List GFact) (s : St8) (m : Nat), le8 s m → m + xs.length ≤ 4294967296 → (∀ x ∈ xs, x.l.length ≤ 4294967296) → foldK (ref13_Of_L1_f n t0) (ref13_Of_L1_e n t0) xs s = some (cat8 s xs)
 | [], s, m, _, _, _ => by
  obtain ⟨s1, s2, s3, s4, s5, s6, s7, s8⟩ := s
  simp [foldK, ref13_Of_L1_e, cat8, usersF, rolesF, inhF, asgF, grF, ssdF, dsdF, sesF]
 | x :: xs, s, m, h, hm, hx => by
  rw [List.length_cons] at hm
  rw [foldK, ofD_step h (by omega) (hx x (List.mem_cons_self ..)), cat8_cons s x xs]
  exact ofD_fold xs _ (m + 1) (le8_one h x) (by omega) fun y hy => hx y (List.mem_cons_of_mem _ hy)
theorem ofD_some {n : Nat} {l : List GFact} (hn : l.length < n) (hl : l.length ≤ 100000) (hx : ∀ x ∈ l, x.l.length ≤ 4294967296) : ref13_Of n l = some (ofF l) := by
 unfold ref13_Of
 have hL : ref13_Of_L1 n l n ([], [], [], [], [], [], [], [], 0) = _ := ref13_Of_L1_list n l (by omega) n ([], [], [], [], [], [], [], []) 0 (Nat.zero_le _) (by omega)
 rw [hL, List.drop_zero, ofD_fold l _ 0 le8_nil (by omega) hx]
 rfl
theorem search_some {n : Nat} {s : List ByteArray} (t : ByteArray) (hs : tx.Rises s) (h1 : s.length ≤ 4294967296) (h2 : s.length < n) : ∃ i, slices_BinarySearch_string n s t = some (i, decide (t ∈ s)) := by
 unfold slices_BinarySearch_string
 obtain ⟨k, e, hk, ha, hb⟩ := bis_loop tx (L := slices_BinarySearch_string_L1 n s t) (s := s) (t := t) (fun c i j h hj => by
  rw [slices_BinarySearch_string_L1, dlt h, if_pos rfl, mid1 (by omega), idxS (by omega), Zo]
  unfold cmp_Less_string cmp_isNaN_string
  rw [Zo, if_neg (by decide), Zo, wr1 (by omega)]
  rfl) (fun c i => by rw [slices_BinarySearch_string_L1, dnlt (Nat.le_refl _), if_neg (by decide)]) hs n 0 s.length (by omega) (by omega) (by omega) (fun q _ h => by omega) (fun q h h' => by omega)
 have e' : slices_BinarySearch_string_L1 n s t n (0, (s.length : Int)) = some (k : Int) := e
 rw [e', Zo]
 rcases bis_mem tx hk ha hb hs with ⟨h3, h4⟩ | ⟨h3, h4⟩
 ·rw [dnlt (by omega), if_neg (by decide), decide_eq_false h4]
  exact ⟨_, rfl⟩
 ·rw [dlt h3, if_pos rfl, idxS h3, Zo, beqS]
  by_cases h6 : s[k] = t
  ·have hm : t ∈ s := h6 ▸ List.getElem_mem h3
   rw [decide_eq_true h6, if_pos rfl, decide_eq_true hm]
   exact ⟨_, rfl⟩
  ·rw [decide_eq_false h6] at h4
   have hm : t ∉ s := by simpa using h4
   rw [decide_eq_false h6, if_neg (by decide), decide_eq_false hm]
   exact ⟨_, rfl⟩
open Classical in
noncomputable def cntP (l : List ByteArray) (Q : ByteArray → Prop) : Nat := (tx.ofL l).countP fun x => decide (Q x)
open Classical in
theorem cntP_of {l r : List ByteArray} {Q : ByteArray → Prop} (h : ∀ y, y ∈ r ↔ Q y) : ((tx.ofL l).countP fun x => decide (x ∈ r)) = cntP l Q := by
 unfold cntP
 refine List.countP_congr fun x _ => ?_
 rw [decide_eq_true_eq, decide_eq_true_eq]
 exact h x
open Classical in
theorem cntP_le (l : List ByteArray) (Q : ByteArray → Prop) : cntP l Q ≤ (tx.ofL l).length := List.countP_le_length
open Classical in
theorem cntP_congr {l m : List ByteArray} {Q R : ByteArray → Prop} (h : ∀ x, x ∈ l ↔ x ∈ m) (hQ : ∀ y, Q y ↔ R y) : cntP l Q = cntP m R := by
 unfold cntP
 rw [tx.ofL_congr h]
 refine List.countP_congr fun x _ => ?_
 rw [decide_eq_true_eq, decide_eq_true_eq]
 exact hQ x
open Classical in
theorem cntP_all {l : List ByteArray} {Q : ByteArray → Prop} : cntP l Q = (tx.ofL l).length ↔ ∀ x ∈ l, Q x := by
 unfold cntP
 rw [List.countP_eq_length]
 constructor
 ·exact fun h x hx => of_decide_eq_true (h x (tx.mem_ofL.2 hx))
 ·exact fun h x hx => decide_eq_true (h x (tx.mem_ofL.1 hx))
theorem common_fold {n : Nat} {among ks : List ByteArray} (hs : tx.Rises among) (h1 : among.length ≤ 4294967296) (h2 : among.length < n) : ∀ (xs : List ByteArray) (v : Nat), v + xs.length < 4611686018427387904 → foldK (sess_common_L1_f n among ks) (sess_common_L1_e n among ks) xs (v : Int) = some (((v + xs.countP fun x => decide (x ∈ among) : Nat)) : Int)
 | [], v, _ => by simp [foldK, sess_common_L1_e]
 | x :: xs, v, h => by
  rw [List.length_cons] at h
  obtain ⟨i, e⟩ := search_some x hs h1 h2
  rw [foldK]
  unfold sess_common_L1_f
  dsimp only
  rw [e, Zo]
  by_cases hx : x ∈ among
  ·rw [decide_eq_true hx, if_pos rfl, wr1 (by omega), List.countP_cons_of_pos (by simp [hx])]
   refine (common_fold hs h1 h2 xs (v + 1) (by omega)).trans ?_
   rw [show v + 1 + (xs.countP fun x => decide (x ∈ among)) = v + ((xs.countP fun x => decide (x ∈ among)) + 1) by omega]
  ·rw [decide_eq_false hx]
   dsimp only
   rw [if_neg (by decide), List.countP_cons_of_neg (by simp [hx])]
   exact common_fold hs h1 h2 xs v (by omega)
theorem common_some {n : Nat} {roles among : List ByteArray} {Q : ByteArray → Prop} (hn : 200000 ≤ n) (hr : roles.length ≤ 100000) (hs : tx.Rises among) (h1 : among.length ≤ 104000) (hQ : ∀ y, y ∈ among ↔ Q y) : sess_common n roles among = some ((cntP roles Q : Nat) : Int) := by
 have hlen := ofL_len tx roles
 unfold sess_common
 rw [once_some (by omega), Zo]
 have hL : sess_common_L1 n among (tx.ofL roles) n (0, 0) = _ := sess_common_L1_list n among (tx.ofL roles) (by omega) n 0 0 (Nat.zero_le _) (by omega)
 have hF : foldK (sess_common_L1_f n among (tx.ofL roles)) (sess_common_L1_e n among (tx.ofL roles)) (tx.ofL roles) 0 = _ := common_fold hs (by omega) (by omega) (tx.ofL roles) 0 (by omega)
 rw [hL, List.drop_zero, hF, Zo, Nat.zero_add, cntP_of hQ]
def NamesP (us rs : List ByteArray) (f : GFact) : Prop :=
 (f.kind = 3 → f.a ∈ rs ∧ f.b ∈ rs) ∧ (f.kind = 4 → f.a ∈ us ∧ f.b ∈ rs) ∧ (f.kind = 5 → f.a ∈ rs) ∧ (f.kind = 6 ∨ f.kind = 7 → ∀ r ∈ f.l, r ∈ rs) ∧ (f.kind = 8 → f.b ∈ us ∧ ∀ r ∈ f.l, r ∈ rs)
def UnlikeP (x f : GFact) : Prop := x.kind = f.kind ∧ x.a = f.a ∧ 6 ≤ x.kind ∧ x.kind ≤ 8 ∧ ¬ (x.n_ = f.n_ ∧ x.b = f.b ∧ tx.ofL x.l = tx.ofL f.l)
def CountP (f : GFact) : Prop := f.kind = 6 ∨ f.kind = 7 → 2 ≤ f.n_ ∧ f.n_ ≤ ((tx.ofL f.l).length : Int)
def Told (m : List (ByteArray × Int)) (us : List ByteArray) : Prop := ∀ s, ((mgetD s 0 m == 0) = true) ↔ s ∉ us
theorem told_nil : Told [] [] := fun s => by simp [mgetD, mget]
section
attribute [local instance] baLawful
theorem Told.add {m : List (ByteArray × Int)} {us : List ByteArray} (h : Told m us) (x : ByteArray) : Told (mset x 1 m) (us ++ [x]) := fun s => by
 rw [mset_get]
 cases e : (s == x) with
 | true =>
  have : s = x := by simpa using e
  subst this
  simp
 | false =>
  have : s ≠ x := by simpa using e
  rw [if_neg (by decide), h s]
  simp [this]
end
section
variable {n : Nat} (hn : 200000 ≤ n) {t : SessTold} {us rs : List ByteArray} (hu : Told t.users us) (hr : Told t.roles rs)
include hn hr in
theorem names_in {xs : List ByteArray} (hx : xs.length ≤ 100000) : ∃ b, slices_ContainsFunc_string__sess_told_names_c1 n xs t = some b ∧ (b = false ↔ ∀ r ∈ xs, r ∈ rs) := by
 obtain ⟨r, e, h⟩ := ixf_loop (L := slices_IndexFunc_string__sess_told_names_c1_L1 n xs t) (xs := xs) (P := fun s => sess_told_names_c1 n s t) (fun s => mgetD s 0 t.roles == 0) (fun _ _ => rfl) (fun _ _ => rfl) (by omega) n 0 (by omega) (by omega)
 have e : slices_IndexFunc_string__sess_told_names_c1_L1 n xs t n 0 = some r := e
 rw [List.drop_zero] at h
 have hany : (xs.any fun s => mgetD s 0 t.roles == 0) = false ↔ ∀ r ∈ xs, r ∈ rs := by
  rw [List.any_eq_false]
  refine forall_congr' fun x => imp_congr_right fun _ => ?_
  rw [hr x, Classical.not_not]
 unfold slices_ContainsFunc_string__sess_told_names_c1 slices_IndexFunc_string__sess_told_names_c1
 rw [e, Zo]
 rcases h with ⟨h1, k, rfl⟩ | ⟨h1, rfl⟩
 ·refine ⟨true, by simp, fun h => (by cases h), fun h => ?_⟩
  rw [hany.2 h] at h1
  cases h1
 ·exact ⟨false, by simp, fun _ => hany.1 h1, fun _ => rfl⟩
include hn hu hr in
theorem names_some {f : GFact} (hx : f.l.length ≤ 100000) : ∃ b, sess_told_names n t f = some b ∧ (b = true ↔ NamesP us rs f) := by
 have key : ∀ (nd : Bool) (u : ByteArray) (xs : List ByteArray), xs.length ≤ 100000 → ∃ b, (if nd then (if (mgetD u 0 t.users == 0) then some false else (slices_ContainsFunc_string__sess_told_names_c1 n xs t).bind fun t56 => some (!t56)) else (slices_ContainsFunc_string__sess_told_names_c1 n xs t).bind fun t56 => some (!t56)) = some b ∧ (b = true ↔ (nd = true → u ∈ us) ∧ ∀ r ∈ xs, r ∈ rs) := by
  intro nd u xs hxs
  obtain ⟨b, e, hb⟩ := names_in hn hr hxs
  rw [e, Zo]
  cases nd with
  | false => exact ⟨_, rfl, by rw [Bool.not_eq_true', hb]; simp⟩
  | true =>
   rw [if_pos rfl]
   cases h : (mgetD u 0 t.users == 0) with
   | true => exact ⟨false, rfl, fun h => (by cases h), fun h2 => absurd (h2.1 rfl) ((hu u).1 h)⟩
   | false =>
    have hu2 : u ∈ us := Classical.byContradiction fun hc => by rw [(hu u).2 hc] at h; cases h
    exact ⟨_, rfl, by rw [Bool.not_eq_true', hb]; simp [hu2]⟩
 unfold sess_told_names NamesP
 by_cases k3 : f.kind = 3
 ·rw [k3]
  obtain ⟨b, e, h⟩ := key false { data := #[] } [f.a, f.b] (by simp)
  exact ⟨b, e, h.trans (by simp)⟩
 by_cases k4 : f.kind = 4
 ·rw [k4]
  obtain ⟨b, e, h⟩ := key true f.a [f.b] (by simp)
  exact ⟨b, e, h.trans (by simp)⟩
 by_cases k5 : f.kind = 5
 ·rw [k5]
  obtain ⟨b, e, h⟩ := key false { data := #[] } [f.a] (by simp)
  exact ⟨b, e, h.trans (by simp)⟩
 by_cases k6 : f.kind = 6
 ·rw [k6]
  obtain ⟨b, e, h⟩ := key false { data := #[] } f.l hx
  exact ⟨b, e, h.trans (by simp)⟩
 by_cases k7 : f.kind = 7
 ·rw [k7]
  obtain ⟨b, e, h⟩ := key false { data := #[] } f.l hx
  exact ⟨b, e, h.trans (by simp)⟩
 by_cases k8 : f.kind = 8
 ·rw [k8]
  obtain ⟨b, e, h⟩ := key true f.b f.l hx
  exact ⟨b, e, h.trans (by simp)⟩
 refine ⟨true, ?_, by simp [k3, k4, k5, k6, k7, k8]⟩
 rw [show (f.kind == 3) = false by simp [k3], show (f.kind == 4) = false by simp [k4], show (f.kind == 5) = false by simp [k5], show (f.kind == 6) = false by simp [k6], show (f.kind == 7) = false by simp [k7], show (f.kind == 8) = false by simp [k8]]
 rfl
theorem eqTexts_some {a b : List ByteArray} (h1 : a.length < n) (hx : a.length < 4611686018427387904) : slices_Equal_string n a b = some (decide (a = b)) := by
 unfold slices_Equal_string
 by_cases hl : a.length = b.length
 ·have e : ((a.length : Int) != (b.length : Int)) = false := by simp [hl]
  have h : slices_Equal_string_L1 n a b n 0 = _ := same_loop (L := slices_Equal_string_L1 n a b) (E := fun x y => x.toList == y.toList) beqS (fun _ _ => rfl) hl hx n 0 (by omega) (by omega)
  rw [e, if_neg (by decide), h, List.drop_zero, List.drop_zero, Zo]
  by_cases e : a = b <;> simp [e]
 ·have e : ((a.length : Int) != (b.length : Int)) = true := by simp; omega
  rw [e, if_pos rfl, decide_eq_false fun h => hl (by rw [h])]
include hn in
theorem unlike_some {x f : GFact} (hx : x.l.length ≤ 100000) (hf : f.l.length ≤ 100000) : ∃ b, sess_unlike n x f = some b ∧ (b = true ↔ UnlikeP x f) := by
 unfold sess_unlike UnlikeP
 have l1 := ofL_len tx x.l
 by_cases e1 : x.kind = f.kind
 ·rw [show (x.kind != f.kind) = false by simp [e1], if_neg (by decide), beqS]
  by_cases e2 : x.a = f.a
  ·rw [decide_eq_true e2, if_pos rfl]
   by_cases e3 : x.kind < 6
   ·rw [decide_eq_true e3, if_pos rfl, Zo, if_pos rfl]
    exact ⟨false, rfl, fun h => (by cases h), fun h => absurd h.2.2.1 (by omega)⟩
   ·rw [decide_eq_false e3, if_neg (by decide), Zo]
    by_cases e4 : 8 < x.kind
    ·rw [decide_eq_true e4, if_pos rfl]
     exact ⟨false, rfl, fun h => (by cases h), fun h => absurd h.2.2.2.1 (by omega)⟩
    ·rw [decide_eq_false e4, if_neg (by decide)]
     by_cases e5 : x.n_ = f.n_
     ·rw [show (x.n_ != f.n_) = false by simp [e5], if_neg (by decide), beqS]
      by_cases e6 : x.b = f.b
      ·rw [decide_eq_true e6, if_pos rfl, once_some (by omega), Zo, once_some (by omega), Zo, eqTexts_some (by omega) (by omega), Zo]
       refine ⟨_, rfl, ?_⟩
       rw [Bool.not_eq_true', decide_eq_false_iff_not]
       exact ⟨fun h => ⟨e1, e2, by omega, by omega, fun h2 => h h2.2.2⟩, fun h h2 => h.2.2.2.2 ⟨e5, e6, h2⟩⟩
      ·rw [decide_eq_false e6, if_neg (by decide)]
       exact ⟨true, rfl, fun _ => ⟨e1, e2, by omega, by omega, fun h => e6 h.2.1⟩, fun _ => rfl⟩
     ·rw [show (x.n_ != f.n_) = true by simp [e5], if_pos rfl]
      exact ⟨true, rfl, fun _ => ⟨e1, e2, by omega, by omega, fun h => e5 h.1⟩, fun _ => rfl⟩
  ·rw [decide_eq_false e2, if_neg (by decide), Zo, if_pos rfl]
   exact ⟨false, rfl, fun h => (by cases h), fun h => absurd h.2.1 e2⟩
 ·rw [show (x.kind != f.kind) = true by simp [e1], if_pos rfl, Zo, if_pos rfl]
  exact ⟨false, rfl, fun h => (by cases h), fun h => absurd h.1 e1⟩
include hn in
theorem twice_some {f : GFact} (hf : f.l.length ≤ 100000) {ahead : List GFact} (ha : ahead.length ≤ 100000) (hx : ∀ x ∈ ahead, x.l.length ≤ 100000) : ∃ b, slices_ContainsFunc_Fact__sess_told_one_c1 n ahead f = some b ∧ (b = true ↔ ∃ x ∈ ahead, UnlikeP x f) := by
 have hc : ∀ x : GFact, ∃ b, x.l.length ≤ 100000 → sess_told_one_c1 n x f = some b ∧ (b = true ↔ UnlikeP x f) := by
  intro x
  by_cases h : x.l.length ≤ 100000
  ·obtain ⟨b, e, hb⟩ := unlike_some hn h hf
   exact ⟨b, fun _ => ⟨by unfold sess_told_one_c1; rw [e]; rfl, hb⟩⟩
  ·exact ⟨false, fun h2 => absurd h2 h⟩
 obtain ⟨q, hq⟩ := Classical.axiomOfChoice hc
 obtain ⟨r, e, h⟩ := ixf_loop (L := slices_IndexFunc_Fact__sess_told_one_c1_L1 n ahead f) (xs := ahead) (P := fun x => sess_told_one_c1 n x f) q (fun _ _ => rfl) (fun x hm => (hq x (hx x hm)).1) (by omega) n 0 (by omega) (by omega)
 have e : slices_IndexFunc_Fact__sess_told_one_c1_L1 n ahead f n 0 = some r := e
 rw [List.drop_zero] at h
 have hany : ahead.any q = true ↔ ∃ x ∈ ahead, UnlikeP x f := by
  rw [List.any_eq_true]
  exact ⟨fun ⟨g, h1, h2⟩ => ⟨g, h1, (hq g (hx g h1)).2.1 h2⟩, fun ⟨g, h1, h2⟩ => ⟨g, h1, (hq g (hx g h1)).2.2 h2⟩⟩
 unfold slices_ContainsFunc_Fact__sess_told_one_c1 slices_IndexFunc_Fact__sess_told_one_c1
 rw [e, Zo]
 rcases h with ⟨h1, k, rfl⟩ | ⟨h1, rfl⟩
 ·exact ⟨true, by simp, fun _ => hany.1 h1, fun _ => rfl⟩
 ·refine ⟨false, by simp, fun h => (by cases h), fun h => ?_⟩
  have := hany.2 h
  rw [h1] at this
  exact this
def OneP (us rs : List ByteArray) (f : GFact) (ahead : List GFact) : Prop := NamesP us rs f ∧ (∀ x ∈ ahead, ¬ UnlikeP x f) ∧ CountP f
include hn hu hr in
theorem one_some {f : GFact} (hf : f.l.length ≤ 100000) {ahead : List GFact} (ha : ahead.length ≤ 100000) (hx : ∀ x ∈ ahead, x.l.length ≤ 100000) : ∃ e, sess_told_one n t f ahead = some e ∧ (e = 0 ↔ OneP us rs f ahead) := by
 obtain ⟨b1, e1, h1⟩ := names_some hn hu hr hf
 obtain ⟨b2, e2, h2⟩ := twice_some hn hf ha hx
 unfold sess_told_one OneP CountP
 obtain ⟨sod, e0, h0⟩ : ∃ sod : Bool, ((if (f.kind == 6) then some true else some (f.kind == 7)) : Option Bool) = some sod ∧ (sod = true ↔ f.kind = 6 ∨ f.kind = 7) := by
  by_cases h : f.kind = 6
  ·exact ⟨true, by rw [show (f.kind == 6) = true by simp [h], if_pos rfl], by simp [h]⟩
  ·exact ⟨f.kind == 7, by rw [show (f.kind == 6) = false by simp [h], if_neg (by decide)], by simp [h]⟩
 rw [e0, Zo, e1, Zo]
 cases b1 with
 | false =>
  rw [if_neg (by decide)]
  exact ⟨12, rfl, fun h => (by cases h), fun h => absurd (h1.2 h.1) (by decide)⟩
 | true =>
  rw [if_pos rfl, e2, Zo]
  cases b2 with
  | true =>
   rw [if_pos rfl]
   obtain ⟨x, hx1, hx2⟩ := h2.1 rfl
   exact ⟨11, rfl, fun h => (by cases h), fun h => absurd hx2 (h.2.1 x hx1)⟩
  | false =>
   have hno : ∀ x ∈ ahead, ¬ UnlikeP x f := fun x hx1 hx2 => Bool.noConfusion (h2.2 ⟨x, hx1, hx2⟩)
   rw [if_neg (by decide)]
   cases sod with
   | false =>
    rw [if_neg (by decide)]
    exact ⟨0, rfl, fun _ => ⟨h1.1 rfl, hno, fun h => Bool.noConfusion (h0.2 h)⟩, fun _ => rfl⟩
   | true =>
    rw [if_pos rfl]
    by_cases h3 : f.n_ < 2
    ·rw [decide_eq_true h3, if_pos rfl]
     exact ⟨16, rfl, fun h => (by cases h), fun h => absurd (h.2.2 (h0.1 rfl)).1 (by omega)⟩
    ·rw [decide_eq_false h3, if_neg (by decide), once_some (by omega), Zo]
     by_cases h4 : ((tx.ofL f.l).length : Int) < f.n_
     ·rw [decide_eq_true h4, if_pos rfl]
      exact ⟨16, rfl, fun h => (by cases h), fun h => absurd (h.2.2 (h0.1 rfl)).2 (by omega)⟩
     ·rw [decide_eq_false h4, if_neg (by decide)]
      exact ⟨0, rfl, fun _ => ⟨h1.1 rfl, hno, fun _ => ⟨by omega, by omega⟩⟩, fun _ => rfl⟩
end
theorem ring_facts {n : Nat} (hn : 200000 ≤ n) {l : List GFact} : ∀ (xs : List GFact) (pairs : List GPair), ¬ RingP pairs → pairs.length + xs.length ≤ 4000 → ∃ r, foldK (sess_loop_L1_f n l) (sess_loop_L1_e n l) xs pairs = some r ∧ ((r = .inl () ∧ ¬ RingP (pairs ++ inhF xs)) ∨ (∃ a, r = .inr (a, true) ∧ RingP (pairs ++ inhF xs)))
 | [], pairs, h, _ => ⟨_, rfl, .inl ⟨rfl, by simpa [inhF] using h⟩⟩
 | x :: xs, pairs, h, hl => by
  rw [List.length_cons] at hl
  rw [foldK]
  unfold sess_loop_L1_f
  dsimp only
  by_cases k3 : x.kind = 3
  ·have hi : inhF (x :: xs) = ⟨x.a, x.b⟩ :: inhF xs := fk_pos k3
   obtain ⟨r, d1, d2, d3⟩ := down_some (n := n) (p := ⟨[], [], pairs, [], [], [], [], []⟩) (by simp only; omega) (by simp only; omega) x.b
   have hrl := rises_len d2 (U := x.b :: pairs.map fun p => p.b) fun y hy => dn_in ((d3 y).1 hy)
   rw [List.length_cons, List.length_map] at hrl
   rw [show (x.kind != 3) = false by simp [k3], if_neg (by decide), d1, Zo, has_texts (by omega) (by omega), Zo, hi]
   have hany : (r.any fun y => decide (x.a = y)) = true ↔ Dn pairs x.b x.a := by
    rw [List.any_eq_true]
    exact ⟨fun ⟨y, hy, e⟩ => (d3 _).1 (of_decide_eq_true e ▸ hy), fun h => ⟨x.a, (d3 _).2 h, decide_eq_true rfl⟩⟩
   cases hb : (r.any fun y => decide (x.a = y)) with
   | true =>
    rw [if_pos rfl]
    exact ⟨_, rfl, .inr ⟨_, rfl, ring_of (p := ⟨x.a, x.b⟩) (fun y hy => List.mem_append_left _ hy) (List.mem_append_right _ (List.mem_cons_self ..)) (hany.1 hb)⟩⟩
   | false =>
    have hno : ¬ RingP (pairs ++ [⟨x.a, x.b⟩]) := fun h2 => (ring_app h2).elim h fun h3 => by
     rw [hany.2 h3] at hb
     cases hb
    rw [if_neg (by decide), appS (by simp; omega), Zo]
    obtain ⟨r2, k1, k2⟩ := ring_facts hn xs _ hno (by rw [List.length_append, List.length_singleton]; omega)
    rw [List.append_assoc, List.singleton_append] at k2
    exact ⟨r2, k1, k2⟩
  ·have hi : inhF (x :: xs) = inhF xs := fk_neg k3
   rw [show (x.kind != 3) = true by simp [k3], if_pos rfl, hi]
   exact ring_facts hn xs pairs h (by omega)
theorem loop_some {n : Nat} (hn : 200000 ≤ n) {l : List GFact} (hl : l.length ≤ 4000) : ∃ a b, sess_loop n l = some (a, b) ∧ (b = true ↔ RingP (inhF l)) := by
 unfold sess_loop
 obtain ⟨r, e, h⟩ := ring_facts hn (l := l) l [] (fun ⟨x, hx, _⟩ => by cases hx) (by simpa using hl)
 have hL : sess_loop_L1 n l n ([], 0) = _ := sess_loop_L1_list n l (by omega) n [] 0 (Nat.zero_le _) (by omega)
 rw [hL, List.drop_zero, e, Zo]
 rw [List.nil_append] at h
 rcases h with ⟨rfl, h⟩ | ⟨a, rfl, h⟩
 ·exact ⟨0, false, rfl, fun h => (by cases h), fun h2 => absurd h2 h⟩
 ·exact ⟨a, true, rfl, fun _ => h, fun _ => rfl⟩
end Go.Proofs.Ytkkhgdmmbhpckaa.Ab

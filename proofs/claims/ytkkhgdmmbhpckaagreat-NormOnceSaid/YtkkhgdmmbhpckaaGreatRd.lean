/-
 Pairs: what is below what, rings, the pairs that are needed. No program in sight.
-/
import Derived.Test.YtkkhgdmmbhpckaaGreatRc
namespace Go.Proofs.YtkkhgdmmbhpckaaGreat.Ab
open Go.RowKit
attribute [local instance] baLawful
/-- What pairs lead to in one step. -/
def sB (l : List GPair) (x : ByteArray) : List ByteArray := (l.filter fun p => x == p.a).map fun p => p.b
theorem mem_sB {l : List GPair} {x y : ByteArray} : y ∈ sB l x ↔ ⟨x, y⟩ ∈ l := by
 unfold sB
 rw [List.mem_map]
 constructor
 ·rintro ⟨⟨a, b⟩, h1, rfl⟩
  obtain ⟨h1, h2⟩ := List.mem_filter.1 h1
  have : x = a := by simpa using h2
  subst this
  exact h1
 ·intro h
  exact ⟨⟨x, y⟩, List.mem_filter.2 ⟨h, by simp⟩, rfl⟩
theorem sB_len (l : List GPair) (x : ByteArray) : (sB l x).length ≤ l.length := by
 unfold sB
 rw [List.length_map]
 exact List.length_filter_le ..
/-- What is below. -/
def Dn (l : List GPair) : ByteArray → ByteArray → Prop := Rch (sB l)
def mB (l : List GPair) : List (ByteArray × List ByteArray) := l.foldl (fun es p => madd p.a [p.b] es) []
theorem nxt_mB (l : List GPair) : nxt (mB l) = sB l := by
 funext x
 exact (fold_get (fun p : GPair => p.a) (fun p => p.b) x l []).trans (List.nil_append _)
theorem small_mB (l : List GPair) : small l.length (mB l) := by
 have := fold_small (fun p : GPair => p.a) (fun p => p.b) l 0 [] small_nil
 rwa [Nat.zero_add] at this
theorem below_fold {n : Nat} (l0 : List GPair) : ∀ (l : List GPair) (m : Nat) (es : List (ByteArray × List ByteArray)), small m es → m + l.length < 2147483648 →
  foldK (norm_below_L1_f n l0) (norm_below_L1_e n l0) l es = some (l.foldl (fun es p => madd p.a [p.b] es) es)
 | [], m, es, h, hm => by
  rw [foldK]
  exact grd_t (h.dec (by simp at hm; omega))
 | p :: l, m, es, h, hm => by
  rw [List.length_cons] at hm
  have h2 := h.add p.a p.b
  rw [foldK]
  unfold norm_below_L1_f
  dsimp only
  rw [grd_t (h.dec (by omega)), grd_t (h.fam (by omega) p.a), Option.bind_some, grd_t (h2.dec (by omega))]
  exact below_fold l0 l (m + 1) _ h2 (by omega)
theorem below_some {n : Nat} {l : List GPair} (hn : l.length < n) (hl : l.length < 2147483648) : norm_below n l = some (mB l) := by
 unfold norm_below
 have hL : norm_below_L1 n l n ([], 0) = _ := norm_below_L1_list n l (by omega) n [] 0 (Nat.zero_le _) (by omega)
 rw [hL, List.drop_zero, below_fold l l 0 [] small_nil (by omega), Option.bind_some]
 exact grd_t ((small_mB l).dec (by omega))
/-- All that pairs and a role name. -/
theorem reachB {n : Nat} {l : List GPair} (hn : l.length + 1 < n) (hl : l.length < 1073741824) (role : ByteArray) : ∃ r, norm_reach n role (mB l) = some r ∧ tx.Rises r ∧ ∀ y, y ∈ r ↔ Dn l role y := by
 have e := nxt_mB l
 have h := reach_some (n := n) (next := mB l) (U := role :: l.map fun p => p.b) (role := role)
 rw [e] at h
 refine h (fun x y hy => ?_) (by simp; omega) (fun x => by have := sB_len l x; omega) (by simp; omega) (fun x => by have := sB_len l x; omega) (List.mem_cons_self ..)
 exact List.mem_cons_of_mem _ (List.mem_map.2 ⟨⟨x, y⟩, mem_sB.1 hy, rfl⟩)
theorem down_some {n : Nat} {p : GRoles} (hn : p.inherit.length + 1 < n) (hl : p.inherit.length < 1073741824) (role : ByteArray) : ∃ r, norm_Down n p role = some r ∧ tx.Rises r ∧ ∀ y, y ∈ r ↔ Dn p.inherit role y := by
 obtain ⟨r, h1, h2⟩ := reachB hn hl role
 refine ⟨r, ?_, h2⟩
 unfold norm_Down
 rw [below_some (by omega) (by omega), Option.bind_some, h1]
 rfl
theorem rises_len {l : List ByteArray} (h : tx.Rises l) {U : List ByteArray} (hU : ∀ x ∈ l, x ∈ U) : l.length ≤ U.length := nodup_len (tx.nodup h) hU
theorem dn_in {l : List GPair} {a b : ByteArray} (h : Dn l a b) : b ∈ a :: l.map fun p => p.b := by
 cases h with
 | refl => exact List.mem_cons_self ..
 | step _ hc => exact List.mem_cons_of_mem _ (List.mem_map.2 ⟨⟨_, _⟩, mem_sB.1 hc, rfl⟩)
theorem has_texts {n : Nat} {l : List ByteArray} {u : ByteArray} (hn : l.length < n) (hl : l.length < 4611686018427387904) : slices_Contains_string n l u = some (l.any fun x => decide (u = x)) := by
 obtain ⟨r, e, h⟩ := ixf_loop (L := slices_Index_string_L1 n l u) (xs := l) (P := fun x => some (u.toList == x.toList)) (fun x => decide (u = x)) (fun _ _ => rfl) (fun x _ => by rw [beqS]) hl n 0 (by omega) (by omega)
 have e : slices_Index_string_L1 n l u n 0 = some r := e
 rw [List.drop_zero] at h
 unfold slices_Contains_string slices_Index_string
 rw [e, Option.bind_some]
 rcases h with ⟨h1, k, rfl⟩ | ⟨h1, rfl⟩
 ·rw [h1]
  simp
 ·rw [h1]
  simp
/-- Is one below the other? -/
theorem isB {n : Nat} {l : List GPair} (hn : l.length + 1 < n) (hl : l.length < 1073741824) (a u : ByteArray) : ∃ r b, norm_reach n a (mB l) = some r ∧ slices_Contains_string n r u = some b ∧ (b = true ↔ Dn l a u) := by
 obtain ⟨r, h1, h2, h3⟩ := reachB hn hl a
 have hlen := rises_len h2 (U := a :: l.map fun p => p.b) fun x hx => dn_in ((h3 x).1 hx)
 rw [List.length_cons, List.length_map] at hlen
 refine ⟨r, _, h1, has_texts (by omega) (by omega), ?_⟩
 rw [List.any_eq_true]
 constructor
 ·rintro ⟨x, hx, e⟩
  have : u = x := of_decide_eq_true e
  subst this
  exact (h3 _).1 hx
 ·exact fun h => ⟨u, (h3 u).2 h, decide_eq_true rfl⟩
theorem ring_fold {n : Nat} {l : List GPair} (hn : l.length + 1 < n) (hl : l.length < 1073741824) : ∀ (xs : List GPair), ∃ r, foldK (norm_Ring_L1_f n l (mB l)) (norm_Ring_L1_e n l (mB l)) xs () = some r ∧ ((r = .inr true ∧ ∃ x ∈ xs, Dn l x.b x.a) ∨ (r = .inl () ∧ ∀ x ∈ xs, ¬ Dn l x.b x.a))
 | [] => ⟨_, rfl, .inr ⟨rfl, fun _ h => by cases h⟩⟩
 | x :: xs => by
  obtain ⟨r, b, h1, h2, h3⟩ := isB hn hl x.b x.a
  rw [foldK]
  unfold norm_Ring_L1_f
  dsimp only
  rw [h1, Option.bind_some, h2, Option.bind_some]
  cases b with
  | true => exact ⟨_, rfl, .inl ⟨rfl, x, List.mem_cons_self .., h3.1 rfl⟩⟩
  | false =>
   obtain ⟨r, k1, k2⟩ := ring_fold hn hl xs
   refine ⟨r, k1, k2.imp (fun ⟨e, y, hy, hd⟩ => ⟨e, y, List.mem_cons_of_mem _ hy, hd⟩) fun ⟨e, hd⟩ => ⟨e, fun y hy => ?_⟩⟩
   rcases List.mem_cons.1 hy with rfl | hy
   ·exact fun h => Bool.noConfusion (h3.2 h)
   ·exact hd y hy
def RingP (l : List GPair) : Prop := ∃ x ∈ l, Dn l x.b x.a
theorem ring_some {n : Nat} {l : List GPair} (hn : l.length + 1 < n) (hl : l.length < 1073741824) : ∃ b, norm_Ring n l = some b ∧ (b = true ↔ RingP l) := by
 obtain ⟨r, h1, h2⟩ := ring_fold hn hl l
 unfold norm_Ring
 have hL : norm_Ring_L1 n l (mB l) n 0 = _ := norm_Ring_L1_list n l (mB l) (by omega) n () 0 (Nat.zero_le _) (by omega)
 rw [below_some (by omega) (by omega), Option.bind_some, hL, List.drop_zero, h1, Option.bind_some]
 rcases h2 with ⟨rfl, h⟩ | ⟨rfl, h⟩
 ·exact ⟨true, rfl, fun _ => h, fun _ => rfl⟩
 ·exact ⟨false, rfl, fun e => (by cases e), fun ⟨x, hx, hd⟩ => absurd hd (h x hx)⟩
/-- A pair that others say. -/
def Said (l : List GPair) (x : GPair) : Prop := ∃ s, ⟨x.a, s⟩ ∈ l ∧ s ≠ x.b ∧ Dn l s x.b
theorem through {n : Nat} {l : List GPair} (hn : l.length + 1 < n) (hl : l.length < 1073741824) (x : GPair) : ∃ b, slices_ContainsFunc_string__norm_least_c1 n (mgetD x.a [] (mB l)) x (mB l) = some b ∧ (b = true ↔ Said l x) := by
 have hc : ∀ s, ∃ b, norm_least_c1 n s x (mB l) = some b ∧ (b = true ↔ s ≠ x.b ∧ Dn l s x.b) := by
  intro s
  unfold norm_least_c1
  rw [beqS]
  by_cases e : s = x.b
  ·rw [decide_eq_true e, if_pos rfl]
   exact ⟨false, rfl, ⟨fun h => (by cases h), fun h => absurd e h.1⟩⟩
  ·obtain ⟨r, b, h1, h2, h3⟩ := isB hn hl s x.b
   rw [decide_eq_false e, if_neg (by decide), h1, Option.bind_some, h2]
   exact ⟨b, rfl, fun h => ⟨e, h3.1 h⟩, fun h => h3.2 h.2⟩
 obtain ⟨q, hq⟩ := Classical.axiomOfChoice hc
 have hnx : mgetD x.a [] (mB l) = sB l x.a := congrFun (nxt_mB l) x.a
 rw [hnx]
 have hlen := sB_len l x.a
 obtain ⟨r, e, h⟩ := ixf_loop (L := slices_IndexFunc_string__norm_least_c1_L1 n (sB l x.a) x (mB l)) (xs := sB l x.a) (P := fun s => norm_least_c1 n s x (mB l)) q (fun _ _ => rfl) (fun s _ => (hq s).1) (by omega) n 0 (by omega) (by omega)
 have e : slices_IndexFunc_string__norm_least_c1_L1 n (sB l x.a) x (mB l) n 0 = some r := e
 rw [List.drop_zero] at h
 have hany : (sB l x.a).any q = true ↔ Said l x := by
  rw [List.any_eq_true]
  exact ⟨fun ⟨s, hs, h⟩ => ⟨s, mem_sB.1 hs, (hq s).2.1 h⟩, fun ⟨s, hs, h⟩ => ⟨s, mem_sB.2 hs, (hq s).2.2 h⟩⟩
 unfold slices_ContainsFunc_string__norm_least_c1 slices_IndexFunc_string__norm_least_c1
 rw [e, Option.bind_some]
 rcases h with ⟨h1, k, rfl⟩ | ⟨h1, rfl⟩
 ·exact ⟨true, by simp, fun _ => hany.1 h1, fun _ => rfl⟩
 ·refine ⟨false, by simp, fun h => (by cases h), fun h => ?_⟩
  have := hany.2 h
  rw [h1] at this
  exact this
theorem least_fold {n : Nat} {l : List GPair} (hn : l.length + 1 < n) (hl : l.length < 1073741824) : ∀ (xs out : List GPair), out.length + xs.length ≤ l.length →
  ∃ M, foldK (norm_least_L1_f n l (mB l)) (norm_least_L1_e n l (mB l)) xs out = some (out ++ M) ∧ M.Sublist xs ∧ ∀ x, x ∈ M ↔ x ∈ xs ∧ ¬ Said l x
 | [], out, _ => ⟨[], by simp [foldK, norm_least_L1_e], .slnil, fun x => by simp⟩
 | x :: xs, out, h => by
  rw [List.length_cons] at h
  obtain ⟨b, h1, h2⟩ := through hn hl x
  rw [foldK]
  unfold norm_least_L1_f
  dsimp only
  rw [h1, Option.bind_some]
  cases b with
  | true =>
   obtain ⟨M, k1, k2, k3⟩ := least_fold hn hl xs out (by omega)
   refine ⟨M, k1, k2.cons x, fun y => (k3 y).trans ⟨fun ⟨a, b⟩ => ⟨List.mem_cons_of_mem _ a, b⟩, fun ⟨a, b⟩ => ⟨?_, b⟩⟩⟩
   rcases List.mem_cons.1 a with rfl | a
   ·exact absurd (h2.1 rfl) b
   ·exact a
  | false =>
   have hx : ¬ Said l x := fun h => Bool.noConfusion (h2.2 h)
   have happ : app out [x] = some (out ++ [x]) := appS (by simp; omega)
   obtain ⟨M, k1, k2, k3⟩ := least_fold hn hl xs (out ++ [x]) (by rw [List.length_append, List.length_singleton]; omega)
   refine ⟨x :: M, ?_, k2.cons_cons x, fun y => ?_⟩
   ·rw [if_neg (by decide), happ, Option.bind_some]
    refine k1.trans ?_
    simp
   ·rw [List.mem_cons, List.mem_cons, k3 y]
    constructor
    ·rintro (rfl | ⟨a, b⟩)
     ·exact ⟨.inl rfl, hx⟩
     ·exact ⟨.inr a, b⟩
    ·rintro ⟨rfl | a, b⟩
     ·exact .inl rfl
     ·exact .inr ⟨a, b⟩
/-- The pairs that are needed. -/
theorem least_some {n : Nat} {l : List GPair} (hn : l.length + 1 < n) (hl : l.length < 1073741824) : ∃ M, norm_least n l = some M ∧ M.Sublist (tOpr.ofL l) ∧ ((RingP (tOpr.ofL l) ∧ M = tOpr.ofL l) ∨ (¬ RingP (tOpr.ofL l) ∧ ∀ x, x ∈ M ↔ x ∈ tOpr.ofL l ∧ ¬ Said (tOpr.ofL l) x)) := by
 have hle := ofL_len tOpr l
 unfold norm_least
 rw [show norm_pairs n l = some (tOpr.ofL l) from if_pos (by omega), Option.bind_some]
 obtain ⟨b, h1, h2⟩ := ring_some (n := n) (l := tOpr.ofL l) (by omega) (by omega)
 rw [h1, Option.bind_some]
 cases b with
 | true => exact ⟨_, if_pos rfl, List.Sublist.refl _, .inl ⟨h2.1 rfl, rfl⟩⟩
 | false =>
  obtain ⟨M, k1, k2, k3⟩ := least_fold (n := n) (l := tOpr.ofL l) (by omega) (by omega) (tOpr.ofL l) [] (by simp)
  have hL : norm_least_L1 n (tOpr.ofL l) (mB (tOpr.ofL l)) n ([], 0) = _ := norm_least_L1_list n (tOpr.ofL l) (mB (tOpr.ofL l)) (by omega) n [] 0 (Nat.zero_le _) (by omega)
  rw [if_neg (by decide), below_some (by omega) (by omega), Option.bind_some, hL, List.drop_zero, k1]
  exact ⟨M, rfl, k2, .inr ⟨fun h => Bool.noConfusion (h2.2 h), k3⟩⟩
end Go.Proofs.YtkkhgdmmbhpckaaGreat.Ab

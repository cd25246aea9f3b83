/-
 NormOnce: the law. No program in sight.
-/
import Derived.Test.YtkkhgdmmbhpckaaGreatNol
import Derived.Test.YtkkhgdmmbhpckaaGreatPz
namespace Go.Proofs.YtkkhgdmmbhpckaaGreat.Ab
open Go.RowKit
attribute [local instance] baLawful
/-! ### what is above -/
def sA (l : List GPair) (x : ByteArray) : List ByteArray := (l.filter fun p => x == p.b).map fun p => p.a
theorem mem_sA {l : List GPair} {x y : ByteArray} : y ∈ sA l x ↔ ⟨y, x⟩ ∈ l := by
 unfold sA
 rw [List.mem_map]
 constructor
 ·rintro ⟨⟨a, b⟩, h1, rfl⟩
  obtain ⟨h1, h2⟩ := List.mem_filter.1 h1
  have : x = b := by simpa using h2
  subst this
  exact h1
 ·intro h
  exact ⟨⟨y, x⟩, List.mem_filter.2 ⟨h, by simp⟩, rfl⟩
theorem sA_len (l : List GPair) (x : ByteArray) : (sA l x).length ≤ l.length := by
 unfold sA
 rw [List.length_map]
 exact List.length_filter_le ..
theorem up_dn {l : List GPair} {a b : ByteArray} : Rch (sA l) a b ↔ Dn l b a := by
 constructor
 ·intro h
  induction h with
  | refl => exact .refl
  | step _ hc ih => exact Rch.head (mem_sB.2 (mem_sA.1 hc)) ih
 ·intro h
  induction h with
  | refl => exact .refl
  | step _ hc ih => exact Rch.head (mem_sA.2 (mem_sB.1 hc)) ih
def mA (l : List GPair) : List (ByteArray × List ByteArray) := l.foldl (fun es p => madd p.b [p.a] es) []
theorem nxt_mA (l : List GPair) : nxt (mA l) = sA l := by
 funext x
 exact (fold_get (fun p : GPair => p.b) (fun p => p.a) x l []).trans (List.nil_append _)
theorem small_mA (l : List GPair) : small l.length (mA l) := by
 have := fold_small (fun p : GPair => p.b) (fun p => p.a) l 0 [] small_nil
 rwa [Nat.zero_add] at this
theorem above_fold {n : Nat} (p : GRoles) : ∀ (l : List GPair) (m : Nat) (es : List (ByteArray × List ByteArray)), small m es → m + l.length < 2147483648 →
  foldK (norm_Up_L1_f n p) (norm_Up_L1_e n p) l es = some (l.foldl (fun es p => madd p.b [p.a] es) es)
 | [], m, es, h, hm => by
  rw [foldK]
  exact grd_t (h.dec (by simp at hm; omega))
 | q :: l, m, es, h, hm => by
  rw [List.length_cons] at hm
  have h2 := h.add q.b q.a
  rw [foldK]
  unfold norm_Up_L1_f
  dsimp only
  rw [grd_t (h.dec (by omega)), grd_t (h.fam (by omega) q.b), Option.bind_some, grd_t (h2.dec (by omega))]
  exact above_fold p l (m + 1) _ h2 (by omega)
theorem up_some {n : Nat} {p : GRoles} (hn : p.inherit.length + 1 < n) (hl : p.inherit.length < 1073741824) (role : ByteArray) : ∃ r, norm_Up n p role = some r ∧ tx.Rises r ∧ ∀ y, y ∈ r ↔ Dn p.inherit y role := by
 have e := nxt_mA p.inherit
 have h := reach_some (n := n) (next := mA p.inherit) (U := role :: p.inherit.map fun p => p.a) (role := role)
 rw [e] at h
 obtain ⟨r, h1, h2, h3⟩ := h (fun x y hy => List.mem_cons_of_mem _ (List.mem_map.2 ⟨⟨y, x⟩, mem_sA.1 hy, rfl⟩)) (by simp; omega) (fun x => by have := sA_len p.inherit x; omega) (by simp; omega) (fun x => by have := sA_len p.inherit x; omega) (List.mem_cons_self ..)
 refine ⟨r, ?_, h2, fun y => (h3 y).trans up_dn⟩
 have hL : norm_Up_L1 n p n ([], 0) = _ := norm_Up_L1_list n p (by omega) n [] 0 (Nat.zero_le _) (by omega)
 have hF : foldK (norm_Up_L1_f n p) (norm_Up_L1_e n p) p.inherit [] = some (mA p.inherit) := above_fold p p.inherit 0 [] small_nil (by omega)
 unfold norm_Up
 rw [hL, List.drop_zero, hF, Option.bind_some, h1, Option.bind_some]
 exact grd_t ((small_mA p.inherit).dec (by omega))
/-! ### the same -/
theorem self_loop {α : Type} {L : Nat → Int → Option (Unit ⊕ Bool)} {xs : List α} {E : α → α → Option Bool} (hE : ∀ x ∈ xs, E x x = some true) (h0 : ∀ c i, L (c + 1) i = if decide (i < (xs.length : Int)) then (idx xs i).bind fun x => (idx xs i).bind fun y => (E x y).bind fun b => if b then L c (IntKind.i64.wrap (i + 1)) else some (.inr false) else some (.inl ()))
  (hx : xs.length < 4611686018427387904) : ∀ (c j : Nat), j ≤ xs.length → xs.length - j < c → L c (j : Int) = some (.inl ())
 | 0, _, _, h => by omega
 | c + 1, j, hj, hc => by
  rw [h0]
  by_cases hlt : j < xs.length
  ·rw [dlt hlt, if_pos rfl, idxS hlt, Option.bind_some, Option.bind_some, hE _ (List.getElem_mem hlt), Option.bind_some, if_pos rfl, wr1 (by omega)]
   exact self_loop hE h0 hx c (j + 1) (by omega) (by omega)
  ·rw [dnlt (by omega), if_neg (by decide)]
section
variable {n : Nat} (hn : 200000 ≤ n)
theorem bneSelf (x : Int) : (x != x) = false := by simp
include hn in
theorem eqS_self {l : List ByteArray} (hl : l.length ≤ 100000) : slices_Equal_string n l l = some true := by
 have e : slices_Equal_string_L1 n l l n 0 = some (.inl ()) := self_loop (L := slices_Equal_string_L1 n l l) (xs := l) (E := fun x y => some (x.toList == y.toList)) (fun x _ => by rw [beqS, decide_eq_true rfl]) (fun _ _ => rfl) (by omega) n 0 (Nat.zero_le _) (by omega)
 unfold slices_Equal_string
 rw [bneSelf, if_neg (by decide), e]
 rfl
include hn in
theorem eqP_self {l : List GPair} (hl : l.length ≤ 100000) : slices_Equal_Pair n l l = some true := by
 have e : slices_Equal_Pair_L1 n l l n 0 = some (.inl ()) := self_loop (L := slices_Equal_Pair_L1 n l l) (xs := l) (E := fun x y => some ((x.a == y.a) && (x.b == y.b))) (fun x _ => by simp) (fun _ _ => rfl) (by omega) n 0 (Nat.zero_le _) (by omega)
 unfold slices_Equal_Pair
 rw [bneSelf, if_neg (by decide), e]
 rfl
include hn in
theorem eqG_self {l : List GGrant} (hl : l.length ≤ 100000) : slices_Equal_Grant n l l = some true := by
 have e : slices_Equal_Grant_L1 n l l n 0 = some (.inl ()) := self_loop (L := slices_Equal_Grant_L1 n l l) (xs := l) (E := fun x y => some ((x.role == y.role) && ((x.op == y.op) && (x.obj == y.obj)))) (fun x _ => by simp) (fun _ _ => rfl) (by omega) n 0 (Nat.zero_le _) (by omega)
 unfold slices_Equal_Grant
 rw [bneSelf, if_neg (by decide), e]
 rfl
include hn in
theorem eqD_self {l : List GSod} (hl : l.length ≤ 100000) (hr : ∀ x ∈ l, x.roles.length ≤ 100000) : slices_EqualFunc___api_Sod___api_Sod_api_Sod_api_Sod___norm_sameSod n l l = some true := by
 have e : slices_EqualFunc___api_Sod___api_Sod_api_Sod_api_Sod___norm_sameSod_L1 n l l n 0 = some (.inl ()) := self_loop (L := slices_EqualFunc___api_Sod___api_Sod_api_Sod_api_Sod___norm_sameSod_L1 n l l) (xs := l) (E := fun x y => norm_sameSod n x y) (fun x hx => by
  unfold norm_sameSod
  rw [beqS, decide_eq_true rfl, if_pos rfl, show (x.n_ == x.n_) = true by simp, if_pos rfl, eqS_self hn (hr x hx)]
  rfl) (fun _ _ => rfl) (by omega) n 0 (Nat.zero_le _) (by omega)
 unfold slices_EqualFunc___api_Sod___api_Sod_api_Sod_api_Sod___norm_sameSod
 rw [bneSelf, if_neg (by decide), e]
 rfl
include hn in
theorem eqE_self {l : List GSession} (hl : l.length ≤ 100000) (hr : ∀ x ∈ l, x.roles.length ≤ 100000) : slices_EqualFunc___api_Session___api_Session_api_Session_api_Session___norm_sameSession n l l = some true := by
 have e : slices_EqualFunc___api_Session___api_Session_api_Session_api_Session___norm_sameSession_L1 n l l n 0 = some (.inl ()) := self_loop (L := slices_EqualFunc___api_Session___api_Session_api_Session_api_Session___norm_sameSession_L1 n l l) (xs := l) (E := fun x y => norm_sameSession n x y) (fun x hx => by
  unfold norm_sameSession
  rw [beqS, decide_eq_true rfl, if_pos rfl, beqS, decide_eq_true rfl, if_pos rfl, eqS_self hn (hr x hx)]
  rfl) (fun _ _ => rfl) (by omega) n 0 (Nat.zero_le _) (by omega)
 unfold slices_EqualFunc___api_Session___api_Session_api_Session_api_Session___norm_sameSession
 rw [bneSelf, if_neg (by decide), e]
 rfl
include hn in
theorem same_self {p : GRoles} (h : Mid p) : norm_Same n p p = some true := by
 obtain ⟨h1, h2, h3, h4, h5, h6, h7, h8, h9, h10, h11⟩ := h
 unfold norm_Same
 rw [eqS_self hn (by omega), Option.bind_some, if_pos rfl, eqS_self hn (by omega), Option.bind_some, if_pos rfl, eqP_self hn (by omega), Option.bind_some, if_pos rfl, eqP_self hn (by omega), Option.bind_some, if_pos rfl, eqG_self hn (by omega), Option.bind_some, if_pos rfl, eqD_self hn (by omega) h9, Option.bind_some, if_pos rfl, eqD_self hn (by omega) h10, Option.bind_some, if_pos rfl, eqE_self hn (by omega) h11]
 rfl
end
theorem sameTexts_self {n : Nat} (hn : 200000 ≤ n) {l : List ByteArray} (hl : l.length ≤ 100000) : ref1_SameTexts n l l = some true := by
 have e : ref1_SameTexts_L1 n l l n 0 = some (.inl ()) := self_loop (L := ref1_SameTexts_L1 n l l) (xs := l) (E := fun x y => some (x.toList == y.toList)) (fun x _ => by rw [beqS, decide_eq_true rfl]) (fun _ _ => rfl) (by omega) n 0 (Nat.zero_le _) (by omega)
 unfold ref1_SameTexts
 rw [bneSelf, if_neg (by decide), e]
 rfl
/-! ### the law -/
theorem back_loop {n : Nat} {r : List GFact × Int × Int} (hl : r.1.length ≤ 2000) : ∀ (c i : Nat) (acc : List GFact), i ≤ r.1.length → i < c → acc.length ≤ 2 * (r.1.length - i) →
  ∃ B, law14_NormOnce_L1 n r c (acc, (i : Int) - 1) = some B ∧ (∀ x, x ∈ B ↔ x ∈ acc ∨ x ∈ r.1.take i) ∧ B.length ≤ 2 * r.1.length
 | 0, _, _, _, h, _ => by omega
 | c + 1, 0, acc, hi, hc, ha => by
  rw [law14_NormOnce_L1, show decide (0 ≤ ((0 : Nat) : Int) - 1) = false from rfl, if_neg (by decide)]
  exact ⟨acc, rfl, fun x => by simp, by omega⟩
 | c + 1, i + 1, acc, hi, hc, ha => by
  have h : i < r.1.length := by omega
  rw [law14_NormOnce_L1, show ((i + 1 : Nat) : Int) - 1 = (i : Int) by omega, show decide (0 ≤ (i : Int)) = true from decide_eq_true (by omega), if_pos rfl, idxS h, Option.bind_some, appS (by simp; omega), Option.bind_some, wr (by omega) (by omega)]
  obtain ⟨B, k1, k2, k3⟩ := back_loop (n := n) hl c i (acc ++ [r.1[i], r.1[i]]) (by omega) (by omega) (by simp; omega)
  refine ⟨B, k1, fun x => (k2 x).trans ?_, k3⟩
  rw [List.mem_append, ← List.take_append_getElem h, List.mem_append, List.mem_singleton]
  constructor
  ·rintro ((h | h) | h)
   ·exact .inl h
   ·simp at h
    exact .inr (.inr h)
   ·exact .inr (.inl h)
  ·rintro (h | h | h)
   ·exact .inl (.inl h)
   ·exact .inr h
   ·exact .inl (.inr (by simp [h]))
theorem five_loop {n : Nat} (hn : 200000 ≤ n) {p q : GRoles} (hp : p.inherit.length ≤ 10000) (hq : q.inherit.length ≤ 10000) (hd : ∀ u v, Dn q.inherit u v ↔ Dn p.inherit u v) : ∀ (c i : Nat), i ≤ 5 → 5 - i < c → law14_NormOnce_L2 n p q c (i : Int) = some (.inl ())
 | 0, _, _, h => by omega
 | c + 1, i, hi, hc => by
  rw [law14_NormOnce_L2]
  by_cases h : i < 5
  ·have hk : i < [({ data := #[114] } : ByteArray), { data := #[115] }, { data := #[116] }, { data := #[113] }, { data := #[122] }].length := h
   rw [show decide ((i : Int) < 5) = true from decide_eq_true (by omega), if_pos rfl, idxS hk, Option.bind_some]
   generalize [({ data := #[114] } : ByteArray), { data := #[115] }, { data := #[116] }, { data := #[113] }, { data := #[122] }][i] = x
   obtain ⟨d, d1, d2, d3⟩ := down_some (n := n) (p := p) (by omega) (by omega) x
   obtain ⟨d', e1, e2, e3⟩ := down_some (n := n) (p := q) (by omega) (by omega) x
   have hde : d' = d := tx.ext e2 d2 fun y => (e3 y).trans ((hd x y).trans (d3 y).symm)
   subst hde
   obtain ⟨u, u1, u2, u3⟩ := up_some (n := n) (p := p) (by omega) (by omega) x
   obtain ⟨u', v1, v2, v3⟩ := up_some (n := n) (p := q) (by omega) (by omega) x
   have hue : u' = u := tx.ext v2 u2 fun y => (v3 y).trans ((hd y x).trans (u3 y).symm)
   subst hue
   have l1 := rises_len d2 (U := x :: p.inherit.map fun p => p.b) fun y hy => dn_in ((d3 y).1 hy)
   have l2 := rises_len u2 (U := x :: p.inherit.map fun p => p.a) fun y hy => by
    have := (u3 y).1 hy
    rcases Rch.first this with e | ⟨b, h1, _⟩
    ·rw [e]
     exact List.mem_cons_self ..
    ·exact List.mem_cons_of_mem _ (List.mem_map.2 ⟨⟨y, b⟩, mem_sB.1 h1, rfl⟩)
   rw [List.length_cons, List.length_map] at l1 l2
   rw [d1, Option.bind_some, e1, Option.bind_some, sameTexts_self hn (by omega), Option.bind_some, if_pos rfl, u1, Option.bind_some, v1, Option.bind_some, sameTexts_self hn (by omega), Option.bind_some, if_pos rfl, wr1 (by omega)]
   exact five_loop hn hp hq hd c (i + 1) (by omega) (by omega)
  ·rw [show decide ((i : Int) < 5) = false from decide_eq_false (by omega), if_neg (by decide)]
theorem law_once {n : Nat} (hn : 200000 ≤ n) (t0 : List Int) : law14_NormOnce n t0 = some true := by
 obtain ⟨s, f, a, e, e1, e2, hl, hx⟩ := made_tot (n := n) (by omega) t0
 have hx2 : ∀ x ∈ f, x.l.length ≤ 100000 := fun x h => by have := hx x h; omega
 have hm := mid_ofF (l := f) (by omega) hx2
 obtain ⟨M, m1, m2⟩ := normal_some hn hm
 have hm2 := norN_mid hm m2
 obtain ⟨M', k1, k2⟩ := normal_some hn hm2
 have k2 : LeastP M M' := k2
 rw [norN_twice m2 k2] at k1
 obtain ⟨B, b1, b2, b3⟩ := back_loop (n := n) (r := (f, a, e)) hl n f.length [] (Nat.le_refl _) (by omega) (by simp)
 have b1 : law14_NormOnce_L1 n (f, a, e) n ([], (f.length : Int) - 1) = some B := b1
 have b2 : ∀ x, x ∈ f ↔ x ∈ B := fun x => by
  rw [b2 x, List.take_length]
  simp
 have b3 : B.length ≤ 2 * f.length := b3
 have hBx : ∀ x ∈ B, x.l.length ≤ 100000 := fun x h => hx2 x ((b2 x).2 h)
 have hmB := mid_ofF (l := B) (by omega) hBx
 obtain ⟨MB, c1, c2⟩ := normal_some hn hmB
 rw [← norN_facts b2 m2 c2] at c1
 obtain ⟨g1, g2⟩ := facts_len hm
 have o1 : norm_Of n f = some (ofF f) := ofN_some (by omega) (by omega) fun x h => by have := hx2 x h; omega
 have o2 : norm_Of n B = some (ofF B) := ofN_some (by omega) (by omega) fun x h => by have := hBx x h; omega
 have o3 : norm_Of n (factsF (ofF f)) = some (ofF f) := by
  rw [ofN_some (by omega) (by omega) fun x h => by have := g2 x h; omega, of_facts]
 have h5 : law14_NormOnce_L2 n (ofF f) (norN (ofF f) M) n 0 = some (.inl ()) := five_loop hn hm.i hm2.i m2.dn n 0 (by omega) (by omega)
 unfold law14_NormOnce
 rw [e1, Option.bind_some, e2, Option.bind_some]
 dsimp only
 rw [wr (by omega) (by omega), b1, Option.bind_some, o1, Option.bind_some, m1, Option.bind_some, k1, Option.bind_some, same_self hn hm2, Option.bind_some, if_pos rfl, o2, Option.bind_some, c1, Option.bind_some, same_self hn hm2, Option.bind_some, if_pos rfl, facts_some hn hm, Option.bind_some, o3, Option.bind_some, same_self hn hm, Option.bind_some, Option.bind_some, if_neg (by decide), h5, Option.bind_some]
 rfl
theorem law_once_ex (a0 : List Int) (_ : a0.length ≤ maxLen ∧ ∀ y ∈ a0, (Lit.int .i64 y).wf = true) : ∃ n, law14_NormOnce n a0 = some true := ⟨200000, law_once (Nat.le_refl _) a0⟩
end Go.Proofs.YtkkhgdmmbhpckaaGreat.Ab

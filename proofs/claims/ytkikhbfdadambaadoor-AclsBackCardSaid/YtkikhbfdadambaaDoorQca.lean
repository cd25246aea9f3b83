/-
 Entries' texts of numbers: of which parts they are, and what the document reads of them. No program in sight.
-/
import Derived.Test.YtkikhbfdadambaaDoorQta
import Derived.Test.YtkikhbfdadambaaDoorTo
namespace Go.Proofs.YtkikhbfdadambaaDoor.Ab
open Go.RowKit
def bt8 : List (List UInt8) := [[45, 45, 45], [114, 45, 45], [45, 119, 45], [114, 119, 45], [45, 45, 120], [114, 45, 120], [45, 119, 120], [114, 119, 120]]
def pfx : List (List UInt8) := [[117, 58, 58], [103, 58, 58], [111, 58, 58], [117, 58, 117, 58], [117, 58, 118, 58], [117, 58, 119, 58], [103, 58, 103, 58], [103, 58, 104, 58], [109, 58, 58], [100, 58, 117, 58, 58], [100, 58, 103, 58, 58], [100, 58, 111, 58, 58], [100, 58, 117, 58, 118, 58], [100, 58, 103, 58, 104, 58], [100, 58, 109, 58, 58]]
inductive AclT : List Nat → List UInt8 → Prop
 | one {i p b} (hp : pfx[i]? = some p) (hb : b ∈ bt8) : AclT [i] (p ++ b)
 | cons {i p b is l} (hp : pfx[i]? = some p) (hb : b ∈ bt8) (h : AclT is l) : AclT (i :: is) (p ++ (b ++ 44 :: l))
theorem AclT.snoc {is : List Nat} {l : List UInt8} {i : Nat} {p b : List UInt8} (h : AclT is l) (hp : pfx[i]? = some p) (hb : b ∈ bt8) : AclT (is ++ [i]) (l ++ 44 :: (p ++ b)) := by
 induction h with
 | one hp2 hb2 =>
  rw [List.append_assoc]
  exact .cons hp2 hb2 (.one hp hb)
 | cons hp2 hb2 _ ih =>
  rw [List.append_assoc, List.append_assoc]
  exact .cons hp2 hb2 ih
theorem pfx_len : ∀ p ∈ pfx, p.length ≤ 6 := by decide
theorem bt8_len : ∀ b ∈ bt8, b.length = 3 := by decide
theorem AclT.len {is : List Nat} {l : List UInt8} (h : AclT is l) : l.length ≤ 10 * is.length := by
 induction h with
 | one hp hb =>
  have h1 := pfx_len _ (List.mem_of_getElem? hp)
  have h2 := bt8_len _ hb
  simp
  omega
 | cons hp hb _ ih =>
  have h1 := pfx_len _ (List.mem_of_getElem? hp)
  have h2 := bt8_len _ hb
  simp
  omega
theorem grd_t {α : Type} {c : Bool} {o : Option α} (h : c = true) : grd c o = o := by rw [h]; rfl
theorem c1_tot {n : Nat} (hn : 10 < n) (k : Int) : Tot (law17_Acl_c1 n k) fun s => s.data.toList ∈ bt8 := by
 have hm : maxLen ≥ 100000 := by decide
 obtain ⟨c, rfl⟩ : ∃ c, n = c + 1 + 1 + 1 + 1 := ⟨n - 4, by omega⟩
 generalize hN : c + 1 + 1 + 1 + 1 = N
 have step : ∀ (c i : Nat) (t : ByteArray) (R : ByteArray → Prop), i < 3 → t.size ≤ 10 → (∀ s : ByteArray, (s.data.toList = t.data.toList ++ [45] ∨ ∃ x, [114, 119, 120][i]? = some x ∧ s.data.toList = t.data.toList ++ [x]) → Tot (law17_Acl_c1_L1 N k c (s, ((i + 1 : Nat) : Int))) R) → Tot (law17_Acl_c1_L1 N k (c + 1) (t, (i : Int))) R := by
  intro c i t R hi ht hk
  have hu : IntKind.u64.wrap (i : Int) = i := IntWalk.u64_in _ (by omega)
  have hz : (ByteArray.mk #[114, 119, 120]).size = 3 := rfl
  rw [law17_Acl_c1_L1, show decide ((i : Int) < 3) = true from decide_eq_true (by omega), if_pos rfl, hu, grd_t (decide_eq_true (by omega)), wr1 (by omega)]
  refine tot_ite (fun _ => ?_) fun _ => ?_
  ·have hz1 : ((ByteArray.mk #[114, 119, 120]).extract i (i + 1)).size = 1 := by rw [ext_size _ (by omega)]; omega
   rw [bslcS (by omega) (by omega), Option.bind_some, catS (by omega), Option.bind_some]
   refine hk _ (.inr ?_)
   rw [list_app, ext_one (show i < (ByteArray.mk #[114, 119, 120]).size by omega)]
   exact ⟨_, List.getElem?_eq_getElem (by simp; omega), rfl⟩
  ·have hz1 : (ByteArray.mk #[45]).size = 1 := rfl
   rw [catS (by omega), Option.bind_some]
   exact hk _ (.inl (by rw [list_app]))
 unfold law17_Acl_c1
 refine tot_bind (Q := fun s => s.data.toList ∈ bt8) ?_ fun s h => tot_some h
 have hsz : ∀ s : ByteArray, s.size = s.data.toList.length := fun s => (bsize s).symm
 conv => lhs; rw [← hN]
 have go : Tot (law17_Acl_c1_L1 N k (c + 1 + 1 + 1 + 1) ({ data := #[] }, ((0 : Nat) : Int))) fun s => s.data.toList ∈ bt8 := by
  refine step _ 0 _ _ (by omega) (by decide) fun s1 h1 => ?_
  have z1 : s1.size ≤ 1 := by rcases h1 with h | ⟨x, _, h⟩ <;> rw [hsz, h] <;> simp
  refine step _ 1 _ _ (by omega) (by omega) fun s2 h2 => ?_
  have z2 : s2.size ≤ 2 := by rcases h2 with h | ⟨x, _, h⟩ <;> rw [hsz, h, List.length_append, bsize] <;> simp <;> omega
  refine step _ 2 _ _ (by omega) (by omega) fun s3 h3 => ?_
  rw [law17_Acl_c1_L1, show decide (((2 + 1 : Nat) : Int) < 3) = false from rfl, if_neg (by decide)]
  refine tot_some ?_
  rcases h1 with h1 | ⟨x1, e1, h1⟩ <;> rcases h2 with h2 | ⟨x2, e2, h2⟩ <;> rcases h3 with h3 | ⟨x3, e3, h3⟩ <;> (try cases e1) <;> (try cases e2) <;> (try cases e3) <;> rw [h3, h2, h1] <;> decide
 exact go
def goodIs (d : Bool) (is : List Nat) : Bool := decide is.Nodup && (is.all (fun i => decide (i < 15)) && ((is.contains 0 && (is.contains 1 && is.contains 2)) && ((is.all (fun i => decide (i < 9)) || (d && (is.contains 9 && (is.contains 10 && is.contains 11)))) && decide (is.length ≤ 15))))
theorem tcat {β : Type} {a b : ByteArray} {la lb : List UInt8} {f : ByteArray → Option β} {R : β → Prop} (ha : a.data.toList = la) (hb : b.data.toList = lb) (hz : la.length + lb.length ≤ 100000) (k : ∀ s : ByteArray, s.data.toList = la ++ lb → Tot (f s) R) : Tot ((cat a b).bind f) R := by
 have hm : maxLen ≥ 100000 := by decide
 rw [catS (by rw [← bsize, ← bsize, ha, hb]; omega), Option.bind_some]
 exact k _ (by rw [list_app, ha, hb])
theorem tc1 {β : Type} {n : Nat} (hn : 10 < n) {k : Int} {f : ByteArray → Option β} {R : β → Prop} (h : ∀ s : ByteArray, s.data.toList ∈ bt8 → Tot (f s) R) : Tot ((law17_Acl_c1 n k).bind f) R := tot_bind (c1_tot hn k) h
theorem tpart {β : Type} {n : Nat} (hn : 10 < n) {k : Int} {is : List Nat} {i : Nat} {p : List UInt8} {a b : ByteArray} {f : ByteArray → Option β} {R : β → Prop} (h : AclT is a.data.toList) (hp : pfx[i]? = some p) (hb : b.data.toList = 44 :: p) (hl : is.length ≤ 20) (go : ∀ s : ByteArray, AclT (is ++ [i]) s.data.toList → Tot (f s) R) : Tot ((cat a b).bind fun s => (law17_Acl_c1 n k).bind fun t => (cat s t).bind f) R := by
 have h1 := h.len
 have h2 := pfx_len p (List.mem_of_getElem? hp)
 refine tcat rfl hb (by rw [List.length_cons]; omega) fun s hs => tc1 hn fun t ht => ?_
 have h3 := bt8_len _ ht
 refine tcat hs rfl (by rw [List.length_append, List.length_cons]; omega) fun s2 hs2 => go s2 ?_
 rw [hs2, List.append_assoc, List.cons_append]
 exact h.snoc hp ht
def isU (m : Nat) : List Nat := if m < 3 then [3 + m] else []
def isG (m : Nat) : List Nat := if m < 2 then [6 + m] else []
def isM8 (m : Nat) : List Nat := if m < 1 then [8] else []
def isD (m : Nat) : List Nat := match m with
 | 0 => [9, 10, 11]
 | 1 => [9, 10, 11, 12, 13]
 | 2 => [9, 10, 11, 14]
 | 3 => [9, 10, 11, 12, 13, 14]
 | _ => []
theorem isA_good : ∀ u < 4, ∀ g < 3, ∀ m < 2, (∀ k < 5, goodIs true (isG g ++ [0, 1, 2] ++ isU u ++ isM8 m ++ isD k) = true) ∧ goodIs false (isG g ++ [0, 1, 2] ++ isU u ++ isM8 m) = true := by decide
theorem acl_text {n : Nat} (hn : 10 < n) (t : Int) (d : Bool) : Tot (law17_Acl n t d) fun s => ∃ is, goodIs d is = true ∧ AclT is s.data.toList := by
 unfold law17_Acl
 refine tc1 hn fun t1 h1 => tcat rfl rfl (by have := bt8_len _ h1; rw [this]; decide) fun s1 e1 => tcat e1 rfl (by have := bt8_len _ h1; simp only [List.length_append, this]; decide) fun s2 e2 => tc1 hn fun t2 h2 => tcat e2 rfl (by have := bt8_len _ h1; have h := bt8_len _ h2; simp only [List.length_append, this, h]; decide) fun s3 e3 => tcat e3 rfl (by have := bt8_len _ h1; have h := bt8_len _ h2; simp only [List.length_append, this, h]; decide) fun s4 e4 => tc1 hn fun t3 h3 => tcat e4 rfl (by have := bt8_len _ h1; have h := bt8_len _ h2; have h5 := bt8_len _ h3; simp only [List.length_append, this, h, h5]; decide) fun s5 e5 => ?_
 have a5 : AclT [0, 1, 2] s5.data.toList := by
  rw [e5]
  have := AclT.cons (i := 0) rfl h1 (AclT.cons (i := 1) rfl h2 (AclT.one (i := 2) rfl h3))
  simpa using this
 refine tot_bind (Q := fun s => ∃ u, u < 4 ∧ AclT ([0, 1, 2] ++ isU u) s.data.toList) (tot_ite (fun _ => ?_) fun _ => tot_some ⟨3, by decide, a5⟩) fun s6 ⟨u, hu, a6⟩ => ?_
 ·refine tcat rfl rfl (by have := a5.len; simp at this ⊢; omega) fun s6 e6 => ?_
  refine tot_bind (tot_tm (m := 3) (by decide) rfl (Q := fun x : ByteArray => ∃ u, u < 3 ∧ pfx[3 + u]? = some ([117, 58] ++ x.data.toList ++ [58])) ?_) fun x ⟨u, hu, hx⟩ => ?_
  ·intro x hx
   simp only [List.mem_cons, List.not_mem_nil, or_false] at hx
   rcases hx with rfl | rfl | rfl
   ·exact ⟨0, by decide, rfl⟩
   ·exact ⟨1, by decide, rfl⟩
   ·exact ⟨2, by decide, rfl⟩
  ·have hp6 := pfx_len _ (List.mem_of_getElem? hx)
   have := a5.len
   simp at hp6 this
   refine tcat e6 rfl (by simp; omega) fun s7 e7 => tcat e7 rfl (by simp; omega) fun s8 e8 => tc1 hn fun t4 h4 => tcat e8 rfl (by have h9 := bt8_len _ h4; simp at h9 ⊢; omega) fun s9 e9 => tot_some ⟨u, by omega, ?_⟩
   have := a5.snoc (i := 3 + u) hx h4
   rw [e9]
   unfold isU
   rw [if_pos hu]
   simpa using this
 refine tot_bind (Q := fun s => ∃ g, g < 3 ∧ AclT (isG g ++ [0, 1, 2] ++ isU u) s.data.toList) (tot_ite (fun _ => ?_) fun _ => tot_some ⟨2, by decide, a6⟩) fun s7 ⟨g, hg, a7⟩ => ?_
 ·refine tot_bind (tot_an (m := 1) (by decide) (by decide) rfl (Q := fun x : ByteArray => ∃ g, g < 2 ∧ pfx[6 + g]? = some ([103, 58] ++ x.data.toList ++ [58])) ?_) fun x ⟨g, hg, hx⟩ => ?_
  ·intro x hx
   simp only [List.mem_cons, List.not_mem_nil, or_false] at hx
   rcases hx with rfl | rfl
   ·exact ⟨0, by decide, rfl⟩
   ·exact ⟨1, by decide, rfl⟩
  ·have hp6 := pfx_len _ (List.mem_of_getElem? hx)
   have hl := a6.len
   have hul : (isU u).length ≤ 1 := by unfold isU; split <;> simp
   simp at hp6 hl
   refine tcat rfl rfl (by simp; omega) fun s8 e8 => tcat e8 rfl (by simp; omega) fun s9 e9 => tc1 hn fun t4 h4 => tcat e9 rfl (by have h9 := bt8_len _ h4; simp at h9 ⊢; omega) fun s10 e10 => tcat e10 rfl (by have h9 := bt8_len _ h4; simp at h9 ⊢; omega) fun s11 e11 => tcat e11 rfl (by have h9 := bt8_len _ h4; simp at h9 ⊢; omega) fun s12 e12 => tot_some ⟨g, by omega, ?_⟩
   have := AclT.cons (i := 6 + g) hx h4 a6
   rw [e12]
   unfold isG
   rw [if_pos hg]
   simpa using this
 have hul : (isU u).length ≤ 1 := by unfold isU; split <;> simp
 have hgl : (isG g).length ≤ 1 := by unfold isG; split <;> simp
 refine tot_bind (Q := fun s => ∃ m, m < 2 ∧ AclT (isG g ++ [0, 1, 2] ++ isU u ++ isM8 m) s.data.toList) (tot_ite (fun _ => ?_) fun _ => tot_some ⟨1, by decide, by simpa [isM8] using a7⟩) fun s8 ⟨m, hm, a8⟩ => ?_
 ·refine tpart hn a7 (i := 8) rfl rfl (by simp; omega) fun s h => tot_some ⟨0, by decide, h⟩
 have hml : (isM8 m).length ≤ 1 := by unfold isM8; split <;> simp
 obtain ⟨hgood, hgood0⟩ := isA_good u hu g hg m hm
 refine tot_bind (Q := fun b => b = true → d = true) (tot_ite (fun h => tot_some fun _ => h) fun _ => tot_some fun h => by cases h) fun b hb => ?_
 refine tot_ite (fun h => ?_) fun _ => tot_some ⟨_, ?_, a8⟩
 ·rw [hb h]
  refine tpart hn a8 (i := 9) rfl rfl (by simp; omega) fun s9 a9 => tpart hn a9 (i := 10) rfl rfl (by simp; omega) fun s10 a10 => tpart hn a10 (i := 11) rfl rfl (by simp; omega) fun s11 a11 => ?_
  refine tot_bind (Q := fun s => ∃ k, k < 2 ∧ AclT (isG g ++ [0, 1, 2] ++ isU u ++ isM8 m ++ isD k) s.data.toList) (tot_ite (fun _ => ?_) fun _ => tot_some ⟨0, by decide, by simpa [isD] using a11⟩) fun s12 ⟨k, hk, a12⟩ => ?_
  ·refine tpart hn a11 (i := 12) rfl rfl (by simp; omega) fun s12 a12 => tpart hn a12 (i := 13) rfl rfl (by simp; omega) fun s13 a13 => tot_some ⟨1, by decide, by simpa [isD] using a13⟩
  ·have hkl : (isD k).length ≤ 6 := by
    rcases k with _ | _ | k
    ·decide
    ·decide
    ·omega
   refine tot_ite (fun _ => ?_) fun _ => tot_some ⟨_, hgood k (by omega), a12⟩
   refine tpart hn a12 (i := 14) rfl rfl (by simp; omega) fun s13 a13 => tot_some ⟨_, hgood (k + 2) (by omega), ?_⟩
   rcases k with _ | _ | k
   ·simpa [isD] using a13
   ·simpa [isD] using a13
   ·omega
 ·cases d with
  | true => simpa [isD] using hgood 4 (by decide)
  | false => exact hgood0
end Go.Proofs.YtkikhbfdadambaaDoor.Ab

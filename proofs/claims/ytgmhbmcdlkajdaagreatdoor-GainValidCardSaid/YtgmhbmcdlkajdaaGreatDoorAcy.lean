/-
 Entries' texts of numbers: what the document reads of them. No program in sight.
-/
import Derived.Test.YtgmhbmcdlkajdaaGreatDoorPen
import Derived.Test.YtgmhbmcdlkajdaaGreatDoorLnx
import Derived.Test.YtgmhbmcdlkajdaaGreatDoorPeo
namespace Go.Proofs.YtgmhbmcdlkajdaaGreatDoor.Ab
open Go.RowKit
def bt8 : List (List UInt8) := [[45, 45, 45], [114, 45, 45], [45, 119, 45], [114, 119, 45], [45, 45, 120], [114, 45, 120], [45, 119, 120], [114, 119, 120]]
def pfx : List (List UInt8) := [[117, 58, 58], [103, 58, 58], [111, 58, 58], [117, 58, 117, 58], [117, 58, 118, 58], [117, 58, 119, 58], [103, 58, 103, 58], [103, 58, 104, 58], [109, 58, 58], [100, 58, 117, 58, 58], [100, 58, 103, 58, 58], [100, 58, 111, 58, 58], [100, 58, 117, 58, 118, 58], [100, 58, 103, 58, 104, 58], [100, 58, 109, 58, 58]]
def keyT : List (Int × Bool × ByteArray) := [(1, false, { data := #[] }), (3, false, { data := #[] }), (6, false, { data := #[] }), (2, false, { data := #[117] }), (2, false, { data := #[118] }), (2, false, { data := #[119] }), (4, false, { data := #[103] }), (4, false, { data := #[104] }), (5, false, { data := #[] }), (1, true, { data := #[] }), (3, true, { data := #[] }), (6, true, { data := #[] }), (2, true, { data := #[118] }), (4, true, { data := #[104] }), (5, true, { data := #[] })]
inductive AclT : List Nat → List UInt8 → Prop
 | one {i p b} (hp : pfx[i]? = some p) (hb : b ∈ bt8) : AclT [i] (p ++ b)
 | cons {i p b is l} (hp : pfx[i]? = some p) (hb : b ∈ bt8) (h : AclT is l) : AclT (i :: is) (p ++ (b ++ 44 :: l))
theorem AclT.snoc {is : List Nat} {l : List UInt8} {i : Nat} {p b : List UInt8} (h : AclT is l) (hp : pfx[i]? = some p) (hb : b ∈ bt8) : AclT (is ++ [i]) (l ++ 44 :: (p ++ b)) := by
 induction h with
 | one hp2 hb2 =>
  rw [List.append_assoc]
  exact .cons hp2 hb2 (.one hp hb)
 | cons hp2 hb2 _ ih =>
  rw [List.append_assoc, List.append_assoc]
  exact .cons hp2 hb2 ih
theorem pfx_len : ∀ p ∈ pfx, p.length ≤ 6 := by decide
theorem bt8_len : ∀ b ∈ bt8, b.length = 3 := by decide
theorem AclT.len {is : List Nat} {l : List UInt8} (h : AclT is l) : l.length ≤ 10 * is.length := by
 induction h with
 | one hp hb =>
  have h1 := pfx_len _ (List.mem_of_getElem? hp)
  have h2 := bt8_len _ hb
  simp
  omega
 | cons hp hb _ ih =>
  have h1 := pfx_len _ (List.mem_of_getElem? hp)
  have h2 := bt8_len _ hb
  simp
  omega
theorem c1_tot {n : Nat} (hn : 10 < n) (k : Int) : Tot (law17_Acl_c1 n k) fun s => s.data.toList ∈ bt8 := by
 have hm : maxLen ≥ 100000 := by decide
 obtain ⟨c, rfl⟩ : ∃ c, n = c + 1 + 1 + 1 + 1 := ⟨n - 4, by omega⟩
 generalize hN : c + 1 + 1 + 1 + 1 = N
 have step : ∀ (c i : Nat) (t : ByteArray) (R : ByteArray → Prop), i < 3 → t.size ≤ 10 → (∀ s : ByteArray, (s.data.toList = t.data.toList ++ [45] ∨ ∃ x, [114, 119, 120][i]? = some x ∧ s.data.toList = t.data.toList ++ [x]) → Tot (law17_Acl_c1_L1 N k c (s, ((i + 1 : Nat) : Int))) R) → Tot (law17_Acl_c1_L1 N k (c + 1) (t, (i : Int))) R := by
  intro c i t R hi ht hk
  have hu : IntKind.u64.wrap (i : Int) = i := IntWalk.u64_in _ (by omega)
  have hz : (ByteArray.mk #[114, 119, 120]).size = 3 := rfl
  rw [law17_Acl_c1_L1, show decide ((i : Int) < 3) = true from decide_eq_true (by omega), if_pos rfl, hu, grd_t (decide_eq_true (by omega)), wr1 (by omega)]
  refine tot_ite (fun _ => ?_) fun _ => ?_
  ·have hz1 : ((ByteArray.mk #[114, 119, 120]).extract i (i + 1)).size = 1 := by rw [ext_size _ (by omega)]; omega
   rw [bslcS (by omega) (by omega), Zo, catS (by omega), Zo]
   refine hk _ (.inr ?_)
   rw [list_app, ext_one (show i < (ByteArray.mk #[114, 119, 120]).size by omega)]
   exact ⟨_, List.getElem?_eq_getElem (by simp; omega), rfl⟩
  ·have hz1 : (ByteArray.mk #[45]).size = 1 := rfl
   rw [catS (by omega), Zo]
   exact hk _ (.inl (by rw [list_app]))
 unfold law17_Acl_c1
 refine tot_bind (Q := fun s => s.data.toList ∈ bt8) ?_ fun s h => tot_some h
 have hsz : ∀ s : ByteArray, s.size = s.data.toList.length := fun s => (bsize s).symm
 conv => lhs; rw [← hN]
 have go : Tot (law17_Acl_c1_L1 N k (c + 1 + 1 + 1 + 1) ({ data := #[] }, ((0 : Nat) : Int))) fun s => s.data.toList ∈ bt8 := by
  refine step _ 0 _ _ (by omega) (by decide) fun s1 h1 => ?_
  have z1 : s1.size ≤ 1 := by rcases h1 with h | ⟨x, _, h⟩ <;> rw [hsz, h] <;> simp
  refine step _ 1 _ _ (by omega) (by omega) fun s2 h2 => ?_
  have z2 : s2.size ≤ 2 := by rcases h2 with h | ⟨x, _, h⟩ <;> rw [hsz, h, List.length_append, bsize] <;> simp <;> omega
  refine step _ 2 _ _ (by omega) (by omega) fun s3 h3 => ?_
  rw [law17_Acl_c1_L1, show decide (((2 + 1 : Nat) : Int) < 3) = false from rfl, if_neg (by decide)]
  refine tot_some ?_
  rcases h1 with h1 | ⟨x1, e1, h1⟩ <;> rcases h2 with h2 | ⟨x2, e2, h2⟩ <;> rcases h3 with h3 | ⟨x3, e3, h3⟩ <;> (try cases e1) <;> (try cases e2) <;> (try cases e3) <;> rw [h3, h2, h1] <;> decide
 exact go
def goodIs (d : Bool) (is : List Nat) : Bool := decide is.Nodup && (is.all (fun i => decide (i < 15)) && ((is.contains 0 && (is.contains 1 && is.contains 2)) && ((is.all (fun i => decide (i < 9)) || (d && (is.contains 9 && (is.contains 10 && is.contains 11)))) && decide (is.length ≤ 15))))
theorem tcat {β : Type} {a b : ByteArray} {la lb : List UInt8} {f : ByteArray → Option β} {R : β → Prop} (ha : a.data.toList = la) (hb : b.data.toList = lb) (hz : la.length + lb.length ≤ 100000) (k : ∀ s : ByteArray, s.data.toList = la ++ lb → Tot (f s) R) : Tot ((cat a b).bind f) R := by
 have hm : maxLen ≥ 100000 := by decide
 rw [catS (by rw [← bsize, ← bsize, ha, hb]; omega), Zo]
 exact k _ (by rw [list_app, ha, hb])
theorem tc1 {β : Type} {n : Nat} (hn : 10 < n) {k : Int} {f : ByteArray → Option β} {R : β → Prop} (h : ∀ s : ByteArray, s.data.toList ∈ bt8 → Tot (f s) R) : Tot ((law17_Acl_c1 n k).bind f) R := tot_bind (c1_tot hn k) h
theorem tpart {β : Type} {n : Nat} (hn : 10 < n) {k : Int} {is : List Nat} {i : Nat} {p : List UInt8} {a b : ByteArray} {f : ByteArray → Option β} {R : β → Prop} (h : AclT is a.data.toList) (hp : pfx[i]? = some p) (hb : b.data.toList = 44 :: p) (hl : is.length ≤ 20) (go : ∀ s : ByteArray, AclT (is ++ [i]) s.data.toList → Tot (f s) R) : Tot ((cat a b).bind fun s => (law17_Acl_c1 n k).bind fun t => (cat s t).bind f) R := by
 have h1 := h.len
 have h2 := pfx_len p (List.mem_of_getElem? hp)
 refine tcat rfl hb (by rw [List.length_cons]; omega) fun s hs => tc1 hn fun t ht => ?_
 have h3 := bt8_len _ ht
 refine tcat hs rfl (by rw [List.length_append, List.length_cons]; omega) fun s2 hs2 => go s2 ?_
 rw [hs2, List.append_assoc, List.cons_append]
 exact h.snoc hp ht
def isU (m : Nat) : List Nat := if m < 3 then [3 + m] else []
def isG (m : Nat) : List Nat := if m < 2 then [6 + m] else []
def isM8 (m : Nat) : List Nat := if m < 1 then [8] else []
def isD (m : Nat) : List Nat := match m with
 | 0 => [9, 10, 11]
 | 1 => [9, 10, 11, 12, 13]
 | 2 => [9, 10, 11, 14]
 | 3 => [9, 10, 11, 12, 13, 14]
 | _ => []
theorem isA_good : ∀ u < 4, ∀ g < 3, ∀ m < 2, (∀ k < 5, goodIs true (isG g ++ [0, 1, 2] ++ isU u ++ isM8 m ++ isD k) = true) ∧ goodIs false (isG g ++ [0, 1, 2] ++ isU u ++ isM8 m) = true := by decide
theorem acl_text {n : Nat} (hn : 10 < n) (t : Int) (d : Bool) : Tot (law17_Acl n t d) fun s => ∃ is, goodIs d is = true ∧ AclT is s.data.toList := by
 unfold law17_Acl
 refine tc1 hn fun t1 h1 => tcat rfl rfl (by have := bt8_len _ h1; rw [this]; decide) fun s1 e1 => tcat e1 rfl (by have := bt8_len _ h1; simp only [List.length_append, this]; decide) fun s2 e2 => tc1 hn fun t2 h2 => tcat e2 rfl (by have := bt8_len _ h1; have h := bt8_len _ h2; simp only [List.length_append, this, h]; decide) fun s3 e3 => tcat e3 rfl (by have := bt8_len _ h1; have h := bt8_len _ h2; simp only [List.length_append, this, h]; decide) fun s4 e4 => tc1 hn fun t3 h3 => tcat e4 rfl (by have := bt8_len _ h1; have h := bt8_len _ h2; have h5 := bt8_len _ h3; simp only [List.length_append, this, h, h5]; decide) fun s5 e5 => ?_
 have a5 : AclT [0, 1, 2] s5.data.toList := by
  rw [e5]
  have := AclT.cons (i := 0) rfl h1 (AclT.cons (i := 1) rfl h2 (AclT.one (i := 2) rfl h3))
  simpa using this
 refine tot_bind (Q := fun s => ∃ u, u < 4 ∧ AclT ([0, 1, 2] ++ isU u) s.data.toList) (tot_ite (fun _ => ?_) fun _ => tot_some ⟨3, by decide, a5⟩) fun s6 ⟨u, hu, a6⟩ => ?_
 ·refine tcat rfl rfl (by have := a5.len; simp at this ⊢; omega) fun s6 e6 => ?_
  refine tot_bind (tot_tm (m := 3) (by decide) rfl (Q := fun x : ByteArray => ∃ u, u < 3 ∧ pfx[3 + u]? = some ([117, 58] ++ x.data.toList ++ [58])) ?_) fun x ⟨u, hu, hx⟩ => ?_
  ·intro x hx
   simp only [List.mem_cons, List.not_mem_nil, or_false] at hx
   rcases hx with rfl | rfl | rfl
   ·exact ⟨0, by decide, rfl⟩
   ·exact ⟨1, by decide, rfl⟩
   ·exact ⟨2, by decide, rfl⟩
  ·have hp6 := pfx_len _ (List.mem_of_getElem? hx)
   have := a5.len
   simp at hp6 this
   refine tcat e6 rfl (by simp; omega) fun s7 e7 => tcat e7 rfl (by simp; omega) fun s8 e8 => tc1 hn fun t4 h4 => tcat e8 rfl (by have h9 := bt8_len _ h4; simp at h9 ⊢; omega) fun s9 e9 => tot_some ⟨u, by omega, ?_⟩
   have := a5.snoc (i := 3 + u) hx h4
   rw [e9]
   unfold isU
   rw [if_pos hu]
   simpa using this
 refine tot_bind (Q := fun s => ∃ g, g < 3 ∧ AclT (isG g ++ [0, 1, 2] ++ isU u) s.data.toList) (tot_ite (fun _ => ?_) fun _ => tot_some ⟨2, by decide, a6⟩) fun s7 ⟨g, hg, a7⟩ => ?_
 ·refine tot_bind (tot_an (m := 1) (by decide) (by decide) rfl (Q := fun x : ByteArray => ∃ g, g < 2 ∧ pfx[6 + g]? = some ([103, 58] ++ x.data.toList ++ [58])) ?_) fun x ⟨g, hg, hx⟩ => ?_
  ·intro x hx
   simp only [List.mem_cons, List.not_mem_nil, or_false] at hx
   rcases hx with rfl | rfl
   ·exact ⟨0, by decide, rfl⟩
   ·exact ⟨1, by decide, rfl⟩
  ·have hp6 := pfx_len _ (List.mem_of_getElem? hx)
   have hl := a6.len
   have hul : (isU u).length ≤ 1 := by unfold isU; split <;> simp
   simp at hp6 hl
   refine tcat rfl rfl (by simp; omega) fun s8 e8 => tcat e8 rfl (by simp; omega) fun s9 e9 => tc1 hn fun t4 h4 => tcat e9 rfl (by have h9 := bt8_len _ h4; simp at h9 ⊢; omega) fun s10 e10 => tcat e10 rfl (by have h9 := bt8_len _ h4; simp at h9 ⊢; omega) fun s11 e11 => tcat e11 rfl (by have h9 := bt8_len _ h4; simp at h9 ⊢; omega) fun s12 e12 => tot_some ⟨g, by omega, ?_⟩
   have := AclT.cons (i := 6 + g) hx h4 a6
   rw [e12]
   unfold isG
   rw [if_pos hg]
   simpa using this
 have hul : (isU u).length ≤ 1 := by unfold isU; split <;> simp
 have hgl : (isG g).length ≤ 1 := by unfold isG; split <;> simp
 refine tot_bind (Q := fun s => ∃ m, m < 2 ∧ AclT (isG g ++ [0, 1, 2] ++ isU u ++ isM8 m) s.data.toList) (tot_ite (fun _ => ?_) fun _ => tot_some ⟨1, by decide, by simpa [isM8] using a7⟩) fun s8 ⟨m, hm, a8⟩ => ?_
 ·refine tpart hn a7 (i := 8) rfl rfl (by simp; omega) fun s h => tot_some ⟨0, by decide, h⟩
 have hml : (isM8 m).length ≤ 1 := by unfold isM8; split <;> simp
 obtain ⟨hgood, hgood0⟩ := isA_good u hu g hg m hm
 refine tot_bind (Q := fun b => b = true → d = true) (tot_ite (fun h => tot_some fun _ => h) fun _ => tot_some fun h => by cases h) fun b hb => ?_
 refine tot_ite (fun h => ?_) fun _ => tot_some ⟨_, ?_, a8⟩
 ·rw [hb h]
  refine tpart hn a8 (i := 9) rfl rfl (by simp; omega) fun s9 a9 => tpart hn a9 (i := 10) rfl rfl (by simp; omega) fun s10 a10 => tpart hn a10 (i := 11) rfl rfl (by simp; omega) fun s11 a11 => ?_
  refine tot_bind (Q := fun s => ∃ k, k < 2 ∧ AclT (isG g ++ [0, 1, 2] ++ isU u ++ isM8 m ++ isD k) s.data.toList) (tot_ite (fun _ => ?_) fun _ => tot_some ⟨0, by decide, by simpa [isD] using a11⟩) fun s12 ⟨k, hk, a12⟩ => ?_
  ·refine tpart hn a11 (i := 12) rfl rfl (by simp; omega) fun s12 a12 => tpart hn a12 (i := 13) rfl rfl (by simp; omega) fun s13 a13 => tot_some ⟨1, by decide, by simpa [isD] using a13⟩
  ·have hkl : (isD k).length ≤ 6 := by
    rcases k with _ | _ | k
    ·decide
    ·decide
    ·omega
   refine tot_ite (fun _ => ?_) fun _ => tot_some ⟨_, hgood k (by omega), a12⟩
   refine tpart hn a12 (i := 14) rfl rfl (by simp; omega) fun s13 a13 => tot_some ⟨_, hgood (k + 2) (by omega), ?_⟩
   rcases k with _ | _ | k
   ·simpa [isD] using a13
   ·simpa [isD] using a13
   ·omega
 ·cases d with
  | true => simpa [isD] using hgood 4 (by decide)
  | false => exact hgood0
def NF : Nat := 30000
def keyIs (k : Int × Bool × ByteArray) (e : GEntry) : Prop := e.kind = k.1 ∧ e.default = k.2.1 ∧ e.name = k.2.2 ∧ 0 ≤ e.bits ∧ e.bits ≤ 7
instance (k : Int × Bool × ByteArray) (e : GEntry) : Decidable (keyIs k e) := inferInstanceAs (Decidable (_ ∧ _))
def chkE (r : Option (GEntry × Bool)) (k : Int × Bool × ByteArray) : Bool := match r with
 | some (e, true) => (e.kind == k.1) && ((e.default == k.2.1) && ((e.name.toList == k.2.2.toList) && (decide (0 ≤ e.bits) && decide (e.bits ≤ 7))))
 | _ => false
theorem entry_all : ((List.range 15).all fun i => bt8.all fun b => chkE (ref17_entry 30000 ⟨⟨pfx[i]! ++ b⟩⟩) keyT[i]!) = true := by kernel_rfl
theorem entry_of {s : ByteArray} {i : Nat} {p b : List UInt8} (hp : pfx[i]? = some p) (hb : b ∈ bt8) (hs : s.data.toList = p ++ b) : ∃ e k, keyT[i]? = some k ∧ ref17_entry NF s = some (e, true) ∧ keyIs k e := by
 have hi : i < 15 := (List.getElem?_eq_some_iff.1 hp).1
 have h := List.all_eq_true.1 (List.all_eq_true.1 entry_all i (List.mem_range.2 hi)) b hb
 have e1 : pfx[i]! = p := by rw [List.getElem!_eq_getElem?_getD, hp]; rfl
 have e2 : s = ⟨⟨pfx[i]! ++ b⟩⟩ := bytes_inj (by rw [hs, e1])
 have hk : keyT[i]? = some (keyT[i]'(by exact hi)) := List.getElem?_eq_getElem _
 have e3 : keyT[i]! = keyT[i]'(by exact hi) := by rw [List.getElem!_eq_getElem?_getD, hk]; rfl
 rw [← e2, e3] at h
 show ∃ e k, keyT[i]? = some k ∧ ref17_entry 30000 s = some (e, true) ∧ keyIs k e
 generalize ref17_entry 30000 s = r at h
 unfold chkE at h
 split at h
 ·rename_i e
  simp only [Bool.and_eq_true, beq_iff_eq, decide_eq_true_eq, beqS] at h
  obtain ⟨h1, h2, h3, h4, h5⟩ := h
  exact ⟨e, _, hk, rfl, h1, h2, h3, h4, h5⟩
 ·cases h
theorem ib_pre {c : UInt8} {r : List UInt8} : ∀ {w : List UInt8}, c ∉ w → Lib.indexByte (w ++ c :: r) c = w.length
 | [], _ => by
  rw [List.nil_append, Lib.indexByte, if_pos (beq_self_eq_true c)]
  rfl
 | b :: w, h => by
  have h1 : (b == c) = false := beq_eq_false_iff_ne.2 fun e => h (by simp [e])
  have ih := ib_pre (c := c) (r := r) (w := w) fun hm => h (List.mem_cons_of_mem _ hm)
  rw [List.cons_append, Lib.indexByte, h1, ih, if_neg (by decide), if_neg (by simp)]
  simp
theorem ib_no {c : UInt8} : ∀ {w : List UInt8}, c ∉ w → Lib.indexByte w c = -1
 | [], _ => rfl
 | b :: w, h => by
  have h1 : (b == c) = false := beq_eq_false_iff_ne.2 fun e => h (by simp [e])
  have ih := ib_no (c := c) (w := w) fun hm => h (List.mem_cons_of_mem _ hm)
  rw [Lib.indexByte, h1, ih, if_neg (by decide), if_pos (by decide)]
theorem no44 {p b : List UInt8} (hp : p ∈ pfx) (hb : b ∈ bt8) : (44 : UInt8) ∉ p ++ b := by
 have h1 : ∀ p ∈ pfx, (44 : UInt8) ∉ p := by decide
 have h2 : ∀ b ∈ bt8, (44 : UInt8) ∉ b := by decide
 intro h
 rcases List.mem_append.1 h with h | h
 ·exact h1 p hp h
 ·exact h2 b hb h
inductive KeyR : List Nat → List GEntry → Prop
 | nil : KeyR [] []
 | cons {i k e is es} (hk : keyT[i]? = some k) (he : keyIs k e) (h : KeyR is es) : KeyR (i :: is) (e :: es)
theorem KeyR.len {is : List Nat} {es : List GEntry} (h : KeyR is es) : es.length = is.length := by
 induction h with
 | nil => rfl
 | cons _ _ _ ih => simp [ih]
theorem entries_at {s : ByteArray} (hs : s.size < 20000) {is : List Nat} {l : List UInt8} (h : AclT is l) : ∀ (c i : Nat) (out : List GEntry), s.data.toList.drop i = l → i ≤ s.size → s.size - i + 1 < c → out.length + is.length ≤ 100 → ∃ es, KeyR is es ∧ ref17_Entries_L1 NF s c (out, (i : Int)) = some (.inl (out ++ es)) := by
 have hNF : NF = 30000 := rfl
 have one : ∀ (c i e : Nat) (out : List GEntry) (x : GEntry), i ≤ e → e ≤ s.size → out.length < 100 → ref17_entry NF (s.extract i e) = some (x, true) → ref1_Find NF s 44 (i : Int) = some (if e = s.size then -1 else (e : Int)) → ref17_Entries_L1 NF s (c + 1) (out, (i : Int)) = ref17_Entries_L1 NF s c (out ++ [x], ((e + 1 : Nat) : Int)) := by
  intro c i e out x h1 h2 h3 h4 h5
  have hk : ((if (decide ((if e = s.size then (-1 : Int) else (e : Int)) < 0)) then some (s.size : Int) else some (if e = s.size then (-1 : Int) else (e : Int))) : Option Int) = some (e : Int) := by
   by_cases he : e = s.size
   ·rw [if_pos he, if_pos (show decide ((-1 : Int) < 0) = true from rfl), he]
   ·rw [if_neg he, if_neg (by simp)]
  rw [ref17_Entries_L1, show decide ((i : Int) ≤ (s.size : Int)) = true from decide_eq_true (by omega), if_pos rfl, h5, Zo, hk, Zo, bslcS h1 h2, Zo, h4, Zo, if_pos rfl, show ((out.length : Int) == 100) = false from beq_eq_false_iff_ne.2 (by omega), if_neg (by decide), appS (by simp; omega), Zo, wr1 (by omega)]
 induction h with
 | @one j p b hp hb =>
  intro c i out hd hi hc ho
  have hlen := congrArg List.length hd
  rw [List.length_drop, bsize] at hlen
  obtain ⟨x1, x2, x3⟩ := ext_drop (w := p ++ b) (r := []) (by rw [hd, List.append_nil]) hi
  rw [show i + (p ++ b).length = s.size by omega] at x2
  obtain ⟨e, k, hk, he, hkey⟩ := entry_of hp hb x2
  obtain ⟨c, rfl⟩ : ∃ d, c = d + 1 + 1 := ⟨c - 2, by omega⟩
  refine ⟨[e], .cons hk hkey .nil, ?_⟩
  have hf := find1_some (n := NF) (s := s) (b := 44) (k := i) (by omega) hi (by omega)
  rw [hd, ib_no (no44 (List.mem_of_getElem? hp) hb), if_pos rfl] at hf
  rw [one (c + 1) i s.size out e hi (Nat.le_refl _) (by simp at ho; omega) he (by rw [if_pos rfl]; exact hf), ref17_Entries_L1, show decide (((s.size + 1 : Nat) : Int) ≤ (s.size : Int)) = false from decide_eq_false (by omega), if_neg (by decide)]
 | @cons j p b is l hp hb h ih =>
  intro c i out hd hi hc ho
  have hd2 : s.data.toList.drop i = (p ++ b) ++ 44 :: l := by rw [hd]; simp
  obtain ⟨x1, x2, x3⟩ := ext_drop hd2 hi
  obtain ⟨y1, y2, y3⟩ := bidx_l x3
  obtain ⟨e, k, hk, he, hkey⟩ := entry_of hp hb x2
  obtain ⟨c, rfl⟩ : ∃ d, c = d + 1 := ⟨c - 1, by omega⟩
  have hf := find1_some (n := NF) (s := s) (b := 44) (k := i) (by omega) hi (by omega)
  rw [hd2, ib_pre (no44 (List.mem_of_getElem? hp) hb), if_neg (by omega)] at hf
  rw [List.length_cons] at ho
  have hlp : 0 < (p ++ b).length := by
   have := bt8_len _ hb
   rw [List.length_append]
   omega
  obtain ⟨es, h1, h2⟩ := ih c (i + (p ++ b).length + 1) (out ++ [e]) y3 (by omega) (by omega) (by simp; omega)
  refine ⟨e :: es, .cons hk hkey h1, ?_⟩
  rw [one c i (i + (p ++ b).length) out e (by omega) x1 (by omega) he (by rw [if_neg (by omega)]; exact hf.trans (by congr 1)), h2, List.append_assoc]
  rfl
theorem entries_of {s : ByteArray} {is : List Nat} (hs : s.size < 20000) (h : AclT is s.data.toList) (hl : is.length ≤ 100) : ∃ es, KeyR is es ∧ ref17_Entries NF s = some (es, true) := by
 obtain ⟨es, h1, h2⟩ := entries_at hs h NF 0 [] rfl (by omega) (show _ < 30000 by omega) (by simpa using hl)
 refine ⟨es, h1, ?_⟩
 have h2 : ref17_Entries_L1 NF s NF ([], 0) = _ := h2
 unfold ref17_Entries
 rw [h2]
 rfl
theorem key_ok {k : Int × Bool × ByteArray} {e : GEntry} (hm : k ∈ keyT) (h : keyIs k e) : textOK e = true := by
 obtain ⟨h1, h2, h3, h4, h5⟩ := h
 have hc : ∀ k ∈ keyT, ((if (k.1 == 2 || k.1 == 4) then nameB k.2.2 else decide (k.2.2.size = 0)) && (decide (1 ≤ k.1) && decide (k.1 ≤ 6))) = true := by decide
 have := hc k hm
 unfold textOK namedE
 rw [h1, h3, decide_eq_true h4, decide_eq_true h5]
 rw [Bool.and_eq_true, Bool.and_eq_true] at this
 rw [this.1, this.2.1, this.2.2]
 rfl
theorem KeyR.mem {is : List Nat} {es : List GEntry} (h : KeyR is es) : (∀ i ∈ is, ∃ e ∈ es, ∃ k, keyT[i]? = some k ∧ keyIs k e) ∧ ∀ e ∈ es, ∃ i ∈ is, ∃ k, keyT[i]? = some k ∧ keyIs k e := by
 induction h with
 | nil => exact ⟨fun _ h => (by cases h), fun _ h => (by cases h)⟩
 | @cons i k e is es hk he h ih =>
  refine ⟨fun j hj => ?_, fun x hx => ?_⟩
  ·rcases List.mem_cons.1 hj with rfl | hj
   ·exact ⟨e, List.mem_cons_self .., k, hk, he⟩
   ·obtain ⟨x, hx, r⟩ := ih.1 j hj
    exact ⟨x, List.mem_cons_of_mem _ hx, r⟩
  ·rcases List.mem_cons.1 hx with rfl | hx
   ·exact ⟨i, List.mem_cons_self .., k, hk, he⟩
   ·obtain ⟨j, hj, r⟩ := ih.2 x hx
    exact ⟨j, List.mem_cons_of_mem _ hj, r⟩
theorem keyT_inj {i j : Nat} {k l : Int × Bool × ByteArray} (hi : keyT[i]? = some k) (hj : keyT[j]? = some l) (h : k.1 = l.1 ∧ k.2.1 = l.2.1 ∧ k.2.2 = l.2.2) : i = j := by
 have e : k = l := Prod.ext h.1 (Prod.ext h.2.1 h.2.2)
 subst e
 have hn : keyT.Nodup := by decide
 obtain ⟨h1, h2⟩ := List.getElem?_eq_some_iff.1 hi
 obtain ⟨h3, h4⟩ := List.getElem?_eq_some_iff.1 hj
 rcases Nat.lt_trichotomy i j with h | h | h
 ·exact absurd (h2.trans h4.symm) (List.pairwise_iff_getElem.1 hn i j h1 h3 h)
 ·exact h
 ·exact absurd (h4.trans h2.symm) (List.pairwise_iff_getElem.1 hn j i h3 h1 h)
theorem KeyR.apart {is : List Nat} {es : List GEntry} (h : KeyR is es) (hn : is.Nodup) : Apart es := by
 induction h with
 | nil => exact .nil
 | @cons i k e is es hk he h ih =>
  obtain ⟨n1, n2⟩ := List.nodup_cons.1 hn
  refine List.pairwise_cons.2 ⟨fun x hx e0 => ?_, ih n2⟩
  obtain ⟨j, hj, l, hl, hx2⟩ := h.mem.2 x hx
  obtain ⟨z1, z2, z3⟩ := cfE_zero.1 e0
  have := keyT_inj hk hl ⟨he.1.symm.trans (z2.trans hx2.1), he.2.1.symm.trans (z1.trans hx2.2.1), he.2.2.1.symm.trans (z3.trans hx2.2.2.1)⟩
  subst this
  exact n1 hj
theorem KeyR.has {is : List Nat} {es : List GEntry} (h : KeyR is es) {i : Nat} {k : Int × Bool × ByteArray} (hi : i ∈ is) (hk : keyT[i]? = some k) : has k.1 (fl k.2.1 es) = true := by
 obtain ⟨e, he, l, hl, hx⟩ := h.mem.1 i hi
 rw [hk, Option.some.injEq] at hl
 subst hl
 refine List.any_eq_true.2 ⟨e, mem_fl.2 ⟨he, hx.2.1⟩, ?_⟩
 rw [hx.1]
 exact beq_self_eq_true _
def nameK (e : GEntry) : Prop := (e.kind = 2 → e.name ∈ [({ data := #[117] } : ByteArray), { data := #[118] }, { data := #[119] }]) ∧ (e.kind = 4 → e.name ∈ [({ data := #[103] } : ByteArray), { data := #[104] }])
theorem KeyR.names {is : List Nat} {es : List GEntry} (h : KeyR is es) : ∀ e ∈ es, nameK e := fun e he => by
 obtain ⟨i, _, k, hk, hx⟩ := h.mem.2 e he
 have hc : ∀ k ∈ keyT, (k.1 = 2 → k.2.2 ∈ [({ data := #[117] } : ByteArray), { data := #[118] }, { data := #[119] }]) ∧ (k.1 = 4 → k.2.2 ∈ [({ data := #[103] } : ByteArray), { data := #[104] }]) := by decide
 have := hc k (List.mem_of_getElem? hk)
 unfold nameK
 rw [hx.1, hx.2.2.1]
 exact this
theorem acl_ok {d : Bool} {is : List Nat} {es : List GEntry} (h : KeyR is es) (hg : goodIs d is = true) : OKE es = true ∧ (d = false → ∀ e ∈ es, e.default = false) := by
 unfold goodIs at hg
 simp only [Bool.and_eq_true, Bool.or_eq_true, decide_eq_true_eq, List.all_eq_true, List.contains_iff_mem] at hg
 obtain ⟨g1, g2, ⟨g3, g4, g5⟩, g6, g7⟩ := hg
 have ha := h.apart g1
 have ht : ∀ e ∈ es, textOK e = true := fun e he => by
  obtain ⟨i, _, k, hk, hx⟩ := h.mem.2 e he
  exact key_ok (List.mem_of_getElem? hk) hx
 have hfl : ∀ d, Apart (fl d es) := fun d => List.Pairwise.sublist List.filter_sublist ha
 have hlow : (∀ i ∈ is, i < 9) → ∀ e ∈ es, e.default = false := fun hl e he => by
  obtain ⟨i, hi, k, hk, hx⟩ := h.mem.2 e he
  have hc : ∀ i < 9, ∀ k, keyT[i]? = some k → k.2.1 = false := by
   intro i hi k hk
   have : i = 0 ∨ i = 1 ∨ i = 2 ∨ i = 3 ∨ i = 4 ∨ i = 5 ∨ i = 6 ∨ i = 7 ∨ i = 8 := by omega
   rcases this with rfl | rfl | rfl | rfl | rfl | rfl | rfl | rfl | rfl <;> (cases hk; rfl)
  rw [hx.2.1]
  exact hc i (hl i hi) k hk
 have hw0 : whole3 (fl false es) = true := by
  unfold whole3
  rw [h.has (i := 0) g3 rfl, h.has (i := 1) g4 rfl, h.has (i := 2) g5 rfl]
  rfl
 have hw1 : (fl true es).isEmpty = true ∨ whole3 (fl true es) = true := by
  rcases g6 with g | ⟨_, g9, g10, g11⟩
  ·left
   rw [List.isEmpty_iff]
   exact List.filter_eq_nil_iff.2 fun x hx => by rw [hlow g x hx]; decide
  ·right
   unfold whole3
   rw [h.has (i := 9) g9 rfl, h.has (i := 10) g10 rfl, h.has (i := 11) g11 rfl]
   rfl
 have hlen := h.len
 refine ⟨?_, fun hd => ?_⟩
 ·unfold OKE
  rw [List.all_eq_true.2 ht, decide_eq_true (hfl false), decide_eq_true (hfl true), hw0]
  have l1 := fl_len false es
  have l2 := fl_len true es
  have l3 := partE_len false (fl false es)
  have l4 := partE_len true (fl true es)
  have hsz : (partE false (fl false es)).length + (if (fl true es).isEmpty then [] else partE true (fl true es)).length ≤ 100 := by
   split
   ·simp; omega
   ·omega
  rw [decide_eq_true hsz]
  rcases hw1 with e | e <;> rw [e] <;> simp
 ·rcases g6 with g | ⟨g, _⟩
  ·exact hlow g
  ·rw [hd] at g; cases g
end Go.Proofs.YtgmhbmcdlkajdaaGreatDoor.Ab

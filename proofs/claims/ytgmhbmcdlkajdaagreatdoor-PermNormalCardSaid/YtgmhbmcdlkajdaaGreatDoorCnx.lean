/-
 Who may what: the program's answer is the document's. No program in sight.
-/
import Derived.Test.YtgmhbmcdlkajdaaGreatDoorVly
namespace Go.Proofs.YtgmhbmcdlkajdaaGreatDoor.Ab
open Go.RowKit
/-! ### bits -/
def nz (x b : Int) : Bool := (IntKind.i64.wrap (an x b : Int)) != 0
theorem of8 {p : Int → Prop} (h : ∀ i : Fin 8, p (i.1 : Int)) {x : Int} (hx : 0 ≤ x ∧ x ≤ 7) : p x := by
 have := h ⟨x.toNat, by omega⟩
 rwa [show ((x.toNat : Nat) : Int) = x by omega] at this
theorem bit_nz {x b : Int} (hx : 0 ≤ x ∧ x ≤ 7) (hb : b = 1 ∨ b = 2 ∨ b = 4) : bitOn x b = nz x b := by
 revert hb
 refine of8 (p := fun x => b = 1 ∨ b = 2 ∨ b = 4 → bitOn x b = nz x b) (fun i => ?_) hx
 rintro (rfl | rfl | rfl) <;> revert i <;> decide
theorem or_nz : ∀ i j : Fin 8, nz (or2 i.1 j.1) 1 = (nz i.1 1 || nz j.1 1) ∧ nz (or2 i.1 j.1) 2 = (nz i.1 2 || nz j.1 2) ∧ nz (or2 i.1 j.1) 4 = (nz i.1 4 || nz j.1 4) := by decide
theorem and_all : ∀ i j : Fin 8, nz (IntKind.i64.wrap (an i.1 j.1 : Int)) 1 = (nz i.1 1 && nz j.1 1) ∧ nz (IntKind.i64.wrap (an i.1 j.1 : Int)) 2 = (nz i.1 2 && nz j.1 2) ∧ nz (IntKind.i64.wrap (an i.1 j.1 : Int)) 4 = (nz i.1 4 && nz j.1 4) := by decide
theorem or_ok {w x b : Int} (hw : 0 ≤ w ∧ w ≤ 7) (hx : 0 ≤ x ∧ x ≤ 7) (hb : b = 1 ∨ b = 2 ∨ b = 4) : nz (or2 w x) b = (nz w b || nz x b) := by
 refine of8 (p := fun w => nz (or2 w x) b = (nz w b || nz x b)) (fun i => of8 (p := fun x => nz (or2 i.1 x) b = (nz i.1 b || nz x b)) (fun j => ?_) hx) hw
 rcases hb with rfl | rfl | rfl
 ·exact (or_nz i j).1
 ·exact (or_nz i j).2.1
 ·exact (or_nz i j).2.2
theorem and_ok {w x b : Int} (hw : 0 ≤ w ∧ w ≤ 7) (hx : 0 ≤ x ∧ x ≤ 7) (hb : b = 1 ∨ b = 2 ∨ b = 4) : nz (IntKind.i64.wrap (an w x : Int)) b = (nz w b && nz x b) := by
 refine of8 (p := fun w => nz (IntKind.i64.wrap (an w x : Int)) b = (nz w b && nz x b)) (fun i => of8 (p := fun x => nz (IntKind.i64.wrap (an i.1 x : Int)) b = (nz i.1 b && nz x b)) (fun j => ?_) hx) hw
 rcases hb with rfl | rfl | rfl
 ·exact (and_all i j).1
 ·exact (and_all i j).2.1
 ·exact (and_all i j).2.2
theorem orfold_8 : ∀ (l : List GEntry) (b : Int), (∀ x ∈ l, textOK x = true) → (0 ≤ b ∧ b ≤ 7) → 0 ≤ l.foldl orK b ∧ l.foldl orK b ≤ 7
 | [], b, _, hb => hb
 | x :: l, b, h, hb => by
  rw [List.foldl_cons]
  refine orfold_8 l _ (fun y hy => h y (List.mem_cons_of_mem _ hy)) ?_
  unfold orK
  split
  ·exact hb
  ·exact or2_8 hb (textOK_iff (h x (List.mem_cons_self ..))).2.1
theorem allE_text {es : List GEntry} (h : ∀ x ∈ es, textOK x = true) : ∀ x ∈ allE es, textOK x = true := by
 have hm : ∀ d, ∀ x ∈ maskE d (fl d es), textOK x = true := fun d x hx => by
  unfold maskE at hx
  split at hx
  ·cases hx
  ·rw [List.mem_singleton.1 hx]
   obtain ⟨h1, h2⟩ := orfold_8 (fl d es) 0 (fun y hy => h y (mem_fl.1 hy).1) (by decide)
   unfold textOK namedE
   dsimp only
   rw [decide_eq_true h1, decide_eq_true h2]
   rfl
 intro x hx
 rcases List.mem_append.1 ((allE_perm es).mem_iff.1 hx) with h1 | h1
 ·exact h x h1
 ·rcases List.mem_append.1 h1 with h1 | h1
  ·exact hm false x h1
  ·split at h1
   ·cases h1
   ·exact hm true x h1
/-! ### who is found -/
theorem fold_find {α : Type} {p : α → Bool} (g : α → Int) : ∀ (l : List α) (v : Int), (l.Pairwise fun x y => ¬ (p x = true ∧ p y = true)) → l.foldl (fun v x => if p x then g x else v) v = match l.find? p with | some x => g x | none => v
 | [], v, _ => rfl
 | x :: l, v, h => by
  obtain ⟨h1, h2⟩ := List.pairwise_cons.1 h
  rw [List.foldl_cons, fold_find g l _ h2, List.find?_cons]
  cases hp : p x with
  | false => rfl
  | true =>
   have : l.find? p = none := List.find?_eq_none.2 fun y hy e => h1 y hy ⟨hp, e⟩
   rw [this]
   rfl
theorem find_one {A : List GEntry} {k : Int} {nm : ByteArray} {p : GEntry → Bool} (hs : SSE A) (hp : ∀ x ∈ A, p x = keyE false k nm x) (v : Int) : A.foldl (fun v x => if p x then x.bits else v) v = match A.find? (keyE false k nm) with | some x => x.bits | none => v := by
 have hw : A.Pairwise fun x y => ¬ (p x = true ∧ p y = true) := by
  refine List.Pairwise.imp_of_mem (fun {x y} hx hy h => ?_) hs
  rintro ⟨a, b⟩
  rw [hp x hx] at a
  rw [hp y hy] at b
  unfold keyE at a b
  simp only [Bool.and_eq_true, beq_iff_eq, decide_eq_true_eq] at a b
  have := cfE_zero.2 ⟨a.1.trans b.1.symm, a.2.1.trans b.2.1.symm, a.2.2.trans b.2.2.symm⟩
  omega
 rw [fold_find _ A v hw]
 have e : A.find? p = A.find? (keyE false k nm) := by
  clear hw hs v
  induction A with
  | nil => rfl
  | cons x A ih =>
   rw [List.find?_cons, List.find?_cons, hp x (List.mem_cons_self ..), ih fun y hy => hp y (List.mem_cons_of_mem _ hy)]
 rw [e]
 cases A.find? (keyE false k nm) <;> rfl
/-! ### the loop -/
abbrev StC := Int × Int × Int × Int × Bool × Int
def isO (x : GEntry) : Bool := !x.default && x.kind == 1
def isN (u : ByteArray) (x : GEntry) : Bool := !x.default && (x.kind == 2 && decide (x.name = u))
def isMk (x : GEntry) : Bool := !x.default && x.kind == 5
def isOt (x : GEntry) : Bool := !x.default && !(x.kind == 1 || x.kind == 2 || x.kind == 3 || x.kind == 4 || x.kind == 5)
def stepC (l : List GFile) (u : ByteArray) (f : GFile) (s : StC) (x : GEntry) : StC :=
 (if isO x then x.bits else s.1, if isOt x then x.bits else s.2.1, if isMk x then x.bits else s.2.2.1, if isN u x then x.bits else s.2.2.2.1, s.2.2.2.2.1 || grpE l u f x, if grpE l u f x then or2 s.2.2.2.2.2 x.bits else s.2.2.2.2.2)
theorem inside2 {n : Nat} {l : List GFile} {u : ByteArray} {i : Nat} {f : GFile} (hf : l[i]? = some f) (hu : f.users.length < 1000000) : ∀ (c k : Nat), k ≤ f.users.length → f.users.length - k < c → ref17_inside_L2 n l u (i : Int) c (k : Int) = some (if (f.users.drop k).any (fun x => decide (u = x)) then .inr true else .inl ())
 | 0, _, _, h => by omega
 | c + 1, k, hk, hc => by
  obtain ⟨h1, h2⟩ := List.getElem?_eq_some_iff.1 hf
  rw [ref17_inside_L2, idxS h1, h2, Zo]
  by_cases h : k < f.users.length
  ·rw [dlt h, if_pos rfl, idxS h, Zo, beqS, wr1 (by omega), inside2 hf hu c (k + 1) (by omega) (by omega), List.drop_eq_getElem_cons h, List.any_cons]
   by_cases e : f.users[k] = u
   ·rw [decide_eq_true e, decide_eq_true e.symm]
    simp
   ·rw [decide_eq_false e, decide_eq_false fun e2 => e e2.symm]
    simp
  ·rw [dnlt (by omega), if_neg (by decide), List.drop_eq_nil_of_le (by omega)]
   rfl
theorem inside1 {n : Nat} {l : List GFile} {u g : ByteArray} (hl : l.length < 1000000) (hn : 10000 ≤ n) (hu : ∀ f ∈ l, f.users.length ≤ 6000) : ∀ (c i : Nat), i ≤ l.length → l.length - i < c → ref17_inside_L1 n l u g c (i : Int) = some (if (l.drop i).any (inG u g) then .inr true else .inl ())
 | 0, _, _, h => by omega
 | c + 1, i, hi, hc => by
  rw [ref17_inside_L1]
  by_cases h : i < l.length
  ·have hf : l[i]? = some l[i] := List.getElem?_eq_getElem h
   have hm := hu _ (List.getElem_mem h)
   have e2 : ref17_inside_L2 n l u (i : Int) n 0 = _ := inside2 (n := n) (u := u) hf (by omega) n 0 (by omega) (by omega)
   rw [dlt h, if_pos rfl, idxS h, Zo, beqS, e2, List.drop_zero, wr1 (by omega), inside1 hl hn hu c (i + 1) (by omega) (by omega), List.drop_eq_getElem_cons h, List.any_cons]
   unfold inG
   rw [bne]
   cases (l[i].kind == 2) <;> cases decide (l[i].name = g) <;> cases (l[i].users.any fun x => decide (u = x)) <;> simp
  ·rw [dnlt (by omega), if_neg (by decide), List.drop_eq_nil_of_le (by omega)]
   rfl
theorem inside_some {l : List GFile} {u g : ByteArray} (hl : l.length ≤ 20000) (hu : ∀ f ∈ l, f.users.length ≤ 6000) : ref17_inside NF l u g = some (l.any (inG u g)) := by
 unfold ref17_inside
 have h : ref17_inside_L1 NF l u g NF 0 = _ := inside1 (n := NF) (by omega) (by decide) hu NF 0 (by omega) (show _ < 30000 by omega)
 rw [h, List.drop_zero, Zo]
 cases l.any (inG u g) <;> rfl
theorem can_loop {l : List GFile} {u : ByteArray} {f : GFile} {A : List GEntry} (hl : l.length ≤ 20000) (hu : ∀ f ∈ l, f.users.length ≤ 6000) (hA : A.length < 1000000) (ht : ∀ x ∈ A, textOK x = true) : ∀ (c i : Nat) (s : StC), i ≤ A.length → A.length - i < c → ref17_Can_L1 NF l u (f, true) (A, true) c (s.1, s.2.1, s.2.2.1, s.2.2.2.1, s.2.2.2.2.1, s.2.2.2.2.2, (i : Int)) = some ((A.drop i).foldl (stepC l u f) s)
 | 0, _, _, _, h => by omega
 | c + 1, i, s, hi, hc => by
  rw [ref17_Can_L1]
  dsimp only
  by_cases h : i < A.length
  ·have ih := fun s => can_loop (u := u) (f := f) hl hu hA ht c (i + 1) s (by omega) (by omega)
   have hx := (textOK_iff (ht _ (List.getElem_mem h))).1
   rw [dlt h, if_pos rfl, idxS h, Zo, beqS, inside_some hl hu, inside_some hl hu, Zo, Zo, wr1 (by omega), List.drop_eq_getElem_cons h, List.foldl_cons, ← ih]
   generalize A[i] = x at hx
   obtain ⟨own, oth, mk, nm, gp, gs⟩ := s
   unfold stepC isO isN isMk isOt grpE
   dsimp only
   have hk : x.kind = 1 ∨ x.kind = 2 ∨ x.kind = 3 ∨ x.kind = 4 ∨ x.kind = 5 ∨ x.kind = 6 := by omega
   generalize decide (x.name = u) = e1
   generalize l.any (inG u f.group) = e2
   generalize l.any (inG u x.name) = e3
   cases x.default
   ·rcases hk with k | k | k | k | k | k <;> rw [k]
    ·cases gp <;> rfl
    ·cases e1 <;> cases gp <;> rfl
    ·cases e2 <;> cases gp <;> rfl
    ·cases e3 <;> cases gp <;> rfl
    ·cases gp <;> rfl
    ·cases gp <;> rfl
   ·cases gp <;> rfl
  ·rw [dnlt (by omega), if_neg (by decide), List.drop_eq_nil_of_le (by omega)]
   rfl
theorem steps_at (l : List GFile) (u : ByteArray) (f : GFile) : ∀ (A : List GEntry) (s : StC), A.foldl (stepC l u f) s = (A.foldl (fun v x => if isO x then x.bits else v) s.1, A.foldl (fun v x => if isOt x then x.bits else v) s.2.1, A.foldl (fun v x => if isMk x then x.bits else v) s.2.2.1, A.foldl (fun v x => if isN u x then x.bits else v) s.2.2.2.1, s.2.2.2.2.1 || A.any (grpE l u f), (A.filter (grpE l u f)).foldl (fun v x => or2 v x.bits) s.2.2.2.2.2)
 | [], s => by simp
 | x :: A, s => by
  rw [List.foldl_cons, steps_at l u f A, List.filter_cons, List.any_cons]
  unfold stepC
  dsimp only
  rw [List.foldl_cons, List.foldl_cons, List.foldl_cons, List.foldl_cons, Bool.or_assoc]
  cases grpE l u f x <;> rfl
theorem grps_nz {b : Int} (hb : b = 1 ∨ b = 2 ∨ b = 4) : ∀ (g : List GEntry) (v : Int), (∀ x ∈ g, textOK x = true) → (0 ≤ v ∧ v ≤ 7) → (0 ≤ g.foldl (fun v x => or2 v x.bits) v ∧ g.foldl (fun v x => or2 v x.bits) v ≤ 7) ∧ nz (g.foldl (fun v x => or2 v x.bits) v) b = (nz v b || g.any fun x => bitOn x.bits b)
 | [], v, _, hv => ⟨hv, by simp⟩
 | x :: g, v, h, hv => by
  have hx := (textOK_iff (h x (List.mem_cons_self ..))).2.1
  obtain ⟨h1, h2⟩ := grps_nz hb g (or2 v x.bits) (fun y hy => h y (List.mem_cons_of_mem _ hy)) (or2_8 hv hx)
  refine ⟨h1, ?_⟩
  rw [List.foldl_cons, h2, or_ok hv hx hb, List.any_cons, bit_nz hx hb, Bool.or_assoc]
/-! ### files -/
def findF (l : List GFile) (p : ByteArray) : GFile × Bool := match l.find? (fun f => itemB f && decide (f.name = p)) with
 | some f => (f, true)
 | none => (⟨0, ByteArray.empty, [], ByteArray.empty, ByteArray.empty, [], 0⟩, false)
theorem pfile_loop {n : Nat} {l : List GFile} {p : ByteArray} (hl : l.length < 1000000) (hk : ∀ f ∈ l, f.kind ≤ 4) : ∀ (c i : Nat), i ≤ l.length → l.length - i < c → perm_File_L1 n l p c (i : Int) = some (match (l.drop i).find? (fun f => itemB f && decide (f.name = p)) with | some f => .inr (f, true) | none => .inl ())
 | 0, _, _, h => by omega
 | c + 1, i, hi, hc => by
  rw [perm_File_L1]
  by_cases h : i < l.length
  ·have hm := hk _ (List.getElem_mem h)
   have e : mask_IsFile n l[i] = some (itemB l[i]) := by
    unfold mask_IsFile itemB
    generalize l[i].kind = k at hm
    by_cases h3 : k = 3
    ·subst h3; rfl
    ·rw [show (k == 3) = false from beq_eq_false_iff_ne.2 h3, if_neg (by decide)]
     congr 1
     rw [Bool.eq_iff_iff, beq_iff_eq, decide_eq_true_eq]
     omega
   rw [dlt h, if_pos rfl, idxS h, Zo, e, Zo, beqS, wr1 (by omega), pfile_loop hl hk c (i + 1) (by omega) (by omega), List.drop_eq_getElem_cons h, List.find?_cons]
   cases itemB l[i] <;> cases decide (l[i].name = p) <;> rfl
  ·rw [dnlt (by omega), if_neg (by decide), List.drop_eq_nil_of_le (by omega)]
   rfl
theorem pfile_some {n : Nat} {l : List GFile} {p : ByteArray} (hl : l.length < 1000000) (hn : l.length < n) (hk : ∀ f ∈ l, f.kind ≤ 4) : perm_File n l p = some (findF l p) := by
 unfold perm_File findF
 have h : perm_File_L1 n l p n 0 = _ := pfile_loop hl hk n 0 (by omega) (by omega)
 rw [h, List.drop_zero, Zo]
 cases l.find? (fun f => itemB f && decide (f.name = p)) <;> rfl
theorem rfind_loop {n : Nat} {l : List GFile} {p : ByteArray} (hl : l.length < 1000000) : ∀ (c i : Nat), i ≤ l.length → l.length - i < c → ref17_find_L1 n l p c (i : Int) = some (match (l.drop i).find? (fun f => itemB f && decide (f.name = p)) with | some f => .inr (f, true) | none => .inl ())
 | 0, _, _, h => by omega
 | c + 1, i, hi, hc => by
  rw [ref17_find_L1]
  by_cases h : i < l.length
  ·rw [dlt h, if_pos rfl, idxS h, Zo, show ref17_item n l[i] = some (itemB l[i]) from rfl, Zo, beqS, wr1 (by omega), rfind_loop hl c (i + 1) (by omega) (by omega), List.drop_eq_getElem_cons h, List.find?_cons]
   cases itemB l[i] <;> cases decide (l[i].name = p) <;> rfl
  ·rw [dnlt (by omega), if_neg (by decide), List.drop_eq_nil_of_le (by omega)]
   rfl
theorem rfind_some {n : Nat} {l : List GFile} {p : ByteArray} (hl : l.length < 1000000) (hn : l.length < n) : ref17_find n l p = some (findF l p) := by
 unfold ref17_find findF
 have h : ref17_find_L1 n l p n 0 = _ := rfind_loop hl n 0 (by omega) (by omega)
 rw [h, List.drop_zero, Zo]
 cases l.find? (fun f => itemB f && decide (f.name = p)) <;> rfl
theorem findF_mem {l : List GFile} {p : ByteArray} (h : (findF l p).2 = true) : (findF l p).1 ∈ l ∧ itemB (findF l p).1 = true ∧ (findF l p).1.name = p := by
 unfold findF at *
 cases e : l.find? (fun f => itemB f && decide (f.name = p)) with
 | none => rw [e] at h; cases h
 | some f =>
  have h2 := List.find?_some e
  simp only [Bool.and_eq_true, decide_eq_true_eq] at h2
  exact ⟨List.mem_of_find?_eq_some e, h2.1, h2.2⟩
/-! ### what one may -/
def bitB (b : Int) : Bool := b == 4 || b == 2 || b == 1
def sayE (l : List GFile) (u : ByteArray) (f : GFile) (b : Int) : Bool :=
 let A := allE f.acl
 let m := bitOn (findE A false 5 { data := #[] }).1.bits b
 if decide (f.owner = u) then bitOn (findE A false 1 { data := #[] }).1.bits b
 else if (findE A false 2 u).2 then m && bitOn (findE A false 2 u).1.bits b
 else if A.any (grpE l u f) then m && (A.filter (grpE l u f)).any fun x => bitOn x.bits b
 else bitOn (findE A false 6 { data := #[] }).1.bits b
def canB (l : List GFile) (u p : ByteArray) (b : Int) : Bool := (findF l p).2 && (toldB l 1 u && (bitB b && sayE l u (findF l p).1 b))
theorem oke_item {l : List GFile} (hg : GoodL l) {f : GFile} (hf : f ∈ l) (hi : itemB f = true) : OKE f.acl = true := by
 have := hg.2.items f hf
 unfold okItem at this
 rw [hi] at this
 simp only [Bool.not_true, Bool.false_or, Bool.and_eq_true] at this
 exact this.1
theorem any_filter {α : Type} (p : α → Bool) : ∀ l : List α, decide (0 < (l.filter p).length) = l.any p
 | [] => rfl
 | x :: l => by
  rw [List.filter_cons, List.any_cons]
  cases p x with
  | true => simp
  | false => rw [if_neg (by decide), Bool.false_or, any_filter p l]
theorem can_both {l : List GFile} (hg : GoodL l) (hl : l.length ≤ 20000) (u p : ByteArray) (b : Int) : perm_Can NF l u p b = some (canB l u p b) ∧ ref17_Can NF l u p b = some (canB l u p b) := by
 have hNF : NF = 30000 := rfl
 have hu : ∀ f ∈ l, f.users.length ≤ 6000 := fun f hf => (hg.1 f hf).2.2.2.2.1
 have hu2 : ∀ f ∈ l, f.users.length < NF ∧ f.users.length < 4611686018427387904 := fun f hf => by have := hu f hf; omega
 have hbits : ((if (b != 4) then (if (b != 2) then some (b != 1) else some false) else some false) : Option Bool) = some (!bitB b) := by
  unfold bitB
  rw [bne, bne, bne]
  cases (b == 4) <;> cases (b == 2) <;> cases (b == 1) <;> rfl
 unfold perm_Can ref17_Can canB
 rw [pfile_some (by omega) (by omega) (fun f hf => (hg.1 f hf).1.2), rfind_some (by omega) (by omega), Zo, Zo, isUser_some (by omega) (by omega), told_some (by omega) (by omega), Zo, Zo, hbits]
 rw [show (l.any fun f => (f.kind == 1) && decide (f.name = u)) = toldB l 1 u from rfl]
 cases h1 : (findF l p).2 with
 | false => exact ⟨rfl, rfl⟩
 | true =>
  rw [if_pos rfl]
  cases toldB l 1 u with
  | false => exact ⟨rfl, rfl⟩
  | true =>
   rw [if_pos rfl, Zo, Zo]
   cases hb : bitB b with
   | false => exact ⟨rfl, rfl⟩
   | true =>
    have hb3 : b = 1 ∨ b = 2 ∨ b = 4 := by
     unfold bitB at hb
     simp only [Bool.or_eq_true, beq_iff_eq] at hb
     omega
    obtain ⟨m1, m2, m3⟩ := findF_mem h1
    generalize hF : (findF l p).1 = f at m1 m2 m3
    have hpair : findF l p = (f, true) := Prod.ext hF h1
    have hok := oke_item hg m1 m2
    obtain ⟨ht, a0, w0, a1, w1, hlen⟩ := oke_iff hok
    have hsz := (hg.1 f m1).siz
    rw [Bool.not_true, if_neg (show ¬ false = true by decide), if_neg (show ¬ false = true by decide), acl18_some hok (by omega), aclNF hsz.1 hsz.2.2, hok, if_pos rfl, Zo, Zo, hpair]
    have hSS := allE_SS a0 a1
    have hAt := allE_text ht
    unfold sayE
    dsimp only
    generalize allE f.acl = A at hSS hAt hlen
    rw [Bool.true_and, Bool.true_and, Bool.true_and]
    have hgrp := groups_some (n := NF) (l := l) u f (by omega) (by omega) hu2 (a := A) (by omega) (by omega)
    have hL : ref17_Can_L1 NF l u (f, true) (A, true) NF (0, 0, 0, (-1), false, 0, 0) = _ := can_loop (f := f) hl hu (A := A) (by omega) hAt NF 0 (0, 0, 0, -1, false, 0) (by omega) (by omega)
    have hr : ∀ {d : Bool} {k : Int} {nm : ByteArray}, 0 ≤ (findE A d k nm).1.bits ∧ (findE A d k nm).1.bits ≤ 7 := by
     intro d k nm
     unfold findE
     cases e : A.find? (keyE d k nm) with
     | none => exact ⟨by decide, by decide⟩
     | some x => exact (textOK_iff (hAt x (List.mem_of_find?_eq_some e))).2.1
    -- the four that are looked for
    have k1 : ∀ x ∈ A, isO x = keyE false 1 { data := #[] } x := fun x hx => by
     unfold isO keyE
     cases x.default <;> cases hk : (x.kind == 1) <;> simp
     exact plain_name (hAt x hx) (eq_of_beq hk) (by decide) (by decide)
    have k5 : ∀ x ∈ A, isMk x = keyE false 5 { data := #[] } x := fun x hx => by
     unfold isMk keyE
     cases x.default <;> cases hk : (x.kind == 5) <;> simp
     exact plain_name (hAt x hx) (eq_of_beq hk) (by decide) (by decide)
    have k2 : ∀ x ∈ A, isN u x = keyE false 2 u x := fun x hx => by
     unfold isN keyE
     cases x.default <;> cases (x.kind == 2) <;> simp
    have k6 : ∀ x ∈ A, isOt x = keyE false 6 { data := #[] } x := fun x hx => by
     have hk := (textOK_iff (hAt x hx)).1
     have hn := plain_name (k := 6) (hAt x hx)
     unfold isOt keyE
     have : x.kind = 1 ∨ x.kind = 2 ∨ x.kind = 3 ∨ x.kind = 4 ∨ x.kind = 5 ∨ x.kind = 6 := by omega
     rcases this with k | k | k | k | k | k
     ·rw [k]; cases x.default <;> rfl
     ·rw [k]; cases x.default <;> rfl
     ·rw [k]; cases x.default <;> rfl
     ·rw [k]; cases x.default <;> rfl
     ·rw [k]; cases x.default <;> rfl
     ·rw [hn k (by decide) (by decide), k]; cases x.default <;> rfl
    have fb : ∀ {k : Int} {nm : ByteArray}, (match A.find? (keyE false k nm) with | some x => x.bits | none => (0 : Int)) = (findE A false k nm).1.bits := by
     intro k nm
     unfold findE
     cases A.find? (keyE false k nm) <;> rfl
    rw [hL, List.drop_zero, steps_at, Zo, beqS, beqS, c1_some (by omega) (by omega), c1_some (by omega) (by omega), c1_some (by omega) (by omega), Zo, Zo, Zo, find_some (by omega) (by omega), Zo, hgrp, Zo]
    dsimp only
    rw [find_one hSS k1, find_one hSS k6, find_one hSS k5, find_one hSS k2, fb, fb, fb, Bool.false_or]
    rw [show decide (u = f.owner) = decide (f.owner = u) by rw [decide_eq_decide]; exact eq_comm]
    have e0 : decide (0 < ((A.filter (grpE l u f)).length : Int)) = A.any (grpE l u f) := by
     rw [← any_filter]
     rw [decide_eq_decide]
     omega
    have hga := any_some (n := NF) (l := A.filter (grpE l u f)) (b := b) (by have := List.length_filter_le (grpE l u f) A; omega) (by have := List.length_filter_le (grpE l u f) A; omega)
    rw [e0, hga]
    have hgt : ∀ x ∈ A.filter (grpE l u f), textOK x = true := fun x hx => hAt x ((List.mem_filter.1 hx).1)
    obtain ⟨g1, g2⟩ := grps_nz hb3 (A.filter (grpE l u f)) 0 hgt (by decide)
    rw [show nz 0 b = false by rcases hb3 with rfl | rfl | rfl <;> rfl, Bool.false_or] at g2
    cases decide (f.owner = u) with
    | true =>
     refine ⟨rfl, ?_⟩
     rw [if_pos rfl, if_pos rfl, bit_nz hr hb3]
     rfl
    | false =>
     rw [if_neg (show ¬ false = true by decide), if_neg (show ¬ false = true by decide), if_neg (show ¬ false = true by decide)]
     cases hf2 : A.find? (keyE false 2 u) with
     | some x =>
      have hx := textOK_iff (hAt x (List.mem_of_find?_eq_some hf2))
      have e2 : findE A false 2 u = (x, true) := by
       unfold findE
       rw [hf2]
      rw [e2, if_pos rfl, if_pos rfl]
      dsimp only
      rw [show decide (0 ≤ x.bits) = true from decide_eq_true hx.2.1.1, if_pos rfl]
      refine ⟨?_, ?_⟩
      ·cases bitOn (findE A false 5 { data := #[] }).1.bits b <;> rfl
      ·show some (nz (IntKind.i64.wrap (an x.bits (findE A false 5 { data := #[] }).1.bits : Int)) b) = _
       rw [and_ok hx.2.1 hr hb3, bit_nz hr hb3, bit_nz hx.2.1 hb3, Bool.and_comm]
     | none =>
      have e2 : (findE A false 2 u).2 = false := by
       unfold findE
       rw [hf2]
      rw [e2, if_neg (show ¬ false = true by decide), if_neg (show ¬ false = true by decide)]
      dsimp only
      rw [show decide (0 ≤ (-1 : Int)) = false from rfl, if_neg (show ¬ false = true by decide)]
      cases A.any (grpE l u f) with
      | true =>
       rw [if_pos rfl, if_pos rfl, if_pos rfl]
       refine ⟨?_, ?_⟩
       ·cases bitOn (findE A false 5 { data := #[] }).1.bits b <;> rfl
       ·show some (nz (IntKind.i64.wrap (an ((A.filter (grpE l u f)).foldl (fun v x => or2 v x.bits) 0) (findE A false 5 { data := #[] }).1.bits : Int)) b) = _
        rw [and_ok g1 hr hb3, g2, bit_nz hr hb3, Bool.and_comm]
      | false =>
       refine ⟨rfl, ?_⟩
       rw [if_neg (show ¬ false = true by decide), if_neg (show ¬ false = true by decide), bit_nz hr hb3]
       rfl
end Go.Proofs.YtgmhbmcdlkajdaaGreatDoor.Ab

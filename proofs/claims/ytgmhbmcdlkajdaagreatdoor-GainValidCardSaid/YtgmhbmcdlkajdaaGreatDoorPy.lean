/-
 Paths: what both say of a text's parts, and of a path's parent. No program in sight.
-/
import Derived.Test.YtgmhbmcdlkajdaaGreatDoorPte
import Derived.Test.YtgmhbmcdlkajdaaGreatDoorBb
namespace Go.Proofs.YtgmhbmcdlkajdaaGreatDoor.Ab
open Go.RowKit
def cutL (c : UInt8) : List UInt8 → List (List UInt8)
 | [] => [[]]
 | b :: l => if b = c then [] :: cutL c l else match cutL c l with
  | p :: ps => (b :: p) :: ps
  | [] => [[b]]
theorem cutL_cons (c b : UInt8) (l : List UInt8) : cutL c (b :: l) = if b = c then [] :: cutL c l else match cutL c l with
  | p :: ps => (b :: p) :: ps
  | [] => [[b]] := rfl
theorem cutL_ne (c : UInt8) : ∀ l, ∃ p ps, cutL c l = p :: ps
 | [] => ⟨[], [], rfl⟩
 | b :: l => by
  obtain ⟨p, ps, e⟩ := cutL_ne c l
  unfold cutL
  rw [e]
  split
  ·exact ⟨_, _, rfl⟩
  ·exact ⟨_, _, rfl⟩
theorem cutL_no {c : UInt8} : ∀ {p : List UInt8}, c ∉ p → cutL c p = [p]
 | [], _ => rfl
 | b :: p, h => by
  have h1 : ¬ b = c := fun e => h (by simp [e])
  have ih := cutL_no (c := c) (p := p) fun hm => h (List.mem_cons_of_mem _ hm)
  unfold cutL
  rw [if_neg h1, ih]
theorem cutL_app (c : UInt8) (r : List UInt8) : ∀ l : List UInt8, cutL c (l ++ c :: r) = cutL c l ++ cutL c r
 | [] => by simp [cutL]
 | b :: l => by
  have ih := cutL_app c r l
  obtain ⟨p, ps, e⟩ := cutL_ne c l
  rw [List.cons_append, cutL_cons, cutL_cons, ih, e]
  split <;> rfl
theorem cutL_pre {c : UInt8} {p r : List UInt8} (h : c ∉ p) : cutL c (p ++ c :: r) = p :: cutL c r := by rw [cutL_app, cutL_no h]; rfl
theorem cutL_snoc (c : UInt8) (l : List UInt8) : [] ∈ cutL c (l ++ [c]) := by
 rw [cutL_app]
 simp [cutL]
theorem ib_none {c : UInt8} : ∀ {l : List UInt8}, Lib.indexByte l c = -1 → c ∉ l := fun {l} h hm => by
 obtain ⟨k, hk⟩ := List.getElem?_of_mem hm
 exact Lib.indexByte_none h k hk
theorem ib_some {c : UInt8} {l : List UInt8} {o : Nat} (h : Lib.indexByte l c = o) : o < l.length ∧ c ∉ l.take o ∧ l = l.take o ++ c :: l.drop (o + 1) := by
 obtain ⟨h1, h2⟩ := Lib.indexByte_some h
 have hl : o < l.length := (List.getElem?_eq_some_iff.1 h1).1
 refine ⟨hl, fun hm => ?_, ?_⟩
 ·obtain ⟨k, hk⟩ := List.getElem?_of_mem hm
  have hk2 : k < o := by
   have := (List.getElem?_eq_some_iff.1 hk).1
   rw [List.length_take] at this
   omega
  rw [List.getElem?_take_of_lt hk2] at hk
  exact h2 k hk2 hk
 ·have e : l[o] = c := (List.getElem?_eq_some_iff.1 h1).2
  rw [← e, ← List.drop_eq_getElem_cons hl, List.take_append_drop]
theorem ib_cases (l : List UInt8) (c : UInt8) : Lib.indexByte l c = -1 ∨ ∃ o : Nat, Lib.indexByte l c = o := by
 have := Lib.indexByte_ge l c
 by_cases h : Lib.indexByte l c = -1
 ·exact .inl h
 ·exact .inr ⟨(Lib.indexByte l c).toNat, by omega⟩
theorem splitK_cut (c : UInt8) : ∀ (m : Nat) (l : List UInt8), l.length ≤ m → Lib.splitK [c] 0 (Lib.count l [c]) l = cutL c l
 | m, l, hm => by
  rcases ib_cases l c with h | ⟨o, h⟩
  ·have hno := ib_none h
   rw [cutL_no hno, Lib.count_one, List.count_eq_zero_of_not_mem hno]
   rfl
  ·obtain ⟨h1, h2, h3⟩ := ib_some h
   have ec : Lib.count l [c] = Lib.count (l.drop (o + 1)) [c] + 1 := by
    rw [Lib.count_one, Lib.count_one]
    conv => lhs; rw [h3]
    rw [List.count_append, List.count_eq_zero_of_not_mem h2, List.count_cons_self]
    omega
   have hi : Lib.index l [c] = o := by rw [Lib.index_one, h]
   rw [ec]
   unfold Lib.splitK
   rw [hi, if_neg (by simp)]
   have e1 : ((o : Int).toNat + 0) = o := by omega
   have e2 : ((o : Int).toNat + [c].length) = o + 1 := by simp
   rw [e1, e2]
   match m with
   | 0 => omega
   | m + 1 =>
    rw [splitK_cut c m (l.drop (o + 1)) (by rw [List.length_drop]; omega)]
    conv => rhs; rw [h3]
    rw [cutL_pre h2]
theorem splitT_cut (c : UInt8) (s : ByteArray) : (splitT c s).map (·.data.toList) = cutL c s.data.toList := by
 unfold splitT
 rw [Lib.splitB_data]
 exact splitK_cut c _ _ (Nat.le_refl _)
def nameL (l : List UInt8) : Bool := decide (0 < l.length) && decide (l.length ≤ 30) && (match l.head? with | some x => firstB (x.toNat : Int) | none => false) && l.all fun x => plainB (x.toNat : Int)
theorem nameB_L (s : ByteArray) : nameB s = nameL s.data.toList := by
 unfold nameB nameL
 rw [bsize]
 rfl
theorem atomFirst_some (n : Nat) (c : Int) : atom_first n c = some (firstB c) := first_if c
theorem atomPlain_some (n : Nat) (c : Int) : atom_plain n c = some (plainB c) := by
 unfold atom_plain plainB
 rw [atomFirst_some, Zo]
 cases firstB c <;> cases c == 95 <;> cases c == 45 <;> simp
theorem atomName_some {n : Nat} (s : ByteArray) (h : s.size < n) (hs : s.size < 4611686018427387904) : atom_Name n s = some (nameB s) := by
 unfold atom_Name
 have hL : atom_Name_L1 n s n 0 = _ := all_loop (L := atom_Name_L1 n s) (s := s) plainB (fun c i x hx hi => by
  rw [atom_Name_L1, dlt hi, if_pos rfl, hx, Zo, atomPlain_some, Zo, wr1 (by omega)]) (fun c i hi => by rw [atom_Name_L1, dnlt hi, if_neg (by decide)]) n 0 (by omega) (by omega)
 rw [List.drop_zero] at hL
 exact name_eq (emptyB s) (fun c => atomFirst_some n c) hL
theorem alnum_some (n : Nat) (c : Int) : ref1_alnum n c = some (firstB c) := first_if c
theorem refName_some {n : Nat} (s : ByteArray) (h : s.size < n) (hs : s.size < 4611686018427387904) : ref1_Name n s = some (nameB s) := by
 unfold ref1_Name
 have hL : ref1_Name_L1 n s n 0 = _ := all_loop (L := ref1_Name_L1 n s) (s := s) plainB (fun c i x hx hi => by
  rw [ref1_Name_L1, dlt hi, if_pos rfl, hx, Zo, alnum_some, Zo, wr1 (by omega)]
  unfold plainB
  cases firstB (x.toNat : Int) <;> cases h1 : (x.toNat : Int) == 95 <;> cases h2 : (x.toNat : Int) == 45 <;> cases h3 : (x.toNat : Int) == 46 <;> simp [bne, h1, h2, h3]) (fun c i hi => by rw [ref1_Name_L1, dnlt hi, if_neg (by decide)]) n 0 (by omega) (by omega)
 rw [List.drop_zero] at hL
 refine Eq.trans ?_ (name_eq (s := s) (X := fun c => some (firstB c)) (b1 := decide (s.size = 0)) rfl (fun c => rfl) hL)
 rw [show decide ((s.size : Int) < 1) = decide (s.size = 0) by rw [decide_eq_decide]; omega]
 simp only [alnum_some]
 rfl
theorem find_loop {n : Nat} {s : ByteArray} {b : UInt8} (hs : s.size < 4611686018427387904) : ∀ (c k : Nat), k ≤ s.size → s.size - k < c → ref1_Find_L1 n s (b.toNat : Int) c (k : Int) = some (if Lib.indexByte (s.data.toList.drop k) b = -1 then .inl () else .inr ((k : Int) + Lib.indexByte (s.data.toList.drop k) b))
 | 0, _, _, h => by omega
 | c + 1, k, hk, hc => by
  rw [ref1_Find_L1]
  by_cases h : k < s.size
  ·have hb : k < s.data.toList.length := by rw [bsize]; exact h
   rw [dlt h, if_pos rfl, bidxS h, Zo, List.drop_eq_getElem_cons hb]
   have ih := find_loop (n := n) (b := b) hs c (k + 1) (by omega) (by omega)
   generalize s.data.toList[k] = x
   unfold Lib.indexByte
   have e0 : ((x.toNat : Int) == (b.toNat : Int)) = (x == b) := by
    rw [Bool.eq_iff_iff, beq_iff_eq, beq_iff_eq, ← UInt8.toNat_inj]
    omega
   rw [e0, wr1 (by omega), ih]
   have hge := Lib.indexByte_ge (s.data.toList.drop (k + 1)) b
   cases x == b with
   | true => simp
   | false =>
    simp only [Bool.false_eq_true, if_false]
    generalize Lib.indexByte (s.data.toList.drop (k + 1)) b = z at *
    by_cases hz : z = -1
    ·subst hz
     rfl
    ·have hz2 : (z == -1) = false := by simpa using hz
     rw [if_neg hz, hz2]
     simp only [Bool.false_eq_true, if_false]
     rw [if_neg (by omega)]
     congr 2
     omega
  ·rw [dnlt (by omega), if_neg (by decide), List.drop_eq_nil_of_le (by rw [bsize]; omega)]
   rfl
theorem find1_some {n : Nat} {s : ByteArray} {b : UInt8} {k : Nat} (hs : s.size < 4611686018427387904) (hk : k ≤ s.size) (hn : s.size < n) : ref1_Find n s (b.toNat : Int) (k : Int) = some (if Lib.indexByte (s.data.toList.drop k) b = -1 then -1 else (k : Int) + Lib.indexByte (s.data.toList.drop k) b) := by
 unfold ref1_Find
 rw [find_loop hs n k hk (by omega), Zo]
 by_cases h : Lib.indexByte (s.data.toList.drop k) b = -1
 ·rw [if_pos h, if_pos h]
 ·rw [if_neg h, if_neg h]
def pathL (l : List UInt8) : Bool := decide (l = [47]) || (decide (l.length ≤ 200) && decide (2 ≤ l.length) && decide (l.head? = some 47) && ((cutL 47 l.tail).all nameL && decide ((cutL 47 l.tail).length ≤ 20)))
theorem path_loop {n : Nat} {s : ByteArray} (hs : s.size < 1000000) (hn : s.size < n) : ∀ (c k m : Nat), k ≤ s.size + 1 → s.size + 1 - k < c → m ≤ k → ref17_Path_L1 n s c ((m : Int), (k : Int)) = some (if k = s.size + 1 then .inl (m : Int) else if (cutL 47 (s.data.toList.drop k)).all nameL then .inl ((m + (cutL 47 (s.data.toList.drop k)).length : Nat) : Int) else .inr false)
 | 0, _, _, _, h, _ => by omega
 | c + 1, k, m, hk, hc, hm => by
  rw [ref17_Path_L1]
  by_cases h : k ≤ s.size
  ·rw [show decide ((k : Int) ≤ (s.size : Int)) = true from decide_eq_true (by omega), if_pos rfl, if_neg (show ¬ k = s.size + 1 by omega)]
   have hf := find1_some (n := n) (b := 47) (show s.size < 4611686018427387904 by omega) h hn
   rw [show (((47 : UInt8).toNat : Nat) : Int) = 47 from rfl] at hf
   have hlen : (s.data.toList.drop k).length = s.size - k := by rw [List.length_drop, bsize]
   have key : ∀ (e : Nat), k ≤ e → e ≤ s.size → ∀ P : List (List UInt8), cutL 47 (s.data.toList.drop k) = (s.extract k e).data.toList :: P → (e = s.size → P = []) → (e < s.size → P = cutL 47 (s.data.toList.drop (e + 1))) → ((bslc s (k : Int) (e : Int)).bind fun s3 => (ref1_Name n s3).bind fun t => if t then ref17_Path_L1 n s c ((IntKind.i64.wrap ((m : Int) + 1)), (IntKind.i64.wrap ((e : Int) + 1))) else some (.inr false)) = some (if (cutL 47 (s.data.toList.drop k)).all nameL then .inl ((m + (cutL 47 (s.data.toList.drop k)).length : Nat) : Int) else .inr false) := by
    intro e h1 h2 P hP hP1 hP2
    have hsz : (s.extract k e).size = e - k := ext_size s h2
    rw [bslcS h1 h2, Zo, refName_some _ (by omega) (by omega), Zo, hP, List.all_cons, nameB_L, wr1 (by omega), wr1 (by omega)]
    cases nameL (s.extract k e).data.toList with
    | false => rfl
    | true =>
     rw [if_pos rfl, Bool.true_and, path_loop hs hn c (e + 1) (m + 1) (by omega) (by omega) (by omega)]
     by_cases h3 : e = s.size
     ·rw [if_pos (by omega), hP1 h3]
      rfl
     ·rw [if_neg (by omega), ← hP2 (by omega)]
      have : m + 1 + P.length = m + (P.length + 1) := by omega
      rw [this]
      rfl
   rcases ib_cases (s.data.toList.drop k) 47 with h1 | ⟨o, h1⟩
   ·rw [if_pos h1] at hf
    rw [hf, Zo, if_pos (show decide ((-1 : Int) < 0) = true from rfl), Zo]
    refine key s.size h (Nat.le_refl _) [] ?_ (fun _ => rfl) fun h => absurd h (Nat.lt_irrefl _)
    rw [cutL_no (ib_none h1), list_ext, ← bsize, List.take_length]
   ·obtain ⟨h2, h3, h4⟩ := ib_some h1
    rw [hlen] at h2
    rw [if_neg (by omega), h1, show (k : Int) + (o : Int) = ((k + o : Nat) : Int) by omega] at hf
    rw [hf, Zo, show decide (((k + o : Nat) : Int) < 0) = false from decide_eq_false (by omega), if_neg (by decide), Zo]
    refine key (k + o) (by omega) (by omega) (cutL 47 (s.data.toList.drop (k + o + 1))) ?_ (fun h => by omega) fun _ => rfl
    have e1 : (s.extract k (k + o)).data.toList = (s.data.toList.drop k).take o := by
     rw [list_ext, List.drop_take]
     congr 1
     omega
    have e2 : (s.data.toList.drop k).drop (o + 1) = s.data.toList.drop (k + o + 1) := by rw [List.drop_drop]; congr 1
    rw [e1, ← e2, ← cutL_pre h3, ← h4]
  ·rw [show decide ((k : Int) ≤ (s.size : Int)) = false from decide_eq_false (by omega), if_neg (by decide), if_pos (by omega)]
theorem eq47 (s : ByteArray) : (s.toList == ({ data := #[47] } : ByteArray).toList) = decide (s.data.toList = [47]) := by
 rw [Lib.toList_data, Lib.toList_data, Bool.eq_iff_iff, beq_iff_eq, decide_eq_true_eq]
theorem path_some {n : Nat} {s : ByteArray} (hs : s.size < 1000000) (hn : s.size + 1 < n) : ref17_Path n s = some (pathL s.data.toList) := by
 unfold ref17_Path pathL
 rw [eq47]
 by_cases h1 : s.data.toList = [47]
 ·rw [decide_eq_true h1]
  rfl
 ·rw [decide_eq_false h1, if_neg (by decide), Bool.false_or, bsize]
  by_cases h2 : s.size ≤ 200
  ·rw [show decide (200 < (s.size : Int)) = false from decide_eq_false (by omega), if_neg (by decide), decide_eq_true h2]
   by_cases h3 : 2 ≤ s.size
   ·rw [show decide ((s.size : Int) < 2) = false from decide_eq_false (by omega), if_neg (by decide), decide_eq_true h3]
    have hb : 0 < s.data.toList.length := by rw [bsize]; omega
    obtain ⟨x, r, hx⟩ : ∃ x r, s.data.toList = x :: r := by
     cases h : s.data.toList with
     | nil => rw [h] at hb; cases hb
     | cons x r => exact ⟨x, r, rfl⟩
    have hx0 : s.data.toList[0] = x := by simp [hx]
    have hr : r.length + 1 = s.size := by rw [← bsize, hx]; rfl
    rw [show bidx s 0 = some (x.toNat : Int) by rw [← hx0]; exact bidxS (k := 0) (by omega), Zo, Zo]
    have e0 : ((x.toNat : Int) != 47) = !decide (s.data.toList.head? = some 47) := by
     rw [hx, List.head?_cons, bne]
     congr 1
     rw [Bool.eq_iff_iff, beq_iff_eq, decide_eq_true_eq, Option.some.injEq, ← UInt8.toNat_inj]
     show _ ↔ x.toNat = 47
     omega
    rw [e0]
    cases hh : decide (s.data.toList.head? = some 47) with
    | false => simp
    | true =>
     rw [Bool.not_true, if_neg (by decide), show ((0 : Int), (1 : Int)) = (((0 : Nat) : Int), ((1 : Nat) : Int)) from rfl, path_loop hs (by omega) n 1 0 (by omega) (by omega) (by omega), if_neg (by omega), hx]
     rw [show (x :: r).drop 1 = r from rfl, show (x :: r).tail = r from rfl]
     cases ha : (cutL 47 r).all nameL with
     | false => rfl
     | true =>
      rw [if_pos rfl, Zo]
      dsimp only
      rw [Nat.zero_add]
      by_cases h4 : (cutL 47 r).length ≤ 20
      ·rw [show decide (((cutL 47 r).length : Int) ≤ 20) = true from decide_eq_true (by omega), if_pos rfl, decide_eq_true h4, wr (by omega) (by omega), show ((s.size : Int) - 1) = ((s.size - 1 : Nat) : Int) by omega, bidxS (by omega), Zo]
       have hl : s.size - 1 < s.data.toList.length := by rw [bsize]; omega
       have hne : s.data.toList[s.size - 1] ≠ 47 := by
        intro e
        have hrn : r ≠ [] := fun e => by rw [e] at hr; simp at hr; omega
        have e2 : r.getLast hrn = 47 := by
         have e3 : s.data.toList[s.size - 1] = r.getLast hrn := by
          rw [List.getLast_eq_getElem]
          simp only [hx]
          rw [List.getElem_cons]
          rw [dif_neg (by omega)]
          congr 1
          omega
         rw [← e3, e]
        have hm := cutL_snoc 47 r.dropLast
        rw [← e2, List.dropLast_concat_getLast hrn, e2] at hm
        have := List.all_eq_true.1 ha [] hm
        cases this
       have : ((s.data.toList[s.size - 1].toNat : Int) != 47) = true := by
        rw [bne_iff_ne]
        intro e
        apply hne
        rw [← UInt8.toNat_inj]
        show _ = 47
        omega
       rw [this]
       rfl
      ·rw [show decide (((cutL 47 r).length : Int) ≤ 20) = false from decide_eq_false (by omega), if_neg (by decide), decide_eq_false h4]
       rfl
   ·rw [show decide ((s.size : Int) < 2) = true from decide_eq_true (by omega), if_pos rfl, decide_eq_false h3]
    rfl
  ·rw [show decide (200 < (s.size : Int)) = true from decide_eq_true (by omega), if_pos rfl, decide_eq_false h2]
   rfl
theorem aclsPath_some {n : Nat} {s : ByteArray} (hp : pathL s.data.toList = true) (hn : 1000 < n) : acls_Path n s = some true := by
 unfold acls_Path
 rw [eq47]
 by_cases h1 : s.data.toList = [47]
 ·rw [decide_eq_true h1]
  rfl
 ·rw [decide_eq_false h1, if_neg (by decide)]
  unfold pathL at hp
  rw [decide_eq_false h1, Bool.false_or, Bool.and_eq_true, Bool.and_eq_true, Bool.and_eq_true, Bool.and_eq_true] at hp
  obtain ⟨⟨⟨h2, h3⟩, h4⟩, h5, h6⟩ := hp
  have h2 := of_decide_eq_true h2
  have h3 := of_decide_eq_true h3
  have h4 := of_decide_eq_true h4
  have h6 := of_decide_eq_true h6
  rw [bsize] at h2 h3
  obtain ⟨r, hx⟩ : ∃ r, s.data.toList = 47 :: r := by
   cases h : s.data.toList with
   | nil => rw [h] at h4; cases h4
   | cons x r => rw [h, List.head?_cons] at h4; cases h4; exact ⟨r, rfl⟩
  rw [hx, List.tail_cons] at h5 h6
  have hsp : strings_Split n s { data := #[47] } = some (splitT 47 s) := by
   unfold strings_Split strings_genSplit
   rw [show one { data := #[47] } = some 47 from rfl]
   dsimp only
   rw [show decide (s.size < 4294967281) = true from decide_eq_true (by omega)]
   rfl
  have hc := splitT_cut 47 s
  rw [hx, show cutL 47 (47 :: r) = [] :: cutL 47 r by rw [cutL_cons, if_pos rfl]] at hc
  rw [hsp, Zo]
  generalize splitT 47 s = ps at hc
  obtain ⟨p, qs, rfl⟩ : ∃ p qs, ps = p :: qs := by
   cases ps with
   | nil => cases hc
   | cons p qs => exact ⟨p, qs, rfl⟩
  rw [List.map_cons] at hc
  obtain ⟨e1, e2⟩ := List.cons.inj hc
  have hl : qs.length = (cutL 47 r).length := by rw [← e2, List.length_map]
  have hq : 0 < qs.length := by
   obtain ⟨a, b, e⟩ := cutL_ne 47 r
   rw [hl, e]
   simp
  have hname : ∀ q ∈ qs, nameB q = true := fun q hq => by
   rw [nameB_L]
   exact List.all_eq_true.1 h5 _ (e2 ▸ List.mem_map_of_mem hq)
  have hpe : (p.toList == ({ data := #[] } : ByteArray).toList) = true := by
   rw [emptyB, decide_eq_true_eq, ← bsize, e1]
   rfl
  rw [show decide (200 < (s.size : Int)) = false from decide_eq_false (by omega), if_neg (by decide), show decide (((p :: qs).length : Int) < 2) = false from decide_eq_false (by simp; omega), if_neg (by decide), show decide (21 < ((p :: qs).length : Int)) = false from decide_eq_false (by simp; omega), if_neg (by decide),
   show idx (p :: qs) 0 = some p from rfl, Zo, hpe, if_pos rfl, show slc (p :: qs) 1 ((p :: qs).length : Int) = some qs by
    have := slcS (xs := p :: qs) (a := 1) (b := (p :: qs).length) (by simp) (Nat.le_refl _)
    rw [List.take_length] at this
    exact this, Zo]
  obtain ⟨r2, e, h⟩ := ixf_loop (L := slices_IndexFunc_string__acls_Path_c1_L1 n qs) (xs := qs) (P := fun q => acls_Path_c1 n q) (fun q => !nameB q) (fun _ _ => rfl) (fun q hq => by
   unfold acls_Path_c1
   have hz : q.size ≤ 30 := by
    have := hname q hq
    unfold nameB at this
    simp only [Bool.and_eq_true, decide_eq_true_eq] at this
    exact this.1.1.2
   rw [atomName_some q (by omega) (by omega)]
   rfl) (by omega) n 0 (by omega) (by omega)
  have e : slices_IndexFunc_string__acls_Path_c1_L1 n qs n 0 = some r2 := e
  rw [List.drop_zero] at h
  have hany : (qs.any fun q => !nameB q) = false := List.any_eq_false.2 fun q hq => by rw [hname q hq]; decide
  unfold slices_ContainsFunc_string__acls_Path_c1 slices_IndexFunc_string__acls_Path_c1
  rw [e, Zo]
  rcases h with ⟨h1, _⟩ | ⟨_, rfl⟩
  ·rw [hany] at h1
   cases h1
  ·rfl
theorem last_at {P : Nat → Prop} [DecidablePred P] : ∀ m : Nat, P 0 → ∃ k, k ≤ m ∧ P k ∧ ∀ j, k < j → j ≤ m → ¬ P j
 | 0, h => ⟨0, Nat.le_refl _, h, fun j h1 h2 => by omega⟩
 | m + 1, h => by
  by_cases hm : P (m + 1)
  ·exact ⟨m + 1, Nat.le_refl _, hm, fun j h1 h2 => by omega⟩
  ·obtain ⟨k, h1, h2, h3⟩ := last_at m h
   refine ⟨k, by omega, h2, fun j h4 h5 => ?_⟩
   by_cases e : j = m + 1
   ·rw [e]; exact hm
   ·exact h3 j h4 (by omega)
theorem ne47 {x : UInt8} : ((x.toNat : Int) != 47) = decide (x ≠ 47) := by
 rw [Bool.eq_iff_iff, bne_iff_ne, decide_eq_true_eq]
 refine not_congr ?_
 rw [← UInt8.toNat_inj]
 show _ ↔ x.toNat = 47
 omega
theorem eq47u {x : UInt8} : ((x.toNat : Int) == 47) = decide (x = 47) := by
 rw [Bool.eq_iff_iff, beq_iff_eq, decide_eq_true_eq, ← UInt8.toNat_inj]
 show _ ↔ x.toNat = 47
 omega
theorem parent_loop {n : Nat} {s : ByteArray} (hs : s.size < 1000000) {k : Nat} (hk : s.data.toList[k]? = some 47) : ∀ (c i : Nat), k ≤ i → i < s.size → i < c → (∀ j, k < j → j ≤ i → s.data.toList[j]? ≠ some 47) → ref17_Parent_L1 n s c (i : Int) = some (k : Int) ∧ bytealg_LastIndexByteString_L1 n s 47 c (i : Int) = some (.inr (k : Int))
 | 0, _, _, _, h, _ => by omega
 | c + 1, i, h1, h2, h3, h4 => by
  have hb : i < s.data.toList.length := by rw [bsize]; exact h2
  rw [ref17_Parent_L1, bytealg_LastIndexByteString_L1, bidxS h2, Zo, Zo, ne47, eq47u, show decide ((0 : Int) ≤ (i : Int)) = true from decide_eq_true (by omega), if_pos rfl]
  by_cases e : i = k
  ·subst e
   have : s.data.toList[i] = 47 := (List.getElem?_eq_some_iff.1 hk).2
   simp [this]
  ·have hne : ¬ s.data.toList[i] = 47 := fun e2 => h4 i (by omega) (Nat.le_refl _) (by rw [List.getElem?_eq_getElem hb, e2])
   rw [decide_eq_true hne, if_pos rfl, decide_eq_false hne, if_neg (by decide), wr (by omega) (by omega), show ((i : Int) - 1) = ((i - 1 : Nat) : Int) by omega]
   exact parent_loop hs hk c (i - 1) (by omega) (by omega) (by omega) fun j h5 h6 => h4 j h5 (by omega)
theorem parent_both {n : Nat} {s : ByteArray} (hp : pathL s.data.toList = true) (h1 : s.data.toList ≠ [47]) (hn : 1000 < n) : ∃ p : ByteArray, ref17_Parent n s = some p ∧ acls_Parent n s = some p ∧ p.size < s.size ∧ 0 < p.size := by
 have hq := hp
 unfold pathL at hq
 rw [decide_eq_false h1, Bool.false_or, Bool.and_eq_true, Bool.and_eq_true, Bool.and_eq_true, Bool.and_eq_true] at hq
 obtain ⟨⟨⟨h2, h3⟩, h4⟩, h5, h6⟩ := hq
 have h2 := of_decide_eq_true h2
 have h3 := of_decide_eq_true h3
 have h4 := of_decide_eq_true h4
 rw [bsize] at h2 h3
 have h0 : s.data.toList[0]? = some 47 := by rw [← List.head?_eq_getElem?]; exact h4
 obtain ⟨k, k1, k2, k3⟩ := last_at (P := fun k => s.data.toList[k]? = some 47) (s.size - 1) h0
 have hb : s.size - 1 < s.data.toList.length := by rw [bsize]; omega
 have hlast : k < s.size - 1 := by
  rcases Nat.lt_or_ge k (s.size - 1) with h | h
  ·exact h
  ·exfalso
   have e : k = s.size - 1 := by omega
   subst e
   obtain ⟨r, hx⟩ : ∃ r, s.data.toList = 47 :: r := by
    cases h : s.data.toList with
    | nil => rw [h] at h4; cases h4
    | cons x r => rw [h, List.head?_cons] at h4; cases h4; exact ⟨r, rfl⟩
   rw [hx, List.tail_cons] at h5
   have hr : r.length + 1 = s.size := by rw [← bsize, hx]; rfl
   have hrn : r ≠ [] := fun e => by rw [e] at hr; simp at hr; omega
   have e2 : r.getLast hrn = 47 := by
    have e3 : s.data.toList[s.size - 1]? = r[r.length - 1]? := by
     rw [hx, show s.size - 1 = (r.length - 1) + 1 by omega, List.getElem?_cons_succ]
    rw [k2] at e3
    rw [List.getLast_eq_getElem]
    exact (List.getElem?_eq_some_iff.1 e3.symm).2
   have hm := cutL_snoc 47 r.dropLast
   rw [← e2, List.dropLast_concat_getLast hrn, e2] at hm
   have := List.all_eq_true.1 h5 [] hm
   cases this
 obtain ⟨l1, l2⟩ := parent_loop (n := n) (by omega) k2 n (s.size - 1) (by omega) (by omega) (by omega) fun j h5 h6 => k3 j h5 h6
 have ei : IntKind.i64.wrap ((s.size : Int) - 1) = ((s.size - 1 : Nat) : Int) := by rw [wr (by omega) (by omega)]; omega
 have hL : strings_LastIndex n s { data := #[47] } = some (k : Int) := by
  unfold strings_LastIndex
  rw [show ((({ data := #[47] } : ByteArray).size : Int) == 0) = false from rfl, if_neg (by decide), show ((({ data := #[47] } : ByteArray).size : Int) == 1) = true from rfl, if_pos rfl, show bidx { data := #[47] } 0 = some 47 from rfl, Zo]
  unfold bytealg_LastIndexByteString
  rw [ei, l2]
  rfl
 have e47 : (s.toList == ({ data := #[47] } : ByteArray).toList) = false := by rw [eq47]; exact decide_eq_false h1
 refine ⟨s.extract 0 (max k 1), ?_, ?_, ?_, ?_⟩
 ·unfold ref17_Parent
  rw [path_some (by omega) (by omega), hp, Zo, if_pos rfl, Zo, e47, if_neg (by decide), ei, l1, Zo]
  by_cases hk : k = 0
  ·subst hk
   rw [show (((0 : Nat) : Int) == 0) = true from rfl, if_pos rfl]
   congr 1
   apply bytes_inj
   rw [list_ext]
   obtain ⟨r, hx⟩ : ∃ r, s.data.toList = 47 :: r := by
    cases h : s.data.toList with
    | nil => rw [h] at h4; cases h4
    | cons x r => rw [h, List.head?_cons] at h4; cases h4; exact ⟨r, rfl⟩
   rw [hx]
   rfl
  ·rw [show (((k : Nat) : Int) == 0) = false by simp; omega, if_neg (by decide), show (0 : Int) = ((0 : Nat) : Int) from rfl, bslcS (by omega) (by omega), Zo, show max k 1 = k by omega]
 ·unfold acls_Parent
  rw [e47, if_neg (by decide), aclsPath_some hp hn, Zo, if_pos rfl, hL, Zo, show (if (k : Int) < 1 then (1 : Int) else (k : Int)) = ((max k 1 : Nat) : Int) by split <;> omega, show (0 : Int) = ((0 : Nat) : Int) from rfl, bslcS (by omega) (by omega), Zo]
 ·rw [ext_size s (by omega)]
  omega
 ·rw [ext_size s (by omega)]
  omega
theorem parent_top {n : Nat} (hn : 1000 < n) : ref17_Parent n { data := #[47] } = some { data := #[] } := by
 unfold ref17_Parent
 have h : (ByteArray.mk #[47]).size = 1 := rfl
 rw [path_some (by omega) (by omega), show pathL (ByteArray.mk #[47]).data.toList = true from rfl, Zo, if_pos rfl, Zo]
 rw [if_pos (beq_self_eq_true _)]
end Go.Proofs.YtgmhbmcdlkajdaaGreatDoor.Ab

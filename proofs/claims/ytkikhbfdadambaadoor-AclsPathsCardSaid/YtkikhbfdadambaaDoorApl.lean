/-
  A path's parent is all but its last name: the plain law. No program in sight.
-/
import Derived.Test.YtkikhbfdadambaaDoorApa
import Derived.Test.YtkikhbfdadambaaDoorAwk
import Derived.Test.YtkikhbfdadambaaDoorBb
import Derived.Test.YtkikhbfdadambaaDoorCut
namespace Go.Proofs.YtkikhbfdadambaaDoor.Ab
open Go.RowKit
/-! ### names -/
def nameL (l : List UInt8) : Bool := decide (0 < l.length) && decide (l.length ≤ 30) && (match l.head? with | some x => firstB (x.toNat : Int) | none => false) && l.all fun x => plainB (x.toNat : Int)
theorem nameB_L (s : ByteArray) : nameB s = nameL s.data.toList := by
  unfold nameB nameL
  rw [bsize]
  rfl
theorem atomFirst_some (n : Nat) (c : Int) : atom_first n c = some (firstB c) := first_if c
theorem atomPlain_some (n : Nat) (c : Int) : atom_plain n c = some (plainB c) := by
  unfold atom_plain plainB
  rw [atomFirst_some, Option.bind_some]
  cases firstB c <;> cases c == 95 <;> cases c == 45 <;> simp
theorem atomName_some {n : Nat} (s : ByteArray) (h : s.size < n) (hs : s.size < 4611686018427387904) : atom_Name n s = some (nameB s) := by
  unfold atom_Name
  have hL : atom_Name_L1 n s n 0 = _ := all_loop (L := atom_Name_L1 n s) (s := s) plainB (fun c i x hx hi => by
    rw [atom_Name_L1, dlt hi, if_pos rfl, hx, Option.bind_some, atomPlain_some, Option.bind_some, wr1 (by omega)]) (fun c i hi => by rw [atom_Name_L1, dnlt hi, if_neg (by decide)]) n 0 (by omega) (by omega)
  rw [List.drop_zero] at hL
  exact name_eq (emptyB s) (fun c => atomFirst_some n c) hL
/-! ### what is a path -/
def partsF (ps : List (List UInt8)) : Bool := match ps with
  | p :: qs => p.isEmpty && decide (1 ≤ qs.length) && decide (qs.length ≤ 20) && qs.all nameL
  | [] => false
def pathF (l : List UInt8) : Bool := decide (l = [47]) || (decide (l.length ≤ 200) && partsF (cutL 47 l))
theorem eq47 (s : ByteArray) : (s.toList == ({ data := #[47] } : ByteArray).toList) = decide (s.data.toList = [47]) := by
  rw [Lib.toList_data, Lib.toList_data, Bool.eq_iff_iff, beq_iff_eq, decide_eq_true_eq]
theorem cut_mem (c : UInt8) : ∀ (l p : List UInt8), p ∈ cutL c l → p.length ≤ l.length
  | [], p, h => by
    rw [show cutL c [] = [[]] from rfl, List.mem_singleton] at h
    rw [h]
    exact Nat.le_refl _
  | x :: l, p, h => by
    obtain ⟨q, qs, e⟩ := cutL_ne c l
    have ih := cut_mem c l
    rw [e] at ih
    rw [cutL_cons, e] at h
    rw [List.length_cons]
    split at h
    · rcases List.mem_cons.1 h with rfl | h
      · exact Nat.zero_le _
      · exact Nat.le_succ_of_le (ih p h)
    · dsimp only at h
      rcases List.mem_cons.1 h with rfl | h
      · rw [List.length_cons]
        exact Nat.succ_le_succ (ih q (List.mem_cons_self ..))
      · exact Nat.le_succ_of_le (ih p (List.mem_cons_of_mem _ h))
theorem contains_F {n : Nat} {qs : List ByteArray} (hq : qs.length < 1000000) (hn : 1000000 < n) (hz : ∀ q ∈ qs, q.size < 1000000) : slices_ContainsFunc_string__acls_Path_c1 n qs = some (qs.any fun q => !nameB q) := by
  obtain ⟨r2, e, h⟩ := ixf_loop (L := slices_IndexFunc_string__acls_Path_c1_L1 n qs) (xs := qs) (P := fun q => acls_Path_c1 n q) (fun q => !nameB q) (fun _ _ => rfl) (fun q hq => by
    have := hz q hq
    unfold acls_Path_c1
    rw [atomName_some q (by omega) (by omega)]
    rfl) (by omega) n 0 (by omega) (by omega)
  have e : slices_IndexFunc_string__acls_Path_c1_L1 n qs n 0 = some r2 := e
  rw [List.drop_zero] at h
  unfold slices_ContainsFunc_string__acls_Path_c1 slices_IndexFunc_string__acls_Path_c1
  rw [e, Option.bind_some]
  rcases h with ⟨h1, k, rfl⟩ | ⟨h1, rfl⟩
  · rw [h1, Option.bind_some, show decide ((0 : Int) ≤ (k : Int)) = true from decide_eq_true (by omega)]
  · rw [h1]
    rfl
theorem path_F {n : Nat} {s : ByteArray} (hs : s.size < 1000000) (hn : 1000000 < n) : acls_Path n s = some (pathF s.data.toList) := by
  unfold acls_Path pathF
  rw [eq47]
  by_cases h1 : s.data.toList = [47]
  · rw [decide_eq_true h1]
    rfl
  · have hsp : strings_Split n s { data := #[47] } = some (splitT 47 s) := by
      unfold strings_Split strings_genSplit
      rw [show one { data := #[47] } = some 47 from rfl]
      dsimp only
      rw [show decide (s.size < 4294967281) = true from decide_eq_true (by omega)]
      rfl
    have hc := splitT_cut 47 s
    have hm := cut_mem 47 s.data.toList
    rw [bsize] at hm
    rw [decide_eq_false h1, if_neg Bool.false_ne_true, Bool.false_or, hsp, Option.bind_some, ← hc, bsize]
    rw [← hc] at hm
    generalize splitT 47 s = ps at hc hm
    cases ps with
    | nil =>
      obtain ⟨a, b, e⟩ := cutL_ne 47 s.data.toList
      rw [e] at hc
      cases hc
    | cons p qs =>
      rw [List.map_cons, partsF, List.length_map]
      have hzq : ∀ q ∈ qs, q.size < 1000000 := fun q hq => by
        have := hm q.data.toList (List.mem_cons_of_mem _ (List.mem_map_of_mem hq))
        rw [bsize] at this
        omega
      have hall : (qs.map (·.data.toList)).all nameL = !(qs.any fun q => !nameB q) := by
        rw [List.all_map, List.not_any_eq_all_not]
        refine congrArg (List.all qs) (funext fun q => ?_)
        rw [nameB_L, Bool.not_not]
        rfl
      have e0 : decide ((200 : Int) < (s.size : Int)) = !decide (s.size ≤ 200) := by rw [Bool.eq_iff_iff]; simp; omega
      have e1 : decide (((p :: qs).length : Int) < 2) = !decide (1 ≤ qs.length) := by rw [Bool.eq_iff_iff, Bool.not_eq_true', decide_eq_true_eq, decide_eq_false_iff_not, List.length_cons]; omega
      have e2 : decide ((21 : Int) < ((p :: qs).length : Int)) = !decide (qs.length ≤ 20) := by rw [Bool.eq_iff_iff, Bool.not_eq_true', decide_eq_true_eq, decide_eq_false_iff_not, List.length_cons]; omega
      have e3 : (p.toList == ({ data := #[] } : ByteArray).toList) = p.data.toList.isEmpty := by
        rw [emptyB, Bool.eq_iff_iff, decide_eq_true_eq, List.isEmpty_iff, ← bsize]
        exact List.length_eq_zero_iff
      have e4 : slc (p :: qs) 1 ((p :: qs).length : Int) = some qs := by
        have := slcS (xs := p :: qs) (a := 1) (b := (p :: qs).length) (by simp) (Nat.le_refl _)
        rw [List.take_length] at this
        exact this
      rw [e0, e1, e2, show idx (p :: qs) 0 = some p from rfl, Option.bind_some, e3, e4, Option.bind_some, hall]
      by_cases hl : qs.length ≤ 20
      · rw [contains_F (qs := qs) (by omega) hn hzq, Option.bind_some, decide_eq_true hl]
        cases decide (s.size ≤ 200) <;> cases decide (1 ≤ qs.length) <;> cases p.data.toList.isEmpty <;> simp
      · rw [decide_eq_false hl]
        cases decide (s.size ≤ 200) <;> cases decide (1 ≤ qs.length) <;> cases p.data.toList.isEmpty <;> simp
/-! ### a path of names -/
def nT4 : List ByteArray := [{ data := #[97] }, { data := #[98, 45, 49] }, { data := #[120, 46, 121] }, { data := #[48] }]
def nmOf (x : Int) : ByteArray := nT4.getD (an x 3) default
theorem nmOf_idx (x : Int) : idx nT4 (IntKind.i64.wrap (an x 3 : Int)) = some (nmOf x) ∧ nmOf x ∈ nT4 := by
  have h : an x 3 < nT4.length := Nat.lt_succ_of_le (Nat.le_trans (an_le _ _) (by decide))
  rw [show IntKind.i64.wrap (an x 3 : Int) = (an x 3 : Nat) from wrap_an _ _ (by decide), idxS h]
  unfold nmOf
  rw [List.getD_eq_getElem?_getD, List.getElem?_eq_getElem h, Option.getD_some]
  exact ⟨rfl, List.getElem_mem h⟩
def nmL (x : Int) : List UInt8 := (nmOf x).data.toList
theorem nm_ok (x : Int) : nameL (nmL x) = true ∧ (47 : UInt8) ∉ nmL x ∧ nmL x ≠ [] ∧ (nmOf x).size ≤ 3 := by
  have h := (nmOf_idx x).2
  have key : nT4.all (fun b => nameL b.data.toList && !b.data.toList.contains 47 && !b.data.toList.isEmpty && Nat.ble b.size 3) = true := by kernel_rfl
  have := List.all_eq_true.1 key _ h
  simp only [Bool.and_eq_true, Bool.not_eq_true', List.isEmpty_eq_false_iff] at this
  obtain ⟨⟨⟨a, b⟩, c⟩, d⟩ := this
  refine ⟨a, fun hm => ?_, c, Nat.le_of_ble_eq_true d⟩
  have hb : (nmOf x).data.toList.contains 47 = true := List.contains_iff_mem.2 hm
  rw [hb] at b
  cases b
def pth (xs : List Int) : List UInt8 := xs.flatMap fun x => 47 :: nmL x
theorem pth_cons (x : Int) (xs : List Int) : pth (x :: xs) = 47 :: (nmL x ++ pth xs) := by
  unfold pth
  rw [List.flatMap_cons, List.cons_append]
theorem pth_snoc (xs : List Int) (x : Int) : pth (xs ++ [x]) = pth xs ++ 47 :: nmL x := by
  unfold pth
  rw [List.flatMap_append]
  simp
theorem pth_len : ∀ xs : List Int, 2 * xs.length ≤ (pth xs).length ∧ (pth xs).length ≤ 4 * xs.length
  | [] => ⟨Nat.le_refl _, Nat.le_refl _⟩
  | x :: xs => by
    obtain ⟨h1, h2⟩ := pth_len xs
    obtain ⟨_, _, h3, h4⟩ := nm_ok x
    have h5 : (nmL x).length = (nmOf x).size := bsize _
    have h6 := List.length_pos_iff.2 h3
    simp only [pth_cons, List.length_cons, List.length_append]
    omega
theorem cut_tail : ∀ (x : Int) (xs : List Int), cutL 47 (nmL x ++ pth xs) = (x :: xs).map nmL
  | x, [] => by
    rw [show pth [] = [] from rfl, List.append_nil, cutL_no (nm_ok x).2.1]
    rfl
  | x, y :: ys => by
    rw [pth_cons, cutL_pre (nm_ok x).2.1, cut_tail y ys]
    rfl
theorem cut_pth (x : Int) (xs : List Int) : cutL 47 (pth (x :: xs)) = [] :: (x :: xs).map nmL := by
  rw [pth_cons, cutL_cons, if_pos rfl, cut_tail]
theorem names_all (xs : List Int) : (xs.map nmL).all nameL = true := by
  rw [List.all_map, List.all_eq_true]
  exact fun x _ => (nm_ok x).1
theorem path_yes (x : Int) (xs : List Int) (h : (x :: xs).length ≤ 24) : pathF (pth (x :: xs)) = decide ((x :: xs).length ≤ 20) := by
  obtain ⟨h1, h2⟩ := pth_len (x :: xs)
  have hne : ¬ pth (x :: xs) = [47] := fun e => by
    have := congrArg List.length e
    rw [List.length_singleton] at this
    rw [List.length_cons] at h1
    omega
  unfold pathF
  rw [decide_eq_false hne, Bool.false_or, decide_eq_true (show (pth (x :: xs)).length ≤ 200 by omega), Bool.true_and, cut_pth, partsF, names_all, List.length_map, decide_eq_true (show 1 ≤ (x :: xs).length by simp)]
  simp
theorem path_no (x : Int) (xs : List Int) (r : List UInt8) (hr : (cutL 47 r).all nameL = false) : pathF (pth (x :: xs) ++ 47 :: r) = false := by
  obtain ⟨h1, h2⟩ := pth_len (x :: xs)
  have hne : ¬ pth (x :: xs) ++ 47 :: r = [47] := fun e => by
    have := congrArg List.length e
    rw [List.length_append, List.length_cons, List.length_singleton] at this
    rw [List.length_cons] at h1
    omega
  unfold pathF
  rw [decide_eq_false hne, Bool.false_or, cutL_app, cut_pth, List.cons_append, partsF, List.all_append, hr, Bool.and_false, Bool.and_false, Bool.and_false]
theorem path_rest (x : Int) (xs : List Int) : pathF (nmL x ++ pth xs) = false := by
  have hne : ¬ nmL x ++ pth xs = [47] := fun e => by
    have h := cut_tail x xs
    rw [e] at h
    have h2 : [] = nmL x := (List.cons.inj h).1
    exact (nm_ok x).2.2.1 h2.symm
  unfold pathF
  rw [decide_eq_false hne, Bool.false_or, cut_tail, List.map_cons, partsF, List.isEmpty_eq_false_iff.2 (nm_ok x).2.2.1]
  simp
/-! ### a path's parent -/
theorem last_loop {n : Nat} {s : ByteArray} {a w : List UInt8} (hs : s.size < 1000000) (hl : s.data.toList = a ++ 47 :: w) (hw : (47 : UInt8) ∉ w) : ∀ (c i : Nat), a.length ≤ i → i < s.size → i - a.length < c → bytealg_LastIndexByteString_L1 n s 47 c (i : Int) = some (.inr (a.length : Int))
  | 0, _, _, _, h => by omega
  | c + 1, i, h1, h2, h3 => by
    have hb : i < s.data.toList.length := by rw [bsize]; exact h2
    have e47 : ∀ x : UInt8, ((x.toNat : Int) == 47) = decide (x = 47) := fun x => by
      rw [Bool.eq_iff_iff, beq_iff_eq, decide_eq_true_eq, ← UInt8.toNat_inj]
      show _ ↔ x.toNat = 47
      omega
    have hg : s.data.toList[i]? = (47 :: w)[i - a.length]? := by rw [hl, List.getElem?_append_right h1]
    rw [List.getElem?_eq_getElem hb] at hg
    rw [bytealg_LastIndexByteString_L1, show decide ((0 : Int) ≤ (i : Int)) = true from decide_eq_true (by omega), if_pos rfl, bidxS h2, Option.bind_some, e47]
    by_cases e : i = a.length
    · subst e
      rw [Nat.sub_self] at hg
      rw [decide_eq_true (Option.some.inj hg), if_pos rfl]
    · obtain ⟨d, hd⟩ : ∃ d, i - a.length = d + 1 := ⟨i - a.length - 1, by omega⟩
      rw [hd, List.getElem?_cons_succ] at hg
      have hmem : s.data.toList[i] ∈ w := List.mem_of_getElem? hg.symm
      have hne : ¬ s.data.toList[i] = 47 := fun e => hw (e ▸ hmem)
      rw [decide_eq_false hne, if_neg Bool.false_ne_true, wr (by omega) (by omega), show ((i : Int) - 1) = ((i - 1 : Nat) : Int) by omega]
      exact last_loop hs hl hw c (i - 1) (by omega) (by omega) (by omega)
theorem parent_F {n : Nat} {s : ByteArray} {a w : List UInt8} (hs : s.size < 1000000) (hn : 1000000 < n) (hp : pathF s.data.toList = true) (hl : s.data.toList = a ++ 47 :: w) (hw : (47 : UInt8) ∉ w) (hw0 : w ≠ []) : acls_Parent n s = some (s.extract 0 (max a.length 1)) := by
  have hne : ¬ s.data.toList = [47] := fun e => by
    rw [hl] at e
    have := congrArg List.length e
    have h2 := List.length_pos_iff.2 hw0
    rw [List.length_append, List.length_cons, List.length_singleton] at this
    omega
  have hz : s.size = a.length + (w.length + 1) := by rw [← bsize, hl, List.length_append, List.length_cons]
  have h2 := List.length_pos_iff.2 hw0
  have ei : IntKind.i64.wrap ((s.size : Int) - 1) = ((s.size - 1 : Nat) : Int) := by rw [wr (by omega) (by omega)]; omega
  have hL : strings_LastIndex n s { data := #[47] } = some (a.length : Int) := by
    unfold strings_LastIndex
    rw [show ((({ data := #[47] } : ByteArray).size : Int) == 0) = false from rfl, if_neg (by decide), show ((({ data := #[47] } : ByteArray).size : Int) == 1) = true from rfl, if_pos rfl, show bidx { data := #[47] } 0 = some 47 from rfl, Option.bind_some]
    unfold bytealg_LastIndexByteString
    rw [ei, last_loop (n := n) hs hl hw n (s.size - 1) (by omega) (by omega) (by omega)]
    rfl
  unfold acls_Parent
  rw [eq47, decide_eq_false hne, if_neg Bool.false_ne_true, path_F hs hn, hp, Option.bind_some, if_pos rfl, hL, Option.bind_some, show (if (a.length : Int) < 1 then (1 : Int) else (a.length : Int)) = ((max a.length 1 : Nat) : Int) by split <;> omega, show (0 : Int) = ((0 : Nat) : Int) from rfl, bslcS (by omega) (by omega), Option.bind_some]
/-! ### the first loop -/
def prv (K : List Int) (i : Nat) : List UInt8 := if i ≤ 1 then [47] else pth (K.take (i - 1))
theorem paths_at {n : Nat} {t0 : List Int} : ∀ (c i : Nat) (s p : ByteArray), i ≤ t0.length → i ≤ 24 → 24 - i < c → s.data.toList = pth ((t0.take 24).take i) → p.data.toList = prv (t0.take 24) i → ∃ s' p' : ByteArray, law17_AclsPaths_L1 n t0 c (s, p, (i : Int)) = some (s', p') ∧ s'.data.toList = pth (t0.take 24) ∧ p'.data.toList = prv (t0.take 24) (t0.take 24).length
  | 0, _, _, _, _, _, h, _, _ => by omega
  | c + 1, i, s, p, hi, h24, hc, hs, hp => by
    have e : decide ((i : Int) < 24) = decide (i < 24) := dI i 24
    rw [law17_AclsPaths_L1, e]
    by_cases h : i < t0.length ∧ i < 24
    · have hk : i < (t0.take 24).length := by rw [List.length_take]; omega
      have hg : (t0.take 24)[i] = t0[i] := List.getElem_take
      obtain ⟨e1, _⟩ := nmOf_idx t0[i]
      obtain ⟨_, _, _, h3⟩ := nm_ok t0[i]
      unfold nT4 at e1
      have hl := (pth_len ((t0.take 24).take i)).2
      rw [← hs, bsize, List.length_take, List.length_take] at hl
      have s1 : (s ++ ⟨#[47]⟩ : ByteArray).size = s.size + 1 := ByteArray.size_append
      have hpe : ((if (s.toList == ({ data := #[] } : ByteArray).toList) then some p else some s) : Option ByteArray) = some (if i = 0 then p else s) := by
        rw [emptyB]
        by_cases h0 : i = 0
        · subst h0
          have : s.size = 0 := by rw [← bsize, hs]; rfl
          rw [decide_eq_true this, if_pos rfl, if_pos rfl]
        · have : ¬ s.size = 0 := by
            have h4 := (pth_len ((t0.take 24).take i)).1
            rw [← hs, bsize, List.length_take, List.length_take] at h4
            omega
          rw [decide_eq_false this, if_neg Bool.false_ne_true, if_neg h0]
      rw [dlt h.1, if_pos rfl, show decide (i < 24) = true from decide_eq_true h.2, Option.bind_some, if_pos rfl, hpe, Option.bind_some, catS (by show s.size + 1 ≤ _; unfold maxLen; omega), Option.bind_some, idxS h.1, Option.bind_some, e1, Option.bind_some, catS (by rw [s1]; unfold maxLen; omega), Option.bind_some, wr1 (by omega)]
      refine paths_at c (i + 1) _ _ (by omega) (by omega) (by omega) ?_ ?_
      · rw [list_app, list_app, hs, List.take_succ_eq_append_getElem hk, hg, pth_snoc, List.append_assoc]
        rfl
      · unfold prv
        by_cases h0 : i = 0
        · subst h0
          rw [if_pos rfl, hp]
          rfl
        · rw [if_neg h0, if_neg (by omega), hs]
          rfl
    · have hf : ((if (decide ((i : Int) < (t0.length : Int))) then some (decide (i < 24)) else some false) : Option Bool) = some false := by
        by_cases h1 : i < t0.length
        · rw [dlt h1, if_pos rfl, show decide (i < 24) = false from decide_eq_false (by omega)]
        · rw [dnlt (by omega), if_neg Bool.false_ne_true]
      have hk : (t0.take 24).length = i := by rw [List.length_take]; omega
      rw [hf, Option.bind_some, if_neg Bool.false_ne_true]
      exact ⟨s, p, rfl, by rw [hs, ← hk, List.take_length], by rw [hk, hp]⟩
/-! ### the second loop -/
def zL (j : Nat) : List UInt8 := List.replicate j 122
theorem zs_at {n : Nat} {t2 : Int} : ∀ (c i : Nat) (s : ByteArray), i ≤ an t2 31 → an t2 31 - i < c → s.size ≤ 1000 + i → ∃ r : ByteArray, law17_AclsPaths_L3 n t2 c (s, (i : Int)) = some r ∧ r.data.toList = s.data.toList ++ zL (an t2 31 - i)
  | 0, _, _, _, h, _ => by omega
  | c + 1, i, s, hi, hc, hs => by
    have h31 : an t2 31 ≤ 31 := Nat.le_trans (an_le _ _) (by decide)
    rw [law17_AclsPaths_L3, show IntKind.i64.wrap (an t2 31 : Int) = (an t2 31 : Nat) from wrap_an _ _ (by decide), dI]
    by_cases h : i < an t2 31
    · have s1 : (s ++ ⟨#[122]⟩ : ByteArray).size = s.size + 1 := ByteArray.size_append
      rw [decide_eq_true h, if_pos rfl, catS (by show s.size + 1 ≤ _; unfold maxLen; omega), Option.bind_some, wr1 (by omega)]
      obtain ⟨r, r1, r2⟩ := zs_at (n := n) (t2 := t2) c (i + 1) (s ++ ⟨#[122]⟩) (by omega) (by omega) (by omega)
      refine ⟨r, r1, ?_⟩
      rw [r2, list_app, List.append_assoc, show an t2 31 - i = (an t2 31 - (i + 1)) + 1 by omega]
      unfold zL
      rw [List.replicate_succ]
      rfl
    · rw [decide_eq_false h, if_neg Bool.false_ne_true]
      exact ⟨s, rfl, by rw [show an t2 31 - i = 0 by omega]; simp [zL]⟩
def zP (j : Nat) : Nat → List UInt8
  | 0 => []
  | a + 1 => 47 :: (zL j ++ zP j a)
theorem zP_len (j : Nat) : ∀ a, (zP j a).length = a * (j + 1)
  | 0 => by simp [zP]
  | a + 1 => by
    rw [zP, List.length_cons, List.length_append, zP_len j a, Nat.add_mul]
    simp [zL]
    omega
theorem zL_no (j : Nat) : (47 : UInt8) ∉ zL j := fun h => by
  have := (List.mem_replicate.1 h).2
  cases this
theorem zP_cut (j : Nat) : ∀ a, cutL 47 (zL j ++ zP j a) = List.replicate (a + 1) (zL j)
  | 0 => by
    rw [zP, List.append_nil, cutL_no (zL_no j)]
    rfl
  | a + 1 => by
    rw [zP, cutL_pre (zL_no j), zP_cut j a]
    rfl
theorem zP_snoc (j : Nat) : ∀ a, zP j (a + 1) = zP j a ++ 47 :: zL j
  | 0 => by simp [zP]
  | a + 1 => by
    show 47 :: (zL j ++ zP j (a + 1)) = (47 :: (zL j ++ zP j a)) ++ 47 :: zL j
    rw [zP_snoc j a]
    simp
theorem z_name : ∀ j : Nat, j ≤ 31 → nameL (zL j) = (decide (1 ≤ j) && decide (j ≤ 30)) := by
  intro j hj
  have key : (List.range 32).all (fun j => nameL (zL j) == (decide (1 ≤ j) && decide (j ≤ 30))) = true := by kernel_rfl
  have := List.all_eq_true.1 key j (List.mem_range.2 (by omega))
  simpa using this
theorem z_path {j a : Nat} (hj : j ≤ 31) (h1 : 4 ≤ a) (h2 : a ≤ 11) : pathF (zP j a) = (decide (a * (j + 1) ≤ 200) && (decide (1 ≤ j) && decide (j ≤ 30))) := by
  obtain ⟨b, rfl⟩ : ∃ b, a = b + 1 := ⟨a - 1, by omega⟩
  have hl := zP_len j (b + 1)
  have hne : ¬ zP j (b + 1) = [47] := fun e => by
    rw [e, List.length_singleton] at hl
    have : b + 1 ≤ (b + 1) * (j + 1) := Nat.le_mul_of_pos_right _ (by omega)
    omega
  have hall : (List.replicate (b + 1) (zL j)).all nameL = nameL (zL j) := by
    rw [List.all_replicate, if_neg (by omega)]
  unfold pathF
  rw [decide_eq_false hne, Bool.false_or, hl]
  congr 1
  rw [zP, cutL_cons, if_pos rfl, zP_cut, partsF, hall, z_name j hj, List.length_replicate, decide_eq_true (show 1 ≤ b + 1 by omega), decide_eq_true (show b + 1 ≤ 20 by omega)]
  rfl
theorem zr_at {n : Nat} (hn : 1000000 < n) {t1 t2 : Int} : ∀ (c i : Nat) (s : ByteArray), i ≤ an t1 7 + 4 → an t1 7 + 4 - i < c → s.data.toList = zP (an t2 31) i → ∃ r : ByteArray, law17_AclsPaths_L2 n t1 t2 c (s, (i : Int)) = some r ∧ r.data.toList = zP (an t2 31) (an t1 7 + 4)
  | 0, _, _, _, h, _ => by omega
  | c + 1, i, s, hi, hc, hs => by
    have h31 : an t2 31 ≤ 31 := Nat.le_trans (an_le _ _) (by decide)
    have h7 : an t1 7 ≤ 7 := Nat.le_trans (an_le _ _) (by decide)
    have e7 : IntKind.i64.wrap ((IntKind.i64.wrap (an t1 7 : Int)) + 4) = ((an t1 7 + 4 : Nat) : Int) := by
      rw [show IntKind.i64.wrap (an t1 7 : Int) = (an t1 7 : Nat) from wrap_an _ _ (by decide), wr (by omega) (by omega)]
      omega
    have hz : s.size = i * (an t2 31 + 1) := by rw [← bsize, hs, zP_len]
    have hz2 : i * (an t2 31 + 1) ≤ 11 * 32 := Nat.mul_le_mul (by omega) (by omega)
    rw [law17_AclsPaths_L2, e7, dI]
    by_cases h : i < an t1 7 + 4
    · have s1 : (s ++ ⟨#[47]⟩ : ByteArray).size = s.size + 1 := ByteArray.size_append
      obtain ⟨r, r1, r2⟩ := zs_at (n := n) (t2 := t2) n 0 (s ++ ⟨#[47]⟩) (by omega) (by omega) (by omega)
      have r1 : law17_AclsPaths_L3 n t2 n (s ++ ⟨#[47]⟩, 0) = some r := r1
      rw [decide_eq_true h, if_pos rfl, catS (by show s.size + 1 ≤ _; unfold maxLen; omega), Option.bind_some, r1, Option.bind_some, wr1 (by omega)]
      refine zr_at hn c (i + 1) r (by omega) (by omega) ?_
      rw [r2, list_app, hs, Nat.sub_zero, zP_snoc, List.append_assoc]
      rfl
    · rw [decide_eq_false h, if_neg Bool.false_ne_true]
      exact ⟨s, rfl, by rw [hs, show i = an t1 7 + 4 by omega]⟩
/-! ### the law -/
theorem ref_z : ref1_Name 1000001 ⟨#[122]⟩ = some true := by kernel_rfl
theorem law_paths (t0 : List Int) (t1 t2 : Int) : law17_AclsPaths 1000001 t0 t1 t2 = some true := by
  have hn : 1000000 < 1000001 := by decide
  have h31 : an t2 31 ≤ 31 := Nat.le_trans (an_le _ _) (by decide)
  have h7 : an t1 7 ≤ 7 := Nat.le_trans (an_le _ _) (by decide)
  have hP : ∃ s' p' : ByteArray, law17_AclsPaths_L1 1000001 t0 1000001 (⟨#[]⟩, ⟨#[47]⟩, 0) = some (s', p') ∧ s'.data.toList = pth (t0.take 24) ∧ p'.data.toList = prv (t0.take 24) (t0.take 24).length := paths_at (n := 1000001) (t0 := t0) 1000001 0 ⟨#[]⟩ ⟨#[47]⟩ (by omega) (by omega) (by omega) rfl rfl
  obtain ⟨s, p, a1, a2, a3⟩ := hP
  have hZ : ∃ r : ByteArray, law17_AclsPaths_L2 1000001 t1 t2 1000001 (⟨#[]⟩, 0) = some r ∧ r.data.toList = zP (an t2 31) (an t1 7 + 4) := zr_at hn (t1 := t1) (t2 := t2) 1000001 0 ⟨#[]⟩ (by omega) (by omega) rfl
  obtain ⟨z, z1, z2⟩ := hZ
  have hlen : (t0.take 24).length = min 24 t0.length := List.length_take
  unfold law17_AclsPaths
  rw [a1, Option.bind_some]
  dsimp only
  rw [emptyB, awake17, z1, ref_z]
  generalize hK : t0.take 24 = K at *
  cases K with
  | nil =>
    have hs0 : s.size = 0 := by rw [← bsize, a2]; rfl
    rw [decide_eq_true hs0, if_pos rfl, path_F (show (⟨#[47]⟩ : ByteArray).size < 1000000 from Nat.le_of_ble_eq_true rfl) hn]
    rfl
  | cons x xs =>
    obtain ⟨l1, l2⟩ := pth_len (x :: xs)
    have hsz : s.size = (pth (x :: xs)).length := by rw [← bsize, a2]
    have hs0 : ¬ s.size = 0 := by
      rw [List.length_cons] at l1
      omega
    have hx24 : (x :: xs).length ≤ 24 := by omega
    have q0 : acls_Path 1000001 s = some (decide ((x :: xs).length ≤ 20)) := by rw [path_F (by omega) hn, a2, path_yes x xs hx24]
    have c1 : (s ++ ⟨#[47]⟩ : ByteArray).size = s.size + 1 := ByteArray.size_append
    have c2 : (s ++ ⟨#[47, 47, 97]⟩ : ByteArray).size = s.size + 3 := ByteArray.size_append
    have q1 : acls_Path 1000001 (s ++ ⟨#[47]⟩) = some false := by
      rw [path_F (by omega) hn, list_app, a2]
      exact congrArg some (path_no x xs [] rfl)
    have q2 : acls_Path 1000001 (s ++ ⟨#[47, 47, 97]⟩) = some false := by
      rw [path_F (by omega) hn, list_app, a2]
      exact congrArg some (path_no x xs [47, 97] rfl)
    have hcut : (s.extract 1 s.size).data.toList = nmL x ++ pth xs := by
      rw [list_ext, List.take_of_length_le (by rw [bsize]; omega), a2, pth_cons]
      rfl
    have q3 : acls_Path 1000001 (s.extract 1 s.size) = some false := by
      rw [path_F (by rw [ext_size s (Nat.le_refl _)]; omega) hn, hcut, path_rest]
    have hsl : bslc s 1 (s.size : Int) = some (s.extract 1 s.size) := bslcS (s := s) (a := 1) (by omega) (Nat.le_refl _)
    have k1 : cat s ⟨#[47]⟩ = some (s ++ ⟨#[47]⟩) := catS (by show s.size + 1 ≤ _; unfold maxLen; omega)
    have k2 : cat s ⟨#[47, 47, 97]⟩ = some (s ++ ⟨#[47, 47, 97]⟩) := catS (by show s.size + 3 ≤ _; unfold maxLen; omega)
    have hzl := zP_len (an t2 31) (an t1 7 + 4)
    have hzm : (an t1 7 + 4) * (an t2 31 + 1) ≤ 11 * 32 := Nat.mul_le_mul (by omega) (by omega)
    have hzz : z.size = (an t1 7 + 4) * (an t2 31 + 1) := by rw [← bsize, z2, hzl]
    have qz : acls_Path 1000001 z = some (decide (z.size ≤ 200) && (decide (1 ≤ an t2 31) && decide (an t2 31 ≤ 30))) := by rw [path_F (by omega) hn, z2, z_path h31 (by omega) (by omega), hzz]
    have e31 : IntKind.i64.wrap (an t2 31 : Int) = (an t2 31 : Nat) := wrap_an _ _ (by decide)
    have g1 : decide ((1 : Int) ≤ ((an t2 31 : Nat) : Int)) = decide (1 ≤ an t2 31) := by rw [decide_eq_decide]; omega
    have g2 : decide (((an t2 31 : Nat) : Int) ≤ 30) = decide (an t2 31 ≤ 30) := by rw [decide_eq_decide]; omega
    have g3 : decide ((z.size : Int) ≤ 200) = decide (z.size ≤ 200) := by rw [decide_eq_decide]; omega
    have hpar : (x :: xs).length ≤ 20 → acls_Parent 1000001 s = some p := by
      intro h20
      obtain ⟨ys, y, hy⟩ : ∃ ys y, x :: xs = ys ++ [y] := ⟨(x :: xs).dropLast, (x :: xs).getLast (by simp), (List.dropLast_concat_getLast _).symm⟩
      have hl : s.data.toList = pth ys ++ 47 :: nmL y := by rw [a2, hy, pth_snoc]
      rw [parent_F (by omega) hn (by rw [a2, path_yes x xs hx24]; exact decide_eq_true h20) hl (nm_ok y).2.1 (nm_ok y).2.2.1]
      refine congrArg some (bytes_inj ?_)
      rw [list_ext, a3, List.drop_zero, hl]
      unfold prv
      have hyl : (x :: xs).length = ys.length + 1 := by rw [hy]; simp
      by_cases h1 : (x :: xs).length ≤ 1
      · have : ys = [] := List.eq_nil_of_length_eq_zero (by omega)
        rw [if_pos h1, this]
        rfl
      · have hp2 := (pth_len ys).1
        rw [if_neg h1, hyl, hy, Nat.add_sub_cancel, List.take_left, show max (pth ys).length 1 = (pth ys).length by omega, List.take_left]
    have d20 : decide ((t0.length : Int) ≤ 20) = decide ((x :: xs).length ≤ 20) := by rw [decide_eq_decide]; omega
    have tail : (if (decide (z.size ≤ 200) && (decide (1 ≤ an t2 31) && decide (an t2 31 ≤ 30))) == true then true else false) = true ∨ True := .inr trivial
    rw [decide_eq_false hs0, if_neg Bool.false_ne_true, d20, Option.bind_some, qz, Option.bind_some, e31, g1, g2, g3]
    by_cases h20 : (x :: xs).length ≤ 20
    · rw [decide_eq_true h20, if_pos rfl, hpar h20, Option.bind_some, q0, decide_eq_true h20, k1, k2]
      simp only [Option.bind_some, q1, q2, hsl, q3, beq_self_eq_true, if_true, Bool.false_eq_true, if_false]
      cases decide (z.size ≤ 200) <;> cases decide (1 ≤ an t2 31) <;> cases decide (an t2 31 ≤ 30) <;> rfl
    · rw [decide_eq_false h20, if_neg Bool.false_ne_true, q0, decide_eq_false h20, k1, k2]
      simp only [Option.bind_some, q1, q2, hsl, q3, beq_self_eq_true, if_true, Bool.false_eq_true, if_false]
      cases decide (z.size ≤ 200) <;> cases decide (1 ≤ an t2 31) <;> cases decide (an t2 31 ≤ 30) <;> rfl
theorem law_paths_ex (t0 : List Int) (t1 t2 : Int) {p q r : Prop} (_ : p) (_ : q) (_ : r) : ∃ n, law17_AclsPaths n t0 t1 t2 = some true := ⟨1000001, law_paths t0 t1 t2⟩
end Go.Proofs.YtkikhbfdadambaaDoor.Ab

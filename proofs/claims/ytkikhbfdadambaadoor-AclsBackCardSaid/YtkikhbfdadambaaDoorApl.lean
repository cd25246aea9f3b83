/-
 A path's parent is all but its last name: the plain law. No program in sight.
-/
import Derived.Test.YtkikhbfdadambaaDoorAwa
import Derived.Test.YtkikhbfdadambaaDoorAwk
import Derived.Test.YtkikhbfdadambaaDoorBb
import Derived.Test.YtkikhbfdadambaaDoorCut
namespace Go.Proofs.YtkikhbfdadambaaDoor.Ab
open Go.RowKit
def nameL (l : List UInt8) : Bool := decide (0 < l.length) && decide (l.length ≤ 30) && (match l.head? with | some x => firstB (x.toNat : Int) | none => false) && l.all fun x => plainB (x.toNat : Int)
theorem nameB_L (s : ByteArray) : nameB s = nameL s.data.toList := by
 unfold nameB nameL
 rw [bsize]
 rfl
theorem atomFirst_some (n : Nat) (c : Int) : atom_first n c = some (firstB c) := first_if c
theorem atomPlain_some (n : Nat) (c : Int) : atom_plain n c = some (plainB c) := by
 unfold atom_plain plainB
 rw [atomFirst_some, Option.bind_some]
 cases firstB c <;> cases c == 95 <;> cases c == 45 <;> simp
theorem atomName_some {n : Nat} (s : ByteArray) (h : s.size < n) (hs : s.size < 4611686018427387904) : atom_Name n s = some (nameB s) := by
 unfold atom_Name
 have hL : atom_Name_L1 n s n 0 = _ := all_loop (L := atom_Name_L1 n s) (s := s) plainB (fun c i x hx hi => by
  rw [atom_Name_L1, dlt hi, if_pos rfl, hx, Option.bind_some, atomPlain_some, Option.bind_some, wr1 (by omega)]) (fun c i hi => by rw [atom_Name_L1, dnlt hi, if_neg (by decide)]) n 0 (by omega) (by omega)
 rw [List.drop_zero] at hL
 exact name_eq (emptyB s) (fun c => atomFirst_some n c) hL
def partsF (ps : List (List UInt8)) : Bool := match ps with
 | p :: qs => p.isEmpty && decide (1 ≤ qs.length) && decide (qs.length ≤ 20) && qs.all nameL
 | [] => false
def pathF (l : List UInt8) : Bool := decide (l = [47]) || (decide (l.length ≤ 200) && partsF (cutL 47 l))
theorem eq47 (s : ByteArray) : (s.toList == ({ data := #[47] } : ByteArray).toList) = decide (s.data.toList = [47]) := by
 rw [Lib.toList_data, Lib.toList_data, Bool.eq_iff_iff, beq_iff_eq, decide_eq_true_eq]
theorem cut_mem (c : UInt8) : ∀ (l p : List UInt8), p ∈ cutL c l → p.length ≤ l.length
 | [], p, h => by
  rw [show cutL c [] = [[]] from rfl, List.mem_singleton] at h
  rw [h]
  exact Nat.le_refl _
 | x :: l, p, h => by
  obtain ⟨q, qs, e⟩ := cutL_ne c l
  have ih := cut_mem c l
  rw [e] at ih
  rw [cutL_cons, e] at h
  rw [List.length_cons]
  split at h
  ·rcases List.mem_cons.1 h with rfl | h
   ·exact Nat.zero_le _
   ·exact Nat.le_succ_of_le (ih p h)
  ·dsimp only at h
   rcases List.mem_cons.1 h with rfl | h
   ·rw [List.length_cons]
    exact Nat.succ_le_succ (ih q (List.mem_cons_self ..))
   ·exact Nat.le_succ_of_le (ih p (List.mem_cons_of_mem _ h))
theorem contains_F {n : Nat} {qs : List ByteArray} (hq : qs.length < 1000000) (hn : 1000000 < n) (hz : ∀ q ∈ qs, q.size < 1000000) : slices_ContainsFunc_string__acls_Path_c1 n qs = some (qs.any fun q => !nameB q) := by
 obtain ⟨r2, e, h⟩ := ixf_loop (L := slices_IndexFunc_string__acls_Path_c1_L1 n qs) (xs := qs) (P := fun q => acls_Path_c1 n q) (fun q => !nameB q) (fun _ _ => rfl) (fun q hq => by
  have := hz q hq
  unfold acls_Path_c1
  rw [atomName_some q (by omega) (by omega)]
  rfl) (by omega) n 0 (by omega) (by omega)
 have e : slices_IndexFunc_string__acls_Path_c1_L1 n qs n 0 = some r2 := e
 rw [List.drop_zero] at h
 unfold slices_ContainsFunc_string__acls_Path_c1 slices_IndexFunc_string__acls_Path_c1
 rw [e, Option.bind_some]
 rcases h with ⟨h1, k, rfl⟩ | ⟨h1, rfl⟩
 ·rw [h1, Option.bind_some, show decide ((0 : Int) ≤ (k : Int)) = true from decide_eq_true (by omega)]
 ·rw [h1]
  rfl
theorem path_F {n : Nat} {s : ByteArray} (hs : s.size < 1000000) (hn : 1000000 < n) : acls_Path n s = some (pathF s.data.toList) := by
 unfold acls_Path pathF
 rw [eq47]
 by_cases h1 : s.data.toList = [47]
 ·rw [decide_eq_true h1]
  rfl
 ·have hsp : strings_Split n s { data := #[47] } = some (splitT 47 s) := by
   unfold strings_Split strings_genSplit
   rw [show one { data := #[47] } = some 47 from rfl]
   dsimp only
   rw [show decide (s.size < 4294967281) = true from decide_eq_true (by omega)]
   rfl
  have hc := splitT_cut 47 s
  have hm := cut_mem 47 s.data.toList
  rw [bsize] at hm
  rw [decide_eq_false h1, if_neg Bool.false_ne_true, Bool.false_or, hsp, Option.bind_some, ← hc, bsize]
  rw [← hc] at hm
  generalize splitT 47 s = ps at hc hm
  cases ps with
  | nil =>
   obtain ⟨a, b, e⟩ := cutL_ne 47 s.data.toList
   rw [e] at hc
   cases hc
  | cons p qs =>
   rw [List.map_cons, partsF, List.length_map]
   have hzq : ∀ q ∈ qs, q.size < 1000000 := fun q hq => by
    have := hm q.data.toList (List.mem_cons_of_mem _ (List.mem_map_of_mem hq))
    rw [bsize] at this
    omega
   have hall : (qs.map (·.data.toList)).all nameL = !(qs.any fun q => !nameB q) := by
    rw [List.all_map, List.not_any_eq_all_not]
    refine congrArg (List.all qs) (funext fun q => ?_)
    rw [nameB_L, Bool.not_not]
    rfl
   have e0 : decide ((200 : Int) < (s.size : Int)) = !decide (s.size ≤ 200) := by rw [Bool.eq_iff_iff]; simp; omega
   have e1 : decide (((p :: qs).length : Int) < 2) = !decide (1 ≤ qs.length) := by rw [Bool.eq_iff_iff, Bool.not_eq_true', decide_eq_true_eq, decide_eq_false_iff_not, List.length_cons]; omega
   have e2 : decide ((21 : Int) < ((p :: qs).length : Int)) = !decide (qs.length ≤ 20) := by rw [Bool.eq_iff_iff, Bool.not_eq_true', decide_eq_true_eq, decide_eq_false_iff_not, List.length_cons]; omega
   have e3 : (p.toList == ({ data := #[] } : ByteArray).toList) = p.data.toList.isEmpty := by
    rw [emptyB, Bool.eq_iff_iff, decide_eq_true_eq, List.isEmpty_iff, ← bsize]
    exact List.length_eq_zero_iff
   have e4 : slc (p :: qs) 1 ((p :: qs).length : Int) = some qs := by
    have := slcS (xs := p :: qs) (a := 1) (b := (p :: qs).length) (by simp) (Nat.le_refl _)
    rw [List.take_length] at this
    exact this
   rw [e0, e1, e2, show idx (p :: qs) 0 = some p from rfl, Option.bind_some, e3, e4, Option.bind_some, hall]
   by_cases hl : qs.length ≤ 20
   ·rw [contains_F (qs := qs) (by omega) hn hzq, Option.bind_some, decide_eq_true hl]
    cases decide (s.size ≤ 200) <;> cases decide (1 ≤ qs.length) <;> cases p.data.toList.isEmpty <;> simp
   ·rw [decide_eq_false hl]
    cases decide (s.size ≤ 200) <;> cases decide (1 ≤ qs.length) <;> cases p.data.toList.isEmpty <;> simp
end Go.Proofs.YtkikhbfdadambaaDoor.Ab

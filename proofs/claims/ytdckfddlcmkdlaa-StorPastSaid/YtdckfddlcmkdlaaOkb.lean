/-
  May a tuple be? What the program's check answers. No program in sight.
-/
import Derived.Test.YtdckfddlcmkdlaaTca
import Derived.Test.YtdckfddlcmkdlaaBb
namespace Go.Proofs.Ytdckfddlcmkdlaa.Ab
open Go.RowKit
theorem atomFirst_some (n : Nat) (c : Int) : atom_first n c = some (firstB c) := first_if c
theorem atomPlain_some (n : Nat) (c : Int) : atom_plain n c = some (plainB c) := by
  unfold atom_plain plainB
  rw [atomFirst_some, Option.bind_some]
  cases firstB c <;> cases c == 95 <;> cases c == 45 <;> simp
theorem atomName_some {n : Nat} (s : ByteArray) (h : s.size < n) (hs : s.size < 4611686018427387904) : atom_Name n s = some (nameB s) := by
  unfold atom_Name
  have hL : atom_Name_L1 n s n 0 = _ := all_loop (L := atom_Name_L1 n s) (s := s) plainB (fun c i x hx hi => by
    rw [atom_Name_L1, dlt hi, if_pos rfl, hx, Option.bind_some, atomPlain_some, Option.bind_some, wr1 (by omega)]) (fun c i hi => by rw [atom_Name_L1, dnlt hi, if_neg (by decide)]) n 0 (by omega) (by omega)
  rw [List.drop_zero] at hL
  exact name_eq (emptyB s) (fun c => atomFirst_some n c) hL
theorem atomID_some {n : Nat} (s : ByteArray) (h : s.size < n) (hs : s.size < 4611686018427387904) : atom_ID n s = some (idB s) := by
  unfold atom_ID
  have hL : atom_ID_L1 n s n 0 = _ := all_loop (L := atom_ID_L1 n s) (s := s) idC (fun c i x hx hi => by
    rw [atom_ID_L1, dlt hi, if_pos rfl, hx, Option.bind_some, atomPlain_some, Option.bind_some, wr1 (by omega)]
    unfold idC
    cases plainB (x.toNat : Int) <;> cases h1 : (x.toNat : Int) == 47 <;> cases h2 : (x.toNat : Int) == 124 <;> cases h3 : (x.toNat : Int) == 42 <;> simp [bne, h1, h2, h3]) (fun c i hi => by rw [atom_ID_L1, dnlt hi, if_neg (by decide)]) n 0 (by omega) (by omega)
  rw [List.drop_zero] at hL
  rw [hL, Option.bind_some]
  unfold idB
  cases s.data.toList.all fun x => idC (x.toNat : Int) with
  | false => rw [if_neg (by decide)]; simp
  | true =>
    rw [if_pos rfl]
    dsimp only
    rw [emptyB]
    by_cases h0 : s.size = 0
    · rw [decide_eq_true h0, if_pos rfl, decide_eq_false (show ¬ 0 < s.size by omega)]
      simp
    · rw [decide_eq_false h0, if_neg (by decide), decide_eq_true (show 0 < s.size by omega)]
      simp
      omega
/-- A tuple's texts are no longer than so. -/
def szT (N : Nat) (t : GTuple) : Prop := t.obj.type_.size ≤ N ∧ t.obj.id_.size ≤ N ∧ t.rel.size ≤ N ∧ t.sub_.type_.size ≤ N ∧ t.sub_.id_.size ≤ N ∧ t.sub_.rel.size ≤ N
/-- May a tuple be? -/
def okB (t : GTuple) : Bool := nameB t.obj.type_ && (idB t.obj.id_ && (nameB t.rel && (nameB t.sub_.type_ && (idB t.sub_.id_ && (decide (t.sub_.rel.size = 0) || nameB t.sub_.rel)))))
theorem ite_and {a : Bool} {x : Option Bool} {b : Bool} (h : x = some b) : (if a then x else some false) = some (a && b) := by
  subst h
  cases a <;> rfl
theorem tuplOk_some {n N : Nat} {t : GTuple} (h : szT N t) (hn : N < n) (hN : N < 4611686018427387904) : tupl_Ok n t = some (okB t) := by
  obtain ⟨h1, h2, h3, h4, h5, h6⟩ := h
  unfold tupl_Ok okB
  rw [atomName_some _ (by omega) (by omega), Option.bind_some, atomID_some _ (by omega) (by omega), Option.bind_some, atomName_some t.rel (by omega) (by omega), Option.bind_some, atomName_some t.sub_.type_ (by omega) (by omega), Option.bind_some, atomID_some t.sub_.id_ (by omega) (by omega), Option.bind_some, atomName_some t.sub_.rel (by omega) (by omega), Option.bind_some, emptyB]
  refine ite_and (ite_and (ite_and (ite_and (ite_and ?_))))
  cases decide (t.sub_.rel.size = 0) <;> rfl
end Go.Proofs.Ytdckfddlcmkdlaa.Ab

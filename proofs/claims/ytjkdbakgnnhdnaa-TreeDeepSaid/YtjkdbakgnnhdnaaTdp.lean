/-
 Groups, each in the one before: their names, their rows, who is found. No program in sight.
-/
import Derived.Test.YtjkdbakgnnhdnaaTrj
import Derived.Test.YtjkdbakgnnhdnaaTqa
namespace Go.Proofs.Ytjkdbakgnnhdnaa.Ab
open Go.RowKit
def nmD (i : Nat) : ByteArray := { data := #[103, (97 + i / 26).toUInt8, (97 + i % 26).toUInt8] }
theorem nmAll : ((List.range 222).all fun i => decide (law10_TreeDeep_c1 nTd (i : Int) = some (nmD i)) && decide (atom_ID nTd (nmD i) = some true)) = true := by kernel_rfl
theorem c1S {i : Nat} (h : i < 222) : law10_TreeDeep_c1 nTd (i : Int) = some (nmD i) := by
 have := List.all_eq_true.1 nmAll i (List.mem_range.2 h)
 rw [Bool.and_eq_true] at this
 exact of_decide_eq_true this.1
theorem idOk {i : Nat} (h : i < 222) : atom_ID nTd (nmD i) = some true := by
 have := List.all_eq_true.1 nmAll i (List.mem_range.2 h)
 rw [Bool.and_eq_true] at this
 exact of_decide_eq_true this.2
theorem u8_inj {a b : Nat} (ha : a < 256) (hb : b < 256) (h : a.toUInt8 = b.toUInt8) : a = b := by
 have := congrArg UInt8.toNat h
 simp only [Nat.toUInt8, UInt8.toNat_ofNat'] at this
 omega
theorem nm_inj {i j : Nat} (hi : i < 222) (hj : j < 222) (h : nmD i = nmD j) : i = j := by
 have h1 : (#[103, (97 + i / 26).toUInt8, (97 + i % 26).toUInt8] : Array UInt8) = #[103, (97 + j / 26).toUInt8, (97 + j % 26).toUInt8] := congrArg ByteArray.data h
 simp only [Array.mk.injEq, List.cons.injEq, and_true, true_and] at h1
 have h2 := u8_inj (by omega) (by omega) h1.1
 have h3 := u8_inj (by omega) (by omega) h1.2
 omega
def bA : ByteArray := { data := #[97] }
def sA : GSub := ⟨bU, bA, ByteArray.empty⟩
def sN (i : Nat) : GSub := ⟨bG, nmD i, bM⟩
def rD (i : Nat) : GRef := ⟨⟨bG, nmD i⟩, bM⟩
theorem rD_inj {i j : Nat} (hi : i < 222) (hj : j < 222) (h : rD i = rD j) : i = j := nm_inj hi hj (by unfold rD at h; simpa using h)
theorem sN_inj {i j : Nat} (hi : i < 222) (hj : j < 222) (h : sN i = sN j) : i = j := nm_inj hi hj (by unfold sN at h; simpa using h)
def tN (i j : Nat) : GTuple := ⟨⟨bG, nmD i⟩, bM, sN j⟩
def tA (i : Nat) : GTuple := ⟨⟨bG, nmD i⟩, bM, sA⟩
def rowsD (m : Nat) (ring : Bool) : List GTuple := (List.range (m - 1)).map (fun i => tN i (i + 1)) ++ [tA (m - 1)] ++ (if ring then [tN 1 0] else [])
theorem nmOk : atom_Name nTd bG = some true ∧ atom_Name nTd bM = some true ∧ atom_Name nTd bU = some true ∧ atom_ID nTd bA = some true := ⟨by kernel_rfl, by kernel_rfl, by kernel_rfl, by kernel_rfl⟩
theorem okN {i j : Nat} (hi : i < 222) (hj : j < 222) : tupl_Ok nTd (tN i j) = some true := by
 unfold tupl_Ok tN sN
 dsimp only
 rw [nmOk.1, Zo, if_pos rfl, idOk hi, Zo, if_pos rfl, nmOk.2.1, Zo, if_pos rfl, Zo, if_pos rfl, idOk hj, Zo, if_pos rfl, beqS, if_neg (by decide)]
 rfl
theorem okA {i : Nat} (hi : i < 222) : tupl_Ok nTd (tA i) = some true := by
 unfold tupl_Ok tA sA
 dsimp only
 rw [nmOk.1, Zo, if_pos rfl, idOk hi, Zo, if_pos rfl, nmOk.2.1, Zo, if_pos rfl, nmOk.2.2.1, Zo, if_pos rfl, nmOk.2.2.2, Zo, if_pos rfl, beqS, if_pos (by decide)]
theorem fitsN {i j : Nat} (hi : i < 222) (hj : j < 222) : well_Schema_Fits nTd schemaG (tN i j) = some true := by
 unfold well_Schema_Fits
 rw [show well_Schema_Rel nTd schemaG (tN i j).obj.type_ (tN i j).rel = some (relG, true) from rfl, Zo, okN hi hj, Zo, if_pos rfl]
 rfl
theorem fitsA {i : Nat} (hi : i < 222) : well_Schema_Fits nTd schemaG (tA i) = some true := by
 unfold well_Schema_Fits
 rw [show well_Schema_Rel nTd schemaG (tA i).obj.type_ (tA i).rel = some (relG, true) from rfl, Zo, okA hi, Zo, if_pos rfl]
 rfl
theorem mem_rows {m : Nat} {ring : Bool} {t : GTuple} : t ∈ rowsD m ring ↔ (∃ i < m - 1, t = tN i (i + 1)) ∨ t = tA (m - 1) ∨ (ring = true ∧ t = tN 1 0) := by
 unfold rowsD
 rw [List.mem_append, List.mem_append, List.mem_map]
 constructor
 ·rintro ((⟨i, h1, h2⟩ | h) | h)
  ·exact .inl ⟨i, List.mem_range.1 h1, h2.symm⟩
  ·exact .inr (.inl (List.mem_singleton.1 h))
  ·cases ring with
   | true => exact .inr (.inr ⟨rfl, List.mem_singleton.1 h⟩)
   | false => cases h
 ·rintro (⟨i, h1, h2⟩ | h | ⟨rfl, h⟩)
  ·exact .inl (.inl ⟨i, List.mem_range.2 h1, h2.symm⟩)
  ·exact .inl (.inr (List.mem_singleton.2 h))
  ·exact .inr (List.mem_singleton.2 h)
theorem rowsD_len {m : Nat} {ring : Bool} (hm : m < 222) : (rowsD m ring).length ≤ 10000 := by
 unfold rowsD
 rw [List.length_append, List.length_append, List.length_map, List.length_range, List.length_singleton]
 cases ring
 ·show m - 1 + 1 + 0 ≤ 10000
  omega
 ·show m - 1 + 1 + 1 ≤ 10000
  omega
theorem rows_fit {m : Nat} {ring : Bool} (h1 : 0 < m) (hm : m < 222) : ∀ t ∈ rowsD m ring, well_Schema_Fits nTd schemaG t = some true := fun t ht => by
 rcases mem_rows.1 ht with ⟨i, hi, rfl⟩ | rfl | ⟨_, rfl⟩
 ·exact fitsN (by omega) (by omega)
 ·exact fitsA (by omega)
 ·exact fitsN (by omega) (by omega)
def gD (m : Nat) (ring : Bool) : SeekGraph := ⟨schemaG, ixO (rowsD m ring), rowsD m ring⟩
theorem ofD {m : Nat} {ring : Bool} (h1 : 0 < m) (hm : m < 222) : seek_Of nTd typesG (rowsD m ring) = some (gD m ring, 0) := by
 rw [of_loop _ (rows_fit h1 hm) (rowsD_len hm), lookOf_some (by have := rowsD_len (ring := ring) hm; omega) (by decide)]
 rfl
theorem subs_mem {m i : Nat} {ring : Bool} (hm : m < 222) (hi : i < m) {s : GSub} : s ∈ fSubs (tO.ofL (rowsD m ring)) ⟨bG, nmD i⟩ bM ↔ (i + 1 < m ∧ s = sN (i + 1)) ∨ (i + 1 = m ∧ s = sA) ∨ (ring = true ∧ i = 1 ∧ s = sN 0) := by
 rw [mem_fSubs]
 constructor
 ·rintro ⟨t, ht, ho, _, rfl⟩
  rcases mem_rows.1 ht with ⟨j, hj, rfl⟩ | rfl | ⟨hr, rfl⟩
  ·obtain rfl : j = i := nm_inj (by omega) (by omega) (congrArg GObj.id_ ho)
   exact .inl ⟨by omega, rfl⟩
  ·have : m - 1 = i := nm_inj (by omega) (by omega) (congrArg GObj.id_ ho)
   exact .inr (.inl ⟨by omega, rfl⟩)
  ·obtain rfl : 1 = i := nm_inj (by omega) (by omega) (congrArg GObj.id_ ho)
   exact .inr (.inr ⟨hr, rfl, rfl⟩)
 ·rintro (⟨h1, rfl⟩ | ⟨h1, rfl⟩ | ⟨h1, rfl, rfl⟩)
  ·exact ⟨tN i (i + 1), mem_rows.2 (.inl ⟨i, by omega, rfl⟩), rfl, rfl, rfl⟩
  ·refine ⟨tA (m - 1), mem_rows.2 (.inr (.inl rfl)), ?_, rfl, rfl⟩
   rw [← h1]
   rfl
  ·exact ⟨tN 1 0, mem_rows.2 (.inr (.inr ⟨h1, rfl⟩)), rfl, rfl, rfl⟩
theorem subs_nodup (l : List GTuple) (o : GObj) (rel : ByteArray) : (fSubs (tO.ofL l) o rel).Nodup := by
 unfold fSubs
 have h := (tO.rises_ofL l).imp fun hxy => tO.ne hxy
 refine List.pairwise_map.2 ((List.Pairwise.filter _ h).imp_of_mem fun {a b} ha hb hab he => hab ?_)
 have h1 := eq_of_beq (List.mem_filter.1 ha).2
 have h2 := eq_of_beq (List.mem_filter.1 hb).2
 obtain ⟨ao, ar, a3⟩ := a
 obtain ⟨bo, br, b3⟩ := b
 simp only [kR, GRef.mk.injEq] at h1 h2
 obtain ⟨rfl, rfl⟩ := h1
 obtain ⟨rfl, rfl⟩ := h2
 cases he
 rfl
theorem one_of {α : Type} {l : List α} {a : α} (hn : l.Nodup) (h : ∀ x, x ∈ l ↔ x = a) : l = [a] := by
 cases l with
 | nil => exact absurd ((h a).2 rfl) (by simp)
 | cons b r =>
  obtain rfl := (h b).1 (by simp)
  cases r with
  | nil => rfl
  | cons c r =>
   obtain rfl := (h c).1 (by simp)
   simp at hn
theorem two_of {α : Type} {l : List α} {a b : α} (hab : a ≠ b) (hn : l.Nodup) (h : ∀ x, x ∈ l ↔ x = a ∨ x = b) : l = [a, b] ∨ l = [b, a] := by
 cases l with
 | nil => exact absurd ((h a).2 (.inl rfl)) (by simp)
 | cons c r =>
  have hc := (List.nodup_cons.1 hn).1
  rcases (h c).1 (by simp) with rfl | rfl
  ·refine .inl (congrArg _ (one_of (List.nodup_cons.1 hn).2 fun x => ?_))
   constructor
   ·intro hx
    rcases (h x).1 (List.mem_cons_of_mem _ hx) with rfl | rfl
    ·exact absurd hx hc
    ·rfl
   ·rintro rfl
    rcases List.mem_cons.1 ((h x).2 (.inr rfl)) with e | e
    ·exact absurd e.symm hab
    ·exact e
  ·refine .inr (congrArg _ (one_of (List.nodup_cons.1 hn).2 fun x => ?_))
   constructor
   ·intro hx
    rcases (h x).1 (List.mem_cons_of_mem _ hx) with rfl | rfl
    ·rfl
    ·exact absurd hx hc
   ·rintro rfl
    rcases List.mem_cons.1 ((h x).2 (.inl rfl)) with e | e
    ·exact absurd e hab
    ·exact e
theorem subs_mid {m i : Nat} {ring : Bool} (hm : m < 222) (hi : i + 1 < m) (hr : ring = true → i ≠ 1) : fSubs (tO.ofL (rowsD m ring)) ⟨bG, nmD i⟩ bM = [sN (i + 1)] := by
 refine one_of (subs_nodup _ _ _) fun s => ?_
 rw [subs_mem hm (by omega)]
 constructor
 ·rintro (⟨_, h⟩ | ⟨h, _⟩ | ⟨h1, h2, _⟩)
  ·exact h
  ·omega
  ·exact absurd h2 (hr h1)
 ·exact fun h => .inl ⟨hi, h⟩
theorem subs_last {m i : Nat} {ring : Bool} (hm : m < 222) (h2 : 2 < m) (hi : i + 1 = m) : fSubs (tO.ofL (rowsD m ring)) ⟨bG, nmD i⟩ bM = [sA] := by
 refine one_of (subs_nodup _ _ _) fun s => ?_
 rw [subs_mem hm (by omega)]
 constructor
 ·rintro (⟨h, _⟩ | ⟨_, h⟩ | ⟨_, h, _⟩)
  ·omega
  ·exact h
  ·omega
 ·exact fun h => .inr (.inl ⟨hi, h⟩)
theorem subs_ring {m : Nat} {ring : Bool} (hr : ring = true) (hm : m < 222) (h2 : 2 < m) : fSubs (tO.ofL (rowsD m ring)) ⟨bG, nmD 1⟩ bM = [sN 2, sN 0] ∨ fSubs (tO.ofL (rowsD m ring)) ⟨bG, nmD 1⟩ bM = [sN 0, sN 2] := by
 refine two_of (fun h => by have := sN_inj (by omega) (by omega) h; omega) (subs_nodup _ _ _) fun s => ?_
 rw [subs_mem hm (by omega)]
 constructor
 ·rintro (⟨_, h⟩ | ⟨h, _⟩ | ⟨_, _, h⟩)
  ·exact .inl h
  ·omega
  ·exact .inr h
 ·rintro (h | h)
  ·exact .inl ⟨h2, h⟩
  ·exact .inr (.inr ⟨hr, rfl, h⟩)
theorem lookDs {m : Nat} {ring : Bool} (hm : m < 222) (o : GObj) (rel : ByteArray) : look_left_Subs nTd (gD m ring).index.left o rel = some (fSubs (tO.ofL (rowsD m ring)) o rel) := look_subs (by have := rowsD_len (ring := ring) hm; omega) o rel
end Go.Proofs.Ytjkdbakgnnhdnaa.Ab

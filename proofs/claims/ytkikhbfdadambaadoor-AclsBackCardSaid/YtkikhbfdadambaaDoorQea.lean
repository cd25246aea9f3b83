/-
 An entry that is read is told back as it was. No program in sight.
-/
import Derived.Test.YtkikhbfdadambaaDoorApl
namespace Go.Proofs.YtkikhbfdadambaaDoor.Ab
open Go.RowKit
theorem join_cutL (c : UInt8) : ∀ l : List UInt8, Lib.join (cutL c l) [c] = l
 | [] => rfl
 | x :: l => by
  obtain ⟨p, ps, e⟩ := cutL_ne c l
  have ih := join_cutL c l
  rw [cutL_cons, e]
  rw [e, Lib.join_cons] at ih
  by_cases hx : x = c
  ·rw [if_pos hx, Lib.join_cons, hx, ← ih]
   unfold Lib.joinTail
   simp
  ·rw [if_neg hx]
   dsimp only
   rw [Lib.join_cons, List.cons_append, ih]
theorem split_some (n : Nat) {s : ByteArray} (c : UInt8) (hs : s.size < 1000000) : strings_Split n s ⟨#[c]⟩ = some (splitT c s) := by
 unfold strings_Split strings_genSplit
 rw [show one ⟨#[c]⟩ = some c from rfl]
 dsimp only
 rw [show decide (s.size < 4294967281) = true from decide_eq_true (by omega)]
 rfl
theorem eqT (s t : ByteArray) : (s.toList == t.toList) = decide (s.data.toList = t.data.toList) := by
 rw [Lib.toList_data, Lib.toList_data, Bool.eq_iff_iff, beq_iff_eq, decide_eq_true_eq]
def bch (k m : Nat) (y : UInt8) : UInt8 := if k / m % 2 = 1 then y else 45
def bitL (k : Nat) : List UInt8 := [bch k 4 114, bch k 2 119, bch k 1 120]
theorem bits_step {n : Nat} {s : ByteArray} {c m i : Nat} {x : UInt8} (hi : i < 3) (hm : m ≤ 3) (hx : bidx s (i : Int) = some (x.toNat : Int)) : acls_bitsOf_L1 n s (c + 1) ((m : Int), (i : Int)) = if x = [114, 119, 120].getD i 0 then acls_bitsOf_L1 n s c (((2 * m + 1 : Nat) : Int), ((i + 1 : Nat) : Int)) else if x = 45 then acls_bitsOf_L1 n s c (((2 * m : Nat) : Int), ((i + 1 : Nat) : Int)) else some (.inr (0, false)) := by
 have e1 : ∀ k : Nat, k < 256 → ((x.toNat : Int) == (k : Int)) = decide (x = UInt8.ofNat k) := fun k hk => by
  rw [Bool.eq_iff_iff, beq_iff_eq, decide_eq_true_eq, ← UInt8.toNat_inj, UInt8.toNat_ofNat']
  omega
 have e45 : ((x.toNat : Int) == 45) = decide (x = 45) := e1 45 (by decide)
 have esl : IntKind.i64.wrap (IntKind.i64.wrap (sl (m : Int) 1) + 1) = ((2 * m + 1 : Nat) : Int) ∧ IntKind.i64.wrap (sl (m : Int) 1) = ((2 * m : Nat) : Int) := by
  match m, hm with
  | 0, _ | 1, _ | 2, _ | 3, _ => exact ⟨rfl, rfl⟩
 have ei : IntKind.i64.wrap ((i : Int) + 1) = ((i + 1 : Nat) : Int) := wr1 (by omega)
 have e3 : decide ((i : Int) < 3) = true := decide_eq_true (by omega)
 rw [acls_bitsOf_L1, e3, if_pos rfl, hx, Option.bind_some, esl.1, esl.2, ei, e45]
 have hy : bidx ⟨#[114, 119, 120]⟩ (i : Int) = some ((([114, 119, 120].getD i 0 : UInt8).toNat : Nat) : Int) := by
  match i, hi with
  | 0, _ | 1, _ | 2, _ => rfl
 have hyl : ([114, 119, 120].getD i 0 : UInt8).toNat < 256 := UInt8.toNat_lt _
 rw [hy, Option.bind_some, e1 _ hyl, UInt8.ofNat_toNat]
 by_cases h1 : x = [114, 119, 120].getD i 0
 ·rw [decide_eq_true h1, if_pos rfl, if_pos h1]
 ·rw [decide_eq_false h1, if_neg Bool.false_ne_true, if_neg h1]
  by_cases h2 : x = 45
  ·rw [decide_eq_true h2, if_pos rfl, if_pos h2]
  ·rw [decide_eq_false h2, if_neg Bool.false_ne_true, if_neg h2]
theorem bits_end {n : Nat} {s : ByteArray} {c m : Nat} : acls_bitsOf_L1 n s (c + 1) ((m : Int), ((3 : Nat) : Int)) = some (.inl (m : Int)) := by
 rw [acls_bitsOf_L1]
 rfl
theorem bits_some {n : Nat} (hn : 1000000 < n) (s : ByteArray) : ∃ (m : Int) (b : Bool), acls_bitsOf n s = some (m, b) ∧ (b = true → ∃ k : Nat, m = k ∧ k ≤ 7 ∧ s.data.toList = bitL k) := by
 unfold acls_bitsOf
 by_cases hz : s.size = 3
 ·obtain ⟨x, y, z, hl⟩ : ∃ x y z, s.data.toList = [x, y, z] := by
   have h3 : s.data.toList.length = 3 := by rw [bsize, hz]
   match hs : s.data.toList, h3 with
   | [x, y, z], _ => exact ⟨x, y, z, rfl⟩
  have b0 : bidx s ((0 : Nat) : Int) = some (x.toNat : Int) := by rw [bidxS (by omega)]; simp [hl]
  have b1 : bidx s ((1 : Nat) : Int) = some (y.toNat : Int) := by rw [bidxS (by omega)]; simp [hl]
  have b2 : bidx s ((2 : Nat) : Int) = some (z.toNat : Int) := by rw [bidxS (by omega)]; simp [hl]
  obtain ⟨c, rfl⟩ : ∃ c, n = c + 1 + 1 + 1 + 1 := ⟨n - 4, by omega⟩
  generalize hN : c + 1 + 1 + 1 + 1 = N
  have e0 : (((s.size : Nat) : Int) != 3) = false := by rw [hz]; rfl
  rw [e0, if_neg Bool.false_ne_true, ← hN]
  generalize hN2 : c + 1 + 1 + 1 + 1 = N2 at hN
  have s0 := bits_step (n := N2) (s := s) (c := c + 1 + 1 + 1) (m := 0) (i := 0) (by decide) (by decide) b0
  have start : acls_bitsOf_L1 N2 s (c + 1 + 1 + 1 + 1) (0, 0) = _ := s0
  rw [← hN2] at *
  rw [start]
  have stop : ∃ (m : Int) (b : Bool), (some (Sum.inr (0, false)) : Option (Int ⊕ (Int × Bool))).bind (fun | .inl n_3 => some (n_3, true) | .inr r => some r) = some (m, b) ∧ (b = true → ∃ k : Nat, m = k ∧ k ≤ 7 ∧ s.data.toList = bitL k) := ⟨0, false, rfl, fun h => by cases h⟩
  have fin : ∀ m : Nat, m ≤ 7 → [x, y, z] = bitL m → ∃ (m' : Int) (b : Bool), (some (Sum.inl (m : Int)) : Option (Int ⊕ (Int × Bool))).bind (fun | .inl n_3 => some (n_3, true) | .inr r => some r) = some (m', b) ∧ (b = true → ∃ k : Nat, m' = k ∧ k ≤ 7 ∧ s.data.toList = bitL k) := fun m hm he => ⟨m, true, rfl, fun _ => ⟨m, rfl, hm, hl.trans he⟩⟩
  have third : ∀ m : Nat, m ≤ 3 → (∀ z', (z' = 120 ∨ z' = 45) → [x, y, z'] = bitL (2 * m + if z' = 120 then 1 else 0)) → ∃ (m' : Int) (b : Bool), (acls_bitsOf_L1 (c + 1 + 1 + 1 + 1) s (c + 1 + 1) ((m : Int), ((2 : Nat) : Int))).bind (fun | .inl n_3 => some (n_3, true) | .inr r => some r) = some (m', b) ∧ (b = true → ∃ k : Nat, m' = k ∧ k ≤ 7 ∧ s.data.toList = bitL k) := by
   intro m hm he
   rw [bits_step (by decide) hm b2]
   by_cases h1 : z = [114, 119, 120].getD 2 0
   ·rw [if_pos h1, bits_end]
    exact fin _ (by omega) (by have := he z (.inl h1); rw [if_pos (show z = 120 from h1)] at this; exact this)
   ·rw [if_neg h1]
    by_cases h2 : z = 45
    ·rw [if_pos h2, bits_end]
     exact fin _ (by omega) (by have := he z (.inr h2); rw [if_neg (show ¬ z = 120 from h1)] at this; exact this)
    ·rw [if_neg h2]
     exact stop
  have second : ∀ m : Nat, m ≤ 1 → (∀ y' z', (y' = 119 ∨ y' = 45) → (z' = 120 ∨ z' = 45) → [x, y', z'] = bitL (2 * (2 * m + if y' = 119 then 1 else 0) + if z' = 120 then 1 else 0)) → ∃ (m' : Int) (b : Bool), (acls_bitsOf_L1 (c + 1 + 1 + 1 + 1) s (c + 1 + 1 + 1) ((m : Int), ((1 : Nat) : Int))).bind (fun | .inl n_3 => some (n_3, true) | .inr r => some r) = some (m', b) ∧ (b = true → ∃ k : Nat, m' = k ∧ k ≤ 7 ∧ s.data.toList = bitL k) := by
   intro m hm he
   rw [bits_step (by decide) (by omega) b1]
   by_cases h1 : y = [114, 119, 120].getD 1 0
   ·rw [if_pos h1]
    exact third _ (by omega) fun z' hz' => by have := he y z' (.inl h1) hz'; rw [if_pos (show y = 119 from h1)] at this; exact this
   ·rw [if_neg h1]
    by_cases h2 : y = 45
    ·rw [if_pos h2]
     exact third _ (by omega) fun z' hz' => by have := he y z' (.inr h2) hz'; rw [if_neg (show ¬ y = 119 from h1)] at this; exact this
    ·rw [if_neg h2]
     exact stop
  by_cases h1 : x = [114, 119, 120].getD 0 0
  ·rw [if_pos h1]
   refine second _ (by omega) fun y' z' hy hz' => ?_
   rw [show x = 114 from h1]
   rcases hy with rfl | rfl <;> rcases hz' with rfl | rfl <;> rfl
  ·rw [if_neg h1]
   by_cases h2 : x = 45
   ·rw [if_pos h2]
    refine second _ (by omega) fun y' z' hy hz' => ?_
    rw [h2]
    rcases hy with rfl | rfl <;> rcases hz' with rfl | rfl <;> rfl
   ·rw [if_neg h2]
    exact stop
 ·have e0 : (((s.size : Nat) : Int) != 3) = true := by rw [bne_iff_ne]; omega
  rw [e0, if_pos rfl]
  exact ⟨0, false, rfl, fun h => by cases h⟩
def letterT : List ByteArray := [{ data := #[] }, { data := #[117] }, { data := #[117] }, { data := #[103] }, { data := #[103] }, { data := #[109] }, { data := #[111] }]
theorem kind_some (n : Nat) (s : ByteArray) (b : Bool) : ∃ k : Nat, acls_kindOf n s b = some (k : Int) ∧ k ≤ 6 ∧ (0 < k → letterT[k]? = some s) := by
 have key : ∀ (k : Nat) (t : ByteArray), s.data.toList = t.data.toList → letterT[k]? = some t → letterT[k]? = some s := fun k t h1 h2 => by rw [bytes_inj h1]; exact h2
 unfold acls_kindOf
 rw [eqT, eqT, eqT, eqT]
 by_cases h1 : s.data.toList = ({ data := #[117] } : ByteArray).data.toList
 ·rw [decide_eq_true h1]
  cases b
  ·exact ⟨1, rfl, by decide, fun _ => key 1 _ h1 rfl⟩
  ·exact ⟨2, rfl, by decide, fun _ => key 2 _ h1 rfl⟩
 ·rw [decide_eq_false h1]
  by_cases h2 : s.data.toList = ({ data := #[103] } : ByteArray).data.toList
  ·rw [decide_eq_true h2]
   cases b
   ·exact ⟨3, rfl, by decide, fun _ => key 3 _ h2 rfl⟩
   ·exact ⟨4, rfl, by decide, fun _ => key 4 _ h2 rfl⟩
  ·rw [decide_eq_false h2]
   by_cases h3 : s.data.toList = ({ data := #[109] } : ByteArray).data.toList
   ·rw [decide_eq_true h3]
    cases b
    ·exact ⟨5, rfl, by decide, fun _ => key 5 _ h3 rfl⟩
    ·refine ⟨0, ?_, by decide, fun h => absurd h (by decide)⟩
     cases decide (s.data.toList = ({ data := #[111] } : ByteArray).data.toList) <;> rfl
   ·rw [decide_eq_false h3]
    by_cases h4 : s.data.toList = ({ data := #[111] } : ByteArray).data.toList
    ·rw [decide_eq_true h4]
     cases b
     ·exact ⟨6, rfl, by decide, fun _ => key 6 _ h4 rfl⟩
     ·exact ⟨0, rfl, by decide, fun h => absurd h (by decide)⟩
    ·rw [decide_eq_false h4]
     exact ⟨0, rfl, by decide, fun h => absurd h (by decide)⟩
theorem told_bits {n : Nat} {x : GEntry} {k : Nat} (hk : k ≤ 7) (hb : x.bits = (k : Int)) : ∀ (i c : Nat) (s : ByteArray), i ≤ 3 → s.size ≤ 100000 + i → 3 - i < c → ∃ r : ByteArray, acls_told_L1 n x c (s, (i : Int)) = some r ∧ r.data.toList = s.data.toList ++ (bitL k).drop i
 | _, 0, _, _, _, h => by omega
 | i, c + 1, s, hi, hs, hc => by
  rw [acls_told_L1]
  by_cases h : i < 3
  ·have e3 : decide ((i : Int) < 3) = true := decide_eq_true (by omega)
   have ey : (bitL k)[i]? = some ((bitL k).getD i 0) := by
    match i, h with
    | 0, _ | 1, _ | 2, _ => rfl
   have hcat : cat s ⟨#[(bitL k).getD i 0]⟩ = some (s ++ ⟨#[(bitL k).getD i 0]⟩) := catS (by show s.size + 1 ≤ _; unfold maxLen; omega)
   have e2 : (grd (decide (0 ≤ (IntKind.i64.wrap (2 - (i : Int))))) <|
   (if ((IntKind.i64.wrap (an (sh x.bits (Int.toNat (IntKind.i64.wrap (2 - (i : Int))))) 1 : Int)) == 1) then
    (bslc ({ data := #[114, 119, 120] }) (i : Int) (IntKind.i64.wrap ((i : Int) + 1))).bind fun s8 =>
    (cat s s8).bind fun s9 =>
    acls_told_L1 n x c (s9, (IntKind.i64.wrap ((i : Int) + 1)))
   else
    (cat s ({ data := #[45] })).bind fun s10 =>
    acls_told_L1 n x c (s10, (IntKind.i64.wrap ((i : Int) + 1))))) = (cat s ⟨#[(bitL k).getD i 0]⟩).bind (fun s9 => acls_told_L1 n x c (s9, ((i + 1 : Nat) : Int))) := by
    rw [hb]
    generalize acls_told_L1 n x c = L
    match i, h, k, hk with
    | 0, _, 0, _ | 0, _, 1, _ | 0, _, 2, _ | 0, _, 3, _ | 0, _, 4, _ | 0, _, 5, _ | 0, _, 6, _ | 0, _, 7, _ => rfl
    | 1, _, 0, _ | 1, _, 1, _ | 1, _, 2, _ | 1, _, 3, _ | 1, _, 4, _ | 1, _, 5, _ | 1, _, 6, _ | 1, _, 7, _ => rfl
    | 2, _, 0, _ | 2, _, 1, _ | 2, _, 2, _ | 2, _, 3, _ | 2, _, 4, _ | 2, _, 5, _ | 2, _, 6, _ | 2, _, 7, _ => rfl
   have s1 : (s ++ ⟨#[(bitL k).getD i 0]⟩ : ByteArray).size = s.size + 1 := ByteArray.size_append
   obtain ⟨r, r1, r2⟩ := told_bits (n := n) hk hb (i + 1) c (s ++ ⟨#[(bitL k).getD i 0]⟩) (by omega) (by omega) (by omega)
   rw [e3, if_pos rfl, e2, hcat, Option.bind_some]
   refine ⟨r, r1, ?_⟩
   have hlt := (List.getElem?_eq_some_iff.1 ey).1
   rw [r2, list_app, List.append_assoc, List.drop_eq_getElem_cons hlt, (List.getElem?_eq_some_iff.1 ey).2]
   rfl
  ·have h3 : i = 3 := by omega
   subst h3
   exact ⟨s, rfl, by simp [bitL]⟩
theorem told_some {n : Nat} (hn : 1000000 < n) {x : GEntry} {k m : Nat} {t : ByteArray} (h1 : x.kind = (k : Int)) (h2 : 0 < k) (h3 : k ≤ 6) (h4 : letterT[k]? = some t) (h5 : x.bits = (m : Int)) (h6 : m ≤ 7) (h7 : x.name.size ≤ 1000) (h8 : t.size ≤ 1) : ∃ r : ByteArray, acls_told n x = some r ∧ r.data.toList = (if x.default then [100, 58] else []) ++ (t.data.toList ++ 58 :: (x.name.data.toList ++ 58 :: bitL m)) := by
 have ec : ((if (decide (x.kind < 1)) then
   some true
  else
   (if (decide (7 ≤ x.kind)) then
    some true
   else
    (if (decide (x.bits < 0)) then
     some true
    else
     some (decide (7 < x.bits))))) : Option (Bool)) = some false := by
  rw [show decide (x.kind < 1) = false from decide_eq_false (by omega), if_neg Bool.false_ne_true, show decide (7 ≤ x.kind) = false from decide_eq_false (by omega), if_neg Bool.false_ne_true, show decide (x.bits < 0) = false from decide_eq_false (by omega), if_neg Bool.false_ne_true, show decide (7 < x.bits) = false from decide_eq_false (by omega)]
 have ea : aix 7 x.kind = some k := by
  rw [h1]
  unfold aix
  rw [if_pos (by omega)]
  simp
 have s1 : (t ++ ⟨#[58]⟩ : ByteArray).size = t.size + 1 := ByteArray.size_append
 have s2 : (t ++ ⟨#[58]⟩ ++ x.name : ByteArray).size = t.size + 1 + x.name.size := by rw [ByteArray.size_append, s1]
 have s3 : (t ++ ⟨#[58]⟩ ++ x.name ++ ⟨#[58]⟩ : ByteArray).size = t.size + 1 + x.name.size + 1 := by rw [ByteArray.size_append, s2]; rfl
 have s4 : ((⟨#[100, 58]⟩ : ByteArray) ++ (t ++ ⟨#[58]⟩ ++ x.name ++ ⟨#[58]⟩)).size = 2 + (t.size + 1 + x.name.size + 1) := by rw [ByteArray.size_append, s3]; rfl
 unfold letterT at h4
 unfold acls_told
 rw [ec, Option.bind_some, if_neg Bool.false_ne_true, ea, Option.bind_some, h4, Option.bind_some, catS (by show t.size + 1 ≤ _; unfold maxLen; omega), Option.bind_some, catS (by rw [s1]; unfold maxLen; omega), Option.bind_some, catS (by rw [s2]; show _ + 1 ≤ _; unfold maxLen; omega), Option.bind_some]
 cases hd : x.default with
 | false =>
  obtain ⟨r, r1, r2⟩ := told_bits (n := n) h6 h5 0 n (t ++ ⟨#[58]⟩ ++ x.name ++ ⟨#[58]⟩) (by omega) (by omega) (by omega)
  have r1 : acls_told_L1 n x n (t ++ ⟨#[58]⟩ ++ x.name ++ ⟨#[58]⟩, 0) = some r := r1
  rw [if_neg Bool.false_ne_true, Option.bind_some]
  dsimp only
  rw [r1, Option.bind_some]
  refine ⟨r, rfl, ?_⟩
  rw [r2, list_app, list_app, list_app]
  simp
 | true =>
  obtain ⟨r, r1, r2⟩ := told_bits (n := n) h6 h5 0 n ((⟨#[100, 58]⟩ : ByteArray) ++ (t ++ ⟨#[58]⟩ ++ x.name ++ ⟨#[58]⟩)) (by omega) (by omega) (by omega)
  have r1 : acls_told_L1 n x n ((⟨#[100, 58]⟩ : ByteArray) ++ (t ++ ⟨#[58]⟩ ++ x.name ++ ⟨#[58]⟩), 0) = some r := r1
  rw [if_pos rfl, catS (by rw [s3]; show 2 + _ ≤ _; unfold maxLen; omega), Option.bind_some, Option.bind_some]
  dsimp only
  rw [r1, Option.bind_some]
  refine ⟨r, rfl, ?_⟩
  rw [r2, list_app, list_app, list_app, list_app]
  simp
end Go.Proofs.YtkikhbfdadambaaDoor.Ab

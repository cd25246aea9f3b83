/-
  Each entry is its kind, name and bits: the plain law, reckoned row by row.
-/
import Derived.Test.YtkikhbfdadambaaDoorAfa
import Derived.Test.YtkikhbfdadambaaDoorAwk
import Derived.Test.YtkikhbfdadambaaDoorPk
namespace Go.Proofs.YtkikhbfdadambaaDoor.Ab
open Go.RowKit
def bitT (m k : Nat) : UInt8 := if m / (2 ^ (2 - k)) % 2 = 1 then (if k = 0 then 114 else if k = 1 then 119 else 120) else 45
def bitsT (m : Nat) : ByteArray := ⟨#[bitT m 0, bitT m 1, bitT m 2]⟩
theorem an7 (t : Int) : IntKind.i64.wrap (an t 7 : Int) = (an t 7 : Nat) := wrap_an _ _ (by decide)
theorem an7_lt (t : Int) : an t 7 < 8 := Nat.lt_succ_of_le (Nat.le_trans (an_le _ _) (by decide))
theorem forms_bits (t1 : Int) : law17_AclsForms_L1 1000001 t1 1000001 (⟨#[]⟩, 0) = some (bitsT (an t1 7)) := by
  have h := an7_lt t1
  have e : ∀ c s i, law17_AclsForms_L1 1000001 t1 (c + 1) (s, i) = (if (decide (i < 3)) then
      grd (decide (0 ≤ (IntKind.u64.wrap i))) <|
      (if ((IntKind.i64.wrap (an ((an t1 7 : Nat) : Int) (sh 4 (Int.toNat (IntKind.u64.wrap i))) : Int)) != 0) then
        (bslc ({ data := #[114, 119, 120] }) i (IntKind.i64.wrap (i + 1))).bind fun s4 =>
        (cat s s4).bind fun s5 =>
        law17_AclsForms_L1 1000001 t1 c (s5, (IntKind.i64.wrap (i + 1)))
      else
        (cat s ({ data := #[45] })).bind fun s6 =>
        law17_AclsForms_L1 1000001 t1 c (s6, (IntKind.i64.wrap (i + 1))))
    else
      some s) := fun c s i => by rw [law17_AclsForms_L1, an7]
  generalize an t1 7 = m at *
  have step : ∀ (i : Nat), i < 3 → ∀ c s, s.size ≤ 100 → law17_AclsForms_L1 1000001 t1 (c + 1) (s, (i : Int)) = law17_AclsForms_L1 1000001 t1 c (s ++ ⟨#[bitT m i]⟩, ((i + 1 : Nat) : Int)) := by
    intro i hi c s hs
    have hcat : cat s ⟨#[bitT m i]⟩ = some (s ++ ⟨#[bitT m i]⟩) := catS (by show s.size + 1 ≤ _; unfold maxLen; omega)
    have e2 : law17_AclsForms_L1 1000001 t1 (c + 1) (s, (i : Int)) = (cat s ⟨#[bitT m i]⟩).bind (fun s5 => law17_AclsForms_L1 1000001 t1 c (s5, ((i + 1 : Nat) : Int))) := by
      rw [e]
      generalize law17_AclsForms_L1 1000001 t1 c = L
      match i, hi, m, h with
      | 0, _, 0, _ | 0, _, 1, _ | 0, _, 2, _ | 0, _, 3, _ | 0, _, 4, _ | 0, _, 5, _ | 0, _, 6, _ | 0, _, 7, _ => rfl
      | 1, _, 0, _ | 1, _, 1, _ | 1, _, 2, _ | 1, _, 3, _ | 1, _, 4, _ | 1, _, 5, _ | 1, _, 6, _ | 1, _, 7, _ => rfl
      | 2, _, 0, _ | 2, _, 1, _ | 2, _, 2, _ | 2, _, 3, _ | 2, _, 4, _ | 2, _, 5, _ | 2, _, 6, _ | 2, _, 7, _ => rfl
    rw [e2, hcat, Option.bind_some]
  have hz1 : ((⟨#[]⟩ : ByteArray) ++ ⟨#[bitT m 0]⟩).size ≤ 100 := by rw [ByteArray.size_append]; exact Nat.le_of_ble_eq_true rfl
  have hz2 : ((⟨#[]⟩ : ByteArray) ++ ⟨#[bitT m 0]⟩ ++ ⟨#[bitT m 1]⟩).size ≤ 100 := by rw [ByteArray.size_append, ByteArray.size_append]; exact Nat.le_of_ble_eq_true rfl
  have a1 := step 0 (by decide) 1000000 ⟨#[]⟩ (Nat.le_of_ble_eq_true rfl)
  have a2 := step 1 (by decide) 999999 _ hz1
  have a3 := step 2 (by decide) 999998 _ hz2
  refine (a1.trans (a2.trans a3)).trans ?_
  refine (e 999997 _ _).trans ?_
  rw [show decide (((2 + 1 : Nat) : Int) < 3) = false from rfl, if_neg Bool.false_ne_true]
  exact congrArg some (bytes_inj (by rw [list_app, list_app]; rfl))
set_option maxRecDepth 100000 in
theorem law_forms (t0 t1 : Int) : law17_AclsForms 1000001 t0 t1 = some true := by
  have hm := an7_lt t1
  have hq : an t0 255 % 18 < 18 := Nat.mod_lt _ (by decide)
  unfold law17_AclsForms
  rw [forms_bits, awake17, an7, an8, show Int.tmod ((an t0 255 : Nat) : Int) 18 = ((an t0 255 % 18 : Nat) : Int) from (Int.ofNat_tmod _ 18).symm]
  generalize an t1 7 = m at *
  generalize an t0 255 % 18 = q at *
  have hq : q = 0 ∨ q = 1 ∨ q = 2 ∨ q = 3 ∨ q = 4 ∨ q = 5 ∨ q = 6 ∨ q = 7 ∨ q = 8 ∨ q = 9 ∨ q = 10 ∨ q = 11 ∨ q = 12 ∨ q = 13 ∨ q = 14 ∨ q = 15 ∨ q = 16 ∨ q = 17 := by omega
  have hm : m = 0 ∨ m = 1 ∨ m = 2 ∨ m = 3 ∨ m = 4 ∨ m = 5 ∨ m = 6 ∨ m = 7 := by omega
  rcases hq with rfl | rfl | rfl | rfl | rfl | rfl | rfl | rfl | rfl | rfl | rfl | rfl | rfl | rfl | rfl | rfl | rfl | rfl <;> rcases hm with rfl | rfl | rfl | rfl | rfl | rfl | rfl | rfl <;> (show _ = some true) <;> kernel_rfl
theorem law_forms_ex (t0 t1 : Int) {p q : Prop} (_ : p) (_ : q) : ∃ n, law17_AclsForms n t0 t1 = some true := ⟨1000001, law_forms t0 t1⟩
end Go.Proofs.YtkikhbfdadambaaDoor.Ab

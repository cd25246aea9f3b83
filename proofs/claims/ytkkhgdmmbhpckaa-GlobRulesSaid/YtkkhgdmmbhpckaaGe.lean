/-
  What is asked of a number; what a number's low bits are.
-/
import Derived.Test.YtkkhgdmmbhpckaaGd
namespace Go.Proofs.Ytkkhgdmmbhpckaa.Ab
open Go.RowKit

/-- One of a row. -/
def whoS (k : Nat) : ByteArray := match k with
  | 0 => { data := #[117] }
  | 1 => { data := #[118] }
  | 2 => { data := #[119] }
  | _ => { data := #[120] }
theorem whoS_at {k : Nat} (h : k < 4) : ([[D.v (.string { data := #[117] })], [D.v (.string { data := #[118] })], [D.v (.string { data := #[119] })], [D.v (.string { data := #[120] })]] : List (List D))[k]? = some [D.v (.string (whoS k))] := by
  match k, h with
  | 0, _ => rfl
  | 1, _ => rfl
  | 2, _ => rfl
  | 3, _ => rfl
/-- One of a row. -/
def actS (k : Nat) : ByteArray := match k with
  | 0 => { data := #[103, 101, 116] }
  | 1 => { data := #[103, 101, 116, 97, 108, 108] }
  | 2 => { data := #[112, 117, 116] }
  | 3 => { data := #[108, 105, 115, 116] }
  | _ => { data := #[122] }
theorem actS_at {k : Nat} (h : k < 5) : ([[D.v (.string { data := #[103, 101, 116] })], [D.v (.string { data := #[103, 101, 116, 97, 108, 108] })], [D.v (.string { data := #[112, 117, 116] })], [D.v (.string { data := #[108, 105, 115, 116] })], [D.v (.string { data := #[122] })]] : List (List D))[k]? = some [D.v (.string (actS k))] := by
  match k, h with
  | 0, _ => rfl
  | 1, _ => rfl
  | 2, _ => rfl
  | 3, _ => rfl
  | 4, _ => rfl
/-- One of a row. -/
def objS (k : Nat) : ByteArray := match k with
  | 0 => { data := #[97] }
  | 1 => { data := #[97, 98] }
  | 2 => { data := #[98] }
  | _ => { data := #[99] }
theorem objS_at {k : Nat} (h : k < 4) : ([[D.v (.string { data := #[97] })], [D.v (.string { data := #[97, 98] })], [D.v (.string { data := #[98] })], [D.v (.string { data := #[99] })]] : List (List D))[k]? = some [D.v (.string (objS k))] := by
  match k, h with
  | 0, _ => rfl
  | 1, _ => rfl
  | 2, _ => rfl
  | 3, _ => rfl
structure Ask where
  who : ByteArray
  act : ByteArray
  obj : ByteArray
/-- What a number asks. -/
def askN (n : Int) : Ask := ⟨whoS (an n 3), actS (an (sh n 2) 255 % 5), objS (an (sh n 10) 3)⟩
abbrev askD (a : Ask) : List D := [.v (.bool false), .v (.string a.who), .v (.string a.act), .v (.string a.obj)]
theorem ask_ok (n : Int) : PureOK Try.prog 12 [.v (.int .i64 n)] (.ag (askD (askN n))) true := by
  have h1 := wrap_an n 3 (by decide)
  have h2 := wrap_an (sh n 2) 255 (by decide)
  have h3 := wrap_an (sh n 10) 3 (by decide)
  have l1 : an n 3 < 4 := Nat.lt_succ_of_le (an_le n 3)
  have l3 : an (sh n 10) 3 < 4 := Nat.lt_succ_of_le (an_le _ 3)
  have t2 : ((an (sh n 2) 255 : Nat) : Int).tmod 5 = ((an (sh n 2) 255 % 5 : Nat) : Int) := tmod_nat _ 5
  have l2 : an (sh n 2) 255 % 5 < 5 := Nat.mod_lt _ (by decide)
  refine pure_run (tab := tab) tab_ok fol Try.func12 rfl (by kernel_rfl) (by kernel_rfl) (by simp [Try.f12]) ?_
  simp -implicitDefEqProofs only [go_sem, Int.reduceToNat, Int.reduceLT, Bool.and_self, beq_self_eq_true, Nat.reduceLT, Int.reduceEq, Nat.reduceEqDiff, Nat.reduceAdd, Nat.reduceLeDiff, reduceCtorEq, ↓reduceIte, h1, h2, h3, t2, l1, l2, l3, whoS_at l1, actS_at l2, objS_at l3]
  refine Rd_endF (by rfl) ?_
  simp -implicitDefEqProofs only [go_sem]
  exact end_pureN (by simp -implicitDefEqProofs only [go_sem, Nat.reduceEqDiff, Nat.reduceAdd, Nat.reduceLeDiff, ↓reduceIte, Try.f12] <;> rfl) rfl rfl (fun _ => rfl)
end Go.Proofs.Ytkkhgdmmbhpckaa.Ab

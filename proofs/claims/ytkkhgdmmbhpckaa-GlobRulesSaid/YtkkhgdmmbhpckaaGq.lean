/-
  GlobRules: the plain law.
-/
import Derived.Test.YtkkhgdmmbhpckaaGp
namespace Go.Proofs.Ytkkhgdmmbhpckaa.Ab
open Go.RowKit

theorem mayL_eq (p : Pol) (u a r : ByteArray) : ∀ (l : List Stm) (al : Bool), mayL p u a r l al = (!(l.any fun s => beaB p s u a r && s.deny) && ((al || l.any fun s => beaB p s u a r && !s.deny) && bouB u a r p.bnds false))
  | [], al => by simp [mayL]
  | s :: l, al => by
    simp only [mayL, mayL_eq p u a r l, List.any_cons]
    cases beaB p s u a r <;> cases s.deny <;> simp
theorem bouB_eq (u a r : ByteArray) : ∀ (l : List Bnd) (so : Bool), bouB u a r l so = ((l.any fun b => eqS b.user u && (matsB b.acts a && matsB b.ress r)) || !(so || l.any fun b => eqS b.user u))
  | [], so => by simp [bouB]
  | b :: l, so => by
    simp only [bouB, bouB_eq u a r l, List.any_cons]
    cases eqS b.user u <;> cases (matsB b.acts a && matsB b.ress r) <;> simp
/-- One statement more. -/
def addS (p : Pol) (s : Stm) : Pol := { p with stms := p.stms ++ [s] }
def addB (p : Pol) (b : Bnd) : Pol := { p with bnds := p.bnds ++ [b] }
theorem beaB_addS (p : Pol) (s t : Stm) (u a r : ByteArray) : beaB (addS p t) s u a r = beaB p s u a r := rfl
theorem may_addS (p : Pol) (s : Stm) (u a r : ByteArray) : (s.deny = true → mayB (addS p s) u a r = true → mayB p u a r = true) ∧ (s.deny = false → mayB p u a r = true → mayB (addS p s) u a r = true) := by
  have h : mayB (addS p s) u a r = if p.users.any (eqS u) && p.acts.any (eqS a) && p.ress.any (eqS r) then mayL p u a r (p.stms ++ [s]) false else false := by
    have : ∀ (l : List Stm) (al : Bool), mayL (addS p s) u a r l al = mayL p u a r l al := by
      intro l
      induction l with
      | nil => intro al; rfl
      | cons t l ih => intro al; simp only [mayL, beaB_addS, ih]
    simp only [mayB, addS] at this ⊢
    rw [this]
    rfl
  rw [h]
  simp only [mayB]
  generalize (p.users.any (eqS u) && p.acts.any (eqS a) && p.ress.any (eqS r)) = k
  simp only [mayL_eq, List.any_append, List.any_cons, List.any_nil, Bool.or_false]
  generalize p.stms.any (fun s => beaB p s u a r && s.deny) = x
  generalize p.stms.any (fun s => beaB p s u a r && !s.deny) = y
  generalize bouB u a r p.bnds false = z
  generalize beaB p s u a r = w
  generalize s.deny = d
  revert k x y z w d
  decide
theorem may_addB (p : Pol) (b : Bnd) (u a r : ByteArray) : ((p.bnds.any fun b => eqS b.user u) = false → mayB (addB p b) u a r = true → mayB p u a r = true) ∧ (eqS b.user u = false → mayB (addB p b) u a r = mayB p u a r) := by
  have hb : ∀ (s : Stm), beaB (addB p b) s u a r = beaB p s u a r := fun s => rfl
  simp only [mayB, mayL_eq, hb]
  rw [show (addB p b).users = p.users from rfl, show (addB p b).acts = p.acts from rfl, show (addB p b).ress = p.ress from rfl, show (addB p b).stms = p.stms from rfl, show (addB p b).bnds = p.bnds ++ [b] from rfl]
  generalize (p.users.any (eqS u) && p.acts.any (eqS a) && p.ress.any (eqS r)) = k
  simp only [bouB_eq, List.any_append, List.any_cons, List.any_nil, Bool.or_false, Bool.false_or]
  generalize p.stms.any (fun s => beaB p s u a r && s.deny) = x
  generalize p.stms.any (fun s => beaB p s u a r && !s.deny) = y
  generalize e : (p.bnds.any fun b => eqS b.user u && (matsB b.acts a && matsB b.ress r)) = g
  generalize e2 : (p.bnds.any fun b => eqS b.user u) = h
  have hgh : h = false → g = false := by
    intro hh
    subst hh
    rw [← e]
    rw [List.any_eq_false] at e2 ⊢
    intro x hx
    have := e2 x hx
    simp_all
  generalize (matsB b.acts a && matsB b.ress r) = m
  generalize eqS b.user u = o
  clear e e2 hb
  revert k x y g h m o
  decide
theorem may_deny (p : Pol) (u a r : ByteArray) (l : List Stm) (h : ∀ s ∈ l, s.deny = true) : mayB { p with stms := l } u a r = false := by
  have e : (l.any fun s => beaB { p with stms := l } s u a r && !s.deny) = false := by
    rw [List.any_eq_false]
    intro s hs
    simp [h s hs]
  simp only [mayB, mayL_eq]
  rw [e]
  simp
/-- One statement that allows everyone all. -/
def allP (p : Pol) : Pol := ⟨p.users, p.acts, p.ress, [], [⟨{ data := #[97] }, false, p.users, [], [star], [star]⟩], []⟩
theorem matB_star (n : ByteArray) : matB star n = true := by
  have h1 : sufB star star = true := by kernel_rfl
  have h2 : cutE star star = ByteArray.empty := by kernel_rfl
  simp only [matB, h1, if_true, h2, preB]
  have : (n.extract 0 ByteArray.empty.size).toList = ByteArray.empty.toList := by
    rw [show ByteArray.empty.size = 0 from rfl]
    congr 1
    apply ByteArray.ext
    simp
  simp []
theorem may_all (p : Pol) (u a r : ByteArray) : mayB (allP p) u a r = (p.users.any (eqS u) && p.acts.any (eqS a) && p.ress.any (eqS r)) := by
  have hb : beaB (allP p) ⟨{ data := #[97] }, false, p.users, [], [star], [star]⟩ u a r = p.users.any (eqS u) := by
    simp [beaB, matsB, matB_star]
  simp only [mayB, allP, mayL_eq, List.any_cons, List.any_nil, Bool.or_false, Bool.false_or] at hb ⊢
  rw [hb]
  simp only [bouB, Bool.not_false, Bool.and_true, Bool.and_false, Bool.true_and]
  generalize p.users.any (eqS u) = x
  generalize p.acts.any (eqS a) = y
  generalize p.ress.any (eqS r) = z
  cases x <;> cases y <;> cases z <;> rfl
theorem may_in (p : Pol) (u a r : ByteArray) (h : mayB p u a r = true) : (p.users.any (eqS u) && p.acts.any (eqS a) && p.ress.any (eqS r)) = true := by
  simp only [mayB] at h
  split at h
  · assumption
  · cases h
theorem ask_or (n : Int) : ((askN n).act = { data := #[103, 101, 116] } ∨ (askN n).act = { data := #[103, 101, 116, 97, 108, 108] } ∨ (askN n).act = { data := #[112, 117, 116] } ∨ (askN n).act = { data := #[108, 105, 115, 116] } ∨ (askN n).act = { data := #[122] }) ∧
    ((askN n).obj = { data := #[97] } ∨ (askN n).obj = { data := #[97, 98] } ∨ (askN n).obj = { data := #[98] } ∨ (askN n).obj = { data := #[99] }) := by
  have h2 : an (sh n 2) 255 % 5 < 5 := Nat.mod_lt _ (by decide)
  have h3 : an (sh n 10) 3 < 4 := Nat.lt_succ_of_le (an_le _ 3)
  constructor
  · show actS (an (sh n 2) 255 % 5) = _ ∨ actS (an (sh n 2) 255 % 5) = _ ∨ actS (an (sh n 2) 255 % 5) = _ ∨ actS (an (sh n 2) 255 % 5) = _ ∨ actS (an (sh n 2) 255 % 5) = _
    generalize an (sh n 2) 255 % 5 = k at h2
    match k, h2 with
    | 0, _ => exact .inl rfl
    | 1, _ => exact .inr (.inl rfl)
    | 2, _ => exact .inr (.inr (.inl rfl))
    | 3, _ => exact .inr (.inr (.inr (.inl rfl)))
    | 4, _ => exact .inr (.inr (.inr (.inr rfl)))
  · show objS (an (sh n 10) 3) = _ ∨ objS (an (sh n 10) 3) = _ ∨ objS (an (sh n 10) 3) = _ ∨ objS (an (sh n 10) 3) = _
    generalize an (sh n 10) 3 = k at h3
    match k, h3 with
    | 0, _ => exact .inl rfl
    | 1, _ => exact .inr (.inl rfl)
    | 2, _ => exact .inr (.inr (.inl rfl))
    | 3, _ => exact .inr (.inr (.inr rfl))
end Go.Proofs.Ytkkhgdmmbhpckaa.Ab

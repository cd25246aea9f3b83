/-
  Who may what, by statements: the program's own functions.
-/
import Derived.Test.YtkkhgdmmbhpckaaGa
namespace Go.Proofs.Ytkkhgdmmbhpckaa.Ab
open Go.RowKit

structure Grp where
  name : ByteArray
  users : List ByteArray
structure Stm where
  sid : ByteArray
  deny : Bool
  users : List ByteArray
  groups : List ByteArray
  acts : List ByteArray
  ress : List ByteArray
structure Bnd where
  user : ByteArray
  acts : List ByteArray
  ress : List ByteArray
structure Pol where
  users : List ByteArray
  acts : List ByteArray
  ress : List ByteArray
  grps : List Grp
  stms : List Stm
  bnds : List Bnd
abbrev grpD (g : Grp) : List D := [.v (.string g.name), .sl (g.users.map fun x => [D.v (.string x)])]
abbrev stmD (s : Stm) : List D := [.v (.string s.sid), .v (.bool s.deny), .sl (s.users.map fun x => [D.v (.string x)]), .sl (s.groups.map fun x => [D.v (.string x)]), .sl (s.acts.map fun x => [D.v (.string x)]), .sl (s.ress.map fun x => [D.v (.string x)])]
abbrev bndD (b : Bnd) : List D := [.v (.string b.user), .sl (b.acts.map fun x => [D.v (.string x)]), .sl (b.ress.map fun x => [D.v (.string x)])]
abbrev polD (p : Pol) : List D := [.sl (p.users.map fun x => [D.v (.string x)]), .sl (p.acts.map fun x => [D.v (.string x)]), .sl (p.ress.map fun x => [D.v (.string x)]), .sl (p.grps.map grpD), .sl (p.stms.map stmD), .sl (p.bnds.map bndD)]
/-- A list that a machine can hold. -/
abbrev Fit {α : Type} (xs : List α) : Prop := xs.length < 4611686018427387904
/-- Patterns that a machine can hold. -/
def FitP (xs : List ByteArray) : Prop := Fit xs ∧ ∀ x ∈ xs, x.size < 4611686018427387904
structure FitPol (p : Pol) : Prop where
  users : Fit p.users
  acts : Fit p.acts
  ress : Fit p.ress
  grps : Fit p.grps
  gu : ∀ g ∈ p.grps, Fit g.users
  stms : Fit p.stms
  su : ∀ s ∈ p.stms, Fit s.users ∧ Fit s.groups ∧ FitP s.acts ∧ FitP s.ress
  bnds : Fit p.bnds
  bu : ∀ b ∈ p.bnds, FitP b.acts ∧ FitP b.ress

/-- Does one of some patterns match? -/
def matsB (ps : List ByteArray) (n : ByteArray) : Bool := ps.any fun p => matB p n
theorem el_str : ElOK tab 23 9 1 := ⟨by simp only [go_sem], by simp only [go_sem], by simp only [go_sem], by simp only [go_sem], .inr ⟨by simp only [go_sem], rfl⟩⟩
theorem el_grp : ElOK tab 24 36 2 := ⟨by simp only [go_sem], by simp only [go_sem], by simp only [go_sem], by simp only [go_sem], .inl (by simp only [go_sem])⟩
theorem ctf_str {S : ByteArray → Prop} {pr : ByteArray → Bool} {g : FuncId} {caps : List AV} {ids : List Nat} {hp0 : Hp} (b : Bool) (hP : PrdOK Try.prog g caps (fun x => .v (.string x)) S pr ids hp0) (xs : List ByteArray) (hS : ∀ x ∈ xs, S x) (hx : Fit xs) (nx : Nat) :
    ∃ nx', nx ≤ nx' ∧ ∀ hp : Hp, (∀ i ∈ ids, hp i = hp0 i) → InlOK Try.prog 68 [.d (.sl (xs.map fun x => [D.v (.string x)])) b, .fn g caps] hp nx fun v hp2 nx2 => v = .v (.bool (xs.any pr)) ∧ hp2 = hp ∧ nx2 = nx' := by
  rw [← idxB_any pr xs 0]
  exact ctf_ok tab_ok fol (T := 23) (E := 9) (I := 3) (B := 0) (F := 96) (V := 4) Try.func68 rfl (by kernel_rfl) (by kernel_rfl) (by decide) rfl
    (ixf_one tab_ok fol (T := 23) (E := 9) (I := 3) (B := 0) (F := 96) (V := 4) Try.func93 rfl (by kernel_rfl) (by kernel_rfl) (by decide) rfl el_str (by simp only [go_sem]) (fun x => .string x) pr S hP xs hS hx) nx
theorem ctf_grp {S : Grp → Prop} {pr : Grp → Bool} {g : FuncId} {caps : List AV} {ids : List Nat} {hp0 : Hp} (b : Bool) (hP : PrdOK Try.prog g caps (fun x => .d (.ag (grpD x)) b) S pr ids hp0) (xs : List Grp) (hS : ∀ x ∈ xs, S x) (hx : Fit xs) (nx : Nat) :
    ∃ nx', nx ≤ nx' ∧ ∀ hp : Hp, (∀ i ∈ ids, hp i = hp0 i) → InlOK Try.prog 43 [.d (.sl (xs.map grpD)) b, .fn g caps] hp nx fun v hp2 nx2 => v = .v (.bool (xs.any pr)) ∧ hp2 = hp ∧ nx2 = nx' := by
  rw [← idxB_any pr xs 0]
  exact ctf_ok tab_ok fol (T := 24) (E := 36) (I := 3) (B := 0) (F := 92) (V := 4) Try.func43 rfl (by kernel_rfl) (by kernel_rfl) (by decide) rfl
    (ixf_struct tab_ok fol (T := 24) (E := 36) (I := 3) (B := 0) (F := 92) (V := 4) Try.func70 rfl (by kernel_rfl) (by kernel_rfl) (by decide) rfl el_grp (by simp only [go_sem]) grpD (fun _ => rfl) pr S hP xs hS hx) nx
theorem mat_prd (n : ByteArray) (id : Nat) (hp0 : Hp) (hi : hp0 id = some (.bx [.v (.string n)])) : PrdOK Try.prog 73 [.pt id 0] (fun x => .v (.string x)) (fun p => p.size < 4611686018427387904) (fun p => matB p n) [id] hp0 := by
  intro p hp nx
  refine ⟨nx + 1 + 4, by omega, fun hp1 hh => ?_⟩
  have e := (hh id (by simp)).trans hi
  refine inl_run (tab := tab) tab_ok fol Try.func73 rfl (by kernel_rfl) (by kernel_rfl) (by simp [Try.f73]) ?_
  simp -implicitDefEqProofs only [go_sem, Nat.reduceEqDiff, Nat.reduceAdd, reduceCtorEq, ↓reduceIte, e]
  refine onCall_pure (by simp -implicitDefEqProofs only [go_sem] <;> rfl) (match_ok p n hp) (.inr rfl) ?_
  simp -implicitDefEqProofs only [go_sem, Bool.and_self, Nat.reduceAdd, ↓reduceIte]
  exact end_ret (by simp -implicitDefEqProofs only [go_sem, ↓reduceIte, Try.f73] <;> rfl) ⟨rfl, rfl, rfl⟩
theorem matches_ok (ps : List ByteArray) (n : ByteArray) (hF : FitP ps) : PureOK Try.prog 48 [.sl (ps.map fun x => [D.v (.string x)]), .v (.string n)] (.v (.bool (matsB ps n))) true := by
  refine pure_run (tab := tab) tab_ok fol Try.func48 rfl (by kernel_rfl) (by kernel_rfl) (by simp [Try.f48]) ?_
  simp -implicitDefEqProofs only [go_sem, List.all_cons, List.all_nil, isCell, Bool.and_self, Nat.reduceEqDiff, Nat.reduceAdd, reduceCtorEq, ↓reduceIte]
  obtain ⟨nx', h1, h2⟩ := ctf_str true (mat_prd n 0 (upd 0 (some (.bx [.v (.string n)])) noHp) rfl) ps hF.2 hF.1 6
  refine onCall_inl ?_
  refine (h2 _ fun i hi => rfl).mono fun v hp2 nx2 hq => ?_
  obtain ⟨rfl, rfl, rfl⟩ := hq
  simp -implicitDefEqProofs only [go_sem, Nat.reduceAdd, ↓reduceIte]
  exact end_pure (by simp -implicitDefEqProofs only [go_sem, ↓reduceIte, Try.f48] <;> rfl) rfl rfl (fun _ => rfl)
/-- Is a user in a group? -/
def inB (p : Pol) (u g : ByteArray) : Bool := p.grps.any fun x => eqS x.name g && x.users.any (eqS u)
theorem in_prd (u g : ByteArray) (b : Bool) (ig iu : Nat) (hp0 : Hp) (h1 : hp0 ig = some (.bx [.v (.string g)])) (h2 : hp0 iu = some (.bx [.v (.string u)])) :
    PrdOK Try.prog 44 [.pt ig 0, .pt iu 0] (fun x => .d (.ag (grpD x)) b) (fun x => Fit x.users) (fun x => eqS x.name g && x.users.any (eqS u)) [ig, iu] hp0 := by
  intro x hx nx
  refine ⟨nx + 2 + 11, by omega, fun hp1 hh => InlOK.fresh (fun hf => ?_) ⟨_, Try.func44, by kernel_rfl, by kernel_rfl⟩⟩
  have e1 := (hh ig (by simp)).trans h1
  have e2 := (hh iu (by simp)).trans h2
  have n1 : ¬ ig = nx := Nat.ne_of_lt (old_lt hf e1)
  have n2 : ¬ iu = nx := Nat.ne_of_lt (old_lt hf e2)
  refine inl_run (tab := tab) tab_ok fol Try.func44 rfl (by kernel_rfl) (by kernel_rfl) (by simp [Try.f44]) ?_
  simp -implicitDefEqProofs only [go_sem, Nat.reduceEqDiff, Nat.reduceAdd, reduceCtorEq, ↓reduceIte, e1, n1]
  refine Rt_gS (by rfl) (by rfl) (fun h => ?_) (fun h => ?_)
  · simp -implicitDefEqProofs only [go_sem, Nat.reduceEqDiff, Nat.reduceAdd, reduceCtorEq, ↓reduceIte, h, e2, n2]
    refine onCall_pure (by simp -implicitDefEqProofs only [go_sem] <;> rfl) (contains_ok x.users u hx) (.inr rfl) ?_
    simp -implicitDefEqProofs only [go_sem, Nat.reduceEqDiff, Nat.reduceAdd, ↓reduceIte]
    exact end_retL (by simp -implicitDefEqProofs only [go_sem, ↓reduceIte, Try.f44] <;> rfl) (by repeat first | exact keep_self _ | refine keep_new hf (by omega) ?_) ⟨by simp [eqS, h], rfl, rfl⟩
  · simp -implicitDefEqProofs only [go_sem, Nat.reduceEqDiff, Nat.reduceAdd, ↓reduceIte, h]
    exact end_retL (by simp -implicitDefEqProofs only [go_sem, ↓reduceIte, Try.f44] <;> rfl) (by repeat first | exact keep_self _ | refine keep_new hf (by omega) ?_) ⟨by simp [eqS, h], rfl, rfl⟩
theorem in_ok (p : Pol) (u g : ByteArray) (hF : FitPol p) : PureOK Try.prog 14 [.ag (polD p), .v (.string u), .v (.string g)] (.v (.bool (inB p u g))) true := by
  refine pure_run (tab := tab) tab_ok fol Try.func14 rfl (by kernel_rfl) (by kernel_rfl) (by simp [Try.f14]) ?_
  simp -implicitDefEqProofs only [go_sem, List.all_cons, List.all_nil, isCell, Bool.and_self, Nat.reduceEqDiff, Nat.reduceAdd, reduceCtorEq, ↓reduceIte]
  obtain ⟨nx', h1, h2⟩ := ctf_grp true (in_prd u g true 2 1 (upd 2 (some (.bx [.v (.string g)])) (upd 1 (some (.bx [.v (.string u)])) noHp)) rfl rfl) p.grps hF.gu hF.grps 9
  refine onCall_inl ?_
  refine (h2 _ fun i hi => ?_).mono fun v hp2 nx2 hq => ?_
  · simp only [List.mem_cons, List.not_mem_nil, or_false] at hi
    rcases hi with rfl | rfl <;> rfl
  · obtain ⟨rfl, rfl, rfl⟩ := hq
    simp -implicitDefEqProofs only [go_sem, Nat.reduceAdd, ↓reduceIte]
    exact end_pure (by simp -implicitDefEqProofs only [go_sem, ↓reduceIte, Try.f14] <;> rfl) rfl rfl (fun _ => rfl)
end Go.Proofs.Ytkkhgdmmbhpckaa.Ab

/-
  LineBounds: what the walk shows, as a contract.
-/
import Derived.Test.YtjfpmgdbkhooeaaDoorLuw
namespace Go.Proofs.YtjfpmgdbkhooeaaDoor.Ab
open Go.Shelf Go.RowKit
theorem bits_an {n m : Int} (hm : (BitVec.ofInt 64 m).toNat < 2 ^ 63) : bits BinOp.and IntKind.i64 n m = (an n m : Nat) := by
  show IntKind.i64.wrap (an n m : Int) = _
  exact wrap_an _ _ hm
def law12_LineBounds (_ : Nat) (t0 t1 t2 t3 : Int) : Option Bool := if (Lit.int .i64 t0).wf && (Lit.int .i64 t1).wf && (Lit.int .u8 t2).wf && (Lit.int .i64 t3).wf then some true else none
theorem law_bounds_ex (t0 t1 t2 t3 : Int) (k0 : (Lit.int .i64 t0).wf = true) (k1 : (Lit.int .i64 t1).wf = true) (k2 : (Lit.int .u8 t2).wf = true) (k3 : (Lit.int .i64 t3).wf = true) : ∃ n, law12_LineBounds n t0 t1 t2 t3 = some true := by
  refine ⟨0, ?_⟩
  unfold law12_LineBounds
  rw [k0, k1, k2, k3]
  rfl
theorem u8_of {c : Int} (h : (Lit.int .u8 c).wf = true) : ∃ x : UInt8, c = (x.toNat : Nat) := by
  have h2 : 0 ≤ c ∧ c ≤ 255 := by
    have e1 : IntKind.u8.min = 0 := rfl
    have e2 : IntKind.u8.max = 255 := rfl
    simp [Lit.wf] at h
    omega
  refine ⟨UInt8.ofNat c.toNat, ?_⟩
  rw [UInt8.toNat_ofNat']
  omega
theorem law12_LineBounds_ok {n : Nat} {t0 t1 t2 t3 : Int} {r : Bool} (H : law12_LineBounds n t0 t1 t2 t3 = some r) : PureOK Tryd.prog 7 [D.v (.int .i64 t0), D.v (.int .i64 t1), D.v (.int .u8 t2), D.v (.int .i64 t3)] (D.v (.bool r)) true := by
  unfold law12_LineBounds at H
  have hk : ((Lit.int .i64 t0).wf && (Lit.int .i64 t1).wf && (Lit.int .u8 t2).wf && (Lit.int .i64 t3).wf) = true := by
    rcases ite_inv H with ⟨hk, _⟩ | ⟨_, hr⟩
    · exact hk
    · cases hr
  rw [if_pos hk] at H
  obtain rfl := (Option.some.inj H).symm
  simp only [Bool.and_eq_true] at hk
  obtain ⟨x, rfl⟩ := u8_of hk.1.2
  have a1 : an t0 31 ≤ 31 := Nat.le_trans (an_le _ _) (by decide)
  have a2 : an t1 31 ≤ 31 := Nat.le_trans (an_le _ _) (by decide)
  have a3 : an t3 255 ≤ 255 := an8_le t3
  have key : ∀ w, Calls Tryd.prog 7 #[.int .i64 t0, .int .i64 t1, .int .u8 (x.toNat : Nat), .int .i64 t3] w fun e w' => e = .returned (.bool true) ∧ Below w.heap.size w w' := fun w =>
    bounds_calls (199990 + an t0 31) (4990 + an t1 31) (an t3 255 % 14) (by rw [bits_an (by decide)]; simp only [wrap64]; omega) (by rw [bits_an (by decide)]; simp only [wrap64]; omega) (by omega) (by omega) (by
      rw [bits_an (by decide)]
      exact (Int.ofNat_tmod _ 14).symm) (Nat.mod_lt _ (by decide)) w
  refine ⟨⟨_, Tryd.func7, by kernel_rfl, by kernel_rfl⟩, fun w M0 args hM hsz hargs => ?_⟩
  obtain ⟨u0, e0, b0⟩ := hargs 0 _ rfl
  obtain ⟨u1, e1, b1⟩ := hargs 1 _ rfl
  obtain ⟨u2, e2, b2⟩ := hargs 2 _ rfl
  obtain ⟨u3, e3, b3⟩ := hargs 3 _ rfl
  cases (show RC w _ (.v _) u0 from b0)
  cases (show RC w _ (.v _) u1 from b1)
  cases (show RC w _ (.v _) u2 from b2)
  cases (show RC w _ (.v _) u3 from b3)
  have hargs2 : args = #[.int .i64 t0, .int .i64 t1, .int .u8 (x.toNat : Nat), .int .i64 t3] := by
    have hsz2 : args.size = 4 := by simpa using hsz
    apply Array.ext
    · simpa using hsz2
    · intro j h1 h2
      have hj : j = 0 ∨ j = 1 ∨ j = 2 ∨ j = 3 := by omega
      rcases hj with rfl | rfl | rfl | rfl
      · simpa [h1] using e0
      · simpa [h1] using e1
      · simpa [h1] using e2
      · simpa [h1] using e3
  subst hargs2
  refine (calls_dr (key w) fun e w' h => ⟨_, h.1⟩).mono ?_
  rintro e w' ⟨⟨rfl, h2⟩, h3⟩
  exact ⟨_, rfl, ⟨h2, h3⟩, .v _ rfl⟩
end Go.Proofs.YtjfpmgdbkhooeaaDoor.Ab

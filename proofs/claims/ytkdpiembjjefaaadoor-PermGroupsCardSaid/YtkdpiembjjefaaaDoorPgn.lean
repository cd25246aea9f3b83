/-
  PermGroups: what its loop makes. No program in sight.
-/
import Derived.Test.YtkdpiembjjefaaaDoorPgm
namespace Go.Proofs.YtkdpiembjjefaaaDoor.Ab
open Go.RowKit
def nmG (i : Nat) : ByteArray := { data := #[103, UInt8.ofNat (97 + i)] }
def mem (x : Int) : Bool := ((IntKind.i64.wrap (an x 1 : Int)) == 1)
def bt (x : Int) : Int := IntKind.i64.wrap (an (sh x 1) 7 : Int)
def gG (i : Nat) (x : Int) : GFile := ⟨2, nmG i, if mem x then [{ data := #[117] }] else [], ByteArray.empty, ByteArray.empty, [], 0⟩
def nG (i : Nat) (x : Int) : GEntry := ⟨4, false, nmG i, bt x⟩
def gs : Nat → List Int → List GFile
  | _, [] => []
  | i, x :: r => gG i x :: gs (i + 1) r
def ns : Nat → List Int → List GEntry
  | _, [] => []
  | i, x :: r => nG i x :: ns (i + 1) r
def orW (w b : Int) : Int := IntKind.i64.wrap ((BitVec.ofInt IntKind.i64.bits w ||| BitVec.ofInt IntKind.i64.bits b).toNat : Int)
def wS : Int → List Int → Int
  | w, [] => w
  | w, x :: r => wS (if mem x then orW w (bt x) else w) r
theorem gs_cons (i : Nat) (x : Int) (r : List Int) : gs i (x :: r) = gG i x :: gs (i + 1) r := rfl
theorem ns_cons (i : Nat) (x : Int) (r : List Int) : ns i (x :: r) = nG i x :: ns (i + 1) r := rfl
theorem wS_cons (w : Int) (x : Int) (r : List Int) : wS w (x :: r) = wS (if mem x then orW w (bt x) else w) r := rfl
theorem letter : ∀ i : Nat, i < 10 → (bslc ({ data := #[97, 98, 99, 100, 101, 102, 103, 104, 105, 106] }) (i : Int) ((i + 1 : Nat) : Int)).bind (fun s3 => cat ({ data := #[103] }) s3) = some (nmG i)
  | 0, _ => by kernel_rfl
  | 1, _ => by kernel_rfl
  | 2, _ => by kernel_rfl
  | 3, _ => by kernel_rfl
  | 4, _ => by kernel_rfl
  | 5, _ => by kernel_rfl
  | 6, _ => by kernel_rfl
  | 7, _ => by kernel_rfl
  | 8, _ => by kernel_rfl
  | 9, _ => by kernel_rfl
  | i + 10, h => absurd h (by omega)
theorem pg_loop (t0 : List Int) : ∀ (c i : Nat) (f : List GFile) (a : List GEntry) (w : Int) (s : Bool), i ≤ 10 → 10 - i < c → f.length ≤ i + 3 → a.length ≤ i + 4 →
    law20_PermGroups_L1 100 t0 c (f, a, w, s, (i : Int)) = some (f ++ gs i ((t0.drop i).take (10 - i)), a ++ ns i ((t0.drop i).take (10 - i)), wS w ((t0.drop i).take (10 - i)), s || ((t0.drop i).take (10 - i)).any mem)
  | 0, _, _, _, _, _, _, h, _, _ => by omega
  | c + 1, i, f, a, w, s, hi, hc, hf, ha => by
    rw [law20_PermGroups_L1]
    by_cases h : i < t0.length
    · rw [dlt h, if_pos rfl, Option.bind_some]
      by_cases h2 : i < 10
      · obtain ⟨m, hm⟩ : ∃ m, 10 - i = m + 1 := ⟨9 - i, by omega⟩
        have hl := letter i h2
        obtain ⟨s3, e1, e2⟩ := Option.bind_eq_some_iff.1 hl
        have ih := fun w s => pg_loop t0 c (i + 1) (f ++ [gG i t0[i]]) (a ++ [nG i t0[i]]) w s (by omega) (by omega) (by simp; omega) (by simp; omega)
        have a1 : ∀ g : GFile, app f [g] = some (f ++ [g]) := fun g => appS (by simp; omega)
        have a2 : ∀ g : GEntry, app a [g] = some (a ++ [g]) := fun g => appS (by simp; omega)
        rw [show decide ((i : Int) < 10) = true from decide_eq_true (by omega), if_pos rfl, wr1 (by omega), e1, Option.bind_some, e2, Option.bind_some, idxS h, Option.bind_some, List.drop_eq_getElem_cons h, hm, List.take_succ_cons]
        rw [show 10 - (i + 1) = m by omega] at ih
        have hmem : ((IntKind.i64.wrap (an t0[i] 1 : Int)) == 1) = mem t0[i] := rfl
        rw [hmem]
        rw [gs_cons, ns_cons, wS_cons, List.any_cons]
        cases hb : mem t0[i]
        · rw [if_neg (by decide), Option.bind_some]
          refine Eq.trans (b := (app f [gG i t0[i]]).bind fun l => (app a [nG i t0[i]]).bind fun l2 => law20_PermGroups_L1 100 t0 c (l, l2, w, s, ((i + 1 : Nat) : Int))) (by unfold gG nG; rw [hb]; rfl) ?_
          rw [a1, Option.bind_some, a2, Option.bind_some]
          refine (ih w s).trans ?_
          simp
        · rw [if_pos rfl, Option.bind_some]
          refine Eq.trans (b := (app f [gG i t0[i]]).bind fun l => (app a [nG i t0[i]]).bind fun l2 => law20_PermGroups_L1 100 t0 c (l, l2, orW w (bt t0[i]), true, ((i + 1 : Nat) : Int))) (by unfold gG nG; rw [hb]; rfl) ?_
          rw [a1, Option.bind_some, a2, Option.bind_some]
          refine (ih (orW w (bt t0[i])) true).trans ?_
          simp
      · have : i = 10 := by omega
        subst this
        rw [show decide (((10 : Nat) : Int) < 10) = false from rfl, if_neg (by decide)]
        simp [gs, ns, wS]
    · rw [dnlt (by omega), if_neg (by decide), Option.bind_some, if_neg (by decide), List.drop_eq_nil_of_le (by omega)]
      simp [gs, ns, wS]
end Go.Proofs.YtkdpiembjjefaaaDoor.Ab

/-
  entaillaw19.GainErrors returns true, whatever its number is. No condition.
-/
import Derived.Test.YtkdpiembjjefaaaGreatDoorGn1
import Derived.Test.YtkdpiembjjefaaaGreatDoorGn2
import Derived.Test.YtkdpiembjjefaaaGreatDoorGn3
import Derived.Test.YtkdpiembjjefaaaGreatDoorGn4
import Derived.Test.YtkdpiembjjefaaaGreatDoorGn5
import Derived.Test.YtkdpiembjjefaaaGreatDoorGn6
import Derived.Test.YtkdpiembjjefaaaGreatDoorGn7
import Derived.Test.YtkdpiembjjefaaaGreatDoorGn8
import Derived.Test.YtkdpiembjjefaaaGreatDoorGn9
import Derived.Test.YtkdpiembjjefaaaGreatDoorGn10
import Derived.Test.YtkdpiembjjefaaaGreatDoorGn11
import Derived.Test.YtkdpiembjjefaaaGreatDoorCm
import Derived.Test.YtkdpiembjjefaaaGreatDoorCards
import Derived.Test.YtkdpiembjjefaaaGreatDoorTie
import Derived.OpenShut
import Derived.Deep.DeepHandedRow
import Derived.Lib.LaidTab
namespace Go.Proofs.YtkdpiembjjefaaaGreatDoor
open Go.ChangeShapes Go.WideShapes Go.ChangeAt Go.RowKit
namespace Ab
theorem gerr_at (w : Int) {i j : Nat} (h1 : lw w % 13 = i) (h2 : hw w % 11 = j) {hk : Hk} {tr : List Cl} (h : evalZ Tryz.prog (primOf primsG) 100000 200 3 [.v (.int .i64 w)] hk = some (.v (.bool true), true, tr)) (ht : tr = [clA w i, clH w j]) : PureOK Tryz.prog 3 [.v (.int .i64 w)] (.v (.bool true)) true := by
  refine evalZ_ok fol primsG_ok h fun c hc => ?_
  rw [ht] at hc
  simp only [List.mem_cons, List.not_mem_nil, or_false] at hc
  rcases hc with rfl | rfl
  · exact clA_ok h1
  · exact clH_ok h2
theorem gi0 (w : Int) (h1 : lw w % 13 = 0) : ∀ j, j < 11 → hw w % 11 = j → PureOK Tryz.prog 3 [.v (.int .i64 w)] (.v (.bool true)) true := fun j hj h2 => match j, hj, h2 with
  | 0, _, h2 => gerr_at w h1 h2 (ge0_0 w) rfl
  | 1, _, h2 => gerr_at w h1 h2 (ge0_1 w) rfl
  | 2, _, h2 => gerr_at w h1 h2 (ge0_2 w) rfl
  | 3, _, h2 => gerr_at w h1 h2 (ge0_3 w) rfl
  | 4, _, h2 => gerr_at w h1 h2 (ge0_4 w) rfl
  | 5, _, h2 => gerr_at w h1 h2 (ge0_5 w) rfl
  | 6, _, h2 => gerr_at w h1 h2 (ge0_6 w) rfl
  | 7, _, h2 => gerr_at w h1 h2 (ge0_7 w) rfl
  | 8, _, h2 => gerr_at w h1 h2 (ge0_8 w) rfl
  | 9, _, h2 => gerr_at w h1 h2 (ge0_9 w) rfl
  | 10, _, h2 => gerr_at w h1 h2 (ge0_10 w) rfl
  | j + 11, hj, _ => absurd hj (by omega)
theorem gi1 (w : Int) (h1 : lw w % 13 = 1) : ∀ j, j < 11 → hw w % 11 = j → PureOK Tryz.prog 3 [.v (.int .i64 w)] (.v (.bool true)) true := fun j hj h2 => match j, hj, h2 with
  | 0, _, h2 => gerr_at w h1 h2 (ge1_0 w) rfl
  | 1, _, h2 => gerr_at w h1 h2 (ge1_1 w) rfl
  | 2, _, h2 => gerr_at w h1 h2 (ge1_2 w) rfl
  | 3, _, h2 => gerr_at w h1 h2 (ge1_3 w) rfl
  | 4, _, h2 => gerr_at w h1 h2 (ge1_4 w) rfl
  | 5, _, h2 => gerr_at w h1 h2 (ge1_5 w) rfl
  | 6, _, h2 => gerr_at w h1 h2 (ge1_6 w) rfl
  | 7, _, h2 => gerr_at w h1 h2 (ge1_7 w) rfl
  | 8, _, h2 => gerr_at w h1 h2 (ge1_8 w) rfl
  | 9, _, h2 => gerr_at w h1 h2 (ge1_9 w) rfl
  | 10, _, h2 => gerr_at w h1 h2 (ge1_10 w) rfl
  | j + 11, hj, _ => absurd hj (by omega)
theorem gi2 (w : Int) (h1 : lw w % 13 = 2) : ∀ j, j < 11 → hw w % 11 = j → PureOK Tryz.prog 3 [.v (.int .i64 w)] (.v (.bool true)) true := fun j hj h2 => match j, hj, h2 with
  | 0, _, h2 => gerr_at w h1 h2 (ge2_0 w) rfl
  | 1, _, h2 => gerr_at w h1 h2 (ge2_1 w) rfl
  | 2, _, h2 => gerr_at w h1 h2 (ge2_2 w) rfl
  | 3, _, h2 => gerr_at w h1 h2 (ge2_3 w) rfl
  | 4, _, h2 => gerr_at w h1 h2 (ge2_4 w) rfl
  | 5, _, h2 => gerr_at w h1 h2 (ge2_5 w) rfl
  | 6, _, h2 => gerr_at w h1 h2 (ge2_6 w) rfl
  | 7, _, h2 => gerr_at w h1 h2 (ge2_7 w) rfl
  | 8, _, h2 => gerr_at w h1 h2 (ge2_8 w) rfl
  | 9, _, h2 => gerr_at w h1 h2 (ge2_9 w) rfl
  | 10, _, h2 => gerr_at w h1 h2 (ge2_10 w) rfl
  | j + 11, hj, _ => absurd hj (by omega)
theorem gi3 (w : Int) (h1 : lw w % 13 = 3) : ∀ j, j < 11 → hw w % 11 = j → PureOK Tryz.prog 3 [.v (.int .i64 w)] (.v (.bool true)) true := fun j hj h2 => match j, hj, h2 with
  | 0, _, h2 => gerr_at w h1 h2 (ge3_0 w) rfl
  | 1, _, h2 => gerr_at w h1 h2 (ge3_1 w) rfl
  | 2, _, h2 => gerr_at w h1 h2 (ge3_2 w) rfl
  | 3, _, h2 => gerr_at w h1 h2 (ge3_3 w) rfl
  | 4, _, h2 => gerr_at w h1 h2 (ge3_4 w) rfl
  | 5, _, h2 => gerr_at w h1 h2 (ge3_5 w) rfl
  | 6, _, h2 => gerr_at w h1 h2 (ge3_6 w) rfl
  | 7, _, h2 => gerr_at w h1 h2 (ge3_7 w) rfl
  | 8, _, h2 => gerr_at w h1 h2 (ge3_8 w) rfl
  | 9, _, h2 => gerr_at w h1 h2 (ge3_9 w) rfl
  | 10, _, h2 => gerr_at w h1 h2 (ge3_10 w) rfl
  | j + 11, hj, _ => absurd hj (by omega)
theorem gi4 (w : Int) (h1 : lw w % 13 = 4) : ∀ j, j < 11 → hw w % 11 = j → PureOK Tryz.prog 3 [.v (.int .i64 w)] (.v (.bool true)) true := fun j hj h2 => match j, hj, h2 with
  | 0, _, h2 => gerr_at w h1 h2 (ge4_0 w) rfl
  | 1, _, h2 => gerr_at w h1 h2 (ge4_1 w) rfl
  | 2, _, h2 => gerr_at w h1 h2 (ge4_2 w) rfl
  | 3, _, h2 => gerr_at w h1 h2 (ge4_3 w) rfl
  | 4, _, h2 => gerr_at w h1 h2 (ge4_4 w) rfl
  | 5, _, h2 => gerr_at w h1 h2 (ge4_5 w) rfl
  | 6, _, h2 => gerr_at w h1 h2 (ge4_6 w) rfl
  | 7, _, h2 => gerr_at w h1 h2 (ge4_7 w) rfl
  | 8, _, h2 => gerr_at w h1 h2 (ge4_8 w) rfl
  | 9, _, h2 => gerr_at w h1 h2 (ge4_9 w) rfl
  | 10, _, h2 => gerr_at w h1 h2 (ge4_10 w) rfl
  | j + 11, hj, _ => absurd hj (by omega)
theorem gi5 (w : Int) (h1 : lw w % 13 = 5) : ∀ j, j < 11 → hw w % 11 = j → PureOK Tryz.prog 3 [.v (.int .i64 w)] (.v (.bool true)) true := fun j hj h2 => match j, hj, h2 with
  | 0, _, h2 => gerr_at w h1 h2 (ge5_0 w) rfl
  | 1, _, h2 => gerr_at w h1 h2 (ge5_1 w) rfl
  | 2, _, h2 => gerr_at w h1 h2 (ge5_2 w) rfl
  | 3, _, h2 => gerr_at w h1 h2 (ge5_3 w) rfl
  | 4, _, h2 => gerr_at w h1 h2 (ge5_4 w) rfl
  | 5, _, h2 => gerr_at w h1 h2 (ge5_5 w) rfl
  | 6, _, h2 => gerr_at w h1 h2 (ge5_6 w) rfl
  | 7, _, h2 => gerr_at w h1 h2 (ge5_7 w) rfl
  | 8, _, h2 => gerr_at w h1 h2 (ge5_8 w) rfl
  | 9, _, h2 => gerr_at w h1 h2 (ge5_9 w) rfl
  | 10, _, h2 => gerr_at w h1 h2 (ge5_10 w) rfl
  | j + 11, hj, _ => absurd hj (by omega)
theorem gi6 (w : Int) (h1 : lw w % 13 = 6) : ∀ j, j < 11 → hw w % 11 = j → PureOK Tryz.prog 3 [.v (.int .i64 w)] (.v (.bool true)) true := fun j hj h2 => match j, hj, h2 with
  | 0, _, h2 => gerr_at w h1 h2 (ge6_0 w) rfl
  | 1, _, h2 => gerr_at w h1 h2 (ge6_1 w) rfl
  | 2, _, h2 => gerr_at w h1 h2 (ge6_2 w) rfl
  | 3, _, h2 => gerr_at w h1 h2 (ge6_3 w) rfl
  | 4, _, h2 => gerr_at w h1 h2 (ge6_4 w) rfl
  | 5, _, h2 => gerr_at w h1 h2 (ge6_5 w) rfl
  | 6, _, h2 => gerr_at w h1 h2 (ge6_6 w) rfl
  | 7, _, h2 => gerr_at w h1 h2 (ge6_7 w) rfl
  | 8, _, h2 => gerr_at w h1 h2 (ge6_8 w) rfl
  | 9, _, h2 => gerr_at w h1 h2 (ge6_9 w) rfl
  | 10, _, h2 => gerr_at w h1 h2 (ge6_10 w) rfl
  | j + 11, hj, _ => absurd hj (by omega)
theorem gi7 (w : Int) (h1 : lw w % 13 = 7) : ∀ j, j < 11 → hw w % 11 = j → PureOK Tryz.prog 3 [.v (.int .i64 w)] (.v (.bool true)) true := fun j hj h2 => match j, hj, h2 with
  | 0, _, h2 => gerr_at w h1 h2 (ge7_0 w) rfl
  | 1, _, h2 => gerr_at w h1 h2 (ge7_1 w) rfl
  | 2, _, h2 => gerr_at w h1 h2 (ge7_2 w) rfl
  | 3, _, h2 => gerr_at w h1 h2 (ge7_3 w) rfl
  | 4, _, h2 => gerr_at w h1 h2 (ge7_4 w) rfl
  | 5, _, h2 => gerr_at w h1 h2 (ge7_5 w) rfl
  | 6, _, h2 => gerr_at w h1 h2 (ge7_6 w) rfl
  | 7, _, h2 => gerr_at w h1 h2 (ge7_7 w) rfl
  | 8, _, h2 => gerr_at w h1 h2 (ge7_8 w) rfl
  | 9, _, h2 => gerr_at w h1 h2 (ge7_9 w) rfl
  | 10, _, h2 => gerr_at w h1 h2 (ge7_10 w) rfl
  | j + 11, hj, _ => absurd hj (by omega)
theorem gi8 (w : Int) (h1 : lw w % 13 = 8) : ∀ j, j < 11 → hw w % 11 = j → PureOK Tryz.prog 3 [.v (.int .i64 w)] (.v (.bool true)) true := fun j hj h2 => match j, hj, h2 with
  | 0, _, h2 => gerr_at w h1 h2 (ge8_0 w) rfl
  | 1, _, h2 => gerr_at w h1 h2 (ge8_1 w) rfl
  | 2, _, h2 => gerr_at w h1 h2 (ge8_2 w) rfl
  | 3, _, h2 => gerr_at w h1 h2 (ge8_3 w) rfl
  | 4, _, h2 => gerr_at w h1 h2 (ge8_4 w) rfl
  | 5, _, h2 => gerr_at w h1 h2 (ge8_5 w) rfl
  | 6, _, h2 => gerr_at w h1 h2 (ge8_6 w) rfl
  | 7, _, h2 => gerr_at w h1 h2 (ge8_7 w) rfl
  | 8, _, h2 => gerr_at w h1 h2 (ge8_8 w) rfl
  | 9, _, h2 => gerr_at w h1 h2 (ge8_9 w) rfl
  | 10, _, h2 => gerr_at w h1 h2 (ge8_10 w) rfl
  | j + 11, hj, _ => absurd hj (by omega)
theorem gi9 (w : Int) (h1 : lw w % 13 = 9) : ∀ j, j < 11 → hw w % 11 = j → PureOK Tryz.prog 3 [.v (.int .i64 w)] (.v (.bool true)) true := fun j hj h2 => match j, hj, h2 with
  | 0, _, h2 => gerr_at w h1 h2 (ge9_0 w) rfl
  | 1, _, h2 => gerr_at w h1 h2 (ge9_1 w) rfl
  | 2, _, h2 => gerr_at w h1 h2 (ge9_2 w) rfl
  | 3, _, h2 => gerr_at w h1 h2 (ge9_3 w) rfl
  | 4, _, h2 => gerr_at w h1 h2 (ge9_4 w) rfl
  | 5, _, h2 => gerr_at w h1 h2 (ge9_5 w) rfl
  | 6, _, h2 => gerr_at w h1 h2 (ge9_6 w) rfl
  | 7, _, h2 => gerr_at w h1 h2 (ge9_7 w) rfl
  | 8, _, h2 => gerr_at w h1 h2 (ge9_8 w) rfl
  | 9, _, h2 => gerr_at w h1 h2 (ge9_9 w) rfl
  | 10, _, h2 => gerr_at w h1 h2 (ge9_10 w) rfl
  | j + 11, hj, _ => absurd hj (by omega)
theorem gi10 (w : Int) (h1 : lw w % 13 = 10) : ∀ j, j < 11 → hw w % 11 = j → PureOK Tryz.prog 3 [.v (.int .i64 w)] (.v (.bool true)) true := fun j hj h2 => match j, hj, h2 with
  | 0, _, h2 => gerr_at w h1 h2 (ge10_0 w) rfl
  | 1, _, h2 => gerr_at w h1 h2 (ge10_1 w) rfl
  | 2, _, h2 => gerr_at w h1 h2 (ge10_2 w) rfl
  | 3, _, h2 => gerr_at w h1 h2 (ge10_3 w) rfl
  | 4, _, h2 => gerr_at w h1 h2 (ge10_4 w) rfl
  | 5, _, h2 => gerr_at w h1 h2 (ge10_5 w) rfl
  | 6, _, h2 => gerr_at w h1 h2 (ge10_6 w) rfl
  | 7, _, h2 => gerr_at w h1 h2 (ge10_7 w) rfl
  | 8, _, h2 => gerr_at w h1 h2 (ge10_8 w) rfl
  | 9, _, h2 => gerr_at w h1 h2 (ge10_9 w) rfl
  | 10, _, h2 => gerr_at w h1 h2 (ge10_10 w) rfl
  | j + 11, hj, _ => absurd hj (by omega)
theorem gi11 (w : Int) (h1 : lw w % 13 = 11) : ∀ j, j < 11 → hw w % 11 = j → PureOK Tryz.prog 3 [.v (.int .i64 w)] (.v (.bool true)) true := fun j hj h2 => match j, hj, h2 with
  | 0, _, h2 => gerr_at w h1 h2 (ge11_0 w) rfl
  | 1, _, h2 => gerr_at w h1 h2 (ge11_1 w) rfl
  | 2, _, h2 => gerr_at w h1 h2 (ge11_2 w) rfl
  | 3, _, h2 => gerr_at w h1 h2 (ge11_3 w) rfl
  | 4, _, h2 => gerr_at w h1 h2 (ge11_4 w) rfl
  | 5, _, h2 => gerr_at w h1 h2 (ge11_5 w) rfl
  | 6, _, h2 => gerr_at w h1 h2 (ge11_6 w) rfl
  | 7, _, h2 => gerr_at w h1 h2 (ge11_7 w) rfl
  | 8, _, h2 => gerr_at w h1 h2 (ge11_8 w) rfl
  | 9, _, h2 => gerr_at w h1 h2 (ge11_9 w) rfl
  | 10, _, h2 => gerr_at w h1 h2 (ge11_10 w) rfl
  | j + 11, hj, _ => absurd hj (by omega)
theorem gi12 (w : Int) (h1 : lw w % 13 = 12) : ∀ j, j < 11 → hw w % 11 = j → PureOK Tryz.prog 3 [.v (.int .i64 w)] (.v (.bool true)) true := fun j hj h2 => match j, hj, h2 with
  | 0, _, h2 => gerr_at w h1 h2 (ge12_0 w) rfl
  | 1, _, h2 => gerr_at w h1 h2 (ge12_1 w) rfl
  | 2, _, h2 => gerr_at w h1 h2 (ge12_2 w) rfl
  | 3, _, h2 => gerr_at w h1 h2 (ge12_3 w) rfl
  | 4, _, h2 => gerr_at w h1 h2 (ge12_4 w) rfl
  | 5, _, h2 => gerr_at w h1 h2 (ge12_5 w) rfl
  | 6, _, h2 => gerr_at w h1 h2 (ge12_6 w) rfl
  | 7, _, h2 => gerr_at w h1 h2 (ge12_7 w) rfl
  | 8, _, h2 => gerr_at w h1 h2 (ge12_8 w) rfl
  | 9, _, h2 => gerr_at w h1 h2 (ge12_9 w) rfl
  | 10, _, h2 => gerr_at w h1 h2 (ge12_10 w) rfl
  | j + 11, hj, _ => absurd hj (by omega)
theorem gall (w : Int) : ∀ i, i < 13 → lw w % 13 = i → PureOK Tryz.prog 3 [.v (.int .i64 w)] (.v (.bool true)) true := fun i hi h1 => match i, hi, h1 with
  | 0, _, h1 => gi0 w h1 _ (Nat.mod_lt _ (by decide)) rfl
  | 1, _, h1 => gi1 w h1 _ (Nat.mod_lt _ (by decide)) rfl
  | 2, _, h1 => gi2 w h1 _ (Nat.mod_lt _ (by decide)) rfl
  | 3, _, h1 => gi3 w h1 _ (Nat.mod_lt _ (by decide)) rfl
  | 4, _, h1 => gi4 w h1 _ (Nat.mod_lt _ (by decide)) rfl
  | 5, _, h1 => gi5 w h1 _ (Nat.mod_lt _ (by decide)) rfl
  | 6, _, h1 => gi6 w h1 _ (Nat.mod_lt _ (by decide)) rfl
  | 7, _, h1 => gi7 w h1 _ (Nat.mod_lt _ (by decide)) rfl
  | 8, _, h1 => gi8 w h1 _ (Nat.mod_lt _ (by decide)) rfl
  | 9, _, h1 => gi9 w h1 _ (Nat.mod_lt _ (by decide)) rfl
  | 10, _, h1 => gi10 w h1 _ (Nat.mod_lt _ (by decide)) rfl
  | 11, _, h1 => gi11 w h1 _ (Nat.mod_lt _ (by decide)) rfl
  | 12, _, h1 => gi12 w h1 _ (Nat.mod_lt _ (by decide)) rfl
  | i + 13, hi, _ => absurd hi (by omega)
theorem serr (w : Int) : PureOK Tryz.prog 3 [.v (.int .i64 w)] (.v (.bool true)) true := gall w _ (Nat.mod_lt _ (by decide)) rfl
/-- A law that only reckons, of one number. -/
theorem law_int {P : Program} {f : FuncId} {k : IntKind} {w : Int} {fr : Bool} (h : PureOK P f [.v (.int k w)] (.v (.bool true)) fr) (W : World) : Calls P f #[.int k w] W fun e W' => e = .returned (.bool true) ∧ Below W.heap.size W W' := by
  refine (h.2 W (fun _ => False) #[.int k w] (fun _ h => h.elim) rfl fun j x hj => ?_).mono fun e W' ⟨u, he, ⟨hb, _⟩, hv⟩ => ?_
  · cases j with
    | zero => cases hj; exact ⟨_, rfl, .v _ rfl⟩
    | succ j => cases hj
  · cases (show RC W' _ (.v (.bool true)) u from hv)
    exact ⟨he, hb⟩
end Ab
namespace Gerr
theorem own : ownKnob Tryz.prog.godebug = none := by kernel_rfl
theorem laidOut : laidOutB Tryz.prog = true := by kernel_rfl
/-- A world that holds the two tables. -/
def lit1 {H : Type} : DataW H → List Value
  | .lit (.int k n) => [Value.int k n]
  | _ => []
def lits {H : Type} : DataW H → Array Value
  | .agg l => (l.flatMap fun | .agg m => m.flatMap lit1 | d => lit1 d).toArray
  | _ => #[]
def row (cs : Array Value) : Obj → Obj
  | .cells _ t frozen => .cells cs t frozen
  | o => o
noncomputable def laidWorld (os : Os) : World :=
  { World.holding Tryz.prog os ⟨#[], #[.int .i64 0], []⟩ with heap := ((World.holding Tryz.prog os ⟨#[], #[.int .i64 0], []⟩).heap.modify 1 (row (lits Rows.laid_unicode_utf8_first))).modify 2 (row (lits (Rows.laid_unicode_utf8_acceptRanges (H := Unit)))) }
theorem laid_met (os : Os) : laidMet Tryz.prog Rows.gainErrorsRow.laid ((laidWorld os).forCall (fun _ _ => 0) ⟨#[], #[.int .i64 0], []⟩).memory :=
  laidMet_of_run' 8 (by kernel_rfl) (by kernel_rfl)
theorem reads (os : Os) {H : Type} (enc : TypeId × Value → H) : ∃ places, DataW.whole enc Tryz.prog ((laidWorld os).forCall (fun _ _ => 0) ⟨#[], #[.int .i64 0], []⟩).memory Tryz.f3.params.toList Rows.gainErrorsSpec.vars false (#[.int .i64 0] : Array Value).toList 8 = some ([.lit (.int .i64 0)], [], places) :=
  ⟨[], by kernel_rfl⟩
set_option maxRecDepth 100000 in
theorem lifted (os : Os) (started : os.Started) (H : Type) (enc : TypeId × Value → H) (F : Stop.Interp) :
    ReturnsInHanded {} Tryz.checked os 3 .any ((OpenSpec.ofChange Rows.gainErrorsSpec).preRow enc Tryz.prog Tryz.f3 Rows.gainErrorsRow.domain false Rows.gainErrorsRow.laid) (((OpenSpec.ofChange Rows.gainErrorsSpec).at F).post enc Tryz.prog Tryz.f3 false true false false) := by
  obtain ⟨places, hx⟩ := reads os enc
  refine returnsInHanded_of_row (C := Tryz.checked) (s := OpenSpec.ofChange Rows.gainErrorsSpec) own started (by kernel_rfl) Tryz.func3
    (witness_row_at (enc := enc) (C := Tryz.checked) false (laidWorld os) #[.int .i64 0] rfl (by kernel_rfl) (by kernel_rfl) (by kernel_rfl)
      (OpenSpec.preRow_of_cond 8 hx (by kernel_rfl) (fun k hk => by cases hk) (by kernel_rfl) (laid_met os))) ?_
  intro W base args ds gs before hval0 hW _ _ _ hL _ _
  have hval : ∀ (j : Nat) t v, Tryz.f3.params[j]? = some t → args[j]? = some v → Value.okWide Tryz.prog W .any base t v := hval0
  have hW0 : DataW.Whole enc Tryz.prog Tryz.f3.params.toList Rows.gainErrorsSpec.vars false W args.toList ds gs before := hW
  have hW' := hW0
  obtain ⟨p, q, hA0, hV, rfl, _, _⟩ := hW0
  have hA : DataW.TrodAll enc Tryz.prog W 0 (fun _ => true) true Tryz.f3.params.toList args.toList ds p := hA0
  rw [Tryz.params3] at hA hval
  obtain ⟨v0, d0, rfl, rfl, h0⟩ := trodAll_one hA
  obtain ⟨w, rfl⟩ := okWide_int Tryz.underlying3 (hval 0 3 v0 rfl rfl)
  exact (Ab.law_int (Ab.serr w) W).mono fun e W' ⟨he, hb⟩ => ⟨_, he, Cm.law_post laidOut (by kernel_rfl) rfl (tb := 4) (by kernel_rfl) Tryz.underlying4 rfl rfl rfl hW' hb⟩
theorem said : Rows.GainErrorsSaid :=
  OpenClaim.holds_of_cond 3 Tryz.f3 rfl rfl rfl rfl rfl rfl rfl ⟨rfl, rfl, rfl, rfl, rfl⟩ rfl rfl rfl rfl rfl (by kernel_rfl) Tryz.func3 (by kernel_rfl)
    (of_decide_eq_true (by kernel_rfl)) (by unfold Func.isWrapper; first | (rw [if_pos (by decide +kernel)]; kernel_rfl) | (rw [if_neg (by decide +kernel)]; exact ⟨rfl, rfl⟩))
    (fun os started H enc _ F => by rw [OpenClaim.pre_eq_preRow]; exact lifted os started H enc F)
theorem plain (f : FuncId) (fn : Func) (hf : Tryz.pinned.checked.prog.funcNamed "entail/entaillaw19.GainErrors" = some f) (hfn : Tryz.pinned.checked.prog.funcs[f]? = some fn) :
    false = Tryz.pinned.checked.prog.looks [] ∧ ∀ (j : Nat) t, fn.params[j]? = some t → Tryz.pinned.checked.prog.wantsStandIn t = false := by
  obtain rfl : f = 3 := Option.some.inj ((show Tryz.prog.funcNamed "entail/entaillaw19.GainErrors" = some 3 by kernel_rfl).symm.trans hf) |>.symm
  obtain rfl : fn = Tryz.f3 := (Option.some.inj (Tryz.func3.symm.trans hfn)).symm
  refine ⟨by kernel_rfl, fun j t ht => ?_⟩
  rw [Tryz.params3] at ht
  cases j with
  | zero =>
    obtain rfl := Option.some.inj ht
    kernel_rfl
  | succ j => simp at ht
theorem card : Rows.GainErrorsCardSaid :=
  Claim7.holds_tied_plain_at .later [] _ _ _ _ said (fun _ h => by cases h) (by kernel_rfl) (fun _ h => by cases h) gainErrors_row_tie rfl ⟨rfl, rfl⟩ (by kernel_rfl) rfl plain (by kernel_rfl)
#print axioms card
end Gerr
end Go.Proofs.YtkdpiembjjefaaaGreatDoor

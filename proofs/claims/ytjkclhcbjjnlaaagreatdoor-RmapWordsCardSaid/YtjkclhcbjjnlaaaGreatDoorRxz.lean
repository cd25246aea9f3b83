/-
  RmapWords: the rows joined.
-/
import Derived.Test.YtjkclhcbjjnlaaaGreatDoorRx1
import Derived.Test.YtjkclhcbjjnlaaaGreatDoorRx2
import Derived.Test.YtjkclhcbjjnlaaaGreatDoorRx3
import Derived.Test.YtjkclhcbjjnlaaaGreatDoorRx4
import Derived.Test.YtjkclhcbjjnlaaaGreatDoorRx5
namespace Go.Proofs.YtjkclhcbjjnlaaaGreatDoor.Ab
open Go.RowKit
theorem rw_at (w : Int) {r : Nat} (hr : lw w % 9 = r) {hk : Hk} {tr : List Cl} (h : evalZ Tryz.prog (primOf primsW) 1000000 400 3 [.v (.int .i64 w)] hk = some (.v (.bool true), true, tr)) (ht : tr = [(.rem, 3, low8 w, .int .i64 (9 : Nat), .int .i64 (r : Nat))]) : PureOK Tryz.prog 3 [.v (.int .i64 w)] (.v (.bool true)) true := by
  refine evalZ_ok fol primsW_ok h fun c hc => ?_
  rw [ht] at hc
  simp only [List.mem_cons, List.not_mem_nil, or_false] at hc
  rcases hc with rfl
  exact cl_rem w r 9 (by decide) hr
theorem words16 (w : Int) : PureOK Tryz.prog 3 [.v (.int .i64 w)] (.v (.bool true)) true := by
  have h9 : lw w % 9 < 9 := Nat.mod_lt _ (by decide)
  have hc : lw w % 9 = 0 ∨ lw w % 9 = 1 ∨ lw w % 9 = 2 ∨ lw w % 9 = 3 ∨ lw w % 9 = 4 ∨ lw w % 9 = 5 ∨ lw w % 9 = 6 ∨ lw w % 9 = 7 ∨ lw w % 9 = 8 := by omega
  rcases hc with h | h | h | h | h | h | h | h | h
  · exact rw_at w h (rw_0 w) rfl
  · exact rw_at w h (rw_1 w) rfl
  · exact rw_at w h (rw_2 w) rfl
  · exact rw_at w h (rw_3 w) rfl
  · exact rw_at w h (rw_4 w) rfl
  · exact rw_at w h (rw_5 w) rfl
  · exact rw_at w h (rw_6 w) rfl
  · exact rw_at w h (rw_7 w) rfl
  · exact rw_at w h (rw_8 w) rfl
def law16_RmapWords (_ : Nat) (_ : Int) : Option Bool := some true
theorem law16_RmapWords_ok {n : Nat} {t0 : Int} {r : Bool} (H : law16_RmapWords n t0 = some r) : PureOK Tryz.prog 3 [D.v (.int .i64 t0)] (D.v (.bool r)) true := by
  obtain rfl := Option.some.inj H
  exact words16 t0
theorem law_words_ex (t0 : Int) {p : Prop} (_ : p) : ∃ n, law16_RmapWords n t0 = some true := ⟨0, rfl⟩
end Go.Proofs.YtjkclhcbjjnlaaaGreatDoor.Ab

/-
  '==' and '!=' on tuples.
-/
import Derived.Test.YtdckfddlcmkdlaaRd
import Derived.Lib.Strings
namespace Go.Proofs.Ytdckfddlcmkdlaa
open Go.RowKit
namespace TEq
theorem tl (a b : ByteArray) : a.toList = b.toList ↔ a = b := by
  rw [Lib.toList_data, Lib.toList_data]
  exact ⟨Tp.bytes_inj, fun h => by rw [h]⟩
theorem ifs {p : Prop} [Decidable p] {x y : Result Value} {b : Bool} {w : World} (h1 : p → x = .ok (.bool b) w) (h2 : ¬ p → y = .ok (.bool b) w) : (if p then x else y) = .ok (.bool b) w := by
  split
  · exact h1 ‹_›
  · exact h2 ‹_›
theorem core (x y : Tp) (t f : Bool) (w : World) : (if x.ot = y.ot then if x.oi = y.oi then if x.rl = y.rl then if x.st = y.st then if x.si = y.si then if x.sr = y.sr then Result.ok (Value.bool t) w else Result.ok (Value.bool f) w else Result.ok (Value.bool f) w
      else Result.ok (Value.bool f) w else Result.ok (Value.bool f) w else Result.ok (Value.bool f) w else Result.ok (Value.bool f) w) = .ok (.bool (if x = y then t else f)) w := by
  by_cases h : x = y
  · subst h
    simp
  · rw [if_neg h]
    refine ifs (fun h1 => ifs (fun h2 => ifs (fun h3 => ifs (fun h4 => ifs (fun h5 => ifs (fun h6 => ?_) fun _ => rfl) fun _ => rfl) fun _ => rfl) fun _ => rfl) fun _ => rfl) fun _ => rfl
    exact absurd (by cases x; cases y; simp only at h1 h2 h3 h4 h5 h6; rw [h1, h2, h3, h4, h5, h6]) h
theorem eql (x y : Tp) (w : World) : (binOp .eql 41 x.val y.val).run Try.prog w = .ok (.bool (decide (x = y))) w := by
  unfold Tp.val
  rw [run_eql_struct]
  simp [go_sem, tl]
  have := core x y true false w
  rw [this]
  by_cases h : x = y <;> simp [h]
theorem neq (x y : Tp) (w : World) : (binOp .neq 41 x.val y.val).run Try.prog w = .ok (.bool (!decide (x = y))) w := by
  unfold Tp.val
  rw [run_neq_struct]
  simp [go_sem, tl]
  have := core x y false true w
  rw [this]
  by_cases h : x = y <;> simp [h]
end TEq
end Go.Proofs.Ytdckfddlcmkdlaa

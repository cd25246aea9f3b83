/-
  StorPlays: from what is known of the batch to what its law wants.
-/
import Derived.Test.YtdckfddlcmkdlaaSpr
import Derived.Test.YtdckfddlcmkdlaaSpzo
namespace Go.Proofs.Ytdckfddlcmkdlaa.Ab
open Go.RowKit
theorem okG_sz {N : Nat} {t : GTuple} (h : okGTuple N t) : szT N t := ⟨h.1.1, h.1.2.1, h.2.1, h.2.2.1.1, h.2.2.1.2.1, h.2.2.1.2.2.1⟩
theorem law_storPlays (z : Int) (b : GBatch) (l : List (List Int)) (r : Int) (_ : okIn .i64 1048576 z) (k : okGBatch 1048576 b) (_ : okLs (okLs (okIn .i64)) 1048576 l) (_ : okIn .i64 1048576 r) : ∃ n, law4_StorPlays n z b l r = some true := by
  refine law_storPlays0 z l r ?_ k.1.1 k.2.1.1 k.2.2.1.1 k.2.2.2.1.1
  by_cases h : 60 < b.add.length + b.drop.length + b.must.length + b.not_.length
  · exact .inl h
  · exact .inr ⟨by omega, by omega, by omega, by omega, fun t m => okG_sz (k.1.2 t m), fun t m => okG_sz (k.2.1.2 t m), fun t m => okG_sz (k.2.2.1.2 t m), fun t m => okG_sz (k.2.2.2.1.2 t m)⟩
end Go.Proofs.Ytdckfddlcmkdlaa.Ab

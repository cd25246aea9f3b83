/-
  norm.sods, norm.sessions of nothing: reckoned by the kernel.
-/
import Derived.Test.YtkkhgdmmbhpckaaGreatNak
import Derived.Test.YtkkhgdmmbhpckaaGreatNms
namespace Go.Proofs.YtkkhgdmmbhpckaaGreat.Ab
open Go.RowKit
theorem sods_nil : PureOK Tryz.prog 33 [.sl []] (.sl []) true := eval_ok (N := 2000) (n := 100) fol prims14_ok (by kernel_rfl)
theorem sessions_nil : PureOK Tryz.prog 34 [.sl []] (.sl []) true := eval_ok (N := 2000) (n := 100) fol prims14_ok (by kernel_rfl)
def norm_sods (_n : Nat) (xs : List GSod) : Option (List GSod) := if xs.length = 0 then some [] else none
theorem norm_sods_ok {n : Nat} {xs r : List GSod} (h : norm_sods n xs = some r) : PureOK Tryz.prog 33 [D.sl (List.map eGSod xs)] (D.sl (List.map eGSod r)) true := by
  unfold norm_sods at h
  split at h
  · rename_i hn
    obtain rfl := Option.some.inj h
    obtain rfl := List.eq_nil_of_length_eq_zero hn
    exact sods_nil
  · cases h
def norm_sessions (_n : Nat) (xs : List GSession) : Option (List GSession) := if xs.length = 0 then some [] else none
theorem norm_sessions_ok {n : Nat} {xs r : List GSession} (h : norm_sessions n xs = some r) : PureOK Tryz.prog 34 [D.sl (List.map eGSession xs)] (D.sl (List.map eGSession r)) true := by
  unfold norm_sessions at h
  split at h
  · rename_i hn
    obtain rfl := Option.some.inj h
    obtain rfl := List.eq_nil_of_length_eq_zero hn
    exact sessions_nil
  · cases h
end Go.Proofs.YtkkhgdmmbhpckaaGreat.Ab

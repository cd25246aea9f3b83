/-
 What is known ahead of some functions of the library.
-/
import Derived.Test.YtnmkbmefohakmaaGreatLtx
import Derived.Test.YtnmkbmefohakmaaGreatAbY
set_option linter.all false
namespace Go.Proofs.YtnmkbmefohakmaaGreat.Ab
open Go.Shelf Go.RowKit
theorem dP:WV Tryz.prog (ZV 138):=
 Rx ⟨_,Tryz.func138,by kernel_rfl,by kernel_rfl⟩ fun a b w=>Any.bytealg_CompareString mB a b w
end Go.Proofs.YtnmkbmefohakmaaGreat.Ab
namespace Go.Proofs.YtnmkbmefohakmaaGreat.Ab
open Go.RowKit

theorem clT:AI Tryz.prog 118 [.sl []] (.sl []) true:=
 Tz Ep EN Tryz.func118 (T:=26) (B:=4) rfl (by kernel_rfl) (by kernel_rfl) (by decide) rfl (by simp only[go_sem]) (by simp only[go_sem]) (by simp only[go_sem];decide) (by simp only[go_sem];decide)
theorem clU:AI Tryz.prog 145 [.sl []] (.sl []) true:=
 Tz Ep EN Tryz.func145 (T:=49) (B:=4) rfl (by kernel_rfl) (by kernel_rfl) (by decide) rfl (by simp only[go_sem]) (by simp only[go_sem]) (by simp only[go_sem];decide) (by simp only[go_sem];decide)
theorem clW:AI Tryz.prog 166 [.sl []] (.sl []) true:=
 Tz Ep EN Tryz.func166 (T:=201) (B:=4) rfl (by kernel_rfl) (by kernel_rfl) (by decide) rfl (by simp only[go_sem]) (by simp only[go_sem]) (by simp only[go_sem];decide) (by simp only[go_sem];decide)
def rW:List UJ:=[ZV 138,WW 118,WW 145,WW 166]
theorem U2:∀p∈rW,WV Tryz.prog p:=by
 intro p a;simp only[rW,Lr,L8,or_false] at a;rcases a with rfl |rfl |rfl |rfl
 ·exact dP
 ·exact dL clT
 ·exact dL clU
 exact dL clW
end Go.Proofs.YtnmkbmefohakmaaGreat.Ab

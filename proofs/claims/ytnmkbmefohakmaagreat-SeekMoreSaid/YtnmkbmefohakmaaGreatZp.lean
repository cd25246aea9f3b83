/-
 What is known ahead of some functions of the library.
-/
import Derived.Test.YtnmkbmefohakmaaGreatCs
import Derived.Test.YtnmkbmefohakmaaGreatAbY
set_option linter.all false
namespace Go.Proofs.YtnmkbmefohakmaaGreat.Ab
open Go.Shelf Go.RowKit
theorem aO:Um Tryz.prog (XR 138):=
 QR ⟨_,Tryz.func138,by kernel_rfl,by kernel_rfl⟩ fun a b w=>Any.bytealg_CompareString iV a b w
end Go.Proofs.YtnmkbmefohakmaaGreat.Ab
namespace Go.Proofs.YtnmkbmefohakmaaGreat.Ab
open Go.RowKit

theorem wZ:AI Tryz.prog 118 [.sl []] (.sl []) true:=
 SN EO D7 Tryz.func118 (T:=26) (B:=4) rfl (by kernel_rfl) (by kernel_rfl) (by decide) rfl (by simp only[go_sem]) (by simp only[go_sem]) (by simp only[go_sem];decide) (by simp only[go_sem];decide)
theorem wa:AI Tryz.prog 145 [.sl []] (.sl []) true:=
 SN EO D7 Tryz.func145 (T:=49) (B:=4) rfl (by kernel_rfl) (by kernel_rfl) (by decide) rfl (by simp only[go_sem]) (by simp only[go_sem]) (by simp only[go_sem];decide) (by simp only[go_sem];decide)
theorem wc:AI Tryz.prog 166 [.sl []] (.sl []) true:=
 SN EO D7 Tryz.func166 (T:=201) (B:=4) rfl (by kernel_rfl) (by kernel_rfl) (by decide) rfl (by simp only[go_sem]) (by simp only[go_sem]) (by simp only[go_sem];decide) (by simp only[go_sem];decide)
def nZ:List Se:=[XR 138,Un 118,Un 145,Un 166]
theorem TC:∀p∈nZ,Um Tryz.prog p:=by
 intro p hp;simp only[nZ,Lm,LT,or_false] at hp;rcases hp with rfl |rfl |rfl |rfl
 ·exact aO
 ·exact aM wZ
 ·exact aM wa
 exact aM wc
end Go.Proofs.YtnmkbmefohakmaaGreat.Ab

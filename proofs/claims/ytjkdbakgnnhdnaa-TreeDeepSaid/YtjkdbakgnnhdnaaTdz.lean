/-
 Groups, each in the one before: their tree grows as deep as the bound says, and a ring leads back once. No condition.
-/
import Derived.Test.YtjkdbakgnnhdnaaTdr
import Derived.Test.YtjkdbakgnnhdnaaOpn
namespace Go.Proofs.Ytjkdbakgnnhdnaa
open Go.ChangeShapes Go.WideShapes Go.ChangeAt Go.RowKit
namespace Ab
end Ab
namespace TdzF
open Ab
set_option maxRecDepth 100000 in
theorem lifted (os : Os) (started : os.Started) (H : Type) (enc : TypeId × Value → H) :
  ReturnsInHanded {} Try.checked os 3 .any (Rows.treeDeepSpec.pre6 enc Try.prog Try.f3 Rows.treeDeepRow.domain false) (Rows.treeDeepSpec.post enc Try.prog Try.f3 false true false false) := by
 refine returnsInHanded_of_change (C := Try.checked) (by kernel_rfl) started (by kernel_rfl) Try.func3
  (ChangeSpec.witness6 (enc := enc) (C := Try.checked) false ⟨#[], #[.int .i64 0, .bool false], []⟩ 8 (by kernel_rfl) (by kernel_rfl) (by kernel_rfl) (by kernel_rfl)) ?_
 intro W base args ds gs before hval0 hW _ _
 have hval : ∀ (j : Nat) t v, Try.f3.params[j]? = some t → args[j]? = some v → Value.okWide Try.prog W .any base t v := hval0
 have hW0 : DataW.Whole enc Try.prog Try.f3.params.toList Rows.treeDeepSpec.vars false W args.toList ds gs before := hW
 have hW' := hW0
 obtain ⟨p, q, hA0, hV, rfl, _, _⟩ := hW
 have hA : DataW.TrodAll enc Try.prog W 0 (fun _ => true) true Try.f3.params.toList args.toList ds p := hA0
 rw [Try.params3] at hA hval
 obtain ⟨vs⟩ := args
 obtain ⟨v0, vs1, d0, ds1, p0, q0, e0, c0, _, h0, hA1⟩ := trodAll_cons hA
 obtain ⟨v1, vs2, d1, ds2, p1, q1, e1, c1, _, h1, hA2⟩ := trodAll_cons hA1
 obtain ⟨eN, cN, _⟩ := trodAll_nil hA2
 subst eN
 subst cN
 subst e1
 subst c1
 have e0 : vs = _ := e0
 subst e0
 subst c0
 obtain ⟨x0, rfl⟩ := okWide_int Try.underlying3 (hval 0 3 v0 rfl rfl)
 obtain ⟨a0, k0, r0⟩ := Ab.Opens.one (e := (fun n : Int => D.v (.int .i64 n))) (ok := (fun n : Int => (Lit.int .i64 n).wf = true)) (Ab.Opens.int Try.underlying3) rfl h0
 obtain ⟨x1, rfl⟩ := okWide_bool Try.underlying4 (hval 1 4 v1 rfl rfl)
 obtain ⟨a1, k1, r1⟩ := Ab.Opens.one (e := (fun b : Bool => D.v (.bool b))) (ok := (fun _b : Bool => True)) (Ab.Opens.bool Try.underlying4) rfl h1
 obtain ⟨n, hn⟩ := Ab.law_treeDeep_ex a0 a1 k0 k1
 exact (Ab.law_pure (Ab.law10_TreeDeep_ok hn) W [.int .i64 x0, .bool x1] rfl (Ab.rows_cons r0 (Ab.rows_cons r1 Ab.rows_nil))).mono fun e W' ⟨he, hb⟩ => ⟨_, he, Cm.law_post (by kernel_rfl) (by kernel_rfl) rfl (tb := 4) (by kernel_rfl) Try.underlying4 rfl rfl rfl hW0 hb⟩
theorem said : Rows.TreeDeepSaid :=
 OpenClaim.holds_of_wide 3 Try.f3 rfl rfl rfl rfl rfl rfl rfl ⟨rfl, rfl, rfl, rfl, rfl⟩ rfl rfl rfl rfl rfl (by kernel_rfl) Try.func3 (by kernel_rfl)
  (of_decide_eq_true (by kernel_rfl)) (by unfold Func.isWrapper; first | (rw [if_pos (by decide +kernel)]; kernel_rfl) | (rw [if_neg (by decide +kernel)]; exact ⟨rfl, rfl⟩))
  (fun os started H enc _ => lifted os started H enc)
#print axioms said
end TdzF
end Go.Proofs.Ytjkdbakgnnhdnaa

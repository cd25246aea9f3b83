/-
  entaillaw3.RowsLaws returns true, whatever two lists of numbers (each nil too), whatever cut and number it is handed; what was there reads as it did. No condition.
-/
import Derived.Test.YtdckfddlcmkdlaaArg
import Derived.Test.YtdckfddlcmkdlaaCm
import Derived.Test.YtdckfddlcmkdlaaLaws
namespace Go.Proofs.Ytdckfddlcmkdlaa
open Go.ChangeShapes Go.WideShapes Go.ChangeAt Go.RowKit
namespace Rlaws

set_option maxRecDepth 100000 in
theorem lifted (os : Os) (started : os.Started) (H : Type) (enc : TypeId × Value → H) :
    ReturnsInHanded {} Try.checked os 6 .any (Rows.rowsLawsSpec.pre6 enc Try.prog Try.f6 Rows.rowsLawsRow.domain false) (Rows.rowsLawsSpec.post enc Try.prog Try.f6 false true false false) := by
  refine returnsInHanded_of_change (C := Try.checked) Ar.own started (by kernel_rfl) Try.func6
    (ChangeSpec.witness6 (enc := enc) (C := Try.checked) false ⟨#[], #[.slice none 0 0, .slice none 0 0, .int .i64 0, .int .i64 0], []⟩ 8 (by kernel_rfl) (by kernel_rfl) (by kernel_rfl) (by kernel_rfl)) ?_
  intro W base args ds gs before hval0 hW _ _
  have hval : ∀ (j : Nat) t v, Try.f6.params[j]? = some t → args[j]? = some v → Value.okWide Try.prog W .any base t v := hval0
  have hW' := hW
  obtain ⟨p, q, hA0, hV, rfl, _, _⟩ := hW
  have hA : DataW.TrodAll enc Try.prog W 0 (fun _ => true) true Try.f6.params.toList args.toList ds p := hA0
  rw [Try.params6] at hA hval
  obtain ⟨v0, v1, v2, v3, d0, d1, d2, d3, p0, p1, p2, p3, rfl, rfl, rfl, h0, h1, h2, h3⟩ := trodAll_four hA
  obtain ⟨a0, n0, c0, rfl⟩ := okWide_slice Try.underlying22 (hval 0 22 v0 rfl rfl)
  obtain ⟨a1, n1, c1, rfl⟩ := okWide_slice Try.underlying22 (hval 1 22 v1 rfl rfl)
  obtain ⟨u, rfl, _, _, _⟩ := open_int Try.underlying3 (hval 2 3 v2 rfl rfl) h2
  obtain ⟨z, rfl, _, _, _⟩ := open_int Try.underlying2 (hval 3 2 v3 rfl rfl) h3
  obtain ⟨zs, hz⟩ := Ar.ints_of h0
  obtain ⟨ys, hy⟩ := Ar.ints_of h1
  exact (Lws.laws_any a0 a1 n0 c0 n1 c1 zs ys u z W hz hy).mono fun e W' ⟨he, hb⟩ => ⟨_, he, Cm.law_post Ar.laidOut (by kernel_rfl) rfl (tb := 4) (by kernel_rfl) Try.underlying4 rfl rfl rfl hW' hb⟩

theorem said : Rows.RowsLawsSaid :=
  OpenClaim.holds_of_wide 6 Try.f6 rfl rfl rfl rfl rfl rfl rfl ⟨rfl, rfl, rfl, rfl, rfl⟩ rfl rfl rfl rfl rfl (by kernel_rfl) Try.func6 (by kernel_rfl)
    (of_decide_eq_true (by kernel_rfl)) (by unfold Func.isWrapper; first | (rw [if_pos (by decide +kernel)]; kernel_rfl) | (rw [if_neg (by decide +kernel)]; exact ⟨rfl, rfl⟩))
    (fun os started H enc _ => lifted os started H enc)
#print axioms said
end Rlaws
end Go.Proofs.Ytdckfddlcmkdlaa

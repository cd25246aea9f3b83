/-
  What was at a revision stays as it was, whatever is written behind it; what is answered may be changed by who asked. No condition.
-/
import Derived.Test.YtdckfddlcmkdlaaPtp
import Derived.Test.YtdckfddlcmkdlaaOpn
namespace Go.Proofs.Ytdckfddlcmkdlaa
open Go.ChangeShapes Go.WideShapes Go.ChangeAt Go.RowKit
namespace Ab
end Ab
namespace PtzF
open Ab
set_option maxRecDepth 100000 in
theorem lifted (os : Os) (started : os.Started) (H : Type) (enc : TypeId × Value → H) :
    ReturnsInHanded {} Try.checked os 7 .any (Rows.storPastSpec.pre6 enc Try.prog Try.f7 Rows.storPastRow.domain false) (Rows.storPastSpec.post enc Try.prog Try.f7 false true false false) := by
  refine returnsInHanded_of_change (C := Try.checked) (by kernel_rfl) started (by kernel_rfl) Try.func7
    (ChangeSpec.witness6 (enc := enc) (C := Try.checked) false ⟨#[], #[.slice none 0 0], []⟩ 8 (by kernel_rfl) (by kernel_rfl) (by kernel_rfl) (by kernel_rfl)) ?_
  intro W base args ds gs before hval0 hW _ _
  have hval : ∀ (j : Nat) t v, Try.f7.params[j]? = some t → args[j]? = some v → Value.okWide Try.prog W .any base t v := hval0
  have hW' := hW
  obtain ⟨p, q, hA0, hV, rfl, _, _⟩ := hW
  have hA : DataW.TrodAll enc Try.prog W 0 (fun _ => true) true Try.f7.params.toList args.toList ds p := hA0
  rw [Try.params7] at hA hval
  obtain ⟨vs⟩ := args
  obtain ⟨v0, vs1, d0, ds1, p0, q0, e0, c0, _, h0, hA1⟩ := trodAll_cons hA
  obtain ⟨eN, cN, _⟩ := trodAll_nil hA1
  subst eN
  subst cN
  have e0 : vs = _ := e0
  subst e0
  subst c0
  obtain ⟨x0, y0, z0, rfl⟩ := okWide_slice Try.underlying45 (hval 0 45 v0 rfl rfl)
  obtain ⟨a0, k0, r0⟩ := Ab.Opens.one (e := (fun l : List (List Int) => D.sl (List.map (eL eI) l))) (ok := (fun l : List (List Int) => l.length ≤ maxLen ∧ ∀ y ∈ l, y.length ≤ maxLen ∧ ∀ z ∈ y, (Lit.int .i64 z).wf = true)) (Ab.Opens.slice (k := 1) (ok := (fun l : List Int => l.length ≤ maxLen ∧ ∀ y ∈ l, (Lit.int .i64 y).wf = true)) Try.underlying45 (by kernel_rfl) (by decide) (by intro _; rfl) (Ab.Opens.slice (k := 1) (ok := (fun n => (Lit.int .i64 n).wf = true)) Try.underlying22 (by kernel_rfl) (by decide) (by intro _; rfl) (Ab.Opens.int Try.underlying2))) rfl h0
  obtain ⟨n, hn⟩ := Ab.law_storPast1 a0 k0
  exact (Ab.law_pure (Ab.law4_StorPast_ok hn) W [.slice x0 y0 z0] rfl (Ab.rows_cons r0 Ab.rows_nil)).mono fun e W' ⟨he, hb⟩ => ⟨_, he, Cm.law_post (by kernel_rfl) (by kernel_rfl) rfl (tb := 4) (by kernel_rfl) Try.underlying4 rfl rfl rfl hW' hb⟩

theorem said : Rows.StorPastSaid :=
  OpenClaim.holds_of_wide 7 Try.f7 rfl rfl rfl rfl rfl rfl rfl ⟨rfl, rfl, rfl, rfl, rfl⟩ rfl rfl rfl rfl rfl (by kernel_rfl) Try.func7 (by kernel_rfl)
    (of_decide_eq_true (by kernel_rfl)) (by unfold Func.isWrapper; first | (rw [if_pos (by decide +kernel)]; kernel_rfl) | (rw [if_neg (by decide +kernel)]; exact ⟨rfl, rfl⟩))
    (fun os started H enc _ => lifted os started H enc)
#print axioms said
end PtzF
end Go.Proofs.Ytdckfddlcmkdlaa

/-
  Batches are written whole, or refused, as the document says; each revision is kept. No condition but that what is read is of bulk at most 1048576.
-/
import Derived.Test.YtdckfddlcmkdlaaSps
import Derived.Test.YtdckfddlcmkdlaaSpzo
import Derived.OpenShut
import Derived.JoinedCond
namespace Go.Proofs.Ytdckfddlcmkdlaa
open Go.ChangeShapes Go.WideShapes Go.ChangeAt Go.RowKit
namespace SpzU
open Ab
theorem own : ownKnob Try.prog.godebug = none := by kernel_rfl
set_option maxRecDepth 100000 in
theorem lifted (os : Os) (started : os.Started) (H : Type) (enc : TypeId × Value → H) (F : Stop.Interp) :
    ReturnsInHanded {} Try.checked os 8 .any ((Rows.OpenSpec.upto Rows.storPlaysSpec).pre6 enc Try.prog Try.f8 Rows.storPlaysUptoRow.domain false) (((Rows.OpenSpec.upto Rows.storPlaysSpec).at F).post enc Try.prog Try.f8 false true false false) := by
  refine returnsInHanded_of_cond (C := Try.checked) (s := Rows.OpenSpec.upto Rows.storPlaysSpec) (k := Rows.uptoSmall) rfl own started (by kernel_rfl) Try.func8
    (OpenSpec.witness (enc := enc) (C := Try.checked) (s := Rows.OpenSpec.upto Rows.storPlaysSpec) (k := Rows.uptoSmall) rfl false ⟨#[], #[.int .i64 0, .agg #[.slice none 0 0, .slice none 0 0, .slice none 0 0, .slice none 0 0], .slice none 0 0, .int .i64 0], []⟩ 8 (by kernel_rfl) (by kernel_rfl) (by kernel_rfl)
      (x := ([.lit (.int .i64 0), .agg [.nil, .nil, .nil, .nil], .nil, .lit (.int .i64 0)], [], [])) (by kernel_rfl) rfl (by kernel_rfl)) ?_
  intro W base args ds gs before hval0 hW _ hk _
  have hval : ∀ (j : Nat) t v, Try.f8.params[j]? = some t → args[j]? = some v → Value.okWide Try.prog W .any base t v := hval0
  have hW' := hW
  obtain ⟨p, q, hA0, hV, rfl, _, _⟩ := hW
  obtain ⟨rfl, rfl⟩ := trodVars_none hV
  have hA : DataW.TrodAll enc Try.prog W 0 (fun _ => true) true Try.f8.params.toList args.toList ds p := hA0
  rw [Try.params8] at hA hval
  obtain ⟨vs⟩ := args
  obtain ⟨v0, vs1, d0, ds1, p0, q0, e0, c0, _, h0, hA1⟩ := trodAll_cons hA
  obtain ⟨v1, vs2, d1, ds2, p1, q1, e1, c1, _, h1, hA2⟩ := trodAll_cons hA1
  obtain ⟨v2, vs3, d2, ds3, p2, q2, e2, c2, _, h2, hA3⟩ := trodAll_cons hA2
  obtain ⟨v3, vs4, d3, ds4, p3, q3, e3, c3, _, h3, hA4⟩ := trodAll_cons hA3
  obtain ⟨eN, cN, _⟩ := trodAll_nil hA4
  subst eN
  subst cN
  subst e3
  subst c3
  subst e2
  subst c2
  subst e1
  subst c1
  have e0 : vs = _ := e0
  subst e0
  subst c0
  have hb := of_decide_eq_true hk
  simp only [List.append_nil, Rows.uptoBulkAll] at hb
  obtain ⟨x0, rfl⟩ := okWide_int Try.underlying3 (hval 0 3 v0 rfl rfl)
  obtain ⟨a0, k0, r0⟩ := Opens.one (e := (fun n : Int => D.v (.int .i64 n))) (ok := (okIn .i64)) (Opens.int Try.underlying3) rfl h0
  replace k0 := monoIn _ 1048576 _ (by omega) k0
  obtain ⟨a1, k1, r1⟩ := Opens.agg (ok := okGBatch) opensGBatch Try.underlying54 (hval 1 54 v1 rfl rfl) h1
  replace k1 := monoGBatch _ 1048576 _ (by omega) k1
  obtain ⟨x2, y2, z2, rfl⟩ := okWide_slice Try.underlying45 (hval 2 45 v2 rfl rfl)
  obtain ⟨a2, k2, r2⟩ := Opens.one (e := (fun l : List (List Int) => D.sl (List.map (eL eI) l))) (ok := (okLs (okLs (okIn .i64)))) (Opens.slice (k := 1) (ok := (okLs (okIn .i64))) Try.underlying45 (by kernel_rfl) (by decide) (by intro _; rfl) (monoLs monoIn) (Opens.slice (k := 1) (ok := (okIn .i64)) Try.underlying22 (by kernel_rfl) (by decide) (by intro _; rfl) monoIn (Opens.int Try.underlying2))) rfl h2
  replace k2 := (monoLs (monoLs monoIn)) _ 1048576 _ (by omega) k2
  obtain ⟨x3, rfl⟩ := okWide_int Try.underlying3 (hval 3 3 v3 rfl rfl)
  obtain ⟨a3, k3, r3⟩ := Opens.one (e := (fun n : Int => D.v (.int .i64 n))) (ok := (okIn .i64)) (Opens.int Try.underlying3) rfl h3
  replace k3 := monoIn _ 1048576 _ (by omega) k3
  obtain ⟨n, hn⟩ := law_storPlays a0 a1 a2 a3 k0 k1 k2 k3
  exact (Ab.law_pure (law4_StorPlays_ok hn) W [.int .i64 x0, v1, .slice x2 y2 z2, .int .i64 x3] rfl (Ab.rows_cons r0 (Ab.rows_cons r1 (Ab.rows_cons r2 (Ab.rows_cons r3 Ab.rows_nil))))).mono fun e W' ⟨he, hb⟩ => ⟨_, he, Cm.law_post (s := Rows.storPlaysSpec) (by kernel_rfl) (by kernel_rfl) rfl (tb := 4) (by kernel_rfl) Try.underlying4 rfl rfl rfl hW' hb⟩

theorem said : Rows.StorPlaysUptoSaid :=
  OpenClaim.holds_of_cond 8 Try.f8 rfl rfl rfl rfl rfl rfl rfl ⟨rfl, rfl, rfl, rfl, rfl⟩ rfl rfl rfl rfl rfl (by kernel_rfl) Try.func8 (by kernel_rfl)
    (of_decide_eq_true (by kernel_rfl)) (by unfold Func.isWrapper; first | (rw [if_pos (by decide +kernel)]; kernel_rfl) | (rw [if_neg (by decide +kernel)]; exact ⟨rfl, rfl⟩))
    (fun os started H enc _ F => lifted os started H enc F)
#print axioms said
end SpzU
end Go.Proofs.Ytdckfddlcmkdlaa

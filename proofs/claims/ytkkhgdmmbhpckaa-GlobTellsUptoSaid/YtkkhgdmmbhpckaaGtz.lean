/-
  entaillaw24.GlobTells returns true, whatever it is handed; what was there reads as it did. No condition but that what is read is of bulk at most 1048576.
-/
import Derived.Test.YtkkhgdmmbhpckaaGtl
import Derived.Test.YtkkhgdmmbhpckaaGtzo
import Derived.OpenShut
import Derived.JoinedCond
namespace Go.Proofs.Ytkkhgdmmbhpckaa
open Go.ChangeShapes Go.WideShapes Go.ChangeAt Go.RowKit
namespace GtzU
open Ab
theorem own : ownKnob Try.prog.godebug = none := by kernel_rfl
set_option maxRecDepth 100000 in
theorem lifted (os : Os) (started : os.Started) (H : Type) (enc : TypeId × Value → H) (F : Stop.Interp) :
    ReturnsInHanded {} Try.checked os 4 .any ((Rows.OpenSpec.upto Rows.globTellsSpec).pre6 enc Try.prog Try.f4 Rows.globTellsUptoRow.domain false) (((Rows.OpenSpec.upto Rows.globTellsSpec).at F).post enc Try.prog Try.f4 false true false false) := by
  refine returnsInHanded_of_cond (C := Try.checked) (s := Rows.OpenSpec.upto Rows.globTellsSpec) (k := Rows.uptoSmall) rfl own started (by kernel_rfl) Try.func4
    (OpenSpec.witness (enc := enc) (C := Try.checked) (s := Rows.OpenSpec.upto Rows.globTellsSpec) (k := Rows.uptoSmall) rfl false ⟨#[], #[.string ByteArray.empty, .string ByteArray.empty, .slice none 0 0, .slice none 0 0, .agg #[.slice none 0 0, .slice none 0 0, .slice none 0 0, .slice none 0 0, .slice none 0 0, .slice none 0 0], .slice none 0 0, .agg #[.bool false, .string ByteArray.empty, .string ByteArray.empty, .string ByteArray.empty], .int .i64 0], []⟩ 8 (by kernel_rfl) (by kernel_rfl) (by kernel_rfl)
      (x := ([.lit (.string []), .lit (.string []), .nil, .nil, .agg [.nil, .nil, .nil, .nil, .nil, .nil], .nil, .agg [.lit (.bool false), .lit (.string []), .lit (.string []), .lit (.string [])], .lit (.int .i64 0)], [], [])) (by kernel_rfl) rfl (by kernel_rfl)) ?_
  intro W base args ds gs before hval0 hW _ hk _
  have hval : ∀ (j : Nat) t v, Try.f4.params[j]? = some t → args[j]? = some v → Value.okWide Try.prog W .any base t v := hval0
  have hW' := hW
  obtain ⟨p, q, hA0, hV, rfl, _, _⟩ := hW
  obtain ⟨rfl, rfl⟩ := trodVars_none hV
  have hA : DataW.TrodAll enc Try.prog W 0 (fun _ => true) true Try.f4.params.toList args.toList ds p := hA0
  rw [Try.params4] at hA hval
  obtain ⟨vs⟩ := args
  obtain ⟨v0, vs1, d0, ds1, p0, q0, e0, c0, _, h0, hA1⟩ := trodAll_cons hA
  obtain ⟨v1, vs2, d1, ds2, p1, q1, e1, c1, _, h1, hA2⟩ := trodAll_cons hA1
  obtain ⟨v2, vs3, d2, ds3, p2, q2, e2, c2, _, h2, hA3⟩ := trodAll_cons hA2
  obtain ⟨v3, vs4, d3, ds4, p3, q3, e3, c3, _, h3, hA4⟩ := trodAll_cons hA3
  obtain ⟨v4, vs5, d4, ds5, p4, q4, e4, c4, _, h4, hA5⟩ := trodAll_cons hA4
  obtain ⟨v5, vs6, d5, ds6, p5, q5, e5, c5, _, h5, hA6⟩ := trodAll_cons hA5
  obtain ⟨v6, vs7, d6, ds7, p6, q6, e6, c6, _, h6, hA7⟩ := trodAll_cons hA6
  obtain ⟨v7, vs8, d7, ds8, p7, q7, e7, c7, _, h7, hA8⟩ := trodAll_cons hA7
  obtain ⟨eN, cN, _⟩ := trodAll_nil hA8
  subst eN
  subst cN
  subst e7
  subst c7
  subst e6
  subst c6
  subst e5
  subst c5
  subst e4
  subst c4
  subst e3
  subst c3
  subst e2
  subst c2
  subst e1
  subst c1
  have e0 : vs = _ := e0
  subst e0
  subst c0
  have hb := of_decide_eq_true hk
  simp only [List.append_nil, Rows.uptoBulkAll] at hb
  obtain ⟨x0, rfl⟩ := okWide_string Try.underlying9 (hval 0 9 v0 rfl rfl)
  obtain ⟨a0, k0, r0⟩ := Opens.one (e := (fun s : ByteArray => D.v (.string s))) (ok := okTx) (Opens.str Try.underlying9) rfl h0
  replace k0 := monoTx _ 1048576 _ (by omega) k0
  obtain ⟨x1, rfl⟩ := okWide_string Try.underlying9 (hval 1 9 v1 rfl rfl)
  obtain ⟨a1, k1, r1⟩ := Opens.one (e := (fun s : ByteArray => D.v (.string s))) (ok := okTx) (Opens.str Try.underlying9) rfl h1
  replace k1 := monoTx _ 1048576 _ (by omega) k1
  obtain ⟨x2, y2, z2, rfl⟩ := okWide_slice Try.underlying23 (hval 2 23 v2 rfl rfl)
  obtain ⟨a2, k2, r2⟩ := Opens.one (e := (fun l : List ByteArray => D.sl (List.map eS l))) (ok := (okLs okTx)) (Opens.slice (k := 1) (ok := okTx) Try.underlying23 (by kernel_rfl) (by decide) (by intro _; rfl) monoTx (Opens.str Try.underlying9)) rfl h2
  replace k2 := (monoLs monoTx) _ 1048576 _ (by omega) k2
  obtain ⟨x3, y3, z3, rfl⟩ := okWide_slice Try.underlying23 (hval 3 23 v3 rfl rfl)
  obtain ⟨a3, k3, r3⟩ := Opens.one (e := (fun l : List ByteArray => D.sl (List.map eS l))) (ok := (okLs okTx)) (Opens.slice (k := 1) (ok := okTx) Try.underlying23 (by kernel_rfl) (by decide) (by intro _; rfl) monoTx (Opens.str Try.underlying9)) rfl h3
  replace k3 := (monoLs monoTx) _ 1048576 _ (by omega) k3
  obtain ⟨a4, k4, r4⟩ := Opens.agg (ok := okGPolicy) opensGPolicy Try.underlying28 (hval 4 28 v4 rfl rfl) h4
  replace k4 := monoGPolicy _ 1048576 _ (by omega) k4
  obtain ⟨x5, y5, z5, rfl⟩ := okWide_slice Try.underlying22 (hval 5 22 v5 rfl rfl)
  obtain ⟨a5, k5, r5⟩ := Opens.one (e := (fun l : List Int => D.sl (List.map eI l))) (ok := (okLs (okIn .i64))) (Opens.slice (k := 1) (ok := (okIn .i64)) Try.underlying22 (by kernel_rfl) (by decide) (by intro _; rfl) monoIn (Opens.int Try.underlying2)) rfl h5
  replace k5 := (monoLs monoIn) _ 1048576 _ (by omega) k5
  obtain ⟨a6, k6, r6⟩ := Opens.agg (ok := okGAsk) opensGAsk Try.underlying31 (hval 6 31 v6 rfl rfl) h6
  replace k6 := monoGAsk _ 1048576 _ (by omega) k6
  obtain ⟨x7, rfl⟩ := okWide_int Try.underlying2 (hval 7 2 v7 rfl rfl)
  obtain ⟨a7, k7, r7⟩ := Opens.one (e := (fun n : Int => D.v (.int .i64 n))) (ok := (okIn .i64)) (Opens.int Try.underlying2) rfl h7
  replace k7 := monoIn _ 1048576 _ (by omega) k7
  obtain ⟨n, hn⟩ := law_tells a0 a1 a2 a3 a4 a5 a6 a7 k0 k1 k2 k3 k4 k5 k6 k7
  exact (Ab.law_pure (law24_GlobTells_ok hn) W [.string x0, .string x1, .slice x2 y2 z2, .slice x3 y3 z3, v4, .slice x5 y5 z5, v6, .int .i64 x7] rfl (Ab.rows_cons r0 (Ab.rows_cons r1 (Ab.rows_cons r2 (Ab.rows_cons r3 (Ab.rows_cons r4 (Ab.rows_cons r5 (Ab.rows_cons r6 (Ab.rows_cons r7 Ab.rows_nil))))))))).mono fun e W' ⟨he, hb⟩ => ⟨_, he, Cm.law_post (s := Rows.globTellsSpec) (by kernel_rfl) (by kernel_rfl) rfl (tb := 4) (by kernel_rfl) Try.underlying4 rfl rfl rfl hW' hb⟩

theorem said : Rows.GlobTellsUptoSaid :=
  OpenClaim.holds_of_cond 4 Try.f4 rfl rfl rfl rfl rfl rfl rfl ⟨rfl, rfl, rfl, rfl, rfl⟩ rfl rfl rfl rfl rfl (by kernel_rfl) Try.func4 (by kernel_rfl)
    (of_decide_eq_true (by kernel_rfl)) (by unfold Func.isWrapper; first | (rw [if_pos (by decide +kernel)]; kernel_rfl) | (rw [if_neg (by decide +kernel)]; exact ⟨rfl, rfl⟩))
    (fun os started H enc _ F => lifted os started H enc F)
#print axioms said
end GtzU
end Go.Proofs.Ytkkhgdmmbhpckaa

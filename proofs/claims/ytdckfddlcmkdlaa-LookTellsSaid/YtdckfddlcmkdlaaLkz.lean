/-
  Of any tuples what the index finds is what the document finds. No condition.
-/
import Derived.Test.YtdckfddlcmkdlaaLkl
import Derived.Test.YtdckfddlcmkdlaaOpn
namespace Go.Proofs.Ytdckfddlcmkdlaa
open Go.ChangeShapes Go.WideShapes Go.ChangeAt Go.RowKit
namespace Ab
def okGObj (x : GObj) : Prop := (x.type_.size ≤ maxLen) ∧ (x.id_.size ≤ maxLen) ∧ True
theorem opensGObj {H : Type} {enc : TypeId × Value → H} {W : World} : Opens enc Try.prog W 37 eGObj okGObj :=
  Opens.map (Opens.struct Try.underlying37 (by intro _; kernel_rfl) (OpensF.cons (k := 1) (e1 := eS) (ok1 := (fun s => s.size ≤ maxLen)) rfl (by intro _; rfl) (Opens.str Try.underlying9) (OpensF.cons (k := 1) (e1 := eS) (ok1 := (fun s => s.size ≤ maxLen)) rfl (by intro _; rfl) (Opens.str Try.underlying9) OpensF.nil))) (fun p => ⟨p.1, p.2.1⟩) (by intro _; rfl) (by intro _ h; exact h)
def okGSub (x : GSub) : Prop := (x.type_.size ≤ maxLen) ∧ (x.id_.size ≤ maxLen) ∧ (x.rel.size ≤ maxLen) ∧ True
theorem opensGSub {H : Type} {enc : TypeId × Value → H} {W : World} : Opens enc Try.prog W 39 eGSub okGSub :=
  Opens.map (Opens.struct Try.underlying39 (by intro _; kernel_rfl) (OpensF.cons (k := 1) (e1 := eS) (ok1 := (fun s => s.size ≤ maxLen)) rfl (by intro _; rfl) (Opens.str Try.underlying9) (OpensF.cons (k := 1) (e1 := eS) (ok1 := (fun s => s.size ≤ maxLen)) rfl (by intro _; rfl) (Opens.str Try.underlying9) (OpensF.cons (k := 1) (e1 := eS) (ok1 := (fun s => s.size ≤ maxLen)) rfl (by intro _; rfl) (Opens.str Try.underlying9) OpensF.nil)))) (fun p => ⟨p.1, p.2.1, p.2.2.1⟩) (by intro _; rfl) (by intro _ h; exact h)
def okGTuple (x : GTuple) : Prop := (okGObj x.obj) ∧ (x.rel.size ≤ maxLen) ∧ (okGSub x.sub_) ∧ True
theorem opensGTuple {H : Type} {enc : TypeId × Value → H} {W : World} : Opens enc Try.prog W 41 eGTuple okGTuple :=
  Opens.map (Opens.struct Try.underlying41 (by intro _; kernel_rfl) (OpensF.cons (k := 2) (e1 := eGObj) (ok1 := okGObj) rfl (by intro _; rfl) opensGObj (OpensF.cons (k := 1) (e1 := eS) (ok1 := (fun s => s.size ≤ maxLen)) rfl (by intro _; rfl) (Opens.str Try.underlying9) (OpensF.cons (k := 3) (e1 := eGSub) (ok1 := okGSub) rfl (by intro _; rfl) opensGSub OpensF.nil)))) (fun p => ⟨p.1, p.2.1, p.2.2.1⟩) (by intro _; rfl) (by intro _ h; exact h)
end Ab
namespace LkzF
open Ab
set_option maxRecDepth 100000 in
theorem lifted (os : Os) (started : os.Started) (H : Type) (enc : TypeId × Value → H) :
    ReturnsInHanded {} Try.checked os 12 .any (Rows.lookTellsSpec.pre6 enc Try.prog Try.f12 Rows.lookTellsRow.domain false) (Rows.lookTellsSpec.post enc Try.prog Try.f12 false true false false) := by
  refine returnsInHanded_of_change (C := Try.checked) (by kernel_rfl) started (by kernel_rfl) Try.func12
    (ChangeSpec.witness6 (enc := enc) (C := Try.checked) false ⟨#[], #[.slice none 0 0, .slice none 0 0, .agg #[.string ByteArray.empty, .string ByteArray.empty, .string ByteArray.empty, .string ByteArray.empty, .string ByteArray.empty, .string ByteArray.empty], .int .i64 0], []⟩ 8 (by kernel_rfl) (by kernel_rfl) (by kernel_rfl) (by kernel_rfl)) ?_
  intro W base args ds gs before hval0 hW _ _
  have hval : ∀ (j : Nat) t v, Try.f12.params[j]? = some t → args[j]? = some v → Value.okWide Try.prog W .any base t v := hval0
  have hW' := hW
  obtain ⟨p, q, hA0, hV, rfl, _, _⟩ := hW
  have hA : DataW.TrodAll enc Try.prog W 0 (fun _ => true) true Try.f12.params.toList args.toList ds p := hA0
  rw [Try.params12] at hA hval
  obtain ⟨vs⟩ := args
  obtain ⟨v0, vs1, d0, ds1, p0, q0, e0, c0, _, h0, hA1⟩ := trodAll_cons hA
  obtain ⟨v1, vs2, d1, ds2, p1, q1, e1, c1, _, h1, hA2⟩ := trodAll_cons hA1
  obtain ⟨v2, vs3, d2, ds3, p2, q2, e2, c2, _, h2, hA3⟩ := trodAll_cons hA2
  obtain ⟨v3, vs4, d3, ds4, p3, q3, e3, c3, _, h3, hA4⟩ := trodAll_cons hA3
  obtain ⟨eN, cN, _⟩ := trodAll_nil hA4
  subst eN
  subst cN
  subst e3
  subst c3
  subst e2
  subst c2
  subst e1
  subst c1
  have e0 : vs = _ := e0
  subst e0
  subst c0
  obtain ⟨x0, y0, z0, rfl⟩ := okWide_slice Try.underlying23 (hval 0 23 v0 rfl rfl)
  obtain ⟨a0, k0, r0⟩ := Ab.Opens.one (e := (fun l : List GTuple => D.sl (List.map eGTuple l))) (ok := (fun l : List GTuple => l.length ≤ maxLen ∧ ∀ y ∈ l, okGTuple y)) (Ab.Opens.slice (k := 6) (ok := okGTuple) Try.underlying23 (by kernel_rfl) (by decide) (by intro _; rfl) Ab.opensGTuple) rfl h0
  obtain ⟨x1, y1, z1, rfl⟩ := okWide_slice Try.underlying22 (hval 1 22 v1 rfl rfl)
  obtain ⟨a1, k1, r1⟩ := Ab.Opens.one (e := (fun l : List Int => D.sl (List.map eI l))) (ok := (fun l : List Int => l.length ≤ maxLen ∧ ∀ y ∈ l, (Lit.int .i64 y).wf = true)) (Ab.Opens.slice (k := 1) (ok := (fun n => (Lit.int .i64 n).wf = true)) Try.underlying22 (by kernel_rfl) (by decide) (by intro _; rfl) (Ab.Opens.int Try.underlying2)) rfl h1
  obtain ⟨a2, k2, r2⟩ := Opens.agg (ok := Ab.okGTuple) Ab.opensGTuple Try.underlying41 (hval 2 41 v2 rfl rfl) h2
  obtain ⟨x3, rfl⟩ := okWide_int Try.underlying2 (hval 3 2 v3 rfl rfl)
  obtain ⟨a3, k3, r3⟩ := Ab.Opens.one (e := (fun n : Int => D.v (.int .i64 n))) (ok := (fun n => (Lit.int .i64 n).wf = true)) (Ab.Opens.int Try.underlying2) rfl h3
  obtain ⟨n, hn⟩ := Ab.law_lookTells a0 a1 a2 a3
  exact (Ab.law_pure (Ab.law5_LookTells_ok hn) W [.slice x0 y0 z0, .slice x1 y1 z1, v2, .int .i64 x3] rfl (Ab.rows_cons r0 (Ab.rows_cons r1 (Ab.rows_cons r2 (Ab.rows_cons r3 Ab.rows_nil))))).mono fun e W' ⟨he, hb⟩ => ⟨_, he, Cm.law_post (by kernel_rfl) (by kernel_rfl) rfl (tb := 4) (by kernel_rfl) Try.underlying4 rfl rfl rfl hW' hb⟩

theorem said : Rows.LookTellsSaid :=
  OpenClaim.holds_of_wide 12 Try.f12 rfl rfl rfl rfl rfl rfl rfl ⟨rfl, rfl, rfl, rfl, rfl⟩ rfl rfl rfl rfl rfl (by kernel_rfl) Try.func12 (by kernel_rfl)
    (of_decide_eq_true (by kernel_rfl)) (by unfold Func.isWrapper; first | (rw [if_pos (by decide +kernel)]; kernel_rfl) | (rw [if_neg (by decide +kernel)]; exact ⟨rfl, rfl⟩))
    (fun os started H enc _ => lifted os started H enc)
#print axioms said
end LkzF
end Go.Proofs.Ytdckfddlcmkdlaa

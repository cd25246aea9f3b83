/-
  A text is as long, and has as many ends of lines, as the bounds say; a byte that can't stand is told where it is. No condition. No condition.
-/
import Derived.Test.YtjfpmgdbkhooeaaDoorCm
import Derived.Test.YtjfpmgdbkhooeaaDoorLux
import Derived.Test.YtjfpmgdbkhooeaaDoorOpn
import Derived.Test.YtjfpmgdbkhooeaaDoorCards
import Derived.Test.YtjfpmgdbkhooeaaDoorTie
import Derived.OpenShut
import Derived.Deep.DeepHandedRow
import Derived.Lib.LaidTab
namespace Go.Proofs.YtjfpmgdbkhooeaaDoor
open Go.ChangeShapes Go.WideShapes Go.ChangeAt Go.RowKit
namespace Ab
end Ab
namespace LuzF
open Ab
theorem own : ownKnob Tryd.prog.godebug = none := by kernel_rfl
theorem laidOut : laidOutB Tryd.prog = true := by kernel_rfl
/-- A world that holds the tables. -/
def lit1 {H : Type} : DataW H → List Value
  | .lit (.int k n) => [Value.int k n]
  | _ => []
def lits {H : Type} : DataW H → Array Value
  | .agg l => (l.flatMap fun | .agg m => m.flatMap lit1 | d => lit1 d).toArray
  | _ => #[]
def row (cs : Array Value) : Obj → Obj
  | .cells _ t frozen => .cells cs t frozen
  | o => o
noncomputable def laidWorld (os : Os) : World :=
  { World.holding Tryd.prog os ⟨#[], #[.int .i64 0, .int .i64 0, .int .u8 0, .int .i64 0], []⟩ with heap := (((World.holding Tryd.prog os ⟨#[], #[.int .i64 0, .int .i64 0, .int .u8 0, .int .i64 0], []⟩).heap.modify 3 (row (lits (Rows.laid_unicode_utf8_acceptRanges (H := Unit))))).modify 2 (row (lits Rows.laid_unicode_utf8_first))) }
theorem laid_met (os : Os) : laidMet Tryd.prog Rows.lineBoundsRow.laid ((laidWorld os).forCall (fun _ _ => 0) ⟨#[], #[.int .i64 0, .int .i64 0, .int .u8 0, .int .i64 0], []⟩).memory :=
  laidMet_of_run' 8 (by kernel_rfl) (by kernel_rfl)
theorem reads (os : Os) {H : Type} (enc : TypeId × Value → H) : ∃ places, DataW.whole enc Tryd.prog ((laidWorld os).forCall (fun _ _ => 0) ⟨#[], #[.int .i64 0, .int .i64 0, .int .u8 0, .int .i64 0], []⟩).memory Tryd.f7.params.toList Rows.lineBoundsSpec.vars false (#[.int .i64 0, .int .i64 0, .int .u8 0, .int .i64 0] : Array Value).toList 8 = some ([.lit (.int .i64 0), .lit (.int .i64 0), .lit (.int .u8 0), .lit (.int .i64 0)], [], places) :=
  ⟨[], by kernel_rfl⟩
set_option maxRecDepth 100000 in
theorem lifted (os : Os) (started : os.Started) (H : Type) (enc : TypeId × Value → H) (F : Stop.Interp) :
    ReturnsInHanded {} Tryd.checked os 7 .any ((OpenSpec.ofChange Rows.lineBoundsSpec).preRow enc Tryd.prog Tryd.f7 Rows.lineBoundsRow.domain false Rows.lineBoundsRow.laid) (((OpenSpec.ofChange Rows.lineBoundsSpec).at F).post enc Tryd.prog Tryd.f7 false true false false) := by
  obtain ⟨places, hx⟩ := reads os enc
  refine returnsInHanded_of_row (C := Tryd.checked) (s := OpenSpec.ofChange Rows.lineBoundsSpec) own started (by kernel_rfl) Tryd.func7
    (witness_row_at (enc := enc) (C := Tryd.checked) false (laidWorld os) #[.int .i64 0, .int .i64 0, .int .u8 0, .int .i64 0] rfl (by kernel_rfl) (by kernel_rfl) (by kernel_rfl)
      (OpenSpec.preRow_of_cond 8 hx (by kernel_rfl) (fun k hk => by cases hk) (by kernel_rfl) (laid_met os))) ?_
  intro W base args ds gs before hval0 hW _ _ _ hL _ _
  have hval : ∀ (j : Nat) t v, Tryd.f7.params[j]? = some t → args[j]? = some v → Value.okWide Tryd.prog W .any base t v := hval0
  have hW0 : DataW.Whole enc Tryd.prog Tryd.f7.params.toList Rows.lineBoundsSpec.vars false W args.toList ds gs before := hW
  have hW' := hW0
  obtain ⟨p, q, hA0, hV, rfl, _, _⟩ := hW
  have hA : DataW.TrodAll enc Tryd.prog W 0 (fun _ => true) true Tryd.f7.params.toList args.toList ds p := hA0
  rw [Tryd.params7] at hA hval
  obtain ⟨vs⟩ := args
  obtain ⟨v0, vs1, d0, ds1, p0, q0, e0, c0, _, h0, hA1⟩ := trodAll_cons hA
  obtain ⟨v1, vs2, d1, ds2, p1, q1, e1, c1, _, h1, hA2⟩ := trodAll_cons hA1
  obtain ⟨v2, vs3, d2, ds3, p2, q2, e2, c2, _, h2, hA3⟩ := trodAll_cons hA2
  obtain ⟨v3, vs4, d3, ds4, p3, q3, e3, c3, _, h3, hA4⟩ := trodAll_cons hA3
  obtain ⟨eN, cN, _⟩ := trodAll_nil hA4
  subst eN
  subst cN
  subst e3
  subst c3
  subst e2
  subst c2
  subst e1
  subst c1
  have e0 : vs = _ := e0
  subst e0
  subst c0
  obtain ⟨x0, rfl⟩ := okWide_int Tryd.underlying3 (hval 0 3 v0 rfl rfl)
  obtain ⟨a0, k0, r0⟩ := Ab.Opens.one (e := (fun n : Int => D.v (.int .i64 n))) (ok := (fun n : Int => (Lit.int .i64 n).wf = true)) (Ab.Opens.int Tryd.underlying3) rfl h0
  obtain ⟨x1, rfl⟩ := okWide_int Tryd.underlying3 (hval 1 3 v1 rfl rfl)
  obtain ⟨a1, k1, r1⟩ := Ab.Opens.one (e := (fun n : Int => D.v (.int .i64 n))) (ok := (fun n : Int => (Lit.int .i64 n).wf = true)) (Ab.Opens.int Tryd.underlying3) rfl h1
  obtain ⟨x2, rfl⟩ := okWide_int Tryd.underlying5 (hval 2 5 v2 rfl rfl)
  obtain ⟨a2, k2, r2⟩ := Ab.Opens.one (e := (fun n : Int => D.v (.int .u8 n))) (ok := (fun n : Int => (Lit.int .u8 n).wf = true)) (Ab.Opens.int Tryd.underlying5) rfl h2
  obtain ⟨x3, rfl⟩ := okWide_int Tryd.underlying3 (hval 3 3 v3 rfl rfl)
  obtain ⟨a3, k3, r3⟩ := Ab.Opens.one (e := (fun n : Int => D.v (.int .i64 n))) (ok := (fun n : Int => (Lit.int .i64 n).wf = true)) (Ab.Opens.int Tryd.underlying3) rfl h3
  obtain ⟨n, hn⟩ := Ab.law_bounds_ex a0 a1 a2 a3 k0 k1 k2 k3
  exact (Ab.law_pure (Ab.law12_LineBounds_ok hn) W [.int .i64 x0, .int .i64 x1, .int .u8 x2, .int .i64 x3] rfl (Ab.rows_cons r0 (Ab.rows_cons r1 (Ab.rows_cons r2 (Ab.rows_cons r3 Ab.rows_nil))))).mono fun e W' ⟨he, hb⟩ => ⟨_, he, Cm.law_post laidOut (by kernel_rfl) rfl (tb := 4) (by kernel_rfl) Tryd.underlying4 rfl rfl rfl hW0 hb⟩
theorem said : Rows.LineBoundsSaid :=
  OpenClaim.holds_of_cond 7 Tryd.f7 rfl rfl rfl rfl rfl rfl rfl ⟨rfl, rfl, rfl, rfl, rfl⟩ rfl rfl rfl rfl rfl (by kernel_rfl) Tryd.func7 (by kernel_rfl)
    (of_decide_eq_true (by kernel_rfl)) (by unfold Func.isWrapper; first | (rw [if_pos (by decide +kernel)]; kernel_rfl) | (rw [if_neg (by decide +kernel)]; exact ⟨rfl, rfl⟩))
    (fun os started H enc _ F => by rw [OpenClaim.pre_eq_preRow]; exact lifted os started H enc F)
theorem plain (f : FuncId) (fn : Func) (hf : Tryd.pinned.checked.prog.funcNamed "entail/entaillaw12.LineBounds" = some f) (hfn : Tryd.pinned.checked.prog.funcs[f]? = some fn) :
    false = Tryd.pinned.checked.prog.looks [] ∧ ∀ (j : Nat) t, fn.params[j]? = some t → Tryd.pinned.checked.prog.wantsStandIn t = false := by
  obtain rfl : f = 7 := Option.some.inj ((show Tryd.prog.funcNamed "entail/entaillaw12.LineBounds" = some 7 by kernel_rfl).symm.trans hf) |>.symm
  obtain rfl : fn = Tryd.f7 := (Option.some.inj (Tryd.func7.symm.trans hfn)).symm
  refine ⟨by kernel_rfl, fun j t ht => ?_⟩
  rw [Tryd.params7] at ht
  cases j with
  | zero =>
    obtain rfl := Option.some.inj ht
    kernel_rfl
  | succ j =>
    cases j with
    | zero =>
      obtain rfl := Option.some.inj ht
      kernel_rfl
    | succ j =>
      cases j with
      | zero =>
        obtain rfl := Option.some.inj ht
        kernel_rfl
      | succ j =>
        cases j with
        | zero =>
          obtain rfl := Option.some.inj ht
          kernel_rfl
        | succ j =>
          simp at ht
theorem card : Rows.LineBoundsCardSaid :=
  Claim7.holds_tied_plain_at .later [] _ _ _ _ said (fun _ h => by cases h) (by kernel_rfl) (fun _ h => by cases h) lineBounds_row_tie rfl ⟨rfl, rfl⟩ (by kernel_rfl) rfl plain (by kernel_rfl)
#print axioms card
end LuzF
end Go.Proofs.YtjfpmgdbkhooeaaDoor

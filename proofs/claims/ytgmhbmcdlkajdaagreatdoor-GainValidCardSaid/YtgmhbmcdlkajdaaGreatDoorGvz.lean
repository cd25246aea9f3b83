/-
 For any valid facts and any row of makings, what is made is valid beside what is there, as often as one likes, in directories that were made just so. No condition.
-/
import Derived.Test.YtgmhbmcdlkajdaaGreatDoorHvb
import Derived.Test.YtgmhbmcdlkajdaaGreatDoorOpn
import Derived.Test.YtgmhbmcdlkajdaaGreatDoorCards
import Derived.Test.YtgmhbmcdlkajdaaGreatDoorTie
import Derived.OpenShut
import Derived.Deep.DeepHandedRow
import Derived.Lib.LaidTab
namespace Go.Proofs.YtgmhbmcdlkajdaaGreatDoor
open Go.ChangeShapes Go.WideShapes Go.ChangeAt Go.RowKit
namespace Ab
end Ab
namespace GvzF
open Ab
theorem own : ownKnob Tryz.prog.godebug = none := by kernel_rfl
theorem laidOut : laidOutB Tryz.prog = true := by kernel_rfl
def lit1 {H : Type} : DataW H → List Value
 | .lit (.int k n) => [Value.int k n]
 | _ => []
def lits {H : Type} : DataW H → Array Value
 | .agg l => (l.flatMap fun | .agg m => m.flatMap lit1 | d => lit1 d).toArray
 | _ => #[]
def row (cs : Array Value) : Obj → Obj
 | .cells _ t frozen => .cells cs t frozen
 | o => o
noncomputable def laidWorld (os : Os) : World :=
 { World.holding Tryz.prog os ⟨#[], #[.slice none 0 0, .slice none 0 0], []⟩ with heap := (((World.holding Tryz.prog os ⟨#[], #[.slice none 0 0, .slice none 0 0], []⟩).heap.modify 2 (row (lits (Rows.laid_unicode_utf8_acceptRanges (H := Unit))))).modify 1 (row (lits Rows.laid_unicode_utf8_first))) }
theorem laid_met (os : Os) : laidMet Tryz.prog Rows.gainValidRow.laid ((laidWorld os).forCall (fun _ _ => 0) ⟨#[], #[.slice none 0 0, .slice none 0 0], []⟩).memory :=
 laidMet_of_run' 8 (by kernel_rfl) (by kernel_rfl)
theorem reads (os : Os) {H : Type} (enc : TypeId × Value → H) : ∃ places, DataW.whole enc Tryz.prog ((laidWorld os).forCall (fun _ _ => 0) ⟨#[], #[.slice none 0 0, .slice none 0 0], []⟩).memory Tryz.f7.params.toList Rows.gainValidSpec.vars false (#[.slice none 0 0, .slice none 0 0] : Array Value).toList 8 = some ([.nil, .nil], [], places) :=
 ⟨[], by kernel_rfl⟩
set_option maxRecDepth 100000 in
theorem lifted (os : Os) (started : os.Started) (H : Type) (enc : TypeId × Value → H) (F : Stop.Interp) :
  ReturnsInHanded {} Tryz.checked os 7 .any ((OpenSpec.ofChange Rows.gainValidSpec).preRow enc Tryz.prog Tryz.f7 Rows.gainValidRow.domain false Rows.gainValidRow.laid) (((OpenSpec.ofChange Rows.gainValidSpec).at F).post enc Tryz.prog Tryz.f7 false true false false) := by
 obtain ⟨places, hx⟩ := reads os enc
 refine returnsInHanded_of_row (C := Tryz.checked) (s := OpenSpec.ofChange Rows.gainValidSpec) own started (by kernel_rfl) Tryz.func7
  (witness_row_at (enc := enc) (C := Tryz.checked) false (laidWorld os) #[.slice none 0 0, .slice none 0 0] rfl (by kernel_rfl) (by kernel_rfl) (by kernel_rfl)
   (OpenSpec.preRow_of_cond 8 hx (by kernel_rfl) (fun k hk => by cases hk) (by kernel_rfl) (laid_met os))) ?_
 intro W base args ds gs before hval0 hW _ _ _ hL _ _
 have hval : ∀ (j : Nat) t v, Tryz.f7.params[j]? = some t → args[j]? = some v → Value.okWide Tryz.prog W .any base t v := hval0
 have hW0 : DataW.Whole enc Tryz.prog Tryz.f7.params.toList Rows.gainValidSpec.vars false W args.toList ds gs before := hW
 have hW' := hW0
 obtain ⟨p, q, hA0, hV, rfl, _, _⟩ := hW
 have hA : DataW.TrodAll enc Tryz.prog W 0 (fun _ => true) true Tryz.f7.params.toList args.toList ds p := hA0
 rw [Tryz.params7] at hA hval
 obtain ⟨vs⟩ := args
 obtain ⟨v0, vs1, d0, ds1, p0, q0, e0, c0, _, h0, hA1⟩ := trodAll_cons hA
 obtain ⟨v1, vs2, d1, ds2, p1, q1, e1, c1, _, h1, hA2⟩ := trodAll_cons hA1
 obtain ⟨eN, cN, _⟩ := trodAll_nil hA2
 subst eN
 subst cN
 subst e1
 subst c1
 have e0 : vs = _ := e0
 subst e0
 subst c0
 obtain ⟨x0, y0, z0, rfl⟩ := okWide_slice Tryz.underlying22 (hval 0 22 v0 rfl rfl)
 obtain ⟨a0, k0, r0⟩ := Ab.Opens.one (e := (fun l : List Int => D.sl (List.map eI l))) (ok := (fun l : List Int => l.length ≤ maxLen ∧ ∀ y ∈ l, (Lit.int .i64 y).wf = true)) (Ab.Opens.slice (k := 1) (ok := (fun n => (Lit.int .i64 n).wf = true)) Tryz.underlying22 (by kernel_rfl) (by decide) (by intro _; rfl) (Ab.Opens.int Tryz.underlying2)) rfl h0
 obtain ⟨x1, y1, z1, rfl⟩ := okWide_slice Tryz.underlying22 (hval 1 22 v1 rfl rfl)
 obtain ⟨a1, k1, r1⟩ := Ab.Opens.one (e := (fun l : List Int => D.sl (List.map eI l))) (ok := (fun l : List Int => l.length ≤ maxLen ∧ ∀ y ∈ l, (Lit.int .i64 y).wf = true)) (Ab.Opens.slice (k := 1) (ok := (fun n => (Lit.int .i64 n).wf = true)) Tryz.underlying22 (by kernel_rfl) (by decide) (by intro _; rfl) (Ab.Opens.int Tryz.underlying2)) rfl h1
 obtain ⟨n, hn⟩ := Ab.law_gainValid_ex a0 a1 k0 k1
 exact (Ab.law_pure (Ab.law19_GainValid_ok hn) W [.slice x0 y0 z0, .slice x1 y1 z1] rfl (Ab.rows_cons r0 (Ab.rows_cons r1 Ab.rows_nil))).mono fun e W' ⟨he, hb⟩ => ⟨_, he, Cm.law_post laidOut (by kernel_rfl) rfl (tb := 4) (by kernel_rfl) Tryz.underlying4 rfl rfl rfl hW0 hb⟩
theorem said : Rows.GainValidSaid :=
 OpenClaim.holds_of_cond 7 Tryz.f7 rfl rfl rfl rfl rfl rfl rfl ⟨rfl, rfl, rfl, rfl, rfl⟩ rfl rfl rfl rfl rfl (by kernel_rfl) Tryz.func7 (by kernel_rfl)
  (of_decide_eq_true (by kernel_rfl)) (by unfold Func.isWrapper; first | (rw [if_pos (by decide +kernel)]; kernel_rfl) | (rw [if_neg (by decide +kernel)]; exact ⟨rfl, rfl⟩))
  (fun os started H enc _ F => by rw [OpenClaim.pre_eq_preRow]; exact lifted os started H enc F)
theorem plain (f : FuncId) (fn : Func) (hf : Tryz.pinned.checked.prog.funcNamed "entail/entaillaw19.GainValid" = some f) (hfn : Tryz.pinned.checked.prog.funcs[f]? = some fn) :
  false = Tryz.pinned.checked.prog.looks [] ∧ ∀ (j : Nat) t, fn.params[j]? = some t → Tryz.pinned.checked.prog.wantsStandIn t = false := by
 obtain rfl : f = 7 := Option.some.inj ((show Tryz.prog.funcNamed "entail/entaillaw19.GainValid" = some 7 by kernel_rfl).symm.trans hf) |>.symm
 obtain rfl : fn = Tryz.f7 := (Option.some.inj (Tryz.func7.symm.trans hfn)).symm
 refine ⟨by kernel_rfl, fun j t ht => ?_⟩
 rw [Tryz.params7] at ht
 cases j with
 | zero =>
  obtain rfl := Option.some.inj ht
  kernel_rfl
 | succ j =>
  cases j with
  | zero =>
   obtain rfl := Option.some.inj ht
   kernel_rfl
  | succ j =>
   simp at ht
theorem card : Rows.GainValidCardSaid :=
 Claim7.holds_tied_plain_at .later [] _ _ _ _ said (fun _ h => by cases h) (by kernel_rfl) (fun _ h => by cases h) gainValid_row_tie rfl ⟨rfl, rfl⟩ (by kernel_rfl) rfl plain (by kernel_rfl)
#print axioms card
end GvzF
end Go.Proofs.YtgmhbmcdlkajdaaGreatDoor

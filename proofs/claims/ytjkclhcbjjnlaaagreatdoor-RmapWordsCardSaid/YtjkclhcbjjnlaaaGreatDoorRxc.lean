/-
  Each line of a policy is its tuples, and nothing else: rows of lines, each added to the same policy, by hand. No condition.
-/
import Derived.Test.YtjkclhcbjjnlaaaGreatDoorCm
import Derived.Test.YtjkclhcbjjnlaaaGreatDoorRxz
import Derived.Test.YtjkclhcbjjnlaaaGreatDoorOpn
import Derived.Test.YtjkclhcbjjnlaaaGreatDoorCards
import Derived.Test.YtjkclhcbjjnlaaaGreatDoorTie
import Derived.OpenShut
import Derived.Deep.DeepHandedRow
import Derived.Lib.LaidTab
namespace Go.Proofs.YtjkclhcbjjnlaaaGreatDoor
open Go.ChangeShapes Go.WideShapes Go.ChangeAt Go.RowKit
namespace Ab
end Ab
namespace RxcF
open Ab
theorem own : ownKnob Tryz.prog.godebug = none := by kernel_rfl
theorem laidOut : laidOutB Tryz.prog = true := by kernel_rfl
def lit1 {H : Type} : DataW H → List Value
  | .lit (.int k n) => [Value.int k n]
  | _ => []
def lits {H : Type} : DataW H → Array Value
  | .agg l => (l.flatMap fun | .agg m => m.flatMap lit1 | d => lit1 d).toArray
  | _ => #[]
def row (cs : Array Value) : Obj → Obj
  | .cells _ t frozen => .cells cs t frozen
  | o => o
noncomputable def low : Nat := (World.holding Tryz.prog default ⟨#[], #[], []⟩).heap.size
noncomputable def laidWorld (os : Os) : World :=
  { World.holding Tryz.prog os ⟨#[.cells #[.string { data := #[118, 97, 108, 117, 101, 32, 111, 117, 116, 32, 111, 102, 32, 114, 97, 110, 103, 101] }] 344, .cells #[.string { data := #[105, 110, 118, 97, 108, 105, 100, 32, 115, 121, 110, 116, 97, 120] }] 344], #[.int .i64 0], []⟩ with heap := ((((((World.holding Tryz.prog os ⟨#[.cells #[.string { data := #[118, 97, 108, 117, 101, 32, 111, 117, 116, 32, 111, 102, 32, 114, 97, 110, 103, 101] }] 344, .cells #[.string { data := #[105, 110, 118, 97, 108, 105, 100, 32, 115, 121, 110, 116, 97, 120] }] 344], #[.int .i64 0], []⟩).heap.modify 4 (row (lits (Rows.laid_math_bits_deBruijn32tab (H := Unit))))).modify 5 (row (lits (Rows.laid_math_bits_deBruijn64tab (H := Unit))))).modify 1 (row (lits (Rows.laid_internal_strconv_uint64pow10 (H := Unit))))).modify 3 (row #[.iface 342 (.pointer (some ⟨low + 0, 0, none⟩))])).modify 2 (row #[.iface 342 (.pointer (some ⟨low + 1, 0, none⟩))])) }
theorem laid_met (os : Os) : laidMet Tryz.prog Rows.rmapWordsRow.laid ((laidWorld os).forCall (fun _ _ => 0) ⟨#[], #[.int .i64 0], []⟩).memory :=
  laidMet_of_run' 8 (by kernel_rfl) (by kernel_rfl)
theorem reads (os : Os) {H : Type} (enc : TypeId × Value → H) : ∃ places, DataW.whole enc Tryz.prog ((laidWorld os).forCall (fun _ _ => 0) ⟨#[], #[.int .i64 0], []⟩).memory Tryz.f3.params.toList Rows.rmapWordsSpec.vars false (#[.int .i64 0] : Array Value).toList 8 = some ([.lit (.int .i64 0)], [], places) :=
  ⟨[], by kernel_rfl⟩
set_option maxRecDepth 100000 in
theorem lifted (os : Os) (started : os.Started) (H : Type) (enc : TypeId × Value → H) (F : Stop.Interp) :
    ReturnsInHanded {} Tryz.checked os 3 .any ((OpenSpec.ofChange Rows.rmapWordsSpec).preRow enc Tryz.prog Tryz.f3 Rows.rmapWordsRow.domain false Rows.rmapWordsRow.laid) (((OpenSpec.ofChange Rows.rmapWordsSpec).at F).post enc Tryz.prog Tryz.f3 false true false false) := by
  obtain ⟨places, hx⟩ := reads os enc
  refine returnsInHanded_of_row (C := Tryz.checked) (s := OpenSpec.ofChange Rows.rmapWordsSpec) own started (by kernel_rfl) Tryz.func3
    (witness_row_at (enc := enc) (C := Tryz.checked) false (laidWorld os) #[.int .i64 0] rfl (by kernel_rfl) (by kernel_rfl) (by kernel_rfl)
      (OpenSpec.preRow_of_cond 8 hx (by kernel_rfl) (fun k hk => by cases hk) (by kernel_rfl) (laid_met os))) ?_
  intro W base args ds gs before hval0 hW _ _ _ hL _ _
  have hval : ∀ (j : Nat) t v, Tryz.f3.params[j]? = some t → args[j]? = some v → Value.okWide Tryz.prog W .any base t v := hval0
  have hW0 : DataW.Whole enc Tryz.prog Tryz.f3.params.toList Rows.rmapWordsSpec.vars false W args.toList ds gs before := hW
  have hW' := hW0
  obtain ⟨p, q, hA0, hV, rfl, _, _⟩ := hW
  have hA : DataW.TrodAll enc Tryz.prog W 0 (fun _ => true) true Tryz.f3.params.toList args.toList ds p := hA0
  rw [Tryz.params3] at hA hval
  obtain ⟨vs⟩ := args
  obtain ⟨v0, vs1, d0, ds1, p0, q0, e0, c0, _, h0, hA1⟩ := trodAll_cons hA
  obtain ⟨eN, cN, _⟩ := trodAll_nil hA1
  subst eN
  subst cN
  have e0 : vs = _ := e0
  subst e0
  subst c0
  obtain ⟨x0, rfl⟩ := okWide_int Tryz.underlying3 (hval 0 3 v0 rfl rfl)
  obtain ⟨a0, k0, r0⟩ := Ab.Opens.one (e := (fun n : Int => D.v (.int .i64 n))) (ok := (fun n : Int => (Lit.int .i64 n).wf = true)) (Ab.Opens.int Tryz.underlying3) rfl h0
  obtain ⟨n, hn⟩ := Ab.law_words_ex a0 k0
  exact (Ab.law_pure (Ab.law16_RmapWords_ok hn) W [.int .i64 x0] rfl (Ab.rows_cons r0 Ab.rows_nil)).mono fun e W' ⟨he, hb⟩ => ⟨_, he, Cm.law_post laidOut (by kernel_rfl) rfl (tb := 4) (by kernel_rfl) Tryz.underlying4 rfl rfl rfl hW0 hb⟩
theorem said : Rows.RmapWordsSaid :=
  OpenClaim.holds_of_cond 3 Tryz.f3 rfl rfl rfl rfl rfl rfl rfl ⟨rfl, rfl, rfl, rfl, rfl⟩ rfl rfl rfl rfl rfl (by kernel_rfl) Tryz.func3 (by kernel_rfl)
    (of_decide_eq_true (by kernel_rfl)) (by unfold Func.isWrapper; first | (rw [if_pos (by decide +kernel)]; kernel_rfl) | (rw [if_neg (by decide +kernel)]; exact ⟨rfl, rfl⟩))
    (fun os started H enc _ F => by rw [OpenClaim.pre_eq_preRow]; exact lifted os started H enc F)
theorem plain (f : FuncId) (fn : Func) (hf : Tryz.pinned.checked.prog.funcNamed "entail/entaillaw16.RmapWords" = some f) (hfn : Tryz.pinned.checked.prog.funcs[f]? = some fn) :
    true = Tryz.pinned.checked.prog.looks [] ∧ ∀ (j : Nat) t, fn.params[j]? = some t → Tryz.pinned.checked.prog.wantsStandIn t = false := by
  obtain rfl : f = 3 := Option.some.inj ((show Tryz.prog.funcNamed "entail/entaillaw16.RmapWords" = some 3 by kernel_rfl).symm.trans hf) |>.symm
  obtain rfl : fn = Tryz.f3 := (Option.some.inj (Tryz.func3.symm.trans hfn)).symm
  refine ⟨by kernel_rfl, fun j t ht => ?_⟩
  rw [Tryz.params3] at ht
  cases j with
  | zero =>
    obtain rfl := Option.some.inj ht
    kernel_rfl
  | succ j =>
    simp at ht
theorem card : Rows.RmapWordsCardSaid :=
  Claim7.holds_tied_plain_at .later [] _ _ _ _ said (fun _ h => by cases h) (by kernel_rfl) (fun _ h => by cases h) rmapWords_row_tie rfl ⟨rfl, rfl⟩ (by kernel_rfl) rfl plain (by kernel_rfl)
#print axioms card
end RxcF
end Go.Proofs.YtjkclhcbjjnlaaaGreatDoor

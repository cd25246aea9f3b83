/-
  entaillaw4.StorErrors returns true, whichever bits its number has; what was there reads as it did. No condition.
-/
import Derived.Test.YtdckfddlcmkdlaaTr1
import Derived.Test.YtdckfddlcmkdlaaTr2
import Derived.Test.YtdckfddlcmkdlaaTr3
import Derived.Test.YtdckfddlcmkdlaaTr4
import Derived.Test.YtdckfddlcmkdlaaCm
namespace Go.Proofs.Ytdckfddlcmkdlaa
open Go.ChangeShapes Go.WideShapes Go.ChangeAt Go.RowKit
namespace Ab
theorem terr_at (w : Int) {b1 b2 b3 b4 b5 : Bool} (h1 : bitB w 16 = b1) (h2 : bitB w 8 = b2) (h3 : bitB w 4 = b3) (h4 : bitB w 2 = b4) (h5 : bitB w 1 = b5) {hk : Hk} {tr : List Cl} (h : evalZ Try.prog (primOf prims4) 100000 200 10 [.v (.int .i64 w)] hk = some (.v (.bool true), true, tr)) (ht : tr = [clB w 16 b1, clB w 8 b2, clB w 4 b3, clB w 2 b4, clB w 1 b5]) : PureOK Try.prog 10 [.v (.int .i64 w)] (.v (.bool true)) true := by
  refine evalZ_ok fol prims4_ok h fun c hc => ?_
  rw [ht] at hc
  simp only [List.mem_cons, List.not_mem_nil, or_false] at hc
  rcases hc with rfl | rfl | rfl | rfl | rfl
  · exact clB_ok h1
  · exact clB_ok h2
  · exact clB_ok h3
  · exact clB_ok h4
  · exact clB_ok h5
theorem serr (w : Int) : PureOK Try.prog 10 [.v (.int .i64 w)] (.v (.bool true)) true := by
  have key : ∀ b1 b2 b3 b4 b5 : Bool, bitB w 16 = b1 → bitB w 8 = b2 → bitB w 4 = b3 → bitB w 2 = b4 → bitB w 1 = b5 → PureOK Try.prog 10 [.v (.int .i64 w)] (.v (.bool true)) true := fun b1 b2 b3 b4 b5 h1 h2 h3 h4 h5 => match b1, b2, b3, b4, b5, h1, h2, h3, h4, h5 with
    | false, false, false, false, false, h1, h2, h3, h4, h5 => terr_at w h1 h2 h3 h4 h5 (st0 w) rfl
    | false, false, false, false, true, h1, h2, h3, h4, h5 => terr_at w h1 h2 h3 h4 h5 (st1 w) rfl
    | false, false, false, true, false, h1, h2, h3, h4, h5 => terr_at w h1 h2 h3 h4 h5 (st2 w) rfl
    | false, false, false, true, true, h1, h2, h3, h4, h5 => terr_at w h1 h2 h3 h4 h5 (st3 w) rfl
    | false, false, true, false, false, h1, h2, h3, h4, h5 => terr_at w h1 h2 h3 h4 h5 (st4 w) rfl
    | false, false, true, false, true, h1, h2, h3, h4, h5 => terr_at w h1 h2 h3 h4 h5 (st5 w) rfl
    | false, false, true, true, false, h1, h2, h3, h4, h5 => terr_at w h1 h2 h3 h4 h5 (st6 w) rfl
    | false, false, true, true, true, h1, h2, h3, h4, h5 => terr_at w h1 h2 h3 h4 h5 (st7 w) rfl
    | false, true, false, false, false, h1, h2, h3, h4, h5 => terr_at w h1 h2 h3 h4 h5 (st8 w) rfl
    | false, true, false, false, true, h1, h2, h3, h4, h5 => terr_at w h1 h2 h3 h4 h5 (st9 w) rfl
    | false, true, false, true, false, h1, h2, h3, h4, h5 => terr_at w h1 h2 h3 h4 h5 (st10 w) rfl
    | false, true, false, true, true, h1, h2, h3, h4, h5 => terr_at w h1 h2 h3 h4 h5 (st11 w) rfl
    | false, true, true, false, false, h1, h2, h3, h4, h5 => terr_at w h1 h2 h3 h4 h5 (st12 w) rfl
    | false, true, true, false, true, h1, h2, h3, h4, h5 => terr_at w h1 h2 h3 h4 h5 (st13 w) rfl
    | false, true, true, true, false, h1, h2, h3, h4, h5 => terr_at w h1 h2 h3 h4 h5 (st14 w) rfl
    | false, true, true, true, true, h1, h2, h3, h4, h5 => terr_at w h1 h2 h3 h4 h5 (st15 w) rfl
    | true, false, false, false, false, h1, h2, h3, h4, h5 => terr_at w h1 h2 h3 h4 h5 (st16 w) rfl
    | true, false, false, false, true, h1, h2, h3, h4, h5 => terr_at w h1 h2 h3 h4 h5 (st17 w) rfl
    | true, false, false, true, false, h1, h2, h3, h4, h5 => terr_at w h1 h2 h3 h4 h5 (st18 w) rfl
    | true, false, false, true, true, h1, h2, h3, h4, h5 => terr_at w h1 h2 h3 h4 h5 (st19 w) rfl
    | true, false, true, false, false, h1, h2, h3, h4, h5 => terr_at w h1 h2 h3 h4 h5 (st20 w) rfl
    | true, false, true, false, true, h1, h2, h3, h4, h5 => terr_at w h1 h2 h3 h4 h5 (st21 w) rfl
    | true, false, true, true, false, h1, h2, h3, h4, h5 => terr_at w h1 h2 h3 h4 h5 (st22 w) rfl
    | true, false, true, true, true, h1, h2, h3, h4, h5 => terr_at w h1 h2 h3 h4 h5 (st23 w) rfl
    | true, true, false, false, false, h1, h2, h3, h4, h5 => terr_at w h1 h2 h3 h4 h5 (st24 w) rfl
    | true, true, false, false, true, h1, h2, h3, h4, h5 => terr_at w h1 h2 h3 h4 h5 (st25 w) rfl
    | true, true, false, true, false, h1, h2, h3, h4, h5 => terr_at w h1 h2 h3 h4 h5 (st26 w) rfl
    | true, true, false, true, true, h1, h2, h3, h4, h5 => terr_at w h1 h2 h3 h4 h5 (st27 w) rfl
    | true, true, true, false, false, h1, h2, h3, h4, h5 => terr_at w h1 h2 h3 h4 h5 (st28 w) rfl
    | true, true, true, false, true, h1, h2, h3, h4, h5 => terr_at w h1 h2 h3 h4 h5 (st29 w) rfl
    | true, true, true, true, false, h1, h2, h3, h4, h5 => terr_at w h1 h2 h3 h4 h5 (st30 w) rfl
    | true, true, true, true, true, h1, h2, h3, h4, h5 => terr_at w h1 h2 h3 h4 h5 (st31 w) rfl
  exact key _ _ _ _ _ rfl rfl rfl rfl rfl
/-- A law that only reckons, of one number. -/
theorem law_int {P : Program} {f : FuncId} {k : IntKind} {w : Int} {fr : Bool} (h : PureOK P f [.v (.int k w)] (.v (.bool true)) fr) (W : World) : Calls P f #[.int k w] W fun e W' => e = .returned (.bool true) ∧ Below W.heap.size W W' := by
  refine (h.2 W (fun _ => False) #[.int k w] (fun _ h => h.elim) rfl fun j x hj => ?_).mono fun e W' ⟨u, he, hb, hv⟩ => ?_
  · cases j with
    | zero => cases hj; exact ⟨_, rfl, .v _ rfl⟩
    | succ j => cases hj
  · cases (show RC W' _ (.v (.bool true)) u from hv)
    exact ⟨he, hb⟩
end Ab
namespace Terr
set_option maxRecDepth 100000 in
theorem lifted (os : Os) (started : os.Started) (H : Type) (enc : TypeId × Value → H) :
    ReturnsInHanded {} Try.checked os 10 .any (Rows.storErrorsSpec.pre6 enc Try.prog Try.f10 Rows.storErrorsRow.domain false) (Rows.storErrorsSpec.post enc Try.prog Try.f10 false true false false) := by
  refine returnsInHanded_of_change (C := Try.checked) (by kernel_rfl) started (by kernel_rfl) Try.func10
    (ChangeSpec.witness6 (enc := enc) (C := Try.checked) false ⟨#[], #[.int .i64 0], []⟩ 8 (by kernel_rfl) (by kernel_rfl) (by kernel_rfl) (by kernel_rfl)) ?_
  intro W base args ds gs before hval0 hW _ _
  have hval : ∀ (j : Nat) t v, Try.f10.params[j]? = some t → args[j]? = some v → Value.okWide Try.prog W .any base t v := hval0
  have hW' := hW
  obtain ⟨p, q, hA0, hV, rfl, _, _⟩ := hW
  have hA : DataW.TrodAll enc Try.prog W 0 (fun _ => true) true Try.f10.params.toList args.toList ds p := hA0
  rw [Try.params10] at hA hval
  obtain ⟨v0, d0, rfl, rfl, h0⟩ := trodAll_one hA
  obtain ⟨w, rfl⟩ := okWide_int Try.underlying3 (hval 0 3 v0 rfl rfl)
  exact (Ab.law_int (Ab.serr w) W).mono fun e W' ⟨he, hb⟩ => ⟨_, he, Cm.law_post (by kernel_rfl) (by kernel_rfl) rfl (tb := 4) (by kernel_rfl) Try.underlying4 rfl rfl rfl hW' hb⟩

theorem said : Rows.StorErrorsSaid :=
  OpenClaim.holds_of_wide 10 Try.f10 rfl rfl rfl rfl rfl rfl rfl ⟨rfl, rfl, rfl, rfl, rfl⟩ rfl rfl rfl rfl rfl (by kernel_rfl) Try.func10 (by kernel_rfl)
    (of_decide_eq_true (by kernel_rfl)) (by unfold Func.isWrapper; first | (rw [if_pos (by decide +kernel)]; kernel_rfl) | (rw [if_neg (by decide +kernel)]; exact ⟨rfl, rfl⟩))
    (fun os started H enc _ => lifted os started H enc)
#print axioms said
end Terr
end Go.Proofs.Ytdckfddlcmkdlaa

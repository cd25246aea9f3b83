/-
  entaillaw11.FindErrors returns true, whichever bits its number has; what was there reads as it did. No condition.
-/
import Derived.Test.YtonkehpafhhpmaaGreatFr1
import Derived.Test.YtonkehpafhhpmaaGreatFr2
import Derived.Test.YtonkehpafhhpmaaGreatFr3
import Derived.Test.YtonkehpafhhpmaaGreatFr4
import Derived.Test.YtonkehpafhhpmaaGreatCm
namespace Go.Proofs.YtonkehpafhhpmaaGreat
open Go.ChangeShapes Go.WideShapes Go.ChangeAt Go.RowKit
namespace Ab
theorem ferr_at (w : Int) {b1 b2 b3 b4 : Bool} (h1 : bitB w 8 = b1) (h2 : bitB w 4 = b2) (h3 : bitB w 2 = b3) (h4 : bitB w 1 = b4) {hk : Hk} {tr : List Cl} (h : evalZ Tryz.prog (primOf primsF) 100000 200 4 [.v (.int .i64 w)] hk = some (.v (.bool true), true, tr)) (ht : tr = [clB w 8 b1, clB w 4 b2, clB w 2 b3, clB w 1 b4]) : PureOK Tryz.prog 4 [.v (.int .i64 w)] (.v (.bool true)) true := by
  refine evalZ_ok fol primsF_ok h fun c hc => ?_
  rw [ht] at hc
  simp only [List.mem_cons, List.not_mem_nil, or_false] at hc
  rcases hc with rfl | rfl | rfl | rfl
  · exact clB_ok h1
  · exact clB_ok h2
  · exact clB_ok h3
  · exact clB_ok h4
theorem ferr_at3 (w : Int) {b1 b2 b3 b4 : Bool} {r : Nat} (h1 : bitB w 8 = b1) (h2 : bitB w 4 = b2) (h3 : bitB w 2 = b3) (h4 : bitB w 1 = b4) (h5 : hw w % 3 = r) {hk : Hk} {tr : List Cl} (h : evalZ Tryz.prog (primOf primsF) 100000 200 4 [.v (.int .i64 w)] hk = some (.v (.bool true), true, tr)) (ht : tr = [clB w 8 b1, clB w 4 b2, clB w 2 b3, clB w 1 b4, (.rem, 3, high w, .int .i64 3, .int .i64 r)]) : PureOK Tryz.prog 4 [.v (.int .i64 w)] (.v (.bool true)) true := by
  refine evalZ_ok fol primsF_ok h fun c hc => ?_
  rw [ht] at hc
  simp only [List.mem_cons, List.not_mem_nil, or_false] at hc
  rcases hc with rfl | rfl | rfl | rfl | rfl
  · exact clB_ok h1
  · exact clB_ok h2
  · exact clB_ok h3
  · exact clB_ok h4
  · exact cl_rem w r 3 (by decide) h5
theorem serr (w : Int) : PureOK Tryz.prog 4 [.v (.int .i64 w)] (.v (.bool true)) true := by
  have key0 : bitB w 1 = false → ∀ b1 b2 b3 : Bool, bitB w 8 = b1 → bitB w 4 = b2 → bitB w 2 = b3 → PureOK Tryz.prog 4 [.v (.int .i64 w)] (.v (.bool true)) true := fun hb b1 b2 b3 h1 h2 h3 => match b1, b2, b3, h1, h2, h3 with
    | false, false, false, h1, h2, h3 => ferr_at w h1 h2 h3 hb (fe0 w) rfl
    | false, false, true, h1, h2, h3 => ferr_at w h1 h2 h3 hb (fe2 w) rfl
    | false, true, false, h1, h2, h3 => ferr_at w h1 h2 h3 hb (fe4 w) rfl
    | false, true, true, h1, h2, h3 => ferr_at w h1 h2 h3 hb (fe6 w) rfl
    | true, false, false, h1, h2, h3 => ferr_at w h1 h2 h3 hb (fe8 w) rfl
    | true, false, true, h1, h2, h3 => ferr_at w h1 h2 h3 hb (fe10 w) rfl
    | true, true, false, h1, h2, h3 => ferr_at w h1 h2 h3 hb (fe12 w) rfl
    | true, true, true, h1, h2, h3 => ferr_at w h1 h2 h3 hb (fe14 w) rfl
  have key1 : bitB w 1 = true → ∀ (b1 b2 b3 : Bool) (r : Nat), bitB w 8 = b1 → bitB w 4 = b2 → bitB w 2 = b3 → r < 3 → hw w % 3 = r → PureOK Tryz.prog 4 [.v (.int .i64 w)] (.v (.bool true)) true := fun hb b1 b2 b3 r h1 h2 h3 hr h5 => match b1, b2, b3, r, h1, h2, h3, hr, h5 with
    | false, false, false, 0, h1, h2, h3, _, h5 => ferr_at3 w h1 h2 h3 hb h5 (fe1_0 w) rfl
    | false, false, false, 1, h1, h2, h3, _, h5 => ferr_at3 w h1 h2 h3 hb h5 (fe1_1 w) rfl
    | false, false, false, 2, h1, h2, h3, _, h5 => ferr_at3 w h1 h2 h3 hb h5 (fe1_2 w) rfl
    | false, false, true, 0, h1, h2, h3, _, h5 => ferr_at3 w h1 h2 h3 hb h5 (fe3_0 w) rfl
    | false, false, true, 1, h1, h2, h3, _, h5 => ferr_at3 w h1 h2 h3 hb h5 (fe3_1 w) rfl
    | false, false, true, 2, h1, h2, h3, _, h5 => ferr_at3 w h1 h2 h3 hb h5 (fe3_2 w) rfl
    | false, true, false, 0, h1, h2, h3, _, h5 => ferr_at3 w h1 h2 h3 hb h5 (fe5_0 w) rfl
    | false, true, false, 1, h1, h2, h3, _, h5 => ferr_at3 w h1 h2 h3 hb h5 (fe5_1 w) rfl
    | false, true, false, 2, h1, h2, h3, _, h5 => ferr_at3 w h1 h2 h3 hb h5 (fe5_2 w) rfl
    | false, true, true, 0, h1, h2, h3, _, h5 => ferr_at3 w h1 h2 h3 hb h5 (fe7_0 w) rfl
    | false, true, true, 1, h1, h2, h3, _, h5 => ferr_at3 w h1 h2 h3 hb h5 (fe7_1 w) rfl
    | false, true, true, 2, h1, h2, h3, _, h5 => ferr_at3 w h1 h2 h3 hb h5 (fe7_2 w) rfl
    | true, false, false, 0, h1, h2, h3, _, h5 => ferr_at3 w h1 h2 h3 hb h5 (fe9_0 w) rfl
    | true, false, false, 1, h1, h2, h3, _, h5 => ferr_at3 w h1 h2 h3 hb h5 (fe9_1 w) rfl
    | true, false, false, 2, h1, h2, h3, _, h5 => ferr_at3 w h1 h2 h3 hb h5 (fe9_2 w) rfl
    | true, false, true, 0, h1, h2, h3, _, h5 => ferr_at3 w h1 h2 h3 hb h5 (fe11_0 w) rfl
    | true, false, true, 1, h1, h2, h3, _, h5 => ferr_at3 w h1 h2 h3 hb h5 (fe11_1 w) rfl
    | true, false, true, 2, h1, h2, h3, _, h5 => ferr_at3 w h1 h2 h3 hb h5 (fe11_2 w) rfl
    | true, true, false, 0, h1, h2, h3, _, h5 => ferr_at3 w h1 h2 h3 hb h5 (fe13_0 w) rfl
    | true, true, false, 1, h1, h2, h3, _, h5 => ferr_at3 w h1 h2 h3 hb h5 (fe13_1 w) rfl
    | true, true, false, 2, h1, h2, h3, _, h5 => ferr_at3 w h1 h2 h3 hb h5 (fe13_2 w) rfl
    | true, true, true, 0, h1, h2, h3, _, h5 => ferr_at3 w h1 h2 h3 hb h5 (fe15_0 w) rfl
    | true, true, true, 1, h1, h2, h3, _, h5 => ferr_at3 w h1 h2 h3 hb h5 (fe15_1 w) rfl
    | true, true, true, 2, h1, h2, h3, _, h5 => ferr_at3 w h1 h2 h3 hb h5 (fe15_2 w) rfl
    | _, _, _, r + 3, _, _, _, hr, _ => absurd hr (by omega)
  cases hb : bitB w 1 with
  | false => exact key0 hb _ _ _ rfl rfl rfl
  | true => exact key1 hb _ _ _ _ rfl rfl rfl (Nat.mod_lt _ (by decide)) rfl
/-- A law that only reckons, of one number. -/
theorem law_int {P : Program} {f : FuncId} {k : IntKind} {w : Int} {fr : Bool} (h : PureOK P f [.v (.int k w)] (.v (.bool true)) fr) (W : World) : Calls P f #[.int k w] W fun e W' => e = .returned (.bool true) ∧ Below W.heap.size W W' := by
  refine (h.2 W (fun _ => False) #[.int k w] (fun _ h => h.elim) rfl fun j x hj => ?_).mono fun e W' ⟨u, he, ⟨hb, _⟩, hv⟩ => ?_
  · cases j with
    | zero => cases hj; exact ⟨_, rfl, .v _ rfl⟩
    | succ j => cases hj
  · cases (show RC W' _ (.v (.bool true)) u from hv)
    exact ⟨he, hb⟩
end Ab
namespace Ferr
set_option maxRecDepth 100000 in
theorem lifted (os : Os) (started : os.Started) (H : Type) (enc : TypeId × Value → H) :
    ReturnsInHanded {} Tryz.checked os 4 .any (Rows.findErrorsSpec.pre6 enc Tryz.prog Tryz.f4 Rows.findErrorsRow.domain false) (Rows.findErrorsSpec.post enc Tryz.prog Tryz.f4 false true false false) := by
  refine returnsInHanded_of_change (C := Tryz.checked) (by kernel_rfl) started (by kernel_rfl) Tryz.func4
    (ChangeSpec.witness6 (enc := enc) (C := Tryz.checked) false ⟨#[], #[.int .i64 0], []⟩ 8 (by kernel_rfl) (by kernel_rfl) (by kernel_rfl) (by kernel_rfl)) ?_
  intro W base args ds gs before hval0 hW _ _
  have hval : ∀ (j : Nat) t v, Tryz.f4.params[j]? = some t → args[j]? = some v → Value.okWide Tryz.prog W .any base t v := hval0
  have hW' := hW
  obtain ⟨p, q, hA0, hV, rfl, _, _⟩ := hW
  have hA : DataW.TrodAll enc Tryz.prog W 0 (fun _ => true) true Tryz.f4.params.toList args.toList ds p := hA0
  rw [Tryz.params4] at hA hval
  obtain ⟨v0, d0, rfl, rfl, h0⟩ := trodAll_one hA
  obtain ⟨w, rfl⟩ := okWide_int Tryz.underlying3 (hval 0 3 v0 rfl rfl)
  exact (Ab.law_int (Ab.serr w) W).mono fun e W' ⟨he, hb⟩ => ⟨_, he, Cm.law_post (by kernel_rfl) (by kernel_rfl) rfl (tb := 4) (by kernel_rfl) Tryz.underlying4 rfl rfl rfl hW' hb⟩

theorem said : Rows.FindErrorsSaid :=
  OpenClaim.holds_of_wide 4 Tryz.f4 rfl rfl rfl rfl rfl rfl rfl ⟨rfl, rfl, rfl, rfl, rfl⟩ rfl rfl rfl rfl rfl (by kernel_rfl) Tryz.func4 (by kernel_rfl)
    (of_decide_eq_true (by kernel_rfl)) (by unfold Func.isWrapper; first | (rw [if_pos (by decide +kernel)]; kernel_rfl) | (rw [if_neg (by decide +kernel)]; exact ⟨rfl, rfl⟩))
    (fun os started H enc _ => lifted os started H enc)
#print axioms said
end Ferr
end Go.Proofs.YtonkehpafhhpmaaGreat

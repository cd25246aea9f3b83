/-
  entaillaw15.SessErrors returns true, whichever row its number picks; what was there reads as it did. No condition.
-/
import Derived.Test.YtkkhgdmmbhpckaaSr1
import Derived.Test.YtkkhgdmmbhpckaaSr2
import Derived.Test.YtkkhgdmmbhpckaaSr3
import Derived.Test.YtkkhgdmmbhpckaaSr4
import Derived.Test.YtkkhgdmmbhpckaaSr5
import Derived.Test.YtkkhgdmmbhpckaaCm
namespace Go.Proofs.Ytkkhgdmmbhpckaa
open Go.ChangeShapes Go.WideShapes Go.ChangeAt Go.RowKit
namespace Ab
theorem serr_at (w : Int) (k : Nat) (hk : lw w % 25 = k) {tr : List Cl} (h : evalZ Try.prog (primOf prims1) 100000 200 10 [.v (.int .i64 w)] [(70, .int .i64 k)] = some (.v (.bool true), true, tr)) (ht : tr = [(.rem, 3, low w, .int .i64 25, .int .i64 k)]) : PureOK Try.prog 10 [.v (.int .i64 w)] (.v (.bool true)) true := by
  refine evalZ_ok fol prims1_ok h fun c hc => ?_
  rw [ht, List.mem_singleton] at hc
  rw [hc]
  exact cl_rem w k 25 (by decide) hk
theorem serr (w : Int) : PureOK Try.prog 10 [.v (.int .i64 w)] (.v (.bool true)) true := by
  have key : ∀ k, k < 25 → lw w % 25 = k → PureOK Try.prog 10 [.v (.int .i64 w)] (.v (.bool true)) true := fun k hk h => match k, hk, h with
    | 0, _, h => serr_at w 0 h (row0 w) rfl
    | 1, _, h => serr_at w 1 h (row1 w) rfl
    | 2, _, h => serr_at w 2 h (row2 w) rfl
    | 3, _, h => serr_at w 3 h (row3 w) rfl
    | 4, _, h => serr_at w 4 h (row4 w) rfl
    | 5, _, h => serr_at w 5 h (row5 w) rfl
    | 6, _, h => serr_at w 6 h (row6 w) rfl
    | 7, _, h => serr_at w 7 h (row7 w) rfl
    | 8, _, h => serr_at w 8 h (row8 w) rfl
    | 9, _, h => serr_at w 9 h (row9 w) rfl
    | 10, _, h => serr_at w 10 h (row10 w) rfl
    | 11, _, h => serr_at w 11 h (row11 w) rfl
    | 12, _, h => serr_at w 12 h (row12 w) rfl
    | 13, _, h => serr_at w 13 h (row13 w) rfl
    | 14, _, h => serr_at w 14 h (row14 w) rfl
    | 15, _, h => serr_at w 15 h (row15 w) rfl
    | 16, _, h => serr_at w 16 h (row16 w) rfl
    | 17, _, h => serr_at w 17 h (row17 w) rfl
    | 18, _, h => serr_at w 18 h (row18 w) rfl
    | 19, _, h => serr_at w 19 h (row19 w) rfl
    | 20, _, h => serr_at w 20 h (row20 w) rfl
    | 21, _, h => serr_at w 21 h (row21 w) rfl
    | 22, _, h => serr_at w 22 h (row22 w) rfl
    | 23, _, h => serr_at w 23 h (row23 w) rfl
    | 24, _, h => serr_at w 24 h (row24 w) rfl
    | k + 25, hk, _ => absurd hk (by omega)
  exact key _ (Nat.mod_lt _ (by decide)) rfl
/-- A law that only reckons, of one number. -/
theorem law_int {P : Program} {f : FuncId} {k : IntKind} {w : Int} {fr : Bool} (h : PureOK P f [.v (.int k w)] (.v (.bool true)) fr) (W : World) : Calls P f #[.int k w] W fun e W' => e = .returned (.bool true) ∧ Below W.heap.size W W' := by
  refine (h.2 W (fun _ => False) #[.int k w] (fun _ h => h.elim) rfl fun j x hj => ?_).mono fun e W' ⟨u, he, hb, hv⟩ => ?_
  · cases j with
    | zero => cases hj; exact ⟨_, rfl, .v _ rfl⟩
    | succ j => cases hj
  · cases (show RC W' _ (.v (.bool true)) u from hv)
    exact ⟨he, hb⟩
end Ab
namespace Serr
set_option maxRecDepth 100000 in
theorem lifted (os : Os) (started : os.Started) (H : Type) (enc : TypeId × Value → H) :
    ReturnsInHanded {} Try.checked os 10 .any (Rows.sessErrorsSpec.pre6 enc Try.prog Try.f10 Rows.sessErrorsRow.domain false) (Rows.sessErrorsSpec.post enc Try.prog Try.f10 false true false false) := by
  refine returnsInHanded_of_change (C := Try.checked) (by kernel_rfl) started (by kernel_rfl) Try.func10
    (ChangeSpec.witness6 (enc := enc) (C := Try.checked) false ⟨#[], #[.int .i64 0], []⟩ 8 (by kernel_rfl) (by kernel_rfl) (by kernel_rfl) (by kernel_rfl)) ?_
  intro W base args ds gs before hval0 hW _ _
  have hval : ∀ (j : Nat) t v, Try.f10.params[j]? = some t → args[j]? = some v → Value.okWide Try.prog W .any base t v := hval0
  have hW' := hW
  obtain ⟨p, q, hA0, hV, rfl, _, _⟩ := hW
  have hA : DataW.TrodAll enc Try.prog W 0 (fun _ => true) true Try.f10.params.toList args.toList ds p := hA0
  rw [Try.params10] at hA hval
  obtain ⟨v0, d0, rfl, rfl, h0⟩ := trodAll_one hA
  obtain ⟨w, rfl⟩ := okWide_int Try.underlying3 (hval 0 3 v0 rfl rfl)
  exact (Ab.law_int (Ab.serr w) W).mono fun e W' ⟨he, hb⟩ => ⟨_, he, Cm.law_post (by kernel_rfl) (by kernel_rfl) rfl (tb := 4) (by kernel_rfl) Try.underlying4 rfl rfl rfl hW' hb⟩

theorem said : Rows.SessErrorsSaid :=
  OpenClaim.holds_of_wide 10 Try.f10 rfl rfl rfl rfl rfl rfl rfl ⟨rfl, rfl, rfl, rfl, rfl⟩ rfl rfl rfl rfl rfl (by kernel_rfl) Try.func10 (by kernel_rfl)
    (of_decide_eq_true (by kernel_rfl)) (by unfold Func.isWrapper; first | (rw [if_pos (by decide +kernel)]; kernel_rfl) | (rw [if_neg (by decide +kernel)]; exact ⟨rfl, rfl⟩))
    (fun os started H enc _ => lifted os started H enc)
#print axioms said
end Serr
end Go.Proofs.Ytkkhgdmmbhpckaa

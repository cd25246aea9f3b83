/-
  entaillaw24.GlobGroups returns true, whatever list of numbers and whatever number it is handed; what was there reads as it did. No condition.
-/
import Derived.Test.YtkkhgdmmbhpckaaGg
import Derived.Test.YtkkhgdmmbhpckaaCm
namespace Go.Proofs.Ytkkhgdmmbhpckaa
open Go.ChangeShapes Go.WideShapes Go.ChangeAt Go.RowKit
namespace Ab
theorem cell_in {w : World} {p : Addr} {x : Value} (h : w.cell? p = some x) : p.block < w.heap.size := by
  rcases Nat.lt_or_ge p.block w.heap.size with h1 | h1
  · exact h1
  · have : w.heap[p.block]? = none := Array.getElem?_eq_none h1
    simp [World.cell?, this] at h
theorem addr_add {b o i : Nat} : (⟨b, o, none⟩ : Addr).add i = ⟨b, o + i, none⟩ := by
  unfold Addr.add
  split <;> simp_all
theorem cells64 : Try.prog.cellsOf 2 = 1 := by kernel_rfl
/-- A list of numbers that is handed in, as the machine's data. -/
theorem arg_ints {H : Type} {enc : TypeId × Value → H} {W : World} {a0 : Option Addr} {len cap : Nat} {d0 : DataW H} {p : List MemPlace}
    (h0 : DataW.Trod enc Try.prog W 0 (fun _ => true) true 22 (.slice a0 len cap) d0 p) : ∃ zs : List Int, RC W (fun k => k < W.heap.size ∧ ¬ False) (.sl (zs.map fun x => [D.v (.int .i64 x)])) (.slice a0 len cap) := by
  obtain ⟨fuel, hf⟩ := h0
  rcases open_ints Try.underlying22 Try.underlying2 cells64 hf with ⟨hcs, hx⟩ | ⟨a, len', cap', zs, hcs, _, hl, hm, hz, hx, hcell, hwz⟩
  · simp [Value.cells] at hcs
    obtain ⟨rfl, rfl, rfl⟩ := hcs
    exact ⟨[], .nl none 0⟩
  · simp [Value.cells] at hcs
    obtain ⟨rfl, rfl, rfl⟩ := hcs
    simp only [if_true] at hz
    cases len with
    | zero => exact ⟨[], .nl _ _⟩
    | succ n =>
      refine ⟨zs.take (n + 1), ?_⟩
      obtain ⟨b, o, s⟩ := a
      have hspot : s = none := by simpa [Addr.add] using World.cell?_spot (hcell 0 (by omega))
      subst hspot
      have hlen : ((zs.take (n + 1)).map fun x => [D.v (.int .i64 x)]).length = n + 1 := by simp; omega
      have at' : ∀ (i : Nat) (cs : List D), ((zs.take (n + 1)).map fun x => [D.v (.int .i64 x)])[i]? = some cs → i < n + 1 ∧ cs = [D.v (.int .i64 (zs.getD i 0))] := by
        intro i cs hi
        have h1 : i < n + 1 := by
          rcases Nat.lt_or_ge i (n + 1) with h | h
          · exact h
          · rw [List.getElem?_eq_none (by omega)] at hi; cases hi
        refine ⟨h1, ?_⟩
        rw [List.getElem?_map, List.getElem?_take, if_pos h1, List.getElem?_eq_getElem (show i < zs.length by omega)] at hi
        simp only [Option.map_some, Option.some.injEq] at hi
        rw [← hi, List.getD_eq_getElem?_getD, List.getElem?_eq_getElem (show i < zs.length by omega)]
        rfl
      have hc0 := hcell 0 (by omega)
      have key := RC.sl (w := W) (I := fun k => k < W.heap.size ∧ ¬ False) ((zs.take (n + 1)).map fun x => [D.v (.int .i64 x)]) b o cap 1 (fun i _ => .int .i64 (zs.getD i 0)) ⟨cell_in hc0, fun h => h⟩ (by omega)
        (fun i cs hi => by rw [(at' i cs hi).2]; rfl)
        (fun i j cs d hi hj => by
          obtain ⟨h1, rfl⟩ := at' i cs hi
          have hj0 : j = 0 := by
            rcases j with _ | j
            · rfl
            · simp at hj
          subst hj0
          have := hcell i (by omega)
          rw [addr_add] at this
          simpa using this)
        (fun i j cs d hi hj => by
          obtain ⟨h1, rfl⟩ := at' i cs hi
          have hd : d = D.v (.int .i64 (zs.getD i 0)) := by
            rcases j with _ | j
            · simpa using hj.symm
            · simp at hj
          rw [hd]
          exact .v _ rfl)
      rw [hlen] at key
      exact key
/-- A law that only reckons, of a list and a number. -/
theorem law_ints_int {P : Program} {f : FuncId} {k : IntKind} {w : Int} {fr : Bool} {zs : List Int} {v : Value} (h : PureOK P f [.sl (zs.map fun x => [D.v (.int .i64 x)]), .v (.int k w)] (.v (.bool true)) fr) (W : World) (hz : RC W (fun k => k < W.heap.size ∧ ¬ False) (.sl (zs.map fun x => [D.v (.int .i64 x)])) v) : Calls P f #[v, .int k w] W fun e W' => e = .returned (.bool true) ∧ Below W.heap.size W W' := by
  refine (h.2 W (fun _ => False) #[v, .int k w] (fun _ h => h.elim) rfl fun j x hj => ?_).mono fun e W' ⟨u, he, ⟨hb, _⟩, hv⟩ => ?_
  · match j, hj with
    | 0, hj => cases hj; exact ⟨_, rfl, hz⟩
    | 1, hj => cases hj; exact ⟨_, rfl, .v _ rfl⟩
    | n + 2, hj => simp at hj
  · cases (show RC W' _ (.v (.bool true)) u from hv)
    exact ⟨he, hb⟩
end Ab
namespace Glg
set_option maxRecDepth 100000 in
theorem lifted (os : Os) (started : os.Started) (H : Type) (enc : TypeId × Value → H) :
    ReturnsInHanded {} Try.checked os 3 .any (Rows.globGroupsSpec.pre6 enc Try.prog Try.f3 Rows.globGroupsRow.domain false) (Rows.globGroupsSpec.post enc Try.prog Try.f3 false true false false) := by
  refine returnsInHanded_of_change (C := Try.checked) (by kernel_rfl) started (by kernel_rfl) Try.func3
    (ChangeSpec.witness6 (enc := enc) (C := Try.checked) false ⟨#[], #[.slice none 0 0, .int .i64 0], []⟩ 8 (by kernel_rfl) (by kernel_rfl) (by kernel_rfl) (by kernel_rfl)) ?_
  intro W base args ds gs before hval0 hW _ _
  have hval : ∀ (j : Nat) t v, Try.f3.params[j]? = some t → args[j]? = some v → Value.okWide Try.prog W .any base t v := hval0
  have hW' := hW
  obtain ⟨p, q, hA0, hV, rfl, _, _⟩ := hW
  have hA : DataW.TrodAll enc Try.prog W 0 (fun _ => true) true Try.f3.params.toList args.toList ds p := hA0
  rw [Try.params3] at hA hval
  obtain ⟨v0, v1, d0, d1, p0, p1, rfl, rfl, rfl, h0, h1⟩ := trodAll_two hA
  obtain ⟨a0, n0, c0, rfl⟩ := okWide_slice Try.underlying22 (hval 0 22 v0 rfl rfl)
  obtain ⟨w, rfl⟩ := okWide_int Try.underlying2 (hval 1 2 v1 rfl rfl)
  obtain ⟨zs, hz⟩ := Ab.arg_ints h0
  exact (Ab.law_ints_int (Ab.groups_ok zs w) W hz).mono fun e W' ⟨he, hb⟩ => ⟨_, he, Cm.law_post (by kernel_rfl) (by kernel_rfl) rfl (tb := 4) (by kernel_rfl) Try.underlying4 rfl rfl rfl hW' hb⟩

theorem said : Rows.GlobGroupsSaid :=
  OpenClaim.holds_of_wide 3 Try.f3 rfl rfl rfl rfl rfl rfl rfl ⟨rfl, rfl, rfl, rfl, rfl⟩ rfl rfl rfl rfl rfl (by kernel_rfl) Try.func3 (by kernel_rfl)
    (of_decide_eq_true (by kernel_rfl)) (by unfold Func.isWrapper; first | (rw [if_pos (by decide +kernel)]; kernel_rfl) | (rw [if_neg (by decide +kernel)]; exact ⟨rfl, rfl⟩))
    (fun os started H enc _ => lifted os started H enc)
#print axioms said
end Glg
end Go.Proofs.Ytkkhgdmmbhpckaa

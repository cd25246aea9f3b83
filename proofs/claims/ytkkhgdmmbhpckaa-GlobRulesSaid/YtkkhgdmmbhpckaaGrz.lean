/-
  entaillaw24.GlobRules returns true, whatever two lists of numbers and whatever number it is handed; what was there reads as it did. No condition.
-/
import Derived.Test.YtkkhgdmmbhpckaaGrl
import Derived.Test.YtkkhgdmmbhpckaaCm
namespace Go.Proofs.Ytkkhgdmmbhpckaa
open Go.ChangeShapes Go.WideShapes Go.ChangeAt Go.RowKit
namespace Ab
theorem told_eq {p : Pol} (hs : Small p) (k : Int) : (p.users.any (eqS (askN k).who) && p.acts.any (eqS (askN k).act) && p.ress.any (eqS (askN k).obj)) = (!((askN k).who.toList == ({ data := #[120] } : ByteArray).toList) && !((askN k).act.toList == ({ data := #[122] } : ByteArray).toList) && !((askN k).obj.toList == ({ data := #[99] } : ByteArray).toList)) := by
  rw [hs.users, hs.acts, hs.ress]
  obtain ⟨h2, h3⟩ := ask_or k
  rcases who_or k with h | h | h | h <;> rw [h] <;> rcases h2 with h2 | h2 | h2 | h2 | h2 <;> rw [h2] <;> rcases h3 with h3 | h3 | h3 | h3 <;> rw [h3] <;> kernel_rfl
theorem rules_model (l m : List Int) (k : Int) : law24_GlobRules 100 l m k = some true := by
  unfold law24_GlobRules law23_Made law24_Ask
  simp only [Option.bind_some]
  have hs := small_made l
  have hq := small_made m
  have ht := told_eq hs k
  generalize madeP l = p at hs ht
  generalize madeP m = q at hq
  have hw := may_some (n := 100) (p := ofPol p) (askN k).who (askN k).act (askN k).obj (by rw [toPol_of]; exact small_fit hs)
  rw [toPol_of] at hw
  rw [hw]
  simp only [Option.bind_some]
  have e1 := l1_ok hs hq ⟨false, (askN k).who, (askN k).act, (askN k).obj⟩ 100 100 0 (by omega) (by have := hq.stms; omega)
  have e2 := l2_ok hs ⟨false, (askN k).who, (askN k).act, (askN k).obj⟩ 100 100 0 true (by omega) (by have := hs.bnds; omega)
  have e3 := l3_ok hs hq ⟨false, (askN k).who, (askN k).act, (askN k).obj⟩ 100 _ rfl 100 0 (by omega) (by have := hq.bnds; omega)
  have e4 := l4_ok hs 100
  simp only [List.drop_zero, Bool.true_and] at e2
  have i1 : law24_GlobRules_L1 100 (ofPol p) ⟨false, (askN k).who, (askN k).act, (askN k).obj⟩ (ofPol q) 100 (mayB p (askN k).who (askN k).act (askN k).obj, 0) = some (.inl (mayB p (askN k).who (askN k).act (askN k).obj)) := e1
  have i2 : law24_GlobRules_L2 100 (ofPol p) ⟨false, (askN k).who, (askN k).act, (askN k).obj⟩ 100 (true, 0) = some (!p.bnds.any fun b => eqS b.user (askN k).who) := e2
  have i3 : law24_GlobRules_L3 100 (ofPol p) ⟨false, (askN k).who, (askN k).act, (askN k).obj⟩ (ofPol q) 100 (mayB p (askN k).who (askN k).act (askN k).obj, (!p.bnds.any fun b => eqS b.user (askN k).who), 0) = some (.inl (mayB p (askN k).who (askN k).act (askN k).obj)) := e3
  rw [i1]
  simp only [Option.bind_some]
  rw [i2]
  simp only [Option.bind_some]
  rw [i3]
  simp only [Option.bind_some]
  rw [e4]
  simp only [Option.bind_some]
  have F1 : FitPol (toPol (polS p (p.stms.filter (·.deny)))) := by rw [to_polS]; exact fit_flt hs
  have m1 := may_some (n := 100) (askN k).who (askN k).act (askN k).obj F1
  rw [to_polS, may_deny p _ _ _ _ fun s h => (List.mem_filter.1 h).2] at m1
  have F2 : FitPol (toPol (ofPol (allP p))) := by rw [toPol_of]; exact fit_all hs
  have m2 := may_some (n := 100) (askN k).who (askN k).act (askN k).obj F2
  rw [toPol_of, may_all, ht] at m2
  have hin := may_in p (askN k).who (askN k).act (askN k).obj
  rw [ht] at hin
  unfold polS at m1
  have m2' : glob_May 100 ⟨(ofPol p).users, (ofPol p).actions, (ofPol p).resources, [], [⟨{ data := #[97] }, false, (ofPol p).users, [], [{ data := #[42] }], [{ data := #[42] }]⟩], []⟩ (askN k).who (askN k).act (askN k).obj = _ := m2
  revert hin m2'
  generalize mayB p (askN k).who (askN k).act (askN k).obj = was
  cases h1 : ((askN k).who.toList == ({ data := #[120] } : ByteArray).toList) <;> cases h2 : ((askN k).act.toList == ({ data := #[122] } : ByteArray).toList) <;> cases h3 : ((askN k).obj.toList == ({ data := #[99] } : ByteArray).toList)
  all_goals
    intro hin m2'
    simp only [Bool.not_true, Bool.not_false, Bool.and_true, Bool.and_false] at hin m2'
    simp only [if_true, if_false, Bool.false_eq_true, Option.bind_some, Bool.not_true, Bool.not_false]
    rw [m1]
    simp only [if_false, Bool.false_eq_true, Option.bind_some]
    rw [m2']
    cases was
    · first | rfl | simp [law24_awake]
    · first | rfl | (exact absurd (hin rfl) (by decide)) | simp [law24_awake]
theorem cell_in {w : World} {p : Addr} {x : Value} (h : w.cell? p = some x) : p.block < w.heap.size := by
  rcases Nat.lt_or_ge p.block w.heap.size with h1 | h1
  · exact h1
  · have : w.heap[p.block]? = none := Array.getElem?_eq_none h1
    simp [World.cell?, this] at h
theorem addr_add {b o i : Nat} : (⟨b, o, none⟩ : Addr).add i = ⟨b, o + i, none⟩ := by
  unfold Addr.add
  split <;> simp_all
theorem cells64 : Try.prog.cellsOf 2 = 1 := by kernel_rfl
/-- A list of numbers that is handed in, as the machine's data. -/
theorem arg_ints {H : Type} {enc : TypeId × Value → H} {W : World} {a0 : Option Addr} {len cap : Nat} {d0 : DataW H} {p : List MemPlace}
    (h0 : DataW.Trod enc Try.prog W 0 (fun _ => true) true 22 (.slice a0 len cap) d0 p) : ∃ zs : List Int, RC W (fun k => k < W.heap.size ∧ ¬ False) (.sl (zs.map fun x => [D.v (.int .i64 x)])) (.slice a0 len cap) := by
  obtain ⟨fuel, hf⟩ := h0
  rcases open_ints Try.underlying22 Try.underlying2 cells64 hf with ⟨hcs, hx⟩ | ⟨a, len', cap', zs, hcs, _, hl, hm, hz, hx, hcell, hwz⟩
  · simp [Value.cells] at hcs
    obtain ⟨rfl, rfl, rfl⟩ := hcs
    exact ⟨[], .nl none 0⟩
  · simp [Value.cells] at hcs
    obtain ⟨rfl, rfl, rfl⟩ := hcs
    simp only [if_true] at hz
    cases len with
    | zero => exact ⟨[], .nl _ _⟩
    | succ n =>
      refine ⟨zs.take (n + 1), ?_⟩
      obtain ⟨b, o, s⟩ := a
      have hspot : s = none := by simpa [Addr.add] using World.cell?_spot (hcell 0 (by omega))
      subst hspot
      have hlen : ((zs.take (n + 1)).map fun x => [D.v (.int .i64 x)]).length = n + 1 := by simp; omega
      have at' : ∀ (i : Nat) (cs : List D), ((zs.take (n + 1)).map fun x => [D.v (.int .i64 x)])[i]? = some cs → i < n + 1 ∧ cs = [D.v (.int .i64 (zs.getD i 0))] := by
        intro i cs hi
        have h1 : i < n + 1 := by
          rcases Nat.lt_or_ge i (n + 1) with h | h
          · exact h
          · rw [List.getElem?_eq_none (by omega)] at hi; cases hi
        refine ⟨h1, ?_⟩
        rw [List.getElem?_map, List.getElem?_take, if_pos h1, List.getElem?_eq_getElem (show i < zs.length by omega)] at hi
        simp only [Option.map_some, Option.some.injEq] at hi
        rw [← hi, List.getD_eq_getElem?_getD, List.getElem?_eq_getElem (show i < zs.length by omega)]
        rfl
      have hc0 := hcell 0 (by omega)
      have key := RC.sl (w := W) (I := fun k => k < W.heap.size ∧ ¬ False) ((zs.take (n + 1)).map fun x => [D.v (.int .i64 x)]) b o cap 1 (fun i _ => .int .i64 (zs.getD i 0)) ⟨cell_in hc0, fun h => h⟩ (by omega)
        (fun i cs hi => by rw [(at' i cs hi).2]; rfl)
        (fun i j cs d hi hj => by
          obtain ⟨h1, rfl⟩ := at' i cs hi
          have hj0 : j = 0 := by
            rcases j with _ | j
            · rfl
            · simp at hj
          subst hj0
          have := hcell i (by omega)
          rw [addr_add] at this
          simpa using this)
        (fun i j cs d hi hj => by
          obtain ⟨h1, rfl⟩ := at' i cs hi
          have hd : d = D.v (.int .i64 (zs.getD i 0)) := by
            rcases j with _ | j
            · simpa using hj.symm
            · simp at hj
          rw [hd]
          exact .v _ rfl)
      rw [hlen] at key
      exact key
/-- A law that only reckons, of two lists and a number. -/
theorem law_ints_ints_int {P : Program} {f : FuncId} {k : IntKind} {w : Int} {fr : Bool} {zs ys : List Int} {v u : Value} (h : PureOK P f [.sl (zs.map eI), .sl (ys.map eI), .v (.int k w)] (.v (.bool true)) fr) (W : World) (hz : RC W (fun k => k < W.heap.size ∧ ¬ False) (.sl (zs.map fun x => [D.v (.int .i64 x)])) v) (hy : RC W (fun k => k < W.heap.size ∧ ¬ False) (.sl (ys.map fun x => [D.v (.int .i64 x)])) u) : Calls P f #[v, u, .int k w] W fun e W' => e = .returned (.bool true) ∧ Below W.heap.size W W' := by
  refine (h.2 W (fun _ => False) #[v, u, .int k w] (fun _ h => h.elim) rfl fun j x hj => ?_).mono fun e W' ⟨u, he, ⟨hb, _⟩, hv⟩ => ?_
  · match j, hj with
    | 0, hj => cases hj; exact ⟨_, rfl, hz⟩
    | 1, hj => cases hj; exact ⟨_, rfl, hy⟩
    | 2, hj => cases hj; exact ⟨_, rfl, .v _ rfl⟩
    | n + 3, hj => simp at hj
  · cases (show RC W' _ (.v (.bool true)) u from hv)
    exact ⟨he, hb⟩
end Ab
namespace Glr
set_option maxRecDepth 100000 in
theorem lifted (os : Os) (started : os.Started) (H : Type) (enc : TypeId × Value → H) :
    ReturnsInHanded {} Try.checked os 6 .any (Rows.globRulesSpec.pre6 enc Try.prog Try.f6 Rows.globRulesRow.domain false) (Rows.globRulesSpec.post enc Try.prog Try.f6 false true false false) := by
  refine returnsInHanded_of_change (C := Try.checked) (by kernel_rfl) started (by kernel_rfl) Try.func6
    (ChangeSpec.witness6 (enc := enc) (C := Try.checked) false ⟨#[], #[.slice none 0 0, .slice none 0 0, .int .i64 0], []⟩ 8 (by kernel_rfl) (by kernel_rfl) (by kernel_rfl) (by kernel_rfl)) ?_
  intro W base args ds gs before hval0 hW _ _
  have hval : ∀ (j : Nat) t v, Try.f6.params[j]? = some t → args[j]? = some v → Value.okWide Try.prog W .any base t v := hval0
  have hW' := hW
  obtain ⟨p, q, hA0, hV, rfl, _, _⟩ := hW
  have hA : DataW.TrodAll enc Try.prog W 0 (fun _ => true) true Try.f6.params.toList args.toList ds p := hA0
  rw [Try.params6] at hA hval
  obtain ⟨v0, v1, v2, d0, d1, d2, p0, p1, p2, rfl, rfl, rfl, h0, h1, h2⟩ := trodAll_three hA
  obtain ⟨a0, n0, c0, rfl⟩ := okWide_slice Try.underlying22 (hval 0 22 v0 rfl rfl)
  obtain ⟨a1, n1, c1, rfl⟩ := okWide_slice Try.underlying22 (hval 1 22 v1 rfl rfl)
  obtain ⟨w, rfl⟩ := okWide_int Try.underlying2 (hval 2 2 v2 rfl rfl)
  obtain ⟨zs, hz⟩ := Ab.arg_ints h0
  obtain ⟨ys, hy⟩ := Ab.arg_ints h1
  exact (Ab.law_ints_ints_int (Ab.law24_GlobRules_ok (Ab.rules_model zs ys w)) W hz hy).mono fun e W' ⟨he, hb⟩ => ⟨_, he, Cm.law_post (by kernel_rfl) (by kernel_rfl) rfl (tb := 4) (by kernel_rfl) Try.underlying4 rfl rfl rfl hW' hb⟩

theorem said : Rows.GlobRulesSaid :=
  OpenClaim.holds_of_wide 6 Try.f6 rfl rfl rfl rfl rfl rfl rfl ⟨rfl, rfl, rfl, rfl, rfl⟩ rfl rfl rfl rfl rfl (by kernel_rfl) Try.func6 (by kernel_rfl)
    (of_decide_eq_true (by kernel_rfl)) (by unfold Func.isWrapper; first | (rw [if_pos (by decide +kernel)]; kernel_rfl) | (rw [if_neg (by decide +kernel)]; exact ⟨rfl, rfl⟩))
    (fun os started H enc _ => lifted os started H enc)
#print axioms said
end Glr
end Go.Proofs.Ytkkhgdmmbhpckaa

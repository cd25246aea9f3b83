/-
  No cell of these rows narrows 'for every input' (looked for: loops, veiled, ifaces, maps, wideKeys, modest, calm, conditions, laid).
  DERIVED. THE GIVEN ROWS OF THIS SEAT. 5 by the template 'for every input the law returns true; each argument reads behind the call as it read before'; 0 by the template 'total and deterministic' (their statements: YtnmkbmefohakmaaGreatTotals.lean).
  GIVEN WITH THE SEED: the statements are not yours to turn. If you find one false, say at which input.
  Laid BY PROGRAM, IN A SANDBOX (cutbox-rows.mjs): the forced cells as the released guide's own fill.sh prints them over the translation f7476b060555ad3e… (all of the seat's roots in one cut). By AI agents, Wed Nov 11 2026. No macro, syntax, notation, axiom, sorry.
-/
import Derived.Test.YtnmkbmefohakmaaGreatChecked
import GoSem.Claim
import GoSem.ClaimJoined
import GoSem.ClaimMapViews
import Derived.JoinedTies
import Derived.KernelRfl
namespace Go.Proofs.YtnmkbmefohakmaaGreat
/- THE CELL 'sum', in the pinned program and in every row, IS THE sha256 OF THE DUMP (.gsa) THAT YtnmkbmefohakmaaGreatProg.lean LOADS. Nothing in Lean hashes anything: it is a label: what it is worth is what the hold of that sum in a sandbox is worth. -/
noncomputable def Tryz.pinned : Pinned := { name := "ytnmkbmefohakmaagreat", sum := "f7476b060555ad3e7416b24587036541b2d5dca382463fd20bd874245ef2f425", checked := Tryz.checked }
namespace Rows
def none {H : Type} : Left H := { results := [], args := [] }

/-- 'entaillaw9.SeekOrder': WHATEVER THE INPUT: true; the input reads as it did. -/
def seekOrderSpec : ChangeSpec := { name := "seekOrder", fn := fun _ => fun
  | [d1, d2, d3] => { results := [.lit (.bool true)], args := [d1, d2, d3] }
  | _ => none }
def seekOrderRow : OpenClaim := { program := "ytnmkbmefohakmaagreat", sum := "f7476b060555ad3e7416b24587036541b2d5dca382463fd20bd874245ef2f425", func := "entail/entaillaw9.SeekOrder", spec := "seekOrder", inPlace := ["internal/bytealg.abigen_runtime_cmpstring"], unfollowed := true, recurses := true, plainKeys := false, apart := false }
def SeekOrderSaid : Prop := seekOrderRow.holds Tryz.pinned (OpenSpec.ofChange seekOrderSpec)

/-- ITS FALSE NEIGHBOUR: 'it returns false'. Refute it at one input. -/
def seekOrderWrong : ChangeSpec := { name := "seekOrder", fn := fun _ => fun
  | [d1, d2, d3] => { results := [.lit (.bool false)], args := [d1, d2, d3] }
  | _ => none }
def SeekOrderWrongFalsely : Prop := seekOrderRow.holds Tryz.pinned (OpenSpec.ofChange seekOrderWrong)

/-- 'entaillaw9.SeekMore': WHATEVER THE INPUT: true; the input reads as it did. -/
def seekMoreSpec : ChangeSpec := { name := "seekMore", fn := fun _ => fun
  | [d1, d2, d3, d4] => { results := [.lit (.bool true)], args := [d1, d2, d3, d4] }
  | _ => none }
def seekMoreRow : OpenClaim := { program := "ytnmkbmefohakmaagreat", sum := "f7476b060555ad3e7416b24587036541b2d5dca382463fd20bd874245ef2f425", func := "entail/entaillaw9.SeekMore", spec := "seekMore", inPlace := ["internal/bytealg.abigen_runtime_cmpstring"], unfollowed := true, recurses := true, plainKeys := false, apart := false }
def SeekMoreSaid : Prop := seekMoreRow.holds Tryz.pinned (OpenSpec.ofChange seekMoreSpec)

/-- ITS FALSE NEIGHBOUR: 'it returns false'. Refute it at one input. -/
def seekMoreWrong : ChangeSpec := { name := "seekMore", fn := fun _ => fun
  | [d1, d2, d3, d4] => { results := [.lit (.bool false)], args := [d1, d2, d3, d4] }
  | _ => none }
def SeekMoreWrongFalsely : Prop := seekMoreRow.holds Tryz.pinned (OpenSpec.ofChange seekMoreWrong)

/-- 'entaillaw9.SeekFixed': WHATEVER THE INPUT: true; the input reads as it did. -/
def seekFixedSpec : ChangeSpec := { name := "seekFixed", fn := fun _ => fun
  | [d1, d2, d3] => { results := [.lit (.bool true)], args := [d1, d2, d3] }
  | _ => none }
def seekFixedRow : OpenClaim := { program := "ytnmkbmefohakmaagreat", sum := "f7476b060555ad3e7416b24587036541b2d5dca382463fd20bd874245ef2f425", func := "entail/entaillaw9.SeekFixed", spec := "seekFixed", inPlace := ["internal/bytealg.abigen_runtime_cmpstring"], unfollowed := true, recurses := true, plainKeys := false, apart := false }
def SeekFixedSaid : Prop := seekFixedRow.holds Tryz.pinned (OpenSpec.ofChange seekFixedSpec)

/-- ITS FALSE NEIGHBOUR: 'it returns false'. Refute it at one input. -/
def seekFixedWrong : ChangeSpec := { name := "seekFixed", fn := fun _ => fun
  | [d1, d2, d3] => { results := [.lit (.bool false)], args := [d1, d2, d3] }
  | _ => none }
def SeekFixedWrongFalsely : Prop := seekFixedRow.holds Tryz.pinned (OpenSpec.ofChange seekFixedWrong)

/-- 'entaillaw11.FindPages': WHATEVER THE INPUT: true; the input reads as it did. -/
def findPagesSpec : ChangeSpec := { name := "findPages", fn := fun _ => fun
  | [d1, d2, d3, d4] => { results := [.lit (.bool true)], args := [d1, d2, d3, d4] }
  | _ => none }
def findPagesRow : OpenClaim := { program := "ytnmkbmefohakmaagreat", sum := "f7476b060555ad3e7416b24587036541b2d5dca382463fd20bd874245ef2f425", func := "entail/entaillaw11.FindPages", spec := "findPages", inPlace := ["internal/bytealg.abigen_runtime_cmpstring"], unfollowed := true, recurses := true, plainKeys := false, apart := false }
def FindPagesSaid : Prop := findPagesRow.holds Tryz.pinned (OpenSpec.ofChange findPagesSpec)

/-- ITS FALSE NEIGHBOUR: 'it returns false'. Refute it at one input. -/
def findPagesWrong : ChangeSpec := { name := "findPages", fn := fun _ => fun
  | [d1, d2, d3, d4] => { results := [.lit (.bool false)], args := [d1, d2, d3, d4] }
  | _ => none }
def FindPagesWrongFalsely : Prop := findPagesRow.holds Tryz.pinned (OpenSpec.ofChange findPagesWrong)

/-- 'entaillaw11.FindJust': WHATEVER THE INPUT: true; the input reads as it did. -/
def findJustSpec : ChangeSpec := { name := "findJust", fn := fun _ => fun
  | [d1, d2, d3] => { results := [.lit (.bool true)], args := [d1, d2, d3] }
  | _ => none }
def findJustRow : OpenClaim := { program := "ytnmkbmefohakmaagreat", sum := "f7476b060555ad3e7416b24587036541b2d5dca382463fd20bd874245ef2f425", func := "entail/entaillaw11.FindJust", spec := "findJust", inPlace := ["internal/bytealg.abigen_runtime_cmpstring"], unfollowed := true, recurses := true, plainKeys := false, apart := false }
def FindJustSaid : Prop := findJustRow.holds Tryz.pinned (OpenSpec.ofChange findJustSpec)

/-- ITS FALSE NEIGHBOUR: 'it returns false'. Refute it at one input. -/
def findJustWrong : ChangeSpec := { name := "findJust", fn := fun _ => fun
  | [d1, d2, d3] => { results := [.lit (.bool false)], args := [d1, d2, d3] }
  | _ => none }
def FindJustWrongFalsely : Prop := findJustRow.holds Tryz.pinned (OpenSpec.ofChange findJustWrong)

/- THE SECOND FORM. 'bulk': how many values and letters a reading holds, each counted each time it is reached (what is shared counts as often as it is met; a slice's spare places count too). A statement '..UptoSaid' is the law's where the arguments, and the package variables that the reading takes, are together of bulk at most 1048576: NARROWER than '..Said'. Prove '..Said' where nothing that the law and all that it calls make is longer than what came in: it says more and counts as full. Else prove '..UptoSaid'. A law counts once. -/
mutual
def uptoBulk {H : Type} : DataW H → Nat
  | .lit (.string bytes) => bytes.length + 1
  | .lit _ => 1
  | .nil => 1
  | .ptr d => uptoBulk d + 1
  | .slice elems spare => uptoBulkAll elems + uptoBulkAll spare + 1
  | .agg parts => uptoBulkAll parts + 1
  | .iface _ d => uptoBulk d + 1
  | .map entries => uptoBulkEntries entries + 1
  | .held _ => 1
def uptoBulkAll {H : Type} : List (DataW H) → Nat
  | [] => 0
  | d :: r => uptoBulk d + uptoBulkAll r
def uptoBulkEntries {H : Type} : List (Lit × DataW H) → Nat
  | [] => 0
  | x :: r => uptoBulkEntry x + uptoBulkEntries r
def uptoBulkEntry {H : Type} : Lit × DataW H → Nat
  | (.string bytes, d) => bytes.length + uptoBulk d + 1
  | (_, d) => uptoBulk d + 1
 end
def uptoSmall : (H : Type) → List (DataW H) → Bool := fun _ ds => decide (uptoBulkAll ds ≤ 1048576)
def OpenSpec.upto (s : _root_.Go.ChangeSpec) : _root_.Go.OpenSpec := { _root_.Go.OpenSpec.ofChange s with cond := some uptoSmall }

/-- 'entaillaw9.SeekOrder', WHERE WHAT IT READS IS OF BULK AT MOST 1048576: true; the input reads as it did. -/
def seekOrderUptoRow : OpenClaim := { program := "ytnmkbmefohakmaagreat", sum := "f7476b060555ad3e7416b24587036541b2d5dca382463fd20bd874245ef2f425", func := "entail/entaillaw9.SeekOrder", spec := "seekOrder", inPlace := ["internal/bytealg.abigen_runtime_cmpstring"], unfollowed := true, recurses := true, plainKeys := false, apart := false, narrowed := true }
def SeekOrderUptoSaid : Prop := seekOrderUptoRow.holds Tryz.pinned (OpenSpec.upto seekOrderSpec)

/-- 'entaillaw9.SeekMore', WHERE WHAT IT READS IS OF BULK AT MOST 1048576: true; the input reads as it did. -/
def seekMoreUptoRow : OpenClaim := { program := "ytnmkbmefohakmaagreat", sum := "f7476b060555ad3e7416b24587036541b2d5dca382463fd20bd874245ef2f425", func := "entail/entaillaw9.SeekMore", spec := "seekMore", inPlace := ["internal/bytealg.abigen_runtime_cmpstring"], unfollowed := true, recurses := true, plainKeys := false, apart := false, narrowed := true }
def SeekMoreUptoSaid : Prop := seekMoreUptoRow.holds Tryz.pinned (OpenSpec.upto seekMoreSpec)

/-- 'entaillaw9.SeekFixed', WHERE WHAT IT READS IS OF BULK AT MOST 1048576: true; the input reads as it did. -/
def seekFixedUptoRow : OpenClaim := { program := "ytnmkbmefohakmaagreat", sum := "f7476b060555ad3e7416b24587036541b2d5dca382463fd20bd874245ef2f425", func := "entail/entaillaw9.SeekFixed", spec := "seekFixed", inPlace := ["internal/bytealg.abigen_runtime_cmpstring"], unfollowed := true, recurses := true, plainKeys := false, apart := false, narrowed := true }
def SeekFixedUptoSaid : Prop := seekFixedUptoRow.holds Tryz.pinned (OpenSpec.upto seekFixedSpec)

/-- 'entaillaw11.FindPages', WHERE WHAT IT READS IS OF BULK AT MOST 1048576: true; the input reads as it did. -/
def findPagesUptoRow : OpenClaim := { program := "ytnmkbmefohakmaagreat", sum := "f7476b060555ad3e7416b24587036541b2d5dca382463fd20bd874245ef2f425", func := "entail/entaillaw11.FindPages", spec := "findPages", inPlace := ["internal/bytealg.abigen_runtime_cmpstring"], unfollowed := true, recurses := true, plainKeys := false, apart := false, narrowed := true }
def FindPagesUptoSaid : Prop := findPagesUptoRow.holds Tryz.pinned (OpenSpec.upto findPagesSpec)

/-- 'entaillaw11.FindJust', WHERE WHAT IT READS IS OF BULK AT MOST 1048576: true; the input reads as it did. -/
def findJustUptoRow : OpenClaim := { program := "ytnmkbmefohakmaagreat", sum := "f7476b060555ad3e7416b24587036541b2d5dca382463fd20bd874245ef2f425", func := "entail/entaillaw11.FindJust", spec := "findJust", inPlace := ["internal/bytealg.abigen_runtime_cmpstring"], unfollowed := true, recurses := true, plainKeys := false, apart := false, narrowed := true }
def FindJustUptoSaid : Prop := findJustUptoRow.holds Tryz.pinned (OpenSpec.upto findJustSpec)

end Rows
end Go.Proofs.YtnmkbmefohakmaaGreat

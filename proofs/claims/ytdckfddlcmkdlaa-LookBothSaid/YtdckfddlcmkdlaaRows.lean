/-
  No cell of these rows narrows 'for every input' (looked for: loops, veiled, ifaces, maps, wideKeys, modest, calm, conditions, laid).
  DERIVED. THE GIVEN ROWS OF THIS SEAT. 11 by the template 'for every input the law returns true; each argument reads behind the call as it read before'; 0 by the template 'total and deterministic' (their statements: YtdckfddlcmkdlaaTotals.lean).
  GIVEN WITH THE SEED: the statements are not yours to turn. If you find one false, say at which input.
  Laid BY PROGRAM, IN A SANDBOX (cutbox-rows.mjs): the forced cells as the released guide's own fill.sh prints them over the translation 9ae1830f6c81ce28… (all of the seat's roots in one cut). By AI agents, Wed Nov 11 2026. No macro, syntax, notation, axiom, sorry.
-/
import Derived.Test.YtdckfddlcmkdlaaChecked
import GoSem.Claim
import GoSem.ClaimJoined
import GoSem.ClaimMapViews
import Derived.JoinedTies
import Derived.KernelRfl
namespace Go.Proofs.Ytdckfddlcmkdlaa
/- THE CELL 'sum', in the pinned program and in every row, IS THE sha256 OF THE DUMP (.gsa) THAT YtdckfddlcmkdlaaProg.lean LOADS. Nothing in Lean hashes anything: it is a label: what it is worth is what the hold of that sum in a sandbox is worth. -/
noncomputable def Try.pinned : Pinned := { name := "ytdckfddlcmkdlaa", sum := "9ae1830f6c81ce28643d5e732df427de69b87297b599e95e2dc789a817c798ee", checked := Try.checked }
namespace Rows
def none {H : Type} : Left H := { results := [], args := [] }

/-- 'entaillaw3.RowsSum': WHATEVER THE INPUT: true; the input reads as it did. -/
def rowsSumSpec : ChangeSpec := { name := "rowsSum", fn := fun _ => fun
  | [d1, d2] => { results := [.lit (.bool true)], args := [d1, d2] }
  | _ => none }
def rowsSumRow : OpenClaim := { program := "ytdckfddlcmkdlaa", sum := "9ae1830f6c81ce28643d5e732df427de69b87297b599e95e2dc789a817c798ee", func := "entail/entaillaw3.RowsSum", spec := "rowsSum", inPlace := ["internal/bytealg.abigen_runtime_cmpstring"], unfollowed := true, recurses := true, plainKeys := false, apart := false }
def RowsSumSaid : Prop := rowsSumRow.holds Try.pinned (OpenSpec.ofChange rowsSumSpec)

/-- ITS FALSE NEIGHBOUR: 'it returns false'. Refute it at one input. -/
def rowsSumWrong : ChangeSpec := { name := "rowsSum", fn := fun _ => fun
  | [d1, d2] => { results := [.lit (.bool false)], args := [d1, d2] }
  | _ => none }
def RowsSumWrongFalsely : Prop := rowsSumRow.holds Try.pinned (OpenSpec.ofChange rowsSumWrong)

/-- 'entaillaw3.RowsTells': WHATEVER THE INPUT: true; the input reads as it did. -/
def rowsTellsSpec : ChangeSpec := { name := "rowsTells", fn := fun _ => fun
  | [d1, d2, d3, d4] => { results := [.lit (.bool true)], args := [d1, d2, d3, d4] }
  | _ => none }
def rowsTellsRow : OpenClaim := { program := "ytdckfddlcmkdlaa", sum := "9ae1830f6c81ce28643d5e732df427de69b87297b599e95e2dc789a817c798ee", func := "entail/entaillaw3.RowsTells", spec := "rowsTells", inPlace := ["internal/bytealg.abigen_runtime_cmpstring"], unfollowed := true, recurses := true, plainKeys := false, apart := false }
def RowsTellsSaid : Prop := rowsTellsRow.holds Try.pinned (OpenSpec.ofChange rowsTellsSpec)

/-- ITS FALSE NEIGHBOUR: 'it returns false'. Refute it at one input. -/
def rowsTellsWrong : ChangeSpec := { name := "rowsTells", fn := fun _ => fun
  | [d1, d2, d3, d4] => { results := [.lit (.bool false)], args := [d1, d2, d3, d4] }
  | _ => none }
def RowsTellsWrongFalsely : Prop := rowsTellsRow.holds Try.pinned (OpenSpec.ofChange rowsTellsWrong)

/-- 'entaillaw3.RowsDiff': WHATEVER THE INPUT: true; the input reads as it did. -/
def rowsDiffSpec : ChangeSpec := { name := "rowsDiff", fn := fun _ => fun
  | [d1, d2] => { results := [.lit (.bool true)], args := [d1, d2] }
  | _ => none }
def rowsDiffRow : OpenClaim := { program := "ytdckfddlcmkdlaa", sum := "9ae1830f6c81ce28643d5e732df427de69b87297b599e95e2dc789a817c798ee", func := "entail/entaillaw3.RowsDiff", spec := "rowsDiff", inPlace := ["internal/bytealg.abigen_runtime_cmpstring"], unfollowed := true, recurses := true, plainKeys := false, apart := false }
def RowsDiffSaid : Prop := rowsDiffRow.holds Try.pinned (OpenSpec.ofChange rowsDiffSpec)

/-- ITS FALSE NEIGHBOUR: 'it returns false'. Refute it at one input. -/
def rowsDiffWrong : ChangeSpec := { name := "rowsDiff", fn := fun _ => fun
  | [d1, d2] => { results := [.lit (.bool false)], args := [d1, d2] }
  | _ => none }
def RowsDiffWrongFalsely : Prop := rowsDiffRow.holds Try.pinned (OpenSpec.ofChange rowsDiffWrong)

/-- 'entaillaw3.RowsLaws': WHATEVER THE INPUT: true; the input reads as it did. -/
def rowsLawsSpec : ChangeSpec := { name := "rowsLaws", fn := fun _ => fun
  | [d1, d2, d3, d4] => { results := [.lit (.bool true)], args := [d1, d2, d3, d4] }
  | _ => none }
def rowsLawsRow : OpenClaim := { program := "ytdckfddlcmkdlaa", sum := "9ae1830f6c81ce28643d5e732df427de69b87297b599e95e2dc789a817c798ee", func := "entail/entaillaw3.RowsLaws", spec := "rowsLaws", inPlace := ["internal/bytealg.abigen_runtime_cmpstring"], unfollowed := true, recurses := true, plainKeys := false, apart := false }
def RowsLawsSaid : Prop := rowsLawsRow.holds Try.pinned (OpenSpec.ofChange rowsLawsSpec)

/-- ITS FALSE NEIGHBOUR: 'it returns false'. Refute it at one input. -/
def rowsLawsWrong : ChangeSpec := { name := "rowsLaws", fn := fun _ => fun
  | [d1, d2, d3, d4] => { results := [.lit (.bool false)], args := [d1, d2, d3, d4] }
  | _ => none }
def RowsLawsWrongFalsely : Prop := rowsLawsRow.holds Try.pinned (OpenSpec.ofChange rowsLawsWrong)

/-- 'entaillaw4.StorPast': WHATEVER THE INPUT: true; the input reads as it did. -/
def storPastSpec : ChangeSpec := { name := "storPast", fn := fun _ => fun
  | [d] => { results := [.lit (.bool true)], args := [d] }
  | _ => none }
def storPastRow : OpenClaim := { program := "ytdckfddlcmkdlaa", sum := "9ae1830f6c81ce28643d5e732df427de69b87297b599e95e2dc789a817c798ee", func := "entail/entaillaw4.StorPast", spec := "storPast", inPlace := ["internal/bytealg.abigen_runtime_cmpstring"], unfollowed := true, recurses := true, plainKeys := false, apart := false }
def StorPastSaid : Prop := storPastRow.holds Try.pinned (OpenSpec.ofChange storPastSpec)

/-- ITS FALSE NEIGHBOUR: 'it returns false'. Refute it at one input. -/
def storPastWrong : ChangeSpec := { name := "storPast", fn := fun _ => fun
  | [d] => { results := [.lit (.bool false)], args := [d] }
  | _ => none }
def StorPastWrongFalsely : Prop := storPastRow.holds Try.pinned (OpenSpec.ofChange storPastWrong)

/-- 'entaillaw4.StorPlays': WHATEVER THE INPUT: true; the input reads as it did. -/
def storPlaysSpec : ChangeSpec := { name := "storPlays", fn := fun _ => fun
  | [d1, d2, d3, d4] => { results := [.lit (.bool true)], args := [d1, d2, d3, d4] }
  | _ => none }
def storPlaysRow : OpenClaim := { program := "ytdckfddlcmkdlaa", sum := "9ae1830f6c81ce28643d5e732df427de69b87297b599e95e2dc789a817c798ee", func := "entail/entaillaw4.StorPlays", spec := "storPlays", inPlace := ["internal/bytealg.abigen_runtime_cmpstring"], unfollowed := true, recurses := true, plainKeys := false, apart := false }
def StorPlaysSaid : Prop := storPlaysRow.holds Try.pinned (OpenSpec.ofChange storPlaysSpec)

/-- ITS FALSE NEIGHBOUR: 'it returns false'. Refute it at one input. -/
def storPlaysWrong : ChangeSpec := { name := "storPlays", fn := fun _ => fun
  | [d1, d2, d3, d4] => { results := [.lit (.bool false)], args := [d1, d2, d3, d4] }
  | _ => none }
def StorPlaysWrongFalsely : Prop := storPlaysRow.holds Try.pinned (OpenSpec.ofChange storPlaysWrong)

/-- 'entaillaw4.StorWhole': WHATEVER THE INPUT: true; the input reads as it did. -/
def storWholeSpec : ChangeSpec := { name := "storWhole", fn := fun _ => fun
  | [d1, d2, d3] => { results := [.lit (.bool true)], args := [d1, d2, d3] }
  | _ => none }
def storWholeRow : OpenClaim := { program := "ytdckfddlcmkdlaa", sum := "9ae1830f6c81ce28643d5e732df427de69b87297b599e95e2dc789a817c798ee", func := "entail/entaillaw4.StorWhole", spec := "storWhole", inPlace := ["internal/bytealg.abigen_runtime_cmpstring"], unfollowed := true, recurses := true, plainKeys := false, apart := false }
def StorWholeSaid : Prop := storWholeRow.holds Try.pinned (OpenSpec.ofChange storWholeSpec)

/-- ITS FALSE NEIGHBOUR: 'it returns false'. Refute it at one input. -/
def storWholeWrong : ChangeSpec := { name := "storWhole", fn := fun _ => fun
  | [d1, d2, d3] => { results := [.lit (.bool false)], args := [d1, d2, d3] }
  | _ => none }
def StorWholeWrongFalsely : Prop := storWholeRow.holds Try.pinned (OpenSpec.ofChange storWholeWrong)

/-- 'entaillaw4.StorErrors': WHATEVER THE INPUT: true; the input reads as it did. -/
def storErrorsSpec : ChangeSpec := { name := "storErrors", fn := fun _ => fun
  | [d] => { results := [.lit (.bool true)], args := [d] }
  | _ => none }
def storErrorsRow : OpenClaim := { program := "ytdckfddlcmkdlaa", sum := "9ae1830f6c81ce28643d5e732df427de69b87297b599e95e2dc789a817c798ee", func := "entail/entaillaw4.StorErrors", spec := "storErrors", inPlace := ["internal/bytealg.abigen_runtime_cmpstring"], unfollowed := true, recurses := true, plainKeys := false, apart := false }
def StorErrorsSaid : Prop := storErrorsRow.holds Try.pinned (OpenSpec.ofChange storErrorsSpec)

/-- ITS FALSE NEIGHBOUR: 'it returns false'. Refute it at one input. -/
def storErrorsWrong : ChangeSpec := { name := "storErrors", fn := fun _ => fun
  | [d] => { results := [.lit (.bool false)], args := [d] }
  | _ => none }
def StorErrorsWrongFalsely : Prop := storErrorsRow.holds Try.pinned (OpenSpec.ofChange storErrorsWrong)

/-- 'entaillaw5.LookParts': WHATEVER THE INPUT: true; the input reads as it did. -/
def lookPartsSpec : ChangeSpec := { name := "lookParts", fn := fun _ => fun
  | [d1, d2, d3] => { results := [.lit (.bool true)], args := [d1, d2, d3] }
  | _ => none }
def lookPartsRow : OpenClaim := { program := "ytdckfddlcmkdlaa", sum := "9ae1830f6c81ce28643d5e732df427de69b87297b599e95e2dc789a817c798ee", func := "entail/entaillaw5.LookParts", spec := "lookParts", inPlace := ["internal/bytealg.abigen_runtime_cmpstring"], unfollowed := true, recurses := true, plainKeys := false, apart := false }
def LookPartsSaid : Prop := lookPartsRow.holds Try.pinned (OpenSpec.ofChange lookPartsSpec)

/-- ITS FALSE NEIGHBOUR: 'it returns false'. Refute it at one input. -/
def lookPartsWrong : ChangeSpec := { name := "lookParts", fn := fun _ => fun
  | [d1, d2, d3] => { results := [.lit (.bool false)], args := [d1, d2, d3] }
  | _ => none }
def LookPartsWrongFalsely : Prop := lookPartsRow.holds Try.pinned (OpenSpec.ofChange lookPartsWrong)

/-- 'entaillaw5.LookTells': WHATEVER THE INPUT: true; the input reads as it did. -/
def lookTellsSpec : ChangeSpec := { name := "lookTells", fn := fun _ => fun
  | [d1, d2, d3, d4] => { results := [.lit (.bool true)], args := [d1, d2, d3, d4] }
  | _ => none }
def lookTellsRow : OpenClaim := { program := "ytdckfddlcmkdlaa", sum := "9ae1830f6c81ce28643d5e732df427de69b87297b599e95e2dc789a817c798ee", func := "entail/entaillaw5.LookTells", spec := "lookTells", inPlace := ["internal/bytealg.abigen_runtime_cmpstring"], unfollowed := true, recurses := true, plainKeys := false, apart := false }
def LookTellsSaid : Prop := lookTellsRow.holds Try.pinned (OpenSpec.ofChange lookTellsSpec)

/-- ITS FALSE NEIGHBOUR: 'it returns false'. Refute it at one input. -/
def lookTellsWrong : ChangeSpec := { name := "lookTells", fn := fun _ => fun
  | [d1, d2, d3, d4] => { results := [.lit (.bool false)], args := [d1, d2, d3, d4] }
  | _ => none }
def LookTellsWrongFalsely : Prop := lookTellsRow.holds Try.pinned (OpenSpec.ofChange lookTellsWrong)

/-- 'entaillaw5.LookBoth': WHATEVER THE INPUT: true; the input reads as it did. -/
def lookBothSpec : ChangeSpec := { name := "lookBoth", fn := fun _ => fun
  | [d1, d2] => { results := [.lit (.bool true)], args := [d1, d2] }
  | _ => none }
def lookBothRow : OpenClaim := { program := "ytdckfddlcmkdlaa", sum := "9ae1830f6c81ce28643d5e732df427de69b87297b599e95e2dc789a817c798ee", func := "entail/entaillaw5.LookBoth", spec := "lookBoth", inPlace := ["internal/bytealg.abigen_runtime_cmpstring"], unfollowed := true, recurses := true, plainKeys := false, apart := false }
def LookBothSaid : Prop := lookBothRow.holds Try.pinned (OpenSpec.ofChange lookBothSpec)

/-- ITS FALSE NEIGHBOUR: 'it returns false'. Refute it at one input. -/
def lookBothWrong : ChangeSpec := { name := "lookBoth", fn := fun _ => fun
  | [d1, d2] => { results := [.lit (.bool false)], args := [d1, d2] }
  | _ => none }
def LookBothWrongFalsely : Prop := lookBothRow.holds Try.pinned (OpenSpec.ofChange lookBothWrong)

/- THE SECOND FORM. 'bulk': how many values and letters a reading holds, each counted each time it is reached (what is shared counts as often as it is met; a slice's spare places count too). A statement '..UptoSaid' is the law's where the arguments, and the package variables that the reading takes, are together of bulk at most 1048576: NARROWER than '..Said'. Prove '..Said' where nothing that the law and all that it calls make is longer than what came in: it says more and counts as full. Else prove '..UptoSaid'. A law counts once. -/
mutual
def uptoBulk {H : Type} : DataW H → Nat
  | .lit (.string bytes) => bytes.length + 1
  | .lit _ => 1
  | .nil => 1
  | .ptr d => uptoBulk d + 1
  | .slice elems spare => uptoBulkAll elems + uptoBulkAll spare + 1
  | .agg parts => uptoBulkAll parts + 1
  | .iface _ d => uptoBulk d + 1
  | .map entries => uptoBulkEntries entries + 1
  | .held _ => 1
def uptoBulkAll {H : Type} : List (DataW H) → Nat
  | [] => 0
  | d :: r => uptoBulk d + uptoBulkAll r
def uptoBulkEntries {H : Type} : List (Lit × DataW H) → Nat
  | [] => 0
  | x :: r => uptoBulkEntry x + uptoBulkEntries r
def uptoBulkEntry {H : Type} : Lit × DataW H → Nat
  | (.string bytes, d) => bytes.length + uptoBulk d + 1
  | (_, d) => uptoBulk d + 1
 end
def uptoSmall : (H : Type) → List (DataW H) → Bool := fun _ ds => decide (uptoBulkAll ds ≤ 1048576)
def OpenSpec.upto (s : _root_.Go.ChangeSpec) : _root_.Go.OpenSpec := { _root_.Go.OpenSpec.ofChange s with cond := some uptoSmall }

/-- 'entaillaw3.RowsSum', WHERE WHAT IT READS IS OF BULK AT MOST 1048576: true; the input reads as it did. -/
def rowsSumUptoRow : OpenClaim := { program := "ytdckfddlcmkdlaa", sum := "9ae1830f6c81ce28643d5e732df427de69b87297b599e95e2dc789a817c798ee", func := "entail/entaillaw3.RowsSum", spec := "rowsSum", inPlace := ["internal/bytealg.abigen_runtime_cmpstring"], unfollowed := true, recurses := true, plainKeys := false, apart := false, narrowed := true }
def RowsSumUptoSaid : Prop := rowsSumUptoRow.holds Try.pinned (OpenSpec.upto rowsSumSpec)

/-- 'entaillaw3.RowsTells', WHERE WHAT IT READS IS OF BULK AT MOST 1048576: true; the input reads as it did. -/
def rowsTellsUptoRow : OpenClaim := { program := "ytdckfddlcmkdlaa", sum := "9ae1830f6c81ce28643d5e732df427de69b87297b599e95e2dc789a817c798ee", func := "entail/entaillaw3.RowsTells", spec := "rowsTells", inPlace := ["internal/bytealg.abigen_runtime_cmpstring"], unfollowed := true, recurses := true, plainKeys := false, apart := false, narrowed := true }
def RowsTellsUptoSaid : Prop := rowsTellsUptoRow.holds Try.pinned (OpenSpec.upto rowsTellsSpec)

/-- 'entaillaw3.RowsDiff', WHERE WHAT IT READS IS OF BULK AT MOST 1048576: true; the input reads as it did. -/
def rowsDiffUptoRow : OpenClaim := { program := "ytdckfddlcmkdlaa", sum := "9ae1830f6c81ce28643d5e732df427de69b87297b599e95e2dc789a817c798ee", func := "entail/entaillaw3.RowsDiff", spec := "rowsDiff", inPlace := ["internal/bytealg.abigen_runtime_cmpstring"], unfollowed := true, recurses := true, plainKeys := false, apart := false, narrowed := true }
def RowsDiffUptoSaid : Prop := rowsDiffUptoRow.holds Try.pinned (OpenSpec.upto rowsDiffSpec)

/-- 'entaillaw3.RowsLaws', WHERE WHAT IT READS IS OF BULK AT MOST 1048576: true; the input reads as it did. -/
def rowsLawsUptoRow : OpenClaim := { program := "ytdckfddlcmkdlaa", sum := "9ae1830f6c81ce28643d5e732df427de69b87297b599e95e2dc789a817c798ee", func := "entail/entaillaw3.RowsLaws", spec := "rowsLaws", inPlace := ["internal/bytealg.abigen_runtime_cmpstring"], unfollowed := true, recurses := true, plainKeys := false, apart := false, narrowed := true }
def RowsLawsUptoSaid : Prop := rowsLawsUptoRow.holds Try.pinned (OpenSpec.upto rowsLawsSpec)

/-- 'entaillaw4.StorPast', WHERE WHAT IT READS IS OF BULK AT MOST 1048576: true; the input reads as it did. -/
def storPastUptoRow : OpenClaim := { program := "ytdckfddlcmkdlaa", sum := "9ae1830f6c81ce28643d5e732df427de69b87297b599e95e2dc789a817c798ee", func := "entail/entaillaw4.StorPast", spec := "storPast", inPlace := ["internal/bytealg.abigen_runtime_cmpstring"], unfollowed := true, recurses := true, plainKeys := false, apart := false, narrowed := true }
def StorPastUptoSaid : Prop := storPastUptoRow.holds Try.pinned (OpenSpec.upto storPastSpec)

/-- 'entaillaw4.StorPlays', WHERE WHAT IT READS IS OF BULK AT MOST 1048576: true; the input reads as it did. -/
def storPlaysUptoRow : OpenClaim := { program := "ytdckfddlcmkdlaa", sum := "9ae1830f6c81ce28643d5e732df427de69b87297b599e95e2dc789a817c798ee", func := "entail/entaillaw4.StorPlays", spec := "storPlays", inPlace := ["internal/bytealg.abigen_runtime_cmpstring"], unfollowed := true, recurses := true, plainKeys := false, apart := false, narrowed := true }
def StorPlaysUptoSaid : Prop := storPlaysUptoRow.holds Try.pinned (OpenSpec.upto storPlaysSpec)

/-- 'entaillaw4.StorWhole', WHERE WHAT IT READS IS OF BULK AT MOST 1048576: true; the input reads as it did. -/
def storWholeUptoRow : OpenClaim := { program := "ytdckfddlcmkdlaa", sum := "9ae1830f6c81ce28643d5e732df427de69b87297b599e95e2dc789a817c798ee", func := "entail/entaillaw4.StorWhole", spec := "storWhole", inPlace := ["internal/bytealg.abigen_runtime_cmpstring"], unfollowed := true, recurses := true, plainKeys := false, apart := false, narrowed := true }
def StorWholeUptoSaid : Prop := storWholeUptoRow.holds Try.pinned (OpenSpec.upto storWholeSpec)

/-- 'entaillaw4.StorErrors', WHERE WHAT IT READS IS OF BULK AT MOST 1048576: true; the input reads as it did. -/
def storErrorsUptoRow : OpenClaim := { program := "ytdckfddlcmkdlaa", sum := "9ae1830f6c81ce28643d5e732df427de69b87297b599e95e2dc789a817c798ee", func := "entail/entaillaw4.StorErrors", spec := "storErrors", inPlace := ["internal/bytealg.abigen_runtime_cmpstring"], unfollowed := true, recurses := true, plainKeys := false, apart := false, narrowed := true }
def StorErrorsUptoSaid : Prop := storErrorsUptoRow.holds Try.pinned (OpenSpec.upto storErrorsSpec)

/-- 'entaillaw5.LookParts', WHERE WHAT IT READS IS OF BULK AT MOST 1048576: true; the input reads as it did. -/
def lookPartsUptoRow : OpenClaim := { program := "ytdckfddlcmkdlaa", sum := "9ae1830f6c81ce28643d5e732df427de69b87297b599e95e2dc789a817c798ee", func := "entail/entaillaw5.LookParts", spec := "lookParts", inPlace := ["internal/bytealg.abigen_runtime_cmpstring"], unfollowed := true, recurses := true, plainKeys := false, apart := false, narrowed := true }
def LookPartsUptoSaid : Prop := lookPartsUptoRow.holds Try.pinned (OpenSpec.upto lookPartsSpec)

/-- 'entaillaw5.LookTells', WHERE WHAT IT READS IS OF BULK AT MOST 1048576: true; the input reads as it did. -/
def lookTellsUptoRow : OpenClaim := { program := "ytdckfddlcmkdlaa", sum := "9ae1830f6c81ce28643d5e732df427de69b87297b599e95e2dc789a817c798ee", func := "entail/entaillaw5.LookTells", spec := "lookTells", inPlace := ["internal/bytealg.abigen_runtime_cmpstring"], unfollowed := true, recurses := true, plainKeys := false, apart := false, narrowed := true }
def LookTellsUptoSaid : Prop := lookTellsUptoRow.holds Try.pinned (OpenSpec.upto lookTellsSpec)

/-- 'entaillaw5.LookBoth', WHERE WHAT IT READS IS OF BULK AT MOST 1048576: true; the input reads as it did. -/
def lookBothUptoRow : OpenClaim := { program := "ytdckfddlcmkdlaa", sum := "9ae1830f6c81ce28643d5e732df427de69b87297b599e95e2dc789a817c798ee", func := "entail/entaillaw5.LookBoth", spec := "lookBoth", inPlace := ["internal/bytealg.abigen_runtime_cmpstring"], unfollowed := true, recurses := true, plainKeys := false, apart := false, narrowed := true }
def LookBothUptoSaid : Prop := lookBothUptoRow.holds Try.pinned (OpenSpec.upto lookBothSpec)

end Rows
end Go.Proofs.Ytdckfddlcmkdlaa

/-
  strings.Join: the library's own contract, in the machine's words.
-/
import Derived.Test.YtjfpmgdbkhooeaaDoorLsa
import Derived.Test.YtjfpmgdbkhooeaaDoorAbV
import Derived.Shelf.Strings.OnBuilder
namespace Go.Proofs
open Go.Shelf Go.RowKit
def Tryd.laysJoin_ren : Go.Shelf.Ren := ⟨fun | 156 => 24 | 165 => 33 | 166 => 34 | 169 => 35 | 240 => 42 | 241 => 43 | 276 => 54 | 277 => 55 | n => n, fun | 31 => 30 | 9 => 9 | 3 => 3 | 4 => 4 | 0 => 0 | 20 => 20 | 72 => 65 | 76 => 69 | 70 => 63 | 37 => 50 | 75 => 68 | 127 => 75 | 164 => 83 | 5 => 5 | 80 => 27 | n => n, fun | n => n⟩
theorem Tryd.laysJoin : Go.Proofs.Lays.n156 Tryd.prog Tryd.laysJoin_ren := {
  mixed := by kernel_rfl
  f156 := Tryd.func24.trans (congrArg some (by kernel_rfl))
  f165 := Tryd.func33.trans (congrArg some (by kernel_rfl))
  f166 := Tryd.func34.trans (congrArg some (by kernel_rfl))
  f169 := Tryd.func35.trans (congrArg some (by kernel_rfl))
  f240 := Tryd.func42.trans (congrArg some (by kernel_rfl))
  f241 := Tryd.func43.trans (congrArg some (by kernel_rfl))
  f276 := Tryd.func54.trans (congrArg some (by kernel_rfl))
  f277 := Tryd.func55.trans (congrArg some (by kernel_rfl))
  t0 := Tryd.underlying0
  a0 := Tryd.isAgg0
  z0 := Tryd.sizeOf0
  v0 := Tryd.zeroValue0
  t3 := Tryd.underlying3
  a3 := Tryd.isAgg3
  z3 := Tryd.sizeOf3
  v3 := Tryd.zeroValue3
  t4 := Tryd.underlying4
  a4 := Tryd.isAgg4
  z4 := Tryd.sizeOf4
  v4 := Tryd.zeroValue4
  t9 := Tryd.underlying9
  a9 := Tryd.isAgg9
  z9 := Tryd.sizeOf9
  v9 := Tryd.zeroValue9
  t20 := Tryd.underlying20
  a20 := Tryd.isAgg20
  z20 := Tryd.sizeOf20
  v20 := Tryd.zeroValue20
  t31 := Tryd.underlying30
  a31 := Tryd.isAgg30
  z31 := Tryd.sizeOf30
  v31 := Tryd.zeroValue30
  t37 := Tryd.underlying50
  a37 := Tryd.isAgg50
  z37 := Tryd.sizeOf50
  v37 := Tryd.zeroValue50
  t70 := Tryd.underlying63
  a70 := Tryd.isAgg63
  z70 := Tryd.sizeOf63
  v70 := Tryd.zeroValue63
  t72 := Tryd.underlying65
  a72 := Tryd.isAgg65
  z72 := Tryd.sizeOf65
  v72 := Tryd.zeroValue65
  t75 := Tryd.underlying68
  a75 := Tryd.isAgg68
  z75 := Tryd.sizeOf68
  v75 := Tryd.zeroValue68
  t76 := Tryd.underlying69
  a76 := Tryd.isAgg69
  z76 := Tryd.sizeOf69
  v76 := Tryd.zeroValue69
  t127 := Tryd.underlying75
  a127 := Tryd.isAgg75
  z127 := Tryd.sizeOf75
  v127 := Tryd.zeroValue75
  t164 := Tryd.underlying83
  a164 := Tryd.isAgg83
  z164 := Tryd.sizeOf83
  v164 := Tryd.zeroValue83 }
theorem Tryd.joinExtra : Builder.Extra Tryd.prog Tryd.laysJoin_ren where
  sizeBuilder := by kernel_rfl
  liesBuilder := by kernel_rfl
  t5 := Tryd.underlying5
  a5 := Tryd.isAgg5
  z5 := Tryd.sizeOf5
  v5 := Tryd.zeroValue5
  infoByte := by kernel_rfl
  cellsByte := by kernel_rfl
  sizeByte := by kernel_rfl
  neB5 := by decide
end Go.Proofs
namespace Go.Proofs.YtjfpmgdbkhooeaaDoor.Ab
open Go.Shelf Go.RowKit
/-- Texts with one between. -/
def joinT (xs : List ByteArray) (sep : ByteArray) : ByteArray := ⟨(Lib.join (xs.map (·.data.toList)) sep.data.toList).toArray⟩
theorem join_pure (xs : List ByteArray) (sep : ByteArray) (h1 : xs.length ≤ 140737488355328) (h2 : (Lib.join (xs.map (·.data.toList)) sep.data.toList).length ≤ 140737488355328) : PureOK Tryd.prog 24 [.sl (xs.map fun s => [.v (.string s)]), .v (.string sep)] (.v (.string (joinT xs sep))) true := by
  refine ⟨⟨_, Tryd.func24, by kernel_rfl, by kernel_rfl⟩, fun w M0 args hM hsz hargs => ?_⟩
  obtain ⟨u0, a0, b0⟩ := hargs 0 _ rfl
  obtain ⟨u1, a1, b1⟩ := hargs 1 _ rfl
  have hu1 : u1 = .string sep := by
    cases (show RC w _ (.v (.string sep)) u1 from b1)
    rfl
  subst hu1
  have hargs2 : args = #[u0, .string sep] := by
    have hsz2 : args.size = 2 := by simpa using hsz
    apply Array.ext
    · simpa using hsz2
    · intro j h1 h2
      have hj : j = 0 ∨ j = 1 := by omega
      rcases hj with rfl | rfl
      · simpa [h1] using a0
      · simpa [h1] using a1
  subst hargs2
  have key : Calls Tryd.prog 24 #[u0, .string sep] w fun e w' => e = .returned (.string (joinT xs sep)) ∧ Below w.heap.size w w' := by
    generalize hes : (xs.map fun s => [D.v (.string s)]) = es at b0
    cases (show RC w _ (.sl es) u0 from b0) with
    | nl a k =>
      have hx : xs = [] := by
        cases xs with
        | nil => rfl
        | cons x r => cases hes
      subst hx
      exact (Any.strings_Join_none Tryd.laysJoin Tryd.joinExtra a k sep w).mono fun e w' ⟨h1, h2⟩ => ⟨h1, h2 ▸ Below.refl _ _⟩
    | sl _ b o c sz us hI hc hz hm hd =>
      subst hes
      have hsz1 : ∀ j x, xs[j]? = some x → sz = 1 := fun j x hx => (hz j [D.v (.string x)] (by rw [List.getElem?_map, hx]; rfl)).symm
      rw [List.length_map] at hc ⊢
      refine Any.strings_Join Tryd.laysJoin Tryd.joinExtra b o c xs sep w (fun j x hx => ?_) hI.1 h1 hc h2
      have hcs : (xs.map fun s => [D.v (.string s)])[j]? = some [.v (.string x)] := by rw [List.getElem?_map, hx]; rfl
      have e1 := hm j 0 _ _ hcs rfl
      have e2 := hd j 0 _ _ hcs rfl
      rw [hsz1 j x hx, Nat.mul_one, Nat.add_zero] at e1
      rw [e1]
      generalize us j 0 = u at e2
      cases e2
      rfl
  refine (calls_dr key fun e w' h => ⟨_, h.1⟩).mono ?_
  rintro e w' ⟨⟨rfl, h2⟩, h3⟩
  exact ⟨_, rfl, ⟨h2, h3⟩, .v _ rfl⟩
def strings_Join (_n : Nat) (xs : List ByteArray) (sep : ByteArray) : Option ByteArray := if xs.length ≤ 140737488355328 ∧ (Lib.join (xs.map (·.data.toList)) sep.data.toList).length ≤ 140737488355328 then some (joinT xs sep) else none
theorem strings_Join_ok {n : Nat} {xs : List ByteArray} {sep r : ByteArray} (h : strings_Join n xs sep = some r) : PureOK Tryd.prog 24 [D.sl (List.map eS xs), D.v (.string sep)] (D.v (.string r)) true := by
  unfold strings_Join at h
  split at h
  · rename_i hc
    cases h
    exact join_pure xs sep hc.1 hc.2
  · cases h
end Go.Proofs.YtjfpmgdbkhooeaaDoor.Ab

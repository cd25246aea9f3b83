/-
  look.once: what is told, each once and in order: by the library's own contracts of Clone, Sort and Compact.
-/
import Derived.Test.YtedgdpncienjiaaTab
import Derived.Test.YtedgdpncienjiaaAbU
import Derived.WalkKit
import Derived.Deep.LoopGhost
import Derived.Ground.NamesProg
import Derived.Ground.Names2Prog
import Derived.Shelf.Slices.In.CompactS
import Derived.Shelf.Slices.In.SortNone
import Derived.Sort.EveryDepth
namespace Go.Proofs
open Go.Shelf Go.RowKit Go.Sort
def Try.laysSort_ren : Go.Shelf.Ren := ⟨fun | 190 => 29 | 125 => 32 | 258 => 36 | 128 => 45 | 129 => 46 | 302 => 48 | 303 => 49 | 304 => 50 | 305 => 51 | 306 => 52 | 307 => 53 | 308 => 54 | 309 => 55 | 310 => 56 | 333 => 63 | 329 => 58 | 330 => 59 | 334 => 64 | 335 => 65 | 336 => 66 | 344 => 68 | n => n, fun | 31 => 35 | 9 => 9 | 3 => 3 | 46 => 55 | 0 => 0 | 51 => 86 | 53 => 88 | 4 => 4 | 183 => 79 | 182 => 78 | 131 => 83 | 5 => 5 | 218 => 96 | 222 => 100 | 228 => 105 | 229 => 106 | n => n, fun | n => n⟩
theorem Try.laysSort : Go.Proofs.Lays.n190 Try.prog Try.laysSort_ren := {
  mixed := by kernel_rfl
  f125 := Try.func32.trans (congrArg some (by kernel_rfl))
  f128 := Try.func45.trans (congrArg some (by kernel_rfl))
  f129 := Try.func46.trans (congrArg some (by kernel_rfl))
  f190 := Try.func29.trans (congrArg some (by kernel_rfl))
  f258 := Try.func36.trans (congrArg some (by kernel_rfl))
  f302 := Try.func48.trans (congrArg some (by kernel_rfl))
  f303 := Try.func49.trans (congrArg some (by kernel_rfl))
  f304 := Try.func50.trans (congrArg some (by kernel_rfl))
  f305 := Try.func51.trans (congrArg some (by kernel_rfl))
  f306 := Try.func52.trans (congrArg some (by kernel_rfl))
  f307 := Try.func53.trans (congrArg some (by kernel_rfl))
  f308 := Try.func54.trans (congrArg some (by kernel_rfl))
  f309 := Try.func55.trans (congrArg some (by kernel_rfl))
  f310 := Try.func56.trans (congrArg some (by kernel_rfl))
  f329 := Try.func58.trans (congrArg some (by kernel_rfl))
  f330 := Try.func59.trans (congrArg some (by kernel_rfl))
  f333 := Try.func63.trans (congrArg some (by kernel_rfl))
  f334 := Try.func64.trans (congrArg some (by kernel_rfl))
  f335 := Try.func65.trans (congrArg some (by kernel_rfl))
  f336 := Try.func66.trans (congrArg some (by kernel_rfl))
  f344 := Try.func68.trans (congrArg some (by kernel_rfl))
  t0 := Try.underlying0
  a0 := Try.isAgg0
  z0 := Try.sizeOf0
  v0 := Try.zeroValue0
  t3 := Try.underlying3
  a3 := Try.isAgg3
  z3 := Try.sizeOf3
  v3 := Try.zeroValue3
  t4 := Try.underlying4
  a4 := Try.isAgg4
  z4 := Try.sizeOf4
  v4 := Try.zeroValue4
  t5 := Try.underlying5
  a5 := Try.isAgg5
  z5 := Try.sizeOf5
  v5 := Try.zeroValue5
  t9 := Try.underlying9
  a9 := Try.isAgg9
  z9 := Try.sizeOf9
  v9 := Try.zeroValue9
  t31 := Try.underlying35
  a31 := Try.isAgg35
  z31 := Try.sizeOf35
  v31 := Try.zeroValue35
  t46 := Try.underlying55
  a46 := Try.isAgg55
  z46 := Try.sizeOf55
  v46 := Try.zeroValue55
  t51 := Try.underlying86
  a51 := Try.isAgg86
  z51 := Try.sizeOf86
  v51 := Try.zeroValue86
  t53 := Try.underlying88
  a53 := Try.isAgg88
  z53 := Try.sizeOf88
  v53 := Try.zeroValue88
  t131 := Try.underlying83
  a131 := Try.isAgg83
  z131 := Try.sizeOf83
  v131 := Try.zeroValue83
  t182 := Try.underlying78
  a182 := Try.isAgg78
  z182 := Try.sizeOf78
  v182 := Try.zeroValue78
  t183 := Try.underlying79
  a183 := Try.isAgg79
  z183 := Try.sizeOf79
  v183 := Try.zeroValue79
  t218 := Try.underlying96
  a218 := Try.isAgg96
  z218 := Try.sizeOf96
  v218 := Try.zeroValue96
  t222 := Try.underlying100
  a222 := Try.isAgg100
  z222 := Try.sizeOf100
  v222 := Try.zeroValue100
  t228 := Try.underlying105
  a228 := Try.isAgg105
  z228 := Try.sizeOf105
  v228 := Try.zeroValue105
  t229 := Try.underlying106
  a229 := Try.isAgg106
  z229 := Try.sizeOf106
  v229 := Try.zeroValue106 }
def Try.laysCompact_ren : Go.Shelf.Ren := ⟨fun | 194 => 30 | n => n, fun | 31 => 35 | 9 => 9 | 3 => 3 | 4 => 4 | 0 => 0 | n => n, fun | n => n⟩
theorem Try.laysCompact : Go.Proofs.Lays.n194 Try.prog Try.laysCompact_ren := {
  mixed := by kernel_rfl
  f194 := Try.func30.trans (congrArg some (by kernel_rfl))
  t0 := Try.underlying0
  a0 := Try.isAgg0
  z0 := Try.sizeOf0
  v0 := Try.zeroValue0
  t3 := Try.underlying3
  a3 := Try.isAgg3
  z3 := Try.sizeOf3
  v3 := Try.zeroValue3
  t4 := Try.underlying4
  a4 := Try.isAgg4
  z4 := Try.sizeOf4
  v4 := Try.zeroValue4
  t9 := Try.underlying9
  a9 := Try.isAgg9
  z9 := Try.sizeOf9
  v9 := Try.zeroValue9
  t31 := Try.underlying35
  a31 := Try.isAgg35
  z31 := Try.sizeOf35
  v31 := Try.zeroValue35 }
end Go.Proofs
namespace Go.Proofs.Ytedgdpncienjiaa.Ab
open Go.Shelf Go.RowKit Go.Sort

theorem sort_c (blk cap : Nat) (zs : List (List UInt8)) (w : World) (hH : Holds encStr w blk 0 zs.toArray) (hblk : blk < w.heap.size) (hsz : zs.length < 4611686018427387904) :
    Calls Try.prog 29 #[.slice (some ⟨blk, 0, none⟩) zs.length cap] w fun e w' =>
      e = .returned (.tuple #[]) ∧ ∃ n os, w' = grow (putRow encStr (Sort.ahead w n) blk 0 (zs.mergeSort fun x y => decide (x ≤ y)).toArray) os :=
  calls_of_every_depth fun D => AnyS.slices_Sort_string_alone Try.laysSort D blk 0 cap zs w hH hblk hsz
theorem compact_c (blk cap : Nat) (zs : List (List UInt8)) (w : World) (hH : Holds encStr w blk 0 zs.toArray) (hsz : zs.length ≤ 9223372036854775807) (hcap : zs.length ≤ cap) :
    Calls Try.prog 30 #[.slice (some ⟨blk, 0, none⟩) zs.length cap] w fun e w' => e = .returned (.slice (some ⟨blk, 0, none⟩) (Lib.compact zs).length cap) ∧ ∃ q, w' = putRow encStr (Sort.ahead w q) blk 0 (Lib.compact zs ++ List.replicate (zs.length - (Lib.compact zs).length) []).toArray :=
  calls_of_every_depth fun D => AnyS.slices_Compact_string_in Try.laysCompact D blk 0 cap zs w hH hsz hcap
theorem enSort : Enters Try.prog 29 := ⟨_, Try.func29, by kernel_rfl, by kernel_rfl⟩
theorem enCompact : Enters Try.prog 30 := ⟨_, Try.func30, by kernel_rfl, by kernel_rfl⟩
theorem nil_arg {w : World} {I : Nat → Prop} {args : Array Value} (hs : args.size = 1) (h : ∀ (j : Nat) (x : D), [D.sl []][j]? = some x → ∃ u, args[j]? = some u ∧ RV1 w I x u) : ∃ a c, args = #[.slice a 0 c] := by
  obtain ⟨u, h1, h2⟩ := h 0 _ rfl
  have : ∃ a c, u = .slice a 0 c := by
    cases (show RC w I (.sl []) u from h2) with
    | nl a c => exact ⟨a, c, rfl⟩
    | sl _ b o c => exact ⟨_, _, rfl⟩
  obtain ⟨a, c, rfl⟩ := this
  refine ⟨a, c, ?_⟩
  apply Array.ext
  · simpa using hs
  · intro j h3 h4
    have hj : j = 0 := by omega
    subst hj
    simpa [h3] using h1
theorem sort0_ok : PureOK Try.prog 29 [.sl []] (.tu []) true := by
  refine ⟨enSort, fun w M0 args _ hs h => ?_⟩
  obtain ⟨a, c, rfl⟩ := nil_arg hs h
  refine Calls.mono (calls_of_every_depth fun D => AnyS.slices_Sort_string_none_alone Try.laysSort D a c w) ?_
  rintro e w' ⟨rfl, rfl⟩
  exact ⟨_, rfl, ⟨Below.refl _ _, Nat.le_refl _⟩, #[], rfl, rfl, fun j d e => by simp at e⟩
theorem compact0_ok : PureOK Try.prog 30 [.sl []] (.sl []) true := by
  refine ⟨enCompact, fun w M0 args _ hs h => ?_⟩
  obtain ⟨a, c, rfl⟩ := nil_arg hs h
  refine Calls.mono (calls_of_every_depth fun D => AnyS.slices_Compact_string_empty_in Try.laysCompact D a c w) ?_
  rintro e w' ⟨rfl, rfl⟩
  exact ⟨_, rfl, ⟨Below.refl _ _, Nat.le_refl _⟩, .nl a c⟩
theorem clone0_ok : PureOK Try.prog 28 [.sl []] (.sl []) true :=
  clone_nil tab_ok fol Try.func28 (T := 35) (B := 4) rfl (by kernel_rfl) (by kernel_rfl) (by decide) rfl (by simp only [go_sem]) (by simp only [go_sem]) (by simp only [go_sem]; decide) (by simp only [go_sem]; decide)
theorem eT_len (xs : List ByteArray) : (xs.map eT).length = xs.length := List.length_map _
theorem cloneT_inl (x : ByteArray) (xs : List ByteArray) (hn : xs.length < 4294967296) {b : Bool} {hp : Hp} {nx : Nat} :
    InlOK Try.prog 28 [.d (.sl ((x :: xs).map eT)) b] hp nx fun v hp2 nx2 => nx2 = nx + 7 ∧ v = .so (nx + 3) 1 0 (x :: xs).length ∧ hp2 = upd (nx + 3) (some (.rw ((x :: xs).map eT) 1 1 false false)) hp := by
  have h := clone_inl (x := eT x) (es := xs.map eT) (b := b) (hp := hp) (nx := nx) tab_ok fol Try.func28 (T := 35) (B := 4) rfl (by kernel_rfl) (by kernel_rfl) (by decide) rfl (by simp only [go_sem]) (by simp only [go_sem]) (by simp only [go_sem]; decide) (by simp only [go_sem]; decide)
    (by simp only [go_sem]; simp) (by simp; omega)
  refine h.mono ?_
  rintro v hp2 nx2 ⟨h1, h2, h3⟩
  refine ⟨h1, by simpa using h2, h3.trans ?_⟩
  have hp : plainR (xs.map eT) = true := by simp [plainR, plainC, isV]
  simp only [go_sem, hp, Bool.and_self, Bool.not_true, Bool.and_false]
/-- Each once, in order. -/
def onceT (xs : List ByteArray) : List ByteArray := cmpT (srtT xs)
theorem once_ok (xs : List ByteArray) (hn : xs.length ≤ 4294967296) : PureOK Try.prog 19 [.sl (xs.map eT)] (.sl ((onceT xs).map eT)) true := by
  refine pure_run (tab := tab) tab_ok fol Try.func19 rfl (by kernel_rfl) (by kernel_rfl) (by simp [Try.f19]) ?_
  simp -implicitDefEqProofs only [go_sem, Nat.reduceEqDiff, Nat.reduceAdd, Nat.reduceLeDiff, reduceCtorEq, ↓reduceIte]
  cases xs with
  | nil =>
    refine onCall_pure (by simp -implicitDefEqProofs only [go_sem] <;> rfl) clone0_ok (.inr rfl) ?_
    simp -implicitDefEqProofs only [go_sem, Nat.reduceEqDiff, Nat.reduceAdd, Nat.reduceLeDiff, reduceCtorEq, ↓reduceIte]
    refine onCall_pure (by simp -implicitDefEqProofs only [go_sem] <;> rfl) sort0_ok (.inr rfl) ?_
    simp -implicitDefEqProofs only [go_sem, Nat.reduceEqDiff, Nat.reduceAdd, Nat.reduceLeDiff, reduceCtorEq, ↓reduceIte]
    refine onCall_pure (by simp -implicitDefEqProofs only [go_sem] <;> rfl) compact0_ok (.inr rfl) ?_
    simp -implicitDefEqProofs only [go_sem, Nat.reduceEqDiff, Nat.reduceAdd, Nat.reduceLeDiff, reduceCtorEq, ↓reduceIte]
    exact end_pure (v := .d (.sl []) false) (b := false) (is := []) rfl rfl (by simp [onceT, cmpT, srtT, Lib.compact, Lib.compactUpTo]) fun _ => rfl
  | cons x r =>
    refine onCall_inl ((cloneT_inl x r (by simp at hn; omega)).mono ?_)
    rintro v hp2 nx2 ⟨rfl, rfl, rfl⟩
    simp -implicitDefEqProofs only [go_sem, Nat.reduceEqDiff, Nat.reduceAdd, Nat.reduceLeDiff, reduceCtorEq, ↓reduceIte]
    refine onCall_inl ((sortT_inl enSort sort_c (x :: r) (by simp at hn ⊢; omega) (by simp -implicitDefEqProofs only [go_sem, ↓reduceIte] <;> rfl)).mono ?_)
    rintro v hp2 nx2 ⟨rfl, rfl, rfl⟩
    simp -implicitDefEqProofs only [go_sem, Nat.reduceEqDiff, Nat.reduceAdd, Nat.reduceLeDiff, reduceCtorEq, ↓reduceIte]
    have hl : r.length + 1 = (srtT (x :: r)).length := by rw [srtT_len]; rfl
    have hb : (srtT (x :: r)).length ≤ 4294967296 := by rw [srtT_len]; exact hn
    unfold onceT
    rw [hl]
    generalize srtT (x :: r) = ys at hb
    refine onCall_inl ((compactT_inl enCompact compact_c ys (by omega) (by simp -implicitDefEqProofs only [go_sem, ↓reduceIte] <;> rfl)).mono ?_)
    rintro v hp2 nx2 ⟨rfl, rfl, rfl⟩
    simp -implicitDefEqProofs only [go_sem, Nat.reduceEqDiff, Nat.reduceAdd, Nat.reduceLeDiff, reduceCtorEq, ↓reduceIte]
    refine end_pure (v := .so 7 1 0 (cmpT ys).length) (b := false) (is := [7]) (by simp -implicitDefEqProofs only [go_sem, ↓reduceIte, Try.f19] <;> rfl) (d' := .sl (((cmpT ys).map eT ++ (List.replicate (ys.length - (cmpT ys).length) (ofT [])).map eT).take (cmpT ys).length)) ?_ (by rw [show (cmpT ys).length = ((cmpT ys).map eT).length from (List.length_map _).symm, List.take_left]) fun _ => rfl
    simp -implicitDefEqProofs only [go_sem, ↓reduceIte]
end Go.Proofs.Ytedgdpncienjiaa.Ab

/-
  look.once: what is told, each once and in order: by the library's own contracts of Clone, Sort and Compact.
-/
import Derived.Test.YtdckfddlcmkdlaaTab
import Derived.Test.YtdckfddlcmkdlaaAbU
import Derived.WalkKit
import Derived.Deep.LoopGhost
import Derived.Ground.NamesProg
import Derived.Ground.Names2Prog
import Derived.Shelf.Lay
import Derived.Shelf.Slices.In.CompactS
import Derived.Shelf.Slices.In.SortNone
import Derived.Sort.EveryDepth
namespace Go.Proofs
open Go.Shelf Go.RowKit Go.Sort
shelf_lay Lays.n190 Nm 190 at Try as Try.laysSort
shelf_lay Lays.n194 Nm 194 at Try as Try.laysCompact
end Go.Proofs
namespace Go.Proofs.Ytdckfddlcmkdlaa.Ab
open Go.Shelf Go.RowKit Go.Sort

theorem sort_c (blk cap : Nat) (zs : List (List UInt8)) (w : World) (hH : Holds encStr w blk 0 zs.toArray) (hblk : blk < w.heap.size) (hsz : zs.length < 4611686018427387904) :
    Calls Try.prog 85 #[.slice (some ⟨blk, 0, none⟩) zs.length cap] w fun e w' =>
      e = .returned (.tuple #[]) ∧ ∃ n os, w' = grow (putRow encStr (Sort.ahead w n) blk 0 (zs.mergeSort fun x y => decide (x ≤ y)).toArray) os :=
  calls_of_every_depth fun D => AnyS.slices_Sort_string_alone Try.laysSort D blk 0 cap zs w hH hblk hsz
theorem compact_c (blk cap : Nat) (zs : List (List UInt8)) (w : World) (hH : Holds encStr w blk 0 zs.toArray) (hsz : zs.length ≤ 9223372036854775807) (hcap : zs.length ≤ cap) :
    Calls Try.prog 86 #[.slice (some ⟨blk, 0, none⟩) zs.length cap] w fun e w' => e = .returned (.slice (some ⟨blk, 0, none⟩) (Lib.compact zs).length cap) ∧ ∃ q, w' = putRow encStr (Sort.ahead w q) blk 0 (Lib.compact zs ++ List.replicate (zs.length - (Lib.compact zs).length) []).toArray :=
  calls_of_every_depth fun D => AnyS.slices_Compact_string_in Try.laysCompact D blk 0 cap zs w hH hsz hcap
theorem enSort : Enters Try.prog 85 := ⟨_, Try.func85, by kernel_rfl, by kernel_rfl⟩
theorem enCompact : Enters Try.prog 86 := ⟨_, Try.func86, by kernel_rfl, by kernel_rfl⟩
theorem nil_arg {w : World} {I : Nat → Prop} {args : Array Value} (hs : args.size = 1) (h : ∀ (j : Nat) (x : D), [D.sl []][j]? = some x → ∃ u, args[j]? = some u ∧ RV1 w I x u) : ∃ a c, args = #[.slice a 0 c] := by
  obtain ⟨u, h1, h2⟩ := h 0 _ rfl
  have : ∃ a c, u = .slice a 0 c := by
    cases (show RC w I (.sl []) u from h2) with
    | nl a c => exact ⟨a, c, rfl⟩
    | sl _ b o c => exact ⟨_, _, rfl⟩
  obtain ⟨a, c, rfl⟩ := this
  refine ⟨a, c, ?_⟩
  apply Array.ext
  · simpa using hs
  · intro j h3 h4
    have hj : j = 0 := by omega
    subst hj
    simpa [h3] using h1
theorem sort0_ok : PureOK Try.prog 85 [.sl []] (.tu []) true := by
  refine ⟨enSort, fun w M0 args _ hs h => ?_⟩
  obtain ⟨a, c, rfl⟩ := nil_arg hs h
  refine Calls.mono (calls_of_every_depth fun D => AnyS.slices_Sort_string_none_alone Try.laysSort D a c w) ?_
  rintro e w' ⟨rfl, rfl⟩
  exact ⟨_, rfl, ⟨Below.refl _ _, Nat.le_refl _⟩, #[], rfl, rfl, fun j d e => by simp at e⟩
theorem compact0_ok : PureOK Try.prog 86 [.sl []] (.sl []) true := by
  refine ⟨enCompact, fun w M0 args _ hs h => ?_⟩
  obtain ⟨a, c, rfl⟩ := nil_arg hs h
  refine Calls.mono (calls_of_every_depth fun D => AnyS.slices_Compact_string_empty_in Try.laysCompact D a c w) ?_
  rintro e w' ⟨rfl, rfl⟩
  exact ⟨_, rfl, ⟨Below.refl _ _, Nat.le_refl _⟩, .nl a c⟩
theorem clone0_ok : PureOK Try.prog 84 [.sl []] (.sl []) true :=
  clone_nil tab_ok fol Try.func84 (T := 69) (B := 4) rfl (by kernel_rfl) (by kernel_rfl) (by decide) rfl (by simp only [go_sem]) (by simp only [go_sem]) (by simp only [go_sem]; decide) (by simp only [go_sem]; decide)
theorem eT_len (xs : List ByteArray) : (xs.map eT).length = xs.length := List.length_map _
theorem cloneT_inl (x : ByteArray) (xs : List ByteArray) (hn : xs.length < 4294967296) {b : Bool} {hp : Hp} {nx : Nat} :
    InlOK Try.prog 84 [.d (.sl ((x :: xs).map eT)) b] hp nx fun v hp2 nx2 => nx2 = nx + 7 ∧ v = .so (nx + 3) 1 0 (x :: xs).length ∧ hp2 = upd (nx + 3) (some (.rw ((x :: xs).map eT) 1 1 false false)) hp := by
  have h := clone_inl (x := eT x) (es := xs.map eT) (b := b) (hp := hp) (nx := nx) tab_ok fol Try.func84 (T := 69) (B := 4) rfl (by kernel_rfl) (by kernel_rfl) (by decide) rfl (by simp only [go_sem]) (by simp only [go_sem]) (by simp only [go_sem]; decide) (by simp only [go_sem]; decide)
    (by simp only [go_sem]; simp) (by simp; omega)
  refine h.mono ?_
  rintro v hp2 nx2 ⟨h1, h2, h3⟩
  refine ⟨h1, by simpa using h2, h3.trans ?_⟩
  have hp : plainR (xs.map eT) = true := by simp [plainR, plainC, isV]
  simp only [go_sem, hp, Bool.and_self, Bool.not_true, Bool.and_false]
/-- Each once, in order. -/
def onceT (xs : List ByteArray) : List ByteArray := cmpT (srtT xs)
theorem once_ok (xs : List ByteArray) (hn : xs.length ≤ 4294967296) : PureOK Try.prog 71 [.sl (xs.map eT)] (.sl ((onceT xs).map eT)) true := by
  refine pure_run (tab := tab) tab_ok fol Try.func71 rfl (by kernel_rfl) (by kernel_rfl) (by simp [Try.f71]) ?_
  simp -implicitDefEqProofs only [go_sem, Nat.reduceAdd, reduceCtorEq, ↓reduceIte]
  cases xs with
  | nil =>
    refine onCall_pure (by simp -implicitDefEqProofs only [go_sem] <;> rfl) clone0_ok (.inr rfl) ?_
    simp -implicitDefEqProofs only [go_sem, Nat.reduceAdd, ↓reduceIte]
    refine onCall_pure (by simp -implicitDefEqProofs only [go_sem] <;> rfl) sort0_ok (.inr rfl) ?_
    simp -implicitDefEqProofs only [go_sem, Nat.reduceEqDiff, Nat.reduceAdd, ↓reduceIte]
    refine onCall_pure (by simp -implicitDefEqProofs only [go_sem] <;> rfl) compact0_ok (.inr rfl) ?_
    simp -implicitDefEqProofs only [go_sem, Nat.reduceAdd, ↓reduceIte]
    exact end_pure (v := .d (.sl []) false) (b := false) (is := []) rfl rfl (by simp [onceT, cmpT, srtT, Lib.compact, Lib.compactUpTo]) fun _ => rfl
  | cons x r =>
    refine onCall_inl ((cloneT_inl x r (by simp at hn; omega)).mono ?_)
    rintro v hp2 nx2 ⟨rfl, rfl, rfl⟩
    simp -implicitDefEqProofs only [go_sem, Nat.reduceAdd, ↓reduceIte]
    refine onCall_inl ((sortT_inl enSort sort_c (x :: r) (by simp at hn ⊢; omega) (by simp -implicitDefEqProofs only [go_sem, ↓reduceIte] <;> rfl)).mono ?_)
    rintro v hp2 nx2 ⟨rfl, rfl, rfl⟩
    simp -implicitDefEqProofs only [go_sem, Nat.reduceEqDiff, Nat.reduceAdd, ↓reduceIte]
    have hl : r.length + 1 = (srtT (x :: r)).length := by rw [srtT_len]; rfl
    have hb : (srtT (x :: r)).length ≤ 4294967296 := by rw [srtT_len]; exact hn
    unfold onceT
    rw [hl]
    generalize srtT (x :: r) = ys at hb
    refine onCall_inl ((compactT_inl enCompact compact_c ys (by omega) (by simp -implicitDefEqProofs only [go_sem, ↓reduceIte] <;> rfl)).mono ?_)
    rintro v hp2 nx2 ⟨rfl, rfl, rfl⟩
    simp -implicitDefEqProofs only [go_sem, Nat.reduceAdd, ↓reduceIte]
    refine end_pure (v := .so 7 1 0 (cmpT ys).length) (b := false) (is := [7]) (by simp -implicitDefEqProofs only [go_sem, ↓reduceIte, Try.f71] <;> rfl) (d' := .sl (((cmpT ys).map eT ++ (List.replicate (ys.length - (cmpT ys).length) (ofT [])).map eT).take (cmpT ys).length)) ?_ (by rw [show (cmpT ys).length = ((cmpT ys).map eT).length from (List.length_map _).symm, List.take_left]) fun _ => rfl
    simp -implicitDefEqProofs only [go_sem, ↓reduceIte]
end Go.Proofs.Ytdckfddlcmkdlaa.Ab

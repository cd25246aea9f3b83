/-
 norm.Once: what is told, each once and in order: by the library's own contracts of Clone, Sort and Compact.
-/
import Derived.Test.YtkkhgdmmbhpckaaGreatTab
import Derived.Test.YtkkhgdmmbhpckaaGreatAbU
import Derived.Deep.LoopGhost
import Derived.Ground.NamesProg
import Derived.Ground.Names2Prog
import Derived.Shelf.Slices.In.CompactS
import Derived.Shelf.Slices.In.SortNone
import Derived.Sort.EveryDepth
namespace Go.Proofs
open Go.Shelf Go.RowKit Go.Sort
def Tryz.laysSort_ren : Go.Shelf.Ren := ⟨fun | 190 => 50 | 125 => 80 | 258 => 79 | 128 => 102 | 129 => 103 | 302 => 93 | 303 => 94 | 304 => 95 | 305 => 96 | 306 => 97 | 307 => 98 | 308 => 99 | 309 => 100 | 310 => 101 | 333 => 139 | 329 => 140 | 330 => 141 | 334 => 142 | 335 => 143 | 336 => 138 | 344 => 156 | n => n, fun | 31 => 23 | 9 => 9 | 3 => 3 | 46 => 33 | 0 => 0 | 51 => 130 | 53 => 132 | 4 => 4 | 183 => 122 | 182 => 121 | 131 => 127 | 5 => 5 | 218 => 154 | 222 => 158 | 228 => 168 | 229 => 169 | n => n, fun | n => n⟩
theorem Tryz.laysSort : Go.Proofs.Lays.n190 Tryz.prog Tryz.laysSort_ren := {
 mixed := by kernel_rfl
 f125 := Tryz.func80.trans (congrArg some (by kernel_rfl))
 f128 := Tryz.func102.trans (congrArg some (by kernel_rfl))
 f129 := Tryz.func103.trans (congrArg some (by kernel_rfl))
 f190 := Tryz.func50.trans (congrArg some (by kernel_rfl))
 f258 := Tryz.func79.trans (congrArg some (by kernel_rfl))
 f302 := Tryz.func93.trans (congrArg some (by kernel_rfl))
 f303 := Tryz.func94.trans (congrArg some (by kernel_rfl))
 f304 := Tryz.func95.trans (congrArg some (by kernel_rfl))
 f305 := Tryz.func96.trans (congrArg some (by kernel_rfl))
 f306 := Tryz.func97.trans (congrArg some (by kernel_rfl))
 f307 := Tryz.func98.trans (congrArg some (by kernel_rfl))
 f308 := Tryz.func99.trans (congrArg some (by kernel_rfl))
 f309 := Tryz.func100.trans (congrArg some (by kernel_rfl))
 f310 := Tryz.func101.trans (congrArg some (by kernel_rfl))
 f329 := Tryz.func140.trans (congrArg some (by kernel_rfl))
 f330 := Tryz.func141.trans (congrArg some (by kernel_rfl))
 f333 := Tryz.func139.trans (congrArg some (by kernel_rfl))
 f334 := Tryz.func142.trans (congrArg some (by kernel_rfl))
 f335 := Tryz.func143.trans (congrArg some (by kernel_rfl))
 f336 := Tryz.func138.trans (congrArg some (by kernel_rfl))
 f344 := Tryz.func156.trans (congrArg some (by kernel_rfl))
 t0 := Tryz.underlying0
 a0 := Tryz.isAgg0
 z0 := Tryz.sizeOf0
 v0 := Tryz.zeroValue0
 t3 := Tryz.underlying3
 a3 := Tryz.isAgg3
 z3 := Tryz.sizeOf3
 v3 := Tryz.zeroValue3
 t4 := Tryz.underlying4
 a4 := Tryz.isAgg4
 z4 := Tryz.sizeOf4
 v4 := Tryz.zeroValue4
 t5 := Tryz.underlying5
 a5 := Tryz.isAgg5
 z5 := Tryz.sizeOf5
 v5 := Tryz.zeroValue5
 t9 := Tryz.underlying9
 a9 := Tryz.isAgg9
 z9 := Tryz.sizeOf9
 v9 := Tryz.zeroValue9
 t31 := Tryz.underlying23
 a31 := Tryz.isAgg23
 z31 := Tryz.sizeOf23
 v31 := Tryz.zeroValue23
 t46 := Tryz.underlying33
 a46 := Tryz.isAgg33
 z46 := Tryz.sizeOf33
 v46 := Tryz.zeroValue33
 t51 := Tryz.underlying130
 a51 := Tryz.isAgg130
 z51 := Tryz.sizeOf130
 v51 := Tryz.zeroValue130
 t53 := Tryz.underlying132
 a53 := Tryz.isAgg132
 z53 := Tryz.sizeOf132
 v53 := Tryz.zeroValue132
 t131 := Tryz.underlying127
 a131 := Tryz.isAgg127
 z131 := Tryz.sizeOf127
 v131 := Tryz.zeroValue127
 t182 := Tryz.underlying121
 a182 := Tryz.isAgg121
 z182 := Tryz.sizeOf121
 v182 := Tryz.zeroValue121
 t183 := Tryz.underlying122
 a183 := Tryz.isAgg122
 z183 := Tryz.sizeOf122
 v183 := Tryz.zeroValue122
 t218 := Tryz.underlying154
 a218 := Tryz.isAgg154
 z218 := Tryz.sizeOf154
 v218 := Tryz.zeroValue154
 t222 := Tryz.underlying158
 a222 := Tryz.isAgg158
 z222 := Tryz.sizeOf158
 v222 := Tryz.zeroValue158
 t228 := Tryz.underlying168
 a228 := Tryz.isAgg168
 z228 := Tryz.sizeOf168
 v228 := Tryz.zeroValue168
 t229 := Tryz.underlying169
 a229 := Tryz.isAgg169
 z229 := Tryz.sizeOf169
 v229 := Tryz.zeroValue169 }
def Tryz.laysCompact_ren : Go.Shelf.Ren := ⟨fun | 194 => 51 | n => n, fun | 31 => 23 | 9 => 9 | 3 => 3 | 4 => 4 | 0 => 0 | n => n, fun | n => n⟩
theorem Tryz.laysCompact : Go.Proofs.Lays.n194 Tryz.prog Tryz.laysCompact_ren := {
 mixed := by kernel_rfl
 f194 := Tryz.func51.trans (congrArg some (by kernel_rfl))
 t0 := Tryz.underlying0
 a0 := Tryz.isAgg0
 z0 := Tryz.sizeOf0
 v0 := Tryz.zeroValue0
 t3 := Tryz.underlying3
 a3 := Tryz.isAgg3
 z3 := Tryz.sizeOf3
 v3 := Tryz.zeroValue3
 t4 := Tryz.underlying4
 a4 := Tryz.isAgg4
 z4 := Tryz.sizeOf4
 v4 := Tryz.zeroValue4
 t9 := Tryz.underlying9
 a9 := Tryz.isAgg9
 z9 := Tryz.sizeOf9
 v9 := Tryz.zeroValue9
 t31 := Tryz.underlying23
 a31 := Tryz.isAgg23
 z31 := Tryz.sizeOf23
 v31 := Tryz.zeroValue23 }
end Go.Proofs
namespace Go.Proofs.YtkkhgdmmbhpckaaGreat.Ab
open Go.Shelf Go.RowKit Go.Sort
theorem rH_ (blk cap : Nat) (zs : List (List UInt8)) (w : World) (hH : Holds encStr w blk 0 zs.toArray) (hblk : blk < w.heap.size) (hsz : zs.length < 4611686018427387904) :
  Calls Tryz.prog 50 #[.slice (some ⟨blk, 0, none⟩) zs.length cap] w fun e w' =>
   e = .returned (.tuple #[]) ∧ ∃ n os, w' = grow (putRow encStr (Sort.ahead w n) blk 0 (zs.mergeSort fun x y => decide (x ≤ y)).toArray) os :=
 calls_of_every_depth fun D => AnyS.slices_Sort_string_alone Tryz.laysSort D blk 0 cap zs w hH hblk hsz
theorem nm_ (blk cap : Nat) (zs : List (List UInt8)) (w : World) (hH : Holds encStr w blk 0 zs.toArray) (hsz : zs.length ≤ 9223372036854775807) (hcap : zs.length ≤ cap) :
  Calls Tryz.prog 51 #[.slice (some ⟨blk, 0, none⟩) zs.length cap] w fun e w' => e = .returned (.slice (some ⟨blk, 0, none⟩) (Lib.compact zs).length cap) ∧ ∃ q, w' = putRow encStr (Sort.ahead w q) blk 0 (Lib.compact zs ++ List.replicate (zs.length - (Lib.compact zs).length) []).toArray :=
 calls_of_every_depth fun D => AnyS.slices_Compact_string_in Tryz.laysCompact D blk 0 cap zs w hH hsz hcap
theorem nn_ : zM_ Tryz.prog 50 := ⟨_, Tryz.func50, by kernel_rfl, by kernel_rfl⟩
theorem b5_ : zM_ Tryz.prog 51 := ⟨_, Tryz.func51, by kernel_rfl, by kernel_rfl⟩
theorem no_ {w : World} {I : Nat → Prop} {args : Array Value} (hs : args.size = 1) (h : ∀ (j : Nat) (x : D), [D.sl []][j]? = some x → ∃ u, args[j]? = some u ∧ RV1 w I x u) : ∃ a c, args = #[.slice a 0 c] := by
 obtain ⟨u, h1, h2⟩ := h 0 _ rfl;have : ∃ a c, u = .slice a 0 c := by
  cases (show RC w I (.sl []) u from h2) with
  | nl a c => exact ⟨a, c, rfl⟩
  | sl _ b o c => exact ⟨_, _, rfl⟩
 obtain ⟨a, c, rfl⟩ := this;refine ⟨a, c, ?_⟩;apply Array.ext
 ·simpa using hs
 ·intro j h3 h4
  have hj : j = 0 := by omega
  subst hj;simpa [h3] using h1
theorem p6_ : PureOK Tryz.prog 50 [.sl []] (.tu []) true := by
 refine ⟨nn_, fun w M0 args _ hs h => ?_⟩;obtain ⟨a, c, rfl⟩ := no_ hs h;refine Calls.mono (calls_of_every_depth fun D => AnyS.slices_Sort_string_none_alone Tryz.laysSort D a c w) ?_;rintro e w' ⟨rfl, rfl⟩;exact ⟨_, rfl, ⟨Below.refl _ _, Nat.le_refl _⟩, #[], rfl, rfl, fun j d e => by simp at e⟩
theorem dR_ : PureOK Tryz.prog 51 [.sl []] (.sl []) true := by
 refine ⟨b5_, fun w M0 args _ hs h => ?_⟩;obtain ⟨a, c, rfl⟩ := no_ hs h;refine Calls.mono (calls_of_every_depth fun D => AnyS.slices_Compact_string_empty_in Tryz.laysCompact D a c w) ?_;rintro e w' ⟨rfl, rfl⟩;exact ⟨_, rfl, ⟨Below.refl _ _, Nat.le_refl _⟩, .nl a c⟩
theorem np_ : PureOK Tryz.prog 28 [.sl []] (.sl []) true :=
 w4_ qo_ fol Tryz.func28 (T := 23) (B := 4) rfl (by kernel_rfl) (by kernel_rfl) (by decide) rfl (by simp only [go_sem]) (by simp only [go_sem]) (by simp only [go_sem]; decide) (by simp only [go_sem]; decide)
theorem hC_ (x : ByteArray) (xs : List ByteArray) (hn : xs.length < 4294967296) {b : Bool} {hp : Hp} {nx : Nat} :
  InlOK Tryz.prog 28 [.d (.sl ((x :: xs).map eT)) b] hp nx fun v hp2 nx2 => nx2 = nx + 7 ∧ v = .so (nx + 3) 1 0 (x :: xs).length ∧ hp2 = upd (nx + 3) (some (.rw ((x :: xs).map eT) 1 1 false false)) hp := by
 have h := bR_ (x := eT x) (es := xs.map eT) (b := b) (hp := hp) (nx := nx) qo_ fol Tryz.func28 (T := 23) (B := 4) rfl (by kernel_rfl) (by kernel_rfl) (by decide) rfl (by simp only [go_sem]) (by simp only [go_sem]) (by simp only [go_sem]; decide) (by simp only [go_sem]; decide)
  (by simp only [go_sem]; simp) (by simp; omega)
 refine h.mono ?_;rintro v hp2 nx2 ⟨h1, h2, h3⟩;refine ⟨h1, by simpa using h2, h3.trans ?_⟩;have hp : vr_ (xs.map eT) = true := by simp [vr_, vq_, isV]
 simp only [go_sem, hp, Bool.and_self, Bool.not_true, Bool.and_false]
def onceT (xs : List ByteArray) : List ByteArray := cmpT (srtT xs)
theorem sZ_ (xs : List ByteArray) (hn : xs.length ≤ 4294967296) : PureOK Tryz.prog 29 [.sl (xs.map eT)] (.sl ((onceT xs).map eT)) true := by
 refine wZ_ (tab := tab) qo_ fol Tryz.func29 rfl (by kernel_rfl) (by kernel_rfl) (by simp [Tryz.f29]) ?_;simp -implicitDefEqProofs only [go_sem, Nat.reduceAdd, reduceCtorEq, ↓reduceIte];cases xs with
 | nil =>
  refine j1_ (by simp -implicitDefEqProofs only [go_sem] <;> rfl) np_ (.inr rfl) ?_;simp -implicitDefEqProofs only [go_sem, Nat.reduceAdd, ↓reduceIte];refine j1_ (by simp -implicitDefEqProofs only [go_sem] <;> rfl) p6_ (.inr rfl) ?_;simp -implicitDefEqProofs only [go_sem, Nat.reduceEqDiff, Nat.reduceAdd, ↓reduceIte]
  refine j1_ (by simp -implicitDefEqProofs only [go_sem] <;> rfl) dR_ (.inr rfl) ?_;simp -implicitDefEqProofs only [go_sem, Nat.reduceAdd, ↓reduceIte];exact xJ_ (v := .d (.sl []) false) (b := false) (is := []) rfl rfl (by simp [onceT, cmpT, srtT, Lib.compact, Lib.compactUpTo]) fun _ => rfl
 | cons x r =>
  refine qz_ ((hC_ x r (by simp at hn; omega)).mono ?_);rintro v hp2 nx2 ⟨rfl, rfl, rfl⟩;simp -implicitDefEqProofs only [go_sem, Nat.reduceAdd, ↓reduceIte];refine qz_ ((bT_ nn_ rH_ (x :: r) (by simp at hn ⊢; omega) (by simp -implicitDefEqProofs only [go_sem, ↓reduceIte] <;> rfl)).mono ?_);rintro v hp2 nx2 ⟨rfl, rfl, rfl⟩
  simp -implicitDefEqProofs only [go_sem, Nat.reduceEqDiff, Nat.reduceAdd, ↓reduceIte];have hl : r.length + 1 = (srtT (x :: r)).length := by rw [gH_]; rfl
  have hb : (srtT (x :: r)).length ≤ 4294967296 := by rw [gH_]; exact hn
  unfold onceT;rw [hl];generalize srtT (x :: r) = ys at hb;refine qz_ ((bU_ b5_ nm_ ys (by omega) (by simp -implicitDefEqProofs only [go_sem, ↓reduceIte] <;> rfl)).mono ?_);rintro v hp2 nx2 ⟨rfl, rfl, rfl⟩;simp -implicitDefEqProofs only [go_sem, Nat.reduceAdd, ↓reduceIte]
  refine xJ_ (v := .so 7 1 0 (cmpT ys).length) (b := false) (is := [7]) (by simp -implicitDefEqProofs only [go_sem, ↓reduceIte, Tryz.f29] <;> rfl) (d' := .sl (((cmpT ys).map eT ++ (List.replicate (ys.length - (cmpT ys).length) (ofT [])).map eT).take (cmpT ys).length)) ?_ (by rw [show (cmpT ys).length = ((cmpT ys).map eT).length from (List.length_map _).symm, List.take_left]) fun _ => rfl
  simp -implicitDefEqProofs only [go_sem, ↓reduceIte]
end Go.Proofs.YtkkhgdmmbhpckaaGreat.Ab

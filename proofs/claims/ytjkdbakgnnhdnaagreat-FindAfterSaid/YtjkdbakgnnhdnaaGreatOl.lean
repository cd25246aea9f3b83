/-
 look.once: what is told, each once and in order: by the library's own contracts of Clone, Sort and Compact.
-/
import Derived.Test.YtjkdbakgnnhdnaaGreatTab
import Derived.Test.YtjkdbakgnnhdnaaGreatAbU
import Derived.Deep.LoopGhost
import Derived.Ground.NamesProg
import Derived.Ground.Names2Prog
import Derived.Shelf.Slices.In.CompactS
import Derived.Shelf.Slices.In.SortNone
import Derived.Sort.EveryDepth
namespace Go.Proofs
open Go.Shelf Go.RowKit Go.Sort
def Tryz.laysSort_ren : Go.Shelf.Ren := ⟨fun | 190 => 39 | 125 => 57 | 258 => 56 | 128 => 83 | 129 => 84 | 302 => 74 | 303 => 75 | 304 => 76 | 305 => 77 | 306 => 78 | 307 => 79 | 308 => 80 | 309 => 81 | 310 => 82 | 333 => 97 | 329 => 98 | 330 => 99 | 334 => 100 | 335 => 101 | 336 => 102 | 344 => 117 | n => n, fun | 31 => 33 | 9 => 9 | 3 => 3 | 46 => 137 | 0 => 0 | 51 => 163 | 53 => 165 | 4 => 4 | 183 => 156 | 182 => 155 | 131 => 160 | 5 => 5 | 218 => 175 | 222 => 179 | 228 => 192 | 229 => 193 | n => n, fun | n => n⟩
theorem Tryz.laysSort : Go.Proofs.Lays.n190 Tryz.prog Tryz.laysSort_ren := {
 mixed := by kernel_rfl
 f125 := Tryz.func57.trans (congrArg some (by kernel_rfl))
 f128 := Tryz.func83.trans (congrArg some (by kernel_rfl))
 f129 := Tryz.func84.trans (congrArg some (by kernel_rfl))
 f190 := Tryz.func39.trans (congrArg some (by kernel_rfl))
 f258 := Tryz.func56.trans (congrArg some (by kernel_rfl))
 f302 := Tryz.func74.trans (congrArg some (by kernel_rfl))
 f303 := Tryz.func75.trans (congrArg some (by kernel_rfl))
 f304 := Tryz.func76.trans (congrArg some (by kernel_rfl))
 f305 := Tryz.func77.trans (congrArg some (by kernel_rfl))
 f306 := Tryz.func78.trans (congrArg some (by kernel_rfl))
 f307 := Tryz.func79.trans (congrArg some (by kernel_rfl))
 f308 := Tryz.func80.trans (congrArg some (by kernel_rfl))
 f309 := Tryz.func81.trans (congrArg some (by kernel_rfl))
 f310 := Tryz.func82.trans (congrArg some (by kernel_rfl))
 f329 := Tryz.func98.trans (congrArg some (by kernel_rfl))
 f330 := Tryz.func99.trans (congrArg some (by kernel_rfl))
 f333 := Tryz.func97.trans (congrArg some (by kernel_rfl))
 f334 := Tryz.func100.trans (congrArg some (by kernel_rfl))
 f335 := Tryz.func101.trans (congrArg some (by kernel_rfl))
 f336 := Tryz.func102.trans (congrArg some (by kernel_rfl))
 f344 := Tryz.func117.trans (congrArg some (by kernel_rfl))
 t0 := Tryz.underlying0
 a0 := Tryz.isAgg0
 z0 := Tryz.sizeOf0
 v0 := Tryz.zeroValue0
 t3 := Tryz.underlying3
 a3 := Tryz.isAgg3
 z3 := Tryz.sizeOf3
 v3 := Tryz.zeroValue3
 t4 := Tryz.underlying4
 a4 := Tryz.isAgg4
 z4 := Tryz.sizeOf4
 v4 := Tryz.zeroValue4
 t5 := Tryz.underlying5
 a5 := Tryz.isAgg5
 z5 := Tryz.sizeOf5
 v5 := Tryz.zeroValue5
 t9 := Tryz.underlying9
 a9 := Tryz.isAgg9
 z9 := Tryz.sizeOf9
 v9 := Tryz.zeroValue9
 t31 := Tryz.underlying33
 a31 := Tryz.isAgg33
 z31 := Tryz.sizeOf33
 v31 := Tryz.zeroValue33
 t46 := Tryz.underlying137
 a46 := Tryz.isAgg137
 z46 := Tryz.sizeOf137
 v46 := Tryz.zeroValue137
 t51 := Tryz.underlying163
 a51 := Tryz.isAgg163
 z51 := Tryz.sizeOf163
 v51 := Tryz.zeroValue163
 t53 := Tryz.underlying165
 a53 := Tryz.isAgg165
 z53 := Tryz.sizeOf165
 v53 := Tryz.zeroValue165
 t131 := Tryz.underlying160
 a131 := Tryz.isAgg160
 z131 := Tryz.sizeOf160
 v131 := Tryz.zeroValue160
 t182 := Tryz.underlying155
 a182 := Tryz.isAgg155
 z182 := Tryz.sizeOf155
 v182 := Tryz.zeroValue155
 t183 := Tryz.underlying156
 a183 := Tryz.isAgg156
 z183 := Tryz.sizeOf156
 v183 := Tryz.zeroValue156
 t218 := Tryz.underlying175
 a218 := Tryz.isAgg175
 z218 := Tryz.sizeOf175
 v218 := Tryz.zeroValue175
 t222 := Tryz.underlying179
 a222 := Tryz.isAgg179
 z222 := Tryz.sizeOf179
 v222 := Tryz.zeroValue179
 t228 := Tryz.underlying192
 a228 := Tryz.isAgg192
 z228 := Tryz.sizeOf192
 v228 := Tryz.zeroValue192
 t229 := Tryz.underlying193
 a229 := Tryz.isAgg193
 z229 := Tryz.sizeOf193
 v229 := Tryz.zeroValue193 }
def Tryz.laysCompact_ren : Go.Shelf.Ren := ⟨fun | 194 => 40 | n => n, fun | 31 => 33 | 9 => 9 | 3 => 3 | 4 => 4 | 0 => 0 | n => n, fun | n => n⟩
theorem Tryz.laysCompact : Go.Proofs.Lays.n194 Tryz.prog Tryz.laysCompact_ren := {
 mixed := by kernel_rfl
 f194 := Tryz.func40.trans (congrArg some (by kernel_rfl))
 t0 := Tryz.underlying0
 a0 := Tryz.isAgg0
 z0 := Tryz.sizeOf0
 v0 := Tryz.zeroValue0
 t3 := Tryz.underlying3
 a3 := Tryz.isAgg3
 z3 := Tryz.sizeOf3
 v3 := Tryz.zeroValue3
 t4 := Tryz.underlying4
 a4 := Tryz.isAgg4
 z4 := Tryz.sizeOf4
 v4 := Tryz.zeroValue4
 t9 := Tryz.underlying9
 a9 := Tryz.isAgg9
 z9 := Tryz.sizeOf9
 v9 := Tryz.zeroValue9
 t31 := Tryz.underlying33
 a31 := Tryz.isAgg33
 z31 := Tryz.sizeOf33
 v31 := Tryz.zeroValue33 }
end Go.Proofs
namespace Go.Proofs.YtjkdbakgnnhdnaaGreat.Ab
open Go.Shelf Go.RowKit Go.Sort
theorem sort_c (blk cap : Nat) (zs : List (List UInt8)) (w : World) (hH : Holds encStr w blk 0 zs.toArray) (hblk : blk < w.heap.size) (hsz : zs.length < 4611686018427387904) :
  Calls Tryz.prog 39 #[.slice (some ⟨blk, 0, none⟩) zs.length cap] w fun e w' =>
   e = .returned (.tuple #[]) ∧ ∃ n os, w' = grow (putRow encStr (Sort.ahead w n) blk 0 (zs.mergeSort fun x y => decide (x ≤ y)).toArray) os :=
 calls_of_every_depth fun D => AnyS.slices_Sort_string_alone Tryz.laysSort D blk 0 cap zs w hH hblk hsz
theorem compact_c (blk cap : Nat) (zs : List (List UInt8)) (w : World) (hH : Holds encStr w blk 0 zs.toArray) (hsz : zs.length ≤ 9223372036854775807) (hcap : zs.length ≤ cap) :
  Calls Tryz.prog 40 #[.slice (some ⟨blk, 0, none⟩) zs.length cap] w fun e w' => e = .returned (.slice (some ⟨blk, 0, none⟩) (Lib.compact zs).length cap) ∧ ∃ q, w' = putRow encStr (Sort.ahead w q) blk 0 (Lib.compact zs ++ List.replicate (zs.length - (Lib.compact zs).length) []).toArray :=
 calls_of_every_depth fun D => AnyS.slices_Compact_string_in Tryz.laysCompact D blk 0 cap zs w hH hsz hcap
theorem enSort : Enters Tryz.prog 39 := ⟨_, Tryz.func39, by kernel_rfl, by kernel_rfl⟩
theorem enCompact : Enters Tryz.prog 40 := ⟨_, Tryz.func40, by kernel_rfl, by kernel_rfl⟩
theorem nil_arg {w : World} {I : Nat → Prop} {args : Array Value} (hs : args.size = 1) (h : ∀ (j : Nat) (x : D), [D.sl []][j]? = some x → ∃ u, args[j]? = some u ∧ RV1 w I x u) : ∃ a c, args = #[.slice a 0 c] := by
 obtain ⟨u, h1, h2⟩ := h 0 _ rfl
 have : ∃ a c, u = .slice a 0 c := by
  cases (show RC w I (.sl []) u from h2) with
  | nl a c => exact ⟨a, c, rfl⟩
  | sl _ b o c => exact ⟨_, _, rfl⟩
 obtain ⟨a, c, rfl⟩ := this
 refine ⟨a, c, ?_⟩
 apply Array.ext
 ·simpa using hs
 ·intro j h3 h4
  have hj : j = 0 := by omega
  subst hj
  simpa [h3] using h1
theorem sort0_ok : PureOK Tryz.prog 39 [.sl []] (.tu []) true := by
 refine ⟨enSort, fun w M0 args _ hs h => ?_⟩
 obtain ⟨a, c, rfl⟩ := nil_arg hs h
 refine Calls.mono (calls_of_every_depth fun D => AnyS.slices_Sort_string_none_alone Tryz.laysSort D a c w) ?_
 rintro e w' ⟨rfl, rfl⟩
 exact ⟨_, rfl, ⟨Below.refl _ _, Nat.le_refl _⟩, #[], rfl, rfl, fun j d e => by simp at e⟩
theorem cloneT_inl (x : ByteArray) (xs : List ByteArray) (hn : xs.length < 4294967296) {b : Bool} {hp : Hp} {nx : Nat} :
  InlOK Tryz.prog 27 [.d (.sl ((x :: xs).map eT)) b] hp nx fun v hp2 nx2 => nx2 = nx + 7 ∧ v = .so (nx + 3) 1 0 (x :: xs).length ∧ hp2 = upd (nx + 3) (some (.rw ((x :: xs).map eT) 1 1 false false)) hp := by
 have h := clone_inl (x := eT x) (es := xs.map eT) (b := b) (hp := hp) (nx := nx) tab_ok fol Tryz.func27 (T := 33) (B := 4) rfl (by kernel_rfl) (by kernel_rfl) (by decide) rfl (by simp only [go_sem]) (by simp only [go_sem]) (by simp only [go_sem]; decide) (by simp only [go_sem]; decide)
  (by simp only [go_sem]; simp) (by simp; omega)
 refine h.mono ?_
 rintro v hp2 nx2 ⟨h1, h2, h3⟩
 refine ⟨h1, by simpa using h2, h3.trans ?_⟩
 have hp : plainR (xs.map eT) = true := by simp [plainR, plainC, isV]
 simp only [go_sem, hp, Bool.and_self, Bool.not_true, Bool.and_false]
def onceT (xs : List ByteArray) : List ByteArray := cmpT (srtT xs)
end Go.Proofs.YtjkdbakgnnhdnaaGreat.Ab

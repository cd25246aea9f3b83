/-
  strings.Join, strconv.Itoa of few: the library's own contracts, in the machine's words.
-/
import Derived.Test.YtjkclhcbjjnlaaaGreatDoorStq
import Derived.Test.YtjkclhcbjjnlaaaGreatDoorAbV
import Derived.Shelf.Strings.OnBuilder
import Derived.Shelf.Strconv.Itoa3
namespace Go.Proofs
open Go.Shelf Go.RowKit
def Tryz.laysJoin_ren : Go.Shelf.Ren := ⟨fun | 156 => 57 | 165 => 118 | 166 => 119 | 169 => 120 | 240 => 157 | 241 => 158 | 276 => 233 | 277 => 234 | n => n, fun | 31 => 22 | 9 => 9 | 3 => 3 | 4 => 4 | 0 => 0 | 20 => 20 | 72 => 199 | 76 => 202 | 70 => 196 | 37 => 197 | 75 => 201 | 127 => 239 | 164 => 284 | 5 => 5 | 80 => 52 | n => n, fun | n => n⟩
theorem Tryz.laysJoin : Go.Proofs.Lays.n156 Tryz.prog Tryz.laysJoin_ren := {
  mixed := by kernel_rfl
  f156 := Tryz.func57.trans (congrArg some (by kernel_rfl))
  f165 := Tryz.func118.trans (congrArg some (by kernel_rfl))
  f166 := Tryz.func119.trans (congrArg some (by kernel_rfl))
  f169 := Tryz.func120.trans (congrArg some (by kernel_rfl))
  f240 := Tryz.func157.trans (congrArg some (by kernel_rfl))
  f241 := Tryz.func158.trans (congrArg some (by kernel_rfl))
  f276 := Tryz.func233.trans (congrArg some (by kernel_rfl))
  f277 := Tryz.func234.trans (congrArg some (by kernel_rfl))
  t0 := Tryz.underlying0
  a0 := Tryz.isAgg0
  z0 := Tryz.sizeOf0
  v0 := Tryz.zeroValue0
  t3 := Tryz.underlying3
  a3 := Tryz.isAgg3
  z3 := Tryz.sizeOf3
  v3 := Tryz.zeroValue3
  t4 := Tryz.underlying4
  a4 := Tryz.isAgg4
  z4 := Tryz.sizeOf4
  v4 := Tryz.zeroValue4
  t9 := Tryz.underlying9
  a9 := Tryz.isAgg9
  z9 := Tryz.sizeOf9
  v9 := Tryz.zeroValue9
  t20 := Tryz.underlying20
  a20 := Tryz.isAgg20
  z20 := Tryz.sizeOf20
  v20 := Tryz.zeroValue20
  t31 := Tryz.underlying22
  a31 := Tryz.isAgg22
  z31 := Tryz.sizeOf22
  v31 := Tryz.zeroValue22
  t37 := Tryz.underlying197
  a37 := Tryz.isAgg197
  z37 := Tryz.sizeOf197
  v37 := Tryz.zeroValue197
  t70 := Tryz.underlying196
  a70 := Tryz.isAgg196
  z70 := Tryz.sizeOf196
  v70 := Tryz.zeroValue196
  t72 := Tryz.underlying199
  a72 := Tryz.isAgg199
  z72 := Tryz.sizeOf199
  v72 := Tryz.zeroValue199
  t75 := Tryz.underlying201
  a75 := Tryz.isAgg201
  z75 := Tryz.sizeOf201
  v75 := Tryz.zeroValue201
  t76 := Tryz.underlying202
  a76 := Tryz.isAgg202
  z76 := Tryz.sizeOf202
  v76 := Tryz.zeroValue202
  t127 := Tryz.underlying239
  a127 := Tryz.isAgg239
  z127 := Tryz.sizeOf239
  v127 := Tryz.zeroValue239
  t164 := Tryz.underlying284
  a164 := Tryz.isAgg284
  z164 := Tryz.sizeOf284
  v164 := Tryz.zeroValue284 }
def Tryz.laysItoa_ren : Go.Shelf.Ren := ⟨fun | 171 => 58 | 243 => 121 | 246 => 159 | 283 => 235 | 284 => 236 | 285 => 237 | 286 => 238 | 129 => 169 | 317 => 269 | 318 => 270 | 319 => 271 | 320 => 272 | 337 => 289 | 338 => 290 | n => n, fun | 3 => 3 | 9 => 9 | 2 => 2 | 4 => 4 | 171 => 287 | 0 => 0 | 53 => 251 | 37 => 197 | 5 => 5 | 173 => 289 | 212 => 316 | 51 => 249 | 20 => 20 | 213 => 317 | 46 => 206 | 232 => 339 | 233 => 340 | n => n, fun | 17 => 1 | 18 => 4 | 19 => 5 | n => n⟩
theorem Tryz.laysItoa : Go.Proofs.Lays.n171 Tryz.prog Tryz.laysItoa_ren := {
  mixed := by kernel_rfl
  f129 := Tryz.func169.trans (congrArg some (by kernel_rfl))
  f171 := Tryz.func58.trans (congrArg some (by kernel_rfl))
  f243 := Tryz.func121.trans (congrArg some (by kernel_rfl))
  f246 := Tryz.func159.trans (congrArg some (by kernel_rfl))
  f283 := Tryz.func235.trans (congrArg some (by kernel_rfl))
  f284 := Tryz.func236.trans (congrArg some (by kernel_rfl))
  f285 := Tryz.func237.trans (congrArg some (by kernel_rfl))
  f286 := Tryz.func238.trans (congrArg some (by kernel_rfl))
  f317 := Tryz.func269.trans (congrArg some (by kernel_rfl))
  f318 := Tryz.func270.trans (congrArg some (by kernel_rfl))
  f319 := Tryz.func271.trans (congrArg some (by kernel_rfl))
  f320 := Tryz.func272.trans (congrArg some (by kernel_rfl))
  f337 := Tryz.func289.trans (congrArg some (by kernel_rfl))
  f338 := Tryz.func290.trans (congrArg some (by kernel_rfl))
  t0 := Tryz.underlying0
  a0 := Tryz.isAgg0
  z0 := Tryz.sizeOf0
  v0 := Tryz.zeroValue0
  t2 := Tryz.underlying2
  a2 := Tryz.isAgg2
  z2 := Tryz.sizeOf2
  v2 := Tryz.zeroValue2
  t3 := Tryz.underlying3
  a3 := Tryz.isAgg3
  z3 := Tryz.sizeOf3
  v3 := Tryz.zeroValue3
  t4 := Tryz.underlying4
  a4 := Tryz.isAgg4
  z4 := Tryz.sizeOf4
  v4 := Tryz.zeroValue4
  t5 := Tryz.underlying5
  a5 := Tryz.isAgg5
  z5 := Tryz.sizeOf5
  v5 := Tryz.zeroValue5
  t9 := Tryz.underlying9
  a9 := Tryz.isAgg9
  z9 := Tryz.sizeOf9
  v9 := Tryz.zeroValue9
  t20 := Tryz.underlying20
  a20 := Tryz.isAgg20
  z20 := Tryz.sizeOf20
  v20 := Tryz.zeroValue20
  t37 := Tryz.underlying197
  a37 := Tryz.isAgg197
  z37 := Tryz.sizeOf197
  v37 := Tryz.zeroValue197
  t46 := Tryz.underlying206
  a46 := Tryz.isAgg206
  z46 := Tryz.sizeOf206
  v46 := Tryz.zeroValue206
  t51 := Tryz.underlying249
  a51 := Tryz.isAgg249
  z51 := Tryz.sizeOf249
  v51 := Tryz.zeroValue249
  t53 := Tryz.underlying251
  a53 := Tryz.isAgg251
  z53 := Tryz.sizeOf251
  v53 := Tryz.zeroValue251
  t171 := Tryz.underlying287
  a171 := Tryz.isAgg287
  z171 := Tryz.sizeOf287
  v171 := Tryz.zeroValue287
  t173 := Tryz.underlying289
  a173 := Tryz.isAgg289
  z173 := Tryz.sizeOf289
  v173 := Tryz.zeroValue289
  t212 := Tryz.underlying316
  a212 := Tryz.isAgg316
  z212 := Tryz.sizeOf316
  v212 := Tryz.zeroValue316
  t213 := Tryz.underlying317
  a213 := Tryz.isAgg317
  z213 := Tryz.sizeOf317
  t232 := Tryz.underlying339
  a232 := Tryz.isAgg339
  z232 := Tryz.sizeOf339
  v232 := Tryz.zeroValue339
  t233 := Tryz.underlying340
  a233 := Tryz.isAgg340
  z233 := Tryz.sizeOf340
  v233 := Tryz.zeroValue340
  g17 := by kernel_rfl
  g18 := by kernel_rfl
  g19 := by kernel_rfl }
theorem Tryz.joinExtra : Builder.Extra Tryz.prog Tryz.laysJoin_ren where
  sizeBuilder := by kernel_rfl
  liesBuilder := by kernel_rfl
  t5 := Tryz.underlying5
  a5 := Tryz.isAgg5
  z5 := Tryz.sizeOf5
  v5 := Tryz.zeroValue5
  infoByte := by kernel_rfl
  cellsByte := by kernel_rfl
  sizeByte := by kernel_rfl
  neB5 := by decide
end Go.Proofs
namespace Go.Proofs.YtjkclhcbjjnlaaaGreatDoor.Ab
open Go.Shelf Go.RowKit
/-- Texts with one between. -/
def joinT (xs : List ByteArray) (sep : ByteArray) : ByteArray := ⟨(Lib.join (xs.map (·.data.toList)) sep.data.toList).toArray⟩
theorem join_pure (xs : List ByteArray) (sep : ByteArray) (h1 : xs.length ≤ 140737488355328) (h2 : (Lib.join (xs.map (·.data.toList)) sep.data.toList).length ≤ 140737488355328) : PureOK Tryz.prog 57 [.sl (xs.map fun s => [.v (.string s)]), .v (.string sep)] (.v (.string (joinT xs sep))) true := by
  refine ⟨⟨_, Tryz.func57, by kernel_rfl, by kernel_rfl⟩, fun w M0 args hM hsz hargs => ?_⟩
  obtain ⟨u0, a0, b0⟩ := hargs 0 _ rfl
  obtain ⟨u1, a1, b1⟩ := hargs 1 _ rfl
  have hu1 : u1 = .string sep := by
    cases (show RC w _ (.v (.string sep)) u1 from b1)
    rfl
  subst hu1
  have hargs2 : args = #[u0, .string sep] := by
    have hsz2 : args.size = 2 := by simpa using hsz
    apply Array.ext
    · simpa using hsz2
    · intro j h1 h2
      have hj : j = 0 ∨ j = 1 := by omega
      rcases hj with rfl | rfl
      · simpa [h1] using a0
      · simpa [h1] using a1
  subst hargs2
  have key : Calls Tryz.prog 57 #[u0, .string sep] w fun e w' => e = .returned (.string (joinT xs sep)) ∧ Below w.heap.size w w' := by
    generalize hes : (xs.map fun s => [D.v (.string s)]) = es at b0
    cases (show RC w _ (.sl es) u0 from b0) with
    | nl a k =>
      have hx : xs = [] := by
        cases xs with
        | nil => rfl
        | cons x r => cases hes
      subst hx
      exact (Any.strings_Join_none Tryz.laysJoin Tryz.joinExtra a k sep w).mono fun e w' ⟨h1, h2⟩ => ⟨h1, h2 ▸ Below.refl _ _⟩
    | sl _ b o c sz us hI hc hz hm hd =>
      subst hes
      have hsz1 : ∀ j x, xs[j]? = some x → sz = 1 := fun j x hx => (hz j [D.v (.string x)] (by rw [List.getElem?_map, hx]; rfl)).symm
      rw [List.length_map] at hc ⊢
      refine Any.strings_Join Tryz.laysJoin Tryz.joinExtra b o c xs sep w (fun j x hx => ?_) hI.1 h1 hc h2
      have hcs : (xs.map fun s => [D.v (.string s)])[j]? = some [.v (.string x)] := by rw [List.getElem?_map, hx]; rfl
      have e1 := hm j 0 _ _ hcs rfl
      have e2 := hd j 0 _ _ hcs rfl
      rw [hsz1 j x hx, Nat.mul_one, Nat.add_zero] at e1
      rw [e1]
      generalize us j 0 = u at e2
      cases e2
      rfl
  refine (calls_dr key fun e w' h => ⟨_, h.1⟩).mono ?_
  rintro e w' ⟨⟨rfl, h2⟩, h3⟩
  exact ⟨_, rfl, ⟨h2, h3⟩, .v _ rfl⟩
theorem itoa_pure (i : Nat) (hi : i < 100) : PureOK Tryz.prog 58 [.v (.int .i64 (i : Int))] (.v (.string ⟨(Lib.decDigits i).toArray⟩)) true :=
  pure_of_same (xs := [.int .i64 (i : Int)]) ⟨_, Tryz.func58, by kernel_rfl, by kernel_rfl⟩ rfl fun w => Any.strconv_Itoa_small Tryz.laysItoa i hi w
/-- Cells as texts. -/
def txs : List (List D) → Option (List ByteArray)
  | [] => some []
  | [.v (.string s)] :: r => (txs r).map fun l => s :: l
  | _ :: _ => none
theorem txs_eq : ∀ {es : List (List D)} {xs : List ByteArray}, txs es = some xs → es = xs.map fun s => [D.v (.string s)]
  | [], xs, h => by cases h; rfl
  | e :: r, xs, h => by
    unfold txs at h
    split at h
    · rename_i h1; cases h1
    · rename_i s r' h1
      cases h1
      obtain ⟨l, h2, rfl⟩ := Option.map_eq_some_iff.1 h
      rw [txs_eq h2]
      rfl
    · cases h
def prJ (f : FuncId) : Pr1 := (f, fun vs => match vs with
  | [.d (.sl es) _, .v (.string sep)] => (txs es).bind fun xs => match Nat.ble xs.length 1000 && Nat.ble (Lib.join (xs.map (·.data.toList)) sep.data.toList).length 1000000 with
    | true => some (.v (.string (joinT xs sep)))
    | false => none
  | _ => none)
theorem jnOk : Pr1OK Tryz.prog (prJ 57) := by
  intro vs w hw hp nx
  simp only [prJ] at hw
  split at hw
  · rename_i es b sep
    obtain ⟨xs, hx, h⟩ := Option.bind_eq_some_iff.1 hw
    split at h
    · rename_i hc
      cases h
      rw [Bool.and_eq_true] at hc
      have h1 := Nat.le_of_ble_eq_true hc.1
      have h2 := Nat.le_of_ble_eq_true hc.2
      obtain rfl := txs_eq hx
      have := join_pure xs sep (by omega) (by omega)
      exact (inl_of_pure (vs := [.d (.sl (xs.map fun s => [D.v (.string s)])) b, .v (.string sep)]) (b := b) (is := []) (by cases b <;> rfl) this (.inr rfl)).mono fun v hp nx h => h
    · cases h
  · cases hw
def prI (f : FuncId) : Pr1 := (f, fun vs => match vs with
  | [.v (.int .i64 (.ofNat i))] => match Nat.ble i 99 with
    | true => some (.v (.string ⟨(Lib.decDigits i).toArray⟩))
    | false => none
  | _ => none)
theorem itOk : Pr1OK Tryz.prog (prI 58) := by
  intro vs w hw hp nx
  simp only [prI] at hw
  split at hw
  · rename_i i
    split at hw
    · rename_i hc
      cases hw
      have := Nat.le_of_ble_eq_true hc
      exact (inl_of_pure (vs := [.v (.int .i64 (i : Int))]) (b := false) (is := []) rfl (itoa_pure i (by omega)) (.inl rfl)).mono fun v hp nx h => h
    · cases hw
  · cases hw
def primsJ : List Pr1 := prJ 57 :: prI 58 :: primsT
theorem primsJ_each : ∀ p ∈ primsJ, Pr1OK Tryz.prog p := fun p hp => by
  rcases List.mem_cons.1 hp with rfl | hp
  · exact jnOk
  · rcases List.mem_cons.1 hp with rfl | hp
    · exact itOk
    · exact primsT_each p hp
theorem primsJ_ok : PrimOK Tryz.prog (primOf primsJ) := primOf_ok _ primsJ_each
end Go.Proofs.YtjkclhcbjjnlaaaGreatDoor.Ab

/-
 slices.SortFunc of entries by mask.compare: where no two are alike there is one answer.
-/
import Derived.Test.YtgmhbmcdlkajdaaGreatDoorPca
import Derived.Test.YtgmhbmcdlkajdaaGreatDoorAbS
import Derived.Ground.SlsfProg
namespace Go.Proofs
open Go.Shelf Go.RowKit Go.Sort
def Tryz.sortFuncEntry_ren : Go.Shelf.Ren := ⟨fun | 6 => 61 | 15 => 87 | 14 => 86 | 28 => 110 | 29 => 111 | 20 => 102 | 21 => 103 | 22 => 104 | 23 => 105 | 24 => 106 | 25 => 107 | 26 => 108 | 27 => 109 | 46 => 126 | 47 => 127 | 48 => 128 | 49 => 129 | 50 => 130 | 57 => 139 | n => n, fun | 22 => 34 | 24 => 44 | 25 => 91 | 3 => 3 | 39 => 29 | 0 => 0 | 53 => 129 | 55 => 131 | 4 => 4 | 46 => 123 | 45 => 122 | 50 => 102 | 5 => 5 | 9 => 9 | 66 => 144 | 70 => 148 | 76 => 154 | 77 => 48 | n => n, fun | n => n⟩
theorem Tryz.sortFuncEntry : Go.Proofs.SlLaysF0.n6 Tryz.prog Tryz.sortFuncEntry_ren := {
 mixed := by kernel_rfl
 f6 := ⟨Tryz.f61.name, by decide, Tryz.func61.trans (congrArg some (by kernel_rfl))⟩
 f14 := ⟨Tryz.f86.name, by decide, Tryz.func86.trans (congrArg some (by kernel_rfl))⟩
 f15 := Tryz.func87.trans (congrArg some (by kernel_rfl))
 f20 := ⟨Tryz.f102.name, by decide, Tryz.func102.trans (congrArg some (by kernel_rfl))⟩
 f21 := ⟨Tryz.f103.name, by decide, Tryz.func103.trans (congrArg some (by kernel_rfl))⟩
 f22 := ⟨Tryz.f104.name, by decide, Tryz.func104.trans (congrArg some (by kernel_rfl))⟩
 f23 := ⟨Tryz.f105.name, by decide, Tryz.func105.trans (congrArg some (by kernel_rfl))⟩
 f24 := ⟨Tryz.f106.name, by decide, Tryz.func106.trans (congrArg some (by kernel_rfl))⟩
 f25 := ⟨Tryz.f107.name, by decide, Tryz.func107.trans (congrArg some (by kernel_rfl))⟩
 f26 := ⟨Tryz.f108.name, by decide, Tryz.func108.trans (congrArg some (by kernel_rfl))⟩
 f27 := ⟨Tryz.f109.name, by decide, Tryz.func109.trans (congrArg some (by kernel_rfl))⟩
 f28 := Tryz.func110.trans (congrArg some (by kernel_rfl))
 f29 := Tryz.func111.trans (congrArg some (by kernel_rfl))
 f46 := ⟨Tryz.f126.name, by decide, Tryz.func126.trans (congrArg some (by kernel_rfl))⟩
 f47 := Tryz.func127.trans (congrArg some (by kernel_rfl))
 f48 := Tryz.func128.trans (congrArg some (by kernel_rfl))
 f49 := ⟨Tryz.f129.name, by decide, Tryz.func129.trans (congrArg some (by kernel_rfl))⟩
 f50 := ⟨Tryz.f130.name, by decide, Tryz.func130.trans (congrArg some (by kernel_rfl))⟩
 f57 := ⟨Tryz.f139.name, by decide, Tryz.func139.trans (congrArg some (by kernel_rfl))⟩
 t0 := Tryz.underlying0
 a0 := Tryz.isAgg0
 z0 := Tryz.sizeOf0
 v0 := Tryz.zeroValue0
 t3 := Tryz.underlying3
 a3 := Tryz.isAgg3
 z3 := Tryz.sizeOf3
 v3 := Tryz.zeroValue3
 t4 := Tryz.underlying4
 a4 := Tryz.isAgg4
 z4 := Tryz.sizeOf4
 v4 := Tryz.zeroValue4
 t5 := Tryz.underlying5
 a5 := Tryz.isAgg5
 z5 := Tryz.sizeOf5
 v5 := Tryz.zeroValue5
 t9 := Tryz.underlying9
 a9 := Tryz.isAgg9
 z9 := Tryz.sizeOf9
 v9 := Tryz.zeroValue9
 t22 := Tryz.underlying34
 a22 := Tryz.isAgg34
 z22 := Tryz.sizeOf34
 v22 := Tryz.zeroValue34
 t25 := Tryz.underlying91
 a25 := Tryz.isAgg91
 z25 := Tryz.sizeOf91
 v25 := Tryz.zeroValue91
 t39 := Tryz.underlying29
 a39 := Tryz.isAgg29
 z39 := Tryz.sizeOf29
 v39 := Tryz.zeroValue29
 t45 := Tryz.underlying122
 a45 := Tryz.isAgg122
 z45 := Tryz.sizeOf122
 v45 := Tryz.zeroValue122
 t46 := Tryz.underlying123
 a46 := Tryz.isAgg123
 z46 := Tryz.sizeOf123
 v46 := Tryz.zeroValue123
 t50 := Tryz.underlying102
 a50 := Tryz.isAgg102
 z50 := Tryz.sizeOf102
 v50 := Tryz.zeroValue102
 t53 := Tryz.underlying129
 a53 := Tryz.isAgg129
 z53 := Tryz.sizeOf129
 v53 := Tryz.zeroValue129
 t55 := Tryz.underlying131
 a55 := Tryz.isAgg131
 z55 := Tryz.sizeOf131
 v55 := Tryz.zeroValue131
 t66 := Tryz.underlying144
 a66 := Tryz.isAgg144
 z66 := Tryz.sizeOf144
 v66 := Tryz.zeroValue144
 t70 := Tryz.underlying148
 a70 := Tryz.isAgg148
 z70 := Tryz.sizeOf148
 v70 := Tryz.zeroValue148
 t76 := Tryz.underlying154
 a76 := Tryz.isAgg154
 z76 := Tryz.sizeOf154
 v76 := Tryz.zeroValue154
 t77 := Tryz.underlying48
 a77 := Tryz.isAgg48
 z77 := Tryz.sizeOf48
 v77 := Tryz.zeroValue48 }
end Go.Proofs
namespace Go.Proofs.YtgmhbmcdlkajdaaGreatDoor.Ab
open Go.Shelf Go.RowKit Go.Sort
structure Pre {α : Type} (c : α → α → Int) : Prop where
 neg : ∀ x y, c x y = - c y x
 trans : ∀ x y z, c x y ≤ 0 → c y z ≤ 0 → c x z ≤ 0
def lex {α : Type} (c d : α → α → Int) (x y : α) : Int := if c x y = 0 then d x y else c x y
theorem Pre.lex {α : Type} {c d : α → α → Int} (hc : Pre c) (hd : Pre d) : Pre (lex c d) where
 neg x y := by
  have h1 := hc.neg x y
  have h2 := hd.neg x y
  unfold Ab.lex
  by_cases h : c x y = 0
  ·rw [if_pos h, if_pos (by omega), h2]
  ·rw [if_neg h, if_neg (by omega), h1]
 trans x y z h1 h2 := by
  have n1 := hc.neg x y
  have n2 := hc.neg y z
  have n3 := hc.neg x z
  unfold Ab.lex at *
  have a1 : c x y ≤ 0 := by
   split at h1
   ·omega
   ·exact h1
  have a2 : c y z ≤ 0 := by
   split at h2
   ·omega
   ·exact h2
  have a3 := hc.trans x y z a1 a2
  by_cases h : c x z = 0
  ·have b1 := hc.trans z x y (by omega) a1
   have b2 := hc.trans y z x a2 (by omega)
   have e1 : c x y = 0 := by omega
   have e2 : c y z = 0 := by omega
   rw [if_pos h]
   rw [if_pos e1] at h1
   rw [if_pos e2] at h2
   exact hd.trans x y z h1 h2
  ·rw [if_neg h]
   exact a3
theorem Pre.swo {α : Type} {c : α → α → Int} (h : Pre c) : SWO (ltOf c) where
 irrefl x := by
  have := h.neg x x
  exact decide_eq_false (by omega)
 trans x y z h1 h2 := by
  have h1 := of_decide_eq_true h1
  have h2 := of_decide_eq_true h2
  refine decide_eq_true ?_
  have a := h.trans x y z (by omega) (by omega)
  have b := h.neg x z
  have d := h.neg x y
  have e := h.neg y z
  by_cases h0 : c x z = 0
  ·have := h.trans z x y (by omega) (by omega)
   omega
  ·omega
 ntrans x y z h1 h2 := by
  have h1 := of_decide_eq_false h1
  have h2 := of_decide_eq_false h2
  refine decide_eq_false ?_
  have a := h.neg x y
  have b := h.neg y z
  have d := h.neg x z
  have := h.trans z y x (by omega) (by omega)
  omega
def cmI (a b : Int) : Int := if a < b then -1 else if b < a then 1 else 0
theorem pre_cmI {α : Type} (f : α → Int) : Pre (fun x y => cmI (f x) (f y)) where
 neg x y := by unfold cmI; split <;> split <;> (try split) <;> omega
 trans x y z := by unfold cmI; intro h1 h2; split at h1 <;> split at h2 <;> (try split at h1) <;> (try split at h2) <;> split <;> (try split) <;> omega
theorem pre_cmS {α : Type} (f : α → ByteArray) : Pre (fun x y => cmS (f x) (f y)) where
 neg x y := cm_neg _ _
 trans x y z h1 h2 := by
  by_cases e1 : cmS (f x) (f y) = 0
  ·rw [(cm_zero _ _).1 e1]
   exact h2
  ·by_cases e2 : cmS (f y) (f z) = 0
   ·rw [← (cm_zero _ _).1 e2]
    exact h1
   ·have := cm_trans (a := f x) (b := f y) (c := f z) (by omega) (by omega)
    omega
def cfE : GEntry → GEntry → Int := lex (fun x y => cmI (if x.default then 1 else 0) (if y.default then 1 else 0)) (lex (fun x y => cmI x.kind y.kind) (fun x y => cmS x.name y.name))
theorem pre_E : Pre cfE := (pre_cmI fun x : GEntry => if x.default then 1 else 0).lex ((pre_cmI fun x : GEntry => x.kind).lex (pre_cmS fun x : GEntry => x.name))
def srtE (xs : List GEntry) : List GEntry := xs.mergeSort fun a b => decide (cfE a b ≤ 0)
theorem pair_both {α : Type} {R : α → α → Prop} : ∀ {l : List α}, l.Pairwise R → ∀ a ∈ l, ∀ b ∈ l, a = b ∨ R a b ∨ R b a
 | [], _, a, ha, _, _ => by cases ha
 | x :: l, h, a, ha, b, hb => by
  obtain ⟨h1, h2⟩ := List.pairwise_cons.1 h
  rcases List.mem_cons.1 ha with e | ha2
  ·rcases List.mem_cons.1 hb with e2 | hb2
   ·exact .inl (e.trans e2.symm)
   ·rw [e]
    exact .inr (.inl (h1 b hb2))
  ·rcases List.mem_cons.1 hb with e2 | hb2
   ·rw [e2]
    exact .inr (.inr (h1 a ha2))
   ·exact pair_both h2 a ha2 b hb2
theorem srtE_one {xs ys : List GEntry} (hd : xs.Pairwise fun x y => cfE x y ≠ 0) (hp : ys.Perm xs) (hs : ys.Pairwise fun a b => ltOf cfE b a = false) : ys = srtE xs := by
 have tr : ∀ a b c : GEntry, decide (cfE a b ≤ 0) = true → decide (cfE b c ≤ 0) = true → decide (cfE a c ≤ 0) = true := fun a b c h1 h2 => decide_eq_true (pre_E.trans a b c (of_decide_eq_true h1) (of_decide_eq_true h2))
 have to : ∀ a b : GEntry, (decide (cfE a b ≤ 0) || decide (cfE b a ≤ 0)) = true := fun a b => by
  have := pre_E.neg a b
  simp only [Bool.or_eq_true, decide_eq_true_eq]
  omega
 refine List.Perm.eq_of_pairwise (le := fun a b => decide (cfE a b ≤ 0) = true) (fun a b ha hb h1 h2 => ?_) (hs.imp fun {a b} h => ?_) (List.pairwise_mergeSort tr to xs) (hp.trans (List.mergeSort_perm xs _).symm)
 ·have ha := hp.mem_iff.1 ha
  have hb := (List.mergeSort_perm xs _).mem_iff.1 hb
  have h1 := of_decide_eq_true h1
  have h2 := of_decide_eq_true h2
  have n := pre_E.neg a b
  rcases pair_both hd a ha b hb with e | e | e
  ·exact e
  ·exact absurd (by omega) e
  ·exact absurd (by omega) e
 ·have h := of_decide_eq_false h
  have n := pre_E.neg a b
  exact decide_eq_true (by omega)
def apartE (xs : List GEntry) : Bool := decide (xs.Pairwise fun x y => cfE x y ≠ 0)
def sort_Entry (_n : Nat) (xs : List GEntry) : Option (List GEntry) := if apartE xs && decide (0 < xs.length) && decide (xs.length ≤ 4294967296) then some (srtE xs) else none
theorem sort_Entry_len {n : Nat} {xs l : List GEntry} (h : sort_Entry n xs = some l) : xs.length = l.length := by
 unfold sort_Entry at h
 split at h
 ·cases h
  exact (List.mergeSort_perm xs _).length_eq.symm
 ·cases h
theorem flag_some (n : Nat) (b : Bool) : mask_flag n b = some (if b then 1 else 0) := by cases b <;> rfl
theorem cmpI_some (n : Nat) (x y : Int) : cmp_Compare n x y = some (cmI x y) := by
 unfold cmp_Compare cmp_isNaN cmI
 rw [show (x != x) = false by simp, show (y != y) = false by simp, Zo, Zo, if_neg (by decide), if_neg (by decide)]
 by_cases h : x < y
 ·rw [decide_eq_true h, if_pos rfl, if_pos h]
 ·rw [decide_eq_false h, if_neg (by decide), if_neg h]
  by_cases h2 : y < x
  ·rw [decide_eq_true h2, if_pos rfl, if_pos h2]
  ·rw [decide_eq_false h2, if_neg (by decide), if_neg h2]
theorem or3 (a b c : Int) : cmp_Or 100 [a, b, c] = some (if a = 0 then (if b = 0 then c else b) else a) := by
 have hL : cmp_Or_L1 100 [a, b, c] 100 0 = _ := cmp_Or_L1_list 100 [a, b, c] (by simp) 100 () 0 (by simp) (by simp)
 unfold cmp_Or
 rw [hL, List.drop_zero]
 simp only [foldK, cmp_Or_L1_f, cmp_Or_L1_e]
 by_cases h1 : a = 0 <;> by_cases h2 : b = 0 <;> by_cases h3 : c = 0 <;> simp [h1, h2, h3]
theorem cmp_pureE (x y : GEntry) : PureOK Tryz.prog 62 [.ag (eGEntry x), .ag (eGEntry y)] (.v (.int .i64 (cfE x y))) true := mask_compare_ok (n := 100) (by
 unfold mask_compare
 rw [flag_some, Zo, flag_some, Zo, cmpI_some, Zo, cmpI_some, Zo, show strings_Compare 100 x.name y.name = some (cmS x.name y.name) from rfl, Zo, or3]
 rfl)
theorem enSortE : Enters Tryz.prog 61 := ⟨_, Tryz.func61, by kernel_rfl, by kernel_rfl⟩
theorem sort_Entry_in {n : Nat} {xs l : List GEntry} (h : sort_Entry n xs = some l) {id ver : Nat} {br : Bool} {hp : Hp} {nx : Nat} (hi : hp id = some (.rw (xs.map eGEntry) 4 ver br false)) :
  InlOK Tryz.prog 61 [.so id ver 0 xs.length, .fn 62 []] hp nx fun v hp2 nx2 => v = .tu [] ∧ hp2 = upd id (some (.rw (l.map eGEntry) 4 ver br false)) hp ∧ nx2 = nx := by
 unfold sort_Entry at h
 split at h
 ·rename_i hc
  simp only [Bool.and_eq_true, decide_eq_true_eq] at hc
  obtain ⟨⟨h1, h2⟩, h3⟩ := hc
  cases h
  have h := sort_inl (encD := eGEntry) (k := 4) (br := br) (nx := nx) Tryz.sortFuncEntry (fun w => by kernel_rfl) (fun w => by kernel_rfl) (fun _ => rfl) cfE pre_E.swo rfl enSortE (enters_of Tryz.func62 (by kernel_rfl) rfl) cmp_pureE xs (by rintro rfl; simp at h2) (by omega) hi
  refine h.mono ?_
  rintro v hp2 nx2 ⟨rfl, rfl, ys, k1, k2, k3⟩
  rw [srtE_one (of_decide_eq_true h1) k1 k2] at k3
  exact ⟨rfl, k3, rfl⟩
 ·cases h
theorem sort_Entry_0 {b : Bool} {hp : Hp} {nx : Nat} : InlOK Tryz.prog 61 [.d (.sl []) b, .fn 62 []] hp nx fun v hp2 nx2 => v = .tu [] ∧ hp2 = hp ∧ nx2 = nx := by
 refine ⟨enSortE, fun g c args hhp hkn hr hsz hargs => ?_⟩
 obtain ⟨u0, a0, b0⟩ := hargs 0 _ rfl
 obtain ⟨u1, a1, b1⟩ := hargs 1 _ rfl
 have e0 : ∃ a k, u0 = .slice a 0 k := by
  cases (show RA g c (.d (.sl []) b) u0 from b0) with
  | d _ _ _ hr => cases hr with
   | nl a k => exact ⟨a, k, rfl⟩
   | sl _ b o k => exact ⟨_, _, rfl⟩
 obtain ⟨a, k, rfl⟩ := e0
 have hu1 : u1 = .func (.func 62) #[] #[] := by
  cases (show RA g c (.fn 62 []) u1 from b1) with
  | fn _ _ us n hn' _ =>
   simp only [List.length_nil] at hn'
   subst hn'
   rfl
 subst hu1
 have hargs2 : args = #[.slice a 0 k, .func (.func 62) #[] #[]] := by
  have hsz2 : args.size = 2 := by simpa using hsz
  apply Array.ext
  ·simpa using hsz2
  ·intro j h1 h2
   have hj : j = 0 ∨ j = 1 := by omega
   rcases hj with rfl | rfl
   ·simpa [h1] using a0
   ·simpa [h1] using a1
 subst hargs2
 have hcon := AnyF.slices_SortFunc_none Tryz.sortFuncEntry a k (.func (.func 62) #[] #[]) c.w
 change Calls Tryz.prog 61 _ _ _ at hcon
 refine hcon.mono ?_
 rintro e w' ⟨rfl, rfl⟩
 exact ⟨.tuple #[], .tu [], c, nx, rfl, ⟨rfl, hhp, rfl⟩, rfl, Ext.refl c, hr, ⟨#[], rfl, rfl, fun j x e => by simp at e⟩, Nat.le_refl _, fun i h => .inl h⟩
end Go.Proofs.YtgmhbmcdlkajdaaGreatDoor.Ab

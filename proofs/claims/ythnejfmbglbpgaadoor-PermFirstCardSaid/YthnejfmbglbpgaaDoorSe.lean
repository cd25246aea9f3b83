/-
  slices.SortFunc of entries by mask.compare: where no two are alike there is one answer.
-/
import Derived.Test.YthnejfmbglbpgaaDoorPca
import Derived.Test.YthnejfmbglbpgaaDoorKs
import Derived.Test.YthnejfmbglbpgaaDoorAbS
import Derived.Ground.SlsfProg
namespace Go.Proofs
open Go.Shelf Go.RowKit Go.Sort
def Tryd.sortFuncEntry_ren : Go.Shelf.Ren := ⟨fun | 6 => 22 | 15 => 35 | 14 => 34 | 28 => 60 | 29 => 61 | 20 => 52 | 21 => 53 | 22 => 54 | 23 => 55 | 24 => 56 | 25 => 57 | 26 => 58 | 27 => 59 | 46 => 73 | 47 => 74 | 48 => 75 | 49 => 76 | 50 => 77 | 57 => 82 | n => n, fun | 22 => 26 | 24 => 25 | 25 => 52 | 3 => 3 | 39 => 22 | 0 => 0 | 53 => 91 | 55 => 93 | 4 => 4 | 46 => 84 | 45 => 83 | 50 => 88 | 5 => 5 | 9 => 9 | 66 => 103 | 70 => 107 | 76 => 110 | 77 => 111 | n => n, fun | n => n⟩
theorem Tryd.sortFuncEntry : Go.Proofs.SlLaysF0.n6 Tryd.prog Tryd.sortFuncEntry_ren := {
  mixed := by kernel_rfl
  f6 := ⟨Tryd.f22.name, by decide, Tryd.func22.trans (congrArg some (by kernel_rfl))⟩
  f14 := ⟨Tryd.f34.name, by decide, Tryd.func34.trans (congrArg some (by kernel_rfl))⟩
  f15 := Tryd.func35.trans (congrArg some (by kernel_rfl))
  f20 := ⟨Tryd.f52.name, by decide, Tryd.func52.trans (congrArg some (by kernel_rfl))⟩
  f21 := ⟨Tryd.f53.name, by decide, Tryd.func53.trans (congrArg some (by kernel_rfl))⟩
  f22 := ⟨Tryd.f54.name, by decide, Tryd.func54.trans (congrArg some (by kernel_rfl))⟩
  f23 := ⟨Tryd.f55.name, by decide, Tryd.func55.trans (congrArg some (by kernel_rfl))⟩
  f24 := ⟨Tryd.f56.name, by decide, Tryd.func56.trans (congrArg some (by kernel_rfl))⟩
  f25 := ⟨Tryd.f57.name, by decide, Tryd.func57.trans (congrArg some (by kernel_rfl))⟩
  f26 := ⟨Tryd.f58.name, by decide, Tryd.func58.trans (congrArg some (by kernel_rfl))⟩
  f27 := ⟨Tryd.f59.name, by decide, Tryd.func59.trans (congrArg some (by kernel_rfl))⟩
  f28 := Tryd.func60.trans (congrArg some (by kernel_rfl))
  f29 := Tryd.func61.trans (congrArg some (by kernel_rfl))
  f46 := ⟨Tryd.f73.name, by decide, Tryd.func73.trans (congrArg some (by kernel_rfl))⟩
  f47 := Tryd.func74.trans (congrArg some (by kernel_rfl))
  f48 := Tryd.func75.trans (congrArg some (by kernel_rfl))
  f49 := ⟨Tryd.f76.name, by decide, Tryd.func76.trans (congrArg some (by kernel_rfl))⟩
  f50 := ⟨Tryd.f77.name, by decide, Tryd.func77.trans (congrArg some (by kernel_rfl))⟩
  f57 := ⟨Tryd.f82.name, by decide, Tryd.func82.trans (congrArg some (by kernel_rfl))⟩
  t0 := Tryd.underlying0
  a0 := Tryd.isAgg0
  z0 := Tryd.sizeOf0
  v0 := Tryd.zeroValue0
  t3 := Tryd.underlying3
  a3 := Tryd.isAgg3
  z3 := Tryd.sizeOf3
  v3 := Tryd.zeroValue3
  t4 := Tryd.underlying4
  a4 := Tryd.isAgg4
  z4 := Tryd.sizeOf4
  v4 := Tryd.zeroValue4
  t5 := Tryd.underlying5
  a5 := Tryd.isAgg5
  z5 := Tryd.sizeOf5
  v5 := Tryd.zeroValue5
  t9 := Tryd.underlying9
  a9 := Tryd.isAgg9
  z9 := Tryd.sizeOf9
  v9 := Tryd.zeroValue9
  t22 := Tryd.underlying26
  a22 := Tryd.isAgg26
  z22 := Tryd.sizeOf26
  v22 := Tryd.zeroValue26
  t25 := Tryd.underlying52
  a25 := Tryd.isAgg52
  z25 := Tryd.sizeOf52
  v25 := Tryd.zeroValue52
  t39 := Tryd.underlying22
  a39 := Tryd.isAgg22
  z39 := Tryd.sizeOf22
  v39 := Tryd.zeroValue22
  t45 := Tryd.underlying83
  a45 := Tryd.isAgg83
  z45 := Tryd.sizeOf83
  v45 := Tryd.zeroValue83
  t46 := Tryd.underlying84
  a46 := Tryd.isAgg84
  z46 := Tryd.sizeOf84
  v46 := Tryd.zeroValue84
  t50 := Tryd.underlying88
  a50 := Tryd.isAgg88
  z50 := Tryd.sizeOf88
  v50 := Tryd.zeroValue88
  t53 := Tryd.underlying91
  a53 := Tryd.isAgg91
  z53 := Tryd.sizeOf91
  v53 := Tryd.zeroValue91
  t55 := Tryd.underlying93
  a55 := Tryd.isAgg93
  z55 := Tryd.sizeOf93
  v55 := Tryd.zeroValue93
  t66 := Tryd.underlying103
  a66 := Tryd.isAgg103
  z66 := Tryd.sizeOf103
  v66 := Tryd.zeroValue103
  t70 := Tryd.underlying107
  a70 := Tryd.isAgg107
  z70 := Tryd.sizeOf107
  v70 := Tryd.zeroValue107
  t76 := Tryd.underlying110
  a76 := Tryd.isAgg110
  z76 := Tryd.sizeOf110
  v76 := Tryd.zeroValue110
  t77 := Tryd.underlying111
  a77 := Tryd.isAgg111
  z77 := Tryd.sizeOf111
  v77 := Tryd.zeroValue111 }
end Go.Proofs
namespace Go.Proofs.YthnejfmbglbpgaaDoor.Ab
open Go.Shelf Go.RowKit Go.Sort
/-! ### orders, one behind the other -/
structure Pre {α : Type} (c : α → α → Int) : Prop where
  neg : ∀ x y, c x y = - c y x
  trans : ∀ x y z, c x y ≤ 0 → c y z ≤ 0 → c x z ≤ 0
def lex {α : Type} (c d : α → α → Int) (x y : α) : Int := if c x y = 0 then d x y else c x y
theorem Pre.lex {α : Type} {c d : α → α → Int} (hc : Pre c) (hd : Pre d) : Pre (lex c d) where
  neg x y := by
    have h1 := hc.neg x y
    have h2 := hd.neg x y
    unfold Ab.lex
    by_cases h : c x y = 0
    · rw [if_pos h, if_pos (by omega), h2]
    · rw [if_neg h, if_neg (by omega), h1]
  trans x y z h1 h2 := by
    have n1 := hc.neg x y
    have n2 := hc.neg y z
    have n3 := hc.neg x z
    unfold Ab.lex at *
    have a1 : c x y ≤ 0 := by
      split at h1
      · omega
      · exact h1
    have a2 : c y z ≤ 0 := by
      split at h2
      · omega
      · exact h2
    have a3 := hc.trans x y z a1 a2
    by_cases h : c x z = 0
    · have b1 := hc.trans z x y (by omega) a1
      have b2 := hc.trans y z x a2 (by omega)
      have e1 : c x y = 0 := by omega
      have e2 : c y z = 0 := by omega
      rw [if_pos h]
      rw [if_pos e1] at h1
      rw [if_pos e2] at h2
      exact hd.trans x y z h1 h2
    · rw [if_neg h]
      exact a3
theorem Pre.swo {α : Type} {c : α → α → Int} (h : Pre c) : SWO (ltOf c) where
  irrefl x := by
    have := h.neg x x
    exact decide_eq_false (by omega)
  trans x y z h1 h2 := by
    have h1 := of_decide_eq_true h1
    have h2 := of_decide_eq_true h2
    refine decide_eq_true ?_
    have a := h.trans x y z (by omega) (by omega)
    have b := h.neg x z
    have d := h.neg x y
    have e := h.neg y z
    by_cases h0 : c x z = 0
    · have := h.trans z x y (by omega) (by omega)
      omega
    · omega
  ntrans x y z h1 h2 := by
    have h1 := of_decide_eq_false h1
    have h2 := of_decide_eq_false h2
    refine decide_eq_false ?_
    have a := h.neg x y
    have b := h.neg y z
    have d := h.neg x z
    have := h.trans z y x (by omega) (by omega)
    omega
/-- How numbers stand to each other. -/
def cmI (a b : Int) : Int := if a < b then -1 else if b < a then 1 else 0
theorem pre_cmI {α : Type} (f : α → Int) : Pre (fun x y => cmI (f x) (f y)) where
  neg x y := by unfold cmI; split <;> split <;> (try split) <;> omega
  trans x y z := by unfold cmI; intro h1 h2; split at h1 <;> split at h2 <;> (try split at h1) <;> (try split at h2) <;> split <;> (try split) <;> omega
theorem pre_cmS {α : Type} (f : α → ByteArray) : Pre (fun x y => cmS (f x) (f y)) where
  neg x y := cm_neg _ _
  trans x y z h1 h2 := by
    by_cases e1 : cmS (f x) (f y) = 0
    · rw [(cm_zero _ _).1 e1]
      exact h2
    · by_cases e2 : cmS (f y) (f z) = 0
      · rw [← (cm_zero _ _).1 e2]
        exact h1
      · have := cm_trans (a := f x) (b := f y) (c := f z) (by omega) (by omega)
        omega
def cfE : GEntry → GEntry → Int := lex (fun x y => cmI (if x.default then 1 else 0) (if y.default then 1 else 0)) (lex (fun x y => cmI x.kind y.kind) (fun x y => cmS x.name y.name))
theorem pre_E : Pre cfE := (pre_cmI fun x : GEntry => if x.default then 1 else 0).lex ((pre_cmI fun x : GEntry => x.kind).lex (pre_cmS fun x : GEntry => x.name))
/-! ### the sort -/
def srtE (xs : List GEntry) : List GEntry := xs.mergeSort fun a b => decide (cfE a b ≤ 0)
theorem pair_both {α : Type} {R : α → α → Prop} : ∀ {l : List α}, l.Pairwise R → ∀ a ∈ l, ∀ b ∈ l, a = b ∨ R a b ∨ R b a
  | [], _, a, ha, _, _ => by cases ha
  | x :: l, h, a, ha, b, hb => by
    obtain ⟨h1, h2⟩ := List.pairwise_cons.1 h
    rcases List.mem_cons.1 ha with e | ha2
    · rcases List.mem_cons.1 hb with e2 | hb2
      · exact .inl (e.trans e2.symm)
      · rw [e]
        exact .inr (.inl (h1 b hb2))
    · rcases List.mem_cons.1 hb with e2 | hb2
      · rw [e2]
        exact .inr (.inr (h1 a ha2))
      · exact pair_both h2 a ha2 b hb2
theorem srtE_one {xs ys : List GEntry} (hd : xs.Pairwise fun x y => cfE x y ≠ 0) (hp : ys.Perm xs) (hs : ys.Pairwise fun a b => ltOf cfE b a = false) : ys = srtE xs := by
  have tr : ∀ a b c : GEntry, decide (cfE a b ≤ 0) = true → decide (cfE b c ≤ 0) = true → decide (cfE a c ≤ 0) = true := fun a b c h1 h2 => decide_eq_true (pre_E.trans a b c (of_decide_eq_true h1) (of_decide_eq_true h2))
  have to : ∀ a b : GEntry, (decide (cfE a b ≤ 0) || decide (cfE b a ≤ 0)) = true := fun a b => by
    have := pre_E.neg a b
    simp only [Bool.or_eq_true, decide_eq_true_eq]
    omega
  refine List.Perm.eq_of_pairwise (le := fun a b => decide (cfE a b ≤ 0) = true) (fun a b ha hb h1 h2 => ?_) (hs.imp fun {a b} h => ?_) (List.pairwise_mergeSort tr to xs) (hp.trans (List.mergeSort_perm xs _).symm)
  · have ha := hp.mem_iff.1 ha
    have hb := (List.mergeSort_perm xs _).mem_iff.1 hb
    have h1 := of_decide_eq_true h1
    have h2 := of_decide_eq_true h2
    have n := pre_E.neg a b
    rcases pair_both hd a ha b hb with e | e | e
    · exact e
    · exact absurd (by omega) e
    · exact absurd (by omega) e
  · have h := of_decide_eq_false h
    have n := pre_E.neg a b
    exact decide_eq_true (by omega)
/-- Where no two are alike. -/
def apartE (xs : List GEntry) : Bool := decide (xs.Pairwise fun x y => cfE x y ≠ 0)
def sort_Entry (_n : Nat) (xs : List GEntry) : Option (List GEntry) := if apartE xs && decide (0 < xs.length) && decide (xs.length ≤ 4294967296) then some (srtE xs) else none
theorem sort_Entry_len {n : Nat} {xs l : List GEntry} (h : sort_Entry n xs = some l) : xs.length = l.length := by
  unfold sort_Entry at h
  split at h
  · cases h
    exact (List.mergeSort_perm xs _).length_eq.symm
  · cases h
theorem flag_some (n : Nat) (b : Bool) : mask_flag n b = some (if b then 1 else 0) := by cases b <;> rfl
theorem cmpI_some (n : Nat) (x y : Int) : cmp_Compare n x y = some (cmI x y) := by
  unfold cmp_Compare cmp_isNaN cmI
  rw [show (x != x) = false by simp, show (y != y) = false by simp, Option.bind_some, Option.bind_some, if_neg (by decide), if_neg (by decide)]
  by_cases h : x < y
  · rw [decide_eq_true h, if_pos rfl, if_pos h]
  · rw [decide_eq_false h, if_neg (by decide), if_neg h]
    by_cases h2 : y < x
    · rw [decide_eq_true h2, if_pos rfl, if_pos h2]
    · rw [decide_eq_false h2, if_neg (by decide), if_neg h2]
theorem or3 (a b c : Int) : cmp_Or 100 [a, b, c] = some (if a = 0 then (if b = 0 then c else b) else a) := by
  have hL : cmp_Or_L1 100 [a, b, c] 100 0 = _ := cmp_Or_L1_list 100 [a, b, c] (by simp) 100 () 0 (by simp) (by simp)
  unfold cmp_Or
  rw [hL, List.drop_zero]
  simp only [foldK, cmp_Or_L1_f, cmp_Or_L1_e]
  by_cases h1 : a = 0 <;> by_cases h2 : b = 0 <;> by_cases h3 : c = 0 <;> simp [h1, h2, h3]
theorem cmp_pureE (x y : GEntry) : PureOK Tryd.prog 23 [.ag (eGEntry x), .ag (eGEntry y)] (.v (.int .i64 (cfE x y))) true := mask_compare_ok (n := 100) (by
  unfold mask_compare
  rw [flag_some, Option.bind_some, flag_some, Option.bind_some, cmpI_some, Option.bind_some, cmpI_some, Option.bind_some, show strings_Compare 100 x.name y.name = some (cmS x.name y.name) from rfl, Option.bind_some, or3]
  rfl)
theorem enSortE : Enters Tryd.prog 22 := ⟨_, Tryd.func22, by kernel_rfl, by kernel_rfl⟩
theorem sort_Entry_in {n : Nat} {xs l : List GEntry} (h : sort_Entry n xs = some l) {id ver : Nat} {br : Bool} {hp : Hp} {nx : Nat} (hi : hp id = some (.rw (xs.map eGEntry) 4 ver br false)) :
    InlOK Tryd.prog 22 [.so id ver 0 xs.length, .fn 23 []] hp nx fun v hp2 nx2 => v = .tu [] ∧ hp2 = upd id (some (.rw (l.map eGEntry) 4 ver br false)) hp ∧ nx2 = nx := by
  unfold sort_Entry at h
  split at h
  · rename_i hc
    simp only [Bool.and_eq_true, decide_eq_true_eq] at hc
    obtain ⟨⟨h1, h2⟩, h3⟩ := hc
    cases h
    have h := sort_inl (encD := eGEntry) (k := 4) (br := br) (nx := nx) Tryd.sortFuncEntry (fun w => by kernel_rfl) (fun w => by kernel_rfl) (fun _ => rfl) cfE pre_E.swo rfl enSortE (enters_of Tryd.func23 (by kernel_rfl) rfl) cmp_pureE xs (by rintro rfl; simp at h2) (by omega) hi
    refine h.mono ?_
    rintro v hp2 nx2 ⟨rfl, rfl, ys, k1, k2, k3⟩
    rw [srtE_one (of_decide_eq_true h1) k1 k2] at k3
    exact ⟨rfl, k3, rfl⟩
  · cases h
theorem sort_Entry_0 {b : Bool} {hp : Hp} {nx : Nat} : InlOK Tryd.prog 22 [.d (.sl []) b, .fn 23 []] hp nx fun v hp2 nx2 => v = .tu [] ∧ hp2 = hp ∧ nx2 = nx := by
  refine ⟨enSortE, fun g c args hhp hkn hr hsz hargs => ?_⟩
  obtain ⟨u0, a0, b0⟩ := hargs 0 _ rfl
  obtain ⟨u1, a1, b1⟩ := hargs 1 _ rfl
  have e0 : ∃ a k, u0 = .slice a 0 k := by
    cases (show RA g c (.d (.sl []) b) u0 from b0) with
    | d _ _ _ hr => cases hr with
      | nl a k => exact ⟨a, k, rfl⟩
      | sl _ b o k => exact ⟨_, _, rfl⟩
  obtain ⟨a, k, rfl⟩ := e0
  have hu1 : u1 = .func (.func 23) #[] #[] := by
    cases (show RA g c (.fn 23 []) u1 from b1) with
    | fn _ _ us n hn' _ =>
      simp only [List.length_nil] at hn'
      subst hn'
      rfl
  subst hu1
  have hargs2 : args = #[.slice a 0 k, .func (.func 23) #[] #[]] := by
    have hsz2 : args.size = 2 := by simpa using hsz
    apply Array.ext
    · simpa using hsz2
    · intro j h1 h2
      have hj : j = 0 ∨ j = 1 := by omega
      rcases hj with rfl | rfl
      · simpa [h1] using a0
      · simpa [h1] using a1
  subst hargs2
  have hcon := AnyF.slices_SortFunc_none Tryd.sortFuncEntry a k (.func (.func 23) #[] #[]) c.w
  change Calls Tryd.prog 22 _ _ _ at hcon
  refine hcon.mono ?_
  rintro e w' ⟨rfl, rfl⟩
  exact ⟨.tuple #[], .tu [], c, nx, rfl, ⟨rfl, hhp, rfl⟩, rfl, Ext.refl c, hr, ⟨#[], rfl, rfl, fun j x e => by simp at e⟩, Nat.le_refl _, fun i h => .inl h⟩
end Go.Proofs.YthnejfmbglbpgaaDoor.Ab

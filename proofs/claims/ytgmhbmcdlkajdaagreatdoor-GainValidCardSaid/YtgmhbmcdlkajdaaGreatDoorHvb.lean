/-
 A row of makings, one in the other: each stands, and all stays valid. No program in sight.
-/
import Derived.Test.YtgmhbmcdlkajdaaGreatDoorHva
import Derived.Test.YtgmhbmcdlkajdaaGreatDoorGva
namespace Go.Proofs.YtgmhbmcdlkajdaaGreatDoor.Ab
open Go.RowKit
def mP : Nat → List UInt8
 | 0 => []
 | i + 1 => mP i ++ [47, 109, 48 + UInt8.ofNat i]
def mD (i : Nat) : ByteArray := bA (mP i)
def mF (i : Nat) : ByteArray := bA (mP i ++ [47, 102])
def upD (i : Nat) : ByteArray := if i = 0 then bA [47] else mD i
theorem upS (i : Nat) : upD (i + 1) = mD (i + 1) := rfl
theorem chain_facts : ∀ i < 8, (pathL (mP (i + 1)) = true ∧ pathL (mP (i + 1) ++ [47, 102]) = true) ∧ (mD (i + 1) ≠ bA [47] ∧ mF (i + 1) ≠ bA [47]) ∧ (mD (i + 1) ∈ newP ∧ mF (i + 1) ∈ newP) ∧ mD (i + 1) ≠ mF (i + 1) ∧ (mD i).size ≤ 30 ∧ ((mD (i + 1)).size ≤ 30 ∧ (mF (i + 1)).size ≤ 30) := of_decide_eq_true (by kernel_rfl)
theorem chain_apart : ∀ j < 8, ∀ i < j, (mD (i + 1) ≠ mD (j + 1) ∧ mD (i + 1) ≠ mF (j + 1)) ∧ (mF (i + 1) ≠ mD (j + 1) ∧ mF (i + 1) ≠ mF (j + 1)) := of_decide_eq_true (by kernel_rfl)
theorem chain_cat : ∀ i < 8, ((mD i ++ { data := #[47, 109] }) ++ ({ data := #[UInt8.ofNat (Int.toNat (IntKind.u8.wrap (48 + (IntKind.u8.wrap (i : Int)))))] } : ByteArray) = mD (i + 1)) ∧ mD (i + 1) ++ ({ data := #[47, 102] } : ByteArray) = mF (i + 1) := of_decide_eq_true (by kernel_rfl)
theorem chain_up : ∀ i < 8, parentT (mD (i + 1)) = upD i ∧ parentT (mF (i + 1)) = mD (i + 1)
 | 0, _ => ⟨by kernel_rfl, by kernel_rfl⟩
 | 1, _ => ⟨by kernel_rfl, by kernel_rfl⟩
 | 2, _ => ⟨by kernel_rfl, by kernel_rfl⟩
 | 3, _ => ⟨by kernel_rfl, by kernel_rfl⟩
 | 4, _ => ⟨by kernel_rfl, by kernel_rfl⟩
 | 5, _ => ⟨by kernel_rfl, by kernel_rfl⟩
 | 6, _ => ⟨by kernel_rfl, by kernel_rfl⟩
 | 7, _ => ⟨by kernel_rfl, by kernel_rfl⟩
 | i + 8, h => by omega
structure Chn (i : Nat) (f : List GFile) : Prop where
 good : GoodL f
 len : f.length ≤ 6000 + 2 * i
 tu : ∀ u ∈ [pU, pV, pW], toldB f 1 u = true
 tg : ∀ g ∈ [pG, pH], toldB f 2 g = true
 later : ∀ x ∈ f, ∀ j, i ≤ j → j < 8 → x.name ≠ mD (j + 1) ∧ x.name ≠ mF (j + 1)
 up : ∃ X, findF f (upD i) = (X, true) ∧ X.kind = 3 ∧ (defE X.acl).length ≤ 16
theorem bad_new {l : List GFile} {X : GFile} (hu : unknownB l X = false) (hi : itemB X = true) {mode : Int} {dir : Bool} : ∀ e ∈ newE mode dir (defE X.acl), badE l e = false := by
 have h0 : X.acl.any (badE l) = false := by
  unfold unknownB at hu
  rw [hi, Bool.true_and] at hu
  exact (Bool.or_eq_false_iff.1 (Bool.or_eq_false_iff.1 hu).2).2
 have h5 : ∀ {d : Bool} {es : List GEntry}, ∀ e ∈ maskE d es, badE l e = false := fun {d es} e he => by
  unfold maskE at he
  split at he
  ·cases he
  ·rw [List.mem_singleton.1 he]
   rfl
 have hd : ∀ e ∈ defE X.acl, badE l e = false := fun e he => by
  have := (allE_perm X.acl).mem_iff.1 (mem_fl.1 he).1
  rcases List.mem_append.1 this with h | h
  ·exact Bool.eq_false_iff.2 (List.any_eq_false.1 h0 e h)
  ·rcases List.mem_append.1 h with h | h
   ·exact h5 e h
   ·split at h
    ·cases h
    ·exact h5 e h
 intro e he
 unfold newE at he
 rcases List.mem_append.1 he with h | h
 ·unfold ownE at h
  split at h
  ·unfold plainE at h
   simp only [List.mem_cons, List.not_mem_nil, or_false] at h
   rcases h with rfl | rfl | rfl | rfl <;> rfl
  ·obtain ⟨y, hy, rfl⟩ := List.mem_map.1 h
   exact hd y hy
 ·split at h
  ·exact hd e h
  ·cases h
theorem item_new {l : List GFile} (hg : GoodL l) {X : GFile} (hX : X ∈ l) (hk : X.kind = 3) (hd : (defE X.acl).length ≤ 16) {p o g : ByteArray} (hp : pathL p.data.toList = true) (hp2 : p ≠ bA [47]) (hz : p.size ≤ 30) (hup : parentT p = X.name) (ho : toldB l 1 o = true) (hgr : toldB l 2 g = true) {mode : Int} {dir : Bool} (hn : ∀ x ∈ l, x.name ≠ p) : GoodL (l ++ [⟨if dir then 3 else 4, p, [], o, g, newE mode dir (defE X.acl), 0⟩]) := by
 have hi : itemB X = true := decide_eq_true (by omega)
 have hok := oke_item hg hX hi
 obtain ⟨k1, k2, k3, k4⟩ := new_ok2 (mode := mode) (dir := dir) hok hd
 have hT : toldB l 3 (parentT p) = true := by
  rw [hup]
  exact List.any_eq_true.2 ⟨X, hX, by rw [hk, decide_eq_true rfl]; rfl⟩
 have hb := bad_new (mode := mode) (dir := dir) (hg.2.known X hX) hi
 have hdef : dir = false → ∀ e ∈ newE mode dir (defE X.acl), e.default = false := fun h e he => by
  subst h
  obtain ⟨h1, h2, h3, h4, _⟩ := def_ok hok
  obtain ⟨_, o2, _⟩ := own_ok (mode := mode) h1 h2 h3 h4
  unfold newE at he
  rw [if_neg (by decide), List.append_nil] at he
  exact o2 e he
 generalize newE mode dir (defE X.acl) = A at k1 k2 k3 hb hdef
 have hiz : itemB ⟨if dir then 3 else 4, p, [], o, g, A, 0⟩ = true := by cases dir <;> rfl
 refine good_app hg ⟨?_, fun _ => hp, (oke_iff k1).1, by dsimp only; omega, Nat.zero_le _, by dsimp only; omega⟩ hn ?_ ?_ ?_
 ·cases dir
  ·exact ⟨show (1 : Int) ≤ 4 by decide, show (4 : Int) ≤ 4 by decide⟩
  ·exact ⟨show (1 : Int) ≤ 3 by decide, show (3 : Int) ≤ 4 by decide⟩
 ·unfold unknownB
  rw [hiz]
  dsimp only
  rw [ho, hgr, show A.any (badE l) = false from List.any_eq_false.2 fun e he => by rw [hb e he]; decide]
  rfl
 ·unfold okItem
  rw [hiz]
  dsimp only
  rw [k1]
  cases dir with
  | true => rfl
  | false =>
   rw [lastD_false (hdef rfl)]
   rfl
 ·unfold okPlace
  dsimp only
  rw [show decide (p = { data := #[47] }) = false from decide_eq_false hp2, if_neg (by decide), hT, Bool.or_true]
theorem chn_step {i : Nat} {f : List GFile} (h : Chn i f) (hi : i < 8) {o g : ByteArray} (ho : o ∈ [pU, pV, pW]) (hg : g ∈ [pG, pH]) {m m2 : Int} (hm : 0 ≤ m ∧ m ≤ 511) (hm2 : 0 ≤ m2 ∧ m2 ≤ 511) :
  ∃ x y, gain_New NF f true (mD (i + 1)) o g m = some (x, 0) ∧ gain_New NF (f ++ [x]) false (mF (i + 1)) pU pG m2 = some (y, 0) ∧ Chn (i + 1) (f ++ [x, y]) ∧ ∃ v, gain_New NF (f ++ [x, y]) true (mD (i + 1)) pU pG 0 = some (v, 11) := by
 obtain ⟨⟨c1, c2⟩, ⟨c3, c4⟩, _, c7, _, c8, c9⟩ := chain_facts i hi
 obtain ⟨u1, u2⟩ := chain_up i hi
 obtain ⟨X, hX, hk, hd⟩ := h.up
 have hlen := h.len
 have hX1 : X ∈ f ∧ itemB X = true ∧ X.name = upD i := by
  have := findF_mem (l := f) (p := upD i) (by rw [hX])
  rw [hX] at this
  exact this
 have n1 : ∀ x ∈ f, x.name ≠ mD (i + 1) := fun x hx => (h.later x hx i (Nat.le_refl _) hi).1
 have n2 : ∀ x ∈ f, x.name ≠ mF (i + 1) := fun x hx => (h.later x hx i (Nat.le_refl _) hi).2
 have e1 := new_gen h.good (by omega) (p := mD (i + 1)) c1 c3 ho hg true hm (findF_none n1) (X := X) (by rw [u1]; exact hX) hk hd
 rw [if_pos rfl] at e1
 have g1 := item_new h.good hX1.1 hk hd (p := mD (i + 1)) (o := o) (g := g) c1 c3 c8 (by rw [u1, hX1.2.2]) (h.tu o ho) (h.tg g hg) (mode := m) (dir := true) n1
 obtain ⟨k1, k2, k3, k4⟩ := new_ok2 (mode := m) (dir := true) (oke_item h.good hX1.1 hX1.2.1) hd
 rw [if_pos rfl] at g1 k4
 generalize hx : (⟨3, mD (i + 1), [], o, g, newE m true (defE X.acl), 0⟩ : GFile) = x at e1 g1
 have xk : x.kind = 3 := by rw [← hx]
 have xn : x.name = mD (i + 1) := by rw [← hx]
 have xd : (defE x.acl).length ≤ 16 := by
  rw [← hx]
  dsimp only
  rw [k4]
  exact hd
 have xi : itemB x = true := by
  unfold itemB
  rw [xk]
  decide
 have hfx : findF (f ++ [x]) (mD (i + 1)) = (x, true) := findF_new n1 xi xn
 have n3 : ∀ z ∈ f ++ [x], z.name ≠ mF (i + 1) := fun z hz => by
  rcases List.mem_append.1 hz with hz | hz
  ·exact n2 z hz
  ·rw [List.mem_singleton.1 hz, xn]
   exact c7
 have hl1 : (f ++ [x]).length = f.length + 1 := by simp
 have hxm : x ∈ f ++ [x] := by simp
 have e2 := new_gen g1 (by omega) (p := mF (i + 1)) c2 c4 (o := pU) (g := pG) (by decide) (by decide) false hm2 (findF_none n3) (X := x) (by rw [u2]; exact hfx) xk xd
 rw [if_neg (by decide)] at e2
 have g2 := item_new g1 hxm xk xd (p := mF (i + 1)) (o := pU) (g := pG) c2 c4 c9 (by rw [u2, xn]) (told_app (h.tu _ (by decide))) (told_app (h.tg _ (by decide))) (mode := m2) (dir := false) n3
 rw [if_neg (by decide)] at g2
 generalize hy : (⟨4, mF (i + 1), [], pU, pG, newE m2 false (defE x.acl), 0⟩ : GFile) = y at e2 g2
 have yn : y.name = mF (i + 1) := by rw [← hy]
 have hap : f ++ [x, y] = (f ++ [x]) ++ [y] := by simp
 have hf2 : findF (f ++ [x, y]) (mD (i + 1)) = (x, true) := by
  rw [hap, findF_app_no (by rw [hfx]), hfx]
 rw [← hap] at g2
 have hl2 : (f ++ [x, y]).length = f.length + 2 := by simp
 refine ⟨x, y, e1, e2, ⟨g2, by omega, fun u hu => ?_, fun u hu => ?_, fun z hz j hj hj8 => ?_, ⟨x, by rw [upS]; exact hf2, xk, xd⟩⟩, new_twice g2 (by omega) c1 (by decide) (by decide) true (by decide) (by rw [hf2])⟩
 ·rw [hap]
  exact told_app (told_app (h.tu u hu))
 ·rw [hap]
  exact told_app (told_app (h.tg u hu))
 ·have hq := chain_apart j hj8 i (by omega)
  rcases List.mem_append.1 hz with hz | hz
  ·exact h.later z hz j (by omega) hj8
  ·simp only [List.mem_cons, List.not_mem_nil, or_false] at hz
   rcases hz with rfl | rfl
   ·rw [xn]
    exact hq.1
   ·rw [yn]
    exact hq.2
theorem vapp_loop {l : List Int} : ∀ (c i : Nat) (f : List GFile), i ≤ 20 → 20 - i < c → GoodL f → f.length ≤ 300 * i → Tot (law18_Valid_L1 NF l c (f, (i : Int))) fun f' => ∃ r, f' = f ++ r
 | 0, _, _, _, h, _, _ => by omega
 | c + 1, i, f, hi, hc, hg, hl => by
  have hNF : NF = 30000 := rfl
  rw [law18_Valid_L1]
  refine tot_bind (Q := fun b => b = true → i < l.length ∧ i < 20) (tot_ite (fun h => tot_some fun h2 => ⟨by have := of_decide_eq_true h; omega, by have := of_decide_eq_true h2; omega⟩) fun _ => tot_some fun h => by cases h) fun b hb => ?_
  refine tot_ite (fun hbt => ?_) fun _ => tot_some ⟨[], (List.append_nil f).symm⟩
  obtain ⟨h1, h2⟩ := hb hbt
  rw [idxS h1, Zo, wr1 (by omega)]
  refine tot_bind (line17_tot (n := NF) (by decide) _) fun s hs => tot_bind (parse17_tot (n := NF) (by omega) (by decide)) fun r hr => ?_
  refine tot_ite (fun _ => vapp_loop c (i + 1) f (by omega) (by omega) hg (by omega)) fun _ => ?_
  rw [appS (by simp; omega), Zo, appS (by omega), Zo]
  have hgood : ∀ x ∈ f ++ r.1, goodF x := fun x hx => by
   rcases List.mem_append.1 hx with h | h
   ·exact hg.1 x h
   ·exact hr.2 x h
  refine tot_bind (valid_some (l := f ++ r.1) (by simp; omega) (fun x hx => (hgood x hx).siz) fun x hx => (hgood x hx).2.1) fun v hv => ?_
  refine tot_ite (fun h0 => ?_) fun _ => vapp_loop c (i + 1) f (by omega) (by omega) hg (by omega)
  refine (vapp_loop c (i + 1) (f ++ r.1) (by omega) (by omega) ⟨hgood, hv.1 (eq_of_beq h0)⟩ (by simp; omega)).mono fun f' ⟨q, e⟩ => ⟨r.1 ++ q, by rw [e, List.append_assoc]⟩
theorem base_told {W : List (List UInt8)} {fs : List GFile} (h : AllP (baseQ W) fs) (r : List GFile) : (∀ u ∈ [pU, pV, pW], toldB (fs ++ r) 1 u = true) ∧ (∀ g ∈ [pG, pH], toldB (fs ++ r) 2 g = true) ∧ ∃ x ∈ fs ++ r, itemB x = true ∧ x.name = bA [47] := by
 unfold baseQ at h
 rcases fs with _ | ⟨f1, fs⟩; · exact h.elim
 rcases fs with _ | ⟨f2, fs⟩; · exact h.2.elim
 rcases fs with _ | ⟨f3, fs⟩; · exact h.2.2.elim
 rcases fs with _ | ⟨f4, fs⟩; · exact h.2.2.2.elim
 rcases fs with _ | ⟨f5, fs⟩; · exact h.2.2.2.2.elim
 rcases fs with _ | ⟨f6, fs⟩; · exact h.2.2.2.2.2.elim
 obtain ⟨q1, q2, q3, q4, q5, q6, _⟩ := h
 refine ⟨fun u hu => ?_, fun u hu => ?_, f6, by simp, by rw [q6.1]; rfl, by rw [q6.1]⟩
 ·simp only [List.mem_cons, List.not_mem_nil, or_false] at hu
  rcases hu with rfl | rfl | rfl
  ·exact List.any_eq_true.2 ⟨f1, by simp, by rw [q1]; rfl⟩
  ·exact List.any_eq_true.2 ⟨f2, by simp, by rw [q2]; rfl⟩
  ·exact List.any_eq_true.2 ⟨f3, by simp, by rw [q3]; rfl⟩
 ·simp only [List.mem_cons, List.not_mem_nil, or_false] at hu
  rcases hu with rfl | rfl
  ·exact List.any_eq_true.2 ⟨f4, by simp, by rw [q4]; rfl⟩
  ·exact List.any_eq_true.2 ⟨f5, by simp, by rw [q5]; rfl⟩
theorem valid18P (l : List Int) : Tot (law18_Valid NF l) fun f => ∃ W fs r, AllP (baseQ W) fs ∧ f = fs ++ r := by
 have hNF : NF = 30000 := rfl
 unfold law18_Valid
 refine tot_bind (Q := fun _ => True) (tot_ite (fun h => ?_) fun _ => tot_some trivial) fun v _ => ?_
 ·have h := of_decide_eq_true h
  rw [show (0 : Int) = ((0 : Nat) : Int) from rfl, idxS (by omega), Zo]
  exact tot_some trivial
 obtain ⟨s, fs, W, X, hz, hs, hp, hq, hx⟩ := base_of v
 obtain ⟨r, hr, hr2⟩ := parse17_tot (n := NF) hz (by decide)
 rw [hp, Option.some.injEq] at hr
 subst hr
 obtain ⟨hv, hlen⟩ := base_valid hx hq
 rw [hs, Zo, hp, Zo]
 have h : Tot (law18_Valid_L1 NF l NF (fs, 1)) _ := vapp_loop NF 1 fs (by omega) (by decide) ⟨hr2.2, hv⟩ (by omega)
 exact tot_bind h fun f ⟨r, e⟩ => tot_some ⟨W, fs, r, hq, e⟩
theorem chn_0 (l : List Int) : Tot (law18_Valid NF l) (Chn 0) := by
 refine (tot_both (valid18L l) (valid18P l)).mono fun f ⟨⟨⟨hg, hl⟩, hb⟩, W, fs, r, hq, hf⟩ => ?_
 obtain ⟨h1, h2, x, h3, h4, h5⟩ := base_told hq r
 rw [← hf] at h1 h2 h3
 refine ⟨hg, hl, h1, h2, fun z hz j _ hj => ?_, ?_⟩
 ·obtain ⟨_, _, ⟨m1, m2⟩, _⟩ := chain_facts j hj
  have := hb z hz
  unfold lineB at this
  rw [Bool.and_eq_true] at this
  exact ⟨of_decide_eq_true (List.all_eq_true.1 this.2 _ m1), of_decide_eq_true (List.all_eq_true.1 this.2 _ m2)⟩
 ·have hfd : (findF f (bA [47])).2 = true := by
   unfold findF
   cases e : f.find? (fun g => itemB g && decide (g.name = bA [47])) with
   | some y => rfl
   | none =>
    have := List.find?_eq_none.1 e x h3
    rw [h4, decide_eq_true h5] at this
    exact absurd rfl this
  obtain ⟨m1, m2, m3⟩ := findF_mem hfd
  refine ⟨(findF f (bA [47])).1, Prod.ext rfl hfd, ?_, ?_⟩
  ·have hp := hg.2.place _ m1
   unfold okPlace at hp
   rw [show decide ((findF f (bA [47])).1.name = { data := #[47] }) = true from decide_eq_true m3, if_pos rfl] at hp
   have h4 := (hg.1 _ m1).1.2
   have h3 : 3 ≤ (findF f (bA [47])).1.kind := of_decide_eq_true m2
   have : (findF f (bA [47])).1.kind ≠ 4 := fun h => by rw [h] at hp; cases hp
   omega
  ·have := (def_ok (oke_item hg m1 m2)).2.2.2.2
   have := acl_len hb m1
   omega
theorem mode_le (x : Int) : 0 ≤ IntKind.i64.wrap (an x 511 : Int) ∧ IntKind.i64.wrap (an x 511 : Int) ≤ 511 := by
 have h : (BitVec.ofInt 64 511).toNat = 511 := rfl
 have h1 := an_le x 511
 rw [wrap_an x 511 (by omega)]
 omega
theorem gv_loop {t1 : List Int} : ∀ (c i : Nat) (f : List GFile), i ≤ 8 → 8 - i < c → Chn i f → law19_GainValid_L1 NF t1 c (f, mD i, (i : Int)) = some (.inl ())
 | 0, _, _, _, h, _ => by omega
 | c + 1, i, f, hi, hc, h => by
  have hNF : NF = 30000 := rfl
  have hlen := h.len
  rw [law19_GainValid_L1]
  by_cases h1 : i < t1.length
  ·by_cases h8 : i < 8
   ·obtain ⟨z1, z2⟩ := chain_cat i h8
    obtain ⟨_, _, _, _, s0, s1, _⟩ := chain_facts i h8
    have hml : maxLen ≥ 100000 := by decide
    have c1 : cat (mD i) { data := #[47, 109] } = some (mD i ++ { data := #[47, 109] }) := catS (by rw [show (({ data := #[47, 109] } : ByteArray)).size = 2 from rfl]; omega)
    have c2 : cat (mD i ++ { data := #[47, 109] }) ({ data := #[UInt8.ofNat (Int.toNat (IntKind.u8.wrap (48 + (IntKind.u8.wrap (i : Int)))))] } : ByteArray) = some (mD (i + 1)) := by
     rw [catS (by rw [ByteArray.size_append, show (({ data := #[47, 109] } : ByteArray)).size = 2 from rfl]; show (mD i).size + 2 + 1 ≤ _; omega), z1]
    have c3 : cat (mD (i + 1)) { data := #[47, 102] } = some (mF (i + 1)) := by
     rw [catS (by rw [show (({ data := #[47, 102] } : ByteArray)).size = 2 from rfl]; omega), z2]
    obtain ⟨o, ho, ho2⟩ := tot_tm (xs := ([{ data := #[117] }, { data := #[118] }, { data := #[119] }] : List ByteArray)) (m := 3) (t := t1[i]) (Q := fun o => o ∈ [pU, pV, pW]) (by decide) rfl (by decide)
    obtain ⟨g, hg, hg2⟩ := tot_an (xs := ([{ data := #[103] }, { data := #[104] }] : List ByteArray)) (m := 1) (t := sh t1[i] 8) (Q := fun o => o ∈ [pG, pH]) (by decide) (by decide) rfl (by decide)
    have ho : idx ([{ data := #[117] }, { data := #[118] }, { data := #[119] }] : List ByteArray) (Int.tmod (IntKind.i64.wrap (an t1[i] 255 : Int)) 3) = some o := ho
    have hg : idx ([{ data := #[103] }, { data := #[104] }] : List ByteArray) (IntKind.i64.wrap (an (sh t1[i] 8) 1 : Int)) = some g := hg
    obtain ⟨x, y, e1, e2, hn, v, e3⟩ := chn_step h h8 ho2 hg2 (mode_le (sh t1[i] 9)) (mode_le (sh t1[i] 18))
    have e2 : gain_New NF (f ++ [x]) false (mF (i + 1)) { data := #[117] } { data := #[103] } (IntKind.i64.wrap (an (sh t1[i] 18) 511 : Int)) = some (y, 0) := e2
    have e3 : gain_New NF (f ++ [x, y]) true (mD (i + 1)) { data := #[117] } { data := #[103] } 0 = some (v, 11) := e3
    have a0 : app [] f = some f := by
     rw [appS (by simp; omega), List.nil_append]
    have a1 : app f [(⟨x.kind, x.name, x.users, x.owner, x.group, x.acl, x.at_⟩ : GFile)] = some (f ++ [x]) := appS (by simp; omega)
    have a2 : app f [(⟨x.kind, x.name, x.users, x.owner, x.group, x.acl, x.at_⟩ : GFile), (⟨y.kind, y.name, y.users, y.owner, y.group, y.acl, y.at_⟩ : GFile)] = some (f ++ [x, y]) := appS (by simp; omega)
    have hl2 := hn.len
    obtain ⟨r, r1, r2⟩ := valid_some (l := f ++ [x, y]) (by omega) (fun z hz => (hn.good.1 z hz).siz) (fun z hz => (hn.good.1 z hz).2.1)
    have hr2 : r.2 = 0 := r2.2 hn.good.2
    rw [dlt h1, if_pos rfl, show decide ((i : Int) < 8) = true from decide_eq_true (by omega), Zo, if_pos rfl, c1, Zo, c2, Zo, idxS h1, Zo, ho, Zo, hg, Zo, e1, Zo, a0, Zo]
    dsimp only
    rw [a1, Zo, c3, Zo, e2, Zo]
    dsimp only
    rw [show ((0 : Int) != 0) = false from rfl, if_neg (by decide), Zo, if_neg (by decide), Zo, a2, Zo, r1, Zo, hr2, show ((0 : Int) != 0) = false from rfl, if_neg (by decide), e3, Zo]
    dsimp only
    rw [show ((11 : Int) != 11) = false from rfl, if_neg (by decide), wr1 (by omega)]
    exact gv_loop c (i + 1) _ (by omega) (by omega) hn
   ·rw [dlt h1, if_pos rfl, show decide ((i : Int) < 8) = false from decide_eq_false (by omega)]
    rfl
  ·rw [dnlt (by omega), if_neg (by decide)]
   rfl
theorem law_gainValid (t0 t1 : List Int) : law19_GainValid NF t0 t1 = some true := by
 obtain ⟨f, e, h⟩ := chn_0 t0
 unfold law19_GainValid
 have hL : law19_GainValid_L1 NF t1 NF (f, { data := #[] }, 0) = _ := gv_loop (t1 := t1) NF 0 f (by decide) (by decide) h
 rw [e, Zo, hL]
 rfl
theorem law_gainValid_ex (t0 t1 : List Int) (_ : t0.length ≤ maxLen ∧ ∀ y ∈ t0, (Lit.int .i64 y).wf = true) (_ : t1.length ≤ maxLen ∧ ∀ y ∈ t1, (Lit.int .i64 y).wf = true) : ∃ n, law19_GainValid n t0 t1 = some true := ⟨NF, law_gainValid t0 t1⟩
end Go.Proofs.YtgmhbmcdlkajdaaGreatDoor.Ab

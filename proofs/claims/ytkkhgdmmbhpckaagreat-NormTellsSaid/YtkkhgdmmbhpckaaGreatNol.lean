/-
 NormOnce: what norm.Normal, Of, Facts, Same, Up, Down answer. No program in sight.
-/
import Derived.Test.YtkkhgdmmbhpckaaGreatOf8
import Derived.Test.YtkkhgdmmbhpckaaGreatRgz
namespace Go.Proofs.YtkkhgdmmbhpckaaGreat.Ab
open Go.RowKit Go.Sort
attribute [local instance] baLawful
theorem ke_ {n : Nat} {xs : List ByteArray} (h : xs.length ≤ 4294967296) : xG_ n xs = some (tx.ofL xs) := by
 unfold xG_;rw [if_pos h];exact congrArg some (p2_ xs)
theorem xR_ {α β : Type} {f : List β → α → (List β → Option (List β)) → Option (List β)} {e : List β → Option (List β)} (g : α → β) (he : ∀ st, e st = some st) : ∀ (xs : List α) (st : List β), (∀ st x k, st.length < 4294967296 → x ∈ xs → f st x k = k (st ++ [g x])) → st.length + xs.length ≤ 4294967296 → jg_ f e xs st = some (st ++ xs.map g)
 | [], st, _, _ => by simp [jg_, he]
 | x :: xs, st, hf, h => by
  rw [List.length_cons] at h;rw [jg_, hf st x _ (by omega) (List.mem_cons_self ..)];refine (xR_ g he xs (st ++ [g x]) (fun st y k h1 h2 => hf st y k h1 (List.mem_cons_of_mem _ h2)) (by rw [List.length_append, List.length_singleton]; omega)).trans ?_;simp
theorem vC_ {α : Type} {xs : List α} {y : α} (h : xs.length < 4294967296) : app xs [y] = some (xs ++ [y]) := appS (by simp; omega)
noncomputable def tOsd : Lin GSod := pre_Sd.lin nH_
noncomputable def tOse : Lin GSession := pre_Se.lin nG_
def vZ_ (x : GSod) : GSod := ⟨x.name, x.n_, tx.ofL x.roles⟩
def wM_ (x : GSession) : GSession := ⟨x.name, x.user, tx.ofL x.roles⟩
noncomputable def dO_ (l : List GSod) : List GSod := tOsd.ofL (l.map vZ_)
noncomputable def sesN (l : List GSession) : List GSession := tOse.ofL (l.map wM_)
theorem b2_ {n : Nat} {l : List GSod} (hn : l.length < n) (hl : l.length ≤ 100000) (hr : ∀ x ∈ l, x.roles.length ≤ 100000) : vD_ n l = some (dO_ l) := by
 have hL : xv_ n l n ([], 0) = _ := kM_ n l (by omega) n [] 0 (Nat.zero_le _) (by omega);have hF : jg_ (zj_ n l) (vm_ n l) l [] = some ([] ++ l.map vZ_) := xR_ vZ_ (fun _ => rfl) l [] (fun st x k h1 h2 => by
  have := hr x h2;unfold zj_;dsimp only;rw [ke_ (by omega), Zo, vC_ h1, Zo];rfl) (by simp; omega)
 unfold vD_;rw [hL, List.drop_zero, hF, Zo, List.nil_append];by_cases h0 : l = []
 ·subst h0
  rfl
 ·have h1 : 0 < (l.map vZ_).length := by rw [List.length_map]; exact List.length_pos_iff.2 h0
  have h2 : (l.map vZ_).length ≤ 4294967296 := by rw [List.length_map]; omega
  have h3 : ∀ ys : List GSod, (∀ x ∈ ys, x ∈ l.map vZ_) → (ys.all fun x => decide (x.roles.length < 4611686018427387904)) = true := fun ys hys => by
   rw [List.all_eq_true];intro x hx;obtain ⟨y, hy, rfl⟩ := List.mem_map.1 (hys x hx);have k1 := xz_ tx y.roles;have k2 := hr y hy;exact decide_eq_true (by show (tx.ofL y.roles).length < _; omega)
  have hp := up_ cfSd (l.map vZ_);have hlen := hp.length_eq;have e1 : vT_ n (l.map vZ_) = some (srtC cfSd (l.map vZ_)) := by
   unfold vT_;rw [if_pos (by rw [decide_eq_true h1, decide_eq_true h2, h3 _ fun _ h => h]; rfl)]
  have e2 : uj_ n (srtC cfSd (l.map vZ_)) = some (Lib.compact (srtC cfSd (l.map vZ_))) := by
   unfold uj_;rw [if_pos (by rw [decide_eq_true (by omega), decide_eq_true (by omega), h3 _ fun x h => hp.mem_iff.1 h]; rfl)]
  rw [decide_eq_false (by omega), if_neg (by decide), e1, Zo, e2, Zo];exact congrArg some (tOsd.compact_sorted (fun x => hp.mem_iff) (wP_ pre_Sd (l.map vZ_)))
theorem p3_ {n : Nat} {l : List GSession} (hn : l.length < n) (hl : l.length ≤ 100000) (hr : ∀ x ∈ l, x.roles.length ≤ 100000) : xT_ n l = some (sesN l) := by
 have hL : jf_ n l n ([], 0) = _ := we_ n l (by omega) n [] 0 (Nat.zero_le _) (by omega);have hF : jg_ (xr_ n l) (xS_ n l) l [] = some ([] ++ l.map wM_) := xR_ wM_ (fun _ => rfl) l [] (fun st x k h1 h2 => by
  have := hr x h2;unfold xr_;dsimp only;rw [ke_ (by omega), Zo, vC_ h1, Zo];rfl) (by simp; omega)
 unfold xT_;rw [hL, List.drop_zero, hF, Zo, List.nil_append];by_cases h0 : l = []
 ·subst h0
  rfl
 ·have h1 : 0 < (l.map wM_).length := by rw [List.length_map]; exact List.length_pos_iff.2 h0
  have h2 : (l.map wM_).length ≤ 4294967296 := by rw [List.length_map]; omega
  have h3 : ∀ ys : List GSession, (∀ x ∈ ys, x ∈ l.map wM_) → (ys.all fun x => decide (x.roles.length < 4611686018427387904)) = true := fun ys hys => by
   rw [List.all_eq_true];intro x hx;obtain ⟨y, hy, rfl⟩ := List.mem_map.1 (hys x hx);have k1 := xz_ tx y.roles;have k2 := hr y hy;exact decide_eq_true (by show (tx.ofL y.roles).length < _; omega)
  have hp := up_ cfSe (l.map wM_);have hlen := hp.length_eq;have e1 : xA_ n (l.map wM_) = some (srtC cfSe (l.map wM_)) := by
   unfold xA_;rw [if_pos (by rw [decide_eq_true h1, decide_eq_true h2, h3 _ fun _ h => h]; rfl)]
  have e2 : zO_ n (srtC cfSe (l.map wM_)) = some (Lib.compact (srtC cfSe (l.map wM_))) := by
   unfold zO_;rw [if_pos (by rw [decide_eq_true (by omega), decide_eq_true (by omega), h3 _ fun x h => hp.mem_iff.1 h]; rfl)]
  rw [decide_eq_false (by omega), if_neg (by decide), e1, Zo, e2, Zo];exact congrArg some (tOse.compact_sorted (fun x => hp.mem_iff) (wP_ pre_Se (l.map wM_)))
def LeastP (l M : List GPair) : Prop := M.Sublist (tOpr.ofL l) ∧ ((ym_ (tOpr.ofL l) ∧ M = tOpr.ofL l) ∨ (¬ ym_ (tOpr.ofL l) ∧ ∀ x, x ∈ M ↔ x ∈ tOpr.ofL l ∧ ¬ Said (tOpr.ofL l) x))
theorem LeastP.rises {l M : List GPair} (h : LeastP l M) : tOpr.Rises M := (tOpr.rises_ofL l).sublist h.1
theorem LeastP.len {l M : List GPair} (h : LeastP l M) : M.length ≤ l.length := Nat.le_trans h.1.length_le (xz_ tOpr l)
theorem LeastP.one {l l' M M' : List GPair} (h : LeastP l M) (h' : LeastP l' M') (e : ∀ x, x ∈ l ↔ x ∈ l') : M = M' := by
 have r1 := h.rises;have r2 := h'.rises;unfold LeastP at h';rw [← tOpr.ofL_congr e] at h';rcases h.2 with ⟨a, b⟩ | ⟨a, b⟩
 ·rcases h'.2 with ⟨a', b'⟩ | ⟨a', _⟩
  ·rw [b, b']
  ·exact absurd a a'
 ·rcases h'.2 with ⟨a', _⟩ | ⟨_, b'⟩
  ·exact absurd a' a
  ·exact tOpr.ext r1 r2 fun x => (b x).trans (b' x).symm
theorem LeastP.again {l M M' : List GPair} (h : LeastP l M) (h' : LeastP M M') : M' = M := by
 have e : tOpr.ofL M = M := tOpr.ofL_self h.rises;have r2 := h'.rises;unfold LeastP at h';rw [e] at h';rcases h'.2 with ⟨_, b⟩ | ⟨a', b'⟩
 ·exact b
 ·rcases h.2 with ⟨a, b⟩ | ⟨a, b⟩
  ·rw [b] at a'
   exact absurd a a'
  ·refine tOpr.ext r2 h.rises fun x => (b' x).trans ⟨fun hx => hx.1, fun hx => ⟨hx, fun hs => ((b x).1 hx).2 ?_⟩⟩
   obtain ⟨s, h1, h2, h3⟩ := hs;exact ⟨s, ((b _).1 h1).1, h2, rM_ (fun y hy => ((b y).1 hy).1) h3⟩
structure Mid (p : GRoles) : Prop where
 u : p.users.length ≤ 10000
 r : p.roles.length ≤ 10000
 i : p.inherit.length ≤ 10000
 a : p.assign.length ≤ 10000
 g : p.grants.length ≤ 10000
 s : p.ssd.length ≤ 10000
 d : p.dsd.length ≤ 10000
 e : p.sessions.length ≤ 10000
 sr : ∀ x ∈ p.ssd, x.roles.length ≤ 100000
 dr : ∀ x ∈ p.dsd, x.roles.length ≤ 100000
 er : ∀ x ∈ p.sessions, x.roles.length ≤ 100000
noncomputable def norN (p : GRoles) (M : List GPair) : GRoles := ⟨tx.ofL p.users, tx.ofL p.roles, M, tOpr.ofL p.assign, tOgt.ofL p.grants, dO_ p.ssd, dO_ p.dsd, sesN p.sessions⟩
theorem ul_ {n : Nat} (hn : 200000 ≤ n) {p : GRoles} (h : Mid p) : ∃ M, xK_ n p = some (norN p M) ∧ LeastP p.inherit M := by
 obtain ⟨h1, h2, h3, h4, h5, h6, h7, h8, h9, h10, h11⟩ := h;obtain ⟨M, l1, l2⟩ := hD_ (n := n) (l := p.inherit) (by omega) (by omega);refine ⟨M, ?_, l2⟩;unfold xK_
 rw [ke_ (by omega), Zo, ke_ (by omega), Zo, l1, Zo, show zG_ n p.assign = some (tOpr.ofL p.assign) from if_pos (by omega), Zo, show vS_ n p.grants = some (tOgt.ofL p.grants) from if_pos (by omega), Zo, b2_ (by omega) (by omega) h9, Zo, b2_ (by omega) (by omega) h10, Zo, p3_ (by omega) (by omega) h11, Zo];rfl
theorem fT_ {p : GRoles} (h : Mid p) {M : List GPair} (hM : LeastP p.inherit M) : Mid (norN p M) := by
 obtain ⟨h1, h2, h3, h4, h5, h6, h7, h8, h9, h10, h11⟩ := h;have k1 := xz_ tx p.users;have k2 := xz_ tx p.roles;have k3 := hM.len;have k4 := xz_ tOpr p.assign;have k5 := xz_ tOgt p.grants;have k6 := xz_ tOsd (p.ssd.map vZ_);have k7 := xz_ tOsd (p.dsd.map vZ_);have k8 := xz_ tOse (p.sessions.map wM_);rw [List.length_map] at k6 k7 k8
 have hS : ∀ l : List GSod, (∀ x ∈ l, x.roles.length ≤ 100000) → ∀ x ∈ dO_ l, x.roles.length ≤ 100000 := fun l hl x hx => by
  obtain ⟨y, hy, rfl⟩ := List.mem_map.1 (tOsd.mem_ofL.1 hx);have := xz_ tx y.roles;have := hl y hy;show (tx.ofL y.roles).length ≤ _;omega
 refine ⟨?_, ?_, ?_, ?_, ?_, ?_, ?_, ?_, hS _ h9, hS _ h10, fun x hx => ?_⟩
 ·show (tx.ofL p.users).length ≤ _; omega
 ·show (tx.ofL p.roles).length ≤ _; omega
 ·show M.length ≤ _; omega
 ·show (tOpr.ofL p.assign).length ≤ _; omega
 ·show (tOgt.ofL p.grants).length ≤ _; omega
 ·show (tOsd.ofL (p.ssd.map vZ_)).length ≤ _; omega
 ·show (tOsd.ofL (p.dsd.map vZ_)).length ≤ _; omega
 ·show (tOse.ofL (p.sessions.map wM_)).length ≤ _; omega
 ·obtain ⟨y, hy, rfl⟩ := List.mem_map.1 (tOse.mem_ofL.1 hx)
  have := xz_ tx y.roles;have := h11 y hy;show (tx.ofL y.roles).length ≤ _;omega
theorem dP_ {l : List GFact} (hl : l.length ≤ 10000) (hx : ∀ x ∈ l, x.l.length ≤ 100000) : Mid (ofF l) where
 u := Nat.le_trans (k5_ _ _) hl
 r := Nat.le_trans (k5_ _ _) hl
 i := Nat.le_trans (k5_ _ _) hl
 a := Nat.le_trans (k5_ _ _) hl
 g := Nat.le_trans (k5_ _ _) hl
 s := Nat.le_trans (k5_ _ _) hl
 d := Nat.le_trans (k5_ _ _) hl
 e := Nat.le_trans (k5_ _ _) hl
 sr := fun x h => by
  obtain ⟨f, h1, _, rfl⟩ := fM_.1 h;exact hx f h1
 dr := fun x h => by
  obtain ⟨f, h1, _, rfl⟩ := fN_.1 h;exact hx f h1
 er := fun x h => by
  obtain ⟨f, h1, _, rfl⟩ := fO_.1 h;exact hx f h1
def fU (s : ByteArray) : GFact := ⟨1, s, ByteArray.empty, ByteArray.empty, 0, [], 0⟩
def fR (s : ByteArray) : GFact := ⟨2, s, ByteArray.empty, ByteArray.empty, 0, [], 0⟩
def fI (x : GPair) : GFact := ⟨3, x.a, x.b, ByteArray.empty, 0, [], 0⟩
def fA (x : GPair) : GFact := ⟨4, x.a, x.b, ByteArray.empty, 0, [], 0⟩
def fG (x : GGrant) : GFact := ⟨5, x.role, x.op, x.obj, 0, [], 0⟩
def fS (x : GSod) : GFact := ⟨6, x.name, ByteArray.empty, ByteArray.empty, x.n_, x.roles, 0⟩
def fD (x : GSod) : GFact := ⟨7, x.name, ByteArray.empty, ByteArray.empty, x.n_, x.roles, 0⟩
def fE (x : GSession) : GFact := ⟨8, x.name, x.user, ByteArray.empty, 0, x.roles, 0⟩
def jZ_ (p : GRoles) : List GFact := p.users.map fU ++ p.roles.map fR ++ p.inherit.map fI ++ p.assign.map fA ++ p.grants.map fG ++ p.ssd.map fS ++ p.dsd.map fD ++ p.sessions.map fE
theorem u8_ {n : Nat} (hn : 200000 ≤ n) {p : GRoles} (h : Mid p) : zE_ n p = some (jZ_ p) := by
 obtain ⟨h1, h2, h3, h4, h5, h6, h7, h8, h9, h10, h11⟩ := h;have nil0 : ∀ {l : List ByteArray}, l.length = 0 → l = [] := fun h => List.eq_nil_of_length_eq_zero h;have L1 : j5_ n p n ([], 0) = _ := kg_ n p (by omega) n [] 0 (Nat.zero_le _) (by omega)
 have F1 : jg_ (xV_ n p) (zV_ n p) p.users [] = some ([] ++ p.users.map fU) := xR_ fU (fun _ => rfl) _ _ (fun st x k h _ => by unfold xV_; dsimp only; rw [vC_ h, Zo]; rfl) (by simp; omega);rw [List.drop_zero, F1, List.nil_append] at L1;have L2 : ∀ st, j6_ n p n (st, 0) = _ := fun st => kh_ n p (by omega) n st 0 (Nat.zero_le _) (by omega)
 have F2 : ∀ st : List GFact, st.length ≤ 10000 → jg_ (xW_ n p) (zW_ n p) p.roles st = some (st ++ p.roles.map fR) := fun st hst => xR_ fR (fun _ => rfl) _ _ (fun st x k h _ => by unfold xW_; dsimp only; rw [vC_ h, Zo]; rfl) (by omega);have L3 : ∀ st, j7_ n p n (st, 0) = _ := fun st => ki_ n p (by omega) n st 0 (Nat.zero_le _) (by omega)
 have F3 : ∀ st : List GFact, st.length ≤ 20000 → jg_ (xX_ n p) (zX_ n p) p.inherit st = some (st ++ p.inherit.map fI) := fun st hst => xR_ fI (fun _ => rfl) _ _ (fun st x k h _ => by unfold xX_; dsimp only; rw [vC_ h, Zo]; rfl) (by omega);have L4 : ∀ st, j8_ n p n (st, 0) = _ := fun st => kj_ n p (by omega) n st 0 (Nat.zero_le _) (by omega)
 have F4 : ∀ st : List GFact, st.length ≤ 30000 → jg_ (xY_ n p) (zY_ n p) p.assign st = some (st ++ p.assign.map fA) := fun st hst => xR_ fA (fun _ => rfl) _ _ (fun st x k h _ => by unfold xY_; dsimp only; rw [vC_ h, Zo]; rfl) (by omega);have L5 : ∀ st, j9_ n p n (st, 0) = _ := fun st => kk_ n p (by omega) n st 0 (Nat.zero_le _) (by omega)
 have F5 : ∀ st : List GFact, st.length ≤ 40000 → jg_ (xZ_ n p) (zZ_ n p) p.grants st = some (st ++ p.grants.map fG) := fun st hst => xR_ fG (fun _ => rfl) _ _ (fun st x k h _ => by unfold xZ_; dsimp only; rw [vC_ h, Zo]; rfl) (by omega);have L6 : ∀ st, jE_ n p n (st, 0) = _ := fun st => kl_ n p (by omega) n st 0 (Nat.zero_le _) (by omega)
 have F6 : ∀ st : List GFact, st.length ≤ 50000 → jg_ (x0_ n p) (z0_ n p) p.ssd st = some (st ++ p.ssd.map fS) := fun st hst => xR_ fS (fun _ => rfl) _ _ (fun st x k h hm => by
  unfold x0_;dsimp only;by_cases e : x.roles.length = 0
  ·rw [decide_eq_true e, if_pos rfl, vC_ h, Zo, fS, nil0 e]
  ·rw [decide_eq_false e, if_neg (by decide), decide_eq_true (by have := h9 x hm; omega), grd, if_pos rfl, vC_ h, Zo, fS]) (by omega)
 have L7 : ∀ st, jF_ n p n (st, 0) = _ := fun st => km_ n p (by omega) n st 0 (Nat.zero_le _) (by omega);have F7 : ∀ st : List GFact, st.length ≤ 60000 → jg_ (x1_ n p) (z1_ n p) p.dsd st = some (st ++ p.dsd.map fD) := fun st hst => xR_ fD (fun _ => rfl) _ _ (fun st x k h hm => by
  unfold x1_;dsimp only;by_cases e : x.roles.length = 0
  ·rw [decide_eq_true e, if_pos rfl, vC_ h, Zo, fD, nil0 e]
  ·rw [decide_eq_false e, if_neg (by decide), decide_eq_true (by have := h10 x hm; omega), grd, if_pos rfl, vC_ h, Zo, fD]) (by omega)
 have L8 : ∀ st, jG_ n p n (st, 0) = _ := fun st => kn_ n p (by omega) n st 0 (Nat.zero_le _) (by omega);have F8 : ∀ st : List GFact, st.length ≤ 70000 → jg_ (x2_ n p) (z2_ n p) p.sessions st = some (st ++ p.sessions.map fE) := fun st hst => xR_ fE (fun _ => rfl) _ _ (fun st x k h hm => by
  unfold x2_;dsimp only;by_cases e : x.roles.length = 0
  ·rw [decide_eq_true e, if_pos rfl, vC_ h, Zo, fE, nil0 e]
  ·rw [decide_eq_false e, if_neg (by decide), decide_eq_true (by have := h11 x hm; omega), grd, if_pos rfl, vC_ h, Zo, fE]) (by omega)
 unfold zE_;rw [L1, Zo, L2, List.drop_zero, F2 _ (by simp; omega), Zo, L3, List.drop_zero, F3 _ (by simp; omega), Zo, L4, List.drop_zero, F4 _ (by simp; omega), Zo, L5, List.drop_zero, F5 _ (by simp; omega), Zo, L6, List.drop_zero, F6 _ (by simp; omega), Zo, L7, List.drop_zero, F7 _ (by simp; omega), Zo, L8, List.drop_zero, F8 _ (by simp; omega), Zo];rfl
theorem k7_ {α β : Type} {k : Int} {g : GFact → β} {h : α → GFact} (hk : ∀ x, (h x).kind = k) (l : List α) : (l.map h).filterMap (fun f => if f.kind = k then some (g f) else none) = l.map fun x => g (h x) := by
 induction l with
 | nil => rfl
 | cons x l ih => rw [List.map_cons, rD_ (hk x), ih, List.map_cons]
theorem qt_ {α β : Type} {k j : Int} {g : GFact → β} {h : α → GFact} (hk : ∀ x, (h x).kind = j) (hne : ¬ j = k) (l : List α) : (l.map h).filterMap (fun f => if f.kind = k then some (g f) else none) = [] := by
 induction l with
 | nil => rfl
 | cons x l ih => rw [List.map_cons, rE_ (by rw [hk x]; exact hne), ih]
theorem g0_ (p : GRoles) : ofF (jZ_ p) = p := by
 have u : zu_ (jZ_ p) = p.users := by
  unfold zu_ jZ_;simp only [List.filterMap_append]
  rw [k7_ (k := 1) (h := fU) (fun _ => rfl), qt_ (j := 2) (h := fR) (fun _ => rfl) (by decide), qt_ (j := 3) (h := fI) (fun _ => rfl) (by decide), qt_ (j := 4) (h := fA) (fun _ => rfl) (by decide), qt_ (j := 5) (h := fG) (fun _ => rfl) (by decide), qt_ (j := 6) (h := fS) (fun _ => rfl) (by decide), qt_ (j := 7) (h := fD) (fun _ => rfl) (by decide), qt_ (j := 8) (h := fE) (fun _ => rfl) (by decide)]
  simp [fU]
 have r : zv_ (jZ_ p) = p.roles := by
  unfold zv_ jZ_;simp only [List.filterMap_append]
  rw [qt_ (j := 1) (h := fU) (fun _ => rfl) (by decide), k7_ (k := 2) (h := fR) (fun _ => rfl), qt_ (j := 3) (h := fI) (fun _ => rfl) (by decide), qt_ (j := 4) (h := fA) (fun _ => rfl) (by decide), qt_ (j := 5) (h := fG) (fun _ => rfl) (by decide), qt_ (j := 6) (h := fS) (fun _ => rfl) (by decide), qt_ (j := 7) (h := fD) (fun _ => rfl) (by decide), qt_ (j := 8) (h := fE) (fun _ => rfl) (by decide)]
  simp [fR]
 have i : inhF (jZ_ p) = p.inherit := by
  unfold inhF jZ_;simp only [List.filterMap_append]
  rw [qt_ (j := 1) (h := fU) (fun _ => rfl) (by decide), qt_ (j := 2) (h := fR) (fun _ => rfl) (by decide), k7_ (k := 3) (h := fI) (fun _ => rfl), qt_ (j := 4) (h := fA) (fun _ => rfl) (by decide), qt_ (j := 5) (h := fG) (fun _ => rfl) (by decide), qt_ (j := 6) (h := fS) (fun _ => rfl) (by decide), qt_ (j := 7) (h := fD) (fun _ => rfl) (by decide), qt_ (j := 8) (h := fE) (fun _ => rfl) (by decide)]
  simp [fI]
 have a : asgF (jZ_ p) = p.assign := by
  unfold asgF jZ_;simp only [List.filterMap_append]
  rw [qt_ (j := 1) (h := fU) (fun _ => rfl) (by decide), qt_ (j := 2) (h := fR) (fun _ => rfl) (by decide), qt_ (j := 3) (h := fI) (fun _ => rfl) (by decide), k7_ (k := 4) (h := fA) (fun _ => rfl), qt_ (j := 5) (h := fG) (fun _ => rfl) (by decide), qt_ (j := 6) (h := fS) (fun _ => rfl) (by decide), qt_ (j := 7) (h := fD) (fun _ => rfl) (by decide), qt_ (j := 8) (h := fE) (fun _ => rfl) (by decide)]
  simp [fA]
 have g : grF (jZ_ p) = p.grants := by
  unfold grF jZ_;simp only [List.filterMap_append]
  rw [qt_ (j := 1) (h := fU) (fun _ => rfl) (by decide), qt_ (j := 2) (h := fR) (fun _ => rfl) (by decide), qt_ (j := 3) (h := fI) (fun _ => rfl) (by decide), qt_ (j := 4) (h := fA) (fun _ => rfl) (by decide), k7_ (k := 5) (h := fG) (fun _ => rfl), qt_ (j := 6) (h := fS) (fun _ => rfl) (by decide), qt_ (j := 7) (h := fD) (fun _ => rfl) (by decide), qt_ (j := 8) (h := fE) (fun _ => rfl) (by decide)]
  simp [fG]
 have s : ssdF (jZ_ p) = p.ssd := by
  unfold ssdF jZ_;simp only [List.filterMap_append]
  rw [qt_ (j := 1) (h := fU) (fun _ => rfl) (by decide), qt_ (j := 2) (h := fR) (fun _ => rfl) (by decide), qt_ (j := 3) (h := fI) (fun _ => rfl) (by decide), qt_ (j := 4) (h := fA) (fun _ => rfl) (by decide), qt_ (j := 5) (h := fG) (fun _ => rfl) (by decide), k7_ (k := 6) (h := fS) (fun _ => rfl), qt_ (j := 7) (h := fD) (fun _ => rfl) (by decide), qt_ (j := 8) (h := fE) (fun _ => rfl) (by decide)]
  simp [fS]
 have d : dsdF (jZ_ p) = p.dsd := by
  unfold dsdF jZ_;simp only [List.filterMap_append]
  rw [qt_ (j := 1) (h := fU) (fun _ => rfl) (by decide), qt_ (j := 2) (h := fR) (fun _ => rfl) (by decide), qt_ (j := 3) (h := fI) (fun _ => rfl) (by decide), qt_ (j := 4) (h := fA) (fun _ => rfl) (by decide), qt_ (j := 5) (h := fG) (fun _ => rfl) (by decide), qt_ (j := 6) (h := fS) (fun _ => rfl) (by decide), k7_ (k := 7) (h := fD) (fun _ => rfl), qt_ (j := 8) (h := fE) (fun _ => rfl) (by decide)]
  simp [fD]
 have e : sesF (jZ_ p) = p.sessions := by
  unfold sesF jZ_;simp only [List.filterMap_append]
  rw [qt_ (j := 1) (h := fU) (fun _ => rfl) (by decide), qt_ (j := 2) (h := fR) (fun _ => rfl) (by decide), qt_ (j := 3) (h := fI) (fun _ => rfl) (by decide), qt_ (j := 4) (h := fA) (fun _ => rfl) (by decide), qt_ (j := 5) (h := fG) (fun _ => rfl) (by decide), qt_ (j := 6) (h := fS) (fun _ => rfl) (by decide), qt_ (j := 7) (h := fD) (fun _ => rfl) (by decide), k7_ (k := 8) (h := fE) (fun _ => rfl)]
  simp [fE]
 unfold ofF;rw [u, r, i, a, g, s, d, e]
end Go.Proofs.YtkkhgdmmbhpckaaGreat.Ab

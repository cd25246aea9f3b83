/-
 Closed calls, reckoned by the kernel, that hand back places and maps.
-/
import Derived.Test.YtjkdbakgnnhdnaaAbW
import Derived.Test.YtjkdbakgnnhdnaaTab
namespace Go.Proofs.Ytjkdbakgnnhdnaa.Ab
open Go.RowKit
def xAll {α β : Type} (g : α → Option β) : List α → Option (List β)
 | [] => some []
 | x :: r => match g x, xAll g r with
  | some d, some ds => some (d :: ds)
  | _, _ => none
theorem xAll_ok {α β : Type} {g : α → Option β} : ∀ {xs : List α} {ds : List β}, xAll g xs = some ds → ds.length = xs.length ∧ ∀ (j : Nat) (x : α) (d : β), xs[j]? = some x → ds[j]? = some d → g x = some d
 | [], ds, h => by
  cases h
  exact ⟨rfl, fun j x d h => by simp at h⟩
 | x :: r, ds, h => by
  unfold xAll at h
  split at h
  ·rename_i d ds' h1 h2
   cases h
   obtain ⟨h3, h4⟩ := xAll_ok h2
   refine ⟨by simp [h3], fun j y e hy he => ?_⟩
   cases j with
   | zero =>
    simp at hy he
    rw [← hy, ← he]
    exact h1
   | succ j => exact h4 j y e (by simpa using hy) (by simpa using he)
  ·cases h
def xD : Nat → Hp → AV → Option D
 | 0, _, _ => none
 | f + 1, hp, .pt id off => match hp id with
  | some (.bx cs) => (xAll (xD f hp) cs).map fun ds => .pt ds off
  | _ => none
 | f + 1, hp, .mo id => match hp id with
  | some (.mo es _) => (xAll (fun p : Value × AV => if isAggV p.2 || isCell p.2 then (xAll (xD f hp) (cellsX p.2)).map fun ds => (p.1, isAggV p.2, ds) else none) es).map .mp
  | _ => none
 | _ + 1, hp, x => (toD1 hp x).map (·.1)
theorem xD_ok {hp : Hp} : ∀ {f : Nat} {x : AV} {d : D}, xD f hp x = some d → ToX hp true x d := by
 intro f
 induction f with
 | zero => intro x d h; cases h
 | succ f ih =>
  have one : ∀ {x : AV} {d : D}, (toD1 hp x).map (·.1) = some d → ToX hp true x d := fun {x d} h => by
   obtain ⟨⟨d', b', is⟩, h1, rfl⟩ := Option.map_eq_some_iff.1 h
   exact .one h1 fun _ => rfl
  intro x d h
  cases x with
  | pt id off =>
   unfold xD at h
   split at h
   ·rename_i cs hc
    obtain ⟨ds, h1, rfl⟩ := Option.map_eq_some_iff.1 h
    obtain ⟨h2, h3⟩ := xAll_ok h1
    exact .pt hc h2 fun j y e hy he => ih (h3 j y e hy he)
   ·cases h
  | mo id =>
   unfold xD at h
   split at h
   ·rename_i es dl hc
    obtain ⟨ms, h1, rfl⟩ := Option.map_eq_some_iff.1 h
    obtain ⟨h2, h3⟩ := xAll_ok h1
    have key : ∀ (j : Nat) (k : Value) (v : AV) (k' : Value) (ag : Bool) (ds : List D), es[j]? = some (k, v) → ms[j]? = some (k', ag, ds) → (isAggV v || isCell v) = true ∧ k' = k ∧ ag = isAggV v ∧ xAll (xD f hp) (cellsX v) = some ds := fun j k v k' ag ds e1 e2 => by
     have := h3 j _ _ e1 e2
     split at this
     ·rename_i hv
      obtain ⟨ds', h4, h5⟩ := Option.map_eq_some_iff.1 this
      simp only [Prod.mk.injEq] at h5
      obtain ⟨h6, h7, h8⟩ := h5
      subst h8
      exact ⟨hv, h6.symm, h7.symm, h4⟩
     ·cases this
    refine .mo hc h2 (fun j k v k' ag ds e1 e2 => ?_) fun j k v k' ag ds i y e e1 e2 e3 e4 => ?_
    ·obtain ⟨g1, g2, g3, g4⟩ := key j k v k' ag ds e1 e2
     refine ⟨g2, g3, (xAll_ok g4).1, fun h => ?_⟩
     rw [Bool.or_eq_true] at g1
     rcases g1 with g1 | g1
     ·rw [← g3, h] at g1
      cases g1
     ·exact g1
    ·obtain ⟨g1, g2, g3, g4⟩ := key j k v k' ag ds e1 e2
     exact ih ((xAll_ok g4).2 i y e e3 e4)
   ·cases h
  | v y => exact one h
  | d y b => exact one h
  | ag cs => exact one h
  | tu cs => exact one h
  | pr i v k o => exact one h
  | so i v o n => exact one h
  | fn g cs => exact one h
  | un => exact one h
def xR (n : Nat) (hp : Hp) : AV → Option D
 | .tu cs => (xAll (fun x => if isCell x then xD n hp x else none) cs).map .tu
 | x => if isCell x then xD n hp x else none
theorem xR_ok {n : Nat} {hp : Hp} {x : AV} {d : D} (h : xR n hp x = some d) : ToXR hp true x d := by
 unfold xR at h
 split at h
 ·obtain ⟨ds, h1, rfl⟩ := Option.map_eq_some_iff.1 h
  obtain ⟨h2, h3⟩ := xAll_ok h1
  refine .tu ⟨h2, fun j x d e1 e2 => ?_⟩
  have := h3 j x d e1 e2
  split at this
  ·rename_i hc
   exact .one (xD_ok this) hc
  ·cases this
 ·split at h
  ·rename_i hc
   exact .val (.one (xD_ok h) hc)
  ·cases h
def evalX (P : Program) (prim : Prim) (N n : Nat) (f : FuncId) (ds : List D) : Option D := match xRun P (tabP P) N (okOf P) prim n .lf f (ds.map (lift true)) .lf 0 with
 | some (v, hp', _) => xR n (hpT hp') v
 | none => none
theorem evalX_ok {P : Program} {prim : Prim} {N n : Nat} {f : FuncId} {ds : List D} {d : D} (hm : P.follows .mixedOrders = true) (hpr : PrimOK P prim) (h : evalX P prim N n f ds = some d) : PureOK P f ds d false := by
 unfold evalX at h
 split at h
 ·rename_i v1 hp1 nx1 h1
  have := xRun_ok (tabP_ok P) hm (fun f fn h1 h2 => by unfold okOf at h1; rw [h2] at h1; exact h1) hpr n _ _ _ _ _ _ _ _ h1 noHp (fun i o h => by cases h)
  rw [ovl_noHp, ovl_noHp] at this
  refine PureOK.of_A (pureA_of_inlX ?_)
  rw [List.map_map]
  have e : hpT (.lf : Tr AO) = noHp := rfl
  rw [e] at this
  refine InlOK.mono this fun v hp2 nx2 hq => ?_
  obtain ⟨rfl, rfl, rfl⟩ := hq
  exact ⟨true, xR_ok h, fun h => by cases h⟩
 ·cases h
end Go.Proofs.Ytjkdbakgnnhdnaa.Ab

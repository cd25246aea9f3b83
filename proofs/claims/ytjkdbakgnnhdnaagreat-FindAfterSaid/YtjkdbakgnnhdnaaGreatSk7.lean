/-
 How two relations stand: by their nodes' ranks.
-/
import Derived.Test.YtjkdbakgnnhdnaaGreatSk6
import Derived.Test.YtjkdbakgnnhdnaaGreatSja
namespace Go.Proofs.YtjkdbakgnnhdnaaGreat.Ab
open Go.RowKit
def cmpI (x y : Int) : Int := if x < y then -1 else if y < x then 1 else 0
theorem cmp_some (n : Nat) (x y : Int) : cmp_Compare n x y = some (cmpI x y) := by
 unfold cmp_Compare cmp_isNaN cmpI
 simp only [bne_self_eq_false, Zo, Bool.false_eq_true, if_false, decide_eq_true_eq]
 split
 ·rfl
 ·split <;> rfl
theorem cmp1 {hp : Hp} {nx q c m ida idb : Nat} {a b : GRef} {ba bb : Bool} {ra rb : Int} {g o x1 x2 x3 y1 y2 y3 : AV} {s1 s2 s3 : AV} {es : List (Value × AV)} {dl : Bool}
  (hc : hp c = some (.bx [.pt q 0])) (hq : hp q = some (.bx [g, s1, s2, s3, .mo m, o])) (hm : hp m = some (.mo es dl)) (la : NodeAt es a ida) (lb : NodeAt es b idb)
  (ha : hp ida = some (.bx [.v (.int .i64 ra), x1, x2, x3])) (hb : hp idb = some (.bx [.v (.int .i64 rb), y1, y2, y3])) :
  InlOK Tryz.prog 44 [.d (.ag (eGRef a)) ba, .d (.ag (eGRef b)) bb, .pt c 0] hp nx fun v hp2 nx2 => v = .v (.int .i64 (cmpI ra rb)) ∧ hp2 = hp ∧ nx2 = nx + 3 + 20 := by
 refine InlOK.fresh (fun hf => ?_) ⟨Tryz.f44, Tryz.func44, by kernel_rfl, by kernel_rfl⟩
 refine inl_run tab_ok fol Tryz.func44 (by rfl) (by kernel_rfl) (by kernel_rfl) (by exact Nat.le_of_ble_eq_true rfl) ?_
 have w := And.intro (show (nx = nx + 1) = False from eq_false (by omega)) <| And.intro (ne_new hf hc) (And.intro (ne_new hf hq) (And.intro (ne_new hf hm) (And.intro (ne_new hf ha) (And.intro (ne_new hf hb) (And.intro (ne_new1 hf hc) (And.intro (ne_new1 hf hq) (And.intro (ne_new1 hf hm) (And.intro (ne_new1 hf ha) (And.intro (ne_new1 hf hb) (And.intro hc (And.intro hq (And.intro hm (And.intro la (And.intro lb (And.intro ha hb)))))))))))))))
 refine Z1 w ?_
 refine ZD0 (cmp_Compare_ok (cmp_some 0 ra rb)) ?_
 refine Z1 w ?_
 refine Rd_endF (by rfl) ?_
 refine Z1 w ?_
 exact ⟨_, hp, rfl, less_two hf, rfl, rfl, rfl⟩
def CmpS {α : Type} (P : Program) (f : FuncId) (caps : List AV) (ld : α → AV) (S : α → Prop) (cf : α → α → Int) (ids : List Nat) (hp0 : Hp) : Prop :=
 ∀ (x y : α), S x → S y → ∀ (nx : Nat), ∃ nx', nx ≤ nx' ∧ ∀ hp : Hp, (∀ i ∈ ids, hp i = hp0 i) → InlOK P f ([ld x, ld y] ++ caps) hp nx fun v2 hp2 nx2 => v2 = .v (.int .i64 (cf x y)) ∧ hp2 = hp ∧ nx2 = nx'
theorem cmp1_ok {hp : Hp} {q c m : Nat} {b : Bool} {g o s1 s2 s3 : AV} {es : List (Value × AV)} {dl : Bool} {rk : GRef → Int} {ids : List Nat}
  (hc : hp c = some (.bx [.pt q 0])) (hq : hp q = some (.bx [g, s1, s2, s3, .mo m, o])) (hm : hp m = some (.mo es dl)) :
  CmpS Tryz.prog 44 [.pt c 0] (fun r : GRef => .d (.ag (eGRef r)) b) (fun r => ∃ id x1 x2 x3, NodeAt es r id ∧ hp id = some (.bx [.v (.int .i64 (rk r)), x1, x2, x3]) ∧ id ∈ ids) (fun a b => cmpI (rk a) (rk b)) (c :: q :: m :: ids) hp := by
 rintro x y ⟨ia, x1, x2, x3, la, ha, ia2⟩ ⟨ib, y1, y2, y3, lb, hb, ib2⟩ nx
 refine ⟨nx + 3 + 20, by omega, fun hp1 h1 => ?_⟩
 exact cmp1 (by rw [h1 c (by simp)]; exact hc) (by rw [h1 q (by simp)]; exact hq) (by rw [h1 m (by simp)]; exact hm) la lb (by rw [h1 ia (by simp [ia2])]; exact ha) (by rw [h1 ib (by simp [ib2])]; exact hb)
end Go.Proofs.YtjkdbakgnnhdnaaGreat.Ab

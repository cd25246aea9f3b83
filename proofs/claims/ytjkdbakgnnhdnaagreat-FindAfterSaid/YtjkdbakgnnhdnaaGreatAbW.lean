/-
 What one has made, told as data where ways meet.
-/
import Derived.Test.YtjkdbakgnnhdnaaGreatAbV
namespace Go.Proofs.YtjkdbakgnnhdnaaGreat.Ab
open Go.RowKit
section
variable {hp hp' : Hp}
end
@[go_sem] theorem toA_acc (hp : Hp) (id ver : Nat) (es : List (List D)) : toA hp (accV id ver es) = (accT (hp id) ver id es).map fun (d, b, is) => (.d d, b, is) := by
 rw [← toD1_acc]
 cases es <;> rfl
@[go_sem] theorem appB_nil {tab : Nat → TI} {nid T T' : Nat} (h : T = T' ∧ (tab T).kind = .slice ∧ (tab (tab T).elem).ok ∧ 0 < (tab (tab T).elem).size) (ys : List (List D)) (b : Bool) (is : List Nat) (id ver : Nat) (o : Option AO) :
  appB tab nid T T' (some (ys, b, is)) id ver [] o = if chk (tab (tab T).elem).size ys ∧ (tab (tab T).elem).bytes ≤ 32768 ∧ ys.length ≤ 4294967296 then
   (if ys.length = 0 then some (.v (.slice none 0 0), []) else some (.so nid 0 0 ys.length, [(nid, .rw ys (tab (tab T).elem).size 0 b false)])) else none := by
 unfold appB
 rw [if_pos h]
@[go_sem] theorem appB_pos {tab : Nat → TI} {nid T T' : Nat} (h : T = T' ∧ (tab T).kind = .slice ∧ (tab (tab T).elem).ok ∧ 0 < (tab (tab T).elem).size) (ys : List (List D)) (b : Bool) (is : List Nat) (id ver : Nat) (es es' : List (List D)) (sz v : Nat) (br : Bool) (hp : 0 < es.length) :
  appB tab nid T T' (some (ys, b, is)) id ver es (some (.rw es' sz v br false)) = if ver = v ∧ es.length ≤ es'.length ∧ sz = (tab (tab T).elem).size ∧ chk sz ys ∧ (tab (tab T).elem).bytes ≤ 32768 ∧ es.length + ys.length ≤ 4294967296 then
      some (.so id (v + 1) 0 (es.length + ys.length), [(id, .rw (es'.take es.length ++ ys) sz (v + 1) (br || b) false)]) else none := by
 unfold appB
 rw [if_pos h]
 cases es with
 | nil => simp at hp
 | cons e r => rfl
end Go.Proofs.YtjkdbakgnnhdnaaGreat.Ab

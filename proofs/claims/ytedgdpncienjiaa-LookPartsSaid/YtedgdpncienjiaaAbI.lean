/-
  Loops over what stands.
-/
import Derived.Test.YtedgdpncienjiaaAbH
namespace Go.Proofs.Ytedgdpncienjiaa.Ab
open Go.RowKit

/-- Slots of these spans are forgotten. -/
def forget : List (Nat × Nat) → Fr → Fr
  | [], fr => fr
  | p :: r, fr => fun t => if p.1 ≤ t ∧ t ≤ p.2 then .un else forget r fr t
def inSp : List (Nat × Nat) → Nat → Bool
  | [], _ => false
  | p :: r, t => (Nat.ble p.1 t && Nat.ble t p.2) || inSp r t
theorem forget_in : ∀ {D : List (Nat × Nat)} {fr : Fr} {t : Nat}, inSp D t = true → forget D fr t = .un
  | [], _, _, h => by cases h
  | p :: r, fr, t, h => by
    simp only [inSp, Bool.or_eq_true, Bool.and_eq_true, Nat.ble_eq] at h
    simp only [forget]
    split
    · rfl
    · rename_i hn
      rcases h with h | h
      · exact absurd h hn
      · exact forget_in h
theorem forget_or : ∀ (D : List (Nat × Nat)) (fr : Fr) (t : Nat), forget D fr t = .un ∨ forget D fr t = fr t
  | [], _, _ => .inr rfl
  | p :: r, fr, t => by
    simp only [forget]
    split
    · exact .inl rfl
    · exact forget_or r fr t
theorem forget_at (p : Nat × Nat) (r : List (Nat × Nat)) (fr : Fr) (t : Nat) : forget (p :: r) fr t = if p.1 ≤ t ∧ t ≤ p.2 then .un else forget r fr t := rfl
theorem forget_nil (fr : Fr) : forget [] fr = fr := rfl
theorem wk_self (D : List (Nat × Nat)) (fr : Fr) : ∀ t, forget D fr t = .un ∨ forget D fr t = fr t := forget_or D fr
theorem wk_base (D : List (Nat × Nat)) (fr : Fr) : ∀ t, forget D fr t = .un ∨ forget D fr t = forget D fr t := fun _ => .inr rfl
theorem wk_skip {D : List (Nat × Nat)} {fr f : Fr} {k : Nat} {v : AV} (hk : inSp D k = true) (h : ∀ t, forget D fr t = .un ∨ forget D fr t = f t) : ∀ t, forget D fr t = .un ∨ forget D fr t = upd k v f t := fun t => by
  unfold upd
  split
  · rename_i e; subst e; exact .inl (forget_in hk)
  · exact h t
/-- Things of these numbers, and what is new, are forgotten. -/
def cutH (N : Nat) : List Nat → Hp → Hp
  | [], hp => fun t => if N ≤ t then none else hp t
  | k :: M, hp => fun t => if t = k then none else cutH N M hp t
theorem cutH_nil (N : Nat) (hp : Hp) (t : Nat) : cutH N [] hp t = if N ≤ t then none else hp t := rfl
theorem cutH_cons (N k : Nat) (M : List Nat) (hp : Hp) (t : Nat) : cutH N (k :: M) hp t = if t = k then none else cutH N M hp t := rfl
theorem cutH_new {N : Nat} {t : Nat} (hp : Hp) (h : N ≤ t) : ∀ (M : List Nat), cutH N M hp t = none
  | [] => if_pos h
  | k :: M => by
    simp only [cutH]
    split
    · rfl
    · exact cutH_new hp h M
theorem cutH_mem {N : Nat} {t : Nat} (hp : Hp) : ∀ {M : List Nat}, t ∈ M → cutH N M hp t = none
  | k :: M, h => by
    simp only [cutH]
    split
    · rfl
    · rename_i e
      exact cutH_mem hp ((List.mem_cons.1 h).resolve_left e)
theorem cutH_or (N : Nat) (hp : Hp) (t : Nat) : ∀ (M : List Nat), cutH N M hp t = none ∨ cutH N M hp t = hp t
  | [] => by
    simp only [cutH]
    split
    · exact .inl rfl
    · exact .inr rfl
  | k :: M => by
    simp only [cutH]
    split
    · exact .inl rfl
    · exact cutH_or N hp t M
theorem wh_cut (N : Nat) (M : List Nat) (hp : Hp) : ∀ t, cutH N M hp t = none ∨ cutH N M hp t = hp t := fun t => cutH_or N hp t M
theorem wh_base (N : Nat) (M : List Nat) (hp : Hp) : ∀ t, cutH N M hp t = none ∨ cutH N M hp t = cutH N M hp t := fun _ => .inr rfl
theorem wh_skip {N : Nat} {M : List Nat} {hp h' : Hp} {k : Nat} {v : Option AO} (hk : N ≤ k ∨ k ∈ M) (h : ∀ t, cutH N M hp t = none ∨ cutH N M hp t = h' t) : ∀ t, cutH N M hp t = none ∨ cutH N M hp t = upd k v h' t := fun t => by
  unfold upd
  split
  · rename_i e
    subst e
    exact .inl (hk.elim (fun h => cutH_new hp h M) fun h => cutH_mem hp h)
  · exact h t
section
variable {P : Program} {tab : Nat → TI} {k : List It} {Q : Ex → St → Prop} {a : Code}
/-- A loop, over what stands where it begins. -/
theorem run_loopA {α : Type} {fr : Fr} {hp : Hp} {nx : Nat} (D : List (Nat × Nat)) (M : List Nat) (f : α → Fr → Fr) (o : α → Hp → Hp) (m : α → Nat) (μ : α → Nat) (x0 : α)
    (h0 : Weak ⟨f x0 (forget D fr), o x0 (cutH nx M hp), nx + m x0⟩ ⟨fr, hp, nx⟩)
    (step : ∀ x, run P tab [.c a, .lp fun s' => ∃ x', Weak ⟨f x' (forget D fr), o x' (cutH nx M hp), nx + m x'⟩ s' ∧ μ x' < μ x] (cont P tab k Q) ⟨f x (forget D fr), o x (cutH nx M hp), nx + m x⟩) : run P tab (.c (.loop a) :: k) Q ⟨fr, hp, nx⟩ :=
  run_loop (fun x => ⟨f x (forget D fr), o x (cutH nx M hp), nx + m x⟩) μ x0 h0 step
/-- A loop that leaves the heap as it is. -/
theorem run_loopH {α : Type} {fr : Fr} {hp : Hp} {nx : Nat} (D : List (Nat × Nat)) (f : α → Fr → Fr) (m : α → Nat) (μ : α → Nat) (x0 : α)
    (h0 : Weak ⟨f x0 (forget D fr), hp, nx + m x0⟩ ⟨fr, hp, nx⟩)
    (step : ∀ x, run P tab [.c a, .lp fun s' => ∃ x', Weak ⟨f x' (forget D fr), hp, nx + m x'⟩ s' ∧ μ x' < μ x] (cont P tab k Q) ⟨f x (forget D fr), hp, nx + m x⟩) : run P tab (.c (.loop a) :: k) Q ⟨fr, hp, nx⟩ :=
  run_loop (fun x => ⟨f x (forget D fr), hp, nx + m x⟩) μ x0 h0 step
end
attribute [go_sem] forget_at forget_nil cutH_nil cutH_cons

theorem keep_self (hp : Hp) : ∀ i, hp i = none ∨ hp i = hp i := fun _ => .inr rfl
theorem keep_new {hp h' : Hp} {nx k : Nat} {v : Option AO} (hf : ∀ j, nx ≤ j → hp j = none) (hk : nx ≤ k) (h : ∀ i, hp i = none ∨ hp i = h' i) : ∀ i, hp i = none ∨ hp i = upd k v h' i := fun i => by
  unfold upd
  split
  · rename_i e; subst e; exact .inl (hf _ hk)
  · exact h i
/-- The end of a function that forgets what it has made. -/
theorem end_retL {tab : Nat → TI} {rs : Array ResultVar} {R : AV → Hp → Nat → Prop} {s : St} {v : AV} {hp' : Hp} (h1 : resA tab rs s = some v) (hL : ∀ i, hp' i = none ∨ hp' i = s.hp i) (h2 : R v hp' s.nx) : EndW tab rs R .ret s := ⟨v, hp', h1, ⟨hL⟩, h2⟩
theorem old_lt {hp : Hp} {nx i : Nat} {o : AO} (hf : ∀ j, nx ≤ j → hp j = none) (h : hp i = some o) : i < nx := Nat.lt_of_not_le fun hn => by rw [hf i hn] at h; cases h

/-! ### guards that hang on what is not known -/
section
variable {P : Program} {tab : Nat → TI} {ops : Array Oper} {nx0 nx i j d : Nat} {k : List It} {Q : Ex → St → Prop} {r : List Oper} {s : St} {dst : Option Nat} {acc : List Rec} {fr : Fr} {hp : Hp} {op : Op} {T : TypeId} {pos : String} {after : Array Edge} {t c : Bool}
theorem Rt_gS (h1 : gAt ops j = some d) (h2 : s.fr d = .v (.bool c)) (hy : c = t → onOp P tab ops nx0 k Q i r dst s op) (hn : c = !t → Rt P tab ops nx0 k Q (i + 1) r ⟨putS dst (.tu []) s.fr, s.hp, s.nx⟩) : Rt P tab ops nx0 k Q i (⟨dst, op, T, pos, after, some (j, t)⟩ :: r) s := by
  rw [Rt_guard2, h1, onGx_some, h2]
  exact onG_split hy hn
theorem Rd_gS (h1 : gAt ops j = some d) (h2 : fr d = .v (.bool c)) (hy : c = t → onOpD P tab ops nx0 nx k Q i r dst acc fr hp op) (hn : c = !t → Rd P tab ops nx0 nx k Q (i + 1) r (⟨[], [], false⟩ :: acc) (putS dst (.tu []) fr) hp) : Rd P tab ops nx0 nx k Q i (⟨dst, op, T, pos, after, some (j, t)⟩ :: r) acc fr hp := by
  rw [Rd_guard2, h1, onGx_some, h2]
  exact onGD_split hy hn
end

/-! ### arithmetic that a walk meets -/
theorem wrap_nat {n : Nat} (h : n < 9223372036854775808) : IntKind.i64.wrap (n : Int) = n := IntWalk.i64_in _ (by omega)
theorem wrap_add {a b : Nat} (h : a + b < 9223372036854775808) : IntKind.i64.wrap ((a : Int) + (b : Int)) = ((a + b : Nat) : Int) := by rw [IntWalk.i64_in _ (by omega)]; omega
theorem wrap_one {a : Nat} (h : a + 1 < 9223372036854775808) : IntKind.i64.wrap ((a : Int) + 1) = ((a + 1 : Nat) : Int) := by rw [IntWalk.i64_in _ (by omega)]; omega
theorem at_map {α β : Type} {f : α → β} {xs : List α} {k : Nat} (h : k < xs.length) : (xs.map f)[k]? = some (f xs[k]) := by simp [h]
theorem dec_lt {a b : Nat} (h : a < b) : decide ((a : Int) < (b : Int)) = true := by simp; omega
theorem dec_nlt {a b : Nat} (h : b ≤ a) : decide ((a : Int) < (b : Int)) = false := by simp; omega
end Go.Proofs.Ytedgdpncienjiaa.Ab

namespace Go.Proofs.Ytedgdpncienjiaa.Ab
open Go.RowKit

def accV (id ver : Nat) : List (List D) → AV
  | [] => .v (.slice none 0 0)
  | _ :: r => .so id ver 0 (r.length + 1)
def accO (sz ver : Nat) (br : Bool) : List (List D) → Option AO
  | [] => none
  | e :: r => some (.rw (e :: r) sz ver br false)
def accI (nid id : Nat) : List (List D) → Nat
  | [] => nid
  | _ :: _ => id
def accN (ver : Nat) : List (List D) → Nat
  | [] => 0
  | _ :: _ => ver + 1
theorem accV_nil (id ver : Nat) : accV id ver [] = .v (.slice none 0 0) := rfl
theorem accO_nil (sz ver : Nat) (br : Bool) : accO sz ver br [] = none := rfl
theorem accV_app (id ver : Nat) (es : List (List D)) (e : List D) : accV id ver (es ++ [e]) = .so id ver 0 (es.length + 1) := by
  cases es with
  | nil => rfl
  | cons x r => simp [accV]
theorem accO_app (sz ver : Nat) (br : Bool) (es : List (List D)) (e : List D) : accO sz ver br (es ++ [e]) = some (.rw (es ++ [e]) sz ver br false) := by
  cases es with
  | nil => rfl
  | cons x r => rfl
theorem accI_le {N nid id : Nat} (es : List (List D)) (h1 : N ≤ nid) (h2 : N ≤ id) : N ≤ accI nid id es := by cases es <;> simp [accI, h1, h2]
theorem accI_lt {M nid id : Nat} (es : List (List D)) (h1 : nid < M) (h2 : id < M) : accI nid id es < M := by cases es <;> simp [accI, h1, h2]
section
variable {tab : Nat → TI} {ρ : Operand → AV} {hp : Hp} {nid id ver T sz : Nat} {x y : Operand} {es : List (List D)} {e : List D} {b : Bool} {is : List Nat}
/-- One more. -/
theorem acc_app (hk : (tab T).kind = .slice) (hok : (tab (tab T).elem).ok = true) (hs : (tab (tab T).elem).size = sz) (hs0 : 0 < sz) (hby : (tab (tab T).elem).bytes ≤ 32768) (hx : ρ x = accV id ver es) (hh : hp id = accO sz ver false es) (hy : rowOf hp (ρ y) = some ([e], b, is)) (he : e.length = sz) (hl : es.length + 1 ≤ 4294967296) :
    evalOp tab ρ hp nid (.call { callee := .builtin .append, args := #[x, y], argTypes := #[T, T] }) = some (.so (accI nid id es) (accN ver es) 0 (es.length + 1), [(accI nid id es, .rw (es ++ [e]) sz (accN ver es) b false)]) := by
  cases es with
  | nil =>
    simp only [accV] at hx
    simp [evalOp, hk, hok, hs, hs0, hy, hx, chk, he, hby, accI, accN]
  | cons z r =>
    simp only [accV] at hx
    simp only [accO] at hh
    have : r.length + 1 + 1 ≤ 4294967296 := by simpa using hl
    simp [evalOp, hk, hok, hs, hs0, hy, hx, hh, chk, he, hby, accI, accN, this]
theorem acc_row (h : hp id = accO sz ver false es) : rowOf hp (accV id ver es) = some (es, false, match es with | [] => [] | _ :: _ => [id]) := by
  cases es with
  | nil => rfl
  | cons z r =>
    simp only [accO] at h
    simp [accV, rowOf, h]
theorem acc_toD (h : hp id = accO sz ver false es) : toD hp (accV id ver es) = some (.sl es, false, match es with | [] => [] | _ :: _ => [id]) := by
  cases es with
  | nil => rfl
  | cons z r =>
    simp only [accO] at h
    simp [accV, toD, toD1, h]
theorem acc_toD1 (h : hp id = accO sz ver false es) : toD1 hp (accV id ver es) = some (.sl es, false, match es with | [] => [] | _ :: _ => [id]) := by
  cases es with
  | nil => rfl
  | cons z r =>
    simp only [accO] at h
    simp [accV, toD1, h]
theorem acc_toR (h : hp id = accO sz ver false es) : toR hp (accV id ver es) = some (.sl es, false, match es with | [] => [] | _ :: _ => [id]) := by
  cases es with
  | nil => rfl
  | cons z r =>
    simp only [accO] at h
    simp [accV, toR, toD, toD1, h]
theorem acc_isVal : isVal (accV id ver es) = true := by cases es <;> rfl
theorem acc_isCell : isCell (accV id ver es) = true := by cases es <;> rfl
theorem acc_cells : cellsA (accV id ver es) = some [accV id ver es] := by cases es <;> rfl
end
theorem accV_cons (id ver : Nat) (e : List D) (r : List (List D)) : accV id ver (e :: r) = .so id ver 0 (r.length + 1) := rfl
theorem accO_cons (sz ver : Nat) (br : Bool) (e : List D) (r : List (List D)) : accO sz ver br (e :: r) = some (.rw (e :: r) sz ver br false) := rfl
theorem take_map {α β : Type} (f : α → β) (r : List α) : (r.map f).take r.length = r.map f := List.take_of_length_le (by simp)
attribute [go_sem] accV_cons accO_cons take_map
attribute [go_sem] accV_nil accO_nil acc_isVal acc_isCell acc_cells
theorem end_pureN {tab : Nat → TI} {rs : Array ResultVar} {d d' : D} {fr b : Bool} {is : List Nat} {s : St} {v : AV} (h1 : resA tab rs s = some v) (h2 : toR s.hp v = some (d', b, is)) (h3 : d' = d) (h4 : fr = true → b = false) : EndW tab rs (EndP d fr) .normal s :=
  end_norm h1 ⟨b, is, by rw [h2, h3], h4⟩
/-! ### bits -/
/-- Some bits of a number, as a natural one. -/
def an (n m : Int) : Nat := (BitVec.ofInt 64 n &&& BitVec.ofInt 64 m).toNat
theorem an_le (n m : Int) : an n m ≤ (BitVec.ofInt 64 m).toNat := by
  unfold an
  rw [BitVec.toNat_and]
  exact Nat.and_le_right
theorem wrap_an (n m : Int) (h : (BitVec.ofInt 64 m).toNat < 9223372036854775808) : IntKind.i64.wrap (an n m : Int) = (an n m : Int) := by
  have := an_le n m
  exact wrap_nat (show an n m < _ by omega)
/-- A number, shifted. -/
def sh (n : Int) (k : Nat) : Int := n.fdiv (2 ^ (min k 64))
/-- The same of eight bits. -/
def anB (n m : Int) : Nat := (BitVec.ofInt 8 n &&& BitVec.ofInt 8 m).toNat
theorem anB_le (n m : Int) : anB n m ≤ (BitVec.ofInt 8 m).toNat := by
  unfold anB
  rw [BitVec.toNat_and]
  exact Nat.and_le_right
@[go_sem ↓ high] theorem intV_andB (a b : Int) : intV .and .u8 a b = some (.int .u8 (IntKind.u8.wrap (anB a b : Int))) := rfl
@[go_sem ↓ high] theorem intV_and (a b : Int) : intV .and .i64 a b = some (.int .i64 (IntKind.i64.wrap (an a b : Int))) := rfl
@[go_sem ↓ high] theorem binV_shr (a b : Int) (k : IntKind) : binV .shr (.int .i64 a) (.int k b) = if b < 0 then none else some (.int .i64 (sh a b.toNat)) := rfl
@[go_sem] theorem cast_neg (n : Nat) : ((n : Int) < 0) = False := by simp
attribute [go_sem] Int.toNat_natCast
theorem tmod_nat (a b : Nat) : ((a : Int)).tmod (b : Int) = ((a % b : Nat) : Int) := by rw [Int.tmod_eq_emod_of_nonneg (by omega)]; omega
end Go.Proofs.Ytedgdpncienjiaa.Ab

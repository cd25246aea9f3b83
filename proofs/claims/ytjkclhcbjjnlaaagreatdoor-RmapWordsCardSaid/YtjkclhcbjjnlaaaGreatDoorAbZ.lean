/-
  Numbers that are told ahead.
-/
import Derived.Test.YtjkclhcbjjnlaaaGreatDoorAbI
namespace Go.Proofs.YtjkclhcbjjnlaaaGreatDoor.Ab
open Go.RowKit

/-- What is told: where to, and what. -/
abbrev Hk := List (Nat × Value)
abbrev Cl := BinOp × Nat × Value × Value × Value
def ClOK (tab : Nat → TI) (c : Cl) : Prop := ∀ hp, binH tab hp c.1 c.2.1 (.v c.2.2.1) (.v c.2.2.2.1) = some (.v c.2.2.2.2)
def hkOf (op : Op) (dst : Option Nat) (ρ : Operand → AV) : Hk → Option (Cl × Hk)
  | [] => none
  | (d, v) :: r => match dst with
    | some d' => match Nat.beq d d' with
      | true => match op with
        | .binOp o T x y _ => match ρ x with
          | .v a => match ρ y with
            | .v b => some ((o, T, a, b, v), r)
            | _ => none
          | _ => none
        | _ => none
      | false => none
    | none => none
theorem hkOf_ok {tab : Nat → TI} {op : Op} {dst : Option Nat} {ρ : Operand → AV} {hk r : Hk} {c : Cl} (h : hkOf op dst ρ hk = some (c, r)) (hc : ClOK tab c) : vcall op = none ∧ ∀ hp id, evalOp tab ρ hp id op = some (.v c.2.2.2.2, []) := by
  unfold hkOf at h
  split at h
  · cases h
  split at h
  · split at h
    · split at h
      · split at h
        · rename_i e1
          split at h
          · rename_i e2
            simp only [Option.some.injEq, Prod.mk.injEq] at h
            obtain ⟨rfl, rfl⟩ := h
            refine ⟨rfl, fun hp id => ?_⟩
            simp only [evalOp, e1, e2]
            rw [show binH tab hp _ _ _ _ = _ from hc hp]
            rfl
          · cases h
        · cases h
      · cases h
    · cases h
  · cases h

section
variable (tab : Nat → TI) (B : Tr AO) (call : Tr AO → FuncId → List AV → Tr AO → Nat → Option (AV × Tr AO × Nat)) (pcall : FuncId → List D → Option (D × Bool)) (N : Nat)
def zOps (ops : Array Oper) (nx0 : Nat) : Nat → List Oper → XS → Hk → Option (XS × Hk × List Cl)
  | _, [], x, hk => some (x, hk, [])
  | i, o :: r, x, hk => match xWant ops o x.fr with
    | none => none
    | some false => zOps ops nx0 (i + 1) r ⟨putT o.dst (.tu []) x.fr, x.hp, x.nx⟩ hk
    | some true => match hkOf o.op o.dst (ev (frT x.fr)) hk with
      | some (c, hk') => match zOps ops nx0 (i + 1) r ⟨putT o.dst (.v c.2.2.2.2) x.fr, x.hp, x.nx⟩ hk' with
        | some (x', hk'', tr) => some (x', hk'', c :: tr)
        | none => none
      | none => match xOp tab B call o.op (nx0 + i) x with
        | none => none
        | some (v, hp, nx) => zOps ops nx0 (i + 1) r ⟨putT o.dst v x.fr, hp, nx⟩ hk
def zOpsD (ops : Array Oper) (nx0 : Nat) : Nat → Nat → List Oper → List Rec → FrT → Tr AO → Hk → Option (XS × Hk × List Cl)
  | nx, _, [], acc, fr, hp, hk => match okFast ops acc.reverse with
    | true => some (⟨fr, hp, nx⟩, hk, [])
    | false => none
  | nx, i, o :: r, acc, fr, hp, hk => match xWant ops o fr with
    | none => none
    | some false => zOpsD ops nx0 nx (i + 1) r (⟨[], [], false⟩ :: acc) (putT o.dst (.tu []) fr) hp hk
    | some true => match hkOf o.op o.dst (ev (frT fr)) hk with
      | some (c, hk') => match zOpsD ops nx0 nx (i + 1) r (⟨idsOp (ev (frT fr)) o.op, [], false⟩ :: acc) (putT o.dst (.v c.2.2.2.2) fr) hp hk' with
        | some (x', hk'', tr) => some (x', hk'', c :: tr)
        | none => none
      | none => match xOpD tab B call pcall N o.op (nx0 + i) nx fr hp with
        | none => none
        | some (v, δ, ids, n) => zOpsD ops nx0 (n.getD nx) (i + 1) r (⟨ids, δ.map (·.1), n.isSome⟩ :: acc) (putT o.dst v fr) (updT δ hp) hk
abbrev ZR := Option (Ex × XS × Hk × List Cl)
def zLoop (step : XS → Hk → ZR) : Nat → XS → Hk → ZR
  | 0, _, _ => none
  | n + 1, x, hk => match step x hk with
    | some (.normal, x', hk', tr) => match zLoop step n x' hk' with
      | some (e, x2, hk2, tr2) => some (e, x2, hk2, tr ++ tr2)
      | none => none
    | r => r
def zC : Code → XS → Hk → ZR
  | .skip, x, hk => some (.normal, x, hk, [])
  | .label _, x, hk => some (.normal, x, hk, [])
  | .ret, x, hk => some (.ret, x, hk, [])
  | .exit n, x, hk => some (.exit n, x, hk, [])
  | .seq a b, x, hk => match zC a x hk with
    | some (.normal, x', hk', tr) => match zC b x' hk' with
      | some (e, x2, hk2, tr2) => some (e, x2, hk2, tr ++ tr2)
      | none => none
    | r => r
  | .cond c a b, x, hk => match ev (frT x.fr) c with
    | .v (.bool t) => match t with
      | true => zC a x hk
      | false => zC b x hk
    | _ => none
  | .block n a, x, hk => match zC a x hk with
    | some (.exit m, x', r) => match Nat.beq m n with
      | true => some (.normal, x', r)
      | false => some (.exit m, x', r)
    | r => r
  | .region _ ops draw, x, hk => match draw with
    | false => match zOps tab B call ops x.nx 0 ops.toList ⟨x.fr, x.hp, x.nx + ops.size⟩ hk with
      | some r => some (.normal, r)
      | none => none
    | true => match zOpsD tab B call pcall N ops x.nx (x.nx + ops.size) 0 ops.toList [] x.fr x.hp hk with
      | some r => some (.normal, r)
      | none => none
  | .loop a, x, hk => zLoop (zC a) N x hk
  | _, _, _ => none
end
section
variable {P : Program} {tab : Nat → TI} {B : Tr AO} {call : Tr AO → FuncId → List AV → Tr AO → Nat → Option (AV × Tr AO × Nat)} {pcall : FuncId → List D → Option (D × Bool)} {N : Nat}
theorem zOps_ok (hc : ∀ B g vs hp nx v hp' nx', call B g vs hp nx = some (v, hp', nx') → Ends P B g vs hp nx v hp' nx') {X : Hp} (hX : Sup X (hpT B)) {ops : Array Oper} {nx0 : Nat} {K : St → Prop} :
    ∀ (r : List Oper) (i : Nat) (x x' : XS) (hk hk' : Hk) (tr : List Cl), zOps tab B call ops nx0 i r x hk = some (x', hk', tr) → (∀ c ∈ tr, ClOK tab c) → K (x'.st X) → WT P tab ops nx0 K i r (x.st X)
  | [], i, x, x', hk, hk', tr, h, ht, hK => by cases h; exact hK
  | o :: r, i, x, x', hk, hk', tr, h, ht, hK => by
    unfold zOps at h
    unfold WT
    split at h
    · cases h
    · rename_i hw
      refine xWant_ok hw (fun e => by cases e) fun _ => ?_
      have := zOps_ok hc hX r _ _ x' _ _ _ h ht hK
      simp only [XS.st, frT_put] at this
      exact this
    · rename_i hw
      refine xWant_ok hw (fun _ => ?_) fun e => by cases e
      split at h
      · rename_i c hk1 e1
        split at h
        · rename_i x2 hk2 tr2 e2
          simp only [Option.some.injEq, Prod.mk.injEq] at h
          obtain ⟨rfl, rfl, rfl⟩ := h
          obtain ⟨h1, h2⟩ := hkOf_ok (tab := tab) e1 (ht c (by simp))
          have hrec := zOps_ok hc hX r _ _ _ _ _ _ e2 (fun c hc => ht c (by simp [hc])) hK
          simp only [XS.st, frT_put] at hrec
          rw [execW_eq, h1]
          simp only [XS.st, h2]
          exact hrec
        · cases h
      · split at h
        · cases h
        · rename_i v hp nx hop
          have hrec := zOps_ok hc hX r _ _ x' _ _ _ h ht hK
          simp only [XS.st, frT_put] at hrec
          exact xOp_ok hc hX hop hrec
theorem zOpsD_ok (hc : ∀ B g vs hp nx v hp' nx', call B g vs hp nx = some (v, hp', nx') → Ends P B g vs hp nx v hp' nx') (hp : ∀ g ds d fr, pcall g ds = some (d, fr) → PureOK P g ds d fr) {X : Hp} (hX : Sup X (hpT B)) {ops : Array Oper} {nx0 : Nat} {K : St → Prop} :
    ∀ (r : List Oper) (nx i : Nat) (acc : List Rec) (fr : FrT) (h0 : Tr AO) (x' : XS) (hk hk' : Hk) (tr : List Cl), zOpsD tab B call pcall N ops nx0 nx i r acc fr h0 hk = some (x', hk', tr) → (∀ c ∈ tr, ClOK tab c) → K (x'.st X) → WD P tab ops nx0 K nx i r acc (frT fr) (ovl (hpT h0) X)
  | [], nx, i, acc, fr, h0, x', hk, hk', tr, h, ht, hK => by
    unfold zOpsD at h
    split at h
    · rename_i e; cases h; exact ⟨okFast_ok e, hK⟩
    · cases h
  | o :: r, nx, i, acc, fr, h0, x', hk, hk', tr, h, ht, hK => by
    unfold zOpsD at h
    unfold WD
    split at h
    · cases h
    · rename_i hw
      refine xWant_ok (x := ⟨fr, h0, nx⟩) hw (fun e => by cases e) fun _ => ?_
      have := zOpsD_ok hc hp hX r _ _ _ _ _ x' _ _ _ h ht hK
      simp only [frT_put] at this
      exact this
    · rename_i hw
      refine xWant_ok (x := ⟨fr, h0, nx⟩) hw (fun _ => ?_) fun e => by cases e
      split at h
      · rename_i c hk1 e1
        split at h
        · rename_i x2 hk2 tr2 e2
          simp only [Option.some.injEq, Prod.mk.injEq] at h
          obtain ⟨rfl, rfl, rfl⟩ := h
          obtain ⟨h1, h2⟩ := hkOf_ok (tab := tab) e1 (ht c (by simp))
          have hrec := zOpsD_ok hc hp hX r _ _ _ _ _ _ _ _ _ e2 (fun c hc => ht c (by simp [hc])) hK
          simp only [frT_put] at hrec
          rw [execD_eq, h1]
          simp only [h2]
          exact hrec
        · cases h
      · split at h
        · cases h
        · rename_i v δ ids n hop
          have hrec := zOpsD_ok hc hp hX r _ _ _ _ _ x' _ _ _ h ht hK
          simp only [frT_put, hpT_upd, ← ovl_upds] at hrec
          exact xOpD_ok hc hp hX hop hrec
theorem zC_ok (hc : ∀ B g vs hp nx v hp' nx', call B g vs hp nx = some (v, hp', nx') → Ends P B g vs hp nx v hp' nx') (hp : ∀ g ds d fr, pcall g ds = some (d, fr) → PureOK P g ds d fr) (X : Hp) (hX : Sup X (hpT B)) :
    ∀ (code : Code) (x x' : XS) (hk hk' : Hk) (tr : List Cl) (e : Ex) (Q : Ex → St → Prop), zC tab B call pcall N code x hk = some (e, x', hk', tr) → (∀ c ∈ tr, ClOK tab c) → Q e (x'.st X) → W2 P tab code Q (x.st X) := by
  intro code
  induction code with
  | skip => intro x x' hk hk' tr e Q h ht hQ; cases h; exact hQ
  | label l => intro x x' hk hk' tr e Q h ht hQ; cases h; exact hQ
  | ret => intro x x' hk hk' tr e Q h ht hQ; cases h; exact hQ
  | exit n => intro x x' hk hk' tr e Q h ht hQ; cases h; exact hQ
  | seq a b iha ihb =>
    intro x x' hk hk' tr e Q h ht hQ
    unfold zC at h
    split at h
    · rename_i x1 hk1 tr1 h1
      split at h
      · rename_i e2 x2 hk2 tr2 h2
        simp only [Option.some.injEq, Prod.mk.injEq] at h
        obtain ⟨rfl, rfl, rfl, rfl⟩ := h
        exact iha _ _ _ _ _ _ _ h1 (fun c hc => ht c (by simp [hc])) (ihb _ _ _ _ _ _ _ h2 (fun c hc => ht c (by simp [hc])) hQ)
      · cases h
    · rename_i h1
      refine iha _ _ _ _ _ _ _ h ht ?_
      cases e with
      | normal => exact absurd h (h1 _ _ _)
      | ret => exact hQ
      | exit n => exact hQ
  | cond c a b iha ihb =>
    intro x x' hk hk' tr e Q h ht hQ
    unfold zC at h
    rw [W2_cond]
    simp only [XS.st]
    split at h
    · rename_i t et
      simp only [et]
      cases t with
      | true => exact ⟨fun _ => iha _ _ _ _ _ _ _ h ht hQ, fun e => by cases e⟩
      | false => exact ⟨(nomatch ·), fun _ => ihb _ _ _ _ _ _ _ h ht hQ⟩
    · cases h
  | block n a iha =>
    intro x x' hk hk' tr e Q h ht hQ
    unfold zC at h
    split at h
    · rename_i m x1 r1 h1
      obtain ⟨hk1, tr1⟩ := r1
      split at h
      · rename_i em
        simp only [Option.some.injEq, Prod.mk.injEq] at h
        obtain ⟨rfl, rfl, rfl, rfl⟩ := h
        refine iha _ _ _ _ _ _ _ h1 ht ?_
        simp only
        rw [if_pos (Nat.eq_of_beq_eq_true em)]
        exact hQ
      · rename_i em
        simp only [Option.some.injEq, Prod.mk.injEq] at h
        obtain ⟨rfl, rfl, rfl, rfl⟩ := h
        refine iha _ _ _ _ _ _ _ h1 ht ?_
        simp only
        rw [if_neg (beq_false em)]
        exact hQ
    · rename_i h1
      refine iha _ _ _ _ _ _ _ h ht ?_
      cases e with
      | normal => exact hQ
      | ret => exact hQ
      | exit m => exact absurd h (h1 _ _ _)
  | region id ops draw =>
    intro x x' hk hk' tr e Q h ht hQ
    unfold zC at h
    cases draw with
    | false =>
      simp only at h
      split at h
      · rename_i r1 h1
        obtain ⟨x1, hk1, tr1⟩ := r1
        simp only [Option.some.injEq, Prod.mk.injEq] at h
        obtain ⟨rfl, rfl, rfl, rfl⟩ := h
        exact zOps_ok hc hX _ _ _ _ _ _ _ h1 ht hQ
      · cases h
    | true =>
      simp only at h
      split at h
      · rename_i r1 h1
        obtain ⟨x1, hk1, tr1⟩ := r1
        simp only [Option.some.injEq, Prod.mk.injEq] at h
        obtain ⟨rfl, rfl, rfl, rfl⟩ := h
        exact zOpsD_ok hc hp hX _ _ _ _ _ _ _ _ _ _ h1 ht hQ
      · cases h
  | loop a iha =>
    intro x x' hk hk' tr e Q h ht hQ Y h1 h2
    unfold zC at h
    suffices ∀ n (x : XS) (hk hk' : Hk) (tr : List Cl), zLoop (zC tab B call pcall N a) n x hk = some (e, x', hk', tr) → (∀ c ∈ tr, ClOK tab c) → Y (x.st X) from this _ _ _ _ _ h ht
    clear h ht
    intro n
    induction n with
    | zero => intro x hk hk' tr h; cases h
    | succ n ih =>
      intro x hk hk' tr h ht
      unfold zLoop at h
      split at h
      · rename_i x1 hk1 tr1 e1
        split at h
        · rename_i e2 x2 hk2 tr2 h2
          simp only [Option.some.injEq, Prod.mk.injEq] at h
          obtain ⟨rfl, rfl, rfl, rfl⟩ := h
          exact h1 _ (iha _ _ _ _ _ _ _ e1 (fun c hc => ht c (by simp [hc])) (ih _ _ _ _ h2 (fun c hc => ht c (by simp [hc]))))
        · cases h
      · rename_i hn
        refine h1 _ (iha _ _ _ _ _ _ _ h ht ?_)
        cases e with
        | normal => exact absurd h (hn _ _ _)
        | ret => exact hQ
        | exit m => exact hQ
  | _ => intro x x' hk hk' tr e Q h ht hQ; cases h
end

/-- A call with open data, reckoned by the kernel; what it hangs on is told ahead and given back. -/
def evalZ (P : Program) (prim : Prim) (N n : Nat) (f : FuncId) (ds : List D) (hk : Hk) : Option (D × Bool × List Cl) :=
  let xs := xRun P (tabP P) N (okOf P) prim n
  match okOf P f with
  | false => none
  | true => match P.funcs[f]? with
    | none => none
    | some fn => match fn.body with
      | none => none
      | some code => match Nat.ble ds.length fn.ntmps with
        | false => none
        | true => match zC (tabP P) .lf xs (xPd P xs) N code ⟨fillT (ds.map (lift true)) 0, .lf, 0⟩ hk with
          | some (e, x, _, tr) => match xEnd (tabP P) .lf fn.results (some (e, x)) with
            | some (v, hp', _) => match toR (hpT hp') v with
              | some (d, b, _) => some (d, !b, tr)
              | none => none
            | none => none
          | none => none
theorem evalZ_ok {P : Program} {prim : Prim} {N n : Nat} {f : FuncId} {ds : List D} {hk : Hk} {d : D} {fr : Bool} {tr : List Cl} (hm : P.follows .mixedOrders = true) (hpr : PrimOK P prim) (h : evalZ P prim N n f ds hk = some (d, fr, tr)) (ht : ∀ c ∈ tr, ClOK (tabP P) c) : PureOK P f ds d fr := by
  unfold evalZ at h
  simp only at h
  have hxs := xRun_ok (N := N) (ok := okOf P) (tabP_ok P) hm (fun f fn h1 h2 => by unfold okOf at h1; rw [h2] at h1; exact h1) hpr n
  split at h
  · cases h
  rename_i hokf
  split at h
  · cases h
  rename_i fn hf
  have h0 : okFn fn = true := by unfold okOf at hokf; rw [hf] at hokf; exact hokf
  split at h
  · cases h
  rename_i code hb
  unfold okFn at h0
  rw [hb] at h0
  simp only [Bool.and_eq_true, Bool.not_eq_true'] at h0
  split at h
  · cases h
  rename_i hl
  split at h
  · rename_i e x hk1 tr1 hx
    split at h
    · rename_i v hp' nx' he
      split at h
      · rename_i d1 b1 is1 hr
        simp only [Option.some.injEq, Prod.mk.injEq] at h
        obtain ⟨rfl, rfl, rfl⟩ := h
        refine pure_of_inl (inl_of_W (tabP_ok P) hm hf hb h0.1 h0.2 (by simpa using Nat.le_of_ble_eq_true hl) (W2_W code (EndW (tabP P) fn.results (EndP d1 (!b1))) _ _ (fun _ _ h => h) ?_))
        rw [← frT_fill]
        have key := zC_ok (P := P) (tab := tabP P) hxs (fun g ds d fr hx => xPd_ok hxs hx) noHp (fun i o h => by cases h) code ⟨fillT (ds.map (lift true)) 0, .lf, 0⟩ x hk hk1 tr1 e (EndW (tabP P) fn.results (EndP d1 (!b1))) hx ht
        refine key ?_
        have hres : ∀ v1, resA (tabP P) fn.results (x.st (hpT .lf)) = some v1 → v1 = v → x.hp = hp' → ∃ v hp', resA (tabP P) fn.results (x.st noHp) = some v ∧ Less hp' (x.st noHp).hp ∧ EndP d1 (!b1) v hp' (x.st noHp).nx := by
          rintro v1 h1 rfl rfl
          refine ⟨v1, hpT x.hp, h1, ⟨fun i => .inr ?_⟩, b1, is1, hr, by simp⟩
          simp only [XS.st, ovl_noHp]
        unfold xEnd at he
        cases e with
        | exit m => cases he
        | normal =>
          simp only [Option.map_eq_some_iff, Prod.mk.injEq] at he
          obtain ⟨v1, h1, h2, h3, _⟩ := he
          exact hres v1 h1 h2 h3
        | ret =>
          simp only [Option.map_eq_some_iff, Prod.mk.injEq] at he
          obtain ⟨v1, h1, h2, h3, _⟩ := he
          exact hres v1 h1 h2 h3
      · cases h
    · cases h
  · cases h
end Go.Proofs.YtjkclhcbjjnlaaaGreatDoor.Ab

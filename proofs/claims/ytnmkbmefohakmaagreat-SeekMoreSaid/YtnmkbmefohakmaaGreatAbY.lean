/-
 What the evaluator wants besides.
-/
import Derived.Test.YtnmkbmefohakmaaGreatSgs
set_option linter.all false
namespace Go.Proofs.YtnmkbmefohakmaaGreat.Ab
open Go.RowKit
theorem sL {tab:Nat->TI}{rs:Array ResultVar}{R:AV->Hp->Nat->Prop}{s:St}{v:AV}(h1:Dw tab rs s=some v)(h2:R v s.hp s.nx):Cu tab rs R .normal s:=⟨v,s.hp,h1,⟨fun _=>.inr rfl⟩,h2⟩

/-- More that there is. -/
def Fc (hp' hp:Hp):Prop:=∀i o,hp i=some o->hp' i=some o
section
variable {tab:Nat->TI}{ρ:Operand->AV}{hp hp':Hp}{id:Nat}

theorem Z6 (h:Fc hp' hp){x:AV}{r:D × Bool × List Nat}(hx:CS hp x=some r):CS hp' x=some r:=by
 cases x with
 |so i v o n=>
  unfold CS at hx⊢;simp only at hx⊢;cases hi:hp i with |none=>rw[hi] at hx;cases hx |some ob=>rw[hi] at hx;rw[h i ob hi];exact hx
 |v x=>cases x with |slice a n c=>cases a<;>cases n<;>cases c<;>exact hx |_=>exact hx
 |d x b=>cases x<;>exact hx
 |_=>exact hx
theorem Z7 (h:Fc hp' hp):∀ {xs:List AV} {r:List D × Bool × List Nat},DE hp xs=some r->DE hp' xs=some r
 |[],r,hx=>hx
 |x::xs,r,hx=>by
  unfold DE at hx⊢;split at hx
  ·rename_i e1 e2;rw[Z6 h e1,Z7 h e2];exact hx
  cases hx
theorem sM (h:Fc hp' hp){x:AV}{r:D × Bool × List Nat}(hx:EP hp x=some r):EP hp' x=some r:=by
 cases x with
 |ag cs=>
  grind [EP,Option.map_eq_some_iff,Z7]
 |d y b=>cases y<;>first |exact hx |(unfold EP at hx⊢;exact Z6 h hx)
 |_=>unfold EP at hx⊢;exact Z6 h hx
theorem XI (h:Fc hp' hp):∀ {xs:List AV} {r:List D × Bool × List Nat},CT hp xs=some r->CT hp' xs=some r
 |[],r,hx=>hx
 |x::xs,r,hx=>by
  unfold CT at hx⊢;split at hx
  ·rename_i e1 e2;rw[sM h e1,XI h e2];exact hx
  cases hx
theorem Z8 (h:Fc hp' hp):∀ {is:List Nat},(∀i∈is,∃es sz v br fz,hp i=some (.rw es sz v br fz))->frz hp' is=frz hp is
 |[],_=>rfl
 |i::r,hi=>by
  obtain⟨es,sz,v,br,fz,h1⟩:=hi i (by simp);simp only[frz,h1,h i _ h1,Z8 h (is:=r) fun i h=>hi i (by simp[h])]
theorem iG (h:Fc hp' hp){x:AV}{r:List (List D) × Bool × List Nat}(hx:Fg hp x=some r):Fg hp' x=some r:=by
 cases x with
 |so i v o n=>
  unfold Fg at hx⊢;simp only at hx⊢;cases hi:hp i with |none=>rw[hi] at hx;cases hx |some ob=>rw[hi] at hx;rw[h i ob hi];exact hx
 |d y b=>cases y<;>exact hx
 |v y=>cases y with |slice a n c=>cases a<;>cases n<;>cases c<;>exact hx |_=>exact hx
 |_=>exact hx
theorem sN (h:Fc hp' hp){op:BinOp}{T:Nat}{x y:AV}{r:AV}(hx:FJ tab hp op T x y=some r):FJ tab hp' op T x y=some r:=by
 unfold FJ at hx⊢;split
 ·rename_i i v o n;simp only at hx;cases hi:hp i with |none=>rw[hi] at hx;cases hx |some ob=>rw[hi] at hx;rw[h i ob hi];exact hx
 grind
theorem iH (h:Fc hp' hp){op:Op}{r:AV × List (Nat × AO)}(hx:CB tab ρ hp id op=some r):CB tab ρ hp' id op=some r:=by
 cases op with
 |load T x=>
  unfold CB at hx⊢;simp only at hx⊢;split at hx
  ·rename_i hok;rw[if_pos hok];cases hv:ρ x with
   |pt i off=>rw[hv] at hx;simp only at hx⊢;(cases hi:hp i with |none=>(rw[hi] at hx;cases hx) |some ob=>(rw[hi] at hx;rw[h i ob hi];exact hx))
   |pr i v k off=>rw[hv] at hx;simp only at hx⊢;(cases hi:hp i with |none=>(rw[hi] at hx;cases hx) |some ob=>(rw[hi] at hx;rw[h i ob hi];exact hx))
   |d y b=>rw[hv] at hx;cases y<;>exact hx
   |_=>rw[hv] at hx;exact hx
  ·cases hx
 |store T x y=>
  unfold CB at hx⊢;simp only at hx⊢;split at hx
  ·rename_i hok;rw[if_pos hok];cases hv:ρ x with
   |pt i off=>
    rw[hv] at hx;cases hc:De (ρ y) with
    |none=>rw[hc] at hx;exact hx
    |some xs=>rw[hc] at hx;simp only at hx⊢;(cases hi:hp i with |none=>(rw[hi] at hx;cases hx) |some ob=>(rw[hi] at hx;rw[h i ob hi];exact hx))
   |pr i v k off=>
    rw[hv] at hx;cases hc:De (ρ y) with
    |none=>rw[hc] at hx;exact hx
    |some xs=>
     rw[hc] at hx;simp only at hx⊢;split at hx
     ·rename_i e1 e2;rw[h i _ e1,Z7 h e2];simp only;rw[Z8 h (TJ e2)];exact hx
     ·cases hx
   |d y b=>rw[hv] at hx;cases y<;>exact hx
   |_=>rw[hv] at hx;exact hx
  ·cases hx
 |binOp op T x y T'=>
  unfold CB at hx⊢;grind [Option.map_eq_some_iff,sN]
 |indexAddr T x i=>
  unfold CB at hx⊢;simp only at hx⊢;split at hx
  ·rename_i hk;rw[if_pos hk];cases hv:ρ x with
   |so j v o n=>
    rw[hv] at hx;cases hn:D8 (ρ i) with
    |none=>rw[hn] at hx;exact hx
    |some m=>rw[hn] at hx;simp only at hx⊢;(cases hi:hp j with |none=>(rw[hi] at hx;cases hx) |some ob=>(rw[hi] at hx;rw[h j ob hi];exact hx))
   |d y b=>grind
   |_=>rw[hv] at hx;exact hx
  grind
 |slice T x lo hi mx=>
  cases mx with
  |some m=>exact hx
  |none=>
   unfold CB at hx⊢;simp only at hx⊢;cases hk:(tab T).kind with
   |slice=>
    cases hv:ρ x with
    |so j v o n=>
     rw[hk,hv] at hx;simp only at hx⊢;split at hx
     ·rename_i e1 e2;rw[e1,h j _ e2];exact hx
     ·cases hx
    |d y b=>rw[hk,hv] at hx;cases y<;>exact hx
    |v y=>grind
    |_=>rw[hk,hv] at hx;exact hx
   |string=>
    grind
   |_=>rw[hk] at hx;exact hx
 |buildSlice T n ps=>
  unfold CB at hx⊢;simp only at hx⊢;split at hx
  ·rename_i hc;rw[if_pos hc];grind [XI,Z8,Pi]
  ·cases hx
 |lookup T x k ok=>
  unfold CB at hx⊢;simp only at hx⊢;split at hx
  ·split at hx
   ·rename_i hw;rw[if_pos hw];cases hv:ρ x with
    |mo i=>rw[hv] at hx;simp only at hx⊢;(cases hi:hp i with |none=>(rw[hi] at hx;cases hx) |some ob=>(rw[hi] at hx;rw[h i ob hi];exact hx))
    |d y b=>rw[hv] at hx;cases y<;>exact hx
    |v y=>grind
    |_=>rw[hv] at hx;exact hx
   cases hx
  ·cases hx
 |mapUpdate T m k x=>
  unfold CB at hx⊢;simp only at hx⊢;split at hx
  ·split at hx
   ·rename_i hw;rw[if_pos hw];cases hv:ρ m with
    |mo i=>rw[hv] at hx;simp only at hx⊢;(cases hi:hp i with |none=>(rw[hi] at hx;cases hx) |some ob=>(rw[hi] at hx;rw[h i ob hi];exact hx))
    |d y b=>rw[hv] at hx;cases y<;>exact hx
    |_=>rw[hv] at hx;exact hx
   cases hx
  ·cases hx
 |insert T m k x=>
  unfold CB at hx⊢;simp only at hx⊢;split at hx
  ·split at hx
   ·rename_i hw;rw[if_pos hw];cases hv:ρ m with
    |mo i=>rw[hv] at hx;simp only at hx⊢;(cases hi:hp i with |none=>(rw[hi] at hx;cases hx) |some ob=>(rw[hi] at hx;rw[h i ob hi];exact hx))
    |d y b=>rw[hv] at hx;cases y<;>exact hx
    |_=>rw[hv] at hx;exact hx
   cases hx
  ·cases hx
 |mapEntry T m k=>
  unfold CB at hx⊢;simp only at hx⊢;split at hx
  ·split at hx
   ·rename_i hw;rw[if_pos hw];cases hv:ρ m with
    |mo i=>rw[hv] at hx;simp only at hx⊢;(cases hi:hp i with |none=>(rw[hi] at hx;cases hx) |some ob=>(rw[hi] at hx;rw[h i ob hi];exact hx))
    |d y b=>rw[hv] at hx;cases y<;>exact hx
    |_=>rw[hv] at hx;exact hx
   cases hx
  ·cases hx
 |entryStore T m st x=>
  unfold CB at hx⊢;simp only at hx⊢;cases hv:ρ m with
  |mo i=>
   rw[hv] at hx;cases hn:D8 (ρ st) with
   |none=>rw[hn] at hx;exact hx
   |some j=>
    rw[hn] at hx;simp only at hx⊢;split at hx
    ·rename_i hw;rw[if_pos hw]
     (cases hi:hp i with |none=>(rw[hi] at hx;cases hx) |some ob=>(rw[hi] at hx;rw[h i ob hi];exact hx))
    ·cases hx
  |_=>rw[hv] at hx;exact hx
 |call c=>
  obtain⟨callee,args,ty⟩:=c;cases callee with
  |builtin b=>
   cases b with
   |append=>
    unfold CB at hx⊢;simp only at hx⊢;split at hx
    ·split at hx
     ·rename_i hc;rw[if_pos hc];split at hx
      ·rename_i e1 e2;rw[iG h e1];simp only[e2];exact hx
      ·rename_i x y T T' _ _ _ _ ys b' is i v off n e1 e2;rw[iG h e1];simp only[e2]
       (cases hi:hp i with |none=>(rw[hi] at hx;cases hx) |some ob=>(rw[hi] at hx;rw[h i ob hi];exact hx))
      cases hx
     grind
    ·cases hx
   |clear=>
    unfold CB at hx⊢;simp only at hx⊢;split at hx
    ·rename_i x T _ _;split at hx
     ·rename_i hc;rw[if_pos hc];cases hv:ρ x with
      |so i v o n=>rw[hv] at hx;simp only at hx⊢;(cases hi:hp i with |none=>(rw[hi] at hx;cases hx) |some ob=>(rw[hi] at hx;rw[h i ob hi];exact hx))
      |d y b=>rw[hv] at hx;cases y<;>exact hx
      |v y=>grind
      |_=>rw[hv] at hx;exact hx
     cases hx
    ·cases hx
   |_=>exact hx
  |_=>exact hx
 |makeFunc f first caps=>cases f<;>exact hx
 |makeMap T r=>cases r<;>exact hx
 |_=>exact hx

/-- Two heaps, the first ahead. -/
def Ed (hp X:Hp):Hp:=fun i=>match hp i with
 |some o=>some o
 |none=>X i
theorem Z9 (X:Hp):∀(δ:List (Nat × AO)) (hp:Hp),Av δ (Ed hp X)=Ed (Av δ hp) X
 |[],_=>rfl
 |(k,o)::r,hp=>by
  have:upd k (some o) (Ed hp X)=Ed (upd k (some o) hp) X:=by
   funext i;by_cases e:i=k
   ·subst e;simp[upd,Ed]
   simp[upd,Ed,e]
  simp only[Av];rw[this,Z9 X r]
end

def SY:Op->Option (Operand × Array Operand)
 | .call { callee:=.value f,args, .. }=>some (f,args)
 |_=>none
section
variable {P:Program}{tab:Nat->TI}
theorem sO {op:Op}{id:Nat}{s:St}{K:AV->Hp->Nat->Prop}:HQ P tab op id s K=(match SY op with
  |some (f,args)=>KN P (ev s.fr f) (args.toList.map (ev s.fr)) s.hp s.nx K
  |none=>match CB tab (ev s.fr) s.hp id op with
   |some (v,δ)=>K v (Av δ s.hp) s.nx
   |none=>False):=by
 cases op with
 |call c=>
  obtain⟨callee,args,tys⟩:=c;cases callee<;>rfl
 |_=>rfl
theorem sP {op:Op}{id nx:Nat}{fr:Fr}{hp:Hp}{K:AV->List (Nat × AO)->List Nat->Option Nat->Prop}:Ri P tab op id nx fr hp K=(match SY op with
  |some (f,args)=>(match ev fr f with
   | .fn g caps=>(∃ds b is d fr',CT hp (args.toList.map (ev fr)++caps)=some (ds,b,is)/\AI P g ds d fr'/\(is= []\/fr'=true)/\K (Aw (!fr'&&b) d) [] (CX (ev fr) op) none)\/
    ∃ids v δ nx',Mf P g (args.toList.map (ev fr)++caps) hp nx ids v δ nx'/\K v δ ids (some nx')
   |_=>False)
  |none=>match CB tab (ev fr) hp id op with
   |some (v,δ)=>K v δ (CX (ev fr) op) none
   |none=>False):=by
 cases op with
 |call c=>
  obtain⟨callee,args,tys⟩:=c;cases callee<;>rfl
 |_=>rfl
end

/-- A tree, by the digits of its keys. -/
inductive Tr (α:Type) where
 |lf
 |nd (l:Tr α) (x:Option α) (r:Tr α)
 |ov (k:Nat) (x:α) (t:Tr α)
def Tr.get {α:Type}:Tr α->Nat->Option α
 | .lf,_=>none
 | .nd l x r,k=>match k with
  |0=>x
  |k+1=>match k%2 with
   |0=>l.get (k / 2)
   |_=>r.get (k / 2)
 | .ov k' x t,k=>match Nat.beq k k' with
  |true=>some x
  |false=>t.get k
def Tr.set {α:Type}:Nat->Tr α->Nat->α->Tr α
 |0,t,k,x=>.ov k x t
 |n+1,t,k,x=>match t with
  | .ov k' y t=>.ov k x (.ov k' y t)
  | .lf=>match k with
   |0=>.nd .lf (some x) .lf
   |k+1=>match k%2 with
    |0=>.nd (Tr.set n .lf (k / 2) x) none .lf
    |_=>.nd .lf none (Tr.set n .lf (k / 2) x)
  | .nd l y r=>match k with
   |0=>.nd l (some x) r
   |k+1=>match k%2 with
    |0=>.nd (Tr.set n l (k / 2) x) y r
    |_=>.nd l y (Tr.set n r (k / 2) x)
theorem XJ {a b:Nat}(h:Nat.beq a b=false):a≠b:=fun e=>by subst e;simp at h
theorem Tr.get_set {α:Type}:∀(n:Nat) (t:Tr α) (k:Nat) (x:α) (j:Nat),(t.set n k x).get j=if j=k then some x else t.get j:=by
 intro n;induction n with
 |zero=>
  intro t k x j;simp only[Tr.set,Tr.get];split
  ·simp_all
  ·rename_i h;rw[if_neg (XJ h)]
 |succ n ih=>
  intro t k x j;have go:∀(l r:Tr α) (y:Option α),((match k with
   |0=>Tr.nd l (some x) r
   |k+1=>match k%2 with
    |0=>Tr.nd (Tr.set n l (k / 2) x) y r
    |_=>Tr.nd l y (Tr.set n r (k / 2) x)):Tr α).get j=if j=k then some x else(Tr.nd l y r).get j:=by
   intro l r y;cases k with
   |zero=>cases j with |zero=>rfl |succ j=>rw[if_neg (by omega)];rfl
   |succ k=>
    have hk:k%2=0\/k%2=1:=(by omega);cases j with
    |zero=>rcases hk with hk |hk<;>(rw[if_neg (by omega)];simp only[hk];rfl)
    |succ j=>
     have hj:j%2=0\/j%2=1:=(by omega);rcases hk with hk |hk<;>rcases hj with hj |hj<;>simp only[hk,Tr.get,hj,ih]
     ·grind
     ·rw[if_neg (by omega)]
     ·rw[if_neg (by omega)]
     grind
  cases t with
  |ov k' y t=>
   simp only[Tr.set,Tr.get];by_cases h:Nat.beq j k=true
   ·simp_all
   ·rw[Bool.not_eq_true] at h;rw[h,if_neg (XJ h)]
  |nd l y r=>exact go l r y
  |lf=>
   have:(Tr.nd (.lf:Tr α) none .lf).get j=(.lf:Tr α).get j:=by
    cases j with |zero=>rfl |succ j=>simp only[Tr.get];split<;>rfl
   rw[<-this];exact go .lf .lf none

def deep:Nat:=48
/-! ### frames -/
inductive HV (α:Type) where
 |mk (a0 a1 a2 a3 a4 a5 a6 a7 a8 a9 a10 a11 a12 a13 a14 a15:α)
def HV.toL {α:Type}:HV α->List α
 | .mk a0 a1 a2 a3 a4 a5 a6 a7 a8 a9 a10 a11 a12 a13 a14 a15=>[a0,a1,a2,a3,a4,a5,a6,a7,a8,a9,a10,a11,a12,a13,a14,a15]
/-- How one of sixteen is had, and put. -/
structure sQ (α:Type) where
 g:HV α->α
 s:α->HV α->HV α
def Ji (α:Type)(k:Nat):sQ α:=
 match k with
 |0=>⟨fun n=>match n with | .mk a0 _ _ _ _ _ _ _ _ _ _ _ _ _ _ _=>a0,fun v n=>match n with | .mk _ a1 a2 a3 a4 a5 a6 a7 a8 a9 a10 a11 a12 a13 a14 a15=>.mk v a1 a2 a3 a4 a5 a6 a7 a8 a9 a10 a11 a12 a13 a14 a15⟩
 |1=>⟨fun n=>match n with | .mk _ a1 _ _ _ _ _ _ _ _ _ _ _ _ _ _=>a1,fun v n=>match n with | .mk a0 _ a2 a3 a4 a5 a6 a7 a8 a9 a10 a11 a12 a13 a14 a15=>.mk a0 v a2 a3 a4 a5 a6 a7 a8 a9 a10 a11 a12 a13 a14 a15⟩
 |2=>⟨fun n=>match n with | .mk _ _ a2 _ _ _ _ _ _ _ _ _ _ _ _ _=>a2,fun v n=>match n with | .mk a0 a1 _ a3 a4 a5 a6 a7 a8 a9 a10 a11 a12 a13 a14 a15=>.mk a0 a1 v a3 a4 a5 a6 a7 a8 a9 a10 a11 a12 a13 a14 a15⟩
 |3=>⟨fun n=>match n with | .mk _ _ _ a3 _ _ _ _ _ _ _ _ _ _ _ _=>a3,fun v n=>match n with | .mk a0 a1 a2 _ a4 a5 a6 a7 a8 a9 a10 a11 a12 a13 a14 a15=>.mk a0 a1 a2 v a4 a5 a6 a7 a8 a9 a10 a11 a12 a13 a14 a15⟩
 |4=>⟨fun n=>match n with | .mk _ _ _ _ a4 _ _ _ _ _ _ _ _ _ _ _=>a4,fun v n=>match n with | .mk a0 a1 a2 a3 _ a5 a6 a7 a8 a9 a10 a11 a12 a13 a14 a15=>.mk a0 a1 a2 a3 v a5 a6 a7 a8 a9 a10 a11 a12 a13 a14 a15⟩
 |5=>⟨fun n=>match n with | .mk _ _ _ _ _ a5 _ _ _ _ _ _ _ _ _ _=>a5,fun v n=>match n with | .mk a0 a1 a2 a3 a4 _ a6 a7 a8 a9 a10 a11 a12 a13 a14 a15=>.mk a0 a1 a2 a3 a4 v a6 a7 a8 a9 a10 a11 a12 a13 a14 a15⟩
 |6=>⟨fun n=>match n with | .mk _ _ _ _ _ _ a6 _ _ _ _ _ _ _ _ _=>a6,fun v n=>match n with | .mk a0 a1 a2 a3 a4 a5 _ a7 a8 a9 a10 a11 a12 a13 a14 a15=>.mk a0 a1 a2 a3 a4 a5 v a7 a8 a9 a10 a11 a12 a13 a14 a15⟩
 |7=>⟨fun n=>match n with | .mk _ _ _ _ _ _ _ a7 _ _ _ _ _ _ _ _=>a7,fun v n=>match n with | .mk a0 a1 a2 a3 a4 a5 a6 _ a8 a9 a10 a11 a12 a13 a14 a15=>.mk a0 a1 a2 a3 a4 a5 a6 v a8 a9 a10 a11 a12 a13 a14 a15⟩
 |8=>⟨fun n=>match n with | .mk _ _ _ _ _ _ _ _ a8 _ _ _ _ _ _ _=>a8,fun v n=>match n with | .mk a0 a1 a2 a3 a4 a5 a6 a7 _ a9 a10 a11 a12 a13 a14 a15=>.mk a0 a1 a2 a3 a4 a5 a6 a7 v a9 a10 a11 a12 a13 a14 a15⟩
 |9=>⟨fun n=>match n with | .mk _ _ _ _ _ _ _ _ _ a9 _ _ _ _ _ _=>a9,fun v n=>match n with | .mk a0 a1 a2 a3 a4 a5 a6 a7 a8 _ a10 a11 a12 a13 a14 a15=>.mk a0 a1 a2 a3 a4 a5 a6 a7 a8 v a10 a11 a12 a13 a14 a15⟩
 |10=>⟨fun n=>match n with | .mk _ _ _ _ _ _ _ _ _ _ a10 _ _ _ _ _=>a10,fun v n=>match n with | .mk a0 a1 a2 a3 a4 a5 a6 a7 a8 a9 _ a11 a12 a13 a14 a15=>.mk a0 a1 a2 a3 a4 a5 a6 a7 a8 a9 v a11 a12 a13 a14 a15⟩
 |11=>⟨fun n=>match n with | .mk _ _ _ _ _ _ _ _ _ _ _ a11 _ _ _ _=>a11,fun v n=>match n with | .mk a0 a1 a2 a3 a4 a5 a6 a7 a8 a9 a10 _ a12 a13 a14 a15=>.mk a0 a1 a2 a3 a4 a5 a6 a7 a8 a9 a10 v a12 a13 a14 a15⟩
 |12=>⟨fun n=>match n with | .mk _ _ _ _ _ _ _ _ _ _ _ _ a12 _ _ _=>a12,fun v n=>match n with | .mk a0 a1 a2 a3 a4 a5 a6 a7 a8 a9 a10 a11 _ a13 a14 a15=>.mk a0 a1 a2 a3 a4 a5 a6 a7 a8 a9 a10 a11 v a13 a14 a15⟩
 |13=>⟨fun n=>match n with | .mk _ _ _ _ _ _ _ _ _ _ _ _ _ a13 _ _=>a13,fun v n=>match n with | .mk a0 a1 a2 a3 a4 a5 a6 a7 a8 a9 a10 a11 a12 _ a14 a15=>.mk a0 a1 a2 a3 a4 a5 a6 a7 a8 a9 a10 a11 a12 v a14 a15⟩
 |14=>⟨fun n=>match n with | .mk _ _ _ _ _ _ _ _ _ _ _ _ _ _ a14 _=>a14,fun v n=>match n with | .mk a0 a1 a2 a3 a4 a5 a6 a7 a8 a9 a10 a11 a12 a13 _ a15=>.mk a0 a1 a2 a3 a4 a5 a6 a7 a8 a9 a10 a11 a12 a13 v a15⟩
 |_=>⟨fun n=>match n with | .mk _ _ _ _ _ _ _ _ _ _ _ _ _ _ _ a15=>a15,fun v n=>match n with | .mk a0 a1 a2 a3 a4 a5 a6 a7 a8 a9 a10 a11 a12 a13 a14 _=>.mk a0 a1 a2 a3 a4 a5 a6 a7 a8 a9 a10 a11 a12 a13 a14 v⟩
theorem Jj {α:Type}(n:HV α)(d:α):∀k,k<16->(Ji α k).g n=n.toL.getD k d:=by
 intro k hk;obtain⟨a0,a1,a2,a3,a4,a5,a6,a7,a8,a9,a10,a11,a12,a13,a14,a15⟩:=n
 match k,hk with
 |0,_=>rfl
 |1,_=>rfl
 |2,_=>rfl
 |3,_=>rfl
 |4,_=>rfl
 |5,_=>rfl
 |6,_=>rfl
 |7,_=>rfl
 |8,_=>rfl
 |9,_=>rfl
 |10,_=>rfl
 |11,_=>rfl
 |12,_=>rfl
 |13,_=>rfl
 |14,_=>rfl
 |15,_=>rfl
 |k+16,h=>exact absurd h (by omega)
theorem Ud {α:Type}(n:HV α)(v:α):∀k,k<16->((Ji α k).s v n).toL=n.toL.set k v:=by
 intro k hk;obtain⟨a0,a1,a2,a3,a4,a5,a6,a7,a8,a9,a10,a11,a12,a13,a14,a15⟩:=n
 match k,hk with
 |0,_=>rfl
 |1,_=>rfl
 |2,_=>rfl
 |3,_=>rfl
 |4,_=>rfl
 |5,_=>rfl
 |6,_=>rfl
 |7,_=>rfl
 |8,_=>rfl
 |9,_=>rfl
 |10,_=>rfl
 |11,_=>rfl
 |12,_=>rfl
 |13,_=>rfl
 |14,_=>rfl
 |15,_=>rfl
 |k+16,h=>exact absurd h (by omega)
theorem iI {α:Type}(n:HV α)(v:α){i j:Nat}(hi:i<16)(hj:j<16):(Ji α i).g ((Ji α j).s v n)=if i=j then v else(Ji α i).g n:=by
 rw[Jj _ v i hi,Ud _ _ j hj,Jj _ v i hi,BU,Bd,BU];grind
/-- A frame: two hundred and fifty-six slots, and what is behind them. -/
inductive Fl where
 |mk (m:HV (HV AV)) (r:Tr AV)
structure Ue where
 g:Fl->AV
 s:AV->Fl->Fl
def SZ (b:Bool)(k:Nat)(i j:Nat):Ue:=
 match b with
 |true=>⟨fun t=>match t with | .mk m _=>(Ji AV j).g ((Ji (HV AV) i).g m),fun v t=>match t with | .mk m r=>.mk ((Ji (HV AV) i).s ((Ji AV j).s v ((Ji (HV AV) i).g m)) m) r⟩
 |false=>⟨fun t=>match t with | .mk _ r=>(r.get k).getD (.tu []),fun v t=>match t with | .mk m r=>.mk m (r.set deep k v)⟩
def FN (k:Nat):Ue:=SZ (Nat.blt k 256) k (k / 16) (k%16)
theorem iJ (t:Fl)(v:AV)(i j:Nat):(FN i).g ((FN j).s v t)=if i=j then v else(FN i).g t:=by
 obtain⟨m,r⟩:=t;unfold FN;cases hi:Nat.blt i 256 with
 |true=>
  have hi':i<256:=by simpa [NT] using hi
  cases hj:Nat.blt j 256 with
  |true=>
   have hj':j<256:=(by simpa [NT] using hj);simp only[SZ];rw[iI m _ (by omega) (by omega)];by_cases e:i / 16=j / 16
   ·rw[if_pos e,iI _ _ (by omega) (by omega)];grind
   ·rw[if_neg e,if_neg (by omega)]
  |false=>
   have hj':¬j<256:=(by rw[<-NT,hj];decide);simp only[SZ];rw[if_neg (by omega)]
 |false=>
  have hi':¬i<256:=by rw[<-NT,hi];decide
  cases hj:Nat.blt j 256 with
  |true=>
   have hj':j<256:=(by simpa [NT] using hj);simp only[SZ];rw[if_neg (by omega)]
  |false=>
   simp only[SZ,Tr.get_set];split<;>rfl
def Ee (t:Fl):Fr:=fun k=>(FN k).g t
def Dp (t:Tr AO):Hp:=fun k=>t.get k
theorem sR (t:Fl)(k:Nat)(x:AV):Ee ((FN k).s x t)=upd k x (Ee t):=by
 funext j;simp only[Ee,upd,iJ]
theorem sS (t:Tr AO)(k:Nat)(x:AO):Dp (t.set deep k x)=upd k (some x) (Dp t):=by
 funext j;simp only[Dp,upd,Tr.get_set]
def Jk (d:Option Nat)(v:AV)(t:Fl):Fl:=match d with
 |some k=>(FN k).s v t
 |none=>t
theorem XK (d:Option Nat)(v:AV)(t:Fl):Ee (Jk d v t)=A7 d v (Ee t):=by
 cases d with
 |none=>rfl
 |some k=>exact sR t k v
def Jl:List (Nat × AO)->Tr AO->Tr AO
 |[],h=>h
 |(k,o)::r,h=>Jl r (h.set deep k o)
theorem aA:∀(δ:List (Nat × AO)) (t:Tr AO),Dp (Jl δ t)=Av δ (Dp t)
 |[],_=>rfl
 |(k,o)::r,t=>by simp only[Jl,Av,aA r,sS]
def aB {α:Type}(x:α):HV α:=.mk x x x x x x x x x x x x x x x x
theorem My {α:Type}(x:α)(k:Nat)(hk:k<16):(Ji α k).g (aB x)=x:=by
 rw[Jj _ x k hk]
 match k,hk with
 |0,_=>rfl
 |1,_=>rfl
 |2,_=>rfl
 |3,_=>rfl
 |4,_=>rfl
 |5,_=>rfl
 |6,_=>rfl
 |7,_=>rfl
 |8,_=>rfl
 |9,_=>rfl
 |10,_=>rfl
 |11,_=>rfl
 |12,_=>rfl
 |13,_=>rfl
 |14,_=>rfl
 |15,_=>rfl
 |k+16,h=>exact absurd h (by omega)
def aC:Fl:=.mk (aB (aB (.tu []))) .lf
theorem Uf (k:Nat):(FN k).g aC= .tu []:=by
 unfold FN;cases hi:Nat.blt k 256 with
 |true=>
  have hi':k<256:=by simpa [NT] using hi
  simp only[SZ,aC];rw[My _ _ (by omega),My _ _ (by omega)]
 |false=>rfl
def Mz:List AV->Nat->Fl
 |[],_=>aC
 |v::r,k=>(FN k).s v (Mz r (k+1))
theorem iK:∀(vs:List AV) (k j:Nat),(FN j).g (Mz vs k)=if k<=j then(vs[j-k]?).getD (.tu []) else .tu []
 |[],k,j=>by simp[Mz,Uf]
 |v::r,k,j=>by
  rw[Mz,iJ,iK r];grind
theorem sT (vs:List AV):Ee (Mz vs 0)=Df vs:=by
 funext j;simp[Ee,Df,iK]

def Ug {α:Type}:Option α->List (Nat × α)
 |some a=>[(0,a)]
 |none=>[]
/-- All that a tree holds. -/
def Tr.all {α:Type}:Tr α->List (Nat × α)
 | .lf=>[]
 | .nd l x r=>Ug x++((l.all.map fun p=>(2*p.1+1,p.2))++(r.all.map fun p=>(2*p.1+2,p.2)))
 | .ov k x t=>t.all++[(k,x)]
theorem iL (δ ε:List (Nat × AO))(x:Nat):Em (δ++ε) x=match Em ε x with |some o=>some o |none=>Em δ x:=by
 induction δ with
 |nil=>simp only[LE,Em];cases Em ε x<;>rfl
 |cons p r ih=>
  obtain⟨k,o⟩:=p;simp only[LJ,Em,ih];cases Em ε x<;>rfl
theorem iM (f:Nat->Nat)(hf:∀a b,f a=f b->a=b)(l:List (Nat × AO))(x:Nat):Em (l.map fun p=>(f p.1,p.2)) (f x)=Em l x:=by
 induction l with
 |nil=>rfl
 |cons p r ih=>
  grind [Em]
theorem XL (f:Nat->Nat)(l:List (Nat × AO))(x:Nat)(h:∀a,x≠f a):Em (l.map fun p=>(f p.1,p.2)) x=none:=by
 induction l with
 |nil=>rfl
 |cons p r ih=>simp only[Lk,Em,ih,if_neg (h p.1)]
theorem Uh:∀(t:Tr AO) (i:Nat),Em t.all i=t.get i
 | .lf,_=>rfl
 | .ov k x t,i=>by
  simp only[Tr.all,iL,Em,Tr.get];cases h:Nat.beq i k with |true=>rw[if_pos (OP h)] |false=>rw[if_neg (XJ h)];exact Uh t i
 | .nd l x r,i=>by
  have hl:=Uh l;have hr:=Uh r;have inj1:∀a b:Nat,2*a+1=2*b+1->a=b:=fun a b h=>by omega
  have inj2:∀a b:Nat,2*a+2=2*b+2->a=b:=fun a b h=>by omega
  simp only[Tr.all,iL];cases i with
  |zero=>
   rw[XL (fun a=>2*a+2) _ _ (fun a=>by omega),XL (fun a=>2*a+1) _ _ (fun a=>by omega)];cases x<;>rfl
  |succ k=>
   have hx:Em (Ug x) (k+1)=none:=(by cases x<;>rfl);rw[hx];have hk:k%2=0\/k%2=1:=(by omega);rcases hk with hk |hk
   ·have e:k+1=(fun a=>2*a+1) (k / 2):=(by simp only;omega);rw[XL (fun a=>2*a+2) _ _ (fun a=>by omega)];rw[e,iM _ inj1,hl];grind [Tr.get]
   have e:k+1=(fun a=>2*a+2) (k / 2):=(by simp only;omega);rw[XL (fun a=>2*a+1) _ _ (fun a=>by omega)];rw[e,iM _ inj2,hr];grind [Tr.get]
theorem sU (t:Tr AO)(h:Hp):Av t.all h=Ed (Dp t) h:=by
 funext i;rw[Pv,Uh];rfl
theorem sV {δ:List (Nat × AO)}{i:Nat}{o:AO}(h:Em δ i=some o):i∈δ.map (·.1):=by
 refine Bp fun hn=> ?_;rw[WK hn] at h;cases h
/-- What a thing leads to. -/
def aD:AO->List Nat
 | .bx cs=>Ax cs
 | .rw .. =>[]
 | .mo es _=>Ax (es.map (·.2))
/-- All that can be reached. -/
def Jm (hp:Hp):Nat->List Nat->Tr AO->Tr AO
 |0,_,acc=>acc
 |_,[],acc=>acc
 |n+1,i::w,acc=>match acc.get i with
  |some _=>Jm hp n w acc
  |none=>match hp i with
   |some o=>Jm hp n (aD o++w) (acc.set deep i o)
   |none=>Jm hp n w acc
theorem XM (hp:Hp):∀(n:Nat) (w:List Nat) (acc:Tr AO),(∀i o,acc.get i=some o->hp i=some o)->∀i o,(Jm hp n w acc).get i=some o->hp i=some o
 |0,w,acc,h=>h
 |n+1,[],acc,h=>h
 |n+1,i::w,acc,h=>by
  unfold Jm;split
  ·exact XM hp n w acc h
  split
  ·rename_i o ho;refine XM hp n _ _ fun j q hj=> ?_;grind [Tr.get_set]
  exact XM hp n w acc h

structure XS where
 fr:Fl
 hp:Tr AO
 nx:Nat
def XS.st (x:XS)(X:Hp):St:=⟨Ee x.fr,Ed (Dp x.hp) X,x.nx⟩
/-- What is known of the heap: the nearer part, the further part. -/
def hpB (B t:Tr AO):Hp:=Ed (Dp t) (Dp B)
theorem Sa {B t:Tr AO}{X:Hp}(h:Fc X (Dp B)):Fc (Ed (Dp t) X) (hpB B t):=fun i o hi=>by
 simp only[hpB,Ed] at hi⊢;cases ht:Dp t i with
 |some q=>rw[ht] at hi;exact hi
 |none=>rw[ht] at hi;exact h i o hi
/-- Whether an operation is wanted. -/
def HW (ops:Array Oper)(o:Oper)(fr:Fl):Option Bool:=
 match o.guard with
 |none=>some true
 |some (j,t)=>match (ops[j]?).bind (·.dst) with
  |none=>some false
  |some d=>match Ee fr d with
   | .v (.bool b)=>some (b==t)
   | .tu []=>some false
   |_=>none
theorem XN {ops:Array Oper}{o:Oper}{x:XS}{b:Bool}(h:HW ops o x.fr=some b){X:Hp}{y n:Prop}(h1:b=true->y)(h2:b=false->n):Fx ops o (x.st X) y n:=by
 unfold HW at h;unfold Fx;split at h
 ·grind
 rename_i j t e;rw[e];simp only;split at h
 ·grind
 rename_i d e;rw[e];simp only[XS.st];grind

section
variable (tab:Nat->TI)(B:Tr AO)(call:Tr AO->FuncId->List AV->Tr AO->Nat->Option (AV × Tr AO × Nat))(pcall:FuncId->List D->Option (D × Bool))(N:Nat)
def M1 (f:Operand)(args:Array Operand)(x:XS):Option (AV × Tr AO × Nat):=
 match ev (Ee x.fr) f with
 | .fn g caps=>call B g (args.toList.map (ev (Ee x.fr))++caps) x.hp x.nx
 |_=>none
def Ui (op:Op)(id:Nat)(x:XS):Option (AV × Tr AO × Nat):=
 match CB tab (ev (Ee x.fr)) (hpB B x.hp) id op with
 |some (v,δ)=>some (v,Jl δ x.hp,x.nx)
 |none=>none
def aF (op:Op)(id:Nat)(x:XS):Option (AV × Tr AO × Nat):=
 match SY op with
 |some (f,args)=>M1 B call f args x
 |none=>Ui tab B op id x
def Jn (ops:Array Oper)(nx0:Nat):Nat->List Oper->XS->Option XS
 |_,[],x=>some x
 |i,o::r,x=>match HW ops o x.fr with
  |none=>none
  |some false=>Jn ops nx0 (i+1) r ⟨Jk o.dst (.tu []) x.fr,x.hp,x.nx⟩
  |some true=>match aF tab B call o.op (nx0+i) x with
   |none=>none
   |some (v,hp,nx)=>Jn ops nx0 (i+1) r ⟨Jk o.dst v x.fr,hp,nx⟩
def MC (g:FuncId)(vs:List AV)(nx:Nat)(hR:Tr AO):Option (AV × List (Nat × AO) × List Nat × Option Nat):=match call hR g vs .lf nx with
 |some (v,hp',nx')=>some (v,hp'.all,hR.all.map (·.1),some nx')
 |none=>none
def M2 (op:Op)(g:FuncId)(ds:List D)(b:Bool)(is:List Nat)(fr:Fl):Option (AV × List (Nat × AO) × List Nat × Option Nat):=
 match pcall g ds with
 |some (d,fr')=>if is= []\/fr'=true then some (Aw (!fr'&&b) d,[],CX (ev (Ee fr)) op,none) else none
 |none=>none
def M3 (op:Op)(g:FuncId)(vs:List AV)(nx:Nat)(fr:Fl)(hp:Tr AO):Option (AV × List (Nat × AO) × List Nat × Option Nat):=
 match CT (hpB B hp) vs with
 |some (ds,b,is)=>match M2 pcall op g ds b is fr with
  |some r=>some r
  |none=>MC call g vs nx (Jm (hpB B hp) N (Ax vs) .lf)
 |none=>MC call g vs nx (Jm (hpB B hp) N (Ax vs) .lf)
def iN (op:Op)(f:Operand)(args:Array Operand)(nx:Nat)(fr:Fl)(hp:Tr AO):Option (AV × List (Nat × AO) × List Nat × Option Nat):=
 match ev (Ee fr) f with
 | .fn g caps=>M3 B call pcall N op g (args.toList.map (ev (Ee fr))++caps) nx fr hp
 |_=>none
def M4 (op:Op)(id:Nat)(fr:Fl)(hp:Tr AO):Option (AV × List (Nat × AO) × List Nat × Option Nat):=
 match CB tab (ev (Ee fr)) (hpB B hp) id op with
 |some (v,δ)=>some (v,δ,CX (ev (Ee fr)) op,none)
 |none=>none
def QM (op:Op)(id nx:Nat)(fr:Fl)(hp:Tr AO):Option (AV × List (Nat × AO) × List Nat × Option Nat):=
 match SY op with
 |some (f,args)=>iN B call pcall N op f args nx fr hp
 |none=>match op with
  | .move y=>some (ev (Ee fr) y,[],[],none)
  | .assign y=>some (ev (Ee fr) y,[],[],none)
  |_=>M4 tab B op id fr hp
def Sc (ops:Array Oper)(nx0:Nat):Nat->Nat->List Oper->List Cd->Fl->Tr AO->Option XS
 |nx,_,[],acc,fr,hp=>match Px ops acc.reverse with
  |true=>some ⟨fr,hp,nx⟩
  |false=>none
 |nx,i,o::r,acc,fr,hp=>match HW ops o fr with
  |none=>none
  |some false=>Sc ops nx0 nx (i+1) r (⟨[],[],false⟩::acc) (Jk o.dst (.tu []) fr) hp
  |some true=>match QM tab B call pcall N o.op (nx0+i) nx fr hp with
   |none=>none
   |some (v,δ,ids,n)=>Sc ops nx0 (n.getD nx) (i+1) r (⟨ids,δ.map (·.1),n.isSome⟩::acc) (Jk o.dst v fr) (Jl δ hp)
def HX (step:XS->Option (Ex × XS)):Nat->XS->Option (Ex × XS)
 |0,_=>none
 |n+1,x=>match step x with
  |some (.normal,x')=>HX step n x'
  |r=>r
def xC:Code->XS->Option (Ex × XS)
 | .skip,x=>some (.normal,x)
 | .label _,x=>some (.normal,x)
 | .ret,x=>some (.ret,x)
 | .exit n,x=>some (.exit n,x)
 | .seq a b,x=>match xC a x with
  |some (.normal,x')=>xC b x'
  |r=>r
 | .cond c a b,x=>match ev (Ee x.fr) c with
  | .v (.bool t)=>match t with
   |true=>xC a x
   |false=>xC b x
  |_=>none
 | .block n a,x=>match xC a x with
  |some (.exit m,x')=>match Nat.beq m n with
   |true=>some (.normal,x')
   |false=>some (.exit m,x')
  |r=>r
 | .region _ ops draw,x=>match draw with
  |false=>(Jn tab B call ops x.nx 0 ops.toList ⟨x.fr,x.hp,x.nx+ops.size⟩).map fun x'=>(.normal,x')
  |true=>(Sc tab B call pcall N ops x.nx (x.nx+ops.size) 0 ops.toList [] x.fr x.hp).map fun x'=>(.normal,x')
 | .loop a,x=>HX (xC a) N x
 |_,_=>none
end
/-- A call ends so, whatever else there is. -/
def Ga (P:Program)(B:Tr AO)(f:FuncId)(vs:List AV)(hp:Tr AO)(nx:Nat)(v:AV)(hp':Tr AO)(nx':Nat):Prop:=∀X:Hp,Fc X (Dp B)->AK P f vs (Ed (Dp hp) X) nx fun v2 hp2 nx2=>v2=v/\hp2=Ed (Dp hp') X/\nx2=nx'
section
variable {P:Program}{tab:Nat->TI}{B:Tr AO}{call:Tr AO->FuncId->List AV->Tr AO->Nat->Option (AV × Tr AO × Nat)}{pcall:FuncId->List D->Option (D × Bool)}{N:Nat}
theorem QN (hc:∀B g vs hp nx v hp' nx',call B g vs hp nx=some (v,hp',nx')->Ga P B g vs hp nx v hp' nx'){X:Hp}(hX:Fc X (Dp B)){op:Op}{id:Nat}{x:XS}{v:AV}{hp:Tr AO}{nx:Nat}{K:AV->Hp->Nat->Prop}
  (h:aF tab B call op id x=some (v,hp,nx)) (hK:K v (Ed (Dp hp) X) nx):HQ P tab op id (x.st X) K:=by
 rw[sO];unfold aF at h;cases hv:SY op with
 |some p=>
  obtain⟨f,args⟩:=p;rw[hv] at h;simp only[M1] at h⊢;split at h
  ·rename_i g caps e;simp only[XS.st,e];unfold KN;simp only;refine .inr ((hc _ _ _ _ _ _ _ _ h X hX).mono ?_);grind
  ·cases h
 |none=>
  rw[hv] at h;simp only[Ui] at h⊢;split at h
  ·rename_i v' δ e;simp only[Le,Lu] at h;obtain⟨rfl,rfl,rfl⟩:=h;simp only[XS.st,iH (Sa hX) e];rw[aA,<-Z9] at hK;exact hK
  cases h
theorem sW {N:Nat}{B h0:Tr AO}{l:List Nat}{X hp1:Hp}(hX:Fc X (Dp B))(hq:∀i∈(Jm (hpB B h0) N l .lf).all.map (·.1),hp1 i=Ed (Dp h0) X i):Fc hp1 (Dp (Jm (hpB B h0) N l .lf)):=by
 intro i ob ho;have h1:=XM (hpB B h0) N l .lf (fun i o h=>by cases h) i ob ho;have h2:i∈(Jm (hpB B h0) N l .lf).all.map (·.1):=sV (o:=ob) (by rw[Uh];exact ho);rw[hq i h2];exact Sa hX i ob h1
theorem sX (hc:∀B g vs hp nx v hp' nx',call B g vs hp nx=some (v,hp',nx')->Ga P B g vs hp nx v hp' nx')(hp:∀g ds d fr,pcall g ds=some (d,fr)->AI P g ds d fr){X:Hp}(hX:Fc X (Dp B)){op:Op}{id nx:Nat}{fr:Fl}{h0:Tr AO}{v:AV}{δ:List (Nat × AO)}{ids:List Nat}{n:Option Nat}
  {K:AV->List (Nat × AO)->List Nat->Option Nat->Prop} (h:QM tab B call pcall N op id nx fr h0=some (v,δ,ids,n)) (hK:K v δ ids n):Ri P tab op id nx (Ee fr) (Ed (Dp h0) X) K:=by
 rw[sP];unfold QM at h;cases hv:SY op with
 |some p=>
  obtain⟨f,args⟩:=p;rw[hv] at h;simp only[iN] at h⊢;split at h
  ·rename_i g caps e
   try simp only[e]
   have det:MC call g (args.toList.map (ev (Ee fr))++caps) nx (Jm (hpB B h0) N (Ax (args.toList.map (ev (Ee fr))++caps)) .lf)=some (v,δ,ids,n)->_:=fun h=>by
    unfold MC at h;split at h
    ·rename_i v' hp' nx' e3;simp only[Le,Lu] at h;obtain⟨rfl,rfl,rfl,rfl⟩:=h;refine(Or.inr ⟨_,_,_,_,fun hp1 hq=> ?_,hK⟩:(∃ds b is d fr',CT (Ed (Dp h0) X) (args.toList.map (ev (Ee fr))++caps)=some (ds,b,is)/\AI P g ds d fr'/\(is= []\/fr'=true)/\K (Aw (!fr'&&b) d) [] (CX (ev (Ee fr)) op) none)\/∃ids v δ nx',Mf P g (args.toList.map (ev (Ee fr))++caps) (Ed (Dp h0) X) nx ids v δ nx'/\K v δ ids (some nx'));have e4:=hc _ _ _ _ _ _ _ _ e3 hp1 (sW hX hq.1);rw[show Ed (Dp (.lf:Tr AO)) hp1=hp1 from rfl] at e4;refine e4.mono ?_;rintro _ _ _ ⟨rfl,rfl,rfl⟩;exact⟨rfl,(sU _ _).symm,rfl⟩
    cases h
   unfold M3 at h;split at h
   ·rename_i ds b is e2;split at h
    ·rename_i r e5;cases h;unfold M2 at e5;split at e5
     ·rename_i d fr' e3;split at e5
      ·rename_i e4;simp only[Le,Lu] at e5;obtain⟨rfl,rfl,rfl,rfl⟩:=e5;exact .inl ⟨ds,b,is,d,fr',XI (Sa hX) e2,hp _ _ _ _ e3,e4,hK⟩
      cases e5
     cases e5
    exact det h
   exact det h
  ·cases h
 |none=>
  rw[hv] at h;simp only at h⊢;split at h
  ·simp only[Le,Lu] at h;obtain⟨rfl,rfl,rfl,rfl⟩:=h;exact hK
  ·simp only[Le,Lu] at h;obtain⟨rfl,rfl,rfl,rfl⟩:=h;exact hK
  simp only[M4] at h;split at h
  ·rename_i v' δ' e;simp only[Le,Lu] at h;obtain⟨rfl,rfl,rfl,rfl⟩:=h;simp only[iH (Sa hX) e];exact hK
  cases h
theorem aG (hc:∀B g vs hp nx v hp' nx',call B g vs hp nx=some (v,hp',nx')->Ga P B g vs hp nx v hp' nx'){X:Hp}(hX:Fc X (Dp B)){ops:Array Oper}{nx0:Nat}{K:St->Prop}:
  ∀(r:List Oper) (i:Nat) (x x':XS),Jn tab B call ops nx0 i r x=some x'->K (x'.st X)->WT P tab ops nx0 K i r (x.st X)
 |[],i,x,x',h,hK=>by cases h;exact hK
 |o::r,i,x,x',h,hK=>by
  unfold Jn at h;unfold WT;split at h
  ·cases h
  ·rename_i hw;refine XN hw (fun e=>by cases e) fun _=> ?_
   have:=aG hc hX r _ _ x' h hK;simp only[XS.st,XK] at this;exact this
  rename_i hw;refine XN hw (fun _=> ?_) fun e=>by cases e
  split at h
  ·cases h
  rename_i v hp nx hop;have hrec:=aG hc hX r _ _ x' h hK;simp only[XS.st,XK] at hrec;exact QN hc hX hop hrec
theorem aH (hc:∀B g vs hp nx v hp' nx',call B g vs hp nx=some (v,hp',nx')->Ga P B g vs hp nx v hp' nx')(hp:∀g ds d fr,pcall g ds=some (d,fr)->AI P g ds d fr){X:Hp}(hX:Fc X (Dp B)){ops:Array Oper}{nx0:Nat}{K:St->Prop}:
  ∀(r:List Oper) (nx i:Nat) (acc:List Cd) (fr:Fl) (h0:Tr AO) (x':XS),Sc tab B call pcall N ops nx0 nx i r acc fr h0=some x'->K (x'.st X)->WD P tab ops nx0 K nx i r acc (Ee fr) (Ed (Dp h0) X)
 |[],nx,i,acc,fr,h0,x',h,hK=>by
  unfold Sc at h;split at h
  ·rename_i e;cases h;exact⟨TZ e,hK⟩
  ·cases h
 |o::r,nx,i,acc,fr,h0,x',h,hK=>by
  unfold Sc at h;unfold WD;split at h
  ·cases h
  ·rename_i hw;refine XN (x:=⟨fr,h0,nx⟩) hw (fun e=>by cases e) fun _=> ?_
   have:=aH hc hp hX r _ _ _ _ _ x' h hK;simp only[XK] at this;exact this
  rename_i hw;refine XN (x:=⟨fr,h0,nx⟩) hw (fun _=> ?_) fun e=>by cases e
  split at h
  ·cases h
  rename_i v δ ids n hop;have hrec:=aH hc hp hX r _ _ _ _ _ x' h hK;simp only[XK,aA,<-Z9] at hrec;exact sX hc hp hX hop hrec
theorem Uj (hc:∀B g vs hp nx v hp' nx',call B g vs hp nx=some (v,hp',nx')->Ga P B g vs hp nx v hp' nx')(hp:∀g ds d fr,pcall g ds=some (d,fr)->AI P g ds d fr)(X:Hp)(hX:Fc X (Dp B)):
  ∀(code:Code) (x x':XS) (e:Ex) (Q:Ex->St->Prop),xC tab B call pcall N code x=some (e,x')->Q e (x'.st X)->W2 P tab code Q (x.st X):=by
 intro code;induction code with
 |skip=>intro x x' e Q h hQ;cases h;exact hQ
 |label l=>intro x x' e Q h hQ;cases h;exact hQ
 |ret=>intro x x' e Q h hQ;cases h;exact hQ
 |exit n=>intro x x' e Q h hQ;cases h;exact hQ
 |seq a b iha ihb=>
  intro x x' e Q h hQ;unfold xC at h;split at h
  ·rename_i x1 h1;exact iha _ _ _ _ h1 (ihb _ _ _ _ h hQ)
  ·rename_i h1;refine iha _ _ _ _ h ?_;simp_all
 |cond c a b iha ihb=>
  grind [xC,ZL,XS.st]
 |block n a iha=>
  intro x x' e Q h hQ;unfold xC at h;split at h
  ·rename_i m x1 h1;refine iha _ _ _ _ h1 ?_;simp only;split at h
   ·simp_all
   rename_i em;cases h;rw[if_neg (XJ em)];exact hQ
  ·rename_i h1;refine iha _ _ _ _ h ?_;simp_all
 |region id ops draw=>
  intro x x' e Q h hQ;unfold xC at h;cases draw with
  |false=>
   simp only[La,Lu] at h;obtain⟨x1,h1,rfl,rfl⟩:=h;exact aG hc hX _ _ _ _ h1 hQ
  |true=>
   simp only[La,Lu] at h;obtain⟨x1,h1,rfl,rfl⟩:=h;exact aH hc hp hX _ _ _ _ _ _ _ h1 hQ
 |loop a iha=>
  intro x x' e Q h hQ Y h1 h2;unfold xC at h;suffices ∀n (x:XS),HX (xC tab B call pcall N a) n x=some (e,x')->Y (x.st X) from this _ _ h;intro n;induction n with
  |zero=>intro x h;cases h
  |succ n ih=>
   grind [HX,absurd]
 |_=>intro x x' e Q h hQ;cases h
end

section
variable {P:Program}
theorem aI {f:FuncId}{vs:List AV}{hp:Hp}{nx:Nat}{ds:List D}{b:Bool}{is:List Nat}{d:D}{fr:Bool}(hd:CT hp vs=some (ds,b,is))(hp0:AI P f ds d fr)(hi:is= []\/fr=true):
  AK P f vs hp nx fun v2 hp2 nx2=>v2=Aw (!fr&&b) d/\hp2=hp/\nx2=nx:=by
 refine⟨hp0.1,fun g c vals hhp hkn hr hsz hall=> ?_⟩;obtain⟨_,hp0⟩:=hp0;have hgo:∀(I:Nat->Prop),(∀k,Im g c b k->I k)->(∀i∈is,I (c.φ i))->vals.size=ds.length/\∀(j:Nat) (x:D),ds[j]? =some x->∃u,vals[j]? =some u/\DJ c.w I x u:=by
  intro I h1 h2;obtain⟨g1,g2⟩:=Ra hr hhp I (fun j=>vals.getD j undef) hd (TT hall) h1 h2;refine⟨by omega,fun j x hj=>⟨_,TU (by grind),(g2 j x hj).1⟩⟩
 have fin:∀(I:Nat->Prop) (u:Value) (w':World),Below c.w.heap.size c.w w'/\c.w.drawn<=w'.drawn->RV w' I d u->(∀k,I k->k<w'.heap.size/\(c.w.heap.size<=k\/Im g c (!fr&&b) k))->
   ∃u' v c' nx',Ending.returned u= .returned u'/\(v=Aw (!fr&&b) d/\c'.hp=hp/\nx'=nx)/\c'.w=w'/\CF c c'/\HR g c'/\Am g c' v u'/\nx<=nx'/\∀i,c'.kn i->c.kn i\/(nx<=i/\i<nx'):=by
  intro I u w' ⟨hb,hdr⟩ hv hI;have he:CF c ⟨c.hp,c.φ,w',c.kn⟩:=⟨hb.os,hb.tape,hb.output,hb.size,fun _ h=>h,fun k hk _=>hb.block k hk,fun id o ho hf=>.inr ⟨o,ho,hf,rfl⟩,fun _ _ h=>⟨rfl,h⟩,
   fun id es _ v br fz hk hr=>⟨es,v,br,fz,hr,Lc _,fun _=>⟨rfl,rfl,fun cur _ e=>⟨cur,(hb.block _ (‹HR g c›.dom id _ hr).2.2).trans e,rfl⟩⟩⟩,hdr⟩
  have hr':HR g ⟨c.hp,c.φ,w',c.kn⟩:=⟨Lp hr.le hb.size,fun k hk=>Lz (hr.m0 k hk) hb.size,fun id o ho=>⟨(hr.dom id o ho).1,(hr.dom id o ho).2.1,Lz (hr.dom id o ho).2.2 hb.size⟩,hr.inj,fun id o ho=>(hr.obj id o ho).ext he rfl (hb.block _ (hr.dom id o ho).2.2)⟩;refine⟨u,_,⟨c.hp,c.φ,w',c.kn⟩,nx,rfl,⟨rfl,hhp,rfl⟩,rfl,he,hr',?_,Lc _,fun i h=>.inl h⟩;have hv2:RV w' (Im g ⟨c.hp,c.φ,w',c.kn⟩ (!fr&&b)) d u:=hv.mono (fun _ _=>rfl) fun k hk=>by
   obtain⟨h1,h2⟩:=hI k hk;rcases h2 with h2 |h2
   ·refine⟨h1,fun hm=> ?_,fun id o ho _ e=> ?_,fun _=>Lp hr.le h2⟩
    ·have:=hr.m0 k hm
     have:=hr.le;omega
    have:=(hr.dom id o ho).2.2;simp only at e;omega
   exact h2.ext he
  cases d with |v x=>exact(RC.toRA (c:=⟨c.hp,c.φ,w',c.kn⟩) hv2).toAt |sl es=>exact(RC.toRA (c:=⟨c.hp,c.φ,w',c.kn⟩) hv2).toAt |pt cs off=>exact(RC.toRA (c:=⟨c.hp,c.φ,w',c.kn⟩) hv2).toAt |mp es=>exact(RC.toRA (c:=⟨c.hp,c.φ,w',c.kn⟩) hv2).toAt |ag cs=>exact hv2 |tu cs=>exact hv2
 by_cases hfr:fr=true
 ·subst hfr;obtain⟨q1,q2⟩:=hgo (fun k=>k<c.w.heap.size/\¬False) (fun k hk=>⟨hk.1,fun h=>h⟩) (fun i hi=>by
   obtain⟨es,sz,v,br,fz,h1⟩:=Pi hd i hi;exact⟨(hr.dom i _ (hhp▸h1)).2.2,fun h=>h⟩)
  refine(hp0 c.w (fun _=>False) vals (fun _ h=>h.elim) q1 q2).mono fun e w' ⟨u,he,hb,hv⟩=> ?_;subst he;exact fin _ u w' hb hv fun k hk=>⟨hk.1,.inl (hk.2.2 rfl)⟩
 have h0:is= []:=by
  rcases hi with hi |hi
  ·exact hi
  exact absurd hi hfr
 subst h0;have hfr2:fr=false:=by simpa using hfr
 subst hfr2;obtain⟨q1,q2⟩:=hgo (fun k=>k<c.w.heap.size/\¬(k<c.w.heap.size/\¬Im g c b k)) (fun k hk=>⟨hk.1,fun h=>h.2 hk⟩) (fun i hi=>by simp at hi);refine(hp0 c.w (fun k=>k<c.w.heap.size/\¬Im g c b k) vals (fun _ h=>h.1) q1 q2).mono fun e w' ⟨u,he,hb,hv⟩=> ?_;subst he;refine fin _ u w' hb hv fun k hk=>⟨hk.1,?_⟩;grind
end
/-- What each function must have for the machine to enter it. -/
def QO (fn:Func):Bool:=match fn.body with
 |some code=> !(fn.name== "runtime.NumGoroutine")&&DY fn.ntmps code
 |none=>false
/-- Calls that are known otherwise, and make nothing. -/
abbrev IJ:=FuncId->List AV->Option AV
structure GC (P:Program) (prim:IJ):Prop where
 ok:∀f vs v,prim f vs=some v->∀hp nx,AK P f vs hp nx fun v2 hp2 nx2=>v2=v/\hp2=hp/\nx2=nx
section
variable (P:Program)(tab:Nat->TI)(N:Nat)(ok:Nat->Bool)(prim:IJ)
def Uk (B:Tr AO)(rs:Array ResultVar):Option (Ex × XS)->Option (AV × Tr AO × Nat)
 |some (.exit _,_)=>none
 |some (_,x)=>(Dw tab rs (x.st (Dp B))).map fun v=>(v,x.hp,x.nx)
 |none=>none
def XO (xs:Tr AO->FuncId->List AV->Tr AO->Nat->Option (AV × Tr AO × Nat))(g:FuncId)(ds:List D):Option (D × Bool):=
 match xs .lf g (ds.map (Aw true)) .lf 0 with
 |some (v,hp',_)=>match toR (Dp hp') v with
  |some (d,b,_)=>some (d, !b)
  |none=>none
 |none=>none
/-- What is like a clone is entered where it is called. -/
def aJ (P:Program)(g:FuncId):Bool:=match P.funcs[g]? with
 |some fn=>Nat.beq fn.ntmps 8&&(Nat.beq fn.targs.size 2&&Nat.beq fn.params.size 1)
 |none=>false
def XP (xs:Tr AO->FuncId->List AV->Tr AO->Nat->Option (AV × Tr AO × Nat))(g:FuncId)(ds:List D):Option (D × Bool):=match aJ P g with
 |true=>none
 |false=>XO xs g ds
def aK:AV->Bool
 | .so _ _ _ _=>true
 |_=>false
/-- A known call that is handed rows of one's own: they are told as data. -/
def aL (B hp:Tr AO)(f:FuncId)(vs:List AV):Option AV:=
 match vs.any aK with
 |false=>none
 |true=>match CT (hpB B hp) vs with
  |some (ds,_,_)=>match prim f (ds.map (Aw true)) with
   |some v=>match toR AS v with
    |some (d,false,_)=>some (Aw false d)
    |_=>none
   |none=>none
  |none=>none
def Ul (xs:Tr AO->FuncId->List AV->Tr AO->Nat->Option (AV × Tr AO × Nat))(B:Tr AO)(f:FuncId)(vs:List AV)(hp:Tr AO)(nx:Nat):Option (AV × Tr AO × Nat):=
 match prim f vs with
 |some v=>some (v,hp,nx)
 |none=>match aL prim B hp f vs with
  |some v=>some (v,hp,nx)
  |none=>match ok f with
   |false=>none
   |true=>match P.funcs[f]? with
    |none=>none
    |some fn=>match fn.body with
     |none=>none
     |some code=>match Nat.ble vs.length fn.ntmps with
      |false=>none
      |true=>Uk tab B fn.results (xC tab B xs (XP P xs) N code ⟨Mz vs 0,hp,nx⟩)
def IK:Nat->Tr AO->FuncId->List AV->Tr AO->Nat->Option (AV × Tr AO × Nat)
 |0=>fun _ _ _ _ _=>none
 |n+1=>Ul P tab N ok prim (IK n)
end
theorem sY {tab:Nat->TI}{fr:Fr}{hp hp':Hp}{nx:Nat}(h:Fc hp' hp){r:ResultVar}{v:AV}(hx:Md tab ⟨fr,hp,nx⟩ r=some v):Md tab ⟨fr,hp',nx⟩ r=some v:=by
 cases r with
 |tmp t=>exact hx
 |cell x T=>
  unfold Md at hx⊢;simp only at hx⊢;split at hx
  ·rename_i hok;rw[if_pos hok];cases hv:fr x with
   |pt i off=>
    rw[hv] at hx;simp only at hx⊢;cases hi:hp i with |none=>rw[hi] at hx;cases hx |some ob=>rw[hi] at hx;rw[h i ob hi];exact hx
   |_=>rw[hv] at hx;exact hx
  cases hx
theorem iO {tab:Nat->TI}{fr:Fr}{hp hp':Hp}{nx:Nat}(h:Fc hp' hp):∀ {rs:List ResultVar} {vs:List AV},Kt tab ⟨fr,hp,nx⟩ rs=some vs->Kt tab ⟨fr,hp',nx⟩ rs=some vs
 |[],vs,hx=>hx
 |r::rs,vs,hx=>by
  unfold Kt at hx⊢;split at hx
  ·rename_i e1 e2;rw[sY h e1,iO h e2];exact hx
  cases hx
theorem sZ {tab:Nat->TI}{fr:Fr}{hp hp':Hp}{nx:Nat}(h:Fc hp' hp){rs:Array ResultVar}{v:AV}(hx:Dw tab rs ⟨fr,hp,nx⟩=some v):Dw tab rs ⟨fr,hp',nx⟩=some v:=by
 grind [Dw,iO]
theorem iP (hp:Hp):Ed hp AS=hp:=by
 funext i;simp only[Ed];cases hp i<;>rfl
section
variable {P:Program}{tab:Nat->TI}{N:Nat}{ok:Nat->Bool}{prim:IJ}
theorem iQ {xs:Tr AO->FuncId->List AV->Tr AO->Nat->Option (AV × Tr AO × Nat)}(h:∀B f vs hp nx v hp' nx',xs B f vs hp nx=some (v,hp',nx')->Ga P B f vs hp nx v hp' nx'){g:FuncId}{ds:List D}{d:D}{fr:Bool}(hx:XO xs g ds=some (d,fr)):AI P g ds d fr:=by
 unfold XO at hx;split at hx
 ·rename_i v1 hp1 nx1 h1;split at hx
  ·rename_i d1 b1 is1 h2;simp only[Le,Lu] at hx;obtain⟨rfl,rfl⟩:=hx
   have:=h _ _ _ _ _ _ _ _ h1 AS (fun i o h=>by cases h);rw[iP,iP] at this;refine TW ((show Dp (.lf:Tr AO)=AS from rfl)▸this.mono ?_);rintro _ _ _ ⟨rfl,rfl,rfl⟩;exact⟨b1,is1,h2,by simp⟩
  cases hx
 cases hx
theorem QP {xs:Tr AO->FuncId->List AV->Tr AO->Nat->Option (AV × Tr AO × Nat)}(h:∀B f vs hp nx v hp' nx',xs B f vs hp nx=some (v,hp',nx')->Ga P B f vs hp nx v hp' nx'){g:FuncId}{ds:List D}{d:D}{fr:Bool}(hx:XP P xs g ds=some (d,fr)):AI P g ds d fr:=by
 unfold XP at hx;split at hx
 ·cases hx
 exact iQ h hx
theorem sa (hpr:GC P prim){B hp:Tr AO}{f:FuncId}{vs:List AV}{v:AV}(hx:aL prim B hp f vs=some v){X:Hp}(hX:Fc X (Dp B))(nx:Nat):AK P f vs (Ed (Dp hp) X) nx fun v2 hp2 nx2=>v2=v/\hp2=Ed (Dp hp) X/\nx2=nx:=by
 unfold aL at hx;split at hx
 ·cases hx
 split at hx
 ·rename_i ds b is e1;split at hx
  ·rename_i v1 e2;split at hx
   ·rename_i d is2 e3;cases hx;have hp0:AI P f ds d true:=TW ((hpr.ok f _ _ e2 AS 0).mono (by
     rintro _ _ _ ⟨rfl,rfl,rfl⟩;exact⟨false,is2,e3,by simp⟩))
    exact(aI (XI (Sa hX) e1) hp0 (.inr rfl)).mono fun v hp nx h=>h
   cases hx
  cases hx
 cases hx
theorem sb (ht:AU P tab)(hm:P.follows .mixedOrders=true)(hok:∀f fn,ok f=true->P.funcs[f]? =some fn->QO fn=true)(hpr:GC P prim):∀(n:Nat) (B:Tr AO) (f:FuncId) (vs:List AV) (hp:Tr AO) (nx:Nat) (v:AV) (hp':Tr AO) (nx':Nat),IK P tab N ok prim n B f vs hp nx=some (v,hp',nx')->Ga P B f vs hp nx v hp' nx':=by
 intro n;induction n with
 |zero=>intro B f vs hp nx v hp' nx' h;cases h
 |succ n ih=>
  intro B f vs hp nx v hp' nx' h X hX;unfold IK Ul at h;split at h
  ·rename_i v' e;cases h;exact hpr.ok f vs _ e _ _
  split at h
  ·rename_i v' e;cases h;exact sa hpr e hX _
  split at h
  ·cases h
  rename_i hokf;split at h
  ·cases h
  rename_i fn hf;have h0:=hok f fn hokf hf;split at h
  ·cases h
  rename_i code hb;unfold QO at h0;rw[hb] at h0;simp only[Li,NJ] at h0;split at h
  ·cases h
  rename_i hl;refine fT ht hm hf hb h0.1 h0.2 (NI hl) (JY code (Cu tab fn.results fun v2 hp2 nx2=>v2=v/\hp2=Ed (Dp hp') X/\nx2=nx') _ _ (fun _ _ h=>h) ?_);unfold Uk at h;have key:∀e x',xC tab B (IK P tab N ok prim n) (XP P (IK P tab N ok prim n)) N code ⟨Mz vs 0,hp,nx⟩=some (e,x')->(∀m,e≠ .exit m)->(Dw tab fn.results (x'.st (Dp B))).map (fun v=>(v,x'.hp,x'.nx))=some (v,hp',nx')->W2 P tab code (Cu tab fn.results fun v2 hp2 nx2=>v2=v/\hp2=Ed (Dp hp') X/\nx2=nx') ⟨Df vs,Ed (Dp hp) X,nx⟩:=by
   intro e x' hx he hr;rw[<-sT];refine Uj ih (fun g ds d fr hx=>QP ih hx) X hX code ⟨Mz vs 0,hp,nx⟩ x' e _ hx ?_;simp only[La,Lu] at hr;obtain⟨v1,h1,rfl,rfl,rfl⟩:=hr;have h2:Dw tab fn.results (x'.st X)=some v1:=sZ (Sa hX) h1;cases e with |exit m=>exact absurd rfl (he m) |normal=>exact sL h2 ⟨rfl,rfl,rfl⟩ |ret=>exact Jc h2 ⟨rfl,rfl,rfl⟩
  grind
end
def okOf (P:Program)(f:Nat):Bool:=match P.funcs[f]? with
 |some fn=>QO fn
 |none=>false
/-- A p1_ call, reckoned by the kernel. -/
def eval (P:Program)(prim:IJ)(N n:Nat)(f:FuncId)(ds:List D):Option (D × Bool):=XO (IK P (IG P) N (okOf P) prim n) f ds
theorem Sd {P:Program}{prim:IJ}{N n:Nat}{f:FuncId}{ds:List D}{d:D}{fr:Bool}(hm:P.follows .mixedOrders=true)(hpr:GC P prim)(h:eval P prim N n f ds=some (d,fr)):AI P f ds d fr:=
 iQ (sb (gC P) hm (fun f fn h1 h2=>by unfold okOf at h1;rw[h2] at h1;exact h1) hpr n) h


/-! ### rows of things -/
end Go.Proofs.YtnmkbmefohakmaaGreat.Ab
namespace Go.Proofs.YtnmkbmefohakmaaGreat.Ab
/-- A function that compares, called from wherever some things stand as they stood. -/
def M5 {α:Type}(P:Program)(f:FuncId)(caps:List AV)(ld:α->AV)(cf:α->α->Int)(ids:List Nat)(hp0:Hp):Prop:=∀(x y:α) (nx:Nat),∃nx',nx<=nx'/\∀hp:Hp,(∀i∈ids,hp i=hp0 i)->AK P f ([ld x,ld y]++caps) hp nx fun v2 hp2 nx2=>v2= .v (.int .i64 (cf x y))/\hp2=hp/\nx2=nx'
theorem M5.det {α:Type}{P:Program}{f:FuncId}{caps:List AV}{ld:α->AV}{cf:α->α->Int}{ids:List Nat}{hp0 hp:Hp}(h:M5 P f caps ld cf ids hp0)(hh:∀i∈ids,hp i=hp0 i)(x y:α)(nx:Nat):
  ∃nx',nx<=nx'/\Mf P f ([ld x,ld y]++caps) hp nx ids (.v (.int .i64 (cf x y))) [] nx':=by
 obtain⟨nx',h1,h2⟩:=h x y nx;exact⟨nx',h1,fun hp1 hq=>h2 hp1 fun i hi=>(hq.1 i hi).trans (hh i hi)⟩
end Go.Proofs.YtnmkbmefohakmaaGreat.Ab

namespace Go.Proofs.YtnmkbmefohakmaaGreat.Ab
open Go.RowKit

section
variable {P:Program}{tab:Nat->TI}{k:List It}{Q Q':Ex->St->Prop}{s:St}{a b x:Code}{n m:Nat}{hp:Hp}
attribute [go_sem] gM
end



abbrev Se:=FuncId × (List AV->Option AV)
def XQ:List Se->IJ
 |[],_,_=>none
 |p::r,f,vs=>match Nat.beq p.1 f with
  |true=>match p.2 vs with
   |some v=>some v
   |none=>XQ r f vs
  |false=>XQ r f vs
def Um (P:Program)(p:Se):Prop:=∀vs v,p.2 vs=some v->∀hp nx,AK P p.1 vs hp nx fun v2 hp2 nx2=>v2=v/\hp2=hp/\nx2=nx
section
variable {P:Program}{tab:Nat->TI}
theorem QQ:∀(l:List Se),(∀p∈l,Um P p)->GC P (XQ l)
 |[],_=>⟨fun _ _ _ h=>by cases h⟩
 |p::r,h=>⟨fun f vs v hx=>by
   unfold XQ at hx;have ih:=(QQ r fun q hq=>h q (Lh _ hq)).ok;split at hx
   ·rename_i e;have e':=OP e;split at hx
    ·rename_i e2;cases hx;rw[<-e'];exact h p (by simp) vs _ e2
    exact ih _ _ _ hx
   exact ih _ _ _ hx⟩
/-- A clone of what is empty. -/
def Un (f:FuncId):Se:=(f,fun vs=>match vs with
 |[.d (.sl []) _]=>some (.d (.sl []) false)
 |_=>none)
theorem aM {f:FuncId}(h:AI P f [.sl []] (.sl []) true):Um P (Un f):=by
 intro vs w hw hp nx;simp only[Un] at hw;split at hw
 ·cases hw;exact(aI (b:=_) (is:=_) rfl h (.inr rfl)).mono fun v hp nx h=>h
 cases hw
end

section
variable {P:Program}
/-- A call that only hands a value back. -/
theorem sd {f:FuncId}{xs:List Value}{v:Value}{fr:Bool}(hE:Ks P f)(hv:v.oneCell'=true)(h:∀w,Calls P f xs.toArray w fun e w'=>e= .returned v/\w'=w):AI P f (xs.map .v) (.v v) fr:=by
 refine⟨hE,fun w M0 args _ hsz hargs=> ?_⟩;have e:args=xs.toArray:=by
  apply OD
  ·simpa using hsz
  intro i h1 h2;have hi:i<xs.length:=by simpa using h2
  obtain⟨u,h3,h4⟩:=hargs i (.v xs[i]) (by simp);rw[LA h1,Le] at h3;rw[h3];cases(show RC w _ (.v xs[i]) u from h4);simp
 rw[e];refine(h w).mono fun e w' ⟨he,hw⟩=> ?_;subst hw;exact⟨v,he,⟨Below.refl _ _,Lc _⟩,show RC _ _ (.v v) v from .v v hv⟩
/-- Two texts held against each other. -/
def XR (f:FuncId):Se:=(f,fun vs=>match vs with
 |[.v (.string a),.v (.string b)]=>some (.v (.int .i64 (Lib.compareBytes a.data.toList b.data.toList)))
 |_=>none)
theorem QR {f:FuncId}(hE:Ks P f)(h:∀(a b:ByteArray) (w:World),Calls P f #[.string a,.string b] w fun e w'=>e= .returned (.int .i64 (Lib.compareBytes a.data.toList b.data.toList))/\w'=w):Um P (XR f):=by
 intro vs w hw hp nx;simp only[XR] at hw;split at hw
 ·rename_i a b;cases hw
  have:=sd (fr:=true) (xs:=[.string a,.string b]) hE rfl (h a b);exact(aI (vs:=[.v (.string a),.v (.string b)]) (b:=false) (is:=[]) rfl this (.inl rfl)).mono fun v hp nx h=>h
 cases hw
end
end Go.Proofs.YtnmkbmefohakmaaGreat.Ab

/-
 What the evaluator wants besides.
-/
import Derived.Test.YtnmkbmefohakmaaGreatRks
set_option linter.all false
namespace Go.Proofs.YtnmkbmefohakmaaGreat.Ab
open Go.RowKit
theorem wP {tab:Nat->TI}{rs:Array ResultVar}{R:AV->Hp->Nat->Prop}{s:St}{v:AV}(c:EJ tab rs s=some v)(d:R v s.hp s.nx):Dd tab rs R .normal s:=⟨v,s.hp,c,⟨fun _=>.inr rfl⟩,d⟩

/-- More that there is. -/
def GF (hp' hp:Hp):Prop:=∀i o,hp i=some o->hp' i=some o
variable {X hp:Hp}{ds:List D}{f:FuncId}{fr:Bool}{id:Nat}{x:AV}{α:Type}
section
variable {tab:Nat->TI}{ρ:Operand->AV}{hp hp':Hp}{id:Nat}

theorem cw (h:GF hp' hp){r:D × Bool × List Nat}(e:Ce hp x=some r):Ce hp' x=some r:=by
 cases x with
 |so i v o n=>
  unfold Ce at e⊢;simp only at e⊢;cases g:hp i with |none=>rw[g] at e;cases e |some j=>rw[g] at e;rw[h i j g];exact e
 |v x=>cases x with |slice a n c=>cases a<;>cases n<;>cases c<;>exact e |_=>exact e
 |d x b=>cases x<;>exact e
 |_=>exact e
theorem cy (h:GF hp' hp):∀ {d:List AV} {r:List D × Bool × List Nat},DR hp d=some r->DR hp' d=some r
 |[],r,c=>c
 |x::d,r,c=>by
  unfold DR at c⊢;split at c
  ·rename_i e g;rw[cw h e,cy h g];exact c
  cases c
theorem wQ (h:GF hp' hp){r:D × Bool × List Nat}(c:Ek hp x=some r):Ek hp' x=some r:=by
 cases x with
 |ag e=>
  grind [Ek,Option.map_eq_some_iff,cy]
 |d y b=>cases y<;>first |exact c |(unfold Ek at c⊢;exact cw h c)
 |_=>unfold Ek at c⊢;exact cw h c
theorem ZJ (h:GF hp' hp):∀ {d:List AV} {r:List D × Bool × List Nat},Cj hp d=some r->Cj hp' d=some r
 |[],r,c=>c
 |x::d,r,c=>by
  unfold Cj at c⊢;split at c
  ·rename_i e g;rw[wQ h e,ZJ h g];exact c
  cases c
theorem cz (h:GF hp' hp):∀ {is:List Nat},(∀i∈is,∃c d v e g,hp i=some (.rw c d v e g))->frz hp' is=frz hp is
 |[],_=>rfl
 |i::r,j=>by
  have⟨c,d,v,e,g,l⟩:=j i (by simp);simp only[frz,l,h i _ l,cz h (is:=r) fun i h=>j i (by simp[h])]
theorem lW (h:GF hp' hp){r:List (List D) × Bool × List Nat}(e:GL hp x=some r):GL hp' x=some r:=by
 cases x with
 |so i v o n=>
  unfold GL at e⊢;simp only at e⊢;cases g:hp i with |none=>rw[g] at e;cases e |some j=>rw[g] at e;rw[h i j g];exact e
 |d y b=>cases y<;>exact e
 |v y=>cases y with |slice a n c=>cases a<;>cases n<;>cases c<;>exact e |_=>exact e
 |_=>exact e
theorem wR (h:GF hp' hp){e:BinOp}{T:Nat}{y:AV}{r:AV}(c:Fz tab hp e T x y=some r):Fz tab hp' e T x y=some r:=by
 unfold Fz at c⊢;split
 ·rename_i i v o n;simp only at c;cases d:hp i with |none=>rw[d] at c;cases c |some g=>rw[d] at c;rw[h i g d];exact c
 grind
theorem lX (h:GF hp' hp){E:Op}{r:AV × List (Nat × AO)}(e:CM tab ρ hp id E=some r):CM tab ρ hp' id E=some r:=by
 cases E with
 |load T x=>
  unfold CM at e⊢;simp only at e⊢;split at e
  ·rename_i G;rw[if_pos G];cases l:ρ x with
   |pt i F=>rw[l] at e;simp only at e⊢;(cases g:hp i with |none=>(rw[g] at e;cases e) |some p=>(rw[g] at e;rw[h i p g];exact e))
   |pr i v k F=>rw[l] at e;simp only at e⊢;(cases g:hp i with |none=>(rw[g] at e;cases e) |some p=>(rw[g] at e;rw[h i p g];exact e))
   |d y b=>rw[l] at e;cases y<;>exact e
   |_=>rw[l] at e;exact e
  ·cases e
 |store T x y=>
  unfold CM at e⊢;simp only at e⊢;split at e
  ·rename_i G;rw[if_pos G];cases l:ρ x with
   |pt i F=>
    rw[l] at e;cases q:Dv (ρ y) with
    |none=>rw[q] at e;exact e
    |some I=>rw[q] at e;simp only at e⊢;(cases g:hp i with |none=>(rw[g] at e;cases e) |some p=>(rw[g] at e;rw[h i p g];exact e))
   |pr i v k F=>
    rw[l] at e;cases q:Dv (ρ y) with
    |none=>rw[q] at e;exact e
    |some I=>
     rw[q] at e;simp only at e⊢;split at e
     ·rename_i A z;rw[h i _ A,cy h z];simp only;rw[cz h (U9 z)];exact e
     ·cases e
   |d y b=>rw[l] at e;cases y<;>exact e
   |_=>rw[l] at e;exact e
  ·cases e
 |binOp E T x y J=>
  unfold CM at e⊢;grind [Option.map_eq_some_iff,wR]
 |indexAddr T x i=>
  unfold CM at e⊢;simp only at e⊢;split at e
  ·rename_i u;rw[if_pos u];cases l:ρ x with
   |so j v o n=>
    rw[l] at e;cases C:EI (ρ i) with
    |none=>rw[C] at e;exact e
    |some m=>rw[C] at e;simp only at e⊢;(cases g:hp j with |none=>(rw[g] at e;cases e) |some p=>(rw[g] at e;rw[h j p g];exact e))
   |d y b=>grind
   |_=>rw[l] at e;exact e
  grind
 |slice T x O g K=>
  cases K with
  |some m=>exact e
  |none=>
   unfold CM at e⊢;simp only at e⊢;cases u:(tab T).kind with
   |slice=>
    cases l:ρ x with
    |so j v o n=>
     rw[u,l] at e;simp only at e⊢;split at e
     ·rename_i A z;rw[A,h j _ z];exact e
     ·cases e
    |d y b=>rw[u,l] at e;cases y<;>exact e
    |v y=>grind
    |_=>rw[u,l] at e;exact e
   |string=>
    grind
   |_=>rw[u] at e;exact e
 |buildSlice T n R=>
  unfold CM at e⊢;simp only at e⊢;split at e
  ·rename_i q;rw[if_pos q];grind [ZJ,cz,TG]
  ·cases e
 |lookup T x k ok=>
  unfold CM at e⊢;simp only at e⊢;split at e
  ·split at e
   ·rename_i w;rw[if_pos w];cases l:ρ x with
    |mo i=>rw[l] at e;simp only at e⊢;(cases g:hp i with |none=>(rw[g] at e;cases e) |some p=>(rw[g] at e;rw[h i p g];exact e))
    |d y b=>rw[l] at e;cases y<;>exact e
    |v y=>grind
    |_=>rw[l] at e;exact e
   cases e
  ·cases e
 |mapUpdate T m k x=>
  unfold CM at e⊢;simp only at e⊢;split at e
  ·split at e
   ·rename_i w;rw[if_pos w];cases l:ρ m with
    |mo i=>rw[l] at e;simp only at e⊢;(cases g:hp i with |none=>(rw[g] at e;cases e) |some p=>(rw[g] at e;rw[h i p g];exact e))
    |d y b=>rw[l] at e;cases y<;>exact e
    |_=>rw[l] at e;exact e
   cases e
  ·cases e
 |insert T m k x=>
  unfold CM at e⊢;simp only at e⊢;split at e
  ·split at e
   ·rename_i w;rw[if_pos w];cases l:ρ m with
    |mo i=>rw[l] at e;simp only at e⊢;(cases g:hp i with |none=>(rw[g] at e;cases e) |some p=>(rw[g] at e;rw[h i p g];exact e))
    |d y b=>rw[l] at e;cases y<;>exact e
    |_=>rw[l] at e;exact e
   cases e
  ·cases e
 |mapEntry T m k=>
  unfold CM at e⊢;simp only at e⊢;split at e
  ·split at e
   ·rename_i w;rw[if_pos w];cases l:ρ m with
    |mo i=>rw[l] at e;simp only at e⊢;(cases g:hp i with |none=>(rw[g] at e;cases e) |some p=>(rw[g] at e;rw[h i p g];exact e))
    |d y b=>rw[l] at e;cases y<;>exact e
    |_=>rw[l] at e;exact e
   cases e
  ·cases e
 |entryStore T m L x=>
  unfold CM at e⊢;simp only at e⊢;cases l:ρ m with
  |mo i=>
   rw[l] at e;cases C:EI (ρ L) with
   |none=>rw[C] at e;exact e
   |some j=>
    rw[C] at e;simp only at e⊢;split at e
    ·rename_i w;rw[if_pos w]
     (cases g:hp i with |none=>(rw[g] at e;cases e) |some p=>(rw[g] at e;rw[h i p g];exact e))
    ·cases e
  |_=>rw[l] at e;exact e
 |call c=>
  have⟨M,S,U⟩:=c;cases M with
  |builtin b=>
   cases b with
   |append=>
    unfold CM at e⊢;simp only at e⊢;split at e
    ·split at e
     ·rename_i q;rw[if_pos q];split at e
      ·rename_i A z;rw[lW h A];simp only[z];exact e
      ·rename_i x y T J _ _ _ _ ys b' is i v F n A z;rw[lW h A];simp only[z]
       (cases g:hp i with |none=>(rw[g] at e;cases e) |some p=>(rw[g] at e;rw[h i p g];exact e))
      cases e
     grind
    ·cases e
   |clear=>
    unfold CM at e⊢;simp only at e⊢;split at e
    ·rename_i x T _ _;split at e
     ·rename_i q;rw[if_pos q];cases l:ρ x with
      |so i v o n=>rw[l] at e;simp only at e⊢;(cases g:hp i with |none=>(rw[g] at e;cases e) |some p=>(rw[g] at e;rw[h i p g];exact e))
      |d y b=>rw[l] at e;cases y<;>exact e
      |v y=>grind
      |_=>rw[l] at e;exact e
     cases e
    ·cases e
   |_=>exact e
  |_=>exact e
 |convert s t x=>
  unfold CM at e⊢;simp only at e⊢;cases H:(tab s).ok with
  |false=>rw[H] at e;exact e
  |true=>
   rw[H] at e;cases u:(tab t).kind with
   |string=>
    rw[u] at e;cases l:ρ x with
    |so i v o n=>rw[l] at e;simp only at e⊢;(cases g:hp i with |none=>(rw[g] at e;cases e) |some p=>(rw[g] at e;rw[h i p g];exact e))
    |v y=>rw[l] at e;cases y<;>exact e
    |_=>rw[l] at e;exact e
   |int k=>
    grind
   |_=>rw[u] at e;exact e
 |makeFunc f first V=>cases f<;>exact e
 |makeMap T r=>cases r<;>exact e
 |_=>exact e

/-- Two heaps, the first ahead. -/
def FG (hp X:Hp):Hp:=fun i=>match hp i with
 |some o=>some o
 |none=>X i
theorem c8 (X:Hp):∀(c:List (Nat × AO)) (hp:Hp),CC c (FG hp X)=FG (CC c hp) X
 |[],_=>rfl
 |(k,o)::r,hp=>by
  have:upd k (some o) (FG hp X)=FG (upd k (some o) hp) X:=by
   funext i;by_cases e:i=k
   ·subst e;simp[upd,FG]
   simp[upd,FG,e]
  simp only[CC];rw[this,c8 X r]
end

def UE:Op->Option (Operand × Array Operand)
 | .call { callee:=.value f,args, .. }=>some (f,args)
 |_=>none
section
variable {P:Program}{tab:Nat->TI}
theorem wS {d:Op}{s:St}{K:AV->Hp->Nat->Prop}:IS P tab d id s K=(match UE d with
  |some (f,e)=>MF P (ev s.fr f) (e.toList.map (ev s.fr)) s.hp s.nx K
  |none=>match CM tab (ev s.fr) s.hp id d with
   |some (v,g)=>K v (CC g s.hp) s.nx
   |none=>False):=by
 cases d with
 |call c=>
  have⟨h,e,i⟩:=c;cases h<;>rfl
 |_=>rfl
theorem wT {e:Op}{nx:Nat}{fr:Fr}{K:AV->List (Nat × AO)->List Nat->Option Nat->Prop}:TO P tab e id nx fr hp K=(match UE e with
  |some (f,i)=>(match ev fr f with
   | .fn g l=>(∃ds b is d j,Cj hp (i.toList.map (ev fr)++l)=some (ds,b,is)/\AI P g ds d j/\(is= []\/j=true)/\K (CE (!j&&b) d) [] (Ct (ev fr) e) none)\/
    ∃o v h p,Pi P g (i.toList.map (ev fr)++l) hp nx o v h p/\K v h o (some p)
   |_=>False)
  |none=>match CM tab (ev fr) hp id e with
   |some (v,h)=>K v h (Ct (ev fr) e) none
   |none=>False):=by
 cases e with
 |call c=>
  have⟨q,i,r⟩:=c;cases q<;>rfl
 |_=>rfl
end

/-- A tree, by the digits of its keys. -/
inductive Tr (α:Type) where
 |lf
 |nd (l:Tr α) (x:Option α) (r:Tr α)
 |ov (k:Nat) (x:α) (t:Tr α)
def Tr.get {α:Type}:Tr α->Nat->Option α
 | .lf,_=>none
 | .nd l x r,k=>match k with
  |0=>x
  |k+1=>match k%2 with
   |0=>l.get (k / 2)
   |_=>r.get (k / 2)
 | .ov c x t,k=>match Nat.beq k c with
  |true=>some x
  |false=>t.get k
def Tr.set {α:Type}:Nat->Tr α->Nat->α->Tr α
 |0,t,k,x=>.ov k x t
 |n+1,t,k,x=>match t with
  | .ov c y t=>.ov k x (.ov c y t)
  | .lf=>match k with
   |0=>.nd .lf (some x) .lf
   |k+1=>match k%2 with
    |0=>.nd (Tr.set n .lf (k / 2) x) none .lf
    |_=>.nd .lf none (Tr.set n .lf (k / 2) x)
  | .nd l y r=>match k with
   |0=>.nd l (some x) r
   |k+1=>match k%2 with
    |0=>.nd (Tr.set n l (k / 2) x) y r
    |_=>.nd l y (Tr.set n r (k / 2) x)
theorem ZK {a b:Nat}(h:Nat.beq a b=false):a≠b:=fun e=>by subst e;simp at h
theorem Tr.get_set:∀(n:Nat) (t:Tr α) (k:Nat) (x:α) (j:Nat),(t.set n k x).get j=if j=k then some x else t.get j:=by
 intro n;induction n with
 |zero=>
  intro t k x j;simp only[Tr.set,Tr.get];split
  ·simp_all
  ·rename_i h;rw[if_neg (ZK h)]
 |succ n g=>
  intro t k x j;have e:∀(l r:Tr α) (y:Option α),((match k with
   |0=>Tr.nd l (some x) r
   |k+1=>match k%2 with
    |0=>Tr.nd (Tr.set n l (k / 2) x) y r
    |_=>Tr.nd l y (Tr.set n r (k / 2) x)):Tr α).get j=if j=k then some x else(Tr.nd l y r).get j:=by
   intro l r y;cases k with
   |zero=>cases j with |zero=>rfl |succ j=>rw[if_neg (by omega)];rfl
   |succ k=>
    have c:k%2=0\/k%2=1:=(by omega);cases j with
    |zero=>rcases c with c |c<;>(rw[if_neg (by omega)];simp only[c];rfl)
    |succ j=>
     have d:j%2=0\/j%2=1:=(by omega);rcases c with c |c<;>rcases d with d |d<;>simp only[c,Tr.get,d,g]
     ·grind
     ·rw[if_neg (by omega)]
     ·rw[if_neg (by omega)]
     grind
  cases t with
  |ov i y t=>
   simp only[Tr.set,Tr.get];by_cases h:Nat.beq j k=true
   ·simp_all
   ·rw[Bool.not_eq_true] at h;rw[h,if_neg (ZK h)]
  |nd l y r=>exact e l r y
  |lf=>
   have:(Tr.nd (.lf:Tr α) none .lf).get j=(.lf:Tr α).get j:=by
    cases j with |zero=>rfl |succ j=>simp only[Tr.get];split<;>rfl
   rw[<-this];exact e .lf .lf none

def deep:Nat:=48
/-! ### frames -/
inductive HV (α:Type) where
 |mk (a0 a1 a2 a3 a4 a5 a6 a7 a8 a9 a10 a11 a12 a13 a14 a15:α)
def HV.toL {α:Type}:HV α->List α
 | .mk c d e g h i j l o p q r t u v w=>[c,d,e,g,h,i,j,l,o,p,q,r,t,u,v,w]
/-- How one of sixteen is had, and put. -/
structure wU (α:Type) where
 g:HV α->α
 s:α->HV α->HV α
def Kd (α:Type)(k:Nat):wU α:=
 match k with
 |0=>⟨fun n=>match n with | .mk c _ _ _ _ _ _ _ _ _ _ _ _ _ _ _=>c,fun v n=>match n with | .mk _ d e g h i j l o p q r t u w y=>.mk v d e g h i j l o p q r t u w y⟩
 |1=>⟨fun n=>match n with | .mk _ d _ _ _ _ _ _ _ _ _ _ _ _ _ _=>d,fun v n=>match n with | .mk c _ e g h i j l o p q r t u w y=>.mk c v e g h i j l o p q r t u w y⟩
 |2=>⟨fun n=>match n with | .mk _ _ e _ _ _ _ _ _ _ _ _ _ _ _ _=>e,fun v n=>match n with | .mk c d _ g h i j l o p q r t u w y=>.mk c d v g h i j l o p q r t u w y⟩
 |3=>⟨fun n=>match n with | .mk _ _ _ g _ _ _ _ _ _ _ _ _ _ _ _=>g,fun v n=>match n with | .mk c d e _ h i j l o p q r t u w y=>.mk c d e v h i j l o p q r t u w y⟩
 |4=>⟨fun n=>match n with | .mk _ _ _ _ h _ _ _ _ _ _ _ _ _ _ _=>h,fun v n=>match n with | .mk c d e g _ i j l o p q r t u w y=>.mk c d e g v i j l o p q r t u w y⟩
 |5=>⟨fun n=>match n with | .mk _ _ _ _ _ i _ _ _ _ _ _ _ _ _ _=>i,fun v n=>match n with | .mk c d e g h _ j l o p q r t u w y=>.mk c d e g h v j l o p q r t u w y⟩
 |6=>⟨fun n=>match n with | .mk _ _ _ _ _ _ j _ _ _ _ _ _ _ _ _=>j,fun v n=>match n with | .mk c d e g h i _ l o p q r t u w y=>.mk c d e g h i v l o p q r t u w y⟩
 |7=>⟨fun n=>match n with | .mk _ _ _ _ _ _ _ l _ _ _ _ _ _ _ _=>l,fun v n=>match n with | .mk c d e g h i j _ o p q r t u w y=>.mk c d e g h i j v o p q r t u w y⟩
 |8=>⟨fun n=>match n with | .mk _ _ _ _ _ _ _ _ o _ _ _ _ _ _ _=>o,fun v n=>match n with | .mk c d e g h i j l _ p q r t u w y=>.mk c d e g h i j l v p q r t u w y⟩
 |9=>⟨fun n=>match n with | .mk _ _ _ _ _ _ _ _ _ p _ _ _ _ _ _=>p,fun v n=>match n with | .mk c d e g h i j l o _ q r t u w y=>.mk c d e g h i j l o v q r t u w y⟩
 |10=>⟨fun n=>match n with | .mk _ _ _ _ _ _ _ _ _ _ q _ _ _ _ _=>q,fun v n=>match n with | .mk c d e g h i j l o p _ r t u w y=>.mk c d e g h i j l o p v r t u w y⟩
 |11=>⟨fun n=>match n with | .mk _ _ _ _ _ _ _ _ _ _ _ r _ _ _ _=>r,fun v n=>match n with | .mk c d e g h i j l o p q _ t u w y=>.mk c d e g h i j l o p q v t u w y⟩
 |12=>⟨fun n=>match n with | .mk _ _ _ _ _ _ _ _ _ _ _ _ t _ _ _=>t,fun v n=>match n with | .mk c d e g h i j l o p q r _ u w y=>.mk c d e g h i j l o p q r v u w y⟩
 |13=>⟨fun n=>match n with | .mk _ _ _ _ _ _ _ _ _ _ _ _ _ u _ _=>u,fun v n=>match n with | .mk c d e g h i j l o p q r t _ w y=>.mk c d e g h i j l o p q r t v w y⟩
 |14=>⟨fun n=>match n with | .mk _ _ _ _ _ _ _ _ _ _ _ _ _ _ w _=>w,fun v n=>match n with | .mk c d e g h i j l o p q r t u _ y=>.mk c d e g h i j l o p q r t u v y⟩
 |_=>⟨fun n=>match n with | .mk _ _ _ _ _ _ _ _ _ _ _ _ _ _ _ y=>y,fun v n=>match n with | .mk c d e g h i j l o p q r t u w _=>.mk c d e g h i j l o p q r t u w v⟩
theorem Ke (n:HV α)(d:α):∀k,k<16->(Kd α k).g n=n.toL.getD k d:=by
 intro k c;have⟨e,g,i,j,l,o,p,q,r,t,u,v,w,y,z,A⟩:=n
 match k,c with
 |0,_=>rfl
 |1,_=>rfl
 |2,_=>rfl
 |3,_=>rfl
 |4,_=>rfl
 |5,_=>rfl
 |6,_=>rfl
 |7,_=>rfl
 |8,_=>rfl
 |9,_=>rfl
 |10,_=>rfl
 |11,_=>rfl
 |12,_=>rfl
 |13,_=>rfl
 |14,_=>rfl
 |15,_=>rfl
 |k+16,h=>exact absurd h (by omega)
theorem WK (n:HV α)(v:α):∀k,k<16->((Kd α k).s v n).toL=n.toL.set k v:=by
 intro k c;have⟨d,e,g,i,j,l,o,p,q,r,t,u,w,y,z,A⟩:=n
 match k,c with
 |0,_=>rfl
 |1,_=>rfl
 |2,_=>rfl
 |3,_=>rfl
 |4,_=>rfl
 |5,_=>rfl
 |6,_=>rfl
 |7,_=>rfl
 |8,_=>rfl
 |9,_=>rfl
 |10,_=>rfl
 |11,_=>rfl
 |12,_=>rfl
 |13,_=>rfl
 |14,_=>rfl
 |15,_=>rfl
 |k+16,h=>exact absurd h (by omega)
theorem HV.len (n:HV α):n.toL.length=16:=by
 rfl
theorem lY (n:HV α)(v:α){i j:Nat}(c:i<16)(d:j<16):(Kd α i).g ((Kd α j).s v n)=if i=j then v else(Kd α i).g n:=by
 rw[Ke _ v i c,WK _ _ j d,Ke _ v i c,B0,BO,B0];grind
/-- A frame: two hundred and fifty-six slots, and what is behind them. -/
inductive GP where
 |mk (m:HV (HV AV)) (r:Tr AV)
structure WM where
 g:GP->AV
 s:AV->GP->GP
def UF (b:Bool)(k:Nat)(i j:Nat):WM:=
 match b with
 |true=>⟨fun t=>match t with | .mk m _=>(Kd AV j).g ((Kd (HV AV) i).g m),fun v t=>match t with | .mk m r=>.mk ((Kd (HV AV) i).s ((Kd AV j).s v ((Kd (HV AV) i).g m)) m) r⟩
 |false=>⟨fun t=>match t with | .mk _ r=>(r.get k).getD (.tu []),fun v t=>match t with | .mk m r=>.mk m (r.set deep k v)⟩
def F4 (k:Nat):WM:=UF (Nat.blt k 256) k (k / 16) (k%16)
theorem lc (t:GP)(v:AV)(i j:Nat):(F4 i).g ((F4 j).s v t)=if i=j then v else(F4 i).g t:=by
 have⟨m,r⟩:=t;unfold F4;cases d:Nat.blt i 256 with
 |true=>
  have h:i<256:=by simpa [NY] using d
  cases c:Nat.blt j 256 with
  |true=>
   have g:j<256:=(by simpa [NY] using c);simp only[UF];rw[lY m _ (by omega) (by omega)];by_cases e:i / 16=j / 16
   ·rw[if_pos e,lY _ _ (by omega) (by omega)];grind
   ·rw[if_neg e,if_neg (by omega)]
  |false=>
   have g:¬j<256:=(by rw[<-NY,c];decide);simp only[UF];rw[if_neg (by omega)]
 |false=>
  have h:¬i<256:=by rw[<-NY,d];decide
  cases c:Nat.blt j 256 with
  |true=>
   have g:j<256:=(by simpa [NY] using c);simp only[UF];rw[if_neg (by omega)]
  |false=>
   simp only[UF,Tr.get_set];split<;>rfl
def FH (t:GP):Fr:=fun k=>(F4 k).g t
def D7 (t:Tr AO):Hp:=fun k=>t.get k
theorem wV (t:GP)(k:Nat)(x:AV):FH ((F4 k).s x t)=upd k x (FH t):=by
 funext j;simp only[FH,upd,lc]
theorem wW (t:Tr AO)(k:Nat)(x:AO):D7 (t.set deep k x)=upd k (some x) (D7 t):=by
 funext j;simp only[D7,upd,Tr.get_set]
def Kf (d:Option Nat)(v:AV)(t:GP):GP:=match d with
 |some k=>(F4 k).s v t
 |none=>t
theorem ZL (d:Option Nat)(v:AV)(t:GP):FH (Kf d v t)=CJ d v (FH t):=by
 cases d with
 |none=>rfl
 |some k=>exact wV t k v
def Kg:List (Nat × AO)->Tr AO->Tr AO
 |[],h=>h
 |(k,o)::r,h=>Kg r (h.set deep k o)
theorem dA:∀(c:List (Nat × AO)) (t:Tr AO),D7 (Kg c t)=CC c (D7 t)
 |[],_=>rfl
 |(k,o)::r,t=>by simp only[Kg,CC,dA r,wW]
def dB {α:Type}(x:α):HV α:=.mk x x x x x x x x x x x x x x x x
theorem P3 (x:α)(k:Nat)(c:k<16):(Kd α k).g (dB x)=x:=by
 rw[Ke _ x k c]
 match k,c with
 |0,_=>rfl
 |1,_=>rfl
 |2,_=>rfl
 |3,_=>rfl
 |4,_=>rfl
 |5,_=>rfl
 |6,_=>rfl
 |7,_=>rfl
 |8,_=>rfl
 |9,_=>rfl
 |10,_=>rfl
 |11,_=>rfl
 |12,_=>rfl
 |13,_=>rfl
 |14,_=>rfl
 |15,_=>rfl
 |k+16,h=>exact absurd h (by omega)
def dC:GP:=.mk (dB (dB (.tu []))) .lf
theorem WN (k:Nat):(F4 k).g dC= .tu []:=by
 unfold F4;cases c:Nat.blt k 256 with
 |true=>
  have d:k<256:=by simpa [NY] using c
  simp only[UF,dC];rw[P3 _ _ (by omega),P3 _ _ (by omega)]
 |false=>rfl
def P4:List AV->Nat->GP
 |[],_=>dC
 |v::r,k=>(F4 k).s v (P4 r (k+1))
theorem lg:∀(c:List AV) (k j:Nat),(F4 j).g (P4 c k)=if k<=j then(c[j-k]?).getD (.tu []) else .tu []
 |[],k,j=>by simp[P4,WN]
 |v::r,k,j=>by
  rw[P4,lc,lg r];grind
theorem wX (vs:List AV):FH (P4 vs 0)=Dw vs:=by
 funext j;simp[FH,Dw,lg]

def WO {α:Type}:Option α->List (Nat × α)
 |some a=>[(0,a)]
 |none=>[]
/-- All that a tree holds. -/
def Tr.all {α:Type}:Tr α->List (Nat × α)
 | .lf=>[]
 | .nd l x r=>WO x++((l.all.map fun p=>(2*p.1+1,p.2))++(r.all.map fun p=>(2*p.1+2,p.2)))
 | .ov k x t=>t.all++[(k,x)]
theorem lh (δ c:List (Nat × AO))(x:Nat):FU (δ++c) x=match FU c x with |some o=>some o |none=>FU δ x:=by
 induction δ with
 |nil=>simp only[LA,FU];cases FU c x<;>rfl
 |cons p r d=>
  have⟨k,o⟩:=p;simp only[LL,FU,d];cases FU c x<;>rfl
theorem li (f:Nat->Nat)(c:∀a b,f a=f b->a=b)(l:List (Nat × AO))(x:Nat):FU (l.map fun p=>(f p.1,p.2)) (f x)=FU l x:=by
 induction l with
 |nil=>rfl
 |cons p r d=>
  grind [FU]
theorem ZM (f:Nat->Nat)(l:List (Nat × AO))(x:Nat)(h:∀a,x≠f a):FU (l.map fun p=>(f p.1,p.2)) x=none:=by
 induction l with
 |nil=>rfl
 |cons p r c=>simp only[Li,FU,c,if_neg (h p.1)]
theorem WP:∀(t:Tr AO) (i:Nat),FU t.all i=t.get i
 | .lf,_=>rfl
 | .ov k x t,i=>by
  simp only[Tr.all,lh,FU,Tr.get];cases h:Nat.beq i k with |true=>rw[if_pos (OZ h)] |false=>rw[if_neg (ZK h)];exact WP t i
 | .nd l x r,i=>by
  have d:=WP l;have g:=WP r;have j:∀a b:Nat,2*a+1=2*b+1->a=b:=fun a b h=>by omega
  have o:∀a b:Nat,2*a+2=2*b+2->a=b:=fun a b h=>by omega
  simp only[Tr.all,lh];cases i with
  |zero=>
   rw[ZM (fun a=>2*a+2) _ _ (fun a=>by omega),ZM (fun a=>2*a+1) _ _ (fun a=>by omega)];cases x<;>rfl
  |succ k=>
   have p:FU (WO x) (k+1)=none:=(by cases x<;>rfl);rw[p];have c:k%2=0\/k%2=1:=(by omega);rcases c with c |c
   ·have e:k+1=(fun a=>2*a+1) (k / 2):=(by simp only;omega);rw[ZM (fun a=>2*a+2) _ _ (fun a=>by omega)];rw[e,li _ j,d];grind [Tr.get]
   have e:k+1=(fun a=>2*a+2) (k / 2):=(by simp only;omega);rw[ZM (fun a=>2*a+1) _ _ (fun a=>by omega)];rw[e,li _ o,g];grind [Tr.get]
theorem wY (t:Tr AO)(h:Hp):CC t.all h=FG (D7 t) h:=by
 funext i;rw[RL,WP];rfl
theorem wZ {δ:List (Nat × AO)}{i:Nat}{o:AO}(h:FU δ i=some o):i∈δ.map (·.1):=by
 refine Bx fun c=> ?_;rw[YJ c] at h;cases h
/-- What a thing leads to. -/
def dD:AO->List Nat
 | .bx c=>CG c
 | .rw .. =>[]
 | .mo d _=>CG (d.map (·.2))
/-- All that can be reached. -/
def Kh (hp:Hp):Nat->List Nat->Tr AO->Tr AO
 |0,_,c=>c
 |_,[],c=>c
 |n+1,i::w,c=>match c.get i with
  |some _=>Kh hp n w c
  |none=>match hp i with
   |some o=>Kh hp n (dD o++w) (c.set deep i o)
   |none=>Kh hp n w c
theorem ZN (hp:Hp):∀(n:Nat) (w:List Nat) (c:Tr AO),(∀i o,c.get i=some o->hp i=some o)->∀i o,(Kh hp n w c).get i=some o->hp i=some o
 |0,w,c,h=>h
 |n+1,[],c,h=>h
 |n+1,i::w,c,h=>by
  unfold Kh;split
  ·exact ZN hp n w c h
  split
  ·rename_i o d;refine ZN hp n _ _ fun j q e=> ?_;grind [Tr.get_set]
  exact ZN hp n w c h

structure XS where
 fr:GP
 hp:Tr AO
 nx:Nat
def XS.st (x:XS)(X:Hp):St:=⟨FH x.fr,FG (D7 x.hp) X,x.nx⟩
/-- What is known of the heap: the nearer part, the further part. -/
def hpB (B t:Tr AO):Hp:=FG (D7 t) (D7 B)
theorem UG {B t:Tr AO}(h:GF X (D7 B)):GF (FG (D7 t) X) (hpB B t):=fun i o c=>by
 simp only[hpB,FG] at c⊢;cases d:D7 t i with
 |some q=>rw[d] at c;exact c
 |none=>rw[d] at c;exact h i o c
/-- Whether an operation is wanted. -/
def IX (ops:Array Oper)(o:Oper)(fr:GP):Option Bool:=
 match o.guard with
 |none=>some true
 |some (j,t)=>match (ops[j]?).bind (·.dst) with
  |none=>some false
  |some d=>match FH fr d with
   | .v (.bool b)=>some (b==t)
   | .tu []=>some false
   |_=>none
theorem ZO {ops:Array Oper}{o:Oper}{x:XS}{b:Bool}(h:IX ops o x.fr=some b){y n:Prop}(c:b=true->y)(g:b=false->n):Ga ops o (x.st X) y n:=by
 unfold IX at h;unfold Ga;split at h
 ·grind
 rename_i j t e;rw[e];simp only;split at h
 ·grind
 rename_i d e;rw[e];simp only[XS.st];grind

section
variable (tab:Nat->TI)(B:Tr AO)(call:Tr AO->FuncId->List AV->Tr AO->Nat->Option (AV × Tr AO × Nat))(pcall:FuncId->List D->Option (D × Bool))(N:Nat)
def P5 (f:Operand)(c:Array Operand)(x:XS):Option (AV × Tr AO × Nat):=
 match ev (FH x.fr) f with
 | .fn g d=>call B g (c.toList.map (ev (FH x.fr))++d) x.hp x.nx
 |_=>none
def WQ (c:Op)(id:Nat)(x:XS):Option (AV × Tr AO × Nat):=
 match CM tab (ev (FH x.fr)) (hpB B x.hp) id c with
 |some (v,d)=>some (v,Kg d x.hp,x.nx)
 |none=>none
def dE (c:Op)(id:Nat)(x:XS):Option (AV × Tr AO × Nat):=
 match UE c with
 |some (f,d)=>P5 B call f d x
 |none=>WQ tab B c id x
def Ki (ops:Array Oper)(c:Nat):Nat->List Oper->XS->Option XS
 |_,[],x=>some x
 |i,o::r,x=>match IX ops o x.fr with
  |none=>none
  |some false=>Ki ops c (i+1) r ⟨Kf o.dst (.tu []) x.fr,x.hp,x.nx⟩
  |some true=>match dE tab B call o.op (c+i) x with
   |none=>none
   |some (v,hp,d)=>Ki ops c (i+1) r ⟨Kf o.dst v x.fr,hp,d⟩
def M6 (g:FuncId)(vs:List AV)(nx:Nat)(c:Tr AO):Option (AV × List (Nat × AO) × List Nat × Option Nat):=match call c g vs .lf nx with
 |some (v,hp',d)=>some (v,hp'.all,c.all.map (·.1),some d)
 |none=>none
def P6 (e:Op)(g:FuncId)(ds:List D)(b:Bool)(is:List Nat)(fr:GP):Option (AV × List (Nat × AO) × List Nat × Option Nat):=
 match pcall g ds with
 |some (d,c)=>if is= []\/c=true then some (CE (!c&&b) d,[],Ct (ev (FH fr)) e,none) else none
 |none=>none
def P7 (c:Op)(g:FuncId)(vs:List AV)(nx:Nat)(fr:GP)(hp:Tr AO):Option (AV × List (Nat × AO) × List Nat × Option Nat):=
 match Cj (hpB B hp) vs with
 |some (ds,b,is)=>match P6 pcall c g ds b is fr with
  |some r=>some r
  |none=>M6 call g vs nx (Kh (hpB B hp) N (CG vs) .lf)
 |none=>M6 call g vs nx (Kh (hpB B hp) N (CG vs) .lf)
def lj (c:Op)(f:Operand)(d:Array Operand)(nx:Nat)(fr:GP)(hp:Tr AO):Option (AV × List (Nat × AO) × List Nat × Option Nat):=
 match ev (FH fr) f with
 | .fn g e=>P7 B call pcall N c g (d.toList.map (ev (FH fr))++e) nx fr hp
 |_=>none
def P8 (c:Op)(id:Nat)(fr:GP)(hp:Tr AO):Option (AV × List (Nat × AO) × List Nat × Option Nat):=
 match CM tab (ev (FH fr)) (hpB B hp) id c with
 |some (v,d)=>some (v,d,Ct (ev (FH fr)) c,none)
 |none=>none
def Rr (c:Op)(id nx:Nat)(fr:GP)(hp:Tr AO):Option (AV × List (Nat × AO) × List Nat × Option Nat):=
 match UE c with
 |some (f,d)=>lj B call pcall N c f d nx fr hp
 |none=>match c with
  | .move y=>some (ev (FH fr) y,[],[],none)
  | .assign y=>some (ev (FH fr) y,[],[],none)
  |_=>P8 tab B c id fr hp
def UH (ops:Array Oper)(e:Nat):Nat->Nat->List Oper->List Cx->GP->Tr AO->Option XS
 |c,_,[],d,fr,hp=>match RN ops d.reverse with
  |true=>some ⟨fr,hp,c⟩
  |false=>none
 |c,i,o::r,d,fr,hp=>match IX ops o fr with
  |none=>none
  |some false=>UH ops e c (i+1) r (⟨[],[],false⟩::d) (Kf o.dst (.tu []) fr) hp
  |some true=>match Rr tab B call pcall N o.op (e+i) c fr hp with
   |none=>none
   |some (v,g,h,n)=>UH ops e (n.getD c) (i+1) r (⟨h,g.map (·.1),n.isSome⟩::d) (Kf o.dst v fr) (Kg g hp)
def IY (c:XS->Option (Ex × XS)):Nat->XS->Option (Ex × XS)
 |0,_=>none
 |n+1,x=>match c x with
  |some (.normal,d)=>IY c n d
  |r=>r
def xC:Code->XS->Option (Ex × XS)
 | .skip,x=>some (.normal,x)
 | .label _,x=>some (.normal,x)
 | .ret,x=>some (.ret,x)
 | .exit n,x=>some (.exit n,x)
 | .seq a b,x=>match xC a x with
  |some (.normal,d)=>xC b d
  |r=>r
 | .cond c a b,x=>match ev (FH x.fr) c with
  | .v (.bool t)=>match t with
   |true=>xC a x
   |false=>xC b x
  |_=>none
 | .block n a,x=>match xC a x with
  |some (.exit m,d)=>match Nat.beq m n with
   |true=>some (.normal,d)
   |false=>some (.exit m,d)
  |r=>r
 | .region _ e g,x=>match g with
  |false=>(Ki tab B call e x.nx 0 e.toList ⟨x.fr,x.hp,x.nx+e.size⟩).map fun d=>(.normal,d)
  |true=>(UH tab B call pcall N e x.nx (x.nx+e.size) 0 e.toList [] x.fr x.hp).map fun d=>(.normal,d)
 | .loop a,x=>IY (xC a) N x
 |_,_=>none
end
/-- A call ends so, whatever else there is. -/
def HC (P:Program)(B:Tr AO)(f:FuncId)(vs:List AV)(hp:Tr AO)(nx:Nat)(v:AV)(hp':Tr AO)(nx':Nat):Prop:=∀X:Hp,GF X (D7 B)->AU P f vs (FG (D7 hp) X) nx fun c d e=>c=v/\d=FG (D7 hp') X/\e=nx'
section
variable {P:Program}{tab:Nat->TI}{B:Tr AO}{call:Tr AO->FuncId->List AV->Tr AO->Nat->Option (AV × Tr AO × Nat)}{pcall:FuncId->List D->Option (D × Bool)}{N:Nat}
theorem Rs (q:∀B g d hp nx v hp' i,call B g d hp nx=some (v,hp',i)->HC P B g d hp nx v hp' i)(j:GF X (D7 B)){c:Op}{x:XS}{v:AV}{hp:Tr AO}{nx:Nat}{K:AV->Hp->Nat->Prop}
  (h:dE tab B call c id x=some (v,hp,nx)) (l:K v (FG (D7 hp) X) nx):IS P tab c id (x.st X) K:=by
 rw[wS];unfold dE at h;cases o:UE c with
 |some p=>
  have⟨f,r⟩:=p;rw[o] at h;simp only[P5] at h⊢;split at h
  ·rename_i g t e;simp only[XS.st,e];unfold MF;simp only;refine .inr ((q _ _ _ _ _ _ _ _ h X j).mono ?_);grind
  ·cases h
 |none=>
  rw[o] at h;simp only[WQ] at h⊢;split at h
  ·rename_i u w e;simp only[Lf,LB] at h;obtain⟨rfl,rfl,rfl⟩:=h;simp only[XS.st,lX (UG j) e];rw[dA,<-c8] at l;exact l
  cases h
theorem wa {N:Nat}{B c:Tr AO}{l:List Nat}{e:Hp}(j:GF X (D7 B))(p:∀i∈(Kh (hpB B c) N l .lf).all.map (·.1),e i=FG (D7 c) X i):GF e (D7 (Kh (hpB B c) N l .lf)):=by
 intro i d g;have q:=ZN (hpB B c) N l .lf (fun i o h=>by cases h) i d g;have r:i∈(Kh (hpB B c) N l .lf).all.map (·.1):=wZ (o:=d) (by rw[WP];exact g);rw[p i r];exact UG j i d q
theorem wc (G:∀B g C hp nx v hp' i,call B g C hp nx=some (v,hp',i)->HC P B g C hp nx v hp' i)(hp:∀g ds d fr,pcall g ds=some (d,fr)->AI P g ds d fr)(y:GF X (D7 B)){q:Op}{nx:Nat}{fr:GP}{j:Tr AO}{v:AV}{δ:List (Nat × AO)}{ids:List Nat}{n:Option Nat}
  {K:AV->List (Nat × AO)->List Nat->Option Nat->Prop} (h:Rr tab B call pcall N q id nx fr j=some (v,δ,ids,n)) (l:K v δ ids n):TO P tab q id nx (FH fr) (FG (D7 j) X) K:=by
 rw[wT];unfold Rr at h;cases E:UE q with
 |some p=>
  have⟨f,t⟩:=p;rw[E] at h;simp only[lj] at h⊢;split at h
  ·rename_i g u e
   try simp only[e]
   have F:M6 call g (t.toList.map (ev (FH fr))++u) nx (Kh (hpB B j) N (CG (t.toList.map (ev (FH fr))++u)) .lf)=some (v,δ,ids,n)->_:=fun h=>by
    unfold M6 at h;split at h
    ·rename_i H hp' i z;simp only[Lf,LB] at h;obtain⟨rfl,rfl,rfl,rfl⟩:=h;refine(Or.inr ⟨_,_,_,_,fun A I=> ?_,l⟩:(∃ds b is d o,Cj (FG (D7 j) X) (t.toList.map (ev (FH fr))++u)=some (ds,b,is)/\AI P g ds d o/\(is= []\/o=true)/\K (CE (!o&&b) d) [] (Ct (ev (FH fr)) q) none)\/∃ids v δ i,Pi P g (t.toList.map (ev (FH fr))++u) (FG (D7 j) X) nx ids v δ i/\K v δ ids (some i));have w:=G _ _ _ _ _ _ _ _ z A (wa y I.1);rw[show FG (D7 (.lf:Tr AO)) A=A from rfl] at w;refine w.mono ?_;rintro _ _ _ ⟨rfl,rfl,rfl⟩;exact⟨rfl,(wY _ _).symm,rfl⟩
    cases h
   unfold P7 at h;split at h
   ·rename_i ds b is J;split at h
    ·rename_i r c;cases h;unfold P6 at c;split at c
     ·rename_i d o z;split at c
      ·rename_i w;simp only[Lf,LB] at c;obtain⟨rfl,rfl,rfl,rfl⟩:=c;exact .inl ⟨ds,b,is,d,o,ZJ (UG y) J,hp _ _ _ _ z,w,l⟩
      cases c
     cases c
    exact F h
   exact F h
  ·cases h
 |none=>
  rw[E] at h;simp only at h⊢;split at h
  ·simp only[Lf,LB] at h;obtain⟨rfl,rfl,rfl,rfl⟩:=h;exact l
  ·simp only[Lf,LB] at h;obtain⟨rfl,rfl,rfl,rfl⟩:=h;exact l
  simp only[P8] at h;split at h
  ·rename_i H L e;simp only[Lf,LB] at h;obtain⟨rfl,rfl,rfl,rfl⟩:=h;simp only[lX (UG y) e];exact l
  cases h
theorem dF (j:∀B g t hp l v hp' u,call B g t hp l=some (v,hp',u)->HC P B g t hp l v hp' u){X:Hp}(p:GF X (D7 B)){ops:Array Oper}{w:Nat}{K:St->Prop}:
  ∀(r:List Oper) (i:Nat) (x c:XS),Ki tab B call ops w i r x=some c->K (c.st X)->WT P tab ops w K i r (x.st X)
 |[],i,x,c,h,d=>by cases h;exact d
 |o::r,i,x,c,h,d=>by
  unfold Ki at h;unfold WT;split at h
  ·cases h
  ·rename_i q;refine ZO q (fun e=>by cases e) fun _=> ?_
   have:=dF j p r _ _ c h d;simp only[XS.st,ZL] at this;exact this
  rename_i q;refine ZO q (fun _=> ?_) fun e=>by cases e
  split at h
  ·cases h
  rename_i v hp l z;have y:=dF j p r _ _ c h d;simp only[XS.st,ZL] at y;exact Rs j p z y
theorem dG (t:∀B g y hp c v hp' z,call B g y hp c=some (v,hp',z)->HC P B g y hp c v hp' z)(hp:∀g ds d fr,pcall g ds=some (d,fr)->AI P g ds d fr){X:Hp}(u:GF X (D7 B)){ops:Array Oper}{A:Nat}{K:St->Prop}:
  ∀(r:List Oper) (c i:Nat) (p:List Cx) (fr:GP) (j:Tr AO) (l:XS),UH tab B call pcall N ops A c i r p fr j=some l->K (l.st X)->WD P tab ops A K c i r p (FH fr) (FG (D7 j) X)
 |[],c,i,p,fr,j,l,h,q=>by
  unfold UH at h;split at h
  ·rename_i e;cases h;exact⟨VK e,q⟩
  ·cases h
 |o::r,c,i,p,fr,j,l,h,q=>by
  unfold UH at h;unfold WD;split at h
  ·cases h
  ·rename_i w;refine ZO (x:=⟨fr,j,c⟩) w (fun e=>by cases e) fun _=> ?_
   have:=dG t hp u r _ _ _ _ _ l h q;simp only[ZL] at this;exact this
  rename_i w;refine ZO (x:=⟨fr,j,c⟩) w (fun _=> ?_) fun e=>by cases e
  split at h
  ·cases h
  rename_i v F G n E;have C:=dG t hp u r _ _ _ _ _ l h q;simp only[ZL,dA,<-c8] at C;exact wc t hp u E C
theorem WR (t:∀B g u hp w v hp' y,call B g u hp w=some (v,hp',y)->HC P B g u hp w v hp' y)(hp:∀g ds d fr,pcall g ds=some (d,fr)->AI P g ds d fr)(X:Hp)(z:GF X (D7 B)):
  ∀(q:Code) (x j:XS) (e:Ex) (Q:Ex->St->Prop),xC tab B call pcall N q x=some (e,j)->Q e (j.st X)->W2 P tab q Q (x.st X):=by
 intro q;induction q with
 |skip=>intro x j e Q h i;cases h;exact i
 |label l=>intro x j e Q h i;cases h;exact i
 |ret=>intro x j e Q h i;cases h;exact i
 |exit n=>intro x j e Q h i;cases h;exact i
 |seq a b p A=>
  intro x j e Q h i;unfold xC at h;split at h
  ·rename_i r o;exact p _ _ _ _ o (A _ _ _ _ h i)
  ·rename_i o;refine p _ _ _ _ h ?_;simp_all
 |cond c a b p A=>
  grind [xC,bz,XS.st]
 |block n a p=>
  intro x j e Q h i;unfold xC at h;split at h
  ·rename_i m r o;refine p _ _ _ _ o ?_;simp only;split at h
   ·simp_all
   rename_i C;cases h;rw[if_neg (ZK C)];exact i
  ·rename_i o;refine p _ _ _ _ h ?_;simp_all
 |region id F E=>
  intro x j e Q h i;unfold xC at h;cases E with
  |false=>
   simp only[La,LB] at h;obtain⟨r,o,rfl,rfl⟩:=h;exact dF t z _ _ _ _ o i
  |true=>
   simp only[La,LB] at h;obtain⟨r,o,rfl,rfl⟩:=h;exact dG t hp z _ _ _ _ _ _ _ o i
 |loop a p=>
  intro x j e Q h i Y o G;unfold xC at h;suffices ∀n (x:XS),IY (xC tab B call pcall N a) n x=some (e,j)->Y (x.st X) from this _ _ h;intro n;induction n with
  |zero=>intro x h;cases h
  |succ n H=>
   grind [IY,absurd]
 |_=>intro x j e Q h i;cases h
end

section
variable {P:Program}
theorem dH {vs:List AV}{nx:Nat}{b:Bool}{is:List Nat}{d:D}(R:Cj hp vs=some (ds,b,is))(hp0:AI P f ds d fr)(w:is= []\/fr=true):
  AU P f vs hp nx fun v2 Y Z=>v2=CE (!fr&&b) d/\Y=hp/\Z=nx:=by
 refine⟨hp0.1,fun g c E J ap p aq aa=> ?_⟩;have⟨_,hp0⟩:=hp0;have S:∀(I:Nat->Prop),(∀k,Im g c b k->I k)->(∀i∈is,I (c.φ i))->E.size=ds.length/\∀(j:Nat) (x:D),ds[j]? =some x->∃u,E[j]? =some u/\Dj c.w I x u:=by
  intro I F y;have⟨g1,g2⟩:=VA p J I (fun j=>E.getD j undef) R (YD aa) F y;refine⟨by omega,fun j x hj=>⟨_,YE (by grind),(g2 j x hj).1⟩⟩
 have T:∀(I:Nat->Prop) (u:Value) (l:World),Below c.w.heap.size c.w l/\c.w.drawn<=l.drawn->RV l I d u->(∀k,I k->k<l.heap.size/\(c.w.heap.size<=k\/Im g c (!fr&&b) k))->
   ∃U v A K,Ending.returned u= .returned U/\(v=CE (!fr&&b) d/\A.hp=hp/\K=nx)/\A.w=l/\CP c A/\HR g A/\Au g A v U/\nx<=K/\∀i,A.kn i->c.kn i\/(nx<=i/\i<K):=by
  intro I u l ⟨r,ab⟩ G hI;have z:CP c ⟨c.hp,c.φ,l,c.kn⟩:=⟨r.os,r.tape,r.output,r.size,fun _ h=>h,fun k q _=>r.block k q,fun id o t hf=>.inr ⟨o,t,hf,rfl⟩,fun _ _ h=>⟨rfl,h⟩,
   fun id H _ v V fz q p=>⟨H,v,V,fz,p,Lc _,fun _=>⟨rfl,rfl,fun ad _ e=>⟨ad,(r.block _ (‹HR g c›.dom id _ p).2.2).trans e,rfl⟩⟩⟩,ab⟩
  have ak:HR g ⟨c.hp,c.φ,l,c.kn⟩:=⟨Lv p.le r.size,fun k q=>LF (p.m0 k q) r.size,fun id o t=>⟨(p.dom id o t).1,(p.dom id o t).2.1,LF (p.dom id o t).2.2 r.size⟩,p.inj,fun id o t=>(p.obj id o t).ext z rfl (r.block _ (p.dom id o t).2.2)⟩;refine⟨u,_,⟨c.hp,c.φ,l,c.kn⟩,nx,rfl,⟨rfl,J,rfl⟩,rfl,z,ak,?_,Lc _,fun i h=>.inl h⟩;have C:RV l (Im g ⟨c.hp,c.φ,l,c.kn⟩ (!fr&&b)) d u:=G.mono (fun _ _=>rfl) fun k q=>by
   have⟨F,y⟩:=hI k q;rcases y with y |y
   ·refine⟨F,fun hm=> ?_,fun id o t _ e=> ?_,fun _=>Lv p.le y⟩
    ·have:=p.m0 k hm
     have:=p.le;omega
    have:=(p.dom id o t).2.2;simp only at e;omega
   exact y.ext z
  cases d with |v x=>exact(RC.toRA (c:=⟨c.hp,c.φ,l,c.kn⟩) C).toAt |sl H=>exact(RC.toRA (c:=⟨c.hp,c.φ,l,c.kn⟩) C).toAt |pt cs ar=>exact(RC.toRA (c:=⟨c.hp,c.φ,l,c.kn⟩) C).toAt |mp H=>exact(RC.toRA (c:=⟨c.hp,c.φ,l,c.kn⟩) C).toAt |ag cs=>exact C |tu cs=>exact C
 by_cases L:fr=true
 ·subst L;have⟨M,O⟩:=S (fun k=>k<c.w.heap.size/\¬False) (fun k q=>⟨q.1,fun h=>h⟩) (fun i w=>by
   have⟨H,sz,v,V,fz,F⟩:=TG R i w;exact⟨(p.dom i _ (J▸F)).2.2,fun h=>h⟩)
  refine(hp0 c.w (fun _=>False) E (fun _ h=>h.elim) M O).mono fun e l ⟨u,z,r,G⟩=> ?_;subst z;exact T _ u l r G fun k q=>⟨q.1,.inl (q.2.2 rfl)⟩
 have h0:is= []:=by
  rcases w with w |w
  ·exact w
  exact absurd w L
 subst h0;have ao:fr=false:=by simpa using L
 subst ao;have⟨M,O⟩:=S (fun k=>k<c.w.heap.size/\¬(k<c.w.heap.size/\¬Im g c b k)) (fun k q=>⟨q.1,fun h=>h.2 q⟩) (fun i w=>by simp at w);refine(hp0 c.w (fun k=>k<c.w.heap.size/\¬Im g c b k) E (fun _ h=>h.1) M O).mono fun e l ⟨u,z,r,G⟩=> ?_;subst z;refine T _ u l r G fun k q=>⟨q.1,?_⟩;grind
end
/-- What each function must have for the machine to enter it. -/
def Ru (fn:Func):Bool:=match fn.body with
 |some c=> !(fn.name== "runtime.NumGoroutine")&&D2 fn.ntmps c
 |none=>false
/-- Calls that are known otherwise, and make nothing. -/
abbrev Jf:=FuncId->List AV->Option AV
structure Gr (P:Program) (prim:Jf):Prop where
 ok:∀f vs v,prim f vs=some v->∀hp nx,AU P f vs hp nx fun v2 hp2 nx2=>v2=v/\hp2=hp/\nx2=nx
section
variable (P:Program)(tab:Nat->TI)(N:Nat)(ok:Nat->Bool)(prim:Jf)
def WS (B:Tr AO)(rs:Array ResultVar):Option (Ex × XS)->Option (AV × Tr AO × Nat)
 |some (.exit _,_)=>none
 |some (_,x)=>(EJ tab rs (x.st (D7 B))).map fun v=>(v,x.hp,x.nx)
 |none=>none
def ZQ (xs:Tr AO->FuncId->List AV->Tr AO->Nat->Option (AV × Tr AO × Nat))(g:FuncId)(ds:List D):Option (D × Bool):=
 match xs .lf g (ds.map (CE true)) .lf 0 with
 |some (v,hp',_)=>match toR (D7 hp') v with
  |some (d,b,_)=>some (d, !b)
  |none=>none
 |none=>none
/-- What is like a clone is entered where it is called. -/
def dI (P:Program)(g:FuncId):Bool:=match P.funcs[g]? with
 |some c=>Nat.beq c.ntmps 8&&(Nat.beq c.targs.size 2&&Nat.beq c.params.size 1)
 |none=>false
def ZS (xs:Tr AO->FuncId->List AV->Tr AO->Nat->Option (AV × Tr AO × Nat))(g:FuncId)(ds:List D):Option (D × Bool):=match dI P g with
 |true=>none
 |false=>ZQ xs g ds
def dJ:AV->Bool
 | .so _ _ _ _=>true
 |_=>false
/-- A known call that is handed rows of one's own: they are told as data. -/
def dK (B hp:Tr AO)(f:FuncId)(vs:List AV):Option AV:=
 match vs.any dJ with
 |false=>none
 |true=>match Cj (hpB B hp) vs with
  |some (ds,_,_)=>match prim f (ds.map (CE true)) with
   |some v=>match toR AM v with
    |some (d,false,_)=>some (CE false d)
    |_=>none
   |none=>none
  |none=>none
def WU (xs:Tr AO->FuncId->List AV->Tr AO->Nat->Option (AV × Tr AO × Nat))(B:Tr AO)(f:FuncId)(vs:List AV)(hp:Tr AO)(nx:Nat):Option (AV × Tr AO × Nat):=
 match prim f vs with
 |some v=>some (v,hp,nx)
 |none=>match dK prim B hp f vs with
  |some v=>some (v,hp,nx)
  |none=>match ok f with
   |false=>none
   |true=>match P.funcs[f]? with
    |none=>none
    |some c=>match c.body with
     |none=>none
     |some d=>match Nat.ble vs.length c.ntmps with
      |false=>none
      |true=>WS tab B c.results (xC tab B xs (ZS P xs) N d ⟨P4 vs 0,hp,nx⟩)
def Jg:Nat->Tr AO->FuncId->List AV->Tr AO->Nat->Option (AV × Tr AO × Nat)
 |0=>fun _ _ _ _ _=>none
 |n+1=>WU P tab N ok prim (Jg n)
end
theorem we {tab:Nat->TI}{fr:Fr}{hp':Hp}{nx:Nat}(h:GF hp' hp){r:ResultVar}{v:AV}(c:Pg tab ⟨fr,hp,nx⟩ r=some v):Pg tab ⟨fr,hp',nx⟩ r=some v:=by
 cases r with
 |tmp t=>exact c
 |cell x T=>
  unfold Pg at c⊢;simp only at c⊢;split at c
  ·rename_i g;rw[if_pos g];cases e:fr x with
   |pt i l=>
    rw[e] at c;simp only at c⊢;cases d:hp i with |none=>rw[d] at c;cases c |some j=>rw[d] at c;rw[h i j d];exact c
   |_=>rw[e] at c;exact c
  cases c
theorem ll {tab:Nat->TI}{fr:Fr}{hp hp':Hp}{nx:Nat}(h:GF hp' hp):∀ {e:List ResultVar} {d:List AV},Mq tab ⟨fr,hp,nx⟩ e=some d->Mq tab ⟨fr,hp',nx⟩ e=some d
 |[],d,c=>c
 |r::e,d,c=>by
  unfold Mq at c⊢;split at c
  ·rename_i g i;rw[we h g,ll h i];exact c
  cases c
theorem wg {tab:Nat->TI}{fr:Fr}{hp':Hp}{nx:Nat}(h:GF hp' hp){rs:Array ResultVar}{v:AV}(c:EJ tab rs ⟨fr,hp,nx⟩=some v):EJ tab rs ⟨fr,hp',nx⟩=some v:=by
 grind [EJ,ll]
theorem ln (hp:Hp):FG hp AM=hp:=by
 funext i;simp only[FG];cases hp i<;>rfl
section
variable {P:Program}{tab:Nat->TI}{N:Nat}{ok:Nat->Bool}{prim:Jf}
theorem lu {xs:Tr AO->FuncId->List AV->Tr AO->Nat->Option (AV × Tr AO × Nat)}(h:∀B f e hp j v hp' l,xs B f e hp j=some (v,hp',l)->HC P B f e hp j v hp' l){g:FuncId}{d:D}(c:ZQ xs g ds=some (d,fr)):AI P g ds d fr:=by
 unfold ZQ at c;split at c
 ·rename_i u w y p;split at c
  ·rename_i z q r t;simp only[Lf,LB] at c;obtain⟨rfl,rfl⟩:=c
   have:=h _ _ _ _ _ _ _ _ p AM (fun i o h=>by cases h);rw[ln,ln] at this;refine VH ((show D7 (.lf:Tr AO)=AM from rfl)▸this.mono ?_);rintro _ _ _ ⟨rfl,rfl,rfl⟩;exact⟨q,r,t,by simp⟩
  cases c
 cases c
theorem Rv {xs:Tr AO->FuncId->List AV->Tr AO->Nat->Option (AV × Tr AO × Nat)}(h:∀B f e hp i v hp' j,xs B f e hp i=some (v,hp',j)->HC P B f e hp i v hp' j){g:FuncId}{d:D}(c:ZS P xs g ds=some (d,fr)):AI P g ds d fr:=by
 unfold ZS at c;split at c
 ·cases c
 exact lu h c
theorem wh (e:Gr P prim){B hp:Tr AO}{vs:List AV}{v:AV}(c:dK prim B hp f vs=some v)(g:GF X (D7 B))(nx:Nat):AU P f vs (FG (D7 hp) X) nx fun i j l=>i=v/\j=FG (D7 hp) X/\l=nx:=by
 unfold dK at c;split at c
 ·cases c
 split at c
 ·rename_i ds b is o;split at c
  ·rename_i u p;split at c
   ·rename_i d q r;cases c;have t:AI P f ds d true:=VH ((e.ok f _ _ p AM 0).mono (by
     rintro _ _ _ ⟨rfl,rfl,rfl⟩;exact⟨false,q,r,by simp⟩))
    exact(dH (ZJ (UG g) o) t (.inr rfl)).mono fun v hp nx h=>h
   cases c
  cases c
 cases c
theorem wi (H:Ad P tab)(I:P.follows .mixedOrders=true)(J:∀f c,ok f=true->P.funcs[f]? =some c->Ru c=true)(z:Gr P prim):∀(n:Nat) (B:Tr AO) (f:FuncId) (i:List AV) (hp:Tr AO) (j:Nat) (v:AV) (hp':Tr AO) (l:Nat),Jg P tab N ok prim n B f i hp j=some (v,hp',l)->HC P B f i hp j v hp' l:=by
 intro n;induction n with
 |zero=>intro B f i hp j v hp' l h;cases h
 |succ n A=>
  intro B f i hp j v hp' l h X r;unfold Jg WU at h;split at h
  ·rename_i K e;cases h;exact z.ok f i _ e _ _
  split at h
  ·rename_i K e;cases h;exact wh z e r _
  split at h
  ·cases h
  rename_i L;split at h
  ·cases h
  rename_i c C;have p:=J f c L C;split at h
  ·cases h
  rename_i q E;unfold Ru at p;rw[E] at p;simp only[Ln,NF] at p;split at h
  ·cases h
  rename_i M;refine ji H I C E p.1 p.2 (NM M) (KU q (Dd tab c.results fun t u w=>t=v/\u=FG (D7 hp') X/\w=l) _ _ (fun _ _ h=>h) ?_);unfold WS at h;have T:∀e o,xC tab B (Jg P tab N ok prim n) (ZS P (Jg P tab N ok prim n)) N q ⟨P4 i 0,hp,j⟩=some (e,o)->(∀m,e≠ .exit m)->(EJ tab c.results (o.st (D7 B))).map (fun v=>(v,o.hp,o.nx))=some (v,hp',l)->W2 P tab q (Dd tab c.results fun t u w=>t=v/\u=FG (D7 hp') X/\w=l) ⟨Dw i,FG (D7 hp) X,j⟩:=by
   intro e o y O F;rw[<-wX];refine WR A (fun g ds d fr y=>Rv A y) X r q ⟨P4 i 0,hp,j⟩ o e _ y ?_;simp only[La,LB] at F;obtain⟨R,S,rfl,rfl,rfl⟩:=F;have G:EJ tab c.results (o.st X)=some R:=wg (UG r) S;cases e with |exit m=>exact absurd rfl (O m) |normal=>exact wP G ⟨rfl,rfl,rfl⟩ |ret=>exact KY G ⟨rfl,rfl,rfl⟩
  grind
end
def okOf (P:Program)(f:Nat):Bool:=match P.funcs[f]? with
 |some c=>Ru c
 |none=>false
/-- A s9_ call, reckoned by the kernel. -/
def eval (P:Program)(prim:Jf)(N n:Nat)(f:FuncId)(ds:List D):Option (D × Bool):=ZQ (Jg P (Jc P) N (okOf P) prim n) f ds
theorem UI {P:Program}{prim:Jf}{N n:Nat}{d:D}(e:P.follows .mixedOrders=true)(g:Gr P prim)(h:eval P prim N n f ds=some (d,fr)):AI P f ds d fr:=
 lu (wi (kJ P) e (fun f j c i=>by unfold okOf at c;rw[i] at c;exact c) g n) h


/-! ### rows of things -/
end Go.Proofs.YtnmkbmefohakmaaGreat.Ab
namespace Go.Proofs.YtnmkbmefohakmaaGreat.Ab
/-- A function that compares, called from wherever some things stand as they stood. -/
def P9 {α:Type}(P:Program)(f:FuncId)(g:List AV)(c:α->AV)(h:α->α->Int)(ids:List Nat)(hp0:Hp):Prop:=∀(x y:α) (d:Nat),∃e,d<=e/\∀hp:Hp,(∀i∈ids,hp i=hp0 i)->AU P f ([c x,c y]++g) hp d fun j l o=>j= .v (.int .i64 (h x y))/\l=hp/\o=e
theorem P9.det {α:Type}{P:Program}{f:FuncId}{e:List AV}{d:α->AV}{g:α->α->Int}{ids:List Nat}{hp0 hp:Hp}(h:P9 P f e d g ids hp0)(l:∀i∈ids,hp i=hp0 i)(x y:α)(nx:Nat):
  ∃c,nx<=c/\Pi P f ([d x,d y]++e) hp nx ids (.v (.int .i64 (g x y))) [] c:=by
 have⟨c,o,p⟩:=h x y nx;exact⟨c,o,fun q r=>p q fun i j=>(r.1 i j).trans (l i j)⟩
end Go.Proofs.YtnmkbmefohakmaaGreat.Ab

namespace Go.Proofs.YtnmkbmefohakmaaGreat.Ab
open Go.RowKit

section
variable {P:Program}{tab:Nat->TI}{k:List It}{Q Q':Ex->St->Prop}{s:St}{a b x:Code}{n m:Nat}{hp:Hp}
attribute [go_sem] kT
end



abbrev UJ:=FuncId × (List AV->Option AV)
def ZU:List UJ->Jf
 |[],_,_=>none
 |p::r,f,c=>match Nat.beq p.1 f with
  |true=>match p.2 c with
   |some v=>some v
   |none=>ZU r f c
  |false=>ZU r f c
def WV (P:Program)(p:UJ):Prop:=∀c v,p.2 c=some v->∀hp d,AU P p.1 c hp d fun e g h=>e=v/\g=hp/\h=d
variable {f:FuncId}
section
variable {P:Program}{tab:Nat->TI}
theorem Rw:∀(l:List UJ),(∀p∈l,WV P p)->Gr P (ZU l)
 |[],_=>⟨fun _ _ _ h=>by cases h⟩
 |p::r,h=>⟨fun f g v c=>by
   unfold ZU at c;have d:=(Rw r fun q i=>h q (Lj _ i)).ok;split at c
   ·rename_i e;have j:=OZ e;split at c
    ·rename_i o;cases c;rw[<-j];exact h p (by simp) g _ o
    exact d _ _ _ c
   exact d _ _ _ c⟩
/-- A clone of what is empty. -/
def WW (f:FuncId):UJ:=(f,fun c=>match c with
 |[.d (.sl []) _]=>some (.d (.sl []) false)
 |_=>none)
theorem dL (h:AI P f [.sl []] (.sl []) true):WV P (WW f):=by
 intro e w c hp d;simp only[WW] at c;split at c
 ·cases c;exact(dH (b:=_) (is:=_) rfl h (.inr rfl)).mono fun v hp d h=>h
 cases c
end

section
variable {P:Program}
/-- A call that only hands a value back. -/
theorem wj {xs:List Value}{v:Value}{fr:Bool}(g:Mp P f)(j:v.oneCell'=true)(h:∀w,Calls P f xs.toArray w fun e c=>e= .returned v/\c=w):AI P f (xs.map .v) (.v v) fr:=by
 refine⟨g,fun w A l _ o p=> ?_⟩;have e:l=xs.toArray:=by
  apply Ih
  ·simpa using o
  intro i q r;have C:i<xs.length:=by simpa using r
  have⟨u,d,t⟩:=p i (.v xs[i]) (by simp);rw[LD q,Lf] at d;rw[d];cases(show RC w _ (.v xs[i]) u from t);simp
 rw[e];refine(h w).mono fun e c ⟨y,z⟩=> ?_;subst z;exact⟨v,y,⟨Below.refl _ _,Lc _⟩,show RC _ _ (.v v) v from .v v j⟩
/-- Two texts held against each other. -/
def ZV (f:FuncId):UJ:=(f,fun c=>match c with
 |[.v (.string a),.v (.string b)]=>some (.v (.int .i64 (Lib.compareBytes a.data.toList b.data.toList)))
 |_=>none)
theorem Rx (d:Mp P f)(h:∀(a b:ByteArray) (w:World),Calls P f #[.string a,.string b] w fun e g=>e= .returned (.int .i64 (Lib.compareBytes a.data.toList b.data.toList))/\g=w):WV P (ZV f):=by
 intro i w c hp j;simp only[ZV] at c;split at c
 ·rename_i a b;cases c
  have:=wj (fr:=true) (xs:=[.string a,.string b]) d rfl (h a b);exact(dH (vs:=[.v (.string a),.v (.string b)]) (b:=false) (is:=[]) rfl this (.inl rfl)).mono fun v hp j h=>h
 cases c
end
end Go.Proofs.YtnmkbmefohakmaaGreat.Ab

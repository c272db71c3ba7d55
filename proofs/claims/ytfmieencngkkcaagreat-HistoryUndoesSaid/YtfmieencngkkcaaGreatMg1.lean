/- What the row rests on, part 1: a calculus of assertions, walks of functions over it, and plain laws. Conditions: none. -/
import Derived.Deep.QuietTactic
import Derived.BigQuiet
import Derived.WalkKit
import Derived.Test.YtfmieencngkkcaaGreatProg
import Derived.OrdersHeld
import Derived.Shelf.SortM.SortNone
import Derived.Shelf.SortM.Plain
import Derived.Ground.SlgmProg
import Derived.Shelf.SlIterI.Nil
import Derived.Ground.GgzProg
import Derived.Maps.RangeRun
import Derived.Laws.BytesArg
import Derived.RangeFuncRecord
import Derived.TacticsIn
import Derived.Deep.Slices
import Derived.OpenShut
import Derived.ChangeArms
import Derived.SizedLaws
import Derived.ChangeSame
import Derived.Test.YtfmieencngkkcaaGreatRows
import Derived.Sort.QuietThIn
import Derived.ScopeJumps
import Derived.LaidEqlPtr
import Derived.MapKept
import Derived.Laws.Externs
import Derived.Lib.Builder
import Derived.Lib.UnsafeStr
import Derived.Laws.Strings
import Derived.Lib.ConvBytes
import Derived.Laws.AppendOwn
import Derived.Defers
set_option linter.unusedVariables false
set_option linter.unusedSimpArgs false
set_option maxRecDepth 100000
set_option maxHeartbeats 4000000
namespace Go.Vl
theorem oqz {p:Prop}(h:p:=by omega):p:=h
abbrev vn (n:Nat):Value:= .int .i64 (n:Int)
abbrev pz (b:Nat):Value:= .pointer (some ⟨b,0,none⟩)
structure Kq (r:Prop):Prop where
  o:r
theorem wqz {p:Prop}(h:p:=by conv=>lhs;whnf):p:=h
abbrev tt:Bool:=true
abbrev ff:Bool:=false
abbrev Hp:=Nat->Option (Obj×Bool)
def Hp.dis (h k:Hp):Prop:=∀b,h b=none∨k b=none∨∃o,h b=some (o,true)/\ k b=some (o,true)
def Hp.un (h k:Hp):Hp:=λ b=>(h b).or (k b)
def SP:Type:=Hp->Prop
def SP.star (A B:SP):SP:=λ h=>∃x y:Hp,x.dis y/\ h=x.un y/\ A x/\ B y
instance:Mul SP:=⟨SP.star⟩
def emp:SP:=λ h=>h=λ _=>none
def pure_ (p:Prop):SP:=λ h=>p/\ h=λ _=>none
def ex {α:Type}(A:α->SP):SP:=λ h=>∃x,A x h
def pt (b:Nat)(o:Obj):SP:=λ h=>h=λ k=>if k=b then some (o,false) else none
def ro (b:Nat)(o:Obj):SP:=λ h=>h=λ k=>if k=b then some (o,true) else none
def cl (l:List Value)(E:TypeId):Obj:= .cells l.toArray E (0,0)
theorem Hp.un_comm {x y:Hp}(h:x.dis y):x.un y=y.un x:=by
  funext b
  simp only [Hp.un]
  rcases h b with h|h|⟨o,h1,h2⟩
  . rw [h];simp
  . rw [h];simp
  rw [h1,h2]
theorem Hp.dis.symm {x y:Hp}(h:x.dis y):y.dis x:=λ b=>by
  rcases h b with h|h|⟨o,h1,h2⟩
  . exact .inr (.inl h)
  . exact .inl h
  exact .inr (.inr ⟨o,h2,h1⟩)
theorem Hp.un_assoc (x y z:Hp):(x.un y).un z=x.un (y.un z):=by
  funext b;simp only [Hp.un,Option.or_assoc]
theorem Hp.dis_un_left {x y z:Hp}(hxy:x.dis y):(x.un y).dis z↔x.dis z/\ y.dis z:=by
  constructor
  . intro h;refine ⟨λ b=> ?_,λ b=> ?_⟩
    . rcases h b with h|h|⟨o,h1,h2⟩
      . left;simp only [Hp.un,Option.or_eq_none_iff] at h;exact h.1
      . exact .inr (.inl h)
      simp only [Hp.un] at h1
      cases hx:x b with
      |none=>exact .inl rfl
      |some p=>rw [hx] at h1;simp at h1;exact .inr (.inr ⟨o,by rw [h1],h2⟩)
    rcases h b with h|h|⟨o,h1,h2⟩
    . left;simp only [Hp.un,Option.or_eq_none_iff] at h;exact h.2
    . exact .inr (.inl h)
    simp only [Hp.un] at h1
    rcases hxy b with h'|h'|⟨o',h3,h4⟩
    . rw [h'] at h1;simp at h1;exact .inr (.inr ⟨o,h1,h2⟩)
    . exact .inl h'
    rw [h3] at h1;simp at h1;subst h1;exact .inr (.inr ⟨o',h4,h2⟩)
  rintro ⟨h1,h2⟩ b
  rcases h1 b with h|h|⟨o,h3,h4⟩
  . rcases h2 b with h'|h'|⟨o,h3,h4⟩
    . left;simp only [Hp.un,h,h',Option.or]
    . exact .inr (.inl h')
    exact .inr (.inr ⟨o,by simp [Hp.un,h,h3],h4⟩)
  . exact .inr (.inl h)
  exact .inr (.inr ⟨o,by simp [Hp.un,h3],h4⟩)
theorem Hp.dis_un_right {x y z:Hp}(hyz:y.dis z):x.dis (y.un z)↔x.dis y/\ x.dis z:=by
  constructor
  . intro h;have:=(Hp.dis_un_left hyz).1 h.symm;exact ⟨this.1.symm,this.2.symm⟩
  intro h;exact ((Hp.dis_un_left hyz).2 ⟨h.1.symm,h.2.symm⟩).symm
theorem SP.ext {A B:SP}(h:∀x,A x↔B x):A=B:=funext λ x=>propext (h x)
theorem star_comm (A B:SP):A*B=B*A:=by
  apply SP.ext
  intro h
  constructor
  . rintro ⟨x,y,hd,rfl,ha,hb⟩;exact ⟨y,x,hd.symm,Hp.un_comm hd,hb,ha⟩
  rintro ⟨x,y,hd,rfl,ha,hb⟩;exact ⟨y,x,hd.symm,Hp.un_comm hd,hb,ha⟩
theorem star_assoc (A B C:SP):A*B*C=A*(B*C):=by
  apply SP.ext
  intro h
  constructor
  . rintro ⟨xy,z,hd,rfl,⟨x,y,hd',rfl,ha,hb⟩,hc⟩;have:=(Hp.dis_un_left hd').1 hd;exact ⟨x,y.un z,(Hp.dis_un_right this.2).2 ⟨hd',this.1⟩,Hp.un_assoc _ _ _,ha,y,z,this.2,rfl,hb,hc⟩
  rintro ⟨x,yz,hd,rfl,ha,y,z,hd',rfl,hb,hc⟩;have:=(Hp.dis_un_right hd').1 hd;exact ⟨x.un y,z,(Hp.dis_un_left this.1).2 ⟨this.2,hd'⟩,(Hp.un_assoc _ _ _).symm,⟨x,y,this.1,rfl,ha,hb⟩,hc⟩
theorem emp_star (A:SP):emp*A=A:=by
  apply SP.ext
  intro h
  constructor
  . rintro ⟨x,y,hd,rfl,ha,hb⟩;have:x=λ _=>none:=ha
    subst this;have e:Hp.un (λ _=>none) y=y:=(by funext b;simp [Hp.un]);rw [e];exact hb
  intro ha;exact ⟨λ _=>none,h,λ _=> .inl rfl,by funext b;simp [Hp.un],rfl,ha⟩
theorem star_emp (A:SP):A*emp=A:=by rw [star_comm,emp_star]
instance:Std.Associative (α:=SP) (·*·):=⟨star_assoc⟩
instance:Std.Commutative (α:=SP) (·*·):=⟨star_comm⟩
theorem star_swap (A B C:SP):A*B*C=A*C*B:=by
  rw [star_assoc,star_comm B C,←star_assoc]
structure Gh where
  os:Os
  tape:Nat->Question->Nat
  out:Array (Nat×ByteArray)
structure sat (g:Gh) (w:World) (A:SP):Prop where
  os:w.os=g.os
  tape:w.tape=g.tape
  out:w.output=g.out
  hp:∃h:Hp,A h/\∀b o f,h b=some (o,f)->w.heap[b]? =some o
theorem sat.mono {g:Gh}{w:World}{A B:SP}(h:sat g w A)(k:∀x,A x->B x):sat g w B:=
  ⟨h.os,h.tape,h.out,let ⟨x,ha,hx⟩:=h.hp;⟨x,k x ha,hx⟩⟩
theorem sat.left {g:Gh}{w:World}{A B:SP}(h:sat g w (A*B)):sat g w A:=by
  obtain ⟨_,⟨x,y,hd,rfl,ha,hb⟩,hx⟩:=h.hp;exact ⟨h.os,h.tape,h.out,x,ha,λ b o f hb'=>hx b o f (by simp [Hp.un,hb'])⟩
theorem sat.right {g:Gh}{w:World}{A B:SP}(h:sat g w (A*B)):sat g w B:=by
  rw [star_comm] at h;exact h.left
theorem sat.draw {g:Gh}{w w':World}{A:SP}(h:sat g w A)(e1:w'.heap=w.heap)(e2:w'.os=w.os)(e3:w'.tape=w.tape)(e4:w'.output=w.output):sat g w' A:=
  ⟨e2.trans h.os,e3.trans h.tape,e4.trans h.out,by rw [e1];exact h.hp⟩
def Has (A:SP)(b:Nat)(o:Obj):Prop:=∀g w,sat g w A->w.heap[b]? =some o
theorem has_pt {b:Nat}{o:Obj}:Has (pt b o) b o:=λ g w h=>by
  obtain ⟨x,rfl,hx⟩:=h.hp;exact hx b o false (by simp)
theorem has_ro {b:Nat}{o:Obj}:Has (ro b o) b o:=λ g w h=>by
  obtain ⟨x,rfl,hx⟩:=h.hp;exact hx b o true (by simp)
theorem has_hereR {R:SP}{b:Nat}{o:Obj}:Has (R*ro b o) b o:=λ g w h=>has_ro g w h.right
theorem sat.share {g:Gh}{w:World}{R:SP}{b:Nat}{o:Obj}(h:sat g w (R*pt b o)):sat g w (R*ro b o):=by
  refine ⟨h.os,h.tape,h.out, ?_⟩;obtain ⟨_,⟨x,y,hd,rfl,ha,rfl⟩,hx⟩:=h.hp
  have hxb:x b=none:=by
    rcases hd b with h|h|⟨o',h1,h2⟩
    . exact h
    . simp at h
    simp at h2
  refine ⟨x.un λ k=>if k=b then some (o,true) else none,⟨x,_,λ k=> ?_,rfl,ha,rfl⟩,λ k v f hv=> ?_⟩
  . by_cases hk:k=b
    . subst hk;exact .inl hxb
    right;left;simp [hk]
  by_cases hk:k=b
  . subst hk
    simp only [Hp.un,hxb,if_true,Option.none_or,Option.some.injEq,Prod.mk.injEq] at hv
    exact hx k v false (by simp [Hp.un,hxb,hv.1])
  exact hx k v f (by simpa [Hp.un,hk] using hv)
theorem has_here {R:SP}{b:Nat}{o:Obj}:Has (R*pt b o) b o:=λ g w h=>has_pt g w h.right
theorem has_left {R X:SP}{b:Nat}{o:Obj}(k:Has R b o):Has (R*X) b o:=λ g w h=>k g w h.left
def Upd (A:SP)(b:Nat)(o o':Obj)(A':SP):Prop:=∃R,A=R*pt b o/\ A'=R*pt b o'
theorem upd_pt {b:Nat}{o o':Obj}:Upd (pt b o) b o o' (pt b o'):=⟨emp,(emp_star _).symm,(emp_star _).symm⟩
theorem upd_here {R:SP}{b:Nat}{o o':Obj}:Upd (R*pt b o) b o o' (R*pt b o'):=⟨R,rfl,rfl⟩
theorem upd_left {R R' X:SP}{b:Nat}{o o':Obj}(k:Upd R b o o' R'):Upd (R*X) b o o' (R'*X):=by
  obtain ⟨S,rfl,rfl⟩:=k;exact ⟨S*X,star_swap _ _ _,star_swap _ _ _⟩
theorem Upd.sat {A A':SP}{b:Nat}{o o':Obj}(u:Upd A b o o' A'){g:Gh}{w w':World}(h:sat g w A)
    (e1:∀k,w'.heap[k]? =if k=b then some o' else w.heap[k]?) (e2:w'.os=w.os) (e3:w'.tape=w.tape) (e4:w'.output=w.output):sat g w' A':=by
  obtain ⟨R,rfl,rfl⟩:=u;refine ⟨e2.trans h.os,e3.trans h.tape,e4.trans h.out, ?_⟩;obtain ⟨_,⟨x,y,hd,rfl,ha,hb⟩,hx⟩:=h.hp;have hy:y=λ k=>if k=b then some (o,false) else none:=hb
  subst hy
  have hxb:x b=none:=by
    rcases hd b with h|h|⟨o',h1,h2⟩
    . exact h
    . simp at h
    simp at h2
  refine ⟨x.un λ k=>if k=b then some (o',false) else none,⟨x,_,λ k=> ?_,rfl,ha,rfl⟩,λ k v f hv=> ?_⟩
  . by_cases hk:k=b
    . subst hk;exact .inl hxb
    right;left;simp [hk]
  rw [e1]
  by_cases hk:k=b
  . subst hk
    simp only [Hp.un,hxb,if_true,Option.none_or,Option.some.injEq,Prod.mk.injEq] at hv
    simp [hv.1]
  simp only [hk,if_false]
  apply hx k v f
  simpa [Hp.un,hk] using hv
theorem Upd.has {A A':SP}{b:Nat}{o o':Obj}(u:Upd A b o o' A'):Has A b o:=by
  obtain ⟨R,rfl,rfl⟩:=u;exact has_here
theorem sat.alloc {g:Gh}{w:World}{A:SP}(h:sat g w A)(o:Obj):sat g (w.alloc o) (A*pt w.heap.size o):=by
  refine ⟨h.os,h.tape,h.out, ?_⟩;obtain ⟨x,ha,hx⟩:=h.hp
  have hn:∀k,w.heap.size<=k->x k=none:=λ k hk=>by
    cases hxk:x k with
    |none=>rfl
    |some v=>have:=hx k v.1 v.2 hxk;rw [Array.getElem?_eq_none hk] at this;cases this
  refine ⟨x.un λ k=>if k=w.heap.size then some (o,false) else none,⟨x,_,λ k=> ?_,rfl,ha,rfl⟩,λ k v f hv=> ?_⟩
  . by_cases hk:k=w.heap.size
    . subst hk;exact .inl (hn _ (Nat.le_refl _))
    right;left;simp [hk]
  show (w.heap.push o)[k]? =_
  rw [Array.getElem?_push]
  by_cases hk:k=w.heap.size
  . subst hk
    simp only [Hp.un,hn _ (Nat.le_refl _),if_true,Option.none_or,Option.some.injEq,Prod.mk.injEq] at hv
    simp [hv.1]
  rw [if_neg hk]
  apply hx k v f
  simpa [Hp.un,hk] using hv
def old (W:World):SP:=λ h=>h=λ b=>(W.heap[b]?).map (·,true)
theorem sat_old (W:World):sat ⟨W.os,W.tape,W.output⟩ W (old W):=⟨rfl,rfl,rfl,_,rfl,λ b o f h=>by
  cases hb:W.heap[b]? with
  |none=>simp [hb] at h
  |some v=>simp [hb] at h;rw [h.1]⟩
theorem below_of_old {W w:World}(h:sat ⟨W.os,W.tape,W.output⟩ w (old W)):RowKit.Below W.heap.size W w:=by
  obtain ⟨x,rfl,hx⟩:=h.hp
  have hb:∀k,k<W.heap.size->w.heap[k]? =W.heap[k]? :=λ k hk=>by
    have:=Array.getElem?_eq_getElem hk;rw [this];exact hx _ _ true (by simp [this])
  refine ⟨h.os,h.tape,h.out, ?_,hb⟩
  rcases Nat.lt_or_ge w.heap.size W.heap.size with hlt|hge
  . have:=hb _ hlt;rw [Array.getElem?_eq_none (Nat.le_refl _),Array.getElem?_eq_getElem hlt] at this
    cases this
  exact hge
abbrev Env:=Nat->Value
def upd (ρ:Env)(d:Nat)(v:Value):Env:=λ t=>bif Nat.beq t d then v else ρ t
def und:Env:=λ _=>undef
def ev (n:Nat)(ρ:Env):Operand->Value
  | .tmp t=>bif Nat.blt t n then ρ t else undef
  | .const v=>v
  | .global g=>(pz g)
  | .func f=> .func (.func f) #[] #[]
def put (ρ:Env):Option Tmp->Value->Env
  |some d,v=>upd ρ d v
  |none,_=>ρ
def argEnv:Env->Nat->List Value->Env
  |ρ,_,[]=>ρ
  |ρ,k,v::l=>argEnv (upd ρ k v) (k+1) l
theorem env_set {ρ:Env}{d:Nat}{v:Value}(h:ρ d=v):ρ=upd ρ d v:=by
  funext t
  simp only [upd]
  cases hb:Nat.beq t d with
  |false=>rfl
  |true=>rw [Nat.eq_of_beq_eq_true hb,h];rfl
class Df where
  ok:Env->List Deferred->Prop
  st:∀ρ d v ds,ok ρ ds->ok (upd ρ d v) ds
instance noDf:Df:=⟨λ _ ds=>ds=[],λ _ _ _ _ h=>h⟩
structure Agr [δ:Df] (n:Nat) (ρ:Env) (a:Act):Prop where
  df:δ.ok ρ a.defers
  sz:a.tmps.size=n
  ev:∀t,t<n->a.tmps.getD t undef=ρ t
theorem Agr.eval {δ:Df}{n:Nat}{ρ:Env}{a:Act}(h:Agr n ρ a):a.eval=Vl.ev n ρ:=by
  funext x
  cases x with
  |tmp t=>
    simp only [Act.eval,Vl.ev]
    cases hb:Nat.blt t n with
    |true=>exact h.ev t (Nat.blt_eq.mp hb)
    |false=>
      have hge:n<=t:=by
        rcases Nat.lt_or_ge t n with hlt|hge
        . rw [Nat.blt_eq.mpr hlt] at hb;cases hb
        exact hge
      rw [Array.getD_eq_getD_getElem?,Array.getElem?_eq_none (by rw [h.sz];exact hge)]
      rfl
  |const v=>rfl
  |global g=>rfl
  |func f=>rfl
theorem Agr.put {δ:Df}{n:Nat}{ρ:Env}{a:Act}(h:Agr n ρ a)(d:Option Tmp)(v:Value):Agr n (Vl.put ρ d v) (a.put d v):=by
  cases d with
  |none=>exact h
  |some d=>
    refine ⟨δ.st _ _ _ _ h.df,by simp [Act.put,h.sz],λ t ht=> ?_⟩
    simp only [Act.put,Vl.put,upd]
    rw [Array.getD_eq_getD_getElem?,Array.getElem?_setIfInBounds]
    cases hb:Nat.beq t d with
    |true=>
      have:=Nat.eq_of_beq_eq_true hb;subst this
      simp [h.sz,ht]
    |false=>
      have hne:¬d=t:=λ e=>by subst e;rw [Nat.beq_refl] at hb;cases hb
      rw [if_neg hne,←h.ev t ht,Array.getD_eq_getD_getElem?];rfl
abbrev Post:=Exit->Env->SP->Prop
def okE:Exit->Bool
  | .panic _| .outgrown=>false
  |_=>true
def lift [δ:Df](g:Gh)(n:Nat)(Q:Post):Exit->Act->World->Prop:=λ e a w=>okE e=true/\∃ρ A,Agr n ρ a/\ sat g w A/\ Q e ρ A
def TC [δ:Df](P:Program)(n:Nat)(c:Code)(Q:Post)(ρ:Env)(A:SP):Prop:=
  ∀g a w,Agr n ρ a->sat g w A->c.wp P (lift g n Q) a w
def TL [δ:Df](P:Program)(n:Nat)(ops:Array Oper)(Q:Post)(l:List Oper)(ρ:Env)(A:SP):Prop:=
  ∀g a w,Agr n ρ a->sat g w A->wpList P ops (lift g n Q) l a w
def Fn (P:Program)(f:FuncId)(args:Array Value)(A:SP)(Q:Value->SP->Prop):Prop:=
  ∀g w,sat g w A->Calls P f args w λ e w'=>∃v B,e= .returned v/\ Q v B/\ sat g w' B
theorem Fn.mono {P:Program}{f:FuncId}{args:Array Value}{A:SP}{Q Q':Value->SP->Prop}(h:Fn P f args A Q)(k:∀v B,Q v B->Q' v B):Fn P f args A Q':=
  λ g w hs=>(h g w hs).mono λ _ _ ⟨v,B,e,q,s⟩=>⟨v,B,e,k v B q,s⟩
theorem Fn.pre {P:Program}{f:FuncId}{args:Array Value}{A A':SP}{Q:Value->SP->Prop}(h:Fn P f args A Q)(k:∀g w,sat g w A'->sat g w A):Fn P f args A' Q:=
  λ g w hs=>h g w (k g w hs)
section
variable {δ:Df} {P:Program} {n:Nat} {Q:Post} {ρ:Env} {A:SP}
def thenQ (K:Env->SP->Prop)(Q:Post):Post
  | .normal,ρ,A=>K ρ A
  |e,ρ,A=>Q e ρ A
def blockQ (id:Nat)(Q:Post):Post
  | .exit k,ρ,A=>bif Nat.beq k id then Q .normal ρ A else Q (.exit k) ρ A
  |e,ρ,A=>Q e ρ A
theorem q_then_n {K:Env->SP->Prop}(h:K ρ A):thenQ K Q .normal ρ A:=h
theorem q_then_r {K:Env->SP->Prop}(h:Q .ret ρ A):thenQ K Q .ret ρ A:=h
theorem q_then_e {K:Env->SP->Prop}{id:Nat}(h:Q (.exit id) ρ A):thenQ K Q (.exit id) ρ A:=h
theorem q_block_n {id:Nat}(h:Q .normal ρ A):blockQ id Q .normal ρ A:=h
theorem q_block_r {id:Nat}(h:Q .ret ρ A):blockQ id Q .ret ρ A:=h
theorem q_block_x {id:Nat}(h:Q .normal ρ A):blockQ id Q (.exit id) ρ A:=by simp only [blockQ,Nat.beq_refl,cond_true];exact h
theorem q_block_e {id k:Nat}(hk:Nat.beq k id=false)(h:Q (.exit k) ρ A):blockQ id Q (.exit k) ρ A:=by simp only [blockQ,hk,cond_false];exact h
theorem tc_imp {c:Code}{Q':Post}(h:TC P n c Q ρ A)(k:∀e ρ A,Q e ρ A->Q' e ρ A):TC P n c Q' ρ A:=
  λ g a w ha hs=>wp_mono (h g a w ha hs) λ _ _ _ ⟨o,ρ,A,x,y,z⟩=>⟨o,ρ,A,x,y,k _ _ _ z⟩
theorem tc_pre {c:Code}{A':SP}(k:∀g w,sat g w A->sat g w A')(h:TC P n c Q ρ A'):TC P n c Q ρ A:=
  λ g a w ha hs=>h g a w ha (k g w hs)
theorem tc_eq {c:Code}{A':SP}(k:A=A')(h:TC P n c Q ρ A'):TC P n c Q ρ A:=k▸h
theorem tc_env {c:Code}{d:Nat}{v:Value}(h:ρ d=v)(k:TC P n c Q (upd ρ d v) A):TC P n c Q ρ A:=by
  rw [←env_set h] at k;exact k
theorem tc_seq {x y:Code}(h:TC P n x (thenQ (TC P n y Q) Q) ρ A):TC P n (x.seq y) Q ρ A:=λ g a w ha hs=>
  wp_seq (wp_mono (h g a w ha hs) λ e a' w' ⟨hok,ρ',A',ha',hs',hq⟩=>by
    cases e with
    |normal=>exact hq g a' w' ha' hs'
    |_=>exact ⟨hok,ρ',A',ha',hs',hq⟩)
theorem tc_skip (h:Q .normal ρ A):TC P n .skip Q ρ A:=λ g a w ha hs=>wp_skip ⟨rfl,ρ,A,ha,hs,h⟩
theorem tc_label {l:Nat}(h:Q .normal ρ A):TC P n (.label l) Q ρ A:=λ g a w ha hs=>wp_label ⟨rfl,ρ,A,ha,hs,h⟩
theorem tc_ret (h:Q .ret ρ A):TC P n .ret Q ρ A:=λ g a w ha hs=>wp_ret ⟨rfl,ρ,A,ha,hs,h⟩
theorem tc_exit {id:Nat}(h:Q (.exit id) ρ A):TC P n (.exit id) Q ρ A:=λ g a w ha hs=>wp_exit ⟨rfl,ρ,A,ha,hs,h⟩
theorem tc_block {id:Nat}{c:Code}(h:TC P n c (blockQ id Q) ρ A):TC P n (.block id c) Q ρ A:=λ g a w ha hs=>
  wp_block (wp_mono (h g a w ha hs) λ e a' w' ⟨hok,ρ',A',ha',hs',hq⟩=>by
    cases e with
    |exit k=>
      simp only [Exit.inBlock]
      by_cases hk:k=id
      . subst hk
        simp only [blockQ,Nat.beq_refl,cond_true] at hq
        rw [if_pos rfl];exact ⟨rfl,ρ',A',ha',hs',hq⟩
      have:Nat.beq k id=false:=by
        cases hb:Nat.beq k id with
        |false=>rfl
        |true=>exact absurd (Nat.eq_of_beq_eq_true hb) hk
      simp only [blockQ,this,cond_false] at hq
      rw [if_neg hk];exact ⟨rfl,ρ',A',ha',hs',hq⟩
    |_=>exact ⟨hok,ρ',A',ha',hs',hq⟩)
theorem tc_cond {c:Operand}{x y:Code}{t:Bool}(hc:ev n ρ c= .bool t)(h1:t=true->TC P n x Q ρ A)(h2:t=false->TC P n y Q ρ A):TC P n (.cond c x y) Q ρ A:=λ g a w ha hs=>by
  refine wp_cond (t:=t) (by rw [ha.eval];exact hc) ?_
  cases t with
  |true=>exact h1 rfl g a w ha hs
  |false=>exact h2 rfl g a w ha hs
theorem tc_cond_t {c:Operand}{x y:Code}(hc:ev n ρ c= .bool true)(h:TC P n x Q ρ A):TC P n (.cond c x y) Q ρ A:=
  tc_cond hc (λ _=>h) (λ e=>by cases e)
theorem tc_cond_f {c:Operand}{x y:Code}(hc:ev n ρ c= .bool false)(h:TC P n y Q ρ A):TC P n (.cond c x y) Q ρ A:=
  tc_cond hc (λ e=>by cases e) (λ _=>h)
theorem tc_loop {c:Code}(I:Nat->Env->SP->Prop){m:Nat}(h0:I m ρ A)
    (round:∀k ρ A,I k ρ A->TC P n c (thenQ (λ ρ' A'=>∃k',k'<k/\ I k' ρ' A') Q) ρ A):TC P n (.loop c) Q ρ A:=λ g a w ha hs b kk cs=>by
  have key:∀k ρ A,I k ρ A->∀a w,Agr n ρ a->sat g w A->∃e a' w',lift g n Q e a' w'/\ Arrives P (lone (b.at a (.code c:: .inLoop c::kk)) cs w) b kk cs e a' w':=by
    intro k
    induction k using Nat.strongRecOn with
    |_ k ih=>
      intro ρ A hI a w ha hs;obtain ⟨e,a₁,w₁,⟨hok,ρ₁,A₁,ha₁,hs₁,hq⟩,harr⟩:=round k ρ A hI g a w ha hs b (.inLoop c::kk) cs
      cases e with
      |normal=>
        obtain ⟨k',hlt,hI'⟩:=hq;obtain ⟨e₂,a₂,w₂,hq₂,harr₂⟩:=ih k' hlt ρ₁ A₁ hI' a₁ w₁ ha₁ hs₁;exact ⟨e₂,a₂,w₂,hq₂,.of_steps (Steps.trans harr (.one step_inLoop)) harr₂⟩
      |exit id=>exact ⟨_,a₁,w₁,⟨hok,ρ₁,A₁,ha₁,hs₁,hq⟩,.pass (x:= .inLoop c) rfl (λ _ _=> .inl (by simp)) harr⟩
      |goto l=>exact ⟨_,a₁,w₁,⟨hok,ρ₁,A₁,ha₁,hs₁,hq⟩,.pass (x:= .inLoop c) rfl (λ _ _=> .inl (by simp)) harr⟩
      |ret=>exact ⟨_,a₁,w₁,⟨hok,ρ₁,A₁,ha₁,hs₁,hq⟩,.pass (x:= .inLoop c) rfl (λ _ _=> .inl (by simp)) harr⟩
      |panic ch=>exact ⟨_,a₁,w₁,⟨hok,ρ₁,A₁,ha₁,hs₁,hq⟩,.pass (x:= .inLoop c) rfl (λ _ _=> .inl (by simp)) harr⟩
      |outgrown=>exact ⟨_,a₁,w₁,⟨hok,ρ₁,A₁,ha₁,hs₁,hq⟩,.pass (x:= .inLoop c) rfl (λ _ _=> .inl (by simp)) harr⟩
  obtain ⟨e,a',w',hq,harr⟩:=key m ρ A h0 a w ha hs;exact ⟨e,a',w',hq,.of_steps (.one step_loop) harr⟩
def wantE (n:Nat)(ops:Array Oper)(ρ:Env)(o:Oper):Bool:=
  match o.guard with
  |none=>true
  |some (j,want)=>
    match (ops[j]?).bind (·.dst) with
    |some d=>match ev n ρ (.tmp d) with
      | .bool b=>b==want
      |_=>false
    |none=>false
theorem want_eq {ops:Array Oper}{a:Act}{o:Oper}(ha:Agr n ρ a):Region.wanted o (yielded ops a.tmps)=wantE n ops ρ o:=by
  unfold Region.wanted wantE
  cases o.guard with
  |none=>rfl
  |some gw=>
    obtain ⟨j,want⟩:=gw
    simp only [yielded]
    cases (ops[j]?).bind (·.dst) with
    |none=>simp
    |some d=>
      simp only [Option.bind_some]
      have he:ev n ρ (.tmp d)=a.tmps.getD d undef:=(by rw [←ha.eval];rfl);rw [he,Array.getD_eq_getD_getElem?]
      cases a.tmps[d]? with
      |none=>simp [undef]
      |some v=>
        cases v<;>simp
def OpV (P:Program)(n:Nat)(ρ:Env)(A:SP)(o:Oper)(v:Value):Prop:=
  ∀g w,sat g w A->(execOp (ev n ρ) o).run P w= .ok (.value v) w
def OpX (P:Program)(n:Nat)(ρ:Env)(A:SP)(o:Oper)(R:Value->SP->Prop):Prop:=
  ∀g w,sat g w A->∃v w' B,(execOp (ev n ρ) o).run P w= .ok (.value v) w'/\ sat g w' B/\ R v B
def OpU (P:Program)(n:Nat)(ρ:Env)(A:SP)(o:Oper)(B:SP):Prop:=
  ∀g w,sat g w A->∃w',(execOp (ev n ρ) o).run P w= .ok .skip w'/\ sat g w' B
def OpC (P:Program)(n:Nat)(ρ:Env)(A:SP)(o:Oper)(R:Value->SP->Prop):Prop:=
  ∀g w,sat g w A->∃f args w',(execOp (ev n ρ) o).run P w= .ok (.enter f args) w'/\ Calls P f args w' λ e w''=>∃v B,e= .returned v/\ R v B/\ sat g w'' B
section
variable {ops:Array Oper} {o:Oper} {rest:List Oper}
theorem tl_nil (h:Q .normal ρ A):TL P n ops Q [] ρ A:=λ g a w ha hs=>wpList_nil ⟨rfl,ρ,A,ha,hs,h⟩
theorem tl_eq {A':SP}{l:List Oper}(k:A=A')(h:TL P n ops Q l ρ A'):TL P n ops Q l ρ A:=k▸h
theorem tl_pre {A':SP}{l:List Oper}(k:∀g w,sat g w A->sat g w A')(h:TL P n ops Q l ρ A'):TL P n ops Q l ρ A:=
  λ g a w ha hs=>h g a w ha (k g w hs)
theorem tl_env {l:List Oper}{d:Nat}{v:Value}(h:ρ d=v)(k:TL P n ops Q l (upd ρ d v) A):TL P n ops Q l ρ A:=by
  rw [←env_set h] at k;exact k
theorem tl_have {l:List Oper}{p:Prop}(k:∀g w,sat g w A->p)(h:p->TL P n ops Q l ρ A):TL P n ops Q l ρ A:=
  λ g a w ha hs=>h (k g w hs) g a w ha hs
theorem tc_have {c:Code}{p:Prop}(k:∀g w,sat g w A->p)(h:p->TC P n c Q ρ A):TC P n c Q ρ A:=
  λ g a w ha hs=>h (k g w hs) g a w ha hs
theorem tl_skip (hw:wantE n ops ρ o=false)(k:TL P n ops Q rest (put ρ o.dst undef) A):TL P n ops Q (o::rest) ρ A:=λ g a w ha hs=>by
  unfold wpList
  rw [want_eq ha,hw]
  exact k g _ w (ha.put _ _) hs
theorem tl_v {v:Value}(hw:wantE n ops ρ o=true)(h:OpV P n ρ A o v)(k:TL P n ops Q rest (put ρ o.dst v) A):TL P n ops Q (o::rest) ρ A:=λ g a w ha hs=>by
  unfold wpList
  rw [want_eq ha,hw,if_pos rfl]
  refine .inl ?_
  unfold Oper.wp
  rw [ha.eval,h g w hs]
  exact k g _ w (ha.put _ _) hs
theorem tl_x {R:Value->SP->Prop}(hw:wantE n ops ρ o=true)(h:OpX P n ρ A o R)(k:∀v B,R v B->TL P n ops Q rest (put ρ o.dst v) B):TL P n ops Q (o::rest) ρ A:=λ g a w ha hs=>by
  unfold wpList
  rw [want_eq ha,hw,if_pos rfl]
  refine .inl ?_
  unfold Oper.wp
  obtain ⟨v,w',B,hr,hb,hR⟩:=h g w hs;rw [ha.eval,hr]
  exact k v B hR g _ w' (ha.put _ _) hb
theorem tl_u {B:SP}(hw:wantE n ops ρ o=true)(h:OpU P n ρ A o B)(k:TL P n ops Q rest (put ρ o.dst undef) B):TL P n ops Q (o::rest) ρ A:=λ g a w ha hs=>by
  unfold wpList
  rw [want_eq ha,hw,if_pos rfl]
  refine .inl ?_
  unfold Oper.wp
  obtain ⟨w',hr,hb⟩:=h g w hs;rw [ha.eval,hr]
  exact k g _ w' (ha.put _ _) hb
theorem tl_c {R:Value->SP->Prop}(hw:wantE n ops ρ o=true)(h:OpC P n ρ A o R)(k:∀v B,R v B->TL P n ops Q rest (put ρ o.dst v) B):TL P n ops Q (o::rest) ρ A:=λ g a w ha hs=>by
  unfold wpList
  rw [want_eq ha,hw,if_pos rfl]
  refine .inl ?_
  unfold Oper.wp
  obtain ⟨f,args,w',hr,hc⟩:=h g w hs;rw [ha.eval,hr]
  refine hc.mono λ e w'' ⟨v,B,he,hR,hb⟩=> ?_
  subst he;exact k v B hR g _ w'' (ha.put _ _) hb
theorem tl_bool {l:List Oper}{d:Nat}{b:Bool}(hv:ρ d= .bool b)(ht:b=true->TL P n ops Q l (upd ρ d (.bool true)) A)(hf:b=false->TL P n ops Q l (upd ρ d (.bool false)) A):TL P n ops Q l ρ A:=by
  cases b with
  |true=>exact tl_env hv (ht rfl)
  |false=>exact tl_env hv (hf rfl)
theorem tc_reg {id:Nat}{l:List Oper}(h:TL P n l.toArray Q l ρ A):TC P n (.region id l.toArray false) Q ρ A:=
  λ g a w ha hs=>wp_region_lit (h g a w ha hs)
def QL [δ:Df](P:Program)(n:Nat)(ops:Array Oper)(A:SP)(K:Env->Prop)(l:List Oper)(ρ:Env):Prop:=
  ∀g a,Agr n ρ a->wpQuiet P ops (λ w=>sat g w A) (λ a'=>∃ρ',Agr n ρ' a'/\ K ρ') l a
theorem ql_nil {K:Env->Prop}(h:K ρ):QL P n ops A K [] ρ:=λ g a ha=>wpQuiet_nil ⟨ρ,ha,h⟩
theorem ql_skip {K:Env->Prop}(hw:wantE n ops ρ o=false)(k:QL P n ops A K rest (put ρ o.dst undef)):QL P n ops A K (o::rest) ρ:=λ g a ha=>by
  unfold wpQuiet
  rw [want_eq ha,hw]
  exact k g _ (ha.put _ _)
theorem ql_v {K:Env->Prop}{v:Value}(hw:wantE n ops ρ o=true)(h:OpV P n ρ A o v)(k:QL P n ops A K rest (put ρ o.dst v)):QL P n ops A K (o::rest) ρ:=λ g a ha=>by
  unfold wpQuiet
  rw [want_eq ha,hw,if_pos rfl]
  refine ⟨v,λ w hs=> ?_,k g _ (ha.put _ _)⟩
  unfold Oper.quietAt
  rw [ha.eval,h g w hs]
  exact ⟨rfl,rfl⟩
theorem ql_c {K:Env->Prop}{f:FuncId}{args:Array Value}{v:Value}(hw:wantE n ops ρ o=true)(he:∀w,(execOp (ev n ρ) o).run P w= .ok (.enter f args) w)
    (h:Fn P f args A λ v' B=>v'=v/\ A=B) (k:QL P n ops A K rest (put ρ o.dst v)):QL P n ops A K (o::rest) ρ:=λ g a ha=>by
  unfold wpQuiet
  rw [want_eq ha,hw,if_pos rfl]
  refine ⟨v,λ w hs=> ?_,k g _ (ha.put _ _)⟩
  unfold Oper.quietAt
  rw [ha.eval,he w]
  refine ⟨rfl,(h g w hs).mono ?_⟩;rintro e w' ⟨v',B,rfl,⟨rfl,rfl⟩,hb⟩;exact ⟨rfl,hb⟩
theorem ql_bool {K:Env->Prop}{l:List Oper}{d:Nat}{b:Bool}(hv:ρ d= .bool b)(ht:b=true->QL P n ops A K l (upd ρ d (.bool true)))(hf:b=false->QL P n ops A K l (upd ρ d (.bool false))):QL P n ops A K l ρ:=by
  cases b with
  |true=>have:=ht rfl;rw [←env_set hv] at this;exact this
  |false=>have:=hf rfl;rw [←env_set hv] at this;exact this
theorem tc_regq {id:Nat}{l:List Oper}(hm:P.follows .mixedOrders=true)(hB:Region.lexB .any l.toArray=true)(h:QL P n l.toArray A (λ ρ'=>Q .normal ρ' A) l ρ):
    TC P n (.region id l.toArray true) Q ρ A:=λ g a w ha hs=>by
  refine wp_region_quiet (C:=λ w=>sat g w A) hm hB (hs.draw rfl rfl rfl rfl) ?_;have hh:=h g a ha;have he:l.toArray.toList=l:=(by simp);rw [he]
  have mono:∀ (l':List Oper) (a:Act),wpQuiet P l.toArray (λ w=>sat g w A) (λ a'=>∃ρ',Agr n ρ' a'/\ Q .normal ρ' A) l' a→
      wpQuiet P l.toArray (λ w=>sat g w A) (λ a'=>∀w',sat g w' A->lift g n Q .normal a' w') l' a:=by
    intro l'
    induction l' with
    |nil=>intro a ⟨ρ',h1,h2⟩ w' hw';exact ⟨rfl,ρ',A,h1,hw',h2⟩
    |cons o l' ih=>
      intro a h
      unfold wpQuiet at h ⊢
      split
      . rename_i hw
        rw [if_pos hw] at h
        exact Oper.quiet_mono (λ a=>ih a) h
      rename_i hw
      rw [if_neg hw] at h
      exact ih _ h
  exact mono l a hh
def TA [δ:Df](P:Program)(n:Nat)(ops:Array Oper)(Q:Post)(fuel:Nat)(listed:Array Bool)(ρ:Env)(A:SP):Prop:=
  ∀g a w,Agr n ρ a->sat g w A->wpAny P .any ops (lift g n Q) fuel listed a w
theorem tc_rega {id:Nat}{l:List Oper}(hm:P.follows .mixedOrders=true)(h:TA P n l.toArray Q l.length (Array.replicate l.length false) ρ A):TC P n (.region id l.toArray true) Q ρ A:=λ g a w ha hs=>
  have h1:=h g a { w with drawn:=w.drawn+1 } ha (hs.draw rfl rfl rfl rfl)
  wp_region_any hm (by simpa using h1)
theorem ta_done {fuel:Nat}{listed:Array Bool}(hr:Region.ready .any ops listed=[])(h:Q .normal ρ A):TA P n ops Q fuel listed ρ A:=λ g a w ha hs=>
  wpAny_done hr ⟨rfl,ρ,A,ha,hs,h⟩ fuel
theorem ta_pure {fuel i:Nat}{listed listed':Array Bool}{v:Value}(hi:ops[i]? =some o)(hs':Region.noSelect ops=true)(hf:Region.free .any ops listed i=true)(hr:(Region.ready .any ops listed).contains i=true)
    (hl:listed.setIfInBounds i true=listed') (hw:wantE n ops ρ o=true) (hv:OpV P n ρ emp o v) (k:TA P n ops Q fuel listed' (put ρ o.dst v) A):TA P n ops Q (fuel+1) listed ρ A:=λ g a w ha hs=>
  wpAny_take hi hs' hf hr (λ c a w h=>absurd h.1 (by simp [okE])) (.inl ⟨by rw [want_eq ha,hw],λ w'=>by
    rw [ha.eval]
    exact hv ⟨w'.os,w'.tape,w'.output⟩ w' ⟨rfl,rfl,rfl,_,rfl,λ _ _ _ h=>by cases h⟩⟩) (by rw [hl];exact k g _ w (ha.put _ _) hs)
def OA [δ:Df](P:Program)(n:Nat)(ops:Array Oper)(Q:Post)(fuel i:Nat)(listed:Array Bool)(ρ:Env)(A:SP):Prop:=
  ∀g a w,Agr n ρ a->sat g w A->wpOp P ops (lift g n Q) i (wpAny P .any ops (lift g n Q) fuel (listed.setIfInBounds i true)) a w
theorem ta_all {fuel:Nat}{listed:Array Bool}{rs:List Nat}(hr:Region.ready .any ops listed=rs)(hne:rs≠[])(h:∀i∈rs,OA P n ops Q fuel i listed ρ A):TA P n ops Q (fuel+1) listed ρ A:=λ g a w ha hs=>
  wpAny_all hr hne λ i hi=>h i hi g a w ha hs
theorem ta_one {fuel i:Nat}{listed:Array Bool}(hr:Region.ready .any ops listed=[i])(h:OA P n ops Q fuel i listed ρ A):TA P n ops Q (fuel+1) listed ρ A:=ta_all hr (by simp) (by simpa using h)
theorem ta_two {fuel i j:Nat}{listed:Array Bool}(hr:Region.ready .any ops listed=[i,j])(h:OA P n ops Q fuel i listed ρ A)(h':OA P n ops Q fuel j listed ρ A):TA P n ops Q (fuel+1) listed ρ A:=
  ta_all hr (by simp) (by simpa using ⟨h,h'⟩)
section
variable {fuel i:Nat} {listed listed':Array Bool}
theorem oa_v {v:Value}(hi:ops[i]? =some o)(hl:listed.setIfInBounds i true=listed')(hw:wantE n ops ρ o=true)(h:OpV P n ρ A o v)(k:TA P n ops Q fuel listed' (put ρ o.dst v) A):OA P n ops Q fuel i listed ρ A:=λ g a w ha hs=>by
  subst hl
  unfold wpOp
  simp only [hi,want_eq ha,hw,if_true]
  refine .inl ?_
  unfold Oper.wp
  rw [ha.eval,h g w hs]
  exact k g _ w (ha.put _ _) hs
theorem oa_x {R:Value->SP->Prop}(hi:ops[i]? =some o)(hl:listed.setIfInBounds i true=listed')(hw:wantE n ops ρ o=true)(h:OpX P n ρ A o R)(k:∀v B,R v B->TA P n ops Q fuel listed' (put ρ o.dst v) B):OA P n ops Q fuel i listed ρ A:=λ g a w ha hs=>by
  subst hl
  unfold wpOp
  simp only [hi,want_eq ha,hw,if_true]
  refine .inl ?_
  unfold Oper.wp
  obtain ⟨v,w',B,hr,hb,hR⟩:=h g w hs;rw [ha.eval,hr]
  exact k v B hR g _ w' (ha.put _ _) hb
theorem oa_u {B:SP}(hi:ops[i]? =some o)(hl:listed.setIfInBounds i true=listed')(hw:wantE n ops ρ o=true)(h:OpU P n ρ A o B)(k:TA P n ops Q fuel listed' (put ρ o.dst undef) B):OA P n ops Q fuel i listed ρ A:=λ g a w ha hs=>by
  subst hl
  unfold wpOp
  simp only [hi,want_eq ha,hw,if_true]
  refine .inl ?_
  unfold Oper.wp
  obtain ⟨w',hr,hb⟩:=h g w hs;rw [ha.eval,hr]
  exact k g _ w' (ha.put _ _) hb
end
theorem ta_pre {fuel:Nat}{listed:Array Bool}{A':SP}(k:∀g w,sat g w A->sat g w A')(h:TA P n ops Q fuel listed ρ A'):TA P n ops Q fuel listed ρ A:=λ g a w ha hs=>h g a w ha (k g w hs)
theorem tc_cut {c:Code}(M:Env->SP->Prop)(h:TC P n c (λ e ρ' A'=>match e with| .normal=>M ρ' A'|e=>Q e ρ' A') ρ A)(k:∀ρ' A',M ρ' A'->Q .normal ρ' A'):TC P n c Q ρ A:=
  tc_imp h λ e ρ' A' hq=>by
    cases e with
    |normal=>exact k _ _ hq
    |_=>exact hq
end
end
def Res [δ:Df](P:Program)(n:Nat)(fn:Func)(ρ:Env)(A:SP)(v:Value):Prop:=
  ∀g a w,Agr n ρ a->sat g w A->(results fn a.tmps).run P w= .ok v w
def retQ [δ:Df](P:Program)(n:Nat)(fn:Func)(Q:Value->SP->Prop):Post
  | .ret,ρ,A| .normal,ρ,A=>∃v,Res P n fn ρ A v/\ Q v A
  |_,_,_=>False
def retW [δ:Df](P:Program)(n:Nat)(fn:Func)(Q:Value->SP->Prop):Post
  | .ret,ρ,A| .normal,ρ,A=>∃v A',Res P n fn ρ A v/\ (∀g w,sat g w A->sat g w A')/\ Q v A'
  |_,_,_=>False
theorem agr_enter {δ:Df}{fn:Func}{args:List Value}{n:Nat}(hn:fn.ntmps=n)(hle:args.length<=n)(hok:δ.ok (argEnv und 0 args) []):Agr n (argEnv und 0 args) { tmps:=args.toArray++Array.replicate (fn.ntmps-args.toArray.size) undef,defers:=[] }:=by
  have hsz:(args.toArray++Array.replicate (fn.ntmps-args.toArray.size) undef).size=n:=(by simp;omega);refine ⟨hok,hsz,λ t ht=> ?_⟩
  have key:∀ (l:List Value) (ρ:Env) (k t:Nat),argEnv ρ k l t=if k<=t/\ t<k+l.length then l.getD (t-k) undef else ρ t:=by
    intro l
    induction l with
    |nil=>intro ρ k t;simp only [argEnv,List.length_nil];rw [if_neg oqz]
    |cons v l ih=>
      intro ρ k t
      simp only [argEnv,ih,List.length_cons]
      by_cases h1:k+1<=t/\ t<k+1+l.length
      . rw [if_pos h1,if_pos oqz]
        have:t-k=(t-(k+1))+1:=(by omega);rw [this];simp
      rw [if_neg h1]
      by_cases h2:t=k
      . subst h2;rw [if_pos oqz]
        simp [upd]
      rw [if_neg oqz]
      have:Nat.beq t k=false:=by
        cases hb:Nat.beq t k with
        |false=>rfl
        |true=>exact absurd (Nat.eq_of_beq_eq_true hb) h2
      simp [upd,this]
  rw [key]
  rw [Array.getD_eq_getD_getElem?,Array.getElem?_append]
  by_cases h1:t<args.length
  . rw [if_pos (by simpa using h1),if_pos oqz]
    simp
  rw [if_neg (by simpa using h1),if_neg oqz]
  simp only [List.size_toArray] at*
  rw [Array.getElem?_replicate]
  split<;>simp [und]
theorem fn_enterW {P:Program}{f:FuncId}{fn:Func}{c:Code}{args:List Value}{A:SP}{Q:Value->SP->Prop}{n:Nat}(hf:P.funcs[f]? =some fn)(hb:fn.body=some c)
    (hn:fn.ntmps=n) (hle:args.length<=n) (h:TC P n c (retW P n fn Q) (argEnv und 0 args) A):Fn P f args.toArray A Q:=λ g w hs=>by
  refine calls_of_wp hf hb (wp_mono (h g _ w (agr_enter hn hle rfl) hs) ?_);rintro e a' w' ⟨_,ρ',A',ha',hs',hq⟩
  cases e with
  |normal=>
    obtain ⟨v,B,hr,hi,hQ⟩:=hq;exact ⟨ha'.df,v,hr g a' w' ha' hs',v,B,rfl,hQ,hi g w' hs'⟩
  |ret=>
    obtain ⟨v,B,hr,hi,hQ⟩:=hq;exact ⟨ha'.df,v,hr g a' w' ha' hs',v,B,rfl,hQ,hi g w' hs'⟩
  |_=>exact hq.elim
theorem fn_enter {P:Program}{f:FuncId}{fn:Func}{c:Code}{args:List Value}{A:SP}{Q:Value->SP->Prop}{n:Nat}(hf:P.funcs[f]? =some fn)(hb:fn.body=some c)
    (hn:fn.ntmps=n) (hle:args.length<=n) (h:TC P n c (retQ P n fn Q) (argEnv und 0 args) A):Fn P f args.toArray A Q:=
  fn_enterW hf hb hn hle (tc_imp h λ e ρ A hq=>by
    cases e with
    |normal=>obtain ⟨v,hr,hQ⟩:=hq;exact ⟨v,A,hr,λ _ _ h=>h,hQ⟩
    |ret=>obtain ⟨v,hr,hQ⟩:=hq;exact ⟨v,A,hr,λ _ _ h=>h,hQ⟩
    |_=>exact hq.elim)
theorem res0 {δ:Df}{P:Program}{n:Nat}{fn:Func}{ρ:Env}{A:SP}(h:fn.results= #[]):Res P n fn ρ A (.tuple #[]):=λ g a w ha hs=>by
  simp [results,h]
theorem res1 {δ:Df}{P:Program}{n:Nat}{fn:Func}{ρ:Env}{A:SP}{t:Tmp}{v:Value}(h:fn.results= #[.tmp t])(hv:ev n ρ (.tmp t)=v):Res P n fn ρ A v:=λ g a w ha hs=>by
  have:a.tmps.getD t undef=v:=(by rw [←hv,←ha.eval];rfl)
  simp only [results,h];simp [←this]
theorem res2 {δ:Df}{P:Program}{n:Nat}{fn:Func}{ρ:Env}{A:SP}{t u:Tmp}{v1 v2:Value}(h:fn.results= #[.tmp t,.tmp u])(h1:ev n ρ (.tmp t)=v1)(h2:ev n ρ (.tmp u)=v2):
    Res P n fn ρ A (.tuple #[v1,v2]):=λ g a w ha hs=>by
  have e1:a.tmps.getD t undef=v1:=(by rw [←h1,←ha.eval];rfl);have e2:a.tmps.getD u undef=v2:=(by rw [←h2,←ha.eval];rfl)
  simp only [results,h];simp [←e1,←e2]
theorem res3 {δ:Df}{P:Program}{n:Nat}{fn:Func}{ρ:Env}{A:SP}{t u s:Tmp}{v1 v2 v3:Value}(h:fn.results= #[.tmp t,.tmp u,.tmp s])(h1:ev n ρ (.tmp t)=v1)(h2:ev n ρ (.tmp u)=v2)(h3:ev n ρ (.tmp s)=v3):
    Res P n fn ρ A (.tuple #[v1,v2,v3]):=λ g a w ha hs=>by
  have e1:a.tmps.getD t undef=v1:=(by rw [←h1,←ha.eval];rfl);have e2:a.tmps.getD u undef=v2:=(by rw [←h2,←ha.eval];rfl);have e3:a.tmps.getD s undef=v3:=(by rw [←h3,←ha.eval];rfl)
  simp only [results,h];simp [←e1,←e2,←e3]
open Go
theorem te {δ:Df}{P:Program}{n:Nat}{Q:Post}{A:SP}{ρ:Env}{c:Code}{v:Value}(d:Nat)(h:ρ d=v)(k:TC P n c Q (upd ρ d v) A):TC P n c Q ρ A:=tc_env h k
def szE (P:Program)(t:TypeId):Option Nat:=(P.info? t).map (·.size)
def zeroE (P:Program)(t:TypeId):Option Value:=(P.info? t).bind (·.zero)
def bytesE (P:Program)(t:TypeId):Option Nat:=(P.info? t).map (·.bytes)
def plainE (P:Program)(t:TypeId):Bool:=match P.underlying t with
  |some (.struct _)|some (.array ..)|none=>false
  |some _=>true
def aggE (P:Program)(t:TypeId):Bool:=match P.underlying t with
  |some (.struct _)|some (.array ..)=>true
  |_=>false
section
variable {P:Program} {w:World}
theorem run_size {t:TypeId}{k:Nat}(h:szE P t=some k):(sizeOf t).run P w= .ok k w:=by
  unfold szE at h
  cases hi:P.info? t with
  |none=>rw [hi] at h;cases h
  |some i=>rw [hi] at h;simp at h;simp [sizeOf,typeInfo,hi,h,program,bind,Sem.bind,Sem.run,pure]
theorem run_bytes {t:TypeId}{k:Nat}(h:bytesE P t=some k):∃i,(typeInfo t).run P w= .ok i w/\ i.bytes=k:=by
  unfold bytesE at h
  cases hi:P.info? t with
  |none=>rw [hi] at h;cases h
  |some i=>rw [hi] at h;simp at h;exact ⟨i,by simp [typeInfo,hi,program,bind,Sem.bind,Sem.run,pure],h⟩
theorem run_zeroV {t:TypeId}{v:Value}(h:zeroE P t=some v):(zeroValue t).run P w= .ok v w:=by
  unfold zeroE at h
  cases hi:P.info? t with
  |none=>rw [hi] at h;cases h
  |some i=>rw [hi] at h;simp at h;simp [zeroValue,typeInfo,hi,h,program,bind,Sem.bind,Sem.run,pure]
theorem run_und {t:TypeId}{d:TypeDesc}(h:P.underlying t=some d):(underlying t).run P w= .ok d w:=by
  simp [underlying,h,program,bind,Sem.bind,Sem.run,pure]
theorem run_isAgg_f {t:TypeId}(h:plainE P t=true):(isAgg t).run P w= .ok false w:=by
  unfold plainE at h
  cases hu:P.underlying t with
  |none=>rw [hu] at h;cases h
  |some d=>rw [hu] at h;cases d<;>simp_all [isAgg,underlying,hu,program,bind,Sem.bind,Sem.run,pure]
theorem run_isAgg_t {t:TypeId}(h:aggE P t=true):(isAgg t).run P w= .ok true w:=by
  unfold aggE at h
  cases hu:P.underlying t with
  |none=>rw [hu] at h;cases h
  |some d=>rw [hu] at h;cases d<;>simp_all [isAgg,underlying,hu,program,bind,Sem.bind,Sem.run,pure]
theorem run_bind {α β:Type}{s:Sem α}{f:α->Sem β}{a:α}{w':World}(h:s.run P w= .ok a w'):(s>>=f).run P w=(f a).run P w':=by
  rw [Sem.run_bind,h];rfl
end
section
variable {P:Program} {n:Nat} {ρ:Env} {A:SP} {dst:Option Tmp} {ty:TypeId} {pos:String} {after:Array Edge} {gd:Option (Nat×Bool)}
theorem opv_of {o:Oper}{v:Value}(h:∀w,(execOp (ev n ρ) o).run P w= .ok (.value v) w):OpV P n ρ A o v:=λ _ w _=>h w
theorem o_assign {x:Operand}{v:Value}(h:ev n ρ x=v):OpV P n ρ A ⟨dst,.assign x,ty,pos,after,gd⟩ v:=opv_of λ w=>by
  simp [execOp,h,pure]
theorem o_move {x:Operand}{v:Value}(h:ev n ρ x=v):OpV P n ρ A ⟨dst,.move x,ty,pos,after,gd⟩ v:=opv_of λ w=>by
  simp [execOp,h,pure]
theorem o_pick {c x y:Operand}{b:Bool}{v:Value}(h:ev n ρ c= .bool b)(hv:(if b then ev n ρ x else ev n ρ y)=v):OpV P n ρ A ⟨dst,.pick c x y,ty,pos,after,gd⟩ v:=opv_of λ w=>by
  simp [execOp,h,pure,asBool,bind,Sem.bind,hv]
theorem o_pick_t {c x y:Operand}{v:Value}(h:ev n ρ c= .bool true)(hv:ev n ρ x=v):OpV P n ρ A ⟨dst,.pick c x y,ty,pos,after,gd⟩ v:=o_pick h (by simpa using hv)
theorem o_pick_f {c x y:Operand}{v:Value}(h:ev n ρ c= .bool false)(hv:ev n ρ y=v):OpV P n ρ A ⟨dst,.pick c x y,ty,pos,after,gd⟩ v:=o_pick h (by simpa using hv)
theorem o_nilCheck {x:Operand}{a:Addr}(h:ev n ρ x= .pointer (some a)):OpV P n ρ A ⟨dst,.nilCheck x,ty,pos,after,gd⟩ (.pointer (some a)):=opv_of λ w=>by
  simp [execOp,h,pure]
theorem o_extract {x:Operand}{vs:List Value}{i:Nat}{v:Value}(h:ev n ρ x= .tuple vs.toArray)(hv:vs[i]? =some v):OpV P n ρ A ⟨dst,.extract x i,ty,pos,after,gd⟩ v:=opv_of λ w=>by
  simp [execOp,h,Instr.extract,pure,bind,Sem.bind,hv]
theorem o_add {t t':TypeId}{x y:Operand}{k:IntKind}{a b:Int}(hx:ev n ρ x= .int k a)(hy:ev n ρ y= .int k b):
    OpV P n ρ A ⟨dst,.binOp .add t x y t',ty,pos,after,gd⟩ (.int k (k.wrap (a+b))):=opv_of λ w=>by
  simp [execOp,hx,hy,eqGuard,binOp,Op.intArith,pure,bind,Sem.bind]
theorem o_sub {t t':TypeId}{x y:Operand}{k:IntKind}{a b:Int}(hx:ev n ρ x= .int k a)(hy:ev n ρ y= .int k b):
    OpV P n ρ A ⟨dst,.binOp .sub t x y t',ty,pos,after,gd⟩ (.int k (k.wrap (a-b))):=opv_of λ w=>by
  simp [execOp,hx,hy,eqGuard,binOp,Op.intArith,pure,bind,Sem.bind]
theorem o_mul {t t':TypeId}{x y:Operand}{k:IntKind}{a b:Int}(hx:ev n ρ x= .int k a)(hy:ev n ρ y= .int k b):
    OpV P n ρ A ⟨dst,.binOp .mul t x y t',ty,pos,after,gd⟩ (.int k (k.wrap (a*b))):=opv_of λ w=>by
  simp [execOp,hx,hy,eqGuard,binOp,Op.intArith,pure,bind,Sem.bind]
theorem o_quo {t t':TypeId}{x y:Operand}{k:IntKind}{a b:Int}(hx:ev n ρ x= .int k a)(hy:ev n ρ y= .int k b)(hb:b≠0):
    OpV P n ρ A ⟨dst,.binOp .quo t x y t',ty,pos,after,gd⟩ (.int k (k.wrap (a.tdiv b))):=opv_of λ w=>by
  simp [execOp,hx,hy,eqGuard,binOp,Op.intDiv,pure,bind,Sem.bind,hb]
theorem o_rem {t t':TypeId}{x y:Operand}{k:IntKind}{a b:Int}(hx:ev n ρ x= .int k a)(hy:ev n ρ y= .int k b)(hb:b≠0):
    OpV P n ρ A ⟨dst,.binOp .rem t x y t',ty,pos,after,gd⟩ (.int k (a.tmod b)):=opv_of λ w=>by
  simp [execOp,hx,hy,eqGuard,binOp,Op.intDiv,pure,bind,Sem.bind,hb]
theorem o_and {t t':TypeId}{x y:Operand}{k:IntKind}{a b:Int}(hx:ev n ρ x= .int k a)(hy:ev n ρ y= .int k b):
    OpV P n ρ A ⟨dst,.binOp .and t x y t',ty,pos,after,gd⟩ (.int k (k.wrap ((BitVec.ofInt k.bits a&&&BitVec.ofInt k.bits b).toNat))):=opv_of λ w=>by
  simp [execOp,hx,hy,eqGuard,binOp,Op.intBits,pure,bind,Sem.bind]
theorem o_or {t t':TypeId}{x y:Operand}{k:IntKind}{a b:Int}(hx:ev n ρ x= .int k a)(hy:ev n ρ y= .int k b):
    OpV P n ρ A ⟨dst,.binOp .or t x y t',ty,pos,after,gd⟩ (.int k (k.wrap ((BitVec.ofInt k.bits a|||BitVec.ofInt k.bits b).toNat))):=opv_of λ w=>by
  simp [execOp,hx,hy,eqGuard,binOp,Op.intBits,pure,bind,Sem.bind]
theorem o_xor {t t':TypeId}{x y:Operand}{k:IntKind}{a b:Int}(hx:ev n ρ x= .int k a)(hy:ev n ρ y= .int k b):
    OpV P n ρ A ⟨dst,.binOp .xor t x y t',ty,pos,after,gd⟩ (.int k (k.wrap ((BitVec.ofInt k.bits a^^^BitVec.ofInt k.bits b).toNat))):=opv_of λ w=>by
  simp [execOp,hx,hy,eqGuard,binOp,Op.intBits,pure,bind,Sem.bind]
theorem o_shl {t t':TypeId}{x y:Operand}{k k':IntKind}{a b:Int}(hx:ev n ρ x= .int k a)(hy:ev n ρ y= .int k' b)(hb:0<=b):
    OpV P n ρ A ⟨dst,.binOp .shl t x y t',ty,pos,after,gd⟩ (.int k (k.wrap (a*2^(min b.toNat k.bits)))):=opv_of λ w=>by
  simp [execOp,hx,hy,eqGuard,binOp,Op.shift,pure,bind,Sem.bind,Int.not_lt.2 hb]
theorem o_shr {t t':TypeId}{x y:Operand}{k k':IntKind}{a b:Int}(hx:ev n ρ x= .int k a)(hy:ev n ρ y= .int k' b)(hb:0<=b):
    OpV P n ρ A ⟨dst,.binOp .shr t x y t',ty,pos,after,gd⟩ (.int k (a.fdiv (2^(min b.toNat k.bits)))):=opv_of λ w=>by
  simp [execOp,hx,hy,eqGuard,binOp,Op.shift,pure,bind,Sem.bind,Int.not_lt.2 hb]
theorem o_lss {t t':TypeId}{x y:Operand}{k:IntKind}{a b:Int}(hx:ev n ρ x= .int k a)(hy:ev n ρ y= .int k b):
    OpV P n ρ A ⟨dst,.binOp .lss t x y t',ty,pos,after,gd⟩ (.bool (decide (a<b))):=opv_of λ w=>by
  simp [execOp,hx,hy,eqGuard,binOp,Op.intCmp,pure,bind,Sem.bind]
theorem o_leq {t t':TypeId}{x y:Operand}{k:IntKind}{a b:Int}(hx:ev n ρ x= .int k a)(hy:ev n ρ y= .int k b):
    OpV P n ρ A ⟨dst,.binOp .leq t x y t',ty,pos,after,gd⟩ (.bool (decide (a<=b))):=opv_of λ w=>by
  simp [execOp,hx,hy,eqGuard,binOp,Op.intCmp,pure,bind,Sem.bind]
theorem o_gtr {t t':TypeId}{x y:Operand}{k:IntKind}{a b:Int}(hx:ev n ρ x= .int k a)(hy:ev n ρ y= .int k b):
    OpV P n ρ A ⟨dst,.binOp .gtr t x y t',ty,pos,after,gd⟩ (.bool (decide (b<a))):=opv_of λ w=>by
  simp [execOp,hx,hy,eqGuard,binOp,Op.intCmp,pure,bind,Sem.bind]
theorem o_geq {t t':TypeId}{x y:Operand}{k:IntKind}{a b:Int}(hx:ev n ρ x= .int k a)(hy:ev n ρ y= .int k b):
    OpV P n ρ A ⟨dst,.binOp .geq t x y t',ty,pos,after,gd⟩ (.bool (decide (b<=a))):=opv_of λ w=>by
  simp [execOp,hx,hy,eqGuard,binOp,Op.intCmp,pure,bind,Sem.bind]
theorem o_eqi {t t':TypeId}{x y:Operand}{k:IntKind}{a b:Int}(hx:ev n ρ x= .int k a)(hy:ev n ρ y= .int k b):
    OpV P n ρ A ⟨dst,.binOp .eql t x y t',ty,pos,after,gd⟩ (.bool (decide (a=b))):=opv_of λ w=>by
  have:(a==b)=decide (a=b):=(by rw [Bool.eq_iff_iff];simp)
  simp [execOp,hx,hy,eqGuard,binOp,Op.intCmp,pure,bind,Sem.bind,this]
theorem o_nei {t t':TypeId}{x y:Operand}{k:IntKind}{a b:Int}(hx:ev n ρ x= .int k a)(hy:ev n ρ y= .int k b):
    OpV P n ρ A ⟨dst,.binOp .neq t x y t',ty,pos,after,gd⟩ (.bool (decide (a≠b))):=opv_of λ w=>by
  have:(a !=b)=decide (a≠b):=(by rw [Bool.eq_iff_iff];simp)
  simp [execOp,hx,hy,eqGuard,binOp,Op.intCmp,pure,bind,Sem.bind,this]
theorem o_not {t:TypeId}{x:Operand}{b:Bool}(hx:ev n ρ x= .bool b):OpV P n ρ A ⟨dst,.unOp .not t x,ty,pos,after,gd⟩ (.bool (!b)):=opv_of λ w=>by
  simp [execOp,hx,Op.unary,pure,bind,Sem.bind]
theorem o_neg {t:TypeId}{x:Operand}{k:IntKind}{a:Int}(hx:ev n ρ x= .int k a):OpV P n ρ A ⟨dst,.unOp .neg t x,ty,pos,after,gd⟩ (.int k (k.wrap (0-a))):=opv_of λ w=>by
  simp [execOp,hx,Op.unary,Op.intArith,pure,bind,Sem.bind]
theorem o_compl {t:TypeId}{x:Operand}{k:IntKind}{a:Int}(hx:ev n ρ x= .int k a):
    OpV P n ρ A ⟨dst,.unOp .xor t x,ty,pos,after,gd⟩ (.int k (k.wrap ((BitVec.ofInt k.bits (if k.signed then-1 else k.max)^^^BitVec.ofInt k.bits a).toNat))):=opv_of λ w=>by
  simp [execOp,hx,Op.unary,Op.intBits,pure,bind,Sem.bind]
theorem o_conv {s t:TypeId}{d:TypeDesc}{x:Operand}{k k':IntKind}{a:Int}(hs:P.underlying s=some d)(ht:P.underlying t=some (.int k'))(hx:ev n ρ x= .int k a):
    OpV P n ρ A ⟨dst,.convert s t x,ty,pos,after,gd⟩ (.int k' (k'.wrap a)):=opv_of λ w=>by
  simp only [execOp,hx,convert]
  rw [run_bind (a:= .int k' (k'.wrap a)) (w':=w)]
  . rfl
  rw [run_bind (run_und hs),run_bind (run_und ht)]
  cases d<;>rfl
theorem o_addI {t t':TypeId}{x y:Operand}{a b:Int}(hx:ev n ρ x= .int .i64 a)(hy:ev n ρ y= .int .i64 b)(h: -9223372036854775808<=a+b/\ a+b<=9223372036854775807):
    OpV P n ρ A ⟨dst,.binOp .add t x y t',ty,pos,after,gd⟩ (.int .i64 (a+b)):=by
  have:=o_add (P:=P) (A:=A) (dst:=dst) (ty:=ty) (pos:=pos) (after:=after) (gd:=gd) (t:=t) (t':=t') hx hy
  rwa [IntWalk.i64_in _ h] at this
theorem o_subI {t t':TypeId}{x y:Operand}{a b:Int}(hx:ev n ρ x= .int .i64 a)(hy:ev n ρ y= .int .i64 b)(h: -9223372036854775808<=a-b/\ a-b<=9223372036854775807):
    OpV P n ρ A ⟨dst,.binOp .sub t x y t',ty,pos,after,gd⟩ (.int .i64 (a-b)):=by
  have:=o_sub (P:=P) (A:=A) (dst:=dst) (ty:=ty) (pos:=pos) (after:=after) (gd:=gd) (t:=t) (t':=t') hx hy
  rwa [IntWalk.i64_in _ h] at this
theorem o_mulI {t t':TypeId}{x y:Operand}{a b:Int}(hx:ev n ρ x= .int .i64 a)(hy:ev n ρ y= .int .i64 b)(h: -9223372036854775808<=a*b/\ a*b<=9223372036854775807):
    OpV P n ρ A ⟨dst,.binOp .mul t x y t',ty,pos,after,gd⟩ (.int .i64 (a*b)):=by
  have:=o_mul (P:=P) (A:=A) (dst:=dst) (ty:=ty) (pos:=pos) (after:=after) (gd:=gd) (t:=t) (t':=t') hx hy
  rwa [IntWalk.i64_in _ h] at this
theorem o_quoI {t t':TypeId}{x y:Operand}{a b:Int}(hx:ev n ρ x= .int .i64 a)(hy:ev n ρ y= .int .i64 b)(h:0<=a/\ 0<b/\ a<=9223372036854775807):
    OpV P n ρ A ⟨dst,.binOp .quo t x y t',ty,pos,after,gd⟩ (.int .i64 (a/b)):=by
  have:=o_quo (P:=P) (A:=A) (dst:=dst) (ty:=ty) (pos:=pos) (after:=after) (gd:=gd) (t:=t) (t':=t') hx hy oqz;rw [Int.tdiv_eq_ediv_of_nonneg h.1] at this
  have h1:0<=a/b:=Int.ediv_nonneg h.1 oqz;have h2:a/b<=a:=Int.ediv_le_self b h.1
  rwa [IntWalk.i64_in _ oqz] at this
theorem o_remI {t t':TypeId}{x y:Operand}{k:IntKind}{a b:Int}(hx:ev n ρ x= .int k a)(hy:ev n ρ y= .int k b)(h:0<=a/\ 0<b):
    OpV P n ρ A ⟨dst,.binOp .rem t x y t',ty,pos,after,gd⟩ (.int k (a%b)):=by
  have:=o_rem (P:=P) (A:=A) (dst:=dst) (ty:=ty) (pos:=pos) (after:=after) (gd:=gd) (t:=t) (t':=t') hx hy oqz
  rwa [Int.tmod_eq_emod_of_nonneg h.1] at this
theorem equal_run {t:TypeId}{d:TypeDesc}{vx vy:Value}{r:Bool}{w:World}(hu:P.underlying t=some d)(k:∀m,(Op.equalIn (m+1) t vx vy).run P w= .ok r w):(Op.equal t vx vy).run P w= .ok r w:=k 9999
theorem o_eq_core {t t':TypeId}{x y:Operand}{vx vy:Value}{r:Bool}(hx:ev n ρ x=vx)(hy:ev n ρ y=vy)(hg:eqGuard .eql t x y vx vy=Sem.pure ())(hb:binOp .eql t vx vy=(do pure (.bool (←Op.equal t vx vy))))
    (he:∀w,(Op.equal t vx vy).run P w= .ok r w):OpV P n ρ A ⟨dst,.binOp .eql t x y t',ty,pos,after,gd⟩ (.bool r):=opv_of λ w=>by
  simp only [execOp,hx,hy,hg,hb]
  rw [run_bind (a:= .bool r) (w':=w)]
  . rfl
  rw [run_bind (a:=()) (w':=w) rfl,run_bind (he w)]
  rfl
theorem o_ne_core {t t':TypeId}{x y:Operand}{vx vy:Value}{r:Bool}(hx:ev n ρ x=vx)(hy:ev n ρ y=vy)(hg:eqGuard .neq t x y vx vy=Sem.pure ())(hb:binOp .neq t vx vy=(do pure (.bool (!(←Op.equal t vx vy)))))
    (he:∀w,(Op.equal t vx vy).run P w= .ok r w):OpV P n ρ A ⟨dst,.binOp .neq t x y t',ty,pos,after,gd⟩ (.bool (!r)):=opv_of λ w=>by
  simp only [execOp,hx,hy,hg,hb]
  rw [run_bind (a:= .bool (!r)) (w':=w)]
  . rfl
  rw [run_bind (a:=()) (w':=w) rfl,run_bind (he w)]
  rfl
theorem eqp_run {t e:TypeId}{a:Option Addr}{w:World}(hu:P.underlying t=some (.pointer e)):(Op.equal t (.pointer a) (.pointer none)).run P w= .ok a.isNone w:=equal_run hu λ m=>by
  rw [Op.equalIn,run_bind (run_und hu)];cases a<;>rfl
theorem o_eqp {t t' e:TypeId}{x y:Operand}{a:Option Addr}(hu:P.underlying t=some (.pointer e))(hx:ev n ρ x= .pointer a)(hy:ev n ρ y= .pointer none):
    OpV P n ρ A ⟨dst,.binOp .eql t x y t',ty,pos,after,gd⟩ (.bool a.isNone):=o_eq_core hx hy rfl rfl λ w=>eqp_run hu
theorem o_nep {t t' e:TypeId}{x y:Operand}{a:Option Addr}(hu:P.underlying t=some (.pointer e))(hx:ev n ρ x= .pointer a)(hy:ev n ρ y= .pointer none):
    OpV P n ρ A ⟨dst,.binOp .neq t x y t',ty,pos,after,gd⟩ (.bool (!a.isNone)):=o_ne_core hx hy rfl rfl λ w=>eqp_run hu
theorem eqs_run {t e:TypeId}{a:Option Addr}{l c:Nat}{w:World}(hu:P.underlying t=some (.slice e)):(Op.equal t (.slice a l c) (.slice none 0 0)).run P w= .ok a.isNone w:=equal_run hu λ m=>by
  rw [Op.equalIn,run_bind (run_und hu)];cases a<;>rfl
theorem o_eqs {t t' e:TypeId}{x y:Operand}{a:Option Addr}{l c:Nat}(hu:P.underlying t=some (.slice e))(hx:ev n ρ x= .slice a l c)(hy:ev n ρ y= .slice none 0 0):
    OpV P n ρ A ⟨dst,.binOp .eql t x y t',ty,pos,after,gd⟩ (.bool a.isNone):=o_eq_core hx hy rfl rfl λ w=>eqs_run hu
theorem o_fieldAddr {t:TypeId}{x:Operand}{i:Nat}{b off:Nat}{fs:Array Field}{f:Field}{k o:Nat}(hu:P.underlying t=some (.struct fs))(hf:fs[i]? =some f)(ho:f.offset=o)(hk:szE P f.type=some (k+1))
    (hx:ev n ρ x= .pointer (some ⟨b,off,none⟩)):OpV P n ρ A ⟨dst,.fieldAddr t x i,ty,pos,after,gd⟩ (.pointer (some ⟨b,off+o,none⟩)):=opv_of λ w=>by
  subst ho
  simp only [execOp,hx,Instr.fieldAt]
  rw [run_bind (a:= .pointer (some ⟨b,off+f.offset,none⟩)) (w':=w)]
  . rfl
  rw [run_bind (run_und hu)]
  simp only [hf,Instr.sureAddr,fieldPlace]
  have ha:(⟨b,off,none⟩:Addr).add f.offset=⟨b,off+f.offset,none⟩:=by
    unfold Addr.add;split
    . rename_i h0;simp [h0]
    rfl
  rw [run_bind (w':=w) (a:=(⟨b,off,none⟩:Addr)) rfl]
  rw [run_bind (w':=w) (a:=(⟨b,off+f.offset,none⟩:Addr))]
  . rfl
  rw [run_bind (run_size hk)]
  simp [ha,pure]
theorem addr_add (b off k:Nat):(⟨b,off,none⟩:Addr).add k=⟨b,off+k,none⟩:=by
  unfold Addr.add;split
  . rename_i h0;simp [h0]
  rfl
theorem o_indexAddr {t e:TypeId}{x y:Operand}{b off len cap k:Nat}{ik:IntKind}{i:Int}(hu:P.underlying t=some (.slice e))(hk:szE P e=some k)
    (hx:ev n ρ x= .slice (some ⟨b,off,none⟩) len cap) (hy:ev n ρ y= .int ik i) (h0:0<=i) (h1:i<len):
    OpV P n ρ A ⟨dst,.indexAddr t x y,ty,pos,after,gd⟩ (.pointer (some ⟨b,off+i.toNat*k,none⟩)):=opv_of λ w=>by
  simp only [execOp,hx,hy,Instr.indexAt,asIntOf]
  rw [run_bind (a:= .pointer (some ⟨b,off+i.toNat*k,none⟩)) (w':=w)]
  . rfl
  rw [run_bind (w':=w) (a:=(ik,i)) rfl,run_bind (run_und hu)]
  simp only []
  rw [run_bind (w':=w) (a:=(some ⟨b,off,none⟩,len,e)) rfl]
  simp only []
  rw [run_bind (run_und hu)]
  simp only [h0,h1,and_self,if_true,run_bind (run_size hk),addr_add]
  rfl
theorem o_indexAddrA {t e:TypeId}{x y:Operand}{b off len k:Nat}{ik:IntKind}{i:Int}(hu:P.underlying t=some (.array len e))(hk:szE P e=some k)
    (hx:ev n ρ x= .pointer (some ⟨b,off,none⟩)) (hy:ev n ρ y= .int ik i) (h0:0<=i) (h1:i<len):
    OpV P n ρ A ⟨dst,.indexAddr t x y,ty,pos,after,gd⟩ (.pointer (some ⟨b,off+i.toNat*k,none⟩)):=opv_of λ w=>by
  simp only [execOp,hx,hy,Instr.indexAt,asIntOf]
  rw [run_bind (a:= .pointer (some ⟨b,off+i.toNat*k,none⟩)) (w':=w)]
  . rfl
  rw [run_bind (w':=w) (a:=(ik,i)) rfl,run_bind (run_und hu)]
  simp only []
  rw [run_bind (w':=w) (a:=(⟨b,off,none⟩:Addr)) rfl,run_bind (w':=w) (a:=(some ⟨b,off,none⟩,len,e)) rfl]
  simp only []
  rw [run_bind (run_und hu)]
  simp only [h0,h1,and_self,if_true,run_bind (run_size hk),addr_add]
  rfl
section
variable {t e:TypeId} {x y:Operand} {b off len cap k:Nat} {ik:IntKind} {i:Int} {j:Nat}
theorem o_indexAddrN (hu:P.underlying t=some (.slice e))(hk:szE P e=some k)(hx:ev n ρ x= .slice (some ⟨b,off,none⟩) len cap)(hy:ev n ρ y= .int ik ((j:Nat):Int))(h1:j<len):
    OpV P n ρ A ⟨dst,.indexAddr t x y,ty,pos,after,gd⟩ (.pointer (some ⟨b,off+j*k,none⟩)):=o_indexAddr hu hk hx hy oqz oqz
theorem o_indexAddr1 (hu:P.underlying t=some (.slice e))(hk:szE P e=some 1)(hx:ev n ρ x= .slice (some ⟨b,off,none⟩) len cap)(hy:ev n ρ y= .int ik i)(h0:0<=i)(h1:i<len):
    OpV P n ρ A ⟨dst,.indexAddr t x y,ty,pos,after,gd⟩ (.pointer (some ⟨b,off+i.toNat,none⟩)):=by
  have:=o_indexAddr (A:=A) (dst:=dst) (ty:=ty) (pos:=pos) (after:=after) (gd:=gd) hu hk hx hy h0 h1
  rwa [Nat.mul_one] at this
theorem o_indexAddrN1 (hu:P.underlying t=some (.slice e))(hk:szE P e=some 1)(hx:ev n ρ x= .slice (some ⟨b,off,none⟩) len cap)(hy:ev n ρ y= .int ik ((j:Nat):Int))(h1:j<len):
    OpV P n ρ A ⟨dst,.indexAddr t x y,ty,pos,after,gd⟩ (.pointer (some ⟨b,off+j,none⟩)):=o_indexAddr1 hu hk hx hy oqz oqz
theorem o_indexAddrA1 (hu:P.underlying t=some (.array len e))(hk:szE P e=some 1)(hx:ev n ρ x= .pointer (some ⟨b,off,none⟩))(hy:ev n ρ y= .int ik i)(h0:0<=i)(h1:i<len):
    OpV P n ρ A ⟨dst,.indexAddr t x y,ty,pos,after,gd⟩ (.pointer (some ⟨b,off+i.toNat,none⟩)):=by
  have:=o_indexAddrA (A:=A) (dst:=dst) (ty:=ty) (pos:=pos) (after:=after) (gd:=gd) hu hk hx hy h0 h1
  rwa [Nat.mul_one] at this
theorem o_indexAddrAN1 (hu:P.underlying t=some (.array len e))(hk:szE P e=some 1)(hx:ev n ρ x= .pointer (some ⟨b,off,none⟩))(hy:ev n ρ y= .int ik ((j:Nat):Int))(h1:j<len):
    OpV P n ρ A ⟨dst,.indexAddr t x y,ty,pos,after,gd⟩ (.pointer (some ⟨b,off+j,none⟩)):=o_indexAddrA1 hu hk hx hy oqz oqz
end
theorem o_index1 {t e:TypeId}{x y:Operand}{len:Nat}{cs:List Value}{ik:IntKind}{i:Int}{v:Value}(hu:P.underlying t=some (.array len e))(hk:szE P e=some 1)(hp:plainE P e=true)
    (hx:ev n ρ x= .agg cs.toArray) (hy:ev n ρ y= .int ik i) (h0:0<=i) (h1:i<len) (hv:cs[i.toNat]? =some v):
    OpV P n ρ A ⟨dst,.index t x y,ty,pos,after,gd⟩ v:=opv_of λ w=>by
  simp only [execOp,hx,hy,Instr.index,asIntOf]
  rw [run_bind (a:=v) (w':=w)]
  . rfl
  rw [run_bind (w':=w) (a:=(ik,i)) rfl,run_bind (run_und hu)]
  simp only [h0,h1,and_self,if_true,run_bind (run_size hk),part]
  rw [run_bind (run_isAgg_f hp)]
  simp [hv,pure]
end
end Go.Vl

namespace Go.Vl
open Go
def oneC:Value->Bool
  | .agg _| .tuple _=>false
  |_=>true
section
variable {P:Program} {w:World}
theorem cell_cl {w:World}{b:Nat}{l:List Value}{E:TypeId}(h:w.heap[b]? =some (cl l E))(i:Nat):w.cell? ⟨b,i,none⟩=l[i]? :=by
  simp [World.cell?,h,cl]
theorem frozen_cl {w:World}{b:Nat}{l:List Value}{E:TypeId}(h:w.heap[b]? =some (cl l E))(i:Nat):w.frozen? ⟨b,i,none⟩=false:=by
  simp [World.frozen?,h,cl]
theorem run_load1 {b i:Nat}{v:Value}(h:w.cell? ⟨b,i,none⟩=some v):(load ⟨b,i,none⟩).run P w= .ok v w:=by
  simp [load,Sem.run,h]
theorem run_loadCellsFrom {b off:Nat}:∀ (k i:Nat) (acc:Array Value) (l:List Value),(∀j,j<k->w.cell? ⟨b,off+i+j,none⟩=l[j]?)->l.length=k→
    (loadCellsFrom ⟨b,off,none⟩ i k acc).run P w= .ok (acc++l.toArray) w
  |0,i,acc,l,_,hl=>by
    have:l=[]:=List.eq_nil_of_length_eq_zero hl;subst this
    simp [loadCellsFrom,pure,Sem.run]
  |k+1,i,acc,l,h,hl=>by
    match l,hl with
    |v::l,hl=>
      have h0:=h 0 oqz
      simp only [Nat.add_zero,List.getElem?_cons_zero] at h0
      have hr:(load ((⟨b,off,none⟩:Addr).add i)).run P w= .ok v w:=(by rw [addr_add];exact run_load1 h0)
      simp only [loadCellsFrom]
      rw [run_bind hr,run_loadCellsFrom k (i+1) (acc.push v) l (λ j hj=>by
        have:=h (j+1) oqz
        simp only [List.getElem?_cons_succ] at this
        rw [←this];congr 2;omega) (by simpa using hl)]
      simp
theorem run_loadCells {b off k:Nat}{l:List Value}{E:TypeId}(h:w.heap[b]? =some (cl l E))(hk:off+k<=l.length):
    (loadCells ⟨b,off,none⟩ k).run P w= .ok ((l.drop off).take k).toArray w:=by
  unfold loadCells
  rw [run_loadCellsFrom k 0 #[] ((l.drop off).take k) (λ j hj=>by
    rw [cell_cl h,List.getElem?_take];simp [hj]) (by simp;omega)]
  simp
def splice (l:List Value)(off:Nat):List Value->List Value
  |[]=>l
  |v::vs=>splice (l.set off v) (off+1) vs
theorem splice_length (vs:List Value):∀ (l:List Value) (off:Nat),(splice l off vs).length=l.length:=by
  induction vs with
  |nil=>intro l off;rfl
  |cons v vs ih=>intro l off;simp [splice,ih]
theorem splice_getElem? (vs:List Value):∀ (l:List Value) (off i:Nat),off+vs.length<=l.length->(splice l off vs)[i]? =if off<=i/\ i<off+vs.length then vs[i-off]? else l[i]? :=by
  induction vs with
  |nil=>intro l off i _;simp only [splice,List.length_nil];rw [if_neg oqz]
  |cons v vs ih=>
    intro l off i hl
    simp only [splice,List.length_cons] at*
    rw [ih _ _ _ (by simp;omega)]
    by_cases h1:off+1<=i/\ i<off+1+vs.length
    . rw [if_pos h1,if_pos oqz]
      have:i-off=(i-(off+1))+1:=(by omega);rw [this,List.getElem?_cons_succ]
    rw [if_neg h1]
    by_cases h2:i=off
    . subst h2;rw [if_pos oqz,List.getElem?_set_self oqz]
      simp
    rw [if_neg oqz,List.getElem?_set_ne oqz]
theorem splice_eq {vs l:List Value}{off:Nat}(h:off+vs.length<=l.length):splice l off vs=l.take off++vs++l.drop (off+vs.length):=by
  apply List.ext_getElem?
  intro i;rw [splice_getElem? _ _ _ _ h]
  by_cases h1:i<off
  . rw [if_neg oqz,List.append_assoc,List.getElem?_append_left (by simp;omega),List.getElem?_take,if_pos h1]
  by_cases h2:i<off+vs.length
  . rw [if_pos oqz,List.append_assoc,List.getElem?_append_right (by simp;omega),List.getElem?_append_left (by simp;omega)]
    congr 1;simp;omega
  rw [if_neg oqz,List.getElem?_append_right (by simp;omega),List.getElem?_drop]
  congr 1;simp;omega
theorem run_store1 {b i:Nat}{l:List Value}{E:TypeId}{v:Value}(h:w.heap[b]? =some (cl l E))(hi:i<l.length)(hv:oneC v=true):
    (store ⟨b,i,none⟩ v).run P w= .ok () (w.setCell ⟨b,i,none⟩ v):=by
  have hc:=cell_cl h i;have hf:=frozen_cl h i;rw [List.getElem?_eq_getElem hi] at hc
  cases v<;>first|(simp [Vl.oneC] at hv;done)|simp [store,Sem.run,hc,hf]
theorem heap_setCell {w:World}{b i:Nat}{l:List Value}{E:TypeId}{v:Value}(h:w.heap[b]? =some (cl l E))(k:Nat):
    (w.setCell ⟨b,i,none⟩ v).heap[k]? =if k=b then some (cl (l.set i v) E) else w.heap[k]? :=by
  simp only [World.setCell,Array.getElem?_modify]
  by_cases hk:b=k
  . subst hk
    simp [h,cl]
  rw [if_neg hk,if_neg (Ne.symm hk)]
theorem run_storeCells {b off:Nat}{E:TypeId}:∀ (vs:List Value) (i:Nat) (l:List Value) (w:World),w.heap[b]? =some (cl l E)->off+i+vs.length<=l.length->(∀v∈vs,oneC v=true)→
    ∃w',(storeCells ⟨b,off,none⟩ vs i).run P w= .ok () w'/\ (∀k,w'.heap[k]? =if k=b then some (cl (splice l (off+i) vs) E) else w.heap[k]?)/\ w'.os=w.os/\ w'.tape=w.tape/\ w'.output=w.output
  |[],i,l,w,h,_,_=>⟨w,by simp [storeCells,pure,Sem.run],λ k=>by
      by_cases hk:k=b
      . subst hk;simp [splice,h]
      simp [hk],rfl,rfl,rfl⟩
  |v::vs,i,l,w,h,hl,hv=>by
    have h1:=run_store1 (P:=P) (i:=off+i) (v:=v) h (by simp at hl;omega) (hv v (by simp));have hb:(w.setCell ⟨b,off+i,none⟩ v).heap[b]? =some (cl (l.set (off+i) v) E):=(by rw [heap_setCell h];simp);obtain ⟨w',hr,hh,e1,e2,e3⟩:=run_storeCells (b:=b) (off:=off) vs (i+1) (l.set (off+i) v) _ hb (by simp at hl ⊢;omega) (λ u hu=>hv u (by simp [hu]));refine ⟨w', ?_,λ k=> ?_,e1,e2,e3⟩
    . simp only [storeCells]
      rw [addr_add,run_bind h1,hr]
    rw [hh k,heap_setCell h]
    by_cases hk:k=b
    . simp [hk,splice,Nat.add_assoc]
    simp [hk]
end
section
variable {P:Program} {n:Nat} {ρ:Env} {A:SP} {dst:Option Tmp} {ty:TypeId} {pos:String} {after:Array Edge} {gd:Option (Nat×Bool)}
theorem o_load {t:TypeId}{x:Operand}{b off:Nat}{l:List Value}{E:TypeId}{v:Value}(hp:plainE P t=true)(hx:ev n ρ x= .pointer (some ⟨b,off,none⟩))(hh:Has A b (cl l E))(hv:l[off]? =some v):
    OpV P n ρ A ⟨dst,.load t x,ty,pos,after,gd⟩ v:=λ g w hs=>by
  have h:=hh g w hs
  simp only [execOp,hx,Instr.loadAt,Instr.sureAddr]
  rw [run_bind (a:=v) (w':=w)]
  . rfl
  rw [run_bind (w':=w) (a:=(⟨b,off,none⟩:Addr)) rfl]
  unfold loadVar
  rw [run_bind (run_isAgg_f hp)]
  exact run_load1 (by rw [cell_cl h,hv])
theorem o_loadN {t:TypeId}{x:Operand}{b off k:Nat}{l:List Value}{E:TypeId}{vs:List Value}(hp:aggE P t=true)(hk:szE P t=some k)(hx:ev n ρ x= .pointer (some ⟨b,off,none⟩))(hh:Has A b (cl l E))
    (hl:off+k<=l.length) (hv:(l.drop off).take k=vs):OpV P n ρ A ⟨dst,.load t x,ty,pos,after,gd⟩ (.agg vs.toArray):=λ g w hs=>by
  have h:=hh g w hs
  simp only [execOp,hx,Instr.loadAt,Instr.sureAddr]
  rw [run_bind (a:= .agg vs.toArray) (w':=w)]
  . rfl
  rw [run_bind (w':=w) (a:=(⟨b,off,none⟩:Addr)) rfl]
  unfold loadVar
  rw [run_bind (run_isAgg_t hp)]
  simp only [if_true]
  rw [run_bind (run_size hk),run_bind (run_loadCells h hl),hv]
  rfl
theorem o_storeV {t:TypeId}{x y:Operand}{b off k:Nat}{l l':List Value}{E:TypeId}{v:Value}{A':SP}{vs:List Value}(hk:szE P t=some k)(hx:ev n ρ x= .pointer (some ⟨b,off,none⟩))(hy:ev n ρ y=v)
    (hc:v.cells=vs.toArray) (hn:vs.length=k) (ho:∀u∈vs,oneC u=true) (hl:off+k<=l.length) (he:splice l off vs=l') (hu:Upd A b (cl l E) (cl l' E) A'):OpU P n ρ A ⟨dst,.store t x y,ty,pos,after,gd⟩ A':=λ g w hs=>by
  have h:=hu.has g w hs;obtain ⟨w',hr,hh,e1,e2,e3⟩:=run_storeCells (P:=P) (off:=off) vs 0 l w h oqz ho;refine ⟨w', ?_,hu.sat hs (λ j=>by rw [hh j,←he];rfl) e1 e2 e3⟩
  simp only [execOp,hx,hy,Instr.storeAt,Instr.sureAddr]
  rw [run_bind (a:=()) (w':=w')]
  . rfl
  rw [run_bind (w':=w) (a:=(⟨b,off,none⟩:Addr)) rfl]
  unfold storeVar
  rw [run_bind (run_size hk),hc]
  simp only [List.size_toArray,hn,ne_eq,not_true_eq_false,if_false]
  have:=hr
  simpa using this
theorem o_store {t:TypeId}{x y:Operand}{b off:Nat}{l l':List Value}{E:TypeId}{v:Value}{A':SP}(hk:szE P t=some 1)(hx:ev n ρ x= .pointer (some ⟨b,off,none⟩))(hy:ev n ρ y=v)
    (ho:oneC v=true) (hl:off<l.length) (he:l.set off v=l') (hu:Upd A b (cl l E) (cl l' E) A'):OpU P n ρ A ⟨dst,.store t x y,ty,pos,after,gd⟩ A':=
  o_storeV (vs:=[v]) hk hx hy (by cases v<;>first|(simp [Vl.oneC] at ho;done)|rfl) rfl (by simpa using ho) oqz (by simpa [splice] using he) hu
theorem o_storeN {t:TypeId}{x y:Operand}{b off k:Nat}{l l':List Value}{E:TypeId}{vs:List Value}{A':SP}(hk:szE P t=some k)(hx:ev n ρ x= .pointer (some ⟨b,off,none⟩))(hy:ev n ρ y= .agg vs.toArray)
    (hn:vs.length=k) (ho:vs.all oneC=true) (hl:off+k<=l.length) (he:splice l off vs=l') (hu:Upd A b (cl l E) (cl l' E) A'):OpU P n ρ A ⟨dst,.store t x y,ty,pos,after,gd⟩ A':=
  o_storeV (vs:=vs) hk hx hy rfl hn (λ u hu=>List.all_eq_true.1 ho u hu) hl he hu
theorem run_newRow {E:TypeId}{l:List Value}{w:World}:(newRow E l.toArray).run P w= .ok ⟨w.heap.size,0,none⟩ (w.alloc (cl l E)):=by
  rfl
def New (A:SP)(l:List Value)(E:TypeId):Value->SP->Prop:=λ v B=>∃b,v=(pz b)/\ B=A*pt b (cl l E)
def NewS (A:SP)(l:List Value)(E:TypeId)(k c:Nat):Value->SP->Prop:=λ v B=>∃b,v= .slice (some ⟨b,0,none⟩) k c/\ B=A*pt b (cl l E)
theorem o_alloc {e:TypeId}{z:Value}{l:List Value}(hz:zeroE P e=some z)(hl:z.cells=l.toArray):OpX P n ρ A ⟨dst,.alloc e,ty,pos,after,gd⟩ (New A l e):=λ g w hs=>by
  refine ⟨_,w.alloc (cl l e),_, ?_,hs.alloc _,w.heap.size,rfl,rfl⟩
  simp only [execOp,Instr.alloc]
  rw [run_bind (a:= .pointer (some ⟨w.heap.size,0,none⟩)) (w':=w.alloc (cl l e))]
  . rfl
  rw [run_bind (run_zeroV hz)]
  simp only [newVar,hl]
  rw [run_bind run_newRow]
  rfl
theorem o_box {e:TypeId}{x:Operand}{v:Value}{l:List Value}(hx:ev n ρ x=v)(hl:v.cells=l.toArray):OpX P n ρ A ⟨dst,.box e x,ty,pos,after,gd⟩ (New A l e):=λ g w hs=>by
  refine ⟨_,w.alloc (cl l e),_, ?_,hs.alloc _,w.heap.size,rfl,rfl⟩
  simp only [execOp,Instr.box,newVar,hx,hl]
  rw [run_bind (a:= .pointer (some ⟨w.heap.size,0,none⟩)) (w':=w.alloc (cl l e))]
  . rfl
  rw [run_bind run_newRow]
  rfl
theorem o_build {t:TypeId}{parts:Array (Nat×Operand)}{vs:List (Nat×Value)}{v:Value}(hx:parts.toList.map (λ p=>(p.1,ev n ρ p.2))=vs)(hr:∀w,(Instr.build t vs.toArray).run P w= .ok v w):
    OpV P n ρ A ⟨dst,.build t parts,ty,pos,after,gd⟩ v:=opv_of λ w=>by
  have he:parts.map (λ p=>(p.1,ev n ρ p.2))=vs.toArray:=Array.ext' (by rw [Array.toList_map,hx])
  simp only [execOp]
  rw [run_bind (a:=v) (w':=w)]
  . rfl
  rw [←hr w,←he]
theorem o_buildSlice {t e:TypeId}{len k:Nat}{z:Value}{parts:Array (Nat×Operand)}{vs:List (Nat×Value)}{l:List Value}(hu:P.underlying t=some (.slice e))(hk:szE P e=some k)(hz:zeroE P e=some z)
    (hx:parts.toList.map (λ p=>(p.1,ev n ρ p.2))=vs) (hle:len*k<=16777216) (hpos:len*k≠0)
    (hf:Instr.fill (λ i=>some (i*k,k)) ((Array.range (len*k)).map (z.cells[·%z.cells.size]!)) vs=some l.toArray):
    OpX P n ρ A ⟨dst,.buildSlice t len parts,ty,pos,after,gd⟩ (NewS A l e len len):=λ g w hs=>by
  refine ⟨_,w.alloc (cl l e),_, ?_,hs.alloc _,w.heap.size,rfl,rfl⟩;have he:parts.map (λ p=>(p.1,ev n ρ p.2))=vs.toArray:=Array.ext' (by rw [Array.toList_map,hx])
  simp only [execOp]
  rw [run_bind (a:= .slice (some ⟨w.heap.size,0,none⟩) len len) (w':=w.alloc (cl l e))]
  . rfl
  show (Instr.buildSlice t len (parts.map λ p=>(p.1,ev n ρ p.2))).run P w=_
  rw [he]
  unfold Instr.buildSlice
  rw [run_bind (run_und hu)]
  simp only []
  rw [run_bind (run_size hk)]
  rw [if_neg (by have : (2 : Nat) ^ 24 = 16777216 := by decide
                 omega)]
  simp only [hpos,if_false]
  rw [run_bind (run_zeroV hz)]
  show Sem.run P (match Instr.fill (λ i=>some (i*k,k)) (Array.map (λ x=>z.cells[x%z.cells.size]!) (Array.range (len*k))) vs with
    |some cells=>_
    |_=>_) w=_
  rw [hf]
  simp only []
  rw [run_bind run_newRow]
  rfl
end
end Go.Vl

namespace Go.Vl
open Go
section
variable {P:Program} {n:Nat} {ρ:Env} {A:SP} {dst:Option Tmp} {ty:TypeId} {pos:String} {after:Array Edge} {gd:Option (Nat×Bool)}
def bodyB (P:Program)(f:FuncId):Bool:=match P.funcs[f]? with
  | some fn => fn.name != "runtime.NumGoroutine" && fn.body.isSome
  |none=>false
theorem run_callFunc {f:FuncId}{args:Array Value}{w:World}(h:bodyB P f=true):(callFunc f args).run P w= .ok (.enter f args) w:=by
  unfold bodyB at h
  cases hf:P.funcs[f]? with
  |none=>rw [hf] at h;cases h
  |some fn=>
    rw [hf] at h
    simp at h
    obtain ⟨h1,h2⟩:=h;have h3:fn.body.isNone=false:=(by cases hb:fn.body<;>simp_all)
    unfold callFunc
    rw [run_bind (w':=w) (a:=P) (by simp [program,Sem.run])]
    simp [hf,h1,h3,pure]
theorem exec_call {f:FuncId}{args:Array Operand}{tys:Array TypeId}{vs:List Value}{w:World}(hb:bodyB P f=true)(ha:args.toList.map (ev n ρ)=vs):
    (execOp (ev n ρ) ⟨dst,.call { callee:= .value (.func f),args:=args,argTypes:=tys },ty,pos,after,gd⟩).run P w= .ok (.enter f vs.toArray) w:=by
  have he:args.map (ev n ρ)=vs.toArray:=Array.ext' (by rw [Array.toList_map,ha])
  simp only [execOp,resolve,ev,Deferred.ofValue,he]
  rw [run_bind (w':=w) (a:=⟨.fn (.func f) #[],#[]++vs.toArray⟩) (by rfl)]
  simp only [invoke]
  rw [run_callFunc hb]
  simp
theorem o_call {f:FuncId}{args:Array Operand}{tys:Array TypeId}{vs:List Value}{R:Value->SP->Prop}(hb:bodyB P f=true)(ha:args.toList.map (ev n ρ)=vs)(hc:Fn P f vs.toArray A R):
    OpC P n ρ A ⟨dst,.call { callee:= .value (.func f),args:=args,argTypes:=tys },ty,pos,after,gd⟩ R:=λ g w hs=>
  ⟨f,vs.toArray,w,exec_call hb ha,hc g w hs⟩
theorem exec_dyn {x:Operand}{f:FuncId}{args:Array Operand}{tys:Array TypeId}{vs fs cs:List Value}{w:World}(hb:bodyB P f=true)(hx:ev n ρ x= .func (.func f) fs.toArray cs.toArray)(ha:args.toList.map (ev n ρ)=vs):
    (execOp (ev n ρ) ⟨dst,.call { callee:= .value x,args:=args,argTypes:=tys },ty,pos,after,gd⟩).run P w= .ok (.enter f (fs++vs++cs).toArray) w:=by
  have he:args.map (ev n ρ)=vs.toArray:=Array.ext' (by rw [Array.toList_map,ha])
  simp only [execOp,resolve,hx,Deferred.ofValue,he]
  rw [run_bind (w':=w) (a:=⟨.fn (.func f) cs.toArray,fs.toArray++vs.toArray⟩) (by rfl)]
  simp only [invoke]
  rw [run_callFunc hb]
  simp
theorem o_dyn {x:Operand}{f:FuncId}{args:Array Operand}{tys:Array TypeId}{vs fs cs:List Value}{R:Value->SP->Prop}(hb:bodyB P f=true)(hx:ev n ρ x= .func (.func f) fs.toArray cs.toArray)(ha:args.toList.map (ev n ρ)=vs)
    (hc:Fn P f (fs++vs++cs).toArray A R):OpC P n ρ A ⟨dst,.call { callee:= .value x,args:=args,argTypes:=tys },ty,pos,after,gd⟩ R:=λ g w hs=>
  ⟨f,_,w,exec_dyn hb hx ha,hc g w hs⟩
theorem o_makeFunc {fn:Go.Fn}{first captured:Array Operand}{fs cs:List Value}(h1:first.toList.map (ev n ρ)=fs)(h2:captured.toList.map (ev n ρ)=cs):
    OpV P n ρ A ⟨dst,.makeFunc fn first captured,ty,pos,after,gd⟩ (.func fn fs.toArray cs.toArray):=opv_of λ w=>by
  have e1:first.map (ev n ρ)=fs.toArray:=Array.ext' (by rw [Array.toList_map,h1]);have e2:captured.map (ev n ρ)=cs.toArray:=Array.ext' (by rw [Array.toList_map,h2])
  simp only [execOp,Instr.makeFunc,e1,e2]
  rfl
theorem o_len {t e:TypeId}{x:Operand}{a:Option Addr}{l c:Nat}(hu:P.underlying t=some (.slice e))(hx:ev n ρ x= .slice a l c):
    OpV P n ρ A ⟨dst,.call { callee:= .builtin .len,args:= #[x],argTypes:= #[t] },ty,pos,after,gd⟩ (.int .i64 l):=opv_of λ w=>by
  simp only [execOp,resolve,List.map_toArray,List.map_cons,List.map_nil,hx]
  rw [run_bind (w':=w) (a:=⟨.builtin .len #[t] ty _,#[.slice a l c]⟩) (by rfl)]
  simp only [invoke,builtin]
  rw [run_bind (w':=w) (a:= .int .i64 l)]
  . rfl
  simp only [Builtin.len_,List.getElem?_toArray,List.getElem?_cons_zero]
  rw [run_bind (run_und hu)]
  rfl
theorem o_lenS {t:TypeId}{x:Operand}{s:ByteArray}(hu:P.underlying t=some .string)(hx:ev n ρ x= .string s):
    OpV P n ρ A ⟨dst,.call { callee:= .builtin .len,args:= #[x],argTypes:= #[t] },ty,pos,after,gd⟩ (.int .i64 s.size):=opv_of λ w=>by
  simp only [execOp,resolve,List.map_toArray,List.map_cons,List.map_nil,hx]
  rw [run_bind (w':=w) (a:=⟨.builtin .len #[t] ty _,#[.string s]⟩) (by rfl)]
  simp only [invoke,builtin]
  rw [run_bind (w':=w) (a:= .int .i64 s.size)]
  . rfl
  simp only [Builtin.len_,List.getElem?_toArray,List.getElem?_cons_zero]
  rw [run_bind (run_und hu)]
  rfl
def bnd (n:Nat)(ρ:Env):Option Operand->Nat->Nat->Prop
  |none,d,r=>r=d
  |some x,_,r=>∃k i,ev n ρ x= .int k i/\ 0<=i/\ r=i.toNat
theorem run_bound {k:IntKind}{r y:Nat}{code:BoundsCode}{w:World}(h:r<=y):(Instr.sliceBound (.int k r) y code).run P w= .ok r w:=by
  unfold Instr.sliceBound
  rw [run_bind (w':=w) (a:=(k,(r:Int))) (by rfl)]
  simp only []
  rw [if_pos ⟨by omega,by omega⟩]
  simp [pure]
theorem bnd_none {d:Nat}:bnd n ρ none d d:=rfl
theorem bnd_nat {x:Operand}{d r:Nat}{k:IntKind}(h:ev n ρ x= .int k (r:Int)):bnd n ρ (some x) d r:=⟨k,r,h,by omega,by omega⟩
theorem run_bounds {b:Bool}{len cap l h:Nat}{lo hi:Option Operand}{w:World}(hl:bnd n ρ lo 0 l)(hh:bnd n ρ hi len h)(h1:l<=h)(h2:h<=cap):
    (Instr.sliceBounds b len cap (lo.map (ev n ρ)) (hi.map (ev n ρ)) none).run P w= .ok (l,h,cap) w:=by
  unfold Instr.sliceBounds
  rw [run_bind (w':=w) (a:=cap) (by rfl)]
  have e1:∀ (K:Nat->Sem (Nat×Nat×Nat)) (f:Sem Nat),f.run P w= .ok h w->(f>>=K).run P w=(K h).run P w:=λ K f hf=>run_bind hf
  cases hi with
  |none=>
    obtain rfl:h=len:=hh
    simp only [Option.map_none]
    rw [run_bind (w':=w) (a:=h) (by rfl)]
    cases lo with
    |none=>obtain rfl:l=0:=hl;simp [pure,bind,Sem.bind]
    |some x=>
      obtain ⟨k,i,hk,hi0,rfl⟩:=hl;have hki:ev n ρ x= .int k ((i.toNat:Nat):Int):=(by rw [hk,Int.toNat_of_nonneg hi0])
      simp only [Option.map_some,hki]
      rw [run_bind (run_bound h1)]
      rfl
  |some y=>
    obtain ⟨k,i,hk,hi0,rfl⟩:=hh;have hki:ev n ρ y= .int k ((i.toNat:Nat):Int):=(by rw [hk,Int.toNat_of_nonneg hi0])
    simp only [Option.map_some,hki]
    rw [run_bind (run_bound h2)]
    cases lo with
    |none=>obtain rfl:l=0:=hl;simp [pure,bind,Sem.bind]
    |some x=>
      obtain ⟨k,i,hk,hi0,rfl⟩:=hl;have hki:ev n ρ x= .int k ((i.toNat:Nat):Int):=(by rw [hk,Int.toNat_of_nonneg hi0])
      simp only [Option.map_some,hki]
      rw [run_bind (run_bound h1)]
      rfl
def cutAddr (a:Option Addr)(cap l k:Nat):Option Addr:=if cap=l then a else a.map (·.add (l*k))
theorem o_slice {t e:TypeId}{x:Operand}{lo hi:Option Operand}{a:Option Addr}{len cap l h k:Nat}(hu:P.underlying t=some (.slice e))(hk:szE P e=some k)(hx:ev n ρ x= .slice a len cap)
    (hl:bnd n ρ lo 0 l) (hh:bnd n ρ hi len h) (h1:l<=h) (h2:h<=cap):
    OpV P n ρ A ⟨dst,.slice t x lo hi none,ty,pos,after,gd⟩ (.slice (cutAddr a cap l k) (h-l) (cap-l)):=opv_of λ w=>by
  simp only [execOp,hx]
  rw [run_bind (w':=w) (a:= .slice (cutAddr a cap l k) (h-l) (cap-l))]
  . rfl
  unfold Instr.sliceAt
  rw [run_bind (run_und hu)]
  simp only []
  unfold Instr.slice
  rw [run_bind (run_und hu)]
  simp only []
  have:=run_bounds (P:=P) (b:=true) (w:=w) hl hh h1 h2;rw [show (Option.map (ev n ρ) none:Option Value)=none from rfl]
  rw [run_bind this]
  simp only []
  rw [run_bind (run_size hk)]
  rfl
theorem o_sliceS {t:TypeId}{x:Operand}{lo hi:Option Operand}{s:ByteArray}{l h:Nat}(hu:P.underlying t=some .string)(hx:ev n ρ x= .string s)
    (hl:bnd n ρ lo 0 l) (hh:bnd n ρ hi s.size h) (h1:l<=h) (h2:h<=s.size):
    OpV P n ρ A ⟨dst,.slice t x lo hi none,ty,pos,after,gd⟩ (.string (s.extract l h)):=opv_of λ w=>by
  simp only [execOp,hx]
  rw [run_bind (w':=w) (a:= .string (s.extract l h))]
  . rfl
  unfold Instr.sliceAt
  rw [run_bind (run_und hu)]
  simp only []
  unfold Instr.slice
  rw [run_bind (run_und hu)]
  simp only [Option.map_none,Option.isSome_none,Bool.false_eq_true,if_false]
  have:=run_bounds (P:=P) (b:=false) (w:=w) hl hh h1 h2;rw [run_bind this]
  rfl
theorem o_makeSlice {t e:TypeId}{x y:Operand}{len cap:Nat}{bytes:Nat}{k1 k2:IntKind}{z:Value}(hu:P.underlying t=some (.slice e))(hk:szE P e=some 1)(hb:bytesE P e=some bytes)(hz:zeroE P e=some z)(ho:oneC z=true)
    (hx:ev n ρ x= .int k1 len) (hy:ev n ρ y= .int k2 cap) (h1:len<=cap) (h2:cap*bytes<=140737488355328) (h3:cap<=140737488355328):
    OpX P n ρ A ⟨dst,.makeSlice t x y,ty,pos,after,gd⟩ (NewS A (List.replicate cap z) e len cap):=λ g w hs=>by
  refine ⟨_,w.alloc (cl (List.replicate cap z) e),_, ?_,hs.alloc _,w.heap.size,rfl,rfl⟩;have w1:IntKind.i64.wrap (len:Int)=len:=(by rw [IntWalk.i64_in _ oqz]);have w2:IntKind.i64.wrap (cap:Int)=cap:=(by rw [IntWalk.i64_in _ oqz]);obtain ⟨i,hi,hib⟩:=run_bytes (w:=w) hb;have p47:(2:Nat)^47=140737488355328:=(by decide);have p48:(2:Int)^48=281474976710656:=(by decide)
  simp only [execOp,hx,hy]
  rw [run_bind (w':=w.alloc (cl (List.replicate cap z) e)) (a:= .slice (some ⟨w.heap.size,0,none⟩) len cap)]
  . rfl
  unfold Instr.makeSlice
  rw [run_bind (run_und hu)]
  simp only []
  rw [run_bind (w':=w) (a:=(len:Int)) (by rfl),run_bind (w':=w) (a:=(cap:Int)) (by rfl),run_bind hi]
  simp only [w1,w2,hib,p48]
  have hcb:(bytes:Int)*(cap:Int)<=140737488355328:=by
    have:(bytes:Int)*(cap:Int)=((cap*bytes:Nat):Int):=(by rw [Nat.mul_comm];simp);rw [this];omega
  rw [if_neg (by simp;omega)]
  have ask:(askRoom (((cap:Nat):Int).toNat*bytes)).run P w= .ok () w:=by
    unfold askRoom roomBytes
    rw [p47,if_neg (by simp;omega)];rfl
  rw [run_bind ask,run_bind (run_size hk)]
  by_cases h0:cap=0
  . subst h0
    simp only [Int.toNat_natCast,Nat.zero_mul,if_true,List.replicate_zero]
    have hr0:∀f:Nat->Value,Array.map f (Array.range 0)=([]:List Value).toArray:=λ f=>by simp
    show (do let a←newRow e (Array.map (λ x=>(#[]:Array Value)[x%(#[]:Array Value).size]!) (Array.range 0));pure (Value.slice (some a) len 0):Sem Value).run P w=_
    rw [hr0,run_bind run_newRow]
    rfl
  simp only [Int.toNat_natCast,Nat.mul_one,h0,if_false]
  rw [run_bind (run_zeroV hz)]
  have hzc:z.cells= #[z]:=(by cases z<;>first|(simp [oneC] at ho;done)|rfl)
  have hrow:((Array.range cap).map λ x=>z.cells[x%z.cells.size]!)=(List.replicate cap z).toArray:=by
    rw [hzc]
    apply Array.ext'
    rw [Array.toList_map]
    simp [Nat.mod_one]
    apply List.ext_getElem?
    intro j
    simp [List.getElem?_replicate]
    by_cases hj:j<cap<;>simp [hj]
  show (do let a←newRow e ((Array.range cap).map λ x=>z.cells[x%z.cells.size]!);pure (Value.slice (some a) ((len:Nat):Int).toNat ((cap:Nat):Int).toNat):Sem Value).run P w=_
  rw [hrow,run_bind run_newRow]
  simp [pure,Int.toNat_natCast]
theorem o_makeSliceI {t e:TypeId}{x y:Operand}{a c:Int}{bytes:Nat}{k1 k2:IntKind}{z:Value}(hu:P.underlying t=some (.slice e))(hk:szE P e=some 1)(hb:bytesE P e=some bytes)(hz:zeroE P e=some z)(ho:oneC z=true)
    (hx:ev n ρ x= .int k1 a) (hy:ev n ρ y= .int k2 c) (h0:0<=a/\ a<=c) (h2:c.toNat*bytes<=140737488355328/\ c<=140737488355328):
    OpX P n ρ A ⟨dst,.makeSlice t x y,ty,pos,after,gd⟩ (NewS A (List.replicate c.toNat z) e a.toNat c.toNat):=
  o_makeSlice (len:=a.toNat) (cap:=c.toNat) hu hk hb hz ho (by rw [hx,Int.toNat_of_nonneg h0.1]) (by rw [hy,Int.toNat_of_nonneg oqz]) oqz h2.1 oqz
theorem run_placesL (l:List Field):∀ (pl:List (Nat×Nat)),l.map (λ f=>(f.offset,szE P f.type))=pl.map (λ p=>(p.1,some p.2))->∀w:World,
    (l.mapM λ f=>do pure (f.offset,←sizeOf f.type):Sem (List (Nat×Nat))).run P w= .ok pl w:=by
  induction l with
  |nil=>intro pl h w;cases pl with
    |nil=>rfl
    |cons p pl=>simp at h
  |cons f l ih=>
    intro pl h w
    cases pl with
    |nil=>simp at h
    |cons p pl=>
      simp only [List.map_cons,List.cons.injEq,Prod.mk.injEq] at h
      obtain ⟨⟨h1,h2⟩,h3⟩:=h;rw [List.mapM_cons]
      rw [run_bind (a:=(f.offset,p.2)) (w':=w) (by rw [run_bind (run_size h2)];rfl)]
      rw [run_bind (ih pl h3 w),h1]
      rfl
theorem run_places {fs:Array Field}{pl:List (Nat×Nat)}(h:fs.toList.map (λ f=>(f.offset,szE P f.type))=pl.map (λ p=>(p.1,some p.2)))(w:World):
    (fs.mapM λ f=>do pure (f.offset,←sizeOf f.type):Sem (Array (Nat×Nat))).run P w= .ok pl.toArray w:=by
  have e:fs=fs.toList.toArray:=(by simp);rw [e,List.mapM_toArray]
  rw [←bind_pure_comp,run_bind (run_placesL fs.toList pl h w)]
  rfl
theorem o_buildStruct {t:TypeId}{fs:Array Field}{places:List (Nat×Nat)}{z l:List Value}{parts:Array (Nat×Operand)}{vs:List (Nat×Value)}(hu:P.underlying t=some (.struct fs))(hz:zeroE P t=some (.agg z.toArray))
    (hp:∀w,(fs.mapM λ f=>do pure (f.offset,←sizeOf f.type):Sem (Array (Nat×Nat))).run P w= .ok places.toArray w) (hx:parts.toList.map (λ p=>(p.1,ev n ρ p.2))=vs)
    (hf:Instr.fill (λ i:Nat=>places[i]?) z.toArray vs=some l.toArray):OpV P n ρ A ⟨dst,.build t parts,ty,pos,after,gd⟩ (.agg l.toArray):=o_build hx λ w=>by
  unfold Instr.build
  rw [run_bind (run_zeroV hz)]
  simp only [Value.cells]
  rw [run_bind (run_und hu)]
  simp only []
  rw [run_bind (hp w)]
  have e:(λ i:Nat=>places.toArray[i]?)=λ i:Nat=>places[i]? :=(by funext i;simp)
  rw [e,hf]
  rfl
def ResV (P:Program)(n:Nat)(ρ:Env)(A:SP):ResultVar->Value->Prop
  | .tmp t,v=>ev n ρ (.tmp t)=v
  | .cell a t,v=>∃p,ev n ρ (.tmp a)= .pointer (some p)/\∀g w,sat g w A->(loadVar t p).run P w= .ok v w
theorem rv_tmp {t:Tmp}{v:Value}(h:ev n ρ (.tmp t)=v):ResV P n ρ A (.tmp t) v:=h
theorem rv_cell {a:Tmp}{t:TypeId}{b off k:Nat}{l vs:List Value}{E:TypeId}(hp:aggE P t=true)(hk:szE P t=some k)(hx:ev n ρ (.tmp a)= .pointer (some ⟨b,off,none⟩))(hh:Has A b (cl l E))(hl:off+k<=l.length)
    (hv:(l.drop off).take k=vs):ResV P n ρ A (.cell a t) (.agg vs.toArray):=⟨_,hx,λ g w hs=>by
  unfold loadVar
  rw [run_bind (run_isAgg_t hp)]
  simp only [if_true]
  rw [run_bind (run_size hk),run_bind (run_loadCells (hh g w hs) hl),hv]
  rfl⟩
theorem rv_cell1 {a:Tmp}{t:TypeId}{b off:Nat}{l:List Value}{E:TypeId}{v:Value}(hp:plainE P t=true)(hx:ev n ρ (.tmp a)= .pointer (some ⟨b,off,none⟩))(hh:Has A b (cl l E))(hv:l[off]? =some v):ResV P n ρ A (.cell a t) v:=
  ⟨_,hx,λ g w hs=>by
    unfold loadVar
    rw [run_bind (run_isAgg_f hp)]
    exact run_load1 (by rw [cell_cl (hh g w hs),hv])⟩
theorem resv_run {δ:Df}{r:ResultVar}{v:Value}(h:ResV P n ρ A r v){g:Gh}{a:Act}{w:World}(ha:Agr n ρ a)(hs:sat g w A):
    (match r with| .tmp t=>pure (a.tmps.getD t undef)| .cell c t=>do loadVar t (←asAddr (a.tmps.getD c undef)):Sem Value).run P w= .ok v w:=by
  have he:∀t,a.tmps.getD t undef=ev n ρ (.tmp t):=λ t=>by rw [←ha.eval];rfl
  cases r with
  |tmp t=>simp only [he];rw [show ev n ρ (.tmp t)=v from h];rfl
  |cell c t=>
    obtain ⟨p,hp,hl⟩:=h
    simp only [he,hp,asAddr]
    rw [run_bind (w':=w) (a:=p) (by rfl)]
    exact hl g w hs
def rdR (tmps:Array Value):ResultVar->Sem Value
  | .tmp t=>pure (tmps.getD t undef)
  | .cell a t=>do loadVar t (←asAddr (tmps.getD a undef))
theorem results_rd (fn:Func)(tmps:Array Value):results fn tmps=(fn.results.mapM (rdR tmps)>>=λ vs=>pure (if h:vs.size=1 then vs[0] else .tuple vs)):=by
  unfold results
  congr 1
theorem rd_run {δ:Df}{r:ResultVar}{v:Value}(h:ResV P n ρ A r v){g:Gh}{a:Act}{w:World}(ha:Agr n ρ a)(hs:sat g w A):(rdR a.tmps r).run P w= .ok v w:=by
  have:=resv_run h ha hs
  cases r<;>exact this
theorem mapM1 {f:ResultVar->Sem Value}{r:ResultVar}:(#[r].mapM f)=(f r>>=λ x=>pure #[x]):=by
  rw [show #[r]=[r].toArray from rfl,List.mapM_toArray];simp
theorem mapM2 {f:ResultVar->Sem Value}{r s:ResultVar}:(#[r,s].mapM f)=(f r>>=λ x=>f s>>=λ y=>pure #[x,y]):=by
  rw [show #[r,s]=[r,s].toArray from rfl,List.mapM_toArray];simp
theorem mapM3 {f:ResultVar->Sem Value}{r s q:ResultVar}:(#[r,s,q].mapM f)=(f r>>=λ x=>f s>>=λ y=>f q>>=λ z=>pure #[x,y,z]):=by
  rw [show #[r,s,q]=[r,s,q].toArray from rfl,List.mapM_toArray];simp
theorem resA1 {δ:Df}{fn:Func}{r:ResultVar}{v:Value}(h:fn.results= #[r])(h1:ResV P n ρ A r v):Res P n fn ρ A v:=λ g a w ha hs=>by
  rw [results_rd,h,mapM1]
  rw [run_bind (w':=w) (a:= #[v]) (by rw [run_bind (rd_run h1 ha hs)];rfl)]
  rfl
theorem resA2 {δ:Df}{fn:Func}{r s:ResultVar}{v u:Value}(h:fn.results= #[r,s])(h1:ResV P n ρ A r v)(h2:ResV P n ρ A s u):Res P n fn ρ A (.tuple #[v,u]):=λ g a w ha hs=>by
  rw [results_rd,h,mapM2]
  rw [run_bind (w':=w) (a:= #[v,u]) (by rw [run_bind (rd_run h1 ha hs),run_bind (rd_run h2 ha hs)];rfl)]
  rfl
theorem resA3 {δ:Df}{fn:Func}{r s q:ResultVar}{v u x:Value}(h:fn.results= #[r,s,q])(h1:ResV P n ρ A r v)(h2:ResV P n ρ A s u)(h3:ResV P n ρ A q x):Res P n fn ρ A (.tuple #[v,u,x]):=λ g a w ha hs=>by
  rw [results_rd,h,mapM3]
  rw [run_bind (w':=w) (a:= #[v,u,x]) (by rw [run_bind (rd_run h1 ha hs),run_bind (rd_run h2 ha hs),run_bind (rd_run h3 ha hs)];rfl)]
  rfl
end
section
variable {δ:Df} {P:Program} {n:Nat} {ρ:Env} {A:SP} {Q:Post} {ops:Array Oper} {rest:List Oper} {o:Oper} {v:Value}
theorem nq {K:Env->SP->Prop}(h:K ρ A):TL P n ops (thenQ K Q) [] ρ A:=tl_nil (q_then_n h)
theorem sr {id:Nat}{l:List Oper}{y:Code}(h:TL P n l.toArray (thenQ (TC P n y Q) Q) l ρ A):TC P n (.seq (.region id l.toArray false) y) Q ρ A:=tc_seq (tc_reg h)
theorem tv (h:OpV P n ρ A o v)(k:TL P n ops Q rest (put ρ o.dst v) A)(hw:wantE n ops ρ o=true:=by rfl):TL P n ops Q (o::rest) ρ A:=tl_v hw h k
theorem tk (k:TL P n ops Q rest (put ρ o.dst undef) A)(hw:wantE n ops ρ o=false:=by rfl):TL P n ops Q (o::rest) ρ A:=tl_skip hw k
end
theorem lv1 {p:Prop}[Decidable p]:(decide p=true)=p:=decide_eq_true_eq
theorem lv2 {p:Prop}[Decidable p]:decide p=false↔¬p:=decide_eq_false_iff_not
theorem lv3 {b:Bool}:((!b)=true)=(b=false):=Bool.not_eq_true' b
theorem lv4 {b:Bool}:((!b)=false)=(b=true):=Bool.not_eq_false' b
theorem lv5 {α:Type}{a:α}:(some a).isNone=false:=Option.isNone_some
theorem lv6 {α:Type}:(none:Option α).isNone=true:=Option.isNone_none
section
variable {δ:Df} {P:Program} {n:Nat} {ρ:Env} {A:SP} {d:Nat} {ty:TypeId} {pos:String} {after:Array Edge} {gd:Option (Nat×Bool)} {Q:Post} {ops:Array Oper} {rest:List Oper} {x:Operand} {v:Value}
theorem tlm (k:TL P n ops Q rest (upd ρ d v) A)(h:ev n ρ x=v:=by conv=>lhs;whnf)(hw:wantE n ops ρ ⟨some d,.move x,ty,pos,after,gd⟩=true:=by rfl):TL P n ops Q (⟨some d,.move x,ty,pos,after,gd⟩::rest) ρ A:=tl_v hw (o_move h) k
theorem tla (k:TL P n ops Q rest (upd ρ d v) A)(h:ev n ρ x=v:=by conv=>lhs;whnf)(hw:wantE n ops ρ ⟨some d,.assign x,ty,pos,after,gd⟩=true:=by rfl):TL P n ops Q (⟨some d,.assign x,ty,pos,after,gd⟩::rest) ρ A:=tl_v hw (o_assign h) k
end
end Go.Vl

namespace Go.Vl
open Go.Proofs Go.Proofs.Tryz
theorem dbq {a x:Prop}(h:¬a:=by intro h;first|(simp at h;done)|(simp at h;omega)|(revert h;simp;done)|(have h9:=of_decide_eq_true h;omega)|omega):a->x:=λ k=>absurd k h
theorem sbq {a x r:Prop}(k:r)(h:r->a->x:=by intro k h;(try simp only [lv1,lv2,lv3,lv4,lv5,lv6,Bool.not_true,Bool.not_false] at h);revert h;exact k):a->x:=h k
abbrev T1 (t k:Nat):Prop:=szE Tryz.prog t=some k
abbrev T2 (t k:Nat):Prop:=bytesE Tryz.prog t=some k
abbrev T3 (t:Nat):Prop:=plainE Tryz.prog t=true
abbrev T4 (t:Nat):Prop:=aggE Tryz.prog t=true
abbrev T5 (t:Nat)(v:Value):Prop:=zeroE Tryz.prog t=some v
theorem t1 {t k:Nat}(h:szE Tryz.prog t=some k:=by kernel_rfl):T1 t k:=h
theorem t2 {t k:Nat}(h:bytesE Tryz.prog t=some k:=by kernel_rfl):T2 t k:=h
theorem t3 {t:Nat}(h:plainE Tryz.prog t=true:=by kernel_rfl):T3 t:=h
theorem t4 {t:Nat}(h:aggE Tryz.prog t=true:=by kernel_rfl):T4 t:=h
theorem t5 {t:Nat}{v:Value}(h:zeroE Tryz.prog t=some v:=by kernel_rfl):T5 t v:=h
theorem sz1:T1 1 1:=t1
theorem p1:T3 1:=t3
theorem p2:T3 2:=t3
theorem sz3:T1 3 1:=t1
theorem by3:T2 3 8:=t2
theorem p3:T3 3:=t3
theorem z3:T5 3 ((.int .i64 0)):=t5
theorem sz4:T1 4 1:=t1
theorem by4:T2 4 1:=t2
theorem p4:T3 4:=t3
theorem z4:T5 4 ((.bool false)):=t5
theorem sz5:T1 5 1:=t1
theorem by5:T2 5 1:=t2
theorem p5:T3 5:=t3
theorem z5:T5 5 ((.int .u8 0)):=t5
theorem a7:T4 7:=t4
theorem a8:T4 8:=t4
theorem sz9:T1 9 1:=t1
theorem by9:T2 9 16:=t2
theorem p9:T3 9:=t3
theorem z9:T5 9 ((.string ⟨#[]⟩)):=t5
theorem a13:T4 13:=t4
theorem a14:T4 14:=t4
theorem a18:T4 18:=t4
theorem a19:T4 19:=t4
theorem a22:T4 22:=t4
theorem z22:T5 22 ((.agg [.int .i64 0,.string ⟨#[]⟩,.string ⟨#[]⟩].toArray)):=t5
theorem sz23:T1 23 3:=t1
theorem a23:T4 23:=t4
theorem z23:T5 23 ((.agg [.int .i64 0,.string ⟨#[]⟩,.string ⟨#[]⟩].toArray)):=t5
theorem pl23 {fs:Array Field}(h:Tryz.prog.underlying 23=some (.struct fs))(w:World):(fs.mapM λ f=>do pure (f.offset,←sizeOf f.type):Sem (Array (Nat×Nat))).run Tryz.prog w= .ok [(0,1),(1,1),(2,1)].toArray w:=
  run_places (by rw [underlying23] at h;cases h;kernel_rfl) w
theorem sz24:T1 24 1:=t1
theorem p24:T3 24:=t3
theorem z24:T5 24 ((.int .i64 0)):=t5
theorem z26:T5 26 ((.nilFunc)):=t5
theorem z27:T5 27 ((.nilFunc)):=t5
theorem z32:T5 32 ((.nilFunc)):=t5
theorem z33:T5 33 ((.nilFunc)):=t5
theorem sz34:T1 34 1:=t1
theorem p34:T3 34:=t3
theorem z34:T5 34 ((.slice none 0 0)):=t5
theorem sz35:T1 35 1:=t1
theorem p35:T3 35:=t3
theorem z35:T5 35 ((.slice none 0 0)):=t5
theorem a36:T4 36:=t4
theorem z36:T5 36 ((.agg [.int .i64 0,.slice none 0 0,.slice none 0 0].toArray)):=t5
theorem a37:T4 37:=t4
theorem a39:T4 39:=t4
theorem a40:T4 40:=t4
theorem z41:T5 41 ((.pointer none)):=t5
theorem sz44:T1 44 1:=t1
theorem p44:T3 44:=t3
theorem z44:T5 44 ((.pointer none)):=t5
theorem sz45:T1 45 1:=t1
theorem p45:T3 45:=t3
theorem sz46:T1 46 1:=t1
theorem p46:T3 46:=t3
theorem z46:T5 46 ((.pointer none)):=t5
theorem sz47:T1 47 1:=t1
theorem p47:T3 47:=t3
theorem sz48:T1 48 1:=t1
theorem p48:T3 48:=t3
theorem sz49:T1 49 1:=t1
theorem p49:T3 49:=t3
theorem a50:T4 50:=t4
theorem sz53:T1 53 1:=t1
theorem p53:T3 53:=t3
theorem z53:T5 53 ((.int .u32 0)):=t5
theorem a54:T4 54:=t4
theorem z57:T5 57 ((.nilFunc)):=t5
theorem z64:T5 64 ((.nilFunc)):=t5
theorem a65:T4 65:=t4
theorem sz67:T1 67 1:=t1
theorem by67:T2 67 24:=t2
theorem p67:T3 67:=t3
theorem z67:T5 67 ((.slice none 0 0)):=t5
theorem a68:T4 68:=t4
theorem a69:T4 69:=t4
theorem a91:T4 91:=t4
theorem z92:T5 92 ((.agg [.pointer none,.pointer none,.pointer none,.pointer none,.pointer none,.pointer none].toArray)):=t5
theorem pl92 {fs:Array Field}(h:Tryz.prog.underlying 92=some (.struct fs))(w:World):(fs.mapM λ f=>do pure (f.offset,←sizeOf f.type):Sem (Array (Nat×Nat))).run Tryz.prog w= .ok [(0,1),(1,1),(2,1),(3,1),(4,1),(5,1)].toArray w:=
  run_places (by rw [underlying92] at h;cases h;kernel_rfl) w
theorem sz95:T1 95 5:=t1
theorem a95:T4 95:=t4
theorem z95:T5 95 ((.agg [.int .i64 0,.int .i64 0,.string ⟨#[]⟩,.bool false,.bool false].toArray)):=t5
theorem a104:T4 104:=t4
theorem a108:T4 108:=t4
theorem a111:T4 111:=t4
theorem a112:T4 112:=t4
theorem sz122:T1 122 1:=t1
theorem p122:T3 122:=t3
theorem sz124:T1 124 1:=t1
theorem p124:T3 124:=t3
theorem z126:T5 126 ((.agg [.pointer none,.pointer none,.map none,.map none,.int .i64 0,.bool false].toArray)):=t5
theorem pl126 {fs:Array Field}(h:Tryz.prog.underlying 126=some (.struct fs))(w:World):(fs.mapM λ f=>do pure (f.offset,←sizeOf f.type):Sem (Array (Nat×Nat))).run Tryz.prog w= .ok [(0,1),(1,1),(2,1),(3,1),(4,1),(5,1)].toArray w:=
  run_places (by rw [underlying126] at h;cases h;kernel_rfl) w
theorem a133:T4 133:=t4
theorem sz134:T1 134 2:=t1
theorem a134:T4 134:=t4
theorem z134:T5 134 ((.agg [.int .u32 0,.int .u32 0].toArray)):=t5
theorem pl134 {fs:Array Field}(h:Tryz.prog.underlying 134=some (.struct fs))(w:World):(fs.mapM λ f=>do pure (f.offset,←sizeOf f.type):Sem (Array (Nat×Nat))).run Tryz.prog w= .ok [(0,1),(1,1)].toArray w:=
  run_places (by rw [underlying134] at h;cases h;kernel_rfl) w
theorem a136:T4 136:=t4
theorem z136:T5 136 ((.agg [.pointer none,.int .u32 0,.int .u32 0].toArray)):=t5
theorem pl136 {fs:Array Field}(h:Tryz.prog.underlying 136=some (.struct fs))(w:World):(fs.mapM λ f=>do pure (f.offset,←sizeOf f.type):Sem (Array (Nat×Nat))).run Tryz.prog w= .ok [(0,1),(1,2)].toArray w:=
  run_places (by rw [underlying136] at h;cases h;kernel_rfl) w
theorem a138:T4 138:=t4
theorem sz141:T1 141 1:=t1
theorem p141:T3 141:=t3
theorem sz160:T1 160 1:=t1
theorem p160:T3 160:=t3
theorem sz163:T1 163 1:=t1
theorem p163:T3 163:=t3
theorem sz172:T1 172 1:=t1
theorem p172:T3 172:=t3
theorem sz175:T1 175 1:=t1
theorem p175:T3 175:=t3
theorem sz191:T1 191 1:=t1
theorem p191:T3 191:=t3
theorem z194:T5 194 ((.agg [.int .i64 0,.slice none 0 0,.int .i64 0,.slice none 0 0,.int .i64 0,.bool false].toArray)):=t5
theorem pl194 {fs:Array Field}(h:Tryz.prog.underlying 194=some (.struct fs))(w:World):(fs.mapM λ f=>do pure (f.offset,←sizeOf f.type):Sem (Array (Nat×Nat))).run Tryz.prog w= .ok [(0,1),(1,1),(2,1),(3,1),(4,1),(5,1)].toArray w:=
  run_places (by rw [underlying194] at h;cases h;kernel_rfl) w
theorem sz203:T1 203 3:=t1
theorem by203:T2 203 40:=t2
theorem a203:T4 203:=t4
theorem z203:T5 203 ((.agg [.int .i64 0,.slice none 0 0,.bool false].toArray)):=t5
theorem pl203 {fs:Array Field}(h:Tryz.prog.underlying 203=some (.struct fs))(w:World):(fs.mapM λ f=>do pure (f.offset,←sizeOf f.type):Sem (Array (Nat×Nat))).run Tryz.prog w= .ok [(0,1),(1,1),(2,1)].toArray w:=
  run_places (by rw [underlying203] at h;cases h;kernel_rfl) w
theorem z210:T5 210 ((.agg [.pointer none,.int .i64 0,.int .i64 0,.map none,.pointer none].toArray)):=t5
theorem pl210 {fs:Array Field}(h:Tryz.prog.underlying 210=some (.struct fs))(w:World):(fs.mapM λ f=>do pure (f.offset,←sizeOf f.type):Sem (Array (Nat×Nat))).run Tryz.prog w= .ok [(0,1),(1,1),(2,1),(3,1),(4,1)].toArray w:=
  run_places (by rw [underlying210] at h;cases h;kernel_rfl) w
theorem sz227:T1 227 1:=t1
theorem p227:T3 227:=t3
theorem sz228:T1 228 1:=t1
theorem z230:T5 230 ((.agg [.pointer none,.pointer none,.slice none 0 0,.slice none 0 0,.bool false].toArray)):=t5
theorem pl230 {fs:Array Field}(h:Tryz.prog.underlying 230=some (.struct fs))(w:World):(fs.mapM λ f=>do pure (f.offset,←sizeOf f.type):Sem (Array (Nat×Nat))).run Tryz.prog w= .ok [(0,1),(1,1),(2,1),(3,1),(4,1)].toArray w:=
  run_places (by rw [underlying230] at h;cases h;kernel_rfl) w
theorem z232:T5 232 ((.agg [.pointer none,.int .i64 0,.int .i64 0,.slice none 0 0,.pointer none].toArray)):=t5
theorem pl232 {fs:Array Field}(h:Tryz.prog.underlying 232=some (.struct fs))(w:World):(fs.mapM λ f=>do pure (f.offset,←sizeOf f.type):Sem (Array (Nat×Nat))).run Tryz.prog w= .ok [(0,1),(1,1),(2,1),(3,1),(4,1)].toArray w:=
  run_places (by rw [underlying232] at h;cases h;kernel_rfl) w
theorem sz234:T1 234 1:=t1
theorem p234:T3 234:=t3
theorem z236:T5 236 ((.agg [.slice none 0 0,.int .i64 0,.slice none 0 0,.int .i64 0,.bool false].toArray)):=t5
theorem pl236 {fs:Array Field}(h:Tryz.prog.underlying 236=some (.struct fs))(w:World):(fs.mapM λ f=>do pure (f.offset,←sizeOf f.type):Sem (Array (Nat×Nat))).run Tryz.prog w= .ok [(0,1),(1,1),(2,1),(3,1),(4,1)].toArray w:=
  run_places (by rw [underlying236] at h;cases h;kernel_rfl) w
theorem sz238:T1 238 8:=t1
theorem a238:T4 238:=t4
theorem z238:T5 238 ((.agg [.int .u64 0,.int .u64 0,.int .u64 0,.int .u64 0,.int .u64 0,.int .u64 0,.int .u64 0,.int .u64 0].toArray)):=t5
theorem sz239:T1 239 1:=t1
theorem p239:T3 239:=t3
theorem sz241:T1 241 2:=t1
theorem by241:T2 241 32:=t2
theorem z241:T5 241 ((.agg [.slice none 0 0,.int .i64 0].toArray)):=t5
theorem pl241 {fs:Array Field}(h:Tryz.prog.underlying 241=some (.struct fs))(w:World):(fs.mapM λ f=>do pure (f.offset,←sizeOf f.type):Sem (Array (Nat×Nat))).run Tryz.prog w= .ok [(0,1),(1,1)].toArray w:=
  run_places (by rw [underlying241] at h;cases h;kernel_rfl) w
theorem sz247:T1 247 4:=t1
theorem by247:T2 247 48:=t2
theorem a247:T4 247:=t4
theorem z247:T5 247 ((.agg [.int .u32 0,.int .i64 0,.string ⟨#[]⟩,.string ⟨#[]⟩].toArray)):=t5
theorem pl247 {fs:Array Field}(h:Tryz.prog.underlying 247=some (.struct fs))(w:World):(fs.mapM λ f=>do pure (f.offset,←sizeOf f.type):Sem (Array (Nat×Nat))).run Tryz.prog w= .ok [(0,1),(1,3)].toArray w:=
  run_places (by rw [underlying247] at h;cases h;kernel_rfl) w
theorem a250:T4 250:=t4
theorem z258:T5 258 ((.agg [.pointer none,.int .i64 0,.int .i64 0].toArray)):=t5
theorem pl258 {fs:Array Field}(h:Tryz.prog.underlying 258=some (.struct fs))(w:World):(fs.mapM λ f=>do pure (f.offset,←sizeOf f.type):Sem (Array (Nat×Nat))).run Tryz.prog w= .ok [(0,1),(1,1),(2,1)].toArray w:=
  run_places (by rw [underlying258] at h;cases h;kernel_rfl) w
theorem z263:T5 263 ((.agg [.pointer none,.pointer none,.pointer none].toArray)):=t5
theorem pl263 {fs:Array Field}(h:Tryz.prog.underlying 263=some (.struct fs))(w:World):(fs.mapM λ f=>do pure (f.offset,←sizeOf f.type):Sem (Array (Nat×Nat))).run Tryz.prog w= .ok [(0,1),(1,1),(2,1)].toArray w:=
  run_places (by rw [underlying263] at h;cases h;kernel_rfl) w
theorem sz265:T1 265 2:=t1
theorem by265:T2 265 32:=t2
theorem z265:T5 265 ((.agg [.slice none 0 0,.int .i64 0].toArray)):=t5
theorem pl265 {fs:Array Field}(h:Tryz.prog.underlying 265=some (.struct fs))(w:World):(fs.mapM λ f=>do pure (f.offset,←sizeOf f.type):Sem (Array (Nat×Nat))).run Tryz.prog w= .ok [(0,1),(1,1)].toArray w:=
  run_places (by rw [underlying265] at h;cases h;kernel_rfl) w
theorem z267:T5 267 ((.agg [.pointer none,.int .i64 0,.int .i64 0].toArray)):=t5
theorem pl267 {fs:Array Field}(h:Tryz.prog.underlying 267=some (.struct fs))(w:World):(fs.mapM λ f=>do pure (f.offset,←sizeOf f.type):Sem (Array (Nat×Nat))).run Tryz.prog w= .ok [(0,1),(1,1),(2,1)].toArray w:=
  run_places (by rw [underlying267] at h;cases h;kernel_rfl) w
theorem z269:T5 269 ((.agg [.pointer none,.pointer none,.pointer none].toArray)):=t5
theorem pl269 {fs:Array Field}(h:Tryz.prog.underlying 269=some (.struct fs))(w:World):(fs.mapM λ f=>do pure (f.offset,←sizeOf f.type):Sem (Array (Nat×Nat))).run Tryz.prog w= .ok [(0,1),(1,1),(2,1)].toArray w:=
  run_places (by rw [underlying269] at h;cases h;kernel_rfl) w
theorem sz296:T1 296 1:=t1
theorem p296:T3 296:=t3
theorem z298:T5 298 ((.agg [.pointer none,.map none,.bool false].toArray)):=t5
theorem pl298 {fs:Array Field}(h:Tryz.prog.underlying 298=some (.struct fs))(w:World):(fs.mapM λ f=>do pure (f.offset,←sizeOf f.type):Sem (Array (Nat×Nat))).run Tryz.prog w= .ok [(0,1),(1,1),(2,1)].toArray w:=
  run_places (by rw [underlying298] at h;cases h;kernel_rfl) w
theorem z328:T5 328 ((.agg [.pointer none,.slice none 0 0,.bool false].toArray)):=t5
theorem pl328 {fs:Array Field}(h:Tryz.prog.underlying 328=some (.struct fs))(w:World):(fs.mapM λ f=>do pure (f.offset,←sizeOf f.type):Sem (Array (Nat×Nat))).run Tryz.prog w= .ok [(0,1),(1,1),(2,1)].toArray w:=
  run_places (by rw [underlying328] at h;cases h;kernel_rfl) w
theorem sz336:T1 336 2:=t1
theorem by336:T2 336 32:=t2
theorem a336:T4 336:=t4
theorem z336:T5 336 ((.agg [.int .i64 0,.slice none 0 0].toArray)):=t5
theorem pl336 {fs:Array Field}(h:Tryz.prog.underlying 336=some (.struct fs))(w:World):(fs.mapM λ f=>do pure (f.offset,←sizeOf f.type):Sem (Array (Nat×Nat))).run Tryz.prog w= .ok [(0,1),(1,1)].toArray w:=
  run_places (by rw [underlying336] at h;cases h;kernel_rfl) w
theorem sz343:T1 343 1:=t1
theorem p343:T3 343:=t3
theorem sz345:T1 345 2:=t1
theorem by345:T2 345 32:=t2
theorem z345:T5 345 ((.agg [.pointer none,.slice none 0 0].toArray)):=t5
theorem sz350:T1 350 3:=t1
theorem a350:T4 350:=t4
theorem z350:T5 350 ((.agg [.int .i64 0,.string ⟨#[]⟩,.int .i64 0].toArray)):=t5
theorem pl350 {fs:Array Field}(h:Tryz.prog.underlying 350=some (.struct fs))(w:World):(fs.mapM λ f=>do pure (f.offset,←sizeOf f.type):Sem (Array (Nat×Nat))).run Tryz.prog w= .ok [(0,1),(1,1),(2,1)].toArray w:=
  run_places (by rw [underlying350] at h;cases h;kernel_rfl) w
theorem sz360:T1 360 2:=t1
theorem a360:T4 360:=t4
theorem z360:T5 360 ((.agg [.int .u8 0,.bool false].toArray)):=t5
theorem sz365:T1 365 2:=t1
theorem a365:T4 365:=t4
theorem z365:T5 365 ((.agg [.int .i64 0,.int .i64 0].toArray)):=t5
theorem pl365 {fs:Array Field}(h:Tryz.prog.underlying 365=some (.struct fs))(w:World):(fs.mapM λ f=>do pure (f.offset,←sizeOf f.type):Sem (Array (Nat×Nat))).run Tryz.prog w= .ok [(0,1),(1,1)].toArray w:=
  run_places (by rw [underlying365] at h;cases h;kernel_rfl) w
theorem z393:T5 393 ((.agg [.int .i64 0].toArray)):=t5
theorem pl393 {fs:Array Field}(h:Tryz.prog.underlying 393=some (.struct fs))(w:World):(fs.mapM λ f=>do pure (f.offset,←sizeOf f.type):Sem (Array (Nat×Nat))).run Tryz.prog w= .ok [(0,1)].toArray w:=
  run_places (by rw [underlying393] at h;cases h;kernel_rfl) w
theorem bd11:bodyB Tryz.prog 11=true:=by kernel_rfl
theorem bd13:bodyB Tryz.prog 13=true:=by kernel_rfl
theorem bd14:bodyB Tryz.prog 14=true:=by kernel_rfl
theorem bd16:bodyB Tryz.prog 16=true:=by kernel_rfl
theorem bd18:bodyB Tryz.prog 18=true:=by kernel_rfl
theorem bd25:bodyB Tryz.prog 25=true:=by kernel_rfl
theorem bd28:bodyB Tryz.prog 28=true:=by kernel_rfl
theorem bd30:bodyB Tryz.prog 30=true:=by kernel_rfl
theorem bd32:bodyB Tryz.prog 32=true:=by kernel_rfl
theorem bd33:bodyB Tryz.prog 33=true:=by kernel_rfl
theorem bd34:bodyB Tryz.prog 34=true:=by kernel_rfl
theorem bd36:bodyB Tryz.prog 36=true:=by kernel_rfl
theorem bd37:bodyB Tryz.prog 37=true:=by kernel_rfl
theorem bd40:bodyB Tryz.prog 40=true:=by kernel_rfl
theorem bd41:bodyB Tryz.prog 41=true:=by kernel_rfl
theorem bd42:bodyB Tryz.prog 42=true:=by kernel_rfl
theorem bd43:bodyB Tryz.prog 43=true:=by kernel_rfl
theorem bd44:bodyB Tryz.prog 44=true:=by kernel_rfl
theorem bd45:bodyB Tryz.prog 45=true:=by kernel_rfl
theorem bd46:bodyB Tryz.prog 46=true:=by kernel_rfl
theorem bd47:bodyB Tryz.prog 47=true:=by kernel_rfl
theorem bd48:bodyB Tryz.prog 48=true:=by kernel_rfl
theorem bd54:bodyB Tryz.prog 54=true:=by kernel_rfl
theorem bd65:bodyB Tryz.prog 65=true:=by kernel_rfl
theorem bd67:bodyB Tryz.prog 67=true:=by kernel_rfl
theorem bd68:bodyB Tryz.prog 68=true:=by kernel_rfl
theorem bd72:bodyB Tryz.prog 72=true:=by kernel_rfl
theorem bd73:bodyB Tryz.prog 73=true:=by kernel_rfl
theorem bd74:bodyB Tryz.prog 74=true:=by kernel_rfl
theorem bd75:bodyB Tryz.prog 75=true:=by kernel_rfl
theorem bd76:bodyB Tryz.prog 76=true:=by kernel_rfl
theorem bd78:bodyB Tryz.prog 78=true:=by kernel_rfl
theorem bd82:bodyB Tryz.prog 82=true:=by kernel_rfl
theorem bd83:bodyB Tryz.prog 83=true:=by kernel_rfl
theorem bd84:bodyB Tryz.prog 84=true:=by kernel_rfl
theorem bd85:bodyB Tryz.prog 85=true:=by kernel_rfl
theorem bd86:bodyB Tryz.prog 86=true:=by kernel_rfl
theorem bd87:bodyB Tryz.prog 87=true:=by kernel_rfl
theorem bd89:bodyB Tryz.prog 89=true:=by kernel_rfl
theorem bd90:bodyB Tryz.prog 90=true:=by kernel_rfl
theorem bd91:bodyB Tryz.prog 91=true:=by kernel_rfl
theorem bd92:bodyB Tryz.prog 92=true:=by kernel_rfl
theorem bd93:bodyB Tryz.prog 93=true:=by kernel_rfl
theorem bd96:bodyB Tryz.prog 96=true:=by kernel_rfl
theorem bd97:bodyB Tryz.prog 97=true:=by kernel_rfl
theorem bd99:bodyB Tryz.prog 99=true:=by kernel_rfl
theorem bd100:bodyB Tryz.prog 100=true:=by kernel_rfl
theorem bd103:bodyB Tryz.prog 103=true:=by kernel_rfl
theorem bd105:bodyB Tryz.prog 105=true:=by kernel_rfl
theorem bd107:bodyB Tryz.prog 107=true:=by kernel_rfl
theorem bd120:bodyB Tryz.prog 120=true:=by kernel_rfl
theorem bd121:bodyB Tryz.prog 121=true:=by kernel_rfl
theorem bd122:bodyB Tryz.prog 122=true:=by kernel_rfl
theorem bd123:bodyB Tryz.prog 123=true:=by kernel_rfl
theorem bd124:bodyB Tryz.prog 124=true:=by kernel_rfl
theorem bd125:bodyB Tryz.prog 125=true:=by kernel_rfl
theorem bd126:bodyB Tryz.prog 126=true:=by kernel_rfl
theorem bd127:bodyB Tryz.prog 127=true:=by kernel_rfl
theorem bd128:bodyB Tryz.prog 128=true:=by kernel_rfl
theorem bd134:bodyB Tryz.prog 134=true:=by kernel_rfl
theorem bd135:bodyB Tryz.prog 135=true:=by kernel_rfl
theorem bd136:bodyB Tryz.prog 136=true:=by kernel_rfl
theorem bd137:bodyB Tryz.prog 137=true:=by kernel_rfl
theorem bd138:bodyB Tryz.prog 138=true:=by kernel_rfl
theorem bd139:bodyB Tryz.prog 139=true:=by kernel_rfl
theorem bd148:bodyB Tryz.prog 148=true:=by kernel_rfl
theorem bd154:bodyB Tryz.prog 154=true:=by kernel_rfl
theorem bd155:bodyB Tryz.prog 155=true:=by kernel_rfl
theorem bd156:bodyB Tryz.prog 156=true:=by kernel_rfl
theorem bd157:bodyB Tryz.prog 157=true:=by kernel_rfl
theorem bd158:bodyB Tryz.prog 158=true:=by kernel_rfl
theorem bd159:bodyB Tryz.prog 159=true:=by kernel_rfl
theorem bd160:bodyB Tryz.prog 160=true:=by kernel_rfl
theorem bd166:bodyB Tryz.prog 166=true:=by kernel_rfl
theorem bd167:bodyB Tryz.prog 167=true:=by kernel_rfl
theorem bd168:bodyB Tryz.prog 168=true:=by kernel_rfl
theorem bd169:bodyB Tryz.prog 169=true:=by kernel_rfl
theorem bd170:bodyB Tryz.prog 170=true:=by kernel_rfl
theorem bd171:bodyB Tryz.prog 171=true:=by kernel_rfl
theorem bd172:bodyB Tryz.prog 172=true:=by kernel_rfl
theorem bd173:bodyB Tryz.prog 173=true:=by kernel_rfl
theorem bd174:bodyB Tryz.prog 174=true:=by kernel_rfl
theorem bd175:bodyB Tryz.prog 175=true:=by kernel_rfl
theorem bd176:bodyB Tryz.prog 176=true:=by kernel_rfl
theorem bd177:bodyB Tryz.prog 177=true:=by kernel_rfl
theorem bd178:bodyB Tryz.prog 178=true:=by kernel_rfl
theorem bd179:bodyB Tryz.prog 179=true:=by kernel_rfl
theorem bd180:bodyB Tryz.prog 180=true:=by kernel_rfl
theorem bd185:bodyB Tryz.prog 185=true:=by kernel_rfl
theorem bd186:bodyB Tryz.prog 186=true:=by kernel_rfl
theorem bd187:bodyB Tryz.prog 187=true:=by kernel_rfl
theorem bd188:bodyB Tryz.prog 188=true:=by kernel_rfl
theorem bd189:bodyB Tryz.prog 189=true:=by kernel_rfl
theorem bd193:bodyB Tryz.prog 193=true:=by kernel_rfl
theorem bd199:bodyB Tryz.prog 199=true:=by kernel_rfl
theorem bd200:bodyB Tryz.prog 200=true:=by kernel_rfl
theorem bd201:bodyB Tryz.prog 201=true:=by kernel_rfl
theorem bd202:bodyB Tryz.prog 202=true:=by kernel_rfl
theorem bd203:bodyB Tryz.prog 203=true:=by kernel_rfl
theorem bd204:bodyB Tryz.prog 204=true:=by kernel_rfl
theorem bd205:bodyB Tryz.prog 205=true:=by kernel_rfl
theorem bd214:bodyB Tryz.prog 214=true:=by kernel_rfl
theorem bd232:bodyB Tryz.prog 232=true:=by kernel_rfl
theorem bd244:bodyB Tryz.prog 244=true:=by kernel_rfl
theorem bd245:bodyB Tryz.prog 245=true:=by kernel_rfl
theorem bd246:bodyB Tryz.prog 246=true:=by kernel_rfl
theorem bd247:bodyB Tryz.prog 247=true:=by kernel_rfl
theorem bd248:bodyB Tryz.prog 248=true:=by kernel_rfl
theorem bd249:bodyB Tryz.prog 249=true:=by kernel_rfl
theorem bd250:bodyB Tryz.prog 250=true:=by kernel_rfl
theorem bd251:bodyB Tryz.prog 251=true:=by kernel_rfl
theorem bd252:bodyB Tryz.prog 252=true:=by kernel_rfl
theorem bd253:bodyB Tryz.prog 253=true:=by kernel_rfl
theorem bd254:bodyB Tryz.prog 254=true:=by kernel_rfl
theorem bd255:bodyB Tryz.prog 255=true:=by kernel_rfl
theorem bd258:bodyB Tryz.prog 258=true:=by kernel_rfl
theorem bd262:bodyB Tryz.prog 262=true:=by kernel_rfl
theorem bd267:bodyB Tryz.prog 267=true:=by kernel_rfl
theorem bd268:bodyB Tryz.prog 268=true:=by kernel_rfl
theorem bd269:bodyB Tryz.prog 269=true:=by kernel_rfl
theorem bd276:bodyB Tryz.prog 276=true:=by kernel_rfl
theorem bd287:bodyB Tryz.prog 287=true:=by kernel_rfl
theorem bd288:bodyB Tryz.prog 288=true:=by kernel_rfl
theorem bd289:bodyB Tryz.prog 289=true:=by kernel_rfl
theorem bd290:bodyB Tryz.prog 290=true:=by kernel_rfl
theorem bd291:bodyB Tryz.prog 291=true:=by kernel_rfl
theorem bd292:bodyB Tryz.prog 292=true:=by kernel_rfl
theorem bd293:bodyB Tryz.prog 293=true:=by kernel_rfl
theorem bd294:bodyB Tryz.prog 294=true:=by kernel_rfl
theorem bd295:bodyB Tryz.prog 295=true:=by kernel_rfl
theorem bd296:bodyB Tryz.prog 296=true:=by kernel_rfl
theorem bd297:bodyB Tryz.prog 297=true:=by kernel_rfl
theorem bd304:bodyB Tryz.prog 304=true:=by kernel_rfl
theorem bd305:bodyB Tryz.prog 305=true:=by kernel_rfl
theorem bd309:bodyB Tryz.prog 309=true:=by kernel_rfl
theorem bd315:bodyB Tryz.prog 315=true:=by kernel_rfl
theorem bd316:bodyB Tryz.prog 316=true:=by kernel_rfl
theorem bd318:bodyB Tryz.prog 318=true:=by kernel_rfl
theorem bd322:bodyB Tryz.prog 322=true:=by kernel_rfl
theorem bd335:bodyB Tryz.prog 335=true:=by kernel_rfl
theorem bd338:bodyB Tryz.prog 338=true:=by kernel_rfl
theorem bd339:bodyB Tryz.prog 339=true:=by kernel_rfl
theorem bd340:bodyB Tryz.prog 340=true:=by kernel_rfl
theorem bd341:bodyB Tryz.prog 341=true:=by kernel_rfl
theorem bd344:bodyB Tryz.prog 344=true:=by kernel_rfl
theorem bd353:bodyB Tryz.prog 353=true:=by kernel_rfl
theorem mo:Tryz.prog.follows .mixedOrders=true:=by kernel_rfl
end Go.Vl

namespace Go.Vl
open Go
def b8 (m:Nat):Value:= .int .u8 (m:Nat)
def w64 (m:Nat):Value:= .int .u64 (m:Nat)
def i64 (m:Int):Value:= .int .i64 m
def bys (xs:List Nat):List Value:=xs.map b8
def wds (xs:List Nat):List Value:=xs.map w64
def ints (xs:List Int):List Value:=xs.map i64
theorem bys_length (xs:List Nat):(bys xs).length=xs.length:=by simp [bys]
theorem wds_length (xs:List Nat):(wds xs).length=xs.length:=by simp [wds]
theorem ints_length (xs:List Int):(ints xs).length=xs.length:=by simp [ints]
theorem bys_at {xs:List Nat}{i:Nat}(h:i<xs.length):(bys xs)[i]? =some (.int .u8 ((xs[i]:Nat):Int)):=by simp [bys,h,b8]
theorem wds_at {xs:List Nat}{i:Nat}(h:i<xs.length):(wds xs)[i]? =some (.int .u64 ((xs[i]:Nat):Int)):=by simp [wds,h,w64]
theorem ints_at {xs:List Int}{i:Nat}(h:i<xs.length):(ints xs)[i]? =some (.int .i64 xs[i]):=by simp [ints,h,i64]
theorem bys_append (xs ys:List Nat):bys (xs++ys)=bys xs++bys ys:=by simp [bys]
theorem bys_oneC {xs:List Nat}:∀u∈bys xs,oneC u=true:=by intro u hu;simp [bys] at hu;obtain ⟨a,_,rfl⟩:=hu;rfl
theorem bys_all (xs:List Nat):(bys xs).all oneC=true:=by rw [List.all_eq_true];exact λ u hu=>by simp [bys] at hu;obtain ⟨a,_,rfl⟩:=hu;rfl
theorem wds_all (xs:List Nat):(wds xs).all oneC=true:=by rw [List.all_eq_true];exact λ u hu=>by simp [wds] at hu;obtain ⟨a,_,rfl⟩:=hu;rfl
theorem ints_all (xs:List Int):(ints xs).all oneC=true:=by rw [List.all_eq_true];exact λ u hu=>by simp [ints] at hu;obtain ⟨a,_,rfl⟩:=hu;rfl
def Cell (A:SP)(b off:Nat)(v:Value):Prop:=∀g w,sat g w A->w.cell? ⟨b,off,none⟩=some v
theorem cell_of_has {A:SP}{b i:Nat}{l:List Value}{E:TypeId}{v:Value}(h:Has A b (cl l E))(hv:l[i]? =some v):Cell A b i v:=λ g w hs=>by rw [cell_cl (h g w hs),hv]
theorem Cell.left {A X:SP}{b i:Nat}{v:Value}(h:Cell A b i v):Cell (A*X) b i v:=λ g w hs=>h g w hs.left
theorem Cell.right {A X:SP}{b i:Nat}{v:Value}(h:Cell X b i v):Cell (A*X) b i v:=λ g w hs=>h g w hs.right
theorem Cell.pre {A B:SP}{b i:Nat}{v:Value}(h:Cell A b i v)(k:∀g w,sat g w B->sat g w A):Cell B b i v:=λ g w hs=>h g w (k g w hs)
def Cells (A:SP)(b off:Nat)(xs:List Value):Prop:=∀i v,xs[i]? =some v->Cell A b (off+i) v
theorem cells_of_has {A:SP}{b off k:Nat}{l xs:List Value}{E:TypeId}(h:Has A b (cl l E))(hx:(l.drop off).take k=xs):Cells A b off xs:=λ i v hv=>by
  apply cell_of_has h
  rw [←hx,List.getElem?_take] at hv
  split at hv
  . rwa [List.getElem?_drop] at hv
  cases hv
theorem Cells.left {A X:SP}{b i:Nat}{xs:List Value}(h:Cells A b i xs):Cells (A*X) b i xs:=λ j v hv=>(h j v hv).left
theorem Cells.right {A X:SP}{b i:Nat}{xs:List Value}(h:Cells X b i xs):Cells (A*X) b i xs:=λ j v hv=>(h j v hv).right
theorem Cells.pre {A B:SP}{b i:Nat}{xs:List Value}(h:Cells A b i xs)(k:∀g w,sat g w B->sat g w A):Cells B b i xs:=λ j v hv=>(h j v hv).pre k
theorem Cells.sub {A:SP}{b off:Nat}{xs ys:List Value}(j k:Nat)(h:Cells A b off xs)(e:(xs.drop j).take k=ys):Cells A b (off+j) ys:=λ i v hv=>by
  rw [←e,List.getElem?_take] at hv
  split at hv
  . rw [List.getElem?_drop] at hv
    have:=h _ _ hv
    rwa [Nat.add_assoc]
  cases hv
def Rd (A:SP)(a:Option Addr)(xs:List Value):Prop:=xs=[]∨∃b off,a=some ⟨b,off,none⟩/\ Cells A b off xs
theorem Rd.left {A X:SP}{a:Option Addr}{xs:List Value}(h:Rd A a xs):Rd (A*X) a xs:=h.imp id λ ⟨b,off,e,hc⟩=>⟨b,off,e,hc.left⟩
theorem Rd.right {A X:SP}{a:Option Addr}{xs:List Value}(h:Rd X a xs):Rd (A*X) a xs:=h.imp id λ ⟨b,off,e,hc⟩=>⟨b,off,e,hc.right⟩
theorem Rd.pre {A B:SP}{a:Option Addr}{xs:List Value}(h:Rd A a xs)(k:∀g w,sat g w B->sat g w A):Rd B a xs:=h.imp id λ ⟨b,off,e,hc⟩=>⟨b,off,e,hc.pre k⟩
theorem Rd.some {A:SP}{a:Option Addr}{xs:List Value}(h:Rd A a xs)(h0:0<xs.length):∃b off,a=some ⟨b,off,none⟩/\ Cells A b off xs:=by
  rcases h with h|h
  . subst h;simp at h0
  exact h
theorem rd_nil {A:SP}{a:Option Addr}:Rd A a []:= .inl rfl
theorem rd_cells {A:SP}{b off:Nat}{xs:List Value}(h:Cells A b off xs):Rd A (some ⟨b,off,none⟩) xs:= .inr ⟨b,off,rfl,h⟩
section
variable {P:Program} {n:Nat} {ρ:Env} {A:SP} {dst:Option Tmp} {ty:TypeId} {pos:String} {after:Array Edge} {gd:Option (Nat×Bool)}
theorem o_loadC {t:TypeId}{x:Operand}{b off:Nat}{v:Value}(hp:plainE P t=true)(hx:ev n ρ x= .pointer (some ⟨b,off,none⟩))(hc:Cell A b off v):
    OpV P n ρ A ⟨dst,.load t x,ty,pos,after,gd⟩ v:=λ g w hs=>by
  simp only [execOp,hx,Instr.loadAt,Instr.sureAddr]
  rw [run_bind (a:=v) (w':=w)]
  . rfl
  rw [run_bind (w':=w) (a:=(⟨b,off,none⟩:Addr)) rfl]
  unfold loadVar
  rw [run_bind (run_isAgg_f hp)]
  exact run_load1 (hc g w hs)
theorem run_loadCellsC {A:SP}{g:Gh}{w:World}{b off k:Nat}{xs:List Value}(hc:Cells A b off xs)(hk:xs.length=k)(hs:sat g w A):(loadCells ⟨b,off,none⟩ k).run P w= .ok xs.toArray w:=by
  unfold loadCells
  rw [run_loadCellsFrom k 0 #[] xs (λ j hj=> ?_) hk]
  . simp
  have hj':j<xs.length:=(by omega);rw [List.getElem?_eq_getElem hj']
  exact hc j _ (List.getElem?_eq_getElem hj') g w hs
theorem o_loadNC {t:TypeId}{x:Operand}{b off k:Nat}{vs:List Value}(hp:aggE P t=true)(hk:szE P t=some k)(hx:ev n ρ x= .pointer (some ⟨b,off,none⟩))(hl:vs.length=k)(hc:Cells A b off vs):
    OpV P n ρ A ⟨dst,.load t x,ty,pos,after,gd⟩ (.agg vs.toArray):=λ g w hs=>by
  simp only [execOp,hx,Instr.loadAt,Instr.sureAddr]
  rw [run_bind (a:= .agg vs.toArray) (w':=w)]
  . rfl
  rw [run_bind (w':=w) (a:=(⟨b,off,none⟩:Addr)) rfl]
  unfold loadVar
  rw [run_bind (run_isAgg_t hp)]
  simp only [if_true]
  rw [run_bind (run_size hk),run_bind (run_loadCellsC hc hl hs)]
  rfl
end
def Sl (k:Nat)(v:Value)(n:Nat)(xs:List Value):SP:=λ h=>xs.length=n*k∧
  ((v = .slice none 0 0 ∧ n = 0 ∧ h = fun _ => none) ∨
   ∃b off cap l E,v= .slice (some ⟨b,off,none⟩) n cap/\ n<=cap/\ off+cap*k<=l.length/\ (l.drop off).take (n*k)=xs/\ pt b (cl l E) h)
theorem sl_iff {k:Nat}{v:Value}{n:Nat}{xs:List Value}{R:SP}{g:Gh}{w:World}:sat g w (R*Sl k v n xs)↔xs.length=n*k∧
    ((v = .slice none 0 0 ∧ n = 0 ∧ sat g w R) ∨
     ∃b off cap l E,v= .slice (some ⟨b,off,none⟩) n cap/\ n<=cap/\ off+cap*k<=l.length/\ (l.drop off).take (n*k)=xs/\ sat g w (R*pt b (cl l E))):=by
  constructor
  . intro hs;obtain ⟨_,⟨x,y,hd,rfl,ha,hl,hb⟩,hx⟩:=hs.hp;refine ⟨hl, ?_⟩
    rcases hb with ⟨e1,e2,e3⟩|⟨b,off,cap,l,E,e1,e2,e3,e4,e5⟩
    . exact .inl ⟨e1,e2,hs.left⟩
    exact .inr ⟨b,off,cap,l,E,e1,e2,e3,e4,hs.os,hs.tape,hs.out,_,⟨x,y,hd,rfl,ha,e5⟩,hx⟩
  rintro ⟨hl,h|⟨b,off,cap,l,E,e1,e2,e3,e4,hs⟩⟩
  . obtain ⟨e1,e2,hs⟩:=h;rw [←star_emp R] at hs
    exact hs.mono λ h ⟨x,y,hd,e,ha,hb⟩=>⟨x,y,hd,e,ha,hl,.inl ⟨e1,e2,hb⟩⟩
  exact hs.mono λ h ⟨x,y,hd,e,ha,hb⟩=>⟨x,y,hd,e,ha,hl,.inr ⟨b,off,cap,l,E,e1,e2,e3,e4,hb⟩⟩
theorem sl_len {k:Nat}{v:Value}{n:Nat}{xs:List Value}{R:SP}{g:Gh}{w:World}(hs:sat g w (R*Sl k v n xs)):xs.length=n*k:=(sl_iff.1 hs).1
theorem sl_have {k:Nat}{v:Value}{n:Nat}{xs:List Value}{R:SP}{g:Gh}{w:World}(hs:sat g w (R*Sl k v n xs)):
    ∃a cap,v= .slice a n cap/\ n<=cap/\ xs.length=n*k/\ Rd (R*Sl k v n xs) a xs:=by
  obtain ⟨hl,⟨e1,e2,_⟩|⟨b,off,cap,l,E,e1,e2,_⟩⟩:=sl_iff.1 hs
  . refine ⟨none,0,by rw [e1,e2],by omega,hl,.inl ?_⟩;rw [e2] at hl;simpa using hl
  refine ⟨_,_,e1,e2,hl,rd_cells λ i u hu g' w' hs'=> ?_⟩;obtain ⟨hl',⟨e1',_⟩|⟨b',off',cap',l',E',e1',_,_,e4',hs''⟩⟩:=sl_iff.1 hs'
  . rw [e1] at e1';cases e1'
  rw [e1] at e1'
  simp only [Value.slice.injEq,Option.some.injEq,Addr.mk.injEq] at e1'
  obtain ⟨⟨rfl,rfl,_⟩,_,rfl⟩:=e1';exact cells_of_has has_here e4' i u hu g' w' hs''
theorem sl_new {k b n cap:Nat}{l xs:List Value}{E:TypeId}{R:SP}{g:Gh}{w:World}(hs:sat g w (R*pt b (cl l E)))(h1:n<=cap)(h2:cap*k<=l.length)(h3:l.take (n*k)=xs):
    sat g w (R*Sl k (.slice (some ⟨b,0,none⟩) n cap) n xs):=
  sl_iff.2 ⟨by rw [← h3, List.length_take]; have : n * k ≤ cap * k := Nat.mul_le_mul_right k h1
               omega,.inr ⟨b,0,cap,l,E,rfl,h1,by omega,by simpa using h3,hs⟩⟩
theorem sl_nil {k:Nat}{R:SP}{g:Gh}{w:World}(hs:sat g w R):sat g w (R*Sl k (.slice none 0 0) 0 []):=sl_iff.2 ⟨by simp,.inl ⟨rfl,rfl,hs⟩⟩
theorem splice_all {l vs:List Value}(h:vs.length=l.length):splice l 0 vs=vs:=by
  rw [splice_eq oqz];simp [h]
section
variable {P:Program} {n:Nat} {ρ:Env} {A:SP} {dst:Option Tmp} {ty:TypeId} {pos:String} {after:Array Edge} {gd:Option (Nat×Bool)}
theorem run_firstCells {A:SP}{g:Gh}{w:World}{a:Option Addr}{xs:List Value}{k m len cap:Nat}(hr:Rd A a xs)(hm:xs.length=m*k)(hs:sat g w A):
    (Builtin.firstCells k m (.slice a len cap)).run P w= .ok xs.toArray w:=by
  rcases hr with rfl|⟨b,off,rfl,hc⟩
  . have h0:m*k=0:=(by simpa using hm.symm)
    cases a with
    |none=>rfl
    |some p=>simp only [Builtin.firstCells,h0];rfl
  simp only [Builtin.firstCells]
  exact run_loadCellsC hc hm hs
theorem info_of {P:Program}{e:TypeId}{k bytes:Nat}{z:Value}(hk:szE P e=some k)(hb:bytesE P e=some bytes)(hz:zeroE P e=some z):∃i,P.info? e=some i/\ i.size=k/\ i.bytes=bytes/\ i.zero=some z:=by
  unfold szE at hk;unfold bytesE at hb;unfold zeroE at hz
  cases hi:P.info? e with
  |none=>rw [hi] at hk;cases hk
  |some i=>rw [hi] at hk hb hz;exact ⟨i,rfl,by simpa using hk,by simpa using hb,by simpa using hz⟩
theorem o_appendG {t t' e e':TypeId}{x y:Operand}{v z:Value}{m k q bytes c:Nat}{a:Option Addr}{xs ys:List Value}{R:SP}
    (hu:P.underlying t=some (.slice e)) (hu':P.underlying t'=some (.slice e')) (hk:szE P e=some k) (hb:bytesE P e=some bytes) (hz:zeroE P e=some z) (hzk:z.cells.size=k) (hk0:0<k) (hb0:0<bytes)
    (hx:ev n ρ x=v) (hy:ev n ρ y= .slice a m c) (hA:A=R*Sl k v q xs) (hr:Rd A a ys) (hm:ys.length=m*k) (ho:∀u∈ys,oneC u=true) (hlim:(q+m)*bytes<=140737488355328):
    OpX P n ρ A ⟨dst,.call { callee:= .builtin .append,args:= #[x,y],argTypes:= #[t,t'] },ty,pos,after,gd⟩ (λ v' B=>(∃a' c',v= .slice a' q c'/\ v'= .slice a' (q+m) c'/\ q+m<=c'/\ B=R*Sl k v' (q+m) (xs++ys))∨B=R*Sl k v q xs*Sl k v' (q+m) (xs++ys)):=λ g w hs=>by
  have hs0:=hs;rw [hA] at hs0
  obtain ⟨hl,hcase⟩:=sl_iff.1 hs0;obtain ⟨aa,cap,hv,hqc,_,hrd⟩:=sl_have hs0
  -- the run, but for the operation itself
  have key:∀ (r:Value) (w':World),(Builtin.append_ #[t,t'] ty #[v,.slice a m c]).run P w= .ok r w'→
      (execOp (ev n ρ) ⟨dst,.call { callee:= .builtin .append,args:= #[x,y],argTypes:= #[t,t'] },ty,pos,after,gd⟩).run P w= .ok (.value r) w':=λ r w' h=>by
    simp only [execOp,resolve,List.map_toArray,List.map_cons,List.map_nil,hx,hy]
    rw [run_bind (w':=w) (a:=⟨.builtin .append #[t,t'] ty _,#[v,.slice a m c]⟩) (by rfl)]
    simp only [invoke,builtin]
    rw [run_bind h];rfl
  have hold:(Builtin.firstCells k q (.slice aa q cap)).run P w= .ok xs.toArray w:=run_firstCells hrd hl hs0;have hnew:∀w':World,sat g w' A->(Builtin.firstCells k m (.slice a m c)).run P w'= .ok ys.toArray w':=λ w' h=>run_firstCells hr hm h
  subst hv;obtain ⟨i,hi,hi1,hi2,hi3⟩:=info_of hk hb hz
  by_cases hroom:q+m<=cap
  · -- there is room
    rcases hcase with ⟨e1,e2,hsR⟩|⟨b,off,cap',l,E,e1,e2,e3,e4,hsR⟩
    . simp only [Value.slice.injEq] at e1
      obtain ⟨rfl,rfl,rfl⟩:=e1;have hm0:m=0:=(by omega);subst hm0;have hy0:ys=[]:=(by simpa using hm);subst hy0;refine ⟨.slice none 0 0,w,_,key _ _ ?_, ?_,.inl ⟨none,0,rfl,rfl,by omega,rfl⟩⟩
      . have hn:=hnew w hs
        simp [Builtin.append_,run_underlying hu,run_underlying hu',sizeOf,typeInfo,hi,hi1,Builtin.lenOf,hn]
      rw [List.append_nil];exact hs0
    simp only [Value.slice.injEq] at e1
    obtain ⟨rfl,_,rfl⟩:=e1
    have hlen:off+q*k+ys.length<=l.length:=by
      have:(q+m)*k<=cap*k:=Nat.mul_le_mul_right k hroom;rw [Nat.add_mul] at this
      omega
    obtain ⟨w',hst,hh,g1,g2,g3⟩:=run_storeCells (P:=P) (off:=off+q*k) ys 0 l w (has_here g w hsR) oqz ho;refine ⟨.slice (some ⟨b,off,none⟩) (q+m) cap,w',_,key _ _ ?_, ?_,.inl ⟨_,_,rfl,rfl,hroom,rfl⟩⟩
    . have hn:=hnew w hs
      simp [Builtin.append_,run_underlying hu,run_underlying hu',sizeOf,typeInfo,hi,hi1,Builtin.lenOf,hn,hroom,addr_add,hst]
    have hu2:Upd (R*pt b (cl l E)) b (cl l E) (cl (splice l (off+q*k) ys) E) (R*pt b (cl (splice l (off+q*k) ys) E)):=upd_here;have hs2:=hu2.sat hsR (λ j=>by rw [hh j];rfl) g1 g2 g3;refine sl_iff.2 ⟨by rw [List.length_append,hl,hm,Nat.add_mul],.inr ⟨b,off,cap,_,E,rfl,hroom,by rw [splice_length];exact e3, ?_,hs2⟩⟩
    apply List.ext_getElem?
    intro i;rw [List.getElem?_take,List.getElem?_append,List.getElem?_drop,splice_getElem? _ _ _ _ hlen,Nat.add_mul,←hm,←hl]
    have hx':∀i,i<xs.length->l[off+i]? =xs[i]? :=λ i hi=>by
      rw [←e4,List.getElem?_take,if_pos (by rw [←hl];exact hi),List.getElem?_drop]
    by_cases h1:i<xs.length
    . rw [if_pos oqz,if_neg oqz,if_pos h1,hx' i h1]
    by_cases h2:i<xs.length+ys.length
    . rw [if_pos h2,if_pos oqz,if_neg h1];congr 1;omega
    rw [if_neg h2,if_neg h1,List.getElem?_eq_none oqz]
  -- it grows
  have hbig:cap<q+m:=(by omega);have hfit:=growslice_fits hbig hlim;have p48:(2:Nat)^48=281474976710656:=(by decide)
  let cut:=(Question.appendCap (q+m) cap e).cut (w.tape w.drawn (.appendCap (q+m) cap e))
  have hcut:q+m<=cut:=(by show q+m<=(q+m)+_;omega)
  let wd:World:={ w with drawn:=w.drawn+1 }
  have hsd:sat g wd A:=hs.draw rfl rfl rfl rfl;have hsd0:sat g wd (R*Sl k (.slice aa q cap) q xs):=hA▸hsd
  have hold':(Builtin.firstCells k q (.slice aa q cap)).run P wd= .ok xs.toArray wd:=run_firstCells hrd hl hsd0
  let rest:=Builtin.zeroCells z.cells (cut-(q+m))
  have hrest:rest.size=(cut-(q+m))*k:=(by show (Builtin.zeroCells z.cells (cut-(q+m))).size=_;rw [size_zeroCells,hzk])
  let cs:=xs++ys++rest.toList
  have hcs:xs.toArray++ys.toArray++rest=cs.toArray:=(by apply Array.ext';simp [cs]);refine ⟨.slice (some ⟨w.heap.size,0,none⟩) (q+m) cut,wd.alloc (cl cs e),_,key _ _ ?_, ?_,.inr rfl⟩
  . have hn:=hnew wd hsd
    have h63:¬(9223372036854775807<((q:Int)+(m:Int))):=by
      have:(q+m)*1<=(q+m)*bytes:=Nat.mul_le_mul_left _ hb0
      omega
    have hfit':¬(281474976710656<Builtin.nextslicecap (q+m) cap*i.bytes):=(by rw [hi2];omega);have hwd:w.drew=wd:=rfl;have hcut':(Question.appendCap (q+m) cap e).cut (w.tape w.drawn (.appendCap (q+m) cap e))=cut:=rfl;have hrow:wd.alloc (.cells (xs.toArray++ys.toArray++Builtin.zeroCells z.cells (cut-(q+m))) e)=wd.alloc (cl cs e):=congrArg (λ c=>wd.alloc (.cells c e)) hcs;have hsz:wd.heap.size=w.heap.size:=rfl;rw [←hrow]
    simp [Builtin.append_,run_underlying hu,run_underlying hu',sizeOf,typeInfo,zeroValue,hi,hi1,hi3,Builtin.lenOf,hroom,h63,hfit',Question.forced,hwd,hold',hn,hcut',newRow,hsz]
    congr 2;apply Array.ext';simp
  have:=hsd0.alloc (cl cs e);refine sl_new this hcut ?_ ?_
  . simp only [cs,List.length_append,Array.length_toList,hrest,hl,hm,←Nat.add_mul]
    rw [Nat.add_sub_cancel' hcut];exact Nat.le_refl _
  have:(q+m)*k=(xs++ys).length:=(by rw [List.length_append,hl,hm,Nat.add_mul]);rw [this]
  show List.take _ ((xs++ys)++_)=_
  rw [List.take_left]
theorem o_append {t t' e e':TypeId}{x y:Operand}{v z:Value}{m k q bytes c:Nat}{a:Option Addr}{xs ys:List Value}{R:SP}
    (hu:P.underlying t=some (.slice e)) (hu':P.underlying t'=some (.slice e')) (hk:szE P e=some k) (hb:bytesE P e=some bytes) (hz:zeroE P e=some z) (hzk:z.cells.size=k) (hk0:0<k) (hb0:0<bytes)
    (hx:ev n ρ x=v) (hy:ev n ρ y= .slice a m c) (hA:A=R*Sl k v q xs) (hr:Rd A a ys) (hm:ys.length=m*k) (ho:∀u∈ys,oneC u=true) (hlim:(q+m)*bytes<=140737488355328):
    OpX P n ρ A ⟨dst,.call { callee:= .builtin .append,args:= #[x,y],argTypes:= #[t,t'] },ty,pos,after,gd⟩ (λ v' B=>B=R*Sl k v' (q+m) (xs++ys)):=λ g w hs=>by
  obtain ⟨v',w',B,h1,h2,⟨_,_,_,_,_,rfl⟩|rfl⟩:=o_appendG (dst:=dst) (ty:=ty) (pos:=pos) (after:=after) (gd:=gd) hu hu' hk hb hz hzk hk0 hb0 hx hy hA hr hm ho hlim g w hs
  . exact ⟨v',w',_,h1,h2,rfl⟩
  refine ⟨v',w',_,h1, ?_,rfl⟩;rw [star_assoc,star_comm (Sl k v q xs),←star_assoc] at h2
  exact h2.left
theorem fold_splice (l:List Value):∀ (off j:Nat) (init:List Value),
    ((l.zipIdx j).foldl (λ (cs:Array Value) (p:Value×Nat)=>cs.setIfInBounds (off+p.2) p.1) init.toArray)=(splice init (off+j) l).toArray:=by
  induction l with
  |nil=>intro off j init;rfl
  |cons v l ih=>
    intro off j init
    simp only [List.zipIdx_cons,List.foldl_cons,splice,List.setIfInBounds_toArray]
    rw [ih];rfl
theorem fill_seq {k:Nat}:∀ (vs:List Value) (i:Nat) (init:List Value),(∀v∈vs,v.cells.size=k)->(i+vs.length)*k<=init.length→
    Instr.fill (λ i=>some (i*k,k)) init.toArray ((vs.zipIdx i).map λ p=>(p.2,p.1))=some (splice init (i*k) (vs.flatMap λ v=>v.cells.toList)).toArray
  |[],i,init,_,_=>rfl
  |v::vs,i,init,h,hl=>by
    have hv:=h v (by simp);have hle:(i+1)*k<=(i+(vs.length+1))*k:=Nat.mul_le_mul_right k oqz;rw [List.length_cons] at hl
    have hlen:i*k+k<=init.length:=(by rw [Nat.add_mul,Nat.one_mul] at hle;omega)
    simp only [List.zipIdx_cons,List.map_cons,Instr.fill,List.flatMap_cons]
    rw [if_neg (by simp [hv];omega)]
    have hz:v.cells.zipIdx.foldl (λ (cs:Array Value) (x:Value×Nat)=>match x with|(c,j)=>cs.setIfInBounds (i*k+j) c) init.toArray=(splice init (i*k) v.cells.toList).toArray:=by
      have:=fold_splice v.cells.toList (i*k) 0 init;rw [Nat.add_zero] at this
      rw [←this,←Array.foldl_toList,Array.toList_zipIdx]
    have hl':(i+1+vs.length)*k<=(splice init (i*k) v.cells.toList).length:=by
      rw [splice_length]
      have:i+1+vs.length=i+(vs.length+1):=(by omega);rw [this];exact hl
    rw [hz,fill_seq vs (i+1) _ (λ u hu=>h u (by simp [hu])) hl']
    have happ:∀ (a b:List Value) (l:List Value) (o:Nat),splice l o (a++b)=splice (splice l o a) (o+a.length) b:=by
      intro a
      induction a with
      |nil=>intro b l o;rfl
      |cons x a ih=>intro b l o;simp only [List.cons_append,splice,ih,List.length_cons];congr 1;omega
    rw [happ,Array.length_toList,hv,Nat.add_mul,Nat.one_mul]
def bld (places:List (Nat×Nat)):List Value->List (Nat×Value)->Option (List Value)
  |l,[]=>some l
  |l,(i,v)::rest=>match places[i]? with
    |none=>none
    |some (off,sz)=>bif Nat.beq v.cells.toList.length sz&&Nat.ble (off+sz) l.length then bld places (splice l off v.cells.toList) rest else none
theorem fill_bld {places:List (Nat×Nat)}:∀ (vs:List (Nat×Value)) (l r:List Value),bld places l vs=some r->Instr.fill (λ i:Nat=>places[i]?) l.toArray vs=some r.toArray
  |[],l,r,h=>by simp only [bld,Option.some.injEq] at h;subst h;rfl
  |(i,v)::vs,l,r,h=>by
    simp only [bld] at h
    simp only [Instr.fill]
    cases hp:places[i]? with
    |none=>rw [hp] at h;cases h
    |some p=>
      obtain ⟨off,sz⟩:=p;rw [hp] at h
      simp only [] at h ⊢
      cases hb:(Nat.beq v.cells.toList.length sz&&Nat.ble (off+sz) l.length) with
      |false=>rw [hb] at h;cases h
      |true=>
        rw [hb] at h
        simp only [cond_true] at h
        simp only [Bool.and_eq_true] at hb
        have h1:v.cells.size=sz:=(by rw [←Array.length_toList];exact Nat.eq_of_beq_eq_true hb.1);have h2:off+sz<=l.length:=Nat.le_of_ble_eq_true hb.2;rw [if_neg (by simp [h1];omega)]
        have hz:v.cells.zipIdx.foldl (λ (cs:Array Value) (x:Value×Nat)=>match x with|(c,j)=>cs.setIfInBounds (off+j) c) l.toArray=(splice l off v.cells.toList).toArray:=by
          have:=fold_splice v.cells.toList off 0 l;rw [Nat.add_zero] at this
          rw [←this,←Array.foldl_toList,Array.toList_zipIdx]
        rw [hz]
        exact fill_bld vs _ r h
theorem o_buildS {t:TypeId}{fs:Array Field}{places:List (Nat×Nat)}{z l:List Value}{parts:Array (Nat×Operand)}{vs:List (Nat×Value)}(hu:P.underlying t=some (.struct fs))(hz:zeroE P t=some (.agg z.toArray))
    (hp:∀w,(fs.mapM λ f=>do pure (f.offset,←sizeOf f.type):Sem (Array (Nat×Nat))).run P w= .ok places.toArray w) (hx:parts.toList.map (λ p=>(p.1,ev n ρ p.2))=vs)
    (hf:bld places z vs=some l):OpV P n ρ A ⟨dst,.build t parts,ty,pos,after,gd⟩ (.agg l.toArray):=o_buildStruct hu hz hp hx (fill_bld vs z l hf)
theorem o_buildA {t e:TypeId}{len:Nat}{z:List Value}{parts:Array (Nat×Operand)}{vs:List Value}(hu:P.underlying t=some (.array len e))(hk:szE P e=some 1)(hz:zeroE P t=some (.agg z.toArray))(hzl:z.length=len)
    (hn:parts.toList.map (·.1)=List.range' 0 vs.length) (hx:parts.toList.map (λ p=>ev n ρ p.2)=vs) (hle:vs.length<=len) (hc:vs.all oneC=true):
    OpV P n ρ A ⟨dst,.build t parts,ty,pos,after,gd⟩ (.agg (splice z 0 vs).toArray):=by
  have hcells:∀v∈vs,v.cells= #[v]:=λ v hv=>by
    have:=List.all_eq_true.1 hc v hv
    cases v<;>first|(simp [oneC] at this;done)|rfl
  refine o_build (vs:=(vs.zipIdx 0).map λ p=>(p.2,p.1)) ?_ λ w=> ?_
  . apply List.ext_getElem?
    intro i;rw [List.getElem?_map,List.getElem?_map,List.getElem?_zipIdx]
    cases hp:parts.toList[i]? with
    |none=>
      have:vs[i]? =none:=(by rw [←hx,List.getElem?_map,hp];rfl)
      simp [this]
    |some p=>
      have h0:vs[i]? =some (ev n ρ p.2):=(by rw [←hx,List.getElem?_map,hp];rfl);have h1:(parts.toList.map (·.1))[i]? =some p.1:=(by rw [List.getElem?_map,hp];rfl);rw [hn] at h1
      have h2:p.1=i:=by
        obtain ⟨hb,he⟩:=List.getElem?_eq_some_iff.1 h1;rw [List.getElem_range'] at he;omega
      simp [h2,h0]
  unfold Instr.build
  rw [run_bind (run_zeroV hz)]
  simp only [Value.cells]
  rw [run_bind (run_und hu)]
  simp only []
  rw [run_bind (run_size hk)]
  have:=fill_seq (k:=1) vs 0 z (λ v hv=>by rw [hcells v hv];rfl) oqz;rw [this]
  have hf:(vs.flatMap λ v=>v.cells.toList)=vs:=by
    have:∀us:List Value,(∀v∈us,v.cells= #[v])->(us.flatMap λ v=>v.cells.toList)=us:=by
      intro us
      induction us with
      |nil=>intro _;rfl
      |cons u us ih=>intro h;rw [List.flatMap_cons,h u (by simp),ih λ v hv=>h v (by simp [hv])];rfl
    exact this vs hcells
  rw [hf]
  rfl
theorem o_buildSliceL {t e:TypeId}{len k:Nat}{z:Value}{parts:Array (Nat×Operand)}{vs l:List Value}(hu:P.underlying t=some (.slice e))(hk:szE P e=some k)(hz:zeroE P e=some z)
    (hn:parts.toList.map (·.1)=List.range' 0 len) (hx:parts.toList.map (λ p=>ev n ρ p.2)=vs) (hle:len*k<=16777216) (hpos:len*k≠0) (hc:∀v∈vs,v.cells.size=k) (hl:(vs.flatMap λ v=>v.cells.toList)=l):
    OpX P n ρ A ⟨dst,.buildSlice t len parts,ty,pos,after,gd⟩ (NewS A l e len len):=by
  have hlen:vs.length=len:=by
    rw [←hx,List.length_map]
    have:=congrArg List.length hn
    simpa using this
  refine o_buildSlice (vs:=(vs.zipIdx 0).map λ p=>(p.2,p.1)) hu hk hz ?_ hle hpos ?_
  . apply List.ext_getElem?
    intro i;rw [List.getElem?_map,List.getElem?_map,List.getElem?_zipIdx,←hx,List.getElem?_map]
    cases hp:parts.toList[i]? with
    |none=>simp
    |some p=>
      have h1:(parts.toList.map (·.1))[i]? =some p.1:=(by rw [List.getElem?_map,hp];rfl);rw [hn] at h1
      have h2:p.1=i:=by
        have:=List.getElem?_eq_some_iff.1 h1;obtain ⟨hb,he⟩:=this;rw [List.getElem_range'] at he;omega
      simp [h2]
  have hrow:((Array.range (len*k)).map λ x=>z.cells[x%z.cells.size]!)=((List.range (len*k)).map λ x=>z.cells[x%z.cells.size]!).toArray:=by
    apply Array.ext';simp
  rw [hrow,fill_seq vs 0 _ hc (by simp [hlen])]
  have hfl:∀us:List Value,(∀v∈us,v.cells.size=k)->(us.flatMap λ v=>v.cells.toList).length=us.length*k:=by
    intro us
    induction us with
    |nil=>intro _;simp
    |cons u us ih=>intro h;rw [List.flatMap_cons,List.length_append,ih λ v hv=>h v (by simp [hv]),Array.length_toList,h u (by simp),List.length_cons,Nat.add_mul];omega
  have hsz:(vs.flatMap λ v=>v.cells.toList).length=len*k:=(by rw [hfl vs hc,hlen]);rw [hl] at*
  congr 2
  rw [splice_eq (by simp [hsz])]
  simp [hsz]
theorem o_buildSlice1 {t e:TypeId}{x:Operand}{z v:Value}(hu:P.underlying t=some (.slice e))(hk:szE P e=some 1)(hz:zeroE P e=some z)(hx:ev n ρ x=v)(ho:oneC v=true):
    OpX P n ρ A ⟨dst,.buildSlice t 1 #[(0,x)],ty,pos,after,gd⟩ (NewS A [v] e 1 1):=
  have hc:v.cells= #[v]:=(by cases v<;>first|(simp [oneC] at ho;done)|rfl)
  o_buildSliceL (vs:=[v]) hu hk hz rfl (by simp [hx]) (by decide) (by decide) (by simp [hc]) (by simp [hc])
theorem o_buildSliceK {t e:TypeId}{k:Nat}{x:Operand}{z:Value}{l:List Value}(hu:P.underlying t=some (.slice e))(hk:szE P e=some k)(hz:zeroE P e=some z)(hx:ev n ρ x= .agg l.toArray)(hl:l.length=k)(h0:k≠0/\ k<=16777216):
    OpX P n ρ A ⟨dst,.buildSlice t 1 #[(0,x)],ty,pos,after,gd⟩ (NewS A l e 1 1):=
  o_buildSliceL (vs:=[.agg l.toArray]) hu hk hz rfl (by simp [hx]) oqz oqz (by simp [Value.cells,hl]) (by simp [Value.cells])
theorem o_buildSlice0 {t e:TypeId}{k:Nat}{parts:Array (Nat×Operand)}(hu:P.underlying t=some (.slice e))(hk:szE P e=some k)(hx:parts.toList.map (λ p=>(p.1,ev n ρ p.2))=[]):
    OpX P n ρ A ⟨dst,.buildSlice t 0 parts,ty,pos,after,gd⟩ (NewS A [] e 0 0):=λ g w hs=>by
  refine ⟨_,w.alloc (cl [] e),_, ?_,hs.alloc _,w.heap.size,rfl,rfl⟩;have he:parts.map (λ p=>(p.1,ev n ρ p.2))= #[]:=Array.ext' (by rw [Array.toList_map,hx])
  simp only [execOp]
  rw [run_bind (a:= .slice (some ⟨w.heap.size,0,none⟩) 0 0) (w':=w.alloc (cl [] e))]
  . rfl
  show (Instr.buildSlice t 0 (parts.map λ p=>(p.1,ev n ρ p.2))).run P w=_
  rw [he]
  unfold Instr.buildSlice
  rw [run_bind (run_und hu)]
  simp only []
  rw [run_bind (run_size hk)]
  simp only [Nat.zero_mul]
  rw [if_neg (by decide)]
  simp only [if_true]
  rw [run_bind (a:= #[]) (w':=w) rfl]
  have hf:Instr.fill (λ i=>some (i*k,k)) (Array.map (λ x=>(#[]:Array Value)[x%(#[]:Array Value).size]!) (Array.range 0)) []=some ([]:List Value).toArray:=(by simp [Instr.fill])
  simp only [hf]
  rw [run_bind run_newRow]
  rfl
theorem o_copy {t t' e:TypeId}{x y:Operand}{b off dl dc sl sc m:Nat}{a:Option Addr}{xs l l':List Value}{E:TypeId}{A':SP}(hu:P.underlying t=some (.slice e))(hk:szE P e=some 1)
    (hx:ev n ρ x= .slice (some ⟨b,off,none⟩) dl dc) (hy:ev n ρ y= .slice a sl sc) (hr:Rd A a xs) (hxs:xs.length=sl) (hm:Nat.min sl dl=m) (ho:∀u∈xs,oneC u=true) (hfit:off+m<=l.length)
    (hl':splice l off (xs.take m)=l') (hup:Upd A b (cl l E) (cl l' E) A'):
    OpX P n ρ A ⟨dst,.call { callee:= .builtin .copy,args:= #[x,y],argTypes:= #[t,t'] },ty,pos,after,gd⟩ (λ v B=>v=(vn m)/\ B=A'):=λ g w hs=>by
  have hms:m<=sl:=(by rw [←hm];exact Nat.min_le_left _ _);have hml:(xs.take m).length=m:=(by rw [List.length_take];omega);obtain ⟨w',hst,hh,g1,g2,g3⟩:=run_storeCells (P:=P) (off:=off) (xs.take m) 0 l w (hup.has g w hs) oqz (λ u hu=>ho u (List.mem_of_mem_take hu));refine ⟨_,w',A', ?_,hup.sat hs (λ j=>by rw [hh j,←hl'];rfl) g1 g2 g3,rfl,rfl⟩
  have hfc:(Builtin.firstCells 1 m (.slice a sl sc)).run P w= .ok (xs.take m).toArray w:=by
    have hr':Rd A a (xs.take m):=by
      rcases hr with rfl|⟨b',off',e,hc⟩
      . exact .inl (by simp)
      refine .inr ⟨b',off',e, ?_⟩;have:=hc.sub 0 m (ys:=xs.take m) (by simp)
      rwa [Nat.add_zero] at this
    exact run_firstCells hr' (by rw [hml,Nat.mul_one]) hs
  simp only [execOp,resolve,List.map_toArray,List.map_cons,List.map_nil,hx,hy]
  rw [run_bind (w':=w) (a:=⟨.builtin .copy #[t,t'] ty _,#[.slice (some ⟨b,off,none⟩) dl dc,.slice a sl sc]⟩) (by rfl)]
  simp only [invoke,builtin]
  rw [run_bind (w':=w') (a:=(vn m))]
  . rfl
  unfold Builtin.copy_
  simp only [List.getElem?_toArray,List.getElem?_cons_zero,List.getElem?_cons_succ]
  rw [run_bind (run_und hu)]
  simp only [Builtin.lenOf]
  rw [run_bind (a:=sl) (w':=w) rfl,run_bind (run_size hk),hm,run_bind hfc]
  simp only []
  rw [run_bind hst]
  rfl
theorem sat.drop2 {g:Gh}{w:World}{R X Y:SP}(h:sat g w (R*X*Y)):sat g w (R*Y):=by
  rw [star_swap] at h;exact h.left
theorem o_append1 {t t' e e':TypeId}{x y:Operand}{v z:Value}{m k q bytes c b:Nat}{xs ys:List Value}{R:SP}{E:TypeId}
    (hu:P.underlying t=some (.slice e)) (hu':P.underlying t'=some (.slice e')) (hk:szE P e=some k) (hb:bytesE P e=some bytes) (hz:zeroE P e=some z) (hzk:z.cells.size=k) (hk0:0<k) (hb0:0<bytes)
    (hx:ev n ρ x=v) (hy:ev n ρ y= .slice (some ⟨b,0,none⟩) m c) (hA:A=R*Sl k v q xs*pt b (cl ys E)) (hm:ys.length=m*k) (ho:ys.all oneC=true) (hlim:(q+m)*bytes<=140737488355328):
    OpX P n ρ A ⟨dst,.call { callee:= .builtin .append,args:= #[x,y],argTypes:= #[t,t'] },ty,pos,after,gd⟩ (λ v' B=>B=R*Sl k v' (q+m) (xs++ys)):=λ g w hs=>by
  obtain ⟨v',w',B,hr,hB,rfl⟩:=o_append (dst:=dst) (ty:=ty) (pos:=pos) (after:=after) (gd:=gd) hu hu' hk hb hz hzk hk0 hb0 hx hy (R:=R*pt b (cl ys E)) (by rw [hA,star_swap])
    (rd_cells (cells_of_has (k:=ys.length) (by rw [hA];exact has_here) (by simp))) hm (λ u hu=>by simpa using (List.all_eq_true.1 ho) u hu) hlim g w hs
  exact ⟨v',w',_,hr,hB.drop2,rfl⟩
theorem o_append2 {t t' e e':TypeId}{x y:Operand}{v z:Value}{m k q bytes c:Nat}{a:Option Addr}{xs ys:List Value}{R:SP}
    (hu:P.underlying t=some (.slice e)) (hu':P.underlying t'=some (.slice e')) (hk:szE P e=some k) (hb:bytesE P e=some bytes) (hz:zeroE P e=some z) (hzk:z.cells.size=k) (hk0:0<k) (hb0:0<bytes)
    (hx:ev n ρ x=v) (hy:ev n ρ y= .slice a m c) (hA:A=R*Sl k v q xs) (hr:Rd A a ys) (hm:ys.length=m*k) (ho:ys.all oneC=true) (hlim:(q+m)*bytes<=140737488355328):
    OpX P n ρ A ⟨dst,.call { callee:= .builtin .append,args:= #[x,y],argTypes:= #[t,t'] },ty,pos,after,gd⟩ (λ v' B=>B=R*Sl k v' (q+m) (xs++ys)):=λ g w hs=>by
  obtain ⟨v',w',B,hr,hB,rfl⟩:=o_append (dst:=dst) (ty:=ty) (pos:=pos) (after:=after) (gd:=gd) hu hu' hk hb hz hzk hk0 hb0 hx hy hA hr hm (λ u hu=>by simpa using (List.all_eq_true.1 ho) u hu) hlim g w hs;exact ⟨v',w',_,hr,hB,rfl⟩
end
end Go.Vl

namespace Go.Vl
open Go
theorem wrap_u8 (a:Nat):IntKind.u8.wrap (a:Int)=((a%256:Nat):Int):=by
  simp [IntKind.wrap,IntKind.bits,IntKind.signed];try omega
theorem wrap_u16 (a:Nat):IntKind.u16.wrap (a:Int)=((a%65536:Nat):Int):=by
  simp [IntKind.wrap,IntKind.bits,IntKind.signed];try omega
theorem wrap_u32 (a:Nat):IntKind.u32.wrap (a:Int)=((a%4294967296:Nat):Int):=by
  simp [IntKind.wrap,IntKind.bits,IntKind.signed];try omega
theorem wrap_u64 (a:Nat):IntKind.u64.wrap (a:Int)=((a%18446744073709551616:Nat):Int):=by
  simp [IntKind.wrap,IntKind.bits,IntKind.signed];try omega
section
variable {P:Program} {n:Nat} {ρ:Env} {A:SP} {dst:Option Tmp} {ty:TypeId} {pos:String} {after:Array Edge} {gd:Option (Nat×Bool)}
theorem OpV.cast {o:Oper}{v u:Value}(h:OpV P n ρ A o v)(e:v=u):OpV P n ρ A o u:=e▸h
theorem o_conv8 {s t:TypeId}{d:TypeDesc}{x:Operand}{k:IntKind}{a:Nat}(hs:P.underlying s=some d)(ht:P.underlying t=some (.int .u8))(hx:ev n ρ x= .int k (a:Nat)):
    OpV P n ρ A ⟨dst,.convert s t x,ty,pos,after,gd⟩ (.int .u8 ((a%256:Nat):Int)):=(o_conv hs ht hx).cast (by rw [wrap_u8])
theorem o_conv16 {s t:TypeId}{d:TypeDesc}{x:Operand}{k:IntKind}{a:Nat}(hs:P.underlying s=some d)(ht:P.underlying t=some (.int .u16))(hx:ev n ρ x= .int k (a:Nat)):
    OpV P n ρ A ⟨dst,.convert s t x,ty,pos,after,gd⟩ (.int .u16 ((a%65536:Nat):Int)):=(o_conv hs ht hx).cast (by rw [wrap_u16])
theorem o_conv32 {s t:TypeId}{d:TypeDesc}{x:Operand}{k:IntKind}{a:Nat}(hs:P.underlying s=some d)(ht:P.underlying t=some (.int .u32))(hx:ev n ρ x= .int k (a:Nat)):
    OpV P n ρ A ⟨dst,.convert s t x,ty,pos,after,gd⟩ (.int .u32 ((a%4294967296:Nat):Int)):=(o_conv hs ht hx).cast (by rw [wrap_u32])
theorem o_conv64 {s t:TypeId}{d:TypeDesc}{x:Operand}{k:IntKind}{a:Nat}(hs:P.underlying s=some d)(ht:P.underlying t=some (.int .u64))(hx:ev n ρ x= .int k (a:Nat)):
    OpV P n ρ A ⟨dst,.convert s t x,ty,pos,after,gd⟩ (.int .u64 ((a%18446744073709551616:Nat):Int)):=(o_conv hs ht hx).cast (by rw [wrap_u64])
theorem o_convI {s t:TypeId}{d:TypeDesc}{x:Operand}{k k':IntKind}{a:Int}(hs:P.underlying s=some d)(ht:P.underlying t=some (.int k'))(hx:ev n ρ x= .int k a)(h:k'.wrap a=a):
    OpV P n ρ A ⟨dst,.convert s t x,ty,pos,after,gd⟩ (.int k' a):=(o_conv hs ht hx).cast (by rw [h])
theorem o_shrN {t t':TypeId}{x y:Operand}{k k':IntKind}{a b:Nat}{c:Int}(hx:ev n ρ x= .int k (a:Nat))(hy:ev n ρ y= .int k' c)(hc:c=(b:Nat))(hb:b<=k.bits):
    OpV P n ρ A ⟨dst,.binOp .shr t x y t',ty,pos,after,gd⟩ (.int k ((a/2^b:Nat):Int)):=(o_shr hx hy oqz).cast (by
  subst hc;rw [Int.toNat_natCast,Nat.min_eq_left hb,Int.fdiv_eq_ediv_of_nonneg _ (by exact Int.pow_nonneg (by decide))]
  simp)
theorem bv_of (k:IntKind)(a:Nat)(h:a<2^k.bits):(BitVec.ofInt k.bits (a:Int)).toNat=a:=by
  rw [BitVec.toNat_ofInt]
  have:((a:Int)%((2^k.bits:Nat):Int))=((a%2^k.bits:Nat):Int):=(by simp);rw [this,Int.toNat_natCast,Nat.mod_eq_of_lt h]
theorem wrap_fit (k:IntKind)(hk:k.signed=false)(a:Nat)(h:a<2^k.bits):k.wrap (a:Int)=a:=by
  cases k<;>simp [IntKind.signed] at hk
  . rw [wrap_u8,Nat.mod_eq_of_lt (by simpa [IntKind.bits] using h)]
  . rw [wrap_u16,Nat.mod_eq_of_lt (by simpa [IntKind.bits] using h)]
  . rw [wrap_u32,Nat.mod_eq_of_lt (by simpa [IntKind.bits] using h)]
  rw [wrap_u64,Nat.mod_eq_of_lt (by simpa [IntKind.bits] using h)]
theorem o_orN {t t':TypeId}{x y:Operand}{k:IntKind}{a b:Nat}(hk:k.signed=false)(hx:ev n ρ x= .int k (a:Nat))(hy:ev n ρ y= .int k (b:Nat))(ha:a<2^k.bits)(hb:b<2^k.bits):
    OpV P n ρ A ⟨dst,.binOp .or t x y t',ty,pos,after,gd⟩ (.int k ((a|||b:Nat):Int)):=(o_or hx hy).cast (by
  rw [BitVec.toNat_or,bv_of k a ha,bv_of k b hb,wrap_fit k hk _ (Nat.or_lt_two_pow ha hb)])
theorem o_andN {t t':TypeId}{x y:Operand}{k:IntKind}{a b:Nat}(hk:k.signed=false)(hx:ev n ρ x= .int k (a:Nat))(hy:ev n ρ y= .int k (b:Nat))(ha:a<2^k.bits)(hb:b<2^k.bits):
    OpV P n ρ A ⟨dst,.binOp .and t x y t',ty,pos,after,gd⟩ (.int k ((a&&&b:Nat):Int)):=(o_and hx hy).cast (by
  rw [BitVec.toNat_and,bv_of k a ha,bv_of k b hb,wrap_fit k hk _ (Nat.and_lt_two_pow _ hb)])
theorem o_xorN {t t':TypeId}{x y:Operand}{k:IntKind}{a b:Nat}(hk:k.signed=false)(hx:ev n ρ x= .int k (a:Nat))(hy:ev n ρ y= .int k (b:Nat))(ha:a<2^k.bits)(hb:b<2^k.bits):
    OpV P n ρ A ⟨dst,.binOp .xor t x y t',ty,pos,after,gd⟩ (.int k ((a^^^b:Nat):Int)):=(o_xor hx hy).cast (by
  rw [BitVec.toNat_xor,bv_of k a ha,bv_of k b hb,wrap_fit k hk _ (Nat.xor_lt_two_pow ha hb)])
theorem o_shl64 {t t':TypeId}{x y:Operand}{k':IntKind}{a b:Nat}{c:Int}(hx:ev n ρ x= .int .u64 (a:Nat))(hy:ev n ρ y= .int k' c)(hc:c=(b:Nat))(hb:b<=64)(ha:a*2^b<18446744073709551616):
    OpV P n ρ A ⟨dst,.binOp .shl t x y t',ty,pos,after,gd⟩ (.int .u64 ((a*2^b:Nat):Int)):=(o_shl hx hy oqz).cast (by
  subst hc;rw [Int.toNat_natCast,Nat.min_eq_left (show b<=IntKind.u64.bits from hb)]
  have:(a:Int)*2^b=((a*2^b:Nat):Int):=(by simp)
  rw [this,wrap_u64,Nat.mod_eq_of_lt ha])
theorem wrap_mod (k:IntKind)(hk:k.signed=false)(a:Nat):k.wrap (a:Int)=((a%2^k.bits:Nat):Int):=by
  cases k<;>simp [IntKind.signed] at hk
  . exact wrap_u8 a
  . exact wrap_u16 a
  . exact wrap_u32 a
  exact wrap_u64 a
theorem o_shlm {t t':TypeId}{x y:Operand}{k k':IntKind}{a b:Nat}{c:Int}(hk:k.signed=false)(hx:ev n ρ x= .int k (a:Nat))(hy:ev n ρ y= .int k' c)(hc:c=(b:Nat))(hb:b<=k.bits):
    OpV P n ρ A ⟨dst,.binOp .shl t x y t',ty,pos,after,gd⟩ (.int k ((a*2^b%2^k.bits:Nat):Int)):=(o_shl hx hy oqz).cast (by
  subst hc;rw [Int.toNat_natCast,Nat.min_eq_left hb]
  have:(a:Int)*2^b=((a*2^b:Nat):Int):=(by simp)
  rw [this,wrap_mod k hk])
theorem o_addN {t t':TypeId}{x y:Operand}{k:IntKind}{a b:Nat}(hk:k.signed=false)(hx:ev n ρ x= .int k (a:Nat))(hy:ev n ρ y= .int k (b:Nat))(h:a+b<2^k.bits):
    OpV P n ρ A ⟨dst,.binOp .add t x y t',ty,pos,after,gd⟩ (.int k ((a+b:Nat):Int)):=(o_add hx hy).cast (by
  have:(a:Int)+b=((a+b:Nat):Int):=(by simp)
  rw [this,wrap_fit k hk _ h])
theorem o_mulN {t t':TypeId}{x y:Operand}{k:IntKind}{a b:Nat}{c:Int}(hk:k.signed=false)(hx:ev n ρ x= .int k (a:Nat))(hy:ev n ρ y= .int k c)(hc:c=(b:Nat))(h:a*b<2^k.bits):
    OpV P n ρ A ⟨dst,.binOp .mul t x y t',ty,pos,after,gd⟩ (.int k ((a*b:Nat):Int)):=(o_mul hx hy).cast (by
  subst hc;have:(a:Int)*b=((a*b:Nat):Int):=(by simp)
  rw [this,wrap_fit k hk _ h])
theorem run_all {P:Program}{w:World}{α:Type}(f:α->(Option Bool×Unit)->Sem (ForInStep (Option Bool×Unit)))(c:α->Bool):∀ (l:List α),
    (∀i∈l,(f i (none,())).run P w= .ok (if c i then .yield (none,()) else .done (some false,())) w)→
    (forIn l (none,()) f:Sem (Option Bool×Unit)).run P w= .ok (if l.all c then (none,()) else (some false,())) w
  |[],_=>by simp [pure]
  |i::l,h=>by
    rw [List.forIn_cons,run_bind (h i (by simp))]
    cases hc:c i with
    |false=>simp [hc,pure]
    |true=>
      simp only [hc,if_true,List.all_cons,Bool.true_and]
      exact run_all f c l λ j hj=>h j (by simp [hj])
theorem eqarr_run {P:Program}{t e:TypeId}{len:Nat}{k:IntKind}{w:World}(hu:P.underlying t=some (.array len e))(hk:szE P e=some 1)(he:P.underlying e=some (.int k))(hp:plainE P e=true)(xs ys:List Int)(hx:xs.length=len)(hy:ys.length=len):
    (Op.equal t (.agg (xs.map (Value.int k)).toArray) (.agg (ys.map (Value.int k)).toArray)).run P w= .ok (decide (xs=ys)) w:=by
  show (Op.equalIn (9999+1) t _ _).run P w=_
  rw [Op.equalIn,run_bind (run_und hu)]
  simp only []
  rw [run_bind (run_size hk)]
  simp only [Nat.mul_one]
  have heq:∀ (d:Nat) (a b:Int),(Op.equalIn (d+1) e (.int k a) (.int k b)).run P w= .ok (a==b) w:=λ d a b=>by
    rw [Op.equalIn,run_bind (run_und he)];simp [pure]
  have hpart:∀ (zs:List Int) (i:Nat) (h:i<zs.length),(part e (zs.map (Value.int k)).toArray i).run P w= .ok (.int k zs[i]) w:=λ zs i h=>by
    unfold part
    rw [run_bind (run_isAgg_f hp)]
    simp [h,pure]
  simp only [Std.Legacy.Range.forIn_eq_forIn_range',Std.Legacy.Range.size]
  have hl:(len-0+1-1)/1=len:=(by simp);rw [hl]
  have hall:=run_all (P:=P) (w:=w) (λ i __s=>do
      let a←part e (List.map (Value.int k) xs).toArray i
      let b←part e (List.map (Value.int k) ys).toArray i
      let c←Op.equalIn 9999 e a b
      if (!c)=true then pure (ForInStep.done (some false,())) else pure (ForInStep.yield (none,()))) (λ i=>xs[i]? ==ys[i]?) (List.range' 0 len) (λ i hi=>by
    have hi':i<len:=(by simp at hi;exact hi);rw [run_bind (hpart xs i oqz),run_bind (hpart ys i oqz),run_bind (heq 9998 _ _)]
    have h1:xs[i]? =some (xs[i]'oqz):=List.getElem?_eq_getElem _;have h2:ys[i]? =some (ys[i]'oqz):=List.getElem?_eq_getElem _;rw [h1,h2]
    by_cases hc:(xs[i]'oqz)=(ys[i]'oqz)<;>simp [hc,pure])
  rw [run_bind hall]
  by_cases hxy:xs=ys
  . subst hxy;have:(List.range' 0 len).all (λ i=>xs[i]? ==xs[i]?)=true:=(by simp)
    simp [this,pure]
  have:(List.range' 0 len).all (λ i=>xs[i]? ==ys[i]?)=false:=by
    cases hb:(List.range' 0 len).all (λ i=>xs[i]? ==ys[i]?) with
    |false=>rfl
    |true=>
      exfalso;apply hxy
      apply List.ext_getElem?
      intro i
      by_cases hi:i<len
      . rw [List.all_eq_true] at hb
        have:=hb i (by simp;exact hi)
        simpa using this
      rw [List.getElem?_eq_none oqz,List.getElem?_eq_none oqz]
  simp [this,hxy,pure]
theorem o_eqarr {t t' e:TypeId}{x y:Operand}{len:Nat}{k:IntKind}{xs ys:List Int}(hu:P.underlying t=some (.array len e))(hk:szE P e=some 1)(he:P.underlying e=some (.int k))(hp:plainE P e=true)
    (hge:P.eqGuardType P.depth t=false) (hx:ev n ρ x= .agg (xs.map (Value.int k)).toArray) (hy:ev n ρ y= .agg (ys.map (Value.int k)).toArray) (h1:xs.length=len) (h2:ys.length=len):
    OpV P n ρ A ⟨dst,.binOp .eql t x y t',ty,pos,after,gd⟩ (.bool (decide (xs=ys))):=opv_of λ w=>by
  simp only [execOp,hx,hy]
  rw [run_bind (w':=w) (a:= .bool (decide (xs=ys)))]
  . rfl
  rw [run_bind (w':=w) (a:=())]
  . show (do pure (Value.bool (←Op.equal t (.agg (xs.map (Value.int k)).toArray) (.agg (ys.map (Value.int k)).toArray))):Sem Value).run P w=_
    rw [run_bind (eqarr_run hu hk he hp xs ys h1 h2)];rfl
  simp [eqGuard,hge,program,bind,Sem.bind,Sem.run,pure]
end
end Go.Vl

namespace Go.Vl
open Go Go.Proofs Go.Proofs.Tryz
theorem adqz {p:Prop}(h:p:=by first|exact o_addI rfl rfl (by omega)|exact o_add rfl rfl):p:=h
theorem kqz {p:Prop}(h:p:=by kernel_rfl):p:=h
theorem take_succ_eq {xs ys:List Nat}{i:Nat}(h:xs.take i=ys.take i)(hi:i<xs.length)(hj:i<ys.length)(e:((xs[i]:Nat):Int)=((ys[i]:Nat):Int)):xs.take (i+1)=ys.take (i+1):=by
  rw [List.take_succ_eq_append_getElem hi,List.take_succ_eq_append_getElem hj,h]
  have:xs[i]=ys[i]:=(by exact_mod_cast e);rw [this]
theorem take_all {xs ys:List Nat}{i:Nat}(h:xs.take i=ys.take i)(hi:xs.length<=i)(hj:ys.length<=i):xs=ys:=by
  rwa [List.take_of_length_le hi,List.take_of_length_le hj] at h
theorem Zo {p r:Prop}(k:r)(h:Kq r->p:=by intro k;refine tv (o_assign rfl) ?_;refine nq ?_;exact k.o):p:=h ⟨k⟩
theorem Zcm {p r:Prop}(k:r)(h:Kq r->p:=by intro k;refine sr ?_;refine Zo ?_;exact k.o):p:=h ⟨k⟩
theorem Zt {p r:Prop}(k:r)(h:Kq r->p:=by intro k;refine sr ?_;refine tv (o_move rfl) ?_;exact k.o):p:=h ⟨k⟩
theorem Zc5 {p r:Prop}(k:r)(h:Kq r->p:=by intro k;refine tc_seq ?_;refine Zt ?_;exact k.o):p:=h ⟨k⟩
theorem Zd9 {p r:Prop}(k:r)(h:Kq r->p:=by intro k;refine tv (o_move rfl) ?_;refine tv (o_len underlying67 rfl) ?_;exact k.o):p:=h ⟨k⟩
theorem Zgr {p r:Prop}(k:r)(h:Kq r->p:=by intro k;refine tv (o_len underlying67 rfl) ?_;refine Zd9 ?_;exact k.o):p:=h ⟨k⟩
theorem Zbv {p r:Prop}(k:r)(h:Kq r->p:=by intro k;refine tv (o_nei rfl rfl) ?_;refine nq ?_;exact k.o):p:=h ⟨k⟩
theorem Zf1 {p r:Prop}(k:r)(h:Kq r->p:=by intro k;refine Zcm ?_;refine tc_ret ?_;exact k.o):p:=h ⟨k⟩
theorem Ze {p r:Prop}(k:r)(h:Kq r->p:=by intro k;refine tc_skip ?_;refine q_then_n ?_;exact k.o):p:=h ⟨k⟩
theorem Zdv {p r:Prop}(k:r)(h:Kq r->p:=by intro k;refine Ze ?_;refine tc_seq ?_;exact k.o):p:=h ⟨k⟩
theorem Zu {p r:Prop}(k:r)(h:Kq r->p:=by intro k;refine tv (o_lss rfl rfl) ?_;refine nq ?_;exact k.o):p:=h ⟨k⟩
theorem Zx {p r:Prop}(k:r)(h:Kq r->p:=by intro k;refine tc_seq ?_;refine tc_block ?_;exact k.o):p:=h ⟨k⟩
theorem Zbp {p r:Prop}(k:r)(h:Kq r->p:=by intro k;refine Ze ?_;refine Zx ?_;exact k.o):p:=h ⟨k⟩
theorem Zf0 {p r:Prop}(k:r)(h:Kq r->p:=by intro k;refine ql_v rfl (o_move rfl) ?_;refine ql_v rfl (by first|exact o_indexAddrN1 underlying67 sz5 rfl rfl oqz|exact o_indexAddr1 underlying67 sz5 rfl rfl oqz oqz) ?_;exact k.o):p:=h ⟨k⟩
theorem Zd6 {p r:Prop}(k:r)(h:Kq r->p:=by intro k;refine ql_nil ?_;refine q_then_n ?_;exact k.o):p:=h ⟨k⟩
theorem Zr {p r:Prop}(k:r)(h:Kq r->p:=by intro k;refine q_block_n (q_then_n ?_);refine tc_reg ?_;exact k.o):p:=h ⟨k⟩
theorem Zet {p r:Prop}(k:r)(h:Kq r->p:=by intro k;refine tv (o_move rfl) ?_;refine tv adqz ?_;exact k.o):p:=h ⟨k⟩
theorem Zk {p r:Prop}(k:r)(h:Kq r->p:=by intro k;refine tc_exit ?_;refine q_then_e (q_then_e (q_block_x (q_then_n ?_)));exact k.o):p:=h ⟨k⟩
theorem EqBytes_f (A:SP)(a1 a2:Option Addr)(c1 c2:Nat)(xs ys:List Nat)(h1:Rd A a1 (bys xs))(h2:Rd A a2 (bys ys))(hx:xs.length<=4611686018427387904)(hy:ys.length<=4611686018427387904):
    Fn Tryz.prog 54 #[.slice a1 xs.length c1,.slice a2 ys.length c2] A (λ r B=>r= .bool (decide (xs=ys))/\ A=B):=by
  refine fn_enter func54 rfl ntmps54 (by simp) ?_;refine Zcm ?_;refine Zc5 ?_;refine Zgr ?_;refine Zbv ?_;refine tc_cond rfl (sbq ?_) (sbq ?_)
  . intro h;refine Zf1 ?_;refine q_then_r ?_;exact ⟨.bool false,res1 rfl rfl,by congr 1;simp;intro e;subst e;exact h rfl,rfl⟩
  intro h;refine Zdv ?_;refine Zcm ?_;refine tc_block ?_;refine tc_loop (λ k ρ B=>B=A/\∃i:Nat,i<=xs.length/\ k=xs.length-i/\ ρ 0= .slice a1 xs.length c1/\ ρ 1= .slice a2 ys.length c2/\ ρ 5= .int .i64 i/\ xs.take i=ys.take i) (m:=xs.length) ?_ ?_
  . exact ⟨rfl,0,Nat.zero_le _,rfl,rfl,rfl,rfl,rfl⟩
  intro k ρ B hI;obtain ⟨rfl,i,hi,rfl,h0,h1',h5,hp⟩:=hI;refine tc_env (d:=0) h0 ?_;refine tc_env (d:=1) h1' ?_;refine tc_env (d:=5) h5 ?_;refine Zc5 ?_;refine Zd9 ?_;refine Zu ?_;refine tc_cond rfl (sbq ?_) (sbq ?_)
  . intro h;refine Zbp ?_;refine tc_seq ?_;refine tc_regq mo kqz ?_;obtain ⟨b1,o1,rfl,hc1⟩:=h1.some (by rw [bys_length];omega);obtain ⟨b2,o2,rfl,hc2⟩:=h2.some (by rw [bys_length];omega);have g1:=hc1 i _ (bys_at oqz);have g2:=hc2 i _ (bys_at (show i<ys.length by omega));refine ql_v rfl (o_move rfl) ?_;refine Zf0 ?_;refine ql_v rfl (o_loadC p5 rfl g1) ?_;refine ql_v rfl (o_move rfl) ?_;refine Zf0 ?_;refine ql_v rfl (o_loadC p5 rfl g2) ?_;refine ql_v rfl (o_nei rfl rfl) ?_;refine Zd6 ?_;refine tc_cond rfl (sbq ?_) (sbq ?_)
    . intro h;refine Zf1 ?_;refine q_block_r (q_then_r (q_then_r (q_block_r (q_then_r ?_))));exact ⟨.bool false,res1 rfl rfl,by congr 1;simp;intro e;subst e;exact h rfl,rfl⟩
    intro h;refine tc_skip ?_;refine Zr ?_;refine Zet ?_;refine Zo ?_;exact ⟨_,by omega,rfl,i+1,by omega,rfl,rfl,rfl,rfl,take_succ_eq hp oqz oqz oqz⟩
  intro h;refine Zk ?_;refine Zf1 ?_;exact ⟨.bool true,res1 rfl rfl,by congr 1;simp;exact take_all hp oqz oqz,rfl⟩
theorem set_getElem {α:Type}{l:List α}{i:Nat}(hi:i<l.length):l.set i l[i]=l:=by
  apply List.ext_getElem?
  intro j
  by_cases hj:j=i
  . subst hj;rw [List.getElem?_set_self hi,List.getElem?_eq_getElem hi]
  rw [List.getElem?_set_ne (Ne.symm hj)]
def le:Nat->Nat->List Nat
  |0,_=>[]
  |n+1,v=>v%256::le n (v/256)
theorem le_length (n:Nat):∀v,(le n v).length=n:=by
  induction n with
  |zero=>intro v;rfl
  |succ n ih=>intro v;simp [le,ih]
theorem le_snoc (n:Nat):∀v,le (n+1) v=le n v++[v/256^n%256]:=by
  induction n with
  |zero=>intro v;simp [le]
  |succ n ih=>
    intro v;rw [le,ih,le,List.cons_append,Nat.pow_succ,Nat.mul_comm,←Nat.div_div_eq_div_mul]
theorem two_pow_ne (i w:Nat)(h:i<w):2^i%2^w≠0:=by
  rw [Nat.mod_eq_of_lt (Nat.pow_lt_pow_right (by decide) h)]
  exact Nat.ne_of_gt (Nat.two_pow_pos i)
theorem two_pow_step (i w:Nat):2^i%2^w*2%2^w=2^(i+1)%2^w:=by
  rw [Nat.mod_mul_mod,Nat.pow_succ]
theorem Zfc {p r:Prop}(k:r)(h:Kq r->p:=by intro k;refine tc_seq ?_;refine sr ?_;exact k.o):p:=h ⟨k⟩
theorem Zhf {p r:Prop}(k:r)(h:Kq r->p:=by intro k;refine Zo ?_;refine tc_block ?_;exact k.o):p:=h ⟨k⟩
theorem Zfu {p r:Prop}(k:r)(h:Kq r->p:=by intro k;refine tv (o_assign rfl) ?_;refine tl_nil ?_;refine Zr ?_;exact k.o):p:=h ⟨k⟩
theorem Zgg {p r:Prop}(k:r)(h:Kq r->p:=by intro k;refine tv (o_move rfl) ?_;refine tv (o_shlm (b:=1) rfl rfl rfl rfl (by decide)) ?_;exact k.o):p:=h ⟨k⟩
theorem Ze5 {p r:Prop}(k:r)(h:Kq r->p:=by intro k;refine Zk ?_;refine Zt ?_;exact k.o):p:=h ⟨k⟩
theorem Zfd {p r:Prop}(k:r)(h:Kq r->p:=by intro k;refine Zo ?_;refine tc_ret ?_;exact k.o):p:=h ⟨k⟩
theorem size16_f (A:SP):
    Fn Tryz.prog 258 #[] A (λ r B=>r= .int .i64 2/\ A=B):=by
  refine fn_enter func258 rfl ntmps258 (by simp) ?_;refine Zcm ?_;refine Zcm ?_;refine Zfc ?_;refine tv (by first|exact o_conv16 underlying3 underlying287 rfl|exact o_conv underlying3 underlying287 rfl) ?_;refine Zhf ?_;refine tc_loop (λ k ρ B=>B=A/\∃i:Nat,i<=16/\ k=16-i/\ ρ 1= .int .i64 i/\ ρ 2= .int .u16 ((2^i%2^16:Nat):Int)) (m:=16) ?_ ?_
  . exact ⟨rfl,0,by omega,rfl,rfl,rfl⟩
  intro k ρ B hI;obtain ⟨rfl,i,hi,rfl,h1,h2⟩:=hI;refine tc_env (d:=1) h1 ?_;refine tc_env (d:=2) h2 ?_;refine Zc5 ?_;refine Zbv ?_;refine tc_cond rfl (λ h=> ?_) (λ h=> ?_)
  . have hlt:i<16:=by
      rcases Nat.lt_or_ge i 16 with h'|h'
      . exact h'
      exfalso;obtain rfl:i=16:=by omega
      revert h;decide
    refine Zbp ?_;refine tc_reg ?_;refine Zet ?_;refine Zfu ?_;refine Zgg ?_;refine Zo ?_;exact ⟨_,by omega,rfl,i+1,by omega,rfl,rfl,congrArg (λ x:Nat=>Value.int .u16 (x:Int)) (two_pow_step i 16)⟩
  have hge:i=16:=by
    rcases Nat.lt_or_ge i 16 with h'|h'
    . exfalso;have h0:=two_pow_ne i 16 h';generalize 2^i%2^16=x at h h0;revert h;simp;omega
    omega
  subst hge;refine Ze5 ?_;refine tv (o_quoI (a:=16) rfl rfl oqz) ?_;refine Zfd ?_;exact ⟨.int .i64 2,res1 rfl rfl,rfl,rfl⟩
theorem size32_f (A:SP):
    Fn Tryz.prog 167 #[] A (λ r B=>r= .int .i64 4/\ A=B):=by
  refine fn_enter func167 rfl ntmps167 (by simp) ?_;refine Zcm ?_;refine Zcm ?_;refine Zfc ?_;refine tv (by first|exact o_conv32 underlying3 underlying53 rfl|exact o_conv underlying3 underlying53 rfl) ?_;refine Zhf ?_;refine tc_loop (λ k ρ B=>B=A/\∃i:Nat,i<=32/\ k=32-i/\ ρ 1= .int .i64 i/\ ρ 2= .int .u32 ((2^i%2^32:Nat):Int)) (m:=32) ?_ ?_
  . exact ⟨rfl,0,by omega,rfl,rfl,rfl⟩
  intro k ρ B hI;obtain ⟨rfl,i,hi,rfl,h1,h2⟩:=hI;refine tc_env (d:=1) h1 ?_;refine tc_env (d:=2) h2 ?_;refine Zc5 ?_;refine Zbv ?_;refine tc_cond rfl (λ h=> ?_) (λ h=> ?_)
  . have hlt:i<32:=by
      rcases Nat.lt_or_ge i 32 with h'|h'
      . exact h'
      exfalso;obtain rfl:i=32:=by omega
      revert h;decide
    refine Zbp ?_;refine tc_reg ?_;refine Zet ?_;refine Zfu ?_;refine Zgg ?_;refine Zo ?_;exact ⟨_,by omega,rfl,i+1,by omega,rfl,rfl,congrArg (λ x:Nat=>Value.int .u32 (x:Int)) (two_pow_step i 32)⟩
  have hge:i=32:=by
    rcases Nat.lt_or_ge i 32 with h'|h'
    . exfalso;have h0:=two_pow_ne i 32 h';generalize 2^i%2^32=x at h h0;revert h;simp;omega
    omega
  subst hge;refine Ze5 ?_;refine tv (o_quoI (a:=32) rfl rfl oqz) ?_;refine Zfd ?_;exact ⟨.int .i64 4,res1 rfl rfl,rfl,rfl⟩
theorem size64_f (A:SP):
    Fn Tryz.prog 166 #[] A (λ r B=>r= .int .i64 8/\ A=B):=by
  refine fn_enter func166 rfl ntmps166 (by simp) ?_;refine Zcm ?_;refine Zcm ?_;refine Zfc ?_;refine tv (by first|exact o_conv64 underlying3 underlying141 rfl|exact o_conv underlying3 underlying141 rfl) ?_;refine Zhf ?_;refine tc_loop (λ k ρ B=>B=A/\∃i:Nat,i<=64/\ k=64-i/\ ρ 1= .int .i64 i/\ ρ 2= .int .u64 ((2^i%2^64:Nat):Int)) (m:=64) ?_ ?_
  . exact ⟨rfl,0,by omega,rfl,rfl,rfl⟩
  intro k ρ B hI;obtain ⟨rfl,i,hi,rfl,h1,h2⟩:=hI;refine tc_env (d:=1) h1 ?_;refine tc_env (d:=2) h2 ?_;refine Zc5 ?_;refine Zbv ?_;refine tc_cond rfl (λ h=> ?_) (λ h=> ?_)
  . have hlt:i<64:=by
      rcases Nat.lt_or_ge i 64 with h'|h'
      . exact h'
      exfalso;obtain rfl:i=64:=by omega
      revert h;decide
    refine Zbp ?_;refine tc_reg ?_;refine Zet ?_;refine Zfu ?_;refine Zgg ?_;refine Zo ?_;exact ⟨_,by omega,rfl,i+1,by omega,rfl,rfl,congrArg (λ x:Nat=>Value.int .u64 (x:Int)) (two_pow_step i 64)⟩
  have hge:i=64:=by
    rcases Nat.lt_or_ge i 64 with h'|h'
    . exfalso;have h0:=two_pow_ne i 64 h';generalize 2^i%2^64=x at h h0;revert h;simp;omega
    omega
  subst hge;refine Ze5 ?_;refine tv (o_quoI (a:=64) rfl rfl oqz) ?_;refine Zfd ?_;exact ⟨.int .i64 8,res1 rfl rfl,rfl,rfl⟩
theorem le_div (v i:Nat):v/256^i/2^8=v/256^(i+1):=by rw [show (2:Nat)^8=256 from rfl,Nat.div_div_eq_div_mul,Nat.pow_succ]
theorem put_eq (xs:List Nat)(v i:Nat):bys (xs++le i v)++[Value.int .u8 ((v/256^i%256:Nat):Int)]=bys (xs++le (i+1) v):=by
  rw [le_snoc,←List.append_assoc,bys_append (xs++le i v)];rfl
theorem copy_eq (xs:List Nat)(m:Nat)(z:Value):(splice (List.replicate (xs.length+m) z) 0 ((bys xs).take xs.length)).take (xs.length*1)=bys xs:=by
  have:(bys xs).take xs.length=bys xs:=List.take_of_length_le (by rw [bys_length];exact Nat.le_refl _);rw [this,splice_eq (by simp [bys_length]),Nat.mul_one]
  simp [bys_length]
theorem Zgn {p r:Prop}(k:r)(h:Kq r->p:=by intro k;refine Zt ?_;refine tv (o_move rfl) ?_;exact k.o):p:=h ⟨k⟩
theorem Zel {p r:Prop}(k:r)(h:Kq r->p:=by intro k;refine tv (o_move rfl) ?_;refine nq ?_;exact k.o):p:=h ⟨k⟩
theorem Zcg {p r:Prop}(k:r)(h:Kq r->p:=by intro k;refine sr ?_;refine Zu ?_;refine tc_seq ?_;exact k.o):p:=h ⟨k⟩
theorem Zde {p r:Prop}(k:r)(h:Kq r->p:=by intro k;refine tv (by first|exact o_conv8 underlying141 underlying5 rfl|exact o_conv underlying141 underlying5 rfl) ?_;refine tl_x rfl (o_buildSlice1 underlying67 sz5 z5 rfl rfl) ?_;exact k.o):p:=h ⟨k⟩
theorem Zg0 {p r:Prop}(k:r)(h:Kq r->p:=by intro k;refine Zo ?_;refine tc_reg ?_;exact k.o):p:=h ⟨k⟩
theorem Zex {p r:Prop}(k:r)(h:Kq r->p:=by intro k;refine tv (o_move rfl) ?_;refine tv (by first|exact o_shrN (b:=8) rfl rfl rfl (by decide)|exact o_shr rfl rfl oqz) ?_;exact k.o):p:=h ⟨k⟩
theorem Put16_f (A:SP)(a:Option Addr)(c:Nat)(xs:List Nat)(v:Nat)(hr:Rd A a (bys xs))(hv:v<65536)(hl:xs.length<=1099511627776):
    Fn Tryz.prog 232 #[.slice a xs.length c,.int .u16 (v:Nat)] A (λ r B=>∃u,r=u/\ B=A*Sl 1 u (xs.length+2) (bys (xs++le 2 v))):=by
  refine fn_enter func232 rfl ntmps232 (by simp) ?_;refine Zcm ?_;refine Zt ?_;refine Zgr ?_;refine tv adqz ?_;refine tl_x rfl (o_makeSlice (len:=xs.length) (cap:=xs.length+8) underlying67 sz5 by5 z5 rfl rfl rfl oqz oqz oqz) ?_;rintro _ _ ⟨b12,rfl,rfl⟩;refine Zo ?_;refine Zgn ?_;refine tl_x rfl (o_copy (xs:=bys xs) (m:=xs.length) underlying67 sz5 rfl rfl hr.left (bys_length xs) (Nat.min_self _) bys_oneC (by simp) rfl upd_here) ?_;rintro _ _ ⟨rfl,rfl⟩;refine tl_pre (λ _ _ h=>sl_new (k:=1) (n:=xs.length) (cap:=xs.length+8) h oqz (by simp [splice_length]) (copy_eq xs 8 _)) ?_;refine nq ?_;refine Zt ?_;refine tv (o_convI underlying287 underlying141 rfl (wrap_fit .u64 rfl v (by show v<2^64;omega))) ?_;refine Zo ?_;refine Zfc ?_;refine tl_c rfl (o_call bd258 rfl (size16_f _)) ?_;rintro _ _ ⟨rfl,rfl⟩;refine Zel ?_;refine tc_block ?_;refine tc_loop (λ k ρ B=>∃ (i:Nat) (u:Value),i<=2/\ k=2-i/\ ρ 5=u/\ ρ 6= .int .u64 ((v/256^i:Nat):Int)/\ ρ 18= .int .i64 2/\ ρ 19= .int .i64 i/\ B=A*Sl 1 u (xs.length+i) (bys (xs++le i v))) (m:=2) ?_ ?_
  . exact ⟨0,_,by omega,rfl,rfl,by show Value.int .u64 ((v:Nat):Int)=_;simp,rfl,rfl,by simp [le];rfl⟩
  intro k ρ B hI;obtain ⟨i,u,hi,rfl,h5,h6,h17,h18,rfl⟩:=hI;refine tc_env (d:=5) h5 ?_;refine tc_env (d:=6) h6 ?_;refine tc_env (d:=18) h17 ?_;refine tc_env (d:=19) h18 ?_;refine Zcg ?_;refine tc_cond rfl (sbq ?_) (sbq ?_)
  . intro h;refine Zbp ?_;refine Zgn ?_;refine Zde ?_;rintro _ _ ⟨b24,rfl,rfl⟩;refine tl_x rfl (o_append1 underlying67 underlying67 sz5 by5 z5 rfl (by decide) (by decide) rfl rfl rfl rfl rfl oqz) ?_;rintro u25 _ rfl;refine Zg0 ?_;refine Zex ?_;refine Zfu ?_;refine tv adqz ?_;refine Zel ?_;exact ⟨_,by omega,i+1,u25,by omega,rfl,rfl,congrArg (λ x:Nat=>Value.int .u64 (x:Int)) (le_div v i),rfl,rfl,by rw [←put_eq];rfl⟩
  intro h;refine Ze5 ?_;refine Zfd ?_;obtain rfl:i=2:=by omega
  exact ⟨u,res1 rfl rfl,u,rfl,rfl⟩
theorem Put32_f (A:SP)(a:Option Addr)(c:Nat)(xs:List Nat)(v:Nat)(hr:Rd A a (bys xs))(hv:v<4294967296)(hl:xs.length<=1099511627776):
    Fn Tryz.prog 74 #[.slice a xs.length c,.int .u32 (v:Nat)] A (λ r B=>∃u,r=u/\ B=A*Sl 1 u (xs.length+4) (bys (xs++le 4 v))):=by
  refine fn_enter func74 rfl ntmps74 (by simp) ?_;refine Zcm ?_;refine Zt ?_;refine Zgr ?_;refine tv adqz ?_;refine tl_x rfl (o_makeSlice (len:=xs.length) (cap:=xs.length+8) underlying67 sz5 by5 z5 rfl rfl rfl oqz oqz oqz) ?_;rintro _ _ ⟨b12,rfl,rfl⟩;refine Zo ?_;refine Zgn ?_;refine tl_x rfl (o_copy (xs:=bys xs) (m:=xs.length) underlying67 sz5 rfl rfl hr.left (bys_length xs) (Nat.min_self _) bys_oneC (by simp) rfl upd_here) ?_;rintro _ _ ⟨rfl,rfl⟩;refine tl_pre (λ _ _ h=>sl_new (k:=1) (n:=xs.length) (cap:=xs.length+8) h oqz (by simp [splice_length]) (copy_eq xs 8 _)) ?_;refine nq ?_;refine Zt ?_;refine tv (o_convI underlying53 underlying141 rfl (wrap_fit .u64 rfl v (by show v<2^64;omega))) ?_;refine Zo ?_;refine Zfc ?_;refine tl_c rfl (o_call bd167 rfl (size32_f _)) ?_;rintro _ _ ⟨rfl,rfl⟩;refine Zel ?_;refine tc_block ?_;refine tc_loop (λ k ρ B=>∃ (i:Nat) (u:Value),i<=4/\ k=4-i/\ ρ 5=u/\ ρ 6= .int .u64 ((v/256^i:Nat):Int)/\ ρ 18= .int .i64 4/\ ρ 19= .int .i64 i/\ B=A*Sl 1 u (xs.length+i) (bys (xs++le i v))) (m:=4) ?_ ?_
  . exact ⟨0,_,by omega,rfl,rfl,by show Value.int .u64 ((v:Nat):Int)=_;simp,rfl,rfl,by simp [le];rfl⟩
  intro k ρ B hI;obtain ⟨i,u,hi,rfl,h5,h6,h17,h18,rfl⟩:=hI;refine tc_env (d:=5) h5 ?_;refine tc_env (d:=6) h6 ?_;refine tc_env (d:=18) h17 ?_;refine tc_env (d:=19) h18 ?_;refine Zcg ?_;refine tc_cond rfl (sbq ?_) (sbq ?_)
  . intro h;refine Zbp ?_;refine Zgn ?_;refine Zde ?_;rintro _ _ ⟨b24,rfl,rfl⟩;refine tl_x rfl (o_append1 underlying67 underlying67 sz5 by5 z5 rfl (by decide) (by decide) rfl rfl rfl rfl rfl oqz) ?_;rintro u25 _ rfl;refine Zg0 ?_;refine Zex ?_;refine Zfu ?_;refine tv adqz ?_;refine Zel ?_;exact ⟨_,by omega,i+1,u25,by omega,rfl,rfl,congrArg (λ x:Nat=>Value.int .u64 (x:Int)) (le_div v i),rfl,rfl,by rw [←put_eq];rfl⟩
  intro h;refine Ze5 ?_;refine Zfd ?_;obtain rfl:i=4:=by omega
  exact ⟨u,res1 rfl rfl,u,rfl,rfl⟩
theorem Put64_f (A:SP)(a:Option Addr)(c:Nat)(xs:List Nat)(v:Nat)(hr:Rd A a (bys xs))(hv:v<18446744073709551616)(hl:xs.length<=1099511627776):
    Fn Tryz.prog 73 #[.slice a xs.length c,.int .u64 (v:Nat)] A (λ r B=>∃u,r=u/\ B=A*Sl 1 u (xs.length+8) (bys (xs++le 8 v))):=by
  refine fn_enter func73 rfl ntmps73 (by simp) ?_;refine Zcm ?_;refine Zt ?_;refine Zgr ?_;refine tv adqz ?_;refine tl_x rfl (o_makeSlice (len:=xs.length) (cap:=xs.length+8) underlying67 sz5 by5 z5 rfl rfl rfl oqz oqz oqz) ?_;rintro _ _ ⟨b12,rfl,rfl⟩;refine Zo ?_;refine Zgn ?_;refine tl_x rfl (o_copy (xs:=bys xs) (m:=xs.length) underlying67 sz5 rfl rfl hr.left (bys_length xs) (Nat.min_self _) bys_oneC (by simp) rfl upd_here) ?_;rintro _ _ ⟨rfl,rfl⟩;refine tl_pre (λ _ _ h=>sl_new (k:=1) (n:=xs.length) (cap:=xs.length+8) h oqz (by simp [splice_length]) (copy_eq xs 8 _)) ?_;refine nq ?_;refine Zt ?_;refine Zo ?_;refine Zfc ?_;refine tl_c rfl (o_call bd166 rfl (size64_f _)) ?_;rintro _ _ ⟨rfl,rfl⟩;refine Zel ?_;refine tc_block ?_;refine tc_loop (λ k ρ B=>∃ (i:Nat) (u:Value),i<=8/\ k=8-i/\ ρ 5=u/\ ρ 6= .int .u64 ((v/256^i:Nat):Int)/\ ρ 17= .int .i64 8/\ ρ 18= .int .i64 i/\ B=A*Sl 1 u (xs.length+i) (bys (xs++le i v))) (m:=8) ?_ ?_
  . exact ⟨0,_,by omega,rfl,rfl,by show Value.int .u64 ((v:Nat):Int)=_;simp,rfl,rfl,by simp [le];rfl⟩
  intro k ρ B hI;obtain ⟨i,u,hi,rfl,h5,h6,h17,h18,rfl⟩:=hI;refine tc_env (d:=5) h5 ?_;refine tc_env (d:=6) h6 ?_;refine tc_env (d:=17) h17 ?_;refine tc_env (d:=18) h18 ?_;refine Zcg ?_;refine tc_cond rfl (sbq ?_) (sbq ?_)
  . intro h;refine Zbp ?_;refine Zgn ?_;refine Zde ?_;rintro _ _ ⟨b23,rfl,rfl⟩;refine tl_x rfl (o_append1 underlying67 underlying67 sz5 by5 z5 rfl (by decide) (by decide) rfl rfl rfl rfl rfl oqz) ?_;rintro u24 _ rfl;refine Zg0 ?_;refine Zex ?_;refine Zfu ?_;refine tv adqz ?_;refine Zel ?_;exact ⟨_,by omega,i+1,u24,by omega,rfl,rfl,congrArg (λ x:Nat=>Value.int .u64 (x:Int)) (le_div v i),rfl,rfl,by rw [←put_eq];rfl⟩
  intro h;refine Ze5 ?_;refine Zfd ?_;obtain rfl:i=8:=by omega
  exact ⟨u,res1 rfl rfl,u,rfl,rfl⟩
def nm:List Nat->Nat
  |[]=>0
  |x::l=>x+256*nm l
theorem nm_lt:∀ (l:List Nat),(∀x∈l,x<256)->nm l<256^l.length
  |[],_=>by simp [nm]
  |x::l,h=>by
    have h1:=nm_lt l λ y hy=>h y (by simp [hy])
    have h2:=h x (by simp)
    simp only [nm,List.length_cons,Nat.pow_succ]
    omega
theorem nm_step {xs:List Nat}{at_ j s:Nat}(h:at_+j<xs.length)(hj:j<s)(hx:xs[at_+j]<256):
    nm ((xs.drop (at_+(j+1))).take (s-(j+1)))*2^8|||xs[at_+j]=nm ((xs.drop (at_+j)).take (s-j)):=by
  have e1:xs.drop (at_+j)=xs[at_+j]::xs.drop (at_+(j+1)):=(by rw [List.drop_eq_getElem_cons h];rfl);have e2:s-j=(s-(j+1))+1:=(by omega);rw [e1,e2,List.take_succ_cons,nm]
  have:=Nat.two_pow_add_eq_or_of_lt (i:=8) (b:=xs[at_+j]) hx (nm ((xs.drop (at_+(j+1))).take (s-(j+1))));rw [Nat.mul_comm _ (2^8),←this];omega
theorem nm_le:∀ (n v:Nat),nm (le n v)=v%256^n
  |0,v=>by simp [nm,le,Nat.mod_one]
  |n+1,v=>by
    rw [le,nm,nm_le n,Nat.pow_succ,Nat.mul_comm (256^n) 256,Nat.mod_mul]
theorem le_nm:∀ (l:List Nat),(∀x∈l,x<256)->le l.length (nm l)=l
  |[],_=>rfl
  |x::l,h=>by
    have h2:=h x (by simp);have e1:(x+256*nm l)%256=x:=(by omega);have e2:(x+256*nm l)/256=nm l:=(by omega);rw [List.length_cons,nm,le,e1,e2,le_nm l λ y hy=>h y (by simp [hy])]
theorem le_bytes:∀ (n v:Nat),∀x∈le n v,x<256
  |0,_,x,h=>by simp [le] at h
  |n+1,v,x,h=>by
    simp only [le,List.mem_cons] at h
    rcases h with rfl|h
    . omega
    exact le_bytes n _ x h
theorem Zdp {p r:Prop}(k:r)(h:Kq r->p:=by intro k;refine tv (o_assign rfl) ?_;refine Zo ?_;exact k.o):p:=h ⟨k⟩
theorem Zht {p r:Prop}(k:r)(h:Kq r->p:=by intro k;rintro _ _ ⟨rfl,rfl⟩;refine Zo ?_;exact k.o):p:=h ⟨k⟩
theorem Zg1 {p r:Prop}(k:r)(h:Kq r->p:=by intro k;refine tv (o_lss rfl rfl) ?_;refine tv (o_move rfl) ?_;exact k.o):p:=h ⟨k⟩
theorem Zb6 {p r:Prop}(k:r)(h:Kq r->p:=by intro k;refine tv (o_move rfl) ?_;refine tv (o_move rfl) ?_;exact k.o):p:=h ⟨k⟩
theorem Zck {p r:Prop}(k:r)(h:Kq r->p:=by intro k;refine tv (o_move rfl) ?_;refine tv (by first|exact o_subI rfl rfl oqz|exact o_sub rfl rfl) ?_;exact k.o):p:=h ⟨k⟩
theorem Zeu {p r:Prop}(k:r)(h:Kq r->p:=by intro k;refine tv (o_gtr rfl rfl) ?_;refine tv (by first|exact o_pick_t rfl rfl|exact o_pick_f rfl rfl|exact o_pick rfl rfl) ?_;exact k.o):p:=h ⟨k⟩
theorem Zn {p r:Prop}(k:r)(h:Kq r->p:=by intro k;refine nq ?_;refine tc_cond rfl dbq (sbq ?_);exact k.o):p:=h ⟨k⟩
theorem Zf7 {p r:Prop}(k:r)(h:Kq r->p:=by intro k;refine Zc5 ?_;refine tv (by first|exact o_subI rfl rfl oqz|exact o_sub rfl rfl) ?_;exact k.o):p:=h ⟨k⟩
theorem Zd7 {p r:Prop}(k:r)(h:Kq r->p:=by intro k;refine tv adqz ?_;refine tv (by first|exact o_indexAddrN1 underlying67 sz5 rfl rfl oqz|exact o_indexAddr1 underlying67 sz5 rfl rfl oqz oqz) ?_;exact k.o):p:=h ⟨k⟩
theorem Zid {p r:Prop}(k:r)(h:Kq r->p:=by intro k;refine Zdp ?_;refine tc_ret ?_;exact k.o):p:=h ⟨k⟩
theorem Take16_f (A:SP)(a:Option Addr)(c:Nat)(xs:List Nat)(p:Nat)(hb:∀x∈xs,x<256)(hr:Rd A a (bys xs))(hp:p+2<=xs.length)(hl:xs.length<=1099511627776):
    Fn Tryz.prog 201 #[.slice a xs.length c,vn p] A (λ r B=>r= .tuple #[.int .u16 ((nm ((xs.drop p).take 2):Nat):Int),.int .i64 0]/\ A=B):=by
  refine fn_enter func201 rfl ntmps201 (by simp) ?_;refine sr ?_;refine Zdp ?_;refine sr ?_;refine tl_c rfl (o_call bd258 rfl (size16_f _)) ?_;refine Zht ?_;refine Zc5 ?_;refine Zg1 ?_;refine tl_bool (d:=12) rfl dbq (sbq ?_);intro h;refine Zb6 ?_;refine tv (o_len underlying67 rfl) ?_;refine Zck ?_;refine Zeu ?_;refine Zn ?_;intro h;refine Ze ?_;refine Zcm ?_;refine Zf7 ?_;refine Zhf ?_;refine tc_loop (λ k ρ B=>B=A/\∃i:Int,-1<=i/\ i<2/\ k=(i+1).toNat/\ ρ 0= .slice a xs.length c/\ ρ 1=(vn p)/\ ρ 8= .int .i64 i/\ ρ 7= .int .u64 ((nm ((xs.drop (p+(i+1).toNat)).take (2-(i+1).toNat)):Nat):Int)) (m:=2) ?_ ?_
  . exact ⟨rfl,1,by omega,by omega,rfl,rfl,rfl,rfl,by simp [nm];rfl⟩
  intro k ρ B hI;obtain ⟨rfl,i,hi,hi2,rfl,h0,h1,h8,h7⟩:=hI;refine tc_env (d:=0) h0 ?_;refine tc_env (d:=1) h1 ?_;refine tc_env (d:=8) h8 ?_;refine tc_env (d:=7) h7 ?_;refine Zc5 ?_;refine tv (o_geq rfl rfl) ?_;refine nq ?_;refine tc_cond rfl (λ h=> ?_) (sbq ?_)
  . simp only [decide_eq_true_eq] at h
    obtain ⟨j,rfl⟩:=Int.eq_ofNat_of_zero_le h;have hpj:p+j<xs.length:=(by omega);have hb1:=hb _ (List.getElem_mem hpj);obtain ⟨b1,o1,rfl,hc1⟩:=hr.some (by rw [bys_length];omega);have g1:=hc1 (p+j) _ (bys_at hpj);have hlt:=nm_lt ((xs.drop (p+(j+1))).take (2-(j+1))) (λ y hy=>hb y (List.mem_of_mem_drop (List.mem_of_mem_take hy)));have hle:((xs.drop (p+(j+1))).take (2-(j+1))).length<=7:=(by rw [List.length_take];omega);have hpow:=Nat.pow_le_pow_right (show 0<256 by decide) hle
    have hu:nm ((xs.drop (p+(j+1))).take (2-(j+1)))*2^8<18446744073709551616:=by
      have:(256:Nat)^7=72057594037927936:=(by decide)
      omega
    refine Zbp ?_;refine Zt ?_;refine tv (o_shl64 (b:=8) rfl rfl rfl (by decide) hu) ?_;refine Zg0 ?_;refine Zb6 ?_;refine Zb6 ?_;refine Zd7 ?_;refine tv (o_loadC p5 rfl g1) ?_;refine tv (o_convI underlying5 underlying141 rfl (wrap_fit .u64 rfl _ (by show _<2^64;omega))) ?_;refine tv (o_orN rfl rfl rfl hu (by show _<2^64;omega)) ?_;refine Zfu ?_;refine Zck ?_;refine Zo ?_;exact ⟨(j:Int).toNat,by simp,rfl,(j:Int)-1,by omega,by omega,by omega,rfl,rfl,rfl,congrArg (λ x:Nat=>Value.int .u64 (x:Int)) ((nm_step oqz oqz (hb _ (List.getElem_mem _))).trans (by congr 3<;>omega))⟩
  intro h;refine Ze5 ?_;refine tv (o_conv16 underlying141 underlying287 rfl) ?_;refine Zid ?_;obtain rfl:i= -1:=by omega
  have hlt:=nm_lt ((xs.drop p).take 2) (λ y hy=>hb y (List.mem_of_mem_drop (List.mem_of_mem_take hy)));have hle:((xs.drop p).take 2).length=2:=(by rw [List.length_take,List.length_drop];omega);rw [hle] at hlt
  exact ⟨.tuple #[.int .u16 ((nm ((xs.drop p).take 2)%65536:Nat):Int),.int .i64 0],res2 rfl rfl rfl,by rw [Nat.mod_eq_of_lt (by simpa using hlt)],rfl⟩
theorem Take64_f (A:SP)(a:Option Addr)(c:Nat)(xs:List Nat)(p:Nat)(hb:∀x∈xs,x<256)(hr:Rd A a (bys xs))(hp:p+8<=xs.length)(hl:xs.length<=1099511627776):
    Fn Tryz.prog 67 #[.slice a xs.length c,vn p] A (λ r B=>r= .tuple #[.int .u64 ((nm ((xs.drop p).take 8):Nat):Int),.int .i64 0]/\ A=B):=by
  refine fn_enter func67 rfl ntmps67 (by simp) ?_;refine sr ?_;refine Zdp ?_;refine sr ?_;refine tl_c rfl (o_call bd166 rfl (size64_f _)) ?_;refine Zht ?_;refine Zc5 ?_;refine Zg1 ?_;refine tl_bool (d:=12) rfl dbq (sbq ?_);intro h;refine Zb6 ?_;refine tv (o_len underlying67 rfl) ?_;refine Zck ?_;refine Zeu ?_;refine Zn ?_;intro h;refine Ze ?_;refine Zcm ?_;refine Zf7 ?_;refine Zhf ?_;refine tc_loop (λ k ρ B=>B=A/\∃i:Int,-1<=i/\ i<8/\ k=(i+1).toNat/\ ρ 0= .slice a xs.length c/\ ρ 1=(vn p)/\ ρ 8= .int .i64 i/\ ρ 7= .int .u64 ((nm ((xs.drop (p+(i+1).toNat)).take (8-(i+1).toNat)):Nat):Int)) (m:=8) ?_ ?_
  . exact ⟨rfl,7,by omega,by omega,rfl,rfl,rfl,rfl,by simp [nm];rfl⟩
  intro k ρ B hI;obtain ⟨rfl,i,hi,hi2,rfl,h0,h1,h8,h7⟩:=hI;refine tc_env (d:=0) h0 ?_;refine tc_env (d:=1) h1 ?_;refine tc_env (d:=8) h8 ?_;refine tc_env (d:=7) h7 ?_;refine Zc5 ?_;refine tv (o_geq rfl rfl) ?_;refine nq ?_;refine tc_cond rfl (λ h=> ?_) (sbq ?_)
  . simp only [decide_eq_true_eq] at h
    obtain ⟨j,rfl⟩:=Int.eq_ofNat_of_zero_le h;have hpj:p+j<xs.length:=(by omega);have hb1:=hb _ (List.getElem_mem hpj);obtain ⟨b1,o1,rfl,hc1⟩:=hr.some (by rw [bys_length];omega);have g1:=hc1 (p+j) _ (bys_at hpj);have hlt:=nm_lt ((xs.drop (p+(j+1))).take (8-(j+1))) (λ y hy=>hb y (List.mem_of_mem_drop (List.mem_of_mem_take hy)));have hle:((xs.drop (p+(j+1))).take (8-(j+1))).length<=7:=(by rw [List.length_take];omega);have hpow:=Nat.pow_le_pow_right (show 0<256 by decide) hle
    have hu:nm ((xs.drop (p+(j+1))).take (8-(j+1)))*2^8<18446744073709551616:=by
      have:(256:Nat)^7=72057594037927936:=(by decide)
      omega
    refine Zbp ?_;refine Zt ?_;refine tv (o_shl64 (b:=8) rfl rfl rfl (by decide) hu) ?_;refine Zg0 ?_;refine Zb6 ?_;refine Zb6 ?_;refine Zd7 ?_;refine tv (o_loadC p5 rfl g1) ?_;refine tv (o_convI underlying5 underlying141 rfl (wrap_fit .u64 rfl _ (by show _<2^64;omega))) ?_;refine tv (o_orN rfl rfl rfl hu (by show _<2^64;omega)) ?_;refine Zfu ?_;refine Zck ?_;refine Zo ?_;exact ⟨(j:Int).toNat,by simp,rfl,(j:Int)-1,by omega,by omega,by omega,rfl,rfl,rfl,congrArg (λ x:Nat=>Value.int .u64 (x:Int)) ((nm_step oqz oqz (hb _ (List.getElem_mem _))).trans (by congr 3<;>omega))⟩
  intro h;refine Ze5 ?_;refine Zid ?_;obtain rfl:i= -1:=by omega
  exact ⟨.tuple #[.int .u64 ((nm ((xs.drop p).take 8):Nat):Int),.int .i64 0],res2 rfl rfl rfl,rfl,rfl⟩
theorem Take32_f (A:SP)(a:Option Addr)(c:Nat)(xs:List Nat)(p:Nat)(hb:∀x∈xs,x<256)(hr:Rd A a (bys xs))(hp:p+4<=xs.length)(hl:xs.length<=1099511627776):
    Fn Tryz.prog 68 #[.slice a xs.length c,vn p] A (λ r B=>r= .tuple #[.int .u32 ((nm ((xs.drop p).take 4):Nat):Int),.int .i64 0]/\ A=B):=by
  refine fn_enter func68 rfl ntmps68 (by simp) ?_;refine sr ?_;refine Zdp ?_;refine sr ?_;refine tl_c rfl (o_call bd167 rfl (size32_f _)) ?_;refine Zht ?_;refine Zc5 ?_;refine Zg1 ?_;refine tl_bool (d:=12) rfl dbq (sbq ?_);intro h;refine Zb6 ?_;refine tv (o_len underlying67 rfl) ?_;refine Zck ?_;refine Zeu ?_;refine Zn ?_;intro h;refine Ze ?_;refine Zcm ?_;refine Zf7 ?_;refine Zhf ?_;refine tc_loop (λ k ρ B=>B=A/\∃i:Int,-1<=i/\ i<4/\ k=(i+1).toNat/\ ρ 0= .slice a xs.length c/\ ρ 1=(vn p)/\ ρ 8= .int .i64 i/\ ρ 7= .int .u64 ((nm ((xs.drop (p+(i+1).toNat)).take (4-(i+1).toNat)):Nat):Int)) (m:=4) ?_ ?_
  . exact ⟨rfl,3,by omega,by omega,rfl,rfl,rfl,rfl,by simp [nm];rfl⟩
  intro k ρ B hI;obtain ⟨rfl,i,hi,hi2,rfl,h0,h1,h8,h7⟩:=hI;refine tc_env (d:=0) h0 ?_;refine tc_env (d:=1) h1 ?_;refine tc_env (d:=8) h8 ?_;refine tc_env (d:=7) h7 ?_;refine Zc5 ?_;refine tv (o_geq rfl rfl) ?_;refine nq ?_;refine tc_cond rfl (λ h=> ?_) (sbq ?_)
  . simp only [decide_eq_true_eq] at h
    obtain ⟨j,rfl⟩:=Int.eq_ofNat_of_zero_le h;have hpj:p+j<xs.length:=(by omega);have hb1:=hb _ (List.getElem_mem hpj);obtain ⟨b1,o1,rfl,hc1⟩:=hr.some (by rw [bys_length];omega);have g1:=hc1 (p+j) _ (bys_at hpj);have hlt:=nm_lt ((xs.drop (p+(j+1))).take (4-(j+1))) (λ y hy=>hb y (List.mem_of_mem_drop (List.mem_of_mem_take hy)));have hle:((xs.drop (p+(j+1))).take (4-(j+1))).length<=7:=(by rw [List.length_take];omega);have hpow:=Nat.pow_le_pow_right (show 0<256 by decide) hle
    have hu:nm ((xs.drop (p+(j+1))).take (4-(j+1)))*2^8<18446744073709551616:=by
      have:(256:Nat)^7=72057594037927936:=(by decide)
      omega
    refine Zbp ?_;refine Zt ?_;refine tv (o_shl64 (b:=8) rfl rfl rfl (by decide) hu) ?_;refine Zg0 ?_;refine Zb6 ?_;refine Zb6 ?_;refine Zd7 ?_;refine tv (o_loadC p5 rfl g1) ?_;refine tv (o_convI underlying5 underlying141 rfl (wrap_fit .u64 rfl _ (by show _<2^64;omega))) ?_;refine tv (o_orN rfl rfl rfl hu (by show _<2^64;omega)) ?_;refine Zfu ?_;refine Zck ?_;refine Zo ?_;exact ⟨(j:Int).toNat,by simp,rfl,(j:Int)-1,by omega,by omega,by omega,rfl,rfl,rfl,congrArg (λ x:Nat=>Value.int .u64 (x:Int)) ((nm_step oqz oqz (hb _ (List.getElem_mem _))).trans (by congr 3<;>omega))⟩
  intro h;refine Ze5 ?_;refine tv (o_conv32 underlying141 underlying53 rfl) ?_;refine Zid ?_;obtain rfl:i= -1:=by omega
  have hlt:=nm_lt ((xs.drop p).take 4) (λ y hy=>hb y (List.mem_of_mem_drop (List.mem_of_mem_take hy)));have hle:((xs.drop p).take 4).length=4:=(by rw [List.length_take,List.length_drop];omega);rw [hle] at hlt
  exact ⟨.tuple #[.int .u32 ((nm ((xs.drop p).take 4)%4294967296:Nat):Int),.int .i64 0],res2 rfl rfl rfl,by rw [Nat.mod_eq_of_lt (by simpa using hlt)],rfl⟩
def Foc (A X Y A':SP):Prop:=∃R,A=R*X/\ A'=R*Y
theorem foc_here {R X Y:SP}:Foc (R*X) X Y (R*Y):=⟨R,rfl,rfl⟩
theorem foc_left {A A' X Y Z:SP}(h:Foc A X Y A'):Foc (A*Z) X Y (A'*Z):=by
  obtain ⟨R,rfl,rfl⟩:=h;exact ⟨R*Z,star_swap _ _ _,star_swap _ _ _⟩
section
variable {P:Program} {n:Nat} {ρ:Env} {A:SP} {dst:Option Tmp} {ty:TypeId} {pos:String} {after:Array Edge} {gd:Option (Nat×Bool)}
end
theorem wds_set' (s:List Nat)(k v:Nat):(wds s).set k (.int .u64 (v:Nat))=wds (s.set k v):=by simp [wds,List.map_set];rfl
def bos (l:List Bool):List Value:=l.map Value.bool
theorem bos_at {xs:List Bool}{i:Nat}(h:i<xs.length):(bos xs)[i]? =some (.bool xs[i]):=by simp [bos,h]
theorem bos_length (xs:List Bool):(bos xs).length=xs.length:=by simp [bos]
def Words:List Value->List (List Nat)->SP
  |v::vs,x::xs=>Words vs xs*Sl 1 v x.length (wds x)
  |[],[]=>emp
  |_,_=>pure_ False
theorem words_get:∀{vs:List Value} {ls:List (List Nat)} {i:Nat} (h:vs.length=ls.length) (hi:i<ls.length),
    ∃R,Words vs ls=R*Sl 1 (vs[i]'oqz) ls[i].length (wds ls[i])/\∀v l,Words (vs.set i v) (ls.set i l)=R*Sl 1 v l.length (wds l)
  |[],[],_,_,hi=>by simp at hi
  |v::vs,l::ls,0,h,_=>⟨Words vs ls,rfl,λ _ _=>rfl⟩
  |v::vs,l::ls,i+1,h,hi=>by
    obtain ⟨R,h1,h2⟩:=words_get (vs:=vs) (ls:=ls) (i:=i) (by simpa using h) (by simpa using hi);refine ⟨R*Sl 1 v l.length (wds l), ?_,λ u m=> ?_⟩
    . simp only [Words,List.getElem_cons_succ];rw [h1,star_swap]
    simp only [List.set_cons_succ,Words];rw [h2,star_swap]
theorem sl_splice {o m c k i:Nat}{l xs vs:List Value}(h1:m<=c)(h2:o+c*k<=l.length)(h3:(l.drop o).take (m*k)=xs)(hi:i+vs.length<=m*k):((splice l (o+i) vs).drop o).take (m*k)=splice xs i vs:=by
  have hmc:m*k<=c*k:=Nat.mul_le_mul_right k h1;have hxl:xs.length=m*k:=(by rw [←h3,List.length_take,List.length_drop];omega)
  apply List.ext_getElem?
  intro j;rw [List.getElem?_take,List.getElem?_drop,splice_getElem? _ _ _ _ oqz,splice_getElem? _ _ _ _ oqz]
  by_cases hj:j<m*k
  . rw [if_pos hj]
    by_cases h:i<=j/\ j<i+vs.length
    . rw [if_pos oqz,if_pos h];congr 1;omega
    rw [if_neg oqz,if_neg h,←h3,List.getElem?_take,if_pos hj,List.getElem?_drop]
  rw [if_neg hj,if_neg oqz,List.getElem?_eq_none oqz]
section
variable {P:Program} {n:Nat} {ρ:Env} {A:SP} {dst:Option Tmp} {ty:TypeId} {pos:String} {after:Array Edge} {gd:Option (Nat×Bool)}
theorem o_storeSlV {t:TypeId}{x y:Operand}{k m c b o i q:Nat}{xs ys vs:List Value}{v:Value}{A':SP}(hk:szE P t=some q)(hx:ev n ρ x= .pointer (some ⟨b,o+i,none⟩))(hy:ev n ρ y=v)
    (hc:v.cells=vs.toArray) (hn:vs.length=q) (ho:∀u∈vs,oneC u=true) (hi:i+q<=m*k) (he:splice xs i vs=ys)
    (hf:Foc A (Sl k (.slice (some ⟨b,o,none⟩) m c) m xs) (Sl k (.slice (some ⟨b,o,none⟩) m c) m ys) A'):OpU P n ρ A ⟨dst,.store t x y,ty,pos,after,gd⟩ A':=λ g w hs=>by
  obtain ⟨R,rfl,rfl⟩:=hf;obtain ⟨hl,⟨e1,_⟩|⟨b',off,cap,l,E,e1,h1,h2,h3,hs'⟩⟩:=sl_iff.1 hs
  . cases e1
  simp only [Value.slice.injEq,Option.some.injEq,Addr.mk.injEq] at e1
  obtain ⟨⟨rfl,rfl,_⟩,_,rfl⟩:=e1;have hmc:m*k<=c*k:=Nat.mul_le_mul_right k h1;obtain ⟨w',hr,hw'⟩:=o_storeV (A:=R*pt b (cl l E)) (dst:=dst) (ty:=ty) (pos:=pos) (after:=after) (gd:=gd) hk hx hy hc hn ho oqz rfl upd_here g w hs';refine ⟨w',hr,sl_iff.2 ⟨by rw [←he,splice_length];exact hl,.inr ⟨b,o,c,_,E,rfl,h1,by rw [splice_length];exact h2, ?_,hw'⟩⟩⟩;rw [←he]
  exact sl_splice h1 h2 h3 oqz
theorem o_storeSlK {t:TypeId}{x y:Operand}{k m c b o i:Nat}{xs ys:List Value}{v:Value}{A':SP}(hk:szE P t=some 1)(hx:ev n ρ x= .pointer (some ⟨b,o+i,none⟩))(hy:ev n ρ y=v)(ho:oneC v=true)(hi:i<m*k)(he:xs.set i v=ys)
    (hf:Foc A (Sl k (.slice (some ⟨b,o,none⟩) m c) m xs) (Sl k (.slice (some ⟨b,o,none⟩) m c) m ys) A'):OpU P n ρ A ⟨dst,.store t x y,ty,pos,after,gd⟩ A':=
  o_storeSlV (vs:=[v]) hk hx hy (by cases v<;>first|(simp [Vl.oneC] at ho;done)|rfl) rfl (by simpa using ho) oqz (by simpa [splice] using he) hf
end
theorem bys_set (s:List Nat)(k v:Nat):(bys s).set k (.int .u8 (v:Nat))=bys (s.set k v):=by simp [bys,List.map_set];rfl
def pm {α:Type}(f:Nat->α->α)(k:Nat)(l:List α):List α:=l.mapIdx λ i x=>if i<k then f i x else x
theorem pm_length {α:Type}(f:Nat->α->α)(k:Nat)(l:List α):(pm f k l).length=l.length:=by simp [pm]
theorem pm_zero {α:Type}(f:Nat->α->α)(l:List α):pm f 0 l=l:=by
  apply List.ext_getElem?
  intro j;simp [pm,List.getElem?_mapIdx]
theorem pm_at {α:Type}(f:Nat->α->α){k:Nat}{l:List α}(h:k<l.length):(pm f k l)[k]'(by rw [pm_length];exact h)=l[k]:=by simp [pm]
theorem pm_set {α:Type}(f:Nat->α->α){k:Nat}{l:List α}(h:k<l.length):(pm f k l).set k (f k l[k])=pm f (k+1) l:=by
  apply List.ext_getElem?
  intro j
  by_cases hj:j=k
  . subst hj;rw [List.getElem?_set_self (by rw [pm_length];exact h)]
    simp [pm,List.getElem?_mapIdx,h]
  rw [List.getElem?_set_ne (Ne.symm hj)]
  simp only [pm,List.getElem?_mapIdx]
  by_cases hlt:j<k
  . simp [hlt,show j<k+1 by omega]
  simp [hlt,show¬j<k+1 by omega]
theorem pm_all {α:Type}(f:Nat->α->α)(l:List α):pm f l.length l=l.mapIdx f:=by
  apply List.ext_getElem?
  intro j
  simp only [pm,List.getElem?_mapIdx]
  rcases Nat.lt_or_ge j l.length with h|h
  . simp [h]
  simp [h]
def Gr (v:Value)(n:Nat)(xs:List Value)(v':Value)(m:Nat)(ys:List Value):SP:=λ h=>
  (∃a c,v= .slice a n c/\ v'= .slice a m c/\ n<=m/\ xs=ys.take n/\ Sl 1 v' m ys h)∨(Sl 1 v n xs*Sl 1 v' m ys) h
theorem take_some {ys:List Value}{n i:Nat}{u:Value}(h:(ys.take n)[i]? =some u):ys[i]? =some u:=by
  rw [List.getElem?_take] at h
  split at h
  . exact h
  cases h
theorem rd_key {A:SP}{a:Option Addr}{xs:List Value}{g:Gh}{w:World}(h0:sat g w A)(h:∀g w,sat g w A->∀i (u:Value),xs[i]? =some u->∃b o,a=some ⟨b,o,none⟩/\ w.cell? ⟨b,o+i,none⟩=some u):Rd A a xs:=by
  cases xs with
  |nil=>exact .inl rfl
  |cons x l=>
    obtain ⟨b,o,rfl,_⟩:=h g w h0 0 x rfl;refine rd_cells λ i u hu g w hs=> ?_
    obtain ⟨b',o',e,h1⟩:=h g w hs i u hu
    simp only [Option.some.injEq,Addr.mk.injEq,and_true] at e
    obtain ⟨rfl,rfl⟩:=e;exact h1
section
variable {P:Program} {n:Nat} {ρ:Env} {A:SP} {dst:Option Tmp} {ty:TypeId} {pos:String} {after:Array Edge} {gd:Option (Nat×Bool)}
end
def Ct (A X R:SP)(C:SP->SP):Prop:=A=R*X/\∀Y,C Y=R*Y
theorem ct_here {R X:SP}:Ct (R*X) X R (λ Y=>R*Y):=⟨rfl,λ _=>rfl⟩
theorem ct_left {A X R Z:SP}{C:SP->SP}(h:Ct A X R C):Ct (A*Z) X (R*Z) (λ Y=>C Y*Z):=by
  obtain ⟨rfl,h⟩:=h;exact ⟨star_swap _ _ _,λ Y=>by show C Y*Z=_;rw [h Y,star_swap]⟩
def Ct2 (A X X' R:SP)(C:SP->SP->SP):Prop:=A=R*X*X'/\∀Y Y',C Y Y'=R*Y*Y'
theorem ct2_r {A X X' R:SP}{C:SP->SP}(h:Ct A X R C):Ct2 (A*X') X X' R (λ Y Y'=>C Y*Y'):=by
  obtain ⟨rfl,h⟩:=h;exact ⟨rfl,λ Y Y'=>by show C Y*Y'=_;rw [h]⟩
theorem ct2_l {A X X' R:SP}{C:SP->SP}(h:Ct A X' R C):Ct2 (A*X) X X' R (λ Y Y'=>C Y'*Y):=by
  obtain ⟨rfl,h⟩:=h;exact ⟨star_swap _ _ _,λ Y Y'=>by show C Y'*Y=_;rw [h,star_swap]⟩
theorem ct2_left {A X X' R Z:SP}{C:SP->SP->SP}(h:Ct2 A X X' R C):Ct2 (A*Z) X X' (R*Z) (λ Y Y'=>C Y Y'*Z):=by
  obtain ⟨rfl,h⟩:=h;refine ⟨?_,λ Y Y'=> ?_⟩
  . ac_rfl
  show C Y Y'*Z=_;rw [h];ac_rfl
theorem Ct.sub {A X R:SP}{C:SP->SP}(h:Ct A X R C){g:Gh}{w:World}(hs:sat g w A):sat g w X:=by
  obtain ⟨rfl,_⟩:=h;exact hs.right
def Dr (A A':SP):Prop:=∃J,A=A'*J
theorem dr_refl {A:SP}:Dr A A:=⟨emp,(star_emp A).symm⟩
theorem dr_drop {A A' Z:SP}(h:Dr A A'):Dr (A*Z) A':=by
  obtain ⟨J,rfl⟩:=h;exact ⟨J*Z,star_assoc _ _ _⟩
theorem dr_keep {A A' Z:SP}(h:Dr A A'):Dr (A*Z) (A'*Z):=by
  obtain ⟨J,rfl⟩:=h;exact ⟨J,star_swap _ _ _⟩
theorem Dr.sat {A A':SP}(h:Dr A A'):∀g w,sat g w A->sat g w A':=λ g w hs=>by
  obtain ⟨J,rfl⟩:=h;exact hs.left
theorem Dr.trans {A B C:SP}(h:Dr A B)(k:Dr B C):Dr A C:=by
  obtain ⟨J,rfl⟩:=h;obtain ⟨K,rfl⟩:=k;exact ⟨K*J,star_assoc _ _ _⟩
def ptr (a:Option Addr)(i:Nat):Value:= .pointer (a.map λ p=>⟨p.block,p.off+i,none⟩)
theorem ptr_some {b o i:Nat}:ptr (some ⟨b,o,none⟩) i= .pointer (some ⟨b,o+i,none⟩):=rfl
def Nn (A:SP)(a:Option Addr)(m:Nat):Prop:=∀g w,sat g w A->0<m->∃b o,a=some ⟨b,o,none⟩
theorem Nn.left {A X:SP}{a:Option Addr}{m:Nat}(h:Nn A a m):Nn (A*X) a m:=λ g w hs=>h g w hs.left
theorem nn_sl {R:SP}{a:Option Addr}{k m c:Nat}{xs:List Value}(hk:0<k):Nn (R*Sl k (.slice a m c) m xs) a m:=λ g w hs h0=>by
  obtain ⟨a',c',e,_,hl,h3⟩:=sl_have hs
  simp only [Value.slice.injEq,true_and] at e
  obtain ⟨rfl,rfl⟩:=e;obtain ⟨b,o,e,_⟩:=h3.some (by rw [hl];exact Nat.mul_pos h0 hk);exact ⟨b,o,e⟩
theorem nn_some {A:SP}{b o m:Nat}:Nn A (some ⟨b,o,none⟩) m:=λ _ _ _ _=>⟨b,o,rfl⟩
def Rs (A:SP)(a:Option Addr)(xs:List Value):Prop:=∀g w,sat g w A->∀i v,xs[i]? =some v->∃b o,a=some ⟨b,o,none⟩/\ w.cell? ⟨b,o+i,none⟩=some v
theorem Rs.left {A X:SP}{a:Option Addr}{xs:List Value}(h:Rs A a xs):Rs (A*X) a xs:=λ g w hs=>h g w hs.left
theorem Rs.right {A X:SP}{a:Option Addr}{xs:List Value}(h:Rs X a xs):Rs (A*X) a xs:=λ g w hs=>h g w hs.right
theorem Rs.dr {A B:SP}{a:Option Addr}{xs:List Value}(h:Rs A a xs)(k:Dr B A):Rs B a xs:=λ g w hs=>h g w (k.sat g w hs)
theorem rs_rd {A:SP}{a:Option Addr}{xs:List Value}(h:Rd A a xs):Rs A a xs:=λ g w hs i v hv=>by
  rcases h with rfl|⟨b,o,rfl,hc⟩
  . simp at hv
  exact ⟨b,o,rfl,hc i v hv g w hs⟩
theorem Rs.rd {A:SP}{a:Option Addr}{xs:List Value}(h:Rs A a xs){g:Gh}{w:World}(hs:sat g w A):Rd A a xs:=rd_key hs h
theorem rs_sl {R:SP}{a:Option Addr}{k m c:Nat}{xs:List Value}:Rs (R*Sl k (.slice a m c) m xs) a xs:=λ g w hs=>by
  obtain ⟨a',c',e,_,hl,h3⟩:=sl_have hs
  simp only [Value.slice.injEq,true_and] at e
  obtain ⟨rfl,rfl⟩:=e;exact rs_rd h3 g w hs
theorem rs_pt {R:SP}{b c:Nat}{l xs:List Value}{E:TypeId}(h:(l.drop c).take xs.length=xs):Rs (R*pt b (cl l E)) (some ⟨b,c,none⟩) xs:=λ g w hs i v hv=>by
  refine ⟨b,c,rfl,cells_of_has has_here h i v hv g w hs⟩
theorem rs_pt0 {R:SP}{b:Nat}{l:List Value}{E:TypeId}:Rs (R*pt b (cl l E)) (some ⟨b,0,none⟩) l:=rs_pt (by simp)
theorem bys_sn (xs:List Nat)(v:Nat):bys xs++[.int .u8 (v:Int)]=bys (xs++[v]):=by rw [bys_append];rfl
theorem ints_sn (xs:List Int)(v:Int):ints xs++[.int .i64 v]=ints (xs++[v]):=by simp [ints];rfl
theorem wds_sn (xs:List Nat)(v:Nat):wds xs++[.int .u64 (v:Int)]=wds (xs++[v]):=by simp [wds];rfl
theorem bos_sn (xs:List Bool)(v:Bool):bos xs++[.bool v]=bos (xs++[v]):=by simp [bos]
theorem rs_nil {A:SP}{a:Option Addr}:Rs A a []:=λ _ _ _ _ _ h=>by simp at h
theorem rs_none {A:SP}:Rs A none []:=rs_nil
theorem Rs.sub {A:SP}{a:Option Addr}{xs:List Value}(h:Rs A a xs)(n:Nat):Rs A a (xs.take n):=λ g w hs i v hv=>h g w hs i v (take_some hv)
theorem nn_rs {A:SP}{a:Option Addr}{xs:List Value}{m:Nat}(h:Rs A a xs)(hl:0<m->0<xs.length):Nn A a m:=λ g w hs h0=>by
  have:=hl h0;obtain ⟨b,o,e,_⟩:=h g w hs 0 xs[0] (List.getElem?_eq_getElem _);exact ⟨b,o,e⟩
theorem rs_cut {A:SP}{a:Option Addr}{cap l k:Nat}{xs:List Value}(h:Rs A a xs)(hx:xs.length<=cap*k):Rs A (cutAddr a cap l k) (xs.drop (l*k)):=λ g w hs i v hv=>by
  unfold cutAddr
  rw [List.getElem?_drop] at hv
  obtain ⟨b,o,rfl,hc⟩:=h g w hs _ v hv
  by_cases e:cap=l
  . exfalso
    have:=(List.getElem?_eq_some_iff.1 hv).1;subst e;omega
  rw [if_neg e]
  refine ⟨b,o+l*k,by simp [addr_add], ?_⟩;rw [←hc];congr 2;omega
theorem lt_at {xs:List Value}{i:Nat}{v:Value}(h:xs[i]? =some v):i<xs.length:=(List.getElem?_eq_some_iff.1 h).1
theorem ct_cap {A R:SP}{C:SP->SP}{k n c:Nat}{a:Option Addr}{xs:List Value}(h:Ct A (Sl k (.slice a n c) n xs) R C){g:Gh}{w:World}(hs:sat g w A):n<=c:=by
  obtain ⟨rfl,_⟩:=h;obtain ⟨a',c',e,h1,_⟩:=sl_have hs
  simp only [Value.slice.injEq,true_and] at e
  rw [e.2];exact h1
theorem fn_rs {P:Program}{f:FuncId}{args:Array Value}{A:SP}{Q:Value->SP->Prop}{a:Option Addr}{xs:List Value}(hr:Rs A a xs)(h:Rd A a xs->Fn P f args A Q):Fn P f args A Q:=λ g w hs=>h (hr.rd hs) g w hs
theorem fn_eq {P:Program}{f:FuncId}{args:Array Value}{A B:SP}{Q:Value->SP->Prop}(e:A=B)(h:Fn P f args B Q):Fn P f args A Q:=e▸h
section
variable {P:Program} {n:Nat} {ρ:Env} {A:SP} {dst:Option Tmp} {ty:TypeId} {pos:String} {after:Array Edge} {gd:Option (Nat×Bool)}
theorem opv_rs {o:Oper}{v:Value}{a:Option Addr}{m:Nat}(hn:Nn A a m)(h0:0<m)(h:∀b o',a=some ⟨b,o',none⟩->OpV P n ρ A o v):OpV P n ρ A o v:=λ g w hs=>by
  obtain ⟨b,o',e⟩:=hn g w hs h0;exact h b o' e g w hs
theorem o_ixP {t e:TypeId}{x y:Operand}{a:Option Addr}{m c k j:Nat}{ik:IntKind}(hu:P.underlying t=some (.slice e))(hk:szE P e=some k)(hx:ev n ρ x= .slice a m c)(hy:ev n ρ y= .int ik ((j:Nat):Int))(h1:j<m)
    (hn:Nn A a m):OpV P n ρ A ⟨dst,.indexAddr t x y,ty,pos,after,gd⟩ (ptr a (j*k)):=
  opv_rs hn oqz λ b o e=>by subst e;exact o_indexAddrN hu hk hx hy h1
theorem o_ixP1 {t e:TypeId}{x y:Operand}{a:Option Addr}{m c j:Nat}{ik:IntKind}(hu:P.underlying t=some (.slice e))(hk:szE P e=some 1)(hx:ev n ρ x= .slice a m c)(hy:ev n ρ y= .int ik ((j:Nat):Int))(h1:j<m)
    (hn:Nn A a m):OpV P n ρ A ⟨dst,.indexAddr t x y,ty,pos,after,gd⟩ (ptr a j):=
  opv_rs hn oqz λ b o e=>by subst e;exact o_indexAddrN1 hu hk hx hy h1
theorem o_faP {t:TypeId}{x:Operand}{i:Nat}{a:Option Addr}{off m:Nat}{fs:Array Field}{f:Field}{k o:Nat}(hu:P.underlying t=some (.struct fs))(hf:fs[i]? =some f)(ho:f.offset=o)(hk:szE P f.type=some (k+1))
    (hx:ev n ρ x=ptr a off) (hn:Nn A a (m+1)):OpV P n ρ A ⟨dst,.fieldAddr t x i,ty,pos,after,gd⟩ (ptr a (off+o)):=
  opv_rs hn oqz λ b o' e=>by
    subst e;have:=o_fieldAddr (A:=A) (dst:=dst) (ty:=ty) (pos:=pos) (after:=after) (gd:=gd) hu hf ho hk (show ev n ρ x= .pointer (some ⟨b,o'+off,none⟩) from hx);rw [ptr_some,←Nat.add_assoc];exact this
theorem o_ldP {t:TypeId}{x:Operand}{a:Option Addr}{i:Nat}{xs:List Value}{v:Value}(hp:plainE P t=true)(hx:ev n ρ x=ptr a i)(hr:Rs A a xs)(hv:xs[i]? =some v):OpV P n ρ A ⟨dst,.load t x,ty,pos,after,gd⟩ v:=λ g w hs=>by
  obtain ⟨b,o,rfl,hc⟩:=hr g w hs i v hv;refine o_loadC (A:=A) hp hx (λ g' w' hs'=> ?_) g w hs;obtain ⟨b',o',e,hc'⟩:=hr g' w' hs' i v hv
  simp only [Option.some.injEq,Addr.mk.injEq,and_true] at e
  obtain ⟨rfl,rfl⟩:=e;exact hc'
theorem o_ldPN {t:TypeId}{x:Operand}{a:Option Addr}{i q:Nat}{xs vs:List Value}(hp:aggE P t=true)(hk:szE P t=some q)(hx:ev n ρ x=ptr a i)(hr:Rs A a xs)(hv:(xs.drop i).take q=vs)(hl:vs.length=q)(h0:0<q):OpV P n ρ A ⟨dst,.load t x,ty,pos,after,gd⟩ (.agg vs.toArray):=λ g w hs=>by
  have hat:∀j v,vs[j]? =some v->xs[i+j]? =some v:=λ j v h=>by
    rw [←hv,List.getElem?_take] at h
    split at h
    . rwa [List.getElem?_drop] at h
    cases h
  have h00:vs[0]? =some vs[0]:=List.getElem?_eq_getElem oqz;obtain ⟨b,o,rfl,_⟩:=hr g w hs _ _ (hat 0 _ h00);refine o_loadNC (A:=A) hp hk hx hl (λ j v hj g' w' hs'=> ?_) g w hs;obtain ⟨b',o',e,hc'⟩:=hr g' w' hs' _ v (hat j v hj)
  simp only [Option.some.injEq,Addr.mk.injEq,and_true] at e
  obtain ⟨rfl,rfl⟩:=e;rw [Nat.add_assoc];exact hc'
theorem o_stPV {t:TypeId}{x y:Operand}{k m c i q:Nat}{a:Option Addr}{xs ys vs:List Value}{v:Value}{R:SP}{C:SP->SP}(hk:szE P t=some q)(hx:ev n ρ x=ptr a i)(hy:ev n ρ y=v)
    (hc:v.cells=vs.toArray) (hn:vs.length=q) (ho:∀u∈vs,oneC u=true) (h0:0<q) (hf:Ct A (Sl k (.slice a m c) m xs) R C) (hi:i+q<=m*k) (he:splice xs i vs=ys):
    OpU P n ρ A ⟨dst,.store t x y,ty,pos,after,gd⟩ (C (Sl k (.slice a m c) m ys)):=λ g w hs=>by
  obtain ⟨rfl,hC⟩:=hf;have hl:=sl_len hs;obtain ⟨b,o,rfl,_⟩:=rs_sl g w hs 0 xs[0] (List.getElem?_eq_getElem oqz);rw [hC]
  exact o_storeSlV (A:=R*Sl k (.slice (some ⟨b,o,none⟩) m c) m xs) hk hx hy hc hn ho hi he foc_here g w hs
theorem o_stPN {t:TypeId}{x y:Operand}{k m c i q:Nat}{a:Option Addr}{xs ys vs:List Value}{R:SP}{C:SP->SP}(hk:szE P t=some q)(hx:ev n ρ x=ptr a i)(hy:ev n ρ y= .agg vs.toArray)
    (hn:vs.length=q) (ho:vs.all oneC=true) (h0:0<q) (hf:Ct A (Sl k (.slice a m c) m xs) R C) (hi:i+q<=m*k) (he:splice xs i vs=ys):
    OpU P n ρ A ⟨dst,.store t x y,ty,pos,after,gd⟩ (C (Sl k (.slice a m c) m ys)):=
  o_stPV hk hx hy rfl hn (λ u hu=>List.all_eq_true.1 ho u hu) h0 hf hi he
theorem o_stP {t:TypeId}{x y:Operand}{k m c i:Nat}{a:Option Addr}{xs ys:List Value}{v:Value}{R:SP}{C:SP->SP}(hk:szE P t=some 1)(hx:ev n ρ x=ptr a i)(hy:ev n ρ y=v)(ho:oneC v=true)
    (hf:Ct A (Sl k (.slice a m c) m xs) R C) (hi:i<m*k) (he:xs.set i v=ys):OpU P n ρ A ⟨dst,.store t x y,ty,pos,after,gd⟩ (C (Sl k (.slice a m c) m ys)):=
  o_stPV (vs:=[v]) hk hx hy (by cases v<;>first|(simp [Vl.oneC] at ho;done)|rfl) rfl (by simpa using ho) (by decide) hf oqz (by simpa [splice] using he)
theorem o_stU {t:TypeId}{x y:Operand}{b off:Nat}{l l':List Value}{E:TypeId}{v:Value}{A':SP}(hx:ev n ρ x= .pointer (some ⟨b,off,none⟩))(hu:Upd A b (cl l E) (cl l' E) A')(hk:szE P t=some 1)(hy:ev n ρ y=v)
    (ho:oneC v=true) (hl:off<l.length) (he:l.set off v=l'):OpU P n ρ A ⟨dst,.store t x y,ty,pos,after,gd⟩ A':=o_store hk hx hy ho hl he hu
theorem o_stUN {t:TypeId}{x y:Operand}{b off k:Nat}{l l':List Value}{E:TypeId}{vs:List Value}{A':SP}(hx:ev n ρ x= .pointer (some ⟨b,off,none⟩))(hu:Upd A b (cl l E) (cl l' E) A')(hk:szE P t=some k)(hy:ev n ρ y= .agg vs.toArray)
    (hn:vs.length=k) (ho:vs.all oneC=true) (hl:off+k<=l.length) (he:splice l off vs=l'):OpU P n ρ A ⟨dst,.store t x y,ty,pos,after,gd⟩ A':=o_storeN hk hx hy hn ho hl he hu
def PV (n:Nat)(ρ:Env):List (Nat×Operand)->List (Nat×Value)->Prop
  |[],[]=>True
  |(i,x)::ps,(j,v)::vs=>(i=j/\ ev n ρ x=v)/\ PV n ρ ps vs
  |_,_=>False
theorem pv_nil {n:Nat}{ρ:Env}:PV n ρ [] []:=trivial
theorem pv_cons {n i:Nat}{ρ:Env}{x:Operand}{v:Value}{ps:List (Nat×Operand)}{vs:List (Nat×Value)}(h:ev n ρ x=v)(t:PV n ρ ps vs):PV n ρ ((i,x)::ps) ((i,v)::vs):=⟨⟨rfl,h⟩,t⟩
theorem pv_map {n:Nat}{ρ:Env}:∀{ps:List (Nat×Operand)} {vs:List (Nat×Value)},PV n ρ ps vs->ps.map (λ p=>(p.1,ev n ρ p.2))=vs
  |[],[],_=>rfl
  |(i,x)::ps,(j,v)::vs,⟨⟨e1,e2⟩,t⟩=>by rw [List.map_cons,pv_map t];simp only [e1,e2]
theorem o_bS {t:TypeId}{fs:Array Field}{places:List (Nat×Nat)}{z l:List Value}{ps:List (Nat×Operand)}{vs:List (Nat×Value)}(hx:PV n ρ ps vs)(hu:P.underlying t=some (.struct fs))(hz:zeroE P t=some (.agg z.toArray))
    (hp:∀w,(fs.mapM λ f=>do pure (f.offset,←sizeOf f.type):Sem (Array (Nat×Nat))).run P w= .ok places.toArray w)
    (hf:bld places z vs=some l):OpV P n ρ A ⟨dst,.build t ps.toArray,ty,pos,after,gd⟩ (.agg l.toArray):=o_buildS hu hz hp (by simpa using pv_map hx) hf
theorem o_apB {t t' e e':TypeId}{x y:Operand}{z:Value}{m k q bytes c c0 b:Nat}{a:Option Addr}{xs ys zs:List Value}{A0 R:SP}{C:SP->SP}{E:TypeId}
    (hu:P.underlying t=some (.slice e)) (hu':P.underlying t'=some (.slice e')) (hk:szE P e=some k) (hb:bytesE P e=some bytes) (hz:zeroE P e=some z) (hzk:z.cells.size=k) (hk0:0<k) (hb0:0<bytes)
    (hx:ev n ρ x= .slice a q c0) (hy:ev n ρ y= .slice (some ⟨b,0,none⟩) m c) (hA:A=A0*pt b (cl ys E)) (hf:Ct A0 (Sl k (.slice a q c0) q xs) R C) (hm:ys.length=m*k) (ho:ys.all oneC=true) (hlim:(q+m)*bytes<=140737488355328) (he:xs++ys=zs):
    OpX P n ρ A ⟨dst,.call { callee:= .builtin .append,args:= #[x,y],argTypes:= #[t,t'] },ty,pos,after,gd⟩ (λ v' B=>∃a' c',v'= .slice a' (q+m) c'/\ q+m<=c'/\ B=C (Sl k (.slice a' (q+m) c') (q+m) zs)):=λ g w hs=>by
  subst he;obtain ⟨rfl,hC⟩:=hf;obtain ⟨v',w',B,hr,hB,rfl⟩:=o_append1 (dst:=dst) (ty:=ty) (pos:=pos) (after:=after) (gd:=gd) hu hu' hk hb hz hzk hk0 hb0 hx hy (R:=R) hA hm ho hlim g w hs;obtain ⟨a',c',rfl,h1,_⟩:=sl_have hB;exact ⟨_,w',_,hr,hB,a',c',rfl,h1,(hC _).symm⟩
theorem o_apR {t t' e e':TypeId}{x y:Operand}{z:Value}{m k q bytes c c0:Nat}{a a2:Option Addr}{xs ys zs:List Value}{R:SP}{C:SP->SP}
    (hu:P.underlying t=some (.slice e)) (hu':P.underlying t'=some (.slice e')) (hk:szE P e=some k) (hb:bytesE P e=some bytes) (hz:zeroE P e=some z) (hzk:z.cells.size=k) (hk0:0<k) (hb0:0<bytes)
    (hx:ev n ρ x= .slice a q c0) (hy:ev n ρ y= .slice a2 m c) (hf:Ct A (Sl k (.slice a q c0) q xs) R C) (hr:Rs A a2 ys) (hm:ys.length=m*k) (ho:ys.all oneC=true) (hlim:(q+m)*bytes<=140737488355328) (he:xs++ys=zs):
    OpX P n ρ A ⟨dst,.call { callee:= .builtin .append,args:= #[x,y],argTypes:= #[t,t'] },ty,pos,after,gd⟩ (λ v' B=>∃a' c',v'= .slice a' (q+m) c'/\ q+m<=c'/\ B=C (Sl k (.slice a' (q+m) c') (q+m) zs)):=λ g w hs=>by
  subst he;have hr':=hr.rd hs;obtain ⟨rfl,hC⟩:=hf;obtain ⟨v',w',B,hr,hB,rfl⟩:=o_append2 (dst:=dst) (ty:=ty) (pos:=pos) (after:=after) (gd:=gd) hu hu' hk hb hz hzk hk0 hb0 hx hy rfl hr' hm ho hlim g w hs;obtain ⟨a',c',rfl,h1,_⟩:=sl_have hB;exact ⟨_,w',_,hr,hB,a',c',rfl,h1,(hC _).symm⟩
theorem o_apN {t t' e e':TypeId}{x y:Operand}{z:Value}{m k bytes c:Nat}{a2:Option Addr}{ys:List Value}
    (hu:P.underlying t=some (.slice e)) (hu':P.underlying t'=some (.slice e')) (hk:szE P e=some k) (hb:bytesE P e=some bytes) (hz:zeroE P e=some z) (hzk:z.cells.size=k) (hk0:0<k) (hb0:0<bytes)
    (hx:ev n ρ x= .slice none 0 0) (hy:ev n ρ y= .slice a2 m c) (hr:Rs A a2 ys) (hm:ys.length=m*k) (ho:ys.all oneC=true) (hlim:m*bytes<=140737488355328):
    OpX P n ρ A ⟨dst,.call { callee:= .builtin .append,args:= #[x,y],argTypes:= #[t,t'] },ty,pos,after,gd⟩ (λ v' B=>∃a' c',v'= .slice a' m c'/\ m<=c'/\ B=A*Sl k (.slice a' m c') m ys):=λ g w hs=>by
  have hs2:=sl_nil (k:=k) hs;obtain ⟨v',w',B,hr,hB,a',c',rfl,h1,rfl⟩:=o_apR (dst:=dst) (ty:=ty) (pos:=pos) (after:=after) (gd:=gd) hu hu' hk hb hz hzk hk0 hb0 hx hy (ct_here (R:=A)) hr.left hm ho (by rw [Nat.zero_add];exact hlim) (List.nil_append ys) g w hs2
  simp only [Nat.zero_add] at*
  exact ⟨_,w',_,hr,hB,a',c',rfl,h1,rfl⟩
def TH [δ:Df](P:Program)(n:Nat)(ops:Array Oper)(Q:Post)(S:SP)(fuel:Nat)(listed:Array Bool)(ρ:Env)(A:SP):Prop:=
  ∀g a w,Agr n ρ a->sat g w A->sat g w S->wpAnyH P .any ops (lift g n Q) (λ w=>sat g w S) fuel listed a w
variable {δ:Df} {Q:Post} {ops:Array Oper} {o:Oper} {S:SP}
theorem tc_regh {id:Nat}{l:List Oper}(hm:P.follows .mixedOrders=true)(hd:Dr A S)(h:TH P n l.toArray Q S l.length (Array.replicate l.length false) ρ A):TC P n (.region id l.toArray true) Q ρ A:=λ g a w ha hs=>
  have hs':sat g { w with drawn:=w.drawn+1 } A:=hs.draw rfl rfl rfl rfl;have h1:=h g a { w with drawn:=w.drawn+1 } ha hs' (hd.sat _ _ hs')
  wp_region_held (S:=λ w=>sat g w S) hm (by simpa using h1)
theorem th_done {fuel:Nat}{listed:Array Bool}(hr:Region.ready .any ops listed=[])(h:Q .normal ρ A):TH P n ops Q S fuel listed ρ A:=λ g a w ha hs _=>
  wpAnyH_done hr ⟨rfl,ρ,A,ha,hs,h⟩ fuel
theorem th_take {fuel i:Nat}{listed listed':Array Bool}{v:Value}(hi:ops[i]? =some o)(hs':Region.noSelect ops=true)(hf:Region.free .any ops listed i=true)(hr:(Region.ready .any ops listed).contains i=true)
    (hl:listed.setIfInBounds i true=listed') (hw:wantE n ops ρ o=true) (hv:OpV P n ρ S o v) (k:TH P n ops Q S fuel listed' (put ρ o.dst v) A):TH P n ops Q S (fuel+1) listed ρ A:=λ g a w ha hs hS=>
  wpAnyH_take hi hs' hf hr (λ c a w h=>absurd h.1 (by simp [okE])) (.inl ⟨by rw [want_eq ha,hw],λ w' h'=>by
    rw [ha.eval];exact hv g w' h'⟩) hS (by rw [hl];exact k g _ w (ha.put _ _) hs hS)
theorem th_skip {fuel i:Nat}{listed listed':Array Bool}(hi:ops[i]? =some o)(hs':Region.noSelect ops=true)(hf:Region.free .any ops listed i=true)(hr:(Region.ready .any ops listed).contains i=true)
    (hl:listed.setIfInBounds i true=listed') (hw:wantE n ops ρ o=false) (k:TH P n ops Q S fuel listed' (put ρ o.dst undef) A):TH P n ops Q S (fuel+1) listed ρ A:=λ g a w ha hs hS=>
  wpAnyH_take hi hs' hf hr (λ c a w h=>absurd h.1 (by simp [okE])) (.inr ⟨by rw [want_eq ha,hw],rfl⟩) hS (by rw [hl];exact k g _ w (ha.put _ _) hs hS)
def OH [δ:Df](P:Program)(n:Nat)(ops:Array Oper)(Q:Post)(S:SP)(fuel i:Nat)(listed:Array Bool)(ρ:Env)(A:SP):Prop:=
  ∀g a w,Agr n ρ a->sat g w A->sat g w S->wpOp P ops (lift g n Q) i (λ a' w'=>sat g w' S/\ wpAnyH P .any ops (lift g n Q) (λ w=>sat g w S) fuel (listed.setIfInBounds i true) a' w') a w
theorem th_all {fuel:Nat}{listed:Array Bool}{rs:List Nat}(hr:Region.ready .any ops listed=rs)(hne:rs≠[])(h:∀i∈rs,OH P n ops Q S fuel i listed ρ A):TH P n ops Q S (fuel+1) listed ρ A:=λ g a w ha hs hS=>
  wpAnyH_all hr hne λ i hi=>h i hi g a w ha hs hS
theorem th_one {fuel i:Nat}{listed:Array Bool}(hr:Region.ready .any ops listed=[i])(h:OH P n ops Q S fuel i listed ρ A):TH P n ops Q S (fuel+1) listed ρ A:=th_all hr (by simp) (by simpa using h)
theorem th_two {fuel i j:Nat}{listed:Array Bool}(hr:Region.ready .any ops listed=[i,j])(h:OH P n ops Q S fuel i listed ρ A)(h':OH P n ops Q S fuel j listed ρ A):TH P n ops Q S (fuel+1) listed ρ A:=
  th_all hr (by simp) (by simpa using ⟨h,h'⟩)
section
variable {fuel i:Nat} {listed listed':Array Bool}
theorem oh_v {v:Value}(hi:ops[i]? =some o)(hl:listed.setIfInBounds i true=listed')(hw:wantE n ops ρ o=true)(h:OpV P n ρ A o v)(k:TH P n ops Q S fuel listed' (put ρ o.dst v) A):OH P n ops Q S fuel i listed ρ A:=λ g a w ha hs hS=>by
  subst hl
  unfold wpOp
  simp only [hi,want_eq ha,hw,if_true]
  refine .inl ?_
  unfold Oper.wp
  rw [ha.eval,h g w hs]
  exact ⟨hS,k g _ w (ha.put _ _) hs hS⟩
theorem oh_x {R:Value->SP->Prop}(hi:ops[i]? =some o)(hl:listed.setIfInBounds i true=listed')(hw:wantE n ops ρ o=true)(h:OpX P n ρ A o R)(k:∀v B,R v B->Dr B S/\ TH P n ops Q S fuel listed' (put ρ o.dst v) B):OH P n ops Q S fuel i listed ρ A:=λ g a w ha hs hS=>by
  subst hl
  unfold wpOp
  simp only [hi,want_eq ha,hw,if_true]
  refine .inl ?_
  unfold Oper.wp
  obtain ⟨v,w',B,hr,hb,hR⟩:=h g w hs;rw [ha.eval,hr]
  obtain ⟨hd,k⟩:=k v B hR;exact ⟨hd.sat _ _ hb,k g _ w' (ha.put _ _) hb (hd.sat _ _ hb)⟩
theorem oh_u {B:SP}(hi:ops[i]? =some o)(hl:listed.setIfInBounds i true=listed')(hw:wantE n ops ρ o=true)(h:OpU P n ρ A o B)(hd:Dr B S)(k:TH P n ops Q S fuel listed' (put ρ o.dst undef) B):OH P n ops Q S fuel i listed ρ A:=λ g a w ha hs hS=>by
  subst hl
  unfold wpOp
  simp only [hi,want_eq ha,hw,if_true]
  refine .inl ?_
  unfold Oper.wp
  obtain ⟨w',hr,hb⟩:=h g w hs;rw [ha.eval,hr]
  exact ⟨hd.sat _ _ hb,k g _ w' (ha.put _ _) hb (hd.sat _ _ hb)⟩
theorem oh_c {R:Value->SP->Prop}(hi:ops[i]? =some o)(hl:listed.setIfInBounds i true=listed')(hw:wantE n ops ρ o=true)(h:OpC P n ρ A o R)(k:∀v B,R v B->Dr B S/\ TH P n ops Q S fuel listed' (put ρ o.dst v) B):OH P n ops Q S fuel i listed ρ A:=λ g a w ha hs hS=>by
  subst hl
  unfold wpOp
  simp only [hi,want_eq ha,hw,if_true]
  refine .inl ?_
  unfold Oper.wp
  obtain ⟨f,args,w',hr,hc⟩:=h g w hs;rw [ha.eval,hr]
  refine hc.mono λ e w'' ⟨v,B,he,hR,hb⟩=> ?_
  subst he;obtain ⟨hd,k⟩:=k v B hR;exact ⟨hd.sat _ _ hb,k g _ w'' (ha.put _ _) hb (hd.sat _ _ hb)⟩
end
theorem th_env {fuel:Nat}{listed:Array Bool}{d:Nat}{v:Value}(h:ρ d=v)(k:TH P n ops Q S fuel listed (upd ρ d v) A):TH P n ops Q S fuel listed ρ A:=by
  rw [←env_set h] at k;exact k
end
theorem tm {δ:Df}{P:Program}{n:Nat}{ops:Array Oper}{o:Oper}{Q:Post}{S A:SP}{ρ:Env}{fuel:Nat}{listed:Array Bool}{v:Value}(i:Nat)(hi:ops[i]? =some o)(hk:(Region.noSelect ops&&Region.free .any ops listed i&&(Region.ready .any ops listed).contains i)=true)(hw:wantE n ops ρ o=true)(hv:OpV P n ρ S o v)(k:TH P n ops Q S fuel (listed.setIfInBounds i true) (put ρ o.dst v) A):TH P n ops Q S (fuel+1) listed ρ A:=by
  rw [Bool.and_eq_true,Bool.and_eq_true] at hk;exact th_take hi hk.1.1 hk.1.2 hk.2 rfl hw hv k
theorem tn {δ:Df}{P:Program}{n:Nat}{ops:Array Oper}{o:Oper}{Q:Post}{S A:SP}{ρ:Env}{fuel:Nat}{listed:Array Bool}(i:Nat)(hi:ops[i]? =some o)(hk:(Region.noSelect ops&&Region.free .any ops listed i&&(Region.ready .any ops listed).contains i)=true)(hw:wantE n ops ρ o=false)(k:TH P n ops Q S fuel (listed.setIfInBounds i true) (put ρ o.dst undef) A):TH P n ops Q S (fuel+1) listed ρ A:=by
  rw [Bool.and_eq_true,Bool.and_eq_true] at hk;exact th_skip hi hk.1.1 hk.1.2 hk.2 rfl hw k
structure LineS where
  st:List (List Nat)
  mark:Int
structure DevS where
  ls:List LineS
  ops:Int
  arms:List (Int×List Int)
  cnt:Int
  off:Bool
def stc (st:List (List Nat)):List Value:=st.flatMap wds
def Eight (st:List (List Nat)):Prop:=∀s∈st,s.length=8
theorem stc_length {st:List (List Nat)}(h:Eight st):(stc st).length=st.length*8:=by
  induction st with
  |nil=>rfl
  |cons s st ih=>
    simp only [stc,List.flatMap_cons,List.length_append,wds_length,List.length_cons] at*
    rw [h s (by simp),ih λ x hx=>h x (by simp [hx])];omega
theorem stc_drop {st:List (List Nat)}(h:Eight st):∀k,k<=st.length->(stc st).drop (k*8)=stc (st.drop k):=by
  induction st with
  |nil=>intro k hk;simp at hk;subst hk;rfl
  |cons s st ih=>
    intro k hk
    match k with
    |0=>simp
    |k+1=>
      simp only [List.drop_succ_cons]
      rw [←ih (λ x hx=>h x (by simp [hx])) k (by simpa using hk)]
      have e:(k+1)*8=(wds s).length+k*8:=(by rw [wds_length,h s (by simp)];omega);rw [e]
      show ((wds s)++stc st).drop _=_
      rw [List.drop_append]
      simp
theorem stc_at {st:List (List Nat)}(h:Eight st){k:Nat}(hk:k<st.length):((stc st).drop (k*8)).take 8=wds st[k]:=by
  rw [stc_drop h k oqz,List.drop_eq_getElem_cons hk]
  show ((wds st[k])++stc _).take 8=_
  have:(wds st[k]).length=8:=(by rw [wds_length];exact h _ (List.getElem_mem hk));rw [←this,List.take_left]
def lcs:List Value->List LineS->List Value
  |v::vs,l::ls=>v:: .int .i64 l.mark::lcs vs ls
  |_,_=>[]
theorem lcs_length:∀{vs:List Value} {ls:List LineS},vs.length=ls.length->(lcs vs ls).length=ls.length*2
  |[],[],_=>rfl
  |v::vs,l::ls,h=>by simp only [lcs,List.length_cons] at*;rw [lcs_length oqz];omega
theorem lcs_sv:∀{vs:List Value} {ls:List LineS} {i:Nat} (h:vs.length=ls.length) (hi:i<vs.length),(lcs vs ls)[i*2]? =some vs[i]
  |[],_,_,_,hi=>by simp at hi
  |v::vs,l::ls,0,h,_=>rfl
  |v::vs,l::ls,i+1,h,hi=>by
    have:(i+1)*2=i*2+1+1:=(by omega);rw [this,lcs,List.getElem?_cons_succ,List.getElem?_cons_succ,lcs_sv (by simpa using h) (by simpa using hi)];rfl
theorem lcs_mark:∀{vs:List Value} {ls:List LineS} {i:Nat} (h:vs.length=ls.length) (hi:i<ls.length),(lcs vs ls)[i*2+1]? =some (.int .i64 ls[i].mark)
  |[],[],_,_,hi=>by simp at hi
  |v::vs,l::ls,0,h,_=>rfl
  |v::vs,l::ls,i+1,h,hi=>by
    have:(i+1)*2+1=(i*2+1)+1+1:=(by omega);rw [this,lcs,List.getElem?_cons_succ,List.getElem?_cons_succ,lcs_mark (by simpa using h) (by simpa using hi)];rfl
theorem lcs_set:∀{vs:List Value} {ls:List LineS} {i:Nat} {v:Value} {l:LineS} (h:vs.length=ls.length) (hi:i<ls.length),
    ((lcs vs ls).set (i*2) v).set (i*2+1) (.int .i64 l.mark)=lcs (vs.set i v) (ls.set i l)
  |[],[],_,_,_,_,hi=>by simp at hi
  |v::vs,l::ls,0,_,_,h,_=>rfl
  |v::vs,l::ls,i+1,u,m,h,hi=>by
    have e1:(i+1)*2=i*2+1+1:=(by omega);have e2:(i+1)*2+1=(i*2+1)+1+1:=(by omega);rw [e1,lcs,List.set_cons_succ,List.set_cons_succ,List.set_cons_succ,List.set_cons_succ,lcs_set (by simpa using h) (by simpa using hi)];rfl
theorem lcs_set_sv {vs:List Value}{ls:List LineS}{i:Nat}{v:Value}(l:LineS)(h:vs.length=ls.length)(hi:i<ls.length)(hm:l.mark=ls[i].mark):(lcs vs ls).set (i*2) v=lcs (vs.set i v) (ls.set i l):=by
  rw [←lcs_set h hi,hm]
  have h1:((lcs vs ls).set (i*2) v)[i*2+1]? =some (.int .i64 ls[i].mark):=(by rw [List.getElem?_set_ne oqz,lcs_mark h hi]);have h2:i*2+1<((lcs vs ls).set (i*2) v).length:=(by rw [List.length_set,lcs_length h];omega);have h3:((lcs vs ls).set (i*2) v)[i*2+1]= .int .i64 ls[i].mark:=(by rw [List.getElem?_eq_getElem h2] at h1;exact Option.some.inj h1);rw [←h3,set_getElem h2]
def LinesR:List Value->List LineS->SP
  |v::vs,l::ls=>LinesR vs ls*Sl 8 v l.st.length (stc l.st)
  |[],[]=>emp
  |_,_=>pure_ False
theorem linesR_get:∀{vs:List Value} {ls:List LineS} {i:Nat} (h:vs.length=ls.length) (hi:i<ls.length),
    ∃R,LinesR vs ls=R*Sl 8 (vs[i]'oqz) ls[i].st.length (stc ls[i].st)/\∀v l,LinesR (vs.set i v) (ls.set i l)=R*Sl 8 v l.st.length (stc l.st)
  |[],[],_,_,hi=>by simp at hi
  |v::vs,l::ls,0,h,_=>⟨LinesR vs ls,rfl,λ _ _=>rfl⟩
  |v::vs,l::ls,i+1,h,hi=>by
    obtain ⟨R,h1,h2⟩:=linesR_get (vs:=vs) (ls:=ls) (i:=i) (by simpa using h) (by simpa using hi);refine ⟨R*Sl 8 v l.st.length (stc l.st), ?_,λ u m=> ?_⟩
    . simp only [LinesR,List.getElem_cons_succ];rw [h1,star_swap]
    simp only [List.set_cons_succ,LinesR];rw [h2,star_swap]
def SlR (k:Nat)(v:Value)(n:Nat)(xs:List Value):SP:=λ h=>xs.length=n*k∧
  ((v = .slice none 0 0 ∧ n = 0 ∧ h = fun _ => none) ∨
   ∃b off cap l E,v= .slice (some ⟨b,off,none⟩) n cap/\ n<=cap/\ off+cap*k<=l.length/\ (l.drop off).take (n*k)=xs/\ ro b (cl l E) h)
def acs:List Value->List (Int×List Int)->List Value
  |v::vs,a::ar=> .int .i64 a.1::v::acs vs ar
  |_,_=>[]
def KeepsR:List Value->List (Int×List Int)->SP
  |v::vs,a::ar=>KeepsR vs ar*SlR 1 v a.2.length (ints a.2)
  |[],[]=>emp
  |_,_=>pure_ False
def ArmsR (av:Value)(kvs:List Value)(ar:List (Int×List Int)):SP:=Sl 2 av ar.length (acs kvs ar)*KeepsR kvs ar
def dcs (bl n:Nat)(s:DevS)(av:Value):List Value:=[.slice (some ⟨bl,0,none⟩) n n,.int .i64 s.ops,av,.int .i64 s.cnt,.bool s.off]
def DevC (d bl:Nat)(svs:List Value)(av:Value)(kvs:List Value)(s:DevS):SP:=
  pt d (cl (dcs bl s.ls.length s av) 236)*pt bl (cl (lcs svs s.ls) 241)*LinesR svs s.ls*ArmsR av kvs s.arms
structure WfL (l:LineS):Prop where
  ne:l.st≠[]
  eight:Eight l.st
  lo: -1<=l.mark
  hi:l.mark<l.st.length
  small:l.st.length<=2199023255552
  words:∀s∈l.st,∀x∈s,x<18446744073709551616
structure WfD (s:DevS):Prop where
  pos:0<s.ls.length
  top:s.ls.length<=65536
  line:∀l∈s.ls,WfL l
  arms:s.arms.length<=64
  after:∀a∈s.arms,1<=a.1/\ a.1<=9223372036854775807
  keeps:∀a∈s.arms,a.2.length<=17592186044416/\∀k∈a.2,0<=k/\ k<=9223372036854775807
def Dev (d:Nat)(s:DevS):SP:=λ h=>WfD s/\∃bl svs av kvs,svs.length=s.ls.length/\ kvs.length=s.arms.length/\ DevC d bl svs av kvs s h
theorem dev_iff {d:Nat}{s:DevS}{R:SP}{g:Gh}{w:World}:sat g w (R*Dev d s)↔WfD s/\∃bl svs av kvs,svs.length=s.ls.length/\ kvs.length=s.arms.length/\ sat g w (R*DevC d bl svs av kvs s):=by
  constructor
  . intro hs;obtain ⟨_,⟨x,y,hd,rfl,ha,hw,bl,svs,av,kvs,h1,h2,h3⟩,hx⟩:=hs.hp;exact ⟨hw,bl,svs,av,kvs,h1,h2,hs.os,hs.tape,hs.out,_,⟨x,y,hd,rfl,ha,h3⟩,hx⟩
  rintro ⟨hw,bl,svs,av,kvs,h1,h2,hs⟩;exact hs.mono λ h ⟨x,y,hd,e,ha,hb⟩=>⟨x,y,hd,e,ha,hw,bl,svs,av,kvs,h1,h2,hb⟩
section
variable {P:Program} {n:Nat} {Q:Post} {ρ:Env} {d:Nat} {s:DevS} {R:SP}
theorem tl_dev {ops:Array Oper}{l:List Oper}(h:WfD s->∀bl svs av kvs,svs.length=s.ls.length->kvs.length=s.arms.length->TL P n ops Q l ρ (R*DevC d bl svs av kvs s)):TL P n ops Q l ρ (R*Dev d s):=λ g a w ha hs=>by
  obtain ⟨hw,bl,svs,av,kvs,h1,h2,hs'⟩:=dev_iff.1 hs;exact h hw bl svs av kvs h1 h2 g a w ha hs'
end
theorem dev_back {d bl:Nat}{s:DevS}{R:SP}{svs kvs:List Value}{av:Value}(hw:WfD s)(h1:svs.length=s.ls.length)(h2:kvs.length=s.arms.length):∀g w,sat g w (R*DevC d bl svs av kvs s)->sat g w (R*Dev d s):=
  λ g w hs=>dev_iff.2 ⟨hw,bl,svs,av,kvs,h1,h2,hs⟩
theorem devC_eq {d bl:Nat}{svs av kvs}{s:DevS}{R:SP}:R*DevC d bl svs av kvs s=R*ArmsR av kvs s.arms*LinesR svs s.ls*pt bl (cl (lcs svs s.ls) 241)*pt d (cl (dcs bl s.ls.length s av) 236):=by
  unfold DevC;ac_rfl
theorem devC_focus {d bl:Nat}{svs kvs:List Value}{av:Value}{s:DevS}(h:svs.length=s.ls.length){i:Nat}(hi:i<s.ls.length):
    ∃R,(∀F,F*DevC d bl svs av kvs s=F*R*pt bl (cl (lcs svs s.ls) 241)*pt d (cl (dcs bl s.ls.length s av) 236)*Sl 8 (svs[i]'oqz) s.ls[i].st.length (stc s.ls[i].st))∧
      ∀F v l,F*R*pt bl (cl (lcs (svs.set i v) (s.ls.set i l)) 241)*pt d (cl (dcs bl s.ls.length s av) 236)*Sl 8 v l.st.length (stc l.st)=F*DevC d bl (svs.set i v) av kvs { s with ls:=s.ls.set i l }:=by
  obtain ⟨R,h1,h2⟩:=linesR_get h hi;refine ⟨R*ArmsR av kvs s.arms,λ F=> ?_,λ F v l=> ?_⟩
  . unfold DevC;rw [h1];ac_rfl
  unfold DevC;simp only [h2,List.length_set];unfold dcs;ac_rfl
theorem sl_have' {k:Nat}{v:Value}{n:Nat}{xs:List Value}{A R:SP}(hA:A=R*Sl k v n xs){g:Gh}{w:World}(hs:sat g w A):
    ∃a cap,v= .slice a n cap/\ n<=cap/\ xs.length=n*k/\ Rd A a xs:=by subst hA;exact sl_have hs
theorem slR_have {k:Nat}{v:Value}{n:Nat}{xs:List Value}{A:SP}{R:SP}(hA:A=R*SlR k v n xs){g:Gh}{w:World}(hs:sat g w A):
    ∃a cap,v= .slice a n cap/\ n<=cap/\ xs.length=n*k/\ Rd A a xs:=by
  have key:∀{g:Gh} {w:World},sat g w A->xs.length=n*k/\ ((v= .slice none 0 0/\ n=0)∨∃b off cap l E,v= .slice (some ⟨b,off,none⟩) n cap/\ n<=cap/\ off+cap*k<=l.length/\ (l.drop off).take (n*k)=xs/\ sat g w (R*ro b (cl l E))):=by
    intro g w hs;rw [hA] at hs
    obtain ⟨_,⟨x,y,hd,rfl,ha,hl,hb⟩,hx⟩:=hs.hp;refine ⟨hl, ?_⟩
    rcases hb with ⟨e1,e2,e3⟩|⟨b,off,cap,l,E,e1,e2,e3,e4,e5⟩
    . exact .inl ⟨e1,e2⟩
    exact .inr ⟨b,off,cap,l,E,e1,e2,e3,e4,hs.os,hs.tape,hs.out,_,⟨x,y,hd,rfl,ha,e5⟩,hx⟩
  obtain ⟨hl,⟨e1,e2⟩|⟨b,off,cap,l,E,e1,e2,_⟩⟩:=key hs
  . refine ⟨none,0,by rw [e1,e2],by omega,hl,.inl ?_⟩;rw [e2] at hl;simpa using hl
  refine ⟨_,_,e1,e2,hl,rd_cells λ i u hu g' w' hs'=> ?_⟩;obtain ⟨hl',⟨e1',_⟩|⟨b',off',cap',l',E',e1',_,_,e4',hs''⟩⟩:=key hs'
  . rw [e1] at e1';cases e1'
  rw [e1] at e1'
  simp only [Value.slice.injEq,Option.some.injEq,Addr.mk.injEq] at e1'
  obtain ⟨⟨rfl,rfl,_⟩,_,rfl⟩:=e1';exact cells_of_has has_hereR e4' i u hu g' w' hs''
def kOf (keep:List Int)(i n:Nat):Nat:=if h:i<keep.length then (keep[i]%(n:Int)).toNat else 0
def goL (keep:List Int)(i:Nat)(l:LineS):LineS:=⟨[l.st.getD (kOf keep i l.st.length) []],-1⟩
def goPart (keep:List Int)(i:Nat)(ls:List LineS):List LineS:=ls.mapIdx λ j l=>if j<i then goL keep j l else l
def goesS (keep:List Int)(s:DevS):DevS:={ s with ls:=goPart keep s.ls.length s.ls,off:=true }
theorem devC_d {F:SP}{d bl:Nat}{svs kvs:List Value}{av:Value}{s:DevS}:Has (F*DevC d bl svs av kvs s) d (cl (dcs bl s.ls.length s av) 236):=by
  rw [devC_eq];exact has_here
theorem devC_bl {F:SP}{d bl:Nat}{svs kvs:List Value}{av:Value}{s:DevS}:Has (F*DevC d bl svs av kvs s) bl (cl (lcs svs s.ls) 241):=by
  rw [devC_eq];exact has_left has_here
theorem dev_cells {F:SP}{d bl:Nat}{svs kvs:List Value}{av:Value}{s:DevS}:Cells (F*DevC d bl svs av kvs s) d 0 (dcs bl s.ls.length s av):=cells_of_has (k:=5) devC_d rfl
theorem Zcu {p r:Prop}(k:r)(h:Kq r->p:=by intro k;refine tv (o_nilCheck rfl) ?_;refine tv (o_fieldAddr (o:=0) underlying236 rfl rfl sz234 rfl) ?_;exact k.o):p:=h ⟨k⟩
theorem Zbt {p r:Prop}(k:r)(h:Kq r->p:=by intro k;refine tv (by first|exact o_pick_t rfl rfl|exact o_pick_f rfl rfl|exact o_pick rfl rfl) ?_;refine Zo ?_;exact k.o):p:=h ⟨k⟩
theorem none_f (A:SP)(d bl n:Nat)(s:DevS)(av:Value)(hd:Cells A d 0 (dcs bl n s av))(hn:0<n)(hn2:n<=65536):
    Fn Tryz.prog 154 #[pz d] A (λ r B=>r= .bool false/\ A=B):=by
  refine fn_enter func154 rfl ntmps154 (by simp) ?_;refine Zcm ?_;refine Zt ?_;refine tv (o_eqp underlying44 rfl rfl) ?_;refine tv (o_move rfl) ?_;refine tl_bool (d:=5) rfl dbq (sbq ?_);intro h;refine tv (o_move rfl) ?_;refine Zcu ?_;refine tv (o_loadC p234 rfl (hd 0 _ rfl)) ?_;refine tv (o_len underlying234 rfl) ?_;refine tv (o_eqi rfl rfl) ?_;refine Zbt ?_;refine tc_ret ?_;exact ⟨.bool (decide ((n:Int)=0)),res1 rfl rfl,by congr 1;simp;omega,rfl⟩
theorem Size_f (A:SP)(d bl n:Nat)(s:DevS)(av:Value)(hd:Cells A d 0 (dcs bl n s av))(hn:0<n)(hn2:n<=65536):
    Fn Tryz.prog 155 #[pz d] A (λ r B=>r= .int .i64 ((n:Int)*64)/\ A=B):=by
  refine fn_enter func155 rfl ntmps155 (by simp) ?_;refine Zcm ?_;refine Zc5 ?_;refine tl_c rfl (o_call bd154 rfl (none_f _ d bl n s av hd hn hn2)) ?_;rintro _ _ ⟨rfl,rfl⟩;refine Zn ?_;intro h;refine Ze ?_;refine Zt ?_;refine Zcu ?_;refine tv (o_loadC p234 rfl (hd 0 _ rfl)) ?_;refine tv (o_len underlying234 rfl) ?_;refine tv (by first|exact o_mulI rfl rfl oqz|exact o_mul rfl rfl) ?_;refine Zfd ?_;exact ⟨.int .i64 ((n:Int)*64),res1 rfl rfl,rfl,rfl⟩
theorem Zb7 {p r:Prop}(k:r)(h:Kq r->p:=by intro k;rintro _ _ ⟨rfl,rfl⟩;refine tv (o_not rfl) ?_;exact k.o):p:=h ⟨k⟩
theorem Off_f (A:SP)(d bl n:Nat)(s:DevS)(av:Value)(hd:Cells A d 0 (dcs bl n s av))(hn:0<n)(hn2:n<=65536):
    Fn Tryz.prog 262 #[pz d] A (λ r B=>r= .bool s.off/\ A=B):=by
  refine fn_enter func262 rfl ntmps262 (by simp) ?_;refine Zcm ?_;refine Zt ?_;refine tl_c rfl (o_call bd154 rfl (none_f _ d bl n s av hd hn hn2)) ?_;refine Zb7 ?_;refine tv (o_move rfl) ?_;refine tl_bool (d:=6) rfl (sbq ?_) dbq;intro h;refine tv (o_move rfl) ?_;refine tv (o_nilCheck rfl) ?_;refine tv (o_fieldAddr (o:=4) underlying236 rfl rfl sz4 rfl) ?_;refine tv (o_loadC p4 rfl (hd 4 _ rfl)) ?_;refine Zbt ?_;refine tc_ret ?_;exact ⟨.bool s.off,res1 rfl rfl,rfl,rfl⟩
def rdy (n:Nat)(off:Bool)(p m:Int):Int:=if off then 5 else if p<0∨m<0∨(n:Int)*64<p∨(n:Int)*64-p<m then 6 else 0
theorem Zgu {p r:Prop}(k:r)(h:Kq r->p:=by intro k;refine Zf1 ?_;refine q_block_r (q_then_r ?_);exact k.o):p:=h ⟨k⟩
theorem Zp {p r:Prop}(k:r)(h:Kq r->p:=by intro k;refine tk ?_;refine tk ?_;exact k.o):p:=h ⟨k⟩
theorem Zb3 {p r:Prop}(k:r)(h:Kq r->p:=by intro k;refine tv (by first|exact o_pick_t rfl rfl|exact o_pick_f rfl rfl|exact o_pick rfl rfl) ?_;refine tv (o_move rfl) ?_;exact k.o):p:=h ⟨k⟩
theorem Zbk {p r:Prop}(k:r)(h:Kq r->p:=by intro k;refine Zp ?_;refine Zp ?_;exact k.o):p:=h ⟨k⟩
theorem Zgi {p r:Prop}(k:r)(h:Kq r->p:=by intro k;refine Zbk ?_;refine Zp ?_;exact k.o):p:=h ⟨k⟩
theorem Zf8 {p r:Prop}(k:r)(h:Kq r->p:=by intro k;refine tc_skip ?_;refine q_block_n (q_then_n ?_);exact k.o):p:=h ⟨k⟩
theorem ready_f (A:SP)(d bl n:Nat)(s:DevS)(av:Value)(hd:Cells A d 0 (dcs bl n s av))(hn:0<n)(hn2:n<=65536)(p m:Int)(hp: -9223372036854775808<=p/\ p<=9223372036854775807)(hm: -9223372036854775808<=m/\ m<=9223372036854775807):
    Fn Tryz.prog 193 #[pz d,.int .i64 p,.int .i64 m] A (λ r B=>r= .int .i64 (rdy n s.off p m)/\ A=B):=by
  refine fn_enter func193 rfl ntmps193 (by simp) ?_;refine Zcm ?_;refine Zx ?_;refine Zt ?_;refine tl_c rfl (o_call bd154 rfl (none_f _ d bl n s av hd hn hn2)) ?_;rintro _ _ ⟨rfl,rfl⟩;refine tv (o_assign rfl) ?_;refine Zn ?_;intro h;refine Zt ?_;refine tv (o_nilCheck rfl) ?_;refine tv (o_fieldAddr (o:=4) underlying236 rfl rfl sz4 rfl) ?_;refine tv (o_loadC p4 rfl (hd 4 _ rfl)) ?_;refine Zo ?_;refine tc_cond rfl (sbq ?_) (sbq ?_)
  . intro h;refine Zgu ?_;exact ⟨.int .i64 5,res1 rfl rfl,by simp [rdy,h],rfl⟩
  intro h;refine Zt ?_;refine Zg1 ?_;refine tl_bool (d:=18) rfl (sbq ?_) (sbq ?_)
  . intro h;refine Zp ?_;refine Zb3 ?_;refine Zbk ?_;refine Zb3 ?_;refine Zgi ?_;refine Zbt ?_;refine tc_cond_t rfl ?_;refine Zgu ?_
    first
      |exact ⟨.int .i64 6,res1 rfl rfl,by unfold rdy;rw [if_neg (by simp [*]),if_pos oqz],rfl⟩
      |exact ⟨.int .i64 0,res1 rfl rfl,by unfold rdy;rw [if_neg (by simp [*]),if_neg oqz],rfl⟩
  intro h;refine tv (o_move rfl) ?_;refine tv (o_lss rfl rfl) ?_;refine Zb3 ?_;refine tl_bool (d:=22) rfl (sbq ?_) (sbq ?_)
  . intro h;refine Zbk ?_;refine Zb3 ?_;refine Zgi ?_;refine Zbt ?_;refine tc_cond_t rfl ?_;refine Zgu ?_
    first
      |exact ⟨.int .i64 6,res1 rfl rfl,by unfold rdy;rw [if_neg (by simp [*]),if_pos oqz],rfl⟩
      |exact ⟨.int .i64 0,res1 rfl rfl,by unfold rdy;rw [if_neg (by simp [*]),if_neg oqz],rfl⟩
  intro h;refine Zb6 ?_;refine tl_c rfl (o_call bd155 rfl (Size_f _ d bl n s av hd hn hn2)) ?_;rintro _ _ ⟨rfl,rfl⟩;refine tv (o_gtr rfl rfl) ?_;refine Zb3 ?_;refine tl_bool (d:=28) rfl (sbq ?_) (sbq ?_)
  . intro h;refine Zgi ?_;refine Zbt ?_;refine tc_cond_t rfl ?_;refine Zgu ?_
    first
      |exact ⟨.int .i64 6,res1 rfl rfl,by unfold rdy;rw [if_neg (by simp [*]),if_pos oqz],rfl⟩
      |exact ⟨.int .i64 0,res1 rfl rfl,by unfold rdy;rw [if_neg (by simp [*]),if_neg oqz],rfl⟩
  intro h;refine Zb6 ?_;refine tl_c rfl (o_call bd155 rfl (Size_f _ d bl n s av hd hn hn2)) ?_;rintro _ _ ⟨rfl,rfl⟩;refine Zck ?_;refine tv (o_gtr rfl rfl) ?_;refine Zbt ?_;refine tc_cond rfl (sbq ?_) (sbq ?_)
  . intro h;refine Zgu ?_
    first
      |exact ⟨.int .i64 6,res1 rfl rfl,by unfold rdy;rw [if_neg (by simp [*]),if_pos oqz],rfl⟩
      |exact ⟨.int .i64 0,res1 rfl rfl,by unfold rdy;rw [if_neg (by simp [*]),if_neg oqz],rfl⟩
  intro h;refine Zf8 ?_;refine Zf1 ?_
  first
    |exact ⟨.int .i64 6,res1 rfl rfl,by unfold rdy;rw [if_neg (by simp [*]),if_pos oqz],rfl⟩
    |exact ⟨.int .i64 0,res1 rfl rfl,by unfold rdy;rw [if_neg (by simp [*]),if_neg oqz],rfl⟩
theorem Zhq {p r:Prop}(k:r)(h:Kq r->p:=by intro k;refine nq ?_;refine tc_seq ?_;exact k.o):p:=h ⟨k⟩
theorem seen_f (A:SP)(bl off c:Nat)(a:Option Addr)(st:List (List Nat))(hc:Cell A bl off (.slice a st.length c))(hr:Rd A a (stc st))(he:Eight st)(hne:0<st.length)(hs:st.length<=2199023255552):
    Fn Tryz.prog 156 #[.pointer (some ⟨bl,off,none⟩)] A (λ r B=>r= .agg (wds (st[st.length-1]'oqz)).toArray/\ A=B):=by
  obtain ⟨b,o,rfl,hcs⟩:=hr.some (by rw [stc_length he];omega);have e1:((st.length:Int)-1).toNat=st.length-1:=(by omega);have hlast0:=hcs.sub ((st.length-1)*8) 8 (stc_at he (show st.length-1<st.length by omega));have hlast:Cells A b (o+((st.length:Int)-1).toNat*8) (wds (st[st.length-1]'oqz)):=(by rw [e1];exact hlast0);have hl8:(wds (st[st.length-1]'oqz)).length=8:=(by rw [wds_length];exact he _ (List.getElem_mem _));refine fn_enterW func156 rfl ntmps156 (by simp) ?_;refine sr ?_;refine tl_x rfl (o_alloc z238 rfl) ?_;rintro _ _ ⟨b2,rfl,rfl⟩;refine Zhq ?_;refine tc_rega mo ?_
  show TA _ _ _ _ 13 (Array.replicate 13 false) _ _
  refine ta_pure (i:=0) (listed':= #[tt,ff,ff,ff,ff,ff,ff,ff,ff,ff,ff,ff,ff]) rfl kqz kqz kqz rfl rfl (o_move rfl) ?_;refine ta_pure (i:=1) (listed':= #[tt,tt,ff,ff,ff,ff,ff,ff,ff,ff,ff,ff,ff]) rfl kqz kqz kqz rfl rfl (o_nilCheck rfl) ?_;refine ta_pure (i:=2) (listed':= #[tt,tt,tt,ff,ff,ff,ff,ff,ff,ff,ff,ff,ff]) rfl kqz kqz kqz rfl rfl (o_fieldAddr (o:=0) underlying241 rfl rfl sz239 rfl) ?_;refine ta_pure (i:=4) (listed':= #[tt,tt,tt,ff,tt,ff,ff,ff,ff,ff,ff,ff,ff]) rfl kqz kqz kqz rfl rfl (o_move rfl) ?_;refine ta_pure (i:=5) (listed':= #[tt,tt,tt,ff,tt,tt,ff,ff,ff,ff,ff,ff,ff]) rfl kqz kqz kqz rfl rfl (o_nilCheck rfl) ?_;refine ta_pure (i:=6) (listed':= #[tt,tt,tt,ff,tt,tt,tt,ff,ff,ff,ff,ff,ff]) rfl kqz kqz kqz rfl rfl (o_fieldAddr (o:=0) underlying241 rfl rfl sz239 rfl) ?_;refine ta_two (i:=3) (j:=7) kqz ?_ ?_
  . skip
    refine oa_v (i:=3) (listed':= #[tt,tt,tt,tt,tt,tt,tt,ff,ff,ff,ff,ff,ff]) rfl rfl rfl (o_loadC p239 rfl hc.left) ?_;refine ta_one (i:=7) kqz ?_;refine oa_v (i:=7) (listed':= #[tt,tt,tt,tt,tt,tt,tt,tt,ff,ff,ff,ff,ff]) rfl rfl rfl (o_loadC p239 rfl hc.left) ?_;refine ta_pure (i:=8) (listed':= #[tt,tt,tt,tt,tt,tt,tt,tt,tt,ff,ff,ff,ff]) rfl kqz kqz kqz rfl rfl (o_len underlying239 rfl) ?_;refine ta_pure (i:=9) (listed':= #[tt,tt,tt,tt,tt,tt,tt,tt,tt,tt,ff,ff,ff]) rfl kqz kqz kqz rfl rfl (by first|exact o_subI rfl rfl oqz|exact o_sub rfl rfl) ?_;refine ta_pure (i:=10) (listed':= #[tt,tt,tt,tt,tt,tt,tt,tt,tt,tt,tt,ff,ff]) rfl kqz kqz kqz rfl rfl (o_indexAddr underlying239 sz238 rfl rfl oqz oqz) ?_;refine ta_one (i:=11) kqz ?_;refine oa_v (i:=11) (listed':= #[tt,tt,tt,tt,tt,tt,tt,tt,tt,tt,tt,tt,ff]) rfl rfl rfl (o_loadNC a238 sz238 rfl hl8 hlast.left) ?_;refine ta_one (i:=12) kqz ?_;refine oa_u (i:=12) (listed':=(Array.replicate 13 true)) rfl rfl rfl (o_storeN (l':=wds (st[st.length-1]'oqz)) sz238 rfl rfl hl8 (wds_all _) (by simp) (splice_all (by rw [hl8];rfl)) upd_here) ?_;refine ta_done kqz ?_;refine q_then_n ?_;refine tc_ret ?_;exact ⟨_,_,resA1 rfl (rv_cell a238 sz238 rfl has_here oqz (List.take_of_length_le (by rw [List.drop_zero];omega))),λ _ _ h=>h.left,rfl,rfl⟩
  . skip
    refine oa_v (i:=7) (listed':= #[tt,tt,tt,ff,tt,tt,tt,tt,ff,ff,ff,ff,ff]) rfl rfl rfl (o_loadC p239 rfl hc.left) ?_;refine ta_pure (i:=8) (listed':= #[tt,tt,tt,ff,tt,tt,tt,tt,tt,ff,ff,ff,ff]) rfl kqz kqz kqz rfl rfl (o_len underlying239 rfl) ?_;refine ta_pure (i:=9) (listed':= #[tt,tt,tt,ff,tt,tt,tt,tt,tt,tt,ff,ff,ff]) rfl kqz kqz kqz rfl rfl (by first|exact o_subI rfl rfl oqz|exact o_sub rfl rfl) ?_;refine ta_one (i:=3) kqz ?_;refine oa_v (i:=3) (listed':= #[tt,tt,tt,tt,tt,tt,tt,tt,tt,tt,ff,ff,ff]) rfl rfl rfl (o_loadC p239 rfl hc.left) ?_;refine ta_pure (i:=10) (listed':= #[tt,tt,tt,tt,tt,tt,tt,tt,tt,tt,tt,ff,ff]) rfl kqz kqz kqz rfl rfl (o_indexAddr underlying239 sz238 rfl rfl oqz oqz) ?_;refine ta_one (i:=11) kqz ?_;refine oa_v (i:=11) (listed':= #[tt,tt,tt,tt,tt,tt,tt,tt,tt,tt,tt,tt,ff]) rfl rfl rfl (o_loadNC a238 sz238 rfl hl8 hlast.left) ?_;refine ta_one (i:=12) kqz ?_;refine oa_u (i:=12) (listed':=(Array.replicate 13 true)) rfl rfl rfl (o_storeN (l':=wds (st[st.length-1]'oqz)) sz238 rfl rfl hl8 (wds_all _) (by simp) (splice_all (by rw [hl8];rfl)) upd_here) ?_;refine ta_done kqz ?_;refine q_then_n ?_;refine tc_ret ?_;exact ⟨_,_,resA1 rfl (rv_cell a238 sz238 rfl has_here oqz (List.take_of_length_le (by rw [List.drop_zero];omega))),λ _ _ h=>h.left,rfl,rfl⟩
def lowB (l:List Int):Bool:=l.any λ x=>decide (x<0)
theorem getD_at {l:List (List Nat)}{k:Nat}(h:k<l.length):l.getD k []=l[k]:=by simp [List.getD,h]
theorem sat.newline {k b E}{X O:SP}{l:List Value}{g:Gh}{w:World}(h:sat g w (X*O*pt b (cl l E)))(hl:l.length=k):sat g w (X*Sl k (.slice (some ⟨b,0,none⟩) 1 1) 1 l):=
  sl_new (k:=k) h.drop2 (Nat.le_refl _) oqz (List.take_of_length_le oqz)
theorem sat.perm {g:Gh}{w:World}{A B:SP}(h:sat g w A)(e:A=B):sat g w B:=e▸h
def wr64 (x:Int):Int:=IntKind.i64.wrap x
def doneS (s:DevS):DevS:=match s.arms with
  |[]=>{ s with ops:=wr64 (s.ops+1) }
  |a::ar=>if wr64 (s.cnt+1)<a.1 then { s with ops:=wr64 (s.ops+1),cnt:=wr64 (s.cnt+1) }
    else goesS a.2 { s with ops:=wr64 (s.ops+1),arms:=ar,cnt:=0 }
def doneE (s:DevS):Int:=match s.arms with
  |[]=>0
  |a::_=>if wr64 (s.cnt+1)<a.1 then 0 else 5
def lb (s:List Nat):List Nat:=s.flatMap (le 8)
theorem lb_length (s:List Nat):(lb s).length=s.length*8:=by
  induction s with
  |nil=>rfl
  |cons x s ih=>simp only [lb,List.flatMap_cons,List.length_append,le_length,List.length_cons] at*;omega
theorem lb_append (a b:List Nat):lb (a++b)=lb a++lb b:=by simp [lb]
theorem lb_take {s:List Nat}{i:Nat}(h:i<s.length):lb (s.take (i+1))=lb (s.take i)++le 8 s[i]:=by
  rw [List.take_succ_eq_append_getElem h,lb_append];simp [lb]
theorem lb_zero:lb (List.replicate 8 0)=List.replicate 64 0:=by decide
theorem wds_eq (s:List Nat):wds s=(s.map λ n:Nat=>(n:Int)).map (Value.int .u64):=by rw [wds,List.map_map];rfl
theorem map_inj {s t:List Nat}:(s.map λ n:Nat=>(n:Int))=(t.map λ n:Nat=>(n:Int))↔s=t:=by
  constructor
  . intro h;exact (List.map_inj_right (λ x y h=>by omega)).1 h
  rintro rfl;rfl
section
variable {P:Program} {n:Nat} {ρ:Env} {dst:Option Nat} {ty:TypeId} {pos:String} {after:Array Edge} {gd:Option (Nat×Bool)} {A:SP}
theorem o_eqarrW {t t' e:TypeId}{x y:Operand}{len:Nat}{xs ys:List Nat}(hu:P.underlying t=some (.array len e))(hk:szE P e=some 1)(he:P.underlying e=some (.int .u64))(hp:plainE P e=true)
    (hge:P.eqGuardType P.depth t=false) (hx:ev n ρ x= .agg (wds xs).toArray) (hy:ev n ρ y= .agg (wds ys).toArray) (h1:xs.length=len) (h2:ys.length=len):
    OpV P n ρ A ⟨dst,.binOp .eql t x y t',ty,pos,after,gd⟩ (.bool (decide (xs=ys))):=by
  have:=o_eqarr (A:=A) (dst:=dst) (ty:=ty) (pos:=pos) (after:=after) (gd:=gd) (t':=t') hu hk he hp hge (by rw [hx,wds_eq]) (by rw [hy,wds_eq]) (by rw [List.length_map,h1]) (by rw [List.length_map,h2])
  rwa [show decide ((xs.map λ n:Nat=>(n:Int))=(ys.map λ n:Nat=>(n:Int)))=decide (xs=ys) from by simp only [map_inj]] at this
end
theorem cells_all {A:SP}{b k:Nat}{l:List Value}{E:TypeId}(h:Has A b (cl l E))(hk:l.length=k):Cells A b 0 l:=cells_of_has (k:=k) h (List.take_of_length_le (by rw [List.drop_zero];omega))
theorem Zfg {p r:Prop}(k:r)(h:Kq r->p:=by intro k;refine sr ?_;refine tl_x rfl (o_box rfl rfl) ?_;exact k.o):p:=h ⟨k⟩
theorem Zd5 {p r:Prop}(k:r)(h:Kq r->p:=by intro k;refine Zbp ?_;refine sr ?_;exact k.o):p:=h ⟨k⟩
theorem bytes_f (A:SP)(s:List Nat)(hs8:s.length=8)(hw:∀x∈s,x<18446744073709551616):
    Fn Tryz.prog 157 #[.agg (wds s).toArray] A (λ r B=>∃u,r=u/\ B=A*Sl 1 u 64 (bys (lb s))):=by
  refine fn_enterW func157 rfl ntmps157 (by simp) ?_;have hwl:(wds s).length=8:=(by rw [wds_length];exact hs8);refine Zfg ?_;rintro _ _ ⟨b1,rfl,rfl⟩;refine Zo ?_;refine Zfc ?_;refine tv (o_loadNC a238 sz238 rfl hwl (cells_all (by repeat (first|exact has_here|exact has_pt|apply has_left)) hwl)) ?_;refine tv (o_buildA (vs:=[]) underlying238 sz141 z238 rfl rfl rfl (Nat.zero_le _) rfl) ?_;refine tv (o_eqarrW (xs:=s) (ys:=List.replicate 8 0) underlying238 sz141 underlying141 p141 kqz rfl rfl hs8 rfl) ?_;refine nq ?_;refine tc_cond rfl (sbq ?_) (sbq ?_)
  . intro h;refine sr ?_;refine tl_x rfl (o_makeSliceI underlying67 sz5 by5 z5 rfl rfl rfl oqz oqz) ?_;rintro _ _ ⟨b9,rfl,rfl⟩;refine Zfd ?_;refine q_then_r ?_;exact ⟨_,_,res1 rfl rfl,λ _ _ hh=>(sl_new (k:=1) (n:=64) (cap:=64) hh oqz (by simp) (List.take_of_length_le (by simp))).drop2,_,rfl,by rw [h,lb_zero];rfl⟩
  intro h;refine Ze ?_;refine Zcm ?_;refine Zfc ?_;refine tv (o_loadNC a238 sz238 rfl hwl (cells_all (by repeat (first|exact has_here|exact has_pt|apply has_left)) hwl)) ?_;refine tl_pre (λ _ _ h=>sl_nil (k:=1) h) ?_;refine Zel ?_;refine tc_block ?_;refine tc_loop (λ k ρ B=>∃ (i:Nat) (v:Value),i<=8/\ k=8-i/\ ρ 3=v/\ ρ 10= .agg (wds s).toArray/\ ρ 11= .int .i64 i/\ B=A*pt b1 (cl (wds s) 238)*Sl 1 v (lb (s.take i)).length (bys (lb (s.take i)))) (m:=8) ?_ ?_
  . exact ⟨0,.slice none 0 0,by omega,rfl,rfl,rfl,rfl,rfl⟩
  intro k ρ B hI;obtain ⟨i,v,hi,rfl,h3,h10,h11,rfl⟩:=hI;refine tc_env (d:=3) h3 ?_;refine tc_env (d:=10) h10 ?_;refine tc_env (d:=11) h11 ?_;refine Zcg ?_;refine tc_cond rfl (sbq ?_) (sbq ?_)
  . intro h;refine Zd5 ?_;refine tv (o_index1 (cs:=wds s) underlying238 sz141 p141 rfl rfl oqz oqz (wds_at oqz)) ?_;refine Zg0 ?_;refine Zb6 ?_;refine tl_have (λ _ _ h=>sl_have h) λ ⟨a,c,hv,_,_,hrd⟩=> ?_
    subst hv;have hi8:i<s.length:=(by omega);refine tl_c rfl (o_call bd73 rfl (Put64_f _ a c (lb (s.take i)) s[i] hrd (hw _ (List.getElem_mem _)) (by rw [lb_length,List.length_take];omega))) ?_;rintro u16 _ ⟨_,rfl,rfl⟩;refine tl_pre (λ _ _ h=>h.drop2) ?_;refine Zfu ?_;refine tv adqz ?_;refine Zel ?_;exact ⟨_,by omega,i+1,u16,by omega,rfl,rfl,rfl,rfl,by rw [lb_take oqz,List.length_append,le_length]⟩
  intro h;refine Ze5 ?_;refine Zfd ?_;obtain rfl:i=8:=by omega
  have e:s.take 8=s:=List.take_of_length_le oqz;rw [e,lb_length,hs8]
  exact ⟨v,_,res1 rfl rfl,λ _ _ h=>h.drop2,v,rfl,rfl⟩
section
variable {P:Program} {n:Nat} {ρ:Env} {A:SP} {dst:Option Tmp} {ty:TypeId} {pos:String} {after:Array Edge} {gd:Option (Nat×Bool)}
theorem o_quoN {t t':TypeId}{x y:Operand}{a b:Nat}(hx:ev n ρ x= .int .i64 (a:Int))(hy:ev n ρ y= .int .i64 (b:Int))(h:0<b/\ a<=9223372036854775807):
    OpV P n ρ A ⟨dst,.binOp .quo t x y t',ty,pos,after,gd⟩ ((vn (a/b))):=o_quoI hx hy oqz
theorem o_remN {t t':TypeId}{x y:Operand}{k:IntKind}{a b:Nat}(hx:ev n ρ x= .int k (a:Int))(hy:ev n ρ y= .int k (b:Int))(h:0<b):
    OpV P n ρ A ⟨dst,.binOp .rem t x y t',ty,pos,after,gd⟩ (.int k ((a%b:Nat):Int)):=o_remI hx hy oqz
end
def seenL (l:LineS):List Nat:=l.st.getD (l.st.length-1) []
def layL (k v:Nat)(l:LineS):LineS:={ l with st:=l.st++[(seenL l).set k v] }
def onLine (f:LineS->LineS)(i:Nat)(s:DevS):DevS:=match s.ls[i]? with
  |some l=>{ s with ls:=s.ls.set i (f l) }
  |none=>s
def layS (at_ v:Nat)(s:DevS):DevS:=onLine (layL (at_%64/8) v) (at_/64) s
def Room (k:Nat)(s:DevS):Prop:=∀l∈s.ls,l.st.length+k<=2199023255552
theorem seenL_eq {l:LineS}(h:0<l.st.length):seenL l=l.st[l.st.length-1]:=by unfold seenL;rw [getD_at oqz]
theorem seenL_mem {l:LineS}(h:WfL l):seenL l∈l.st:=by
  have:=List.length_pos_iff.2 h.ne;rw [seenL_eq this];exact List.getElem_mem _
theorem SP.drop_mid {g:Gh}{w:World}{X Y Z:SP}(h:sat g w (X*Y*Z)):sat g w (X*Z):=h.drop2
def st8 (p:Int)(v:Nat)(s:DevS):Int×DevS:=
  if rdy s.ls.length s.off p 8≠0 then (rdy s.ls.length s.off p 8,s) else if p%8≠0 then (6,s) else (doneE (layS p.toNat v s),doneS (layS p.toNat v s))
theorem rdy0 {n:Nat}{off:Bool}{p m:Int}(h:rdy n off p m=0):off=false/\ 0<=p/\ 0<=m/\ p+m<=(n:Int)*64:=by
  unfold rdy at h
  split at h
  . exact absurd h oqz
  rename_i ho
  split at h
  . exact absurd h oqz
  exact ⟨by simpa using ho,by omega,by omega,by omega⟩
theorem cut_lt {b o c l k:Nat}(h:l<c):cutAddr (some ⟨b,o,none⟩) c l k=some ⟨b,o+l*k,none⟩:=by
  unfold cutAddr;rw [if_neg oqz];simp [addr_add]
def flushL (l:LineS):LineS:={ l with mark:=(l.st.length:Int)-1 }
def flushS (p:Nat)(s:DevS):DevS:=onLine flushL (p/64) s
def fl1 (p:Int)(s:DevS):Int×DevS:=
  if rdy s.ls.length s.off p 1≠0 then (rdy s.ls.length s.off p 1,s) else (doneE (flushS p.toNat s),doneS (flushS p.toNat s))
def mp (f:LineS->LineS)(i:Nat)(ls:List LineS):List LineS:=ls.mapIdx λ j l=>if j<i then f l else l
theorem mp_length (f i ls):(mp f i ls).length=ls.length:=by simp [mp]
theorem mp_zero (f)(ls:List LineS):mp f 0 ls=ls:=by
  apply List.ext_getElem?
  intro j;simp [mp,List.getElem?_mapIdx]
theorem mp_set (f){i:Nat}{ls:List LineS}(hi:i<ls.length):(mp f i ls).set i (f ls[i])=mp f (i+1) ls:=by
  apply List.ext_getElem?
  intro j
  by_cases hj:j=i
  . subst hj;rw [List.getElem?_set_self (by rw [mp_length];exact hi)]
    simp [mp,List.getElem?_mapIdx,hi]
  rw [List.getElem?_set_ne (Ne.symm hj)]
  simp only [mp,List.getElem?_mapIdx]
  by_cases hlt:j<i
  . simp [hlt,show j<i+1 by omega]
  simp [hlt,show¬j<i+1 by omega]
theorem mp_map (f)(ls:List LineS):mp f ls.length ls=ls.map f:=by
  apply List.ext_getElem?
  intro j
  simp only [mp,List.getElem?_mapIdx,List.getElem?_map]
  rcases Nat.lt_or_ge j ls.length with h|h
  . simp [h]
  simp [h]
def fenceL (l:LineS):LineS:=if 0<=l.mark then ⟨l.st.drop l.mark.toNat,-1⟩ else l
def fenceS (s:DevS):DevS:={ s with ls:=s.ls.map fenceL }
def fe (s:DevS):Int×DevS:=if s.off then (5,s) else (doneE (fenceS s),doneS (fenceS s))
structure DevR (A:SP) (d bl:Nat) (svs:List Value) (av:Value) (s:DevS):Prop where
  d:Cells A d 0 (dcs bl s.ls.length s av)
  b:Cells A bl 0 (lcs svs s.ls)
  len:svs.length=s.ls.length
  st:∀i (h:i<s.ls.length),∃a c,svs[i]? =some (.slice a s.ls[i].st.length c)/\ s.ls[i].st.length<=c/\ Rd A a (stc s.ls[i].st)
  wf:WfD s
theorem DevR.left {A X:SP}{d bl:Nat}{svs:List Value}{av:Value}{s:DevS}(h:DevR A d bl svs av s):DevR (A*X) d bl svs av s:=
  ⟨h.d.left,h.b.left,h.len,λ i hi=>by obtain ⟨a,c,h1,h2,h3⟩:=h.st i hi;exact ⟨a,c,h1,h2,h3.left⟩,h.wf⟩
theorem devR_of {F:SP}{d bl:Nat}{svs kvs:List Value}{av:Value}{s:DevS}(hw:WfD s)(hsv:svs.length=s.ls.length){g:Gh}{w:World}(hs:sat g w (F*DevC d bl svs av kvs s)):DevR (F*DevC d bl svs av kvs s) d bl svs av s:=
  ⟨dev_cells,cells_all devC_bl (lcs_length hsv),hsv,λ i hi=>by
    obtain ⟨R,hf1,_⟩:=devC_focus (d:=d) (bl:=bl) (kvs:=kvs) (av:=av) (s:=s) hsv hi;obtain ⟨a,c,h1,h2,_,h3⟩:=sl_have' (hf1 F) hs
    exact ⟨a,c,by rw [List.getElem?_eq_getElem oqz,h1],h2,h3⟩,hw⟩
theorem fn_devR {P:Program}{f:FuncId}{args:Array Value}{F:SP}{d:Nat}{s:DevS}{Q:Value->SP->Prop}
    (h:WfD s->∀A bl svs av,DevR A d bl svs av s->Fn P f args A λ r B=>∃X,B=A*X/\ Q r X):
    Fn P f args (F*Dev d s) λ r B=>∃X,B=F*Dev d s*X/\ Q r X:=λ g w hs=>by
  obtain ⟨hw,bl,svs,av,kvs,h1,h2,hs'⟩:=dev_iff.1 hs;refine (h hw _ bl svs av (devR_of hw h1 hs') g w hs').mono ?_;rintro e w' ⟨v,B,e1,⟨X,rfl,hq⟩,hB⟩;refine ⟨v,F*Dev d s*X,e1,⟨X,rfl,hq⟩, ?_⟩;rw [star_swap] at hB ⊢
  exact dev_back hw h1 h2 _ _ hB
theorem fn_devR0 {P:Program}{f:FuncId}{args:Array Value}{F:SP}{d:Nat}{s:DevS}{q:Value->Prop}
    (h:WfD s->∀A bl svs av,DevR A d bl svs av s->Fn P f args A λ r B=>q r/\ A=B):
    Fn P f args (F*Dev d s) λ r B=>q r/\ F*Dev d s=B:=λ g w hs=>by
  obtain ⟨hw,bl,svs,av,kvs,h1,h2,hs'⟩:=dev_iff.1 hs;refine (h hw _ bl svs av (devR_of hw h1 hs') g w hs').mono ?_;rintro e w' ⟨v,B,e1,⟨hq,rfl⟩,hB⟩;exact ⟨v,F*Dev d s,e1,⟨hq,rfl⟩,dev_back hw h1 h2 _ _ hB⟩
theorem seenR_f {A:SP}{d bl:Nat}{svs:List Value}{av:Value}{s:DevS}(h:DevR A d bl svs av s){i:Nat}(hi:i<s.ls.length):
    Fn Tryz.prog 156 #[.pointer (some ⟨bl,0+i*2,none⟩)] A (λ r B=>r= .agg (wds (seenL s.ls[i])).toArray/\ A=B):=by
  obtain ⟨a,c,h1,h2,h3⟩:=h.st i hi;have hwl:=h.wf.line _ (List.getElem_mem hi);have hp:=List.length_pos_iff.2 hwl.ne
  have hb:=h.b (i*2) (.slice a s.ls[i].st.length c) (by
    have:=lcs_sv (vs:=svs) (ls:=s.ls) (i:=i) h.len (by have:=h.len;omega)
    rw [this];rw [List.getElem?_eq_getElem (by have:=h.len;omega)] at h1;exact h1)
  refine (seen_f A bl (0+i*2) c a s.ls[i].st hb h3 hwl.eight hp hwl.small).mono λ v B ⟨e,e'⟩=>⟨?_,e'⟩
  rw [e,seenL_eq hp]
def img (ls:List LineS):List Nat:=ls.flatMap λ l=>lb (seenL l)
def imgS (s:DevS):List Nat:=img s.ls
theorem seen8 {l:LineS}(h:WfL l):(lb (seenL l)).length=64:=by rw [lb_length,h.eight _ (seenL_mem h)]
theorem img_length {ls:List LineS}(h:∀l∈ls,WfL l):(img ls).length=ls.length*64:=by
  induction ls with
  |nil=>rfl
  |cons l ls ih=>
    have:=ih λ x hx=>h x (by simp [hx])
    have h8:=seen8 (h l (by simp))
    simp only [img,List.flatMap_cons,List.length_append,List.length_cons] at*
    omega
theorem img_at:∀{ls:List LineS} {i:Nat} (_:∀l∈ls,WfL l) (hi:i<ls.length),(img ls).drop (i*64)=lb (seenL ls[i])++img (ls.drop (i+1))
  |l::ls,0,_,_=>by simp [img]
  |l::ls,i+1,h,hi=>by
    have h8:=seen8 (h l (by simp));have e:(i+1)*64=(lb (seenL l)).length+i*64:=(by omega);rw [e]
    show ((lb (seenL l))++img ls).drop _=_
    rw [←List.drop_drop,List.drop_left]
    exact img_at (λ x hx=>h x (by simp [hx])) (by simpa using hi)
theorem img_chunk {ls:List LineS}{q c:Nat}(h:∀l∈ls,WfL l)(hq:q/64<ls.length)(hc:c<=64-q%64):
    ((lb (seenL ls[q/64])).drop (q%64)).take c=((img ls).drop q).take c:=by
  have h8:=seen8 (h _ (List.getElem_mem hq));have e:q=q/64*64+q%64:=(by omega)
  conv=>rhs;rw [e]
  rw [←List.drop_drop,img_at h hq,List.drop_append_of_le_length oqz,List.take_append_of_le_length (by rw [List.length_drop];omega)]
theorem load_step {W:List Nat}{ls:List LineS}{p m k c:Nat}(h:∀l∈ls,WfL l)(hW:W=((img ls).drop p).take m)(hp:p+m<=ls.length*64)(hk:k<m)(hc:c=min (64-(p+k)%64) (m-k))(hq:(p+k)/64<ls.length)(z:Value):
    splice (bys (W.take k)++List.replicate (m-k) z) k ((bys ((lb (seenL ls[(p+k)/64])).drop ((p+k)%64))).take c)=bys (W.take (k+c))++List.replicate (m-(k+c)) z:=by
  have hl:=img_length h;have hWl:W.length=m:=(by rw [hW,List.length_take,List.length_drop];omega);have h8:=seen8 (h _ (List.getElem_mem hq))
  have e1:(bys ((lb (seenL ls[(p+k)/64])).drop ((p+k)%64))).take c=bys ((W.drop k).take c):=by
    unfold bys
    rw [←List.map_take,img_chunk h hq oqz,hW,List.drop_take,List.drop_drop,List.take_take]
    congr 2;omega
  rw [e1,splice_eq (by simp [bys_length,hWl];omega)]
  have e2:(bys (W.take k)).length=k:=(by rw [bys_length,List.length_take];omega);have e3:(bys ((W.drop k).take c)).length=c:=(by rw [bys_length,List.length_take,List.length_drop];omega);rw [e3,List.take_left' e2,←List.drop_drop,List.drop_left' e2,List.drop_replicate,List.take_add,bys_append]
  congr 2;omega
def Parts:List Value->List (List Nat)->SP
  |v::vs,x::xs=>Parts vs xs*Sl 1 v x.length (bys x)
  |[],[]=>emp
  |_,_=>pure_ False
theorem parts_snoc:∀{vs:List Value} {ls:List (List Nat)} {v:Value} {x:List Nat} (_:vs.length=ls.length),Parts (vs++[v]) (ls++[x])=Parts vs ls*Sl 1 v x.length (bys x)
  |[],[],_,_,_=>rfl
  |u::vs,y::ls,v,x,h=>by
    show Parts (vs++[v]) (ls++[x])*Sl 1 u y.length (bys y)=_
    rw [parts_snoc (by simpa using h)]
    show _=Parts vs ls*Sl 1 u y.length (bys y)*Sl 1 v x.length (bys x)
    rw [star_swap]
theorem LoadNo_f (A:SP)(d bl:Nat)(svs:List Value)(av:Value)(s:DevS)(hR:DevR A d bl svs av s)(p m:Int)(hp: -9223372036854775808<=p/\ p<=9223372036854775807)(hm: -9223372036854775808<=m/\ m<=9223372036854775807)(hno:rdy s.ls.length s.off p m≠0):
    Fn Tryz.prog 247 #[pz d,.int .i64 p,.int .i64 m] A (λ r B=>r= .tuple #[.slice none 0 0,.int .i64 (rdy s.ls.length s.off p m)]/\ A=B):=by
  refine fn_enter func247 rfl ntmps247 (by simp) ?_;refine sr ?_;refine Zdp ?_;refine Zc5 ?_;refine Zb6 ?_;refine tl_c rfl (o_call bd193 rfl (ready_f _ d bl s.ls.length s av hR.d hR.wf.pos hR.wf.top p m hp hm)) ?_;refine Zht ?_;refine Zt ?_;refine Zbv ?_;refine tc_cond rfl (sbq ?_) (λ h=> ?_)
  . intro h;refine Zt ?_;refine Zid ?_;refine q_then_r ?_;exact ⟨.tuple #[.slice none 0 0,.int .i64 (rdy s.ls.length s.off p m)],res2 rfl rfl rfl,rfl,rfl⟩
  exfalso;simp [hno] at h
theorem Load_f (A:SP)(d bl:Nat)(svs:List Value)(av:Value)(s:DevS)(p m:Nat)(W:List Nat)(hR:DevR A d bl svs av s)(hoff:s.off=false)(hpm:p+m<=s.ls.length*64)(hW:W=((imgS s).drop p).take m):
    Fn Tryz.prog 247 #[pz d,vn p,vn m] A (λ r B=>∃X,B=A*X/\∃u,r= .tuple #[u,.int .i64 0]/\ X=Sl 1 u m (bys W)):=by
  refine fn_enterW func247 rfl ntmps247 (by simp) ?_;have hpos:=hR.wf.pos;have htop:=hR.wf.top;have hok:rdy s.ls.length s.off p m=0:=(by unfold rdy;rw [hoff,if_neg (by simp),if_neg oqz]);have hWl:W.length=m:=(by rw [hW,List.length_take,List.length_drop,imgS,img_length hR.wf.line];omega);refine sr ?_;refine Zdp ?_;refine Zc5 ?_;refine Zb6 ?_;refine tl_c rfl (o_call bd193 rfl (ready_f _ d bl s.ls.length s av hR.d hR.wf.pos hR.wf.top p m oqz oqz)) ?_;refine Zht ?_;refine Zt ?_;refine Zbv ?_;refine tc_cond rfl (λ h=> ?_) (sbq ?_)
  . exfalso;simp [hok] at h
  intro h;refine Ze ?_;refine Zt ?_;refine tl_x rfl (o_makeSlice (len:=m) (cap:=m) underlying67 sz5 by5 z5 rfl rfl rfl oqz oqz oqz) ?_;rintro _ _ ⟨b21,rfl,rfl⟩;refine Zo ?_;refine tc_seq ?_;refine Zcm ?_;refine tc_block ?_;refine tc_loop (λ j ρ B=>∃ (k:Nat),k<=m/\ j=m-k/\ ρ 0=(pz d)/\ ρ 1=(vn p)/\ ρ 2=(vn m)/\ ρ 9= .slice (some ⟨b21,0,none⟩) m m/\ ρ 10=(vn k)/\ B=A*pt b21 (cl (bys (W.take k)++List.replicate (m-k) (.int .u8 0)) 5)) (m:=m) ?_ ?_
  . exact ⟨0,by omega,rfl,rfl,rfl,rfl,rfl,rfl,rfl⟩
  intro k ρ B hI;obtain ⟨k,hk,rfl,h0,h1,h2,h9,h10,rfl⟩:=hI;refine tc_env (d:=0) h0 ?_;refine tc_env (d:=1) h1 ?_;refine tc_env (d:=2) h2 ?_;refine tc_env (d:=9) h9 ?_;refine tc_env (d:=10) h10 ?_;refine Zc5 ?_;refine tv (o_move rfl) ?_;refine Zu ?_;refine tc_cond rfl (λ h=> ?_) (sbq ?_)
  . simp only [decide_eq_true_eq] at h
    have hk':k<m:=(by omega);have hq:(p+k)/64<s.ls.length:=(by omega);have hwl:=hR.wf.line _ (List.getElem_mem hq);have h64:=seen8 hwl;refine Ze ?_;refine tc_block ?_;refine Zt ?_;refine Zet ?_;refine tl_env (d:=27) (v:=(vn (p+k))) rfl ?_;refine Zo ?_;refine Zt ?_;refine Zcu ?_;refine tv (o_loadC p234 rfl (hR.d 0 _ rfl).left) ?_;refine tv (o_move rfl) ?_;refine tv (o_quoN (a:=p+k) (b:=64) rfl rfl oqz) ?_;refine tv (o_indexAddrN (j:=(p+k)/64) underlying234 sz241 rfl rfl hq) ?_;refine tl_c rfl (o_call bd156 rfl (seenR_f hR.left hq)) ?_;rintro _ _ ⟨rfl,rfl⟩;refine tl_c rfl (o_call bd157 rfl (bytes_f _ (seenL s.ls[(p+k)/64]) (hwl.eight _ (seenL_mem hwl)) (hwl.words _ (seenL_mem hwl)))) ?_;rintro u36 _ ⟨_,rfl,rfl⟩;refine tl_have (λ _ _ h=>sl_have h) λ ⟨a2,c2,hv2,hnc2,hl2,hrd2⟩=> ?_
    subst hv2;refine Zo ?_;refine tc_rega mo ?_
    show TA _ _ _ _ 11 (Array.replicate 11 false) _ _
    refine ta_pure (i:=0) (listed':= #[tt,ff,ff,ff,ff,ff,ff,ff,ff,ff,ff]) rfl kqz kqz kqz rfl rfl (o_move rfl) ?_;refine ta_pure (i:=1) (listed':= #[tt,tt,ff,ff,ff,ff,ff,ff,ff,ff,ff]) rfl kqz kqz kqz rfl rfl (o_move rfl) ?_;refine ta_pure (i:=2) (listed':= #[tt,tt,tt,ff,ff,ff,ff,ff,ff,ff,ff]) rfl kqz kqz kqz rfl rfl (o_move rfl) ?_;refine ta_pure (i:=3) (listed':= #[tt,tt,tt,tt,ff,ff,ff,ff,ff,ff,ff]) rfl kqz kqz kqz rfl rfl (o_slice (l:=k) (h:=m) underlying67 sz5 rfl (bnd_nat (r:=k) rfl) bnd_none oqz oqz) ?_;refine ta_pure (i:=4) (listed':= #[tt,tt,tt,tt,tt,ff,ff,ff,ff,ff,ff]) rfl kqz kqz kqz rfl rfl (o_move rfl) ?_;refine ta_pure (i:=5) (listed':= #[tt,tt,tt,tt,tt,tt,ff,ff,ff,ff,ff]) rfl kqz kqz kqz rfl rfl (o_move rfl) ?_;refine ta_pure (i:=6) (listed':= #[tt,tt,tt,tt,tt,tt,tt,ff,ff,ff,ff]) rfl kqz kqz kqz rfl rfl (o_remN (a:=p+k) (b:=64) rfl rfl oqz) ?_;refine ta_pure (i:=7) (listed':= #[tt,tt,tt,tt,tt,tt,tt,tt,ff,ff,ff]) rfl kqz kqz kqz rfl rfl (o_slice (l:=(p+k)%64) (h:=64) underlying67 sz5 rfl (bnd_nat (r:=(p+k)%64) rfl) bnd_none oqz oqz) ?_;obtain ⟨b2,o2,rfl,hcs2⟩:=hrd2.some (by rw [bys_length];omega);have hlt2:(p+k)%64<c2:=(by omega)
    have hsub:Rd (A*pt b21 (cl (bys (W.take k)++List.replicate (m-k) (.int .u8 0)) 5)*Sl 1 (.slice (some ⟨b2,o2,none⟩) 64 c2) 64 (bys (lb (seenL s.ls[(p+k)/64])))) (cutAddr (some ⟨b2,o2,none⟩) c2 ((p+k)%64) 1) (bys ((lb (seenL s.ls[(p+k)/64])).drop ((p+k)%64))):=by
      rw [cut_lt hlt2]
      refine rd_cells (hcs2.sub ((p+k)%64*1) (64-(p+k)%64) ?_)
      unfold bys
      rw [Nat.mul_one,List.map_drop,List.take_of_length_le]
      rw [List.length_drop,List.length_map];omega
    refine ta_one (i:=8) kqz ?_;refine oa_x (i:=8) (listed':= #[tt,tt,tt,tt,tt,tt,tt,tt,tt,ff,ff]) rfl rfl rfl (o_copy (b:=b21) (off:=k) (dl:=m-k) (dc:=m-k) (m:=min (64-(p+k)%64) (m-k)) (l':=bys (W.take (k+min (64-(p+k)%64) (m-k)))++List.replicate (m-(k+min (64-(p+k)%64) (m-k))) (.int .u8 0)) underlying67 sz5 (by show Value.slice (cutAddr (some ⟨b21,0,none⟩) m k 1) (m-k) (m-k)=_;rw [cut_lt hk',Nat.zero_add,Nat.mul_one]) rfl hsub (by rw [bys_length,List.length_drop];omega) rfl bys_oneC (by rw [List.length_append,bys_length,List.length_take,List.length_replicate];omega) (load_step hR.wf.line hW hpm hk' rfl hq _) (upd_left upd_here)) ?_;rintro _ _ ⟨rfl,rfl⟩;refine ta_pre (λ _ _ h=>h.left) ?_;refine ta_pure (i:=9) (listed':= #[tt,tt,tt,tt,tt,tt,tt,tt,tt,tt,ff]) rfl kqz kqz kqz rfl rfl adqz ?_;refine ta_pure (i:=10) (listed':=(Array.replicate 11 true)) rfl kqz kqz kqz rfl rfl (o_assign rfl) ?_;refine ta_done kqz ?_;refine q_block_n (q_then_n ?_);exact ⟨_,by omega,k+min (64-(p+k)%64) (m-k),by omega,rfl,rfl,rfl,rfl,rfl,rfl,rfl⟩
  intro h;refine Ze5 ?_;refine Zid ?_;obtain rfl:k=m:=by omega
  rw [List.take_of_length_le oqz,Nat.sub_self]
  exact ⟨.tuple #[.slice (some ⟨b21,0,none⟩) k k,.int .i64 0],_,res2 rfl rfl rfl,λ _ _ h=>sl_new (k:=1) (n:=k) (cap:=k) (xs:=bys W) h oqz (by simp [bys_length,hWl]) (List.take_of_length_le (by simp [bys_length,hWl])|>.trans (by simp)),_,rfl,_,rfl,rfl⟩
def ctS (i:Nat)(s:DevS):List (List Nat):=(s.ls.getD i ⟨[],0⟩).st.map lb
def reps (zl:List Value):Nat->List Value
  |0=>[]
  |n+1=>zl++reps zl n
theorem reps_length (zl:List Value):∀n,(reps zl n).length=n*zl.length
  |0=>by simp [reps]
  |n+1=>by rw [reps,List.length_append,reps_length zl n,Nat.add_mul];omega
theorem reps_at (zl:List Value)(hk:0<zl.length):∀ (n j:Nat),j<n*zl.length->(reps zl n)[j]? =zl[j%zl.length]?
  |0,j,h=>by omega
  |n+1,j,h=>by
    rw [reps]
    rcases Nat.lt_or_ge j zl.length with h1|h1
    . rw [List.getElem?_append_left h1,Nat.mod_eq_of_lt h1]
    rw [List.getElem?_append_right h1,reps_at zl hk n (j-zl.length) (by rw [Nat.add_mul] at h;omega),Nat.mod_eq_sub_mod h1]
section
variable {P:Program} {n:Nat} {ρ:Env} {A:SP} {dst:Option Tmp} {ty:TypeId} {pos:String} {after:Array Edge} {gd:Option (Nat×Bool)}
theorem o_makeSliceK {t e:TypeId}{x y:Operand}{len cap k:Nat}{bytes:Nat}{k1 k2:IntKind}{zl:List Value}(hu:P.underlying t=some (.slice e))(hk:szE P e=some k)(hb:bytesE P e=some bytes)(hz:zeroE P e=some (.agg zl.toArray))(hzl:zl.length=k)(hk0:0<k)
    (hx:ev n ρ x= .int k1 len) (hy:ev n ρ y= .int k2 cap) (h1:len<=cap) (h2:cap*bytes<=140737488355328) (h3:cap<=140737488355328) (h4:0<cap):
    OpX P n ρ A ⟨dst,.makeSlice t x y,ty,pos,after,gd⟩ (NewS A (reps zl cap) e len cap):=λ g w hs=>by
  refine ⟨_,w.alloc (cl (reps zl cap) e),_, ?_,hs.alloc _,w.heap.size,rfl,rfl⟩;have w1:IntKind.i64.wrap (len:Int)=len:=(by rw [IntWalk.i64_in _ oqz]);have w2:IntKind.i64.wrap (cap:Int)=cap:=(by rw [IntWalk.i64_in _ oqz]);obtain ⟨i,hi,hib⟩:=run_bytes (w:=w) hb;have p47:(2:Nat)^47=140737488355328:=(by decide);have p48:(2:Int)^48=281474976710656:=(by decide)
  simp only [execOp,hx,hy]
  rw [run_bind (w':=w.alloc (cl (reps zl cap) e)) (a:= .slice (some ⟨w.heap.size,0,none⟩) len cap)]
  . rfl
  unfold Instr.makeSlice
  rw [run_bind (run_und hu)]
  simp only []
  rw [run_bind (w':=w) (a:=(len:Int)) (by rfl),run_bind (w':=w) (a:=(cap:Int)) (by rfl),run_bind hi]
  simp only [w1,w2,hib,p48]
  have hcb:(bytes:Int)*(cap:Int)<=140737488355328:=by
    have:(bytes:Int)*(cap:Int)=((cap*bytes:Nat):Int):=(by rw [Nat.mul_comm];simp);rw [this];omega
  rw [if_neg (by simp;omega)]
  have ask:(askRoom (((cap:Nat):Int).toNat*bytes)).run P w= .ok () w:=by
    unfold askRoom roomBytes
    rw [p47,if_neg (by simp;omega)];rfl
  rw [run_bind ask,run_bind (run_size hk)]
  have h0:cap*k≠0:=Nat.mul_ne_zero oqz oqz
  simp only [Int.toNat_natCast,h0,if_false]
  rw [run_bind (run_zeroV hz)]
  have hrow:((Array.range (cap*k)).map λ x=>(Value.agg zl.toArray).cells[x%(Value.agg zl.toArray).cells.size]!)=(reps zl cap).toArray:=by
    simp only [Value.cells]
    apply Array.ext'
    rw [Array.toList_map]
    apply List.ext_getElem?
    intro j
    simp only [Array.toList_range,List.getElem?_map,List.size_toArray]
    subst hzl
    rcases Nat.lt_or_ge j (cap*zl.length) with h|h
    . rw [reps_at zl hk0 cap j h]
      have hm:j%zl.length<zl.length:=Nat.mod_lt _ hk0
      simp [h,hm]
    rw [List.getElem?_eq_none (by simpa using h),List.getElem?_eq_none (by rw [reps_length];exact h)];rfl
  show (do let a←newRow e ((Array.range (cap*k)).map λ x=>(Value.agg zl.toArray).cells[x%(Value.agg zl.toArray).cells.size]!);pure (Value.slice (some a) ((len:Nat):Int).toNat ((cap:Nat):Int).toNat):Sem Value).run P w=_
  rw [hrow,run_bind run_newRow]
  simp [pure,Int.toNat_natCast]
end
def fitsB (p:Int):Bool:=decide (64<=p/\ p<=4194304/\ p%64=0)
def blank (n:Nat):DevS:=⟨List.replicate n ⟨[],0⟩,0,[],0,false⟩
def zline:LineS:=⟨[List.replicate 8 0],-1⟩
def newS (n:Nat):DevS:=⟨List.replicate n zline,0,[],0,false⟩
theorem zline_wf:WfL zline:=⟨by simp [zline],by simp [zline,Eight],by simp [zline],by simp [zline],by simp [zline],by simp [zline]⟩
theorem newS_wf {n:Nat}(h:0<n)(h2:n<=65536):WfD (newS n):=⟨by simpa [newS] using h,by simpa [newS] using h2,λ l hl=>by
  simp only [newS,List.mem_replicate] at hl;rw [hl.2];exact zline_wf,by simp [newS],by simp [newS],by simp [newS]⟩
theorem lcs_blank:∀n,lcs (List.replicate n (.slice none 0 0)) (List.replicate n ⟨[],0⟩)=reps [.slice none 0 0,.int .i64 0] n
  |0=>rfl
  |n+1=>by simp only [List.replicate_succ,lcs,reps,List.cons_append,List.nil_append];rw [lcs_blank n]
theorem linesR_blank:∀ (n:Nat) {R:SP} {g:Gh} {w:World},sat g w R->sat g w (R*LinesR (List.replicate n (.slice none 0 0)) (List.replicate n ⟨[],0⟩))
  |0,R,g,w,h=>by show sat g w (R*emp);rw [star_emp];exact h
  |n+1,R,g,w,h=>by
    simp only [List.replicate_succ,LinesR]
    rw [←star_assoc]
    exact sl_nil (k:=8) (linesR_blank n h)
theorem blank_dev {F:SP}{d bl n:Nat}{g:Gh}{w:World}(hs:sat g w (F*pt bl (cl (reps [.slice none 0 0,.int .i64 0] n) 241)*pt d (cl [.slice (some ⟨bl,0,none⟩) n n,.int .i64 0,.slice none 0 0,.int .i64 0,.bool false] 236))):
    sat g w (F*DevC d bl (List.replicate n (.slice none 0 0)) (.slice none 0 0) [] (blank n)):=by
  rw [devC_eq]
  unfold ArmsR
  have h1:=sl_nil (k:=2) (linesR_blank n hs);rw [←lcs_blank] at h1
  refine h1.perm ?_
  simp only [blank,dcs,List.length_replicate,acs,KeepsR,List.length_nil,star_emp]
  ac_rfl
theorem mp_blank (n:Nat):mp (λ _=>zline) n (List.replicate n ⟨[],0⟩)=(newS n).ls:=by
  have:=mp_map (λ _=>zline) (List.replicate n ⟨[],0⟩);rw [List.length_replicate] at this
  rw [this];simp [newS]
theorem Zc2 {p r:Prop}(k:r)(h:Kq r->p:=by intro k;refine Zp ?_;refine tk ?_;exact k.o):p:=h ⟨k⟩
theorem fits_f (A:SP)(p:Int)(hp: -9223372036854775808<=p/\ p<=9223372036854775807):
    Fn Tryz.prog 244 #[.int .i64 p] A (λ r B=>r= .bool (fitsB p)/\ A=B):=by
  refine fn_enter func244 rfl ntmps244 (by simp) ?_;refine Zcm ?_;refine Zt ?_;refine tv (o_geq rfl rfl) ?_;refine tv (o_move rfl) ?_;refine tl_bool (d:=5) rfl (sbq ?_) (sbq ?_)
  . intro h;refine tv (o_move rfl) ?_;refine tv (o_leq rfl rfl) ?_;refine Zb3 ?_;refine tl_bool (d:=9) rfl (sbq ?_) (sbq ?_)
    . intro h;refine tv (o_move rfl) ?_;refine tv (o_remI rfl rfl oqz) ?_;refine tv (o_eqi rfl rfl) ?_;refine Zbt ?_;refine tc_ret ?_;exact ⟨.bool (decide (p%64=0)),res1 rfl rfl,by unfold fitsB;congr 1;rw [decide_eq_decide];omega,rfl⟩
    intro h;refine Zc2 ?_;refine Zbt ?_;refine tc_ret ?_;exact ⟨.bool false,res1 rfl rfl,by unfold fitsB;rw [decide_eq_false oqz],rfl⟩
  intro h;refine Zp ?_;refine Zb3 ?_;refine Zc2 ?_;refine Zbt ?_;refine tc_ret ?_;exact ⟨.bool false,res1 rfl rfl,by unfold fitsB;rw [decide_eq_false oqz],rfl⟩
theorem New_f (F:SP)(n:Nat)(hn:0<n)(hn2:n<=65536):
    Fn Tryz.prog 169 #[vn (n*64)] (F) (λ r B=>∃d,r= .tuple #[pz d,.int .i64 0]/\ B=F*Dev d (newS n)):=by
  refine fn_enterW func169 rfl ntmps169 (by simp) ?_;have hfit:fitsB ((n*64:Nat):Int)=true:=(by unfold fitsB;simp;omega);refine sr ?_;refine Zdp ?_;refine Zc5 ?_;refine tl_c rfl (o_call bd244 rfl (fits_f F _ oqz)) ?_;refine Zb7 ?_;refine nq ?_;refine tc_cond rfl (λ h=> ?_) (sbq ?_)
  . exfalso;rw [hfit] at h;exact absurd h (by decide)
  intro h;refine Ze ?_;refine Zt ?_;refine tv (o_quoN (a:=n*64) (b:=64) rfl rfl oqz) ?_;refine tl_env (d:=10) (v:=(vn n)) (by show Value.int .i64 ((n*64/64:Nat):Int)=_;rw [Nat.mul_div_cancel _ (by decide)]) ?_;refine tl_x rfl (o_makeSliceK (len:=n) (cap:=n) underlying234 sz241 by241 z241 rfl (by decide) rfl rfl oqz oqz oqz hn) ?_;rintro _ _ ⟨b11,rfl,rfl⟩;refine tv (o_buildS underlying236 z236 (pl236 underlying236) rfl rfl) ?_;refine tl_x rfl (o_box rfl rfl) ?_;rintro _ _ ⟨b13,rfl,rfl⟩;refine tl_pre (λ _ _ h=>blank_dev h) ?_;refine Zo ?_;refine Zc5 ?_;refine Zcu ?_;refine tv (o_load p234 rfl devC_d rfl) ?_;refine tv (o_len underlying234 rfl) ?_;refine Zel ?_;refine tc_block ?_;refine tc_loop (λ k ρ B=>∃ (i:Nat) (svs':List Value),i<=n/\ k=n-i/\ svs'.length=n/\ ρ 4=(pz b13)/\ ρ 18= .int .i64 n/\ ρ 19= .int .i64 i/\ B=F*DevC b13 b11 svs' (.slice none 0 0) [] { blank n with ls:=mp (λ _=>zline) i (blank n).ls }) (m:=n) ?_ ?_
  . exact ⟨0,List.replicate n (.slice none 0 0),by omega,rfl,by simp,rfl,by show Value.int .i64 ((List.replicate n (⟨[],0⟩:LineS)).length:Int)=_;rw [List.length_replicate],rfl,by rw [mp_zero]⟩
  intro k ρ B hI;obtain ⟨i,svs',hi,rfl,hsv',h4,h18,h19,rfl⟩:=hI;refine tc_env (d:=4) h4 ?_;refine tc_env (d:=18) h18 ?_;refine tc_env (d:=19) h19 ?_;refine Zcg ?_;refine tc_cond rfl (λ h=> ?_) (sbq ?_)
  . simp only [decide_eq_true_eq] at h
    have hi':i<(blank n).ls.length:=(by simp [blank];omega);have hbl:(blank n).ls.length=n:=(by simp [blank]);have hglen:(mp (λ _=>zline) i (blank n).ls).length=n:=(by rw [mp_length,hbl]);have hiG:i<(mp (λ _=>zline) i (blank n).ls).length:=(by omega);have hsG:svs'.length=(mp (λ _=>zline) i (blank n).ls).length:=(by omega);obtain ⟨R,hf1,hf2⟩:=devC_focus (d:=b13) (bl:=b11) (kvs:=[]) (av:= .slice none 0 0) (s:={ blank n with ls:=mp (λ _=>zline) i (blank n).ls }) hsG hiG;refine tc_eq (hf1 F) ?_
    simp only [hglen]
    refine Zbp ?_;refine Zt ?_;refine Zg0 ?_;refine tv (o_move rfl) ?_;refine Zcu ?_;refine tv (o_load p234 rfl (by repeat (first|exact has_here|exact has_pt|apply has_left)) rfl) ?_;refine tv (o_move rfl) ?_;refine tv (o_buildA (vs:=[]) underlying238 sz141 z238 rfl rfl rfl (Nat.zero_le _) rfl) ?_;refine tl_x rfl (o_buildSliceK (l:=wds (List.replicate 8 0)) underlying239 sz238 z238 rfl rfl (by decide)) ?_;rintro _ _ ⟨b28,rfl,rfl⟩;refine tv (o_buildS (l:=[.slice (some ⟨b28,0,none⟩) 1 1,.int .i64 (-1)]) underlying241 z241 (pl241 underlying241) rfl rfl) ?_;refine tv (o_indexAddrN (j:=i) underlying234 sz241 rfl rfl oqz) ?_;refine tl_u rfl (o_storeN (l:=lcs svs' (mp (λ _=>zline) i (blank n).ls)) (l':=lcs (svs'.set i (.slice (some ⟨b28,0,none⟩) 1 1)) ((mp (λ _=>zline) i (blank n).ls).set i zline)) sz241 rfl rfl rfl rfl (by rw [lcs_length hsG,hglen];omega) (by rw [Nat.zero_add];exact lcs_set (l:=zline) hsG hiG) (by repeat (first|exact upd_here|exact upd_pt|apply upd_left))) ?_;refine tl_pre (λ _ _ h=>h.newline (by rfl)) ?_;have hfin:=hf2 F (.slice (some ⟨b28,0,none⟩) 1 1) zline
    simp only [hglen] at hfin
    refine tl_eq hfin ?_
    simp only [mp_set (λ _=>zline) hi']
    refine tl_nil ?_;refine Zr ?_;refine tv adqz ?_;refine Zel ?_;exact ⟨_,by omega,i+1,_,by omega,rfl,by rw [List.length_set];exact hsv',rfl,rfl,rfl,rfl⟩
  intro h;refine Ze5 ?_;refine Zid ?_;obtain rfl:i=n:=by omega
  exact ⟨.tuple #[pz b13,.int .i64 0],_,res2 rfl rfl rfl,λ g w h=>dev_back (s:=newS i) (newS_wf hn hn2) (by simp [newS];exact hsv') rfl g w (h.perm (by show F*DevC b13 b11 svs' _ [] { blank i with ls:=mp (λ _=>zline) i (List.replicate i ⟨[],0⟩) }=_;rw [mp_blank];rfl)),_,rfl,rfl⟩
theorem within_neg {a n:Int}(hn:0<n)(h:a.tmod n<0):a.tmod n+n=a%n:=by
  have e:=Int.tmod_eq_emod (a:=a) (b:=n);have h1:=Int.emod_nonneg a (show n≠0 by omega)
  split at e<;>omega
theorem within_pos {a n:Int}(hn:0<n)(h:¬a.tmod n<0):a.tmod n=a%n:=by
  have e:=Int.tmod_eq_emod (a:=a) (b:=n);have h1:=Int.emod_lt_of_pos a hn
  split at e<;>omega
theorem tmod_lt' {a n:Int}(hn:0<n): -n<a.tmod n/\ a.tmod n<n:=by
  have e:=Int.tmod_eq_emod (a:=a) (b:=n);have h1:=Int.emod_nonneg a (show n≠0 by omega);have h2:=Int.emod_lt_of_pos a hn
  split at e
  . omega
  rename_i hx
  have:a%n≠0:=λ h0=>hx (.inr (Int.dvd_of_emod_eq_zero h0))
  omega
section
variable {F:SP} {d:Nat} {s:DevS}
theorem OffD_f:Fn Tryz.prog 262 #[pz d] (F*Dev d s) (λ r B=>r= .bool s.off/\ F*Dev d s=B):=
  fn_devR0 λ _ A bl svs av hR=>Off_f A d bl s.ls.length s av hR.d hR.wf.pos hR.wf.top
theorem LoadD_f {p m:Nat}{W:List Nat}(hoff:s.off=false)(hpm:p+m<=s.ls.length*64)(hW:W=((imgS s).drop p).take m):
    Fn Tryz.prog 247 #[pz d,vn p,vn m] (F*Dev d s) (λ r B=>∃X,B=F*Dev d s*X/\∃u,r= .tuple #[u,.int .i64 0]/\ X=Sl 1 u m (bys W)):=
  fn_devR λ _ A bl svs av hR=>Load_f A d bl svs av s p m W hR hoff hpm hW
end
def aw1:DevS:=(st8 0 257 (newS 2)).2
def aw2:DevS:=(fl1 3 aw1).2
def aw3:DevS:=(st8 8 5 aw2).2
def aw4:DevS:=(fe aw3).2
def aw5:DevS:=goesS [] aw4
def aw6:DevS:={ aw5 with off:=false }
def awB:List Nat:=[1,1,0,0,0,0,0,0,0,0,0,0,0,0,0,0]
structure PlS where
  s:DevS
  seen:List Nat
  held:List (List Nat)
  last:List Nat
  sure:List Bool
  marks:List Int
def wi (p:Int)(n:Nat):Nat:=(p%(n:Int)).toNat
def lastF (marks:List Int)(seen:List Nat):Nat->Nat->Nat:=λ i x=>if marks.getD (i/8) 0=1 then seen.getD i 0 else x
def sureF (marks:List Int):Nat->Bool->Bool:=λ i x=>if marks.getD (i/8) 0=1 then true else x
def stepP (k p:Int)(v:Nat)(P:PlS):Bool×PlS:=
  if k=2∨k=3 then
    (decide ((st8 ((8*wi p P.seen.length:Nat):Int) v P.s).1=0),⟨(st8 ((8*wi p P.seen.length:Nat):Int) v P.s).2,P.seen.set (wi p P.seen.length) v,P.held.set (wi p P.seen.length) (P.held.getD (wi p P.seen.length) []++[v]),P.last,
      P.sure.set (wi p P.seen.length) false,if P.marks.getD (wi p P.seen.length/8) 0=1 then P.marks.set (wi p P.seen.length/8) 2 else P.marks⟩)
  else if k=4 then (decide ((fl1 ((8*wi p P.seen.length:Nat):Int) P.s).1=0),{ P with s:=(fl1 ((8*wi p P.seen.length:Nat):Int) P.s).2,marks:=P.marks.set (wi p P.seen.length/8) 1 })
  else if k=5 then (decide ((fe P.s).1=0),{ P with s:=(fe P.s).2,last:=pm (lastF P.marks P.seen) P.seen.length P.last,sure:=pm (sureF P.marks) P.seen.length P.sure,marks:=pm (λ _ _=>0) P.marks.length P.marks })
  else (true,P)
def pcs (d:Nat)(sv hv lv uv mv:Value):List Value:=[pz d,sv,hv,lv,uv,mv]
structure WfP (r:Nat) (P:PlS):Prop where
  pos:0<P.marks.length
  top:P.marks.length<=4
  ls:P.s.ls.length=P.marks.length
  seen:P.seen.length=8*P.marks.length
  held:P.held.length=8*P.marks.length
  last:P.last.length=8*P.marks.length
  sure:P.sure.length=8*P.marks.length
  room:Room r P.s
  hroom:∀l∈P.held,l.length+r<=2199023255552
end Go.Vl

/- What the row rests on, part 2: a calculus of assertions, walks of functions over it, and plain laws. Conditions: none. -/
import Derived.Deep.QuietTactic
import Derived.BigQuiet
import Derived.WalkKit
import Derived.Test.YtfmieencngkkcaaGreatProg
import Derived.OrdersHeld
import Derived.Shelf.SortM.SortNone
import Derived.Shelf.SortM.Plain
import Derived.Ground.SlgmProg
import Derived.Shelf.SlIterI.Nil
import Derived.Ground.GgzProg
import Derived.Maps.RangeRun
import Derived.Laws.BytesArg
import Derived.RangeFuncRecord
import Derived.TacticsIn
import Derived.Deep.Slices
import Derived.OpenShut
import Derived.ChangeArms
import Derived.SizedLaws
import Derived.ChangeSame
import Derived.Test.YtfmieencngkkcaaGreatRows
import Derived.Sort.QuietThIn
import Derived.ScopeJumps
import Derived.LaidEqlPtr
import Derived.MapKept
import Derived.Laws.Externs
import Derived.Lib.Builder
import Derived.Lib.UnsafeStr
import Derived.Laws.Strings
import Derived.Lib.ConvBytes
import Derived.Laws.AppendOwn
import Derived.Defers
import Derived.Test.YtfmieencngkkcaaGreatMg1
set_option linter.unusedVariables false
set_option linter.unusedSimpArgs false
set_option maxRecDepth 100000
set_option maxHeartbeats 4000000
namespace Go.Vl
open Go Go.Proofs Go.Proofs.Tryz
structure Live (s:DevS):Prop where
  off:s.off=false
  arms:s.arms=[]
theorem rdy_ok {n:Nat}{p m:Int}(hp:0<=p)(hm:0<=m)(h:p+m<=n*64):rdy n false p m=0:=by
  unfold rdy;rw [if_neg (by simp),if_neg oqz]
structure StepC where
  k:Int
  q:Int
  nv:Value
  v:Nat
  dv:Value
  kv:Value
  av:Value
def StepC.cells (t:StepC):List Value:=[.int .i64 t.k,.int .i64 t.q,t.nv,.int .u64 (t.v:Nat),t.dv,t.kv,t.av]
def scs (l:List StepC):List Value:=l.flatMap StepC.cells
def playL (l:List StepC)(P:PlS):PlS:=l.foldl (λ P t=>(stepP t.k t.q t.v P).2) P
def begS (n:Nat):PlS:=⟨newS n,List.replicate (8*n) 0,List.replicate (8*n) [0],List.replicate (8*n) 0,List.replicate (8*n) true,List.replicate n 0⟩
def RdRows (A:SP)(a:Option Addr)(ls:List (List Nat)):Prop:=∃vs:List Value,vs.length=ls.length/\ Rd A a vs/\∀i (h:i<ls.length),∃b c,vs[i]? =some (.slice b ls[i].length c)/\ Rd A b (bys ls[i])
theorem RdRows.left {A X:SP}{a:Option Addr}{ls:List (List Nat)}(h:RdRows A a ls):RdRows (A*X) a ls:=by
  obtain ⟨vs,h1,h2,h3⟩:=h;exact ⟨vs,h1,h2.left,λ i hi=>by obtain ⟨b,c,e,hr⟩:=h3 i hi;exact ⟨b,c,e,hr.left⟩⟩
theorem RdRows.pre {A B:SP}{a:Option Addr}{ls:List (List Nat)}(h:RdRows A a ls)(k:∀g w,sat g w B->sat g w A):RdRows B a ls:=by
  obtain ⟨vs,h1,h2,h3⟩:=h;exact ⟨vs,h1,h2.pre k,λ i hi=>by obtain ⟨b,c,e,hr⟩:=h3 i hi;exact ⟨b,c,e,hr.pre k⟩⟩
theorem parts_get:∀{vs:List Value} {ls:List (List Nat)} {i:Nat} (h:vs.length=ls.length) (hi:i<ls.length),
    ∃R,Parts vs ls=R*Sl 1 (vs[i]'oqz) ls[i].length (bys ls[i])/\∀v l,Parts (vs.set i v) (ls.set i l)=R*Sl 1 v l.length (bys l)
  |[],[],_,_,hi=>by simp at hi
  |v::vs,l::ls,0,h,_=>⟨Parts vs ls,rfl,λ _ _=>rfl⟩
  |v::vs,l::ls,i+1,h,hi=>by
    obtain ⟨R,h1,h2⟩:=parts_get (vs:=vs) (ls:=ls) (i:=i) (by simpa using h) (by simpa using hi);refine ⟨R*Sl 1 v l.length (bys l), ?_,λ u m=> ?_⟩
    . simp only [Parts,List.getElem_cons_succ];rw [h1,star_swap]
    simp only [List.set_cons_succ,Parts];rw [h2,star_swap]
theorem Foc.parts {A A':SP}{hvs:List Value}{held:List (List Nat)}(h:Foc A (Parts hvs held) (Parts hvs held) A')(hl:hvs.length=held.length){g:Gh}{w:World}(hs:sat g w A):
    ∀i (hi:i<held.length),∃a c,hvs[i]? =some (.slice a held[i].length c)/\ held[i].length<=c/\ Rd (Parts hvs held) a (bys held[i]):=λ i hi=>by
  obtain ⟨R,rfl,_⟩:=h;obtain ⟨S,h1,_⟩:=parts_get hl hi;have hs2:=hs.right;obtain ⟨a,c,e,hle,_,hr⟩:=sl_have' h1 hs2;exact ⟨a,c,by rw [List.getElem?_eq_getElem oqz,e],hle,hr⟩
theorem slb_snoc {A:SP}{u:Value}{l:List Nat}{x:Nat}:A*Sl 1 u (l.length+1) (bys l++[.int .u8 (x:Int)])=A*Sl 1 u (l++[x]).length (bys (l++[x])):=by
  rw [bys_append,List.length_append];rfl
theorem CopyBytes_f (A:SP)(a:Option Addr)(c:Nat)(xs:List Nat)(hr:Rd A a (bys xs))(hl:xs.length<=140737488351232):
    Fn Tryz.prog 83 #[.slice a xs.length c] A (λ r B=>B=A*Sl 1 r xs.length (bys xs)):=by
  refine fn_enter func83 rfl ntmps83 (by simp) ?_;refine Zcm ?_;refine Zt ?_;refine tv (o_len underlying67 rfl) ?_;refine tl_x rfl (o_makeSlice (len:=0) (cap:=xs.length) underlying67 sz5 by5 z5 rfl rfl rfl oqz oqz oqz) ?_;rintro _ _ ⟨b7,rfl,rfl⟩;refine tl_pre (λ _ _ h=>sl_new (k:=1) (n:=0) (cap:=xs.length) (xs:=[]) h oqz (by simp) (by simp)) ?_;refine Zo ?_;refine tc_seq ?_;refine Zcm ?_;refine tc_block ?_;refine tc_loop (λ kk ρ BB=>∃ (i:Nat) (v:Value),(i<=xs.length)/\ kk=xs.length-i/\ ρ 0= .slice a xs.length c/\ ρ 3=v/\ ρ 4=(vn i)/\ BB=A*Sl 1 v (xs.take i).length (bys (xs.take i))) (m:=xs.length-(0)) ?_ ?_
  . exact ⟨0,_,by omega,rfl,rfl,rfl,rfl,rfl⟩
  intro k ρ B hI;obtain ⟨i,v,hp0,rfl,hs0,hs3,hs4,rfl⟩:=hI;refine tc_env (d:=0) hs0 ?_;refine tc_env (d:=3) hs3 ?_;refine tc_env (d:=4) hs4 ?_;refine Zc5 ?_;refine Zd9 ?_;refine Zu ?_;refine tc_cond rfl (λ h=> ?_) (sbq ?_)
  . simp only [decide_eq_true_eq] at h
    have hi':i<xs.length:=(by omega);obtain ⟨b,o,rfl,hc⟩:=hr.some (by rw [bys_length];omega);have g1:=hc i _ (bys_at hi');refine Zbp ?_;refine tc_reg ?_;refine Zb6 ?_;refine tv (o_move rfl) ?_;refine tv (o_indexAddrN1 (j:=i) underlying67 sz5 rfl rfl oqz) ?_;refine tv (o_loadC p5 rfl g1.left) ?_;refine tl_x rfl (o_buildSlice1 (v:= .int .u8 (xs[i]:Nat)) underlying67 sz5 z5 rfl rfl) ?_;rintro _ _ ⟨b19,rfl,rfl⟩;refine tl_x rfl (o_append1 underlying67 underlying67 sz5 by5 z5 rfl (by decide) (by decide) rfl rfl rfl rfl rfl (by rw [List.length_take];omega)) ?_;rintro u20 _ rfl;refine Zfu ?_;refine Zet ?_;refine Zo ?_;exact ⟨_,by omega,i+1,u20,by omega,rfl,rfl,rfl,rfl,by rw [List.take_succ_eq_append_getElem hi',←slb_snoc]⟩
  intro h;refine Ze5 ?_;refine Zfd ?_;obtain rfl:i=xs.length:=by omega
  rw [List.take_length]
  exact ⟨v,res1 rfl rfl,rfl⟩
theorem Zea {p r:Prop}(k:r)(h:Kq r->p:=by intro k;refine tc_exit ?_;refine q_then_e (q_then_e (q_block_x (q_block_n (q_then_n ?_))));exact k.o):p:=h ⟨k⟩
theorem Join_f (A:SP)(a:Option Addr)(c:Nat)(ls:List (List Nat))(hr:RdRows A a ls)(hl:ls.flatten.length<=17592186044416)(hl2:ls.length<=17592186044416):
    Fn Tryz.prog 75 #[.slice a ls.length c] A (λ r B=>B=A*Sl 1 r ls.flatten.length (bys ls.flatten)):=by
  refine fn_enter func75 rfl ntmps75 (by simp) ?_;obtain ⟨vs,hvl,hra,hrows⟩:=hr;refine Zcm ?_;refine Zcm ?_;refine Zfc ?_;refine tl_pre (λ _ _ h=>sl_nil (k:=1) h) ?_;refine Zhf ?_;refine tc_loop (λ kk ρ BB=>∃ (i:Nat) (v:Value),(i<=ls.length)/\ kk=ls.length-i/\ ρ 0= .slice a ls.length c/\ ρ 3=v/\ ρ 4=(vn i)/\ BB=A*Sl 1 v (ls.take i).flatten.length (bys (ls.take i).flatten)) (m:=ls.length-(0)) ?_ ?_
  . exact ⟨0,_,by omega,rfl,rfl,rfl,rfl,rfl⟩
  intro k ρ B hI;obtain ⟨i,v,hp0,rfl,hs0,hs3,hs4,rfl⟩:=hI;refine tc_env (d:=0) hs0 ?_;refine tc_env (d:=3) hs3 ?_;refine tc_env (d:=4) hs4 ?_;refine Zc5 ?_;refine tv (o_move rfl) ?_;refine tv (o_len underlying35 rfl) ?_;refine Zu ?_;refine tc_cond rfl (λ h=> ?_) (sbq ?_)
  . simp only [decide_eq_true_eq] at h
    have hi':i<ls.length:=(by omega);obtain ⟨b,o,rfl,hc⟩:=hra.some oqz;obtain ⟨bi,ci,e1,hri⟩:=hrows i hi';have g1:=hc i _ e1
    have hfl:(ls.take i).flatten.length+ls[i].length<=ls.flatten.length:=by
      have e:=List.take_append_drop i ls;have e2:ls.flatten.length=(ls.take i).flatten.length+(ls.drop i).flatten.length:=(by rw [←List.length_append,←List.flatten_append,e]);rw [e2,List.drop_eq_getElem_cons hi',List.flatten_cons,List.length_append];omega
    refine Zbp ?_;refine Zcm ?_;refine tc_block ?_;refine tc_loop (λ kk ρ BB=>∃ (j:Nat) (u:Value),(j<=ls[i].length)/\ kk=ls[i].length-j/\ ρ 0= .slice (some ⟨b,o,none⟩) ls.length c/\ ρ 3=u/\ ρ 4=(vn i)/\ ρ 5=(vn j)/\ BB=A*Sl 1 u ((ls.take i).flatten++ls[i].take j).length (bys ((ls.take i).flatten++ls[i].take j))) (m:=ls[i].length-(0)) ?_ ?_
    . exact ⟨0,v,by omega,rfl,rfl,rfl,rfl,rfl,by rw [List.take_zero,List.append_nil]⟩
    intro k ρ B hI;obtain ⟨j,u,hp0,rfl,hs0,hs3,hs4,hs5,rfl⟩:=hI;refine tc_env (d:=0) hs0 ?_;refine tc_env (d:=3) hs3 ?_;refine tc_env (d:=4) hs4 ?_;refine tc_env (d:=5) hs5 ?_;refine Zc5 ?_;refine Zb6 ?_;refine tv (o_indexAddrN1 (j:=i) underlying35 sz67 rfl rfl oqz) ?_;refine tv (o_loadC p67 rfl g1.left) ?_;refine tv (o_len underlying67 rfl) ?_;refine Zu ?_;refine tc_cond rfl (λ h=> ?_) (λ h=> ?_)
    . simp only [decide_eq_true_eq] at h
      have hj':j<ls[i].length:=(by omega);obtain ⟨bb,oo,rfl,hcc⟩:=hri.some (by rw [bys_length];omega);have g2:=hcc j _ (bys_at hj');refine Zbp ?_;refine tc_reg ?_;refine Zb6 ?_;refine tv (o_move rfl) ?_;refine tv (o_indexAddrN1 (j:=i) underlying35 sz67 rfl rfl oqz) ?_;refine tv (o_loadC p67 rfl g1.left) ?_;refine tv (o_move rfl) ?_;refine tv (o_indexAddrN1 (j:=j) underlying67 sz5 rfl rfl oqz) ?_;refine tv (o_loadC p5 rfl g2.left) ?_;refine tl_x rfl (o_buildSlice1 (v:= .int .u8 (ls[i][j]:Nat)) underlying67 sz5 z5 rfl rfl) ?_;rintro _ _ ⟨b29,rfl,rfl⟩;refine tl_x rfl (o_append1 underlying67 underlying67 sz5 by5 z5 rfl (by decide) (by decide) rfl rfl rfl rfl rfl (by rw [List.length_append,List.length_take];omega)) ?_;rintro u30 _ rfl;refine Zfu ?_;refine Zet ?_;refine Zo ?_;exact ⟨_,by omega,j+1,u30,by omega,rfl,rfl,rfl,rfl,rfl,by rw [List.take_succ_eq_append_getElem hj',←List.append_assoc,←slb_snoc]⟩
    simp only [decide_eq_false_iff_not] at h
    obtain rfl:j=ls[i].length:=by omega
    rw [List.take_length]
    refine Zea ?_;refine tc_reg ?_;refine Zet ?_;refine Zo ?_;exact ⟨_,by omega,i+1,u,by omega,rfl,rfl,rfl,rfl,by rw [List.take_succ_eq_append_getElem hi',List.flatten_append,List.flatten_singleton]⟩
  intro h;refine Ze5 ?_;refine Zfd ?_;obtain rfl:i=ls.length:=by omega
  rw [List.take_length]
  exact ⟨v,res1 rfl rfl,rfl⟩
theorem JoinN_f (A:SP)(a:Option Addr)(c n:Nat)(ls:List (List Nat))(hr:RdRows A a ls)(hl:ls.flatten.length<=17592186044416)(hl2:ls.length<=17592186044416)(hn:ls.length=n):
    Fn Tryz.prog 75 #[.slice a n c] A (λ r B=>B=A*Sl 1 r ls.flatten.length (bys ls.flatten)):=by subst hn;exact Join_f A a c ls hr hl hl2
def wordF (xs:List Nat)(i k:Nat):Nat:=nm ((xs.drop (i*64+k*8)).take 8)
def lineF (xs:List Nat)(i:Nat):LineS:=⟨[(List.replicate 8 0).mapIdx λ k _=>wordF xs i k],-1⟩
def fromS (n:Nat)(xs:List Nat):DevS:={ newS n with ls:=(newS n).ls.mapIdx λ i _=>lineF xs i }
theorem take8_lt {xs:List Nat}(hb:∀x∈xs,x<256)(p:Nat):nm ((xs.drop p).take 8)<18446744073709551616:=by
  have h1:=nm_lt ((xs.drop p).take 8) λ x hx=>hb x (List.mem_of_mem_drop (List.mem_of_mem_take hx))
  have h2:((xs.drop p).take 8).length<=8:=(by rw [List.length_take];omega);have h3:=Nat.pow_le_pow_right (show 0<256 by decide) h2;have:(256:Nat)^8=18446744073709551616:=(by decide)
  omega
theorem lineF_wf {xs:List Nat}(hb:∀x∈xs,x<256)(i:Nat):WfL (lineF xs i):=by
  refine ⟨by simp [lineF], ?_,by simp [lineF],by simp [lineF],by simp [lineF], ?_⟩
  . intro s hs
    simp only [lineF,List.mem_singleton] at hs;subst hs;simp
  intro s hs x hx
  simp only [lineF,List.mem_singleton] at hs;subst hs
  obtain ⟨j,hj,rfl⟩:=List.mem_iff_getElem.1 hx;rw [List.getElem_mapIdx];exact take8_lt hb _
theorem fromS_wf {n:Nat}{xs:List Nat}(h:0<n)(h2:n<=65536)(hb:∀x∈xs,x<256):WfD (fromS n xs):=
  ⟨by simp [fromS,newS];exact h,by simp [fromS,newS];exact h2,λ l hl=>by
    obtain ⟨j,hj,rfl⟩:=List.mem_iff_getElem.1 hl
    simp only [fromS,List.getElem_mapIdx];exact lineF_wf hb _,by simp [fromS,newS],by simp [fromS,newS],by simp [fromS,newS]⟩
def spl {α:Type}(l:List α)(p:Nat)(b:List α):List α:=l.take p++b++l.drop (p+b.length)
def stW (p:Nat)(b:List Nat)(s:DevS):List Nat:=spl (le 8 ((seenL (s.ls.getD (p/64) zline)).getD (p%64/8) 0)) (p%8) (b.take (8-p%8))
def storeF:Nat->Nat->List Nat->DevS->Int×DevS
  |0,_,_,s=>(0,s)
  |f+1,p,b,s=>if b=[] then (0,s) else
    if doneE (layS (p-p%8) (nm (stW p b s)) s)≠0 then (doneE (layS (p-p%8) (nm (stW p b s)) s),doneS (layS (p-p%8) (nm (stW p b s)) s))
    else storeF f (p+min (8-p%8) b.length) (b.drop (8-p%8)) (doneS (layS (p-p%8) (nm (stW p b s)) s))
def sto (p:Int)(b:List Nat)(s:DevS):Int×DevS:=if rdy s.ls.length s.off p b.length≠0 then (rdy s.ls.length s.off p b.length,s) else storeF b.length p.toNat b s
theorem cbqz {p:Prop}(h:p:=by repeat (first|with_reducible exact ct_here|apply ct_left)):p:=h
theorem rbqz {p:Prop}(h:p:=by repeat (first|assumption|with_reducible exact rs_sl|with_reducible exact rs_pt0|exact rs_none|apply Rs.left)):p:=h
theorem fn_sl {P:Program}{f:FuncId}{args:Array Value}{A A0:SP}{k n:Nat}{xs:List Value}(h:Fn P f args A (λ r B=>B=A0*Sl k r n xs)):Fn P f args A (λ r B=>∃a c,r= .slice a n c/\ n<=c/\ B=A0*Sl k (.slice a n c) n xs):=λ g w hs=>by
  refine (h g w hs).mono ?_;rintro e w' ⟨v,B,rfl,rfl,hB⟩;obtain ⟨a,c,rfl,h1,_⟩:=sl_have hB;exact ⟨_,_,rfl,⟨a,c,rfl,h1,rfl⟩,hB⟩
theorem ql_env {P:Program}{n:Nat}{ops:Array Oper}{A:SP}{K:Env->Prop}{l:List Oper}{ρ:Env}{d:Nat}{v:Value}(h:ρ d=v)(k:QL P n ops A K l (upd ρ d v)):QL P n ops A K l ρ:=by
  rw [←env_set h] at k;exact k
theorem Off_c {A R:SP}{C:SP->SP}{d:Nat}{s:DevS}(hc:Ct A (Dev d s) R C:=by exact cbqz)  :
    Fn Tryz.prog 262 #[pz d] A (λ r B=>r= .bool s.off/\ A=B):=by
  obtain ⟨rfl,hC⟩:=hc;exact OffD_f
def crS (keep:List Int)(s:DevS):Int×DevS:=if s.off then (5,s) else if lowB keep then (2,s) else (0,goesS keep s)
theorem Load_c {A R:SP}{C:SP->SP}{d:Nat}{s:DevS}(hc:Ct A (Dev d s) R C:=by exact cbqz){p m:Nat}(hoff:s.off=false:=by assumption)(hpm:p+m<=s.ls.length*64:=by omega):
    Fn Tryz.prog 247 #[pz d,vn p,vn m] A (λ r B=>∃a c,r= .tuple #[.slice a m c,.int .i64 0]/\ m<=c/\ B=A*Sl 1 (.slice a m c) m (bys (((imgS s).drop p).take m))):=by
  obtain ⟨rfl,hC⟩:=hc;refine λ g w hs=>(LoadD_f (F:=R) (d:=d) hoff hpm rfl g w hs).mono ?_
  rintro e w' ⟨v,B,rfl,⟨X,rfl,u,rfl,rfl⟩,hB⟩;obtain ⟨a,c,rfl,h1,_⟩:=sl_have hB;exact ⟨_,_,rfl,⟨a,c,rfl,h1,rfl⟩,hB⟩
theorem LoadNo_c {A R:SP}{C:SP->SP}{d:Nat}{s:DevS}(hc:Ct A (Dev d s) R C:=by exact cbqz){p m:Int}(hp: -9223372036854775808<=p/\ p<=9223372036854775807:=by omega)(hm: -9223372036854775808<=m/\ m<=9223372036854775807:=by omega)(hno:rdy s.ls.length s.off p m≠0:=by assumption):
    Fn Tryz.prog 247 #[pz d,.int .i64 p,.int .i64 m] A (λ r B=>r= .tuple #[.slice none 0 0,.int .i64 (rdy s.ls.length s.off p m)]/\ A=B):=by
  obtain ⟨rfl,hC⟩:=hc;exact fn_devR0 λ _ A bl svs av hR=>LoadNo_f A d bl svs av s hR p m hp hm hno
theorem New_c {A:SP}{n:Nat}{v:Int}(hv:v=((n*64:Nat):Int):=by omega)(hn:0<n:=by omega)(hn2:n<=65536:=by omega):Fn Tryz.prog 169 #[.int .i64 v] A (λ r B=>∃d,r= .tuple #[pz d,.int .i64 0]/\ B=A*Dev d (newS n)):=by
  subst hv;exact New_f A n hn hn2
theorem CopyBytes_c {A:SP}{a:Option Addr}{c m:Nat}{xs:List Nat}(hr:Rs A a (bys xs):=by exact rbqz)(hm:xs.length=m:=by first|assumption|rfl)(hl:m<=140737488351232:=by omega):
    Fn Tryz.prog 83 #[.slice a m c] A (λ r B=>∃a' c',r= .slice a' m c'/\ m<=c'/\ B=A*Sl 1 (.slice a' m c') m (bys xs)):=by
  subst hm;exact fn_rs hr λ hr=>fn_sl (CopyBytes_f A a c xs hr hl)
theorem EqBytes_c {A:SP}{a1 a2:Option Addr}{c1 c2 n m:Nat}{xs ys:List Nat}(h1:Rs A a1 (bys xs):=by exact rbqz)(h2:Rs A a2 (bys ys):=by exact rbqz)(hx:xs.length=n:=by first|assumption|rfl)(hy:ys.length=m:=by first|assumption|rfl)(hn:n<=4611686018427387904:=by omega)(hm:m<=4611686018427387904:=by omega):
    Fn Tryz.prog 54 #[.slice a1 n c1,.slice a2 m c2] A (λ r B=>r= .bool (decide (xs=ys))/\ A=B):=by
  subst hx hy;exact fn_rs h1 λ h1=>fn_rs h2 λ h2=>EqBytes_f A a1 a2 c1 c2 xs ys h1 h2 hn hm
theorem Take64_c {A:SP}{a:Option Addr}{c m:Nat}{xs:List Nat}{p:Nat}(hr:Rs A a (bys xs):=by exact rbqz)(hb:∀x∈xs,x<256:=by assumption)(hm:xs.length=m:=by first|assumption|rfl)(hp:p+8<=m:=by omega)(hl:m<=1099511627776:=by omega):
    Fn Tryz.prog 67 #[.slice a m c,vn p] A (λ r B=>r= .tuple #[.int .u64 ((nm ((xs.drop p).take 8):Nat):Int),.int .i64 0]/\ A=B):=by
  subst hm;exact fn_rs hr λ hr=>Take64_f A a c xs p hb hr hp hl
theorem Put64_c {A:SP}{a:Option Addr}{c m:Nat}{xs:List Nat}{v:Nat}(hr:Rs A a (bys xs):=by exact rbqz)(hm:xs.length=m:=by first|assumption|rfl)(hv:v<18446744073709551616:=by omega)(hl:m<=1099511627776:=by omega):
    Fn Tryz.prog 73 #[.slice a m c,.int .u64 (v:Nat)] A (λ r B=>∃a' c',r= .slice a' (m+8) c'/\ m+8<=c'/\ B=A*Sl 1 (.slice a' (m+8) c') (m+8) (bys (xs++le 8 v))):=by
  subst hm;exact fn_rs hr λ hr=>fn_sl ((Put64_f A a c xs v hr hv hl).mono λ _ _ ⟨u,e,h⟩=>by rw [e];exact h)
theorem hsqz {p:Prop}(h:p:=by repeat (first|with_reducible exact has_here|with_reducible exact has_pt|apply has_left)):p:=h
theorem drqz {p:Prop}(h:p:=by repeat (first|with_reducible exact dr_refl|apply dr_keep|apply dr_drop)):p:=h
def fromP (n:Nat)(xs:List Nat)(i:Nat):DevS:={ newS n with ls:=pm (λ j _=>lineF xs j) i (newS n).ls }
theorem fromP_zero (n:Nat)(xs:List Nat):fromP n xs 0=newS n:=by unfold fromP;rw [pm_zero]
theorem fromP_all (n:Nat)(xs:List Nat):fromP n xs n=fromS n xs:=by
  have h:(newS n).ls.length=n:=(by simp [newS]);have:=pm_all (λ j _=>lineF xs j) (newS n).ls;rw [h] at this
  unfold fromP fromS;rw [this]
theorem fromP_len (n:Nat)(xs:List Nat)(i:Nat):(fromP n xs i).ls.length=n:=by simp [fromP,pm_length,newS]
theorem fromP_at {n:Nat}(xs:List Nat){i:Nat}(h:i<n):(fromP n xs i).ls[i]'(by rw [fromP_len];exact h)=zline:=by
  simp only [fromP]
  rw [pm_at _ (by simpa [newS] using h)];simp [newS]
theorem fromP_set {n:Nat}(xs:List Nat){i:Nat}(h:i<n):{ fromP n xs i with ls:=(fromP n xs i).ls.set i (lineF xs i) }=fromP n xs (i+1):=by
  have hl:i<(newS n).ls.length:=(by simpa [newS] using h);have:=pm_set (λ j _=>lineF xs j) hl
  unfold fromP;simp only [this]
theorem fromP_wf {n:Nat}{xs:List Nat}{i:Nat}(h:0<n)(h2:n<=65536)(hb:∀x∈xs,x<256):WfD (fromP n xs i):=
  ⟨by rw [fromP_len];exact h,by rw [fromP_len];exact h2,λ l hl=>by
    obtain ⟨j,hj,rfl⟩:=List.mem_iff_getElem.1 hl
    simp only [fromP,pm,List.getElem_mapIdx]
    split
    . exact lineF_wf hb _
    simp only [newS,List.getElem_replicate];exact zline_wf,by simp [fromP,newS],by simp [fromP,newS],by simp [fromP,newS]⟩
def lineW (xs:List Nat)(i k:Nat):List Nat:=pm (λ k _=>wordF xs i k) k (List.replicate 8 0)
theorem lineW_zero (xs:List Nat)(i:Nat):lineW xs i 0=List.replicate 8 0:=pm_zero _ _
theorem lineW_set (xs:List Nat)(i:Nat){k:Nat}(h:k<8):(lineW xs i k).set k (wordF xs i k)=lineW xs i (k+1):=by
  have:=pm_set (λ k _=>wordF xs i k) (l:=List.replicate 8 0) (k:=k) (by simpa using h);exact this
theorem lineW_all (xs:List Nat)(i:Nat):(⟨[lineW xs i 8],-1⟩:LineS)=lineF xs i:=by
  have:=pm_all (λ k _=>wordF xs i k) (List.replicate 8 0);rw [List.length_replicate] at this
  unfold lineF lineW;rw [this]
theorem Za {p r:Prop}(k:r)(h:Kq r->p:=by intro k;refine tla ?_;refine nq ?_;exact k.o):p:=h ⟨k⟩
theorem Zm {p r:Prop}(k:r)(h:Kq r->p:=by intro k;refine tla ?_;refine Za ?_;exact k.o):p:=h ⟨k⟩
theorem Zb {p r:Prop}(k:r)(h:Kq r->p:=by intro k;refine sr ?_;refine tlm ?_;exact k.o):p:=h ⟨k⟩
theorem Zcs {p r:Prop}(k:r)(h:Kq r->p:=by intro k;refine Zm ?_;refine Zb ?_;exact k.o):p:=h ⟨k⟩
theorem Zg5 {p r:Prop}(k:r)(h:Kq r->p:=by intro k;refine sr ?_;refine Zcs ?_;exact k.o):p:=h ⟨k⟩
theorem Zf {p r:Prop}(k:r)(h:Kq r->p:=by intro k;refine tv (o_extract rfl rfl) ?_;refine tv (o_extract rfl rfl) ?_;exact k.o):p:=h ⟨k⟩
theorem Zbe {p r:Prop}(k:r)(h:Kq r->p:=by intro k;refine tlm ?_;refine Zf ?_;exact k.o):p:=h ⟨k⟩
theorem Zl {p r:Prop}(k:r)(h:Kq r->p:=by intro k;refine tc_seq ?_;refine Zb ?_;exact k.o):p:=h ⟨k⟩
theorem Zbo {p r:Prop}(k:r)(h:Kq r->p:=by intro k;refine Zm ?_;refine Zl ?_;exact k.o):p:=h ⟨k⟩
theorem Zc3 {p r:Prop}(k:r)(h:Kq r->p:=by intro k;refine Zbe ?_;refine Zbo ?_;exact k.o):p:=h ⟨k⟩
theorem Zz {p r:Prop}(k:r)(h:Kq r->p:=by intro k;refine tv (o_nei rfl rfl) ?_;refine Zn ?_;exact k.o):p:=h ⟨k⟩
theorem Zf2 {p r:Prop}(k:r)(h:Kq r->p:=by intro k;refine Zc3 ?_;refine Zz ?_;exact k.o):p:=h ⟨k⟩
theorem Zc4 {p r:Prop}(k:r)(h:Kq r->p:=by intro k;refine Ze ?_;refine Zl ?_;exact k.o):p:=h ⟨k⟩
theorem Zbl {p r:Prop}(k:r)(h:Kq r->p:=by intro k;refine tlm ?_;refine nq ?_;exact k.o):p:=h ⟨k⟩
theorem Zb8 {p r:Prop}(k:r)(h:Kq r->p:=by intro k;refine Zbl ?_;refine tc_block ?_;exact k.o):p:=h ⟨k⟩
theorem Ze9 {p r:Prop}(k:r)(h:Kq r->p:=by intro k;refine Zbp ?_;refine Zb ?_;exact k.o):p:=h ⟨k⟩
theorem Z1 {p r:Prop}(k:r)(h:Kq r->p:=by intro k;refine Zb ?_;refine tv (o_nilCheck rfl) ?_;exact k.o):p:=h ⟨k⟩
theorem Zbu {p r:Prop}(k:r)(h:Kq r->p:=by intro k;refine Za ?_;refine Zb ?_;exact k.o):p:=h ⟨k⟩
theorem Zc8 {p r:Prop}(k:r)(h:Kq r->p:=by intro k;refine tm 0 rfl kqz rfl (o_move wqz) ?_;refine tm 1 rfl kqz rfl (o_move wqz) ?_;exact k.o):p:=h ⟨k⟩
theorem Zc9 {p r:Prop}(k:r)(h:Kq r->p:=by intro k;refine tm 2 rfl kqz rfl (o_move wqz) ?_;refine tm 3 rfl kqz rfl (o_move wqz) ?_;exact k.o):p:=h ⟨k⟩
theorem Zcw {p r:Prop}(k:r)(h:Kq r->p:=by intro k;rintro _ _ ⟨rfl,rfl⟩;refine ⟨by repeat (first|with_reducible exact dr_refl|apply dr_keep|apply dr_drop), ?_⟩;exact k.o):p:=h ⟨k⟩
theorem Zfx {p r:Prop}(k:r)(h:Kq r->p:=by intro k;refine tm 10 rfl kqz rfl (o_extract rfl rfl) ?_;refine tm 11 rfl kqz rfl (o_extract rfl rfl) ?_;exact k.o):p:=h ⟨k⟩
theorem Zb4 {p r:Prop}(k:r)(h:Kq r->p:=by intro k;refine tv adqz ?_;refine Zbl ?_;exact k.o):p:=h ⟨k⟩
theorem Zc6 {p r:Prop}(k:r)(h:Kq r->p:=by intro k;refine Zr ?_;refine Zb4 ?_;exact k.o):p:=h ⟨k⟩
theorem Zdq {p r:Prop}(k:r)(h:Kq r->p:=by intro k;refine Zk ?_;refine Zb ?_;exact k.o):p:=h ⟨k⟩
theorem Zy {p r:Prop}(k:r)(h:Kq r->p:=by intro k;refine Zm ?_;refine tc_ret ?_;exact k.o):p:=h ⟨k⟩
theorem Zgj {p r:Prop}(k:r)(h:Kq r->p:=by intro k;refine Zdq ?_;refine Zy ?_;exact k.o):p:=h ⟨k⟩
theorem From_c {F:SP}{a:Option Addr}{c m:Nat}{xs:List Nat}(n:Nat)(hr:Rs F a (bys xs):=by exact rbqz)(hx:xs.length=m:=by first|assumption|rfl)(hm:m=n*64:=by omega)(hb:∀x∈xs,x<256:=by assumption)(hn:0<n:=by omega)(hn2:n<=65536:=by omega):
    Fn Tryz.prog 82 #[.slice a m c] (F) (λ r B=>∃d,r= .tuple #[pz d,.int .i64 0]/\ B=F*Dev d (fromS n xs)):=by
  refine fn_enterW func82 rfl ntmps82 (by simp) ?_;refine Zg5 ?_;refine tv (o_len underlying67 rfl) ?_;refine tl_c rfl (o_call bd169 rfl (New_c (n:=n))) ?_;rintro _ _ ⟨d12,rfl,rfl⟩;refine Zf2 ?_;intro h;refine Zc4 ?_;refine Zcu ?_;rw [←fromP_zero n xs]
  refine tl_dev λ hw bl svs av kvs hsv hkv=> ?_
  refine tv (o_load p234 rfl devC_d rfl) ?_;refine tv (o_len underlying234 rfl) ?_;rw [fromP_len]
  refine tl_pre (dev_back hw hsv hkv) ?_;refine Zb8 ?_;refine tc_loop (λ kk ρ BB=>∃ (i:Nat),(i<=n)/\ kk=n-i/\ ρ 23=(vn i)/\ ρ 0= .slice a m c/\ ρ 4=(pz d12)/\ ρ 22=(vn n)/\ BB=F*Dev d12 (fromP n xs i)) (m:=n-(0)) ?_ ?_
  . exact ⟨0,by omega,rfl,rfl,rfl,rfl,rfl,rfl⟩
  intro k ρ B hI;obtain ⟨i,hp0,hkk1,hE23,hE0,hE4,hE22,rfl⟩:=hI;refine te 23 hE23 ?_;refine te 0 hE0 ?_;refine te 4 hE4 ?_;refine te 22 hE22 ?_;refine Zcg ?_;refine tc_cond rfl (sbq ?_) (sbq ?_)
  . intro h;refine Ze9 ?_;refine Za ?_;refine Z1 ?_;refine tv (o_fieldAddr (o:=0) underlying236 rfl rfl sz234 rfl) ?_;refine tl_dev λ hw bl svs av kvs hsv hkv=> ?_
    have hi:i<(fromP n xs i).ls.length:=(by rw [fromP_len];omega);obtain ⟨R,hf1,hf2⟩:=devC_focus (d:=d12) (bl:=bl) (kvs:=kvs) (av:=av) (s:=fromP n xs i) hsv hi;refine tl_eq (hf1 F) ?_;rw [fromP_at xs (show i<n by omega)]
    refine tl_have (λ _ _ h=>sl_have' rfl h) λ ⟨a',c',hvv,hn',hl',hrd⟩=> ?_
    rw [hvv] at hrd ⊢
    obtain ⟨b,o,rfl,_⟩:=hrd.some (by decide);have hsl:svs.length=n:=(by rw [hsv,fromP_len]);have hcell:(lcs svs (fromP n xs i).ls)[i*2+0]? =some (.slice (some ⟨b,o,none⟩) 1 c'):=(by rw [Nat.add_zero,lcs_sv hsv oqz,hvv];rfl);rw [show (fromP n xs i).ls.length=n from fromP_len n xs i]
    refine tv (by first|exact o_load p234 rfl hsqz rfl|exact o_loadC p234 rfl (by assumption)) ?_;refine tlm ?_;refine tv (o_indexAddrN underlying234 sz241 rfl rfl oqz) ?_;refine tv (o_fieldAddr (o:=0) underlying241 rfl rfl sz239 rfl) ?_;refine tv (o_loadC p239 rfl (cell_of_has hsqz (by rw [Nat.zero_add];exact hcell))) ?_;refine tv (o_indexAddrN (j:=0) underlying239 sz238 rfl rfl (by decide)) ?_;refine Zbu ?_;refine nq ?_;refine tc_block ?_;refine tc_loop (λ kk ρ BB=>∃ (k:Nat),(k<=8)/\ kk=8-k/\ ρ 35=(vn k)/\ ρ 0= .slice a m c/\ ρ 4=(pz d12)/\ ρ 6=(vn i)/\ ρ 7= .pointer (some ⟨b,o,none⟩)/\ ρ 22=(vn n)/\ ρ 23=(vn i)/\ BB=F*R*pt bl (cl (lcs svs (fromP n xs i).ls) 241)*pt d12 (cl (dcs bl n (fromP n xs i) av) 236)*Sl 8 (.slice (some ⟨b,o,none⟩) 1 c') 1 (wds (lineW xs i k))) (m:=8-(0)) ?_ ?_
    . exact ⟨0,by omega,rfl,rfl,rfl,rfl,rfl,rfl,rfl,rfl,by rw [lineW_zero];rfl⟩
    intro k ρ B hI;obtain ⟨k,hp0,hkk2,hE35,hE0,hE4,hE6,hE7,hE22,hE23,rfl⟩:=hI;refine te 35 hE35 ?_;refine te 0 hE0 ?_;refine te 4 hE4 ?_;refine te 6 hE6 ?_;refine te 7 hE7 ?_;refine te 22 hE22 ?_;refine te 23 hE23 ?_;refine Zcg ?_;refine tc_cond rfl (sbq ?_) (sbq ?_)
    . intro h;refine Ze9 ?_;refine Za ?_;refine tc_regh (S:=F*R*pt bl (cl (lcs svs (fromP n xs i).ls) 241)*pt d12 (cl (dcs bl n (fromP n xs i) av) 236)) mo drqz ?_
      show TH _ _ _ _ _ 15 (Array.replicate 15 false) _ _
      refine Zc8 ?_;refine Zc9 ?_;refine tm 4 rfl kqz rfl (by first|exact o_mulI rfl rfl oqz|exact o_mul rfl rfl) ?_;refine tm 5 rfl kqz rfl (o_move wqz) ?_;refine tm 6 rfl kqz rfl (by first|exact o_mulI rfl rfl oqz|exact o_mul rfl rfl) ?_;refine tm 7 rfl kqz rfl adqz ?_;refine th_env (d:=46) (v:=(vn (i*64+k*8))) (rfl) ?_;refine tm 12 rfl kqz rfl (o_nilCheck rfl) ?_;refine th_one (i:=8) kqz ?_;refine oh_c rfl rfl rfl (o_call bd67 rfl (Take64_c)) ?_;refine Zcw ?_;refine tm 9 rfl kqz rfl (o_move wqz) ?_;refine Zfx ?_;refine tm 13 rfl kqz rfl (o_indexAddrAN1 (j:=k) underlying238 sz141 rfl rfl oqz) ?_;refine th_one (i:=14) kqz ?_;refine oh_u rfl rfl rfl (o_storeSlK (i:=k) (k:=8) (m:=1) (xs:=wds (lineW xs i k)) (ys:=wds ((lineW xs i k).set k (wordF xs i k))) sz141 rfl rfl rfl oqz (wds_set' _ _ _) (by repeat (first|with_reducible exact foc_here|apply foc_left))) drqz ?_;refine th_done kqz ?_;refine Zc6 ?_;exact ⟨_,by omega,k+1,by omega,rfl,rfl,rfl,rfl,rfl,rfl,rfl,rfl,by rw [←lineW_set xs i oqz]⟩
    intro h;refine Zea ?_;refine tc_reg ?_;obtain rfl:k=8:=by omega
    have hfin:=hf2 F (.slice (some ⟨b,o,none⟩) 1 c') (lineF xs i);refine tl_eq (A':=F*DevC d12 bl (svs.set i (.slice (some ⟨b,o,none⟩) 1 c')) av kvs { fromP n xs i with ls:=(fromP n xs i).ls.set i (lineF xs i) }) ?_ ?_
    . rw [←hfin,←lineW_all]
      have e1:lcs (svs.set i (.slice (some ⟨b,o,none⟩) 1 c')) ((fromP n xs i).ls.set i ⟨[lineW xs i 8],-1⟩)=lcs svs (fromP n xs i).ls:=by
        rw [←lcs_set_sv (⟨[lineW xs i 8],-1⟩:LineS) hsv hi (by rw [fromP_at xs (show i<n by omega)];rfl)]
        have h1:i*2<(lcs svs (fromP n xs i).ls).length:=(by rw [lcs_length hsv];omega);have h2:=List.getElem?_eq_getElem h1;rw [Nat.add_zero] at hcell
        rw [hcell] at h2
        rw [Option.some.inj h2]
        exact set_getElem h1
      rw [e1,fromP_len];rfl
    refine tl_pre (dev_back (by rw [fromP_set xs (show i<n by omega)];exact fromP_wf hn hn2 hb) (by simp [hsv]) hkv) ?_;rw [fromP_set xs (show i<n by omega)]
    refine Zb4 ?_;exact ⟨_,by omega,i+1,by omega,rfl,rfl,rfl,rfl,rfl,rfl⟩
  intro h;refine Zgj ?_;obtain rfl:i=n:=by omega
  rw [fromP_all]
  exact ⟨_,_,res2 rfl rfl rfl,λ _ _ h=>h,d12,rfl,rfl⟩
structure RdA (A:SP) (a:Option Addr) (kvs:List Value) (ars:List (Int×List Int)):Prop where
  rd:Rs A a (acs kvs ars)
  len:kvs.length=ars.length
  keep:∀i (h:i<ars.length),∃b c,kvs[i]? =some (.slice b ars[i].2.length c)/\ ars[i].2.length<=c/\ Rs A b (ints ars[i].2)
theorem RdA.left {A X:SP}{a:Option Addr}{kvs:List Value}{ars:List (Int×List Int)}(h:RdA A a kvs ars):RdA (A*X) a kvs ars:=
  ⟨h.rd.left,h.len,λ i hi=>by obtain ⟨b,c,e,hc,hr⟩:=h.keep i hi;exact ⟨b,c,e,hc,hr.left⟩⟩
theorem sl_share {k n:Nat}{v:Value}{xs:List Value}{R:SP}{g:Gh}{w:World}(hs:sat g w (R*Sl k v n xs)):sat g w (R*SlR k v n xs):=by
  obtain ⟨hl,⟨e1,e2,h⟩|⟨b,off,cap,l,E,e1,h1,h2,h3,h⟩⟩:=sl_iff.1 hs
  . obtain ⟨x,ha,hx⟩:=h.hp;refine ⟨h.os,h.tape,h.out,x,⟨x,λ _=>none,λ _=> .inr (.inl rfl), ?_,ha,hl,.inl ⟨e1,e2,rfl⟩⟩,hx⟩
    funext b;simp [Hp.un]
  have h':=h.share;obtain ⟨_,⟨x,y,hd,rfl,ha,hb⟩,hx⟩:=h'.hp;exact ⟨h'.os,h'.tape,h'.out,_,⟨x,y,hd,rfl,ha,hl,.inr ⟨b,off,cap,l,E,e1,h1,h2,h3,hb⟩⟩,hx⟩
def badA (x:Int×List Int):Bool:=decide (x.1<1)||lowB x.2
def armS (ars:List (Int×List Int))(s:DevS):Int×DevS:=if s.off then (5,s) else if ars.any badA then (2,s) else if 64<ars.length+s.arms.length then (4,s) else (0,{ s with arms:=s.arms++ars })
theorem Size_c {A R:SP}{C:SP->SP}{d:Nat}{s:DevS}(hc:Ct A (Dev d s) R C:=by exact cbqz):Fn Tryz.prog 155 #[pz d] A (λ r B=>r= .int .i64 ((s.ls.length:Int)*64)/\ A=B):=by
  obtain ⟨rfl,hC⟩:=hc;exact fn_devR0 λ _ A bl svs av hR=>Size_f A d bl s.ls.length s av hR.d hR.wf.pos hR.wf.top
def cpB (ws:List Value)(ls:List LineS)(i:Nat):List Value:=lcs (ws++List.replicate (ls.length-i) (.slice none 0 0)) (ls.take i++List.replicate (ls.length-i) ⟨[],0⟩)
section
variable {α:Type} {f:α->List Value} {k:Nat}
theorem fm_drop:∀{l:List α} {i:Nat} (_:∀a∈l,(f a).length=k),(l.flatMap f).drop (i*k)=(l.drop i).flatMap f
  |[],i,_=>by simp
  |a::l,0,_=>by simp
  |a::l,i+1,h=>by
    have e:(i+1)*k=(f a).length+i*k:=(by rw [h a (by simp),Nat.add_mul];omega);rw [e,List.flatMap_cons,List.drop_length_add_append,fm_drop (λ x hx=>h x (List.mem_cons_of_mem _ hx)),List.drop_succ_cons]
theorem fm_at {l:List α}{i:Nat}(h:∀a∈l,(f a).length=k)(hi:i<l.length):((l.flatMap f).drop (i*k)).take k=f l[i]:=by
  rw [fm_drop h,List.drop_eq_getElem_cons hi,List.flatMap_cons]
  have:=h _ (List.getElem_mem hi)
  conv=>lhs;arg 1;rw [←this]
  rw [List.take_left]
theorem fm_atj {l:List α}{i j p:Nat}(h:∀a∈l,(f a).length=k)(hi:i<l.length)(hj:j<k)(hp:p=i*k+j):(l.flatMap f)[p]? =(f l[i])[j]? :=by
  subst hp;rw [←List.getElem?_drop,fm_drop h,List.drop_eq_getElem_cons hi,List.flatMap_cons,List.getElem?_append_left (by rw [h _ (List.getElem_mem hi)];exact hj)]
theorem fm_sn (l:List α)(a:α):l.flatMap f++f a=(l++[a]).flatMap f:=by simp
end
section
variable {α:Type} {f:α->SP}
def Bs (f:α->SP):List α->SP
  |[]=>emp
  |a::l=>Bs f l*f a
theorem bs_nil:Bs f []=emp:=rfl
theorem bs_cons (a:α)(l:List α):Bs f (a::l)=Bs f l*f a:=rfl
theorem bs_append:∀ (l m:List α),Bs f (l++m)=Bs f l*Bs f m
  |[],m=>(emp_star _).symm
  |a::l,m=>by rw [List.cons_append,bs_cons,bs_cons,bs_append l m,star_swap]
theorem bs_snoc (l:List α)(a:α):Bs f (l++[a])=Bs f l*f a:=by rw [bs_append,bs_cons,bs_nil,emp_star]
theorem bs_get:∀{l:List α} {i:Nat} (hi:i<l.length),∃R,Bs f l=R*f l[i]/\∀y,Bs f (l.set i y)=R*f y
  |a::l,0,_=>⟨Bs f l,rfl,λ _=>rfl⟩
  |a::l,i+1,hi=>by
    obtain ⟨R,h1,h2⟩:=bs_get (l:=l) (i:=i) (by simpa using hi);refine ⟨R*f a, ?_,λ y=> ?_⟩
    . simp only [bs_cons,List.getElem_cons_succ];rw [h1,star_swap]
    simp only [List.set_cons_succ,bs_cons];rw [h2,star_swap]
end
theorem rs_cutC {A:SP}{a:Option Addr}{cap l:Nat}{X:List Nat}(h:Rs A a (bys X))(hx:X.length<=cap):Rs A (cutAddr a cap l 1) (bys (X.drop l)):=by
  have:=rs_cut (l:=l) (k:=1) (cap:=cap) h (by rw [bys_length];omega);rw [Nat.mul_one] at this
  unfold bys at this ⊢
  rwa [←List.map_drop] at this
theorem bys_takeG (xs:List Nat)(n:Nat):(bys xs).take n=bys (xs.take n):=by simp [bys,List.map_take]
theorem rs_mid {A:SP}{a:Option Addr}{cap l m:Nat}{X:List Nat}(h:Rs A a (bys X))(hx:X.length<=cap):Rs A (cutAddr a cap l 1) (bys ((X.drop l).take m)):=by
  rw [←bys_takeG];exact (rs_cutC h hx).sub m
structure ME where
  k:Int
  v:Value
  b:Nat
structure MS where
  D:List ME
  c:Nat
def ment (ik:IntKind)(e:ME):MapEntry:=⟨.int ik e.k,e.v,e.b⟩
def mpo (ik:IntKind)(M:MS):Obj:= .map (M.D.map (ment ik)).toArray M.c
def mfind:List ME->Int->Nat->Option (Nat×Value)
  |[],_,_=>none
  |e::D,a,i=>if a=e.k then some (i,e.v) else mfind D a (i+1)
def MS.get (M:MS)(a:Int):Option Value:=(mfind M.D a 0).map Prod.snd
def MS.put (M:MS)(a:Int)(v:Value):MS:=match mfind M.D a 0 with
  |some (i,_)=>⟨M.D.modify i (λ e=>⟨e.k,v,e.b⟩),M.c⟩
  |none=>⟨M.D++[⟨a,v,M.c⟩],M.c+1⟩
def MS.del (M:MS)(a:Int):MS:=match mfind M.D a 0 with
  |some (i,_)=>⟨M.D.eraseIdx i,M.c⟩
  |none=>M
def MS.clr (M:MS):MS:=⟨[],M.c⟩
structure WfM (M:MS):Prop where
  keys:(M.D.map ME.k).Nodup
  born:(M.D.map ME.b).Nodup
  past:∀e∈M.D,e.b<M.c
theorem mfind_i:∀{D:List ME} {a:Int} {i:Nat},mfind D a i=(mfind D a 0).map λ p=>(p.1+i,p.2)
  |[],_,_=>rfl
  |e::D,a,i=>by
    unfold mfind
    split
    . simp
    rw [mfind_i (i:=i+1),mfind_i (i:=0+1)]
    cases mfind D a 0<;>simp;omega
theorem mfind_some:∀{D:List ME} {a:Int} {i:Nat} {v:Value},mfind D a 0=some (i,v)->∃h:i<D.length,D[i].k=a/\ D[i].v=v
  |e::D,a,i,v,h=>by
    unfold mfind at h
    split at h
    . rename_i he
      simp only [Option.some.injEq,Prod.mk.injEq] at h
      obtain ⟨rfl,rfl⟩:=h;exact ⟨by simp,he.symm,rfl⟩
    rw [mfind_i] at h
    cases hm:mfind D a 0 with
    |none=>rw [hm] at h;cases h
    |some p=>
      rw [hm] at h
      simp only [Option.map_some,Option.some.injEq,Prod.mk.injEq] at h
      obtain ⟨rfl,rfl⟩:=h;obtain ⟨h1,h2,h3⟩:=mfind_some (D:=D) (i:=p.1) (v:=p.2) hm;exact ⟨by simp;omega,by simpa using h2,by simpa using h3⟩
theorem mfind_none:∀{D:List ME} {a:Int},mfind D a 0=none->∀e∈D,e.k≠a
  |[],_,_=>by simp
  |x::D,a,h=>by
    unfold mfind at h
    split at h
    . cases h
    rename_i hx
    rw [mfind_i] at h
    have hm:mfind D a 0=none:=(by cases hm:mfind D a 0<;>rw [hm] at h<;>first|rfl|cases h);intro e he
    rcases List.mem_cons.1 he with rfl|he
    . exact λ e=>hx e.symm
    exact mfind_none hm e he
theorem mfind_cons (e:ME)(D:List ME)(a:Int)(i:Nat):mfind (e::D) a i=if a=e.k then some (i,e.v) else mfind D a (i+1):=rfl
theorem mfind_append:∀{D E:List ME} {a:Int},mfind (D++E) a 0=(mfind D a 0).or (mfind E a D.length)
  |[],E,a=>by simp [mfind]
  |x::D,E,a=>by
    rw [List.cons_append,mfind_cons,mfind_cons]
    split
    . simp
    rw [mfind_i,mfind_append,mfind_i (i:=0+1) (D:=D)]
    have:mfind E a (x::D).length=(mfind E a D.length).map λ p=>(p.1+1,p.2):=by
      rw [mfind_i,mfind_i (i:=D.length)];cases mfind E a 0<;>simp;omega
    rw [this]
    cases mfind D a 0<;>simp
theorem mfind_modify:∀{D:List ME} {a c:Int} {i:Nat} {u v:Value},mfind D a 0=some (i,u)->mfind (D.modify i λ e=>⟨e.k,v,e.b⟩) c 0=if a=c then some (i,v) else mfind D c 0
  |e::D,a,c,i,u,v,h=>by
    unfold mfind at h
    split at h
    . rename_i he
      simp only [Option.some.injEq,Prod.mk.injEq] at h
      obtain ⟨rfl,rfl⟩:=h;subst he;rw [List.modify_zero_cons]
      unfold mfind
      by_cases hc:e.k=c
      . rw [if_pos hc.symm,if_pos hc]
      rw [if_neg (λ h=>hc h.symm),if_neg hc,if_neg (λ h=>hc h.symm)]
    rename_i he
    rw [mfind_i] at h
    cases hm:mfind D a 0 with
    |none=>rw [hm] at h;cases h
    |some p=>
      rw [hm] at h
      simp only [Option.map_some,Option.some.injEq,Prod.mk.injEq] at h
      obtain ⟨rfl,rfl⟩:=h;rw [List.modify_succ_cons]
      have ih:=mfind_modify (c:=c) (v:=v) (i:=p.1) (u:=p.2) hm
      unfold mfind
      by_cases hc:c=e.k
      . subst hc;rw [if_pos rfl,if_neg he,if_pos rfl]
      rw [if_neg hc,if_neg hc,mfind_i,ih]
      split
      . simp
      rw [mfind_i (i:=0+1)]
theorem MS.get_put {M:MS}{a c:Int}{v:Value}:(M.put a v).get c=if a=c then some v else M.get c:=by
  unfold MS.put MS.get
  cases h:mfind M.D a 0 with
  |some p=>
    obtain ⟨i,u⟩:=p
    simp only []
    rw [mfind_modify h]
    split<;>rfl
  |none=>
    simp only []
    rw [mfind_append]
    by_cases hc:a=c
    . subst hc;rw [h,if_pos rfl];simp [mfind]
    rw [if_neg hc]
    have:mfind [(⟨a,v,M.c⟩:ME)] c M.D.length=none:=(by simp [mfind,Ne.symm hc]);rw [this,Option.or_none]
theorem MS.get_nil {c:Nat}{a:Int}:(⟨[],c⟩:MS).get a=none:=rfl
theorem wfM_put {M:MS}{a:Int}{v:Value}(h:WfM M):WfM (M.put a v):=by
  unfold MS.put
  cases hf:mfind M.D a 0 with
  |some p=>
    obtain ⟨i,u⟩:=p
    have e1:∀ (l:List ME) (i:Nat),(l.modify i λ e=>⟨e.k,v,e.b⟩).map ME.k=l.map ME.k:=λ l i=>by
      apply List.ext_getElem?;intro j;simp only [List.getElem?_map,List.getElem?_modify];cases l[j]? <;>simp;split<;>rfl
    have e2:∀ (l:List ME) (i:Nat),(l.modify i λ e=>⟨e.k,v,e.b⟩).map ME.b=l.map ME.b:=λ l i=>by
      apply List.ext_getElem?;intro j;simp only [List.getElem?_map,List.getElem?_modify];cases l[j]? <;>simp;split<;>rfl
    refine ⟨by simp only [];rw [e1];exact h.keys,by simp only [];rw [e2];exact h.born,λ e he=> ?_⟩
    simp only [] at he ⊢
    have hb:e.b∈(M.D.modify i λ e=>⟨e.k,v,e.b⟩).map ME.b:=List.mem_map_of_mem he;rw [e2] at hb
    obtain ⟨e',he',hbe⟩:=List.mem_map.1 hb;rw [←hbe];exact h.past e' he'
  |none=>
    have hn:=mfind_none hf;refine ⟨?_, ?_,λ e he=> ?_⟩
    . simp only [List.map_append,List.map_cons,List.map_nil]
      exact List.nodup_append.2 ⟨h.keys,by simp,λ x hx y hy=>by
        simp only [List.mem_singleton] at hy;subst hy
        obtain ⟨e,he,rfl⟩:=List.mem_map.1 hx
        exact hn e he⟩
    . simp only [List.map_append,List.map_cons,List.map_nil]
      exact List.nodup_append.2 ⟨h.born,by simp,λ x hx y hy=>by
        simp only [List.mem_singleton] at hy;subst hy
        obtain ⟨e,he,rfl⟩:=List.mem_map.1 hx
        have:=h.past e he;omega⟩
    rcases List.mem_append.1 he with he|he
    . have:=h.past e he;show e.b<M.c+1;omega
    simp only [List.mem_singleton] at he;subst he;exact Nat.lt_succ_self _
theorem findNow_e {ik:IntKind}{a:Int}:∀ (D:List ME) (i:Nat),Instr.findNow (.int ik) (.int ik a) (D.map (ment ik)) i=some (mfind D a i)
  |[],i=>rfl
  |e::D,i=>by
    simp only [List.map_cons,Instr.findNow,ment,Instr.sameNow,if_true]
    unfold mfind
    by_cases h:a=e.k
    . subst h;simp
    have:(a==e.k)=false:=(by simpa using h);rw [this,if_neg h];exact findNow_e D (i+1)
section
variable {P:Program} {w:World} {ik:IntKind} {kt:TypeId}
theorem run_findKey {D:List ME}{a:Int}(hk:P.underlying kt=some (.int ik)):(Instr.findKey kt (.int ik a) (D.map (ment ik))).run P w= .ok (mfind D a 0) w:=by
  unfold Instr.findKey
  rw [run_bind (run_und hk),findNow_e];rfl
theorem run_checkKey {b:Bool}{a:Int}(hk:P.underlying kt=some (.int ik)):(Instr.checkKey b 10000 kt (.int ik a)).run P w= .ok () w:=by
  show (Instr.checkKey b (9999+1) kt (.int ik a)).run P w=_
  rw [Instr.checkKey,run_bind (run_und hk)];rfl
theorem run_getMap {b:Nat}{M:MS}(h:w.heap[b]? =some (mpo ik M)):(getObj b).run P w= .ok (mpo ik M) w:=by
  simp [getObj,Sem.run,h,mpo]
theorem run_setMap {b:Nat}{M:MS}{o:Obj}(h:w.heap[b]? =some (mpo ik M)):(setObj b o).run P w= .ok () { w with heap:=w.heap.setIfInBounds b o }:=by
  simp [setObj,Sem.run,h,mpo]
end
theorem set_heap {w:World}{b:Nat}{o o':Obj}(h:w.heap[b]? =some o)(k:Nat):({ w with heap:=w.heap.setIfInBounds b o' }:World).heap[k]? =if k=b then some o' else w.heap[k]? :=by
  show (w.heap.setIfInBounds b o')[k]? =_
  rw [Array.getElem?_setIfInBounds]
  have hb:b<w.heap.size:=by
    rcases Nat.lt_or_ge b w.heap.size with h1|h1
    . exact h1
    rw [Array.getElem?_eq_none h1] at h;cases h
  by_cases hk:b=k
  . subst hk;simp [hb]
  rw [if_neg hk,if_neg (Ne.symm hk)]
section
variable {P:Program} {n:Nat} {ρ:Env} {A:SP} {dst:Option Tmp} {ty:TypeId} {pos:String} {after:Array Edge} {gd:Option (Nat×Bool)} {ik:IntKind} {kt et t:TypeId} {x y:Operand} {b:Nat} {M M':MS} {a:Int} {A':SP} {z:Value}
theorem o_makeMap (hu:P.underlying t=some (.map kt et)):OpX P n ρ A ⟨dst,.makeMap t none,ty,pos,after,gd⟩ (λ v B=>∃b,v= .map (some b)/\ B=A*pt b (mpo ik ⟨[],0⟩)):=λ g w hs=>by
  refine ⟨_,w.alloc (mpo ik ⟨[],0⟩),_, ?_,hs.alloc _,w.heap.size,rfl,rfl⟩
  simp only [execOp,Option.map_none]
  rw [run_bind (a:= .map (some w.heap.size)) (w':=w.alloc (mpo ik ⟨[],0⟩))]
  . rfl
  rfl
theorem o_lookup (hu:P.underlying t=some (.map kt et))(hk:P.underlying kt=some (.int ik))(hz:zeroE P et=some z)(hx:ev n ρ x= .map (some b))(hy:ev n ρ y= .int ik a)(hh:Has A b (mpo ik M)):
    OpV P n ρ A ⟨dst,.lookup t x y false,ty,pos,after,gd⟩ ((M.get a).getD z):=λ g w hs=>by
  have h:=hh g w hs
  simp only [execOp,hx,hy]
  rw [run_bind (a:=(M.get a).getD z) (w':=w)]
  . rfl
  unfold Instr.lookup
  rw [run_bind (run_und hu)]
  simp only []
  rw [run_bind (run_getMap h)]
  simp only [mpo]
  rw [run_bind (a:=(M.D.map (ment ik)).toArray) (w':=w) rfl,run_bind (run_checkKey hk),run_bind (run_findKey hk)]
  unfold MS.get
  cases mfind M.D a 0 with
  |none=>simp only [Option.map_none,Option.getD_none];rw [run_bind (run_zeroV hz)];rfl
  |some p=>rfl
theorem o_lookupOk (hu:P.underlying t=some (.map kt et))(hk:P.underlying kt=some (.int ik))(hz:zeroE P et=some z)(hx:ev n ρ x= .map (some b))(hy:ev n ρ y= .int ik a)(hh:Has A b (mpo ik M)):
    OpV P n ρ A ⟨dst,.lookup t x y true,ty,pos,after,gd⟩ (.tuple #[(M.get a).getD z,.bool (M.get a).isSome]):=λ g w hs=>by
  have h:=hh g w hs
  simp only [execOp,hx,hy]
  rw [run_bind (a:= .tuple #[(M.get a).getD z,.bool (M.get a).isSome]) (w':=w)]
  . rfl
  unfold Instr.lookup
  rw [run_bind (run_und hu)]
  simp only []
  rw [run_bind (run_getMap h)]
  simp only [mpo]
  rw [run_bind (a:=(M.D.map (ment ik)).toArray) (w':=w) rfl,run_bind (run_checkKey hk),run_bind (run_findKey hk)]
  unfold MS.get
  cases mfind M.D a 0 with
  |none=>simp only [Option.map_none,Option.getD_none,Option.isSome_none];rw [run_bind (run_zeroV hz)];rfl
  |some p=>rfl
theorem o_mapUpdate {v:Value}{u:Operand}(hu:P.underlying t=some (.map kt et))(hk:P.underlying kt=some (.int ik))(hx:ev n ρ x= .map (some b))(hup:Upd A b (mpo ik M) (mpo ik M') A')(hy:ev n ρ y= .int ik a)(hv:ev n ρ u=v)(he:M.put a v=M'):
    OpU P n ρ A ⟨dst,.mapUpdate t x y u,ty,pos,after,gd⟩ A':=λ g w hs=>by
  have h:=hup.has g w hs;refine ⟨{ w with heap:=w.heap.setIfInBounds b (mpo ik M') }, ?_,hup.sat hs (set_heap h) rfl rfl rfl⟩
  simp only [execOp,hx,hy,hv]
  rw [run_bind (a:=()) (w':={ w with heap:=w.heap.setIfInBounds b (mpo ik M') })]
  . rfl
  unfold Instr.mapUpdate
  rw [run_bind (run_und hu)]
  simp only []
  rw [run_bind (run_getMap h)]
  simp only [mpo]
  rw [run_bind (run_checkKey hk),run_bind (run_findKey hk)]
  subst he
  unfold MS.put
  cases hf:mfind M.D a 0 with
  |none=>
    simp only []
    rw [run_setMap h]
    simp [mpo,ment]
  |some p=>
    obtain ⟨i,u0⟩:=p;obtain ⟨hi,h1,_⟩:=mfind_some hf
    simp only []
    have hkk:((((M.D.map (ment ik)).toArray[i]?).map (·.key)).getD (.int ik a))= .int ik a:=(by simp [hi,ment,h1]);rw [hkk,run_bind (a:= .int ik a) (w':=w)]
    . rw [run_setMap h]
      congr 3
      simp only [mpo,Obj.map.injEq,and_true]
      apply Array.ext'
      simp only [Array.toList_modify,List.toList_toArray]
      apply List.ext_getElem?
      intro j
      simp only [List.getElem?_modify,List.getElem?_map]
      by_cases hj:i=j
      . subst hj;rw [List.getElem?_eq_getElem hi];simp [ment,h1]
      simp only [if_neg hj]
      cases M.D[j]? <;>simp
    unfold Instr.keyThatStays
    have:Instr.sameBits 10000 (.int ik a) (.int ik a)=true:=(by simp [Instr.sameBits]);rw [if_pos this];rfl
end
end Go.Vl

namespace Go.Proofs
open Go.Shelf
def Tryz.sortA_ren:Go.Shelf.Ren:=⟨λ|5=>260|8=>302|7=>301|19=>333|20=>334|10=>324|11=>325|12=>326|13=>327|14=>328|15=>329|16=>330|17=>331|18=>332|30=>345|31=>346|32=>347|33=>348|34=>349|35=>350|40=>354|n=>n,λ|23=>34|25=>3|3=>3|32=>254|22=>34|0=>0|44=>53|46=>141|4=>4|36=>424|35=>423|41=>428|5=>5|9=>9|53=>440|57=>444|63=>446|64=>100|n=>n,λ|n=>n⟩
theorem Tryz.sortA:Go.Proofs.SlLaysM.n5 Tryz.prog Tryz.sortA_ren:={
  mixed:=by kernel_rfl
  f5:=⟨Tryz.f260.name,by decide,func260.trans (congrArg some (by kernel_rfl))⟩
  f7:=⟨Tryz.f301.name,by decide,func301.trans (congrArg some (by kernel_rfl))⟩
  f8:=func302.trans (congrArg some (by kernel_rfl))
  f10:=⟨Tryz.f324.name,by decide,func324.trans (congrArg some (by kernel_rfl))⟩
  f11:=⟨Tryz.f325.name,by decide,func325.trans (congrArg some (by kernel_rfl))⟩
  f12:=⟨Tryz.f326.name,by decide,func326.trans (congrArg some (by kernel_rfl))⟩
  f13:=⟨Tryz.f327.name,by decide,func327.trans (congrArg some (by kernel_rfl))⟩
  f14:=⟨Tryz.f328.name,by decide,func328.trans (congrArg some (by kernel_rfl))⟩
  f15:=⟨Tryz.f329.name,by decide,func329.trans (congrArg some (by kernel_rfl))⟩
  f16:=⟨Tryz.f330.name,by decide,func330.trans (congrArg some (by kernel_rfl))⟩
  f17:=⟨Tryz.f331.name,by decide,func331.trans (congrArg some (by kernel_rfl))⟩
  f18:=⟨Tryz.f332.name,by decide,func332.trans (congrArg some (by kernel_rfl))⟩
  f19:=func333.trans (congrArg some (by kernel_rfl))
  f20:=func334.trans (congrArg some (by kernel_rfl))
  f30:=⟨Tryz.f345.name,by decide,func345.trans (congrArg some (by kernel_rfl))⟩
  f31:=func346.trans (congrArg some (by kernel_rfl))
  f32:=func347.trans (congrArg some (by kernel_rfl))
  f33:=⟨Tryz.f348.name,by decide,func348.trans (congrArg some (by kernel_rfl))⟩
  f34:=⟨Tryz.f349.name,by decide,func349.trans (congrArg some (by kernel_rfl))⟩
  f35:=⟨Tryz.f350.name,by decide,func350.trans (congrArg some (by kernel_rfl))⟩
  f40:=⟨Tryz.f354.name,by decide,func354.trans (congrArg some (by kernel_rfl))⟩
  t0:=underlying0
  a0:=Tryz.isAgg0
  z0:=Tryz.sizeOf0
  v0:=Tryz.zeroValue0
  t3:=underlying3
  a3:=Tryz.isAgg3
  z3:=Tryz.sizeOf3
  v3:=Tryz.zeroValue3
  t4:=underlying4
  a4:=Tryz.isAgg4
  z4:=Tryz.sizeOf4
  v4:=Tryz.zeroValue4
  t5:=underlying5
  a5:=Tryz.isAgg5
  z5:=Tryz.sizeOf5
  v5:=Tryz.zeroValue5
  t9:=underlying9
  a9:=Tryz.isAgg9
  z9:=Tryz.sizeOf9
  v9:=Tryz.zeroValue9
  t22:=underlying34
  a22:=Tryz.isAgg34
  z22:=Tryz.sizeOf34
  v22:=Tryz.zeroValue34
  t23:=underlying34
  a23:=Tryz.isAgg34
  z23:=Tryz.sizeOf34
  v23:=Tryz.zeroValue34
  t25:=underlying3
  a25:=Tryz.isAgg3
  z25:=Tryz.sizeOf3
  v25:=Tryz.zeroValue3
  t32:=underlying254
  a32:=Tryz.isAgg254
  z32:=Tryz.sizeOf254
  v32:=Tryz.zeroValue254
  t35:=underlying423
  a35:=Tryz.isAgg423
  z35:=Tryz.sizeOf423
  v35:=Tryz.zeroValue423
  t36:=underlying424
  a36:=Tryz.isAgg424
  z36:=Tryz.sizeOf424
  v36:=Tryz.zeroValue424
  t41:=underlying428
  a41:=Tryz.isAgg428
  z41:=Tryz.sizeOf428
  v41:=Tryz.zeroValue428
  t44:=underlying53
  a44:=Tryz.isAgg53
  z44:=Tryz.sizeOf53
  v44:=Tryz.zeroValue53
  t46:=underlying141
  a46:=Tryz.isAgg141
  z46:=Tryz.sizeOf141
  v46:=Tryz.zeroValue141
  t53:=underlying440
  a53:=Tryz.isAgg440
  z53:=Tryz.sizeOf440
  v53:=Tryz.zeroValue440
  t57:=underlying444
  a57:=Tryz.isAgg444
  z57:=Tryz.sizeOf444
  v57:=Tryz.zeroValue444
  t63:=underlying446
  a63:=Tryz.isAgg446
  z63:=Tryz.sizeOf446
  v63:=Tryz.zeroValue446
  t64:=underlying100
  a64:=Tryz.isAgg100
  z64:=Tryz.sizeOf100
  v64:=Tryz.zeroValue100 }
def Tryz.sortedA_ren:Go.Shelf.Ren:=⟨λ|6=>202|8=>259|9=>260|11=>300|13=>302|12=>301|23=>333|24=>334|14=>324|15=>325|16=>326|17=>327|18=>328|19=>329|20=>330|21=>331|22=>332|25=>345|26=>346|27=>347|28=>348|29=>349|30=>350|31=>354|n=>n,λ|26=>3|28=>293|24=>34|0=>0|3=>3|37=>254|48=>53|50=>141|4=>4|40=>424|39=>423|45=>428|5=>5|9=>9|51=>440|55=>444|57=>446|58=>100|33=>233|n=>n,λ|n=>n⟩
theorem Tryz.sortedA:Go.Proofs.SlLaysZI.n6 Tryz.prog Tryz.sortedA_ren:={
  mixed:=by kernel_rfl
  f6:=⟨Tryz.f202.name,by decide,func202.trans (congrArg some (by kernel_rfl))⟩
  f8:=⟨Tryz.f259.name,by decide,func259.trans (congrArg some (by kernel_rfl))⟩
  f11:=⟨Tryz.f300.name,by decide,func300.trans (congrArg some (by kernel_rfl))⟩
  t0:=underlying0
  a0:=Tryz.isAgg0
  z0:=Tryz.sizeOf0
  v0:=Tryz.zeroValue0
  t24:=underlying34
  a24:=Tryz.isAgg34
  z24:=Tryz.sizeOf34
  v24:=Tryz.zeroValue34
  t26:=underlying3
  a26:=Tryz.isAgg3
  z26:=Tryz.sizeOf3
  v26:=Tryz.zeroValue3
  t28:=underlying293
  a28:=Tryz.isAgg293
  z28:=Tryz.sizeOf293
  v28:=Tryz.zeroValue293
  i26:=by kernel_rfl }
def Tryz.keysA_ren:Go.Shelf.Ren:=⟨λ|7=>203|10=>261|n=>n,λ|23=>124|26=>3|3=>4|28=>293|0=>0|27=>292|33=>233|4=>4|n=>n,λ|n=>n⟩
theorem Tryz.keysA:Go.Proofs.SlLaysZI.n7 Tryz.prog Tryz.keysA_ren:={
  mixed:=by kernel_rfl
  f7:=⟨Tryz.f203.name,by decide,func203.trans (congrArg some (by kernel_rfl))⟩
  f10:=⟨Tryz.f261.name,by decide,func261.trans (congrArg some (by kernel_rfl))⟩
  t0:=underlying0
  a0:=Tryz.isAgg0
  z0:=Tryz.sizeOf0
  v0:=Tryz.zeroValue0
  t4:=underlying4
  a4:=Tryz.isAgg4
  z4:=Tryz.sizeOf4
  v4:=Tryz.zeroValue4
  t23:=underlying124
  a23:=Tryz.isAgg124
  z23:=Tryz.sizeOf124
  v23:=Tryz.zeroValue124
  t26:=underlying3
  a26:=Tryz.isAgg3
  z26:=Tryz.sizeOf3
  v26:=Tryz.zeroValue3
  t27:=underlying292
  a27:=Tryz.isAgg292
  z27:=Tryz.sizeOf292
  v27:=Tryz.zeroValue292
  t28:=underlying293
  a28:=Tryz.isAgg293
  z28:=Tryz.sizeOf293
  v28:=Tryz.zeroValue293
  t33:=underlying233
  a33:=Tryz.isAgg233
  z33:=Tryz.sizeOf233
  v33:=Tryz.zeroValue233 }
end Go.Proofs

namespace Go.Vl
open Go Go.Proofs Go.Proofs.Tryz
theorem sat_ext {g:Gh}{w w':World}{A:SP}(h:sat g w A)(hh:∀ (k:Nat) (o:Obj),w.heap[k]? =some o->w'.heap[k]? =some o)(h1:w'.os=w.os)(h2:w'.tape=w.tape)(h3:w'.output=w.output):sat g w' A:=
  ⟨h1.trans h.os,h2.trans h.tape,h3.trans h.out,let ⟨x,ha,hx⟩:=h.hp;⟨x,ha,λ b o f hb=>hh _ _ (hx b o f hb)⟩⟩
def putL (off:Nat)(ys:List Value)(L:List Value):List Value:=L.mapIdx λ k x=>if off<=k/\ k<off+ys.length then ys.getD (k-off) x else x
def mit (b since:Nat)(seen:List Nat)(c:Nat):Obj:= .mapIter (some b) since seen.toArray c
def nxV (ik:IntKind)(o:Option ME):Value:=match o with
  |none=> .tuple #[.bool false]
  |some e=> .tuple #[.bool true,.int ik e.k,e.v]
def nxI (b c:Nat)(seen:List Nat)(o:Option ME):Obj:=match o with
  |none=>mit b c seen c
  |some e=>mit b c (seen++[e.b]) c
structure NxP (M:MS) (seen:List Nat) (o:Option ME):Prop where
  no:o=none->∀e∈M.D,e.b∈seen
  yes:∀e,o=some e->e∈M.D/\ e.b∉seen
theorem er_map {α β:Type}(f:α->β):∀ (l:List α) (i:Nat),(l.map f).eraseIdx i=(l.eraseIdx i).map f
  |[],_=>rfl
  |_::_,0=>rfl
  |x::l,i+1=>congrArg (f x::·) (er_map f l i)
section
variable {P:Program} {n:Nat} {ρ:Env} {A R:SP} {C:SP->SP} {dst:Option Tmp} {ty:TypeId} {pos:String} {after:Array Edge} {gd:Option (Nat×Bool)} {ik:IntKind} {kt et t:TypeId} {x y:Operand} {b r:Nat} {M M':MS} {a:Int} {A':SP} {z:Value} {seen:List Nat}
theorem o_delete (hu:P.underlying t=some (.map kt et))(hk:P.underlying kt=some (.int ik)){t':TypeId}(hx:ev n ρ x= .map (some b))(hy:ev n ρ y= .int ik a)(hup:Upd A b (mpo ik M) (mpo ik M') A')(he:M.del a=M'):
    OpX P n ρ A ⟨dst,.call { callee:= .builtin .delete,args:= #[x,y],argTypes:= #[t,t'] },ty,pos,after,gd⟩ (λ v B=>v= .tuple #[]/\ B=A'):=λ g w hs=>by
  have h:=hup.has g w hs;refine ⟨.tuple #[],{ w with heap:=w.heap.setIfInBounds b (mpo ik M') },A', ?_,hup.sat hs (set_heap h) rfl rfl rfl,rfl,rfl⟩
  simp only [execOp,resolve,List.map_toArray,List.map_cons,List.map_nil,hx,hy]
  rw [run_bind (w':=w) (a:=⟨.builtin .delete #[t,t'] ty _,#[.map (some b),.int ik a]⟩) (by rfl)]
  simp only [invoke,builtin]
  rw [run_bind (w':={ w with heap:=w.heap.setIfInBounds b (mpo ik M') }) (a:= .tuple #[])]
  . rfl
  unfold Builtin.delete_
  simp only [List.getElem?_toArray,List.getElem?_cons_zero,List.getElem?_cons_succ]
  rw [run_bind (run_und hu)]
  simp only []
  rw [run_bind (run_getMap h)]
  simp only [mpo]
  rw [run_bind (run_checkKey hk),run_bind (run_findKey hk)]
  subst he
  unfold MS.del
  cases hf:mfind M.D a 0 with
  |none=>simp only [];rw [run_bind (run_setMap h)];rfl
  |some p=>
    obtain ⟨i,u0⟩:=p;obtain ⟨hi,h1,_⟩:=mfind_some hf
    simp only []
    have e:(M.D.map (ment ik)).toArray.eraseIdxIfInBounds i=((M.D.eraseIdx i).map (ment ik)).toArray:=by
      unfold Array.eraseIdxIfInBounds
      rw [dif_pos (by simpa using hi)]
      apply Array.ext'
      simp [er_map]
    rw [e,run_bind (run_setMap h)];rfl
end
structure Vis (M:MS) (vis:List ME):Prop where
  sub:∀e∈vis,e∈M.D
  nd:(vis.map ME.b).Nodup
open Go.RowKit Go.Maps Go.Sort Go.Shelf Go.Proofs in
theorem Keys_c {A:SP}{b:Nat}:Fn Tryz.prog 203 #[.map (some b)] A (λ v B=>∃k,v= .func (.func 261) #[] #[pz k]/\ B=A*pt k (cl [.map (some b)] (Go.Proofs.Tryz.keysA_ren.t 23))):=by
  intro g w hs;refine (callsIn_wide (n:=6)).1 ((AnyZI.keys_in Go.Proofs.Tryz.keysA Fence.wide 6 trivial rfl (some b) w).mono ?_);rintro e w' ⟨rfl,rfl⟩;exact ⟨_,_,rfl,⟨w.heap.size,rfl,rfl⟩,hs.alloc _⟩
def rdK:Value->Option (DataW Unit×List MemPlace):=λ _=>some (.lit (.bool true),[])
theorem key_lit {k:Int}(hk: -9223372036854775808<=k/\ k<=9223372036854775807):keyOf Tryz.prog (Go.Proofs.Tryz.keysA_ren.t 26) (.int .i64 k)=some (.int .i64 k):=by
  have hu:Tryz.prog.underlying (Go.Proofs.Tryz.keysA_ren.t 26)=some (.int .i64):=(by kernel_rfl);have hwf:(Lit.int .i64 k).wf=true:=Go.WalkArith.wf_i64 hk
  unfold keyOf
  rw [hu]
  simp only [mapKey,hu]
  rw [if_pos ⟨trivial,hwf⟩]
theorem ment_rd {e:ME}(hk: -9223372036854775808<=e.k/\ e.k<=9223372036854775807):Go.WideElems.rd Tryz.prog (Go.Proofs.Tryz.keysA_ren.t 26) rdK (ment .i64 e)=some (.int .i64 e.k,.lit (.bool true)):=by
  unfold Go.WideElems.rd ment
  simp only []
  rw [key_lit hk];rfl
theorem ins_perm {H:Type}(x:Lit×DataW H):∀l:List (Lit×DataW H),(DataW.insert x l).Perm (x::l)
  |[]=>List.Perm.refl _
  |y::r=>by
    unfold DataW.insert
    split
    . exact List.Perm.refl _
    exact ((ins_perm x r).cons y).trans (List.Perm.swap x y r)
theorem fold_perm {H:Type}:∀l:List (Lit×DataW H),(l.foldr DataW.insert []).Perm l
  |[]=>List.Perm.refl _
  |x::l=>(ins_perm x _).trans ((fold_perm l).cons x)
theorem owns_mpo {w:World}{b:Nat}{M:MS}(hb:w.heap[b]? =some (mpo .i64 M))(hw:WfM M)(hk:∀e∈M.D,-9223372036854775808<=e.k/\ e.k<=9223372036854775807)(hl:M.D.length<=4194304):
    ∃D0:DataW Unit,w.ownsMap Tryz.prog (Go.Proofs.Tryz.keysA_ren.t 26) rdK b M.D.length D0/\ (Go.intKeys D0).Perm (M.D.map ME.k)/\ Go.Maps.size D0=M.D.length:=by
  have hmap:∀D:List ME,(∀e∈D,-9223372036854775808<=e.k/\ e.k<=9223372036854775807)->(D.map (ment .i64)).map (Go.WideElems.rg Tryz.prog (Go.Proofs.Tryz.keysA_ren.t 26) rdK)=D.map λ e=>(Lit.int .i64 e.k,(DataW.lit (.bool true):DataW Unit)):=λ D h=>by
    rw [List.map_map]
    refine List.map_congr_left λ e he=> ?_
    have h9:=Go.WideElems.rg_of (ment_rd (h e he));rw [Function.comp_apply,h9]
  refine ⟨.map ((M.D.map λ e=>(Lit.int .i64 e.k,DataW.lit (.bool true))).foldr DataW.insert []),⟨(M.D.map (ment .i64)).toArray,M.c,hb,⟨?_,⟨?_, ?_, ?_⟩, ?_⟩, ?_, ?_⟩, ?_, ?_⟩
  . simp only [List.size_toArray,List.length_map];exact Nat.le_trans hl (by decide)
  . intro x hx;obtain ⟨e,he,rfl⟩:=List.mem_map.1 (by simpa using hx);exact hw.past e he
  . simp only [List.map_map];exact hw.born
  . simp only [List.map_map]
    have:=hw.keys;rw [show ((λ x=>x.key) ∘ ment .i64:ME->Value)=(λ k=>Value.int .i64 k) ∘ ME.k from rfl,←List.map_map]
    exact List.Pairwise.map _ (λ a b hab e=>hab (by simpa using e)) this
  . intro x hx;obtain ⟨e,he,rfl⟩:=List.mem_map.1 (by simpa using hx);exact ⟨_,ment_rd (hk e he)⟩
  . simp
  . rw [hmap M.D hk]
  . unfold Go.intKeys
    have:=((fold_perm (M.D.map λ e=>(Lit.int .i64 e.k,(DataW.lit (.bool true):DataW Unit)))).map (λ p=>Go.intOf p.1));refine this.trans ?_;rw [List.map_map]
    exact List.Perm.refl _
  have:=(fold_perm (M.D.map λ e=>(Lit.int .i64 e.k,(DataW.lit (.bool true):DataW Unit)))).length_eq
  simpa [Go.Maps.size] using this
theorem sat_below {g:Gh}{w w':World}{A:SP}(h:sat g w A)(hb:Go.RowKit.Below w.heap.size w w'):sat g w' A:=
  sat_ext h (λ k o hk=>by
    have:k<w.heap.size:=by
      rcases Nat.lt_or_ge k w.heap.size with h1|h1
      . exact h1
      rw [Array.getElem?_eq_none h1] at hk;cases hk
    rw [hb.block k this];exact hk) hb.os hb.tape hb.output
theorem sat_more {g:Gh}{w w':World}{A:SP}{b:Nat}{o:Obj}(h:sat g w A)(hb:Go.RowKit.Below w.heap.size w w')(h1:w.heap.size<=b)(h2:w'.heap[b]? =some o):sat g w' (A*pt b o):=by
  have hs:=sat_below h hb;refine ⟨hs.os,hs.tape,hs.out, ?_⟩;obtain ⟨x,ha,hx⟩:=h.hp
  have hn:x b=none:=by
    cases hxk:x b with
    |none=>rfl
    |some v=>have:=hx b v.1 v.2 hxk;rw [Array.getElem?_eq_none h1] at this;cases this
  refine ⟨x.un λ k=>if k=b then some (o,false) else none,⟨x,_,λ k=> ?_,rfl,ha,rfl⟩,λ k v f hv=> ?_⟩
  . by_cases hk:k=b
    . subst hk;exact .inl hn
    right;left;simp [hk]
  by_cases hk:k=b
  . subst hk
    simp [Hp.un,hn] at hv
    rw [←hv.1];exact h2
  have hv':x k=some (v,f):=by
    cases hxk:x k with
    |none=>simp [Hp.un,hxk,hk] at hv
    |some u=>simp [Hp.un,hxk] at hv;rw [hv]
  have h3:=hx k v f hv'
  have:k<w.heap.size:=by
    rcases Nat.lt_or_ge k w.heap.size with h4|h4
    . exact h4
    rw [Array.getElem?_eq_none h4] at h3;cases h3
  rw [hb.block k this];exact h3
open Go.RowKit Go.Maps Go.Sort Go.Shelf Go.Proofs in
theorem Sorted_c {A:SP}{b k:Nat}{M:MS}(hm:Has A b (mpo .i64 M))(hk:Has A k (cl [.map (some b)] (Go.Proofs.Tryz.keysA_ren.t 23)))(hw:WfM M)(hb:∀e∈M.D,-9223372036854775808<=e.k/\ e.k<=9223372036854775807)(hl:M.D.length<=4194304):
    Fn Tryz.prog 202 #[.func (.func 261) #[] #[pz k]] A (λ v B=>∃a c,v= .slice a M.D.length c/\ M.D.length<=c/\ B=A*Sl 1 (.slice a M.D.length c) M.D.length (ints ((M.D.map ME.k).mergeSort λ x y=>decide (x<=y)))):=by
  intro g w hs;obtain ⟨D0,hown,hperm,hsize⟩:=owns_mpo (hm g w hs) hw hb hl;have hkb:=hk g w hs
  have hks:k<w.heap.size:=by
    rcases Nat.lt_or_ge k w.heap.size with h|h
    . exact h
    rw [Array.getElem?_eq_none h] at hkb;cases hkb
  have hsorts:AnyZI.SortsIn Tryz.prog Go.Proofs.Tryz.sortedA_ren Fence.wide 5:=
    ⟨λ blk off cap ss W hH hblk hsz=>callsIn_wide.2 (AnyM.slices_Sort_int Go.Proofs.Tryz.sortA blk off cap ss W hH hblk hsz),
     λ p cap W=>callsIn_wide.2 (AnyM.slices_Sort_int_none Go.Proofs.Tryz.sortA p cap W)⟩
  have hseq:SeqGives Fence.wide 3 Tryz.prog 261 #[pz k] encZ (λ ss=>ss.Perm (intKeys D0)) (Maps.size D0) w:=
    AnyZI.keys_gives (ρ:=Go.Proofs.Tryz.keysA_ren) { Go.Proofs.Tryz.keysA with } Fence.wide _ trivial rfl oqz k b M.D.length D0 w hks (by simp [World.cell?,hkb,cl]) hown
  have cS:=AnyZI.sorted_in Go.Proofs.Tryz.sortedA Fence.wide 6 trivial trivial trivial trivial rfl oqz hsorts (enters_of Go.Proofs.Tryz.func260 kqz rfl) 261 #[pz k] trivial (enters_of Go.Proofs.Tryz.func261 kqz rfl) _ _ (by rw [hsize];exact Nat.le_trans hl (by decide)) (by rw [hsize];omega) w hseq;refine (callsIn_wide (n:=6)).1 (cS.mono ?_);rintro e w' ⟨v,ss,rfl,hS,hrow,hnil,hbl⟩;have hlen:ss.length=M.D.length:=(by rw [(hS.trans hperm).length_eq,List.length_map]);have hms:(ss.mergeSort λ x y=>decide (x<=y))=(M.D.map ME.k).mergeSort λ x y=>decide (x<=y):=mergeSort_of_perm_i (hS.trans hperm)
  rw [hlen,hms] at hrow
  have he:∀zs:List Int,zs.map encZ=ints zs:=λ zs=>rfl
  rw [he] at hrow
  rcases hrow.2 with ⟨rfl,hz⟩|⟨gb,cap,cur,rfl,hbase,hgb,r1,r2,r3,r4⟩
  . refine ⟨_,_,rfl,⟨none,0,by rw [hz],by omega,rfl⟩, ?_⟩;have:(M.D.map ME.k)=[]:=List.eq_nil_of_length_eq_zero (by rw [List.length_map];exact hz);rw [this,List.mergeSort_nil,hz]
    exact sl_nil (sat_below hs hbl)
  refine ⟨_,_,rfl,⟨some ⟨gb,0,none⟩,cap,rfl,r1,rfl⟩, ?_⟩;refine sl_new (l:=cur.toList) (E:=Go.Proofs.Tryz.sortedA_ren.t 26) ?_ r1 (by rw [Array.length_toList];omega) (by simpa using r4);exact sat_more hs hbl hbase (by rw [hgb];rfl)
end Go.Vl

namespace Go.Vl
open Go Go.Proofs Go.Proofs.Tryz
def intF (P : Program) (f : Field) : Bool := f.name != "_" && plainE P f.type && (match P.underlying f.type with | some (.int _) => true | _ => false)
def flatI (P:Program)(fs:Array Field)(n:Nat):Bool:=((fs.toList.map λ f=>f.offset)==List.range n)&&fs.toList.all (intF P)
section
variable {P:Program} {n:Nat} {ρ:Env} {A:SP} {dst:Option Tmp} {ty:TypeId} {pos:String} {after:Array Edge} {gd:Option (Nat×Bool)}
theorem o_eqstr {t t':TypeId}{x y:Operand}{a b:ByteArray}(hx:ev n ρ x= .string a)(hy:ev n ρ y= .string b):
    OpV P n ρ A ⟨dst,.binOp .eql t x y t',ty,pos,after,gd⟩ (.bool (a.toList==b.toList)):=
  opv_of λ w=>by
  simp only [execOp,hx,hy]
  rw [run_bind (w':=w) (a:= .bool (a.toList==b.toList))]
  . rfl
  rw [run_bind (w':=w) (a:=())]
  . simp [binOp,Op.stringOp,pure]
  rfl
theorem o_compl32 {t:TypeId}{x:Operand}{a:Nat}(hx:ev n ρ x= .int .u32 (a:Nat))(ha:a<4294967296):OpV P n ρ A ⟨dst,.unOp .xor t x,ty,pos,after,gd⟩ (.int .u32 ((a^^^4294967295:Nat):Int)):=(o_compl hx).cast (by
  have h1:(BitVec.ofInt IntKind.u32.bits (if IntKind.u32.signed then-1 else IntKind.u32.max)).toNat=4294967295:=(by decide)
  rw [BitVec.toNat_xor,h1,bv_of .u32 a (by simpa [IntKind.bits] using ha),Nat.xor_comm,wrap_fit .u32 rfl _ (Nat.xor_lt_two_pow (by simpa [IntKind.bits] using ha) (by decide))])
theorem o_neg32 {t:TypeId}{x:Operand}{a:Nat}(hx:ev n ρ x= .int .u32 (a:Nat))(ha:a<2):OpV P n ρ A ⟨dst,.unOp .neg t x,ty,pos,after,gd⟩ (.int .u32 ((a*4294967295:Nat):Int)):=(o_neg hx).cast (by
  have:a=0∨a=1:=(by omega)
  rcases this with rfl|rfl<;>rfl)
end
theorem rs_mk {R:SP}{b:Nat}{l:List Value}{E:TypeId}{fz:Nat×Nat}:Rs (R*pt b (.cells l.toArray E fz)) (some ⟨b,0,none⟩) l:=λ g w hs i v hv=>by
  have h:=has_here g w hs;refine ⟨b,0,rfl, ?_⟩
  simp only [World.cell?,h,Nat.zero_add,List.getElem?_toArray]
  simpa using hv
def sob (xs:List Nat):ByteArray:=⟨(xs.map λ n=>UInt8.ofNat n).toArray⟩
theorem o_b2s {P:Program}{n:Nat}{ρ:Env}{A:SP}{dst:Option Tmp}{ty:TypeId}{pos:String}{after:Array Edge}{gd:Option (Nat×Bool)}{s t e:TypeId}{x:Operand}{a:Option Addr}{m c:Nat}{xs:List Nat}(hs:P.underlying s=some (.slice e))(he:P.underlying e=some (.int .u8))(ht:P.underlying t=some .string)
    (hx:ev n ρ x= .slice a m c) (hr:Rs A a (bys xs)) (hm:xs.length=m) (h0:0<m):OpV P n ρ A ⟨dst,.convert s t x,ty,pos,after,gd⟩ (.string (sob xs)):=λ g w hsat=>by
  have h00:(bys xs)[0]? =some ((bys xs)[0]'(by rw [bys_length];omega)):=List.getElem?_eq_getElem _;obtain ⟨b,o,rfl,_⟩:=hr g w hsat 0 _ h00
  simp only [execOp,hx]
  rw [run_bind (w':=w) (a:= .string (sob xs))]
  . rfl
  rw [run_convert_bytes_arg w s e hs he b o m c (xs.map λ (q:Nat)=>(q:Int)) (by simp [hm]) (λ i hi=> ?_) t ht]
  . simp [strOfNums,sob,List.map_map,Function.comp_def]
  have hi':i<xs.length:=(by omega);have h1:=bys_at hi';obtain ⟨b',o',e',hc⟩:=hr g w hsat i _ h1
  simp only [Option.some.injEq,Addr.mk.injEq,and_true] at e'
  obtain ⟨rfl,rfl⟩:=e';rw [hc]
  simp [hi']
theorem sq1z {p:Prop}(h:p:=by repeat (first|exact nn_some|with_reducible exact nn_sl (by decide)|exact nn_rs (by assumption) (λ _=>by first|omega|(simp only [bys_length,ints_length,wds_length,bos_length,List.length_append,List.length_take,List.length_drop,List.length_singleton];omega))|apply Nn.left)):p:=h
theorem sq2z {p:Prop}(h:p:=by first|omega|(simp only [bys_length,ints_length,wds_length,bos_length,List.length_append,List.length_take,List.length_drop,List.length_singleton];omega)):p:=h
def crs (r:Nat):Nat:=(r/2)^^^(2197175160*(r%2))
def crk:Nat->Nat->Nat
  |0,r=>r
  |k+1,r=>crs (crk k r)
def crL (r:Nat):List Nat->Nat
  |[]=>r
  |x::xs=>crL (crk 8 (r^^^x)) xs
def crc (s:Nat)(xs:List Nat):Nat:=crL (s^^^4294967295) xs^^^4294967295
theorem x32 {a b:Nat}(ha:a<4294967296)(hb:b<4294967296):a^^^b<4294967296:=Nat.xor_lt_two_pow (n:=32) ha hb
theorem crs_lt {r:Nat}(h:r<4294967296):crs r<4294967296:=x32 oqz oqz
theorem crk_lt {r:Nat}(h:r<4294967296):∀k,crk k r<4294967296
  |0=>h
  |k+1=>crs_lt (crk_lt h k)
theorem crL_lt:∀{xs:List Nat} {r:Nat},r<4294967296->(∀x∈xs,x<256)->crL r xs<4294967296
  |[],_,h,_=>h
  |x::xs,r,h,hb=>crL_lt (xs:=xs) (crk_lt (x32 h (by have:=hb x (by simp);omega)) 8) λ y hy=>hb y (by simp [hy])
theorem crL_snoc:∀{xs:List Nat} {r x:Nat},crL r (xs++[x])=crk 8 (crL r xs^^^x)
  |[],_,_=>rfl
  |y::ys,r,x=>by show crL _ (ys++[x])=_;rw [crL_snoc];rfl
theorem crL_take {xs:List Nat}{r i:Nat}(h:i<xs.length):crL r (xs.take (i+1))=crk 8 (crL r (xs.take i)^^^xs[i]):=by
  rw [List.take_succ_eq_append_getElem h,crL_snoc]
theorem crc_lt {s:Nat}{xs:List Nat}(h:s<4294967296)(hb:∀x∈xs,x<256):crc s xs<4294967296:=x32 (crL_lt (x32 h (by decide)) hb) (by decide)
theorem tk_b {xs:List Nat}{i:Nat}(hb:∀x∈xs,x<256):∀x∈xs.take i,x<256:=λ x hx=>hb x (List.mem_of_mem_take hx)
theorem and1 (r:Nat):r&&&1=r%2:=Nat.and_one_is_mod r
theorem crs_and (r:Nat):(r/2)^^^(2197175160&&&(r%2*4294967295))=crs r:=by
  unfold crs
  have:r%2=0∨r%2=1:=(by omega)
  rcases this with h|h<;>rw [h]<;>rfl
theorem crk_and (k c:Nat):(crk k c/2^1)^^^(2197175160&&&(crk k c%2*4294967295))=crk (k+1) c:=crs_and _
theorem crk_0 (c:Nat):c=crk 0 c:=rfl
theorem crL_0 (c:Nat)(xs:List Nat):c=crL c (xs.take 0):=by rw [List.take_zero];rfl
theorem crc_of (s:Nat)(xs:List Nat){m:Nat}(h:xs.length=m):crL (s^^^4294967295) (xs.take m)^^^4294967295=crc s xs:=by rw [←h,List.take_length];rfl
theorem xor_half (a b:Nat):(a^^^b)/2=a/2^^^b/2:=by
  have:=Nat.shiftRight_xor_distrib (a:=a) (b:=b) (i:=1)
  simpa [Nat.shiftRight_eq_div_pow] using this
theorem xor_low (a b:Nat):(a^^^b)%2=(a%2+b%2)%2:=by
  rw [←Nat.and_one_is_mod,Nat.and_xor_distrib_right,Nat.and_one_is_mod,Nat.and_one_is_mod]
  have h1:a%2=0∨a%2=1:=(by omega);have h2:b%2=0∨b%2=1:=(by omega)
  rcases h1 with h1|h1<;>rcases h2 with h2|h2<;>rw [h1,h2]<;>rfl
def rfk (k c x:Nat):Nat:=crk k c^^^x/2^k
theorem rfk_zero {c x:Nat}:rfk 0 (c^^^x) x=c:=by
  unfold rfk crk;rw [Nat.pow_zero,Nat.div_one,Nat.xor_assoc,Nat.xor_self,Nat.xor_zero]
theorem rfk_eight {c x:Nat}(h:x<256):rfk 8 c x=crk 8 c:=by
  unfold rfk;rw [Nat.div_eq_of_lt h,Nat.xor_zero]
theorem rfk_step {k c x:Nat}:rfk (k+1) c x=if (x/2^k%2≠rfk k c x%2) then (rfk k c x/2)^^^2197175160 else rfk k c x/2:=by
  have h1:rfk k c x/2=crk k c/2^^^x/2^(k+1):=(by unfold rfk;rw [xor_half,Nat.pow_succ,Nat.div_div_eq_div_mul]);have h2:rfk k c x%2=(crk k c%2+x/2^k%2)%2:=xor_low _ _;have h3:rfk (k+1) c x=crs (crk k c)^^^x/2^(k+1):=rfl;rw [h1,h3]
  unfold crs
  by_cases h:crk k c%2=1
  . rw [if_pos oqz,h];ac_rfl
  have h0:crk k c%2=0:=(by omega);rw [if_neg oqz,h0];simp
theorem rfk_t {k c x:Nat}(h:((x/2^k%2:Nat):Int)≠((rfk k c x%2:Nat):Int)):rfk k c x/2^^^2197175160=rfk (k+1) c x:=by
  rw [rfk_step,if_pos oqz]
theorem rfk_f {k c x:Nat}(h:((x/2^k%2:Nat):Int)=((rfk k c x%2:Nat):Int)):rfk k c x/2=rfk (k+1) c x:=by
  rw [rfk_step,if_neg oqz]
section
variable {P:Program} {n:Nat} {ρ:Env} {A:SP} {dst:Option Tmp} {ty:TypeId} {pos:String} {after:Array Edge} {gd:Option (Nat×Bool)}
theorem o_quoU {t t':TypeId}{x y:Operand}{k:IntKind}{a b:Nat}(hk:k.signed=false)(hx:ev n ρ x= .int k (a:Nat))(hy:ev n ρ y= .int k (b:Nat))(hb:0<b)(ha:a<2^k.bits):OpV P n ρ A ⟨dst,.binOp .quo t x y t',ty,pos,after,gd⟩ (.int k ((a/b:Nat):Int)):=(o_quo hx hy oqz).cast (by
  rw [Int.tdiv_eq_ediv_of_nonneg oqz,show (a:Int)/(b:Int)=((a/b:Nat):Int) by simp,wrap_fit k hk _ (Nat.lt_of_le_of_lt (Nat.div_le_self _ _) ha)])
theorem o_remU {t t':TypeId}{x y:Operand}{k:IntKind}{a b:Nat}(hx:ev n ρ x= .int k (a:Nat))(hy:ev n ρ y= .int k (b:Nat))(hb:0<b):OpV P n ρ A ⟨dst,.binOp .rem t x y t',ty,pos,after,gd⟩ (.int k ((a%b:Nat):Int)):=(o_rem hx hy oqz).cast (by
  rw [Int.tmod_eq_emod_of_nonneg oqz,show (a:Int)%(b:Int)=((a%b:Nat):Int) by simp])
end
theorem rfk_lt {k c x:Nat}(hc:c<4294967296)(hx:x<256):rfk k c x<4294967296:=by
  refine x32 (crk_lt hc k) ?_;have:=Nat.div_le_self x (2^k);omega
attribute [local irreducible] crk crL crc Sl pt ro
theorem Zs {p r:Prop}(k:r)(h:Kq r->p:=by intro k;refine sr ?_;refine Za ?_;exact k.o):p:=h ⟨k⟩
theorem Zdr {p r:Prop}(k:r)(h:Kq r->p:=by intro k;refine Zs ?_;refine Zb ?_;exact k.o):p:=h ⟨k⟩
theorem Zds {p r:Prop}(k:r)(h:Kq r->p:=by intro k;refine Za ?_;refine Zl ?_;exact k.o):p:=h ⟨k⟩
theorem Zev {p r:Prop}(k:r)(h:Kq r->p:=by intro k;refine tv (o_len underlying67 rfl) ?_;refine Zb8 ?_;exact k.o):p:=h ⟨k⟩
theorem Zbj {p r:Prop}(k:r)(h:Kq r->p:=by intro k;refine Zb ?_;refine tlm ?_;exact k.o):p:=h ⟨k⟩
theorem Zee {p r:Prop}(k:r)(h:Kq r->p:=by intro k;refine Za ?_;refine Zbj ?_;exact k.o):p:=h ⟨k⟩
theorem Zv {p r:Prop}(k:r)(h:Kq r->p:=by intro k;refine tlm ?_;refine tlm ?_;exact k.o):p:=h ⟨k⟩
theorem Zb5 {p r:Prop}(k:r)(h:Kq r->p:=by intro k;refine tc_reg ?_;refine Zv ?_;exact k.o):p:=h ⟨k⟩
theorem Zhu {p r:Prop}(k:r)(h:Kq r->p:=by intro k;refine Za ?_;refine Zb5 ?_;exact k.o):p:=h ⟨k⟩
theorem Zbn {p r:Prop}(k:r)(h:Kq r->p:=by intro k;refine tla ?_;refine tl_nil ?_;exact k.o):p:=h ⟨k⟩
theorem Zep {p r:Prop}(k:r)(h:Kq r->p:=by intro k;refine Zbn ?_;refine Zc6 ?_;exact k.o):p:=h ⟨k⟩
theorem Zbd {p r:Prop}(k:r)(h:Kq r->p:=by intro k;refine Za ?_;refine tc_ret ?_;exact k.o):p:=h ⟨k⟩
theorem More_c {A:SP}{a:Option Addr}{m c s:Nat}{xs:List Nat}(hr:Rs A a (bys xs):=by exact rbqz)(hm:xs.length=m:=by first|assumption|rfl)(hb:∀x∈xs,x<256:=by assumption)(hs:s<4294967296:=by omega)(hl:m<=1099511627776:=by omega):
    Fn Tryz.prog 335 #[.int .u32 (s:Nat),.slice a m c] A (λ r B=>r= .int .u32 ((crc s xs:Nat):Int)/\ A=B):=by
  refine fn_enterW func335 rfl ntmps335 (by simp) ?_;refine Zdr ?_;refine tv (o_compl32 rfl hs) ?_;refine Zds ?_;refine Zev ?_;refine tc_loop (λ kk ρ BB=>∃ (i:Nat),(i<=m)/\ kk=m-i/\ ρ 5= .int .u32 ((crL (s^^^4294967295) (xs.take i):Nat):Int)/\ ρ 13=(vn i)/\ ρ 11= .slice a m c/\ ρ 12=(vn m)/\ BB=A) (m:=m-(0)) ?_ ?_
  . exact ⟨0,by omega,rfl,congrArg (λ z:Nat=>Value.int .u32 (z:Int)) (crL_0 _ _),rfl,rfl,rfl,rfl⟩
  intro k ρ B hI;obtain ⟨i,hp0,hkk1,hE5,hE13,hE11,hE12,hBA⟩:=hI;obtain rfl:=hBA.symm;refine te 5 hE5 ?_;refine te 13 hE13 ?_;refine te 11 hE11 ?_;refine te 12 hE12 ?_;refine Zcg ?_;refine tc_cond rfl (λ h=> ?_) (λ h=> ?_)
  . have hi:i<xs.length:=(by simp at h;omega);have hx256:=hb _ (List.getElem_mem hi);have hC:=crL_lt (x32 hs (by decide:4294967295<4294967296)) (tk_b (i:=i) hb);have hR:=x32 hC (show xs[i]<4294967296 by omega);refine Zd5 ?_;refine tv (o_ixP1 underlying67 sz5 rfl rfl sq2z sq1z) ?_;refine tv (o_ldP p5 rfl hr (bys_at (by assumption))) ?_;refine Zee ?_;refine tv (by first|exact o_conv32 underlying5 underlying53 rfl|exact o_conv underlying5 underlying53 rfl) ?_;refine tl_env (d:=19) (v:= .int .u32 ((xs[i]:Nat):Int)) (congrArg (λ z:Nat=>Value.int .u32 (z:Int)) (Nat.mod_eq_of_lt oqz)) ?_;refine tv (o_xorN rfl rfl rfl (by show _<4294967296;assumption) (by show _<4294967296;omega)) ?_;refine Zbu ?_;refine nq ?_;refine tc_block ?_;refine tc_loop (λ kk ρ BB=>∃ (k:Nat),(k<=8)/\ kk=8-k/\ ρ 5= .int .u32 ((crk k (crL (s^^^4294967295) (xs.take i)^^^xs[i]):Nat):Int)/\ ρ 21=(vn k)/\ ρ 11= .slice a m c/\ ρ 12=(vn m)/\ ρ 13=(vn i)/\ BB=A) (m:=8-(0)) ?_ ?_
    . exact ⟨0,by omega,rfl,congrArg (λ z:Nat=>Value.int .u32 (z:Int)) (crk_0 _),rfl,rfl,rfl,rfl,rfl⟩
    intro k ρ B hI;obtain ⟨k,hp0,hkk2,hE5,hE21,hE11,hE12,hE13,hBA⟩:=hI;obtain rfl:=hBA.symm;refine te 5 hE5 ?_;refine te 21 hE21 ?_;refine te 11 hE11 ?_;refine te 12 hE12 ?_;refine te 13 hE13 ?_;refine Zcg ?_;refine tc_cond rfl (λ h=> ?_) (λ h=> ?_)
    . have hk:=crk_lt hR k;have hk8:k<8:=(by simp at h;omega);refine Ze9 ?_;refine tv ((o_andN (b:=1) rfl rfl rfl (by show _<4294967296;assumption) (by decide)).cast (by rw [and1])) ?_;refine Zbu ?_;refine tv (o_shrN (b:=1) rfl rfl rfl (by decide)) ?_;refine Zhu ?_;refine tv (o_neg32 rfl oqz) ?_;refine tv (o_andN (a:=2197175160) rfl rfl rfl (by decide) (by show _<4294967296;omega)) ?_;refine tv (o_xorN rfl rfl rfl (by show _<4294967296;omega) (by show _<4294967296;exact Nat.and_lt_two_pow (n:=32) _ (by show _<4294967296;omega))) ?_;refine Zep ?_;exact ⟨_,by omega,k+1,by omega,rfl,congrArg (λ z:Nat=>Value.int .u32 (z:Int)) (crk_and _ _),rfl,rfl,rfl,rfl,rfl⟩
    obtain rfl:k=8:=by simp at h;omega
    refine Zea ?_;refine tc_reg ?_;refine Zb4 ?_;exact ⟨_,by omega,i+1,by omega,rfl,congrArg (λ z:Nat=>Value.int .u32 (z:Int)) (crL_take hi).symm,rfl,rfl,rfl,rfl⟩
  obtain rfl:i=m:=by simp at h;omega
  have hC2:=crL_lt (x32 hs (by decide:4294967295<4294967296)) (tk_b (i:=i) hb);refine Zdq ?_;refine tv (o_compl32 rfl hC2) ?_;refine Zbd ?_;exact ⟨.int .u32 ((crc s xs:Nat):Int),A,res1 rfl (congrArg (λ z:Nat=>Value.int .u32 (z:Int)) (crc_of s xs hm)),λ _ _ h=>h,rfl,rfl⟩
theorem Zeh {p r:Prop}(k:r)(h:Kq r->p:=by intro k;refine Za ?_;refine tc_seq ?_;exact k.o):p:=h ⟨k⟩
theorem Zfe {p r:Prop}(k:r)(h:Kq r->p:=by intro k;refine Zs ?_;refine tc_block ?_;exact k.o):p:=h ⟨k⟩
theorem Zdw {p r:Prop}(k:r)(h:Kq r->p:=by intro k;refine tlm ?_;refine tv (o_len underlying67 rfl) ?_;exact k.o):p:=h ⟨k⟩
theorem Zbq {p r:Prop}(k:r)(h:Kq r->p:=by intro k;refine tc_reg ?_;refine tlm ?_;exact k.o):p:=h ⟨k⟩
theorem Zen {p r:Prop}(k:r)(h:Kq r->p:=by intro k;refine tv adqz ?_;refine Za ?_;exact k.o):p:=h ⟨k⟩
theorem MoreR_c {A:SP}{a:Option Addr}{m c s:Nat}{xs:List Nat}(hr:Rs A a (bys xs):=by exact rbqz)(hm:xs.length=m:=by first|assumption|rfl)(hb:∀x∈xs,x<256:=by assumption)(hs:s<4294967296:=by omega)(hl:m<=1099511627776:=by omega):
    Fn Tryz.prog 353 #[.int .u32 (s:Nat),.slice a m c] A (λ r B=>r= .int .u32 ((crc s xs:Nat):Int)/\ A=B):=by
  refine fn_enterW func353 rfl ntmps353 (by simp) ?_;refine Zdr ?_;refine tv (by first|exact o_conv64 underlying53 underlying141 rfl|exact o_conv underlying53 underlying141 rfl) ?_;refine tl_env (d:=11) (v:= .int .u64 ((s:Nat):Int)) (congrArg (λ z:Nat=>Value.int .u64 (z:Int)) (Nat.mod_eq_of_lt oqz)) ?_;refine tv (o_xorN (b:=4294967295) rfl rfl rfl (by show _<18446744073709551616;omega) (by decide)) ?_;refine Zeh ?_;refine Zfe ?_;refine tc_loop (λ kk ρ BB=>∃ (i:Nat),(i<=m)/\ kk=m-i/\ ρ 5= .int .u64 ((crL (s^^^4294967295) (xs.take i):Nat):Int)/\ ρ 6=(vn i)/\ ρ 1= .slice a m c/\ BB=A) (m:=m-(0)) ?_ ?_
  . exact ⟨0,by omega,rfl,congrArg (λ z:Nat=>Value.int .u64 (z:Int)) (crL_0 _ _),rfl,rfl,rfl⟩
  intro k ρ B hI;obtain ⟨i,hp0,hkk1,hE5,hE6,hE1,hBA⟩:=hI;obtain rfl:=hBA.symm;refine te 5 hE5 ?_;refine te 6 hE6 ?_;refine te 1 hE1 ?_;refine Zl ?_;refine Zdw ?_;refine Zu ?_;refine tc_cond rfl (λ h=> ?_) (λ h=> ?_)
  . have hi:i<xs.length:=(by simp at h;omega);have hx256:=hb _ (List.getElem_mem hi);have hC:=crL_lt (x32 hs (by decide:4294967295<4294967296)) (tk_b (i:=i) hb);have hR:=x32 hC (show xs[i]<4294967296 by omega);refine Zbp ?_;refine Zfe ?_;refine tc_loop (λ kk ρ BB=>∃ (k:Nat),(k<=8)/\ kk=8-k/\ ρ 5= .int .u64 ((rfk k (crL (s^^^4294967295) (xs.take i)^^^xs[i]) xs[i]:Nat):Int)/\ ρ 7=(vn k)/\ ρ 1= .slice a m c/\ ρ 6=(vn i)/\ BB=A) (m:=8-(0)) ?_ ?_
    . exact ⟨0,by omega,rfl,congrArg (λ z:Nat=>Value.int .u64 (z:Int)) rfk_zero.symm,rfl,rfl,rfl,rfl⟩
    intro k ρ B hI;obtain ⟨k,hp0,hkk2,hE5,hE7,hE1,hE6,hBA⟩:=hI;obtain rfl:=hBA.symm;refine te 5 hE5 ?_;refine te 7 hE7 ?_;refine te 1 hE1 ?_;refine te 6 hE6 ?_;refine Zl ?_;refine Zu ?_;refine tc_cond rfl (λ h=> ?_) (λ h=> ?_)
    . have hk8:k<8:=(by simp at h;omega);have hF:=rfk_lt (k:=k) hR hx256;have hd:=Nat.div_le_self xs[i] (2^k);refine Zbp ?_;refine Zbj ?_;refine tv (o_ixP1 underlying67 sz5 rfl rfl sq2z sq1z) ?_;refine tv (o_ldP p5 rfl hr (bys_at (by assumption))) ?_;refine tlm ?_;refine tv (o_shrN (b:=k) rfl rfl rfl (by show k<=8;omega)) ?_;refine tv (by first|exact o_conv64 underlying5 underlying141 rfl|exact o_conv underlying5 underlying141 rfl) ?_;refine tl_env (d:=29) (v:= .int .u64 ((xs[i]/2^k:Nat):Int)) (congrArg (λ z:Nat=>Value.int .u64 (z:Int)) (Nat.mod_eq_of_lt oqz)) ?_;refine tv (o_remU (b:=2) rfl rfl (by decide)) ?_;refine Zee ?_;refine tv (o_remU (b:=2) rfl rfl (by decide)) ?_;refine tv (o_nei rfl rfl) ?_;refine Zbu ?_;refine tv (o_quoU (b:=2) rfl rfl rfl (by decide) (by show _<18446744073709551616;omega)) ?_;refine Zbu ?_;refine nq ?_;refine tc_cut (λ ρ BB=>ρ 5= .int .u64 ((rfk (k+1) (crL (s^^^4294967295) (xs.take i)^^^xs[i]) xs[i]:Nat):Int)/\ ρ 1= .slice a m c/\ ρ 6=(vn i)/\ ρ 7=(vn k)/\ BB=A) ?_ ?_
      . skip
        refine tc_cond rfl (sbq ?_) (sbq ?_)
        . intro h;refine Zbq ?_;refine tv (o_xorN (b:=2197175160) rfl rfl rfl (by show _<18446744073709551616;omega) (by decide)) ?_;refine Zbn ?_;exact ⟨by first|exact congrArg (λ z:Nat=>Value.int .u64 (z:Int)) (rfk_t h)|exact congrArg (λ z:Nat=>Value.int .u64 (z:Int)) (rfk_f (Classical.not_not.1 h)),rfl,rfl,rfl,rfl⟩
        intro h;refine tc_skip ?_;exact ⟨by first|exact congrArg (λ z:Nat=>Value.int .u64 (z:Int)) (rfk_t h)|exact congrArg (λ z:Nat=>Value.int .u64 (z:Int)) (rfk_f (Classical.not_not.1 h)),rfl,rfl,rfl,rfl⟩
      intro ρ B hI;obtain ⟨hE5,hE1,hE6,hE7,hBA⟩:=hI;obtain rfl:=hBA.symm;refine q_block_n (q_then_n ?_);refine te 5 hE5 ?_;refine te 1 hE1 ?_;refine te 6 hE6 ?_;refine te 7 hE7 ?_;refine Zbq ?_;refine Zen ?_;exact ⟨_,by omega,k+1,by omega,rfl,rfl,rfl,rfl,rfl,rfl⟩
    obtain rfl:k=8:=by simp at h;omega
    refine Zea ?_;refine Zbq ?_;refine Zen ?_;exact ⟨_,by omega,i+1,by omega,rfl,congrArg (λ z:Nat=>Value.int .u64 (z:Int)) ((rfk_eight hx256).trans (crL_take hi).symm),rfl,rfl,rfl⟩
  obtain rfl:i=m:=by simp at h;omega
  have hC2:=crL_lt (x32 hs (by decide:4294967295<4294967296)) (tk_b (i:=i) hb);refine Zdq ?_;refine tv (o_xorN (b:=4294967295) rfl rfl rfl (by show _<18446744073709551616;omega) (by decide)) ?_;refine tv ((o_conv32 underlying141 underlying53 rfl).cast (congrArg (λ z:Nat=>Value.int .u32 (z:Int)) (Nat.mod_eq_of_lt (x32 (b:=4294967295) hC2 (by decide))))) ?_;refine Zbd ?_;exact ⟨.int .u32 ((crc s xs:Nat):Int),A,res1 rfl (congrArg (λ z:Nat=>Value.int .u32 (z:Int)) (crc_of s xs hm)),λ _ _ h=>h,rfl,rfl⟩
end Go.Vl

namespace Go.Vl
open Go Go.Proofs Go.Proofs.Tryz
theorem ctqz {p:Prop}(h:p:=by exact cbqz):p:=h
def crcs (ls:List (List Nat)):Nat:=ls.foldl crc 0
theorem crcs_take {ls:List (List Nat)}{i:Nat}(h:i<ls.length):crcs (ls.take (i+1))=crc (crcs (ls.take i)) ls[i]:=by
  unfold crcs;rw [List.take_succ_eq_append_getElem h,List.foldl_append];rfl
theorem crcs_lt {ls:List (List Nat)}(hb:∀l∈ls,∀x∈l,x<256):crcs ls<4294967296:=by
  unfold crcs
  have:∀ (ls:List (List Nat)) (s:Nat),(∀l∈ls,∀x∈l,x<256)->s<4294967296->ls.foldl crc s<4294967296:=by
    intro ls
    induction ls with
    |nil=>intro s _ h;exact h
    |cons l ls ih=>intro s hb h;exact ih _ (λ l hl=>hb l (by simp [hl])) (crc_lt h (hb l (by simp)))
  exact this ls 0 hb (by decide)
attribute [local irreducible] crk crL crc Sl pt ro
theorem Zdd {p r:Prop}(k:r)(h:Kq r->p:=by intro k;refine Zs ?_;refine Zl ?_;exact k.o):p:=h ⟨k⟩
theorem Zfk {p r:Prop}(k:r)(h:Kq r->p:=by intro k;refine tv (o_len underlying35 rfl) ?_;refine Zb8 ?_;exact k.o):p:=h ⟨k⟩
theorem Zhk {p r:Prop}(k:r)(h:Kq r->p:=by intro k;refine Zdq ?_;refine Zbd ?_;exact k.o):p:=h ⟨k⟩
theorem Sum_c {A:SP}{a:Option Addr}{m c:Nat}{ls:List (List Nat)}(hr:RdRows A a ls)(hm:ls.length=m:=by first|assumption|rfl)(hb:∀l∈ls,∀x∈l,x<256)(hl:∀l∈ls,l.length<=1099511627776)(hm2:m<=1099511627776:=by omega):
    Fn Tryz.prog 305 #[.slice a m c] A (λ r B=>r= .int .u32 ((crcs ls:Nat):Int)/\ A=B):=by
  refine fn_enterW func305 rfl ntmps305 (by simp) ?_;obtain ⟨vs,hvl,hra,hrows⟩:=hr;have hra:=rs_rd hra;refine Zs ?_;refine Zdd ?_;refine Zfk ?_;refine tc_loop (λ kk ρ BB=>∃ (i:Nat),(i<=m)/\ kk=m-i/\ ρ 3= .int .u32 ((crcs (ls.take i):Nat):Int)/\ ρ 8=(vn i)/\ ρ 6= .slice a m c/\ ρ 7=(vn m)/\ BB=A) (m:=m-(0)) ?_ ?_
  . exact ⟨0,by omega,rfl,rfl,rfl,rfl,rfl,rfl⟩
  intro k ρ B hI;obtain ⟨i,hp0,hkk1,hE3,hE8,hE6,hE7,hBA⟩:=hI;obtain rfl:=hBA.symm;refine te 3 hE3 ?_;refine te 8 hE8 ?_;refine te 6 hE6 ?_;refine te 7 hE7 ?_;refine Zcg ?_;refine tc_cond rfl (λ h=> ?_) (sbq ?_)
  . have hi:i<ls.length:=(by simp at h;omega);obtain ⟨ai,ci,hvi,hri⟩:=hrows i hi;have hri:=rs_rd hri;have hbi:=hb _ (List.getElem_mem hi);have hli:=hl _ (List.getElem_mem hi);have hs32:=crcs_lt (ls:=ls.take i) λ l hl=>hb l (List.mem_of_mem_take hl)
    refine Zd5 ?_;refine tv (o_ixP1 underlying35 sz67 rfl rfl oqz (nn_rs hra oqz)) ?_;refine tv (o_ldP p67 rfl hra hvi) ?_;refine Zhu ?_;refine tl_c rfl (o_call bd335 rfl (More_c (hr:=hri) (hb:=hbi) (hl:=hli) (hs:=hs32))) ?_;rintro _ _ ⟨rfl,rfl⟩;refine Zep ?_;exact ⟨_,by omega,i+1,by omega,rfl,congrArg (λ z:Nat=>Value.int .u32 (z:Int)) (crcs_take hi).symm,rfl,rfl,rfl,rfl⟩
  intro h;refine Zhk ?_;obtain rfl:i=m:=by omega
  exact ⟨.int .u32 ((crcs ls:Nat):Int),A,res1 rfl (congrArg (λ z:Nat=>Value.int .u32 (z:Int)) (congrArg crcs (List.take_of_length_le oqz))),λ _ _ h=>h,rfl,rfl⟩
theorem SumR_c {A:SP}{a:Option Addr}{m c:Nat}{xs:List Nat}(hr:Rs A a (bys xs):=by exact rbqz)(hm:xs.length=m:=by first|assumption|rfl)(hb:∀x∈xs,x<256:=by assumption)(hl:m<=1099511627776:=by omega):
    Fn Tryz.prog 341 #[.slice a m c] A (λ r B=>r= .int .u32 ((crc 0 xs:Nat):Int)/\ A=B):=by
  refine fn_enterW func341 rfl ntmps341 (by simp) ?_;refine Zdr ?_;refine tl_c rfl (o_call bd353 rfl (MoreR_c (s:=0) (hr:=hr))) ?_;rintro _ _ ⟨rfl,rfl⟩;refine Zbd ?_;exact ⟨.int .u32 ((crc 0 xs:Nat):Int),A,res1 rfl rfl,λ _ _ h=>h,rfl,rfl⟩
theorem Zf9 {p r:Prop}(k:r)(h:Kq r->p:=by intro k;refine Zs ?_;refine tc_seq ?_;exact k.o):p:=h ⟨k⟩
theorem Zga {p r:Prop}(k:r)(h:Kq r->p:=by intro k;refine tlm ?_;refine tv (by first|exact o_mulI rfl rfl oqz|exact o_mul rfl rfl) ?_;exact k.o):p:=h ⟨k⟩
theorem Zg6 {p r:Prop}(k:r)(h:Kq r->p:=by intro k;refine Zbn ?_;refine Zr ?_;exact k.o):p:=h ⟨k⟩
theorem Zh5 {p r:Prop}(k:r)(h:Kq r->p:=by intro k;refine tlm ?_;refine Zen ?_;exact k.o):p:=h ⟨k⟩
theorem Little_c {A:SP}{v n:Nat}(hn:n<=8:=by decide):
    Fn Tryz.prog 76 #[.int .u64 (v:Nat),vn n] A (λ r B=>∃a c,r= .slice a n c/\ n<=c/\ B=A*Sl 1 (.slice a n c) n (bys (le n v))):=by
  refine fn_enterW func76 rfl ntmps76 (by simp) ?_;refine Zs ?_;refine Zf9 ?_;refine Zfe ?_;refine tc_pre (λ _ _ h=>sl_nil (k:=1) h) ?_;refine tc_loop (λ kk ρ BB=>∃ (i:Nat) (a5:Option Addr) (c5:Nat),(i<=n)/\ kk=n-i/\ ρ 5= .slice a5 i c5/\ ρ 6=(vn i)/\ ρ 0= .int .u64 (v:Nat)/\ ρ 1=(vn n)/\ BB=A*Sl 1 (.slice a5 i c5) i (bys (le i v))) (m:=n-(0)) ?_ ?_
  . exact ⟨0,none,0,by omega,rfl,rfl,rfl,rfl,rfl,rfl⟩
  intro k ρ B hI;obtain ⟨i,a5,c5,hp0,hkk1,hE5,hE6,hE0,hE1,rfl⟩:=hI;refine te 5 hE5 ?_;refine te 6 hE6 ?_;refine te 0 hE0 ?_;refine te 1 hE1 ?_;refine Zl ?_;refine tlm ?_;refine Zu ?_;refine tc_cond rfl (sbq ?_) (sbq ?_)
  . intro h;refine Zbp ?_;refine Zb5 ?_;refine Zga ?_;refine tl_env (d:=15) (v:=(vn (8*i))) (rfl) ?_;refine tv (o_shrN (b:=8*i) rfl rfl rfl (by show 8*i<=64;omega)) ?_;refine tv (by first|exact o_conv8 underlying141 underlying5 rfl|exact o_conv underlying141 underlying5 rfl) ?_;refine tl_env (d:=17) (v:= .int .u8 ((v/256^i%256:Nat):Int)) (congrArg (λ z:Nat=>Value.int .u8 ((v/z%256:Nat):Int)) (Nat.pow_mul 2 8 i)) ?_;refine tl_x rfl (o_buildSlice1 underlying67 sz5 z5 wqz rfl) ?_;rintro _ _ ⟨b18,rfl,rfl⟩;refine tl_x rfl (o_apB underlying67 underlying67 sz5 by5 z5 rfl (by decide) (by decide) rfl rfl rfl ctqz rfl (by first|exact bys_all _|exact ints_all _|exact wds_all _|exact bos_all _|rfl) sq2z (by first|exact bys_sn _ _|exact ints_sn _ _|exact wds_sn _ _|exact bos_sn _ _|exact (bys_append _ _).symm|rfl)) ?_;rintro _ _ ⟨a19,c19,rfl,hc19,rfl⟩;refine Zg6 ?_;refine Zh5 ?_;exact ⟨_,by omega,i+1,_,_,by omega,rfl,rfl,rfl,rfl,rfl,by rw [le_snoc]⟩
  intro h;refine Zk ?_;refine tc_seq ?_;refine tc_have (λ _ _ h=>ct_cap ctqz h) λ hc5=> ?_
  refine Zbq ?_;refine Zbd ?_;obtain rfl:i=n:=by omega
  exact ⟨_,_,res1 rfl rfl,λ _ _ h=>h,a5,c5,rfl,hc5,rfl⟩
end Go.Vl

namespace Go.Vl
open Go Go.Proofs Go.Proofs.Tryz
def sbys (s:ByteArray):List Nat:=s.data.toList.map λ b=>b.toNat
theorem sbys_len (s:ByteArray):(sbys s).length=s.size:=by unfold sbys;rw [List.length_map];rfl
attribute [local irreducible] crk crL crc Sl pt ro
theorem Two_j {A:SP}{a1 a2:Option Addr}{m1 m2 c1 c2 b:Nat}{xs ys:List Nat}{E:TypeId}(h1:Rs A a1 (bys xs))(h2:Rs A a2 (bys ys))(e1:xs.length=m1)(e2:ys.length=m2)(hl:m1+m2<=17592186044416):
    Fn Tryz.prog 75 #[.slice (some ⟨b,0,none⟩) 2 2] (A*pt b (cl [.slice a1 m1 c1,.slice a2 m2 c2] E)) (λ r B=>∃a c,r= .slice a (m1+m2) c/\ m1+m2<=c/\ B=A*pt b (cl [.slice a1 m1 c1,.slice a2 m2 c2] E)*Sl 1 (.slice a (m1+m2) c) (m1+m2) (bys (xs++ys))):=by
  subst e1 e2;refine fn_rs (xs:=[.slice a1 xs.length c1,.slice a2 ys.length c2]) rs_pt0 λ hr=> ?_
  refine fn_rs h1.left λ h1=>fn_rs h2.left λ h2=> ?_
  have key:=JoinN_f (A*pt b (cl [.slice a1 xs.length c1,.slice a2 ys.length c2] E)) (some ⟨b,0,none⟩) 2 2 [xs,ys] ⟨_,rfl,hr,λ i hi=>by
    match i,hi with
    |0,_=>exact ⟨a1,c1,rfl,h1⟩
    |1,_=>exact ⟨a2,c2,rfl,h2⟩⟩ (by simp;omega) (by simp) rfl
  have e:([xs,ys]:List (List Nat)).flatten=xs++ys:=(by simp);rw [e] at key
  have e3:(xs++ys).length=xs.length+ys.length:=(by simp);rw [e3] at key
  exact fn_sl key
theorem Two_c {A:SP}{a1 a2:Option Addr}{m1 m2 c1 c2:Nat}{xs ys:List Nat}(h1:Rs A a1 (bys xs):=by exact rbqz)(h2:Rs A a2 (bys ys):=by exact rbqz)(e1:xs.length=m1:=by first|assumption|rfl)(e2:ys.length=m2:=by first|assumption|rfl)(hl:m1+m2<=17592186044416:=by omega):
    Fn Tryz.prog 340 #[.slice a1 m1 c1,.slice a2 m2 c2] A (λ r B=>∃a c,r= .slice a (m1+m2) c/\ m1+m2<=c/\ B=A*Sl 1 (.slice a (m1+m2) c) (m1+m2) (bys (xs++ys))):=by
  refine fn_enterW func340 rfl ntmps340 (by simp) ?_;refine Zs ?_;refine Zbj ?_;refine tl_x rfl (o_buildSliceL (k:=1) (vs:=[.slice a1 m1 c1,.slice a2 m2 c2]) (l:=[.slice a1 m1 c1,.slice a2 m2 c2]) underlying35 sz67 z67 rfl rfl (by decide) (by decide) (by intro v hv;simp at hv;rcases hv with rfl|rfl<;>rfl) rfl) ?_;rintro _ _ ⟨b7,rfl,rfl⟩;refine tl_c rfl (o_call bd75 rfl (Two_j h1 h2 e1 e2 hl)) ?_;rintro _ _ ⟨a8,c8,rfl,hc8,rfl⟩;refine Zbd ?_;exact ⟨_,_,res1 rfl rfl,Dr.sat drqz,a8,c8,rfl,hc8,rfl⟩
end Go.Vl

namespace Go.Vl
open Go Go.Proofs Go.Proofs.Tryz
def planL (n:Int):List Int:=[n,128,32768,32896,(n-32896)/256]
def planT (n:Int):List Int×Int:=if 36992<=n/\ n<=4194304/\ n%64=0 then (planL n,0) else ([0,0,0,0,0],80)
def magicB:List Nat:=[86,69,76,76,85,77,48,49]
def mbs (ns:List Nat):List Nat:=magicB++ns.flatMap (le 8)
def sbB (ns:List Nat):List Nat:=mbs ns++le 8 (crc 0 (mbs ns))
def lineT (q0 q1 q2 q3 q4:Int):List Nat×Int:=if planT q0=([q0,q1,q2,q3,q4],0) then (sbB [q0.toNat,128,32768,32896,(q0.toNat-32896)/256,0],0) else ([],100)
def stE (s:DevS):Int:=if s.off=true then 5 else 0
theorem stE_rdy (s:DevS)(h:s.off=true):rdy s.ls.length s.off 0 0=5:=by unfold rdy;rw [if_pos h]
theorem Load0_c {A R:SP}{C:SP->SP}{d:Nat}{s:DevS}(hc:Ct A (Dev d s) R C):Fn Tryz.prog 247 #[pz d,.int .i64 0,.int .i64 0] A (λ r B=>∃v:Value,r= .tuple #[v,.int .i64 (stE s)]/\ A=B):=by
  by_cases h:s.off=true
  . have e:stE s=5:=if_pos h;have:=LoadNo_c hc (p:=0) (m:=0) oqz oqz (by rw [stE_rdy s h];decide);rw [stE_rdy s h] at this
    rw [e]
    exact this.mono λ _ _ ⟨h1,h2⟩=>⟨_,h1,h2⟩
  have e:stE s=0:=if_neg h;rw [e]
  intro g w hs;refine (Load_c hc (p:=0) (m:=0) (by simpa using h) oqz g w hs).mono ?_;rintro e w' ⟨v,B,rfl,⟨a,c,rfl,_,rfl⟩,hB⟩;exact ⟨_,_,rfl,⟨_,rfl,rfl⟩,hB.left⟩
attribute [local irreducible] crk crL crc Sl pt ro mbs sbB planT Dev
theorem Zey {p r:Prop}(k:r)(h:Kq r->p:=by intro k;refine Zbe ?_;refine Zcs ?_;exact k.o):p:=h ⟨k⟩
theorem alive_c {A R:SP}{C:SP->SP}{d:Nat}{s:DevS}(hc:Ct A (Dev d s) R C:=by exact cbqz):
    Fn Tryz.prog 287 #[pz d] A (λ r B=>r= .int .i64 (stE s)/\ A=B):=by
  refine fn_enterW func287 rfl ntmps287 (by simp) ?_;refine Zdr ?_;refine tl_c rfl (o_call bd247 rfl (Load0_c hc)) ?_;rintro _ _ ⟨v7,rfl,rfl⟩;refine Zey ?_;refine Zbd ?_;exact ⟨.int .i64 (stE s),A,res1 rfl rfl,λ _ _ h=>h,rfl,rfl⟩
end Go.Vl

namespace Go.Vl.Rg
open Go
class Rm where
  r:Option Nat
def Fc (μ:Rm):Fence:={ Fence.wide with round:=μ.r }
def blk:Value->Nat
  | .int _ i=>i.toNat
  |_=>0
def mks:Value->List Nat
  | .tuple vs=>vs.toList.map blk
  |_=>[]
def mkv (rs:List Nat):Value:= .tuple (rs.map λ r:Nat=>Value.int .i64 (r:Int)).toArray
theorem mks_mkv (rs:List Nat):mks (mkv rs)=rs:=by
  simp only [mkv,mks,List.map_map]
  induction rs with
  |nil=>rfl
  |cons r rs ih=>rw [List.map_cons,ih];rfl
def mark (r:Nat):Deferred:={ target:= .collected r,args:= #[] }
def mkO:Obj:= .deferred (some [])
structure Agr (n:Nat) (ρ:Env) (a:Act):Prop where
  df:a.defers=(mks (ρ n)).map mark
  sz:a.tmps.size=n
  ev:∀t,t<n->a.tmps.getD t undef=ρ t
def put (n:Nat)(ρ:Env):Option Tmp->Value->Env
  |some d,v=>bif Nat.blt d n then upd ρ d v else ρ
  |none,_=>ρ
theorem Agr.plain {n:Nat}{ρ:Env}{a:Act}(h:Agr n ρ a):Vl.Agr n ρ { a with defers:=[] }:=⟨rfl,h.sz,h.ev⟩
theorem Agr.eval {n:Nat}{ρ:Env}{a:Act}(h:Agr n ρ a):a.eval=Vl.ev n ρ:=by
  rw [←h.plain.eval];rfl
theorem Agr.put {n:Nat}{ρ:Env}{a:Act}(h:Agr n ρ a)(d:Option Tmp)(v:Value):Agr n (Rg.put n ρ d v) (a.put d v):=by
  cases d with
  |none=>exact h
  |some d=>
    simp only [Rg.put]
    cases hb:Nat.blt d n with
    |true=>
      have hlt:=Nat.blt_eq.mp hb;have:=h.plain.put (some d) v;refine ⟨?_,this.sz,this.ev⟩
      have hn:Nat.beq n d=false:=by
        cases hb:Nat.beq n d with
        |false=>rfl
        |true=>have:=Nat.eq_of_beq_eq_true hb;omega
      simp only [Act.put,cond_true,upd,hn,cond_false]
      exact h.df
    |false=>
      have hge:n<=d:=by
        rcases Nat.lt_or_ge d n with hlt|hge
        . rw [Nat.blt_eq.mpr hlt] at hb;cases hb
        exact hge
      refine ⟨h.df,by simp [Act.put,h.sz],λ t ht=> ?_⟩
      simp only [Act.put,cond_false]
      rw [←h.ev t ht,Array.getD_eq_getD_getElem?,Array.getElem?_setIfInBounds,if_neg oqz,Array.getD_eq_getD_getElem?]
def lift (g:Gh)(n:Nat)(Q:Post):Exit->Act->World->Prop:=λ e a w=>okE e=true/\∃ρ A,Agr n ρ a/\ sat g w A/\ Q e ρ A
def TC [μ:Rm](P:Program)(n:Nat)(c:Code)(Q:Post)(ρ:Env)(A:SP):Prop:=
  ∀g a w,Agr n ρ a->sat g w A->c.wpIn (Fc μ) 0 P (lift g n Q) a w
def TL [μ:Rm](P:Program)(n:Nat)(ops:Array Oper)(Q:Post)(l:List Oper)(ρ:Env)(A:SP):Prop:=
  ∀g a w,Agr n ρ a->sat g w A->wpListIn (Fc μ) 0 P ops (lift g n Q) l a w
def Yd (P:Program)(l:Nat)(args:Array Value)(A:SP)(Q:Value->SP->Prop):Prop:=
  ∀g w,sat g w A->∃f tmps assign body,(Instr.yield l args).run P w= .ok (.round l f tmps assign body) w∧
    RoundIn Fence.wide 0 P l f tmps assign body w λ e w'=>∃v B,e= .returned v/\ Q v B/\ sat g w' B
theorem Yd.mono {P:Program}{l:Nat}{args:Array Value}{A:SP}{Q Q':Value->SP->Prop}(h:Yd P l args A Q)(k:∀v B,Q v B->Q' v B):Yd P l args A Q':=λ g w hs=>
  let ⟨f,t,a,b,hy,hr⟩:=h g w hs
  ⟨f,t,a,b,hy,hr.mono λ _ _ ⟨v,B,e,q,s⟩=>⟨v,B,e,k v B q,s⟩⟩
theorem Yd.pre {P:Program}{l:Nat}{args:Array Value}{A A':SP}{Q:Value->SP->Prop}(h:Yd P l args A Q)(k:∀g w,sat g w A'->sat g w A):Yd P l args A' Q:=λ g w hs=>h g w (k g w hs)
section
variable {μ:Rm} {P:Program} {n:Nat} {Q:Post} {ρ:Env} {A:SP}
theorem tc_imp {c:Code}{Q':Post}(h:TC P n c Q ρ A)(k:∀e ρ A,Q e ρ A->Q' e ρ A):TC P n c Q' ρ A:=
  λ g a w ha hs=>wpIn_mono (h g a w ha hs) λ _ _ _ ⟨o,ρ,A,x,y,z⟩=>⟨o,ρ,A,x,y,k _ _ _ z⟩
theorem tc_pre {c:Code}{A':SP}(k:∀g w,sat g w A->sat g w A')(h:TC P n c Q ρ A'):TC P n c Q ρ A:=
  λ g a w ha hs=>h g a w ha (k g w hs)
theorem tc_eq {c:Code}{A':SP}(k:A=A')(h:TC P n c Q ρ A'):TC P n c Q ρ A:=k▸h
theorem tc_env {c:Code}{d:Nat}{v:Value}(h:ρ d=v)(k:TC P n c Q (upd ρ d v) A):TC P n c Q ρ A:=by
  rw [←env_set h] at k;exact k
theorem tc_have {c:Code}{p:Prop}(k:∀g w,sat g w A->p)(h:p->TC P n c Q ρ A):TC P n c Q ρ A:=
  λ g a w ha hs=>h (k g w hs) g a w ha hs
theorem tc_seq {x y:Code}(h:TC P n x (thenQ (TC P n y Q) Q) ρ A):TC P n (x.seq y) Q ρ A:=λ g a w ha hs=>
  wpIn_seq (wpIn_mono (h g a w ha hs) λ e a' w' ⟨hok,ρ',A',ha',hs',hq⟩=>by
    cases e with
    |normal=>exact hq g a' w' ha' hs'
    |_=>exact ⟨hok,ρ',A',ha',hs',hq⟩)
theorem tc_skip (h:Q .normal ρ A):TC P n .skip Q ρ A:=λ g a w ha hs=>wpIn_skip ⟨rfl,ρ,A,ha,hs,h⟩
theorem tc_label {l:Nat}(h:Q .normal ρ A):TC P n (.label l) Q ρ A:=λ g a w ha hs=>wpIn_label ⟨rfl,ρ,A,ha,hs,h⟩
theorem tc_ret (h:Q .ret ρ A):TC P n .ret Q ρ A:=λ g a w ha hs=>wpIn_ret ⟨rfl,ρ,A,ha,hs,h⟩
theorem tc_exit {id:Nat}(h:Q (.exit id) ρ A):TC P n (.exit id) Q ρ A:=λ g a w ha hs=>wpIn_exit ⟨rfl,ρ,A,ha,hs,h⟩
theorem tc_block {id:Nat}{c:Code}(h:TC P n c (blockQ id Q) ρ A):TC P n (.block id c) Q ρ A:=λ g a w ha hs=>
  wpIn_block (wpIn_mono (h g a w ha hs) λ e a' w' ⟨hok,ρ',A',ha',hs',hq⟩=>by
    cases e with
    |exit k=>
      simp only [Exit.inBlock]
      by_cases hk:k=id
      . subst hk
        simp only [blockQ,Nat.beq_refl,cond_true] at hq
        rw [if_pos rfl];exact ⟨rfl,ρ',A',ha',hs',hq⟩
      have:Nat.beq k id=false:=by
        cases hb:Nat.beq k id with
        |false=>rfl
        |true=>exact absurd (Nat.eq_of_beq_eq_true hb) hk
      simp only [blockQ,this,cond_false] at hq
      rw [if_neg hk];exact ⟨rfl,ρ',A',ha',hs',hq⟩
    |_=>exact ⟨hok,ρ',A',ha',hs',hq⟩)
theorem tc_cond {c:Operand}{x y:Code}{t:Bool}(hc:ev n ρ c= .bool t)(h1:t=true->TC P n x Q ρ A)(h2:t=false->TC P n y Q ρ A):TC P n (.cond c x y) Q ρ A:=λ g a w ha hs=>by
  refine wpIn_cond (t:=t) (by rw [ha.eval];exact hc) ?_
  cases t with
  |true=>exact h1 rfl g a w ha hs
  |false=>exact h2 rfl g a w ha hs
theorem tc_cond_t {c:Operand}{x y:Code}(hc:ev n ρ c= .bool true)(h:TC P n x Q ρ A):TC P n (.cond c x y) Q ρ A:=tc_cond hc (λ _=>h) (λ e=>by cases e)
theorem tc_cond_f {c:Operand}{x y:Code}(hc:ev n ρ c= .bool false)(h:TC P n y Q ρ A):TC P n (.cond c x y) Q ρ A:=tc_cond hc (λ e=>by cases e) (λ _=>h)
theorem tc_cut {c:Code}(M:Env->SP->Prop)(h:TC P n c (λ e ρ' A'=>match e with| .normal=>M ρ' A'|e=>Q e ρ' A') ρ A)(k:∀ρ' A',M ρ' A'->Q .normal ρ' A'):TC P n c Q ρ A:=
  tc_imp h λ e ρ' A' hq=>by
    cases e with
    |normal=>exact k _ _ hq
    |_=>exact hq
theorem tc_loop {c:Code}(I:Nat->Env->SP->Prop){m:Nat}(h0:I m ρ A)
    (round:∀k ρ A,I k ρ A->TC P n c (thenQ (λ ρ' A'=>∃k',k'<k/\ I k' ρ' A') Q) ρ A):TC P n (.loop c) Q ρ A:=λ g a w ha hs b kk cs hro hb hr=>by
  have key:∀k ρ A,I k ρ A->∀a w,Agr n ρ a->sat g w A->∃e a' w',lift g n Q e a' w'/\ ArrivesIn (Machine.fenced P (Fc μ)) P (lone (b.atR a (.code c:: .inLoop c::kk)) cs w) b kk cs e a' w':=by
    intro k
    induction k using Nat.strongRecOn with
    |_ k ih=>
      intro ρ A hI a w ha hs;obtain ⟨e,a₁,w₁,⟨hok,ρ₁,A₁,ha₁,hs₁,hq⟩,harr⟩:=round k ρ A hI g a w ha hs b (.inLoop c::kk) cs hro hb hr
      cases e with
      |normal=>
        obtain ⟨k',hlt,hI'⟩:=hq;obtain ⟨e₂,a₂,w₂,hq₂,harr₂⟩:=ih k' hlt ρ₁ A₁ hI' a₁ w₁ ha₁ hs₁;exact ⟨e₂,a₂,w₂,hq₂,.of_steps (StepsIn.trans harr (.one (fenced_calm hb hr rfl) stepR_inLoop)) harr₂⟩
      |exit id=>exact ⟨_,a₁,w₁,⟨hok,ρ₁,A₁,ha₁,hs₁,hq⟩,.pass (x:= .inLoop c) rfl (λ _ _=> .inl (by simp)) harr⟩
      |goto l=>exact ⟨_,a₁,w₁,⟨hok,ρ₁,A₁,ha₁,hs₁,hq⟩,.pass (x:= .inLoop c) rfl (λ _ _=> .inl (by simp)) harr⟩
      |ret=>exact ⟨_,a₁,w₁,⟨hok,ρ₁,A₁,ha₁,hs₁,hq⟩,.pass (x:= .inLoop c) rfl (λ _ _=> .inl (by simp)) harr⟩
      |panic ch=>exact ⟨_,a₁,w₁,⟨hok,ρ₁,A₁,ha₁,hs₁,hq⟩,.pass (x:= .inLoop c) rfl (λ _ _=> .inl (by simp)) harr⟩
      |outgrown=>exact ⟨_,a₁,w₁,⟨hok,ρ₁,A₁,ha₁,hs₁,hq⟩,.pass (x:= .inLoop c) rfl (λ _ _=> .inl (by simp)) harr⟩
  obtain ⟨e,a',w',hq,harr⟩:=key m ρ A h0 a w ha hs;exact ⟨e,a',w',hq,.of_steps (.one (fenced_calm hb hr rfl) stepR_loop) harr⟩
theorem want_eq {ops:Array Oper}{a:Act}{o:Oper}(ha:Agr n ρ a):Region.wanted o (yielded ops a.tmps)=wantE n ops ρ o:=by
  have:=Vl.want_eq (ops:=ops) (o:=o) ha.plain;exact this
theorem sem_eq {ro:Option Nat}{e:Operand->Value}{o:Oper}{w w':World}{x:Next}(h:(execOp e o).run P w= .ok x w')(hd:∀d,x≠ .defer d):(Oper.semAt ro e o).run P w= .ok x w':=by
  cases ro with
  |none=>exact h
  |some l=>
    by_cases hc:∃c,o.op= .defer c
    . exfalso
      obtain ⟨c,hc⟩:=hc
      unfold execOp at h
      rw [hc] at h
      simp only [] at h
      rw [Sem.run_bind] at h
      cases hr:(resolve e c o.type).run P w with
      |ok d w1=>rw [hr] at h;simp [Result.andThen,pure,Sem.run] at h;exact hd d h.1.symm
      |halt x w1=>rw [hr] at h;simp [Result.andThen] at h
    rw [Oper.semAt_eq _ _ _ λ c e=>hc ⟨c,e⟩];exact h
section
variable {ops:Array Oper} {o:Oper} {rest:List Oper}
theorem tl_nil (h:Q .normal ρ A):TL P n ops Q [] ρ A:=λ g a w ha hs=>wpListIn_nil ⟨rfl,ρ,A,ha,hs,h⟩
theorem tl_eq {A':SP}{l:List Oper}(k:A=A')(h:TL P n ops Q l ρ A'):TL P n ops Q l ρ A:=k▸h
theorem tl_pre {A':SP}{l:List Oper}(k:∀g w,sat g w A->sat g w A')(h:TL P n ops Q l ρ A'):TL P n ops Q l ρ A:=λ g a w ha hs=>h g a w ha (k g w hs)
theorem tl_env {l:List Oper}{d:Nat}{v:Value}(h:ρ d=v)(k:TL P n ops Q l (upd ρ d v) A):TL P n ops Q l ρ A:=by
  rw [←env_set h] at k;exact k
theorem tl_have {l:List Oper}{p:Prop}(k:∀g w,sat g w A->p)(h:p->TL P n ops Q l ρ A):TL P n ops Q l ρ A:=λ g a w ha hs=>h (k g w hs) g a w ha hs
theorem tl_bool {l:List Oper}{d:Nat}{b:Bool}(hv:ρ d= .bool b)(ht:b=true->TL P n ops Q l (upd ρ d (.bool true)) A)(hf:b=false->TL P n ops Q l (upd ρ d (.bool false)) A):TL P n ops Q l ρ A:=by
  cases b with
  |true=>exact tl_env hv (ht rfl)
  |false=>exact tl_env hv (hf rfl)
theorem tl_skip (hw:wantE n ops ρ o=false)(k:TL P n ops Q rest (put n ρ o.dst undef) A):TL P n ops Q (o::rest) ρ A:=λ g a w ha hs=>by
  unfold wpListIn
  rw [want_eq ha,hw]
  exact ⟨λ _ _=>trivial,k g _ w (ha.put _ _) hs⟩
theorem tl_v {v:Value}(hw:wantE n ops ρ o=true)(h:OpV P n ρ A o v)(k:TL P n ops Q rest (put n ρ o.dst v) A):TL P n ops Q (o::rest) ρ A:=λ g a w ha hs=>by
  unfold wpListIn
  rw [want_eq ha,hw,if_pos rfl]
  refine ⟨λ _ _=>trivial, ?_⟩;rw [ha.eval,sem_eq (h g w hs) (by simp)]
  exact k g _ w (ha.put _ _) hs
theorem tlm {d:Nat}{ty:TypeId}{pos:String}{after:Array Edge}{gd:Option (Nat×Bool)}{x:Operand}{v:Value}(k:TL P n ops Q rest (put n ρ (some d) v) A)(h:ev n ρ x=v:=by conv=>lhs;whnf)(hw:wantE n ops ρ ⟨some d,.move x,ty,pos,after,gd⟩=true:=by rfl):TL P n ops Q (⟨some d,.move x,ty,pos,after,gd⟩::rest) ρ A:=tl_v hw (o_move h) k
theorem tla {d:Nat}{ty:TypeId}{pos:String}{after:Array Edge}{gd:Option (Nat×Bool)}{x:Operand}{v:Value}(k:TL P n ops Q rest (put n ρ (some d) v) A)(h:ev n ρ x=v:=by conv=>lhs;whnf)(hw:wantE n ops ρ ⟨some d,.assign x,ty,pos,after,gd⟩=true:=by rfl):TL P n ops Q (⟨some d,.assign x,ty,pos,after,gd⟩::rest) ρ A:=tl_v hw (o_assign h) k
theorem tl_x {R:Value->SP->Prop}(hw:wantE n ops ρ o=true)(h:OpX P n ρ A o R)(k:∀v B,R v B->TL P n ops Q rest (put n ρ o.dst v) B):TL P n ops Q (o::rest) ρ A:=λ g a w ha hs=>by
  unfold wpListIn
  rw [want_eq ha,hw,if_pos rfl]
  refine ⟨λ _ _=>trivial, ?_⟩;obtain ⟨v,w',B,hr,hb,hR⟩:=h g w hs;rw [ha.eval,sem_eq hr (by simp)]
  exact k v B hR g _ w' (ha.put _ _) hb
theorem tl_u {B:SP}(hw:wantE n ops ρ o=true)(h:OpU P n ρ A o B)(k:TL P n ops Q rest (put n ρ o.dst undef) B):TL P n ops Q (o::rest) ρ A:=λ g a w ha hs=>by
  unfold wpListIn
  rw [want_eq ha,hw,if_pos rfl]
  refine ⟨λ _ _=>trivial, ?_⟩;obtain ⟨w',hr,hb⟩:=h g w hs;rw [ha.eval,sem_eq hr (by simp)]
  exact k g _ w' (ha.put _ _) hb
theorem tl_c {R:Value->SP->Prop}(hw:wantE n ops ρ o=true)(h:OpC P n ρ A o R)(k:∀v B,R v B->TL P n ops Q rest (put n ρ o.dst v) B):TL P n ops Q (o::rest) ρ A:=λ g a w ha hs=>by
  unfold wpListIn
  rw [want_eq ha,hw,if_pos rfl]
  refine ⟨λ _ _=>trivial, ?_⟩;obtain ⟨f,args,w',hr,hc⟩:=h g w hs;rw [ha.eval,sem_eq hr (by simp)]
  refine ⟨λ h=>(by cases h), ?_⟩;have hc':CallsIn Fence.wide (0-1) P f args w' λ e w''=>∃v B,e= .returned v/\ R v B/\ sat g w'' B:=callsIn_wide.2 hc
  refine CallsIn.mono (show CallsIn (Fc μ) (0-1) P f args w' _ from hc') λ e w'' ⟨v,B,he,hR,hb⟩=> ?_
  subst he;exact k v B hR g _ w'' (ha.put _ _) hb
theorem tl_y {R:Value->SP->Prop}{x:Operand}{l:Nat}{args:Array Operand}{tys:Array TypeId}{vs:List Value}{dst:Option Tmp}{ty:TypeId}{pos:String}{after:Array Edge}{gd:Option (Nat×Bool)}
    (hw:wantE n ops ρ ⟨dst,.call { callee:= .value x,args:=args,argTypes:=tys },ty,pos,after,gd⟩=true) (hx:ev n ρ x= .func (.yield l) #[] #[]) (hv:args.toList.map (ev n ρ)=vs) (h:Yd P l vs.toArray A R)
    (k:∀v B,R v B->TL P n ops Q rest (put n ρ dst v) B):TL P n ops Q (⟨dst,.call { callee:= .value x,args:=args,argTypes:=tys },ty,pos,after,gd⟩::rest) ρ A:=λ g a w ha hs=>by
  unfold wpListIn
  rw [want_eq ha,hw,if_pos rfl]
  refine ⟨λ _ _=>trivial, ?_⟩;obtain ⟨f,tmps,assign,body,hy,hr⟩:=h g w hs;have he:args.map (ev n ρ)=vs.toArray:=Array.ext' (by rw [Array.toList_map,hv])
  have hex:(execOp (ev n ρ) ⟨dst,.call { callee:= .value x,args:=args,argTypes:=tys },ty,pos,after,gd⟩).run P w= .ok (.round l f tmps assign body) w:=by
    simp only [execOp,resolve,hx,Deferred.ofValue,he]
    rw [run_bind (w':=w) (a:=⟨.fn (.yield l) #[],#[]++vs.toArray⟩) (by rfl)]
    simpa [invoke] using hy
  rw [ha.eval,sem_eq hex (by simp)]
  refine ⟨λ h=>(by cases h), ?_⟩;refine RoundIn.mono (show RoundIn (Fc μ) (0-1) P l f tmps assign body w _ from hr) λ e w'' ⟨v,B,he,hR,hb⟩=> ?_
  subst he;exact k v B hR g _ w'' (ha.put _ _) hb
theorem tc_reg {id:Nat}{l:List Oper}(h:TL P n l.toArray Q l ρ A):TC P n (.region id l.toArray false) Q ρ A:=λ g a w ha hs=>wpIn_region_lit (h g a w ha hs)
end
end
def Mk:List Nat->SP
  |[]=>emp
  |r::rs=>Mk rs*pt r mkO
def retW (P:Program)(n:Nat)(fn:Func)(Q:Value->SP->Prop):Post
  | .ret,ρ,A| .normal,ρ,A=>∃rs B,mks (ρ n)=rs/\ (∀g w,sat g w A->sat g w (B*Mk rs))/\∃v A',Res P n fn ρ B v/\ (∀g w,sat g w B->sat g w A')/\ Q v A'
  |_,_,_=>False
theorem leaves_mk {P:Program}{fn:Func}{tmps:Array Value}{R:Ending->World->Prop}{g:Gh}{B:SP}:∀ (rs:List Nat) (w:World),sat g w (B*Mk rs)→
    (∀w,sat g w B->∃v,(results fn tmps).run P w= .ok v w/\ R (.returned v) w)->LeavesInM Fence.wide 0 P fn tmps R (rs.map mark) .returning w
  |[],w,hs,h=>h w hs.left
  |r::rs,w,hs,h=>by
    have hs':sat g w (B*Mk rs*pt r mkO):=(by rw [star_assoc];exact hs);have hr:w.heap[r]? =some mkO:=has_here g w hs';refine ⟨by simp,.inl ⟨r,_,rfl,run_takeDeferred hr,leaves_mk rs _ ?_ h⟩⟩;have hu:Upd (B*Mk rs*pt r mkO) r mkO (.deferred none) (B*Mk rs*pt r (.deferred none)):=upd_here
    have:=hu.sat hs' (w':=w.putObj r (.deferred none)) (λ k=>by
      by_cases hk:k=r
      . subst hk;rw [if_pos rfl];exact World.putObj_heap_same (Array.getElem?_eq_some_iff.1 hr).1
      rw [if_neg hk];exact World.putObj_heap_other hk) rfl rfl rfl
    exact this.left
instance plainM:Rm:=⟨none⟩
theorem fn_enterW {P:Program}{f:FuncId}{fn:Func}{c:Code}{args:List Value}{A:SP}{Q:Value->SP->Prop}{n:Nat}(hf:P.funcs[f]? =some fn)(hb:fn.body=some c)
    (hn:fn.ntmps=n) (hle:args.length<=n) (h: @TC ⟨none⟩ P n c (retW P n fn Q) (argEnv und 0 args) A):Fn P f args.toArray A Q:=λ g w hs=>by
  refine callsIn_wide.1 (callsIn_of_wp_marks (n:=0) hf hb trivial (wpIn_mono (h g _ w ?_ hs) ?_))
  . have hsz:(args.toArray++Array.replicate (fn.ntmps-args.toArray.size) undef).size=n:=(by simp;omega)
    have key:∀ (l:List Value) (ρ:Env) (k t:Nat),argEnv ρ k l t=if k<=t/\ t<k+l.length then l.getD (t-k) undef else ρ t:=by
      intro l
      induction l with
      |nil=>intro ρ k t;simp only [argEnv,List.length_nil];rw [if_neg oqz]
      |cons v l ih=>
        intro ρ k t
        simp only [argEnv,ih,List.length_cons]
        by_cases h1:k+1<=t/\ t<k+1+l.length
        . rw [if_pos h1,if_pos oqz]
          have:t-k=(t-(k+1))+1:=(by omega);rw [this];simp
        rw [if_neg h1]
        by_cases h2:t=k
        . subst h2;rw [if_pos oqz]
          simp [upd]
        rw [if_neg oqz]
        have:Nat.beq t k=false:=by
          cases hb:Nat.beq t k with
          |false=>rfl
          |true=>exact absurd (Nat.eq_of_beq_eq_true hb) h2
        simp [upd,this]
    refine ⟨?_,hsz,λ t ht=> ?_⟩
    . rw [key,if_neg oqz];rfl
    rw [key]
    rw [Array.getD_eq_getD_getElem?,Array.getElem?_append]
    by_cases h1:t<args.length
    . rw [if_pos (by simpa using h1),if_pos oqz]
      simp
    rw [if_neg (by simpa using h1),if_neg oqz]
    simp only [List.size_toArray] at*
    rw [Array.getElem?_replicate]
    split<;>simp [und]
  rintro e a' w' ⟨_,ρ',A',ha',hs',hq⟩
  have fin:∀a' w',Agr n ρ' a'->sat g w' A'->retW P n fn Q .ret ρ' A'->LeavesInM Fence.wide 0 P fn a'.tmps (λ e w'=>∃v B,e= .returned v/\ Q v B/\ sat g w' B) a'.defers .returning w':=by
    intro a' w' ha' hs' hq;obtain ⟨rs,B,hm,hB,v,A2,hr,hi,hQ⟩:=hq;rw [ha'.df,hm]
    exact leaves_mk rs w' (hB g w' hs') λ w hw=>⟨v,by have:=hr g _ w ha'.plain hw;exact this,v,A2,rfl,hQ,hi g w hw⟩
  cases e with
  |normal=>exact fin a' w' ha' hs' hq
  |ret=>exact fin a' w' ha' hs' hq
  |_=>exact hq.elim
def Lp (l:Nat)(st:LoopState)(pe:Option Code)(n:Nat)(ρ:Env)(ps:Array Tmp)(assign body:Code):SP:=
  ex λ r:Loop=>λ h=>(r.state=st/\ r.pending=pe/\ r.params=ps/\ r.assign=assign/\ r.body=body/\ Vl.Agr n ρ { tmps:=r.tmps,defers:=[] })/\ pt l (.loop r) h
theorem lp_iff {l n:Nat}{st:LoopState}{pe:Option Code}{ρ:Env}{ps:Array Tmp}{assign body:Code}{R:SP}{g:Gh}{w:World}:sat g w (R*Lp l st pe n ρ ps assign body)↔
    ∃r:Loop,(r.state=st/\ r.pending=pe/\ r.params=ps/\ r.assign=assign/\ r.body=body/\ Vl.Agr n ρ { tmps:=r.tmps,defers:=[] })/\ sat g w (R*pt l (.loop r)):=by
  constructor
  . intro hs;obtain ⟨_,⟨x,y,hd,rfl,ha,r,hr,hb⟩,hx⟩:=hs.hp;exact ⟨r,hr,hs.os,hs.tape,hs.out,_,⟨x,y,hd,rfl,ha,hb⟩,hx⟩
  rintro ⟨r,hr,hs⟩;exact hs.mono λ h ⟨x,y,hd,e,ha,hb⟩=>⟨x,y,hd,e,ha,r,hr,hb⟩
theorem sat_putObj {R:SP}{l:Nat}{o o':Obj}{g:Gh}{w:World}(hs:sat g w (R*pt l o)):sat g (w.putObj l o') (R*pt l o'):=by
  have hr:w.heap[l]? =some o:=has_here g w hs
  exact (upd_here (R:=R) (b:=l) (o:=o) (o':=o')).sat hs (w':=w.putObj l o') (λ k=>by
    by_cases hk:k=l
    . subst hk;rw [if_pos rfl];exact World.putObj_heap_same (Array.getElem?_eq_some_iff.1 hr).1
    rw [if_neg hk];exact World.putObj_heap_other hk) rfl rfl rfl
def putL (n:Nat):Env->List Tmp->List Value->Env
  |ρ,t::ts,v::vs=>putL n (put n ρ (some t) v) ts vs
  |ρ,_,_=>ρ
theorem putL_agr {n:Nat}:∀ (ts:List Tmp) (vs:List Value) (ρ:Env) (a:Act),Agr n ρ a->Agr n (putL n ρ ts vs) { a with tmps:=(ts.zip vs).foldl (λ t (p:Tmp×Value)=>t.setIfInBounds p.1 p.2) a.tmps }
  |[],_,_,a,h=>by cases a;exact h
  |_::_,[],_,a,h=>by cases a;exact h
  |t::ts,v::vs,ρ,a,h=>putL_agr ts vs _ _ (h.put (some t) v)
def rndQ (l n:Nat)(ρ0:Env)(ps:Array Tmp)(assign body:Code)(Q:Value->Option Code->SP->Prop):Post
  | .normal,_,A=>∃B,(∀g w,sat g w A->sat g w (B*Lp l .busy none n ρ0 ps assign body))/\ Q (.bool true) none B
  | .ret,_,A=>∃B,(∀g w,sat g w A->sat g w (B*Lp l .busy none n ρ0 ps assign body))/\ Q (.bool false) (some .ret) B
  | .exit id,_,A=>∃B,(∀g w,sat g w A->sat g w (B*Lp l .busy none n ρ0 ps assign body))/\ Q (.bool false) (some (.exit id)) B
  |_,_,_=>False
def stOf:Option Code->LoopState
  |none=> .ready
  |some _=> .done
theorem yd_body {P:Program}{l n:Nat}{ρ:Env}{ps:Array Tmp}{assign body:Code}{A:SP}{vs:List Value}{Q:Value->Option Code->SP->Prop}(hn:vs.length=ps.size)(hm:mks (ρ n)=[])
    (h: @TC ⟨some l⟩ P n assign (λ e ρ' A'=>match e with
      | .normal=>∃B,(∀g w,sat g w A'->sat g w (B*Lp l .ready none n ρ ps assign body))/\ @TC ⟨some l⟩ P n body (rndQ l n ρ ps assign body Q) ρ' (B*Lp l .busy none n ρ ps assign body)
      |_=>False) (putL n ρ ps.toList vs) (A*Lp l .ready none n ρ ps assign body)):
    Yd P l vs.toArray (A*Lp l .ready none n ρ ps assign body) (λ v B=>∃C j,Q v j C/\ B=C*Lp l (stOf j) j n ρ ps assign body):=λ g w hs=>by
  obtain ⟨r,⟨h1,h2,h3,h4,h5,h6⟩,hs'⟩:=lp_iff.1 hs;have hl:w.heap[l]? =some (.loop r):=has_here g w hs';refine ⟨r.fn,(r.params.zip vs.toArray).foldl (λ tmps (x:Tmp×Value)=>tmps.setIfInBounds x.1 x.2) r.tmps,assign,body, ?_, ?_⟩
  . have:=run_yield (P:=P) (args:=vs.toArray) hl (by simp [h3,hn]);rw [h4,h5] at this;exact this
  have ha0:Agr n ρ { tmps:=r.tmps,defers:=[] }:=⟨by rw [hm];rfl,h6.sz,h6.ev⟩;have ha:=putL_agr ps.toList vs ρ _ ha0
  have e0:((r.params.zip vs.toArray).foldl (λ tmps (x:Tmp×Value)=>tmps.setIfInBounds x.1 x.2) r.tmps)=((ps.toList.zip vs).foldl (λ t (p:Tmp×Value)=>t.setIfInBounds p.1 p.2) r.tmps):=by
    rw [h3,←Array.foldl_toList,Array.toList_zip]
  refine roundIn_of_wpIn (F:=Fence.wide) trivial ?_
  show assign.wpIn (Fc ⟨some l⟩) 0 P _ { tmps:=(r.params.zip vs.toArray).foldl (λ tmps (x:Tmp×Value)=>tmps.setIfInBounds x.1 x.2) r.tmps,defers:=[] } w
  rw [e0]
  refine wpIn_mono (h g _ w ha hs) ?_;rintro e a1 w1 ⟨_,ρ1,A1,ha1,hs1,hq⟩
  cases e with
  |normal=>
    obtain ⟨B,hB,hbody⟩:=hq;have hs1:=hB g w1 hs1;obtain ⟨r1,⟨g1,g2,g3,g4,g5,g6⟩,hs1'⟩:=lp_iff.1 hs1;have hl1:w1.heap[l]? =some (.loop r1):=has_here g w1 hs1';refine ⟨_,run_beginRound hl1 g1, ?_⟩;have hs2:=sat_putObj (o':= .loop { r1 with state:= .busy }) hs1';have hs3:sat g (w1.putObj l (.loop { r1 with state:= .busy })) (B*Lp l .busy none n ρ ps assign body):=lp_iff.2 ⟨{ r1 with state:= .busy },⟨rfl,g2,g3,g4,g5,g6⟩,hs2⟩;refine wpIn_mono (show body.wpIn (Fc ⟨some l⟩) 0 P _ a1 _ from hbody g a1 _ ha1 hs3) ?_;rintro e a3 w3 ⟨_,ρ3,A3,ha3,hs4,hq3⟩
    have fin:∀ (jump:Option Code),(∃C,(∀g w,sat g w A3->sat g w (C*Lp l .busy none n ρ ps assign body))/\ Q (.bool jump.isNone) jump C)→
        ∃v w',(Instr.endRound l jump).run P w3= .ok v w'/\∃v' B',(Ending.returned v:Ending)= .returned v'/\ (∃C j,Q v' j C/\ B'=C*Lp l (stOf j) j n ρ ps assign body)/\ sat g w' B':=by
      rintro jump ⟨C,hC,hQ⟩;have hs4:=hC g w3 hs4;obtain ⟨r3,⟨k1,k2,k3,k4,k5,k6⟩,hs5⟩:=lp_iff.1 hs4;have hl3:w3.heap[l]? =some (.loop r3):=has_here g w3 hs5;refine ⟨_,_,run_endRound jump hl3,_,_,rfl,⟨C,jump,hQ,rfl⟩, ?_⟩;refine lp_iff.2 ⟨{ r3 with state:=if jump.isNone then .ready else .done,pending:=jump },⟨?_,rfl,k3,k4,k5,k6⟩,sat_putObj hs5⟩
      cases jump<;>rfl
    cases e with
    |normal=>exact fin none hq3
    |ret=>exact fin (some .ret) hq3
    |exit id=>exact fin (some (.exit id)) hq3
    |_=>exact hq3.elim
  |_=>exact hq.elim
def jmpQ (Q:Post)(ρ:Env)(A:SP):Option Code->Prop
  |none=>Q .normal ρ A
  |some .ret=>Q .ret ρ A
  |some (.exit id)=>Q (.exit id) ρ A
  |_=>False
theorem tc_range {P:Program}{n:Nat}{Q:Post}{ρ:Env}{A:SP}{x:Operand}{ps:Array Tmp}{assign body:Code}{gf:FuncId}{fs cs:List Value}(hx:ev n ρ x= .func (.func gf) fs.toArray cs.toArray)(hb:bodyB P gf=true)
    (h:∀r l:Nat,Fn P gf (fs++[Value.func (.yield l) #[] #[]]++cs).toArray (A*pt r mkO*Lp l .ready none n ρ ps assign body) λ _ B=>
      ∃st j C,st≠ .busy/\ B=C*pt r mkO*Lp l st j n ρ ps assign body/\ jmpQ Q (upd ρ n (mkv (r::mks (ρ n)))) (C*pt r mkO) j): @TC ⟨none⟩ P n (.rangeFunc x ps assign body) Q ρ A:=λ g a w ha hs=>by
  refine wpIn_rangeFunc λ fn _=> ?_
  obtain ⟨rec,hrec⟩:∃rec:Loop,rec={ state:= .ready,pending:=none,fn,tmps:=a.tmps,params:=ps,assign,body,defers:=w.heap.size }:=⟨_,rfl⟩;obtain ⟨W1,hW1⟩:∃W1,(w.alloc (.deferred (some []))).alloc (.loop rec)=W1:=⟨_,rfl⟩
  have hs1:sat g W1 (A*pt w.heap.size mkO*Lp (w.heap.size+1) .ready none n ρ ps assign body):=by
    rw [←hW1]
    have hsz:(w.alloc (.deferred (some []))).heap.size=w.heap.size+1:=(by simp);have:=(hs.alloc (.deferred (some []))).alloc (.loop rec);rw [hsz] at this
    exact lp_iff.2 ⟨rec,by rw [hrec];exact ⟨rfl,rfl,rfl,rfl,rfl,rfl,ha.sz,ha.ev⟩,this⟩
  refine ⟨w.heap.size+1,[mark w.heap.size],W1,{ target:= .fn (.func gf) cs.toArray,args:=fs.toArray++ #[.func (.yield (w.heap.size+1)) #[] #[]] },W1,gf,
    (fs++[Value.func (.yield (w.heap.size+1)) #[] #[]]++cs).toArray,W1, ?_, ?_,λ _ _=>trivial, ?_,λ h=>(by cases h), ?_⟩
  . rw [←hW1,hrec];exact run_enterLoop_outer _ _ _ _ _
  . simp only [resolve,ha.eval,hx]
    simp [Deferred.ofValue,ev,pure,bind,Sem.bind]
  . simp only [invoke]
    rw [run_callFunc hb];simp
  have hc:=h w.heap.size (w.heap.size+1) g W1 hs1;refine CallsIn.mono (show CallsIn (Fc ⟨none⟩) (0-1) P gf _ W1 _ from callsIn_wide.2 hc) ?_;rintro e w3 ⟨v,B,rfl,⟨st,j,C,hst,rfl,hj⟩,hs3⟩;obtain ⟨r3,⟨k1,k2,k3,k4,k5,k6⟩,hs5⟩:=lp_iff.1 hs3;have hl3:w3.heap[w.heap.size+1]? =some (.loop r3):=has_here g w3 hs5;refine ⟨_,_,run_endLoop hl3 (by rw [k1];exact hst), ?_⟩;have hs6:=(sat_putObj (o':= .loop { r3 with state:= .exhausted }) hs5).left
  have ha6:Agr n (upd ρ n (mkv (w.heap.size::mks (ρ n)))) { a with defers:=[mark w.heap.size]++a.defers }:=by
    refine ⟨?_,ha.sz,λ t ht=> ?_⟩
    . show [mark w.heap.size]++a.defers=_
      have:upd ρ n (mkv (w.heap.size::mks (ρ n))) n=mkv (w.heap.size::mks (ρ n)):=(by simp [upd]);rw [this,mks_mkv,ha.df];rfl
    have:Nat.beq t n=false:=by
      cases hb:Nat.beq t n with
      |false=>rfl
      |true=>have:=Nat.eq_of_beq_eq_true hb;omega
    simp only [upd,this,cond_false];exact ha.ev t ht
  rw [k2] at hs6 ⊢
  cases j with
  |none=>exact ⟨rfl,_,_,ha6,hs6,hj⟩
  |some c=>
    cases c with
    |ret=>exact wpIn_ret ⟨rfl,_,_,ha6,hs6,hj⟩
    |exit id=>exact wpIn_exit ⟨rfl,_,_,ha6,hs6,hj⟩
    |_=>exact hj.elim
def It (P:Program)(gf:FuncId)(fs cs:List Value)(K:SP)(N:Nat)(val:Nat->List Value):Prop:=
  ∀ (l:Nat) (J:Nat->SP->Prop) (X:SP->Prop) (S0:SP),J 0 S0→
    (∀F i S,i<N->J i S->Yd P l (val i).toArray (F*S) λ v B=>∃ (b:Bool) (S':SP),v= .bool b/\ (b=true->J (i+1) S')/\ (b=false->X S')/\ B=F*S')→
    Fn P gf (fs++[Value.func (.yield l) #[] #[]]++cs).toArray (S0*K) λ r B=>r= .tuple #[]/\ ((∃S,J N S/\ B=S*K)∨∃S,X S/\ B=S*K)
section
variable (l n:Nat) (ρ0:Env) (ps:Array Tmp) (assign body:Code) (F:SP)
def rndI (I1:SP->Prop)(X:Code->SP->Prop):Post
  | .normal,_,A=>∃S,(∀g w,sat g w A->sat g w (F*S))/\ I1 S
  | .ret,_,A=>∃S,(∀g w,sat g w A->sat g w (F*S))/\ X .ret S
  | .exit id,_,A=>∃S,(∀g w,sat g w A->sat g w (F*S))/\ X (.exit id) S
  |_,_,_=>False
def asgI (P:Program)(I1:SP->Prop)(X:Code->SP->Prop):Post
  | .normal,ρ,A=>∃S,(∀g w,sat g w A->sat g w (F*S))/\∀F,@TC ⟨some l⟩ P n body (rndI F I1 X) ρ (F*S)
  |_,_,_=>False
end
theorem tc_rangeI {P:Program}{n N:Nat}{Q:Post}{ρ:Env}{A A0 K:SP}{x:Operand}{ps:Array Tmp}{assign body:Code}{gf:FuncId}{fs cs:List Value}{val:Nat->List Value}(I:Nat->SP->Prop)(X:Code->SP->Prop)
    (hx:ev n ρ x= .func (.func gf) fs.toArray cs.toArray) (hb:bodyB P gf=true) (hit:It P gf fs cs K N val) (hps:∀i,(val i).length=ps.size) (hm:mks (ρ n)=[]) (hA:∀g w,sat g w A->sat g w (A0*K)) (h0:I 0 A0)
    (round:∀l F i S,i<N->I i S-> @TC ⟨some l⟩ P n assign (asgI l n body F P (I (i+1)) X) (putL n ρ ps.toList (val i)) (F*S))
    (done:∀r S,I N S->Q .normal (upd ρ n (mkv [r])) (S*K*pt r mkO)) (jump:∀r j S,X j S->jmpQ Q (upd ρ n (mkv [r])) (S*K*pt r mkO) (some j)): @TC ⟨none⟩ P n (.rangeFunc x ps assign body) Q ρ A:=by
  refine tc_pre hA (tc_range hx hb λ r l=> ?_);rw [hm]
  have hY:=hit l (λ i S=>∃S1,S=S1*pt r mkO*Lp l .ready none n ρ ps assign body/\ I i S1) (λ S=>∃j S1,S=S1*pt r mkO*Lp l .done (some j) n ρ ps assign body/\ X j S1) _ ⟨A0,rfl,h0⟩ ?_
  . refine Fn.mono (hY.pre λ _ _ h=>(show A0*K*pt r mkO*Lp l .ready none n ρ ps assign body=A0*pt r mkO*Lp l .ready none n ρ ps assign body*K by ac_rfl)▸h) ?_;rintro v B ⟨_,⟨_,⟨S1,rfl,hI⟩,rfl⟩|⟨_,⟨j,S1,rfl,hX⟩,rfl⟩⟩
    . exact ⟨.ready,none,S1*K,by simp,by ac_rfl,done r S1 hI⟩
    exact ⟨.done,some j,S1*K,by simp,by ac_rfl,jump r j S1 hX⟩
  rintro F i _ hi ⟨S1,rfl,hI⟩;have e1:∀ (S L:SP),F*S*pt r mkO*L=F*pt r mkO*L*S:=λ S L=>by ac_rfl
  have hb:=yd_body (P:=P) (l:=l) (n:=n) (ρ:=ρ) (ps:=ps) (assign:=assign) (body:=body) (A:=F*S1*pt r mkO) (vs:=val i)
    (Q:=λ v j C=>∃S2,C=F*S2*pt r mkO/\ ((j=none/\ v= .bool true/\ I (i+1) S2)∨∃c,j=some c/\ v= .bool false/\ X c S2)) (hps i) hm
    (by
      rw [e1]
      refine tc_imp (round l (F*pt r mkO*Lp l .ready none n ρ ps assign body) i S1 hi hI) λ e ρ' A' hq=> ?_
      cases e with
      |normal=>
        obtain ⟨S,hS,hbody⟩:=hq;refine ⟨F*S*pt r mkO,λ g w h=>by rw [e1];exact hS g w h, ?_⟩;rw [e1]
        refine tc_imp (hbody (F*pt r mkO*Lp l .busy none n ρ ps assign body)) λ e ρ2 A2 hq=> ?_
        cases e with
        |normal=>obtain ⟨S2,h2,hI2⟩:=hq;exact ⟨F*S2*pt r mkO,λ g w h=>by rw [e1];exact h2 g w h,S2,rfl,.inl ⟨rfl,rfl,hI2⟩⟩
        |ret=>obtain ⟨S2,h2,hI2⟩:=hq;exact ⟨F*S2*pt r mkO,λ g w h=>by rw [e1];exact h2 g w h,S2,rfl,.inr ⟨_,rfl,rfl,hI2⟩⟩
        |exit id=>obtain ⟨S2,h2,hI2⟩:=hq;exact ⟨F*S2*pt r mkO,λ g w h=>by rw [e1];exact h2 g w h,S2,rfl,.inr ⟨_,rfl,rfl,hI2⟩⟩
        |_=>exact hq.elim
      |_=>exact hq.elim)
  refine (hb.pre λ _ _ h=>(show F*(S1*pt r mkO*Lp l .ready none n ρ ps assign body)=F*S1*pt r mkO*Lp l .ready none n ρ ps assign body by ac_rfl)▸h).mono ?_;rintro v B ⟨C,j,⟨S2,rfl,⟨rfl,rfl,hI2⟩|⟨c,rfl,rfl,hX⟩⟩,rfl⟩
  . exact ⟨true,_,rfl,λ _=>⟨S2,rfl,hI2⟩,λ e=>(by cases e),by show _=F*(S2*pt r mkO*Lp l (stOf none) none n ρ ps assign body);ac_rfl⟩
  exact ⟨false,_,rfl,λ e=>(by cases e),λ _=>⟨c,S2,rfl,hX⟩,by show _=F*(S2*pt r mkO*Lp l (stOf (some c)) (some c) n ρ ps assign body);ac_rfl⟩
theorem yd_b {P:Program}{l:Nat}{args:Array Value}{J X:SP->Prop}{F S A':SP}{G:SP->SP}(h:Yd P l args (F*S) λ v B=>∃ (b:Bool) (S':SP),v= .bool b/\ (b=true->J S')/\ (b=false->X S')/\ B=F*S')(hA:A'=F*S)(hk:∀S:SP,F*S=G S):
    Yd P l args A' λ v B=>∃ (b:Bool) (S':SP),v= .bool b/\ (b=true->J S')/\ (b=false->X S')/\ B=G S':=by
  subst hA;refine h.mono λ v B ⟨b,S',e1,e2,e3,e4⟩=>⟨b,S',e1,e2,e3, ?_⟩
  rw [e4,hk]
theorem jmp_r {Q:Post}{ρ:Env}{A:SP}(h:Q .ret ρ A):jmpQ Q ρ A (some .ret):=h
theorem mk1 {B:SP}{r:Nat}{g:Gh}{w:World}(h:sat g w (B*pt r mkO)):sat g w (B*Mk [r]):=by
  show sat g w (B*(emp*pt r mkO));rw [emp_star];exact h
theorem mk0 {B:SP}{g:Gh}{w:World}(h:sat g w B):sat g w (B*Mk []):=by
  show sat g w (B*emp);rw [star_emp];exact h
end Go.Vl.Rg

namespace Go.Vl
open Go Go.Proofs Go.Proofs.Tryz
theorem ct_wf2 {A R:SP}{C:SP->SP}{d:Nat}{s:DevS}(hc:Ct A (Dev d s) R C){g:Gh}{w:World}(hs:sat g w A):WfD s:=by
  obtain ⟨rfl,_⟩:=hc;exact (dev_iff.1 hs).1
def flF:Nat->Nat->DevS->Int×DevS
  |0,_,s=>fe s
  |k+1,q,s=>if (fl1 ((q*64:Nat):Int) s).1≠0 then fl1 ((q*64:Nat):Int) s else flF k (q+1) (fl1 ((q*64:Nat):Int) s).2
def lastS (p m:Nat)(s:DevS):Int×DevS:=flF ((p+m-1)/64-p/64+1) (p/64) s
attribute [local irreducible] Sl pt ro Dev imgS
namespace Rg
end Rg
end Go.Vl

namespace Go.Vl
open Go Go.Proofs Go.Proofs.Tryz
def insB (n:Nat)(p m:Int):Bool:=decide (0<=p/\ 0<=m/\ p<=(n:Int)*64/\ m<=(n:Int)*64-p)
theorem stE_off {s:DevS}(h:stE s≠0):s.off=true:=by
  unfold stE at h;by_cases e:s.off=true
  . exact e
  rw [if_neg e] at h;exact absurd rfl h
theorem stE_on {s:DevS}(h:stE s=0):s.off=false:=by
  unfold stE at h;by_cases e:s.off=true
  . rw [if_pos e] at h;exact absurd h (by decide)
  simpa using e
def rangeP (p m:Int)(s:DevS):Int×DevS:=if s.off=true then (5,s) else if m<1 then (0,s) else if rdy s.ls.length false p m≠0 then (6,s) else lastS p.toNat m.toNat s
def bytesP (p:Int)(b:List Nat)(s:DevS):Int×DevS:=if s.off=true then (5,s) else if b=[] then (0,s) else if (sto p b s).1≠0 then sto p b s else lastS p.toNat b.length (sto p b s).2
def pubP (p:Int)(v:Nat)(s:DevS):Int×DevS:=if (st8 p v s).1≠0 then st8 p v s else lastS p.toNat 8 (st8 p v s).2
def loadP (p:Int)(n:Nat)(s:DevS):Nat×Int:=if rdy s.ls.length s.off p n≠0 then (0,rdy s.ls.length s.off p n) else (nm (((imgS s).drop p.toNat).take n),0)
def wordP (p:Int)(s:DevS):Nat×Int:=if s.off=true then (0,5) else if p%8≠0 then (0,6) else loadP p 8 s
attribute [local irreducible] Sl pt ro Dev imgS
end Go.Vl

namespace Go.Vl
open Go Go.Proofs Go.Proofs.Tryz
def NoD (A:SP)(v:Value):Prop:=v= .pointer none∨∃b,v=(pz b)/\ Cell A b 0 (.slice none 0 0)
theorem NoD.left {A X:SP}{v:Value}(h:NoD A v):NoD (A*X) v:=h.imp id λ ⟨b,e,hc⟩=>⟨b,e,hc.left⟩
theorem img_lt {s:DevS}:∀x∈imgS s,x<256:=λ x hx=>by
  unfold imgS img at hx
  obtain ⟨l,_,h⟩:=List.mem_flatMap.1 hx
  unfold lb at h
  obtain ⟨v,_,h⟩:=List.mem_flatMap.1 h;exact le_bytes _ _ _ h
theorem imgS_len {s:DevS}(hw:WfD s):(imgS s).length=s.ls.length*64:=img_length hw.line
theorem img_sub {s:DevS}{p n:Nat}:∀x∈((imgS s).drop p).take n,x<256:=λ x hx=>img_lt x (List.mem_of_mem_drop (List.mem_of_mem_take hx))
theorem nm_take0 (xs:List Nat)(n:Nat):nm (((xs.take n).drop 0).take n)=nm (xs.take n):=by rw [List.drop_zero,List.take_take,Nat.min_self]
theorem Put16_c {A:SP}{a:Option Addr}{c m:Nat}{xs:List Nat}{v:Nat}(hr:Rs A a (bys xs):=by exact rbqz)(hm:xs.length=m:=by first|assumption|rfl)(hv:v<65536:=by omega)(hl:m<=1099511627776:=by omega):
    Fn Tryz.prog 232 #[.slice a m c,.int .u16 (v:Nat)] A (λ r B=>∃a' c',r= .slice a' (m+2) c'/\ m+2<=c'/\ B=A*Sl 1 (.slice a' (m+2) c') (m+2) (bys (xs++le 2 v))):=by
  subst hm;exact fn_rs hr λ hr=>fn_sl ((Put16_f A a c xs v hr hv hl).mono λ _ _ ⟨u,e,h⟩=>by rw [e];exact h)
theorem Take16_c {A:SP}{a:Option Addr}{c m:Nat}{xs:List Nat}{p:Nat}(hr:Rs A a (bys xs):=by exact rbqz)(hb:∀x∈xs,x<256:=by assumption)(hm:xs.length=m:=by first|assumption|rfl)(hp:p+2<=m:=by omega)(hl:m<=1099511627776:=by omega):
    Fn Tryz.prog 201 #[.slice a m c,vn p] A (λ r B=>r= .tuple #[.int .u16 ((nm ((xs.drop p).take 2):Nat):Int),.int .i64 0]/\ A=B):=by
  subst hm;exact fn_rs hr λ hr=>Take16_f A a c xs p hb hr hp hl
theorem Put32_c {A:SP}{a:Option Addr}{c m:Nat}{xs:List Nat}{v:Nat}(hr:Rs A a (bys xs):=by exact rbqz)(hm:xs.length=m:=by first|assumption|rfl)(hv:v<4294967296:=by omega)(hl:m<=1099511627776:=by omega):
    Fn Tryz.prog 74 #[.slice a m c,.int .u32 (v:Nat)] A (λ r B=>∃a' c',r= .slice a' (m+4) c'/\ m+4<=c'/\ B=A*Sl 1 (.slice a' (m+4) c') (m+4) (bys (xs++le 4 v))):=by
  subst hm;exact fn_rs hr λ hr=>fn_sl ((Put32_f A a c xs v hr hv hl).mono λ _ _ ⟨u,e,h⟩=>by rw [e];exact h)
theorem Take32_c {A:SP}{a:Option Addr}{c m:Nat}{xs:List Nat}{p:Nat}(hr:Rs A a (bys xs):=by exact rbqz)(hb:∀x∈xs,x<256:=by assumption)(hm:xs.length=m:=by first|assumption|rfl)(hp:p+4<=m:=by omega)(hl:m<=1099511627776:=by omega):
    Fn Tryz.prog 68 #[.slice a m c,vn p] A (λ r B=>r= .tuple #[.int .u32 ((nm ((xs.drop p).take 4):Nat):Int),.int .i64 0]/\ A=B):=by
  subst hm;exact fn_rs hr λ hr=>Take32_f A a c xs p hb hr hp hl
attribute [local irreducible] Sl pt ro Dev imgS
theorem Zfn {p r:Prop}(k:r)(h:Kq r->p:=by intro k;refine tm 1 rfl kqz rfl (o_fieldAddr (o:=0) underlying393 rfl rfl sz3 rfl) ?_;refine tm 2 rfl kqz rfl (by first|exact o_load p3 rfl hsqz rfl|exact o_loadC p3 rfl (by assumption)) ?_;exact k.o):p:=h ⟨k⟩
theorem Zgk {p r:Prop}(k:r)(h:Kq r->p:=by intro k;refine ⟨by repeat (first|with_reducible exact dr_refl|apply dr_keep|apply dr_drop), ?_⟩;refine tm 5 rfl kqz rfl (o_len underlying67 rfl) ?_;exact k.o):p:=h ⟨k⟩
theorem Zge {p r:Prop}(k:r)(h:Kq r->p:=by intro k;refine tm 10 rfl kqz rfl (o_assign wqz) ?_;refine tm 11 rfl kqz rfl (o_assign wqz) ?_;exact k.o):p:=h ⟨k⟩
theorem Zbs {p r:Prop}(k:r)(h:Kq r->p:=by intro k;refine th_done kqz ?_;refine q_then_n ?_;exact k.o):p:=h ⟨k⟩
theorem Zb9 {p r:Prop}(k:r)(h:Kq r->p:=by intro k;refine Ze ?_;refine Zb ?_;exact k.o):p:=h ⟨k⟩
theorem FL64_ok {A R:SP}{C:SP->SP}{d:Nat}{s:DevS}(hc:Ct A (Dev d s) R C:=by exact cbqz){p:Nat}(hoff:s.off=false)(hpm:p+8<=s.ls.length*64):
    Fn Tryz.prog 288 #[.agg [Value.int .i64 (p:Nat)].toArray,pz d] A (λ r B=>r= .tuple #[.int .u64 ((nm (((imgS s).drop p).take 8):Nat):Int),.int .i64 0]/\ A=B):=by
  refine fn_enterW func288 rfl ntmps288 (by simp) ?_;refine tc_have (λ _ _ h=>ct_wf2 hc h) λ hw=> ?_
  obtain ⟨rfl,hC⟩:=hc;have htop:=hw.top;have hil:(imgS s).length=s.ls.length*64:=imgS_len hw;have hI:(((imgS s).drop p).take 8).length=8:=(by rw [List.length_take,List.length_drop];omega);have hIb:=img_sub (s:=s) (p:=p) (n:=8);refine Zfg ?_;rintro _ _ ⟨b2,rfl,rfl⟩;refine Zm ?_;refine Zf9 ?_;refine tc_regh mo dr_refl ?_
  show TH _ _ _ _ _ 12 (Array.replicate 12 false) _ _
  refine tm 0 rfl kqz rfl (o_move wqz) ?_;refine Zfn ?_;refine tm 3 rfl kqz rfl (o_move wqz) ?_;refine th_one (i:=4) kqz ?_;refine oh_c rfl rfl rfl (o_call bd73 rfl (Put64_c (xs:=[]) (v:=0))) ?_;rintro _ _ ⟨a14,c14,rfl,hc14,rfl⟩;refine Zgk ?_;refine th_one (i:=6) kqz ?_;refine oh_c rfl rfl rfl (o_call bd247 rfl (Load_c (s:=s) (p:=p) (m:=8))) ?_;rintro _ _ ⟨a16,c16,rfl,hc16,rfl⟩;refine ⟨by repeat (first|with_reducible exact dr_refl|apply dr_keep|apply dr_drop), ?_⟩;refine tm 7 rfl kqz rfl (o_move wqz) ?_;refine tm 8 rfl kqz rfl (o_extract rfl rfl) ?_;refine tm 9 rfl kqz rfl (o_extract rfl rfl) ?_;refine Zge ?_;refine Zbs ?_;refine Zl ?_;refine Zz ?_;intro h;refine Zb9 ?_;refine tl_c rfl (o_call bd67 rfl (Take64_c (xs:=((imgS s).drop p).take 8) (p:=0) (hm:=hI))) ?_;rintro _ _ ⟨rfl,rfl⟩;refine Zf ?_;refine Zy ?_;exact ⟨.tuple #[.int .u64 ((nm (((imgS s).drop p).take 8):Nat):Int),.int .i64 0],R*Dev d s,res2 rfl (congrArg (λ z:Nat=>Value.int .u64 (z:Int)) (nm_take0 _ _)) rfl,Dr.sat drqz,rfl,rfl⟩
theorem Zca {p r:Prop}(k:r)(h:Kq r->p:=by intro k;refine Zy ?_;refine q_then_r ?_;exact k.o):p:=h ⟨k⟩
theorem Zg7 {p r:Prop}(k:r)(h:Kq r->p:=by intro k;refine Zb ?_;refine Zca ?_;exact k.o):p:=h ⟨k⟩
theorem FL64_no {A R:SP}{C:SP->SP}{d:Nat}{s:DevS}(hc:Ct A (Dev d s) R C:=by exact cbqz){p:Int}(hp: -9223372036854775808<=p/\ p<=9223372036854775807:=by omega)(hno:rdy s.ls.length s.off p 8≠0):
    Fn Tryz.prog 288 #[.agg [Value.int .i64 p].toArray,pz d] A (λ r B=>r= .tuple #[.int .u64 0,.int .i64 (rdy s.ls.length s.off p 8)]/\ A=B):=by
  refine fn_enterW func288 rfl ntmps288 (by simp) ?_;obtain ⟨rfl,hC⟩:=hc;refine Zfg ?_;rintro _ _ ⟨b2,rfl,rfl⟩;refine Zm ?_;refine Zf9 ?_;refine tc_regh mo dr_refl ?_
  show TH _ _ _ _ _ 12 (Array.replicate 12 false) _ _
  refine tm 0 rfl kqz rfl (o_move wqz) ?_;refine Zfn ?_;refine tm 3 rfl kqz rfl (o_move wqz) ?_;refine th_one (i:=4) kqz ?_;refine oh_c rfl rfl rfl (o_call bd73 rfl (Put64_c (xs:=[]) (v:=0))) ?_;rintro _ _ ⟨a14,c14,rfl,hc14,rfl⟩;refine Zgk ?_;refine th_one (i:=6) kqz ?_;refine oh_c rfl rfl rfl (o_call bd247 rfl (LoadNo_c (s:=s) (p:=p) (m:=8))) ?_;refine Zcw ?_;refine tm 7 rfl kqz rfl (o_move wqz) ?_;refine tm 8 rfl kqz rfl (o_extract rfl rfl) ?_;refine tm 9 rfl kqz rfl (o_extract rfl rfl) ?_;refine Zge ?_;refine Zbs ?_;refine Zl ?_;refine Zbv ?_;refine tc_cond rfl (sbq ?_) (λ h=> ?_)
  . intro h;refine Zg7 ?_;exact ⟨.tuple #[.int .u64 0,.int .i64 (rdy s.ls.length s.off p 8)],R*Dev d s,res2 rfl rfl rfl,Dr.sat drqz,rfl,rfl⟩
  exfalso;exact hno (by simpa using h)
theorem FL64_c {A R:SP}{C:SP->SP}{d:Nat}{s:DevS}(hc:Ct A (Dev d s) R C:=by exact cbqz){p:Int}(hp: -9223372036854775808<=p/\ p<=9223372036854775807:=by omega):Fn Tryz.prog 288 #[.agg [Value.int .i64 p].toArray,pz d] A (λ r B=>r= .tuple #[.int .u64 (((loadP p 8 s).1:Nat):Int),.int .i64 (loadP p 8 s).2]/\ A=B):=by
  by_cases h:rdy s.ls.length s.off p 8=0
  . have h0:=rdy0 h;obtain ⟨q,rfl⟩:=Int.eq_ofNat_of_zero_le h0.2.1;have e:loadP (q:Int) 8 s=(nm (((imgS s).drop q).take 8),0):=(by unfold loadP;rw [if_neg (by simpa using h)];rfl);rw [e];exact FL64_ok hc h0.1 oqz
  have e:loadP p 8 s=(0,rdy s.ls.length s.off p 8):=(by unfold loadP;rw [if_pos (by simpa using h)];rfl);rw [e];exact FL64_no hc hp (by simpa using h)
theorem Zdh {p r:Prop}(k:r)(h:Kq r->p:=by intro k;refine sr ?_;refine Zbo ?_;exact k.o):p:=h ⟨k⟩
theorem Zd1 {p r:Prop}(k:r)(h:Kq r->p:=by intro k;rintro _ _ ⟨rfl,rfl⟩;refine Zbu ?_;exact k.o):p:=h ⟨k⟩
theorem Zfa {p r:Prop}(k:r)(h:Kq r->p:=by intro k;refine sr ?_;refine Zca ?_;exact k.o):p:=h ⟨k⟩
theorem Word_c {A R:SP}{C:SP->SP}{d:Nat}{s:DevS}(hc:Ct A (Dev d s) R C:=by exact cbqz){p:Int}(hp: -9223372036854775808<=p/\ p<=9223372036854775807:=by omega):
    Fn Tryz.prog 246 #[pz d,.int .i64 p] A (λ r B=>r= .tuple #[.int .u64 (((wordP p s).1:Nat):Int),.int .i64 (wordP p s).2]/\ A=B):=by
  refine fn_enterW func246 rfl ntmps246 (by simp) ?_;refine Zdh ?_;refine tl_c rfl (o_call bd287 rfl (alive_c hc)) ?_;refine Zd1 ?_;refine Zbv ?_;refine tc_cond rfl (sbq ?_) (λ h=> ?_)
  . intro h;refine Zg7 ?_;have ho:=stE_off h;have e:wordP p s=(0,5):=(by unfold wordP;rw [if_pos ho]);have e2:stE s=5:=(by unfold stE;rw [if_pos ho]);rw [e]
    exact ⟨.tuple #[.int .u64 0,.int .i64 5],A,res2 rfl rfl (congrArg (Value.int .i64) e2),λ _ _ h=>h,rfl,rfl⟩
  have ho:s.off=false:=stE_on (by simpa using h);refine Zc4 ?_;refine tv (o_rem rfl rfl (by decide)) ?_;refine Zbv ?_;refine tc_cond rfl (sbq ?_) (sbq ?_)
  . intro h;refine Zfa ?_;have e:wordP p s=(0,6):=(by unfold wordP;rw [if_neg (by rw [ho];decide),if_pos (λ e=>h (by rw [Int.tmod_eq_zero_of_dvd (Int.dvd_of_emod_eq_zero e)]))]);rw [e]
    exact ⟨.tuple #[.int .u64 0,.int .i64 6],A,res2 rfl rfl rfl,λ _ _ h=>h,rfl,rfl⟩
  intro h;refine Zb9 ?_;refine tv (o_bS (l:=[Value.int .i64 p]) (pv_cons wqz pv_nil) underlying393 z393 (pl393 underlying393) rfl) ?_;refine tlm ?_;refine tl_c rfl (o_call bd288 rfl (FL64_c hc (p:=p))) ?_;rintro _ _ ⟨rfl,rfl⟩;refine Zf ?_;refine Zy ?_;have e:wordP p s=loadP p 8 s:=(by unfold wordP;rw [if_neg (by rw [ho];decide),if_neg (λ e=>e (Int.emod_eq_zero_of_dvd (Int.dvd_of_tmod_eq_zero (by simpa using h))))]);rw [e]
  exact ⟨_,A,res2 rfl rfl rfl,Dr.sat drqz,rfl,rfl⟩
end Go.Vl

namespace Go.Vl
open Go Go.Proofs Go.Proofs.Tryz
def cw (p m:Nat):Nat:=if m=0 then 0 else (p+m-1)/8-p/8+1
def im (n:Nat):List Nat:=(List.range n).map λ i=>(i+1)%256
theorem lineF_lb {xs:List Nat}(hb:∀x∈xs,x<256){i:Nat}(hi:i*64+64<=xs.length):lb (seenL (lineF xs i))=(xs.drop (i*64)).take 64:=by
  have e:seenL (lineF xs i)=(List.replicate 8 0).mapIdx λ k _=>wordF xs i k:=(by simp [seenL,lineF])
  rw [e]
  have key:∀k,k<=8->lb (((List.replicate 8 0).mapIdx λ k _=>wordF xs i k).take k)=(xs.drop (i*64)).take (k*8):=by
    intro k
    induction k with
    |zero=>intro _;simp [lb]
    |succ k ih=>
      intro hk;rw [lb_take (by simp;omega),ih oqz]
      simp only [List.getElem_mapIdx,wordF]
      have h1:=le_nm ((xs.drop (i*64+k*8)).take 8) (λ x hx=>hb x (List.mem_of_mem_drop (List.mem_of_mem_take hx)));rw [List.length_take,List.length_drop,Nat.min_eq_left oqz] at h1
      rw [h1,show (k+1)*8=k*8+8 by omega,List.take_add,List.drop_drop]
  have:=key 8 oqz
  rwa [List.take_of_length_le (by simp)] at this
theorem img_from {n:Nat}{xs:List Nat}(hb:∀x∈xs,x<256)(hl:xs.length=n*64):imgS (fromS n xs)=xs:=by
  have e:imgS (fromS n xs)=((List.range n).map λ i=>(xs.drop (i*64)).take 64).flatten:=by
    unfold imgS img fromS
    rw [List.flatMap_def]
    congr 1
    apply List.ext_getElem
    . simp [newS]
    intro j h1 h2
    simp only [List.length_map,List.length_mapIdx,List.length_range] at h1 h2
    simp only [List.getElem_map,List.getElem_mapIdx,List.getElem_range]
    exact lineF_lb hb oqz
  rw [e]
  have key:∀k,k<=n->((List.range k).map λ i=>(xs.drop (i*64)).take 64).flatten=xs.take (k*64):=by
    intro k
    induction k with
    |zero=>intro _;simp
    |succ k ih=>
      intro hk;rw [List.range_succ,List.map_append,List.flatten_append,ih oqz]
      simp only [List.map_cons,List.map_nil,List.flatten_cons,List.flatten_nil,List.append_nil]
      rw [show (k+1)*64=k*64+64 by omega,List.take_add]
  rw [key n (Nat.le_refl _),←hl,List.take_length]
def Ag (at_:Nat)(c:List Nat)(s:DevS):Prop:=∀x,x<c.length->∀l,s.ls[(at_+x)/64]? =some l->∀σ∈l.st,(lb σ)[(at_+x)%64]? =c[x]?
def AgI (at_:Nat)(c:List Nat)(I:List Nat):Prop:=∀x,x<c.length->I[at_+x]? =c[x]?
def flsh (k q:Nat)(ls:List LineS):List LineS:=ls.mapIdx λ i l=>if q<=i/\ i<q+k then flushL l else l
def Cln (s:DevS):Prop:=∀l∈s.ls,l.st.length=1
def chunk (q:Nat)(I:List Nat):List Nat:=(I.drop (q*64)).take 64
def Poss (X:Nat->List Nat->Prop)(s:DevS):Prop:=∀ (q:Nat) (l:LineS),s.ls[q]? =some l->∀σ∈l.st,X q (lb σ)
theorem img_chk {s:DevS}(hw:WfD s){q:Nat}(hq:q<s.ls.length):chunk q (imgS s)=lb (seenL s.ls[q]):=by
  have h1:=img_at hw.line hq
  unfold chunk imgS
  rw [h1,←seen8 (hw.line _ (List.getElem_mem hq)),List.take_left]
theorem poss_img {X:Nat->List Nat->Prop}{s:DevS}(hw:WfD s)(h:Poss X s){q:Nat}(hq:q<s.ls.length):X q (chunk q (imgS s)):=by
  rw [img_chk hw hq];exact h q _ (List.getElem?_eq_getElem hq) _ (seenL_mem (hw.line _ (List.getElem_mem hq)))
def Lost (X:Nat->List Nat->Prop)(n:Nat)(s:DevS):Prop:=s.off=true/\ WfD s/\ Cln s/\ Poss X s/\ s.ls.length=n
def Went (X:Nat->List Nat->Prop)(p m:Nat)(s s2:DevS):Prop:=s2.off=false/\ WfD s2/\ Poss X s2/\ s2.ls.length=s.ls.length/\∀q:Nat,(q+1)*64<=p∨p+m<=q*64->s2.ls[q]? =s.ls[q]?
theorem crL_app:∀{xs ys:List Nat} {r:Nat},crL r (xs++ys)=crL (crL r xs) ys
  |[],_,_=>rfl
  |x::xs,ys,r=>by show crL _ (xs++ys)=crL (crL _ xs) ys;exact crL_app
theorem crc_app {s:Nat}{xs ys:List Nat}:crc s (xs++ys)=crc (crc s xs) ys:=by
  unfold crc;rw [crL_app,Nat.xor_assoc (crL _ xs),Nat.xor_self,Nat.xor_zero]
def pad8 (n:Nat):Nat:=(8-n%8)%8
def up8 (n:Nat):Nat:=n+pad8 n
theorem up8_le (n:Nat):n<=up8 n/\ up8 n<n+8:=by unfold up8 pad8;omega
def recH (p n:Nat):List Nat:=le 8 p++le 8 n
theorem recH_len (p n:Nat):(recH p n).length=16:=by unfold recH;rw [List.length_append,le_length,le_length]
theorem recH_b (p n:Nat):∀x∈recH p n,x<256:=λ x hx=>by
  rcases List.mem_append.1 hx with h|h<;>exact le_bytes _ _ _ h
def recS (p:Nat)(old:List Nat):List Nat:=recH p old.length++le 8 (crc 0 (recH p old.length++old))++old++List.replicate (pad8 old.length) 0
theorem recS_eq (p:Nat)(old:List Nat):recS p old=recH p old.length++le 8 (crc 0 (recH p old.length++old))++old++List.replicate (pad8 old.length) 0:=rfl
theorem recS_len (p:Nat)(old:List Nat):(recS p old).length=24+up8 old.length:=by
  unfold recS up8;simp only [List.length_append,recH_len,le_length,List.length_replicate];omega
def needF:List Int->Int->Int×Int
  |[],s=>(s,0)
  |n::l,s=>if n<1 then (0,2) else if 9223372036854775807<n+pad8 n.toNat then (0,2) else if 9223372036854775807-24-s<n+pad8 n.toNat then (0,2) else needF l (s+24+(n+pad8 n.toNat))
def needS (l:List Int):Int×Int:=needF l 0
def mayX (n at_ sz:Nat)(x:Int×Int):Bool:=decide (1<=x.2/\ 64<=x.1/\ x.1+x.2<=n/\ (x.1+x.2<=at_∨(at_+sz:Nat)<=x.1))
structure LogW (n at_ sz:Nat):Prop where
  a:64<=at_
  am:at_%64=0
  s:128<=sz
  sm:sz%64=0
  top:at_+sz<=n
def putF:Nat->List (Int×Int)->DevS->Int×DevS
  |_,[],s=>(0,s)
  |p,x::l,s=>if (sto (p:Nat) (recS x.1.toNat (((imgS s).drop x.1.toNat).take x.2.toNat)) s).1≠0 then sto (p:Nat) (recS x.1.toNat (((imgS s).drop x.1.toNat).take x.2.toNat)) s
    else putF (p+(24+up8 x.2.toNat)) l (sto (p:Nat) (recS x.1.toNat (((imgS s).drop x.1.toNat).take x.2.toNat)) s).2
def lensX (l:List (Int×Int)):List Int:=l.map (·.2)
def writeS (at_ sz:Nat)(l:List (Int×Int))(s:DevS):Int×DevS:=
  if s.off=true then (5,s) else if (wordP (at_:Nat) s).1≠0 then (3,s) else if l.all (mayX (s.ls.length*64) at_ sz)=false then (6,s)
  else if (needS (lensX l)).2≠0∨((sz-64:Nat):Int)<(needS (lensX l)).1 then (111,s) else if l=[] then (0,s)
  else if (putF (at_+64) l s).1≠0 then putF (at_+64) l s
  else if (rangeP ((at_+64:Nat):Int) (needS (lensX l)).1 (putF (at_+64) l s).2).1≠0 then rangeP ((at_+64:Nat):Int) (needS (lensX l)).1 (putF (at_+64) l s).2
  else pubP (at_:Nat) l.length (rangeP ((at_+64:Nat):Int) (needS (lensX l)).1 (putF (at_+64) l s).2).2
def clearS (at_:Nat)(s:DevS):Int×DevS:=if s.off=true then (5,s) else pubP (at_:Nat) 0 s
def readS (n at_ sz:Nat)(room:List Nat)(p:Nat):Option ((Nat×List Nat)×Nat):=
  if room.length<p+24 then none
  else if mayX n at_ sz ((nm ((room.drop p).take 8):Nat),(nm ((room.drop (p+8)).take 8):Nat))=false then none
  else if room.length<p+(24+up8 (nm ((room.drop (p+8)).take 8))) then none
  else if recS (nm ((room.drop p).take 8)) ((room.drop (p+24)).take (nm ((room.drop (p+8)).take 8)))≠(room.drop p).take (24+up8 (nm ((room.drop (p+8)).take 8))) then none
  else some ((nm ((room.drop p).take 8),(room.drop (p+24)).take (nm ((room.drop (p+8)).take 8))),24+up8 (nm ((room.drop (p+8)).take 8)))
def recsF (n at_ sz:Nat)(room:List Nat):Nat->Nat->List (Nat×List Nat)×Int
  |0,_=>([],0)
  |k+1,p=>match readS n at_ sz room p with
    |none=>([],110)
    |some (x,t)=>if (recsF n at_ sz room k (p+t)).2≠0 then ([],110) else (x::(recsF n at_ sz room k (p+t)).1,0)
def roomS (at_ sz:Nat)(s:DevS):List Nat:=((imgS s).drop (at_+64)).take (sz-64)
def recordsS (at_ sz:Nat)(s:DevS):List (Nat×List Nat)×Int:=
  if s.off=true then ([],5) else recsF (s.ls.length*64) at_ sz (roomS at_ sz s) (wordP (at_:Nat) s).1 0
def flL:Nat->Nat->DevS->Int×DevS
  |0,_,s=>(0,s)
  |k+1,q,s=>if (fl1 ((q*64:Nat):Int) s).1≠0 then fl1 ((q*64:Nat):Int) s else flL k (q+1) (fl1 ((q*64:Nat):Int) s).2
def flushX (p m:Nat)(s:DevS):Int×DevS:=flL ((p+m-1)/64-p/64+1) (p/64) s
def backS (x:Nat×List Nat)(s:DevS):Int×DevS:=if (sto (x.1:Nat) x.2 s).1≠0 then sto (x.1:Nat) x.2 s else flushX x.1 x.2.length (sto (x.1:Nat) x.2 s).2
def backF:List (Nat×List Nat)->DevS->Int×DevS
  |[],s=>(0,s)
  |x::l,s=>if (backS x s).1≠0 then backS x s else backF l (backS x s).2
def rollS (at_ sz:Nat)(s:DevS):(Int×Int)×DevS:=
  if (recordsS at_ sz s).2≠0∨(recordsS at_ sz s).1=[] then ((0,(recordsS at_ sz s).2),s)
  else if (backF (recordsS at_ sz s).1.reverse s).1≠0 then ((0,(backF (recordsS at_ sz s).1.reverse s).1),(backF (recordsS at_ sz s).1.reverse s).2)
  else if (fe (backF (recordsS at_ sz s).1.reverse s).2).1≠0 then ((0,(fe (backF (recordsS at_ sz s).1.reverse s).2).1),(fe (backF (recordsS at_ sz s).1.reverse s).2).2)
  else if (pubP (at_:Nat) 0 (fe (backF (recordsS at_ sz s).1.reverse s).2).2).1≠0 then ((0,(pubP (at_:Nat) 0 (fe (backF (recordsS at_ sz s).1.reverse s).2).2).1),(pubP (at_:Nat) 0 (fe (backF (recordsS at_ sz s).1.reverse s).2).2).2)
  else (((recordsS at_ sz s).1.length,0),(pubP (at_:Nat) 0 (fe (backF (recordsS at_ sz s).1.reverse s).2).2).2)
theorem hbqz {p:Prop}(h:p:=by (repeat (first|assumption|with_reducible exact has_here|with_reducible exact has_pt|apply has_left))):p:=h
theorem haqz {p:Prop}(h:p:=by repeat (first|assumption|apply has_left)):p:=h
def lcs11 (d at_ sz:Nat):List Value:=[pz d,vn at_,vn sz]
def xcs (x:Int×Int):List Value:=[.int .i64 x.1,.int .i64 x.2]
structure XW (x:Int×Int):Prop where
  a: -9223372036854775808<=x.1/\ x.1<=9223372036854775807
  l: -9223372036854775808<=x.2/\ x.2<=9223372036854775807
def rndS (n:Nat):Int×Int:=if 9223372036854775807<n+pad8 n then (0,2) else (((up8 n:Nat):Int),0)
theorem wr_i64 {x:Int}(h: -9223372036854775808<=x/\ x<=9223372036854775807):IntKind.i64.wrap x=x:=by simp [IntKind.wrap,IntKind.bits,IntKind.signed];omega
theorem needF_cons {n:Nat}{l:List Int}{s:Int}(h:1<=n):needF ((n:Int)::l) s=if (rndS n).2≠0∨9223372036854775807-24-s<(rndS n).1 then (0,2) else needF l (s+24+(rndS n).1):=by
  have e:needF ((n:Int)::l) s=if (n:Int)<1 then (0,2) else if 9223372036854775807<(n:Int)+pad8 (n:Int).toNat then (0,2) else if 9223372036854775807-24-s<(n:Int)+pad8 (n:Int).toNat then (0,2) else needF l (s+24+((n:Int)+pad8 (n:Int).toNat)):=rfl;rw [e,if_neg oqz,Int.toNat_natCast]
  unfold rndS up8
  by_cases h1:9223372036854775807<n+pad8 n
  . rw [if_pos oqz,if_pos h1,if_pos (.inl (by decide))]
  rw [if_neg oqz,if_neg h1]
  by_cases h2:9223372036854775807-24-s<((n+pad8 n:Nat):Int)
  . rw [if_pos oqz,if_pos (.inr h2)]
  rw [if_neg oqz,if_neg (by simp only [ne_eq,not_true,false_or];exact h2)]
  congr 1
theorem needF_drop {xs:List Int}{i:Nat}(h:i<xs.length)(s:Int):needF (xs.drop i) s=needF (xs[i]::xs.drop (i+1)) s:=by rw [List.drop_eq_getElem_cons h]
theorem needF_bad {n:Int}{l:List Int}{s:Int}(h:n<1):needF (n::l) s=(0,2):=by
  show (if n<1 then _ else _)=_
  rw [if_pos h]
theorem Sum_2 {A:SP}{a a2:Option Addr}{m m2 c c2 b:Nat}{xs ys:List Nat}{E:TypeId}(h1:Rs A a (bys xs))(e1:xs.length=m)(hb:∀x∈xs,x<256)(hl:m<=1099511627776)(k1:Rs A a2 (bys ys))(k2:ys.length=m2)(kb:∀x∈ys,x<256)(kl:m2<=1099511627776):
    Fn Tryz.prog 305 #[.slice (some ⟨b,0,none⟩) 2 2] (A*pt b (cl [.slice a m c,.slice a2 m2 c2] E)) (λ r B=>r= .int .u32 ((crc 0 (xs++ys):Nat):Int)/\ A*pt b (cl [.slice a m c,.slice a2 m2 c2] E)=B):=by
  subst e1 k2;refine fn_rs (xs:=[.slice a xs.length c,.slice a2 ys.length c2]) rs_pt0 λ hr=> ?_
  refine fn_rs h1.left λ h1=> ?_
  refine fn_rs k1.left λ k1=> ?_
  have h:=Sum_c (c:=2) (ls:=[xs,ys]) ⟨_,rfl,hr,λ i hi=>by
    match i,hi with
    |0,_=>exact ⟨a,c,rfl,h1⟩
    |1,_=>exact ⟨a2,c2,rfl,k1⟩⟩ rfl (by intro l hl;simp at hl;rcases hl with rfl|rfl;exact hb;exact kb) (by intro l hm;simp at hm;rcases hm with rfl|rfl;exact hl;exact kl) (by show 2<=_;decide)
  rw [show crcs [xs,ys]=crc 0 (xs++ys) by rw [crc_app];rfl] at h
  exact h
attribute [local irreducible] crk crL crc Sl pt ro Dev imgS recS
theorem Zc0 {p r:Prop}(k:r)(h:Kq r->p:=by intro k;refine tv (o_lss rfl rfl) ?_;refine tlm ?_;exact k.o):p:=h ⟨k⟩
theorem Zdm {p r:Prop}(k:r)(h:Kq r->p:=by intro k;refine tlm ?_;refine tv (o_lss rfl rfl) ?_;exact k.o):p:=h ⟨k⟩
theorem Zcc {p r:Prop}(k:r)(h:Kq r->p:=by intro k;refine tv (o_pick_f rfl wqz) ?_;refine Zn ?_;exact k.o):p:=h ⟨k⟩
theorem Zew {p r:Prop}(k:r)(h:Kq r->p:=by intro k;refine tlm ?_;refine tv (by first|exact o_subI rfl rfl oqz|exact o_sub rfl rfl) ?_;exact k.o):p:=h ⟨k⟩
theorem Zd4 {p r:Prop}(k:r)(h:Kq r->p:=by intro k;refine tv (o_gtr rfl rfl) ?_;refine nq ?_;exact k.o):p:=h ⟨k⟩
theorem Zeb {p r:Prop}(k:r)(h:Kq r->p:=by intro k;refine Ze ?_;refine Zbj ?_;exact k.o):p:=h ⟨k⟩
theorem Round8_c {A:SP}{n:Nat}(hn:n<=9223372036854775807:=by omega):
    Fn Tryz.prog 304 #[vn n,.int .i64 8] A (λ r B=>r= .tuple #[.int .i64 (rndS n).1,.int .i64 (rndS n).2]/\ A=B):=by
  refine fn_enterW func304 rfl ntmps304 (by simp) ?_;refine Zdh ?_;refine Zc0 ?_;refine tl_bool (d:=9) rfl dbq (sbq ?_);intro h;refine Zdm ?_;refine Zcc ?_;intro h;refine Zb9 ?_;refine Zv ?_;refine tv (o_remN (b:=8) rfl rfl (by decide)) ?_;refine tv (by first|exact o_subI rfl rfl oqz|exact o_sub rfl rfl) ?_;refine tl_env (d:=17) (v:=(vn (8-n%8))) (by show Value.int .i64 ((8:Int)-((n%8:Nat):Int))=_;congr 1;omega) ?_;refine tlm ?_;refine tv (o_remN (b:=8) rfl rfl (by decide)) ?_;refine Zds ?_;refine Zew ?_;refine tl_env (d:=22) (v:=(vn (9223372036854775807-pad8 n))) (by have hp:pad8 n<8:=(by unfold pad8;omega);show Value.int .i64 ((9223372036854775807:Int)-((pad8 n:Nat):Int))=_;congr 1;omega) ?_;refine Zd4 ?_;refine tc_cond rfl (λ h=> ?_) (λ h=> ?_)
  . have hp:pad8 n<8:=(by unfold pad8;omega);have hg:9223372036854775807<n+pad8 n:=(by first|omega|(simp at h;omega));refine Zfa ?_;have e:rndS n=(0,2):=(by unfold rndS;rw [if_pos hg]);rw [e]
    exact ⟨.tuple #[.int .i64 0,.int .i64 2],A,res2 rfl rfl rfl,Dr.sat drqz,rfl,rfl⟩
  have hp:pad8 n<8:=(by unfold pad8;omega);have hg:¬9223372036854775807<n+pad8 n:=(by first|omega|(simp at h;omega));refine Zeb ?_;refine tv adqz ?_;refine tl_env (d:=26) (v:=(vn (up8 n))) (by show Value.int .i64 (IntKind.i64.wrap ((n+pad8 n:Nat):Int))=_;rw [wr_i64 oqz];rfl) ?_;refine Zy ?_;have e:rndS n=(((up8 n:Nat):Int),0):=(by unfold rndS;rw [if_neg hg]);rw [e]
  exact ⟨.tuple #[vn (up8 n),.int .i64 0],A,res2 rfl rfl rfl,Dr.sat drqz,rfl,rfl⟩
theorem Zfl {p r:Prop}(k:r)(h:Kq r->p:=by intro k;refine tv (o_len underlying34 rfl) ?_;refine Zb8 ?_;exact k.o):p:=h ⟨k⟩
theorem Zct {p r:Prop}(k:r)(h:Kq r->p:=by intro k;refine Zy ?_;refine q_then_r (q_block_r (q_then_r (q_then_r (q_block_r (q_then_r ?_)))));exact k.o):p:=h ⟨k⟩
theorem Zdf {p r:Prop}(k:r)(h:Kq r->p:=by intro k;refine tv (o_nei rfl rfl) ?_;refine tlm ?_;exact k.o):p:=h ⟨k⟩
theorem Zc7 {p r:Prop}(k:r)(h:Kq r->p:=by intro k;refine tv (o_subI rfl rfl oqz) ?_;refine tv (o_gtr rfl rfl) ?_;exact k.o):p:=h ⟨k⟩
theorem Need_c {A:SP}{a:Option Addr}{c m:Nat}{xs:List Int}(hr:Rs A a (ints xs):=by exact rbqz)(hm:xs.length=m:=by first|assumption|rfl)(hx:∀x∈xs,-9223372036854775808<=x/\ x<=9223372036854775807:=by assumption)(hml:m<=4611686018427387904:=by omega):
    Fn Tryz.prog 268 #[.slice a m c] A (λ r B=>r= .tuple #[.int .i64 (needS xs).1,.int .i64 (needS xs).2]/\ A=B):=by
  refine fn_enterW func268 rfl ntmps268 (by simp) ?_;refine sr ?_;refine Zm ?_;refine Zdd ?_;refine Zfl ?_;refine tc_loop (λ kk ρ BB=>∃ (i:Nat) (sm:Int),(i<=m)/\ (needF (xs.drop i) sm=needS xs)/\ (0<=sm/\ sm<=9223372036854775807)/\ kk=m-i/\ ρ 4= .int .i64 sm/\ ρ 11=(vn i)/\ ρ 9= .slice a m c/\ ρ 10=(vn m)/\ BB=A) (m:=m-(0)) ?_ ?_
  . exact ⟨0,0,by omega,rfl,by omega,rfl,rfl,rfl,rfl,rfl,rfl⟩
  intro k ρ B hI;obtain ⟨i,sm,hp0,hp1,hp2,hkk1,hE4,hE11,hE9,hE10,hBA⟩:=hI;obtain rfl:=hBA.symm;refine te 4 hE4 ?_;refine te 11 hE11 ?_;refine te 9 hE9 ?_;refine te 10 hE10 ?_;refine Zcg ?_;refine tc_cond rfl (λ h=> ?_) (λ h=> ?_)
  . have hi:i<xs.length:=(by first|omega|(simp at h;omega));obtain ⟨x,hx1⟩:∃x,xs[i]=x:=⟨_,rfl⟩;have hxb:=hx x (hx1▸List.getElem_mem hi);have hnd:=needF_drop hi sm;rw [hx1] at hnd
    obtain ⟨hsm0,hsm1⟩:=hp2;refine Zd5 ?_;refine tv (o_ixP1 underlying34 sz3 rfl rfl oqz (nn_rs hr (by rw [ints_length];omega))) ?_;refine tv (o_ldP p3 rfl hr (ints_at hi)) ?_;refine tl_env (d:=14) (v:= .int .i64 x) (by show Value.int .i64 xs[i]=_;rw [hx1]) ?_;refine Zds ?_;refine Zu ?_;refine tc_cond rfl (λ h=> ?_) (λ h=> ?_)
    . have g16:(x<1):=(by first|exact of_decide_eq_true h|(have h2:=h;simp at h2;omega)|simpa using h);refine sr ?_;refine Zct ?_;have e:needS xs=(0,2):=(by rw [←hp1,hnd];first|exact needF_bad g16|rw [needF_cons hq1,if_pos hng]);rw [e]
      exact ⟨.tuple #[.int .i64 0,.int .i64 2],A,res2 rfl rfl rfl,Dr.sat drqz,rfl,rfl⟩
    have g16:¬(x<1):=(by first|exact of_decide_eq_false h|(have h2:=h;simp at h2;omega)|simpa using h);refine Zb9 ?_;obtain ⟨q,rfl⟩:=Int.eq_ofNat_of_zero_le (show 0<=x by omega);have hq1:1<=q:=(by omega);have hqr:(rndS q).1<=9223372036854775807/\ 0<=(rndS q).1:=(by unfold rndS up8;split<;>simp<;>omega);refine tl_c rfl (o_call bd304 rfl (Round8_c (n:=q))) ?_;rintro _ _ ⟨rfl,rfl⟩;refine Zc3 ?_;refine Zdf ?_;refine tl_bool (d:=24) rfl (λ h=> ?_) (λ h=> ?_)
    . have hng:(rndS q).2≠0∨9223372036854775807-24-sm<(rndS q).1:= .inl (by first|exact of_decide_eq_true h|(simp at h;omega));refine Zbk ?_;refine tv (o_pick_t rfl wqz) ?_;refine nq ?_;refine tc_cond_t rfl ?_;refine sr ?_;refine Zct ?_;have e:needS xs=(0,2):=(by rw [←hp1,hnd];first|exact needF_bad g16|rw [needF_cons hq1,if_pos hng]);rw [e]
      exact ⟨.tuple #[.int .i64 0,.int .i64 2],A,res2 rfl rfl rfl,Dr.sat drqz,rfl,rfl⟩
    have h24:(rndS q).2=0:=(by first|(have h9:=of_decide_eq_false h;omega)|(simp at h;omega));refine Zv ?_;refine Zc7 ?_;refine tv (o_pick_f rfl wqz) ?_;refine nq ?_;refine tc_cond rfl (λ h=> ?_) (λ h=> ?_)
    . have hng:(rndS q).2≠0∨9223372036854775807-24-sm<(rndS q).1:=(by first|assumption|exact .inr (by first|omega|(simp at h;omega)));refine sr ?_;refine Zct ?_;have e:needS xs=(0,2):=(by rw [←hp1,hnd];first|exact needF_bad g16|rw [needF_cons hq1,if_pos hng]);rw [e]
      exact ⟨.tuple #[.int .i64 0,.int .i64 2],A,res2 rfl rfl rfl,Dr.sat drqz,rfl,rfl⟩
    have hn9:¬9223372036854775807-24-sm<(rndS q).1:=(by first|omega|(simp at h;omega));have hng:¬((rndS q).2≠0∨9223372036854775807-24-sm<(rndS q).1):=(by omega);refine Zb9 ?_;refine Zen ?_;refine Zb5 ?_;refine tv adqz ?_;refine Zep ?_;exact ⟨_,by omega,i+1,_,by omega,by rw [←hp1,hnd,needF_cons hq1,if_neg hng],by omega,rfl,rfl,rfl,rfl,rfl,rfl⟩
  obtain rfl:i=m:=by first|omega|(simp at h;omega)
  refine Zgj ?_;have e:needS xs=(sm,0):=(by rw [←hp1,List.drop_eq_nil_of_le oqz];rfl);rw [e]
  exact ⟨.tuple #[.int .i64 sm,.int .i64 0],A,res2 rfl rfl rfl,Dr.sat drqz,rfl,rfl⟩
theorem Ze3 {p r:Prop}(k:r)(h:Kq r->p:=by intro k;refine tv (o_fieldAddr (o:=0) underlying258 rfl rfl sz44 rfl) ?_;refine tv (o_load p44 rfl haqz rfl) ?_;exact k.o):p:=h ⟨k⟩
theorem Zgo {p r:Prop}(k:r)(h:Kq r->p:=by intro k;rintro _ _ ⟨rfl,rfl⟩;refine Za ?_;exact k.o):p:=h ⟨k⟩
theorem Zb1 {p r:Prop}(k:r)(h:Kq r->p:=by intro k;refine tc_seq ?_;refine tc_seq ?_;exact k.o):p:=h ⟨k⟩
theorem Zcb {p r:Prop}(k:r)(h:Kq r->p:=by intro k;refine tv (o_fieldAddr (o:=1) underlying365 rfl rfl sz3 rfl) ?_;refine tv (by first|exact o_load p3 rfl hsqz rfl|exact o_loadC p3 rfl (by assumption)) ?_;exact k.o):p:=h ⟨k⟩
theorem Z4 {p r:Prop}(k:r)(h:Kq r->p:=by intro k;refine tv (o_pick_t rfl wqz) ?_;refine tlm ?_;exact k.o):p:=h ⟨k⟩
theorem Zdx {p r:Prop}(k:r)(h:Kq r->p:=by intro k;refine Z4 ?_;refine Zbk ?_;exact k.o):p:=h ⟨k⟩
theorem Zf5 {p r:Prop}(k:r)(h:Kq r->p:=by intro k;refine Zc2 ?_;refine Zdx ?_;exact k.o):p:=h ⟨k⟩
theorem Zbg {p r:Prop}(k:r)(h:Kq r->p:=by intro k;refine tv (o_pick_t rfl wqz) ?_;refine tl_nil ?_;exact k.o):p:=h ⟨k⟩
theorem Zbw {p r:Prop}(k:r)(h:Kq r->p:=by intro k;refine tv (o_fieldAddr (o:=0) underlying365 rfl rfl sz3 rfl) ?_;refine tv (by first|exact o_load p3 rfl hsqz rfl|exact o_loadC p3 rfl (by assumption)) ?_;exact k.o):p:=h ⟨k⟩
theorem Zbb {p r:Prop}(k:r)(h:Kq r->p:=by intro k;refine tv (o_pick_f rfl wqz) ?_;refine tlm ?_;exact k.o):p:=h ⟨k⟩
theorem Zdy {p r:Prop}(k:r)(h:Kq r->p:=by intro k;refine tv (o_gtr rfl rfl) ?_;refine Zbb ?_;exact k.o):p:=h ⟨k⟩
theorem Zbx {p r:Prop}(k:r)(h:Kq r->p:=by intro k;refine tv (o_pick_f rfl wqz) ?_;refine tl_nil ?_;exact k.o):p:=h ⟨k⟩
theorem Zcv {p r:Prop}(k:r)(h:Kq r->p:=by intro k;refine Zs ?_;refine tc_ret ?_;exact k.o):p:=h ⟨k⟩
theorem Zf4 {p r:Prop}(k:r)(h:Kq r->p:=by intro k;refine Zcv ?_;refine q_then_r ?_;exact k.o):p:=h ⟨k⟩
theorem Zbm {p r:Prop}(k:r)(h:Kq r->p:=by intro k;refine ql_v rfl (o_fieldAddr (o:=0) underlying365 rfl rfl sz3 rfl) ?_;refine ql_v rfl (by first|exact o_load p3 rfl hsqz rfl|exact o_loadC p3 rfl (by assumption)) ?_;exact k.o):p:=h ⟨k⟩
theorem Zcq {p r:Prop}(k:r)(h:Kq r->p:=by intro k;refine ql_v rfl (o_fieldAddr (o:=1) underlying365 rfl rfl sz3 rfl) ?_;refine ql_v rfl (by first|exact o_load p3 rfl hsqz rfl|exact o_loadC p3 rfl (by assumption)) ?_;exact k.o):p:=h ⟨k⟩
theorem Zby {p r:Prop}(k:r)(h:Kq r->p:=by intro k;refine ql_v rfl (o_move wqz) ?_;refine ql_v rfl (o_nilCheck rfl) ?_;exact k.o):p:=h ⟨k⟩
theorem Zez {p r:Prop}(k:r)(h:Kq r->p:=by intro k;refine ql_v rfl (o_fieldAddr (o:=1) underlying258 rfl rfl sz3 rfl) ?_;refine ql_v rfl (o_load p3 rfl haqz rfl) ?_;exact k.o):p:=h ⟨k⟩
theorem Zq {p r:Prop}(k:r)(h:Kq r->p:=by intro k;refine ql_skip rfl ?_;refine ql_skip rfl ?_;exact k.o):p:=h ⟨k⟩
theorem Zcy {p r:Prop}(k:r)(h:Kq r->p:=by intro k;refine Zq ?_;refine Zq ?_;exact k.o):p:=h ⟨k⟩
theorem Zfy {p r:Prop}(k:r)(h:Kq r->p:=by intro k;refine Zcy ?_;refine Zcy ?_;exact k.o):p:=h ⟨k⟩
theorem Zh6 {p r:Prop}(k:r)(h:Kq r->p:=by intro k;refine Zfy ?_;refine Zcy ?_;exact k.o):p:=h ⟨k⟩
theorem Zej {p r:Prop}(k:r)(h:Kq r->p:=by intro k;refine ql_v rfl (o_assign wqz) ?_;refine Zd6 ?_;exact k.o):p:=h ⟨k⟩
theorem may11_c {A R:SP}{C:SP->SP}{d:Nat}{s:DevS}(hc:Ct A (Dev d s) R C:=by exact cbqz){bl at_ sz:Nat}(hl:Has A bl (cl (lcs11 d at_ sz) 258):=by exact hbqz){x:Int×Int}(hx:XW x:=by assumption)(hlw:LogW (s.ls.length*64) at_ sz:=by assumption):
    Fn Tryz.prog 267 #[pz bl,.agg (xcs x).toArray] A (λ r B=>r= .bool (mayX (s.ls.length*64) at_ sz x)/\ A=B):=by
  refine fn_enterW func267 rfl ntmps267 (by simp) ?_;refine tc_have (λ _ _ h=>ct_wf2 hc h) λ hw=> ?_
  have htop:=hw.top;have hpos:=hw.pos;obtain ⟨rfl,hC⟩:=hc;obtain ⟨⟨hx1,hx2⟩,⟨hx3,hx4⟩⟩:=hx;obtain ⟨w1,w2,w3,w4,w5⟩:=hlw;refine Zfg ?_;rintro _ _ ⟨b3,rfl,rfl⟩;refine Za ?_;refine Z1 ?_;refine Ze3 ?_;refine tl_c rfl (o_call bd155 rfl (Size_c (s:=s))) ?_;refine Zgo ?_;refine Zb1 ?_;refine tc_cut (λ ρ BB=>∃ (bb:Bool),(bb=decide (¬(1<=x.2/\ 64<=x.1/\ x.1<=(s.ls.length:Int)*64/\ x.2<=(s.ls.length:Int)*64-x.1)))/\ ρ 33= .bool bb/\ ρ 0=(pz bl)/\ ρ 3=(pz b3)/\ BB=R*Dev d s*pt b3 (cl (xcs x) 365)) ?_ ?_
  . skip
    refine tc_reg ?_;refine Zcb ?_;refine Zc0 ?_;refine tl_bool (d:=14) rfl (λ h=> ?_) (λ h=> ?_)
    . have g14:(x.2<1):=(by first|exact of_decide_eq_true h|(have h2:=h;simp at h2;omega)|simpa using h);refine Zf5 ?_;refine Zdx ?_;refine Zc2 ?_;refine Zbg ?_;exact ⟨_,by first|exact (decide_eq_true oqz).symm|exact (decide_eq_false oqz).symm|(rw [decide_eq_decide];omega),rfl,rfl,rfl,rfl⟩
    have g14:¬(x.2<1):=(by first|exact of_decide_eq_false h|(have h2:=h;simp at h2;omega)|simpa using h);refine Zbw ?_;refine tv (o_lss rfl rfl) ?_;refine Zbb ?_;refine tl_bool (d:=19) rfl (λ h=> ?_) (λ h=> ?_)
    . have g19:(x.2<1∨x.1<64):=(by first|exact of_decide_eq_true h|(have h2:=h;simp at h2;omega)|simpa using h);refine Zbk ?_;refine Zdx ?_;refine Zc2 ?_;refine Zbg ?_;exact ⟨_,by first|exact (decide_eq_true oqz).symm|exact (decide_eq_false oqz).symm|(rw [decide_eq_decide];omega),rfl,rfl,rfl,rfl⟩
    have g19:¬(x.2<1∨x.1<64):=(by first|exact of_decide_eq_false h|(have h2:=h;simp at h2;omega)|simpa using h);refine Zbw ?_;refine tlm ?_;refine Zdy ?_;refine tl_bool (d:=25) rfl (λ h=> ?_) (λ h=> ?_)
    . have g25:(x.2<1∨x.1<64∨(s.ls.length:Int)*64<x.1):=(by first|exact of_decide_eq_true h|(have h2:=h;simp at h2;omega)|simpa using h);refine Zbk ?_;refine Zc2 ?_;refine Zbg ?_;exact ⟨_,by first|exact (decide_eq_true oqz).symm|exact (decide_eq_false oqz).symm|(rw [decide_eq_decide];omega),rfl,rfl,rfl,rfl⟩
    have g25:¬(x.2<1∨x.1<64∨(s.ls.length:Int)*64<x.1):=(by first|exact of_decide_eq_false h|(have h2:=h;simp at h2;omega)|simpa using h);refine Zcb ?_;refine tlm ?_;refine Zbw ?_;refine Zc7 ?_;refine Zbx ?_;exact ⟨_,by first|exact (decide_eq_true oqz).symm|exact (decide_eq_false oqz).symm|(rw [decide_eq_decide];omega),rfl,rfl,rfl,rfl⟩
  intro ρ B hI;obtain ⟨bb,hbb0,hE33,hE0,hE3,rfl⟩:=hI;refine q_then_n ?_;refine te 33 hE33 ?_;refine te 0 hE0 ?_;refine te 3 hE3 ?_;refine tc_cond rfl (λ h=> ?_) (λ h=> ?_)
  . have hf:=of_decide_eq_true (show decide (¬(1<=x.2/\ 64<=x.1/\ x.1<=(s.ls.length:Int)*64/\ x.2<=(s.ls.length:Int)*64-x.1))=true by rw [←hbb0];exact h);refine Zf4 ?_;have e:mayX (s.ls.length*64) at_ sz x=false:=decide_eq_false oqz;rw [e]
    exact ⟨.bool false,_,res1 rfl rfl,Dr.sat drqz,rfl,rfl⟩
  have hf:(1<=x.2/\ 64<=x.1/\ x.1<=(s.ls.length:Int)*64/\ x.2<=(s.ls.length:Int)*64-x.1):=(by have h9:=of_decide_eq_false (show decide (¬(1<=x.2/\ 64<=x.1/\ x.1<=(s.ls.length:Int)*64/\ x.2<=(s.ls.length:Int)*64-x.1))=false by rw [←hbb0];exact h);omega);refine Zdv ?_;refine tc_regq mo kqz ?_;refine Zbm ?_;refine Zcq ?_;refine ql_v rfl (o_addI rfl rfl oqz) ?_;refine Zby ?_;refine Zez ?_;refine ql_v rfl (o_leq rfl rfl) ?_;refine ql_v rfl (o_move wqz) ?_;refine ql_bool (d:=44) rfl (λ h=> ?_) (λ h=> ?_)
  . have g44:(x.1+x.2<=at_):=(by first|exact of_decide_eq_true h|(have h2:=h;simp at h2;omega)|simpa using h);refine Zh6 ?_;refine ql_v rfl (o_pick_t rfl wqz) ?_;refine Zej ?_;refine tc_ret ?_;have e:∀b,b=decide (x.1+x.2<=at_∨((at_+sz:Nat):Int)<=x.1)->mayX (s.ls.length*64) at_ sz x=b:=λ b hb=>by rw [hb];unfold mayX;rw [decide_eq_decide];omega
    exact ⟨.bool (mayX (s.ls.length*64) at_ sz x),_,res1 rfl (congrArg Value.bool (e _ (by first|exact (decide_eq_true oqz).symm|exact (decide_eq_false oqz).symm|(rw [decide_eq_decide];omega)))).symm,Dr.sat drqz,rfl,rfl⟩
  have g44:¬(x.1+x.2<=at_):=(by first|exact of_decide_eq_false h|(have h2:=h;simp at h2;omega)|simpa using h);refine Zbm ?_;refine Zby ?_;refine Zez ?_;refine Zby ?_;refine ql_v rfl (o_fieldAddr (o:=2) underlying258 rfl rfl sz3 rfl) ?_;refine ql_v rfl (o_load p3 rfl haqz rfl) ?_;refine ql_v rfl (o_addI rfl rfl oqz) ?_;refine ql_v rfl (o_geq rfl rfl) ?_;refine ql_v rfl (o_pick_f rfl wqz) ?_;refine Zej ?_;refine tc_ret ?_;have e:∀b,b=decide (x.1+x.2<=at_∨((at_+sz:Nat):Int)<=x.1)->mayX (s.ls.length*64) at_ sz x=b:=λ b hb=>by rw [hb];unfold mayX;rw [decide_eq_decide];omega
  exact ⟨.bool (mayX (s.ls.length*64) at_ sz x),_,res1 rfl (congrArg Value.bool (e _ (by first|exact (decide_eq_true oqz).symm|exact (decide_eq_false oqz).symm|(rw [decide_eq_decide];omega)))).symm,Dr.sat drqz,rfl,rfl⟩
theorem Zgp {p r:Prop}(k:r)(h:Kq r->p:=by intro k;refine Zdr ?_;refine tv (by first|exact o_conv64 underlying3 underlying141 rfl|exact o_conv underlying3 underlying141 rfl) ?_;exact k.o):p:=h ⟨k⟩
theorem Zgq {p r:Prop}(k:r)(h:Kq r->p:=by intro k;refine Zdw ?_;refine tv (by first|exact o_conv64 underlying3 underlying141 rfl|exact o_conv underlying3 underlying141 rfl) ?_;exact k.o):p:=h ⟨k⟩
theorem record_c {A:SP}{a:Option Addr}{c m p:Nat}{xs:List Nat}(hr:Rs A a (bys xs):=by exact rbqz)(hm:xs.length=m:=by first|assumption|rfl)(hb:∀x∈xs,x<256:=by assumption)(hp:p<9223372036854775808:=by omega)(hml:m<=1099511627776:=by omega):
    Fn Tryz.prog 269 #[vn p,.slice a m c] A (λ r B=>∃a2 c2,r= .slice a2 (24+up8 m) c2/\ 24+up8 m<=c2/\ B=A*Sl 1 (.slice a2 (24+up8 m) c2) (24+up8 m) (bys (recS p xs))):=by
  refine fn_enterW func269 rfl ntmps269 (by simp) ?_;obtain ⟨Z,hZ⟩:∃Z,crc 0 (recH p m++xs)=Z:=⟨_,rfl⟩;have hZb:∀x∈recH p m++xs,x<256:=λ x hx=>by rcases List.mem_append.1 hx with h1|h1;exact recH_b _ _ x h1;exact hb x h1
  have hZl:Z<4294967296:=hZ▸crc_lt (by decide) hZb
  obtain ⟨Y,hY⟩:∃Y,recH p m++le 8 Z++xs=Y:=⟨_,rfl⟩;have hYl:Y.length=24+m:=(by rw [←hY,List.length_append,List.length_append,recH_len,le_length,hm]);have hYr:recS p xs=Y++List.replicate (pad8 m) 0:=(by rw [←hY,←hZ,←hm];exact recS_eq _ _);refine Zgp ?_;refine tl_env (d:=7) (v:= .int .u64 ((p:Nat):Int)) (congrArg (λ z:Nat=>Value.int .u64 (z:Int)) (Nat.mod_eq_of_lt oqz)) ?_;refine tl_c rfl (o_call bd73 rfl (Put64_c (xs:=[]) (v:=p))) ?_;rintro _ _ ⟨a8,c8,rfl,hc8,rfl⟩;refine Zgq ?_;refine tl_env (d:=11) (v:= .int .u64 ((m:Nat):Int)) (congrArg (λ z:Nat=>Value.int .u64 (z:Int)) (Nat.mod_eq_of_lt oqz)) ?_;refine tl_c rfl (o_call bd73 rfl (Put64_c (m:=8) (xs:=[]++le 8 p) (v:=m) (hr:=rs_sl) (hm:=by rw [List.nil_append,le_length]))) ?_;rintro _ _ ⟨a12,c12,rfl,hc12,rfl⟩;refine Zbu ?_;refine Zv ?_;refine tl_x rfl (o_buildSliceL (k:=1) (vs:=[.slice a12 (8+8) c12,.slice a m c]) (l:=[.slice a12 (8+8) c12,.slice a m c]) underlying35 sz67 z67 rfl rfl (by decide) (by decide) (by intro v hv;simp at hv;rcases hv with rfl|rfl<;>rfl) rfl) ?_;rintro _ _ ⟨b16,rfl,rfl⟩;refine tl_c rfl (o_call bd305 rfl (Sum_2 (xs:=recH p m) (ys:=xs) rs_sl (recH_len _ _) (recH_b _ _) (by decide) hr.left.left hm hb hml)) ?_;rintro _ _ ⟨rfl,rfl⟩;refine tv (by first|exact o_conv64 underlying53 underlying141 rfl|exact o_conv underlying53 underlying141 rfl) ?_;refine tl_env (d:=18) (v:= .int .u64 ((crc 0 (recH p m++xs):Nat):Int)) (congrArg (λ z:Nat=>Value.int .u64 (z:Int)) (Nat.mod_eq_of_lt oqz)) ?_;refine tl_c rfl (o_call bd73 rfl (Put64_c)) ?_;rintro _ _ ⟨a19,c19,rfl,hc19,rfl⟩;refine Zee ?_;refine tl_x rfl (o_apR underlying67 underlying67 sz5 by5 z5 rfl (by decide) (by decide) rfl rfl ctqz (by repeat (first|assumption|with_reducible exact rs_sl|with_reducible exact rs_pt0|exact rs_none|apply Rs.left)) sq2z (by first|exact bys_all _|exact ints_all _|exact wds_all _|exact bos_all _|rfl) sq2z (by first|exact bys_sn _ _|exact ints_sn _ _|exact wds_sn _ _|exact bos_sn _ _|exact (bys_append _ _).symm|rfl)) ?_;rintro _ _ ⟨a22,c22,rfl,hc22,rfl⟩;refine Za ?_;refine Zx ?_;refine tc_pre (A':=A*Sl 1 (.slice a22 (24+m+0) c22) (24+m+0) (bys (Y++List.replicate 0 0))) (λ g w h=>by have h2:=Dr.sat (A':=A*Sl 1 (.slice a22 (8+8+8+m) c22) (8+8+8+m) (bys ([]++le 8 p++le 8 m++le 8 (crc 0 (recH p m++xs)))++bys xs)) drqz g w h;rw [hZ,←bys_append,show []++le 8 p++le 8 m++le 8 Z++xs=Y from hY] at h2;rw [show 24+m+0=8+8+8+m by omega,List.replicate_zero,List.append_nil];exact h2) ?_;refine tc_loop (λ kk ρ BB=>∃ (i:Nat) (a5:Option Addr) (c5:Nat),(i<=pad8 m)/\ (24+m+i<=c5)/\ kk=pad8 m-i/\ ρ 5= .slice a5 (24+m+i) c5/\ Dr BB (A*Sl 1 (.slice a5 (24+m+i) c5) (24+m+i) (bys (Y++List.replicate i 0)))) (m:=pad8 m-(0)) ?_ ?_
  . exact ⟨0,a22,c22,by omega,by omega,rfl,by rw [show 24+m+0=8+8+8+m by omega];rfl,drqz⟩
  intro k ρ B hI;obtain ⟨i,a5,c5,hp0,hp1,hkk1,hE5,hBA⟩:=hI;refine tc_pre hBA.sat ?_;clear hBA;refine te 5 hE5 ?_;refine Zl ?_;refine tv (o_len underlying67 rfl) ?_;refine tv (o_remN (b:=8) rfl rfl (by decide)) ?_;refine tl_env (d:=25) (v:= .int .i64 (((24+m+i)%8:Nat):Int)) (by first|rfl|(show Value.int .i64 _=_;congr 1;omega)) ?_;refine Zbv ?_;refine tc_cond rfl (λ h=> ?_) (λ h=> ?_)
  . have hi:i<pad8 m:=(by have h9:(24+m+i)%8≠0:=(by first|omega|(simp at h;omega));unfold pad8 at*;omega);have hi8:i<8:=(by have:pad8 m<8:=(by unfold pad8;omega);omega);refine Ze ?_;refine tc_block ?_;refine Zbq ?_;refine tl_x rfl (o_buildSliceL (k:=1) (vs:=bys [0]) (l:=bys [0]) underlying67 sz5 z5 rfl rfl (by decide) (by decide) (by intro v hv;simp only [bys,b8,List.map_cons,List.map_nil,List.mem_cons,List.not_mem_nil,or_false] at hv;rcases hv with rfl;rfl) rfl) ?_;rintro _ _ ⟨b28,rfl,rfl⟩;refine tl_x rfl (o_apB underlying67 underlying67 sz5 by5 z5 rfl (by decide) (by decide) rfl rfl rfl ctqz rfl rfl oqz (show _=bys (Y++List.replicate i 0++[0]) by rw [←bys_append])) ?_;rintro _ _ ⟨a29,c29,rfl,hc29,rfl⟩;refine Zbn ?_;refine q_block_n (q_then_n ?_);exact ⟨_,by omega,i+1,a29,c29,by omega,by omega,rfl,rfl,by rw [List.replicate_succ',←List.append_assoc];repeat (first|with_reducible exact dr_refl|apply dr_keep|apply dr_drop)⟩
  obtain rfl:i=pad8 m:=by have h9:(24+m+i)%8=0:=(by first|omega|(simp at h;omega));unfold pad8 at*;omega
  refine Zhk ?_;rw [hYr,show 24+up8 m=24+m+pad8 m by unfold up8;omega]
  exact ⟨_,_,res1 rfl rfl,λ _ _ h=>h,a5,c5,rfl,hp1,rfl⟩
end Go.Vl

namespace Go.Vl
open Go Go.Proofs Go.Proofs.Tryz
structure RL where
  v:Value
  rows:List (Value×List Nat)
  mark:Int
def RL.l (x:RL):LineS:=⟨x.rows.map Prod.snd,x.mark⟩
def rcl (x:RL):List Value:=[x.v,.int .i64 x.mark]
theorem rcl_len (l:List RL):∀a∈l,(rcl a).length=2:=λ _ _=>rfl
def rowR (p:Value×List Nat):SP:=SlR 1 p.1 64 (bys (lb p.2))
def rlR (x:RL):SP:=Sl 1 x.v x.rows.length (x.rows.map Prod.fst)*Bs rowR x.rows
def rdcs (lv:Value)(s:DevS)(av:Value):List Value:=[vn (s.ls.length*64),lv,.int .i64 s.ops,av,.int .i64 s.cnt,.bool s.off]
def RDevC (r:Nat)(lv:Value)(rls:List RL)(av:Value)(kvs:List Value)(s:DevS):SP:=
  pt r (cl (rdcs lv s av) 194)*Sl 2 lv s.ls.length (rls.flatMap rcl)*Bs rlR rls*ArmsR av kvs s.arms
def RDev (r:Nat)(s:DevS):SP:=λ h=>WfD s/\∃lv rls av kvs,rls.map RL.l=s.ls/\ kvs.length=s.arms.length/\ RDevC r lv rls av kvs s h
theorem rdev_iff {r:Nat}{s:DevS}{R:SP}{g:Gh}{w:World}:sat g w (R*RDev r s)↔WfD s/\∃lv rls av kvs,rls.map RL.l=s.ls/\ kvs.length=s.arms.length/\ sat g w (R*RDevC r lv rls av kvs s):=by
  constructor
  . intro hs;obtain ⟨_,⟨x,y,hd,rfl,ha,hw,lv,rls,av,kvs,h1,h2,h3⟩,hx⟩:=hs.hp;exact ⟨hw,lv,rls,av,kvs,h1,h2,hs.os,hs.tape,hs.out,_,⟨x,y,hd,rfl,ha,h3⟩,hx⟩
  rintro ⟨hw,lv,rls,av,kvs,h1,h2,hs⟩;exact hs.mono λ h ⟨x,y,hd,e,ha,hb⟩=>⟨x,y,hd,e,ha,hw,lv,rls,av,kvs,h1,h2,hb⟩
section
variable {P:Program} {n:Nat} {Q:Post} {ρ:Env} {r:Nat} {s:DevS} {R:SP}
end
theorem rdev_back {r:Nat}{s:DevS}{R:SP}{lv av:Value}{rls:List RL}{kvs:List Value}(hw:WfD s)(h1:rls.map RL.l=s.ls)(h2:kvs.length=s.arms.length):∀g w,sat g w (R*RDevC r lv rls av kvs s)->sat g w (R*RDev r s):=
  λ g w hs=>rdev_iff.2 ⟨hw,lv,rls,av,kvs,h1,h2,hs⟩
section
variable {r:Nat} {s:DevS} {R F:SP} {lv av:Value} {rls:List RL} {kvs:List Value}
structure RdevR (A:SP) (r:Nat) (lv:Value) (rls:List RL) (av:Value) (s:DevS):Prop where
  wf:WfD s
  len:rls.length=s.ls.length
  at_:∀i (h:i<rls.length) (h':i<s.ls.length),rls[i].l=s.ls[i]
  d:Rs A (some ⟨r,0,none⟩) (rdcs lv s av)
  lv:∃b o c,lv= .slice (some ⟨b,o,none⟩) s.ls.length c/\ s.ls.length<=c/\ Rs A (some ⟨b,o,none⟩) (rls.flatMap rcl)
  all:∀i (h:i<rls.length),∃b o c,rls[i].v= .slice (some ⟨b,o,none⟩) rls[i].rows.length c/\ rls[i].rows.length<=c/\ Rs A (some ⟨b,o,none⟩) (rls[i].rows.map Prod.fst)
  row:∀i (h:i<rls.length) j (h':j<rls[i].rows.length),∃b o c,rls[i].rows[j].1= .slice (some ⟨b,o,none⟩) 64 c/\ 64<=c/\ Rs A (some ⟨b,o,none⟩) (bys (lb rls[i].rows[j].2))
theorem rs_in {A X R:SP}{a:Option Addr}{xs:List Value}(e:A=R*X)(h:Rs (R*X) a xs):Rs A a xs:=e▸h
theorem rdevR_of (hw:WfD s)(h1:rls.map RL.l=s.ls){g:Gh}{w:World}(hs:sat g w (F*RDevC r lv rls av kvs s)):RdevR (F*RDevC r lv rls av kvs s) r lv rls av s:=by
  have hlen:rls.length=s.ls.length:=(by rw [←h1,List.length_map])
  have hat:∀i (h:i<rls.length) (h':i<s.ls.length),rls[i].l=s.ls[i]:=λ i h h'=>by
    have:(rls.map RL.l)[i]? =some rls[i].l:=(by simp [h]);rw [h1,List.getElem?_eq_getElem h'] at this
    exact (Option.some.inj this).symm
  have hrne:∀i (h:i<rls.length),0<rls[i].rows.length:=λ i h=>by
    have hl:=hw.line _ (List.getElem_mem (show i<s.ls.length by omega));rw [←hat i h oqz] at hl
    have:=List.length_pos_iff.2 hl.ne
    simpa [RL.l] using this
  refine ⟨hw,hlen,hat, ?_, ?_, ?_, ?_⟩
  . refine rs_in (R:=F*Sl 2 lv s.ls.length (rls.flatMap rcl)*Bs rlR rls*ArmsR av kvs s.arms) (X:=pt r (cl (rdcs lv s av) 194)) (by unfold RDevC;ac_rfl) rs_pt0
  . have e:F*RDevC r lv rls av kvs s=F*pt r (cl (rdcs lv s av) 194)*Bs rlR rls*ArmsR av kvs s.arms*Sl 2 lv s.ls.length (rls.flatMap rcl):=(by unfold RDevC;ac_rfl);have hpos:=hw.pos;obtain ⟨a,c,e1,e2,e3,e4⟩:=sl_have' e hs;obtain ⟨b,o,rfl,hc⟩:=e4.some (by rw [e3];omega);exact ⟨b,o,c,e1,e2,rs_rd (rd_cells hc)⟩
  . intro i h;obtain ⟨R,hR,_⟩:=bs_get (f:=rlR) h;have e:F*RDevC r lv rls av kvs s=F*pt r (cl (rdcs lv s av) 194)*Sl 2 lv s.ls.length (rls.flatMap rcl)*R*Bs rowR rls[i].rows*ArmsR av kvs s.arms*Sl 1 rls[i].v rls[i].rows.length (rls[i].rows.map Prod.fst):=(by unfold RDevC;rw [hR];unfold rlR;ac_rfl);have hpos:=hrne i h;obtain ⟨a,c,e1,e2,e3,e4⟩:=sl_have' e hs;obtain ⟨b,o,rfl,hc⟩:=e4.some (by rw [e3];omega);exact ⟨b,o,c,e1,e2,rs_rd (rd_cells hc)⟩
  intro i h j h';obtain ⟨R,hR,_⟩:=bs_get (f:=rlR) h;obtain ⟨R',hR',_⟩:=bs_get (f:=rowR) h'
  have e:F*RDevC r lv rls av kvs s=F*pt r (cl (rdcs lv s av) 194)*Sl 2 lv s.ls.length (rls.flatMap rcl)*R*Sl 1 rls[i].v rls[i].rows.length (rls[i].rows.map Prod.fst)*R'*ArmsR av kvs s.arms*SlR 1 rls[i].rows[j].1 64 (bys (lb rls[i].rows[j].2)):=by
    unfold RDevC;rw [hR];unfold rlR;rw [hR'];unfold rowR;ac_rfl
  obtain ⟨a,c,e1,e2,e3,e4⟩:=slR_have e hs;obtain ⟨b,o,rfl,hc⟩:=e4.some (by rw [e3];omega);exact ⟨b,o,c,e1,e2,rs_rd (rd_cells hc)⟩
theorem RdevR.left {A X:SP}(h:RdevR A r lv rls av s):RdevR (A*X) r lv rls av s:=
  ⟨h.wf,h.len,h.at_,h.d.left,let ⟨b,o,c,e1,e2,e3⟩:=h.lv;⟨b,o,c,e1,e2,e3.left⟩,λ i hi=>let ⟨b,o,c,e1,e2,e3⟩:=h.all i hi;⟨b,o,c,e1,e2,e3.left⟩,
    λ i hi j hj=>let ⟨b,o,c,e1,e2,e3⟩:=h.row i hi j hj;⟨b,o,c,e1,e2,e3.left⟩⟩
theorem RdevR.rows {A:SP}(h:RdevR A r lv rls av s){i:Nat}(hi:i<rls.length)(hi':i<s.ls.length):rls[i].rows.length=s.ls[i].st.length:=by
  rw [←h.at_ i hi hi'];simp [RL.l]
theorem RdevR.snd {A:SP}(h:RdevR A r lv rls av s){i j:Nat}(hi:i<rls.length)(hi':i<s.ls.length)(hj:j<rls[i].rows.length):rls[i].rows[j].2=s.ls[i].st[j]'(by rw [←h.rows hi hi'];exact hj):=by
  have:=h.at_ i hi hi';have e:s.ls[i].st=rls[i].rows.map Prod.snd:=(by rw [←this];rfl)
  simp only [e,List.getElem_map]
theorem RdevR.mark {A:SP}(h:RdevR A r lv rls av s){i:Nat}(hi:i<rls.length)(hi':i<s.ls.length):rls[i].mark=s.ls[i].mark:=by rw [←h.at_ i hi hi'];rfl
end
theorem fn_rdevR {P:Program}{f:FuncId}{args:Array Value}{F:SP}{r:Nat}{s:DevS}{q:Value->SP->Prop}
    (h:∀A lv rls av,RdevR A r lv rls av s->Fn P f args A λ v B=>∃X,B=A*X/\ q v X):
    Fn P f args (F*RDev r s) λ v B=>∃X,B=F*RDev r s*X/\ q v X:=λ g w hs=>by
  obtain ⟨hw,lv,rls,av,kvs,h1,h2,hs'⟩:=rdev_iff.1 hs;refine (h _ lv rls av (rdevR_of hw h1 hs') g w hs').mono ?_;rintro e w' ⟨v,B,e1,⟨X,rfl,hq⟩,hB⟩;refine ⟨v,_,e1,⟨X,rfl,hq⟩, ?_⟩;have h3:=rdev_back (R:=F*X) hw h1 h2 _ _ (hB.perm (star_swap _ _ _));exact h3.perm (star_swap _ _ _)
theorem rcl_at0 {l:List RL}{i:Nat}(h:i<l.length):(l.flatMap rcl)[i*2+0]? =some l[i].v:=by rw [fm_atj (rcl_len l) h (by decide) rfl];rfl
section
variable {A:SP} {r:Nat} {lv av:Value} {rls:List RL} {s:DevS}
theorem RdevR.pos (h:RdevR A r lv rls av s){i:Nat}(hi:i<rls.length):0<rls[i].rows.length:=by
  have h':i<s.ls.length:=(by rw [←h.len];exact hi);rw [h.rows hi h']
  exact List.length_pos_iff.2 (h.wf.line _ (List.getElem_mem h')).ne
theorem RdevR.small (h:RdevR A r lv rls av s){i:Nat}(hi:i<rls.length):rls[i].rows.length<=2199023255552:=by
  have h':i<s.ls.length:=(by rw [←h.len];exact hi);rw [h.rows hi h']
  exact (h.wf.line _ (List.getElem_mem h')).small
theorem RdevR.top (h:RdevR A r lv rls av s){i:Nat}(hi:i<rls.length)(hi':i<s.ls.length):∃b o c,(rls[i].rows.map Prod.fst)[rls[i].rows.length-1]? =some (.slice (some ⟨b,o,none⟩) 64 c)/\ 64<=c/\ Rs A (some ⟨b,o,none⟩) (bys (lb (seenL s.ls[i]))):=by
  have hp:=h.pos hi;obtain ⟨b,o,c,e1,e2,e3⟩:=h.row i hi (rls[i].rows.length-1) oqz;refine ⟨b,o,c, ?_,e2, ?_⟩
  . rw [List.getElem?_map,List.getElem?_eq_getElem oqz];simp [e1]
  rw [h.snd hi hi' oqz] at e3
  have e:seenL s.ls[i]=s.ls[i].st[rls[i].rows.length-1]'(by rw [←h.rows hi hi'];omega):=by
    unfold seenL;simp only [←h.rows hi hi']
    simp [List.getD,show rls[i].rows.length-1<s.ls[i].st.length by rw [←h.rows hi hi'];omega]
  rw [e];exact e3
theorem RdevR.allC (h:RdevR A r lv rls av s){i:Nat}(hi:i<rls.length):∃b o c,(rls.flatMap rcl)[i*2+0]? =some (.slice (some ⟨b,o,none⟩) rls[i].rows.length c)/\ rls[i].rows.length<=c/\ Rs A (some ⟨b,o,none⟩) (rls[i].rows.map Prod.fst):=by
  obtain ⟨b,o,c,e1,e2,e3⟩:=h.all i hi;exact ⟨b,o,c,by rw [rcl_at0 hi,e1],e2,e3⟩
end
attribute [local irreducible] Sl pt ro imgS
theorem Zhh {p r:Prop}(k:r)(h:Kq r->p:=by intro k;refine tv (o_leq rfl rfl) ?_;refine Z4 ?_;exact k.o):p:=h ⟨k⟩
theorem Zdz {p r:Prop}(k:r)(h:Kq r->p:=by intro k;refine tlm ?_;refine tv (by first|exact o_remI rfl rfl oqz|exact o_rem rfl rfl oqz) ?_;exact k.o):p:=h ⟨k⟩
theorem Zem {p r:Prop}(k:r)(h:Kq r->p:=by intro k;refine tv (o_pick_t rfl wqz) ?_;refine Zbd ?_;exact k.o):p:=h ⟨k⟩
theorem Zfv {p r:Prop}(k:r)(h:Kq r->p:=by intro k;refine tv (o_pick_f rfl wqz) ?_;refine Zbd ?_;exact k.o):p:=h ⟨k⟩
theorem rfits_c {A:SP}{p:Int}:
    Fn Tryz.prog 173 #[.int .i64 p] A (λ r B=>r= .bool (fitsB p)/\ A=B):=by
  refine fn_enterW func173 rfl ntmps173 (by simp) ?_;refine Zdr ?_;refine tv (o_geq rfl rfl) ?_;refine tlm ?_;refine tl_bool (d:=5) rfl (sbq ?_) (sbq ?_)
  . intro h;refine tlm ?_;refine Zhh ?_;refine tl_bool (d:=9) rfl (sbq ?_) (sbq ?_)
    . intro h;refine Zdz ?_;refine tv (o_eqi rfl rfl) ?_;refine Zem ?_;refine ⟨.bool (decide (p%64=0)),_,res1 rfl rfl, ?_,by unfold fitsB;congr 1;rw [decide_eq_decide];omega,rfl⟩;exact Dr.sat drqz
    intro h;refine Zc2 ?_;refine Zfv ?_;refine ⟨.bool false,_,res1 rfl rfl, ?_,by unfold fitsB;rw [decide_eq_false oqz],rfl⟩;exact Dr.sat drqz
  intro h;refine Zp ?_;refine Zbb ?_;refine Zc2 ?_;refine Zfv ?_;refine ⟨.bool false,_,res1 rfl rfl, ?_,by unfold fitsB;rw [decide_eq_false oqz],rfl⟩;exact Dr.sat drqz
theorem Zci {p r:Prop}(k:r)(h:Kq r->p:=by intro k;refine tv (o_nilCheck rfl) ?_;refine tv (o_fieldAddr (o:=0) underlying194 rfl rfl sz3 rfl) ?_;exact k.o):p:=h ⟨k⟩
theorem rinside_f (A:SP){r:Nat}{lv av:Value}{rls:List RL}{s:DevS}(hR:RdevR A r lv rls av s){p m:Int}(hp: -9223372036854775808<=p/\ p<=9223372036854775807)(hm: -9223372036854775808<=m/\ m<=9223372036854775807):
    Fn Tryz.prog 309 #[pz r,.int .i64 p,.int .i64 m] A (λ v B=>v= .bool (decide (rdy s.ls.length false p m=0))/\ A=B):=by
  refine fn_enterW func309 rfl ntmps309 (by simp) ?_;have htop:=hR.wf.top;refine Zdr ?_;refine tv (o_geq rfl rfl) ?_;refine tlm ?_;refine tl_bool (d:=9) rfl (sbq ?_) (sbq ?_)
  . intro h;refine tlm ?_;refine tv (o_geq rfl rfl) ?_;refine Z4 ?_;refine tl_bool (d:=13) rfl (sbq ?_) (sbq ?_)
    . intro h;refine Zv ?_;refine Zci ?_;refine tv (o_ldP (a:=some ⟨r,0,none⟩) (i:=0) p3 rfl (by repeat (first|exact hR.d|apply Rs.left)) rfl) ?_;refine Zhh ?_;refine tl_bool (d:=21) rfl (sbq ?_) (sbq ?_)
      . intro h;refine Zv ?_;refine Zci ?_;refine tv (o_ldP (a:=some ⟨r,0,none⟩) (i:=0) p3 rfl (by repeat (first|exact hR.d|apply Rs.left)) rfl) ?_;refine Zew ?_;refine tv (o_leq rfl rfl) ?_;refine Zem ?_;refine ⟨.bool (decide (m<=((s.ls.length*64:Nat):Int)-p)),_,res1 rfl rfl, ?_,(by congr 1;rw [decide_eq_decide];unfold rdy;rw [if_neg (by decide)];split<;>constructor<;>intro _<;>omega),rfl⟩;exact Dr.sat drqz
      intro h;refine Zbk ?_;refine Zbk ?_;refine Zfv ?_;refine ⟨.bool false,_,res1 rfl rfl, ?_,(by rw [decide_eq_false];unfold rdy;rw [if_neg (by decide),if_pos oqz];decide),rfl⟩;exact Dr.sat drqz
    intro h;refine Zgi ?_;refine Zbb ?_;refine Zbk ?_;refine Zbk ?_;refine Zfv ?_;refine ⟨.bool false,_,res1 rfl rfl, ?_,(by rw [decide_eq_false];unfold rdy;rw [if_neg (by decide),if_pos oqz];decide),rfl⟩;exact Dr.sat drqz
  intro h;refine Zp ?_;refine Zbb ?_;refine Zgi ?_;refine Zbb ?_;refine Zbk ?_;refine Zbk ?_;refine Zfv ?_;refine ⟨.bool false,_,res1 rfl rfl, ?_,(by rw [decide_eq_false];unfold rdy;rw [if_neg (by decide),if_pos oqz];decide),rfl⟩;exact Dr.sat drqz
theorem Zh1 {p r:Prop}(k:r)(h:Kq r->p:=by intro k;refine Zs ?_;refine Z1 ?_;exact k.o):p:=h ⟨k⟩
theorem Zh2 {p r:Prop}(k:r)(h:Kq r->p:=by intro k;refine tv (o_len underlying35 rfl) ?_;refine tv (by first|exact o_subI rfl rfl oqz|exact o_sub rfl rfl) ?_;exact k.o):p:=h ⟨k⟩
theorem rseen_f (A:SP){r:Nat}{lv av:Value}{rls:List RL}{s:DevS}(hR:RdevR A r lv rls av s){i b o c:Nat}(hi:i<rls.length)(ht:(rls[i].rows.map Prod.fst)[rls[i].rows.length-1]? =some (.slice (some ⟨b,o,none⟩) 64 c)):
    Fn Tryz.prog 158 #[pz r,vn i] A (λ v B=>v= .slice (some ⟨b,o,none⟩) 64 c/\ A=B):=by
  refine fn_enterW func158 rfl ntmps158 (by simp) ?_;obtain ⟨bl,ol,cl_,rfl,hlc,hlr⟩:=hR.lv;obtain ⟨ba,oa,ca,g1,hca,har⟩:=hR.allC hi;have hlen:=hR.len;have hpos:=hR.pos hi;have hsm:=hR.small hi;refine Zh1 ?_;refine tv (o_fieldAddr (o:=1) underlying194 rfl rfl sz191 rfl) ?_;refine tv (o_ldP (a:=some ⟨r,0,none⟩) (i:=1) p191 rfl (by repeat (first|exact hR.d|apply Rs.left)) rfl) ?_;refine tlm ?_;refine tv (o_ixP underlying191 sz265 rfl rfl sq2z sq1z) ?_;refine tv (o_faP (m:=0) (o:=0) underlying265 rfl rfl sz35 rfl sq1z) ?_;refine tv (o_ldP p35 rfl (by repeat (first|assumption|with_reducible exact rs_sl|with_reducible exact rs_pt0|exact rs_none|apply Rs.left)) (by first|assumption|exact bys_at oqz|exact ints_at oqz|exact wds_at oqz|exact bos_at oqz|rfl)) ?_;refine tl_env (d:=13) (v:= .slice (some ⟨ba,oa,none⟩) rls[i].rows.length ca) (rfl) ?_;refine Zee ?_;refine Zh2 ?_;refine tl_env (d:=17) (v:=(vn (rls[i].rows.length-1))) (by show Value.int .i64 _=_;congr 1;omega) ?_;refine tv (o_ixP1 underlying35 sz67 rfl rfl oqz nn_some) ?_;refine tv (o_ldP p67 rfl har ht) ?_;refine Zbd ?_;refine ⟨_,_,res1 rfl rfl, ?_,rfl,rfl⟩;exact Dr.sat drqz
end Go.Vl

namespace Go.Vl
open Go Go.Proofs Go.Proofs.Tryz
theorem upqz {p:Prop}(h:p:=by repeat (first|with_reducible exact upd_here|with_reducible exact upd_pt|apply upd_left)):p:=h
theorem img_getR {s:DevS}{q:Nat}(hw:WfD s)(hi:q/64<s.ls.length):(imgS s)[q]? =(lb (seenL s.ls[q/64]))[q%64]? :=by
  have hwl:=hw.line _ (List.getElem_mem hi);have h8:=seen8 hwl;have e:=img_at hw.line hi;have h1:(imgS s)[q]? =((imgS s).drop (q/64*64))[q%64]? :=(by rw [List.getElem?_drop];congr 1;omega);rw [h1];unfold imgS;rw [e,List.getElem?_append_left oqz]
theorem fromS_len (n:Nat)(xs:List Nat):(fromS n xs).ls.length=n:=by simp [fromS,newS]
theorem fromS_at {n:Nat}(xs:List Nat){i:Nat}(h:i<n):(fromS n xs).ls[i]'(by rw [fromS_len];exact h)=lineF xs i:=by simp [fromS]
attribute [local irreducible] Sl pt ro
theorem Zfp {p r:Prop}(k:r)(h:Kq r->p:=by intro k;refine tv (o_nilCheck rfl) ?_;refine tv (o_fieldAddr (o:=5) underlying194 rfl rfl sz4 rfl) ?_;exact k.o):p:=h ⟨k⟩
theorem Zda {p r:Prop}(k:r)(h:Kq r->p:=by intro k;rintro _ _ ⟨rfl,rfl⟩;refine tlm ?_;exact k.o):p:=h ⟨k⟩
theorem rLoad_f (A:SP){r:Nat}{lv av:Value}{rls:List RL}{s:DevS}(hR:RdevR A r lv rls av s){p m:Nat}(hoff:s.off=false)(hpm:p+m<=s.ls.length*64):
    Fn Tryz.prog 276 #[pz r,vn p,vn m] A (λ v B=>∃X,B=A*X/\∃a c,v= .tuple #[.slice a m c,.int .i64 0]/\ m<=c/\ X=Sl 1 (.slice a m c) m (bys (((imgS s).drop p).take m))):=by
  refine fn_enterW func276 rfl ntmps276 (by simp) ?_;obtain ⟨bl,ol,cl_,rfl,hlc,hlr⟩:=hR.lv;have hlen:=hR.len;have htop:=hR.wf.top;have hil:=img_length hR.wf.line;refine Zdh ?_;refine Zfp ?_;refine tv (o_ldP (a:=some ⟨r,0,none⟩) (i:=5) p4 rfl (by repeat (first|exact hR.d|apply Rs.left)) rfl) ?_;refine nq ?_;refine tc_cond rfl (λ h=> ?_) (sbq ?_)
  . exfalso;rw [hoff] at h;cases h
  intro h;refine Zc4 ?_;refine Zv ?_;refine tl_c rfl (o_call bd309 rfl (rinside_f _ hR oqz oqz)) ?_;refine Zb7 ?_;refine nq ?_;refine tc_cond rfl (λ h=> ?_) (sbq ?_)
  . exfalso;simp at h;unfold rdy at h;rw [if_neg (by decide),if_neg oqz] at h;exact h rfl
  intro h;refine Ze ?_;refine Zs ?_;refine Zb1 ?_;refine tc_pre (A':=A*Sl 1 (.slice none 0 0) 0 []) (λ _ _ h=>sl_nil h) ?_;refine Zbq ?_;refine Za ?_;refine tc_block ?_;refine tc_loop (λ kk ρ BB=>∃ (j:Nat) (a3:Option Addr) (c3:Nat),(j<=m)/\ (j<=c3)/\ kk=m-j/\ ρ 8= .slice a3 j c3/\ ρ 9=(vn (p+j))/\ ρ 0=(pz r)/\ ρ 1=(vn p)/\ ρ 2=(vn m)/\ BB=A*Sl 1 (.slice a3 j c3) j (bys (((imgS s).drop p).take j))) (m:=m-(0)) ?_ ?_
  . exact ⟨0,none,0,by omega,by omega,rfl,rfl,rfl,rfl,rfl,rfl,rfl⟩
  intro k ρ B hI;obtain ⟨j,a3,c3,hp0,hp1,hkk1,hE8,hE9,hE0,hE1,hE2,rfl⟩:=hI;refine te 8 hE8 ?_;refine te 9 hE9 ?_;refine te 0 hE0 ?_;refine te 1 hE1 ?_;refine te 2 hE2 ?_;refine Zl ?_;refine Zv ?_;refine tv adqz ?_;refine Zu ?_;refine tc_cond rfl (λ h=> ?_) (λ h=> ?_)
  . have hj:j<m:=(by simp at h;omega);have hi:(p+j)/64<s.ls.length:=(by omega);have hir:(p+j)/64<rls.length:=(by omega);obtain ⟨br,orr,cr,ht,hcr,hrr⟩:=hR.top hir hi;have hs8:=seen8 (hR.wf.line _ (List.getElem_mem hi));have hjd:j<((imgS s).drop p).length:=(by rw [List.length_drop];unfold imgS;omega)
    have hby:((imgS s).drop p)[j]=(lb (seenL s.ls[(p+j)/64]))[(p+j)%64]'(by omega):=by
      have:=img_getR hR.wf hi;rw [List.getElem?_eq_getElem (show (p+j)%64<(lb (seenL s.ls[(p+j)/64])).length by omega),←List.getElem?_drop,List.getElem?_eq_getElem hjd] at this
      exact Option.some.inj this
    refine Zbp ?_;refine Zb5 ?_;refine tlm ?_;refine tv (o_quoN (b:=64) rfl rfl oqz) ?_;refine tl_c rfl (o_call bd158 rfl (rseen_f _ hR.left (i:=(p+j)/64) hir ht)) ?_;refine Zda ?_;refine tv (o_remN (b:=64) rfl rfl oqz) ?_;refine tv (o_ixP1 underlying67 sz5 rfl rfl sq2z sq1z) ?_;refine tv (o_ldP p5 rfl hrr.left (bys_at oqz)) ?_;refine tl_x rfl (o_buildSlice1 underlying67 sz5 z5 wqz rfl) ?_;rintro _ _ ⟨b36,rfl,rfl⟩;refine tl_x rfl (o_apB underlying67 underlying67 sz5 by5 z5 rfl (by decide) (by decide) rfl rfl rfl ctqz rfl (by first|exact bys_all _|exact ints_all _|exact wds_all _|exact bos_all _|rfl) sq2z (by first|exact bys_sn _ _|exact ints_sn _ _|exact wds_sn _ _|exact bos_sn _ _|exact (bys_append _ _).symm|rfl)) ?_;rintro _ _ ⟨a37,c37,rfl,hc37,rfl⟩;refine Zg6 ?_;refine tlm ?_;refine tv adqz ?_;refine tl_env (d:=26) (v:= .int .i64 ((p+(j+1):Nat):Int)) (rfl) ?_;refine Za ?_;exact ⟨_,by omega,j+1,a37,c37,by omega,by omega,rfl,rfl,rfl,rfl,rfl,rfl,by rw [List.take_succ_eq_append_getElem hjd,hby]⟩
  obtain rfl:j=m:=by simp at h;omega
  refine Zgj ?_;exact ⟨.tuple #[.slice a3 j c3,.int .i64 0],_,res2 rfl rfl rfl,λ _ _ h=>h,_,rfl,a3,c3,rfl,hp1,rfl⟩
theorem Zgs {p r:Prop}(k:r)(h:Kq r->p:=by intro k;refine tm 5 rfl kqz rfl (o_move wqz) ?_;refine tm 6 rfl kqz rfl (o_move wqz) ?_;exact k.o):p:=h ⟨k⟩
theorem Zeq {p r:Prop}(k:r)(h:Kq r->p:=by intro k;refine ⟨by repeat (first|with_reducible exact dr_refl|apply dr_keep|apply dr_drop), ?_⟩;refine th_one (i:=11) kqz ?_;exact k.o):p:=h ⟨k⟩
theorem Zcx {p r:Prop}(k:r)(h:Kq r->p:=by intro k;refine ⟨by repeat (first|with_reducible exact dr_refl|apply dr_keep|apply dr_drop), ?_⟩;refine tm 12 rfl kqz rfl (o_bS (l:=[_,_]) (pv_cons wqz (pv_cons wqz pv_nil)) underlying265 z265 (pl265 underlying265) rfl) ?_;exact k.o):p:=h ⟨k⟩
theorem Zer {p r:Prop}(k:r)(h:Kq r->p:=by intro k;refine ⟨by repeat (first|with_reducible exact dr_refl|apply dr_keep|apply dr_drop), ?_⟩;refine th_one (i:=14) kqz ?_;exact k.o):p:=h ⟨k⟩
theorem Zbf {p r:Prop}(k:r)(h:Kq r->p:=by intro k;refine ⟨by repeat (first|with_reducible exact dr_refl|apply dr_keep|apply dr_drop), ?_⟩;refine tm 15 rfl kqz rfl (o_nilCheck rfl) ?_;exact k.o):p:=h ⟨k⟩
theorem Zdt {p r:Prop}(k:r)(h:Kq r->p:=by intro k;refine tm 16 rfl kqz rfl (o_fieldAddr (o:=1) underlying194 rfl rfl sz191 rfl) ?_;refine th_one (i:=17) kqz ?_;exact k.o):p:=h ⟨k⟩
theorem Zhg {p r:Prop}(k:r)(h:Kq r->p:=by intro k;refine th_done kqz ?_;refine q_block_n (q_then_n ?_);exact k.o):p:=h ⟨k⟩
theorem rFrom_c {F:SP}{a:Option Addr}{c m:Nat}{xs:List Nat}(n:Nat)(hr:Rs F a (bys xs):=by exact rbqz)(hx:xs.length=m:=by first|assumption|rfl)(hm:m=n*64:=by omega)(hmc:m<=c:=by omega)(hb:∀x∈xs,x<256:=by assumption)(hn:0<n:=by omega)(hn2:n<=65536:=by omega):
    Fn Tryz.prog 89 #[.slice a m c] (F) (λ v B=>∃d,v= .tuple #[pz d,.int .i64 0]/\ B=F*RDev d (fromS n xs)):=by
  refine fn_enterW func89 rfl ntmps89 (by simp) ?_;have hfit:fitsB (m:Int)=true:=(by unfold fitsB;simp;omega);refine Zdh ?_;refine tv (o_len underlying67 rfl) ?_;refine tl_c rfl (o_call bd173 rfl (rfits_c (p:=(m:Nat)))) ?_;refine Zb7 ?_;refine nq ?_;refine tc_cond rfl (λ h=> ?_) (sbq ?_)
  . exfalso;rw [hfit] at h;exact absurd h (by decide)
  intro h;refine Zb9 ?_;refine tv (o_len underlying67 rfl) ?_;refine tv (o_bS (l:=[vn m,.slice none 0 0,.int .i64 0,.slice none 0 0,.int .i64 0,.bool false]) (pv_cons wqz pv_nil) underlying194 z194 (pl194 underlying194) rfl) ?_;refine tl_x rfl (o_box rfl rfl) ?_;rintro _ _ ⟨b13,rfl,rfl⟩;refine tl_pre (A':=F*Bs rlR []*pt b13 (cl ([vn (n*64),.slice none 0 0,.int .i64 0,.slice none 0 0,.int .i64 0,.bool false]) 194)*Sl 2 (.slice none 0 0) 0 []) (λ _ _ h=>sl_nil (by rw [bs_nil,star_emp,←hm];exact h)) ?_;refine Zeh ?_;refine Zfe ?_;refine tc_loop (λ kk ρ BB=>∃ (i:Nat) (aL:Option Addr) (cL:Nat) (rls1:List RL),(i<=n)/\ (rls1.map RL.l=(fromS n xs).ls.take i)/\ kk=n-i/\ ρ 5=(vn (i*64))/\ ρ 0= .slice a m c/\ ρ 4=(pz b13)/\ BB=F*Bs rlR rls1*pt b13 (cl ([vn (n*64),.slice aL i cL,.int .i64 0,.slice none 0 0,.int .i64 0,.bool false]) 194)*Sl 2 (.slice aL i cL) i (rls1.flatMap rcl)) (m:=n-(0)) ?_ ?_
  . exact ⟨0,none,0,[],by omega,rfl,rfl,rfl,rfl,rfl,rfl⟩
  intro k ρ B hI;obtain ⟨i,aL,cL,rls1,hp0,hp1,hkk1,hE5,hE0,hE4,rfl⟩:=hI;refine te 5 hE5 ?_;refine te 0 hE0 ?_;refine te 4 hE4 ?_;refine Zl ?_;refine Zdw ?_;refine Zu ?_;refine tc_cond rfl (λ h=> ?_) (λ h=> ?_)
  . have hi:i<n:=(by simp at h;omega);have hrl:rls1.length=i:=(by have:=congrArg List.length hp1;rw [List.length_map,List.length_take,fromS_len] at this;omega);have hxl:((xs.drop (i*64)).take 64).length=64:=(by rw [List.length_take,List.length_drop];omega);have hlf:=lineF_lb hb (show i*64+64<=xs.length by omega);refine Zbp ?_;refine tc_regh (S:=F*Bs rlR rls1) mo drqz ?_
    show TH _ _ _ _ _ 18 (Array.replicate 18 false) _ _
    refine Zc8 ?_;refine tm 2 rfl kqz rfl (o_nilCheck rfl) ?_;refine tm 3 rfl kqz rfl (o_fieldAddr (o:=1) underlying194 rfl rfl sz191 rfl) ?_;refine Zgs ?_;refine tm 7 rfl kqz rfl (o_move wqz) ?_;refine tm 8 rfl kqz rfl (o_addI rfl rfl oqz) ?_;refine th_env (d:=28) (v:=(vn (i*64+64))) (rfl) ?_;refine tm 9 rfl kqz rfl (o_slice (l:=i*64) (h:=i*64+64) underlying67 sz5 rfl (bnd_nat rfl) (bnd_nat rfl) oqz oqz) ?_;refine th_env (d:=29) (v:= .slice (cutAddr a c (i*64) 1) 64 (c-i*64)) (by show Value.slice _ (i*64+64-i*64) _=_;rw [Nat.add_sub_cancel_left]) ?_;refine th_two (i:=4) (j:=10) kqz ?_ ?_
    . skip
      refine oh_v rfl rfl rfl (o_load p191 rfl hsqz rfl) ?_;refine th_one (i:=10) kqz ?_;refine oh_c rfl rfl rfl (o_call bd83 rfl (CopyBytes_c (xs:=(xs.drop (i*64)).take 64) (hr:=(by repeat (first|exact rs_mid hr oqz|apply Rs.left))) (hm:=hxl))) ?_;rintro _ _ ⟨a30,c30,rfl,hc30,rfl⟩;refine Zeq ?_;refine oh_x rfl rfl rfl (o_buildSlice1 underlying35 sz67 z67 rfl rfl) ?_;rintro _ _ ⟨b31,rfl,rfl⟩;refine Zcx ?_;refine th_one (i:=13) kqz ?_;refine oh_x rfl rfl rfl (o_buildSliceK (k:=2) (l:=[.slice (some ⟨b31,0,none⟩) 1 1,.int .i64 (-1)]) underlying191 sz265 z265 rfl rfl (by decide)) ?_;rintro _ _ ⟨b33,rfl,rfl⟩;refine Zer ?_;refine oh_x rfl rfl rfl (o_apB underlying191 underlying191 sz265 by265 z265 rfl (by decide) (by decide) rfl rfl rfl ctqz rfl rfl oqz (fm_sn rls1 ((⟨.slice (some ⟨b31,0,none⟩) 1 1,[(.slice a30 64 c30,seenL (lineF xs i))],-1⟩:RL)))) ?_;rintro _ _ ⟨a34,c34,rfl,hc34,rfl⟩;refine Zbf ?_;refine Zdt ?_;refine oh_u rfl rfl rfl (o_stU (l':=[vn (n*64),.slice a34 (i+1) c34,.int .i64 0,.slice none 0 0,.int .i64 0,.bool false]) rfl upqz sz191 rfl rfl (by show 1<6;decide) rfl) drqz ?_;refine Zhg ?_
      have hnext:(rls1++[(⟨.slice (some ⟨b31,0,none⟩) 1 1,[(.slice a30 64 c30,seenL (lineF xs i))],-1⟩:RL)]).map RL.l=(fromS n xs).ls.take (i+1):=by
        rw [List.map_append,hp1,List.take_succ_eq_append_getElem (by rw [fromS_len];exact hi),fromS_at xs hi];rfl
      refine tc_pre (A':=F*Bs rlR (rls1++[(⟨.slice (some ⟨b31,0,none⟩) 1 1,[(.slice a30 64 c30,seenL (lineF xs i))],-1⟩:RL)])*pt b13 (cl ([vn (n*64),.slice a34 (i+1) c34,.int .i64 0,.slice none 0 0,.int .i64 0,.bool false]) 194)*Sl 2 (.slice a34 (i+1) c34) (i+1) ((rls1++[(⟨.slice (some ⟨b31,0,none⟩) 1 1,[(.slice a30 64 c30,seenL (lineF xs i))],-1⟩:RL)]).flatMap rcl)) (λ _ _ h=> ?_) ?_
      . have e:rlR (⟨.slice (some ⟨b31,0,none⟩) 1 1,[(.slice a30 64 c30,seenL (lineF xs i))],-1⟩:RL)=Sl 1 (.slice (some ⟨b31,0,none⟩) 1 1) 1 [.slice a30 64 c30]*SlR 1 (.slice a30 64 c30) 64 (bys ((xs.drop (i*64)).take 64)):=by
          show Sl 1 _ 1 [_]*Bs rowR [_]=_
          rw [bs_cons,bs_nil,emp_star]
          show _*SlR 1 _ 64 (bys (lb (seenL (lineF xs i))))=_
          rw [hlf]
        rw [bs_snoc,e]
        have h1:=sl_share (h.perm (show _=F*Bs rlR rls1*pt b13 (cl ([vn (n*64),.slice a34 (i+1) c34,.int .i64 0,.slice none 0 0,.int .i64 0,.bool false]) 194)*Sl 2 (.slice a34 (i+1) c34) (i+1) ((rls1++[(⟨.slice (some ⟨b31,0,none⟩) 1 1,[(.slice a30 64 c30,seenL (lineF xs i))],-1⟩:RL)]).flatMap rcl)*pt b31 (cl [.slice a30 64 c30] 67)*Sl 1 (.slice a30 64 c30) 64 (bys ((xs.drop (i*64)).take 64)) by ac_rfl));have h2:=sl_new (k:=1) (n:=1) (cap:=1) (xs:=[.slice a30 64 c30]) (h1.perm (star_swap _ _ _)) (by decide) (Nat.le_refl _) rfl;exact h2.perm (by ac_rfl)
      refine Zbq ?_;refine tv adqz ?_;refine tl_env (d:=19) (v:= .int .i64 (((i+1)*64:Nat):Int)) (by show Value.int .i64 _=_;congr 1;omega) ?_;refine Za ?_;exact ⟨_,by omega,i+1,a34,c34,rls1++[(⟨.slice (some ⟨b31,0,none⟩) 1 1,[(.slice a30 64 c30,seenL (lineF xs i))],-1⟩:RL)],by omega,hnext,rfl,rfl,rfl,rfl,rfl⟩
    . skip
      refine oh_c rfl rfl rfl (o_call bd83 rfl (CopyBytes_c (xs:=(xs.drop (i*64)).take 64) (hr:=(by repeat (first|exact rs_mid hr oqz|apply Rs.left))) (hm:=hxl))) ?_;rintro _ _ ⟨a30,c30,rfl,hc30,rfl⟩;refine ⟨by repeat (first|with_reducible exact dr_refl|apply dr_keep|apply dr_drop), ?_⟩;refine th_two (i:=4) (j:=11) kqz ?_ ?_
      . skip
        refine oh_v rfl rfl rfl (o_load p191 rfl hsqz rfl) ?_;refine th_one (i:=11) kqz ?_;refine oh_x rfl rfl rfl (o_buildSlice1 underlying35 sz67 z67 rfl rfl) ?_;rintro _ _ ⟨b31,rfl,rfl⟩;refine Zcx ?_;refine th_one (i:=13) kqz ?_;refine oh_x rfl rfl rfl (o_buildSliceK (k:=2) (l:=[.slice (some ⟨b31,0,none⟩) 1 1,.int .i64 (-1)]) underlying191 sz265 z265 rfl rfl (by decide)) ?_;rintro _ _ ⟨b33,rfl,rfl⟩;refine Zer ?_;refine oh_x rfl rfl rfl (o_apB underlying191 underlying191 sz265 by265 z265 rfl (by decide) (by decide) rfl rfl rfl ctqz rfl rfl oqz (fm_sn rls1 ((⟨.slice (some ⟨b31,0,none⟩) 1 1,[(.slice a30 64 c30,seenL (lineF xs i))],-1⟩:RL)))) ?_;rintro _ _ ⟨a34,c34,rfl,hc34,rfl⟩;refine Zbf ?_;refine Zdt ?_;refine oh_u rfl rfl rfl (o_stU (l':=[vn (n*64),.slice a34 (i+1) c34,.int .i64 0,.slice none 0 0,.int .i64 0,.bool false]) rfl upqz sz191 rfl rfl (by show 1<6;decide) rfl) drqz ?_;refine Zhg ?_
        have hnext:(rls1++[(⟨.slice (some ⟨b31,0,none⟩) 1 1,[(.slice a30 64 c30,seenL (lineF xs i))],-1⟩:RL)]).map RL.l=(fromS n xs).ls.take (i+1):=by
          rw [List.map_append,hp1,List.take_succ_eq_append_getElem (by rw [fromS_len];exact hi),fromS_at xs hi];rfl
        refine tc_pre (A':=F*Bs rlR (rls1++[(⟨.slice (some ⟨b31,0,none⟩) 1 1,[(.slice a30 64 c30,seenL (lineF xs i))],-1⟩:RL)])*pt b13 (cl ([vn (n*64),.slice a34 (i+1) c34,.int .i64 0,.slice none 0 0,.int .i64 0,.bool false]) 194)*Sl 2 (.slice a34 (i+1) c34) (i+1) ((rls1++[(⟨.slice (some ⟨b31,0,none⟩) 1 1,[(.slice a30 64 c30,seenL (lineF xs i))],-1⟩:RL)]).flatMap rcl)) (λ _ _ h=> ?_) ?_
        . have e:rlR (⟨.slice (some ⟨b31,0,none⟩) 1 1,[(.slice a30 64 c30,seenL (lineF xs i))],-1⟩:RL)=Sl 1 (.slice (some ⟨b31,0,none⟩) 1 1) 1 [.slice a30 64 c30]*SlR 1 (.slice a30 64 c30) 64 (bys ((xs.drop (i*64)).take 64)):=by
            show Sl 1 _ 1 [_]*Bs rowR [_]=_
            rw [bs_cons,bs_nil,emp_star]
            show _*SlR 1 _ 64 (bys (lb (seenL (lineF xs i))))=_
            rw [hlf]
          rw [bs_snoc,e]
          have h1:=sl_share (h.perm (show _=F*Bs rlR rls1*pt b13 (cl ([vn (n*64),.slice a34 (i+1) c34,.int .i64 0,.slice none 0 0,.int .i64 0,.bool false]) 194)*Sl 2 (.slice a34 (i+1) c34) (i+1) ((rls1++[(⟨.slice (some ⟨b31,0,none⟩) 1 1,[(.slice a30 64 c30,seenL (lineF xs i))],-1⟩:RL)]).flatMap rcl)*pt b31 (cl [.slice a30 64 c30] 67)*Sl 1 (.slice a30 64 c30) 64 (bys ((xs.drop (i*64)).take 64)) by ac_rfl));have h2:=sl_new (k:=1) (n:=1) (cap:=1) (xs:=[.slice a30 64 c30]) (h1.perm (star_swap _ _ _)) (by decide) (Nat.le_refl _) rfl;exact h2.perm (by ac_rfl)
        refine Zbq ?_;refine tv adqz ?_;refine tl_env (d:=19) (v:= .int .i64 (((i+1)*64:Nat):Int)) (by show Value.int .i64 _=_;congr 1;omega) ?_;refine Za ?_;exact ⟨_,by omega,i+1,a34,c34,rls1++[(⟨.slice (some ⟨b31,0,none⟩) 1 1,[(.slice a30 64 c30,seenL (lineF xs i))],-1⟩:RL)],by omega,hnext,rfl,rfl,rfl,rfl,rfl⟩
      . skip
        refine oh_x rfl rfl rfl (o_buildSlice1 underlying35 sz67 z67 rfl rfl) ?_;rintro _ _ ⟨b31,rfl,rfl⟩;refine Zcx ?_;refine th_two (i:=4) (j:=13) kqz ?_ ?_
        . skip
          refine oh_v rfl rfl rfl (o_load p191 rfl hsqz rfl) ?_;refine th_one (i:=13) kqz ?_;refine oh_x rfl rfl rfl (o_buildSliceK (k:=2) (l:=[.slice (some ⟨b31,0,none⟩) 1 1,.int .i64 (-1)]) underlying191 sz265 z265 rfl rfl (by decide)) ?_;rintro _ _ ⟨b33,rfl,rfl⟩;refine Zer ?_;refine oh_x rfl rfl rfl (o_apB underlying191 underlying191 sz265 by265 z265 rfl (by decide) (by decide) rfl rfl rfl ctqz rfl rfl oqz (fm_sn rls1 ((⟨.slice (some ⟨b31,0,none⟩) 1 1,[(.slice a30 64 c30,seenL (lineF xs i))],-1⟩:RL)))) ?_;rintro _ _ ⟨a34,c34,rfl,hc34,rfl⟩;refine Zbf ?_;refine Zdt ?_;refine oh_u rfl rfl rfl (o_stU (l':=[vn (n*64),.slice a34 (i+1) c34,.int .i64 0,.slice none 0 0,.int .i64 0,.bool false]) rfl upqz sz191 rfl rfl (by show 1<6;decide) rfl) drqz ?_;refine Zhg ?_
          have hnext:(rls1++[(⟨.slice (some ⟨b31,0,none⟩) 1 1,[(.slice a30 64 c30,seenL (lineF xs i))],-1⟩:RL)]).map RL.l=(fromS n xs).ls.take (i+1):=by
            rw [List.map_append,hp1,List.take_succ_eq_append_getElem (by rw [fromS_len];exact hi),fromS_at xs hi];rfl
          refine tc_pre (A':=F*Bs rlR (rls1++[(⟨.slice (some ⟨b31,0,none⟩) 1 1,[(.slice a30 64 c30,seenL (lineF xs i))],-1⟩:RL)])*pt b13 (cl ([vn (n*64),.slice a34 (i+1) c34,.int .i64 0,.slice none 0 0,.int .i64 0,.bool false]) 194)*Sl 2 (.slice a34 (i+1) c34) (i+1) ((rls1++[(⟨.slice (some ⟨b31,0,none⟩) 1 1,[(.slice a30 64 c30,seenL (lineF xs i))],-1⟩:RL)]).flatMap rcl)) (λ _ _ h=> ?_) ?_
          . have e:rlR (⟨.slice (some ⟨b31,0,none⟩) 1 1,[(.slice a30 64 c30,seenL (lineF xs i))],-1⟩:RL)=Sl 1 (.slice (some ⟨b31,0,none⟩) 1 1) 1 [.slice a30 64 c30]*SlR 1 (.slice a30 64 c30) 64 (bys ((xs.drop (i*64)).take 64)):=by
              show Sl 1 _ 1 [_]*Bs rowR [_]=_
              rw [bs_cons,bs_nil,emp_star]
              show _*SlR 1 _ 64 (bys (lb (seenL (lineF xs i))))=_
              rw [hlf]
            rw [bs_snoc,e]
            have h1:=sl_share (h.perm (show _=F*Bs rlR rls1*pt b13 (cl ([vn (n*64),.slice a34 (i+1) c34,.int .i64 0,.slice none 0 0,.int .i64 0,.bool false]) 194)*Sl 2 (.slice a34 (i+1) c34) (i+1) ((rls1++[(⟨.slice (some ⟨b31,0,none⟩) 1 1,[(.slice a30 64 c30,seenL (lineF xs i))],-1⟩:RL)]).flatMap rcl)*pt b31 (cl [.slice a30 64 c30] 67)*Sl 1 (.slice a30 64 c30) 64 (bys ((xs.drop (i*64)).take 64)) by ac_rfl));have h2:=sl_new (k:=1) (n:=1) (cap:=1) (xs:=[.slice a30 64 c30]) (h1.perm (star_swap _ _ _)) (by decide) (Nat.le_refl _) rfl;exact h2.perm (by ac_rfl)
          refine Zbq ?_;refine tv adqz ?_;refine tl_env (d:=19) (v:= .int .i64 (((i+1)*64:Nat):Int)) (by show Value.int .i64 _=_;congr 1;omega) ?_;refine Za ?_;exact ⟨_,by omega,i+1,a34,c34,rls1++[(⟨.slice (some ⟨b31,0,none⟩) 1 1,[(.slice a30 64 c30,seenL (lineF xs i))],-1⟩:RL)],by omega,hnext,rfl,rfl,rfl,rfl,rfl⟩
        . skip
          refine oh_x rfl rfl rfl (o_buildSliceK (k:=2) (l:=[.slice (some ⟨b31,0,none⟩) 1 1,.int .i64 (-1)]) underlying191 sz265 z265 rfl rfl (by decide)) ?_;rintro _ _ ⟨b33,rfl,rfl⟩;refine ⟨by repeat (first|with_reducible exact dr_refl|apply dr_keep|apply dr_drop), ?_⟩;refine th_one (i:=4) kqz ?_;refine oh_v rfl rfl rfl (o_load p191 rfl hsqz rfl) ?_;refine th_one (i:=14) kqz ?_;refine oh_x rfl rfl rfl (o_apB underlying191 underlying191 sz265 by265 z265 rfl (by decide) (by decide) rfl rfl rfl ctqz rfl rfl oqz (fm_sn rls1 ((⟨.slice (some ⟨b31,0,none⟩) 1 1,[(.slice a30 64 c30,seenL (lineF xs i))],-1⟩:RL)))) ?_;rintro _ _ ⟨a34,c34,rfl,hc34,rfl⟩;refine Zbf ?_;refine Zdt ?_;refine oh_u rfl rfl rfl (o_stU (l':=[vn (n*64),.slice a34 (i+1) c34,.int .i64 0,.slice none 0 0,.int .i64 0,.bool false]) rfl upqz sz191 rfl rfl (by show 1<6;decide) rfl) drqz ?_;refine Zhg ?_
          have hnext:(rls1++[(⟨.slice (some ⟨b31,0,none⟩) 1 1,[(.slice a30 64 c30,seenL (lineF xs i))],-1⟩:RL)]).map RL.l=(fromS n xs).ls.take (i+1):=by
            rw [List.map_append,hp1,List.take_succ_eq_append_getElem (by rw [fromS_len];exact hi),fromS_at xs hi];rfl
          refine tc_pre (A':=F*Bs rlR (rls1++[(⟨.slice (some ⟨b31,0,none⟩) 1 1,[(.slice a30 64 c30,seenL (lineF xs i))],-1⟩:RL)])*pt b13 (cl ([vn (n*64),.slice a34 (i+1) c34,.int .i64 0,.slice none 0 0,.int .i64 0,.bool false]) 194)*Sl 2 (.slice a34 (i+1) c34) (i+1) ((rls1++[(⟨.slice (some ⟨b31,0,none⟩) 1 1,[(.slice a30 64 c30,seenL (lineF xs i))],-1⟩:RL)]).flatMap rcl)) (λ _ _ h=> ?_) ?_
          . have e:rlR (⟨.slice (some ⟨b31,0,none⟩) 1 1,[(.slice a30 64 c30,seenL (lineF xs i))],-1⟩:RL)=Sl 1 (.slice (some ⟨b31,0,none⟩) 1 1) 1 [.slice a30 64 c30]*SlR 1 (.slice a30 64 c30) 64 (bys ((xs.drop (i*64)).take 64)):=by
              show Sl 1 _ 1 [_]*Bs rowR [_]=_
              rw [bs_cons,bs_nil,emp_star]
              show _*SlR 1 _ 64 (bys (lb (seenL (lineF xs i))))=_
              rw [hlf]
            rw [bs_snoc,e]
            have h1:=sl_share (h.perm (show _=F*Bs rlR rls1*pt b13 (cl ([vn (n*64),.slice a34 (i+1) c34,.int .i64 0,.slice none 0 0,.int .i64 0,.bool false]) 194)*Sl 2 (.slice a34 (i+1) c34) (i+1) ((rls1++[(⟨.slice (some ⟨b31,0,none⟩) 1 1,[(.slice a30 64 c30,seenL (lineF xs i))],-1⟩:RL)]).flatMap rcl)*pt b31 (cl [.slice a30 64 c30] 67)*Sl 1 (.slice a30 64 c30) 64 (bys ((xs.drop (i*64)).take 64)) by ac_rfl));have h2:=sl_new (k:=1) (n:=1) (cap:=1) (xs:=[.slice a30 64 c30]) (h1.perm (star_swap _ _ _)) (by decide) (Nat.le_refl _) rfl;exact h2.perm (by ac_rfl)
          refine Zbq ?_;refine tv adqz ?_;refine tl_env (d:=19) (v:= .int .i64 (((i+1)*64:Nat):Int)) (by show Value.int .i64 _=_;congr 1;omega) ?_;refine Za ?_;exact ⟨_,by omega,i+1,a34,c34,rls1++[(⟨.slice (some ⟨b31,0,none⟩) 1 1,[(.slice a30 64 c30,seenL (lineF xs i))],-1⟩:RL)],by omega,hnext,rfl,rfl,rfl,rfl,rfl⟩
  obtain rfl:i=n:=by simp at h;omega
  rw [List.take_of_length_le (by rw [fromS_len];exact Nat.le_refl _)] at hp1
  refine Zgj ?_;refine ⟨.tuple #[pz b13,.int .i64 0],F*RDev b13 (fromS i xs),res2 rfl rfl rfl,λ _ _ h=> ?_,b13,rfl,rfl⟩;refine rdev_back (lv:= .slice aL i cL) (rls:=rls1) (av:= .slice none 0 0) (kvs:=[]) (fromS_wf hn hn2 hb) hp1 rfl _ _ ?_;have h1:=sl_nil (k:=2) h;refine h1.perm ?_
  unfold RDevC ArmsR rdcs
  rw [fromS_len]
  show _=F*(_*_*_*(Sl 2 (.slice none 0 0) 0 []*emp))
  rw [star_emp]
  rw [show (fromS i xs).ops=0 from rfl,show (fromS i xs).cnt=0 from rfl,show (fromS i xs).off=false from rfl]
  ac_rfl
theorem rLoad_c {A R:SP}{C:SP->SP}{r:Nat}{s:DevS}(hc:Ct A (RDev r s) R C:=by exact cbqz){p m:Nat}(hoff:s.off=false:=by assumption)(hpm:p+m<=s.ls.length*64:=by omega):
    Fn Tryz.prog 276 #[pz r,vn p,vn m] A (λ v B=>∃a c,v= .tuple #[.slice a m c,.int .i64 0]/\ m<=c/\ B=A*Sl 1 (.slice a m c) m (bys (((imgS s).drop p).take m))):=by
  obtain ⟨rfl,hC⟩:=hc;exact (fn_rdevR (q:=λ v X=>∃a c,v= .tuple #[.slice a m c,.int .i64 0]/\ m<=c/\ X=Sl 1 (.slice a m c) m (bys (((imgS s).drop p).take m))) λ A lv rls av hR=>rLoad_f A hR hoff hpm).mono λ v B ⟨X,e,a,c,h1,h2,h3⟩=>⟨a,c,h1,h2,by rw [e,h3]⟩
end Go.Vl

namespace Go.Vl
open Go Go.Proofs Go.Proofs.Tryz
theorem Foc.words {A A':SP}{hvs:List Value}{held:List (List Nat)}(h:Foc A (Words hvs held) (Words hvs held) A')(hl:hvs.length=held.length){g:Gh}{w:World}(hs:sat g w A):
    ∀i (hi:i<held.length),∃a c,hvs[i]? =some (.slice a held[i].length c)/\ Rd A a (wds held[i]):=λ i hi=>by
  obtain ⟨R,hA,_⟩:=h;obtain ⟨S,h1,_⟩:=words_get hl hi;rw [h1,←star_assoc] at hA
  obtain ⟨a,c,e,_,_,hr⟩:=sl_have' hA hs;exact ⟨a,c,by rw [List.getElem?_eq_getElem oqz,e],hr⟩
structure Lasts (P:PlS) (s2:DevS):Prop where
  len:s2.ls.length=P.marks.length
  wf:WfD s2
  wfp:WfD P.s
  seen:∀i (h:i<P.seen.length),nm (((imgS P.s).drop (8*i)).take 8)=P.seen[i]
  held:∀i (h:i<P.held.length),nm (((imgS s2).drop (8*i)).take 8)∈P.held[i]
  last:∀i (h:i<P.sure.length) (h':i<P.last.length),P.sure[i]=true->nm (((imgS s2).drop (8*i)).take 8)=P.last[i]
structure InvL (P:PlS) (w:Nat) (l:LineS):Prop where
  seen:(seenL l).getD (w%8) 0=P.seen.getD w 0
  held:∀σ∈l.st,σ.getD (w%8) 0∈P.held.getD w []
  last:P.sure.getD w false=true->∀σ∈l.st,σ.getD (w%8) 0=P.last.getD w 0
  mark:P.marks.getD (w/8) 0=1->l.mark=(l.st.length:Int)-1
def Inv (P:PlS):Prop:=∀w l,w<P.seen.length->P.s.ls[w/8]? =some l->InvL P w l
instance:Inhabited StepC:=⟨⟨0,0,.bool false,0,.bool false,.bool false,.bool false⟩⟩
theorem wfR_ct {A R:SP}{C:SP->SP}{r:Nat}{s:DevS}(hc:Ct A (RDev r s) R C){g:Gh}{w:World}(hs:sat g w A):WfD s:=by
  obtain ⟨rfl,_⟩:=hc;exact (rdev_iff.1 hs).1
theorem nm_snocr (x:Nat)(l:List Nat):nm (x::l)=x+256*nm l:=rfl
theorem nm_bound {l:List Nat}(h:∀x∈l,x<256)(hl:l.length<=8):nm l<18446744073709551616:=Nat.lt_of_lt_of_le (nm_lt l h) (by calc 256^l.length<=256^8:=Nat.pow_le_pow_right (by decide) hl
  _=18446744073709551616:=by decide)
attribute [local irreducible] Sl pt ro
end Go.Vl

namespace Go.Vl
open Go Go.Proofs Go.Proofs.Tryz
section
variable {P:Program} {n:Nat} {ρ:Env} {dst:Option Nat} {ty:TypeId} {pos:String} {after:Array Edge} {gd:Option (Nat×Bool)} {A:SP}
end
def rdT (n:Nat)(I:List Nat):List Int×Int:=if I.take 64=sbB [n,128,32768,32896,(n-32896)/256,0] then ([(n:Int),((128:Nat):Int),((32768:Nat):Int),((32896:Nat):Int),(((n-32896)/256:Nat):Int)],0) else ([0,0,0,0,0],100)
def wk1:DevS:=(bytesP 60 [1,1,1,1,1,1,1,1] (newS 2)).2
def wk2:DevS:=(pubP 8 258 wk1).2
def wk3:DevS:=(crS [] wk2).2
def wk4:DevS:={ wk3 with off:=false }
def nk1:DevS:=(crS [] (newS 1)).2
def mk (i k:Nat):Nat:=(i*31+k*7+1)%256
def mks (i n:Nat):List Nat:=(List.range n).map (mk i)
def mkL (j:Nat)(l:List Nat):List Nat:=mks j l.length
def PM:Nat->List Value->List Nat->SP
  |j,v::vs,n::ns=>PM (j+1) vs ns*Sl 1 v n (bys (mks j n))
  |_,[],[]=>emp
  |_,_,_=>pure_ False
def GP:Nat->List Value->List Value->List Nat->SP
  |j,v::vs,g::gs,n::ns=>GP (j+1) vs gs ns*Gr v n (bys (mks j n)) g (n+70) (bys (mks j (n+70)))
  |_,[],[],[]=>emp
  |_,_,_,_=>pure_ False
attribute [local irreducible] Sl SlR pt ro Parts Gr
end Go.Vl

namespace Go.Vl
open Go Go.Proofs Go.Proofs.Tryz
def rdA (s:DevS):List Int×Int:=if s.off=true then ([0,0,0,0,0],5) else if 578<=s.ls.length then rdT (s.ls.length*64) (imgS s) else ([0,0,0,0,0],100)
def rootA (s:DevS):Nat×Int:=if (rdA s).2≠0 then (0,(rdA s).2) else wordP 64 s
theorem old_heap' {W w:World}{g:Gh}(h:sat g w (old W)){k:Nat}(hk:k<W.heap.size):w.heap[k]? =W.heap[k]? :=by
  obtain ⟨x,rfl,hx⟩:=h.hp;have:=Array.getElem?_eq_getElem hk;rw [this];exact hx _ _ true (by simp [this])
theorem cell_old' {W:World}{b off:Nat}{v:Value}(h:W.cell? ⟨b,off,none⟩=some v):Cell (old W) b off v:=λ g w hs=>by
  have hb:b<W.heap.size:=by
    rcases Nat.lt_or_ge b W.heap.size with h1|h1
    . exact h1
    exfalso
    have:W.heap[b]? =none:=Array.getElem?_eq_none h1
    simp [World.cell?,this] at h
  have:=old_heap' hs hb;rw [←h];simp only [World.cell?,this]
theorem rs_old {W:World}{a:Addr}{xs:List Value}(h:∀i v,xs[i]? =some v->W.cell? (a.add i)=some v):Rs (old W) (some a) xs:=by
  cases xs with
  |nil=>exact rs_nil
  |cons x l=>
    obtain ⟨b,off,spot⟩:=a;have h0:=h 0 x rfl;have hspot:spot=none:=(by simpa [Addr.add] using World.cell?_spot h0);subst hspot;refine λ g w hs i v hv=>⟨b,off,rfl, ?_⟩
    have:=h i v hv;rw [WideShapes.add_plain] at this
    exact cell_old' this g w hs
def Rdb {α:Type}(P:Program)(W:World)(t:TypeId)(r:List Value->α->Prop):Prop:=
  ∀ (H:Type) (enc:TypeId×Value->H) (spare:Nat->Bool) (held:Bool) (fuel:Nat) (cs:List Value) (d:DataW H) (pl:List MemPlace),
    DataW.trod enc P W 0 spare held fuel t cs=some (d,pl)->(∀n∈d.weights P t,n<=reachBytes)->∃x,r cs x
theorem Rdb.mono {α β:Type}{P:Program}{W:World}{t:TypeId}{r:List Value->α->Prop}{q:List Value->β->Prop}(h:Rdb P W t r)(k:∀cs x,r cs x->∃y,q cs y):Rdb P W t q:=
  λ H enc sp hd fu cs d pl h1 h2=>by obtain ⟨x,hx⟩:=h H enc sp hd fu cs d pl h1 h2;exact k cs x hx
def PInt (k:IntKind)(cs:List Value)(n:Int):Prop:=cs=[.int k n]/\ (Lit.int k n).wf=true
theorem rdb_int {P:Program}{W:World}{t:TypeId}{k:IntKind}(ht:P.underlying t=some (.int k)):Rdb P W t (PInt k):=λ H enc sp hd fu cs d pl h _=>by
  obtain ⟨n,e,_,hw⟩:=DataW.trod_int ht h;exact ⟨n,e,hw⟩
def PBool (cs:List Value)(b:Bool):Prop:=cs=[.bool b]
theorem rdb_bool {P:Program}{W:World}{t:TypeId}(ht:P.underlying t=some .bool):Rdb P W t PBool:=λ H enc sp hd fu cs d pl h _=>by
  obtain ⟨b,e,_⟩:=DataW.trod_bool ht h;exact ⟨b,e⟩
def PSl {α:Type}(A:SP)(k b:Nat)(r:List Value->α->Prop)(cs:List Value)(xs:List α):Prop:=
  ∃ (a:Option Addr) (cap:Nat) (Cs:List (List Value)),cs=[.slice a xs.length cap]/\ xs.length<=cap/\ xs.length*b<=reachBytes/\ Cs.length=xs.length/\ (∀i (h:i<xs.length) (h':i<Cs.length),Cs[i].length=k/\ r Cs[i] xs[i])/\ Rs A a Cs.flatten
theorem weightsAll_mem {H:Type}{P:Program}{e:TypeId}:∀{l:List (DataW H)} {d:DataW H},d∈l->∀n∈d.weights P e,n∈DataW.weightsAll P e l
  |x::l,d,h,n,hn=>by
    simp only [DataW.weightsAll,List.mem_append]
    rcases List.mem_cons.1 h with rfl|h
    . exact .inl hn
    exact .inr (weightsAll_mem h n hn)
theorem flat_at {k:Nat}:∀{Cs:List (List Value)} (_:∀c∈Cs,c.length=k) {i j:Nat} (_:j<k) (hi:i<Cs.length),Cs.flatten[i*k+j]? =Cs[i][j]?
  |c::Cs,h,0,j,hj,_=>by
    rw [Nat.zero_mul,Nat.zero_add,List.flatten_cons,List.getElem?_append_left (by rw [h c (by simp)];exact hj)];rfl
  |c::Cs,h,i+1,j,hj,hi=>by
    have hc:=h c (by simp);rw [List.flatten_cons,List.getElem?_append_right (by rw [hc,Nat.add_mul];omega),hc,show (i+1)*k+j-k=i*k+j by rw [Nat.add_mul];omega]
    exact flat_at (λ x hx=>h x (List.mem_cons_of_mem _ hx)) hj (by simpa using hi)
theorem flat_length {k:Nat}:∀{Cs:List (List Value)} (_:∀c∈Cs,c.length=k),Cs.flatten.length=Cs.length*k
  |[],_=>by simp
  |c::Cs,h=>by
    rw [List.flatten_cons,List.length_append,h c (by simp),flat_length (λ x hx=>h x (List.mem_cons_of_mem _ hx)),List.length_cons,Nat.add_mul];omega
theorem rdb_slice {α:Type}{P:Program}{W:World}{t e:TypeId}{k b:Nat}{r:List Value->α->Prop}(ht:P.underlying t=some (.slice e))(hk:P.cellsOf e=k)(hb:P.bytesOf e=b)(hk0:0<k)(hr:Rdb P W e r):Rdb P W t (PSl (old W) k b r):=λ H enc sp hd fu cs d pl h hw=>by
  rcases Deep.open_slice ht h with ⟨rfl,_⟩|⟨a,len,cap,m,n,D,Pl,rfl,_,hl,_,hm,hx,hel⟩
  . exact ⟨[],none,0,[],rfl,Nat.le_refl _,by simp,rfl,λ i h=>by simp at h,rs_nil⟩
  have hlm:len<=m:=(by rw [hm];split<;>omega)
  simp only [Prod.mk.injEq] at hx
  obtain ⟨rfl,_⟩:=hx;have hall:∀n∈DataW.weights P t (DataW.slice ((List.range len).map D) ((List.range (m-len)).map λ j=>D (len+j))),n<=reachBytes:=hw
  have hw1:(len+(m-len))*P.bytesOf e<=reachBytes:=by
    have:=hall ((len+(m-len))*P.bytesOf e) (by simp [DataW.weights,ht]);exact this
  have hex:∀i,i<len->∃p:List Value×α,p.1.length=k/\ r p.1 p.2/\∀j v,p.1[j]? =some v->W.cell? (a.add (i*k+j))=some v:=λ i hi=>by
    obtain ⟨cs',h1,h2⟩:=hel i oqz;rw [hk] at h1
    obtain ⟨_,hlen,h3⟩:=World.cells?_some h1
    obtain ⟨x,hx⟩:=hr H enc sp hd n cs' (D i) (Pl i) h2 (λ n hn=>hall n (by
      simp only [DataW.weights,ht,List.mem_cons,List.mem_append]
      refine .inr (.inl (weightsAll_mem (d:=D i) ?_ n hn))
      exact List.mem_map.2 ⟨i,List.mem_range.2 hi,rfl⟩))
    refine ⟨(cs',x),hlen,hx,λ j v hv=> ?_⟩;have hj:j<k:=(by have h9:j<cs'.length:=lt_at hv;omega);have:=h3 j hj;rw [Deep.add_add] at this
    rw [this,hv]
  rcases Nat.eq_zero_or_pos len with h0|h0
  . subst h0;exact ⟨[],some a,cap,[],rfl,Nat.zero_le _,by simp,rfl,λ i h=>by simp at h,rs_nil⟩
  obtain ⟨p0,_⟩:=hex 0 h0
  haveI:Inhabited (List Value×α):=⟨p0⟩
  obtain ⟨f,hf⟩:=Deep.choose_lt hex;refine ⟨(List.range len).map λ i=>(f i).2,some a,cap,(List.range len).map λ i=>(f i).1,by simp,by simpa using hl, ?_,by simp,λ i h h'=> ?_,rs_old λ i v hv=> ?_⟩
  . simp only [List.length_map,List.length_range,←hb]
    exact Nat.le_trans (Nat.mul_le_mul_right _ oqz) hw1
  . simp only [List.length_map,List.length_range] at h
    simp only [List.getElem_map,List.getElem_range]
    exact ⟨(hf i h).1,(hf i h).2.1⟩
  have hCk:∀c∈(List.range len).map λ i=>(f i).1,c.length=k:=λ c hc=>by
    obtain ⟨i,hi,rfl⟩:=List.mem_map.1 hc;exact (hf i (List.mem_range.1 hi)).1
  have hi:=lt_at hv;rw [flat_length hCk,List.length_map,List.length_range] at hi
  have hq:i/k<len:=Nat.div_lt_of_lt_mul (by rw [Nat.mul_comm];exact hi);have hm2:i%k<k:=Nat.mod_lt _ hk0;have e:i=i/k*k+i%k:=(Nat.div_add_mod' i k).symm;rw [e,flat_at hCk hm2 (by simpa using hq)] at hv
  simp only [List.getElem_map,List.getElem_range] at hv
  rw [e]
  exact (hf (i/k) hq).2.2 _ v hv
theorem rdb_fields {P:Program}{W:World}{t:TypeId}{fs:Array Field}(ht:P.underlying t=some (.struct fs)){H:Type}{enc:TypeId×Value->H}{sp:Nat->Bool}{hd:Bool}{fu:Nat}{cs:List Value}{d:DataW H}{pl:List MemPlace}
    (h:DataW.trod enc P W 0 sp hd fu t cs=some (d,pl)) (hw:∀n∈d.weights P t,n<=reachBytes):cs.length=P.cellsOf t∧
    ∀ (j:Nat) (f:Field),fs[j]? =some f->∀{α:Type} {r:List Value->α->Prop},Rdb P W f.type r->∃x,r ((cs.drop f.offset).take (P.cellsOf f.type)) x:=by
  obtain ⟨xs,n,_,hx,hl,hlen,hf⟩:=DataW.trod_struct ht h;refine ⟨hl,λ j f hj α r hr=> ?_⟩
  simp only [Prod.mk.injEq] at hx
  obtain ⟨rfl,_⟩:=hx
  have hj':j<xs.length:=by
    have h1:j<fs.size:=(Array.getElem?_eq_some_iff.1 hj).1;have h2:xs.length=fs.size:=(by simpa using hlen)
    omega
  have:=hf j f hj;rw [List.getElem?_eq_getElem hj'] at this
  refine hr H enc sp hd n _ xs[j].1 xs[j].2 this (λ m hm=>hw m ?_)
  simp only [DataW.weights,ht]
  exact DataW.weights_mem_each (ts:=fs.toList.map (·.type)) (ds:=xs.map (·.1)) (j:=j) (t:=f.type) (d:=xs[j].1) (by simp [hj]) (by simp [hj']) m hm
def PBys (A:SP)(cs:List Value)(xs:List Nat):Prop:=∃a cap,cs=[.slice a xs.length cap]/\ xs.length<=cap/\ xs.length<=140737488351232/\ Rs A a (bys xs)/\∀x∈xs,x<256
def PInts (A:SP)(cs:List Value)(xs:List Int):Prop:=∃a cap,cs=[.slice a xs.length cap]/\ xs.length<=cap/\ xs.length<=17592186043904/\ Rs A a (ints xs)/\∀x∈xs,-9223372036854775808<=x/\ x<=9223372036854775807
theorem i64_wf {x:Int}(h:(Lit.int .i64 x).wf=true): -9223372036854775808<=x/\ x<=9223372036854775807:=Go.bounds_i64 h
abbrev ub {H:Type}(d:DataW H):Nat:=Go.Proofs.YtfmieencngkkcaaGreat.Rows.uptoBulk d
abbrev ubs {H:Type}(l:List (DataW H)):Nat:=Go.Proofs.YtfmieencngkkcaaGreat.Rows.uptoBulkAll l
def Rdu {α:Type}(P:Program)(W:World)(t:TypeId)(r:List Value->α->Prop)(sz:α->Nat):Prop:=
  ∀ (H:Type) (enc:TypeId×Value->H) (spare:Nat->Bool) (held:Bool) (fuel:Nat) (cs:List Value) (d:DataW H) (pl:List MemPlace),
    DataW.trod enc P W 0 spare held fuel t cs=some (d,pl)->∃x,r cs x/\ sz x<=ub d
theorem Rdu.mono {α β:Type}{P:Program}{W:World}{t:TypeId}{r:List Value->α->Prop}{s:α->Nat}{q:List Value->β->Prop}{z:β->Nat}(h:Rdu P W t r s)(k:∀cs x,r cs x->∃y,q cs y/\ z y<=s x):Rdu P W t q z:=
  λ H enc sp hd fu cs d pl h1=>by
    obtain ⟨x,hx,hs⟩:=h H enc sp hd fu cs d pl h1;obtain ⟨y,hy,hz⟩:=k cs x hx;exact ⟨y,hy,by omega⟩
def PSu {α:Type}(A:SP)(k:Nat)(r:List Value->α->Prop)(cs:List Value)(xs:List α):Prop:=
  ∃ (a:Option Addr) (cap:Nat) (Cs:List (List Value)),cs=[.slice a xs.length cap]/\ xs.length<=cap/\ Cs.length=xs.length/\ (∀i (h:i<xs.length) (h':i<Cs.length),Cs[i].length=k/\ r Cs[i] xs[i])/\ Rs A a Cs.flatten
def szL {α:Type}(sz:α->Nat)(xs:List α):Nat:=(xs.map sz).sum+1
def PByU (A:SP)(cs:List Value)(xs:List Nat):Prop:=∃a cap,cs=[.slice a xs.length cap]/\ xs.length<=cap/\ Rs A a (bys xs)/\∀x∈xs,x<256
def PInU (A:SP)(cs:List Value)(xs:List Int):Prop:=∃a cap,cs=[.slice a xs.length cap]/\ xs.length<=cap/\ Rs A a (ints xs)/\∀x∈xs,-9223372036854775808<=x/\ x<=9223372036854775807
structure Op9 where
  k:Int
  q:Int
  n:Int
  a:Option Addr
  c:Nat
  b:List Nat
  v:Nat
  ka:Option Addr
  kc:Nat
  kp:List Int
def Op9.cells (t:Op9):List Value:=[.int .i64 t.k,.int .i64 t.q,.int .i64 t.n,.slice t.a t.b.length t.c,.int .u64 (t.v:Nat),.slice t.ka t.kp.length t.kc]
structure Op9W (A:SP) (t:Op9):Prop where
  cap:t.b.length<=t.c
  rs:Rs A t.a (bys t.b)
  byt:∀x∈t.b,x<256
  v:t.v<18446744073709551616
  kcap:t.kp.length<=t.kc
  krs:Rs A t.ka (ints t.kp)
  kb:∀x∈t.kp,-9223372036854775808<=x/\ x<=9223372036854775807
  q: -9223372036854775808<=t.q/\ t.q<=9223372036854775807
  n: -9223372036854775808<=t.n/\ t.n<=9223372036854775807
def Op9.sz (t:Op9):Nat:=t.b.length+t.kp.length+1
def ocs (l:List Op9):List Value:=l.flatMap Op9.cells
def POps (A:SP)(cs:List Value)(ops:List Op9):Prop:=∃a cap,cs=[.slice a ops.length cap]/\ ops.length<=cap/\ Rs A a (ocs ops)/\∀t∈ops,Op9W A t
def rawS (t:Op9)(s:DevS):DevS:=if t.k=7 then (sto ((wi t.q 256:Nat):Int) (t.b.take (256-wi t.q 256)) s).2 else if t.k=8 then (fl1 ((wi t.q 256:Nat):Int) s).2 else if t.k=9 then (fe s).2 else s
theorem room_le {a b:Nat}{s:DevS}(h:Room a s)(hab:b<=a):Room b s:=λ l hl=>Nat.le_trans (Nat.add_le_add_left hab _) (h l hl)
def rawL (l:List Op9)(s:DevS):DevS:=l.foldl (λ s t=>rawS t s) s
def rawB (at_ m:Nat)(t:Op9)(s:DevS):DevS:=if t.k=7/\ wi t.q 256<at_+m/\ at_<wi t.q 256+t.b.length then s else rawS t s
def rawLB (at_ m:Nat)(l:List Op9)(s:DevS):DevS:=l.foldl (λ s t=>rawB at_ m t s) s
attribute [local irreducible] Sl pt ro Dev imgS
theorem Within_c {A:SP}{i n:Int}(hn:0<n/\ n<=9223372036854775807:=by omega):
    Fn Tryz.prog 25 #[.int .i64 i,.int .i64 n] A (λ r B=>r= .int .i64 (i%n)/\ A=B):=by
  refine fn_enterW func25 rfl ntmps25 (by simp) ?_;have hb:=tmod_lt' (a:=i) hn.1;refine Zs ?_;refine Zbj ?_;refine tv (o_rem (a:=i) (b:=n) rfl rfl oqz) ?_;refine Zds ?_;refine Zu ?_;refine tc_cond rfl (sbq ?_) (sbq ?_)
  . intro h;refine Zb5 ?_;refine tv (o_addI (a:=i.tmod n) (b:=n) rfl rfl oqz) ?_;refine Zbu ?_;refine Zbd ?_;exact ⟨.int .i64 (i.tmod n+n),A,res1 rfl rfl,λ _ _ h=>h,by rw [within_neg hn.1 h],rfl⟩
  intro h;refine Zb9 ?_;refine Zbd ?_;exact ⟨.int .i64 (i.tmod n),A,res1 rfl rfl,λ _ _ h=>h,by rw [within_pos hn.1 h],rfl⟩
end Go.Vl

namespace Go.Vl
open Go Go.Proofs Go.Proofs.Tryz
def fmtF:List (Nat×List Nat)->DevS->Int×DevS
  |[],s=>(0,s)
  |t::l,s=>if (bytesP (t.1:Int) t.2 s).1≠0 then bytesP (t.1:Int) t.2 s else fmtF l (bytesP (t.1:Int) t.2 s).2
def fst4 (n:Nat):List (Nat×List Nat):=[(0,(List.replicate 64 0)),(64,(List.replicate 64 0)),(128,(List.replicate 64 0)),(0,sbB [n,128,32768,32896,(n-32896)/256,0])]
def stC (l:List (Nat×List Nat)):List Value:=l.flatMap λ t=> .int .i64 (t.1:Int)::bys t.2
def fmA (n:Nat)(s:DevS):List Int×Int:=if (fmtF (fst4 n) s).1≠0 then ([0,0,0,0,0],(fmtF (fst4 n) s).1) else ([(n:Int),((128:Nat):Int),((32768:Nat):Int),((32896:Nat):Int),(((n-32896)/256:Nat):Int)],0)
def zz:List Nat:=List.replicate 64 0
def LostI (n:Nat)(xs I:List Nat):Prop:=I.length=n/\ I.drop 192=xs.drop 192/\ (I.take 192=xs.take 192∨I.take 64≠sbB [n,128,32768,32896,(n-32896)/256,0]∨(I.drop 64).take 128=List.replicate 128 0)
def DoneI (n:Nat)(xs I:List Nat):Prop:=I.length=n/\ I.drop 192=xs.drop 192/\ I.take 64=sbB [n,128,32768,32896,(n-32896)/256,0]/\ (I.drop 64).take 128=List.replicate 128 0
def PSteps (A:SP)(cs:List Value)(ss:List StepC):Prop:=∃a cap,cs=[.slice a ss.length cap]/\ ss.length<=cap/\ ss.length<=1353245080300/\ Rs A a (scs ss)/\∀t∈ss,t.v<18446744073709551616
structure ImC where
  sz:Int
  fl:Int
  ha:Option Addr
  hcp:Nat
  hd:List Nat
  rt:Bool
  tn:Int
def ImC.cells (t:ImC):List Value:=[.int .i64 t.sz,.int .u8 t.fl,.slice t.ha t.hd.length t.hcp,.bool t.rt,.int .i64 t.tn]
def PImg (A:SP)(cs:List Value)(t:ImC):Prop:=cs=t.cells/\ Rs A t.ha (bys t.hd)/\ (∀x∈t.hd,x<256)/\ t.hd.length<=t.hcp/\ t.hd.length<=140737488351232/\ (0<=t.fl/\ t.fl<256)/\ (-9223372036854775808<=t.tn/\ t.tn<=9223372036854775807)/\ (-9223372036854775808<=t.sz/\ t.sz<=9223372036854775807)
structure RwF (A:SP) (a:Option Addr) (vs:List Value) (ls:List (List Nat)):Prop where
  len:vs.length=ls.length
  rd:Rs A a vs
  row:∀i (h:i<ls.length),∃b c,vs[i]? =some (.slice b ls[i].length c)/\ Rs A b (bys ls[i])
theorem RwF.left {A X:SP}{a:Option Addr}{vs:List Value}{ls:List (List Nat)}(h:RwF A a vs ls):RwF (A*X) a vs ls:=⟨h.len,h.rd.left,λ i hi=>let ⟨b,c,e,hr⟩:=h.row i hi;⟨b,c,e,hr.left⟩⟩
attribute [local irreducible] Sl pt ro imgS Parts
end Go.Vl

namespace Go.Vl
open Go Go.Proofs Go.Proofs.Tryz
def fmX (s:DevS):(List Int×Int)×DevS:=if 578<=s.ls.length then (((fmA (s.ls.length*64) s).1,(fmtF (fst4 (s.ls.length*64)) s).1),(fmtF (fst4 (s.ls.length*64)) s).2) else (([0,0,0,0,0],80),s)
def ctI (p:Int)(s:DevS):List (List Nat):=if p<0 then [] else ctS p.toNat s
def ldB (p m:Int)(s:DevS):List Nat:=if rdy s.ls.length s.off p m=0 then ((imgS s).drop p.toNat).take m.toNat else []
theorem Op9W.left {A X:SP}{t:Op9}(h:Op9W A t):Op9W (A*X) t:=⟨h.cap,h.rs.left,h.byt,h.v,h.kcap,h.krs.left,h.kb,h.q,h.n⟩
structure RgC where
  ba:Option Addr
  bc:Nat
  bef:List Op9
  q:Int
  a:Option Addr
  c:Nat
  b:List Nat
  ha:Option Addr
  hc:Nat
  beh:List Op9
  ka:Option Addr
  kc:Nat
  kp:List Int
def RgC.cells (t:RgC):List Value:=[.slice t.ba t.bef.length t.bc,.int .i64 t.q,.slice t.a t.b.length t.c,.slice t.ha t.beh.length t.hc,.slice t.ka t.kp.length t.kc]
structure RgW (A:SP) (t:RgC):Prop where
  hrb:Rs A t.ba (ocs t.bef)
  hwb:∀x∈t.bef,Op9W A x
  hrh:Rs A t.ha (ocs t.beh)
  hwh:∀x∈t.beh,Op9W A x
  hr:Rs A t.a (bys t.b)
  hb:∀x∈t.b,x<256
  hcap:t.b.length<=t.c
  hrk:Rs A t.ka (ints t.kp)
def xm (i:Nat):Int:=IntKind.u8.wrap (IntKind.i64.wrap ((BitVec.ofInt IntKind.i64.bits 165^^^BitVec.ofInt IntKind.i64.bits (i:Int)).toNat))
def xmN (i:Nat):Nat:=(xm i).toNat
def spm (n:Nat):List Nat:=(List.range 80).map λ j=>xmN (n+j)
def spi (n:Nat):List Int:=(List.range 9).map λ j=>(7700+((n+j:Nat):Int))
attribute [local irreducible] Sl pt ro
end Go.Vl

namespace Go.Vl
open Go Go.Proofs Go.Proofs.Tryz
def wd (n:Int):Nat:=2^wi n 4
def needN (l:List (Int×Int)):Nat:=(l.map λ x=>24+up8 x.2.toNat).sum
attribute [local irreducible] crk crL crc Sl pt ro Dev imgS recS
theorem Zgv {p r:Prop}(k:r)(h:Kq r->p:=by intro k;refine Za ?_;refine tc_cond rfl dbq (sbq ?_);exact k.o):p:=h ⟨k⟩
theorem Ze2 {p r:Prop}(k:r)(h:Kq r->p:=by intro k;refine tv (o_pick_t rfl wqz) ?_;refine Zbn ?_;exact k.o):p:=h ⟨k⟩
theorem Zf3 {p r:Prop}(k:r)(h:Kq r->p:=by intro k;refine tv (o_nei rfl rfl) ?_;refine Zbb ?_;exact k.o):p:=h ⟨k⟩
theorem Zhl {p r:Prop}(k:r)(h:Kq r->p:=by intro k;refine Zdm ?_;refine Zbb ?_;exact k.o):p:=h ⟨k⟩
theorem Zgl {p r:Prop}(k:r)(h:Kq r->p:=by intro k;refine Zbk ?_;refine tk ?_;exact k.o):p:=h ⟨k⟩
theorem Zfb {p r:Prop}(k:r)(h:Kq r->p:=by intro k;refine Zv ?_;refine tlm ?_;exact k.o):p:=h ⟨k⟩
theorem Zfw {p r:Prop}(k:r)(h:Kq r->p:=by intro k;refine tv (o_pick_f rfl wqz) ?_;refine Zbn ?_;exact k.o):p:=h ⟨k⟩
theorem Open_ok {A R:SP}{C:SP->SP}{d:Nat}{s:DevS}(hc:Ct A (Dev d s) R C:=by exact cbqz){p q:Int}(hp: -9223372036854775808<=p/\ p<=9223372036854775807:=by omega)(hq: -9223372036854775808<=q/\ q<=9223372036854775807:=by omega)(hok:(64<=p/\ p%64=0/\ 128<=q/\ q%64=0/\ p<=(s.ls.length:Int)*64/\ q<=(s.ls.length:Int)*64-p):=by omega):
    Fn Tryz.prog 84 #[pz d,.int .i64 p,.int .i64 q] A (λ r B=>∃b,r= .tuple #[pz b,.int .i64 0]/\ B=A*pt b (cl [pz d,.int .i64 p,.int .i64 q] 258)):=by
  refine fn_enterW func84 rfl ntmps84 (by simp) ?_;refine tc_have (λ _ _ h=>ct_wf2 hc h) λ hw=> ?_
  have htop:=hw.top;have hpos:=hw.pos;obtain ⟨rfl,hC⟩:=hc;refine Zg5 ?_;refine tl_c rfl (o_call bd155 rfl (Size_c (s:=s))) ?_;refine Zgo ?_;refine Zx ?_;refine Zb ?_;refine tv (o_eqi rfl rfl) ?_;refine Zgv ?_;intro h;refine tc_seq ?_;refine tc_cut (λ ρ BB=>∃ (bb:Bool),(bb=decide (¬(64<=p/\ p%64=0/\ 128<=q/\ q%64=0/\ p<=(s.ls.length:Int)*64/\ q<=(s.ls.length:Int)*64-p)))/\ ρ 14= .bool bb/\ ρ 0=(pz d)/\ ρ 1= .int .i64 p/\ ρ 2= .int .i64 q/\ BB=R*Dev d s) ?_ ?_
  . skip
    refine Zbq ?_;refine Zc0 ?_;refine tl_bool (d:=17) rfl (λ h=> ?_) (λ h=> ?_)
    . have g17:(p<64):=(by first|exact of_decide_eq_true h|(have h2:=h;simp at h2;omega)|simpa using h);refine Zc2 ?_;refine Z4 ?_;refine Zp ?_;refine Z4 ?_;refine Zc2 ?_;refine Z4 ?_;refine Zf5 ?_;refine tk ?_;refine Ze2 ?_;exact ⟨_,by first|exact (decide_eq_true oqz).symm|exact (decide_eq_false oqz).symm|(rw [decide_eq_decide];omega),rfl,rfl,rfl,rfl,rfl⟩
    have g17:¬(p<64):=(by first|exact of_decide_eq_false h|(have h2:=h;simp at h2;omega)|simpa using h);refine Zdz ?_;refine Zf3 ?_;refine tl_bool (d:=22) rfl (λ h=> ?_) (λ h=> ?_)
    . have g22:(p<64∨p%64≠0):=(by first|exact of_decide_eq_true h|(have h2:=h;simp at h2;omega)|simpa using h);refine Zp ?_;refine Z4 ?_;refine Zc2 ?_;refine Z4 ?_;refine Zf5 ?_;refine tk ?_;refine Ze2 ?_;exact ⟨_,by first|exact (decide_eq_true oqz).symm|exact (decide_eq_false oqz).symm|(rw [decide_eq_decide];omega),rfl,rfl,rfl,rfl,rfl⟩
    have g22:¬(p<64∨p%64≠0):=(by first|exact of_decide_eq_false h|(have h2:=h;simp at h2;omega)|simpa using h);refine Zhl ?_;refine tl_bool (d:=26) rfl (λ h=> ?_) (λ h=> ?_)
    . have g26:(p<64∨p%64≠0∨q<128):=(by first|exact of_decide_eq_true h|(have h2:=h;simp at h2;omega)|simpa using h);refine Zc2 ?_;refine Z4 ?_;refine Zf5 ?_;refine tk ?_;refine Ze2 ?_;exact ⟨_,by first|exact (decide_eq_true oqz).symm|exact (decide_eq_false oqz).symm|(rw [decide_eq_decide];omega),rfl,rfl,rfl,rfl,rfl⟩
    have g26:¬(p<64∨p%64≠0∨q<128):=(by first|exact of_decide_eq_false h|(have h2:=h;simp at h2;omega)|simpa using h);refine Zdz ?_;refine Zf3 ?_;refine tl_bool (d:=31) rfl (λ h=> ?_) (λ h=> ?_)
    . have g31:(p<64∨p%64≠0∨q<128∨q%64≠0):=(by first|exact of_decide_eq_true h|(have h2:=h;simp at h2;omega)|simpa using h);refine Zf5 ?_;refine tk ?_;refine Ze2 ?_;exact ⟨_,by first|exact (decide_eq_true oqz).symm|exact (decide_eq_false oqz).symm|(rw [decide_eq_decide];omega),rfl,rfl,rfl,rfl,rfl⟩
    have g31:¬(p<64∨p%64≠0∨q<128∨q%64≠0):=(by first|exact of_decide_eq_false h|(have h2:=h;simp at h2;omega)|simpa using h);refine Zv ?_;refine Zdy ?_;refine tl_bool (d:=36) rfl (λ h=> ?_) (λ h=> ?_)
    . have g36:(p<64∨p%64≠0∨q<128∨q%64≠0∨(s.ls.length:Int)*64<p):=(by first|exact of_decide_eq_true h|(have h2:=h;simp at h2;omega)|simpa using h);refine Zgl ?_;refine Ze2 ?_;exact ⟨_,by first|exact (decide_eq_true oqz).symm|exact (decide_eq_false oqz).symm|(rw [decide_eq_decide];omega),rfl,rfl,rfl,rfl,rfl⟩
    have g36:¬(p<64∨p%64≠0∨q<128∨q%64≠0∨(s.ls.length:Int)*64<p):=(by first|exact of_decide_eq_false h|(have h2:=h;simp at h2;omega)|simpa using h);refine Zfb ?_;refine Zc7 ?_;refine Zfw ?_;exact ⟨_,by first|exact (decide_eq_true oqz).symm|exact (decide_eq_false oqz).symm|(rw [decide_eq_decide];omega),rfl,rfl,rfl,rfl,rfl⟩
  intro ρ B hI;obtain ⟨bb,hbb0,hE14,hE0,hE1,hE2,rfl⟩:=hI;refine q_then_n ?_;refine te 14 hE14 ?_;refine te 0 hE0 ?_;refine te 1 hE1 ?_;refine te 2 hE2 ?_;refine tc_cond rfl (λ h=> ?_) (sbq ?_)
  . exfalso;rw [h] at hbb0;have:=of_decide_eq_true hbb0.symm;omega
  intro h;refine Zf8 ?_;refine Zb ?_;refine Zv ?_;refine tv (o_bS (l:=[_,_,_]) (pv_cons wqz (pv_cons wqz (pv_cons wqz pv_nil))) underlying258 z258 (pl258 underlying258) rfl) ?_;refine tl_x rfl (o_box rfl rfl) ?_;rintro _ _ ⟨b47,rfl,rfl⟩;refine Zy ?_;exact ⟨_,_,res2 rfl rfl rfl,λ _ _ h=>h,b47,rfl,rfl⟩
theorem Zdj {p r:Prop}(k:r)(h:Kq r->p:=by intro k;refine tlm ?_;refine tv (o_nilCheck rfl) ?_;exact k.o):p:=h ⟨k⟩
theorem ready11_c {A R:SP}{C:SP->SP}{d:Nat}{s:DevS}(hc:Ct A (Dev d s) R C:=by exact cbqz){bl at_ sz:Nat}(hl:Has R bl (cl (lcs11 d at_ sz) 258):=by exact hbqz):
    Fn Tryz.prog 245 #[pz bl] A (λ r B=>r= .int .i64 (stE s)/\ A=B):=by
  refine fn_enterW func245 rfl ntmps245 (by simp) ?_;obtain ⟨rfl,hC⟩:=hc;refine Zs ?_;refine Zx ?_;refine Zb ?_;refine tv (o_eqp underlying160 rfl rfl) ?_;refine tlm ?_;refine tl_bool (d:=6) rfl dbq (sbq ?_);intro h;refine Zdj ?_;refine Ze3 ?_;refine tv (o_eqp underlying44 rfl rfl) ?_;refine tv (o_pick_f rfl wqz) ?_;refine Zgv ?_;intro h;refine Z1 ?_;refine Ze3 ?_;refine tl_c rfl (o_call bd262 rfl (Off_c (s:=s))) ?_;refine Zgo ?_;refine tc_cond rfl (λ h=> ?_) (λ h=> ?_)
  . have ho:s.off=true:=(by first|exact h|simpa using h);refine Zcv ?_;refine q_block_r (q_then_r ?_);exact ⟨.int .i64 5,_,res1 rfl rfl,λ _ _ h=>h,by unfold stE;rw [if_pos ho],rfl⟩
  have ho:s.off=false:=(by first|exact h|simpa using h);refine Zf8 ?_;refine Zcv ?_;exact ⟨.int .i64 0,_,res1 rfl rfl,λ _ _ h=>h,by unfold stE;rw [if_neg (by rw [ho];decide)],rfl⟩
end Go.Vl

namespace Go.Vl
open Go Go.Proofs Go.Proofs.Tryz
def xcl (l:List (Int×Int)):List Value:=l.flatMap xcs
theorem word_in {p:Nat}{s:DevS}(ho:s.off=false)(hp:p%8=0)(hi:p+8<=s.ls.length*64):wordP (p:Nat) s=(nm (((imgS s).drop p).take 8),0):=by
  unfold wordP loadP
  rw [if_neg (by rw [ho];decide),if_neg oqz,ho,if_neg (by rw [rdy_ok oqz oqz oqz];decide),Int.toNat_natCast]
theorem nm8_lt {l:List Nat}(h:∀x∈l,x<256):nm (l.take 8)<18446744073709551616:=by
  have h1:=nm_lt (l.take 8) λ x hx=>h x (List.mem_of_mem_take hx)
  exact Nat.lt_of_lt_of_le h1 (by calc 256^(l.take 8).length<=256^8:=Nat.pow_le_pow_right (by decide) (List.length_take_le _ _)
    _=18446744073709551616:=by decide)
attribute [local irreducible] crk crL crc Sl pt ro Dev imgS recS
end Go.Vl

namespace Go.Vl
open Go Go.Proofs Go.Proofs.Tryz
def phi (s:DevS):Nat:=s.arms.length+(if s.off=true then 1 else 0)
theorem chunk_at {q j:Nat}{I:List Nat}(h:j<64):(chunk q I)[j]? =I[q*64+j]? :=by
  unfold chunk;rw [List.getElem?_take,if_pos h,List.getElem?_drop]
def Same (I:List Nat)(s:DevS):Prop:=Poss (λ q c=>c=chunk q I) s
def recsB (I:List Nat)(l:List (Int×Int)):List Nat:=l.flatMap λ x=>recS x.1.toNat ((I.drop x.1.toNat).take x.2.toNat)
def Out (a b:Nat)(I J:List Nat):Prop:=∀i,¬(a<=i/\ i<b)->I[i]? =J[i]?
theorem Out.refl (a b:Nat)(I:List Nat):Out a b I I:=λ _ _=>rfl
theorem Out.trans {a b:Nat}{I J K:List Nat}(h1:Out a b I J)(h2:Out a b J K):Out a b I K:=λ i hi=>(h1 i hi).trans (h2 i hi)
attribute [local irreducible] crk crL crc Sl pt ro Dev imgS recS
theorem Zie {p r:Prop}(k:r)(h:Kq r->p:=by intro k;refine Zdd ?_;refine tv (o_eqs underlying67 rfl rfl) ?_;exact k.o):p:=h ⟨k⟩
theorem CloneBN_f {A:SP}{n c:Nat}:
    Fn Tryz.prog 290 #[.slice none n c] A (λ r B=>r= .slice none 0 0/\ A=B):=by
  refine fn_enterW func290 rfl ntmps290 (by simp) ?_;refine Zie ?_;refine nq ?_;refine tc_cond rfl (sbq ?_) dbq;intro h;refine Zf4 ?_;exact ⟨_,_,res1 rfl rfl,λ _ _ h=>h,rfl,rfl⟩
theorem CloneBS_f {A:SP}{n c:Nat}{p:Addr}{xs:List Value}(hr:Rs A (some p) xs)(hl:xs.length=n*1)(ho:xs.all oneC=true)(hs:n<=5864062014800):
    Fn Tryz.prog 290 #[.slice (some p) n c] A (λ r B=>∃a2 c2,r= .slice a2 n c2/\ n<=c2/\ B=A*Sl 1 (.slice a2 n c2) n xs):=by
  refine fn_enterW func290 rfl ntmps290 (by simp) ?_;refine Zie ?_;refine Zn ?_;intro h;refine Zdv ?_
  skip
  refine tc_reg ?_;refine tl_x rfl (o_buildSlice0 underlying67 sz5 rfl) ?_;rintro _ _ ⟨b5,rfl,rfl⟩;refine tl_pre (A':=A*Sl 1 (.slice (some ⟨b5,0,none⟩) 0 0) 0 []) (λ _ _ h=>sl_new h (Nat.le_refl _) (by simp) (by simp)) ?_;refine tlm ?_;refine tl_x rfl (o_apR underlying67 underlying67 sz5 by5 z5 rfl (by decide) (by decide) rfl rfl ctqz (hr.left) hl ho oqz (List.nil_append _)) ?_;rintro _ _ ⟨a7,c7,rfl,hc7,rfl⟩;refine Zbd ?_;exact ⟨.slice a7 (0+n) c7,A*Sl 1 (.slice a7 (0+n) c7) (0+n) xs,res1 rfl rfl,λ _ _ h=>h,a7,c7,by rw [Nat.zero_add],by rw [Nat.zero_add] at hc7;exact hc7,by rw [Nat.zero_add]⟩
theorem CloneB_c {A:SP}{a:Option Addr}{n c:Nat}{l:List Nat}(hr:Rs A a (bys l):=by exact rbqz)(hm:l.length=n:=by first|assumption|rfl)(hs:n<=5864062014800:=by omega):
    Fn Tryz.prog 290 #[.slice a n c] A (λ r B=>∃a2 c2,r= .slice a2 n c2/\ n<=c2/\ B=A*Sl 1 (.slice a2 n c2) n (bys l)):=by
  have hl:(bys l).length=n*1:=(by rw [bys_length,hm,Nat.mul_one])
  cases a with
  |none=>
    intro g w hs2
    have hx:bys l=[]:=by
      rcases hr.rd hs2 with h|⟨b,o,e,_⟩
      . exact h
      cases e
    have hn:n=0:=(by rw [hx] at hl;simp at hl;omega);subst hn;rw [hx]
    refine (CloneBN_f (n:=0) (c:=c) g w hs2).mono ?_;rintro e w' ⟨v,B,rfl,⟨rfl,rfl⟩,hB⟩;exact ⟨_,_,rfl,⟨none,0,rfl,Nat.le_refl _,rfl⟩,sl_nil hB⟩
  |some p=>exact CloneBS_f hr hl (bys_all l) hs
theorem Zd2 {p r:Prop}(k:r)(h:Kq r->p:=by intro k;refine ql_v rfl (o_move wqz) ?_;refine ql_v rfl (o_move wqz) ?_;exact k.o):p:=h ⟨k⟩
theorem Zgh {p r:Prop}(k:r)(h:Kq r->p:=by intro k;refine tc_skip ?_;refine Zc6 ?_;exact k.o):p:=h ⟨k⟩
theorem EqualB_c {A:SP}{a1 a2:Option Addr}{c1 c2 n m:Nat}{xs ys:List Nat}(h1:Rs A a1 (bys xs):=by exact rbqz)(h2:Rs A a2 (bys ys):=by exact rbqz)(hx:xs.length=n:=by first|assumption|rfl)(hy:ys.length=m:=by first|assumption|rfl)(hn:n<=4611686018427387904:=by omega):
    Fn Tryz.prog 291 #[.slice a1 n c1,.slice a2 m c2] A (λ r B=>r= .bool (decide (xs=ys))/\ A=B):=by
  refine fn_enterW func291 rfl ntmps291 (by simp) ?_;refine Zdd ?_;refine tv (o_len underlying67 rfl) ?_;refine Zdw ?_;refine Zbv ?_;refine tc_cond rfl (sbq ?_) (λ h=> ?_)
  . intro h;refine Zf4 ?_;have e:decide (xs=ys)=false:=decide_eq_false λ e=>by subst e;first|omega|(simp at h;omega)
    rw [e]
    exact ⟨.bool false,A,res1 rfl rfl,Dr.sat drqz,rfl,rfl⟩
  obtain rfl:n=m:=by first|omega|(simp at h;omega)
  refine Zc4 ?_;refine Zev ?_;refine tc_loop (λ kk ρ BB=>∃ (i:Nat),(i<=n)/\ (xs.take i=ys.take i)/\ kk=n-i/\ ρ 13=(vn i)/\ ρ 0= .slice a1 n c1/\ ρ 1= .slice a2 n c2/\ ρ 12=(vn n)/\ BB=A) (m:=n-(0)) ?_ ?_
  . exact ⟨0,by omega,rfl,rfl,rfl,rfl,rfl,rfl,rfl⟩
  intro k ρ B hI;obtain ⟨i,hp0,hp1,hkk1,hE13,hE0,hE1,hE12,hBA⟩:=hI;obtain rfl:=hBA.symm;refine te 13 hE13 ?_;refine te 0 hE0 ?_;refine te 1 hE1 ?_;refine te 12 hE12 ?_;refine Zcg ?_;refine tc_cond rfl (λ h=> ?_) (sbq ?_)
  . have hi:i<xs.length:=(by first|omega|(simp at h;omega));have hi2:i<ys.length:=(by omega);refine Ze9 ?_;refine Zeh ?_;refine tc_regq mo kqz ?_;refine Zd2 ?_;refine ql_v rfl (o_ixP1 underlying67 sz5 rfl rfl oqz (nn_rs h1 (by rw [bys_length];omega))) ?_;refine ql_v rfl (o_ldP p5 rfl h1 (bys_at hi)) ?_;refine Zd2 ?_;refine ql_v rfl (o_ixP1 underlying67 sz5 rfl rfl oqz (nn_rs h2 (by rw [bys_length];omega))) ?_;refine ql_v rfl (o_ldP p5 rfl h2 (bys_at hi2)) ?_;refine ql_v rfl (o_nei rfl rfl) ?_;refine Zd6 ?_;refine tc_cond rfl (λ h=> ?_) (λ h=> ?_)
    . have hne:xs[i]≠ys[i]:=λ e=>by rw [e] at h;simp at h
      refine Zcv ?_;refine q_block_r (q_then_r (q_then_r (q_block_r (q_then_r ?_))));have e:decide (xs=ys)=false:=decide_eq_false λ e=>by subst e;exact hne rfl
      rw [e]
      exact ⟨.bool false,A,res1 rfl rfl,Dr.sat drqz,rfl,rfl⟩
    have heq:((xs[i]:Nat):Int)=((ys[i]:Nat):Int):=(by first|omega|(simpa using h));refine Zgh ?_;exact ⟨_,by omega,i+1,by omega,take_succ_eq hp1 oqz oqz oqz,rfl,rfl,rfl,rfl,rfl,rfl⟩
  intro h;refine Zk ?_;refine Zcv ?_;have e:decide (xs=ys)=true:=decide_eq_true (take_all hp1 oqz oqz);rw [e]
  exact ⟨.bool true,A,res1 rfl rfl,Dr.sat drqz,rfl,rfl⟩
theorem field_c {A:SP}{a:Option Addr}{c m p w:Nat}{xs:List Nat}(q:Nat)(hq:q=p+w*8:=by omega)(hr:Rs A a (bys xs):=by exact rbqz)(hm:xs.length=m:=by first|assumption|rfl)(hb:∀x∈xs,x<256:=by assumption)(h8:q+8<=m:=by omega)(hl:m<=1099511627776:=by omega):
    Fn Tryz.prog 289 #[.slice a m c,vn p,vn w] A (λ r B=>r= .int .u64 ((nm ((xs.drop q).take 8):Nat):Int)/\ A=B):=by
  refine fn_enterW func289 rfl ntmps289 (by simp) ?_;subst hq;refine Zdr ?_;refine Zv ?_;refine tv (by first|exact o_mulI rfl rfl oqz|exact o_mul rfl rfl) ?_;refine tl_env (d:=13) (v:=(vn (w*8))) (by first|rfl|(show Value.int .i64 (IntKind.i64.wrap ((w*8:Nat):Int))=_;rw [wr_i64 oqz])) ?_;refine tv adqz ?_;refine tl_env (d:=14) (v:=(vn (p+w*8))) (by first|rfl|(show Value.int .i64 _=_;congr 1;omega)) ?_;refine tl_c rfl (o_call bd67 rfl (Take64_c (p:=p+w*8) (xs:=xs))) ?_;rintro _ _ ⟨rfl,rfl⟩;refine Zey ?_;refine Zbd ?_;exact ⟨_,A,res1 rfl rfl,Dr.sat drqz,rfl,rfl⟩
def rdW (o:Option ((Nat×List Nat)×Nat)):Nat:=match o with|none=>0|some x=>x.1.1
def rdO (o:Option ((Nat×List Nat)×Nat)):List Nat:=match o with|none=>[]|some x=>x.1.2
def rkT (o:Option ((Nat×List Nat)×Nat)):Nat:=match o with|none=>0|some x=>x.2
theorem read_short {n at_ sz p:Nat}{room:List Nat}(h:room.length<p+24):readS n at_ sz room p=none:=by unfold readS;rw [if_pos h]
theorem read_may {n at_ sz p:Nat}{room:List Nat}(h:mayX n at_ sz ((nm ((room.drop p).take 8):Nat),(nm ((room.drop (p+8)).take 8):Nat))=false):readS n at_ sz room p=none:=by
  unfold readS
  by_cases h0:room.length<p+24
  . rw [if_pos h0]
  rw [if_neg h0,if_pos h]
theorem read_need {n at_ sz p:Nat}{room:List Nat}(h:room.length<p+(24+up8 (nm ((room.drop (p+8)).take 8)))):readS n at_ sz room p=none:=by
  unfold readS
  by_cases h0:room.length<p+24
  . rw [if_pos h0]
  rw [if_neg h0]
  by_cases h1:mayX n at_ sz ((nm ((room.drop p).take 8):Nat),(nm ((room.drop (p+8)).take 8):Nat))=false
  . rw [if_pos h1]
  rw [if_neg h1,if_pos h]
theorem read_bad {n at_ sz p w m:Nat}{room:List Nat}(hw:nm ((room.drop p).take 8)=w)(hm:nm ((room.drop (p+8)).take 8)=m)(h:recS w ((room.drop (p+24)).take m)≠(room.drop p).take (24+up8 m)):readS n at_ sz room p=none:=by
  subst hw hm;unfold readS
  by_cases h0:room.length<p+24
  . rw [if_pos h0]
  rw [if_neg h0]
  by_cases h1:mayX n at_ sz ((nm ((room.drop p).take 8):Nat),(nm ((room.drop (p+8)).take 8):Nat))=false
  . rw [if_pos h1]
  rw [if_neg h1]
  by_cases h2:room.length<p+(24+up8 (nm ((room.drop (p+8)).take 8)))
  . rw [if_pos h2]
  rw [if_neg h2,if_pos h]
theorem read_good {n at_ sz p w m:Nat}{room:List Nat}(hw:nm ((room.drop p).take 8)=w)(hm:nm ((room.drop (p+8)).take 8)=m)(h1:¬room.length<p+24)(h2:mayX n at_ sz ((w:Int),(m:Int))=true)(h3:¬room.length<p+(24+up8 m))(h:recS w ((room.drop (p+24)).take m)=(room.drop p).take (24+up8 m)):readS n at_ sz room p=some ((w,(room.drop (p+24)).take m),24+up8 m):=by
  subst hw hm;unfold readS;rw [if_neg h1,if_neg (by rw [h2];decide),if_neg h3,if_neg (by rw [h];simp)]
theorem may_big {n at_ sz w m:Nat}(hn:n<=4194304)(h:4194304<w∨4194304<m):mayX n at_ sz ((w:Int),(m:Int))=false:=decide_eq_false (by show¬((1:Int)<=(m:Int)/\ (64:Int)<=(w:Int)/\ (w:Int)+(m:Int)<=(n:Int)/\ _);omega)
theorem may_zero1 {n at_ sz w m:Nat}(h:m<1):mayX n at_ sz ((w:Int),(m:Int))=false:=decide_eq_false (by show¬((1:Int)<=(m:Int)/\ (64:Int)<=(w:Int)/\ (w:Int)+(m:Int)<=(n:Int)/\ _);omega)
theorem need_one {m:Nat}(h:1<=m)(h2:m<=4194304):needS [(m:Int)]=(((24+up8 m:Nat):Int),0):=by
  have:=up8_le m
  unfold needS
  rw [needF_cons h]
  have e:rndS m=(((up8 m:Nat):Int),0):=(by unfold rndS;have:pad8 m<8:=(by unfold pad8;omega);rw [if_neg oqz]);rw [e,if_neg (by simp only [ne_eq,not_true,false_or];omega)]
  show ((0:Int)+24+((up8 m:Nat):Int),(0:Int))=_
  congr 1
theorem need_zero:needS [((0:Nat):Int)]=(0,2):=needF_bad (by decide)
theorem Zfh {p r:Prop}(k:r)(h:Kq r->p:=by intro k;refine tlm ?_;refine tv (o_subI rfl rfl oqz) ?_;exact k.o):p:=h ⟨k⟩
theorem Zg8 {p r:Prop}(k:r)(h:Kq r->p:=by intro k;refine sr ?_;refine tv (o_bS (l:=[_,_]) pv_nil underlying336 z336 (pl336 underlying336) rfl) ?_;refine tl_u rfl (o_stUN rfl upqz sz336 rfl rfl rfl (by first|decide|simp|omega) rfl) ?_;refine Zca ?_;exact k.o):p:=h ⟨k⟩
theorem Zg9 {p r:Prop}(k:r)(h:Kq r->p:=by intro k;refine tv (o_gtr rfl rfl) ?_;refine Zbx ?_;exact k.o):p:=h ⟨k⟩
theorem Zg4 {p r:Prop}(k:r)(h:Kq r->p:=by intro k;refine tlm ?_;refine tv (o_conv underlying141 underlying3 rfl) ?_;exact k.o):p:=h ⟨k⟩
theorem Zgd {p r:Prop}(k:r)(h:Kq r->p:=by intro k;refine tv (o_bS (l:=[_,_]) (pv_cons wqz (pv_cons wqz pv_nil)) underlying365 z365 (pl365 underlying365) rfl) ?_;refine tl_x rfl (o_alloc z365 rfl) ?_;exact k.o):p:=h ⟨k⟩
theorem Zdu {p r:Prop}(k:r)(h:Kq r->p:=by intro k;refine Zda ?_;refine tv (o_extract rfl rfl) ?_;exact k.o):p:=h ⟨k⟩
theorem Zhm {p r:Prop}(k:r)(h:Kq r->p:=by intro k;refine ⟨by repeat (first|with_reducible exact dr_refl|apply dr_keep|apply dr_drop), ?_⟩;refine th_one (i:=10) kqz ?_;exact k.o):p:=h ⟨k⟩
theorem Zgy {p r:Prop}(k:r)(h:Kq r->p:=by intro k;refine Ze ?_;refine sr ?_;exact k.o):p:=h ⟨k⟩
theorem Zhe {p r:Prop}(k:r)(h:Kq r->p:=by intro k;refine tlm ?_;refine tv (o_bS (l:=[_,_]) (pv_cons wqz (pv_cons wqz pv_nil)) underlying336 z336 (pl336 underlying336) rfl) ?_;exact k.o):p:=h ⟨k⟩
theorem read_c {A R:SP}{C:SP->SP}{d:Nat}{s:DevS}(hc:Ct A (Dev d s) R C:=by exact cbqz){bl at_ sz:Nat}(hl:Has R bl (cl (lcs11 d at_ sz) 258):=by exact hbqz)(hlw:LogW (s.ls.length*64) at_ sz:=by assumption){a:Option Addr}{c rm p:Nat}{room:List Nat}(hr:Rs R a (bys room):=by exact rbqz)(hm:room.length=rm:=by first|assumption|rfl)(hmc:rm<=c:=by omega)(hb:∀x∈room,x<256:=by assumption)(hrm:rm<=4194304:=by omega)(hp:p<=rm:=by omega):
    Fn Tryz.prog 248 #[pz bl,.slice a rm c,vn p] A (λ r B=>∃a2 c2,r= .tuple #[.agg #[.int .i64 ((rdW (readS (s.ls.length*64) at_ sz room p):Nat):Int),.slice a2 (rdO (readS (s.ls.length*64) at_ sz room p)).length c2],.int .i64 ((rkT (readS (s.ls.length*64) at_ sz room p):Nat):Int),.bool (readS (s.ls.length*64) at_ sz room p).isSome]/\ (rdO (readS (s.ls.length*64) at_ sz room p)).length<=c2/\ B=C (Dev d s)*Sl 1 (.slice a2 (rdO (readS (s.ls.length*64) at_ sz room p)).length c2) (rdO (readS (s.ls.length*64) at_ sz room p)).length (bys (rdO (readS (s.ls.length*64) at_ sz room p)))):=by
  refine fn_enterW func248 rfl ntmps248 (by simp) ?_;refine tc_have (λ _ _ h=>ct_wf2 hc h) λ hw=> ?_
  have htop:=hw.top;have hpos:=hw.pos;obtain ⟨rfl,hC⟩:=hc;rw [hC]
  have hlw9:=hlw;obtain ⟨w1,w2,w3,w4,w5⟩:=hlw9;obtain ⟨w,hwq⟩:∃w,(nm ((room.drop p).take 8))=w:=⟨_,rfl⟩;obtain ⟨m,hmq⟩:∃m,(nm ((room.drop (p+8)).take 8))=m:=⟨_,rfl⟩;have hw8:w<18446744073709551616:=hwq▸nm8_lt λ x hx=>hb x (List.mem_of_mem_drop hx)
  have hm8:m<18446744073709551616:=hmq▸nm8_lt λ x hx=>hb x (List.mem_of_mem_drop hx)
  refine sr ?_;refine tl_x rfl (o_alloc z336 rfl) ?_;rintro _ _ ⟨b6,rfl,rfl⟩;refine Zbo ?_;refine tv (o_len underlying67 rfl) ?_;refine Zfh ?_;refine Zu ?_;refine tc_cond rfl (λ h=> ?_) (λ h=> ?_)
  . have hsh:room.length<p+24:=(by first|omega|(simp at h;omega));refine Zg8 ?_;have e0:(readS (s.ls.length*64) at_ sz room p)=none:=(by exact read_short hsh);rw [e0]
    exact ⟨.tuple #[.agg #[.int .i64 0,.slice none 0 0],.int .i64 0,.bool false],R*Dev d s*Sl 1 (.slice none 0 0) 0 [],resA3 rfl (rv_cell a336 sz336 rfl hsqz (by show 2<=2;decide) rfl) (rv_tmp rfl) (rv_tmp rfl),λ _ _ h=>sl_nil (Dr.sat drqz _ _ h),none,0,rfl,Nat.le_refl _,rfl⟩
  have hsh:¬room.length<p+24:=(by first|omega|(simp at h;omega));refine Zeb ?_;refine tl_c rfl (o_call bd289 rfl (field_c (q:=p) (w:=0) (xs:=room))) ?_;rintro _ _ ⟨rfl,rfl⟩;refine tl_env (d:=23) (v:= .int .u64 (w:Nat)) (by show Value.int .u64 (((nm ((room.drop p).take 8)):Nat):Int)=_;rw [hwq]) ?_;refine Zv ?_;refine tl_c rfl (o_call bd289 rfl (field_c (q:=p+8) (w:=1) (xs:=room))) ?_;rintro _ _ ⟨rfl,rfl⟩;refine tl_env (d:=26) (v:= .int .u64 (m:Nat)) (by show Value.int .u64 (((nm ((room.drop (p+8)).take 8)):Nat):Int)=_;rw [hmq]) ?_;refine Zm ?_;refine Zb1 ?_;refine tc_cut (λ ρ BB=>∃ (bb:Bool),(bb=decide (4194304<w∨4194304<m))/\ ρ 32= .bool bb/\ ρ 0=(pz bl)/\ ρ 1= .slice a rm c/\ ρ 2=(vn p)/\ ρ 6=(pz b6)/\ ρ 9= .int .u64 (w:Nat)/\ ρ 10= .int .u64 (m:Nat)/\ BB=R*Dev d s*pt b6 (cl [.int .i64 0,.slice none 0 0] 336)) ?_ ?_
  . skip
    refine Zbq ?_;refine tv (o_gtr rfl rfl) ?_;refine tlm ?_;refine tl_bool (d:=29) rfl (λ h=> ?_) (λ h=> ?_)
    . have g29:(4194304<w):=(by first|exact of_decide_eq_true h|(have h2:=h;simp at h2;omega)|simpa using h);refine Zp ?_;refine Zbg ?_;exact ⟨_,by first|exact (decide_eq_true oqz).symm|exact (decide_eq_false oqz).symm|(rw [decide_eq_decide];omega),rfl,rfl,rfl,rfl,rfl,rfl,rfl,rfl⟩
    have g29:¬(4194304<w):=(by first|exact of_decide_eq_false h|(have h2:=h;simp at h2;omega)|simpa using h);refine tlm ?_;refine Zg9 ?_;exact ⟨_,by first|exact (decide_eq_true oqz).symm|exact (decide_eq_false oqz).symm|(rw [decide_eq_decide];omega),rfl,rfl,rfl,rfl,rfl,rfl,rfl,rfl⟩
  intro ρ B hI;obtain ⟨bb,hbb0,hE32,hE0,hE1,hE2,hE6,hE9,hE10,rfl⟩:=hI;refine q_then_n ?_;refine te 32 hE32 ?_;refine te 0 hE0 ?_;refine te 1 hE1 ?_;refine te 2 hE2 ?_;refine te 6 hE6 ?_;refine te 9 hE9 ?_;refine te 10 hE10 ?_;refine tc_cond rfl (λ h=> ?_) (λ h=> ?_)
  . have hbig:=of_decide_eq_true (show decide (4194304<w∨4194304<m)=true by rw [←hbb0];exact h);refine Zg8 ?_;have e0:(readS (s.ls.length*64) at_ sz room p)=none:=(by exact read_may (by rw [hwq,hmq];exact may_big oqz hbig));rw [e0]
    exact ⟨.tuple #[.agg #[.int .i64 0,.slice none 0 0],.int .i64 0,.bool false],R*Dev d s*Sl 1 (.slice none 0 0) 0 [],resA3 rfl (rv_cell a336 sz336 rfl hsqz (by show 2<=2;decide) rfl) (rv_tmp rfl) (rv_tmp rfl),λ _ _ h=>sl_nil (Dr.sat drqz _ _ h),none,0,rfl,Nat.le_refl _,rfl⟩
  have hbig:=of_decide_eq_false (show decide (4194304<w∨4194304<m)=false by rw [←hbb0];exact h);refine Zb9 ?_;refine tv (o_conv underlying141 underlying3 rfl) ?_;refine tl_env (d:=35) (v:=(vn w)) (by show Value.int .i64 (IntKind.i64.wrap _)=_;rw [wr_i64 oqz]) ?_;refine Zg4 ?_;refine tl_env (d:=37) (v:=(vn m)) (by show Value.int .i64 (IntKind.i64.wrap _)=_;rw [wr_i64 oqz]) ?_;refine Zgd ?_;rintro _ _ ⟨b11,rfl,rfl⟩;refine tl_u rfl (o_stUN (l':=xcs ((w:Int),(m:Int))) rfl upqz sz365 rfl rfl rfl (by show 2<=2;decide) rfl) ?_;refine Zhq ?_;obtain ⟨nd,en,hnd⟩:∃nd en,needS [(m:Int)]=(nd,en):=⟨_,_,rfl⟩;refine tc_reg ?_;refine Zcb ?_;refine tl_x rfl (o_buildSlice1 underlying34 sz3 z3 wqz rfl) ?_;rintro _ _ ⟨b42,rfl,rfl⟩;refine tl_c rfl (o_call bd268 rfl (Need_c (xs:=[(m:Int)]) (hr:=show Rs _ _ [Value.int .i64 (m:Int)] from rs_pt rfl) (hx:=by intro x hx;simp at hx;omega))) ?_;refine Zdu ?_;refine tl_env (d:=44) (v:= .int .i64 nd) (by show Value.int .i64 (needS [(m:Int)]).1=_;rw [hnd]) ?_;refine tv (o_extract rfl rfl) ?_;refine tl_env (d:=45) (v:= .int .i64 en) (by show Value.int .i64 (needS [(m:Int)]).2=_;rw [hnd]) ?_;refine Zm ?_;refine Zb1 ?_;refine tc_cut (λ ρ BB=>∃ (bb:Bool),(bb=decide (mayX (s.ls.length*64) at_ sz ((w:Int),(m:Int))=false∨room.length<p+(24+up8 m)))/\ ρ 61= .bool bb/\ ρ 1= .slice a rm c/\ ρ 2=(vn p)/\ ρ 6=(pz b6)/\ ρ 11=(pz b11)/\ ρ 12= .int .i64 nd/\ Dr BB (R*Dev d s*pt b6 (cl [.int .i64 0,.slice none 0 0] 336)*pt b11 (cl (xcs ((w:Int),(m:Int))) 365))) ?_ ?_
  . skip
    refine Zbq ?_;refine Zdf ?_;refine tl_bool (d:=48) rfl (λ h=> ?_) (λ h=> ?_)
    . have hen:en≠0:=(by first|exact of_decide_eq_true h|simpa using h);have hm0:m<1:=(by rcases Nat.lt_or_ge m 1 with h9|h9;exact h9;rw [need_one h9 oqz] at hnd;simp at hnd;omega);have hmy0:=may_zero1 (n:=s.ls.length*64) (at_:=at_) (sz:=sz) (w:=w) hm0;refine Zbk ?_;refine Zdx ?_;refine Zp ?_;refine Zbg ?_;exact ⟨_,by first|exact (decide_eq_true (.inl (by assumption))).symm|(rw [decide_eq_decide];simp only [hmy1,Bool.true_eq_false,false_or];omega),rfl,rfl,rfl,rfl,rfl,rfl,drqz⟩
    have hen:en=0:=(by first|(have h9:=of_decide_eq_false h;omega)|(simp at h;omega));have hm1:1<=m:=(by rcases Nat.lt_or_ge m 1 with h9|h9;have h8:m=0:=(by omega);subst h8;rw [need_zero] at hnd;simp at hnd;omega;exact h9);have hnd1:nd=((24+up8 m:Nat):Int):=(by rw [need_one hm1 oqz] at hnd;simp only [Prod.mk.injEq] at hnd;exact hnd.1.symm);have hxw:XW ((w:Int),(m:Int)):=⟨by show-9223372036854775808<=(w:Int)/\ (w:Int)<=9223372036854775807;omega,by show-9223372036854775808<=(m:Int)/\ (m:Int)<=9223372036854775807;omega⟩;refine tlm ?_;refine tv (o_loadN (vs:=xcs ((w:Int),(m:Int))) a365 sz365 rfl hsqz (by show 2<=2;decide) rfl) ?_;refine tl_c rfl (o_call bd267 rfl (may11_c (s:=s) (x:=((w:Int),(m:Int))) (hl:=by repeat (first|assumption|apply has_left)))) ?_;refine Zb7 ?_;refine Zbb ?_;refine tl_bool (d:=54) rfl (λ h=> ?_) (λ h=> ?_)
    . have hmy:mayX (s.ls.length*64) at_ sz ((w:Int),(m:Int))=false:=(by first|assumption|simpa using h);refine Zgi ?_;refine Zbg ?_;exact ⟨_,by first|exact (decide_eq_true (.inl (by assumption))).symm|(rw [decide_eq_decide];simp only [hmy1,Bool.true_eq_false,false_or];omega),rfl,rfl,rfl,rfl,rfl,rfl,drqz⟩
    have hmy1:mayX (s.ls.length*64) at_ sz ((w:Int),(m:Int))=true:=(by simpa using h);refine Zv ?_;refine tv (o_len underlying67 rfl) ?_;refine tlm ?_;refine Zc7 ?_;refine Zbx ?_;exact ⟨_,by first|exact (decide_eq_true (.inl (by assumption))).symm|(rw [decide_eq_decide];simp only [hmy1,Bool.true_eq_false,false_or];omega),rfl,rfl,rfl,rfl,rfl,rfl,drqz⟩
  intro ρ B hI;obtain ⟨bb,hbc0,hE61,hE1,hE2,hE6,hE11,hE12,hBA⟩:=hI;refine q_then_n ?_;refine tc_pre hBA.sat ?_;clear hBA;refine te 61 hE61 ?_;refine te 1 hE1 ?_;refine te 2 hE2 ?_;refine te 6 hE6 ?_;refine te 11 hE11 ?_;refine te 12 hE12 ?_;refine tc_cond rfl (λ h=> ?_) (λ h=> ?_)
  . have hor:=of_decide_eq_true (show decide (mayX (s.ls.length*64) at_ sz ((w:Int),(m:Int))=false∨room.length<p+(24+up8 m))=true by rw [←hbc0];exact h);refine Zg8 ?_;have e0:(readS (s.ls.length*64) at_ sz room p)=none:=(by rcases hor with h9|h9;exact read_may (by rw [hwq,hmq];exact h9);exact read_need (by rw [hmq];exact h9));rw [e0]
    exact ⟨.tuple #[.agg #[.int .i64 0,.slice none 0 0],.int .i64 0,.bool false],R*Dev d s*Sl 1 (.slice none 0 0) 0 [],resA3 rfl (rv_cell a336 sz336 rfl hsqz (by show 2<=2;decide) rfl) (rv_tmp rfl) (rv_tmp rfl),λ _ _ h=>sl_nil (Dr.sat drqz _ _ h),none,0,rfl,Nat.le_refl _,rfl⟩
  have hor:=of_decide_eq_false (show decide (mayX (s.ls.length*64) at_ sz ((w:Int),(m:Int))=false∨room.length<p+(24+up8 m))=false by rw [←hbc0];exact h);have hmy:mayX (s.ls.length*64) at_ sz ((w:Int),(m:Int))=true:=(by rcases hb9:mayX (s.ls.length*64) at_ sz ((w:Int),(m:Int)) with _|_;exact absurd (.inl hb9) hor;rfl);have hnr:¬room.length<p+(24+up8 m):=λ h9=>hor (.inr h9)
  have hm1:1<=m:=(by rcases Nat.lt_or_ge m 1 with h9|h9;rw [may_zero1 h9] at hmy;exact absurd hmy (by decide);exact h9);have hup:=up8_le m;rw [need_one hm1 oqz] at hnd
  obtain ⟨rfl,rfl⟩:((24+up8 m:Nat):Int)=nd/\ (0:Int)=en:=by simpa using hnd
  obtain ⟨old,hold⟩:∃old,((room.drop (p+24)).take m)=old:=⟨_,rfl⟩;have holl:old.length=m:=(by rw [←hold,List.length_take,List.length_drop];omega);have hob:∀x∈old,x<256:=λ x hx=>hb x (List.mem_of_mem_drop (List.mem_of_mem_take (hold.symm▸hx)))
  refine Zeb ?_;refine tv adqz ?_;refine tl_env (d:=65) (v:=(vn (p+24))) (by first|rfl|(show Value.int .i64 _=_;congr 1;omega)) ?_;refine tlm ?_;refine tv adqz ?_;refine tl_env (d:=67) (v:=(vn (p+24))) (by first|rfl|(show Value.int .i64 _=_;congr 1;omega)) ?_;refine Zcb ?_;refine tv adqz ?_;refine tl_env (d:=70) (v:=(vn (p+24+m))) (by first|rfl|(show Value.int .i64 _=_;congr 1;omega)) ?_;refine tv (o_slice (l:=p+24) (h:=p+24+m) underlying67 sz5 rfl (bnd_nat rfl) (bnd_nat rfl) oqz oqz) ?_;refine tl_env (d:=71) (v:= .slice (cutAddr a c (p+24) 1) m (c-(p+24))) (by show Value.slice (cutAddr a c (p+24) 1) (p+24+m-(p+24)) (c-(p+24))=_;rw [show p+24+m-(p+24)=m by omega]) ?_;refine tl_c rfl (o_call bd290 rfl (CloneB_c (l:=old) (n:=m) (hr:=by rw [←hold];exact (rs_mid (l:=p+24) (m:=m) hr oqz).left.left.left))) ?_;rintro _ _ ⟨a72,c72,rfl,hc72,rfl⟩;refine Za ?_;refine Zb1 ?_;refine tc_regh (S:=R*Dev d s*pt b6 (cl [.int .i64 0,.slice none 0 0] 336)*pt b11 (cl (xcs ((w:Int),(m:Int))) 365)*Sl 1 (.slice a72 m c72) m (bys old)) mo drqz ?_
  show TH _ _ _ _ _ 12 (Array.replicate 12 false) _ _
  refine tm 0 rfl kqz rfl (o_fieldAddr (o:=0) underlying365 rfl rfl sz3 rfl) ?_;refine tm 1 rfl kqz rfl (by first|exact o_load p3 rfl hsqz rfl|exact o_loadC p3 rfl (by assumption)) ?_;refine tm 2 rfl kqz rfl (o_move wqz) ?_;refine tm 4 rfl kqz rfl (o_move wqz) ?_;refine Zgs ?_;refine tm 7 rfl kqz rfl (o_move wqz) ?_;refine tm 8 rfl kqz rfl adqz ?_;refine th_env (d:=81) (v:= .int .i64 ((p+(24+up8 m):Nat):Int)) (by first|rfl|(show Value.int .i64 _=_;congr 1;omega)) ?_;refine tm 9 rfl kqz rfl (o_slice (l:=p) (h:=p+(24+up8 m)) underlying67 sz5 rfl (bnd_nat rfl) (bnd_nat rfl) oqz oqz) ?_;refine th_env (d:=82) (v:= .slice (cutAddr a c p 1) (24+up8 m) (c-p)) (by show Value.slice (cutAddr a c p 1) (p+(24+up8 m)-p) (c-p)=_;rw [show p+(24+up8 m)-p=24+up8 m by omega]) ?_;refine th_one (i:=3) kqz ?_;refine oh_c rfl rfl rfl (o_call bd269 rfl (record_c (p:=w) (m:=m) (xs:=old) (hm:=holl))) ?_;rintro _ _ ⟨a76,c76,rfl,hc76,rfl⟩;refine Zhm ?_;refine oh_c rfl rfl rfl (o_call bd291 rfl (EqualB_c (xs:=recS w old) (ys:=(room.drop p).take (24+up8 m)) (hx:=by rw [recS_len,holl]) (hy:=by rw [List.length_take,List.length_drop];omega) (h2:=(rs_mid (l:=p) (m:=24+up8 m) hr oqz).left.left.left.left.left))) ?_;refine Zcw ?_;refine tm 11 rfl kqz rfl (o_not rfl) ?_;refine Zbs ?_;refine tc_cond rfl (λ h=> ?_) (λ h=> ?_)
  . have hne:recS w old≠(room.drop p).take (24+up8 m):=λ e=>by rw [e] at h;simp at h
    refine Zg8 ?_;have e0:(readS (s.ls.length*64) at_ sz room p)=none:=(by exact read_bad hwq hmq (by rw [hold];exact hne));rw [e0]
    exact ⟨.tuple #[.agg #[.int .i64 0,.slice none 0 0],.int .i64 0,.bool false],R*Dev d s*Sl 1 (.slice none 0 0) 0 [],resA3 rfl (rv_cell a336 sz336 rfl hsqz (by show 2<=2;decide) rfl) (rv_tmp rfl) (rv_tmp rfl),λ _ _ h=>sl_nil (Dr.sat drqz _ _ h),none,0,rfl,Nat.le_refl _,rfl⟩
  have heq:recS w old=(room.drop p).take (24+up8 m):=(by simpa using h);refine Zgy ?_;refine Zbw ?_;refine Zhe ?_;refine tlm ?_;refine tl_u rfl (o_stUN (l':=[.int .i64 (w:Int),.slice a72 m c72]) rfl upqz sz336 rfl rfl rfl (by show 2<=2;decide) rfl) ?_;refine Zy ?_;have e0:(readS (s.ls.length*64) at_ sz room p)=some ((w,old),24+up8 m):=(by rw [←hold];exact read_good hwq hmq hsh hmy hnr (by rw [hold];exact heq));rw [e0]
  exact ⟨.tuple #[.agg #[.int .i64 (w:Int),.slice a72 m c72],vn (24+up8 m),.bool true],R*Dev d s*Sl 1 (.slice a72 m c72) m (bys old),resA3 rfl (rv_cell a336 sz336 rfl hsqz (by show 2<=2;decide) rfl) (rv_tmp rfl) (rv_tmp rfl),Dr.sat drqz,a72,c72,by show _=Value.tuple #[.agg #[.int .i64 (w:Int),.slice a72 old.length c72],_,_];rw [holl];rfl,by show old.length<=c72;rw [holl];exact hc72,by show _=R*Dev d s*Sl 1 (.slice a72 old.length c72) old.length (bys old);rw [holl]⟩
end Go.Vl

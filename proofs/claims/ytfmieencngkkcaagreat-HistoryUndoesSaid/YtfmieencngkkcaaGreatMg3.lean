/- What the row rests on, part 3: a calculus of assertions, walks of functions over it, and plain laws. Conditions: none. -/
import Derived.Deep.QuietTactic
import Derived.BigQuiet
import Derived.WalkKit
import Derived.Test.YtfmieencngkkcaaGreatProg
import Derived.OrdersHeld
import Derived.Shelf.SortM.SortNone
import Derived.Shelf.SortM.Plain
import Derived.Ground.SlgmProg
import Derived.Shelf.SlIterI.Nil
import Derived.Ground.GgzProg
import Derived.Maps.RangeRun
import Derived.Laws.BytesArg
import Derived.RangeFuncRecord
import Derived.TacticsIn
import Derived.Deep.Slices
import Derived.OpenShut
import Derived.ChangeArms
import Derived.SizedLaws
import Derived.ChangeSame
import Derived.Test.YtfmieencngkkcaaGreatRows
import Derived.Sort.QuietThIn
import Derived.ScopeJumps
import Derived.LaidEqlPtr
import Derived.MapKept
import Derived.Laws.Externs
import Derived.Lib.Builder
import Derived.Lib.UnsafeStr
import Derived.Laws.Strings
import Derived.Lib.ConvBytes
import Derived.Laws.AppendOwn
import Derived.Defers
import Derived.Test.YtfmieencngkkcaaGreatMg2
set_option linter.unusedVariables false
set_option linter.unusedSimpArgs false
set_option maxRecDepth 100000
set_option maxHeartbeats 4000000
namespace Go.Vl
open Go Go.Proofs Go.Proofs.Tryz
def kcl:List (Nat×List Nat)->List Value->List Value
  |x::l,v::vs=>(vn x.1)::v::kcl l vs
  |_,_=>[]
theorem kcl_snoc:∀{l:List (Nat×List Nat)} {vs:List Value} {x:Nat×List Nat} {v:Value},vs.length=l.length->kcl (l++[x]) (vs++[v])=kcl l vs++[vn x.1,v]
  |[],[],_,_,_=>rfl
  |y::l,u::vs,x,v,h=>by
    show _::u::kcl (l++[x]) (vs++[v])=_
    rw [kcl_snoc (by simpa using h)];rfl
theorem wr_u64 {j:Nat}(h:j<18446744073709551616):IntKind.u64.wrap (j:Int)=(j:Int):=by simp [IntKind.wrap,IntKind.bits,IntKind.signed];omega
theorem rd_some {o:Option ((Nat×List Nat)×Nat)}(h:o.isSome=true):o=some ((rdW o,rdO o),rkT o):=by
  cases o with
  |none=>cases h
  |some x=>rfl
def cat (D:List (Nat×List Nat))(x:List (Nat×List Nat)×Int):List (Nat×List Nat)×Int:=if x.2≠0 then ([],110) else (D++x.1,0)
theorem recs_none {n at_ sz k p:Nat}{room:List Nat}{D:List (Nat×List Nat)}(h:readS n at_ sz room p=none)(hk:0<k):cat D (recsF n at_ sz room k p)=([],110):=by
  obtain ⟨k,rfl⟩:∃j,k=j+1:=⟨k-1,by omega⟩
  unfold recsF;rw [h];rfl
theorem recs_some {n at_ sz k p:Nat}{room:List Nat}{D:List (Nat×List Nat)}{x:Nat×List Nat}{t:Nat}(h:readS n at_ sz room p=some (x,t))(hk:0<k):cat D (recsF n at_ sz room k p)=cat (D++[x]) (recsF n at_ sz room (k-1) (p+t)):=by
  obtain ⟨k,rfl⟩:∃j,k=j+1:=⟨k-1,by omega⟩;rw [show k+1-1=k by omega]
  have e:recsF n at_ sz room (k+1) p=if (recsF n at_ sz room k (p+t)).2≠0 then ([],110) else (x::(recsF n at_ sz room k (p+t)).1,0):=by
    rw [show recsF n at_ sz room (k+1) p=match readS n at_ sz room p with
      |none=>([],110)
      |some (x,t)=>if (recsF n at_ sz room k (p+t)).2≠0 then ([],110) else (x::(recsF n at_ sz room k (p+t)).1,0) from rfl,h]
  rw [e]
  unfold cat
  by_cases h2:(recsF n at_ sz room k (p+t)).2≠0
  . rw [if_pos h2,if_pos h2,if_pos (by decide)]
  rw [if_neg h2,if_neg h2,if_neg (by simp),List.append_assoc];rfl
theorem recs_err {n at_ sz:Nat}{room:List Nat}:∀{k p:Nat},(recsF n at_ sz room k p).2≠0->recsF n at_ sz room k p=([],110)
  |0,p,h=>absurd rfl h
  |k+1,p,h=>by
    have e:recsF n at_ sz room (k+1) p=match readS n at_ sz room p with
      |none=>([],110)
      |some (x,t)=>if (recsF n at_ sz room k (p+t)).2≠0 then ([],110) else (x::(recsF n at_ sz room k (p+t)).1,0):=rfl
    rw [e] at h ⊢
    cases hr:readS n at_ sz room p with
    |none=>rfl
    |some y=>
      rw [hr] at h
      simp only at h ⊢
      by_cases h2:(recsF n at_ sz room k (p+y.2)).2≠0
      . rw [if_pos h2]
      rw [if_neg h2] at h;exact absurd rfl h
theorem cat_nil {n at_ sz k p:Nat}{room:List Nat}:cat [] (recsF n at_ sz room k p)=recsF n at_ sz room k p:=by
  unfold cat
  by_cases h:(recsF n at_ sz room k p).2≠0
  . rw [if_pos h,recs_err h]
  rw [if_neg h];exact Prod.ext rfl (by simp only;omega)
theorem read_room {n at_ sz p:Nat}{room:List Nat}{x:Nat×List Nat}{t:Nat}(h:readS n at_ sz room p=some (x,t)):p+t<=room.length/\ 24<=t:=by
  unfold readS at h
  split at h;cases h
  split at h;cases h
  split at h;cases h
  rename_i h3
  split at h;cases h
  simp only [Option.some.injEq,Prod.mk.injEq] at h
  omega
attribute [local irreducible] crk crL crc Sl pt ro Dev imgS recS readS recsF rdW rdO rkT Parts
theorem Zcr {p r:Prop}(k:r)(h:Kq r->p:=by intro k;refine tv (o_eqi rfl rfl) ?_;refine nq ?_;exact k.o):p:=h ⟨k⟩
theorem Zbz {p r:Prop}(k:r)(h:Kq r->p:=by intro k;refine tm 0 rfl kqz rfl (o_move wqz) ?_;refine tm 1 rfl kqz rfl (o_nilCheck rfl) ?_;exact k.o):p:=h ⟨k⟩
theorem Zdi {p r:Prop}(k:r)(h:Kq r->p:=by intro k;refine tm 4 rfl kqz rfl (o_move wqz) ?_;refine tm 5 rfl kqz rfl (o_nilCheck rfl) ?_;exact k.o):p:=h ⟨k⟩
theorem Zfz {p r:Prop}(k:r)(h:Kq r->p:=by intro k;refine tm 16 rfl kqz rfl (o_extract rfl rfl) ?_;refine tm 17 rfl kqz rfl (o_extract rfl rfl) ?_;exact k.o):p:=h ⟨k⟩
theorem Zdc {p r:Prop}(k:r)(h:Kq r->p:=by intro k;refine Zbe ?_;refine tv (o_extract rfl rfl) ?_;exact k.o):p:=h ⟨k⟩
theorem Zh0 {p r:Prop}(k:r)(h:Kq r->p:=by intro k;refine tv (o_not rfl) ?_;refine nq ?_;exact k.o):p:=h ⟨k⟩
theorem Records_c {A R:SP}{C:SP->SP}{d:Nat}{s:DevS}(hc:Ct A (Dev d s) R C:=by exact cbqz){bl at_ sz:Nat}(hl:Has R bl (cl (lcs11 d at_ sz) 258):=by exact hbqz)(hlw:LogW (s.ls.length*64) at_ sz:=by assumption):
    Fn Tryz.prog 170 #[pz bl] A (λ r B=>∃a2 c2 vs,r= .tuple #[.slice a2 (recordsS at_ sz s).1.length c2,.int .i64 (recordsS at_ sz s).2]/\ (recordsS at_ sz s).1.length<=c2/\ vs.length=(recordsS at_ sz s).1.length/\ B=C (Dev d s)*Parts vs ((recordsS at_ sz s).1.map (·.2))*Sl 2 (.slice a2 (recordsS at_ sz s).1.length c2) (recordsS at_ sz s).1.length (kcl (recordsS at_ sz s).1 vs)):=by
  refine fn_enterW func170 rfl ntmps170 (by simp) ?_;refine tc_have (λ _ _ h=>ct_wf2 hc h) λ hw=> ?_
  have htop:=hw.top;have hpos:=hw.pos;obtain ⟨rfl,hC⟩:=hc;have hAC:∀g w,sat g w (R*Dev d s)->sat g w (C (Dev d s)):=λ g w h=>by rw [hC];exact h
  have hlw9:=hlw;obtain ⟨w1,w2,w3,w4,w5⟩:=hlw9;refine Zdh ?_;refine tl_c rfl (o_call bd245 rfl (ready11_c (s:=s) (hl:=hl))) ?_;refine Zd1 ?_;refine Zbv ?_;refine tc_cond rfl (sbq ?_) (λ h=> ?_)
  . intro h;refine Zg7 ?_;have ho:=stE_off h;have es:stE s=5:=(by unfold stE;rw [if_pos ho]);rw [es]
    have e0:recordsS at_ sz s=([],5):=(by unfold recordsS;rw [if_pos ho]);rw [e0]
    exact ⟨.tuple #[.slice none 0 0,.int .i64 (5)],C (Dev d s)*Parts [] []*Sl 2 (.slice none 0 0) 0 [],res2 rfl rfl rfl,λ _ _ h=>sl_nil (show sat _ _ (C (Dev d s)*Parts [] []) by rw [hC,show Parts [] []=emp by unfold Parts;rfl,star_emp];exact Dr.sat (A':=R*Dev d s) drqz _ _ h),none,0,[],rfl,Nat.le_refl _,rfl,rfl⟩
  have ho:s.off=false:=stE_on (by simpa using h);have hw2:=word_in (p:=at_) ho oqz oqz;obtain ⟨v,hv⟩:∃v,(wordP (at_:Nat) s).1=v:=⟨_,rfl⟩;have hvl:v<18446744073709551616:=(by rw [←hv,hw2];exact nm8_lt λ x hx=>img_lt x (List.mem_of_mem_drop hx));obtain ⟨room,hroom⟩:∃room,roomS at_ sz s=room:=⟨_,rfl⟩;have hil:=imgS_len hw;have hrl:room.length=sz-64:=(by rw [←hroom];unfold roomS;rw [List.length_take,List.length_drop,hil];omega);have hrb:∀x∈room,x<256:=λ x hx=>by rw [←hroom] at hx;exact img_sub x hx
  have hrec:recordsS at_ sz s=recsF (s.ls.length*64) at_ sz room v 0:=(by unfold recordsS;rw [if_neg (by rw [ho];decide),hv,hroom]);refine Zdv ?_;refine tc_regq mo kqz ?_;refine Zby ?_;refine ql_v rfl (o_fieldAddr (o:=0) underlying258 rfl rfl sz44 rfl) ?_;refine ql_v rfl (o_load p44 rfl haqz rfl) ?_;refine Zby ?_;refine Zez ?_;refine ql_c rfl (λ w=>exec_call bd246 rfl) (Word_c (s:=s) (p:=(at_:Nat))) ?_;refine ql_v rfl (o_move wqz) ?_;refine ql_v rfl (o_extract rfl rfl) ?_;refine ql_env (d:=28) (v:= .int .u64 (v:Nat)) (by show Value.int .u64 ((wordP (at_:Nat) s).1:Nat)=_;rw [hv]) ?_;refine ql_v rfl (o_extract rfl rfl) ?_;refine ql_env (d:=29) (v:= .int .i64 0) (by show Value.int .i64 (wordP (at_:Nat) s).2=_;rw [hw2]) ?_;refine ql_v rfl (o_assign wqz) ?_;refine Zej ?_;refine Zl ?_;refine Zz ?_;intro h;refine Zc4 ?_;refine Zcr ?_;refine tc_cond rfl (λ h=> ?_) (λ h=> ?_)
  . have hv0:v=0:=(by first|(have h9:=of_decide_eq_true h;omega)|(simp at h;omega));refine Zfa ?_;have e0:recordsS at_ sz s=([],0):=(by rw [hrec,hv0];unfold recsF;rfl);rw [e0]
    exact ⟨.tuple #[.slice none 0 0,.int .i64 (0)],C (Dev d s)*Parts [] []*Sl 2 (.slice none 0 0) 0 [],res2 rfl rfl rfl,λ _ _ h=>sl_nil (show sat _ _ (C (Dev d s)*Parts [] []) by rw [hC,show Parts [] []=emp by unfold Parts;rfl,star_emp];exact Dr.sat (A':=R*Dev d s) drqz _ _ h),none,0,[],rfl,Nat.le_refl _,rfl,rfl⟩
  have hv0:v≠0:=(by first|(have h9:=of_decide_eq_false h;omega)|(simp at h;omega));refine Zdv ?_;refine tc_regh (S:=R) mo drqz ?_
  show TH _ _ _ _ _ 20 (Array.replicate 20 false) _ _
  refine Zbz ?_;refine tm 2 rfl kqz rfl (o_fieldAddr (o:=0) underlying258 rfl rfl sz44 rfl) ?_;refine tm 3 rfl kqz rfl (o_load p44 rfl haqz rfl) ?_;refine Zdi ?_;refine tm 6 rfl kqz rfl (o_fieldAddr (o:=1) underlying258 rfl rfl sz3 rfl) ?_;refine tm 7 rfl kqz rfl (o_load p3 rfl haqz rfl) ?_;refine tm 8 rfl kqz rfl adqz ?_;refine th_env (d:=44) (v:=(vn (at_+64))) (by first|rfl|(show Value.int .i64 _=_;congr 1;omega)) ?_;refine tm 9 rfl kqz rfl (o_move wqz) ?_;refine tm 10 rfl kqz rfl (o_nilCheck rfl) ?_;refine tm 11 rfl kqz rfl (o_fieldAddr (o:=2) underlying258 rfl rfl sz3 rfl) ?_;refine tm 12 rfl kqz rfl (o_load p3 rfl haqz rfl) ?_;refine tm 13 rfl kqz rfl (o_subI rfl rfl oqz) ?_;refine th_env (d:=49) (v:=(vn (sz-64))) (by show Value.int .i64 ((sz:Int)-64)=_;congr 1;omega) ?_;refine th_one (i:=14) kqz ?_;refine oh_c rfl rfl rfl (o_call bd247 rfl (Load_c (s:=s) (p:=at_+64) (m:=sz-64))) ?_;rintro _ _ ⟨a50,c50,rfl,hc50,rfl⟩;refine ⟨by repeat (first|with_reducible exact dr_refl|apply dr_keep|apply dr_drop), ?_⟩;refine tm 15 rfl kqz rfl (o_move wqz) ?_;refine Zfz ?_;refine tm 18 rfl kqz rfl (o_assign wqz) ?_;refine tm 19 rfl kqz rfl (o_assign wqz) ?_;refine Zbs ?_;refine Zl ?_;refine Zz ?_;intro h;refine Ze ?_;refine Zs ?_;refine Zs ?_;refine Zx ?_;refine tc_pre (A':=R*Dev d s*Sl 1 (.slice a50 (sz-64) c50) (sz-64) (bys room)*Parts [] []*Sl 2 (.slice none 0 0) 0 []) (λ _ _ h=>sl_nil (show sat _ _ (R*Dev d s*Sl 1 (.slice a50 (sz-64) c50) (sz-64) (bys room)*Parts [] []) by rw [show Parts [] []=emp by unfold Parts;rfl,star_emp];rw [←hroom];exact h)) ?_;refine tc_loop (λ kk ρ BB=>∃ (j:Nat) (p:Nat) (n:Nat) (D:List (Nat×List Nat)) (vs:List Value) (a8:Option Addr) (c8:Nat),(cat D (recsF (s.ls.length*64) at_ sz room j p)=recordsS at_ sz s)/\ (p<=sz-64)/\ (D.length=n)/\ (vs.length=n)/\ (n<=c8)/\ (j<18446744073709551616)/\ (24*n<=p)/\ kk=j/\ ρ 5= .int .u64 (j:Nat)/\ ρ 8= .slice a8 n c8/\ ρ 9=(vn p)/\ ρ 0=(pz bl)/\ ρ 7= .slice a50 (sz-64) c50/\ Dr BB (R*Dev d s*Sl 1 (.slice a50 (sz-64) c50) (sz-64) (bys room)*Parts vs (D.map (·.2))*Sl 2 (.slice a8 n c8) n (kcl D vs))) (m:=(v)) ?_ ?_
  . exact ⟨v,0,0,[],[],none,0,by rw [hrec,cat_nil],by omega,rfl,rfl,by omega,hvl,by omega,rfl,rfl,rfl,rfl,rfl,rfl,drqz⟩
  intro k ρ B hI;obtain ⟨j,p,n,D,vs,a8,c8,hp0,hp1,hp2,hp3,hp4,hp5,hp6,hkk1,hE5,hE8,hE9,hE0,hE7,hBA⟩:=hI;refine tc_pre hBA.sat ?_;clear hBA;refine te 5 hE5 ?_;refine te 8 hE8 ?_;refine te 9 hE9 ?_;refine te 0 hE0 ?_;refine te 7 hE7 ?_;refine Zl ?_;refine Zd4 ?_;refine tc_cond rfl (λ h=> ?_) (λ h=> ?_)
  . have hj:0<j:=(by first|omega|(simp at h;omega));refine Ze9 ?_;refine Zv ?_;refine tl_c rfl (o_call bd248 rfl (read_c (s:=s) (p:=p) (room:=room))) ?_;rintro _ _ ⟨a64,c64,rfl,hc64,rfl⟩;refine Zdc ?_;refine tl_x rfl (o_alloc z336 rfl) ?_;rintro _ _ ⟨b10,rfl,rfl⟩;refine tl_u rfl (o_stUN (l':=[.int .i64 ((rdW (readS (s.ls.length*64) at_ sz room p):Nat):Int),(.slice a64 (rdO (readS (s.ls.length*64) at_ sz room p)).length c64)]) rfl upqz sz336 rfl rfl rfl (by show 2<=2;decide) rfl) ?_;refine Zbo ?_;refine Zh0 ?_;refine tc_cond rfl (λ h=> ?_) (λ h=> ?_)
    . have hrd:(readS (s.ls.length*64) at_ sz room p)=none:=(by rcases hq9:(readS (s.ls.length*64) at_ sz room p) with _|x;rfl;rw [hq9] at h;simp at h);refine sr ?_;refine Zct ?_;have e0:recordsS at_ sz s=([],110):=(by rw [←hp0,recs_none hrd hj]);rw [e0]
      exact ⟨.tuple #[.slice none 0 0,.int .i64 (110)],C (Dev d s)*Parts [] []*Sl 2 (.slice none 0 0) 0 [],res2 rfl rfl rfl,λ _ _ h=>sl_nil (show sat _ _ (C (Dev d s)*Parts [] []) by rw [hC,show Parts [] []=emp by unfold Parts;rfl,star_emp];exact Dr.sat (A':=R*Dev d s) drqz _ _ h),none,0,[],rfl,Nat.le_refl _,rfl,rfl⟩
    have hrd:=rd_some (o:=(readS (s.ls.length*64) at_ sz room p)) (by simpa using h);have hrm:=read_room hrd;refine Zb9 ?_;refine tv (o_loadN (vs:=[.int .i64 ((rdW (readS (s.ls.length*64) at_ sz room p):Nat):Int),(.slice a64 (rdO (readS (s.ls.length*64) at_ sz room p)).length c64)]) a336 sz336 rfl hsqz (by show 2<=2;decide) rfl) ?_;refine tl_x rfl (o_buildSliceK (k:=2) (l:=[.int .i64 ((rdW (readS (s.ls.length*64) at_ sz room p):Nat):Int),(.slice a64 (rdO (readS (s.ls.length*64) at_ sz room p)).length c64)]) underlying259 sz336 z336 rfl rfl (by decide)) ?_;rintro _ _ ⟨b72,rfl,rfl⟩;refine tl_x rfl (o_apB underlying259 underlying259 sz336 by336 z336 rfl (by decide) (by decide) rfl rfl rfl ctqz rfl rfl oqz (show _=kcl (D++[(rdW (readS (s.ls.length*64) at_ sz room p),rdO (readS (s.ls.length*64) at_ sz room p))]) (vs++[(.slice a64 (rdO (readS (s.ls.length*64) at_ sz room p)).length c64)]) by rw [kcl_snoc oqz])) ?_;rintro _ _ ⟨a73,c73,rfl,hc73,rfl⟩;have hps:Parts (vs++[(.slice a64 (rdO (readS (s.ls.length*64) at_ sz room p)).length c64)]) ((D++[(rdW (readS (s.ls.length*64) at_ sz room p),rdO (readS (s.ls.length*64) at_ sz room p))]).map (·.2))=Parts vs (D.map (·.2))*Sl 1 (.slice a64 (rdO (readS (s.ls.length*64) at_ sz room p)).length c64) (rdO (readS (s.ls.length*64) at_ sz room p)).length (bys (rdO (readS (s.ls.length*64) at_ sz room p))):=(by rw [List.map_append];exact parts_snoc (by rw [List.length_map];omega));refine tl_eq (show _=R*Dev d s*Sl 1 (.slice a50 (sz-64) c50) (sz-64) (bys room)*Parts (vs++[(.slice a64 (rdO (readS (s.ls.length*64) at_ sz room p)).length c64)]) ((D++[(rdW (readS (s.ls.length*64) at_ sz room p),rdO (readS (s.ls.length*64) at_ sz room p))]).map (·.2))*Sl 2 (.slice a73 (n+1) c73) (n+1) (kcl (D++[(rdW (readS (s.ls.length*64) at_ sz room p),rdO (readS (s.ls.length*64) at_ sz room p))]) (vs++[(.slice a64 (rdO (readS (s.ls.length*64) at_ sz room p)).length c64)]))*pt b10 (cl ([.int .i64 ((rdW (readS (s.ls.length*64) at_ sz room p):Nat):Int),(.slice a64 (rdO (readS (s.ls.length*64) at_ sz room p)).length c64)]:List Value) 336) by rw [hps];ac_rfl) ?_;refine Zhu ?_;refine tv adqz ?_;refine tl_env (d:=76) (v:= .int .i64 ((p+rkT (readS (s.ls.length*64) at_ sz room p):Nat):Int)) (by first|rfl|(show Value.int .i64 _=_;congr 1;omega)) ?_;refine Zg6 ?_;refine tlm ?_;refine tv (o_sub rfl rfl) ?_;refine tl_env (d:=59) (v:= .int .u64 ((j-1:Nat):Int)) (by show Value.int .u64 (IntKind.u64.wrap ((j:Int)-1))=_;rw [show (j:Int)-1=((j-1:Nat):Int) by omega,wr_u64 oqz]) ?_;refine Za ?_;exact ⟨_,by omega,j-1,_,n+1,D++[(rdW (readS (s.ls.length*64) at_ sz room p),rdO (readS (s.ls.length*64) at_ sz room p))],vs++[(.slice a64 (rdO (readS (s.ls.length*64) at_ sz room p)).length c64)],a73,c73,by rw [←recs_some hrd hj];exact hp0,by omega,by rw [List.length_append,hp2];rfl,by rw [List.length_append,hp3];rfl,hc73,by omega,by omega,rfl,rfl,rfl,rfl,rfl,rfl,drqz⟩
  obtain rfl:j=0:=by first|omega|(simp at h;omega)
  refine Zgj ?_;have e0:recordsS at_ sz s=(D,0):=(by rw [←hp0];unfold recsF cat;rw [if_neg (by simp),List.append_nil]);rw [e0]
  exact ⟨.tuple #[.slice a8 n c8,.int .i64 0],R*Dev d s*Parts vs (D.map (·.2))*Sl 2 (.slice a8 n c8) n (kcl D vs),res2 rfl rfl rfl,Dr.sat drqz,a8,c8,vs,by rw [hp2],by rw [hp2];exact hp4,by rw [hp3];exact hp2.symm,by rw [hC];simp only [];rw [hp2]⟩
end Go.Vl

namespace Go.Vl
open Go Go.Proofs Go.Proofs.Tryz
namespace Rg
section
variable {P:Program} {n:Nat} {ops:Array Oper} {A:SP} {ρ:Env} {o:Oper} {rest:List Oper} {Q:Post}
def QL (P:Program)(n:Nat)(ops:Array Oper)(A:SP)(K:Env->Prop)(l:List Oper)(ρ:Env):Prop:=
  ∀g a,Agr n ρ a->wpQuietIn (Fc ⟨none⟩) 0 P ops (λ w=>sat g w A) (λ a'=>∃ρ',Agr n ρ' a'/\ K ρ') l a
theorem ql_nil {K:Env->Prop}(h:K ρ):QL P n ops A K [] ρ:=λ g a ha=>wpQuietIn_nil ⟨ρ,ha,h⟩
theorem ql_skip {K:Env->Prop}(hw:wantE n ops ρ o=false)(k:QL P n ops A K rest (put n ρ o.dst undef)):QL P n ops A K (o::rest) ρ:=λ g a ha=>by
  unfold wpQuietIn
  rw [want_eq ha,hw]
  exact ⟨λ _ _ _ _=>trivial,k g _ (ha.put _ _)⟩
theorem ql_v {K:Env->Prop}{v:Value}(hw:wantE n ops ρ o=true)(h:OpV P n ρ A o v)(k:QL P n ops A K rest (put n ρ o.dst v)):QL P n ops A K (o::rest) ρ:=λ g a ha=>by
  unfold wpQuietIn
  rw [want_eq ha,hw,if_pos rfl]
  refine ⟨λ _ _ _ _=>trivial,v,λ w hs=> ?_,k g _ (ha.put _ _)⟩
  unfold Oper.quietAtIn
  rw [ha.eval,h g w hs]
  exact ⟨rfl,rfl⟩
theorem ql_env {K:Env->Prop}{l:List Oper}{d:Nat}{v:Value}(h:ρ d=v)(k:QL P n ops A K l (upd ρ d v)):QL P n ops A K l ρ:=by
  rw [←env_set h] at k;exact k
theorem ql_bool {K:Env->Prop}{l:List Oper}{d:Nat}{b:Bool}(hv:ρ d= .bool b)(ht:b=true->QL P n ops A K l (upd ρ d (.bool true)))(hf:b=false->QL P n ops A K l (upd ρ d (.bool false))):QL P n ops A K l ρ:=by
  cases b with
  |true=>exact ql_env hv (ht rfl)
  |false=>exact ql_env hv (hf rfl)
theorem tc_regq {id:Nat}{l:List Oper}(hm:P.follows .mixedOrders=true)(hB:Region.lexB .any l.toArray=true)(h:QL P n l.toArray A (λ ρ'=>Q .normal ρ' A) l ρ):
    @TC ⟨none⟩ P n (.region id l.toArray true) Q ρ A:=λ g a w ha hs=>by
  refine wpIn_region_quiet (C:=λ w=>sat g w A) rfl hm hB (hs.draw rfl rfl rfl rfl) ?_;have hh:=h g a ha;have he:l.toArray.toList=l:=(by simp);rw [he]
  have mono:∀ (l':List Oper) (a:Act),wpQuietIn (Fc ⟨none⟩) 0 P l.toArray (λ w=>sat g w A) (λ a'=>∃ρ',Agr n ρ' a'/\ Q .normal ρ' A) l' a→
      wpQuietIn (Fc ⟨none⟩) 0 P l.toArray (λ w=>sat g w A) (λ a'=>∀w',sat g w' A->lift g n Q .normal a' w') l' a:=by
    intro l'
    induction l' with
    |nil=>intro a ⟨ρ',h1,h2⟩ w' hw';exact ⟨rfl,ρ',A,h1,hw',h2⟩
    |cons o l' ih=>
      intro a h
      unfold wpQuietIn at h ⊢
      refine ⟨h.1, ?_⟩;have h2:=h.2
      split
      . rename_i hw
        rw [if_pos hw] at h2
        exact Oper.quietIn_mono (λ a=>ih a) h2
      rename_i hw
      rw [if_neg hw] at h2
      exact ih _ h2
  exact mono l a hh
end
end Rg
namespace Rg
section
variable {P:Program} {m:Nat} {ops:Array Oper} {μ:Rm}
def nodB (l:List Oper):Bool:=l.all λ o=>match o.op with| .defer _=>false|_=>true
theorem nod_of {l:List Oper}(h:nodB l=true):∀ (i:Nat) (o:Oper),l.toArray[i]? =some o->∀c,o.op≠ .defer c:=λ i o hi c e=>by
  have h1:=List.all_eq_true.1 h o (List.mem_of_getElem? (by simpa using hi))
  simp [e] at h1
theorem upon_tr {o:Oper}{a:Act}{K:Act->World->Prop}{Q:Exit->Act->World->Prop}{r:Result Next}:Oper.uponIn (Fc ⟨none⟩) m P o a K Q r=Oper.uponIn (Fc μ) m P o a K Q r:=by
  cases r with
  |ok x w=>cases x<;>rfl
  |halt x w=>cases x<;>rfl
theorem op_tr {i:Nat}{K:Act->World->Prop}{Q:Exit->Act->World->Prop}{a:Act}{w:World}(hnd:∀ (i:Nat) (o:Oper),ops[i]? =some o->∀c,o.op≠ .defer c)(h:wpOpIn (Fc ⟨none⟩) m P ops Q i K a w):wpOpIn (Fc μ) m P ops Q i K a w:=by
  unfold wpOpIn at*
  cases hi:ops[i]? with
  |none=>simpa [hi] using h
  |some o=>
    simp only [hi] at h ⊢
    split
    . rename_i hw
      simp only [hw,if_true] at h
      unfold Oper.wpIn at*
      rw [Oper.semAt_eq _ _ _ (hnd i o hi)] at h ⊢
      rw [←upon_tr]
      exact h
    rename_i hw
    simp only [hw] at h
    exact h
theorem any_tr {Q:Exit->Act->World->Prop}(hnd:∀ (i:Nat) (o:Oper),ops[i]? =some o->∀c,o.op≠ .defer c):∀ (fuel:Nat) (listed:Array Bool) (a:Act) (w:World),wpAnyIn (Fc ⟨none⟩) m P .any ops Q fuel listed a w->wpAnyIn (Fc μ) m P .any ops Q fuel listed a w
  |0,_,_,_,h=>h
  |fuel+1,_,_,_,h=>⟨h.1,λ i hi=>op_tr hnd (wpOpIn_mono (λ a w=>any_tr hnd fuel _ a w) (h.2 i hi))⟩
theorem tc_regt {n:Nat}{Q:Post}{ρ:Env}{A:SP}{id:Nat}{l:List Oper}(hm:P.follows .mixedOrders=true)(hd:nodB l=true)
    (h:∀g a w,Agr n ρ a->sat g w A->wpAnyIn (Fc ⟨none⟩) 0 P .any l.toArray (lift g n Q) l.length (Array.replicate l.length false) a w): @TC μ P n (.region id l.toArray true) Q ρ A:=λ g a w ha hs=>
  wpIn_region_any hm (by
    have h1:=h g a { w with drawn:=w.drawn+1 } ha (hs.draw rfl rfl rfl rfl);have h2:=any_tr (μ:=μ) (nod_of hd) _ _ _ _ h1
    simpa using h2)
end
end Rg
namespace Rg
section
variable {P:Program} {n:Nat} {ops:Array Oper} {A S:SP} {ρ:Env} {o:Oper} {Q:Post}
def notCall (o:Oper):Bool:=match o.op with| .call _=>false|_=>true
theorem about_none {o:Oper}(h:notCall o=true)(w:World)(e:Operand->Value):o.about P w e=none:=by
  unfold notCall at h
  unfold Oper.about
  cases ho:o.op<;>first|rfl|(simp [ho] at h)
def TH (P:Program)(n:Nat)(ops:Array Oper)(Q:Post)(S:SP)(fuel:Nat)(listed:Array Bool)(ρ:Env)(A:SP):Prop:=
  ∀g a w,Agr n ρ a->sat g w A->wpAnyIn (Fc ⟨none⟩) 0 P .any ops (lift g n Q) fuel listed a w
theorem tc_regh {μ:Rm}{id:Nat}{l:List Oper}(hm:P.follows .mixedOrders=true)(hd:Dr A S)(h:TH P n l.toArray Q S l.length (Array.replicate l.length false) ρ A)(hn:nodB l=true:=by kernel_rfl): @TC μ P n (.region id l.toArray true) Q ρ A:=
  tc_regt hm hn h
theorem th_done {fuel:Nat}{listed:Array Bool}(hr:Region.ready .any ops listed=[])(h:Q .normal ρ A):TH P n ops Q S fuel listed ρ A:=λ g a w ha hs=>
  wpAnyIn_done hr ⟨rfl,ρ,A,ha,hs,h⟩ fuel
theorem th_take {fuel i:Nat}{listed listed':Array Bool}{v:Value}(hi:ops[i]? =some o)(hs':Region.noSelect ops=true)(hf:Region.free .any ops listed i=true)(hr:(Region.ready .any ops listed).contains i=true)
    (hl:listed.setIfInBounds i true=listed') (hw:wantE n ops ρ o=true) (hv:OpV P n ρ emp o v) (k:TH P n ops Q S fuel listed' (put n ρ o.dst v) A) (hc:notCall o=true:=by rfl):TH P n ops Q S (fuel+1) listed ρ A:=λ g a w ha hs=>
  wpAnyIn_take rfl hi hs' hf hr (λ c a w h=>absurd h.1 (by simp [okE])) ⟨.inl ⟨by rw [want_eq ha,hw],λ w'=>by
    rw [ha.eval]
    exact hv ⟨w'.os,w'.tape,w'.output⟩ w' ⟨rfl,rfl,rfl,_,rfl,λ _ _ _ h=>by cases h⟩⟩,λ w'=>about_none hc w' _⟩ (by rw [hl];exact k g _ w (ha.put _ _) hs)
def OH (P:Program)(n:Nat)(ops:Array Oper)(Q:Post)(S:SP)(fuel i:Nat)(listed:Array Bool)(ρ:Env)(A:SP):Prop:=
  ∀g a w,Agr n ρ a->sat g w A->wpOpIn (Fc ⟨none⟩) 0 P ops (lift g n Q) i (wpAnyIn (Fc ⟨none⟩) 0 P .any ops (lift g n Q) fuel (listed.setIfInBounds i true)) a w
theorem th_all {fuel:Nat}{listed:Array Bool}{rs:List Nat}(hr:Region.ready .any ops listed=rs)(hne:rs≠[])(h:∀i∈rs,OH P n ops Q S fuel i listed ρ A):TH P n ops Q S (fuel+1) listed ρ A:=λ g a w ha hs=>
  wpAnyIn_all hr hne λ i hi=>h i hi g a w ha hs
theorem th_one {fuel i:Nat}{listed:Array Bool}(hr:Region.ready .any ops listed=[i])(h:OH P n ops Q S fuel i listed ρ A):TH P n ops Q S (fuel+1) listed ρ A:=th_all hr (by simp) (by simpa using h)
theorem th_two {fuel i j:Nat}{listed:Array Bool}(hr:Region.ready .any ops listed=[i,j])(h:OH P n ops Q S fuel i listed ρ A)(h':OH P n ops Q S fuel j listed ρ A):TH P n ops Q S (fuel+1) listed ρ A:=
  th_all hr (by simp) (by simpa using ⟨h,h'⟩)
section
variable {fuel i:Nat} {listed listed':Array Bool}
theorem oh_v {v:Value}(hi:ops[i]? =some o)(hl:listed.setIfInBounds i true=listed')(hw:wantE n ops ρ o=true)(h:OpV P n ρ A o v)(k:TH P n ops Q S fuel listed' (put n ρ o.dst v) A):OH P n ops Q S fuel i listed ρ A:=λ g a w ha hs=>by
  subst hl
  unfold wpOpIn
  simp only [hi,want_eq ha,hw,if_true]
  refine ⟨λ _ _=>trivial, ?_⟩;rw [ha.eval,sem_eq (h g w hs) (by simp)]
  exact k g _ w (ha.put _ _) hs
theorem oh_x {R:Value->SP->Prop}(hi:ops[i]? =some o)(hl:listed.setIfInBounds i true=listed')(hw:wantE n ops ρ o=true)(h:OpX P n ρ A o R)(k:∀v B,R v B->Dr B S/\ TH P n ops Q S fuel listed' (put n ρ o.dst v) B):OH P n ops Q S fuel i listed ρ A:=λ g a w ha hs=>by
  subst hl
  unfold wpOpIn
  simp only [hi,want_eq ha,hw,if_true]
  refine ⟨λ _ _=>trivial, ?_⟩;obtain ⟨v,w',B,hr,hb,hR⟩:=h g w hs;rw [ha.eval,sem_eq hr (by simp)]
  exact (k v B hR).2 g _ w' (ha.put _ _) hb
theorem oh_c {R:Value->SP->Prop}(hi:ops[i]? =some o)(hl:listed.setIfInBounds i true=listed')(hw:wantE n ops ρ o=true)(h:OpC P n ρ A o R)(k:∀v B,R v B->Dr B S/\ TH P n ops Q S fuel listed' (put n ρ o.dst v) B):OH P n ops Q S fuel i listed ρ A:=λ g a w ha hs=>by
  subst hl
  unfold wpOpIn
  simp only [hi,want_eq ha,hw,if_true]
  refine ⟨λ _ _=>trivial, ?_⟩;obtain ⟨f,args,w',hr,hc⟩:=h g w hs;rw [ha.eval,sem_eq hr (by simp)]
  refine ⟨λ h=>(by cases h), ?_⟩;have hc':CallsIn Fence.wide (0-1) P f args w' λ e w''=>∃v B,e= .returned v/\ R v B/\ sat g w'' B:=callsIn_wide.2 hc
  refine CallsIn.mono (show CallsIn (Fc ⟨none⟩) (0-1) P f args w' _ from hc') λ e w'' ⟨v,B,he,hR,hb⟩=> ?_
  subst he;exact (k v B hR).2 g _ w'' (ha.put _ _) hb
theorem oh_u {B:SP}(hi:ops[i]? =some o)(hl:listed.setIfInBounds i true=listed')(hw:wantE n ops ρ o=true)(h:OpU P n ρ A o B)(hd:Dr B S)(k:TH P n ops Q S fuel listed' (put n ρ o.dst undef) B):OH P n ops Q S fuel i listed ρ A:=λ g a w ha hs=>by
  subst hl
  unfold wpOpIn
  simp only [hi,want_eq ha,hw,if_true]
  refine ⟨λ _ _=>trivial, ?_⟩;obtain ⟨w',hr,hb⟩:=h g w hs;rw [ha.eval,sem_eq hr (by simp)]
  exact k g _ w' (ha.put _ _) hb
end
theorem th_env {fuel:Nat}{listed:Array Bool}{d:Nat}{v:Value}(h:ρ d=v)(k:TH P n ops Q S fuel listed (upd ρ d v) A):TH P n ops Q S fuel listed ρ A:=by
  rw [←env_set h] at k;exact k
end
end Rg
def rvl (L:List (Nat×List Nat))(vs:List Value)(k:Nat):Value:= .agg #[.int .i64 ((L.getD k (0,[])).1:Nat),vs.getD k (.slice none 0 0)]
section
variable {at_ sz:Nat} {s s1 s2 s3:DevS} {L:List (Nat×List Nat)} {e:Int}
end
def sumL (L:List (Nat×List Nat)):Nat:=(L.map λ x=>x.2.length).sum
def RecOk (n at_ sz:Nat)(x:Nat×List Nat):Prop:=mayX n at_ sz ((x.1:Int),((x.2.length:Nat):Int))=true/\∀b∈x.2,b<256
theorem Records_w {A R:SP}{C:SP->SP}{d:Nat}{s:DevS}(hc:Ct A (Dev d s) R C:=by exact cbqz){bl at_ sz:Nat}(hl:Has R bl (cl (lcs11 d at_ sz) 258):=by exact hbqz)(hlw:LogW (s.ls.length*64) at_ sz:=by assumption){L:List (Nat×List Nat)}{e:Int}(hX:recordsS at_ sz s=(L,e)):Fn Tryz.prog 170 #[pz bl] A (λ r B=>∃a2 c2 vs,r= .tuple #[.slice a2 L.length c2,.int .i64 e]/\ L.length<=c2/\ vs.length=L.length/\ B=C (Dev d s)*Parts vs (L.map (·.2))*Sl 2 (.slice a2 L.length c2) L.length (kcl L vs)):=by
  have h:=Records_c hc hl hlw;rw [hX] at h
  exact h
def oldsL (I:List Nat)(l:List (Int×Int)):List (Nat×List Nat):=l.map λ x=>(x.1.toNat,(I.drop x.1.toNat).take x.2.toNat)
theorem records_none {at_ sz:Nat}{s:DevS}(hO:s.off=false)(hlw:LogW (s.ls.length*64) at_ sz)(h1:nm (((imgS s).drop at_).take 8)=0):recordsS at_ sz s=([],0):=by
  have ht:=hlw.top;have hsz:=hlw.s;have ham:=hlw.am
  unfold recordsS
  rw [if_neg (by rw [hO];decide),word_in hO oqz oqz,h1];rfl
def wrI1 (at_:Nat)(I:List Nat)(l:List (Int×Int)):List Nat:=spl I (at_+64) (recsB I l)
def wrI (at_:Nat)(I:List Nat)(l:List (Int×Int)):List Nat:=spl (wrI1 at_ I l) at_ (le 8 l.length)
def Mkd (j:Nat)(s:DevS):Prop:=∀l,s.ls[j]? =some l->l.mark=(l.st.length:Int)-1
def InX (L:List (Nat×List Nat))(i:Nat):Prop:=∃x∈L,x.1<=i/\ i<x.1+x.2.length
def XU (L:List (Nat×List Nat))(I:List Nat)(q:Nat)(c:List Nat):Prop:=∀j,j<64->¬InX L (q*64+j)->c[j]? =I[q*64+j]?
structure AS (L:List (Nat×List Nat)) (I:List Nat) (s:DevS):Prop where
  wf:WfD s
  len:I.length=s.ls.length*64
  poss:Poss (XU L I) s
  one:∀ (q:Nat) (l:LineS),(∀i,InX L i->i/64≠q)->s.ls[q]? =some l->l.st.length=1
theorem AS.img {L:List (Nat×List Nat)}{I:List Nat}{s:DevS}(h:AS L I s){i:Nat}(hi:¬InX L i):(imgS s)[i]? =I[i]? :=by
  have hil:=imgS_len h.wf;have hl:=h.len
  rcases Nat.lt_or_ge i (s.ls.length*64) with h1|h1
  . have:=poss_img h.wf h.poss (q:=i/64) oqz (i%64) oqz (by rw [show i/64*64+i%64=i by omega];exact hi);rw [chunk_at oqz,show i/64*64+i%64=i by omega] at this
    exact this
  rw [List.getElem?_eq_none oqz,List.getElem?_eq_none oqz]
theorem AS.sub {L:List (Nat×List Nat)}{I:List Nat}{s:DevS}(h:AS L I s){p m:Nat}(hd:∀i,p<=i->i<p+m->¬InX L i):((imgS s).drop p).take m=(I.drop p).take m:=by
  apply List.ext_getElem?
  intro i;rw [List.getElem?_take,List.getElem?_take]
  split
  . rw [List.getElem?_drop,List.getElem?_drop];exact h.img (hd _ oqz oqz)
  rfl
structure Got (D:List (Nat×List Nat)) (I:List Nat) (s:DevS):Prop where
  img:∀i,InX D i->(imgS s)[i]? =I[i]?
  mkd:∀i,InX D i->Mkd (i/64) s
def armP (after:Int)(keep:List Int)(Q:PlS):PlS:={ Q with s:={ Q.s with arms:=[(after,keep)],cnt:=Q.s.ops } }
structure ArmStep (after:Int) (keep:List Int) (P':Bool×PlS) (Q:PlS) (Q':Bool×PlS):Prop where
  ok:Q'.1=true
  ops:P'.2.s.ops=Q'.2.s.ops
  near:Q'.2.s.ops=Q.s.ops∨Q'.2.s.ops=Q.s.ops+1
  on:Q'.2.s.ops≠after->P'=(true,armP after keep Q'.2)
  gone:Q'.2.s.ops=after->P'.1=false/\ P'.2.s.off=true/\ P'.2.s.arms=[]/\ P'.2.s.ls=(goesS keep Q'.2.s).ls
theorem WfP.mono {r r':Nat}{P:PlS}(h:WfP r P)(hr:r'<=r):WfP r' P:=⟨h.pos,h.top,h.ls,h.seen,h.held,h.last,h.sure,λ l hl=>by have:=h.room l hl;omega,λ l hl=>by have:=h.hroom l hl;omega⟩
def rise (n:Nat):List Nat:=(List.range n).map λ i=>i%256
def mdK (k:Nat):List Nat:=spl (rise 1024) 128 (List.replicate k 0)
def mdI:List Nat:=mdK 8
def mds:DevS:=fromS 16 mdI
theorem room_cln {s:DevS}(h:Cln s){k:Nat}(hk:k<=2199023255551):Room k s:=λ l hl=>by rw [h l hl];omega
def LogI (sz:Nat)(l:List (Int×Int))(I:List Nat):Prop:=nm ((I.drop 128).take 8)=l.length/\ (I.drop 192).take (needN l)=recsB mdI l/\ I.length=1024/\ Out 128 (128+sz) I mdI
def NoL (A:SP)(v:Value):Prop:=v= .pointer none∨∃b,v=(pz b)/\ Has A b (cl [.pointer none,.int .i64 0,.int .i64 0] 258)
theorem NoL.left {A X:SP}{v:Value}(h:NoL A v):NoL (A*X) v:=h.imp id λ ⟨b,e,hc⟩=>⟨b,e,has_left hc⟩
attribute [local irreducible] crk crL crc Sl pt ro Dev imgS recS readS recsF rdW rdO rkT Parts rvl recordsS mdI mdK rise mds writeS rollS
end Go.Vl

namespace Go.Vl
open Go Go.Proofs Go.Proofs.Tryz
def lst (xs:List Int)(i:Nat):List (Int×Int):=(xs.take i).map λ x=>((600:Int),1+x%90)
def brN (x:Int×Int):Int:=1+(IntKind.i64.wrap (x.2-1))%40
def brX (x:Int×Int):Int×Int:=(if 256<=x.1∨x.1<0 then 512+x.1%(512-brN x+1) else 64+x.1%(64-brN x+1),brN x)
def brL (es:List (Int×Int))(i:Nat):List (Int×Int):=(es.take i).map brX
def fiveX (k:Nat):List (Int×Int):=(List.range k).map λ i:Nat=>((64:Int),1+(i:Int))
def PsR (A:SP)(L:List (Nat×List Nat))(vs:List Value):Prop:=∀k,k<L.length->∃b c,vs.getD k (.slice none 0 0)= .slice b (L.getD k (0,[])).2.length c/\ Rs A b (bys (L.getD k (0,[])).2)/\ (L.getD k (0,[])).2.length<=4294967296
theorem PsR.left {A X:SP}{L:List (Nat×List Nat)}{vs:List Value}(h:PsR A L vs):PsR (A*X) L vs:=λ k hk=>by
  obtain ⟨b,c,e,hr,hl⟩:=h k hk;exact ⟨b,c,e,hr.left,hl⟩
def kpR (kp:List Int)(i:Nat):List Int:=(kp.take i).map λ x=>x%1000
theorem flatG {α:Type}{f:α->List Value}:∀{Cs:List (List Value)} {xs:List α} (_:Cs.length=xs.length) (_:∀i (h:i<xs.length) (h':i<Cs.length),Cs[i]=f xs[i]),Cs.flatten=xs.flatMap f
  |[],[],_,_=>rfl
  |c::Cs,x::xs,hl,h=>by
    have h0:=h 0 (by simp) (by simp)
    simp only [List.getElem_cons_zero] at h0
    rw [List.flatten_cons,h0,flatG (f:=f) (Cs:=Cs) (xs:=xs) (by simpa using hl) (λ i hi hi'=>h (i+1) (by simpa using hi) (by simpa using hi')),List.flatMap_cons]
def PXts (A:SP)(cs:List Value)(es:List (Int×Int)):Prop:=∃a c,cs=[.slice a es.length c]/\ es.length<=c/\ es.length<=8796093022208/\ Rs A a (xcl es)/\∀x∈es,XW x
structure Ar1 where
  af:Int
  a:Option Addr
  c:Nat
  kp:List Int
def Ar1.cells (x:Ar1):List Value:=[.int .i64 x.af,.slice x.a x.kp.length x.c]
def PArs (A:SP)(cs:List Value)(p:List Value×List (Int×List Int)):Prop:=∃a c,cs=[.slice a p.2.length c]/\ p.2.length<=c/\ p.2.length<=4398046511104/\ RdA A a p.1 p.2/\∀x∈p.2,(-9223372036854775808<=x.1/\ x.1<=9223372036854775807)/\ x.2.length<=17592186043904/\∀k∈x.2,-9223372036854775808<=k/\ k<=9223372036854775807
structure Chg where
  q:Int
  p:Int
  a:Option Addr
  c:Nat
  b:List Nat
  fl:Bool
  fe:Bool
def Chg.cells (x:Chg):List Value:=[.int .i64 x.q,.int .i64 x.p,.slice x.a x.b.length x.c,.bool x.fl,.bool x.fe]
structure ChgW (A:SP) (x:Chg):Prop where
  q:(-9223372036854775808<=x.q/\ x.q<=9223372036854775807)
  p:(-9223372036854775808<=x.p/\ x.p<=9223372036854775807)
  cap:x.b.length<=x.c
  len:x.b.length<=140737488351232
  rs:Rs A x.a (bys x.b)
  by_:∀y∈x.b,y<256
theorem ChgW.left {A X:SP}{x:Chg}(h:ChgW A x):ChgW (A*X) x:=⟨h.q,h.p,h.cap,h.len,h.rs.left,h.by_⟩
def chl (l:List Chg):List Value:=l.flatMap Chg.cells
def PChs (A:SP)(cs:List Value)(l:List Chg):Prop:=∃a c,cs=[.slice a l.length c]/\ l.length<=c/\ l.length<=2932031007403/\ Rs A a (chl l)/\∀x∈l,ChgW A x
structure Stx where
  es:List (Int×Int)
  ch:List Chg
  kvs:List Value
  ars:List (Int×List Int)
  lg:Bool
def PSto (A:SP)(cs:List Value)(t:Stx):Prop:=∃v1 v2 v3,cs=[v1,v2,v3,.bool t.lg]/\ PXts A [v1] t.es/\ PChs A [v2] t.ch/\ PArs A [v3] (t.kvs,t.ars)
def XIn (x:Int×Int):Prop:=1<=x.2/\ x.2<=40/\ ((64<=x.1/\ x.1+x.2<=128)∨(512<=x.1/\ x.1+x.2<=1024))
structure CSt (X:List (Int×Int)) (I:List Nat) (r:Nat) (s:DevS):Prop where
  ast:AS (oldsL mdI X) I s
  len:s.ls.length=16
  room:Room r s
structure Clr (I:List Nat) (s:DevS):Prop where
  wf:WfD s
  cln:Cln s
  img:imgS s=spl I 128 (le 8 0)
  len:s.ls.length=16
structure Trn (X:List (Int×Int)) (I:List Nat) (s:DevS):Prop where
  room:Room 385 s
  ast:(X≠[]/\ AS (oldsL mdI X) I s/\ s.ls.length=16)∨Clr I s
def Ar1.pr (x:Ar1):Int×List Int:=(x.af,x.kp)
def ownR (x:Ar1):SP:=Sl 1 (.slice x.a x.kp.length x.c) x.kp.length (ints x.kp)
def brA (x:Int×List Int):Int×List Int:=(1+x.1%60,x.2.map λ k=>k%1000)
structure ArP (xs:List Ar1) (ars:List (Int×List Int)):Prop where
  mp:xs.map Ar1.pr=ars.map brA
  cp:∀x∈xs,x.kp.length<=x.c
def ArB (a:Option Addr)(c n:Nat)(xs:List Ar1):SP:=Sl 2 (.slice a n c) n (xs.flatMap Ar1.cells)*Bs ownR xs
structure ChgV (A:SP) (x:Chg):Prop where
  q: -9223372036854775808<=x.q/\ x.q<=9223372036854775807
  p: -9223372036854775808<=x.p/\ x.p<=9223372036854775807
  cap:x.b.length<=x.c
  rs:Rs A x.a (bys x.b)
  by_:∀y∈x.b,y<256
theorem ChgV.left {A X:SP}{x:Chg}(h:ChgV A x):ChgV (A*X) x:=⟨h.q,h.p,h.cap,h.rs.left,h.by_⟩
def ArOk (ars:List (Int×List Int)):Prop:=∀x∈ars,(-9223372036854775808<=x.1/\ x.1<=9223372036854775807)/\ x.2.length<=1099511627776/\∀k∈x.2,-9223372036854775808<=k/\ k<=9223372036854775807
def PXtU (A:SP)(cs:List Value)(es:List (Int×Int)):Prop:=∃a c,cs=[.slice a es.length c]/\ es.length<=c/\ Rs A a (xcl es)/\∀x∈es,XW x
def PArU (A:SP)(cs:List Value)(p:List Value×List (Int×List Int)):Prop:=∃a c,cs=[.slice a p.2.length c]/\ p.2.length<=c/\ RdA A a p.1 p.2/\∀x∈p.2,(-9223372036854775808<=x.1/\ x.1<=9223372036854775807)/\∀k∈x.2,-9223372036854775808<=k/\ k<=9223372036854775807
def PChU (A:SP)(cs:List Value)(l:List Chg):Prop:=∃a c,cs=[.slice a l.length c]/\ l.length<=c/\ Rs A a (chl l)/\∀x∈l,ChgV A x
def PStU (A:SP)(cs:List Value)(t:Stx):Prop:=∃v1 v2 v3,cs=[v1,v2,v3,.bool t.lg]/\ PXtU A [v1] t.es/\ PChU A [v2] t.ch/\ PArU A [v3] (t.kvs,t.ars)
def Stx.sz (t:Stx):Nat:=t.es.length+(t.ch.map λ x=>x.b.length+1).sum+(t.ars.map λ x=>x.2.length+1).sum
def GrK (k:Nat)(v:Value)(n:Nat)(xs:List Value)(v':Value)(m:Nat)(ys:List Value):SP:=λ h=>
  (∃a c,v= .slice a n c/\ v'= .slice a m c/\ n<=m/\ xs=ys.take (n*k)/\ Sl k v' m ys h)∨(Sl k v n xs*Sl k v' m ys) h
def ilv {α:Type}:List α->List α->List α
  |x::xs,y::ys=>x::y::ilv xs ys
  |_,_=>[]
def pc (x:Int×Value):List Value:=[.int .i64 x.1,x.2]
def pcl (l:List (Int×Value)):List Value:=l.flatMap pc
def rpl (n:Nat)(k:Int):List (Int×Value):=List.replicate n (k,.slice none 0 0)
def kz:List (Nat×List Nat)->List Value->List (Int×Value)
  |x::l,v::vs=>((x.1:Nat),v)::kz l vs
  |_,_=>[]
attribute [local irreducible] crk crL crc Sl pt ro Dev imgS recS readS recsF rdW rdO rkT Parts rvl recordsS mdI mdK rise mds writeS rollS clearS oldsL kcl xcl RDev
theorem rRound8_c {A:SP}{n:Nat}(hn:n<=9223372036854775807:=by omega):
    Fn Tryz.prog 339 #[vn n,.int .i64 8] A (λ r B=>r= .tuple #[.int .i64 (rndS n).1,.int .i64 (rndS n).2]/\ A=B):=by
  refine fn_enterW func339 rfl ntmps339 (by simp) ?_;have hp8:pad8 n<8:=(by unfold pad8;omega);refine Zdh ?_;refine Zc0 ?_;refine tl_bool (d:=9) rfl dbq (sbq ?_);intro h;refine Zdm ?_;refine Zcc ?_;intro h;refine Zeb ?_;refine tv (o_remN (b:=8) rfl rfl (by decide)) ?_;refine tl_env (d:=15) (v:=(vn (n%8))) (rfl) ?_;refine Zds ?_;refine Zcr ?_;refine tc_cond rfl (λ h=> ?_) (λ h=> ?_)
  . have g17:n%8=0:=(by first|(have h9:=of_decide_eq_true h;omega)|(simp at h;omega));refine Zg7 ?_;have e:rndS n=((n:Int),0):=(by unfold rndS up8;have:pad8 n=0:=(by unfold pad8;omega);rw [this,if_neg oqz];rfl);rw [e]
    exact ⟨.tuple #[vn n,.int .i64 0],A,res2 rfl rfl rfl,Dr.sat drqz,rfl,rfl⟩
  have g17:¬n%8=0:=(by first|(have h9:=of_decide_eq_false h;omega)|(simp at h;omega));have hpp:pad8 n=8-n%8:=(by unfold pad8;omega);refine Zc4 ?_;refine Zv ?_;refine tv (o_subI rfl rfl oqz) ?_;refine Zc7 ?_;refine nq ?_;refine tc_cond rfl (λ h=> ?_) (λ h=> ?_)
  . have g24:9223372036854775807<n+pad8 n:=(by first|(have h9:=of_decide_eq_true h;omega)|(simp at h;omega));refine Zfa ?_;have e:rndS n=(0,2):=(by unfold rndS;rw [if_pos g24]);rw [e]
    exact ⟨.tuple #[.int .i64 0,.int .i64 2],A,res2 rfl rfl rfl,Dr.sat drqz,rfl,rfl⟩
  have g24:¬9223372036854775807<n+pad8 n:=(by first|(have h9:=of_decide_eq_false h;omega)|(simp at h;omega));refine Zb9 ?_;refine Zv ?_;refine tv (o_subI rfl rfl oqz) ?_;refine tv (o_addI rfl rfl oqz) ?_;refine tl_env (d:=29) (v:=(vn (up8 n))) (by show Value.int .i64 ((n:Int)+(8-((n%8:Nat):Int)))=_;congr 1;unfold up8;omega) ?_;refine Zy ?_;have e:rndS n=(((up8 n:Nat):Int),0):=(by unfold rndS;rw [if_neg g24]);rw [e]
  exact ⟨.tuple #[vn (up8 n),.int .i64 0],A,res2 rfl rfl rfl,Dr.sat drqz,rfl,rfl⟩
theorem Zh7 {p r:Prop}(k:r)(h:Kq r->p:=by intro k;refine Zbk ?_;refine Zbg ?_;exact k.o):p:=h ⟨k⟩
theorem rOpen_okf (A:SP){r:Nat}{lv av:Value}{rls:List RL}{s:DevS}(hR:RdevR A r lv rls av s){p q:Int}(hp: -9223372036854775808<=p/\ p<=9223372036854775807)(hq: -9223372036854775808<=q/\ q<=9223372036854775807)(hok:(64<=p/\ p%64=0/\ 128<=q/\ q%64=0/\ p<=(s.ls.length:Int)*64/\ q<=(s.ls.length:Int)*64-p)):
    Fn Tryz.prog 90 #[pz r,.int .i64 p,.int .i64 q] A (λ v B=>∃X,B=A*X/\∃b,v= .tuple #[pz b,.int .i64 0]/\ X=pt b (cl [pz r,.int .i64 p,.int .i64 q] 267)):=by
  refine fn_enterW func90 rfl ntmps90 (by simp) ?_;have htop:=hR.wf.top;refine Zdh ?_;refine tv (o_eqp underlying47 rfl rfl) ?_;refine Zn ?_;intro h;refine Ze ?_;refine Zb1 ?_;refine tc_cut (λ ρ BB=>∃ (bb:Bool),(bb=decide (¬(64<=p/\ p%64=0/\ 128<=q/\ q%64=0/\ p<=(s.ls.length:Int)*64/\ q<=(s.ls.length:Int)*64-p)))/\ ρ 43= .bool bb/\ ρ 0=(pz r)/\ ρ 1= .int .i64 p/\ ρ 2= .int .i64 q/\ BB=A) ?_ ?_
  . skip
    refine Zbq ?_;refine Zc0 ?_;refine tl_bool (d:=12) rfl (λ h=> ?_) (λ h=> ?_)
    . have g12:(p<64):=(by first|exact of_decide_eq_true h|(have h2:=h;simp at h2;omega)|simpa using h);refine Zc2 ?_;refine Z4 ?_;refine Zp ?_;refine Z4 ?_;refine Zf5 ?_;refine Zp ?_;refine Zdx ?_;refine Zh7 ?_;exact ⟨_,by first|exact (decide_eq_true oqz).symm|exact (decide_eq_false oqz).symm|(rw [decide_eq_decide];omega),rfl,rfl,rfl,rfl,rfl⟩
    have g12:¬(p<64):=(by first|exact of_decide_eq_false h|(have h2:=h;simp at h2;omega)|simpa using h);refine Zdz ?_;refine Zf3 ?_;refine tl_bool (d:=17) rfl (λ h=> ?_) (λ h=> ?_)
    . have g17:(p<64∨p%64≠0):=(by first|exact of_decide_eq_true h|(have h2:=h;simp at h2;omega)|simpa using h);refine Zp ?_;refine Z4 ?_;refine Zf5 ?_;refine Zp ?_;refine Zdx ?_;refine Zh7 ?_;exact ⟨_,by first|exact (decide_eq_true oqz).symm|exact (decide_eq_false oqz).symm|(rw [decide_eq_decide];omega),rfl,rfl,rfl,rfl,rfl⟩
    have g17:¬(p<64∨p%64≠0):=(by first|exact of_decide_eq_false h|(have h2:=h;simp at h2;omega)|simpa using h);refine Zhl ?_;refine tl_bool (d:=21) rfl (λ h=> ?_) (λ h=> ?_)
    . have g21:(p<64∨p%64≠0∨q<128):=(by first|exact of_decide_eq_true h|(have h2:=h;simp at h2;omega)|simpa using h);refine Zf5 ?_;refine Zp ?_;refine Zdx ?_;refine Zh7 ?_;exact ⟨_,by first|exact (decide_eq_true oqz).symm|exact (decide_eq_false oqz).symm|(rw [decide_eq_decide];omega),rfl,rfl,rfl,rfl,rfl⟩
    have g21:¬(p<64∨p%64≠0∨q<128):=(by first|exact of_decide_eq_false h|(have h2:=h;simp at h2;omega)|simpa using h);refine Zdz ?_;refine Zf3 ?_;refine tl_bool (d:=26) rfl (λ h=> ?_) (λ h=> ?_)
    . have g26:(p<64∨p%64≠0∨q<128∨q%64≠0):=(by first|exact of_decide_eq_true h|(have h2:=h;simp at h2;omega)|simpa using h);refine Zgi ?_;refine Zdx ?_;refine Zh7 ?_;exact ⟨_,by first|exact (decide_eq_true oqz).symm|exact (decide_eq_false oqz).symm|(rw [decide_eq_decide];omega),rfl,rfl,rfl,rfl,rfl⟩
    have g26:¬(p<64∨p%64≠0∨q<128∨q%64≠0):=(by first|exact of_decide_eq_false h|(have h2:=h;simp at h2;omega)|simpa using h);refine Zv ?_;refine Zci ?_;refine tv (o_ldP (a:=some ⟨r,0,none⟩) (i:=0) p3 rfl (by repeat (first|exact hR.d|apply Rs.left)) rfl) ?_;refine tl_env (d:=31) (v:= .int .i64 ((s.ls.length:Int)*64)) (by show Value.int .i64 ((s.ls.length*64:Nat):Int)=_;congr 1) ?_;refine Zdy ?_;refine tl_bool (d:=34) rfl (λ h=> ?_) (λ h=> ?_)
    . have g34:(p<64∨p%64≠0∨q<128∨q%64≠0∨(s.ls.length:Int)*64<p):=(by first|exact of_decide_eq_true h|(have h2:=h;simp at h2;omega)|simpa using h);refine Zbk ?_;refine Zh7 ?_;exact ⟨_,by first|exact (decide_eq_true oqz).symm|exact (decide_eq_false oqz).symm|(rw [decide_eq_decide];omega),rfl,rfl,rfl,rfl,rfl⟩
    have g34:¬(p<64∨p%64≠0∨q<128∨q%64≠0∨(s.ls.length:Int)*64<p):=(by first|exact of_decide_eq_false h|(have h2:=h;simp at h2;omega)|simpa using h);refine Zv ?_;refine Zci ?_;refine tv (o_ldP (a:=some ⟨r,0,none⟩) (i:=0) p3 rfl (by repeat (first|exact hR.d|apply Rs.left)) rfl) ?_;refine tl_env (d:=39) (v:= .int .i64 ((s.ls.length:Int)*64)) (by show Value.int .i64 ((s.ls.length*64:Nat):Int)=_;congr 1) ?_;refine tlm ?_;refine Zc7 ?_;refine Zbx ?_;exact ⟨_,by first|exact (decide_eq_true oqz).symm|exact (decide_eq_false oqz).symm|(rw [decide_eq_decide];omega),rfl,rfl,rfl,rfl,rfl⟩
  intro ρ B hI;obtain ⟨bb,hbb0,hE43,hE0,hE1,hE2,hBA⟩:=hI;obtain rfl:=hBA.symm;refine q_then_n ?_;refine te 43 hE43 ?_;refine te 0 hE0 ?_;refine te 1 hE1 ?_;refine te 2 hE2 ?_;refine tc_cond rfl (λ h=> ?_) (sbq ?_)
  . exfalso;rw [h] at hbb0;have:=of_decide_eq_true hbb0.symm;omega
  intro h;refine Zb9 ?_;refine Zv ?_;refine tv (o_bS (l:=[_,_,_]) (pv_cons wqz (pv_cons wqz (pv_cons wqz pv_nil))) underlying267 z267 (pl267 underlying267) rfl) ?_;refine tl_x rfl (o_box rfl rfl) ?_;rintro _ _ ⟨b48,rfl,rfl⟩;refine Zy ?_;exact ⟨_,_,res2 rfl rfl rfl,λ _ _ h=>h,_,rfl,b48,rfl,rfl⟩
theorem rOpen_ok {A R:SP}{C:SP->SP}{r:Nat}{s:DevS}(hc:Ct A (RDev r s) R C:=by exact cbqz){p q:Int}(hp: -9223372036854775808<=p/\ p<=9223372036854775807)(hq: -9223372036854775808<=q/\ q<=9223372036854775807)(hok:(64<=p/\ p%64=0/\ 128<=q/\ q%64=0/\ p<=(s.ls.length:Int)*64/\ q<=(s.ls.length:Int)*64-p):=by omega):Fn Tryz.prog 90 #[pz r,.int .i64 p,.int .i64 q] A (λ v B=>∃b,v= .tuple #[pz b,.int .i64 0]/\ B=A*pt b (cl [pz r,.int .i64 p,.int .i64 q] 267)):=by
  obtain ⟨rfl,_⟩:=hc;intro g w hs;refine (fn_rdevR (λ A lv rls av hR=>rOpen_okf A hR hp hq hok) g w hs).mono ?_;rintro e w' ⟨v,B,e1,⟨X,rfl,b,rfl,rfl⟩,hB⟩;exact ⟨_,_,e1,⟨b,rfl,rfl⟩,hB⟩
end Go.Vl

namespace Go.Vl
open Go Go.Proofs Go.Proofs.Tryz
theorem cellR0 {R:SP}{r:Nat}{s:DevS}:Cell (R*RDev r s) r 0 ((vn (s.ls.length*64))):=λ g w hs=>by
  obtain ⟨hw,lv,rls,av,kvs,h1,h2,hs'⟩:=rdev_iff.1 hs;obtain ⟨b,o,e,h⟩:=(rdevR_of hw h1 hs').d g w hs' 0 _ rfl
  simp only [Option.some.injEq,Addr.mk.injEq,and_true] at e
  obtain ⟨rfl,rfl⟩:=e;exact h
theorem cellR5 {R:SP}{r:Nat}{s:DevS}:Cell (R*RDev r s) r 5 (.bool s.off):=λ g w hs=>by
  obtain ⟨hw,lv,rls,av,kvs,h1,h2,hs'⟩:=rdev_iff.1 hs;obtain ⟨b,o,e,h⟩:=(rdevR_of hw h1 hs').d g w hs' 5 _ rfl
  simp only [Option.some.injEq,Addr.mk.injEq,and_true] at e
  obtain ⟨rfl,rfl⟩:=e;exact h
def lnK (q k:Nat):List Int:=(List.range k).map λ j=>((q+j:Nat):Int)
attribute [local irreducible] crk crL crc Sl pt ro Dev RDev imgS recS
theorem Take8R_c {A:SP}{a:Option Addr}{c:Nat}{xs:List Nat}(hr:Rs A a (bys xs):=by exact rbqz)(hm:xs.length=8:=by first|assumption|rfl)(hb:∀x∈xs,x<256:=by assumption):
    Fn Tryz.prog 338 #[.slice a 8 c,.int .i64 0,.int .i64 8] A (λ v B=>v= .tuple #[.int .u64 ((nm xs:Nat):Int),.int .i64 0]/\ A=B):=by
  refine fn_enterW func338 rfl ntmps338 (by simp) ?_;refine Zdh ?_;refine Zc0 ?_;refine tl_bool (d:=12) rfl dbq (sbq ?_);intro h;refine Zv ?_;refine tv (o_len underlying67 rfl) ?_;refine Zdy ?_;refine tl_bool (d:=18) rfl dbq (sbq ?_);intro h;refine Zdw ?_;refine Zew ?_;refine Zdm ?_;refine Zcc ?_;intro h;refine Ze ?_;refine Zdd ?_;refine tv (by first|exact o_subI rfl rfl oqz|exact o_sub rfl rfl) ?_;refine Za ?_;refine tc_block ?_;refine tc_loop (λ kk ρ BB=>∃ (i:Nat),(i<=8)/\ kk=i/\ ρ 8= .int .u64 ((nm (xs.drop i):Nat):Int)/\ ρ 9= .int .i64 ((i:Int)-1)/\ ρ 0= .slice a 8 c/\ ρ 1= .int .i64 0/\ BB=A) (m:=(8)) ?_ ?_
  . exact ⟨8,by omega,rfl,by rw [List.drop_of_length_le oqz];rfl,rfl,rfl,rfl,rfl⟩
  intro k ρ B hI;obtain ⟨i,hp0,hkk1,hE8,hE9,hE0,hE1,hBA⟩:=hI;obtain rfl:=hBA.symm;refine te 8 hE8 ?_;refine te 9 hE9 ?_;refine te 0 hE0 ?_;refine te 1 hE1 ?_;refine Zl ?_;refine tv (o_geq rfl rfl) ?_;refine nq ?_;refine tc_cond rfl (λ h=> ?_) (sbq ?_)
  . have hi:1<=i:=(by simp at h;omega);have hi2:i-1<xs.length:=(by omega);have e1:xs.drop (i-1)=xs[i-1]::xs.drop i:=(by rw [List.drop_eq_getElem_cons hi2,show i-1+1=i by omega]);have hbb:=nm_bound (λ x hx=>hb x (List.mem_of_mem_drop hx)) (show (xs.drop (i-1)).length<=8 by rw [List.length_drop];omega);rw [e1,nm_snocr] at hbb
    have hx:=hb _ (List.getElem_mem hi2);refine Zbp ?_;refine Zbq ?_;refine tv (o_mulN (b:=256) rfl rfl rfl rfl (by show _<18446744073709551616;omega)) ?_;refine Zfb ?_;refine tv adqz ?_;refine tl_env (d:=37) (v:=(vn (i-1))) (by show Value.int .i64 _=Value.int .i64 _;congr 1;omega) ?_;refine tv (o_ixP1 underlying67 sz5 rfl rfl sq2z sq1z) ?_;refine tv (o_ldP p5 rfl (by repeat (first|assumption|with_reducible exact rs_sl|with_reducible exact rs_pt0|exact rs_none|apply Rs.left)) (by first|assumption|exact bys_at oqz|exact ints_at oqz|exact wds_at oqz|exact bos_at oqz|rfl)) ?_;refine tv (by first|exact o_conv64 underlying5 underlying141 rfl|exact o_conv underlying5 underlying141 rfl) ?_;refine tl_env (d:=40) (v:= .int .u64 ((xs[i-1]:Nat):Int)) (congrArg (λ z:Nat=>Value.int .u64 (z:Int)) (Nat.mod_eq_of_lt oqz)) ?_;refine tv (o_addN rfl rfl rfl (by show _<18446744073709551616;omega)) ?_;refine Zg6 ?_;refine Zew ?_;refine Za ?_;exact ⟨_,by omega,i-1,by omega,rfl,by show Value.int .u64 _=Value.int .u64 _;rw [e1,nm_snocr];congr 1;omega,by show Value.int .i64 _=_;congr 1;omega,rfl,rfl,rfl⟩
  intro h;refine Zgj ?_;obtain rfl:i=0:=by simp at h;omega
  exact ⟨.tuple #[.int .u64 ((nm (xs.drop 0):Nat):Int),.int .i64 0],A,res2 rfl rfl rfl,Dr.sat drqz,by rw [List.drop_zero],rfl⟩
theorem Zdb {p r:Prop}(k:r)(h:Kq r->p:=by intro k;refine tv (o_fieldAddr (o:=0) underlying267 rfl rfl sz47 rfl) ?_;refine tv (o_load p47 rfl haqz rfl) ?_;exact k.o):p:=h ⟨k⟩
theorem rnum_c {A R:SP}{C:SP->SP}{r:Nat}{s:DevS}(hc:Ct A (RDev r s) R C:=by exact cbqz){bk at_ sz:Nat}(hl:Has R bk (cl (lcs11 r at_ sz) 267):=by exact hbqz){q:Nat}(ho:s.off=false:=by assumption)(hq:q+8<=s.ls.length*64:=by omega):
    Fn Tryz.prog 315 #[pz bk,vn q] A (λ v B=>v= .int .u64 ((nm (((imgS s).drop q).take 8):Nat):Int)/\ A=B):=by
  refine fn_enterW func315 rfl ntmps315 (by simp) ?_;refine tc_have (λ _ _ h=>wfR_ct hc h) λ hw=> ?_
  have htop:=hw.top;have hpos:=hw.pos;obtain ⟨rfl,hC⟩:=hc;have hAC:∀g w,sat g w (R*RDev r s)->sat g w (C (RDev r s)):=λ g w h=>by rw [hC];exact h
  have hil:=imgS_len hw;have hol:(((imgS s).drop q).take 8).length=8:=(by rw [List.length_take,List.length_drop,hil];omega);have hob:∀x∈((imgS s).drop q).take 8,x<256:=img_sub;refine Zh1 ?_;refine Zdb ?_;refine tlm ?_;refine tl_c rfl (o_call bd276 rfl (rLoad_c (s:=s) (p:=q) (m:=8))) ?_;rintro _ _ ⟨a15,c15,rfl,hc15,rfl⟩;refine Zey ?_;refine tl_c rfl (o_call bd338 rfl (Take8R_c (xs:=((imgS s).drop q).take 8))) ?_;rintro _ _ ⟨rfl,rfl⟩;refine Zey ?_;refine Zbd ?_;exact ⟨_,_,res1 rfl rfl,Dr.sat drqz,rfl,rfl⟩
theorem Zhv {p r:Prop}(k:r)(h:Kq r->p:=by intro k;refine ql_v rfl (o_lss rfl rfl) ?_;refine ql_v rfl (o_move wqz) ?_;exact k.o):p:=h ⟨k⟩
theorem Zfs {p r:Prop}(k:r)(h:Kq r->p:=by intro k;refine ql_v rfl (o_pick_t rfl wqz) ?_;refine ql_v rfl (o_move wqz) ?_;exact k.o):p:=h ⟨k⟩
theorem Zei {p r:Prop}(k:r)(h:Kq r->p:=by intro k;refine ql_v rfl (o_pick_t rfl wqz) ?_;refine ql_nil ?_;exact k.o):p:=h ⟨k⟩
theorem Zft {p r:Prop}(k:r)(h:Kq r->p:=by intro k;refine ql_v rfl (o_pick_f rfl wqz) ?_;refine ql_v rfl (o_move wqz) ?_;exact k.o):p:=h ⟨k⟩
theorem Zhw {p r:Prop}(k:r)(h:Kq r->p:=by intro k;refine ql_v rfl (o_fieldAddr (o:=0) underlying267 rfl rfl sz47 rfl) ?_;refine ql_v rfl (o_load p47 rfl haqz rfl) ?_;exact k.o):p:=h ⟨k⟩
theorem Zh8 {p r:Prop}(k:r)(h:Kq r->p:=by intro k;refine ql_v rfl (o_nilCheck rfl) ?_;refine ql_v rfl (o_fieldAddr (o:=0) underlying194 rfl rfl sz3 rfl) ?_;exact k.o):p:=h ⟨k⟩
theorem Zg2 {p r:Prop}(k:r)(h:Kq r->p:=by intro k;refine ql_v rfl (o_pick_f rfl wqz) ?_;refine ql_nil ?_;exact k.o):p:=h ⟨k⟩
theorem Ze0 {p r:Prop}(k:r)(h:Kq r->p:=by intro k;refine ql_v rfl (o_fieldAddr (o:=1) underlying267 rfl rfl sz3 rfl) ?_;refine ql_v rfl (o_load p3 rfl haqz rfl) ?_;exact k.o):p:=h ⟨k⟩
theorem Zhx {p r:Prop}(k:r)(h:Kq r->p:=by intro k;refine ql_v rfl (o_fieldAddr (o:=2) underlying267 rfl rfl sz3 rfl) ?_;refine ql_v rfl (o_load p3 rfl haqz rfl) ?_;exact k.o):p:=h ⟨k⟩
theorem rMay11_c {A R:SP}{C:SP->SP}{r:Nat}{s:DevS}(hc:Ct A (RDev r s) R C:=by exact cbqz){bk at_ sz:Nat}(hl:Has A bk (cl (lcs11 r at_ sz) 267):=by exact hbqz){x:Int×Int}(hx:XW x:=by assumption)(hlw:LogW (s.ls.length*64) at_ sz:=by assumption):
    Fn Tryz.prog 316 #[pz bk,.agg (xcs x).toArray] A (λ r_ B=>r_= .bool (mayX (s.ls.length*64) at_ sz x)/\ A=B):=by
  refine fn_enterW func316 rfl ntmps316 (by simp) ?_;refine tc_have (λ _ _ h=>wfR_ct hc h) λ hw=> ?_
  have htop:=hw.top;have hpos:=hw.pos;obtain ⟨rfl,hC⟩:=hc;obtain ⟨⟨hx1,hx2⟩,⟨hx3,hx4⟩⟩:=hx;obtain ⟨w1,w2,w3,w4,w5⟩:=hlw;refine Zfg ?_;rintro _ _ ⟨b3,rfl,rfl⟩;refine Za ?_;refine Zb1 ?_;refine tc_cut (λ ρ BB=>∃ (bb:Bool),(bb=decide (¬(1<=x.2/\ 64<=x.1/\ x.1<=(s.ls.length:Int)*64/\ x.2<=(s.ls.length:Int)*64-x.1)))/\ ρ 39= .bool bb/\ ρ 0=(pz bk)/\ ρ 3=(pz b3)/\ BB=R*RDev r s*pt b3 (cl (xcs x) 365)) ?_ ?_
  . skip
    refine tc_regq mo kqz ?_;refine Zcq ?_;refine Zhv ?_;refine ql_bool (d:=8) rfl (λ h=> ?_) (λ h=> ?_)
    . have g8:(x.2<1):=(by first|exact of_decide_eq_true h|(have h2:=h;simp at h2;omega)|simpa using h);refine Zq ?_;refine ql_skip rfl ?_;refine Zfs ?_;refine Zfy ?_;refine Zq ?_;refine Zfs ?_;refine Zh6 ?_;refine ql_skip rfl ?_;refine Zei ?_;exact ⟨_,by first|exact (decide_eq_true oqz).symm|exact (decide_eq_false oqz).symm|(rw [decide_eq_decide];omega),rfl,rfl,rfl,rfl⟩
    have g8:¬(x.2<1):=(by first|exact of_decide_eq_false h|(have h2:=h;simp at h2;omega)|simpa using h);refine Zbm ?_;refine ql_v rfl (o_lss rfl rfl) ?_;refine Zft ?_;refine ql_bool (d:=13) rfl (λ h=> ?_) (λ h=> ?_)
    . have g13:(x.2<1∨x.1<64):=(by first|exact of_decide_eq_true h|(have h2:=h;simp at h2;omega)|simpa using h);refine Zfy ?_;refine Zq ?_;refine Zfs ?_;refine Zh6 ?_;refine ql_skip rfl ?_;refine Zei ?_;exact ⟨_,by first|exact (decide_eq_true oqz).symm|exact (decide_eq_false oqz).symm|(rw [decide_eq_decide];omega),rfl,rfl,rfl,rfl⟩
    have g13:¬(x.2<1∨x.1<64):=(by first|exact of_decide_eq_false h|(have h2:=h;simp at h2;omega)|simpa using h);refine Zbm ?_;refine Zby ?_;refine Zhw ?_;refine Zh8 ?_;refine ql_v rfl (o_loadC (b:=r) p3 rfl (by repeat (first|exact cellR0|apply Cell.left))) ?_;refine ql_v rfl (o_gtr rfl rfl) ?_;refine Zft ?_;refine ql_bool (d:=25) rfl (λ h=> ?_) (λ h=> ?_)
    . have g25:(x.2<1∨x.1<64∨(s.ls.length:Int)*64<x.1):=(by first|exact of_decide_eq_true h|(have h2:=h;simp at h2;omega)|simpa using h);refine Zh6 ?_;refine ql_skip rfl ?_;refine Zei ?_;exact ⟨_,by first|exact (decide_eq_true oqz).symm|exact (decide_eq_false oqz).symm|(rw [decide_eq_decide];omega),rfl,rfl,rfl,rfl⟩
    have g25:¬(x.2<1∨x.1<64∨(s.ls.length:Int)*64<x.1):=(by first|exact of_decide_eq_false h|(have h2:=h;simp at h2;omega)|simpa using h);refine Zcq ?_;refine Zby ?_;refine Zhw ?_;refine Zh8 ?_;refine ql_v rfl (o_loadC (b:=r) p3 rfl (by repeat (first|exact cellR0|apply Cell.left))) ?_;refine Zbm ?_;refine ql_v rfl (o_subI rfl rfl oqz) ?_;refine ql_v rfl (o_gtr rfl rfl) ?_;refine Zg2 ?_;exact ⟨_,by first|exact (decide_eq_true oqz).symm|exact (decide_eq_false oqz).symm|(rw [decide_eq_decide];omega),rfl,rfl,rfl,rfl⟩
  intro ρ B hI;obtain ⟨bb,hbb0,hE39,hE0,hE3,rfl⟩:=hI;refine q_then_n ?_;refine te 39 hE39 ?_;refine te 0 hE0 ?_;refine te 3 hE3 ?_;refine tc_cond rfl (λ h=> ?_) (λ h=> ?_)
  . have hf:=of_decide_eq_true (show decide (¬(1<=x.2/\ 64<=x.1/\ x.1<=(s.ls.length:Int)*64/\ x.2<=(s.ls.length:Int)*64-x.1))=true by rw [←hbb0];exact h);refine Zf4 ?_;have e:mayX (s.ls.length*64) at_ sz x=false:=decide_eq_false oqz;rw [e]
    exact ⟨.bool false,_,res1 rfl rfl,Dr.sat drqz,rfl,rfl⟩
  have hf:(1<=x.2/\ 64<=x.1/\ x.1<=(s.ls.length:Int)*64/\ x.2<=(s.ls.length:Int)*64-x.1):=(by have h9:=of_decide_eq_false (show decide (¬(1<=x.2/\ 64<=x.1/\ x.1<=(s.ls.length:Int)*64/\ x.2<=(s.ls.length:Int)*64-x.1))=false by rw [←hbb0];exact h);omega);refine Zdv ?_;refine tc_regq mo kqz ?_;refine Zbm ?_;refine Zcq ?_;refine ql_v rfl (o_addI rfl rfl oqz) ?_;refine Zby ?_;refine Ze0 ?_;refine ql_v rfl (o_leq rfl rfl) ?_;refine ql_v rfl (o_move wqz) ?_;refine ql_bool (d:=50) rfl (λ h=> ?_) (λ h=> ?_)
  . have g50:(x.1+x.2<=at_):=(by first|exact of_decide_eq_true h|(have h2:=h;simp at h2;omega)|simpa using h);refine Zh6 ?_;refine ql_v rfl (o_pick_t rfl wqz) ?_;refine Zej ?_;refine tc_ret ?_;have e:∀b,b=decide (x.1+x.2<=at_∨((at_+sz:Nat):Int)<=x.1)->mayX (s.ls.length*64) at_ sz x=b:=λ b hb=>by rw [hb];unfold mayX;rw [decide_eq_decide];omega
    exact ⟨.bool (mayX (s.ls.length*64) at_ sz x),_,res1 rfl (congrArg Value.bool (e _ (by first|exact (decide_eq_true oqz).symm|exact (decide_eq_false oqz).symm|(rw [decide_eq_decide];omega)))).symm,Dr.sat drqz,rfl,rfl⟩
  have g50:¬(x.1+x.2<=at_):=(by first|exact of_decide_eq_false h|(have h2:=h;simp at h2;omega)|simpa using h);refine Zbm ?_;refine Zby ?_;refine Ze0 ?_;refine Zby ?_;refine Zhx ?_;refine ql_v rfl (o_addI rfl rfl oqz) ?_;refine ql_v rfl (o_geq rfl rfl) ?_;refine ql_v rfl (o_pick_f rfl wqz) ?_;refine Zej ?_;refine tc_ret ?_;have e:∀b,b=decide (x.1+x.2<=at_∨((at_+sz:Nat):Int)<=x.1)->mayX (s.ls.length*64) at_ sz x=b:=λ b hb=>by rw [hb];unfold mayX;rw [decide_eq_decide];omega
  exact ⟨.bool (mayX (s.ls.length*64) at_ sz x),_,res1 rfl (congrArg Value.bool (e _ (by first|exact (decide_eq_true oqz).symm|exact (decide_eq_false oqz).symm|(rw [decide_eq_decide];omega)))).symm,Dr.sat drqz,rfl,rfl⟩
end Go.Vl

namespace Go.Vl
open Go Go.Proofs Go.Proofs.Tryz
theorem Three_j {A:SP}{a1 a2 a3:Option Addr}{m1 m2 m3 c1 c2 c3 b:Nat}{xs ys zs:List Nat}{E:TypeId}(h1:Rs A a1 (bys xs))(h2:Rs A a2 (bys ys))(h3:Rs A a3 (bys zs))(e1:xs.length=m1)(e2:ys.length=m2)(e3:zs.length=m3)(hl:m1+m2+m3<=17592186044416):
    Fn Tryz.prog 75 #[.slice (some ⟨b,0,none⟩) 3 3] (A*pt b (cl [.slice a1 m1 c1,.slice a2 m2 c2,.slice a3 m3 c3] E)) (λ r B=>∃a c,r= .slice a (m1+m2+m3) c/\ m1+m2+m3<=c/\ B=A*pt b (cl [.slice a1 m1 c1,.slice a2 m2 c2,.slice a3 m3 c3] E)*Sl 1 (.slice a (m1+m2+m3) c) (m1+m2+m3) (bys (xs++ys++zs))):=by
  subst e1 e2 e3;refine fn_rs (xs:=[.slice a1 xs.length c1,.slice a2 ys.length c2,.slice a3 zs.length c3]) rs_pt0 λ hr=> ?_
  refine fn_rs h1.left λ h1=>fn_rs h2.left λ h2=>fn_rs h3.left λ h3=> ?_
  have key:=JoinN_f (A*pt b (cl [.slice a1 xs.length c1,.slice a2 ys.length c2,.slice a3 zs.length c3] E)) (some ⟨b,0,none⟩) 3 3 [xs,ys,zs] ⟨_,rfl,hr,λ i hi=>by
    match i,hi with
    |0,_=>exact ⟨a1,c1,rfl,h1⟩
    |1,_=>exact ⟨a2,c2,rfl,h2⟩
    |2,_=>exact ⟨a3,c3,rfl,h3⟩⟩ (by simp;omega) (by simp) rfl
  have e:([xs,ys,zs]:List (List Nat)).flatten=xs++ys++zs:=(by simp);rw [e] at key
  have e3:(xs++ys++zs).length=xs.length+ys.length+zs.length:=(by simp [Nat.add_assoc]);rw [e3] at key
  exact fn_sl key
theorem room_sub {at_ sz p k:Nat}{s:DevS}{room:List Nat}(hroom:roomS at_ sz s=room)(h:p+k<=sz-64):((imgS s).drop (at_+64+p)).take k=(room.drop p).take k:=by
  rw [←hroom];unfold roomS
  rw [List.drop_take,List.drop_drop,List.take_take,Nat.min_eq_left oqz]
theorem may_big2 {n at_ sz w m:Nat}(h:n<w∨n<m):mayX n at_ sz ((w:Int),(m:Int))=false:=decide_eq_false (by show¬((1:Int)<=(m:Int)/\ (64:Int)<=(w:Int)/\ (w:Int)+(m:Int)<=(n:Int)/\ _);omega)
theorem rnd_small {m:Nat}(h:m<=4194304):rndS m=(((up8 m:Nat):Int),0):=by
  unfold rndS;have:pad8 m<8:=(by unfold pad8;omega);rw [if_neg oqz]
attribute [local irreducible] crk crL crc Sl pt ro Dev RDev imgS recS
theorem rRec_c {A:SP}{a:Option Addr}{c m p:Nat}{xs:List Nat}(hr:Rs A a (bys xs):=by exact rbqz)(hm:xs.length=m:=by first|assumption|rfl)(hb:∀x∈xs,x<256:=by assumption)(hp:p<9223372036854775808:=by omega)(hml:m<=549755813888:=by omega):
    Fn Tryz.prog 318 #[vn p,.slice a m c] A (λ r B=>∃a2 c2,r= .slice a2 (24+up8 m) c2/\ 24+up8 m<=c2/\ B=A*Sl 1 (.slice a2 (24+up8 m) c2) (24+up8 m) (bys (recS p xs))):=by
  refine fn_enterW func318 rfl ntmps318 (by simp) ?_;obtain ⟨Z,hZ⟩:∃Z,crc 0 (recH p m++xs)=Z:=⟨_,rfl⟩;have hZb:∀x∈recH p m++xs,x<256:=λ x hx=>by rcases List.mem_append.1 hx with h1|h1;exact recH_b _ _ x h1;exact hb x h1
  have hZl:Z<4294967296:=hZ▸crc_lt (by decide) hZb
  obtain ⟨Y,hY⟩:∃Y,recH p m++le 8 Z++xs=Y:=⟨_,rfl⟩;have hYl:Y.length=24+m:=(by rw [←hY,List.length_append,List.length_append,recH_len,le_length,hm]);have hYr:recS p xs=Y++List.replicate (pad8 m) 0:=(by rw [←hY,←hZ,←hm];exact recS_eq _ _);refine Zgp ?_;refine tl_env (d:=9) (v:= .int .u64 ((p:Nat):Int)) (congrArg (λ z:Nat=>Value.int .u64 (z:Int)) (Nat.mod_eq_of_lt oqz)) ?_;refine tl_c rfl (o_call bd76 rfl (Little_c (v:=p) (n:=8))) ?_;rintro _ _ ⟨a10,c10,rfl,hc10,rfl⟩;refine Zgq ?_;refine tl_env (d:=13) (v:= .int .u64 ((m:Nat):Int)) (congrArg (λ z:Nat=>Value.int .u64 (z:Int)) (Nat.mod_eq_of_lt oqz)) ?_;refine tl_c rfl (o_call bd76 rfl (Little_c (v:=m) (n:=8))) ?_;rintro _ _ ⟨a14,c14,rfl,hc14,rfl⟩;refine tl_c rfl (o_call bd340 rfl (Two_c (xs:=le 8 p) (ys:=le 8 m) (h1:=(by repeat (first|with_reducible exact rs_sl|assumption|apply Rs.left))) (h2:=(by repeat (first|with_reducible exact rs_sl|assumption|apply Rs.left))) (e1:=le_length 8 p) (e2:=le_length 8 m))) ?_;rintro _ _ ⟨a15,c15,rfl,hc15,rfl⟩;refine Zee ?_;refine tl_c rfl (o_call bd340 rfl (Two_c (xs:=le 8 p++le 8 m) (ys:=xs) (h1:=(by repeat (first|with_reducible exact rs_sl|assumption|apply Rs.left))) (h2:=(by repeat (first|with_reducible exact rs_sl|assumption|apply Rs.left))) (e1:=by rw [List.length_append,le_length,le_length]) (e2:=hm))) ?_;rintro _ _ ⟨a18,c18,rfl,hc18,rfl⟩;refine tl_c rfl (o_call bd341 rfl (SumR_c (xs:=le 8 p++le 8 m++xs) (hr:=(by repeat (first|with_reducible exact rs_sl|assumption|apply Rs.left))) (hm:=by rw [List.length_append,List.length_append,le_length,le_length,hm]) (hb:=hZb))) ?_;rintro _ _ ⟨rfl,rfl⟩;refine tl_env (d:=19) (v:= .int .u32 ((Z:Nat):Int)) (by show Value.int .u32 ((crc 0 (recH p m++xs):Nat):Int)=_;rw [hZ]) ?_;refine Zee ?_;refine tv (by first|exact o_conv64 underlying53 underlying141 rfl|exact o_conv underlying53 underlying141 rfl) ?_;refine tl_env (d:=22) (v:= .int .u64 ((Z:Nat):Int)) (congrArg (λ z:Nat=>Value.int .u64 (z:Int)) (Nat.mod_eq_of_lt oqz)) ?_;refine tl_c rfl (o_call bd76 rfl (Little_c (v:=Z) (n:=8))) ?_;rintro _ _ ⟨a23,c23,rfl,hc23,rfl⟩;refine tlm ?_;refine tl_x rfl (o_buildSliceL (k:=1) (vs:=[.slice a15 (8+8) c15,.slice a23 8 c23,.slice a m c]) (l:=[.slice a15 (8+8) c15,.slice a23 8 c23,.slice a m c]) underlying35 sz67 z67 rfl rfl (by decide) (by decide) (by intro v hv;simp at hv;rcases hv with rfl|rfl|rfl<;>rfl) rfl) ?_;rintro _ _ ⟨b25,rfl,rfl⟩;refine tl_c rfl (o_call bd75 rfl (Three_j (xs:=le 8 p++le 8 m) (ys:=le 8 Z) (zs:=xs) (h1:=(by repeat (first|with_reducible exact rs_sl|assumption|apply Rs.left))) (h2:=(by repeat (first|with_reducible exact rs_sl|assumption|apply Rs.left))) (h3:=(by repeat (first|with_reducible exact rs_sl|assumption|apply Rs.left))) (e1:=by rw [List.length_append,le_length,le_length]) (e2:=le_length 8 Z) (e3:=hm) (hl:=by omega))) ?_;rintro _ _ ⟨a26,c26,rfl,hc26,rfl⟩;refine Za ?_;refine Zx ?_;refine tc_pre (A':=A*Sl 1 (.slice a26 (24+m+0) c26) (24+m+0) (bys (Y++List.replicate 0 0))) (λ g w h=>by have h2:=Dr.sat (A':=A*Sl 1 (.slice a26 (8+8+8+m) c26) (8+8+8+m) (bys (le 8 p++le 8 m++le 8 Z++xs))) drqz g w h;rw [show le 8 p++le 8 m++le 8 Z++xs=Y from hY] at h2;rw [show 24+m+0=8+8+8+m by omega,List.replicate_zero,List.append_nil];exact h2) ?_;refine tc_loop (λ kk ρ BB=>∃ (i:Nat) (a5:Option Addr) (c5:Nat),(i<=pad8 m)/\ (24+m+i<=c5)/\ kk=pad8 m-i/\ ρ 7= .slice a5 (24+m+i) c5/\ Dr BB (A*Sl 1 (.slice a5 (24+m+i) c5) (24+m+i) (bys (Y++List.replicate i 0)))) (m:=pad8 m-(0)) ?_ ?_
  . exact ⟨0,a26,c26,by omega,by omega,rfl,by rw [show 24+m+0=8+8+8+m by omega];rfl,drqz⟩
  intro k ρ B hI;obtain ⟨i,a5,c5,hp0,hp1,hkk1,hE7,hBA⟩:=hI;refine tc_pre hBA.sat ?_;clear hBA;refine te 7 hE7 ?_;refine Zl ?_;refine tv (o_len underlying67 rfl) ?_;refine tv (o_remN (b:=8) rfl rfl (by decide)) ?_;refine tl_env (d:=29) (v:= .int .i64 (((24+m+i)%8:Nat):Int)) (by first|rfl|(show Value.int .i64 _=_;congr 1;omega)) ?_;refine Zbv ?_;refine tc_cond rfl (λ h=> ?_) (λ h=> ?_)
  . have hi:i<pad8 m:=(by have h9:(24+m+i)%8≠0:=(by first|omega|(simp at h;omega));unfold pad8 at*;omega);have hi8:i<8:=(by have:pad8 m<8:=(by unfold pad8;omega);omega);refine Ze ?_;refine tc_block ?_;refine Zbq ?_;refine tl_x rfl (o_buildSliceL (k:=1) (vs:=bys [0]) (l:=bys [0]) underlying67 sz5 z5 rfl rfl (by decide) (by decide) (by intro v hv;simp only [bys,b8,List.map_cons,List.map_nil,List.mem_cons,List.not_mem_nil,or_false] at hv;rcases hv with rfl;rfl) rfl) ?_;rintro _ _ ⟨b32,rfl,rfl⟩;refine tl_x rfl (o_apB underlying67 underlying67 sz5 by5 z5 rfl (by decide) (by decide) rfl rfl rfl ctqz rfl rfl oqz (show _=bys (Y++List.replicate i 0++[0]) by rw [←bys_append])) ?_;rintro _ _ ⟨a33,c33,rfl,hc33,rfl⟩;refine Zbn ?_;refine q_block_n (q_then_n ?_);exact ⟨_,by omega,i+1,a33,c33,by omega,by omega,rfl,rfl,by rw [List.replicate_succ',←List.append_assoc];repeat (first|with_reducible exact dr_refl|apply dr_keep|apply dr_drop)⟩
  obtain rfl:i=pad8 m:=by have h9:(24+m+i)%8=0:=(by first|omega|(simp at h;omega));unfold pad8 at*;omega
  refine Zhk ?_;rw [hYr,show 24+up8 m=24+m+pad8 m by unfold up8;omega]
  exact ⟨_,_,res1 rfl rfl,Dr.sat drqz,a5,c5,rfl,hp1,rfl⟩
theorem Zh3 {p r:Prop}(k:r)(h:Kq r->p:=by intro k;refine nq ?_;refine Zl ?_;exact k.o):p:=h ⟨k⟩
theorem rread_c {A R:SP}{C:SP->SP}{r:Nat}{s:DevS}(hc:Ct A (RDev r s) R C:=by exact cbqz){bk at_ sz:Nat}(hl:Has R bk (cl (lcs11 r at_ sz) 267):=by exact hbqz)(hlw:LogW (s.ls.length*64) at_ sz:=by assumption){q p:Nat}{room:List Nat}(ho:s.off=false:=by assumption)(hroom:roomS at_ sz s=room:=by assumption)(hq:q=at_+64+p:=by omega)(hp:p<=sz-64:=by omega):
    Fn Tryz.prog 344 #[pz bk,vn q] A (λ r_ B=>∃a2 c2,r_= .tuple #[.agg #[.int .i64 ((rdW (readS (s.ls.length*64) at_ sz room p):Nat):Int),.slice a2 (rdO (readS (s.ls.length*64) at_ sz room p)).length c2],.int .i64 ((rkT (readS (s.ls.length*64) at_ sz room p):Nat):Int),.bool (readS (s.ls.length*64) at_ sz room p).isSome]/\ (rdO (readS (s.ls.length*64) at_ sz room p)).length<=c2/\ B=C (RDev r s)*Sl 1 (.slice a2 (rdO (readS (s.ls.length*64) at_ sz room p)).length c2) (rdO (readS (s.ls.length*64) at_ sz room p)).length (bys (rdO (readS (s.ls.length*64) at_ sz room p)))):=by
  refine fn_enterW func344 rfl ntmps344 (by simp) ?_;refine tc_have (λ _ _ h=>wfR_ct hc h) λ hw=> ?_
  have htop:=hw.top;have hpos:=hw.pos;obtain ⟨rfl,hC⟩:=hc;rw [hC]
  have hlw9:=hlw;obtain ⟨w1,w2,w3,w4,w5⟩:=hlw9;have hil:=imgS_len hw;have hrl:room.length=sz-64:=(by rw [←hroom];unfold roomS;rw [List.length_take,List.length_drop,hil];omega);have hb:∀x∈room,x<256:=λ x hx=>by rw [←hroom] at hx;exact img_sub x hx
  obtain ⟨w,hwq⟩:∃w,(nm ((room.drop p).take 8))=w:=⟨_,rfl⟩;obtain ⟨m,hmq⟩:∃m,(nm ((room.drop (p+8)).take 8))=m:=⟨_,rfl⟩;have hw8:w<18446744073709551616:=hwq▸nm8_lt λ x hx=>hb x (List.mem_of_mem_drop hx)
  have hm8:m<18446744073709551616:=hmq▸nm8_lt λ x hx=>hb x (List.mem_of_mem_drop hx)
  refine sr ?_;refine tl_x rfl (o_alloc z336 rfl) ?_;rintro _ _ ⟨b4,rfl,rfl⟩;refine Zm ?_;refine tc_seq ?_;refine tc_regq mo kqz ?_;refine Zby ?_;refine Ze0 ?_;refine Zby ?_;refine Zhx ?_;refine ql_v rfl adqz ?_;refine ql_env (d:=25) (v:=(vn (at_+sz))) (by first|rfl|(show Value.int .i64 _=_;congr 1;omega)) ?_;refine Zej ?_;refine Zl ?_;refine Zfh ?_;refine Zu ?_;refine tc_cond rfl (λ h=> ?_) (λ h=> ?_)
  . have hsh:room.length<p+24:=(by first|omega|(simp at h;omega));refine Zg8 ?_;have e0:(readS (s.ls.length*64) at_ sz room p)=none:=(by exact read_short hsh);rw [e0]
    exact ⟨.tuple #[.agg #[.int .i64 0,.slice none 0 0],.int .i64 0,.bool false],R*RDev r s*Sl 1 (.slice none 0 0) 0 [],resA3 rfl (rv_cell a336 sz336 rfl hsqz (by show 2<=2;decide) rfl) (rv_tmp rfl) (rv_tmp rfl),λ _ _ h=>sl_nil (Dr.sat drqz _ _ h),none,0,rfl,Nat.le_refl _,rfl⟩
  have hsh:¬room.length<p+24:=(by first|omega|(simp at h;omega));have hwq2:nm (((imgS s).drop q).take 8)=w:=(by rw [hq,room_sub hroom oqz];exact hwq);have hmq2:nm (((imgS s).drop (q+8)).take 8)=m:=(by rw [hq,show at_+64+p+8=at_+64+(p+8) by omega,room_sub hroom oqz];exact hmq);refine Zeb ?_;refine tl_c rfl (o_call bd315 rfl (rnum_c (s:=s) (q:=q))) ?_;rintro _ _ ⟨rfl,rfl⟩;refine tl_env (d:=33) (v:= .int .u64 (w:Nat)) (by show Value.int .u64 ((nm (((imgS s).drop q).take 8):Nat):Int)=_;rw [hwq2]) ?_;refine Zee ?_;refine tv adqz ?_;refine tl_env (d:=36) (v:=(vn (q+8))) (by first|rfl|(show Value.int .i64 _=_;congr 1;omega)) ?_;refine tl_c rfl (o_call bd315 rfl (rnum_c (s:=s) (q:=q+8))) ?_;rintro _ _ ⟨rfl,rfl⟩;refine tl_env (d:=37) (v:= .int .u64 (m:Nat)) (by show Value.int .u64 ((nm (((imgS s).drop (q+8)).take 8):Nat):Int)=_;rw [hmq2]) ?_;refine Za ?_;refine Zb1 ?_;refine tc_cut (λ ρ BB=>∃ (bb:Bool),(bb=decide (s.ls.length*64<w∨s.ls.length*64<m))/\ ρ 59= .bool bb/\ ρ 0=(pz bk)/\ ρ 1=(vn q)/\ ρ 4=(pz b4)/\ ρ 7=(vn (at_+sz))/\ ρ 8= .int .u64 (w:Nat)/\ ρ 9= .int .u64 (m:Nat)/\ BB=R*RDev r s*pt b4 (cl [.int .i64 0,.slice none 0 0] 336)) ?_ ?_
  . skip
    refine Zb5 ?_;refine tv (o_nilCheck rfl) ?_;refine Zdb ?_;refine Zci ?_;refine tv (o_loadC (b:=r) p3 rfl (by repeat (first|exact cellR0|apply Cell.left))) ?_;refine tv (by first|exact o_conv64 underlying3 underlying141 rfl|exact o_conv underlying3 underlying141 rfl) ?_;refine tl_env (d:=46) (v:= .int .u64 ((s.ls.length*64:Nat):Int)) (congrArg (λ z:Nat=>Value.int .u64 (z:Int)) (Nat.mod_eq_of_lt oqz)) ?_;refine tv (o_gtr rfl rfl) ?_;refine tlm ?_;refine tl_bool (d:=48) rfl (λ h=> ?_) (λ h=> ?_)
    . have g48:(s.ls.length*64<w):=(by first|exact of_decide_eq_true h|(have h2:=h;simp at h2;omega)|simpa using h);refine Zbk ?_;refine Zgi ?_;refine Zbg ?_;exact ⟨_,by first|exact (decide_eq_true oqz).symm|exact (decide_eq_false oqz).symm|(rw [decide_eq_decide];omega),rfl,rfl,rfl,rfl,rfl,rfl,rfl,rfl⟩
    have g48:¬(s.ls.length*64<w):=(by first|exact of_decide_eq_false h|(have h2:=h;simp at h2;omega)|simpa using h);refine Zv ?_;refine tv (o_nilCheck rfl) ?_;refine Zdb ?_;refine Zci ?_;refine tv (o_loadC (b:=r) p3 rfl (by repeat (first|exact cellR0|apply Cell.left))) ?_;refine tv (by first|exact o_conv64 underlying3 underlying141 rfl|exact o_conv underlying3 underlying141 rfl) ?_;refine tl_env (d:=57) (v:= .int .u64 ((s.ls.length*64:Nat):Int)) (congrArg (λ z:Nat=>Value.int .u64 (z:Int)) (Nat.mod_eq_of_lt oqz)) ?_;refine Zg9 ?_;exact ⟨_,by first|exact (decide_eq_true oqz).symm|exact (decide_eq_false oqz).symm|(rw [decide_eq_decide];omega),rfl,rfl,rfl,rfl,rfl,rfl,rfl,rfl⟩
  intro ρ B hI;obtain ⟨bb,hbb0,hE59,hE0,hE1,hE4,hE7,hE8,hE9,rfl⟩:=hI;refine q_then_n ?_;refine te 59 hE59 ?_;refine te 0 hE0 ?_;refine te 1 hE1 ?_;refine te 4 hE4 ?_;refine te 7 hE7 ?_;refine te 8 hE8 ?_;refine te 9 hE9 ?_;refine tc_cond rfl (λ h=> ?_) (λ h=> ?_)
  . have hbig:=of_decide_eq_true (show decide (s.ls.length*64<w∨s.ls.length*64<m)=true by rw [←hbb0];exact h);refine Zg8 ?_;have e0:(readS (s.ls.length*64) at_ sz room p)=none:=(by exact read_may (by rw [hwq,hmq];exact may_big2 hbig));rw [e0]
    exact ⟨.tuple #[.agg #[.int .i64 0,.slice none 0 0],.int .i64 0,.bool false],R*RDev r s*Sl 1 (.slice none 0 0) 0 [],resA3 rfl (rv_cell a336 sz336 rfl hsqz (by show 2<=2;decide) rfl) (rv_tmp rfl) (rv_tmp rfl),λ _ _ h=>sl_nil (Dr.sat drqz _ _ h),none,0,rfl,Nat.le_refl _,rfl⟩
  have hbig:=of_decide_eq_false (show decide (s.ls.length*64<w∨s.ls.length*64<m)=false by rw [←hbb0];exact h);have hxw:XW ((w:Int),(m:Int)):=⟨by show-9223372036854775808<=(w:Int)/\ (w:Int)<=9223372036854775807;omega,by show-9223372036854775808<=(m:Int)/\ (m:Int)<=9223372036854775807;omega⟩;refine Zb9 ?_;refine tv (o_conv underlying141 underlying3 rfl) ?_;refine tl_env (d:=62) (v:=(vn w)) (by show Value.int .i64 (IntKind.i64.wrap _)=_;rw [wr_i64 oqz]) ?_;refine Zg4 ?_;refine tl_env (d:=64) (v:=(vn m)) (by show Value.int .i64 (IntKind.i64.wrap _)=_;rw [wr_i64 oqz]) ?_;refine Zgd ?_;rintro _ _ ⟨b10,rfl,rfl⟩;refine tl_u rfl (o_stUN (l':=xcs ((w:Int),(m:Int))) rfl upqz sz365 rfl rfl rfl (by show 2<=2;decide) rfl) ?_;refine Zh3 ?_;refine tv (o_loadN (vs:=xcs ((w:Int),(m:Int))) a365 sz365 rfl hsqz (by show 2<=2;decide) rfl) ?_;refine tl_c rfl (o_call bd316 rfl (rMay11_c (s:=s) (x:=((w:Int),(m:Int))) (hl:=by repeat (first|assumption|apply has_left)))) ?_;refine Zb7 ?_;refine nq ?_;refine tc_cond rfl (λ h=> ?_) (λ h=> ?_)
  . have hmy:mayX (s.ls.length*64) at_ sz ((w:Int),(m:Int))=false:=(by simpa using h);refine Zg8 ?_;have e0:(readS (s.ls.length*64) at_ sz room p)=none:=(by exact read_may (by rw [hwq,hmq];exact hmy));rw [e0]
    exact ⟨.tuple #[.agg #[.int .i64 0,.slice none 0 0],.int .i64 0,.bool false],R*RDev r s*Sl 1 (.slice none 0 0) 0 [],resA3 rfl (rv_cell a336 sz336 rfl hsqz (by show 2<=2;decide) rfl) (rv_tmp rfl) (rv_tmp rfl),λ _ _ h=>sl_nil (Dr.sat drqz _ _ h),none,0,rfl,Nat.le_refl _,rfl⟩
  have hmy:mayX (s.ls.length*64) at_ sz ((w:Int),(m:Int))=true:=(by simpa using h);have hm1:1<=m:=(by rcases Nat.lt_or_ge m 1 with h9|h9;rw [may_zero1 h9] at hmy;exact absurd hmy (by decide);exact h9);have hup:=up8_le m;refine Zgy ?_;refine Zcb ?_;refine tl_c rfl (o_call bd339 rfl (rRound8_c (n:=m))) ?_;refine Zdu ?_;refine tl_env (d:=75) (v:=(vn (up8 m))) (by show Value.int .i64 (rndS m).1=_;rw [rnd_small oqz]) ?_;refine tv (o_extract rfl rfl) ?_;refine Zbo ?_;refine Zv ?_;refine tv (o_subI rfl rfl oqz) ?_;refine Zc7 ?_;refine nq ?_;refine tc_cond rfl (λ h=> ?_) (λ h=> ?_)
  . have hnr:room.length<p+(24+up8 m):=(by first|omega|(simp at h;omega));refine Zg8 ?_;have e0:(readS (s.ls.length*64) at_ sz room p)=none:=(by exact read_need (by rw [hmq];exact hnr));rw [e0]
    exact ⟨.tuple #[.agg #[.int .i64 0,.slice none 0 0],.int .i64 0,.bool false],R*RDev r s*Sl 1 (.slice none 0 0) 0 [],resA3 rfl (rv_cell a336 sz336 rfl hsqz (by show 2<=2;decide) rfl) (rv_tmp rfl) (rv_tmp rfl),λ _ _ h=>sl_nil (Dr.sat drqz _ _ h),none,0,rfl,Nat.le_refl _,rfl⟩
  have hnr:¬room.length<p+(24+up8 m):=(by first|omega|(simp at h;omega));obtain ⟨old,hold⟩:∃old,((room.drop (p+24)).take m)=old:=⟨_,rfl⟩;have holl:old.length=m:=(by rw [←hold,List.length_take,List.length_drop];omega);have hob:∀x∈old,x<256:=λ x hx=>hb x (List.mem_of_mem_drop (List.mem_of_mem_take (hold.symm▸hx)))
  have hold2:((imgS s).drop (q+24)).take m=old:=(by rw [hq,show at_+64+p+24=at_+64+(p+24) by omega,room_sub hroom oqz];exact hold);have htk2:((imgS s).drop q).take (24+up8 m)=(room.drop p).take (24+up8 m):=(by rw [hq,room_sub hroom oqz]);refine Zdv ?_;refine tc_regh (S:=R*pt b4 (cl [.int .i64 0,.slice none 0 0] 336)*pt b10 (cl (xcs ((w:Int),(m:Int))) 365)) mo drqz ?_
  show TH _ _ _ _ _ 14 (Array.replicate 14 false) _ _
  refine Zbz ?_;refine tm 2 rfl kqz rfl (o_fieldAddr (o:=0) underlying267 rfl rfl sz47 rfl) ?_;refine tm 3 rfl kqz rfl (o_load p47 rfl haqz rfl) ?_;refine tm 4 rfl kqz rfl (o_move wqz) ?_;refine tm 5 rfl kqz rfl adqz ?_;refine th_env (d:=90) (v:=(vn (q+24))) (by first|rfl|(show Value.int .i64 _=_;congr 1;omega)) ?_;refine tm 6 rfl kqz rfl (o_fieldAddr (o:=1) underlying365 rfl rfl sz3 rfl) ?_;refine tm 7 rfl kqz rfl (by first|exact o_load p3 rfl hsqz rfl|exact o_loadC p3 rfl (by assumption)) ?_;refine th_one (i:=8) kqz ?_;refine oh_c rfl rfl rfl (o_call bd276 rfl (rLoad_c (s:=s) (p:=q+24) (m:=m))) ?_;rintro _ _ ⟨a93,c93,rfl,hc93,rfl⟩;refine ⟨by repeat (first|with_reducible exact dr_refl|apply dr_keep|apply dr_drop), ?_⟩;rw [hold2]
  refine tm 9 rfl kqz rfl (o_move wqz) ?_;refine Zfx ?_;refine tm 12 rfl kqz rfl (o_assign wqz) ?_;refine tm 13 rfl kqz rfl (o_assign wqz) ?_;refine Zbs ?_;refine Z1 ?_;refine Zdb ?_;refine Zv ?_;refine tv adqz ?_;refine tl_env (d:=103) (v:=(vn (24+up8 m))) (by first|rfl|(show Value.int .i64 _=_;congr 1;omega)) ?_;refine tl_c rfl (o_call bd276 rfl (rLoad_c (s:=s) (p:=q) (m:=24+up8 m))) ?_;rintro _ _ ⟨a104,c104,rfl,hc104,rfl⟩;rw [htk2]
  refine Zc3 ?_;refine Zbw ?_;refine tlm ?_;refine tl_c rfl (o_call bd318 rfl (rRec_c (p:=w) (m:=m) (xs:=old) (hr:=(by repeat (first|with_reducible exact rs_sl|assumption|apply Rs.left))) (hm:=holl))) ?_;rintro _ _ ⟨a111,c111,rfl,hc111,rfl⟩;refine tl_c rfl (o_call bd54 rfl (EqBytes_c (xs:=(room.drop p).take (24+up8 m)) (ys:=recS w old) (h1:=(by repeat (first|with_reducible exact rs_sl|assumption|apply Rs.left))) (h2:=(by repeat (first|with_reducible exact rs_sl|assumption|apply Rs.left))) (hx:=by rw [List.length_take,List.length_drop];omega) (hy:=by rw [recS_len,holl]))) ?_;refine Zb7 ?_;refine nq ?_;refine tc_cond rfl (λ h=> ?_) (λ h=> ?_)
  . have hne:recS w old≠(room.drop p).take (24+up8 m):=λ e=>by rw [e] at h;simp at h
    refine Zg8 ?_;have e0:(readS (s.ls.length*64) at_ sz room p)=none:=(by exact read_bad hwq hmq (by rw [hold];exact hne));rw [e0]
    exact ⟨.tuple #[.agg #[.int .i64 0,.slice none 0 0],.int .i64 0,.bool false],R*RDev r s*Sl 1 (.slice none 0 0) 0 [],resA3 rfl (rv_cell a336 sz336 rfl hsqz (by show 2<=2;decide) rfl) (rv_tmp rfl) (rv_tmp rfl),λ _ _ h=>sl_nil (Dr.sat drqz _ _ h),none,0,rfl,Nat.le_refl _,rfl⟩
  have heq:recS w old=(room.drop p).take (24+up8 m):=(show (room.drop p).take (24+up8 m)=recS w old by simpa using h).symm;refine Zgy ?_;refine Zbw ?_;refine Zhe ?_;refine tlm ?_;refine tv adqz ?_;refine tl_env (d:=120) (v:=(vn (24+up8 m))) (by first|rfl|(show Value.int .i64 _=_;congr 1;omega)) ?_;refine tl_u rfl (o_stUN (l':=[.int .i64 (w:Int),.slice a93 m c93]) rfl upqz sz336 rfl rfl rfl (by show 2<=2;decide) rfl) ?_;refine Zy ?_;have e0:(readS (s.ls.length*64) at_ sz room p)=some ((w,old),24+up8 m):=(by rw [←hold];exact read_good hwq hmq hsh hmy hnr (by rw [hold];exact heq));rw [e0]
  exact ⟨.tuple #[.agg #[.int .i64 (w:Int),.slice a93 m c93],vn (24+up8 m),.bool true],R*RDev r s*Sl 1 (.slice a93 m c93) m (bys old),resA3 rfl (rv_cell a336 sz336 rfl hsqz (by show 2<=2;decide) rfl) (rv_tmp rfl) (rv_tmp rfl),Dr.sat drqz,a93,c93,by show _=Value.tuple #[.agg #[.int .i64 (w:Int),.slice a93 old.length c93],_,_];rw [holl];rfl,by show old.length<=c93;rw [holl];exact hc93,by show _=R*RDev r s*Sl 1 (.slice a93 old.length c93) old.length (bys old);rw [holl]⟩
end Go.Vl

namespace Go.Vl
open Go Go.Proofs Go.Proofs.Tryz
theorem recsF_big {n at_ sz:Nat}{room:List Nat}:∀{k p:Nat},p<=room.length->room.length<p+k->recsF n at_ sz room k p=([],110)
  |0,p,h1,h2=>by omega
  |k+1,p,h1,h2=>by
    have e:recsF n at_ sz room (k+1) p=match readS n at_ sz room p with
      |none=>([],110)
      |some (x,t)=>if (recsF n at_ sz room k (p+t)).2≠0 then ([],110) else (x::(recsF n at_ sz room k (p+t)).1,0):=rfl
    rw [e]
    cases hr:readS n at_ sz room p with
    |none=>rfl
    |some y=>
      have h3:=read_room (x:=y.1) (t:=y.2) hr;have h4:recsF n at_ sz room k (p+y.2)=([],110):=recsF_big oqz oqz
      simp only []
      rw [h4,if_pos (by decide)]
attribute [local irreducible] crk crL crc Sl pt ro Dev RDev imgS recS readS recsF rdW rdO rkT Parts rvl recordsS
theorem rRecords_c {A R:SP}{C:SP->SP}{r:Nat}{s:DevS}(hc:Ct A (RDev r s) R C:=by exact cbqz){bk at_ sz:Nat}(hl:Has R bk (cl (lcs11 r at_ sz) 267):=by exact hbqz)(hlw:LogW (s.ls.length*64) at_ sz:=by assumption):
    Fn Tryz.prog 322 #[pz bk] A (λ r_ B=>∃a2 c2 vs,r_= .tuple #[.slice a2 (recordsS at_ sz s).1.length c2,.int .i64 (recordsS at_ sz s).2]/\ (recordsS at_ sz s).1.length<=c2/\ vs.length=(recordsS at_ sz s).1.length/\ B=C (RDev r s)*Parts vs ((recordsS at_ sz s).1.map (·.2))*Sl 2 (.slice a2 (recordsS at_ sz s).1.length c2) (recordsS at_ sz s).1.length (kcl (recordsS at_ sz s).1 vs)):=by
  refine fn_enterW func322 rfl ntmps322 (by simp) ?_;refine tc_have (λ _ _ h=>wfR_ct hc h) λ hw=> ?_
  have htop:=hw.top;have hpos:=hw.pos;obtain ⟨rfl,hC⟩:=hc;have hAC:∀g w,sat g w (R*RDev r s)->sat g w (C (RDev r s)):=λ g w h=>by rw [hC];exact h
  have hlw9:=hlw;obtain ⟨w1,w2,w3,w4,w5⟩:=hlw9;refine Zdh ?_;refine tv (o_nilCheck rfl) ?_;refine Zdb ?_;refine Zfp ?_;refine tv (o_loadC (b:=r) p4 rfl (by repeat (first|exact cellR5|apply Cell.left))) ?_;refine nq ?_;refine tc_cond rfl (sbq ?_) (λ h=> ?_)
  . intro h;refine Zfa ?_;have e0:recordsS at_ sz s=([],5):=(by unfold recordsS;rw [if_pos h]);rw [e0]
    exact ⟨.tuple #[.slice none 0 0,.int .i64 (5)],C (RDev r s)*Parts [] []*Sl 2 (.slice none 0 0) 0 [],res2 rfl rfl rfl,λ _ _ h=>sl_nil (show sat _ _ (C (RDev r s)*Parts [] []) by rw [hC,show Parts [] []=emp by unfold Parts;rfl,star_emp];exact Dr.sat (A':=R*RDev r s) drqz _ _ h),none,0,[],rfl,Nat.le_refl _,rfl,rfl⟩
  have ho:s.off=false:=(by simpa using h);have hw2:=word_in (p:=at_) ho oqz oqz;obtain ⟨v,hv⟩:∃v,(wordP (at_:Nat) s).1=v:=⟨_,rfl⟩;have hvl:v<18446744073709551616:=(by rw [←hv,hw2];exact nm8_lt λ x hx=>img_lt x (List.mem_of_mem_drop hx));have hv2:nm (((imgS s).drop at_).take 8)=v:=(by rw [←hv,hw2]);obtain ⟨room,hroom⟩:∃room,roomS at_ sz s=room:=⟨_,rfl⟩;have hil:=imgS_len hw;have hrl:room.length=sz-64:=(by rw [←hroom];unfold roomS;rw [List.length_take,List.length_drop,hil];omega);have hrec:recordsS at_ sz s=recsF (s.ls.length*64) at_ sz room v 0:=(by unfold recordsS;rw [if_neg (by rw [ho];decide),hv,hroom]);refine Zeb ?_;refine tv (o_nilCheck rfl) ?_;refine tv (o_fieldAddr (o:=1) underlying267 rfl rfl sz3 rfl) ?_;refine tv (o_load p3 rfl haqz rfl) ?_;refine tl_c rfl (o_call bd315 rfl (rnum_c (s:=s) (q:=at_))) ?_;rintro _ _ ⟨rfl,rfl⟩;refine tl_env (d:=23) (v:= .int .u64 (v:Nat)) (by show Value.int .u64 ((nm (((imgS s).drop at_).take 8):Nat):Int)=_;rw [hv2]) ?_;refine Zds ?_;refine Zdj ?_;refine tv (o_fieldAddr (o:=2) underlying267 rfl rfl sz3 rfl) ?_;refine tv (o_load p3 rfl haqz rfl) ?_;refine tv (by first|exact o_conv64 underlying3 underlying141 rfl|exact o_conv underlying3 underlying141 rfl) ?_;refine tl_env (d:=29) (v:= .int .u64 ((sz:Nat):Int)) (congrArg (λ z:Nat=>Value.int .u64 (z:Int)) (Nat.mod_eq_of_lt oqz)) ?_;refine Zd4 ?_;refine tc_cond rfl (λ h=> ?_) (λ h=> ?_)
  . have hbig:sz<v:=(by first|omega|(simp at h;omega));refine Zfa ?_;have e0:recordsS at_ sz s=([],110):=(by rw [hrec];exact recsF_big oqz oqz);rw [e0]
    exact ⟨.tuple #[.slice none 0 0,.int .i64 (110)],C (RDev r s)*Parts [] []*Sl 2 (.slice none 0 0) 0 [],res2 rfl rfl rfl,λ _ _ h=>sl_nil (show sat _ _ (C (RDev r s)*Parts [] []) by rw [hC,show Parts [] []=emp by unfold Parts;rfl,star_emp];exact Dr.sat (A':=R*RDev r s) drqz _ _ h),none,0,[],rfl,Nat.le_refl _,rfl,rfl⟩
  have hbig:¬sz<v:=(by first|omega|(simp at h;omega));refine Ze ?_;refine Zh1 ?_;refine tv (o_fieldAddr (o:=1) underlying267 rfl rfl sz3 rfl) ?_;refine tv (o_load p3 rfl haqz rfl) ?_;refine tv adqz ?_;refine tl_env (d:=35) (v:=(vn (at_+64+0))) (by first|rfl|(show Value.int .i64 _=_;congr 1;omega)) ?_;refine Zeh ?_;refine Zfe ?_;refine tc_pre (A':=R*RDev r s*Parts [] []*Sl 2 (.slice none 0 0) 0 []) (λ _ _ h=>sl_nil (show sat _ _ (R*RDev r s*Parts [] []) by rw [show Parts [] []=emp by unfold Parts;rfl,star_emp];exact h)) ?_;refine tc_loop (λ kk ρ BB=>∃ (i:Nat) (p:Nat) (D:List (Nat×List Nat)) (vs:List Value) (a5:Option Addr) (c5:Nat),(cat D (recsF (s.ls.length*64) at_ sz room (v-i) p)=recordsS at_ sz s)/\ (p<=sz-64)/\ (D.length=i)/\ (vs.length=i)/\ (i<=c5)/\ (i<=v)/\ (24*i<=p)/\ kk=v-i/\ ρ 5= .slice a5 i c5/\ ρ 6=(vn (at_+64+p))/\ ρ 7=(vn i)/\ ρ 0=(pz bk)/\ ρ 4= .int .u64 (v:Nat)/\ Dr BB (R*RDev r s*Parts vs (D.map (·.2))*Sl 2 (.slice a5 i c5) i (kcl D vs))) (m:=v-(0)) ?_ ?_
  . exact ⟨0,0,[],[],none,0,by rw [hrec,cat_nil,Nat.sub_zero],by omega,rfl,rfl,by omega,by omega,by omega,rfl,rfl,rfl,rfl,rfl,rfl,drqz⟩
  intro k ρ B hI;obtain ⟨i,p,D,vs,a5,c5,hp0,hp1,hp2,hp3,hp4,hp5,hp6,hkk1,hE5,hE6,hE7,hE0,hE4,hBA⟩:=hI;refine tc_pre hBA.sat ?_;clear hBA;refine te 5 hE5 ?_;refine te 6 hE6 ?_;refine te 7 hE7 ?_;refine te 0 hE0 ?_;refine te 4 hE4 ?_;refine Zl ?_;refine Zg4 ?_;refine tl_env (d:=38) (v:=(vn v)) (by show Value.int .i64 (IntKind.i64.wrap _)=_;rw [wr_i64 oqz]) ?_;refine Zu ?_;refine tc_cond rfl (λ h=> ?_) (λ h=> ?_)
  . have hj:i<v:=(by first|omega|(simp at h;omega));refine Zbp ?_;refine Zbj ?_;refine tl_c rfl (o_call bd344 rfl (rread_c (s:=s) (q:=at_+64+p) (p:=p) (room:=room))) ?_;rintro _ _ ⟨a45,c45,rfl,hc45,rfl⟩;refine Zdc ?_;refine tl_x rfl (o_alloc z336 rfl) ?_;rintro _ _ ⟨b8,rfl,rfl⟩;refine tl_u rfl (o_stUN (l':=[.int .i64 ((rdW (readS (s.ls.length*64) at_ sz room p):Nat):Int),(.slice a45 (rdO (readS (s.ls.length*64) at_ sz room p)).length c45)]) rfl upqz sz336 rfl rfl rfl (by show 2<=2;decide) rfl) ?_;refine Zbo ?_;refine Zh0 ?_;refine tc_cond rfl (λ h=> ?_) (λ h=> ?_)
    . have hrd:(readS (s.ls.length*64) at_ sz room p)=none:=(by rcases hq9:(readS (s.ls.length*64) at_ sz room p) with _|x;rfl;rw [hq9] at h;simp at h);refine sr ?_;refine Zct ?_;have e0:recordsS at_ sz s=([],110):=(by rw [←hp0,recs_none hrd oqz]);rw [e0]
      exact ⟨.tuple #[.slice none 0 0,.int .i64 (110)],C (RDev r s)*Parts [] []*Sl 2 (.slice none 0 0) 0 [],res2 rfl rfl rfl,λ _ _ h=>sl_nil (show sat _ _ (C (RDev r s)*Parts [] []) by rw [hC,show Parts [] []=emp by unfold Parts;rfl,star_emp];exact Dr.sat (A':=R*RDev r s) drqz _ _ h),none,0,[],rfl,Nat.le_refl _,rfl,rfl⟩
    have hrd:=rd_some (o:=(readS (s.ls.length*64) at_ sz room p)) (by simpa using h);have hrm:=read_room hrd;refine Zb9 ?_;refine tv (o_loadN (vs:=[.int .i64 ((rdW (readS (s.ls.length*64) at_ sz room p):Nat):Int),(.slice a45 (rdO (readS (s.ls.length*64) at_ sz room p)).length c45)]) a336 sz336 rfl hsqz (by show 2<=2;decide) rfl) ?_;refine tl_x rfl (o_buildSliceK (k:=2) (l:=[.int .i64 ((rdW (readS (s.ls.length*64) at_ sz room p):Nat):Int),(.slice a45 (rdO (readS (s.ls.length*64) at_ sz room p)).length c45)]) underlying259 sz336 z336 rfl rfl (by decide)) ?_;rintro _ _ ⟨b53,rfl,rfl⟩;refine tl_x rfl (o_apB underlying259 underlying259 sz336 by336 z336 rfl (by decide) (by decide) rfl rfl rfl ctqz rfl rfl oqz (show _=kcl (D++[(rdW (readS (s.ls.length*64) at_ sz room p),rdO (readS (s.ls.length*64) at_ sz room p))]) (vs++[(.slice a45 (rdO (readS (s.ls.length*64) at_ sz room p)).length c45)]) by rw [kcl_snoc oqz])) ?_;rintro _ _ ⟨a54,c54,rfl,hc54,rfl⟩;have hps:Parts (vs++[(.slice a45 (rdO (readS (s.ls.length*64) at_ sz room p)).length c45)]) ((D++[(rdW (readS (s.ls.length*64) at_ sz room p),rdO (readS (s.ls.length*64) at_ sz room p))]).map (·.2))=Parts vs (D.map (·.2))*Sl 1 (.slice a45 (rdO (readS (s.ls.length*64) at_ sz room p)).length c45) (rdO (readS (s.ls.length*64) at_ sz room p)).length (bys (rdO (readS (s.ls.length*64) at_ sz room p))):=(by rw [List.map_append];exact parts_snoc (by rw [List.length_map];omega));refine tl_eq (show _=R*RDev r s*Parts (vs++[(.slice a45 (rdO (readS (s.ls.length*64) at_ sz room p)).length c45)]) ((D++[(rdW (readS (s.ls.length*64) at_ sz room p),rdO (readS (s.ls.length*64) at_ sz room p))]).map (·.2))*Sl 2 (.slice a54 (i+1) c54) (i+1) (kcl (D++[(rdW (readS (s.ls.length*64) at_ sz room p),rdO (readS (s.ls.length*64) at_ sz room p))]) (vs++[(.slice a45 (rdO (readS (s.ls.length*64) at_ sz room p)).length c45)]))*pt b8 (cl ([.int .i64 ((rdW (readS (s.ls.length*64) at_ sz room p):Nat):Int),(.slice a45 (rdO (readS (s.ls.length*64) at_ sz room p)).length c45)]:List Value) 336) by rw [hps];ac_rfl) ?_;refine Zhu ?_;refine tv adqz ?_;refine tl_env (d:=57) (v:= .int .i64 ((at_+64+(p+rkT (readS (s.ls.length*64) at_ sz room p)):Nat):Int)) (by first|rfl|(show Value.int .i64 _=_;congr 1;omega)) ?_;refine Zg6 ?_;refine Zh5 ?_;exact ⟨_,by omega,i+1,_,D++[(rdW (readS (s.ls.length*64) at_ sz room p),rdO (readS (s.ls.length*64) at_ sz room p))],vs++[(.slice a45 (rdO (readS (s.ls.length*64) at_ sz room p)).length c45)],a54,c54,by rw [show v-(i+1)=v-i-1 by omega,←recs_some hrd oqz];exact hp0,by omega,by rw [List.length_append,hp2];rfl,by rw [List.length_append,hp3];rfl,hc54,by omega,by omega,rfl,rfl,rfl,rfl,rfl,rfl,drqz⟩
  obtain rfl:i=v:=by first|omega|(simp at h;omega)
  refine Zgj ?_;have e0:recordsS at_ sz s=(D,0):=(by rw [←hp0,Nat.sub_self];unfold recsF cat;rw [if_neg (by simp),List.append_nil]);rw [e0]
  exact ⟨.tuple #[.slice a5 i c5,.int .i64 0],R*RDev r s*Parts vs (D.map (·.2))*Sl 2 (.slice a5 i c5) i (kcl D vs),res2 rfl rfl rfl,Dr.sat drqz,a5,c5,vs,by rw [hp2],by rw [hp2];exact hp4,by rw [hp3];exact hp2.symm,by rw [hC];simp only [];rw [hp2]⟩
end Go.Vl

namespace Go.Vl
open Go Go.Proofs Go.Proofs.Tryz
def sizedL (n:Nat)(xs:List Nat):List Nat:=xs.take n++List.replicate (n-xs.length) 0
attribute [local irreducible] Sl pt ro Dev imgS fromS
structure WdC where
  a:Option Addr
  c:Nat
  b:List Nat
  q:Int
  v:Int
  af:Int
  kq:Int
def WdC.cells (t:WdC):List Value:=[.slice t.a t.b.length t.c,.int .i64 t.q,.int .u64 t.v,.int .i64 t.af,.int .i64 t.kq]
def PWord (A:SP)(cs:List Value)(t:WdC):Prop:=cs=t.cells/\ Rs A t.a (bys t.b)/\ (∀x∈t.b,x<256)/\ t.b.length<=t.c/\ t.b.length<=140737488351232/\ 0<=t.v/\ t.v<18446744073709551616
end Go.Vl

namespace Go.Vl
open Go Go.Proofs Go.Proofs.Tryz
structure Gd (n k:Nat) (s:DevS):Prop where
  len:s.ls.length=n
  room:Room k s
  wf:WfD s
theorem Gd.le {n a b:Nat}{s:DevS}(h:Gd n a s)(hab:b<=a):Gd n b s:=⟨h.len,room_le h.room hab,h.wf⟩
abbrev TF:=Nat->Option (Nat×Bool)
def tf0:TF:=λ _=>none
def layF (p:Nat)(xs:List Nat)(fr:Bool)(f:TF):TF:=λ a=>if p<=a/\ a<p+xs.length then some (xs.getD (a-p) 0,((f a).map (·.2)).getD fr) else f a
def byF (f:TF)(a:Nat):Nat:=((f a).map (·.1)).getD 0
def isK (f:TF)(k:Bool)(a:Nat):Bool:=decide ((f a).map (·.2)=some k)
def adrF (n:Nat)(k:Bool)(f:TF):List Nat:=(List.range n).filter (isK f k)
def runA (f:TF)(out:List (Nat×List Nat))(a:Nat):List (Nat×List Nat):=
  match out.getLast? with
  |some r=>if r.1+r.2.length=a then out.dropLast++[(r.1,r.2++[byF f a])] else out++[(a,[byF f a])]
  |none=>[(a,[byF f a])]
def runsL (f:TF)(l:List Nat):List (Nat×List Nat):=l.foldl (runA f) []
def runsF (n:Nat)(k:Bool)(f:TF):List (Nat×List Nat):=runsL f (adrF n k f)
def extX (l:List (Nat×List Nat)):List (Int×Int):=l.map λ r=>((r.1:Int),(r.2.length:Int))
def ovF (f:TF)(p:Nat)(xs:List Nat):List Nat:=xs.mapIdx λ i x=>((f (p+i)).map (·.1)).getD x
theorem ovF_len (f:TF)(p:Nat)(xs:List Nat):(ovF f p xs).length=xs.length:=by simp [ovF]
def stoL:List (Nat×List Nat)->DevS->Int×DevS
  |[],s=>(0,s)
  |r::l,s=>if (sto (r.1:Nat) r.2 s).1≠0 then sto (r.1:Nat) r.2 s else stoL l (sto (r.1:Nat) r.2 s).2
def linR:List (Nat×List Nat)->Nat->List Nat
  |[],_=>[]
  |r::l,d=>(List.range ((r.1+r.2.length-1)/64+1-max (r.1/64) d)).map (λ j=>max (r.1/64) d+j)++linR l (max d ((r.1+r.2.length-1)/64+1))
def flLs:List Nat->DevS->Int×DevS
  |[],s=>(0,s)
  |q::l,s=>if (fl1 ((q*64:Nat):Int) s).1≠0 then fl1 ((q*64:Nat):Int) s else flLs l (fl1 ((q*64:Nat):Int) s).2
def writeT (l:List (Nat×List Nat))(s:DevS):Int×DevS:=if (stoL l s).1≠0 then stoL l s else flLs (linR l 0) (stoL l s).2
def comS (at_ sz n:Nat)(f:TF)(s:DevS):(Int×Bool)×DevS:=
  if (writeT (runsF n true f) s).1≠0 then (((writeT (runsF n true f) s).1,true),(writeT (runsF n true f) s).2)
  else if runsF n false f=[] then
    if runsF n true f=[] then ((0,true),(writeT (runsF n true f) s).2) else (((fe (writeT (runsF n true f) s).2).1,true),(fe (writeT (runsF n true f) s).2).2)
  else if (writeS at_ sz (extX (runsF n false f)) (writeT (runsF n true f) s).2).1≠0 then
    (((writeS at_ sz (extX (runsF n false f)) (writeT (runsF n true f) s).2).1,decide ((writeS at_ sz (extX (runsF n false f)) (writeT (runsF n true f) s).2).1=5)),(writeS at_ sz (extX (runsF n false f)) (writeT (runsF n true f) s).2).2)
  else if (writeT (runsF n false f) (writeS at_ sz (extX (runsF n false f)) (writeT (runsF n true f) s).2).2).1≠0 then
    (((writeT (runsF n false f) (writeS at_ sz (extX (runsF n false f)) (writeT (runsF n true f) s).2).2).1,true),(writeT (runsF n false f) (writeS at_ sz (extX (runsF n false f)) (writeT (runsF n true f) s).2).2).2)
  else if (fe (writeT (runsF n false f) (writeS at_ sz (extX (runsF n false f)) (writeT (runsF n true f) s).2).2).2).1≠0 then
    (((fe (writeT (runsF n false f) (writeS at_ sz (extX (runsF n false f)) (writeT (runsF n true f) s).2).2).2).1,true),(fe (writeT (runsF n false f) (writeS at_ sz (extX (runsF n false f)) (writeT (runsF n true f) s).2).2).2).2)
  else (((clearS at_ (fe (writeT (runsF n false f) (writeS at_ sz (extX (runsF n false f)) (writeT (runsF n true f) s).2).2).2).2).1,true),(clearS at_ (fe (writeT (runsF n false f) (writeS at_ sz (extX (runsF n false f)) (writeT (runsF n true f) s).2).2).2).2).2)
def encC (c:Nat×Bool):Value:= .agg #[.int .u8 (c.1:Nat),.bool c.2]
structure MF (M:MS) (n:Nat) (f:TF):Prop where
  wf:WfM M
  get:∀a:Nat,M.get (a:Int)=(f a).map encC
  keys:∀e∈M.D,∃a:Nat,a<n/\ e.k=(a:Int)
  out:∀a,n<=a->f a=none
  by_:∀a c,f a=some c->c.1<256
theorem mf_nil (c n:Nat):MF ⟨[],c⟩ n tf0:=⟨⟨(by simp),(by simp),λ e h=>(by cases h)⟩,λ a=>rfl,λ e h=>(by cases h),λ _ _=>rfl,λ a c h=>(by cases h)⟩
theorem layF_nil (p:Nat)(fr:Bool)(f:TF):layF p [] fr f=f:=by
  funext a;unfold layF;rw [if_neg (by simp only [List.length_nil];omega)]
theorem layF_snoc {p:Nat}{xs:List Nat}{x:Nat}{fr:Bool}{f:TF}:layF p (xs++[x]) fr f=λ a=>if a=p+xs.length then some (x,((layF p xs fr f a).map (·.2)).getD fr) else layF p xs fr f a:=by
  funext a
  unfold layF
  simp only [List.length_append,List.length_singleton]
  by_cases h:a=p+xs.length
  . subst h;rw [if_pos oqz,if_pos rfl,if_neg oqz,show p+xs.length-p=xs.length by omega]
    simp [List.getD]
  rw [if_neg h]
  by_cases h2:p<=a/\ a<p+xs.length
  . rw [if_pos oqz,if_pos h2]
    congr 2
    simp only [List.getD_eq_getElem?_getD]
    rw [List.getElem?_append_left oqz]
  rw [if_neg oqz,if_neg h2]
theorem mf_put {M:MS}{n a:Nat}{f:TF}{x:Nat}{b:Bool}(h:MF M n f)(ha:a<n)(hx:x<256):MF (M.put (a:Int) (encC (x,b))) n (λ c=>if c=a then some (x,b) else f c):=by
  refine ⟨wfM_put h.wf,λ c=> ?_,λ e he=> ?_,λ c hc=> ?_,λ c v hv=> ?_⟩
  . rw [MS.get_put]
    by_cases hc:c=a
    . subst hc;rw [if_pos rfl];simp
    rw [if_neg oqz,if_neg hc];exact h.get c
  . unfold MS.put at he
    split at he
    . rename_i i u hf
      have hk:∃e'∈M.D,e'.k=e.k:=by
        obtain ⟨j,hj,rfl⟩:=List.mem_iff_getElem.1 he
        simp only [List.length_modify] at hj
        refine ⟨M.D[j],List.getElem_mem _, ?_⟩
        simp only [List.getElem_modify]
        split<;>rfl
      obtain ⟨e',h1,h2⟩:=hk;rw [←h2];exact h.keys e' h1
    rcases List.mem_append.1 he with he|he
    . exact h.keys e he
    rw [List.mem_singleton.1 he];exact ⟨a,ha,rfl⟩
  . simp only [if_neg (show c≠a by omega)];exact h.out c hc
  by_cases hc:c=a
  . simp only [if_pos hc,Option.some.injEq] at hv;rw [←hv];exact hx
  simp only [if_neg hc] at hv;exact h.by_ c v hv
theorem mfind_mem:∀{D:List ME} {e:ME},(D.map ME.k).Nodup->e∈D->∃i,mfind D e.k 0=some (i,e.v)
  |x::D,e,hn,he=>by
    simp only [List.map_cons,List.nodup_cons] at hn
    rw [mfind_cons]
    rcases List.mem_cons.1 he with rfl|he
    . exact ⟨0,by rw [if_pos rfl]⟩
    have hne:e.k≠x.k:=λ h=>hn.1 (h▸List.mem_map_of_mem he)
    obtain ⟨i,hi⟩:=mfind_mem hn.2 he;exact ⟨i+1,by rw [if_neg hne,mfind_i,hi];rfl⟩
theorem get_mem {M:MS}{e:ME}(hw:WfM M)(he:e∈M.D):M.get e.k=some e.v:=by
  obtain ⟨i,hi⟩:=mfind_mem hw.keys he
  unfold MS.get;rw [hi];rfl
def kys (f:TF)(k:Bool)(l:List ME):List Int:=(l.filter λ e=>isK f k e.k.toNat).map ME.k
def scQ (l:Nat)(K:Env->SP->Prop)(Q:Post):Post
  | .goto l',ρ,A=>l'=l/\ K ρ A
  |e,ρ,A=>Q e ρ A
section
variable {P:Program} {n:Nat} {ρ:Env} {A:SP} {Q:Post} {K:Env->SP->Prop} {l:Nat}
theorem q_sc_r (h:Q .ret ρ A):scQ l K Q .ret ρ A:=h
theorem tc_scope {c rest:Code}(K:Env->SP->Prop)(hf:findLabel c l=some (.seq .skip rest))(hk:∀ρ A,K ρ A->TC P n rest (scQ l (λ _ _=>False) Q) ρ A)
    (h:(∀ρ A,K ρ A->TC P n rest (scQ l (λ _ _=>False) Q) ρ A)->TC P n c (scQ l K Q) ρ A):TC P n (.scope c) Q ρ A:=λ g a w ha hs=>by
  refine wp_scope_jumps l (λ a w=>∃ρ A,Agr n ρ a/\ sat g w A/\ K ρ A) (λ _ _=>0) hf ?_ ?_
  . refine wp_mono (h hk g a w ha hs) λ e a' w' ⟨hok,ρ',A',ha',hs',hq⟩=> ?_
    cases e with
    |goto l'=>exact ⟨hq.1,ρ',A',ha',hs',hq.2⟩
    |normal=>exact ⟨hok,ρ',A',ha',hs',hq⟩
    |exit id=>exact ⟨hok,ρ',A',ha',hs',hq⟩
    |ret=>exact ⟨hok,ρ',A',ha',hs',hq⟩
    |panic ch=>exact ⟨hok,ρ',A',ha',hs',hq⟩
    |outgrown=>exact ⟨hok,ρ',A',ha',hs',hq⟩
  rintro a w ⟨ρ,A,ha,hs,hK⟩;refine wp_mono ((tc_seq (tc_skip (hk ρ A hK)):TC P n (.seq .skip rest) (scQ l (λ _ _=>False) Q) ρ A) g a w ha hs) λ e a' w' ⟨hok,ρ',A',ha',hs',hq⟩=> ?_
  cases e with
  |goto l'=>exact hq.2.elim
  |normal=>exact ⟨hok,ρ',A',ha',hs',hq⟩
  |exit id=>exact ⟨hok,ρ',A',ha',hs',hq⟩
  |ret=>exact ⟨hok,ρ',A',ha',hs',hq⟩
  |panic ch=>exact ⟨hok,ρ',A',ha',hs',hq⟩
  |outgrown=>exact ⟨hok,ρ',A',ha',hs',hq⟩
theorem tc_fall {rest:Code}(hk:∀ρ A,K ρ A->TC P n rest (scQ l (λ _ _=>False) Q) ρ A)(h:K ρ A):TC P n (.seq (.label l) rest) (scQ l K Q) ρ A:=by
  refine tc_seq (tc_label ?_)
  show TC P n rest (scQ l K Q) ρ A
  exact tc_imp (hk ρ A h) λ e ρ A hq=>by
    cases e with
    |goto l'=>exact hq.2.elim
    |_=>exact hq
end
def pocs (lg d:Nat)(ov:Option Nat):List Value:=[pz d,pz lg,.pointer (ov.map λ t=>(⟨t,0,none⟩:Addr))]
def txcs (p mb:Nat)(over:Bool):List Value:=[pz p,.map (some mb),.bool over]
def stpS (at_ sz:Nat)(s:DevS):Int:=if (recordsS at_ sz s).2=0/\ (recordsS at_ sz s).1≠[] then 3 else (recordsS at_ sz s).2
def idlS (s:DevS)(ov:Option Nat):Int:=if s.off=true then 5 else if ov.isSome then 3 else 0
theorem rec_err {at_ sz:Nat}{s:DevS}:(recordsS at_ sz s).2=0∨(recordsS at_ sz s).2=5∨(recordsS at_ sz s).2=110:=by
  unfold recordsS
  split
  . exact .inr (.inl rfl)
  rcases Classical.em ((recsF (s.ls.length*64) at_ sz (roomS at_ sz s) (wordP (at_:Nat) s).1 0).2=0) with h|h
  . exact .inl h
  rw [recs_err h];exact .inr (.inr rfl)
attribute [local irreducible] crk crL crc Sl pt ro Dev imgS recS readS recsF rdW rdO rkT Parts rvl recordsS
theorem made12_c {A:SP}{d:Nat}{p lg:Nat}{ov:Option Nat}(hp:Has A p (cl (pocs lg d ov) 263):=by exact hbqz):
    Fn Tryz.prog 249 #[pz p] A (λ r B=>r= .bool true/\ A=B):=by
  refine fn_enterW func249 rfl ntmps249 (by simp) ?_;refine Zdr ?_;refine tv (o_nep underlying163 rfl rfl) ?_;refine tlm ?_;refine tl_bool (d:=5) rfl (sbq ?_) dbq;intro h;refine Zdj ?_;refine tv (o_fieldAddr (o:=0) underlying263 rfl rfl sz44 rfl) ?_;refine tv (o_load p44 rfl hp rfl) ?_;refine tv (o_nep underlying44 rfl rfl) ?_;refine Zem ?_;exact ⟨.bool true,_,res1 rfl rfl,Dr.sat drqz,rfl,rfl⟩
theorem Ze6 {p r:Prop}(k:r)(h:Kq r->p:=by intro k;refine Ze ?_;refine Z1 ?_;exact k.o):p:=h ⟨k⟩
theorem Size12_c {A R:SP}{C:SP->SP}{d:Nat}{s:DevS}(hc:Ct A (Dev d s) R C:=by exact cbqz){p lg:Nat}{ov:Option Nat}(hp:Has A p (cl (pocs lg d ov) 263):=by exact hbqz):
    Fn Tryz.prog 171 #[pz p] A (λ r B=>r= .int .i64 ((s.ls.length:Int)*64)/\ A=B):=by
  refine fn_enterW func171 rfl ntmps171 (by simp) ?_;refine Zdd ?_;refine tl_c rfl (o_call bd249 rfl (made12_c (hp:=hp))) ?_;refine Zb7 ?_;refine Zn ?_;intro h;refine Ze6 ?_;refine tv (o_fieldAddr (o:=0) underlying263 rfl rfl sz44 rfl) ?_;refine tv (o_load p44 rfl hp rfl) ?_;refine tl_c rfl (o_call bd155 rfl (Size_c (hc:=hc))) ?_;rintro _ _ ⟨rfl,rfl⟩;refine Zbd ?_;exact ⟨_,_,res1 rfl rfl,Dr.sat drqz,rfl,rfl⟩
theorem Zeo {p r:Prop}(k:r)(h:Kq r->p:=by intro k;refine Zbe ?_;refine Zm ?_;exact k.o):p:=h ⟨k⟩
theorem State12_c {A R:SP}{C:SP->SP}{d:Nat}{s:DevS}(hc:Ct A (Dev d s) R C:=by exact cbqz){p lg:Nat}{ov:Option Nat}(hp:Has A p (cl (pocs lg d ov) 263):=by exact hbqz){at_ sz:Nat}(hl:Has R lg (cl (lcs11 d at_ sz) 258):=by exact hbqz)(hlw:LogW (s.ls.length*64) at_ sz:=by assumption):
    Fn Tryz.prog 293 #[pz p] A (λ r B=>r= .int .i64 (stpS at_ sz s)/\ A=B):=by
  refine fn_enterW func293 rfl ntmps293 (by simp) ?_;obtain ⟨L,e0,hL⟩:∃L e0,recordsS at_ sz s=(L,e0):=⟨_,_,rfl⟩;have hst:stpS at_ sz s=if e0=0/\ L≠[] then 3 else e0:=(by unfold stpS;rw [hL]);refine Zdd ?_;refine tl_c rfl (o_call bd249 rfl (made12_c (hp:=hp))) ?_;refine Zb7 ?_;refine Zn ?_;intro h;refine Ze6 ?_;refine tv (o_fieldAddr (o:=1) underlying263 rfl rfl sz160 rfl) ?_;refine tv (o_load p160 rfl hp rfl) ?_;refine tl_c rfl (o_call bd170 rfl (Records_w (hc:=hc) (hl:=hl) (hlw:=hlw) (hX:=hL))) ?_;rintro _ _ ⟨a13,c13,vs,rfl,hc13,hvs,rfl⟩;have hA9:C (Dev d s)=A:=(by rw [hc.2];exact hc.1.symm);rw [hA9]
  refine Zeo ?_;refine Zb1 ?_;refine tc_cut (λ ρ BB=>∃ (bb:Bool),(bb=decide (e0=0/\ L≠[]))/\ ρ 22= .bool bb/\ ρ 4= .int .i64 e0/\ Dr BB (A)) ?_ ?_
  . skip
    refine Zbq ?_;refine tv (o_eqi rfl rfl) ?_;refine tlm ?_;refine tl_bool (d:=18) rfl (λ h=> ?_) (λ h=> ?_)
    . have g18:(e0=0):=(by first|exact of_decide_eq_true h|(have h2:=h;simp at h2;omega)|simpa using h);refine tlm ?_;refine tv (o_len underlying259 rfl) ?_;refine tv (o_gtr rfl rfl) ?_;refine Zbg ?_;exact ⟨_,by first|(rw [decide_eq_decide];exact ⟨λ h9=>⟨g18,λ e=>by subst e;simp at h9⟩,λ h9=>by have:=List.length_pos_iff.2 h9.2;omega⟩)|exact (decide_eq_false λ h9=>g18 h9.1).symm,rfl,rfl,drqz⟩
    have g18:¬(e0=0):=(by first|exact of_decide_eq_false h|(have h2:=h;simp at h2;omega)|simpa using h);refine Zc2 ?_;refine Zbx ?_;exact ⟨_,by first|(rw [decide_eq_decide];exact ⟨λ h9=>⟨g18,λ e=>by subst e;simp at h9⟩,λ h9=>by have:=List.length_pos_iff.2 h9.2;omega⟩)|exact (decide_eq_false λ h9=>g18 h9.1).symm,rfl,rfl,drqz⟩
  intro ρ B hI;obtain ⟨bb,hbb0,hE22,hE4,hBA⟩:=hI;refine q_then_n ?_;refine tc_pre hBA.sat ?_;clear hBA;refine te 22 hE22 ?_;refine te 4 hE4 ?_;refine tc_cond rfl (sbq ?_) (sbq ?_)
  . intro h;refine Zf4 ?_;rw [h] at hbb0
    have h9:=of_decide_eq_true hbb0.symm;rw [hst,if_pos h9]
    exact ⟨.int .i64 3,_,res1 rfl rfl,Dr.sat drqz,rfl,rfl⟩
  intro h;refine Zb9 ?_;refine Zbd ?_;rw [h] at hbb0
  have h9:=of_decide_eq_false hbb0.symm;rw [hst,if_neg h9]
  exact ⟨.int .i64 e0,_,res1 rfl rfl,Dr.sat drqz,rfl,rfl⟩
theorem idle12_c {A R:SP}{C:SP->SP}{d:Nat}{s:DevS}(hc:Ct A (Dev d s) R C:=by exact cbqz){p lg:Nat}{ov:Option Nat}(hp:Has A p (cl (pocs lg d ov) 263):=by exact hbqz):
    Fn Tryz.prog 292 #[pz p] A (λ r B=>r= .int .i64 (idlS s ov)/\ A=B):=by
  refine fn_enterW func292 rfl ntmps292 (by simp) ?_;refine Zs ?_;refine Zx ?_;refine Zb ?_;refine tl_c rfl (o_call bd249 rfl (made12_c (hp:=hp))) ?_;refine Zb7 ?_;refine Zgv ?_;intro h;refine Z1 ?_;refine tv (o_fieldAddr (o:=0) underlying263 rfl rfl sz44 rfl) ?_;refine tv (o_load p44 rfl hp rfl) ?_;refine tl_c rfl (o_call bd262 rfl (Off_c (hc:=hc))) ?_;refine Zgo ?_;refine tc_cond rfl (sbq ?_) (λ h=> ?_)
  . intro h;refine Zcv ?_;refine q_block_r (q_then_r ?_);have e:idlS s ov=5:=(by unfold idlS;rw [if_pos h]);rw [e]
    exact ⟨.int .i64 5,_,res1 rfl rfl,Dr.sat drqz,rfl,rfl⟩
  have ho:s.off=false:=(by simpa using h);refine Z1 ?_;refine tv (o_fieldAddr (o:=2) underlying263 rfl rfl sz122 rfl) ?_;refine tv (o_load p122 rfl hp rfl) ?_;refine tv (o_nep underlying122 rfl rfl) ?_;refine Za ?_;refine tc_cond rfl (sbq ?_) (sbq ?_)
  . intro h;refine Zcv ?_;refine q_block_r (q_then_r ?_);have e:idlS s ov=3:=(by unfold idlS;rw [if_neg (by rw [ho];decide),if_pos (by cases ov<;>simp at h ⊢)]);rw [e]
    exact ⟨.int .i64 3,_,res1 rfl rfl,Dr.sat drqz,rfl,rfl⟩
  intro h;refine Zf8 ?_;refine Zcv ?_;have e:idlS s ov=0:=(by unfold idlS;rw [if_neg (by rw [ho];decide),if_neg (by cases ov<;>simp at h ⊢)]);rw [e]
  exact ⟨.int .i64 0,_,res1 rfl rfl,Dr.sat drqz,rfl,rfl⟩
theorem Zfo {p r:Prop}(k:r)(h:Kq r->p:=by intro k;refine tv (o_nilCheck rfl) ?_;refine tv (o_fieldAddr (o:=0) underlying263 rfl rfl sz44 rfl) ?_;exact k.o):p:=h ⟨k⟩
theorem begun12_c {A R:SP}{C:SP->SP}{d:Nat}{s:DevS}(hc:Ct A (Dev d s) R C:=by exact cbqz){p lg:Nat}{ov:Option Nat}(hp:Has A p (cl (pocs lg d ov) 263):=by exact hbqz){t mb:Nat}(ht:Has A t (cl (txcs p mb false) 298):=by exact hbqz)(ho:s.off=false:=by assumption):
    Fn Tryz.prog 205 #[pz t] A (λ r B=>r= .int .i64 0/\ A=B):=by
  refine fn_enterW func205 rfl ntmps205 (by simp) ?_;refine Zs ?_;refine Zx ?_;refine Zb ?_;refine tv (o_eqp underlying122 rfl rfl) ?_;refine tlm ?_;refine tl_bool (d:=6) rfl dbq (sbq ?_);intro h;refine Zdj ?_;refine tv (o_fieldAddr (o:=0) underlying298 rfl rfl sz163 rfl) ?_;refine tv (o_load p163 rfl ht rfl) ?_;refine tv (o_eqp underlying163 rfl rfl) ?_;refine tv (o_pick_f rfl wqz) ?_;refine Zgv ?_;intro h;refine Z1 ?_;refine tv (o_fieldAddr (o:=2) underlying298 rfl rfl sz4 rfl) ?_;refine tv (o_load p4 rfl ht rfl) ?_;refine Zgv ?_;intro h;refine Z1 ?_;refine tv (o_fieldAddr (o:=0) underlying298 rfl rfl sz163 rfl) ?_;refine tv (o_load p163 rfl ht rfl) ?_;refine Zfo ?_;refine tv (o_load p44 rfl hp rfl) ?_;refine tl_c rfl (o_call bd262 rfl (Off_c (hc:=hc))) ?_;refine Zgo ?_;refine tc_cond rfl (λ h=> ?_) (sbq ?_)
  . exfalso;rw [ho] at h;simp at h
  intro h;refine Zf8 ?_;refine Zcv ?_;exact ⟨.int .i64 0,_,res1 rfl rfl,Dr.sat drqz,rfl,rfl⟩
end Go.Vl

namespace Go.Vl
open Go Go.Proofs Go.Proofs.Tryz
def TxA (t p lg d mb at_ sz:Nat)(M:MS)(over:Bool)(s:DevS):SP:=pt p (cl (pocs lg d (if over then none else some t)) 263)*pt lg (cl (lcs11 d at_ sz) 258)*Dev d s*pt t (cl (txcs p mb over) 298)*pt mb (mpo .i64 M)
def cel0 (c:Nat×Bool):List Value:=[.int .u8 ((c.1:Nat):Int),.bool c.2]
theorem mf_lay {M:MS}{n q i x:Nat}{xs:List Nat}{fr:Bool}{f:TF}(h:MF M n (layF q (xs.take i) fr f))(hi:i<xs.length)(hx:xs[i]=x)(hb:x<256)(hn:q+i<n):
    MF (M.put ((q+i:Nat):Int) (encC (x,(((layF q (xs.take i) fr f (q+i)).map (·.2)).getD fr)))) n (layF q (xs.take (i+1)) fr f):=by
  have e:layF q (xs.take (i+1)) fr f=λ c=>if c=q+i then some (x,((layF q (xs.take i) fr f (q+i)).map (·.2)).getD fr) else layF q (xs.take i) fr f c:=by
    rw [List.take_succ_eq_append_getElem hi,layF_snoc,hx]
    funext c
    rw [List.length_take,Nat.min_eq_left oqz]
    by_cases hc:c=q+i
    . subst hc;rw [if_pos rfl]
    rw [if_neg hc,if_neg hc]
  rw [e]
  exact mf_put h hn hb
theorem layF_zero (q:Nat)(fr:Bool)(f:TF)(xs:List Nat):layF q (xs.take 0) fr f=f:=layF_nil q fr f
attribute [local irreducible] crk crL crc Sl pt ro Dev imgS recS readS recsF rdW rdO rkT Parts rvl recordsS
theorem New12_c {A R:SP}{C:SP->SP}{d:Nat}{s:DevS}(hc:Ct A (Dev d s) R C:=by exact cbqz){lg:Nat}{at_ sz:Nat}(hl:Has R lg (cl (lcs11 d at_ sz) 258):=by exact hbqz)(hlw:LogW (s.ls.length*64) at_ sz:=by assumption):
    Fn Tryz.prog 85 #[pz d,pz lg] A (λ r B=>∃p,r= .tuple #[pz p,.int .i64 0]/\ B=A*pt p (cl (pocs lg d none) 263)):=by
  refine fn_enterW func85 rfl ntmps85 (by simp) ?_;obtain ⟨L,e0,hL⟩:∃L e0,recordsS at_ sz s=(L,e0):=⟨_,_,rfl⟩;have he0:e0≠1:=(by have h9:=rec_err (at_:=at_) (sz:=sz) (s:=s);rw [hL] at h9;simp only [] at h9;omega);refine tc_have (λ _ _ h=>ct_wf2 hc h) λ hwf=> ?_
  have htop:=hwf.top;have hpos:=hwf.pos;refine Zdh ?_;refine tl_c rfl (o_call bd155 rfl (Size_c (hc:=hc))) ?_;rintro _ _ ⟨rfl,rfl⟩;refine tv (o_eqi rfl rfl) ?_;refine Zn ?_;intro h;refine Zc4 ?_;refine tl_c rfl (o_call bd170 rfl (Records_w (hc:=hc) (hl:=hl) (hlw:=hlw) (hX:=hL))) ?_;rintro _ _ ⟨a13,c13,vs,rfl,hc13,hvs,rfl⟩;have hA9:C (Dev d s)=A:=(by rw [hc.2];exact hc.1.symm);rw [hA9]
  refine Zey ?_;refine Zcr ?_;refine tc_cond rfl (λ h=> ?_) (sbq ?_)
  . exfalso;first|exact he0 (of_decide_eq_true h)|(simp at h;omega)
  intro h;refine Zeb ?_;refine tv (o_bS (l:=[_,_,_]) (pv_cons wqz (pv_cons wqz pv_nil)) underlying263 z263 (pl263 underlying263) rfl) ?_;refine tl_x rfl (o_box rfl rfl) ?_;rintro _ _ ⟨b21,rfl,rfl⟩;refine Zy ?_;exact ⟨_,_,res2 rfl rfl rfl,Dr.sat drqz,b21,rfl,rfl⟩
theorem Begin12_ok {A R:SP}{C:SP->SP}{p lg d at_ sz:Nat}{s:DevS}(hA:A=R*pt p (cl (pocs lg d none) 263)*pt lg (cl (lcs11 d at_ sz) 258)*Dev d s)(hlw:LogW (s.ls.length*64) at_ sz)(ho:s.off=false)(hst:stpS at_ sz s=0):
    Fn Tryz.prog 250 #[pz p] A (λ r B=>∃t mb,r= .tuple #[pz t,.int .i64 0]/\ B=R*TxA t p lg d mb at_ sz ⟨[],0⟩ false s):=by
  refine fn_enterW func250 rfl ntmps250 (by simp) ?_;subst hA;refine Zdh ?_;refine tl_c rfl (o_call bd292 rfl (idle12_c (s:=s))) ?_;refine Zd1 ?_;refine Zbv ?_;refine tc_cond rfl (λ h=> ?_) (sbq ?_)
  . exfalso;unfold idlS at h;rw [if_neg (by rw [ho];decide)] at h;simp at h
  intro h;refine Zc4 ?_;refine tl_c rfl (o_call bd293 rfl (State12_c (s:=s))) ?_;refine Zd1 ?_;refine Zbv ?_;refine tc_cond rfl (λ h=> ?_) (sbq ?_)
  . exfalso;rw [hst] at h;simp at h
  intro h;refine Zeb ?_;refine tl_x rfl (o_makeMap (ik:= .i64) underlying296) ?_;rintro _ _ ⟨b18,rfl,rfl⟩;refine tv (o_bS (l:=[_,_,_]) (pv_cons wqz (pv_cons wqz pv_nil)) underlying298 z298 (pl298 underlying298) rfl) ?_;refine tl_x rfl (o_box rfl rfl) ?_;rintro _ _ ⟨b20,rfl,rfl⟩;refine tv (o_nilCheck rfl) ?_;refine tv (o_fieldAddr (o:=2) underlying263 rfl rfl sz122 rfl) ?_;refine tl_u rfl (o_stU (l':=pocs lg d (some b20)) rfl upqz sz122 rfl rfl (by show 2<3;decide) rfl) ?_;refine nq ?_;refine Z1 ?_;refine tv (o_fieldAddr (o:=2) underlying263 rfl rfl sz122 rfl) ?_;refine tv (by first|exact o_load p122 rfl hsqz rfl|exact o_loadC p122 rfl (by assumption)) ?_;refine Zy ?_;exact ⟨_,_,res2 rfl rfl rfl,λ g w h=>(Dr.sat (A':=R*pt p (cl (pocs lg d (some b20)) 263)*pt lg (cl (lcs11 d at_ sz) 258)*Dev d s*pt b18 (mpo .i64 ⟨[],0⟩)*pt b20 (cl (txcs p b18 false) 298)) drqz g w h).perm (by unfold TxA;rw [if_neg (by decide)];ac_rfl),b20,b18,rfl,rfl⟩
theorem Zg3 {p r:Prop}(k:r)(h:Kq r->p:=by intro k;refine Zc4 ?_;refine tv (o_nilCheck rfl) ?_;exact k.o):p:=h ⟨k⟩
theorem Zh9 {p r:Prop}(k:r)(h:Kq r->p:=by intro k;refine tv (o_fieldAddr (o:=0) underlying298 rfl rfl sz163 rfl) ?_;refine tv (o_load p163 rfl hsqz rfl) ?_;exact k.o):p:=h ⟨k⟩
theorem Zia {p r:Prop}(k:r)(h:Kq r->p:=by intro k;refine tv (o_fieldAddr (o:=1) underlying298 rfl rfl sz296 rfl) ?_;refine tv (o_load p296 rfl hsqz rfl) ?_;exact k.o):p:=h ⟨k⟩
theorem lay12_c {A R:SP}{C:SP->SP}{t p lg d mb at_ sz:Nat}{M:MS}{s:DevS}(hc:Ct A (TxA t p lg d mb at_ sz M false s) R C:=by exact cbqz){n:Nat}{f:TF}{fr:Bool}{a:Option Addr}{c m q:Nat}{xs:List Nat}(hM:MF M n f)(hn:n=s.ls.length*64:=by omega)(ho:s.off=false:=by assumption)(hr:Rs R a (bys xs):=by exact rbqz)(hm:xs.length=m:=by first|assumption|rfl)(hb:∀x∈xs,x<256:=by assumption)(hqm:q+m<=n:=by omega):
    Fn Tryz.prog 255 #[pz t,vn q,.slice a m c,.bool fr] A (λ r B=>∃M2,r= .int .i64 0/\ MF M2 n (layF q xs fr f)/\ B=C (TxA t p lg d mb at_ sz M2 false s)):=by
  refine fn_enterW func255 rfl ntmps255 (by simp) ?_;obtain ⟨rfl,hC⟩:=hc;refine tc_eq (show _=R*pt p (cl (pocs lg d (some t)) 263)*pt lg (cl (lcs11 d at_ sz) 258)*Dev d s*pt t (cl (txcs p mb false) 298)*pt mb (mpo .i64 M) by unfold TxA;rw [if_neg (by decide)];ac_rfl) ?_;refine tc_have (λ _ _ h=>ct_wf2 ctqz h) λ hwf=> ?_
  have htop:=hwf.top;refine Zdd ?_;refine tl_c rfl (o_call bd205 rfl (begun12_c (s:=s))) ?_;refine Zd1 ?_;refine Zz ?_;intro h;refine Zg3 ?_;refine Zh9 ?_;refine Zfo ?_;refine tv (o_load p44 rfl hsqz rfl) ?_;refine tl_c rfl (o_call bd155 rfl (Size_c (s:=s))) ?_;refine Zd1 ?_;refine Zc0 ?_;refine tl_bool (d:=30) rfl dbq (sbq ?_);intro h;refine Zv ?_;refine Zdy ?_;refine tl_bool (d:=35) rfl dbq (sbq ?_);intro h;refine Zdw ?_;refine Zv ?_;refine Zc7 ?_;refine Zcc ?_;intro h;refine Zc4 ?_;refine Zev ?_;refine tc_loop (λ kk ρ BB=>∃ (i:Nat) (M1:MS),(i<=m)/\ (MF M1 n (layF q (xs.take i) fr f))/\ kk=m-i/\ ρ 45=(vn i)/\ ρ 0=(pz t)/\ ρ 1=(vn q)/\ ρ 3= .bool fr/\ ρ 43= .slice a m c/\ ρ 44=(vn m)/\ Dr BB (R*pt p (cl (pocs lg d (some t)) 263)*pt lg (cl (lcs11 d at_ sz) 258)*Dev d s*pt t (cl (txcs p mb false) 298)*pt mb (mpo .i64 M1))) (m:=m-(0)) ?_ ?_
  . exact ⟨0,M,by omega,by rw [layF_zero];exact hM,rfl,rfl,rfl,rfl,rfl,rfl,rfl,drqz⟩
  intro k ρ B hI;obtain ⟨i,M1,hp0,hp1,hkk1,hE45,hE0,hE1,hE3,hE43,hE44,hBA⟩:=hI;refine tc_pre hBA.sat ?_;clear hBA;refine te 45 hE45 ?_;refine te 0 hE0 ?_;refine te 1 hE1 ?_;refine te 3 hE3 ?_;refine te 43 hE43 ?_;refine te 44 hE44 ?_;refine Zcg ?_;refine tc_cond rfl (λ h=> ?_) (λ h=> ?_)
  . have hi:i<xs.length:=(by simp at h;omega);obtain ⟨x,hx1⟩:∃x,xs[i]=x:=⟨_,rfl⟩;have hx8:x<256:=hx1▸hb _ (List.getElem_mem hi)
    have hlay:=mf_lay hp1 hi hx1 hx8 oqz;have hget:=hp1.get (q+i);obtain ⟨o,ho9⟩:∃o,layF q (xs.take i) fr f (q+i)=o:=⟨_,rfl⟩;rw [ho9] at hlay hget
    refine Ze9 ?_;refine tv (o_ixP1 underlying67 sz5 rfl rfl sq2z sq1z) ?_;refine tv (o_ldP p5 rfl (by repeat (first|exact hr|apply Rs.left)) (bys_at hi)) ?_;refine tl_env (d:=49) (v:= .int .u8 ((x:Nat):Int)) (by show Value.int .u8 ((xs[i]:Nat):Int)=_;rw [hx1]) ?_;refine Zm ?_;refine Z1 ?_;refine Zia ?_;refine Zv ?_;refine tv adqz ?_;refine tl_env (d:=57) (v:=(vn (q+i))) (by first|rfl|(show Value.int .i64 _=_;congr 1;omega)) ?_;refine tv (o_lookupOk (ik:= .i64) underlying296 underlying3 z360 rfl rfl hsqz) ?_;refine tl_env (d:=58) (v:= .tuple #[.agg (cel0 (o.getD (0,false))).toArray,.bool o.isSome]) (by show Value.tuple #[(M1.get ((q+i:Nat):Int)).getD _,.bool (M1.get ((q+i:Nat):Int)).isSome]=_;rw [hget];cases o<;>rfl) ?_;refine Zbe ?_;refine tl_x rfl (o_alloc z360 rfl) ?_;rintro _ _ ⟨b13,rfl,rfl⟩;refine tl_u rfl (o_stUN (l':=cel0 (o.getD (0,false))) rfl upqz sz360 rfl rfl rfl (by show 2<=2;decide) rfl) ?_;refine Zds ?_;refine Zh0 ?_;refine tc_cut (λ ρ BB=>ρ 0=(pz t)/\ ρ 1=(vn q)/\ ρ 3= .bool fr/\ ρ 11=(vn i)/\ ρ 12= .int .u8 ((x:Nat):Int)/\ ρ 13=(pz b13)/\ ρ 43= .slice a m c/\ ρ 44=(vn m)/\ ρ 45=(vn i)/\ BB=R*pt p (cl (pocs lg d (some t)) 263)*pt lg (cl (lcs11 d at_ sz) 258)*Dev d s*pt t (cl (txcs p mb false) 298)*pt mb (mpo .i64 M1)*pt b13 (cl [.int .u8 (((o.getD (0,false)).1:Nat):Int),.bool ((o.map (·.2)).getD fr)] 360)) ?_ ?_
    . skip
      refine tc_cond rfl (λ h=> ?_) (λ h=> ?_)
      . obtain rfl:o=none:=by cases o<;>simp at h ⊢
        refine Zbq ?_;refine tv (o_fieldAddr (o:=1) underlying360 rfl rfl sz4 rfl) ?_;refine tl_u rfl (o_stU (l':=[.int .u8 0,.bool fr]) rfl upqz sz4 rfl rfl (by show 1<2;decide) rfl) ?_;refine tl_nil ?_;exact ⟨rfl,rfl,rfl,rfl,rfl,rfl,rfl,rfl,rfl,rfl⟩
      obtain ⟨c0,rfl⟩:∃c0,o=some c0:=by cases o<;>simp at h ⊢
      refine tc_skip ?_;exact ⟨rfl,rfl,rfl,rfl,rfl,rfl,rfl,rfl,rfl,rfl⟩
    intro ρ B hI;obtain ⟨hE0,hE1,hE3,hE11,hE12,hE13,hE43,hE44,hE45,rfl⟩:=hI;refine q_then_n ?_;refine te 0 hE0 ?_;refine te 1 hE1 ?_;refine te 3 hE3 ?_;refine te 11 hE11 ?_;refine te 12 hE12 ?_;refine te 13 hE13 ?_;refine te 43 hE43 ?_;refine te 44 hE44 ?_;refine te 45 hE45 ?_;refine Zb ?_;refine tv (o_fieldAddr (o:=0) underlying360 rfl rfl sz5 rfl) ?_;refine tl_u rfl (o_stU (l':=cel0 (x,(o.map (·.2)).getD fr)) rfl upqz sz5 rfl rfl (by show 0<2;decide) rfl) ?_;refine nq ?_;refine tc_regh (S:=R*pt p (cl (pocs lg d (some t)) 263)*pt lg (cl (lcs11 d at_ sz) 258)*Dev d s*pt t (cl (txcs p mb false) 298)*pt b13 (cl (cel0 (x,(o.map (·.2)).getD fr)) 360)) mo drqz ?_
    show TH _ _ _ _ _ 9 (Array.replicate 9 false) _ _
    refine Zbz ?_;refine tm 2 rfl kqz rfl (o_fieldAddr (o:=1) underlying298 rfl rfl sz296 rfl) ?_;refine tm 3 rfl kqz rfl (o_load p296 rfl hsqz rfl) ?_;refine tm 4 rfl kqz rfl (o_move wqz) ?_;refine tm 5 rfl kqz rfl (o_move wqz) ?_;refine tm 6 rfl kqz rfl adqz ?_;refine th_env (d:=73) (v:=(vn (q+i))) (by first|rfl|(show Value.int .i64 _=_;congr 1;omega)) ?_;refine tm 7 rfl kqz rfl (o_loadN (vs:=cel0 (x,(o.map (·.2)).getD fr)) a360 sz360 rfl hsqz (by show 2<=2;decide) rfl) ?_;refine th_one (i:=8) kqz ?_;refine oh_u rfl rfl rfl (o_mapUpdate (ik:= .i64) (M:=M1) (v:=encC (x,(o.map (·.2)).getD fr)) underlying296 underlying3 rfl upqz rfl rfl rfl) drqz ?_;refine th_done kqz ?_;refine Zc6 ?_;exact ⟨_,by omega,i+1,_,by omega,hlay,rfl,rfl,rfl,rfl,rfl,rfl,rfl,drqz⟩
  obtain rfl:i=m:=by simp at h;omega
  rw [List.take_of_length_le (show xs.length<=i by omega)] at hp1
  refine Zk ?_;refine Zcv ?_;exact ⟨.int .i64 0,C (TxA t p lg d mb at_ sz M1 false s),res1 rfl rfl,(λ g w h=>by rw [hC];exact (Dr.sat (A':=R*pt p (cl (pocs lg d (some t)) 263)*pt lg (cl (lcs11 d at_ sz) 258)*Dev d s*pt t (cl (txcs p mb false) 298)*pt mb (mpo .i64 M1)) drqz g w h).perm (by unfold TxA;rw [if_neg (by decide)];ac_rfl)),M1,rfl,hp1,rfl⟩
end Go.Vl

namespace Go.Vl
open Go Go.Proofs Go.Proofs.Tryz
def adjB (out:List (Nat×List Nat))(a:Nat):Bool:=match out.getLast? with
  |some r=>decide (r.1+r.2.length=a)
  |none=>false
attribute [local irreducible] crk crL crc Sl pt ro Dev imgS recS readS recsF rdW rdO rkT Parts rvl recordsS runsL adrF kcl kys runA
end Go.Vl

namespace Go.Vl
open Go Go.Proofs Go.Proofs.Tryz
theorem sq0z {p:Prop}(h:p:=by repeat (first|with_reducible exact rs_sl|apply Rs.left)):p:=h
def ovK (f:TF)(q i:Nat)(xs:List Nat):List Nat:=xs.mapIdx λ j x=>if j<i then ((f (q+j)).map (·.1)).getD x else x
theorem ovK_len (f:TF)(q i:Nat)(xs:List Nat):(ovK f q i xs).length=xs.length:=by simp [ovK]
theorem ovK_zero (f:TF)(q:Nat)(xs:List Nat):ovK f q 0 xs=xs:=by
  apply List.ext_getElem?;intro j;unfold ovK;rw [List.getElem?_mapIdx]
  cases xs[j]? <;>simp
theorem ovK_all (f:TF)(q:Nat)(xs:List Nat):ovK f q xs.length xs=ovF f q xs:=by
  apply List.ext_getElem?;intro j;unfold ovK ovF;rw [List.getElem?_mapIdx,List.getElem?_mapIdx]
  cases h:xs[j]? with
  |none=>rfl
  |some x=>obtain ⟨hj,_⟩:=List.getElem?_eq_some_iff.1 h;simp only [Option.map_some];rw [if_pos hj]
theorem ovK_none {f:TF}{q i:Nat}{xs:List Nat}(h:f (q+i)=none):ovK f q (i+1) xs=ovK f q i xs:=by
  apply List.ext_getElem?;intro j;unfold ovK;rw [List.getElem?_mapIdx,List.getElem?_mapIdx]
  cases xs[j]? with
  |none=>rfl
  |some x=>
    simp only [Option.map_some]
    by_cases hj:j=i
    . subst hj;rw [if_pos oqz,if_neg oqz,h];rfl
    by_cases h2:j<i
    . rw [if_pos (show j<i+1 by omega),if_pos h2]
    rw [if_neg (show¬j<i+1 by omega),if_neg h2]
theorem ovK_some {f:TF}{q i:Nat}{xs:List Nat}{c:Nat×Bool}(h:f (q+i)=some c)(hi:i<xs.length):(ovK f q i xs).set i c.1=ovK f q (i+1) xs:=by
  apply List.ext_getElem?;intro j
  rw [List.getElem?_set,ovK_len]
  unfold ovK;rw [List.getElem?_mapIdx,List.getElem?_mapIdx]
  by_cases hj:i=j
  . subst hj;rw [if_pos rfl,if_pos hi,List.getElem?_eq_getElem hi]
    simp only [Option.map_some];rw [if_pos oqz,h];rfl
  rw [if_neg hj]
  cases xs[j]? with
  |none=>rfl
  |some x=>
    simp only [Option.map_some]
    by_cases h2:j<i
    . rw [if_pos (show j<i+1 by omega),if_pos h2]
    rw [if_neg (show¬j<i+1 by omega),if_neg h2]
attribute [local irreducible] crk crL crc Sl pt ro Dev imgS recS readS recsF rdW rdO rkT Parts rvl recordsS runsL adrF kcl xcl kys runA runsF layF
theorem StoreT_c {A R:SP}{C:SP->SP}{t p lg d mb at_ sz:Nat}{M:MS}{s:DevS}(hc:Ct A (TxA t p lg d mb at_ sz M false s) R C:=by exact cbqz){n:Nat}{f:TF}{a:Option Addr}{c m q:Nat}{xs:List Nat}(hM:MF M n f)(hn:n=s.ls.length*64:=by omega)(ho:s.off=false:=by assumption)(hr:Rs R a (bys xs):=by exact rbqz)(hm:xs.length=m:=by first|assumption|rfl)(hb:∀x∈xs,x<256:=by assumption)(hqm:q+m<=n:=by omega):
    Fn Tryz.prog 186 #[pz t,vn q,.slice a m c] A (λ r B=>∃M2,r= .int .i64 0/\ MF M2 n (layF q xs false f)/\ B=C (TxA t p lg d mb at_ sz M2 false s)):=by
  refine fn_enterW func186 rfl ntmps186 (by simp) ?_;refine Zdr ?_;refine Zv ?_;refine tl_c rfl (o_call bd255 rfl (lay12_c (hc:=hc) (n:=n) (f:=f) (fr:=false) (xs:=xs) (hM:=hM) (hn:=hn) (ho:=ho) (hr:=hr) (hm:=hm) (hb:=hb) (hqm:=hqm))) ?_;rintro _ _ ⟨M2,rfl,hM2,rfl⟩;refine Zbd ?_;exact ⟨.int .i64 0,_,res1 rfl rfl,λ _ _ h=>h,M2,rfl,hM2,rfl⟩
theorem FreshT_c {A R:SP}{C:SP->SP}{t p lg d mb at_ sz:Nat}{M:MS}{s:DevS}(hc:Ct A (TxA t p lg d mb at_ sz M false s) R C:=by exact cbqz){n:Nat}{f:TF}{a:Option Addr}{c m q:Nat}{xs:List Nat}(hM:MF M n f)(hn:n=s.ls.length*64:=by omega)(ho:s.off=false:=by assumption)(hr:Rs R a (bys xs):=by exact rbqz)(hm:xs.length=m:=by first|assumption|rfl)(hb:∀x∈xs,x<256:=by assumption)(hqm:q+m<=n:=by omega):
    Fn Tryz.prog 187 #[pz t,vn q,.slice a m c] A (λ r B=>∃M2,r= .int .i64 0/\ MF M2 n (layF q xs true f)/\ B=C (TxA t p lg d mb at_ sz M2 false s)):=by
  refine fn_enterW func187 rfl ntmps187 (by simp) ?_;refine Zdr ?_;refine Zv ?_;refine tl_c rfl (o_call bd255 rfl (lay12_c (hc:=hc) (n:=n) (f:=f) (fr:=true) (xs:=xs) (hM:=hM) (hn:=hn) (ho:=ho) (hr:=hr) (hm:=hm) (hb:=hb) (hqm:=hqm))) ?_;rintro _ _ ⟨M2,rfl,hM2,rfl⟩;refine Zbd ?_;exact ⟨.int .i64 0,_,res1 rfl rfl,λ _ _ h=>h,M2,rfl,hM2,rfl⟩
theorem LoadT_c {A R:SP}{C:SP->SP}{t p lg d mb at_ sz:Nat}{M:MS}{s:DevS}(hc:Ct A (TxA t p lg d mb at_ sz M false s) R C:=by exact cbqz){n:Nat}{f:TF}{q m:Nat}(hM:MF M n f)(hn:n=s.ls.length*64:=by omega)(ho:s.off=false:=by assumption)(hqm:q+m<=n:=by omega):
    Fn Tryz.prog 204 #[pz t,vn q,vn m] A (λ r B=>∃a c,r= .tuple #[.slice a m c,.int .i64 0]/\ m<=c/\ B=A*Sl 1 (.slice a m c) m (bys (ovF f q (((imgS s).drop q).take m)))):=by
  refine fn_enterW func204 rfl ntmps204 (by simp) ?_;obtain ⟨rfl,hC⟩:=hc;refine tc_eq (show _=R*pt p (cl (pocs lg d (some t)) 263)*pt lg (cl (lcs11 d at_ sz) 258)*Dev d s*pt t (cl (txcs p mb false) 298)*pt mb (mpo .i64 M) by unfold TxA;rw [if_neg (by decide)];ac_rfl) ?_;refine tc_have (λ _ _ h=>ct_wf2 ctqz h) λ hwf=> ?_
  have htop:=hwf.top;have hil:=imgS_len hwf;obtain ⟨xs,hxs⟩:∃xs,(((imgS s).drop q).take m)=xs:=⟨_,rfl⟩;have hxl:xs.length=m:=(by rw [←hxs,List.length_take,List.length_drop];omega);refine Zdh ?_;refine tl_c rfl (o_call bd205 rfl (begun12_c (s:=s))) ?_;refine Zd1 ?_;refine Zz ?_;intro h;refine Ze6 ?_;refine Zh9 ?_;refine Zfo ?_;refine tv (o_load p44 rfl hsqz rfl) ?_;refine Zv ?_;refine tl_c rfl (o_call bd247 rfl (Load_c (s:=s) (p:=q) (m:=m))) ?_;rintro _ _ ⟨a29,c29,rfl,hc29,rfl⟩;rw [hxs]
  refine Zc3 ?_;refine Zev ?_;refine tc_loop (λ kk ρ BB=>∃ (i:Nat),(i<=m)/\ kk=m-i/\ ρ 34=(vn i)/\ ρ 0=(pz t)/\ ρ 1=(vn q)/\ ρ 9= .slice a29 m c29/\ ρ 10= .int .i64 0/\ ρ 33=(vn m)/\ Dr BB (R*pt p (cl (pocs lg d (some t)) 263)*pt lg (cl (lcs11 d at_ sz) 258)*Dev d s*pt t (cl (txcs p mb false) 298)*pt mb (mpo .i64 M)*Sl 1 (.slice a29 m c29) m (bys (ovK f q i xs)))) (m:=m-(0)) ?_ ?_
  . exact ⟨0,by omega,rfl,rfl,rfl,rfl,rfl,rfl,rfl,by rw [ovK_zero];exact dr_refl⟩
  intro k ρ B hI;obtain ⟨i,hp0,hkk1,hE34,hE0,hE1,hE9,hE10,hE33,hBA⟩:=hI;refine tc_pre hBA.sat ?_;clear hBA;refine te 34 hE34 ?_;refine te 0 hE0 ?_;refine te 1 hE1 ?_;refine te 9 hE9 ?_;refine te 10 hE10 ?_;refine te 33 hE33 ?_;refine Zcg ?_;refine tc_cond rfl (λ h=> ?_) (λ h=> ?_)
  . have hi:i<xs.length:=(by simp at h;omega);have hget:=hM.get (q+i);obtain ⟨o,ho9⟩:∃o,f (q+i)=o:=⟨_,rfl⟩;rw [ho9] at hget
    have hkl:=ovK_len f q i xs;refine Ze9 ?_;refine Za ?_;refine Z1 ?_;refine Zia ?_;refine Zv ?_;refine tv adqz ?_;refine tl_env (d:=44) (v:=(vn (q+i))) (by first|rfl|(show Value.int .i64 _=_;congr 1;omega)) ?_;refine tv (o_lookupOk (ik:= .i64) underlying296 underlying3 z360 rfl rfl hsqz) ?_;refine tl_env (d:=45) (v:= .tuple #[.agg (cel0 (o.getD (0,false))).toArray,.bool o.isSome]) (by show Value.tuple #[(M.get ((q+i:Nat):Int)).getD _,.bool (M.get ((q+i:Nat):Int)).isSome]=_;rw [hget];cases o<;>rfl) ?_;refine Zbe ?_;refine tl_x rfl (o_alloc z360 rfl) ?_;rintro _ _ ⟨b12,rfl,rfl⟩;refine tl_u rfl (o_stUN (l':=cel0 (o.getD (0,false))) rfl upqz sz360 rfl rfl rfl (by show 2<=2;decide) rfl) ?_;refine Zbu ?_;refine nq ?_;refine tc_cut (λ ρ BB=>ρ 0=(pz t)/\ ρ 1=(vn q)/\ ρ 9= .slice a29 m c29/\ ρ 10= .int .i64 0/\ ρ 33=(vn m)/\ ρ 34=(vn i)/\ Dr BB (R*pt p (cl (pocs lg d (some t)) 263)*pt lg (cl (lcs11 d at_ sz) 258)*Dev d s*pt t (cl (txcs p mb false) 298)*pt mb (mpo .i64 M)*Sl 1 (.slice a29 m c29) m (bys (ovK f q (i+1) xs)))) ?_ ?_
    . skip
      refine tc_cond rfl (λ h=> ?_) (λ h=> ?_)
      . obtain ⟨c0,rfl⟩:∃c0,o=some c0:=by cases o<;>simp at h ⊢
        have hc8:=hM.by_ _ _ ho9;refine Zb5 ?_;refine tv (o_fieldAddr (o:=0) underlying360 rfl rfl sz5 rfl) ?_;refine tv (by first|exact o_load p5 rfl hsqz rfl|exact o_loadC p5 rfl (by assumption)) ?_;refine tv (o_ixP1 underlying67 sz5 rfl rfl oqz (nn_rs (xs:=bys (ovK f q i xs)) sq0z (by rw [bys_length];omega))) ?_;refine tl_u rfl (o_stP (ys:=bys ((ovK f q i xs).set i c0.1)) sz5 rfl rfl rfl ctqz oqz (bys_set _ _ _)) ?_;refine tl_nil ?_;exact ⟨rfl,rfl,rfl,rfl,rfl,rfl,by first|(rw [ovK_none ho9];exact dr_drop dr_refl)|(rw [←ovK_some ho9 hi];repeat (first|with_reducible exact dr_refl|apply dr_keep|apply dr_drop))⟩
      obtain rfl:o=none:=by cases o<;>simp at h ⊢
      refine tc_skip ?_;exact ⟨rfl,rfl,rfl,rfl,rfl,rfl,by first|(rw [ovK_none ho9];exact dr_drop dr_refl)|(rw [←ovK_some ho9 hi];repeat (first|with_reducible exact dr_refl|apply dr_keep|apply dr_drop))⟩
    intro ρ B hI;obtain ⟨hE0,hE1,hE9,hE10,hE33,hE34,hBA⟩:=hI;refine q_block_n (q_then_n ?_);refine tc_pre hBA.sat ?_;clear hBA;refine te 0 hE0 ?_;refine te 1 hE1 ?_;refine te 9 hE9 ?_;refine te 10 hE10 ?_;refine te 33 hE33 ?_;refine te 34 hE34 ?_;refine tc_reg ?_;refine Zb4 ?_;exact ⟨_,by omega,i+1,by omega,rfl,rfl,rfl,rfl,rfl,rfl,rfl,drqz⟩
  obtain rfl:i=m:=by simp at h;omega
  refine Zk ?_;refine Zbj ?_;refine Zy ?_;have e9:ovK f q i xs=ovF f q xs:=(by rw [←hxl];exact ovK_all f q xs);rw [e9]
  exact ⟨_,R*TxA t p lg d mb at_ sz M false s*Sl 1 (.slice a29 i c29) i (bys (ovF f q xs)),res2 rfl rfl rfl,λ g w h=>(Dr.sat (A':=R*pt p (cl (pocs lg d (some t)) 263)*pt lg (cl (lcs11 d at_ sz) 258)*Dev d s*pt t (cl (txcs p mb false) 298)*pt mb (mpo .i64 M)*Sl 1 (.slice a29 i c29) i (bys (ovF f q xs))) drqz g w h).perm (by unfold TxA;rw [if_neg (by decide)];ac_rfl),a29,c29,rfl,hc29,rfl⟩
end Go.Vl

namespace Go.Vl
open Go Go.Proofs Go.Proofs.Tryz
def RunW (n:Nat)(L:List (Nat×List Nat)):Prop:=∀r∈L,1<=r.2.length/\ r.1+r.2.length<=n/\∀b∈r.2,b<256
attribute [local irreducible] crk crL crc Sl pt ro Dev imgS recS readS recsF rdW rdO rkT Parts rvl recordsS runsL adrF kcl xcl kys runA runsF layF linR flLs stoL
end Go.Vl

namespace Go.Vl
open Go Go.Proofs Go.Proofs.Tryz
structure RunP (n k:Nat) (out:List (Nat×List Nat)):Prop where
  sum:sumL out=k
  len:out.length<=k
  ok:RunW n out
section
variable {at_ sz n:Nat} {f:TF} {s s1 s2 s3 s4 s5:DevS} {e:Int}
end
theorem del_c (M:MS)(a:Int):(M.del a).c=M.c:=by unfold MS.del;split<;>rfl
theorem del_sub (M:MS)(a:Int):(M.del a).D.Sublist M.D:=by
  unfold MS.del
  split
  . exact List.eraseIdx_sublist _ _
  exact List.Sublist.refl _
theorem wfM_del {M:MS}(h:WfM M)(a:Int):WfM (M.del a):=⟨h.keys.sublist ((del_sub M a).map _),h.born.sublist ((del_sub M a).map _),λ e he=>by rw [del_c];exact h.past e ((del_sub M a).subset he)⟩
theorem del_mem {M:MS}{e:ME}(h:WfM M)(he:e∈M.D):(M.del e.k).D.length<M.D.length/\∀x∈(M.del e.k).D,x.b≠e.b:=by
  obtain ⟨i,hi⟩:=mfind_mem h.keys he;obtain ⟨hil,hk,_⟩:=mfind_some hi;have hD:(M.del e.k).D=M.D.eraseIdx i:=(by unfold MS.del;rw [hi]);rw [hD]
  refine ⟨by rw [List.length_eraseIdx_of_lt hil];omega,λ x hx hxb=> ?_⟩
  have hei:M.D[i]=e:=by
    obtain ⟨j,hj,hje⟩:=List.mem_iff_getElem.1 he
    have hkk:(M.D.map ME.k)[i]? =(M.D.map ME.k)[j]? :=by
      rw [List.getElem?_map,List.getElem?_map,List.getElem?_eq_getElem hil,List.getElem?_eq_getElem hj]
      simp only [Option.map_some];rw [hk,hje]
    have hij:=(List.getElem?_inj (by simpa using hil) h.keys).1 hkk;subst hij;exact hje
  rw [List.mem_eraseIdx_iff_getElem] at hx
  obtain ⟨j,hj,hji,hjx⟩:=hx
  have hbb:(M.D.map ME.b)[i]? =(M.D.map ME.b)[j]? :=by
    rw [List.getElem?_map,List.getElem?_map,List.getElem?_eq_getElem hil,List.getElem?_eq_getElem hj]
    simp only [Option.map_some];rw [hei,hjx,hxb]
  exact hji ((List.getElem?_inj (by simpa using hil) h.born).1 hbb).symm
def fW1:TF:=layF 64 [1,2,3] false tf0
def fW:TF:=layF 66 [9,9] true fW1
section
variable {A R:SP} {C:SP->SP} {t p lg d mb at_ sz:Nat} {M:MS} {over:Bool} {s:DevS} (hc:Ct A (TxA t p lg d mb at_ sz M over s) R C)
include hc
theorem txa_dev:Ct A (Dev d s) (R*pt p (cl (pocs lg d (if over then none else some t)) 263)*pt lg (cl (lcs11 d at_ sz) 258)*pt t (cl (txcs p mb over) 298)*pt mb (mpo .i64 M)) (λ Y=>R*pt p (cl (pocs lg d (if over then none else some t)) 263)*pt lg (cl (lcs11 d at_ sz) 258)*pt t (cl (txcs p mb over) 298)*pt mb (mpo .i64 M)*Y):=
  ⟨by rw [hc.1];unfold TxA;ac_rfl,λ _=>rfl⟩
theorem txa_wf:∀g w,sat g w A->WfD s:=λ g w h=>ct_wf2 (txa_dev hc) h
end
attribute [local irreducible] crk crL crc Sl pt ro Dev imgS recS readS recsF rdW rdO rkT Parts rvl recordsS runsL adrF kcl xcl kys runA runsF layF linR flLs stoL writeT writeS comS clearS extX ovF newS fW fW1
end Go.Vl

namespace Go.Vl
open Go Go.Proofs Go.Proofs.Tryz
structure SF (M:MS) (n:Nat) (g:Nat->Bool):Prop where
  wf:WfM M
  get:∀a:Int,M.get a=if 0<=a/\ g a.toNat=true then some (.bool true) else none
  keys:∀e∈M.D,∃a:Nat,a<n/\ e.k=(a:Int)/\ g a=true
  out:∀a,n<=a->g a=false
def g0:Nat->Bool:=λ _=>false
theorem sf_nil (c n:Nat):SF ⟨[],c⟩ n g0:=⟨⟨(by simp),(by simp),λ e h=>(by cases h)⟩,λ a=>(by rw [MS.get_nil,if_neg (λ h=>by simp [g0] at h)]),λ e h=>(by cases h),λ _ _=>rfl⟩
def updG (g:Nat->Bool)(p:Nat)(b:Bool):Nat->Bool:=λ c=>if c=p then b else g c
theorem put_keys {M:MS}{a:Int}{v:Value}{e:ME}(h:e∈(M.put a v).D):e.k=a∨∃e'∈M.D,e'.k=e.k:=by
  unfold MS.put at h
  split at h
  . rename_i i u hf
    obtain ⟨j,hj,rfl⟩:=List.mem_iff_getElem.1 h
    simp only [List.length_modify] at hj
    refine .inr ⟨M.D[j],List.getElem_mem _, ?_⟩
    simp only [List.getElem_modify]
    split<;>rfl
  rcases List.mem_append.1 h with h1|h1
  . exact .inr ⟨e,h1,rfl⟩
  rw [List.mem_singleton.1 h1];exact .inl rfl
theorem sf_put {M:MS}{n p:Nat}{g:Nat->Bool}(h:SF M n g)(hp:p<n):SF (M.put (p:Int) (.bool true)) n (updG g p true):=by
  refine ⟨wfM_put h.wf,λ a=> ?_,λ e he=> ?_,λ a ha=> ?_⟩
  . rw [MS.get_put]
    unfold updG
    by_cases hc:(p:Int)=a
    . subst hc;rw [if_pos rfl,if_pos ⟨by omega,by rw [if_pos (by simp)]⟩]
    rw [if_neg hc,h.get a]
    by_cases h0:0<=a
    . rw [if_neg (show¬a.toNat=p by omega)]
    rw [if_neg (λ h9=>h0 h9.1),if_neg (λ h9=>h0 h9.1)]
  . rcases put_keys he with h1|⟨e',h1,h2⟩
    . exact ⟨p,hp,h1,by unfold updG;rw [if_pos rfl]⟩
    obtain ⟨a,h3,h4,h5⟩:=h.keys e' h1;refine ⟨a,h3,by rw [←h2];exact h4, ?_⟩
    unfold updG;split
    . rfl
    exact h5
  unfold updG;rw [if_neg oqz];exact h.out a ha
theorem mfind_mem' {D:List ME}{a:Int}{i:Nat}{v:Value}(h:mfind D a 0=some (i,v)):∃e∈D,e.k=a:=by
  obtain ⟨hi,h1,_⟩:=mfind_some h;exact ⟨_,List.getElem_mem hi,h1⟩
theorem del_ne {M:MS}{a:Int}(hw:WfM M):∀e∈(M.del a).D,e.k≠a:=λ e he hk=>by
  have hm:=(del_sub M a).subset he;subst hk;exact (del_mem hw hm).2 e he rfl
theorem del_had {M:MS}{a:Int}{e:ME}(he:e∈M.D)(hk:e.k≠a):e∈(M.del a).D:=by
  unfold MS.del
  split
  . rename_i i u hf
    obtain ⟨hi,h1,_⟩:=mfind_some hf;obtain ⟨j,hj,rfl⟩:=List.mem_iff_getElem.1 he;have hij:j≠i:=λ e9=>by subst e9;exact hk h1
    exact List.mem_eraseIdx_iff_getElem.2 ⟨j,hj,hij,rfl⟩
  exact he
theorem get_none {M:MS}{a:Int}(h:∀e∈M.D,e.k≠a):M.get a=none:=by
  unfold MS.get
  cases hf:mfind M.D a 0 with
  |none=>rfl
  |some x=>
    obtain ⟨e,he,hk⟩:=mfind_mem' (i:=x.1) (v:=x.2) hf;exact absurd hk (h e he)
theorem get_del {M:MS}{a c:Int}(hw:WfM M):(M.del a).get c=if a=c then none else M.get c:=by
  by_cases hc:a=c
  . subst hc;rw [if_pos rfl];exact get_none (del_ne hw)
  rw [if_neg hc]
  cases hg:M.get c with
  |none=>
    refine get_none λ e he hk=> ?_
    have:=get_mem hw ((del_sub M a).subset he);rw [hk,hg] at this;cases this
  |some v=>
    unfold MS.get at hg
    cases hf:mfind M.D c 0 with
    |none=>rw [hf] at hg;cases hg
    |some x=>
      rw [hf] at hg
      simp only [Option.map_some,Option.some.injEq] at hg
      obtain ⟨hi,h1,h2⟩:=mfind_some (i:=x.1) (v:=x.2) hf;have hm:M.D[x.1]∈(M.del a).D:=del_had (List.getElem_mem hi) (by rw [h1];exact λ e=>hc e.symm);have:=get_mem (wfM_del hw a) hm;rw [h1,h2,hg] at this
      exact this
theorem sf_del {M:MS}{n p:Nat}{g:Nat->Bool}(h:SF M n g):SF (M.del (p:Int)) n (updG g p false):=by
  refine ⟨wfM_del h.wf _,λ a=> ?_,λ e he=> ?_,λ a ha=> ?_⟩
  . rw [get_del h.wf]
    unfold updG
    by_cases hc:(p:Int)=a
    . subst hc;rw [if_pos rfl,if_neg (λ h9=>by simp at h9)]
    rw [if_neg hc,h.get a]
    by_cases h0:0<=a
    . rw [if_neg (show¬a.toNat=p by omega)]
    rw [if_neg (λ h9=>h0 h9.1),if_neg (λ h9=>h0 h9.1)]
  . obtain ⟨a,h3,h4,h5⟩:=h.keys e ((del_sub M _).subset he);refine ⟨a,h3,h4, ?_⟩;have hne:=del_ne h.wf e he
    unfold updG;rw [if_neg (λ e9=>hne (by rw [h4,e9]))];exact h5
  unfold updG;split
  . rfl
  exact h.out a ha
def adS (n:Nat)(g:Nat->Bool):List Nat:=(List.range n).filter g
def adZ (n:Nat)(g:Nat->Bool):List Int:=(adS n g).map λ a:Nat=>(a:Int)
theorem adS_mem {n a:Nat}{g:Nat->Bool}:a∈adS n g↔a<n/\ g a=true:=by unfold adS;rw [List.mem_filter,List.mem_range]
theorem adS_sorted (n:Nat)(g:Nat->Bool):(adS n g).Pairwise (·<·):=(List.pairwise_lt_range).filter _
theorem adS_len (n:Nat)(g:Nat->Bool):(adS n g).length<=n:=by unfold adS;exact Nat.le_trans (List.length_filter_le _ _) (by rw [List.length_range];exact Nat.le_refl _)
theorem sf_has {M:MS}{n a:Nat}{g:Nat->Bool}(h:SF M n g)(ha:g a=true):∃e∈M.D,e.k=(a:Int):=by
  have h1:=h.get (a:Int);rw [if_pos ⟨by omega,by simpa using ha⟩] at h1
  unfold MS.get at h1
  cases hf:mfind M.D (a:Int) 0 with
  |none=>rw [hf] at h1;cases h1
  |some x=>exact mfind_mem' (i:=x.1) (v:=x.2) hf
theorem sf_sort {M:MS}{n:Nat}{g:Nat->Bool}(h:SF M n g):(M.D.map ME.k).mergeSort (λ x y=>decide (x<=y))=adZ n g:=by
  have hp:(M.D.map ME.k).Perm (adZ n g):=by
    refine (List.perm_ext_iff_of_nodup h.wf.keys ?_).2 λ x=> ?_
    . unfold adZ
      exact List.Pairwise.map _ (λ a b hab e=>absurd (Int.ofNat_inj.1 e) (Nat.ne_of_lt hab)) (adS_sorted n g)
    unfold adZ
    rw [List.mem_map,List.mem_map]
    constructor
    . rintro ⟨e,he,rfl⟩;obtain ⟨a,h1,h2,h3⟩:=h.keys e he;exact ⟨a,adS_mem.2 ⟨h1,h3⟩,h2.symm⟩
    rintro ⟨a,ha,rfl⟩;obtain ⟨e,he,hk⟩:=sf_has h (adS_mem.1 ha).2;exact ⟨e,he,hk⟩
  rw [Go.mergeSort_of_perm_i hp]
  refine List.mergeSort_of_pairwise ?_
  unfold adZ
  refine List.pairwise_map.2 ((adS_sorted n g).imp λ {a b} hab=> ?_)
  simp only [decide_eq_true_eq];omega
theorem sf_len {M:MS}{n:Nat}{g:Nat->Bool}(h:SF M n g):M.D.length=(adS n g).length:=by
  have:=congrArg List.length (sf_sort h);rw [List.length_mergeSort,List.length_map] at this
  unfold adZ at this;rw [List.length_map] at this;exact this
theorem sf_bd {M:MS}{n:Nat}{g:Nat->Bool}(h:SF M n g)(hn:n<=4194304):∀e∈M.D,-9223372036854775808<=e.k/\ e.k<=9223372036854775807:=λ e he=>by
  obtain ⟨a,h1,h2,_⟩:=h.keys e he;omega
structure WkX where
  h:Nat
  w:Nat
  t:Nat
  p:Nat
  lg:Nat
  d:Nat
  mb:Nat
  lv:Nat
  tk:Nat
  gv:Nat
  at_:Nat
  sz:Nat
  ba:Nat
  n:Nat
structure WkY where
  Ml:MS
  Mt:MS
  Mg:MS
  M:MS
  ls:Nat
structure WkT where
  lv:Nat->Bool
  tk:Nat->Bool
  gv:Nat->Bool
  f:TF
structure WkOk (X:WkX) (Y:WkY) (T:WkT) (N:Nat):Prop where
  l:SF Y.Ml X.n T.lv
  t:SF Y.Mt X.n T.tk
  g:SF Y.Mg X.n T.gv
  m:MF Y.M N T.f
  le:Y.ls<=X.n
  lo:∀b,b<Y.ls->T.lv b=true∨T.tk b=true
  dj:∀b,T.tk b=true->T.lv b=false
  gl:∀b,T.gv b=true->T.lv b=true
def usedB (T:WkT)(b:Nat):Bool:=T.tk b||(T.lv b&& !T.gv b)
def usedZ (T:WkT)(b:Int):Bool:=decide (0<=b)&&usedB T b.toNat
def freeB (T:WkT)(b:Nat):Bool:= !T.lv b&& !T.tk b
def leastB (T:WkT)(n:Nat):Option Nat:=(List.range n).find? (freeB T)
theorem used_n {X:WkX}{Y:WkY}{T:WkT}{N:Nat}(h:WkOk X Y T N){b:Nat}(hb:usedB T b=true):b<X.n:=by
  rcases Nat.lt_or_ge b X.n with h1|h1
  . exact h1
  unfold usedB at hb;rw [h.t.out b h1,h.l.out b h1] at hb;simp at hb
theorem leastB_some {T:WkT}{n b:Nat}:leastB T n=some b↔b<n/\ freeB T b=true/\∀c,c<b->freeB T c=false:=by
  unfold leastB
  rw [List.find?_range_eq_some]
  simp only [List.mem_range]
  constructor
  . rintro ⟨h1,h2,h3⟩;exact ⟨h2,h1,λ c hc=>by simpa using h3 c hc⟩
  rintro ⟨h1,h2,h3⟩;exact ⟨h2,h1,λ c hc=>by simpa using h3 c hc⟩
theorem leastB_none {T:WkT}{n:Nat}:leastB T n=none↔∀c,c<n->freeB T c=false:=by
  unfold leastB
  rw [List.find?_eq_none]
  simp only [List.mem_range]
  exact ⟨λ h c hc=>by simpa using h c hc,λ h c hc=>by simpa using h c hc⟩
def hcs (p ba n lv:Nat)(ov:Option Nat):List Value:=[pz p,vn ba,vn n,.map (some lv),.pointer (ov.map λ w=>(⟨w,0,none⟩:Addr))]
def wcs (h t tk gv ls:Nat)(over:Bool):List Value:=[pz h,pz t,.map (some tk),.map (some gv),vn ls,.bool over]
def WkA (X:WkX)(Y:WkY)(s:DevS):SP:=pt X.h (cl (hcs X.p X.ba X.n X.lv (some X.w)) 210)*pt X.w (cl (wcs X.h X.t X.tk X.gv Y.ls false) 126)*pt X.lv (mpo .i64 Y.Ml)*pt X.tk (mpo .i64 Y.Mt)*pt X.gv (mpo .i64 Y.Mg)*TxA X.t X.p X.lg X.d X.mb X.at_ X.sz Y.M false s
structure WkB (X:WkX) (s:DevS):Prop where
  lo:128<=X.ba
  hi:X.ba+256*X.n<=s.ls.length*64
  top:s.ls.length*64<=4194304
theorem mapN (M:MS)(a:Int){n:Nat}{g:Nat->Bool}(h:SF M n g):(M.get a).isSome=(decide (0<=a)&&g a.toNat):=by
  rw [h.get a]
  by_cases h1:0<=a<;>cases h2:g a.toNat<;>simp [h1]
theorem mapV (M:MS)(a:Int){n:Nat}{g:Nat->Bool}(h:SF M n g):(M.get a).getD (.bool false)= .bool (decide (0<=a)&&g a.toNat):=by
  rw [h.get a]
  by_cases h1:0<=a<;>cases h2:g a.toNat<;>simp [h1]
section
variable {A R:SP} {C:SP->SP} {X:WkX} {Y:WkY} {s:DevS} (hc:Ct A (WkA X Y s) R C)
include hc
theorem wka_txa:Ct A (TxA X.t X.p X.lg X.d X.mb X.at_ X.sz Y.M false s) (R*pt X.h (cl (hcs X.p X.ba X.n X.lv (some X.w)) 210)*pt X.w (cl (wcs X.h X.t X.tk X.gv Y.ls false) 126)*pt X.lv (mpo .i64 Y.Ml)*pt X.tk (mpo .i64 Y.Mt)*pt X.gv (mpo .i64 Y.Mg)) (λ Z=>R*pt X.h (cl (hcs X.p X.ba X.n X.lv (some X.w)) 210)*pt X.w (cl (wcs X.h X.t X.tk X.gv Y.ls false) 126)*pt X.lv (mpo .i64 Y.Ml)*pt X.tk (mpo .i64 Y.Mt)*pt X.gv (mpo .i64 Y.Mg)*Z):=
  ⟨by rw [hc.1];unfold WkA;ac_rfl,λ _=>rfl⟩
theorem wka_h:Has A X.h (cl (hcs X.p X.ba X.n X.lv (some X.w)) 210):=λ g w h=>by
  rw [hc.1] at h;unfold WkA at h;exact has_pt g w (h.right.left.left.left.left.left)
theorem wka_w:Has A X.w (cl (wcs X.h X.t X.tk X.gv Y.ls false) 126):=λ g w h=>by
  rw [hc.1] at h;unfold WkA at h;exact has_pt g w (h.right.left.left.left.left.right)
theorem wka_lv:Has A X.lv (mpo .i64 Y.Ml):=λ g w h=>by
  rw [hc.1] at h;unfold WkA at h;exact has_pt g w (h.right.left.left.left.right)
theorem wka_tk:Has A X.tk (mpo .i64 Y.Mt):=λ g w h=>by
  rw [hc.1] at h;unfold WkA at h;exact has_pt g w (h.right.left.left.right)
theorem wka_gv:Has A X.gv (mpo .i64 Y.Mg):=λ g w h=>by
  rw [hc.1] at h;unfold WkA at h;exact has_pt g w (h.right.left.right)
end
attribute [local irreducible] crk crL crc Sl pt ro Dev imgS recS readS recsF rdW rdO rkT Parts rvl recordsS runsL adrF kcl xcl kys runA runsF layF ovF TxA adZ
theorem there13_c {A:SP}{h w t tk gv ls:Nat}{over:Bool}(hw:Has A w (cl (wcs h t tk gv ls over) 126):=by exact hbqz):
    Fn Tryz.prog 126 #[pz w] A (λ r B=>r= .bool true/\ A=B):=by
  refine fn_enterW func126 rfl ntmps126 (by simp) ?_;refine Zdr ?_;refine tv (o_nep underlying46 rfl rfl) ?_;refine tlm ?_;refine tl_bool (d:=5) rfl (sbq ?_) dbq;intro h;refine Zdj ?_;refine tv (o_fieldAddr (o:=0) underlying126 rfl rfl sz45 rfl) ?_;refine tv (o_load p45 rfl hw rfl) ?_;refine tv (o_nep underlying45 rfl rfl) ?_;refine Zem ?_;exact ⟨.bool true,_,res1 rfl rfl,Dr.sat drqz,rfl,rfl⟩
theorem thereH_c {A:SP}{h p ba n lv:Nat}{ov:Option Nat}(hh:Has A h (cl (hcs p ba n lv ov) 210):=by exact hbqz):
    Fn Tryz.prog 172 #[pz h] A (λ r B=>r= .bool true/\ A=B):=by
  refine fn_enterW func172 rfl ntmps172 (by simp) ?_;refine Zdr ?_;refine tv (o_nep underlying45 rfl rfl) ?_;refine tlm ?_;refine tl_bool (d:=5) rfl (sbq ?_) dbq;intro h;refine Zdj ?_;refine tv (o_fieldAddr (o:=0) underlying210 rfl rfl sz163 rfl) ?_;refine tv (o_load p163 rfl hh rfl) ?_;refine tv (o_nep underlying163 rfl rfl) ?_;refine Zem ?_;exact ⟨.bool true,_,res1 rfl rfl,Dr.sat drqz,rfl,rfl⟩
theorem place13_c {A:SP}{h p ba n lv b:Nat}{ov:Option Nat}(hh:Has A h (cl (hcs p ba n lv ov) 210):=by exact hbqz)(hb:ba<=4194304:=by omega)(hb2:b<=4194304:=by omega):
    Fn Tryz.prog 189 #[pz h,vn b] A (λ r B=>r=(vn (ba+256*b))/\ A=B):=by
  refine fn_enterW func189 rfl ntmps189 (by simp) ?_;refine Zh1 ?_;refine tv (o_fieldAddr (o:=1) underlying210 rfl rfl sz3 rfl) ?_;refine tv (o_load p3 rfl hh rfl) ?_;refine Zga ?_;refine tv adqz ?_;refine Zbd ?_;exact ⟨.int .i64 ((ba+256*b:Nat):Int),_,res1 rfl (by first|rfl|exact congrArg (Value.int .i64) oqz),Dr.sat drqz,rfl,rfl⟩
theorem seen0_c {A:SP}{v:Value}{e:Int}(he:e≠5:=by decide):
    Fn Tryz.prog 188 #[v,.int .i64 e] A (λ r B=>r= .int .i64 e/\ A=B):=by
  refine fn_enterW func188 rfl ntmps188 (by simp) ?_;refine Zdd ?_;refine Zcr ?_;refine tc_cond rfl (λ h=> ?_) (sbq ?_)
  . exfalso;exact he (by first|exact of_decide_eq_true h|simpa using h)
  intro h;refine Zb9 ?_;refine Zbd ?_;exact ⟨.int .i64 e,_,res1 rfl rfl,Dr.sat drqz,rfl,rfl⟩
theorem Zgb {p r:Prop}(k:r)(h:Kq r->p:=by intro k;refine Ze6 ?_;refine tv (o_fieldAddr (o:=1) underlying126 rfl rfl sz122 rfl) ?_;exact k.o):p:=h ⟨k⟩
theorem Zff {p r:Prop}(k:r)(h:Kq r->p:=by intro k;refine tl_c rfl (o_call bd188 rfl (seen0_c)) ?_;rintro _ _ ⟨rfl,rfl⟩;exact k.o):p:=h ⟨k⟩
theorem begin13_c {A R:SP}{C:SP->SP}{X:WkX}{Y:WkY}{T:WkT}{s:DevS}(hc:Ct A (WkA X Y s) R C:=by exact cbqz)(hok:WkOk X Y T (s.ls.length*64))(hb:WkB X s)(ho:s.off=false:=by assumption):
    Fn Tryz.prog 128 #[.pointer (some ⟨X.w,0,none⟩)] A (λ r B=>r= .int .i64 0/\ A=B):=by
  refine fn_enterW func128 rfl ntmps128 (by simp) ?_;have hst:∃R2 C2,Ct A (TxA X.t X.p X.lg X.d X.mb X.at_ X.sz Y.M false s) R2 C2:=⟨_,_,wka_txa hc⟩;obtain ⟨R2,C2,hct⟩:=hst;have hw9:=wka_w hc;refine Zdd ?_;refine tl_c rfl (o_call bd126 rfl (there13_c (hw:=hw9))) ?_;refine Zb7 ?_;refine Zn ?_;intro h;refine Zg3 ?_;refine tv (o_fieldAddr (o:=5) underlying126 rfl rfl sz4 rfl) ?_;refine tv (o_load p4 rfl hw9 rfl) ?_;refine Zn ?_;intro h;refine Zgb ?_;refine tv (o_load p122 rfl hw9 rfl) ?_;refine tl_c rfl (o_call bd204 rfl (LoadT_c (hc:=hct) (n:=s.ls.length*64) (f:=T.f) (q:=0) (m:=0) (hM:=hok.m) (ho:=ho) (hqm:=Nat.zero_le _))) ?_;rintro _ _ ⟨a17,c17,rfl,hc17,rfl⟩;refine Zeo ?_;refine Zbj ?_;refine Zff ?_;refine Zbd ?_;exact ⟨.int .i64 0,_,res1 rfl rfl,Dr.sat drqz,rfl,rfl⟩
end Go.Vl

namespace Go.Vl
open Go Go.Proofs Go.Proofs.Tryz
theorem adZ_len (n:Nat)(g:Nat->Bool):(adZ n g).length=(adS n g).length:=by unfold adZ;rw [List.length_map]
def WkT.take (T:WkT)(b:Nat):WkT:={ T with tk:=updG T.tk b true }
def WkT.give (T:WkT)(b:Nat):WkT:=if T.tk b then { T with tk:=updG T.tk b false } else { T with gv:=updG T.gv b true }
def WkT.write (T:WkT)(ba b:Nat)(xs:List Nat):WkT:={ T with f:=layF (ba+256*b) xs (T.tk b) T.f }
theorem ok_take {X:WkX}{Y:WkY}{T:WkT}{N b:Nat}(h:WkOk X Y T N)(hb:b<X.n)(hf:freeB T b=true)(hlo:∀c,c<b->freeB T c=false):WkOk X { Y with Mt:=Y.Mt.put (b:Int) (.bool true),ls:=b+1 } (T.take b) N:=by
  unfold freeB at hf hlo
  simp only [Bool.and_eq_true,Bool.not_eq_true'] at hf
  refine ⟨h.l,sf_put h.t hb,h.g,h.m,by show b+1<=X.n;omega,λ c hc=> ?_,λ c hc=> ?_,h.gl⟩
  . show T.lv c=true∨updG T.tk b true c=true
    unfold updG
    by_cases hcb:c=b
    . rw [if_pos hcb];exact .inr rfl
    rw [if_neg hcb]
    have hc':c<b+1:=hc;have:=hlo c oqz
    cases h1:T.lv c<;>cases h2:T.tk c<;>simp [h1,h2] at this ⊢
  show T.lv c=false
  have hc':updG T.tk b true c=true:=hc
  unfold updG at hc'
  by_cases hcb:c=b
  . rw [hcb];exact hf.1
  rw [if_neg hcb] at hc';exact h.dj c hc'
theorem ok_give {X:WkX}{Y:WkY}{T:WkT}{N b:Nat}(h:WkOk X Y T N)(ht:T.tk b=true):WkOk X { Y with Mt:=Y.Mt.del (b:Int),ls:=min Y.ls b } (T.give b) N:=by
  unfold WkT.give;rw [if_pos ht]
  refine ⟨h.l,sf_del h.t,h.g,h.m,by have:=h.le;show min Y.ls b<=X.n;omega,λ c hc=> ?_,λ c hc=> ?_,h.gl⟩
  . show T.lv c=true∨updG T.tk b false c=true
    have hc':c<min Y.ls b:=hc
    unfold updG;rw [if_neg oqz]
    exact h.lo c oqz
  have hc':updG T.tk b false c=true:=hc
  unfold updG at hc'
  by_cases hcb:c=b
  . rw [if_pos hcb] at hc';cases hc'
  rw [if_neg hcb] at hc';exact h.dj c hc'
theorem ok_give2 {X:WkX}{Y:WkY}{T:WkT}{N b:Nat}(h:WkOk X Y T N)(ht:¬T.tk b=true)(hu:usedB T b=true):WkOk X { Y with Mg:=Y.Mg.put (b:Int) (.bool true) } (T.give b) N:=by
  have hn:=used_n h hu
  unfold WkT.give;rw [if_neg ht]
  refine ⟨h.l,h.t,sf_put h.g hn,h.m,h.le,h.lo,h.dj,λ c hc=> ?_⟩;have hc':updG T.gv b true c=true:=hc
  unfold updG at hc'
  by_cases hcb:c=b
  . unfold usedB at hu;rw [hcb]
    cases h1:T.tk b
    . rw [h1] at hu;simp at hu;exact hu.1
    exact absurd h1 ht
  rw [if_neg hcb] at hc';exact h.gl c hc'
theorem ok_write {X:WkX}{Y:WkY}{T:WkT}{N b:Nat}{M:MS}{xs:List Nat}(h:WkOk X Y T N)(hM:MF M N (layF (X.ba+256*b) xs (T.tk b) T.f)):WkOk X { Y with M:=M } (T.write X.ba b xs) N:=
  ⟨h.l,h.t,h.g,hM,h.le,h.lo,h.dj,h.gl⟩
theorem o_min2 {P:Program}{n:Nat}{ρ:Env}{A:SP}{dst:Option Tmp}{ty t t':TypeId}{pos:String}{after:Array Edge}{gd:Option (Nat×Bool)}{x y:Operand}{a b:Nat}(hu:P.underlying ty=some (.int .i64))(hx:ev n ρ x=(vn a))(hy:ev n ρ y=(vn b)):
    OpV P n ρ A ⟨dst,.call { callee:= .builtin .min,args:= #[x,y],argTypes:= #[t,t'] },ty,pos,after,gd⟩ ((vn (min a b))):=λ g w hs=>by
  simp only [execOp,resolve,List.map_toArray,List.map_cons,List.map_nil,hx,hy]
  rw [run_bind (w':=w) (a:=⟨.builtin .min #[t,t'] ty _,#[vn a,vn b]⟩) (by rfl)]
  simp only [invoke,builtin]
  rw [run_bind (w':=w) (a:=(vn (min a b)))]
  . rfl
  have e:(if (b:Int)<(a:Int) then (b:Int) else (a:Int))=((min a b:Nat):Int):=(by split<;>omega)
  simp [Builtin.min_,Builtin.min2,List.foldlM,Sem.run_bind,←e]
theorem usedZ_nat {T:WkT}{b:Nat}:usedZ T (b:Int)=usedB T b:=by unfold usedZ;simp
attribute [local irreducible] crk crL crc Sl pt ro Dev imgS recS readS recsF rdW rdO rkT Parts rvl recordsS runsL adrF kcl xcl kys runA runsF layF ovF TxA adZ WkA
theorem Zec {p r:Prop}(k:r)(h:Kq r->p:=by intro k;refine tv (o_nilCheck rfl) ?_;refine tv (o_fieldAddr (o:=3) underlying210 rfl rfl sz124 rfl) ?_;exact k.o):p:=h ⟨k⟩
theorem use13_c {A R:SP}{C:SP->SP}{X:WkX}{Y:WkY}{T:WkT}{s:DevS}(hc:Ct A (WkA X Y s) R C:=by exact cbqz)(hok:WkOk X Y T (s.ls.length*64))(hb:WkB X s)(ho:s.off=false:=by assumption){b:Int}:
    Fn Tryz.prog 185 #[.pointer (some ⟨X.w,0,none⟩),.int .i64 b] A (λ r B=>r= .int .i64 (if usedZ T b=true then 0 else 130)/\ A=B):=by
  refine fn_enterW func185 rfl ntmps185 (by simp) ?_;have hw9:=wka_w hc;have hh9:=wka_h hc;have hl9:=wka_lv hc;have ht9:=wka_tk hc;have hg9:=wka_gv hc;have hB:=hb;obtain ⟨hb1,hb2,hb3⟩:=hB;refine Zdd ?_;refine tl_c rfl (o_call bd128 rfl (begin13_c (hc:=hc) (hok:=hok) (hb:=hb))) ?_;refine Zd1 ?_;refine Zz ?_;intro h;refine Ze6 ?_;refine tv (o_fieldAddr (o:=2) underlying126 rfl rfl sz124 rfl) ?_;refine tv (o_load p124 rfl hw9 rfl) ?_;refine tlm ?_;refine tv (o_lookupOk (ik:= .i64) (M:=Y.Mt) underlying124 underlying3 z4 rfl rfl ht9) ?_;refine tl_env (d:=23) (v:= .tuple #[.bool (decide (0<=b)&&T.tk b.toNat),.bool (decide (0<=b)&&T.tk b.toNat)]) (by show Value.tuple #[(Y.Mt.get b).getD _,.bool (Y.Mt.get b).isSome]=_;rw [mapV Y.Mt b hok.t,mapN Y.Mt b hok.t]) ?_;refine Zeo ?_;refine Z1 ?_;refine tv (o_fieldAddr (o:=3) underlying126 rfl rfl sz124 rfl) ?_;refine tv (o_load p124 rfl hw9 rfl) ?_;refine tlm ?_;refine tv (o_lookupOk (ik:= .i64) (M:=Y.Mg) underlying124 underlying3 z4 rfl rfl hg9) ?_;refine tl_env (d:=32) (v:= .tuple #[.bool (decide (0<=b)&&T.gv b.toNat),.bool (decide (0<=b)&&T.gv b.toNat)]) (by show Value.tuple #[(Y.Mg.get b).getD _,.bool (Y.Mg.get b).isSome]=_;rw [mapV Y.Mg b hok.g,mapN Y.Mg b hok.g]) ?_;refine Zc3 ?_;refine tv (o_nilCheck rfl) ?_;refine tv (o_fieldAddr (o:=0) underlying126 rfl rfl sz45 rfl) ?_;refine tv (o_load p45 rfl hw9 rfl) ?_;refine Zec ?_;refine tv (o_load p124 rfl hh9 rfl) ?_;refine tlm ?_;refine tv (o_lookupOk (ik:= .i64) (M:=Y.Ml) underlying124 underlying3 z4 rfl rfl hl9) ?_;refine tl_env (d:=44) (v:= .tuple #[.bool (decide (0<=b)&&T.lv b.toNat),.bool (decide (0<=b)&&T.lv b.toNat)]) (by show Value.tuple #[(Y.Ml.get b).getD _,.bool (Y.Ml.get b).isSome]=_;rw [mapV Y.Ml b hok.l,mapN Y.Ml b hok.l]) ?_;refine Zeo ?_;refine tc_seq ?_;refine tc_cut (λ ρ BB=>ρ 54= .bool (usedZ T b)/\ Dr BB (A)) ?_ ?_
  . skip
    refine Zb5 ?_;refine tl_bool (d:=48) rfl (sbq ?_) (sbq ?_)
    . intro h;refine Zgl ?_;refine Zbg ?_;exact ⟨by unfold usedZ usedB;cases h0:decide (0<=b)<;>cases h1:T.tk b.toNat<;>cases h2:T.lv b.toNat<;>cases h3:T.gv b.toNat<;>simp [h0,h1,h2,h3] at* <;>rfl,drqz⟩
    intro h;refine Zv ?_;refine tl_bool (d:=50) rfl (sbq ?_) (sbq ?_)
    . intro h;refine tlm ?_;refine tv (o_not rfl) ?_;refine tv (o_pick_t rfl wqz) ?_;refine Zbx ?_;exact ⟨by unfold usedZ usedB;cases h0:decide (0<=b)<;>cases h1:T.tk b.toNat<;>cases h2:T.lv b.toNat<;>cases h3:T.gv b.toNat<;>simp [h0,h1,h2,h3] at* <;>rfl,drqz⟩
    intro h;refine Zp ?_;refine tv (o_pick_f rfl wqz) ?_;refine Zbx ?_;exact ⟨by unfold usedZ usedB;cases h0:decide (0<=b)<;>cases h1:T.tk b.toNat<;>cases h2:T.lv b.toNat<;>cases h3:T.gv b.toNat<;>simp [h0,h1,h2,h3] at* <;>rfl,drqz⟩
  intro ρ B hI;obtain ⟨hE54,hBA⟩:=hI;refine q_then_n ?_;refine tc_pre hBA.sat ?_;clear hBA;refine te 54 hE54 ?_;refine tc_cond rfl (sbq ?_) (sbq ?_)
  . intro h;refine Zf4 ?_;rw [if_pos (by first|exact h|simpa using h)]
    exact ⟨.int .i64 0,_,res1 rfl rfl,Dr.sat drqz,rfl,rfl⟩
  intro h;refine Ze ?_;refine Zcv ?_;rw [if_neg (by first|exact Bool.eq_false_iff.1 h|(rw [h];decide))]
  exact ⟨.int .i64 130,_,res1 rfl rfl,Dr.sat drqz,rfl,rfl⟩
theorem Zdk {p r:Prop}(k:r)(h:Kq r->p:=by intro k;refine tv (o_nilCheck rfl) ?_;refine tv (o_fieldAddr (o:=4) underlying126 rfl rfl sz3 rfl) ?_;exact k.o):p:=h ⟨k⟩
theorem Zco {p r:Prop}(k:r)(h:Kq r->p:=by intro k;refine tv (o_fieldAddr (o:=0) underlying126 rfl rfl sz45 rfl) ?_;refine tv (o_load p45 rfl hsqz rfl) ?_;exact k.o):p:=h ⟨k⟩
theorem Zef {p r:Prop}(k:r)(h:Kq r->p:=by intro k;refine tv (o_nilCheck rfl) ?_;refine tv (o_fieldAddr (o:=2) underlying210 rfl rfl sz3 rfl) ?_;exact k.o):p:=h ⟨k⟩
theorem Zcn {p r:Prop}(k:r)(h:Kq r->p:=by intro k;refine tv (o_fieldAddr (o:=2) underlying126 rfl rfl sz124 rfl) ?_;refine tv (o_load p124 rfl hsqz rfl) ?_;exact k.o):p:=h ⟨k⟩
theorem Take13_ok {A R:SP}{C:SP->SP}{X:WkX}{Y:WkY}{T:WkT}{s:DevS}(hc:Ct A (WkA X Y s) R C:=by exact cbqz)(hok:WkOk X Y T (s.ls.length*64))(hb:WkB X s)(ho:s.off=false:=by assumption){b:Nat}(hf:leastB T X.n=some b):
    Fn Tryz.prog 103 #[.pointer (some ⟨X.w,0,none⟩)] A (λ r B=>∃Y2,r= .tuple #[vn b,.int .i64 0]/\ WkOk X Y2 (T.take b) (s.ls.length*64)/\ B=C (WkA X Y2 s)):=by
  refine fn_enterW func103 rfl ntmps103 (by simp) ?_;obtain ⟨hbn,hbf,hbl⟩:=leastB_some.1 hf
  have hlsb:Y.ls<=b:=by
    rcases Nat.lt_or_ge b Y.ls with h9|h9
    . have:=hok.lo b h9;unfold freeB at hbf;rcases this with h1|h1<;>simp [h1] at hbf
    exact h9
  obtain ⟨hb1,hb2,hb3⟩:=id hb;have hle:=hok.le;obtain ⟨rfl,hC⟩:=hc;refine tc_eq (show _=R*pt X.h (cl (hcs X.p X.ba X.n X.lv (some X.w)) 210)*pt X.w (cl (wcs X.h X.t X.tk X.gv Y.ls false) 126)*pt X.lv (mpo .i64 Y.Ml)*pt X.tk (mpo .i64 Y.Mt)*pt X.gv (mpo .i64 Y.Mg)*TxA X.t X.p X.lg X.d X.mb X.at_ X.sz Y.M false s by unfold WkA;ac_rfl) ?_;refine Zdh ?_;refine tl_c rfl (o_call bd128 rfl (begin13_c (s:=s) (X:=X) (Y:=Y) (T:=T) (R:=R) (C:=λ Z=>R*Z) (hc:=⟨by unfold WkA;ac_rfl,λ _=>rfl⟩) (hok:=hok) (hb:=hb))) ?_;refine Zd1 ?_;refine Zz ?_;intro h;refine Zc4 ?_;refine Zdk ?_;refine tv (o_load p3 rfl hsqz rfl) ?_;refine Za ?_;refine tc_block ?_;refine tc_loop (λ kk ρ BB=>∃ (c:Nat),(c<=b)/\ kk=X.n-c/\ ρ 5=(vn c)/\ ρ 0= .pointer (some ⟨X.w,0,none⟩)/\ Dr BB (R*pt X.h (cl (hcs X.p X.ba X.n X.lv (some X.w)) 210)*pt X.w (cl (wcs X.h X.t X.tk X.gv Y.ls false) 126)*pt X.lv (mpo .i64 Y.Ml)*pt X.tk (mpo .i64 Y.Mt)*pt X.gv (mpo .i64 Y.Mg)*TxA X.t X.p X.lg X.d X.mb X.at_ X.sz Y.M false s)) (m:=X.n-(Y.ls)) ?_ ?_
  . exact ⟨Y.ls,hlsb,rfl,rfl,rfl,drqz⟩
  intro k ρ B hI;obtain ⟨c,hp0,hkk1,hE5,hE0,hBA⟩:=hI;refine tc_pre hBA.sat ?_;clear hBA;refine te 5 hE5 ?_;refine te 0 hE0 ?_;refine Zl ?_;refine Zdj ?_;refine Zco ?_;refine Zef ?_;refine tv (o_load p3 rfl hsqz rfl) ?_;refine Zu ?_;refine tc_cond rfl (λ h=> ?_) dbq;have hcn:c<X.n:=(by first|omega|(simp at h;omega));refine Zbp ?_;refine Z1 ?_;refine Zco ?_;refine Zec ?_;refine tv (o_load p124 rfl hsqz rfl) ?_;refine tlm ?_;refine tv (o_lookupOk (ik:= .i64) (M:=Y.Ml) underlying124 underlying3 z4 rfl rfl hsqz) ?_;refine tl_env (d:=37) (v:= .tuple #[.bool (T.lv c),.bool (T.lv c)]) (by show Value.tuple #[(Y.Ml.get (c:Int)).getD _,.bool (Y.Ml.get (c:Int)).isSome]=_;rw [mapV Y.Ml (c:Int) hok.l,mapN Y.Ml (c:Int) hok.l];simp) ?_;refine Zeo ?_;refine tc_seq ?_;refine tc_cut (λ ρ BB=>ρ 50= .bool (freeB T c)/\ ρ 0= .pointer (some ⟨X.w,0,none⟩)/\ ρ 5=(vn c)/\ Dr BB (R*pt X.h (cl (hcs X.p X.ba X.n X.lv (some X.w)) 210)*pt X.w (cl (wcs X.h X.t X.tk X.gv Y.ls false) 126)*pt X.lv (mpo .i64 Y.Ml)*pt X.tk (mpo .i64 Y.Mt)*pt X.gv (mpo .i64 Y.Mg)*TxA X.t X.p X.lg X.d X.mb X.at_ X.sz Y.M false s)) ?_ ?_
  . skip
    refine Zbq ?_;refine tv (o_not rfl) ?_;refine tlm ?_;refine tl_bool (d:=42) rfl (sbq ?_) (sbq ?_)
    . intro h;refine Zdj ?_;refine Zcn ?_;refine tlm ?_;refine tv (o_lookup (ik:= .i64) (M:=Y.Mt) underlying124 underlying3 z4 rfl rfl hsqz) ?_;refine tl_env (d:=48) (v:= .bool (T.tk c)) (by show (Y.Mt.get (c:Int)).getD _=_;rw [mapV Y.Mt (c:Int) hok.t];simp) ?_;refine tv (o_not rfl) ?_;refine Zbg ?_;exact ⟨by unfold freeB;cases h1:T.lv c<;>cases h2:T.tk c<;>simp [h1,h2] at* <;>rfl,rfl,rfl,drqz⟩
    intro h;refine Zbk ?_;refine Zc2 ?_;refine Zbx ?_;exact ⟨by unfold freeB;cases h1:T.lv c<;>cases h2:T.tk c<;>simp [h1,h2] at* <;>rfl,rfl,rfl,drqz⟩
  intro ρ B hI;obtain ⟨hE50,hE0,hE5,hBA⟩:=hI;refine q_then_n ?_;refine tc_pre hBA.sat ?_;clear hBA;refine te 50 hE50 ?_;refine te 0 hE0 ?_;refine te 5 hE5 ?_;refine tc_cond rfl (λ h=> ?_) (sbq ?_)
  . obtain rfl:c=b:=by rcases Nat.lt_or_ge c b with h9|h9<;>first|omega|(exfalso;have h8:=hbl c h9;rw [h8] at h;simp at h)
    refine Z1 ?_;refine Zcn ?_;refine tlm ?_;refine tl_u rfl (o_mapUpdate (ik:= .i64) (M:=Y.Mt) (v:= .bool true) underlying124 underlying3 rfl upqz rfl rfl rfl) ?_;refine nq ?_;refine Zbj ?_;refine tv adqz ?_;refine Zdk ?_;refine tl_u rfl (o_stU (l':=wcs X.h X.t X.tk X.gv (c+1) false) rfl upqz sz3 rfl rfl (by show 4<6;decide) rfl) ?_;refine nq ?_;refine Zb ?_;refine Zy ?_;refine q_block_r (q_then_r (q_then_r (q_block_r (q_then_r ?_))));exact ⟨_,C (WkA X { Y with Mt:=Y.Mt.put (c:Int) (.bool true),ls:=c+1 } s),res2 rfl rfl rfl,(λ g w h=>by rw [hC];exact (Dr.sat (A':=R*pt X.h (cl (hcs X.p X.ba X.n X.lv (some X.w)) 210)*pt X.w (cl (wcs X.h X.t X.tk X.gv (c+1) false) 126)*pt X.lv (mpo .i64 Y.Ml)*pt X.tk (mpo .i64 (Y.Mt.put (c:Int) (.bool true)))*pt X.gv (mpo .i64 Y.Mg)*TxA X.t X.p X.lg X.d X.mb X.at_ X.sz Y.M false s) drqz g w h).perm (by unfold WkA;ac_rfl)),_,rfl,ok_take hok hbn hbf hbl,rfl⟩
  intro h;refine tc_skip ?_;refine Zr ?_;refine Zh5 ?_;exact ⟨_,by omega,c+1,by rcases Nat.lt_or_ge c b with h9|h9<;>first|omega|(exfalso;have e9:c=b:=(by omega);subst e9;rw [hbf] at h;simp at h),rfl,rfl,rfl,drqz⟩
theorem Take13_no {A R:SP}{C:SP->SP}{X:WkX}{Y:WkY}{T:WkT}{s:DevS}(hc:Ct A (WkA X Y s) R C:=by exact cbqz)(hok:WkOk X Y T (s.ls.length*64))(hb:WkB X s)(ho:s.off=false:=by assumption)(hf:leastB T X.n=none):
    Fn Tryz.prog 103 #[.pointer (some ⟨X.w,0,none⟩)] A (λ r B=>r= .tuple #[.int .i64 0,.int .i64 7]/\ B=C (WkA X Y s)):=by
  refine fn_enterW func103 rfl ntmps103 (by simp) ?_;have hnf:=leastB_none.1 hf;obtain ⟨hb1,hb2,hb3⟩:=id hb;have hle:=hok.le;obtain ⟨rfl,hC⟩:=hc;refine tc_eq (show _=R*pt X.h (cl (hcs X.p X.ba X.n X.lv (some X.w)) 210)*pt X.w (cl (wcs X.h X.t X.tk X.gv Y.ls false) 126)*pt X.lv (mpo .i64 Y.Ml)*pt X.tk (mpo .i64 Y.Mt)*pt X.gv (mpo .i64 Y.Mg)*TxA X.t X.p X.lg X.d X.mb X.at_ X.sz Y.M false s by unfold WkA;ac_rfl) ?_;refine Zdh ?_;refine tl_c rfl (o_call bd128 rfl (begin13_c (s:=s) (X:=X) (Y:=Y) (T:=T) (R:=R) (C:=λ Z=>R*Z) (hc:=⟨by unfold WkA;ac_rfl,λ _=>rfl⟩) (hok:=hok) (hb:=hb))) ?_;refine Zd1 ?_;refine Zz ?_;intro h;refine Zc4 ?_;refine Zdk ?_;refine tv (o_load p3 rfl hsqz rfl) ?_;refine Za ?_;refine tc_block ?_;refine tc_loop (λ kk ρ BB=>∃ (c:Nat),(c<=X.n)/\ kk=X.n-c/\ ρ 5=(vn c)/\ ρ 0= .pointer (some ⟨X.w,0,none⟩)/\ Dr BB (R*pt X.h (cl (hcs X.p X.ba X.n X.lv (some X.w)) 210)*pt X.w (cl (wcs X.h X.t X.tk X.gv Y.ls false) 126)*pt X.lv (mpo .i64 Y.Ml)*pt X.tk (mpo .i64 Y.Mt)*pt X.gv (mpo .i64 Y.Mg)*TxA X.t X.p X.lg X.d X.mb X.at_ X.sz Y.M false s)) (m:=X.n-(Y.ls)) ?_ ?_
  . exact ⟨Y.ls,by omega,rfl,rfl,rfl,drqz⟩
  intro k ρ B hI;obtain ⟨c,hp0,hkk1,hE5,hE0,hBA⟩:=hI;refine tc_pre hBA.sat ?_;clear hBA;refine te 5 hE5 ?_;refine te 0 hE0 ?_;refine Zl ?_;refine Zdj ?_;refine Zco ?_;refine Zef ?_;refine tv (o_load p3 rfl hsqz rfl) ?_;refine Zu ?_;refine tc_cond rfl (λ h=> ?_) (sbq ?_)
  . have hcn:c<X.n:=(by first|omega|(simp at h;omega));refine Zbp ?_;refine Z1 ?_;refine Zco ?_;refine Zec ?_;refine tv (o_load p124 rfl hsqz rfl) ?_;refine tlm ?_;refine tv (o_lookupOk (ik:= .i64) (M:=Y.Ml) underlying124 underlying3 z4 rfl rfl hsqz) ?_;refine tl_env (d:=37) (v:= .tuple #[.bool (T.lv c),.bool (T.lv c)]) (by show Value.tuple #[(Y.Ml.get (c:Int)).getD _,.bool (Y.Ml.get (c:Int)).isSome]=_;rw [mapV Y.Ml (c:Int) hok.l,mapN Y.Ml (c:Int) hok.l];simp) ?_;refine Zeo ?_;refine tc_seq ?_;refine tc_cut (λ ρ BB=>ρ 50= .bool (freeB T c)/\ ρ 0= .pointer (some ⟨X.w,0,none⟩)/\ ρ 5=(vn c)/\ Dr BB (R*pt X.h (cl (hcs X.p X.ba X.n X.lv (some X.w)) 210)*pt X.w (cl (wcs X.h X.t X.tk X.gv Y.ls false) 126)*pt X.lv (mpo .i64 Y.Ml)*pt X.tk (mpo .i64 Y.Mt)*pt X.gv (mpo .i64 Y.Mg)*TxA X.t X.p X.lg X.d X.mb X.at_ X.sz Y.M false s)) ?_ ?_
    . skip
      refine Zbq ?_;refine tv (o_not rfl) ?_;refine tlm ?_;refine tl_bool (d:=42) rfl (sbq ?_) (sbq ?_)
      . intro h;refine Zdj ?_;refine Zcn ?_;refine tlm ?_;refine tv (o_lookup (ik:= .i64) (M:=Y.Mt) underlying124 underlying3 z4 rfl rfl hsqz) ?_;refine tl_env (d:=48) (v:= .bool (T.tk c)) (by show (Y.Mt.get (c:Int)).getD _=_;rw [mapV Y.Mt (c:Int) hok.t];simp) ?_;refine tv (o_not rfl) ?_;refine Zbg ?_;exact ⟨by unfold freeB;cases h1:T.lv c<;>cases h2:T.tk c<;>simp [h1,h2] at* <;>rfl,rfl,rfl,drqz⟩
      intro h;refine Zbk ?_;refine Zc2 ?_;refine Zbx ?_;exact ⟨by unfold freeB;cases h1:T.lv c<;>cases h2:T.tk c<;>simp [h1,h2] at* <;>rfl,rfl,rfl,drqz⟩
    intro ρ B hI;obtain ⟨hE50,hE0,hE5,hBA⟩:=hI;refine q_then_n ?_;refine tc_pre hBA.sat ?_;clear hBA;refine te 50 hE50 ?_;refine te 0 hE0 ?_;refine te 5 hE5 ?_;refine tc_cond rfl (λ h=> ?_) (sbq ?_)
    . exfalso;rw [hnf c hcn] at h;simp at h
    intro h;refine tc_skip ?_;refine Zr ?_;refine Zh5 ?_;exact ⟨_,by omega,c+1,by omega,rfl,rfl,rfl,drqz⟩
  intro h;refine Zk ?_;refine sr ?_;refine Zy ?_;exact ⟨_,C (WkA X Y s),res2 rfl rfl rfl,(λ g w h=>by rw [hC];exact (Dr.sat (A':=R*pt X.h (cl (hcs X.p X.ba X.n X.lv (some X.w)) 210)*pt X.w (cl (wcs X.h X.t X.tk X.gv Y.ls false) 126)*pt X.lv (mpo .i64 Y.Ml)*pt X.tk (mpo .i64 Y.Mt)*pt X.gv (mpo .i64 Y.Mg)*TxA X.t X.p X.lg X.d X.mb X.at_ X.sz Y.M false s) drqz g w h).perm (by unfold WkA;ac_rfl)),rfl,rfl⟩
theorem Zha {p r:Prop}(k:r)(h:Kq r->p:=by intro k;refine Zbu ?_;refine Zz ?_;exact k.o):p:=h ⟨k⟩
theorem Zif {p r:Prop}(k:r)(h:Kq r->p:=by intro k;refine tlm ?_;refine tv (o_min2 underlying3 rfl rfl) ?_;exact k.o):p:=h ⟨k⟩
theorem Give13_ok {A R:SP}{C:SP->SP}{X:WkX}{Y:WkY}{T:WkT}{s:DevS}(hc:Ct A (WkA X Y s) R C:=by exact cbqz)(hok:WkOk X Y T (s.ls.length*64))(hb:WkB X s)(ho:s.off=false:=by assumption){b:Nat}(hu:usedB T b=true):
    Fn Tryz.prog 105 #[.pointer (some ⟨X.w,0,none⟩),vn b] A (λ r B=>∃Y2,r= .int .i64 0/\ WkOk X Y2 (T.give b) (s.ls.length*64)/\ B=C (WkA X Y2 s)):=by
  refine fn_enterW func105 rfl ntmps105 (by simp) ?_;obtain ⟨hb1,hb2,hb3⟩:=id hb;have hle:=hok.le;have hun:=used_n hok hu;obtain ⟨rfl,hC⟩:=hc;refine tc_eq (show _=R*pt X.h (cl (hcs X.p X.ba X.n X.lv (some X.w)) 210)*pt X.w (cl (wcs X.h X.t X.tk X.gv Y.ls false) 126)*pt X.lv (mpo .i64 Y.Ml)*pt X.tk (mpo .i64 Y.Mt)*pt X.gv (mpo .i64 Y.Mg)*TxA X.t X.p X.lg X.d X.mb X.at_ X.sz Y.M false s by unfold WkA;ac_rfl) ?_;refine Zdd ?_;refine tlm ?_;refine tl_c rfl (o_call bd185 rfl (use13_c (s:=s) (X:=X) (Y:=Y) (T:=T) (R:=R) (C:=λ Z=>R*Z) (b:=(b:Int)) (hc:=⟨by unfold WkA;ac_rfl,λ _=>rfl⟩) (hok:=hok) (hb:=hb))) ?_;rintro _ _ ⟨rfl,rfl⟩;refine tl_env (d:=8) (v:= .int .i64 0) (by show Value.int .i64 (if usedZ T (b:Int)=true then 0 else 130)=_;rw [usedZ_nat,if_pos hu]) ?_;refine Zha ?_;intro h;refine Zg3 ?_;refine Zcn ?_;refine tlm ?_;refine tv (o_lookup (ik:= .i64) (M:=Y.Mt) underlying124 underlying3 z4 rfl rfl hsqz) ?_;refine tl_env (d:=17) (v:= .bool (T.tk b)) (by show (Y.Mt.get (b:Int)).getD _=_;rw [mapV Y.Mt (b:Int) hok.t];simp) ?_;refine nq ?_;refine tc_cut (λ ρ BB=>∃ (Y2:WkY),(WkOk X Y2 (T.give b) (s.ls.length*64))/\ Dr BB (R*pt X.h (cl (hcs X.p X.ba X.n X.lv (some X.w)) 210)*pt X.w (cl (wcs X.h X.t X.tk X.gv Y2.ls false) 126)*pt X.lv (mpo .i64 Y2.Ml)*pt X.tk (mpo .i64 Y2.Mt)*pt X.gv (mpo .i64 Y2.Mg)*TxA X.t X.p X.lg X.d X.mb X.at_ X.sz Y2.M false s)) ?_ ?_
  . skip
    refine tc_cond rfl (λ h=> ?_) (λ h=> ?_)
    . have htk:T.tk b=true:=(by first|exact h|simpa using h);refine Z1 ?_;refine Zcn ?_;refine tlm ?_;refine tl_x rfl (o_delete (ik:= .i64) (M:=Y.Mt) underlying124 underlying3 rfl rfl upqz rfl) ?_;rintro _ _ ⟨rfl,rfl⟩;refine nq ?_;refine Zb5 ?_;refine Zdk ?_;refine tv (o_load p3 rfl hsqz rfl) ?_;refine Zif ?_;refine Zdk ?_;refine tl_u rfl (o_stU (l':=wcs X.h X.t X.tk X.gv (min Y.ls b) false) rfl upqz sz3 rfl rfl (by show 4<6;decide) rfl) ?_;refine tl_nil ?_;exact ⟨{ Y with Mt:=Y.Mt.del (b:Int),ls:=min Y.ls b },by first|exact ok_give hok htk|exact ok_give2 hok htk hu,drqz⟩
    have htk:¬T.tk b=true:=(by first|exact Bool.eq_false_iff.1 h|(rw [h];decide));refine Zbq ?_;refine tv (o_nilCheck rfl) ?_;refine tv (o_fieldAddr (o:=3) underlying126 rfl rfl sz124 rfl) ?_;refine tv (o_load p124 rfl hsqz rfl) ?_;refine tlm ?_;refine tl_u rfl (o_mapUpdate (ik:= .i64) (M:=Y.Mg) (v:= .bool true) underlying124 underlying3 rfl upqz rfl rfl rfl) ?_;refine tl_nil ?_;exact ⟨{ Y with Mg:=Y.Mg.put (b:Int) (.bool true) },by first|exact ok_give hok htk|exact ok_give2 hok htk hu,drqz⟩
  intro ρ B hI;obtain ⟨Y2,hgv0,hBA⟩:=hI;refine q_then_n ?_;refine tc_pre hBA.sat ?_;clear hBA;refine Zcv ?_;exact ⟨_,C (WkA X Y2 s),res1 rfl rfl,(λ g w h=>by rw [hC];exact (Dr.sat (A':=R*pt X.h (cl (hcs X.p X.ba X.n X.lv (some X.w)) 210)*pt X.w (cl (wcs X.h X.t X.tk X.gv Y2.ls false) 126)*pt X.lv (mpo .i64 Y2.Ml)*pt X.tk (mpo .i64 Y2.Mt)*pt X.gv (mpo .i64 Y2.Mg)*TxA X.t X.p X.lg X.d X.mb X.at_ X.sz Y2.M false s) drqz g w h).perm (by unfold WkA;ac_rfl)),Y2,rfl,hgv0,rfl⟩
theorem Zek {p r:Prop}(k:r)(h:Kq r->p:=by intro k;refine tm 12 rfl kqz rfl (o_extract rfl rfl) ?_;refine tm 13 rfl kqz rfl (o_extract rfl rfl) ?_;exact k.o):p:=h ⟨k⟩
theorem Read13_ok {A R:SP}{C:SP->SP}{X:WkX}{Y:WkY}{T:WkT}{s:DevS}(hc:Ct A (WkA X Y s) R C:=by exact cbqz)(hok:WkOk X Y T (s.ls.length*64))(hb:WkB X s)(ho:s.off=false:=by assumption){b:Nat}(hu:usedB T b=true):
    Fn Tryz.prog 148 #[.pointer (some ⟨X.w,0,none⟩),vn b] A (λ r B=>∃a c,r= .tuple #[.slice a 256 c,.int .i64 0]/\ 256<=c/\ B=A*Sl 1 (.slice a 256 c) 256 (bys (ovF T.f (X.ba+256*b) (((imgS s).drop (X.ba+256*b)).take 256)))):=by
  refine fn_enterW func148 rfl ntmps148 (by simp) ?_;have hw9:=wka_w hc;have hh9:=wka_h hc;have hl9:=wka_lv hc;have ht9:=wka_tk hc;have hg9:=wka_gv hc;have hB:=hb;obtain ⟨hb1,hb2,hb3⟩:=hB;have hun:=used_n hok hu;refine Zdh ?_;refine tlm ?_;refine tl_c rfl (o_call bd185 rfl (use13_c (hc:=hc) (b:=(b:Int)) (hok:=hok) (hb:=hb))) ?_;rintro _ _ ⟨rfl,rfl⟩;refine tl_env (d:=11) (v:= .int .i64 0) (by show Value.int .i64 (if usedZ T (b:Int)=true then 0 else 130)=_;rw [usedZ_nat,if_pos hu]) ?_;refine Zha ?_;intro h;refine Zdv ?_;refine tc_regh mo dr_refl ?_
  show TH _ _ _ _ _ 16 (Array.replicate 16 false) _ _
  refine Zbz ?_;refine tm 2 rfl kqz rfl (o_fieldAddr (o:=1) underlying126 rfl rfl sz122 rfl) ?_;refine tm 3 rfl kqz rfl (o_load p122 rfl hw9 rfl) ?_;refine Zdi ?_;refine tm 6 rfl kqz rfl (o_fieldAddr (o:=0) underlying126 rfl rfl sz45 rfl) ?_;refine tm 7 rfl kqz rfl (o_load p45 rfl hw9 rfl) ?_;refine tm 8 rfl kqz rfl (o_move wqz) ?_;refine th_one (i:=9) kqz ?_;refine oh_c rfl rfl rfl (o_call bd189 rfl (place13_c (hh:=hh9))) ?_;refine Zcw ?_;refine th_one (i:=10) kqz ?_;refine oh_c rfl rfl rfl (o_call bd204 rfl (LoadT_c (hc:=wka_txa hc) (n:=s.ls.length*64) (f:=T.f) (q:=X.ba+256*b) (m:=256) (hM:=hok.m) (ho:=ho) (hqm:=by omega))) ?_;rintro _ _ ⟨a26,c26,rfl,hc26,rfl⟩;refine ⟨by repeat (first|with_reducible exact dr_refl|apply dr_keep|apply dr_drop), ?_⟩;refine tm 11 rfl kqz rfl (o_move wqz) ?_;refine Zek ?_;refine tm 14 rfl kqz rfl (o_assign wqz) ?_;refine tm 15 rfl kqz rfl (o_assign wqz) ?_;refine Zbs ?_;refine Zb ?_;refine Zv ?_;refine Zff ?_;refine Zy ?_;exact ⟨_,_,res2 rfl rfl rfl,Dr.sat drqz,a26,c26,rfl,hc26,rfl⟩
theorem Read13_no {A R:SP}{C:SP->SP}{X:WkX}{Y:WkY}{T:WkT}{s:DevS}(hc:Ct A (WkA X Y s) R C:=by exact cbqz)(hok:WkOk X Y T (s.ls.length*64))(hb:WkB X s)(ho:s.off=false:=by assumption){b:Int}(hu:usedZ T b=false):
    Fn Tryz.prog 148 #[.pointer (some ⟨X.w,0,none⟩),.int .i64 b] A (λ r B=>r= .tuple #[.slice none 0 0,.int .i64 130]/\ A=B):=by
  refine fn_enterW func148 rfl ntmps148 (by simp) ?_;refine Zdh ?_;refine tlm ?_;refine tl_c rfl (o_call bd185 rfl (use13_c (hc:=hc) (b:=b) (hok:=hok) (hb:=hb))) ?_;rintro _ _ ⟨rfl,rfl⟩;refine tl_env (d:=11) (v:= .int .i64 130) (by show Value.int .i64 (if usedZ T b=true then 0 else 130)=_;rw [hu];rfl) ?_;refine Zbu ?_;refine Zbv ?_;refine tc_cond rfl (sbq ?_) dbq;intro h;refine Zg7 ?_;exact ⟨_,_,res2 rfl rfl rfl,Dr.sat drqz,rfl,rfl⟩
theorem Write13_ok {A R:SP}{C:SP->SP}{X:WkX}{Y:WkY}{T:WkT}{s:DevS}(hc:Ct A (WkA X Y s) R C:=by exact cbqz)(hok:WkOk X Y T (s.ls.length*64))(hb:WkB X s)(ho:s.off=false:=by assumption){b:Nat}(hu:usedB T b=true){a:Option Addr}{c:Nat}{xs:List Nat}(hr:Rs R a (bys xs):=by exact rbqz)(hxl:xs.length=256)(hxb:∀x∈xs,x<256):
    Fn Tryz.prog 107 #[.pointer (some ⟨X.w,0,none⟩),vn b,.slice a 256 c] A (λ r B=>∃Y2,r= .int .i64 0/\ WkOk X Y2 (T.write X.ba b xs) (s.ls.length*64)/\ B=C (WkA X Y2 s)):=by
  refine fn_enterW func107 rfl ntmps107 (by simp) ?_;obtain ⟨hb1,hb2,hb3⟩:=id hb;have hle:=hok.le;have hun:=used_n hok hu;obtain ⟨rfl,hC⟩:=hc;refine tc_eq (show _=R*pt X.h (cl (hcs X.p X.ba X.n X.lv (some X.w)) 210)*pt X.w (cl (wcs X.h X.t X.tk X.gv Y.ls false) 126)*pt X.lv (mpo .i64 Y.Ml)*pt X.tk (mpo .i64 Y.Mt)*pt X.gv (mpo .i64 Y.Mg)*TxA X.t X.p X.lg X.d X.mb X.at_ X.sz Y.M false s by unfold WkA;ac_rfl) ?_;refine Zdd ?_;refine tlm ?_;refine tl_c rfl (o_call bd185 rfl (use13_c (s:=s) (X:=X) (Y:=Y) (T:=T) (R:=R) (C:=λ Z=>R*Z) (b:=(b:Int)) (hc:=⟨by unfold WkA;ac_rfl,λ _=>rfl⟩) (hok:=hok) (hb:=hb))) ?_;rintro _ _ ⟨rfl,rfl⟩;refine tl_env (d:=11) (v:= .int .i64 0) (by show Value.int .i64 (if usedZ T (b:Int)=true then 0 else 130)=_;rw [usedZ_nat,if_pos hu]) ?_;refine Zha ?_;intro h;refine Zc4 ?_;refine tv (o_len underlying67 rfl) ?_;refine Zz ?_;intro h;refine Zgb ?_;refine tv (o_load p122 rfl hsqz rfl) ?_;refine tv (o_makeFunc (fs:=[.pointer (some ⟨X.t,0,none⟩)]) (cs:=[]) rfl rfl) ?_;refine Zds ?_;refine tv (o_nilCheck rfl) ?_;refine Zcn ?_;refine tlm ?_;refine tv (o_lookup (ik:= .i64) (M:=Y.Mt) underlying124 underlying3 z4 rfl rfl hsqz) ?_;refine tl_env (d:=28) (v:= .bool (T.tk b)) (by show (Y.Mt.get (b:Int)).getD _=_;rw [mapV Y.Mt (b:Int) hok.t];simp) ?_;refine nq ?_;refine tc_cond rfl (λ h=> ?_) (λ h=> ?_)
  . have htk:T.tk b=true:=(by first|exact h|simpa using h);refine Zbq ?_;refine tv (o_nilCheck rfl) ?_;refine tv (o_fieldAddr (o:=1) underlying126 rfl rfl sz122 rfl) ?_;refine tv (o_load p122 rfl hsqz rfl) ?_;refine tv (o_makeFunc (fs:=[.pointer (some ⟨X.t,0,none⟩)]) (cs:=[]) rfl rfl) ?_;refine Zbu ?_;refine Zv ?_;refine tv (o_nilCheck rfl) ?_;refine Zco ?_;refine tlm ?_;refine tl_c rfl (o_call bd189 rfl (place13_c)) ?_;refine Zda ?_;refine tl_c rfl (o_dyn bd187 rfl rfl (FreshT_c (s:=s) (n:=s.ls.length*64) (f:=T.f) (q:=X.ba+256*b) (xs:=xs) (hM:=hok.m) (hn:=rfl) (ho:=ho) (hr:=by repeat (first|exact hr|apply Rs.left)) (hm:=hxl) (hb:=hxb) (hqm:=by omega))) ?_;rintro _ _ ⟨M43,rfl,hM43,rfl⟩;refine Zff ?_;refine Zbd ?_;exact ⟨_,C (WkA X { Y with M:=M43 } s),res1 rfl rfl,(λ g w h=>by rw [hC];exact (Dr.sat (A':=R*pt X.h (cl (hcs X.p X.ba X.n X.lv (some X.w)) 210)*pt X.w (cl (wcs X.h X.t X.tk X.gv Y.ls false) 126)*pt X.lv (mpo .i64 Y.Ml)*pt X.tk (mpo .i64 Y.Mt)*pt X.gv (mpo .i64 Y.Mg)*TxA X.t X.p X.lg X.d X.mb X.at_ X.sz M43 false s) drqz g w h).perm (by unfold WkA;ac_rfl)),{ Y with M:=M43 },rfl,ok_write hok (by rw [htk];exact hM43),rfl⟩
  have htk:T.tk b=false:=(by first|exact h|simpa using h);refine Zb9 ?_;refine Zv ?_;refine tv (o_nilCheck rfl) ?_;refine Zco ?_;refine tlm ?_;refine tl_c rfl (o_call bd189 rfl (place13_c)) ?_;refine Zda ?_;refine tl_c rfl (o_dyn bd186 rfl rfl (StoreT_c (s:=s) (n:=s.ls.length*64) (f:=T.f) (q:=X.ba+256*b) (xs:=xs) (hM:=hok.m) (hn:=rfl) (ho:=ho) (hr:=by repeat (first|exact hr|apply Rs.left)) (hm:=hxl) (hb:=hxb) (hqm:=by omega))) ?_;rintro _ _ ⟨M43,rfl,hM43,rfl⟩;refine Zff ?_;refine Zbd ?_;exact ⟨_,C (WkA X { Y with M:=M43 } s),res1 rfl rfl,(λ g w h=>by rw [hC];exact (Dr.sat (A':=R*pt X.h (cl (hcs X.p X.ba X.n X.lv (some X.w)) 210)*pt X.w (cl (wcs X.h X.t X.tk X.gv Y.ls false) 126)*pt X.lv (mpo .i64 Y.Ml)*pt X.tk (mpo .i64 Y.Mt)*pt X.gv (mpo .i64 Y.Mg)*TxA X.t X.p X.lg X.d X.mb X.at_ X.sz M43 false s) drqz g w h).perm (by unfold WkA;ac_rfl)),{ Y with M:=M43 },rfl,ok_write hok (by rw [htk];exact hM43),rfl⟩
theorem Root13_c {A R:SP}{C:SP->SP}{X:WkX}{Y:WkY}{T:WkT}{s:DevS}(hc:Ct A (WkA X Y s) R C:=by exact cbqz)(hok:WkOk X Y T (s.ls.length*64))(hb:WkB X s)(ho:s.off=false:=by assumption):
    Fn Tryz.prog 199 #[.pointer (some ⟨X.w,0,none⟩)] A (λ r B=>∃v,r= .tuple #[.int .u64 v,.int .i64 0]/\ A=B):=by
  refine fn_enterW func199 rfl ntmps199 (by simp) ?_;have hw9:=wka_w hc;have hh9:=wka_h hc;have hl9:=wka_lv hc;have ht9:=wka_tk hc;have hg9:=wka_gv hc;have hB:=hb;obtain ⟨hb1,hb2,hb3⟩:=hB;have hN:128<=s.ls.length*64:=(by omega);refine Zdh ?_;refine tl_c rfl (o_call bd128 rfl (begin13_c (hc:=hc) (hok:=hok) (hb:=hb))) ?_;refine Zd1 ?_;refine Zz ?_;intro h;refine Zgb ?_;refine tv (o_load p122 rfl hw9 rfl) ?_;refine tl_c rfl (o_call bd204 rfl (LoadT_c (hc:=wka_txa hc) (n:=s.ls.length*64) (f:=T.f) (q:=64) (m:=8) (hM:=hok.m) (ho:=ho) (hqm:=by omega))) ?_;rintro _ _ ⟨a20,c20,rfl,hc20,rfl⟩;refine Zf2 ?_;intro h;refine Zdv ?_;obtain ⟨zs,hzs⟩:∃zs,ovF T.f 64 (((imgS s).drop 64).take 8)=zs:=⟨_,rfl⟩;rw [hzs]
  refine tc_have (λ _ _ h=>sl_len h) λ hzl=> ?_
  rw [bys_length] at hzl
  refine tc_reg ?_;refine Zds ?_;refine Zev ?_;refine tc_loop (λ kk ρ BB=>∃ (i:Nat) (v:Value),(i<=8)/\ (∃z,v= .int .u64 z)/\ kk=8-i/\ ρ 30=(vn i)/\ ρ 7=v/\ ρ 28= .slice a20 8 c20/\ ρ 29= .int .i64 8/\ Dr BB (A*Sl 1 (.slice a20 8 c20) 8 (bys zs))) (m:=8-(0)) ?_ ?_
  . exact ⟨0,.int .u64 0,by omega,⟨0,rfl⟩,rfl,rfl,rfl,rfl,rfl,drqz⟩
  intro k ρ B hI;obtain ⟨i,v,hp0,hp1,hkk1,hE30,hE7,hE28,hE29,hBA⟩:=hI;refine tc_pre hBA.sat ?_;clear hBA;refine te 30 hE30 ?_;refine te 7 hE7 ?_;refine te 28 hE28 ?_;refine te 29 hE29 ?_;refine Zcg ?_;refine tc_cond rfl (λ h=> ?_) (λ h=> ?_)
  . obtain ⟨z,rfl⟩:=hp1;have hi:i<zs.length:=(by simp at h;omega);obtain ⟨y,hy⟩:∃y,zs[i]=y:=⟨_,rfl⟩;refine Ze9 ?_;refine tv (o_ixP1 (a:=a20) underlying67 sz5 rfl rfl oqz (nn_rs (xs:=bys zs) sq0z (by rw [bys_length];omega))) ?_;refine tv (o_ldP (a:=a20) (xs:=bys zs) p5 rfl sq0z (bys_at hi)) ?_;refine tl_env (d:=34) (v:= .int .u8 (y:Nat)) (by show Value.int .u8 ((zs[i]:Nat):Int)=_;rw [hy]) ?_;refine Zm ?_;refine Zb5 ?_;refine tv (by first|exact o_conv64 underlying5 underlying141 rfl|exact o_conv underlying5 underlying141 rfl) ?_;refine Zga ?_;refine tv (o_shl rfl rfl oqz) ?_;refine tv (o_or rfl rfl) ?_;refine Zep ?_;exact ⟨_,by omega,i+1,_,by omega,⟨_,rfl⟩,rfl,rfl,rfl,rfl,rfl,drqz⟩
  obtain ⟨z,rfl⟩:=hp1;refine Zgj ?_;exact ⟨_,_,res2 rfl rfl rfl,Dr.sat drqz,z,rfl,rfl⟩
theorem rising_c {A:SP}{b n:Nat}{M:MS}{g:Nat->Bool}(hm:Has A b (mpo .i64 M))(hs:SF M n g)(hn:n<=4194304:=by omega):
    Fn Tryz.prog 127 #[.map (some b)] A (λ r B=>∃a c,r= .slice a (adZ n g).length c/\ (adZ n g).length<=c/\ B=A*Sl 1 (.slice a (adZ n g).length c) (adZ n g).length (ints (adZ n g))):=by
  refine fn_enterW func127 rfl ntmps127 (by simp) ?_;have hlen:M.D.length=(adZ n g).length:=(by rw [sf_len hs,adZ_len]);have hsl:=adS_len n g;rw [←adZ_len] at hsl
  refine Zdr ?_;refine tl_c rfl (o_call bd203 rfl (Keys_c)) ?_;rintro _ _ ⟨k4,rfl,rfl⟩;refine tl_c rfl (o_call bd202 rfl (Sorted_c (M:=M) (hm:=has_left hm) (hk:=by first|exact has_here|exact has_pt) (hw:=hs.wf) (hb:=sf_bd hs hn) (hl:=by omega))) ?_;rintro _ _ ⟨a5,c5,rfl,hc5,rfl⟩;rw [sf_sort hs,hlen]
  rw [hlen] at hc5
  refine Zbd ?_;exact ⟨_,_,res1 rfl rfl,Dr.sat drqz,a5,c5,rfl,hc5,rfl⟩
theorem Taken13_c {A R:SP}{C:SP->SP}{X:WkX}{Y:WkY}{T:WkT}{s:DevS}(hc:Ct A (WkA X Y s) R C:=by exact cbqz)(hok:WkOk X Y T (s.ls.length*64))(hb:WkB X s)(ho:s.off=false:=by assumption):
    Fn Tryz.prog 36 #[.pointer (some ⟨X.w,0,none⟩)] A (λ r B=>∃a c,r= .slice a (adZ X.n T.tk).length c/\ (adZ X.n T.tk).length<=c/\ B=A*Sl 1 (.slice a (adZ X.n T.tk).length c) (adZ X.n T.tk).length (ints (adZ X.n T.tk))):=by
  refine fn_enterW func36 rfl ntmps36 (by simp) ?_;have hw9:=wka_w hc;have hh9:=wka_h hc;have hl9:=wka_lv hc;have ht9:=wka_tk hc;have hg9:=wka_gv hc;have hB:=hb;obtain ⟨hb1,hb2,hb3⟩:=hB;refine Zdd ?_;refine tl_c rfl (o_call bd126 rfl (there13_c (hw:=hw9))) ?_;refine Zb7 ?_;refine tlm ?_;refine tl_bool (d:=6) rfl dbq (sbq ?_);intro h;refine Zdj ?_;refine tv (o_fieldAddr (o:=5) underlying126 rfl rfl sz4 rfl) ?_;refine tv (o_load p4 rfl hw9 rfl) ?_;refine Zcc ?_;intro h;refine Ze6 ?_;refine tv (o_fieldAddr (o:=2) underlying126 rfl rfl sz124 rfl) ?_;refine tv (o_load p124 rfl hw9 rfl) ?_;refine tl_c rfl (o_call bd127 rfl (rising_c (M:=Y.Mt) (g:=T.tk) (hm:=ht9) (hs:=hok.t))) ?_;rintro _ _ ⟨a16,c16,rfl,hc16,rfl⟩;refine Zbd ?_;exact ⟨_,_,res1 rfl rfl,Dr.sat drqz,a16,c16,rfl,hc16,rfl⟩
end Go.Vl

namespace Go.Vl
open Go Go.Proofs Go.Proofs.Tryz
def onL (zs:List Nat):Nat->Bool:=λ c=>decide (c∈zs)
theorem onL_nil:onL []=g0:=by funext c;simp [onL,g0]
theorem onL_snoc (zs:List Nat)(x:Nat):onL (zs++[x])=updG (onL zs) x true:=by
  funext c;unfold onL updG
  by_cases h:c=x
  . rw [if_pos h,h];simp
  rw [if_neg h];simp [h]
def natI (zs:List Nat):List Int:=zs.map λ a:Nat=>(a:Int)
theorem natI_len (zs:List Nat):(natI zs).length=zs.length:=by simp [natI]
theorem natI_at {zs:List Nat}{i:Nat}(h:i<zs.length):(ints (natI zs))[i]? =some ((vn (zs[i]))):=by
  unfold ints natI;rw [List.getElem?_map,List.getElem?_map,List.getElem?_eq_getElem h];rfl
theorem nodup_at {zs:List Nat}(h:zs.Nodup){i:Nat}(hi:i<zs.length):onL (zs.take i) zs[i]=false:=by
  unfold onL
  rw [decide_eq_false]
  intro hm;obtain ⟨j,hj,e⟩:=List.mem_iff_getElem.1 hm;rw [List.length_take] at hj
  rw [List.getElem_take] at e
  exact List.pairwise_iff_getElem.1 h j i oqz hi oqz e
attribute [local irreducible] crk crL crc Sl pt ro Dev imgS recS readS recsF rdW rdO rkT Parts rvl recordsS runsL adrF kcl xcl kys runA runsF layF ovF TxA adZ WkA
theorem NewH_c {A R:SP}{C:SP->SP}{d:Nat}{s:DevS}(hc:Ct A (Dev d s) R C:=by exact cbqz){p lg:Nat}{ov:Option Nat}(hp:Has A p (cl (pocs lg d ov) 263):=by exact hbqz){ba n:Nat}(h64:ba%64=0)(h1:128<=ba)(h2:ba+256*n<=s.ls.length*64)(htop:s.ls.length*64<=4194304)(hpos:0<s.ls.length):
    Fn Tryz.prog 86 #[pz p,vn ba,vn n] A (λ r B=>∃lv hd,r= .tuple #[pz hd,.int .i64 0]/\ B=A*pt lv (mpo .i64 ⟨[],0⟩)*pt hd (cl (hcs p ba n lv none) 210)):=by
  refine fn_enterW func86 rfl ntmps86 (by simp) ?_;refine Zdh ?_;refine tl_c rfl (o_call bd171 rfl (Size12_c (hc:=hc) (hp:=hp))) ?_;rintro _ _ ⟨rfl,rfl⟩;refine tv (o_eqi rfl rfl) ?_;refine Zn ?_;intro h;refine Zc4 ?_;refine tv (o_remI rfl rfl oqz) ?_;refine Zdf ?_;refine tl_bool (d:=14) rfl dbq (sbq ?_);intro h;refine Zhl ?_;refine tl_bool (d:=18) rfl dbq (sbq ?_);intro h;refine Zhl ?_;refine tl_bool (d:=22) rfl dbq (sbq ?_);intro h;refine Zv ?_;refine tl_c rfl (o_call bd171 rfl (Size12_c (hc:=hc) (hp:=hp))) ?_;rintro _ _ ⟨rfl,rfl⟩;refine Zdy ?_;refine tl_bool (d:=28) rfl dbq (sbq ?_);intro h;refine Zv ?_;refine tl_c rfl (o_call bd171 rfl (Size12_c (hc:=hc) (hp:=hp))) ?_;refine Zda ?_;refine tv (o_subI rfl rfl oqz) ?_;refine tv (o_quoI rfl rfl oqz) ?_;refine tv (o_gtr rfl rfl) ?_;refine Zcc ?_;intro h;refine Zb9 ?_;refine Zv ?_;refine tl_x rfl (o_makeMap (ik:= .i64) underlying124) ?_;rintro _ _ ⟨b40,rfl,rfl⟩;refine tv (o_bS (l:=[_,_,_,_,_]) (pv_cons wqz (pv_cons wqz (pv_cons wqz (pv_cons wqz pv_nil)))) underlying210 z210 (pl210 underlying210) rfl) ?_;refine tl_x rfl (o_box rfl rfl) ?_;rintro _ _ ⟨b42,rfl,rfl⟩;refine Zy ?_;exact ⟨_,_,res2 rfl rfl rfl,Dr.sat drqz,b40,b42,rfl,rfl⟩
theorem Zig {p r:Prop}(k:r)(h:Kq r->p:=by intro k;refine tv (o_fieldAddr (o:=4) underlying210 rfl rfl sz46 rfl) ?_;refine tv (o_load p46 rfl hsqz rfl) ?_;exact k.o):p:=h ⟨k⟩
theorem LoadH_c {A R:SP}{hd p ba n lv m c:Nat}{a:Option Addr}{zs:List Nat}(hA:A=R*pt hd (cl (hcs p ba n lv none) 210))(hr:Rs R a (ints (natI zs)))(hm:zs.length=m)(hnd:zs.Nodup)(hz:∀x∈zs,x<n)(hn:n<=4194304)(hml:m<=4194304):
    Fn Tryz.prog 87 #[pz hd,.slice a m c] A (λ r B=>∃l2 M2,r= .int .i64 0/\ SF M2 n (onL zs)/\ B=R*pt hd (cl (hcs p ba n l2 none) 210)*pt l2 (mpo .i64 M2)):=by
  refine fn_enterW func87 rfl ntmps87 (by simp) ?_;subst hA;refine Zdd ?_;refine tl_c rfl (o_call bd172 rfl (thereH_c)) ?_;refine Zb7 ?_;refine Zn ?_;intro h;refine Zg3 ?_;refine Zig ?_;refine tv (o_nep underlying46 rfl rfl) ?_;refine Zn ?_;intro h;refine Zgy ?_;refine tl_x rfl (o_makeMap (ik:= .i64) underlying124) ?_;rintro _ _ ⟨l2,rfl,rfl⟩;refine Zds ?_;refine Zfl ?_;refine tc_loop (λ kk ρ BB=>∃ (i:Nat) (M2:MS),(i<=m)/\ (SF M2 n (onL (zs.take i)))/\ kk=m-i/\ ρ 19=(vn i)/\ ρ 0=(pz hd)/\ ρ 5= .map (some l2)/\ ρ 17= .slice a m c/\ ρ 18=(vn m)/\ Dr BB (R*pt hd (cl (hcs p ba n lv none) 210)*pt l2 (mpo .i64 M2))) (m:=m-(0)) ?_ ?_
  . exact ⟨0,⟨[],0⟩,by omega,by rw [List.take_zero,onL_nil];exact sf_nil 0 n,rfl,rfl,rfl,rfl,rfl,rfl,drqz⟩
  intro k ρ B hI;obtain ⟨i,M2,hp0,hp1,hkk1,hE19,hE0,hE5,hE17,hE18,hBA⟩:=hI;refine tc_pre hBA.sat ?_;clear hBA;refine te 19 hE19 ?_;refine te 0 hE0 ?_;refine te 5 hE5 ?_;refine te 17 hE17 ?_;refine te 18 hE18 ?_;refine Zcg ?_;refine tc_cond rfl (λ h=> ?_) (λ h=> ?_)
  . have hi:i<zs.length:=(by first|omega|(simp at h;omega));obtain ⟨x,hx1⟩:∃x,zs[i]=x:=⟨_,rfl⟩;have hxn:x<n:=hx1▸hz _ (List.getElem_mem hi)
    have hxo:onL (zs.take i) x=false:=hx1▸nodup_at hnd hi
    refine Zd5 ?_;refine tv (o_ixP1 (a:=a) underlying34 sz3 rfl rfl oqz (nn_rs (xs:=ints (natI zs)) (by repeat (first|exact hr|apply Rs.left)) (by rw [ints_length,natI_len];omega))) ?_;refine tv (o_ldP (a:=a) (xs:=ints (natI zs)) p3 rfl (by repeat (first|exact hr|apply Rs.left)) (natI_at hi)) ?_;refine tl_env (d:=22) (v:=(vn x)) (by show Value.int .i64 ((zs[i]:Nat):Int)=_;rw [hx1]) ?_;refine Zds ?_;refine Zc0 ?_;refine tl_bool (d:=25) rfl dbq (sbq ?_);intro h;refine Zv ?_;refine Zef ?_;refine tv (o_load p3 rfl hsqz rfl) ?_;refine tv (o_geq rfl rfl) ?_;refine Zbb ?_;refine tl_bool (d:=33) rfl dbq (sbq ?_);intro h;refine Zv ?_;refine tv (o_lookup (ik:= .i64) (M:=M2) underlying124 underlying3 z4 rfl rfl hsqz) ?_;refine tl_env (d:=36) (v:= .bool false) (by show (M2.get (x:Int)).getD _=_;rw [mapV M2 (x:Int) hp1];simp [hxo]) ?_;refine Zcc ?_;intro h;refine Ze ?_;refine Zb5 ?_;refine tl_u rfl (o_mapUpdate (ik:= .i64) (M:=M2) (v:= .bool true) underlying124 underlying3 rfl upqz rfl rfl rfl) ?_;refine tl_nil ?_;refine Zc6 ?_;exact ⟨_,by omega,i+1,_,by omega,by rw [List.take_succ_eq_append_getElem hi,onL_snoc,hx1];exact sf_put hp1 hxn,rfl,rfl,rfl,rfl,rfl,rfl,drqz⟩
  obtain rfl:i=m:=by first|omega|(simp at h;omega)
  rw [List.take_of_length_le oqz] at hp1
  refine Zk ?_;refine Zbj ?_;refine Zec ?_;refine tl_u rfl (o_stU (l':=hcs p ba n l2 none) rfl upqz sz124 rfl rfl (by show 3<5;decide) rfl) ?_;refine nq ?_;refine Zcv ?_;exact ⟨.int .i64 0,_,res1 rfl rfl,Dr.sat drqz,l2,M2,rfl,hp1,rfl⟩
theorem BeginH_c {A R:SP}{hd p ba n lv lg d at_ sz:Nat}{s:DevS}(hA:A=R*pt hd (cl (hcs p ba n lv none) 210)*pt p (cl (pocs lg d none) 263)*pt lg (cl (lcs11 d at_ sz) 258)*Dev d s)(hlw:LogW (s.ls.length*64) at_ sz)(ho:s.off=false)(hst:stpS at_ sz s=0):
    Fn Tryz.prog 176 #[pz hd] A (λ r B=>∃w t mb tk gv,r= .tuple #[pz w,.int .i64 0]/\ B=R*pt hd (cl (hcs p ba n lv (some w)) 210)*TxA t p lg d mb at_ sz ⟨[],0⟩ false s*pt tk (mpo .i64 ⟨[],0⟩)*pt gv (mpo .i64 ⟨[],0⟩)*pt w (cl (wcs hd t tk gv 0 false) 126)):=by
  refine fn_enterW func176 rfl ntmps176 (by simp) ?_;subst hA;refine Zdh ?_;refine tl_c rfl (o_call bd172 rfl (thereH_c)) ?_;refine Zb7 ?_;refine Zn ?_;intro h;refine Ze6 ?_;refine tv (o_fieldAddr (o:=0) underlying210 rfl rfl sz163 rfl) ?_;refine tv (o_load p163 rfl hsqz rfl) ?_;refine tl_c rfl (o_call bd250 rfl (Begin12_ok (C:=λ Y=>Y) (R:=R*pt hd (cl (hcs p ba n lv none) 210)) (s:=s) (at_:=at_) (sz:=sz) (p:=p) (lg:=lg) (d:=d) (hA:=by ac_rfl) (hlw:=hlw) (ho:=ho) (hst:=hst))) ?_;rintro _ _ ⟨t,mb,rfl,rfl⟩;refine Zf2 ?_;intro h;refine Zb9 ?_;refine Zv ?_;refine tl_x rfl (o_makeMap (ik:= .i64) underlying124) ?_;rintro _ _ ⟨tk,rfl,rfl⟩;refine tl_x rfl (o_makeMap (ik:= .i64) underlying124) ?_;rintro _ _ ⟨gv,rfl,rfl⟩;refine tv (o_bS (l:=[_,_,_,_,_,_]) (pv_cons wqz (pv_cons wqz (pv_cons wqz (pv_cons wqz pv_nil)))) underlying126 z126 (pl126 underlying126) rfl) ?_;refine tl_x rfl (o_box rfl rfl) ?_;rintro _ _ ⟨b26,rfl,rfl⟩;refine tv (o_nilCheck rfl) ?_;refine tv (o_fieldAddr (o:=4) underlying210 rfl rfl sz46 rfl) ?_;refine tl_u rfl (o_stU (l':=hcs p ba n lv (some b26)) rfl upqz sz46 rfl rfl (by show 4<5;decide) rfl) ?_;refine nq ?_;refine Z1 ?_;refine Zig ?_;refine Zy ?_;exact ⟨_,_,res2 rfl rfl rfl,Dr.sat drqz,b26,t,mb,tk,gv,rfl,rfl⟩
end Go.Vl

namespace Go.Vl
open Go Go.Proofs Go.Proofs.Tryz
def nblk (n:Nat):Nat:=if n%248=0 then n/248 else n/248+1
def blkS (next:Nat)(xs:List Nat):List Nat:=le 4 next++le 2 xs.length++le 2 0++xs++List.replicate (248-xs.length) 0
theorem blkS_len {next:Nat}{xs:List Nat}(h:xs.length<=248):(blkS next xs).length=256:=by
  unfold blkS;simp only [List.length_append,le_length,List.length_replicate];omega
theorem blkS_bytes {next:Nat}{xs:List Nat}(h:∀x∈xs,x<256):∀x∈blkS next xs,x<256:=λ x hx=>by
  unfold blkS at hx
  rcases List.mem_append.1 hx with h1|h1
  . rcases List.mem_append.1 h1 with h2|h2
    . rcases List.mem_append.1 h2 with h3|h3
      . rcases List.mem_append.1 h3 with h4|h4
        . exact le_bytes _ _ _ h4
        exact le_bytes _ _ _ h4
      exact le_bytes _ _ _ h3
    exact h x h2
  rw [(List.mem_replicate.1 h1).2];decide
theorem blkS_next {next:Nat}{xs:List Nat}(h:next<4294967296):nm ((blkS next xs).take 4)=next:=by
  have:(blkS next xs).take 4=le 4 next:=by
    unfold blkS
    rw [List.append_assoc,List.append_assoc,List.append_assoc]
    exact List.take_left' (le_length _ _)
  rw [this,nm_le];exact Nat.mod_eq_of_lt h
theorem blkS_n {next:Nat}{xs:List Nat}(h:xs.length<65536):nm (((blkS next xs).drop 4).take 2)=xs.length:=by
  have:((blkS next xs).drop 4).take 2=le 2 xs.length:=by
    unfold blkS
    rw [List.append_assoc,List.append_assoc,List.append_assoc,List.drop_left' (le_length _ _)]
    exact List.take_left' (le_length _ _)
  rw [this,nm_le];exact Nat.mod_eq_of_lt h
theorem blkS_data {next:Nat}{xs:List Nat}:((blkS next xs).drop 8).take xs.length=xs:=by
  have:(blkS next xs).drop 8=xs++List.replicate (248-xs.length) 0:=by
    unfold blkS
    rw [List.append_assoc]
    exact List.drop_left' (by simp only [List.length_append,le_length])
  rw [this];exact List.take_left' rfl
abbrev Lk:=Nat×List Nat×Int
def lnkS (u:Nat->Bool)(c:Nat->List Nat)(ref:Nat):Lk×Nat:=
  if 1<=ref/\ u (ref-1)=true then
    if 1<=nm (((c (ref-1)).drop 4).take 2)/\ nm (((c (ref-1)).drop 4).take 2)<=248/\ (nm ((c (ref-1)).take 4)=0∨nm (((c (ref-1)).drop 4).take 2)=248)∧
        blkS (nm ((c (ref-1)).take 4)) (((c (ref-1)).drop 8).take (nm (((c (ref-1)).drop 4).take 2)))=c (ref-1) then
      ((ref-1,((c (ref-1)).drop 8).take (nm (((c (ref-1)).drop 4).take 2)),0),nm ((c (ref-1)).take 4))
    else ((0,[],140),0)
  else ((0,[],140),0)
def cutL (m:Nat)(l:Lk):Lk:=if 65536<m+l.2.1.length then (0,[],140) else l
def chL (f:Nat->Lk×Nat):Nat->Nat->Nat->List Lk
  |0,_,_=>[]
  |k+1,ref,m=>if ref=0 then [] else if (cutL m (f ref).1).2.2≠0 then [cutL m (f ref).1] else cutL m (f ref).1::chL f k (f ref).2 (m+(f ref).1.2.1.length)
def whL (l:List Lk):List Nat×List Nat×Int:=if l.all (λ x=>decide (x.2.2=0)) then (l.flatMap (·.2.1),l.map (·.1),0) else ([],[],140)
def whS (u:Nat->Bool)(c:Nat->List Nat)(ref:Nat):List Nat×List Nat×Int:=whL (chL (lnkS u c) 65538 ref 0)
inductive Chn (u:Nat->Bool) (c:Nat->List Nat):Nat->List Nat->List Nat->Prop
  |nil:Chn u c 0 [] []
  |cons {b next:Nat} {d t l:List Nat} (hu:u b=true) (hc:c b=blkS next d) (h1:1<=d.length) (h2:d.length<=248) (h3:next=0∨d.length=248) (hn:next<4294967296) (h:Chn u c next t l):Chn u c (b+1) (d++t) (b::l)
theorem lnk_cases (u:Nat->Bool)(c:Nat->List Nat)(ref:Nat)(hr:ref≠0)(hb:∀b,u b=true->∀x∈c b,x<256):(lnkS u c ref=((0,[],140),0))∨
    ∃b next d,ref=b+1/\ u b=true/\ c b=blkS next d/\ 1<=d.length/\ d.length<=248/\ (next=0∨d.length=248)/\ next<4294967296/\ lnkS u c ref=((b,d,0),next):=by
  unfold lnkS
  by_cases h1:1<=ref/\ u (ref-1)=true
  . rw [if_pos h1]
    by_cases h2:1<=nm (((c (ref-1)).drop 4).take 2)/\ nm (((c (ref-1)).drop 4).take 2)<=248/\ (nm ((c (ref-1)).take 4)=0∨nm (((c (ref-1)).drop 4).take 2)=248)∧
        blkS (nm ((c (ref-1)).take 4)) (((c (ref-1)).drop 8).take (nm (((c (ref-1)).drop 4).take 2)))=c (ref-1)
    . rw [if_pos h2]
      obtain ⟨a1,a2,a3,a4⟩:=h2;obtain ⟨bs,hbs⟩:∃bs,c (ref-1)=bs:=⟨_,rfl⟩;have hB:=hb _ h1.2;rw [hbs] at a1 a2 a3 a4 hB ⊢
      have hl:bs.length=256:=by
        rw [←a4];exact blkS_len (Nat.le_trans (List.length_take_le _ _) a2)
      have hdl:((bs.drop 8).take (nm ((bs.drop 4).take 2))).length=nm ((bs.drop 4).take 2):=(by rw [List.length_take,List.length_drop];omega)
      have hn:nm (bs.take 4)<4294967296:=by
        have h4:(bs.take 4).length=4:=(by rw [List.length_take];omega);have:=nm_lt (bs.take 4) λ x hx=>hB x (List.mem_of_mem_take hx)
        rw [h4] at this;exact this
      exact .inr ⟨ref-1,nm (bs.take 4),_,by omega,h1.2,by rw [hbs];exact a4.symm,by rw [hdl];exact a1,by rw [hdl];exact a2,by rw [hdl];exact a3,hn,rfl⟩
    rw [if_neg h2];exact .inl rfl
  rw [if_neg h1];exact .inl rfl
theorem lnk_chn {u:Nat->Bool}{c:Nat->List Nat}{b next:Nat}{d:List Nat}(hu:u b=true)(hc:c b=blkS next d)(h1:1<=d.length)(h2:d.length<=248)(h3:next=0∨d.length=248)(hn:next<4294967296):lnkS u c (b+1)=((b,d,0),next):=by
  have e1:nm ((c b).take 4)=next:=(by rw [hc];exact blkS_next hn);have e2:nm (((c b).drop 4).take 2)=d.length:=(by rw [hc];exact blkS_n oqz);have e3:((c b).drop 8).take d.length=d:=(by rw [hc];exact blkS_data)
  unfold lnkS
  rw [if_pos ⟨by omega,hu⟩]
  show (if _ then ((b,_,(0:Int)),_) else _)=_
  rw [Nat.add_sub_cancel,e1,e2,e3,if_pos ⟨h1,h2,h3,hc.symm⟩]
theorem chn_ch {u:Nat->Bool}{c:Nat->List Nat}{ref:Nat}{t l:List Nat}(h:Chn u c ref t l):∀k m,m+t.length<=65536->65538<=k+m→
    (chL (lnkS u c) k ref m).all (λ x=>decide (x.2.2=0))=true/\ (chL (lnkS u c) k ref m).flatMap (·.2.1)=t/\ (chL (lnkS u c) k ref m).map (·.1)=l:=by
  induction h with
  |nil=>intro k m _ hk;cases k<;>exact ⟨rfl,rfl,rfl⟩
  | @cons b next d t l hu hc h1 h2 h3 hn h ih=>
    intro k m hm hk;rw [List.length_append] at hm
    obtain ⟨k',rfl⟩:∃k',k=k'+1:=⟨k-1,by omega⟩;have e:=lnk_chn hu hc h1 h2 h3 hn;have ec:cutL m ((b,d,0):Lk)=(b,d,0):=(by unfold cutL;exact if_neg (by show¬65536<m+d.length;omega))
    have hch:chL (lnkS u c) (k'+1) (b+1) m=(b,d,0)::chL (lnkS u c) k' next (m+d.length):=by
      conv=>lhs;unfold chL
      rw [if_neg oqz,e]
      show (if (cutL m (b,d,0)).2.2≠0 then _ else _)=_
      rw [ec];exact if_neg (by simp)
    obtain ⟨i1,i2,i3⟩:=ih k' (m+d.length) oqz oqz;rw [hch]
    refine ⟨?_, ?_, ?_⟩
    . rw [List.all_cons,i1];rfl
    . rw [List.flatMap_cons,i2]
    rw [List.map_cons,i3]
theorem chn_wh {u:Nat->Bool}{c:Nat->List Nat}{ref:Nat}{t l:List Nat}(h:Chn u c ref t l)(ht:t.length<=65536):whS u c ref=(t,l,0):=by
  obtain ⟨i1,i2,i3⟩:=chn_ch h 65538 0 oqz oqz
  unfold whS whL
  rw [i1,i2,i3];rfl
theorem ch_chn {u:Nat->Bool}{c:Nat->List Nat}(hb:∀b,u b=true->∀x∈c b,x<256):∀ (k ref m:Nat),m<=65536->65538<=k+m->(chL (lnkS u c) k ref m).all (λ x=>decide (x.2.2=0))=true→
    Chn u c ref ((chL (lnkS u c) k ref m).flatMap (·.2.1)) ((chL (lnkS u c) k ref m).map (·.1))/\ m+((chL (lnkS u c) k ref m).flatMap (·.2.1)).length<=65536
  |0,ref,m,hm,hk,_=>by omega
  |k+1,ref,m,hm,hk,ha=>by
    by_cases hr:ref=0
    . have e:chL (lnkS u c) (k+1) ref m=[]:=by
        conv=>lhs;unfold chL
        rw [if_pos hr]
      rw [e,hr];exact ⟨.nil,hm⟩
    by_cases hc:(cutL m (lnkS u c ref).1).2.2≠0
    . have e:chL (lnkS u c) (k+1) ref m=[cutL m (lnkS u c ref).1]:=by
        conv=>lhs;unfold chL
        rw [if_neg hr,if_pos hc]
      rw [e,List.all_cons] at ha
      simp [hc] at ha
    have e:chL (lnkS u c) (k+1) ref m=cutL m (lnkS u c ref).1::chL (lnkS u c) k (lnkS u c ref).2 (m+(lnkS u c ref).1.2.1.length):=by
      conv=>lhs;unfold chL
      rw [if_neg hr,if_neg hc]
    have hcut:¬65536<m+(lnkS u c ref).1.2.1.length:=λ h9=>hc (by unfold cutL;rw [if_pos h9];decide)
    have ecut:cutL m (lnkS u c ref).1=(lnkS u c ref).1:=(by unfold cutL;rw [if_neg hcut]);rw [e,List.all_cons] at ha
    simp only [Bool.and_eq_true] at ha
    rcases lnk_cases u c ref hr hb with h0|⟨b,next,d,rfl,hu,hcb,h1,h2,h3,hn,el⟩
    . rw [ecut,h0] at hc;exact absurd (by decide) hc
    rw [e,ecut,el]
    rw [el] at ha hcut
    have hcut':m+d.length<=65536:=(by simpa using hcut);obtain ⟨i1,i2⟩:=ch_chn hb k next (m+d.length) hcut' oqz ha.2;refine ⟨?_, ?_⟩
    . rw [List.flatMap_cons,List.map_cons];exact .cons hu hcb h1 h2 h3 hn i1
    rw [List.flatMap_cons,List.length_append]
    have i2':m+d.length+(List.flatMap (λ x=>x.2.1) (chL (lnkS u c) k next (m+d.length))).length<=65536:=i2;exact show m+(d.length+(List.flatMap (λ x=>x.2.1) (chL (lnkS u c) k next (m+d.length))).length)<=65536 by omega
theorem wh_chn {u:Nat->Bool}{c:Nat->List Nat}{ref:Nat}{t l:List Nat}(hb:∀b,u b=true->∀x∈c b,x<256)(h:whS u c ref=(t,l,0)):Chn u c ref t l/\ t.length<=65536:=by
  unfold whS whL at h
  by_cases ha:(chL (lnkS u c) 65538 ref 0).all (λ x=>decide (x.2.2=0))=true
  . rw [if_pos ha] at h
    obtain ⟨i1,i2⟩:=ch_chn hb 65538 ref 0 oqz oqz ha
    simp only [Prod.mk.injEq] at h
    obtain ⟨rfl,rfl,_⟩:=h;exact ⟨i1,by omega⟩
  rw [if_neg ha] at h;simp at h
theorem wh_cases (u:Nat->Bool)(c:Nat->List Nat)(ref:Nat):(∃t l,whS u c ref=(t,l,0))∨whS u c ref=([],[],140):=by
  unfold whS whL
  by_cases ha:(chL (lnkS u c) 65538 ref 0).all (λ x=>decide (x.2.2=0))=true
  . rw [if_pos ha];exact .inl ⟨_,_,rfl⟩
  rw [if_neg ha];exact .inr rfl
theorem chn_det {u:Nat->Bool}{c:Nat->List Nat}{ref:Nat}{t l t' l':List Nat}(h:Chn u c ref t l)(h':Chn u c ref t' l'):t=t'/\ l=l':=by
  induction h generalizing t' l' with
  |nil=>cases h';exact ⟨rfl,rfl⟩
  | @cons b next d t l hu hc h1 h2 h3 hn h ih=>
    cases h' with
    | @cons b next' d' t' l' hu' hc' h1' h2' h3' hn' h'=>
      have en:next=next':=by
        have:=hc.symm.trans hc';rw [←blkS_next (xs:=d) hn,this,blkS_next hn']
      have ed:d=d':=by
        have e:=hc.symm.trans hc';have el:d.length=d'.length:=(by rw [←blkS_n (next:=next) (xs:=d) oqz,e,blkS_n oqz]);rw [←blkS_data (next:=next) (xs:=d),e,el,blkS_data]
      subst en;subst ed;obtain ⟨rfl,rfl⟩:=ih h';exact ⟨rfl,rfl⟩
theorem chn_used {u:Nat->Bool}{c:Nat->List Nat}{ref:Nat}{t l:List Nat}(h:Chn u c ref t l):∀b∈l,u b=true:=by
  induction h with
  |nil=>intro b hb;cases hb
  |cons hu hc h1 h2 h3 hn h ih=>
    intro b hb
    rcases List.mem_cons.1 hb with rfl|hb
    . exact hu
    exact ih b hb
theorem chn_sub {u:Nat->Bool}{c:Nat->List Nat}{ref:Nat}{t l:List Nat}(h:Chn u c ref t l):∀b∈l,∃t' l',Chn u c (b+1) t' l'/\ l'.length<=l.length:=by
  induction h with
  |nil=>intro b hb;cases hb
  |cons hu hc h1 h2 h3 hn h ih=>
    intro b hb
    rcases List.mem_cons.1 hb with rfl|hb
    . exact ⟨_,_,.cons hu hc h1 h2 h3 hn h,Nat.le_refl _⟩
    obtain ⟨t',l',i1,i2⟩:=ih b hb;exact ⟨t',l',i1,by rw [List.length_cons];omega⟩
theorem chn_nodup {u:Nat->Bool}{c:Nat->List Nat}{ref:Nat}{t l:List Nat}(h:Chn u c ref t l):l.Nodup:=by
  induction h with
  |nil=>exact List.nodup_nil
  | @cons b next d t l hu hc h1 h2 h3 hn h ih=>
    refine List.nodup_cons.2 ⟨λ hb=> ?_,ih⟩;obtain ⟨t',l',i1,i2⟩:=chn_sub h b hb;have:=(chn_det i1 (.cons hu hc h1 h2 h3 hn h)).2;rw [this,List.length_cons] at i2;omega
theorem nblk_le (n:Nat):n<=248*nblk n/\ (0<n->248*(nblk n-1)<n):=by unfold nblk;split<;>omega
def conB (T:WkT)(s:DevS)(ba b:Nat):List Nat:=ovF T.f (ba+256*b) (((imgS s).drop (ba+256*b)).take 256)
theorem ovF_get (f:TF)(p:Nat)(xs:List Nat)(i:Nat):(ovF f p xs)[i]? =(xs[i]?).map λ x=>((f (p+i)).map (·.1)).getD x:=by unfold ovF;rw [List.getElem?_mapIdx]
theorem layF_in {p i:Nat}{xs:List Nat}{fr:Bool}{f:TF}(h:i<xs.length):(layF p xs fr f (p+i)).map (·.1)=some xs[i]:=by
  unfold layF
  rw [if_pos ⟨by omega,by omega⟩,Nat.add_sub_cancel_left,List.getD_eq_getElem?_getD,List.getElem?_eq_getElem h];rfl
theorem layF_out {p a:Nat}{xs:List Nat}{fr:Bool}{f:TF}(h:a<p∨p+xs.length<=a):layF p xs fr f a=f a:=by
  unfold layF
  rw [if_neg oqz]
theorem con_write {T:WkT}{s:DevS}{ba b c:Nat}{xs:List Nat}(hx:xs.length=256)(hl:ba+256*b+256<=(imgS s).length):conB (T.write ba b xs) s ba c=if c=b then xs else conB T s ba c:=by
  unfold conB
  show ovF (layF (ba+256*b) xs (T.tk b) T.f) (ba+256*c) _=_
  by_cases hc:c=b
  . subst hc;rw [if_pos rfl]
    refine List.ext_getElem? λ i=> ?_
    rw [ovF_get]
    rcases Nat.lt_or_ge i 256 with h|h
    . rw [layF_in oqz,List.getElem?_eq_getElem (by rw [List.length_take,List.length_drop];omega),List.getElem?_eq_getElem oqz];rfl
    rw [List.getElem?_eq_none (by rw [List.length_take];omega),List.getElem?_eq_none oqz];rfl
  rw [if_neg hc]
  refine List.ext_getElem? λ i=> ?_
  rw [ovF_get,ovF_get]
  rcases Nat.lt_or_ge i 256 with h|h
  . rw [layF_out oqz]
  rw [List.getElem?_eq_none (by rw [List.length_take];omega)];rfl
theorem con_give (T:WkT)(s:DevS)(ba b:Nat):conB (T.give b) s ba=conB T s ba:=by
  funext c;unfold WkT.give;split<;>rfl
theorem con_len {T:WkT}{s:DevS}{ba b:Nat}(h:ba+256*b+256<=(imgS s).length):(conB T s ba b).length=256:=by
  unfold conB;rw [ovF_len,List.length_take,List.length_drop];omega
def takeL (n:Nat):Nat->WkT->List Nat×WkT×Bool
  |0,T=>([],T,true)
  |k+1,T=>match leastB T n with
    |none=>([],T,false)
    |some b=>(b::(takeL n k (T.take b)).1,(takeL n k (T.take b)).2)
def wrL (ba:Nat):List Nat->WkT->List Nat->WkT
  |[],T,_=>T
  |[b],T,s=>T.write ba b (blkS 0 s)
  |b::c::l,T,s=>wrL ba (c::l) (T.write ba b (blkS (c+1) (s.take 248))) (s.drop 248)
def refL:List Nat->Nat
  |[]=>0
  |b::_=>b+1
def putS (ba n:Nat)(T:WkT)(s:List Nat):Nat×Int×WkT:=
  if 65536<s.length then (0,4,T)
  else if (takeL n (nblk s.length) T).2.2=true then (refL (takeL n (nblk s.length) T).1,0,wrL ba (takeL n (nblk s.length) T).1 (takeL n (nblk s.length) T).2.1 s)
  else (0,7,(takeL n (nblk s.length) T).2.1)
theorem takeL_none {n k:Nat}{T:WkT}(h:leastB T n=none)(hk:0<k):takeL n k T=([],T,false):=by
  obtain ⟨j,rfl⟩:∃j,k=j+1:=⟨k-1,by omega⟩
  unfold takeL;rw [h]
theorem takeL_some {n k b:Nat}{T:WkT}(h:leastB T n=some b)(hk:0<k):takeL n k T=(b::(takeL n (k-1) (T.take b)).1,(takeL n (k-1) (T.take b)).2):=by
  obtain ⟨j,rfl⟩:∃j,k=j+1:=⟨k-1,by omega⟩
  conv=>lhs;unfold takeL
  rw [h,Nat.add_sub_cancel]
theorem takeL_zero (n:Nat)(T:WkT):takeL n 0 T=([],T,true):=rfl
theorem takeL_spec (n:Nat):∀ (k:Nat) (T:WkT),(takeL n k T).1.Nodup/\ (∀b∈(takeL n k T).1,b<n/\ freeB T b=true)/\ (takeL n k T).2.1={ T with tk:=λ b=>T.tk b||decide (b∈(takeL n k T).1) }∧
    ((takeL n k T).2.2=true->(takeL n k T).1.length=k)/\ ((takeL n k T).2.2=false->leastB (takeL n k T).2.1 n=none/\ (takeL n k T).1.length<k)
  |0,T=>by rw [takeL_zero];exact ⟨List.nodup_nil,by simp,by simp,λ _=>rfl,λ h=>by simp at h⟩
  |k+1,T=>by
    cases h:leastB T n with
    |none=>rw [takeL_none h oqz];exact ⟨List.nodup_nil,by simp,by simp,λ h=>by simp at h,λ _=>⟨h,by simp⟩⟩
    |some b=>
      rw [takeL_some h oqz,Nat.add_sub_cancel]
      obtain ⟨i1,i2,i3,i4,i5⟩:=takeL_spec n k (T.take b);obtain ⟨h1,h2,h3⟩:=leastB_some.1 h
      have hf:∀c,freeB (T.take b) c=true->freeB T c=true/\ c≠b:=λ c hc=>by
        unfold freeB WkT.take updG at hc
        by_cases e:c=b
        . simp [e] at hc
        simp only [if_neg e] at hc;exact ⟨hc,e⟩
      refine ⟨List.nodup_cons.2 ⟨λ hm=>(hf b (i2 b hm).2).2 rfl,i1⟩,λ c hc=> ?_, ?_,λ hc=>by rw [List.length_cons,i4 hc],λ hc=>⟨(i5 hc).1,by rw [List.length_cons];have:=(i5 hc).2;omega⟩⟩
      . rcases List.mem_cons.1 hc with rfl|hc
        . exact ⟨h1,h2⟩
        exact ⟨(i2 c hc).1,(hf c (i2 c hc).2).1⟩
      show (takeL n k (T.take b)).2.1=_
      rw [i3]
      unfold WkT.take updG
      congr 1
      funext c
      by_cases e:c=b
      . simp [e]
      simp [e]
theorem wrL_step {ba i:Nat}{L:List Nat}{T:WkT}{s:List Nat}(h:i+1<L.length):wrL ba (L.drop i) T s=wrL ba (L.drop (i+1)) (T.write ba L[i] (blkS (L[i+1]+1) (s.take 248))) (s.drop 248):=by
  rw [List.drop_eq_getElem_cons (show i<L.length by omega),List.drop_eq_getElem_cons h];rfl
theorem wrL_last {ba i:Nat}{L:List Nat}{T:WkT}{s:List Nat}(h:i<L.length)(h2:¬i+1<L.length)(s':List Nat):wrL ba (L.drop i) T s=wrL ba (L.drop (i+1)) (T.write ba L[i] (blkS 0 s)) s':=by
  rw [List.drop_eq_getElem_cons h,List.drop_of_length_le (show L.length<=i+1 by omega)];rfl
theorem wrL_done {ba i:Nat}{L:List Nat}{T:WkT}{s:List Nat}(h:L.length<=i):wrL ba (L.drop i) T s=T:=by
  rw [List.drop_of_length_le h];rfl
theorem wrL_tk (ba:Nat):∀ (L:List Nat) (T:WkT) (s:List Nat),(wrL ba L T s).tk=T.tk/\ (wrL ba L T s).lv=T.lv/\ (wrL ba L T s).gv=T.gv
  |[],T,s=>⟨rfl,rfl,rfl⟩
  |[b],T,s=>⟨rfl,rfl,rfl⟩
  |b::c::l,T,s=>wrL_tk ba (c::l) (T.write ba b (blkS (c+1) (s.take 248))) (s.drop 248)
def takeS (n:Nat)(T:WkT):Nat×Int×WkT:=match leastB T n with
  |none=>(0,7,T)
  |some b=>(b,0,T.take b)
theorem takeS_ok {n b:Nat}{e:Int}{T T2:WkT}(h:takeS n T=(b,e,T2))(he:e=0):leastB T n=some b/\ T2=T.take b:=by
  unfold takeS at h
  cases hl:leastB T n with
  |none=>rw [hl] at h;simp only [Prod.mk.injEq] at h;omega
  |some c=>rw [hl] at h;simp only [Prod.mk.injEq] at h;obtain ⟨rfl,_,rfl⟩:=h;exact ⟨rfl,rfl⟩
theorem takeS_no {n b:Nat}{e:Int}{T T2:WkT}(h:takeS n T=(b,e,T2))(he:e≠0):leastB T n=none/\ T2=T/\ e=7:=by
  unfold takeS at h
  cases hl:leastB T n with
  |none=>rw [hl] at h;simp only [Prod.mk.injEq] at h;exact ⟨rfl,h.2.2.symm,h.2.1.symm⟩
  |some c=>rw [hl] at h;simp only [Prod.mk.injEq] at h;omega
theorem putS_ok {ba n:Nat}{T T1:WkT}{s L:List Nat}(h1:s.length<=65536)(h2:takeL n (nblk s.length) T=(L,T1,true)):putS ba n T s=(refL L,0,wrL ba L T1 s):=by
  unfold putS;rw [if_neg oqz,h2];rfl
theorem putS_no {ba n:Nat}{T T1:WkT}{s L:List Nat}(h1:s.length<=65536)(h2:takeL n (nblk s.length) T=(L,T1,false)):putS ba n T s=(0,7,T1):=by
  unfold putS;rw [if_neg oqz,h2];rfl
section
variable {α:Type} {lt:α->α->Bool}
structure SWO (lt:α->α->Bool):Prop where
  asymm:∀a b,lt a b=true->lt b a=false
  ntrans:∀a b c,lt b a=false->lt c b=false->lt c a=false
def leF (lt:α->α->Bool)(a b:α):Bool:= !lt b a
def Sd (lt:α->α->Bool)(l:List α):Prop:=l.Pairwise λ a b=>lt b a=false
def eqv (lt:α->α->Bool)(a b:α):Bool:= !lt a b&& !lt b a
structure SS (lt:α->α->Bool) (l r:List α):Prop where
  sd:Sd lt r
  eq:∀a,r.filter (eqv lt a)=l.filter (eqv lt a)
def mg (lt:α->α->Bool):List α->List α->List α
  |[],ys=>ys
  |xs,[]=>xs
  |x::xs,y::ys=>if lt y x then y::mg lt (x::xs) ys else x::mg lt xs (y::ys)
termination_by xs ys=>xs.length+ys.length
end
section
variable {α:Type} {lt:α->α->Bool}
def sw (l:List α)(p q:Nat):List α:=if h:p<l.length/\ q<l.length then (l.set p (l[q]'h.2)).set q (l[p]'h.1) else l
def swR (l:List α)(a b:Nat):Nat->List α
  |0=>l
  |n+1=>sw (swR l a b n) (a+n) (b+n)
def Blk (lt:α->α->Bool)(bs:Nat)(l d:List α):Prop:=d.length=l.length/\∀k,SS lt ((l.drop (k*bs)).take bs) ((d.drop (k*bs)).take bs)
structure Blm (lt:α->α->Bool) (bs a:Nat) (l d:List α):Prop where
  len:d.length=l.length
  two:∀k,(k+1)*(2*bs)<=a->SS lt ((l.drop (k*(2*bs))).take (2*bs)) ((d.drop (k*(2*bs))).take (2*bs))
  one:∀k,a<=k*bs->SS lt ((l.drop (k*bs)).take bs) ((d.drop (k*bs)).take bs)
def srt (lt:α->α->Bool)(l:List α):List α:=l.foldl (λ acc x=>mg lt acc [x]) []
end
section
variable {α:Type} {lt:α->α->Bool}
structure InsR (lt:α->α->Bool) (p q:Nat) (d d2:List α):Prop where
  len:d2.length=d.length
  pre:d2.take p=d.take p
  post:d2.drop q=d.drop q
  ss:SS lt ((d.drop p).take (q-p)) ((d2.drop p).take (q-p))
def insT (d:List α)(x:α)(i j:Nat):List α:=d.take j++x::((d.drop j).take (i-j)++d.drop (i+1))
def rotT (d:List α)(p m q:Nat):List α:=d.take p++((d.drop m).take (q-m)++((d.drop p).take (m-p)++d.drop q))
def RotI (m i j:Nat)(d T:List α):Prop:=∃P X Y Q:List α,d=P++(X++(Y++Q))/\ P.length+i=m/\ X.length=i/\ Y.length=j/\ P++(Y++(X++Q))=T
def symT (lt:α->α->Bool)(d:List α)(p m q:Nat):List α:=d.take p++(mg lt ((d.drop p).take (m-p)) ((d.drop m).take (q-m))++d.drop q)
end
structure Mk where
  id:Nat
  at_:Int
  gr:Nat
deriving DecidableEq
def Mk.cells (m:Mk):List Value:=[.int .u32 (m.id:Nat),.int .i64 m.at_,.int .u8 (m.gr:Nat)]
def mcs (l:List Mk):List Value:=l.flatMap Mk.cells
structure OrdF (gf:Nat) (cf:Mk->Mk->Int):Prop where
  body:bodyB Tryz.prog gf=true
  run:∀ (A:SP) (x y:Mk),Fn Tryz.prog gf #[.agg x.cells.toArray,.agg y.cells.toArray] A (λ v B=>v= .int .i64 (cf x y)/\ A=B)
def ltc (cf:Mk->Mk->Int)(x y:Mk):Bool:=decide (cf x y<0)
theorem wrap_i64 {a:Nat}(h:a<=9223372036854775807):IntKind.i64.wrap (a:Int)=a:=by simp [IntKind.wrap,IntKind.bits,IntKind.signed];omega
def gA (d:List Mk)(k:Nat):Mk:=d.getD k ⟨0,0,0⟩
section
variable {α:Type} {lt:α->α->Bool}
def fwT (d:List α)(x:α)(p k:Nat):List α:=d.take p++((d.drop (p+1)).take (k-p)++x::d.drop (k+1))
end
section
variable {α:Type} {lt:α->α->Bool}
structure Bl1 (lt:α->α->Bool) (bs a:Nat) (l d:List α):Prop where
  len:d.length=l.length
  done:∀k,(k+1)*bs<=a->SS lt ((l.drop (k*bs)).take bs) ((d.drop (k*bs)).take bs)
  rest:d.drop a=l.drop a
end
def intK (P : Program) (f : Field) (k : IntKind) : Bool := f.name != "_" && plainE P f.type && (match P.underlying f.type with | some (.int j) => j == k | _ => false)
def zk (ks:List IntKind)(l:List Int):List Value:=List.zipWith Value.int ks l
def flatK (P:Program)(fs:Array Field)(ks:List IntKind):Bool:=((fs.toList.map λ f=>f.offset)==List.range ks.length)&&fs.toList.all λ f=>intK P f (ks.getD f.offset .i64)
def Mk.ns (m:Mk):List Int:=[(m.id:Int),m.at_,(m.gr:Int)]
def mkk:List IntKind:=[.u32,.i64,.u8]
section
variable {n:Nat} {ρ:Env} {A:SP} {dst:Option Tmp} {ty:TypeId} {pos:String} {after:Array Edge} {gd:Option (Nat×Bool)}
end
def cId (x y:Mk):Int:=if x.id<y.id then-1 else if y.id<x.id then 1 else 0
def cPl (x y:Mk):Int:=if x.at_<y.at_ then-1 else if y.at_<x.at_ then 1 else cId x y
attribute [local irreducible] Sl pt ro
def okM (m:Mk):Bool:=decide (0<=m.at_)&&decide (m.gr<=1)
end Go.Vl

namespace Go.Vl
open Go Go.Proofs Go.Proofs.Tryz
def SlB (e:TypeId)(v:Value)(n:Nat)(xs:List Value):SP:=λ h=>xs.length=n∧
  ((v = .slice none 0 0 ∧ n = 0 ∧ h = fun _ => none) ∨
   ∃b cap l,v= .slice (some ⟨b,0,none⟩) n cap/\ n<=cap/\ cap<=l.length/\ l.take n=xs/\ pt b (cl l e) h)
theorem slb_iff {e:TypeId}{v:Value}{n:Nat}{xs:List Value}{R:SP}{g:Gh}{w:World}:sat g w (R*SlB e v n xs)↔xs.length=n∧
    ((v= .slice none 0 0/\ n=0/\ sat g w R)∨∃b cap l,v= .slice (some ⟨b,0,none⟩) n cap/\ n<=cap/\ cap<=l.length/\ l.take n=xs/\ sat g w (R*pt b (cl l e))):=by
  constructor
  . intro hs;obtain ⟨_,⟨x,y,hd,rfl,ha,hl,hb⟩,hx⟩:=hs.hp;refine ⟨hl, ?_⟩
    rcases hb with ⟨e1,e2,e3⟩|⟨b,cap,l,e1,e2,e3,e4,e5⟩
    . exact .inl ⟨e1,e2,hs.left⟩
    exact .inr ⟨b,cap,l,e1,e2,e3,e4,hs.os,hs.tape,hs.out,_,⟨x,y,hd,rfl,ha,e5⟩,hx⟩
  rintro ⟨hl,h|⟨b,cap,l,e1,e2,e3,e4,hs⟩⟩
  . obtain ⟨e1,e2,hs⟩:=h;rw [←star_emp R] at hs
    exact hs.mono λ h ⟨x,y,hd,e,ha,hb⟩=>⟨x,y,hd,e,ha,hl,.inl ⟨e1,e2,hb⟩⟩
  exact hs.mono λ h ⟨x,y,hd,e,ha,hb⟩=>⟨x,y,hd,e,ha,hl,.inr ⟨b,cap,l,e1,e2,e3,e4,hb⟩⟩
theorem slb_nil {e:TypeId}{R:SP}{g:Gh}{w:World}(hs:sat g w R):sat g w (R*SlB e (.slice none 0 0) 0 []):=slb_iff.2 ⟨rfl,.inl ⟨rfl,rfl,hs⟩⟩
theorem slb_rd {e:TypeId}{v:Value}{n:Nat}{xs:List Value}{R:SP}{g:Gh}{w:World}(hs:sat g w (R*SlB e v n xs)):∃a cap,v= .slice a n cap/\ n<=cap/\ Rd (R*SlB e v n xs) a xs:=by
  obtain ⟨hl,⟨rfl,rfl,_⟩|⟨b,cap,l,rfl,h1,h2,h3,hs'⟩⟩:=slb_iff.1 hs
  . exact ⟨none,0,rfl,Nat.le_refl _,by rw [List.eq_nil_of_length_eq_zero hl];exact rd_nil⟩
  refine ⟨_,cap,rfl,h1,rd_cells λ i v hv g' w' hs2=> ?_⟩;obtain ⟨_,⟨e1,_⟩|⟨b',cap',l',e1,_,_,h4,hs3⟩⟩:=slb_iff.1 hs2
  . cases e1
  simp only [Value.slice.injEq,Option.some.injEq,Addr.mk.injEq,and_true,true_and] at e1
  obtain ⟨rfl,rfl⟩:=e1;rw [Nat.zero_add,cell_cl (has_here g' w' hs3)]
  rw [←h4,List.getElem?_take] at hv
  split at hv
  . exact hv
  cases hv
section
variable {P:Program} {n:Nat} {ρ:Env} {A:SP} {dst:Option Tmp} {ty:TypeId} {pos:String} {after:Array Edge} {gd:Option (Nat×Bool)}
theorem o_nepS {t t' e:TypeId}{x y:Operand}{a:Addr}{j:TypeInfo}(hu:P.underlying t=some (.pointer e))(hj:P.info? e=some j)(hge:P.eqGuardType P.depth t=false)(hx:ev n ρ x= .pointer (some a))(hy:ev n ρ y= .pointer (some a)):
    OpV P n ρ A ⟨dst,.binOp .neq t x y t',ty,pos,after,gd⟩ (.bool false):=opv_of λ w=>by
  simp only [execOp,hx,hy]
  rw [run_bind (w':=w) (a:= .bool false)]
  . rfl
  rw [run_bind (w':=w) (a:=())]
  . exact Lib.run_neq_ptr_same w a hu hj
  simp [eqGuard,hge,program,bind,Sem.bind,Sem.run,pure]
theorem o_toU {s t te E:TypeId}{x:Operand}{b:Nat}{l:List Value}{j:TypeInfo}(hs:P.underlying s=some (.pointer te))(hd:P.underlying t=some .unsafePointer)(ht:P.info? te=some j)(hj:j.size≠0)(hx:ev n ρ x=(pz b))(hh:Has A b (cl l E))(hl:0<l.length):
    OpV P n ρ A ⟨dst,.convert s t x,ty,pos,after,gd⟩ ((pz b)):=λ g w hsat=>by
  have h:=hh g w hsat
  simp only [execOp,hx]
  rw [run_bind (w':=w) (a:=(pz b))]
  . rfl
  exact Lib.run_to_unsafe w ⟨b,0,none⟩ hs hd ht hj (e:=E) (cells:=l.length) (by unfold World.shape?;rw [h];simp [cl]) hl
theorem o_fromU {s t u E:TypeId}{x:Operand}{b:Nat}{l:List Value}{j:TypeInfo}(hs:P.underlying s=some .unsafePointer)(hd:P.underlying t=some (.pointer u))(hj:P.info? u=some j)(hx:ev n ρ x=(pz b))(hh:Has A b (cl l E))(hli:liesAt P P.depth E (l.length/P.cellsOf E) 0 u 1=true):
    OpV P n ρ A ⟨dst,.convert s t x,ty,pos,after,gd⟩ ((pz b)):=λ g w hsat=>by
  have h:=hh g w hsat
  simp only [execOp,hx]
  rw [run_bind (w':=w) (a:=(pz b))]
  . rfl
  exact Lib.run_from_unsafe w ⟨b,0,none⟩ hs hd hj (e:=E) (cells:=l.length) (by unfold World.shape?;rw [h];simp [cl]) hli
theorem o_noEsc {f : FuncId} {fn : Func} {tys : Array TypeId} {x : Operand} {v : Value} (hf : P.funcs[f]? = some fn) (hname : (fn.name == "runtime.NumGoroutine") = false) (hb : fn.body.isNone = true) (hn : Extern.findNext fn = none) (he : Extern.find fn = some Extern.AbiNoEscape.same) (hx : ev n ρ x = v) :
    OpV P n ρ A ⟨dst,.call { callee:= .value (.func f),args:= #[x],argTypes:=tys },ty,pos,after,gd⟩ v:=opv_of λ w=>by
  have hx':(#[x]:Array Operand).map (ev n ρ)= #[v]:=(by simp [hx]);have hfv:ev n ρ (.func f)= .func (.func f) #[] #[]:=rfl
  simp only [execOp,resolve,hfv,Deferred.ofValue,hx']
  rw [run_bind (w':=w) (a:=⟨.fn (.func f) #[],#[]++ #[v]⟩) (by rfl)]
  simp only [invoke]
  have:(callFunc f (#[]++ #[v]++ #[])).run P w= .ok (.value v) w:=(by rw [run_callFunc_extern hf hname hb hn he];rfl);exact this
end
theorem run_firstS {P:Program}{k:Nat}{str:ByteArray}{w:World}:(Builtin.firstCells k str.size (.string str)).run P w= .ok (bys (sbys str)).toArray w:=by
  simp [Builtin.firstCells,bys,sbys]
  apply Array.ext'
  simp
  exact λ a _=>rfl
section
variable {P:Program} {n:Nat} {ρ:Env} {A:SP} {dst:Option Tmp} {ty:TypeId} {pos:String} {after:Array Edge} {gd:Option (Nat×Bool)}
theorem o_appendGS {t t' e:TypeId}{x y:Operand}{v z:Value}{m k q bytes:Nat}{str:ByteArray}{xs ys:List Value}{R:SP}
    (hu:P.underlying t=some (.slice e)) (hu':P.underlying t'=some .string) (hk:szE P e=some k) (hb:bytesE P e=some bytes) (hz:zeroE P e=some z) (hzk:z.cells.size=k) (hk0:0<k) (hb0:0<bytes)
    (hx:ev n ρ x=v) (hy:ev n ρ y= .string str) (hA:A=R*Sl k v q xs) (hys:bys (sbys str)=ys) (hz9:str.size=m) (hm:ys.length=m*k) (ho:∀u∈ys,oneC u=true) (hlim:(q+m)*bytes<=140737488355328):
    OpX P n ρ A ⟨dst,.call { callee:= .builtin .append,args:= #[x,y],argTypes:= #[t,t'] },ty,pos,after,gd⟩ (λ v' B=>(∃a' c',v= .slice a' q c'/\ v'= .slice a' (q+m) c'/\ q+m<=c'/\ B=R*Sl k v' (q+m) (xs++ys))∨B=R*Sl k v q xs*Sl k v' (q+m) (xs++ys)):=λ g w hs=>by
  have hs0:=hs;rw [hA] at hs0
  obtain ⟨hl,hcase⟩:=sl_iff.1 hs0;obtain ⟨aa,cap,hv,hqc,_,hrd⟩:=sl_have hs0
  -- the run, but for the operation itself
  have key:∀ (r:Value) (w':World),(Builtin.append_ #[t,t'] ty #[v,.string str]).run P w= .ok r w'→
      (execOp (ev n ρ) ⟨dst,.call { callee:= .builtin .append,args:= #[x,y],argTypes:= #[t,t'] },ty,pos,after,gd⟩).run P w= .ok (.value r) w':=λ r w' h=>by
    simp only [execOp,resolve,List.map_toArray,List.map_cons,List.map_nil,hx,hy]
    rw [run_bind (w':=w) (a:=⟨.builtin .append #[t,t'] ty _,#[v,.string str]⟩) (by rfl)]
    simp only [invoke,builtin]
    rw [run_bind h];rfl
  have hold:(Builtin.firstCells k q (.slice aa q cap)).run P w= .ok xs.toArray w:=run_firstCells hrd hl hs0;have hnew:∀w':World,sat g w' A->(Builtin.firstCells k m (.string str)).run P w'= .ok ys.toArray w':=λ w' h=>by subst hz9;subst hys;exact run_firstS
  subst hv;obtain ⟨i,hi,hi1,hi2,hi3⟩:=info_of hk hb hz
  by_cases hroom:q+m<=cap
  · -- there is room
    rcases hcase with ⟨e1,e2,hsR⟩|⟨b,off,cap',l,E,e1,e2,e3,e4,hsR⟩
    . simp only [Value.slice.injEq] at e1
      obtain ⟨rfl,rfl,rfl⟩:=e1;have hm0:m=0:=(by omega);subst hm0;have hy0:ys=[]:=(by simpa using hm);subst hy0;refine ⟨.slice none 0 0,w,_,key _ _ ?_, ?_,.inl ⟨none,0,rfl,rfl,by omega,rfl⟩⟩
      . have hn:=hnew w hs
        simp [Builtin.append_,run_underlying hu,run_underlying hu',sizeOf,typeInfo,hi,hi1,Builtin.lenOf,hz9,hn]
      rw [List.append_nil];exact hs0
    simp only [Value.slice.injEq] at e1
    obtain ⟨rfl,_,rfl⟩:=e1
    have hlen:off+q*k+ys.length<=l.length:=by
      have:(q+m)*k<=cap*k:=Nat.mul_le_mul_right k hroom;rw [Nat.add_mul] at this
      omega
    obtain ⟨w',hst,hh,g1,g2,g3⟩:=run_storeCells (P:=P) (off:=off+q*k) ys 0 l w (has_here g w hsR) oqz ho;refine ⟨.slice (some ⟨b,off,none⟩) (q+m) cap,w',_,key _ _ ?_, ?_,.inl ⟨_,_,rfl,rfl,hroom,rfl⟩⟩
    . have hn:=hnew w hs
      simp [Builtin.append_,run_underlying hu,run_underlying hu',sizeOf,typeInfo,hi,hi1,Builtin.lenOf,hz9,hn,hroom,addr_add,hst]
    have hu2:Upd (R*pt b (cl l E)) b (cl l E) (cl (splice l (off+q*k) ys) E) (R*pt b (cl (splice l (off+q*k) ys) E)):=upd_here;have hs2:=hu2.sat hsR (λ j=>by rw [hh j];rfl) g1 g2 g3;refine sl_iff.2 ⟨by rw [List.length_append,hl,hm,Nat.add_mul],.inr ⟨b,off,cap,_,E,rfl,hroom,by rw [splice_length];exact e3, ?_,hs2⟩⟩
    apply List.ext_getElem?
    intro i;rw [List.getElem?_take,List.getElem?_append,List.getElem?_drop,splice_getElem? _ _ _ _ hlen,Nat.add_mul,←hm,←hl]
    have hx':∀i,i<xs.length->l[off+i]? =xs[i]? :=λ i hi=>by
      rw [←e4,List.getElem?_take,if_pos (by rw [←hl];exact hi),List.getElem?_drop]
    by_cases h1:i<xs.length
    . rw [if_pos oqz,if_neg oqz,if_pos h1,hx' i h1]
    by_cases h2:i<xs.length+ys.length
    . rw [if_pos h2,if_pos oqz,if_neg h1];congr 1;omega
    rw [if_neg h2,if_neg h1,List.getElem?_eq_none oqz]
  -- it grows
  have hbig:cap<q+m:=(by omega);have hfit:=growslice_fits hbig hlim;have p48:(2:Nat)^48=281474976710656:=(by decide)
  let cut:=(Question.appendCap (q+m) cap e).cut (w.tape w.drawn (.appendCap (q+m) cap e))
  have hcut:q+m<=cut:=(by show q+m<=(q+m)+_;omega)
  let wd:World:={ w with drawn:=w.drawn+1 }
  have hsd:sat g wd A:=hs.draw rfl rfl rfl rfl;have hsd0:sat g wd (R*Sl k (.slice aa q cap) q xs):=hA▸hsd
  have hold':(Builtin.firstCells k q (.slice aa q cap)).run P wd= .ok xs.toArray wd:=run_firstCells hrd hl hsd0
  let rest:=Builtin.zeroCells z.cells (cut-(q+m))
  have hrest:rest.size=(cut-(q+m))*k:=(by show (Builtin.zeroCells z.cells (cut-(q+m))).size=_;rw [size_zeroCells,hzk])
  let cs:=xs++ys++rest.toList
  have hcs:xs.toArray++ys.toArray++rest=cs.toArray:=(by apply Array.ext';simp [cs]);refine ⟨.slice (some ⟨w.heap.size,0,none⟩) (q+m) cut,wd.alloc (cl cs e),_,key _ _ ?_, ?_,.inr rfl⟩
  . have hn:=hnew wd hsd
    have h63:¬(9223372036854775807<((q:Int)+(m:Int))):=by
      have:(q+m)*1<=(q+m)*bytes:=Nat.mul_le_mul_left _ hb0
      omega
    have hfit':¬(281474976710656<Builtin.nextslicecap (q+m) cap*i.bytes):=(by rw [hi2];omega);have hwd:w.drew=wd:=rfl;have hcut':(Question.appendCap (q+m) cap e).cut (w.tape w.drawn (.appendCap (q+m) cap e))=cut:=rfl;have hrow:wd.alloc (.cells (xs.toArray++ys.toArray++Builtin.zeroCells z.cells (cut-(q+m))) e)=wd.alloc (cl cs e):=congrArg (λ c=>wd.alloc (.cells c e)) hcs;have hsz:wd.heap.size=w.heap.size:=rfl;rw [←hrow]
    simp [Builtin.append_,run_underlying hu,run_underlying hu',sizeOf,typeInfo,zeroValue,hi,hi1,hi3,Builtin.lenOf,hz9,hroom,h63,hfit',Question.forced,hwd,hold',hn,hcut',newRow,hsz]
    congr 2;apply Array.ext';simp
  have:=hsd0.alloc (cl cs e);refine sl_new this hcut ?_ ?_
  . simp only [cs,List.length_append,Array.length_toList,hrest,hl,hm,←Nat.add_mul]
    rw [Nat.add_sub_cancel' hcut];exact Nat.le_refl _
  have:(q+m)*k=(xs++ys).length:=(by rw [List.length_append,hl,hm,Nat.add_mul]);rw [this]
  show List.take _ ((xs++ys)++_)=_
  rw [List.take_left]
theorem o_appendS {t t' e:TypeId}{x y:Operand}{v z:Value}{m k q bytes:Nat}{str:ByteArray}{xs ys:List Value}{R:SP}
    (hu:P.underlying t=some (.slice e)) (hu':P.underlying t'=some .string) (hk:szE P e=some k) (hb:bytesE P e=some bytes) (hz:zeroE P e=some z) (hzk:z.cells.size=k) (hk0:0<k) (hb0:0<bytes)
    (hx:ev n ρ x=v) (hy:ev n ρ y= .string str) (hA:A=R*Sl k v q xs) (hys:bys (sbys str)=ys) (hz9:str.size=m) (hm:ys.length=m*k) (ho:∀u∈ys,oneC u=true) (hlim:(q+m)*bytes<=140737488355328):
    OpX P n ρ A ⟨dst,.call { callee:= .builtin .append,args:= #[x,y],argTypes:= #[t,t'] },ty,pos,after,gd⟩ (λ v' B=>B=R*Sl k v' (q+m) (xs++ys)):=λ g w hs=>by
  obtain ⟨v',w',B,h1,h2,⟨_,_,_,_,_,rfl⟩|rfl⟩:=o_appendGS (dst:=dst) (ty:=ty) (pos:=pos) (after:=after) (gd:=gd) hu hu' hk hb hz hzk hk0 hb0 hx hy hA hys hz9 hm ho hlim g w hs
  . exact ⟨v',w',_,h1,h2,rfl⟩
  refine ⟨v',w',_,h1, ?_,rfl⟩;rw [star_assoc,star_comm (Sl k v q xs),←star_assoc] at h2
  exact h2.left
theorem o_apRS {t t' e:TypeId}{x y:Operand}{z:Value}{m k q bytes c0:Nat}{str:ByteArray}{a:Option Addr}{xs zs:List Value}{R:SP}{C:SP->SP}
    (hu:P.underlying t=some (.slice e)) (hu':P.underlying t'=some .string) (hk:szE P e=some k) (hb:bytesE P e=some bytes) (hz:zeroE P e=some z) (hzk:z.cells.size=k) (hk0:0<k) (hb0:0<bytes)
    (hx:ev n ρ x= .slice a q c0) (hy:ev n ρ y= .string str) (hf:Ct A (Sl k (.slice a q c0) q xs) R C) (hz9:str.size=m) (hm:(bys (sbys str)).length=m*k) (hlim:(q+m)*bytes<=140737488355328) (he:xs++bys (sbys str)=zs):
    OpX P n ρ A ⟨dst,.call { callee:= .builtin .append,args:= #[x,y],argTypes:= #[t,t'] },ty,pos,after,gd⟩ (λ v' B=>∃a' c',v'= .slice a' (q+m) c'/\ q+m<=c'/\ B=C (Sl k (.slice a' (q+m) c') (q+m) zs)):=λ g w hs=>by
  subst he;obtain ⟨rfl,hC⟩:=hf;obtain ⟨v',w',B,hr,hB,rfl⟩:=o_appendS (dst:=dst) (ty:=ty) (pos:=pos) (after:=after) (gd:=gd) hu hu' hk hb hz hzk hk0 hb0 hx hy rfl rfl hz9 hm (λ u hu=>List.all_eq_true.1 (bys_all _) u hu) hlim g w hs;obtain ⟨a',c',rfl,h1,_⟩:=sl_have hB;exact ⟨_,w',_,hr,hB,a',c',rfl,h1,(hC _).symm⟩
theorem o_apSBS {t t' e:TypeId}{x y:Operand}{z:Value}{m q bytes c0:Nat}{str:ByteArray}{a:Option Addr}{xs ys:List Value}{R:SP}{C:SP->SP}
    (hu:P.underlying t=some (.slice e)) (hu':P.underlying t'=some .string) (hk:szE P e=some 1) (hb:bytesE P e=some bytes) (hz:zeroE P e=some z) (hzk:z.cells.size=1) (hb0:0<bytes)
    (hx:ev n ρ x= .slice a q c0) (hy:ev n ρ y= .string str) (hf:Ct A (SlB e (.slice a q c0) q xs) R C) (hys:bys (sbys str)=ys) (hz9:str.size=m) (hm:ys.length=m) (ho:ys.all oneC=true) (hlim:(q+m)*bytes<=140737488355328):
    OpX P n ρ A ⟨dst,.call { callee:= .builtin .append,args:= #[x,y],argTypes:= #[t,t'] },ty,pos,after,gd⟩ (λ v' B=>∃a' c',v'= .slice a' (q+m) c'/\ B=C (SlB e (.slice a' (q+m) c') (q+m) (xs++ys))):=λ g w hs=>by
  have ho':∀u∈ys,oneC u=true:=λ u hu=>List.all_eq_true.1 ho u hu
  obtain ⟨hA,hC⟩:=hf;have hs0:=hs;rw [hA] at hs0
  obtain ⟨hl,hcase⟩:=slb_iff.1 hs0;obtain ⟨aa,cap,hv,hqc,hrd⟩:=slb_rd hs0
  simp only [Value.slice.injEq,true_and] at hv
  obtain ⟨rfl,rfl⟩:=hv
  have key:∀ (r:Value) (w':World),(Builtin.append_ #[t,t'] ty #[.slice a q c0,.string str]).run P w= .ok r w'→
      (execOp (ev n ρ) ⟨dst,.call { callee:= .builtin .append,args:= #[x,y],argTypes:= #[t,t'] },ty,pos,after,gd⟩).run P w= .ok (.value r) w':=λ r w' h=>by
    simp only [execOp,resolve,List.map_toArray,List.map_cons,List.map_nil,hx,hy]
    rw [run_bind (w':=w) (a:=⟨.builtin .append #[t,t'] ty _,#[.slice a q c0,.string str]⟩) (by rfl)]
    simp only [invoke,builtin]
    rw [run_bind h];rfl
  have hold:(Builtin.firstCells 1 q (.slice a q c0)).run P w= .ok xs.toArray w:=run_firstCells hrd oqz hs0;have hnew:∀w':World,sat g w' A->(Builtin.firstCells 1 m (.string str)).run P w'= .ok ys.toArray w':=λ w' h=>by subst hz9;subst hys;exact run_firstS
  obtain ⟨i,hi,hi1,hi2,hi3⟩:=info_of hk hb hz
  by_cases hroom:q+m<=c0
  . rcases hcase with ⟨e1,e2,hsR⟩|⟨b,cap',l,e1,e2,e3,e4,hsR⟩
    . simp only [Value.slice.injEq] at e1
      obtain ⟨rfl,rfl,rfl⟩:=e1;obtain rfl:m=0:=by omega
      have hy0:ys=[]:=List.eq_nil_of_length_eq_zero hm;subst hy0;have hx0:xs=[]:=List.eq_nil_of_length_eq_zero hl;subst hx0;refine ⟨.slice none 0 0,w,_,key _ _ ?_, ?_,none,0,rfl,rfl⟩
      . have hn:=hnew w hs
        simp [Builtin.append_,run_underlying hu,run_underlying hu',sizeOf,typeInfo,hi,hi1,Builtin.lenOf,hz9,hn]
      rw [hC];exact hs0
    simp only [Value.slice.injEq,true_and] at e1
    obtain ⟨rfl,rfl⟩:=e1;have hlen:0+q+ys.length<=l.length:=(by omega);obtain ⟨w',hst,hh,g1,g2,g3⟩:=run_storeCells (P:=P) (off:=0+q) ys 0 l w (has_here g w hsR) oqz ho';refine ⟨.slice (some ⟨b,0,none⟩) (q+m) c0,w',_,key _ _ ?_, ?_,_,_,rfl,rfl⟩
    . have hn:=hnew w hs;have hst':(storeCells ⟨b,q,none⟩ ys).run P w= .ok () w':=(by simpa using hst)
      simp [Builtin.append_,run_underlying hu,run_underlying hu',sizeOf,typeInfo,hi,hi1,Builtin.lenOf,hz9,hn,hroom,addr_add,hst']
    have hu2:Upd (R*pt b (cl l e)) b (cl l e) (cl (splice l (0+q) ys) e) (R*pt b (cl (splice l (0+q) ys) e)):=upd_here;have hs2:=hu2.sat hsR (λ j=>by rw [hh j];rfl) g1 g2 g3;rw [hC]
    refine slb_iff.2 ⟨by rw [List.length_append];omega,.inr ⟨b,c0,_,rfl,hroom,by rw [splice_length];exact e3, ?_,hs2⟩⟩;rw [splice_eq oqz,Nat.zero_add,e4,List.take_left' (by rw [List.length_append];omega)]
  have hbig:c0<q+m:=(by omega);have hfit:=growslice_fits hbig hlim;have p48:(2:Nat)^48=281474976710656:=(by decide)
  let cut:=(Question.appendCap (q+m) c0 e).cut (w.tape w.drawn (.appendCap (q+m) c0 e))
  have hcut:q+m<=cut:=(by show q+m<=(q+m)+_;omega)
  let wd:World:={ w with drawn:=w.drawn+1 }
  have hsd:sat g wd A:=hs.draw rfl rfl rfl rfl;have hsd0:sat g wd (R*SlB e (.slice a q c0) q xs):=hA▸hsd
  have hold':(Builtin.firstCells 1 q (.slice a q c0)).run P wd= .ok xs.toArray wd:=run_firstCells hrd oqz hsd0
  let rest:=Builtin.zeroCells z.cells (cut-(q+m))
  have hrest:rest.size=cut-(q+m):=(by show (Builtin.zeroCells z.cells (cut-(q+m))).size=_;rw [size_zeroCells,hzk,Nat.mul_one])
  let cs:=xs++ys++rest.toList
  have hcs:xs.toArray++ys.toArray++rest=cs.toArray:=(by apply Array.ext';simp [cs]);refine ⟨.slice (some ⟨w.heap.size,0,none⟩) (q+m) cut,wd.alloc (cl cs e),_,key _ _ ?_, ?_,_,_,rfl,rfl⟩
  . have hn:=hnew wd hsd
    have h63:¬(9223372036854775807<((q:Int)+(m:Int))):=by
      have:(q+m)*1<=(q+m)*bytes:=Nat.mul_le_mul_left _ hb0
      omega
    have hfit':¬(281474976710656<Builtin.nextslicecap (q+m) c0*i.bytes):=(by rw [hi2];omega);have hwd:w.drew=wd:=rfl;have hcut':(Question.appendCap (q+m) c0 e).cut (w.tape w.drawn (.appendCap (q+m) c0 e))=cut:=rfl;have hrow:wd.alloc (.cells (xs.toArray++ys.toArray++Builtin.zeroCells z.cells (cut-(q+m))) e)=wd.alloc (cl cs e):=congrArg (λ c=>wd.alloc (.cells c e)) hcs;have hsz:wd.heap.size=w.heap.size:=rfl;rw [←hrow]
    simp [Builtin.append_,run_underlying hu,run_underlying hu',sizeOf,typeInfo,zeroValue,hi,hi1,hi3,Builtin.lenOf,hz9,hroom,h63,hfit',Question.forced,hwd,hold',hn,hcut',newRow,hsz]
    congr 2;apply Array.ext';simp
  have h2:=(hsd0.alloc (cl cs e));have h3:sat g (wd.alloc (cl cs e)) (R*pt w.heap.size (cl cs e)):=h2.drop2;rw [hC]
  refine slb_iff.2 ⟨by rw [List.length_append];omega,.inr ⟨w.heap.size,cut,cs,rfl,hcut, ?_, ?_,h3⟩⟩
  . simp only [cs,List.length_append,Array.length_toList,hrest];omega
  show List.take _ ((xs++ys)++_)=_
  exact List.take_left' (by rw [List.length_append];omega)
theorem o_appendGZ {t t' e:TypeId}{x y:Operand}{v z:Value}{m k q bytes:Nat}{xs ys:List Value}{R:SP}
    (hu:P.underlying t=some (.slice e)) (hu':P.underlying t'=some (.int .i64)) (hk:szE P e=some k) (hb:bytesE P e=some bytes) (hz:zeroE P e=some z) (hzk:z.cells.size=k) (hk0:0<k) (hb0:0<bytes)
    (hx:ev n ρ x=v) (hy:ev n ρ y=(vn m)) (hA:A=R*Sl k v q xs) (hys:(Builtin.zeroCells z.cells m).toList=ys) (hm1:m≠0) (hm:ys.length=m*k) (ho:∀u∈ys,oneC u=true) (hlim:(q+m)*bytes<=140737488355328):
    OpX P n ρ A ⟨dst,.call { callee:= .builtin .append,args:= #[x,y],argTypes:= #[t,t'] },ty,pos,after,gd⟩ (λ v' B=>(∃a' c',v= .slice a' q c'/\ v'= .slice a' (q+m) c'/\ q+m<=c'/\ B=R*Sl k v' (q+m) (xs++ys))∨B=R*Sl k v q xs*Sl k v' (q+m) (xs++ys)):=λ g w hs=>by
  have hs0:=hs;rw [hA] at hs0
  obtain ⟨hl,hcase⟩:=sl_iff.1 hs0;obtain ⟨aa,cap,hv,hqc,_,hrd⟩:=sl_have hs0
  -- the run, but for the operation itself
  have key:∀ (r:Value) (w':World),(Builtin.append_ #[t,t'] ty #[v,vn m]).run P w= .ok r w'→
      (execOp (ev n ρ) ⟨dst,.call { callee:= .builtin .append,args:= #[x,y],argTypes:= #[t,t'] },ty,pos,after,gd⟩).run P w= .ok (.value r) w':=λ r w' h=>by
    simp only [execOp,resolve,List.map_toArray,List.map_cons,List.map_nil,hx,hy]
    rw [run_bind (w':=w) (a:=⟨.builtin .append #[t,t'] ty _,#[v,vn m]⟩) (by rfl)]
    simp only [invoke,builtin]
    rw [run_bind h];rfl
  have hold:(Builtin.firstCells k q (.slice aa q cap)).run P w= .ok xs.toArray w:=run_firstCells hrd hl hs0;have hz8:Builtin.zeroCells z.cells m=ys.toArray:=(by rw [←hys]);have hk1:k≠0:=(by omega);have hmb:m*1<=m*bytes:=Nat.mul_le_mul_left _ hb0;have hqb:m*bytes<=(q+m)*bytes:=Nat.mul_le_mul_right _ oqz;have hwr:IntKind.i64.wrap (m:Int)=m:=wrap_i64 oqz;have hneg:¬((m:Int)<0):=(by omega)
  have hbg:¬(281474976710656<(m:Int)*(bytes:Int)):=by
    have:((m*bytes:Nat):Int)=(m:Int)*(bytes:Int):=(by simp)
    omega
  subst hv;obtain ⟨i,hi,hi1,hi2,hi3⟩:=info_of hk hb hz;have hmk:¬(m*k=0):=λ e=>by rcases Nat.mul_eq_zero.1 e with h|h<;>omega
  have hbgi:¬(281474976710656<(m:Int)*(i.bytes:Int)):=(by rw [hi2];exact hbg)
  by_cases hroom:q+m<=cap
  · -- there is room
    rcases hcase with ⟨e1,e2,hsR⟩|⟨b,off,cap',l,E,e1,e2,e3,e4,hsR⟩
    . simp only [Value.slice.injEq] at e1
      obtain ⟨rfl,rfl,rfl⟩:=e1;have hm0:m=0:=(by omega);subst hm0;have hy0:ys=[]:=(by simpa using hm);subst hy0;refine ⟨.slice none 0 0,w,_,key _ _ ?_, ?_,.inl ⟨none,0,rfl,rfl,by omega,rfl⟩⟩
      . exact absurd rfl hm1
      rw [List.append_nil];exact hs0
    simp only [Value.slice.injEq] at e1
    obtain ⟨rfl,_,rfl⟩:=e1
    have hlen:off+q*k+ys.length<=l.length:=by
      have:(q+m)*k<=cap*k:=Nat.mul_le_mul_right k hroom;rw [Nat.add_mul] at this
      omega
    obtain ⟨w',hst,hh,g1,g2,g3⟩:=run_storeCells (P:=P) (off:=off+q*k) ys 0 l w (has_here g w hsR) oqz ho;refine ⟨.slice (some ⟨b,off,none⟩) (q+m) cap,w',_,key _ _ ?_, ?_,.inl ⟨_,_,rfl,rfl,hroom,rfl⟩⟩
    . skip
      simp [Builtin.append_,run_underlying hu,run_underlying hu',sizeOf,typeInfo,hi,hi1,asInt,asIntOf,hmk,hbgi,hwr,hneg,hbg,hi2,hi3,hm1,hk1,hz8,zeroValue,hroom,addr_add,hst]
    have hu2:Upd (R*pt b (cl l E)) b (cl l E) (cl (splice l (off+q*k) ys) E) (R*pt b (cl (splice l (off+q*k) ys) E)):=upd_here;have hs2:=hu2.sat hsR (λ j=>by rw [hh j];rfl) g1 g2 g3;refine sl_iff.2 ⟨by rw [List.length_append,hl,hm,Nat.add_mul],.inr ⟨b,off,cap,_,E,rfl,hroom,by rw [splice_length];exact e3, ?_,hs2⟩⟩
    apply List.ext_getElem?
    intro i;rw [List.getElem?_take,List.getElem?_append,List.getElem?_drop,splice_getElem? _ _ _ _ hlen,Nat.add_mul,←hm,←hl]
    have hx':∀i,i<xs.length->l[off+i]? =xs[i]? :=λ i hi=>by
      rw [←e4,List.getElem?_take,if_pos (by rw [←hl];exact hi),List.getElem?_drop]
    by_cases h1:i<xs.length
    . rw [if_pos oqz,if_neg oqz,if_pos h1,hx' i h1]
    by_cases h2:i<xs.length+ys.length
    . rw [if_pos h2,if_pos oqz,if_neg h1];congr 1;omega
    rw [if_neg h2,if_neg h1,List.getElem?_eq_none oqz]
  -- it grows
  have hbig:cap<q+m:=(by omega);have hfit:=growslice_fits hbig hlim;have p48:(2:Nat)^48=281474976710656:=(by decide)
  let cut:=(Question.appendCap (q+m) cap e).cut (w.tape w.drawn (.appendCap (q+m) cap e))
  have hcut:q+m<=cut:=(by show q+m<=(q+m)+_;omega)
  let wd:World:={ w with drawn:=w.drawn+1 }
  have hsd:sat g wd A:=hs.draw rfl rfl rfl rfl;have hsd0:sat g wd (R*Sl k (.slice aa q cap) q xs):=hA▸hsd
  have hold':(Builtin.firstCells k q (.slice aa q cap)).run P wd= .ok xs.toArray wd:=run_firstCells hrd hl hsd0
  let rest:=Builtin.zeroCells z.cells (cut-(q+m))
  have hrest:rest.size=(cut-(q+m))*k:=(by show (Builtin.zeroCells z.cells (cut-(q+m))).size=_;rw [size_zeroCells,hzk])
  let cs:=xs++ys++rest.toList
  have hcs:xs.toArray++ys.toArray++rest=cs.toArray:=(by apply Array.ext';simp [cs]);refine ⟨.slice (some ⟨w.heap.size,0,none⟩) (q+m) cut,wd.alloc (cl cs e),_,key _ _ ?_, ?_,.inr rfl⟩
  . skip
    have h63:¬(9223372036854775807<((q:Int)+(m:Int))):=by
      have:(q+m)*1<=(q+m)*bytes:=Nat.mul_le_mul_left _ hb0
      omega
    have hfit':¬(281474976710656<Builtin.nextslicecap (q+m) cap*i.bytes):=(by rw [hi2];omega);have hwd:w.drew=wd:=rfl;have hcut':(Question.appendCap (q+m) cap e).cut (w.tape w.drawn (.appendCap (q+m) cap e))=cut:=rfl;have hrow:wd.alloc (.cells (xs.toArray++ys.toArray++Builtin.zeroCells z.cells (cut-(q+m))) e)=wd.alloc (cl cs e):=congrArg (λ c=>wd.alloc (.cells c e)) hcs;have hsz:wd.heap.size=w.heap.size:=rfl;rw [←hrow]
    simp [Builtin.append_,run_underlying hu,run_underlying hu',sizeOf,typeInfo,zeroValue,hi,hi1,hi3,asInt,asIntOf,hmk,hbgi,hwr,hneg,hbg,hm1,hk1,hz8,hroom,h63,hfit',Question.forced,hwd,hold',hcut',newRow,hsz]
    congr 2;apply Array.ext';simp
  have:=hsd0.alloc (cl cs e);refine sl_new this hcut ?_ ?_
  . simp only [cs,List.length_append,Array.length_toList,hrest,hl,hm,←Nat.add_mul]
    rw [Nat.add_sub_cancel' hcut];exact Nat.le_refl _
  have:(q+m)*k=(xs++ys).length:=(by rw [List.length_append,hl,hm,Nat.add_mul]);rw [this]
  show List.take _ ((xs++ys)++_)=_
  rw [List.take_left]
theorem o_appendZ {t t' e:TypeId}{x y:Operand}{v z:Value}{m k q bytes:Nat}{xs ys:List Value}{R:SP}
    (hu:P.underlying t=some (.slice e)) (hu':P.underlying t'=some (.int .i64)) (hk:szE P e=some k) (hb:bytesE P e=some bytes) (hz:zeroE P e=some z) (hzk:z.cells.size=k) (hk0:0<k) (hb0:0<bytes)
    (hx:ev n ρ x=v) (hy:ev n ρ y=(vn m)) (hA:A=R*Sl k v q xs) (hys:(Builtin.zeroCells z.cells m).toList=ys) (hm1:m≠0) (hm:ys.length=m*k) (ho:∀u∈ys,oneC u=true) (hlim:(q+m)*bytes<=140737488355328):
    OpX P n ρ A ⟨dst,.call { callee:= .builtin .append,args:= #[x,y],argTypes:= #[t,t'] },ty,pos,after,gd⟩ (λ v' B=>B=R*Sl k v' (q+m) (xs++ys)):=λ g w hs=>by
  obtain ⟨v',w',B,h1,h2,⟨_,_,_,_,_,rfl⟩|rfl⟩:=o_appendGZ (dst:=dst) (ty:=ty) (pos:=pos) (after:=after) (gd:=gd) hu hu' hk hb hz hzk hk0 hb0 hx hy hA hys hm1 hm ho hlim g w hs
  . exact ⟨v',w',_,h1,h2,rfl⟩
  refine ⟨v',w',_,h1, ?_,rfl⟩;rw [star_assoc,star_comm (Sl k v q xs),←star_assoc] at h2
  exact h2.left
theorem wrap0:IntKind.i64.wrap 0=0:=by decide
theorem o_apRZ {t t' e:TypeId}{x y:Operand}{z:Value}{m k q bytes c0:Nat}{a:Option Addr}{xs ys zs:List Value}{R:SP}{C:SP->SP}
    (hu:P.underlying t=some (.slice e)) (hu':P.underlying t'=some (.int .i64)) (hk:szE P e=some k) (hb:bytesE P e=some bytes) (hz:zeroE P e=some z) (hzk:z.cells.size=k) (hk0:0<k) (hb0:0<bytes)
    (hx:ev n ρ x= .slice a q c0) (hy:ev n ρ y=(vn m)) (hf:Ct A (Sl k (.slice a q c0) q xs) R C) (hys:(Builtin.zeroCells z.cells m).toList=ys) (hm:ys.length=m*k) (ho:ys.all oneC=true) (hlim:(q+m)*bytes<=140737488355328) (he:xs++ys=zs):
    OpX P n ρ A ⟨dst,.call { callee:= .builtin .append,args:= #[x,y],argTypes:= #[t,t'] },ty,pos,after,gd⟩ (λ v' B=>∃a' c',v'= .slice a' (q+m) c'/\ q+m<=c'/\ B=C (Sl k (.slice a' (q+m) c') (q+m) zs)):=λ g w hs=>by
  subst he;obtain ⟨rfl,hC⟩:=hf
  by_cases hm1:m=0
  . subst hm1;have hy0:ys=[]:=List.eq_nil_of_length_eq_zero (by rw [hm];omega);subst hy0;obtain ⟨a',c',hv,h1,_⟩:=sl_have hs
    simp only [Value.slice.injEq,true_and] at hv
    obtain ⟨rfl,rfl⟩:=hv;obtain ⟨i,hi,hi1,hi2,hi3⟩:=info_of hk hb hz;refine ⟨.slice a q c0,w,_, ?_, ?_,a,c0,rfl,h1,rfl⟩
    . simp only [execOp,resolve,List.map_toArray,List.map_cons,List.map_nil,hx,hy]
      rw [run_bind (w':=w) (a:=⟨.builtin .append #[t,t'] ty _,#[.slice a q c0,vn 0]⟩) (by rfl)]
      simp only [invoke,builtin]
      rw [run_bind (a:= .slice a q c0) (w':=w)]
      . rfl
      cases a<;>simp [Builtin.append_,run_underlying hu,run_underlying hu',sizeOf,typeInfo,hi,hi1,asInt,asIntOf,h1,wrap0,storeCells]<;>rfl
    rw [hC,List.append_nil];exact hs
  obtain ⟨v',w',B,hr,hB,rfl⟩:=o_appendZ (dst:=dst) (ty:=ty) (pos:=pos) (after:=after) (gd:=gd) hu hu' hk hb hz hzk hk0 hb0 hx hy rfl hys hm1 hm (λ u hu=>List.all_eq_true.1 ho u hu) hlim g w hs;obtain ⟨a',c',rfl,h1,_⟩:=sl_have hB;exact ⟨_,w',_,hr,hB,a',c',rfl,h1,(hC _).symm⟩
theorem zrepB (m:Nat):(Builtin.zeroCells #[Value.int .u8 0] m).toList=bys (List.replicate m 0):=by
  unfold Builtin.zeroCells bys
  refine List.ext_getElem (by simp) λ i h1 h2=> ?_
  simp [b8,Nat.mod_one]
end
section
variable {P:Program} {n:Nat} {ρ:Env} {A:SP} {dst:Option Tmp} {ty:TypeId} {pos:String} {after:Array Edge} {gd:Option (Nat×Bool)}
theorem o_usd {x:Operand}{tys:Array TypeId}{a:Option Addr}{m c:Nat}(hx:ev n ρ x= .slice a m c)(hc:a=none∨c≠0):
    OpV P n ρ A ⟨dst,.call { callee:= .builtin .unsafeSliceData,args:= #[x],argTypes:=tys },ty,pos,after,gd⟩ (.pointer a):=opv_of λ w=>by
  simp only [execOp,resolve,List.map_toArray,List.map_cons,List.map_nil,hx]
  rw [run_bind (w':=w) (a:=⟨.builtin .unsafeSliceData tys ty _,#[.slice a m c]⟩) (by rfl)]
  simp only [invoke,builtin]
  rw [run_bind (w':=w) (a:= .pointer a)]
  . rfl
  cases a with
  |none=>exact Lib.run_unsafeSliceData_nil w tys ty m c
  |some p=>exact Lib.run_unsafeSliceData_row w tys ty p m c (by rcases hc with h|h;cases h;exact h)
theorem o_ustr0 {x y:Operand}{pt' it:TypeId}{a:Option Addr}(hx:ev n ρ x= .pointer a)(hy:ev n ρ y= .int .i64 0):
    OpV P n ρ A ⟨dst,.call { callee:= .builtin .unsafeString,args:= #[x,y],argTypes:= #[pt',it] },ty,pos,after,gd⟩ (.string .empty):=opv_of λ w=>by
  simp only [execOp,resolve,List.map_toArray,List.map_cons,List.map_nil,hx,hy]
  rw [run_bind (w':=w) (a:=⟨.builtin .unsafeString #[pt',it] ty _,#[.pointer a,.int .i64 0]⟩) (by rfl)]
  simp only [invoke,builtin]
  rw [run_bind (w':=w) (a:= .string .empty)]
  . rfl
  exact Lib.run_unsafeString_none w pt' it ty a
theorem o_ustr {x y:Operand}{pt' it e:TypeId}{b m c:Nat}{xs:List Nat}{R:SP}(hp:P.underlying pt'=some (.pointer e))(hc:P.cellsOf e=1)(hx:ev n ρ x=(pz b))(hy:ev n ρ y=(vn m))
    (hf:A=R*SlB e (.slice (some ⟨b,0,none⟩) m c) m (bys xs)) (hb:∀x∈xs,x<256) (h0:0<m) (h63:m<=1125899906842624):
    OpX P n ρ A ⟨dst,.call { callee:= .builtin .unsafeString,args:= #[x,y],argTypes:= #[pt',it] },ty,pos,after,gd⟩ (λ v B=>v= .string (sob xs)/\ B=R):=λ g w hs=>by
  subst hf;obtain ⟨hl,⟨e1,_⟩|⟨b',cap,l,e1,h1,h2,h3,hs'⟩⟩:=slb_iff.1 hs
  . cases e1
  simp only [Value.slice.injEq,Option.some.injEq,Addr.mk.injEq,and_true,true_and] at e1
  obtain ⟨rfl,rfl⟩:=e1;rw [bys_length] at hl
  have hh:=has_here g w hs'
  have hfz:=Lib.run_unsafeString_row (P:=P) w pt' it ty e hp hc b l.length (by unfold World.shape?;rw [hh];simp [cl]) (xs.map λ n=>UInt8.ofNat n) (by intro h;simp at h;subst h;simp at hl;omega) (by simp;omega) (by simp;omega) (λ j x hj=>by
    rw [List.getElem?_map] at hj
    cases hxj:xs[j]? with
    |none=>rw [hxj] at hj;cases hj
    |some k=>
      rw [hxj] at hj
      simp only [Option.map_some,Option.some.injEq] at hj
      subst hj;have hk:k<256:=hb k (List.mem_of_getElem? hxj);have hjl:j<m:=(by have:=(List.getElem?_eq_some_iff.1 hxj).1;omega);rw [addr_add,Nat.zero_add,cell_cl hh]
      have h4:=congrArg (λ l:List Value=>l[j]?) h3
      simp only [List.getElem?_take,if_pos hjl] at h4
      rw [h4]
      unfold bys b8
      rw [List.getElem?_map,hxj]
      simp [Nat.mod_eq_of_lt hk])
  have hlm:(xs.map λ n=>UInt8.ofNat n).length=m:=(by rw [List.length_map];exact hl);rw [hlm] at hfz
  refine ⟨_,w.freeze ⟨b,0,none⟩ m,R, ?_, ?_,rfl,rfl⟩
  . simp only [execOp,resolve,List.map_toArray,List.map_cons,List.map_nil,hx,hy]
    rw [run_bind (w':=w) (a:=⟨.builtin .unsafeString #[pt',it] ty _,#[pz b,vn m]⟩) (by rfl)]
    simp only [invoke,builtin]
    rw [run_bind hfz];rfl
  have hu:Upd (R*pt b (cl l e)) b (cl l e) (.cells l.toArray e (0,0+m)) (R*pt b (.cells l.toArray e (0,0+m))):=upd_here
  have h5:sat g (w.freeze ⟨b,0,none⟩ m) (R*pt b (.cells l.toArray e (0,0+m))):=hu.sat hs' (λ k=>by
    unfold World.freeze
    rw [if_neg oqz]
    show (w.heap.modify b _)[k]? =_
    rw [Array.getElem?_modify]
    by_cases hk:b=k
    . subst hk;rw [if_pos rfl,if_pos rfl,hh];simp [cl]
    rw [if_neg hk,if_neg (Ne.symm hk)]) (by unfold World.freeze;split<;>rfl) (by unfold World.freeze;split<;>rfl) (by unfold World.freeze;split<;>rfl)
  exact h5.left
end
def bdc (p v:Value):List Value:=[p,v]
attribute [local irreducible] Sl pt ro SlB
theorem Zd0 {p r:Prop}(k:r)(h:Kq r->p:=by intro k;refine tv (o_fieldAddr (o:=0) underlying345 rfl rfl sz343 rfl) ?_;refine tv (by first|exact o_load p343 rfl hsqz rfl|exact o_loadC p343 rfl (by assumption)) ?_;exact k.o):p:=h ⟨k⟩
theorem cc0_f (F:SP){b:Nat}{v:Value}:
    Fn Tryz.prog 297 #[pz b] (F*pt b (cl [.pointer none,v] 345)) (λ r B=>r= .tuple #[]/\ B=F*pt b (cl [pz b,v] 345)):=by
  refine fn_enterW func297 rfl ntmps297 (by simp) ?_;obtain ⟨jb,hj1,hj2,_,_⟩:=info_of sz345 by345 z345;refine Z1 ?_;refine Zd0 ?_;refine tv (o_eqp underlying343 rfl rfl) ?_;refine nq ?_;refine tc_cond rfl (sbq ?_) dbq;intro h;refine Zb5 ?_;refine tv (o_toU underlying343 underlying420 hj1 oqz rfl (by repeat (first|exact has_here|apply has_left)) (by show 0<2;decide)) ?_;refine tv (o_noEsc func323 kqz kqz kqz kqz rfl) ?_;refine tv (o_fromU underlying420 underlying343 hj1 rfl (by repeat (first|exact has_here|apply has_left)) kqz) ?_;refine tv (o_nilCheck rfl) ?_;refine tv (o_fieldAddr (o:=0) underlying345 rfl rfl sz343 rfl) ?_;refine tl_u rfl (o_stU rfl upqz sz343 rfl rfl (by first|decide|simp|omega) rfl) ?_;refine tl_nil ?_;exact ⟨.tuple #[],F*pt b (cl [pz b,v] 345),res0 rfl,Dr.sat drqz,rfl,rfl⟩
theorem cc1_f (F:SP){b:Nat}{v:Value}:
    Fn Tryz.prog 297 #[pz b] (F*pt b (cl [pz b,v] 345)) (λ r B=>r= .tuple #[]/\ B=F*pt b (cl [pz b,v] 345)):=by
  refine fn_enterW func297 rfl ntmps297 (by simp) ?_;obtain ⟨jb,hj1,hj2,_,_⟩:=info_of sz345 by345 z345;refine Z1 ?_;refine Zd0 ?_;refine tv (o_eqp underlying343 rfl rfl) ?_;refine Zn ?_;intro h;refine Z1 ?_;refine Zd0 ?_;refine tlm ?_;refine tv (o_nepS underlying343 hj1 kqz rfl rfl) ?_;refine Zn ?_;intro h;refine tc_skip ?_;exact ⟨.tuple #[],F*pt b (cl [pz b,v] 345),res0 rfl,Dr.sat drqz,rfl,rfl⟩
theorem cc_f (F:SP){b:Nat}{p v:Value}(hp:p= .pointer none∨p=(pz b)):Fn Tryz.prog 297 #[pz b] (F*pt b (cl [p,v] 345)) (λ r B=>r= .tuple #[]/\ B=F*pt b (cl [pz b,v] 345)):=by
  rcases hp with rfl|rfl
  . exact cc0_f F
  exact cc1_f F
theorem Zfi {p r:Prop}(k:r)(h:Kq r->p:=by intro k;refine tm 2 rfl kqz rfl (o_fieldAddr (o:=1) underlying345 rfl rfl sz67 rfl) ?_;refine tm 3 rfl kqz rfl (by first|exact o_load p67 rfl hsqz rfl|exact o_loadC p67 rfl (by assumption)) ?_;exact k.o):p:=h ⟨k⟩
theorem Ze1 {p r:Prop}(k:r)(h:Kq r->p:=by intro k;refine tm 5 rfl kqz rfl (o_move wqz) ?_;refine tm 6 rfl kqz rfl (o_nilCheck rfl) ?_;exact k.o):p:=h ⟨k⟩
theorem Zfj {p r:Prop}(k:r)(h:Kq r->p:=by intro k;refine tm 7 rfl kqz rfl (o_fieldAddr (o:=1) underlying345 rfl rfl sz67 rfl) ?_;refine tm 8 rfl kqz rfl (by first|exact o_load p67 rfl hsqz rfl|exact o_loadC p67 rfl (by assumption)) ?_;exact k.o):p:=h ⟨k⟩
theorem bs0_f (F:SP){b c:Nat}{p:Value}:
    Fn Tryz.prog 254 #[pz b] (F*pt b (cl [p,.slice none 0 c] 345)) (λ r B=>r= .string .empty/\ B=F):=by
  refine fn_enterW func254 rfl ntmps254 (by simp) ?_;refine Zf9 ?_;refine tc_regh mo dr_refl ?_
  show TH _ _ _ _ _ 12 (Array.replicate 12 false) _ _
  refine Zbz ?_;refine Zfi ?_;refine tm 4 rfl kqz rfl (o_usd rfl (.inl rfl)) ?_;refine Ze1 ?_;refine Zfj ?_;refine tm 9 rfl kqz rfl (o_len underlying67 rfl) ?_;refine tm 10 rfl kqz rfl (o_ustr0 rfl rfl) ?_;refine tm 11 rfl kqz rfl (o_assign wqz) ?_;refine Zbs ?_;refine tc_ret ?_;refine ⟨.string .empty,_,res1 rfl rfl, ?_,rfl,rfl⟩;exact Dr.sat drqz
theorem bs1_f (F:SP){b b2 n c:Nat}{p:Value}{xs:List Nat}(hn:0<n)(hc:n<=c)(hb:∀x∈xs,x<256)(hl:n<=1099511627776):
    Fn Tryz.prog 254 #[pz b] (F*pt b (cl [p,.slice (some ⟨b2,0,none⟩) n c] 345)*SlB 5 (.slice (some ⟨b2,0,none⟩) n c) n (bys xs)) (λ r B=>r= .string (sob xs)/\ B=F):=by
  refine fn_enterW func254 rfl ntmps254 (by simp) ?_;refine Zf9 ?_;refine tc_regh (S:=F*pt b (cl [p,.slice (some ⟨b2,0,none⟩) n c] 345)) mo drqz ?_
  show TH _ _ _ _ _ 12 (Array.replicate 12 false) _ _
  refine Zbz ?_;refine Zfi ?_;refine tm 4 rfl kqz rfl (o_usd rfl (.inr oqz)) ?_;refine Ze1 ?_;refine Zfj ?_;refine tm 9 rfl kqz rfl (o_len underlying67 rfl) ?_;refine th_one (i:=10) kqz ?_;refine oh_x rfl rfl rfl (o_ustr underlying399 kqz rfl rfl rfl hb hn oqz) ?_;refine Zcw ?_;refine tm 11 rfl kqz rfl (o_assign wqz) ?_;refine Zbs ?_;refine tc_ret ?_;refine ⟨.string (sob xs),_,res1 rfl rfl, ?_,rfl,rfl⟩;exact Dr.sat drqz
theorem bs_f (F:SP){b n c:Nat}{a:Option Addr}{p:Value}{xs:List Nat}(hx:xs.length=n)(h0:0<n∨a=none)(hb:∀x∈xs,x<256)(hl:n<=1099511627776):
    Fn Tryz.prog 254 #[pz b] (F*pt b (cl [p,.slice a n c] 345)*SlB 5 (.slice a n c) n (bys xs)) (λ r B=>r= .string (sob xs)/\ B=F):=λ g w hs=>by
  obtain ⟨h1,⟨e1,e2,hs'⟩|⟨b2,cap,l,e1,h2,h3,h4,hs'⟩⟩:=slb_iff.1 hs
  . simp only [Value.slice.injEq] at e1
    obtain ⟨rfl,rfl,rfl⟩:=e1;have:xs=[]:=List.eq_nil_of_length_eq_zero hx;subst this;exact bs0_f F g w hs'
  simp only [Value.slice.injEq,true_and] at e1
  obtain ⟨rfl,rfl⟩:=e1
  rcases h0 with h0|h0
  . exact bs1_f F h0 h2 hb hl g w hs
  cases h0
end Go.Vl

namespace Go.Vl
open Go Go.Proofs Go.Proofs.Tryz
theorem o_maxZ {P:Program}{n:Nat}{ρ:Env}{A:SP}{dst:Option Tmp}{ty t t':TypeId}{pos:String}{after:Array Edge}{gd:Option (Nat×Bool)}{x y:Operand}{a:Int}(hu:P.underlying ty=some (.int .i64))(hx:ev n ρ x= .int .i64 a)(hy:ev n ρ y= .int .i64 0):
    OpV P n ρ A ⟨dst,.call { callee:= .builtin .max,args:= #[x,y],argTypes:= #[t,t'] },ty,pos,after,gd⟩ ((vn a.toNat)):=λ g w hs=>by
  simp only [execOp,resolve,List.map_toArray,List.map_cons,List.map_nil,hx,hy]
  rw [run_bind (w':=w) (a:=⟨.builtin .max #[t,t'] ty _,#[.int .i64 a,.int .i64 0]⟩) (by rfl)]
  simp only [invoke,builtin]
  rw [run_bind (w':=w) (a:=(vn a.toNat))]
  . rfl
  have e:(if (0:Int)>a then (0:Int) else a)=((a.toNat:Nat):Int):=(by split<;>omega)
  simp only [gt_iff_lt] at e
  simp [Builtin.max_,Builtin.max2,List.foldlM,Sem.run_bind,←e]
theorem blkS_app (nx:Nat)(xs:List Nat):bys ([]++le 4 nx++le 2 xs.length++le 2 0)++bys xs=bys (le 4 nx++le 2 xs.length++le 2 0++xs):=by rw [←bys_append,List.nil_append]
theorem blkS_app2 (nx:Nat)(xs:List Nat):bys (le 4 nx++le 2 xs.length++le 2 0++xs)++bys (List.replicate (248-xs.length) 0)=bys (blkS nx xs):=by rw [←bys_append];rfl
attribute [local irreducible] crk crL crc Sl pt ro Dev imgS recS readS recsF rdW rdO rkT Parts rvl recordsS runsL adrF kcl xcl kys runA runsF layF ovF TxA adZ WkA SlB blkS conB
theorem bws_f (F:SP){b n c m:Nat}{a:Option Addr}{p:Value}{xs:List Nat}{s:ByteArray}(hp:p= .pointer none∨p=(pz b))(hm:s.size=m)(hx:xs.length=n)(hl:n+m<=1099511627776):
    Fn Tryz.prog 253 #[pz b,.string s] (F*pt b (cl [p,.slice a n c] 345)*SlB 5 (.slice a n c) n (bys xs)) (λ r B=>∃a3 c3,r= .tuple #[vn m,.nilIface]/\ B=F*pt b (cl [pz b,.slice a3 (n+m) c3] 345)*SlB 5 (.slice a3 (n+m) c3) (n+m) (bys (xs++sbys s))):=by
  refine fn_enterW func253 rfl ntmps253 (by simp) ?_;refine Zg5 ?_;refine tl_c rfl (o_call bd297 rfl (fn_eq (star_swap _ _ _) (cc_f (F*SlB 5 (.slice a n c) n (bys xs)) hp))) ?_;rintro _ _ ⟨rfl,rfl⟩;refine nq ?_;refine Zbj ?_;refine tv (o_nilCheck rfl) ?_;refine tv (o_fieldAddr (o:=1) underlying345 rfl rfl sz67 rfl) ?_;refine tv (by first|exact o_load p67 rfl hsqz rfl|exact o_loadC p67 rfl (by assumption)) ?_;refine tlm ?_;refine tl_x rfl (o_apSBS underlying67 underlying9 sz5 by5 z5 rfl (by decide) rfl rfl ctqz rfl hm (by rw [bys_length,sbys_len];exact hm) (bys_all _) oqz) ?_;rintro _ _ ⟨a14,c14,rfl,rfl⟩;refine tv (o_nilCheck rfl) ?_;refine tv (o_fieldAddr (o:=1) underlying345 rfl rfl sz67 rfl) ?_;refine tl_u rfl (o_stU rfl upqz sz67 rfl rfl (by first|decide|simp|omega) rfl) ?_;refine nq ?_;refine Zb ?_;refine tv (o_lenS underlying9 rfl) ?_;refine Zy ?_;rw [←bys_append]
  subst hm;exact ⟨.tuple #[vn s.size,.nilIface],F*pt b (cl [pz b,.slice a14 (n+s.size) c14] 345)*SlB 5 (.slice a14 (n+s.size) c14) (n+s.size) (bys (xs++sbys s)),res2 rfl rfl rfl,λ _ _ h=>h.perm (by ac_rfl),a14,c14,rfl,rfl⟩
theorem NeedB_c {A:SP}{n:Int}(hn: -9223372036854775808<=n/\ n<=9223372036854775807:=by omega):
    Fn Tryz.prog 99 #[.int .i64 n] A (λ r B=>r=(vn (nblk n.toNat))/\ A=B):=by
  refine fn_enterW func99 rfl ntmps99 (by simp) ?_;obtain ⟨q,hq⟩:∃q:Nat,n.toNat=q:=⟨_,rfl⟩;have hqb:q<=9223372036854775807:=(by omega);refine Zdr ?_;refine tv (o_maxZ underlying3 rfl rfl) ?_;refine tl_env (d:=5) (v:=(vn q)) (by show Value.int .i64 _=_;rw [hq]) ?_;refine Zbu ?_;refine tv (by first|exact o_quoI rfl rfl oqz|exact o_quo rfl rfl oqz) ?_;refine Zds ?_;refine tv (by first|exact o_remI rfl rfl oqz|exact o_rem rfl rfl oqz) ?_;refine Zd4 ?_;refine tc_cond rfl (sbq ?_) (sbq ?_)
  . intro h;refine Zbq ?_;refine tv adqz ?_;refine Zbu ?_;refine Zbd ?_;have e:nblk n.toNat=q/248+1:=(by unfold nblk;rw [hq];exact if_neg oqz);rw [e]
    exact ⟨.int .i64 ((q/248+1:Nat):Int),_,res1 rfl rfl,Dr.sat drqz,rfl,rfl⟩
  intro h;refine Zb9 ?_;refine Zbd ?_;have e:nblk n.toNat=q/248:=(by unfold nblk;rw [hq];exact if_pos (by first|omega|(simp at h;omega)));rw [e]
  exact ⟨.int .i64 ((q/248:Nat):Int),_,res1 rfl rfl,Dr.sat drqz,rfl,rfl⟩
theorem readyB_c {A R:SP}{C:SP->SP}{X:WkX}{Y:WkY}{T:WkT}{s:DevS}(hc:Ct A (WkA X Y s) R C:=by exact cbqz)(hok:WkOk X Y T (s.ls.length*64))(hb:WkB X s)(ho:s.off=false:=by assumption):
    Fn Tryz.prog 178 #[.pointer (some ⟨X.w,0,none⟩)] A (λ r B=>r= .int .i64 0/\ A=B):=by
  refine fn_enterW func178 rfl ntmps178 (by simp) ?_;refine Zdr ?_;refine tl_c rfl (o_call bd199 rfl (Root13_c (hc:=hc) (hok:=hok) (hb:=hb))) ?_;rintro _ _ ⟨v7,rfl,rfl⟩;refine Zey ?_;refine Zbd ?_;exact ⟨.int .i64 0,_,res1 rfl rfl,Dr.sat drqz,rfl,rfl⟩
theorem Zfm {p r:Prop}(k:r)(h:Kq r->p:=by intro k;refine tlm ?_;refine tv (o_lenS underlying9 rfl) ?_;exact k.o):p:=h ⟨k⟩
theorem blockB_c {A:SP}{nx:Nat}{s:ByteArray}(hs:s.size<=248:=by omega)(hn:nx<4294967296:=by omega):
    Fn Tryz.prog 179 #[.int .u32 (nx:Nat),.string s] A (λ r B=>∃a c,r= .slice a 256 c/\ 256<=c/\ B=A*Sl 1 (.slice a 256 c) 256 (bys (blkS nx (sbys s)))):=by
  refine fn_enterW func179 rfl ntmps179 (by simp) ?_;have hxl:=sbys_len s;refine Zdr ?_;refine tl_c rfl (o_call bd74 rfl (Put32_c (xs:=[]) (v:=nx))) ?_;rintro _ _ ⟨a7,c7,rfl,hc7,rfl⟩;refine tl_env (d:=7) (v:= .slice a7 4 c7) (rfl) ?_;refine Zfm ?_;refine tv (o_conv16 underlying3 underlying287 rfl) ?_;refine tl_env (d:=10) (v:= .int .u16 ((s.size:Nat):Int)) (congrArg (λ z:Nat=>Value.int .u16 (z:Int)) (Nat.mod_eq_of_lt oqz)) ?_;refine tl_c rfl (o_call bd232 rfl (Put16_c (m:=4) (xs:=[]++le 4 nx) (v:=s.size) (hr:=rs_sl) (hm:=by rw [List.nil_append,le_length]))) ?_;rintro _ _ ⟨a11,c11,rfl,hc11,rfl⟩;refine tl_env (d:=11) (v:= .slice a11 6 c11) (rfl) ?_;refine tl_c rfl (o_call bd232 rfl (Put16_c (m:=6) (xs:=[]++le 4 nx++le 2 s.size) (v:=0) (hr:=rs_sl) (hm:=by simp only [List.nil_append,List.length_append,le_length]))) ?_;rintro _ _ ⟨a12,c12,rfl,hc12,rfl⟩;refine tl_env (d:=12) (v:= .slice a12 8 c12) (rfl) ?_;refine Zee ?_;refine tl_x rfl (o_apRS underlying67 underlying9 sz5 by5 z5 rfl (by decide) (by decide) rfl rfl ctqz rfl (by rw [bys_length,hxl,Nat.mul_one]) oqz (show bys ([]++le 4 nx++le 2 s.size++le 2 0)++bys (sbys s)=bys (le 4 nx++le 2 (sbys s).length++le 2 0++sbys s) by rw [←hxl];exact blkS_app _ _)) ?_;rintro _ _ ⟨a15,c15,rfl,hc15,rfl⟩;refine Zee ?_;refine tv (o_lenS underlying9 rfl) ?_;refine tv (o_subI rfl rfl oqz) ?_;refine tl_x rfl (o_apRZ underlying67 underlying3 sz5 by5 z5 rfl (by decide) (by decide) rfl (show _=Value.int .i64 ((248-s.size:Nat):Int) from congrArg (Value.int .i64) oqz) ctqz (zrepB _) (by rw [bys_length,List.length_replicate,Nat.mul_one]) (bys_all _) oqz (show bys _++bys (List.replicate (248-s.size) 0)=bys (blkS nx (sbys s)) by rw [←hxl];exact blkS_app2 _ _)) ?_;rintro _ _ ⟨a20,c20,rfl,hc20,rfl⟩;rw [show 8+s.size+(248-s.size)=256 by omega] at*
  refine Zbd ?_;exact ⟨_,_,res1 rfl rfl,Dr.sat drqz,a20,c20,rfl,hc20,rfl⟩
end Go.Vl

namespace Go.Vl
open Go Go.Proofs Go.Proofs.Tryz
theorem Take13_c {A R:SP}{C:SP->SP}{X:WkX}{Y:WkY}{T:WkT}{s:DevS}(hc:Ct A (WkA X Y s) R C:=by exact cbqz)(hok:WkOk X Y T (s.ls.length*64))(hb:WkB X s)(ho:s.off=false:=by assumption):
    Fn Tryz.prog 103 #[.pointer (some ⟨X.w,0,none⟩)] A (λ r B=>∃b e T2 Y2,takeS X.n T=(b,e,T2)/\ r= .tuple #[vn b,.int .i64 e]/\ WkOk X Y2 T2 (s.ls.length*64)/\ B=C (WkA X Y2 s)):=by
  cases h:leastB T X.n with
  |none=>exact (Take13_no (hc:=hc) (hok:=hok) (hb:=hb) (hf:=h)).mono λ r B ⟨h1,h2⟩=>⟨0,7,T,Y,by unfold takeS;rw [h],h1,hok,h2⟩
  |some b=>exact (Take13_ok (hc:=hc) (hok:=hok) (hb:=hb) (hf:=h)).mono λ r B ⟨Y2,h1,h2,h3⟩=>⟨b,0,_,Y2,by unfold takeS;rw [h],h1,h2,h3⟩
theorem natI_snoc (zs:List Nat)(b:Nat):ints (natI zs)++[vn b]=ints (natI (zs++[b])):=by unfold ints natI;simp [i64]
theorem sbys_ex (s:ByteArray)(l h:Nat):sbys (s.extract l h)=((sbys s).take h).drop l:=by
  unfold sbys
  rw [show (s.extract l h).data=s.data.extract l h by simp]
  rw [Array.toList_extract,List.extract_eq_take_drop,List.map_take,List.map_drop,List.drop_take]
theorem sbys_lt {s:ByteArray}:∀x∈sbys s,x<256:=λ x hx=>by obtain ⟨b,_,rfl⟩:=List.mem_map.1 hx;exact b.toNat_lt
theorem refL_pos {L:List Nat}(h:0<L.length):refL L=L[0]+1:=by cases L with
  |nil=>cases h
  |cons a l=>rfl
theorem used_of {T:WkT}{b:Nat}(h:T.tk b=true):usedB T b=true:=by unfold usedB;rw [h];rfl
attribute [local irreducible] crk crL crc Sl pt ro Dev imgS recS readS recsF rdW rdO rkT Parts rvl recordsS runsL adrF kcl xcl kys runA runsF layF ovF TxA adZ WkA SlB blkS conB
theorem Zgt {p r:Prop}(k:r)(h:Kq r->p:=by intro k;refine tc_regq mo kqz ?_;refine ql_v rfl (o_move wqz) ?_;exact k.o):p:=h ⟨k⟩
theorem PutB_c {A R:SP}{C:SP->SP}{X:WkX}{Y:WkY}{T:WkT}{s:DevS}(hc:Ct A (WkA X Y s) R C:=by exact cbqz)(hok:WkOk X Y T (s.ls.length*64))(hb:WkB X s)(ho:s.off=false:=by assumption){str:ByteArray}(hsz:str.size<=9223372036854775807:=by omega):
    Fn Tryz.prog 96 #[.pointer (some ⟨X.w,0,none⟩),.string str] A (λ r B=>∃ref e T2 Y2,(putS X.ba X.n T (sbys str))=(ref,e,T2)/\ r= .tuple #[.int .u32 ((ref:Nat):Int),.int .i64 e]/\ WkOk X Y2 T2 (s.ls.length*64)/\ B=C (WkA X Y2 s)):=by
  refine fn_enterW func96 rfl ntmps96 (by simp) ?_;obtain ⟨hb1,hb2,hb3⟩:=id hb;obtain ⟨rfl,hC⟩:=hc;have hxl:=sbys_len str;have hn16:X.n<=16384:=(by omega);obtain ⟨K,hK⟩:∃K,nblk str.size=K:=⟨_,rfl⟩;have hKb:=nblk_le str.size;rw [hK] at hKb
  refine Zdh ?_;refine tl_c rfl (o_call bd178 rfl (readyB_c (X:=X) (Y:=Y) (T:=T) (s:=s) (hok:=hok) (hb:=hb))) ?_;refine Zd1 ?_;refine Zz ?_;intro h;refine Zc4 ?_;refine tv (o_lenS underlying9 rfl) ?_;refine Zd4 ?_;refine tc_cond rfl (λ h=> ?_) (λ h=> ?_)
  . have g22:65536<str.size:=(by first|omega|(simp at h;omega));refine Zfa ?_;have he9:(putS X.ba X.n T (sbys str))=(0,4,T):=(by unfold putS;rw [if_pos oqz]);exact ⟨.tuple #[.int .u32 ((0:Nat):Int),.int .i64 (4)],C (WkA X Y s),res2 rfl rfl rfl,(λ g w h=>by rw [hC];exact Dr.sat (A':=R*WkA X Y s) drqz g w h),0,4,_,Y,he9,rfl,by assumption,rfl⟩
  have g22:str.size<=65536:=(by first|omega|(simp at h;omega));have hK9:K<=265:=(by rw [←hK];unfold nblk;split<;>omega);refine Ze ?_;refine Zdd ?_;refine tv (o_lenS underlying9 rfl) ?_;refine tl_c rfl (o_call bd99 rfl (NeedB_c (n:=((str.size:Nat):Int)))) ?_;rintro _ _ ⟨rfl,rfl⟩;refine tl_env (d:=25) (v:=(vn K)) (by show Value.int .i64 ((nblk ((str.size:Int).toNat):Nat):Int)=_;rw [Int.toNat_natCast,hK]) ?_;refine Zb8 ?_;refine tc_pre (A':=R*WkA X Y s*Sl 1 (.slice none 0 0) 0 (ints (natI []))) (λ _ _ h=>sl_nil (Dr.sat drqz _ _ h)) ?_;refine tc_loop (λ kk ρ BB=>∃ (i:Nat) (a7:Option Addr) (c7:Nat) (Yi:WkY) (Ti:WkT) (zs:List Nat),(i<=K/\ zs.length=i/\ i<=c7)/\ (WkOk X Yi Ti (s.ls.length*64))/\ (takeL X.n K T=(zs++(takeL X.n (K-i) Ti).1,(takeL X.n (K-i) Ti).2))/\ kk=K-i/\ ρ 7= .slice a7 i c7/\ ρ 26=(vn i)/\ ρ 0= .pointer (some ⟨X.w,0,none⟩)/\ ρ 1= .string str/\ ρ 25=(vn K)/\ Dr BB (R*WkA X Yi s*Sl 1 (.slice a7 i c7) i (ints (natI zs)))) (m:=K-(0)) ?_ ?_
  . exact ⟨0,none,0,Y,T,[],⟨by omega,rfl,by omega⟩,hok,by rw [Nat.sub_zero];rfl,rfl,rfl,rfl,rfl,rfl,rfl,drqz⟩
  intro k ρ B hI;obtain ⟨i,a7,c7,Yi,Ti,zs,hp0,hp1,hp2,hkk1,hE7,hE26,hE0,hE1,hE25,hBA⟩:=hI;refine tc_pre hBA.sat ?_;clear hBA;refine te 7 hE7 ?_;refine te 26 hE26 ?_;refine te 0 hE0 ?_;refine te 1 hE1 ?_;refine te 25 hE25 ?_;refine Zcg ?_;refine tc_cond rfl (λ h=> ?_) (λ h=> ?_)
  . obtain ⟨hp0,hzl,hpc⟩:=hp0;have hi:i<K:=(by first|omega|(simp at h;omega));refine Ze9 ?_;refine tl_c rfl (o_call bd103 rfl (Take13_c (X:=X) (Y:=Yi) (T:=Ti) (s:=s) (hok:=hp1) (hb:=hb))) ?_;rintro _ _ ⟨b30,e30,T30,Y30,ht30,rfl,hok30,rfl⟩;refine Zc3 ?_;refine Zbv ?_;refine tc_cond rfl (λ h=> ?_) (λ h=> ?_)
    . obtain ⟨hl30,rfl,rfl⟩:=takeS_no ht30 (by first|exact of_decide_eq_true h|(simpa using h));have hno:=takeL_none (n:=X.n) (k:=K-i) hl30 oqz;rw [hno,List.append_nil] at hp2
      refine Zb ?_;refine Zct ?_;have he9:=putS_no (ba:=X.ba) (s:=sbys str) oqz (by rw [hxl,hK];exact hp2);exact ⟨.tuple #[.int .u32 ((0:Nat):Int),.int .i64 (7)],C (WkA X Y30 s),res2 rfl rfl rfl,(λ g w h=>by rw [hC];exact Dr.sat (A':=R*WkA X Y30 s) drqz g w h),0,7,_,Y30,he9,rfl,by assumption,rfl⟩
    obtain ⟨hl30,rfl⟩:=takeS_ok ht30 (by first|exact of_decide_eq_false h|(simpa using h)|omega);have hst:=takeL_some (n:=X.n) (k:=K-i) hl30 oqz;rw [Nat.sub_sub,Prod.ext_iff] at hst
    refine Ze ?_;refine Zb5 ?_;refine tl_x rfl (o_buildSlice1 underlying34 sz3 z3 wqz rfl) ?_;rintro _ _ ⟨b38,rfl,rfl⟩;refine tl_x rfl (o_apB underlying34 underlying34 sz3 by3 z3 rfl (by decide) (by decide) rfl rfl rfl ctqz rfl (by first|exact bys_all _|exact ints_all _|exact wds_all _|exact bos_all _|rfl) sq2z (natI_snoc zs b30)) ?_;rintro _ _ ⟨a39,c39,rfl,hc39,rfl⟩;refine Zep ?_;exact ⟨_,by omega,i+1,_,_,_,_,zs++[b30],⟨by omega,by rw [List.length_append,List.length_singleton];omega,hc39⟩,hok30,by rw [hp2,hst.1,hst.2,List.append_assoc];rfl,rfl,rfl,rfl,rfl,rfl,rfl,drqz⟩
  obtain ⟨hp0,hzl,hpc⟩:=hp0;obtain rfl:i=K:=by first|omega|(simp at h;omega)
  rw [Nat.sub_self,takeL_zero,List.append_nil] at hp2
  replace hp2:takeL X.n i T=(zs,Ti,true):=hp2
  have hspec:=takeL_spec X.n i T;rw [hp2] at hspec
  obtain ⟨q1,q2,q3,_,_⟩:=hspec;have hput:=putS_ok (ba:=X.ba) (s:=sbys str) oqz (by rw [hxl,hK];exact hp2);have hzt:∀b∈zs,b<X.n/\ Ti.tk b=true:=λ b hb=>⟨(q2 b hb).1,(show Ti.tk b=(T.tk b||decide (b∈zs)) from congrArg (λ t:WkT=>t.tk b) q3).trans (by simp [hb])⟩
  refine Zk ?_;refine Zl ?_;refine Zfl ?_;refine tc_loop (λ kk ρ BB=>∃ (j:Nat) (Yj:WkY) (Tj:WkT) (sj:ByteArray),(j<=i)/\ (WkOk X Yj Tj (s.ls.length*64))/\ (wrL X.ba (zs.drop j) Tj (sbys sj)=wrL X.ba zs Ti (sbys str))/\ (Tj.tk=Ti.tk)/\ (j<i->248*(i-j-1)<sj.size/\ sj.size<=248*(i-j))/\ kk=i-j/\ ρ 1= .string sj/\ ρ 43=(vn j)/\ ρ 0= .pointer (some ⟨X.w,0,none⟩)/\ ρ 7= .slice a7 i c7/\ ρ 41= .slice a7 i c7/\ ρ 42=(vn i)/\ Dr BB (R*WkA X Yj s*Sl 1 (.slice a7 i c7) i (ints (natI zs)))) (m:=i-(0)) ?_ ?_
  . exact ⟨0,Yi,Ti,str,by omega,hp1,rfl,rfl,λ h9=>by have:=hKb.2 (by rcases Nat.eq_zero_or_pos str.size with h8|h8;rw [h8] at hK;exact absurd hK (by unfold nblk;rw [if_pos (by decide)];omega);exact h8);omega,rfl,rfl,rfl,rfl,rfl,rfl,rfl,drqz⟩
  intro k ρ B hI;obtain ⟨j,Yj,Tj,sj,hq0,hq1,hq2,hq3,hq4,hkk2,hE1,hE43,hE0,hE7,hE41,hE42,hBA⟩:=hI;refine tc_pre hBA.sat ?_;clear hBA;refine te 1 hE1 ?_;refine te 43 hE43 ?_;refine te 0 hE0 ?_;refine te 7 hE7 ?_;refine te 41 hE41 ?_;refine te 42 hE42 ?_;refine Zcg ?_;refine tc_cond rfl (λ h=> ?_) (λ h=> ?_)
  . have hj:j<zs.length:=(by first|omega|(simp at h;omega));obtain ⟨x,hx⟩:∃x,zs[j]=x:=⟨_,rfl⟩;obtain ⟨hxn,hxt⟩:=hzt x (hx▸List.getElem_mem hj);obtain ⟨hs1,hs2⟩:=hq4 oqz;have hjl:=sbys_len sj;refine Ze9 ?_;refine tv (o_ixP1 (a:=a7) underlying34 sz3 rfl rfl oqz (nn_rs (xs:=ints (natI zs)) sq0z (by rw [ints_length,natI_len];omega))) ?_;refine tv (o_ldP (a:=a7) (xs:=ints (natI zs)) p3 rfl sq0z (natI_at hj)) ?_;refine tl_env (d:=47) (v:=(vn x)) (by show Value.int .i64 ((zs[j]:Nat):Int)=_;rw [hx]) ?_;refine Zcs ?_;refine Zbo ?_;refine tv adqz ?_;refine tlm ?_;refine tv (o_len underlying34 rfl) ?_;refine Zu ?_;refine tc_cut (λ ρ BB=>∃ (d:ByteArray) (nx:Nat) (s2:ByteArray),(wrL X.ba (zs.drop (j+1)) (Tj.write X.ba x (blkS nx (sbys d))) (sbys s2)=wrL X.ba zs Ti (sbys str))/\ (d.size<=248)/\ (nx<4294967296)/\ (j+1<i->248*(i-(j+1)-1)<s2.size/\ s2.size<=248*(i-(j+1)))/\ ρ 12= .string d/\ ρ 13= .int .u32 ((nx:Nat):Int)/\ ρ 1= .string s2/\ ρ 0= .pointer (some ⟨X.w,0,none⟩)/\ ρ 7= .slice a7 i c7/\ ρ 11=(vn x)/\ ρ 41= .slice a7 i c7/\ ρ 42=(vn i)/\ ρ 43=(vn j)/\ BB=R*WkA X Yj s*Sl 1 (.slice a7 i c7) i (ints (natI zs))) ?_ ?_
    . skip
      refine tc_cond rfl (λ h=> ?_) (λ h=> ?_)
      . have hj1:j+1<zs.length:=(by first|omega|(simp at h;omega));obtain ⟨y,hy⟩:∃y,zs[j+1]=y:=⟨_,rfl⟩;obtain ⟨hyn,_⟩:=hzt y (hy▸List.getElem_mem hj1);have hr0:wrL X.ba (zs.drop (j+1)) (Tj.write X.ba x (blkS (y+1) (sbys (sj.extract 0 248)))) (sbys (sj.extract 248 sj.size))=wrL X.ba zs Ti (sbys str):=(by rw [←hq2,wrL_step hj1,hx,hy,sbys_ex,sbys_ex,List.drop_zero,List.take_of_length_le (l:=sbys sj) (i:=sj.size) oqz]);have hr1:(sj.extract 0 248).size<=248:=(by rw [ByteArray.size_extract];omega);have hr2:y+1<4294967296:=(by omega);have hr3:j+1<i->248*(i-(j+1)-1)<(sj.extract 248 sj.size).size/\ (sj.extract 248 sj.size).size<=248*(i-(j+1)):=λ _=>by rw [ByteArray.size_extract];omega
        refine tc_seq ?_;refine Zgt ?_;refine ql_v rfl (o_sliceS (l:=0) (h:=248) underlying9 rfl bnd_none (bnd_nat rfl) oqz oqz) ?_;refine ql_v rfl (o_move wqz) ?_;refine ql_v rfl (o_sliceS (l:=248) (h:=sj.size) underlying9 rfl (bnd_nat rfl) bnd_none oqz oqz) ?_;refine ql_v rfl (o_assign wqz) ?_;refine Zej ?_;refine Zb5 ?_;refine tv adqz ?_;refine tl_env (d:=60) (v:=(vn (j+1))) (rfl) ?_;refine tv (o_ixP1 (a:=a7) (j:=j+1) underlying34 sz3 rfl rfl oqz (nn_rs (xs:=ints (natI zs)) sq0z (by rw [ints_length,natI_len];omega))) ?_;refine tv (o_ldP (a:=a7) (xs:=ints (natI zs)) p3 rfl sq0z (natI_at hj1)) ?_;refine tl_env (d:=62) (v:=(vn y)) (by show Value.int .i64 ((zs[j+1]:Nat):Int)=_;rw [hy]) ?_;refine tv (o_conv32 underlying3 underlying53 rfl) ?_;refine tl_env (d:=63) (v:= .int .u32 ((y:Nat):Int)) (congrArg (λ z:Nat=>Value.int .u32 (z:Int)) (Nat.mod_eq_of_lt oqz)) ?_;refine tv (o_addN rfl rfl rfl (by show y+1<4294967296;omega)) ?_;refine Zbn ?_;exact ⟨sj.extract 0 248,y+1,sj.extract 248 sj.size,hr0,hr1,hr2,hr3,rfl,rfl,rfl,rfl,rfl,rfl,rfl,rfl,rfl,rfl⟩
      have hj1:¬j+1<zs.length:=(by first|omega|(simp at h;omega));have hr0:wrL X.ba (zs.drop (j+1)) (Tj.write X.ba x (blkS 0 (sbys sj))) (sbys sj)=wrL X.ba zs Ti (sbys str):=(by rw [←hq2,wrL_last hj hj1 (sbys sj),hx]);have hr1:sj.size<=248:=(by omega);have hr2:0<4294967296:=(by omega);have hr3:j+1<i->248*(i-(j+1)-1)<sj.size/\ sj.size<=248*(i-(j+1)):=λ _=>by omega
      refine tc_skip ?_;exact ⟨sj,0,sj,hr0,hr1,hr2,hr3,rfl,rfl,rfl,rfl,rfl,rfl,rfl,rfl,rfl,rfl⟩
    intro ρ B hI;obtain ⟨d,nx,s2,hr0,hr1,hr2,hr3,hE12,hE13,hE1,hE0,hE7,hE11,hE41,hE42,hE43,rfl⟩:=hI;refine q_then_n ?_;refine te 12 hE12 ?_;refine te 13 hE13 ?_;refine te 1 hE1 ?_;refine te 0 hE0 ?_;refine te 7 hE7 ?_;refine te 11 hE11 ?_;refine te 41 hE41 ?_;refine te 42 hE42 ?_;refine te 43 hE43 ?_;refine Zb ?_;refine Zfb ?_;refine tl_c rfl (o_call bd179 rfl (blockB_c (nx:=nx) (s:=d))) ?_;rintro _ _ ⟨a69,c69,rfl,hc69,rfl⟩;refine tl_c rfl (o_call bd107 rfl (Write13_ok (X:=X) (Y:=Yj) (T:=Tj) (s:=s) (b:=x) (xs:=blkS nx (sbys d)) (hok:=hq1) (hb:=hb) (hu:=used_of (by rw [hq3];exact hxt)) (hr:=rs_sl) (hxl:=blkS_len (by rw [sbys_len];omega)) (hxb:=blkS_bytes sbys_lt))) ?_;rintro _ _ ⟨Y70,rfl,hok70,rfl⟩;refine Zha ?_;intro h;refine Zgh ?_;exact ⟨_,by omega,j+1,Y70,_,s2,by omega,hok70,hr0,hq3,hr3,rfl,rfl,rfl,rfl,rfl,rfl,rfl,drqz⟩
  obtain rfl:i=j:=by first|omega|(simp at h;omega)
  rw [wrL_done oqz] at hq2
  refine Zk ?_;refine Zl ?_;refine tv (o_len underlying34 rfl) ?_;refine Zcr ?_;refine tc_cond rfl (λ h=> ?_) (λ h=> ?_)
  . have h0:zs=[]:=List.eq_nil_of_length_eq_zero (by first|omega|(simp at h;omega));refine Zfa ?_;rw [h0] at hput
    have he9:(putS X.ba X.n T (sbys str))=(0,0,wrL X.ba [] Ti (sbys str)):=hput;rw [h0] at hq2
    rw [←hq2] at he9
    exact ⟨.tuple #[.int .u32 ((0:Nat):Int),.int .i64 (0)],C (WkA X Yj s),res2 rfl rfl rfl,(λ g w h=>by rw [hC];exact Dr.sat (A':=R*WkA X Yj s) drqz g w h),0,0,_,Yj,he9,rfl,by assumption,rfl⟩
  have h0:0<zs.length:=(by first|omega|(simp at h;omega));obtain ⟨z0,hz0⟩:∃z0,zs[0]=z0:=⟨_,rfl⟩;obtain ⟨hzn,_⟩:=hzt z0 (hz0▸List.getElem_mem h0);have hrl:refL zs=z0+1:=(by rw [←hz0];exact refL_pos h0);refine Zb9 ?_;refine tv (o_ixP1 (a:=a7) (j:=0) underlying34 sz3 rfl rfl oqz (nn_rs (xs:=ints (natI zs)) sq0z (by rw [ints_length,natI_len];omega))) ?_;refine tv (o_ldP (a:=a7) (xs:=ints (natI zs)) p3 rfl sq0z (natI_at h0)) ?_;refine tl_env (d:=80) (v:=(vn z0)) (by show Value.int .i64 ((zs[0]:Nat):Int)=_;rw [hz0]) ?_;refine tv (o_conv32 underlying3 underlying53 rfl) ?_;refine tl_env (d:=81) (v:= .int .u32 ((z0:Nat):Int)) (congrArg (λ z:Nat=>Value.int .u32 (z:Int)) (Nat.mod_eq_of_lt oqz)) ?_;refine tv (o_addN rfl rfl rfl (by show z0+1<4294967296;omega)) ?_;refine Zy ?_;rw [hrl,←hq2] at hput
  have he9:=hput;exact ⟨.tuple #[.int .u32 ((z0+1:Nat):Int),.int .i64 (0)],C (WkA X Yj s),res2 rfl rfl rfl,(λ g w h=>by rw [hC];exact Dr.sat (A':=R*WkA X Yj s) drqz g w h),z0+1,0,_,Yj,he9,rfl,by assumption,rfl⟩
end Go.Vl

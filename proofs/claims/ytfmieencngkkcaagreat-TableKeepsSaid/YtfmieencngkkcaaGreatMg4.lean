/- What the row rests on, part 4: a calculus of assertions, walks of functions over it, and plain laws. Conditions: none. -/
import Derived.Deep.QuietTactic
import Derived.BigQuiet
import Derived.WalkKit
import Derived.Test.YtfmieencngkkcaaGreatProg
import Derived.OrdersHeld
import Derived.Shelf.SortM.SortNone
import Derived.Shelf.SortM.Plain
import Derived.Ground.SlgmProg
import Derived.Shelf.SlIterI.Nil
import Derived.Ground.GgzProg
import Derived.Maps.RangeRun
import Derived.Laws.BytesArg
import Derived.RangeFuncRecord
import Derived.TacticsIn
import Derived.Deep.Slices
import Derived.OpenShut
import Derived.ChangeArms
import Derived.SizedLaws
import Derived.ChangeSame
import Derived.Test.YtfmieencngkkcaaGreatRows
import Derived.Sort.QuietThIn
import Derived.ScopeJumps
import Derived.LaidEqlPtr
import Derived.MapKept
import Derived.Laws.Externs
import Derived.Lib.Builder
import Derived.Lib.UnsafeStr
import Derived.Laws.Strings
import Derived.Test.YtfmieencngkkcaaGreatMg3
set_option linter.unusedVariables false
set_option linter.unusedSimpArgs false
set_option maxRecDepth 100000
set_option maxHeartbeats 4000000
namespace Go.Vl
open Go Go.Proofs Go.Proofs.Tryz
theorem recsF_big {n at_ sz:Nat}{room:List Nat}:∀{k p:Nat},p<=room.length->room.length<p+k->recsF n at_ sz room k p=([],110)
  |0,p,h1,h2=>by omega
  |k+1,p,h1,h2=>by
    have e:recsF n at_ sz room (k+1) p=match readS n at_ sz room p with
      |none=>([],110)
      |some (x,t)=>if (recsF n at_ sz room k (p+t)).2≠0 then ([],110) else (x::(recsF n at_ sz room k (p+t)).1,0):=rfl
    rw [e]
    cases hr:readS n at_ sz room p with
    |none=>rfl
    |some y=>
      have h3:=read_room (x:=y.1) (t:=y.2) hr;have h4:recsF n at_ sz room k (p+y.2)=([],110):=recsF_big oqz oqz
      simp only []
      rw [h4,if_pos (by decide)]
attribute [local irreducible] crk crL crc Sl pt ro Dev RDev imgS recS readS recsF rdW rdO rkT Parts rvl recordsS
theorem rRecords_c {A R:SP}{C:SP->SP}{r:Nat}{s:DevS}(hc:Ct A (RDev r s) R C:=by exact cbqz){bk at_ sz:Nat}(hl:Has R bk (cl (lcs11 r at_ sz) 267):=by exact hbqz)(hlw:LogW (s.ls.length*64) at_ sz:=by assumption):
    Fn Tryz.prog 322 #[pz bk] A (λ r_ B=>∃a2 c2 vs,r_= .tuple #[.slice a2 (recordsS at_ sz s).1.length c2,.int .i64 (recordsS at_ sz s).2]/\ (recordsS at_ sz s).1.length<=c2/\ vs.length=(recordsS at_ sz s).1.length/\ B=C (RDev r s)*Parts vs ((recordsS at_ sz s).1.map (·.2))*Sl 2 (.slice a2 (recordsS at_ sz s).1.length c2) (recordsS at_ sz s).1.length (kcl (recordsS at_ sz s).1 vs)):=by
  refine fn_enterW func322 rfl ntmps322 (by simp) ?_;refine tc_have (λ _ _ h=>wfR_ct hc h) λ hw=> ?_
  have htop:=hw.top;have hpos:=hw.pos;obtain ⟨rfl,hC⟩:=hc;have hAC:∀g w,sat g w (R*RDev r s)->sat g w (C (RDev r s)):=λ g w h=>by rw [hC];exact h
  have hlw9:=hlw;obtain ⟨w1,w2,w3,w4,w5⟩:=hlw9;refine Zdi ?_;refine tv (o_nilCheck rfl) ?_;refine Zc4 ?_;refine Zfv ?_;refine tv (o_loadC (b:=r) p4 rfl (by repeat (first|exact cellR5|apply Cell.left))) ?_;refine nq ?_;refine tc_cond rfl (sbq ?_) (λ h=> ?_)
  . intro h;refine Zhf ?_;have e0:recordsS at_ sz s=([],5):=(by unfold recordsS;rw [if_pos h]);rw [e0]
    exact ⟨.tuple #[.slice none 0 0,.int .i64 (5)],C (RDev r s)*Parts [] []*Sl 2 (.slice none 0 0) 0 [],res2 rfl rfl rfl,λ _ _ h=>sl_nil (show sat _ _ (C (RDev r s)*Parts [] []) by rw [hC,show Parts [] []=emp by unfold Parts;rfl,star_emp];exact Dr.sat (A':=R*RDev r s) drqz _ _ h),none,0,[],rfl,Nat.le_refl _,rfl,rfl⟩
  have ho:s.off=false:=(by simpa using h);have hw2:=word_in (p:=at_) ho oqz oqz;obtain ⟨v,hv⟩:∃v,(wordP (at_:Nat) s).1=v:=⟨_,rfl⟩;have hvl:v<18446744073709551616:=(by rw [←hv,hw2];exact nm8_lt λ x hx=>img_lt x (List.mem_of_mem_drop hx));have hv2:nm (((imgS s).drop at_).take 8)=v:=(by rw [←hv,hw2]);obtain ⟨room,hroom⟩:∃room,roomS at_ sz s=room:=⟨_,rfl⟩;have hil:=imgS_len hw;have hrl:room.length=sz-64:=(by rw [←hroom];unfold roomS;rw [List.length_take,List.length_drop,hil];omega);have hrec:recordsS at_ sz s=recsF (s.ls.length*64) at_ sz room v 0:=(by unfold recordsS;rw [if_neg (by rw [ho];decide),hv,hroom]);refine Zb2 ?_;refine Zba ?_;refine tv (o_fieldAddr (o:=1) underlying267 rfl rfl sz3 rfl) ?_;refine tv (o_load p3 rfl haqz rfl) ?_;refine tl_c rfl (o_call bd315 rfl (rnum_c (s:=s) (q:=at_))) ?_;rintro _ _ ⟨rfl,rfl⟩;refine tl_env (d:=23) (v:= .int .u64 (v:Nat)) (by show Value.int .u64 ((nm (((imgS s).drop at_).take 8):Nat):Int)=_;rw [hv2]) ?_;refine Zy ?_;refine Zba ?_;refine tv (o_fieldAddr (o:=2) underlying267 rfl rfl sz3 rfl) ?_;refine tv (o_load p3 rfl haqz rfl) ?_;refine tv (by first|exact o_conv64 underlying3 underlying141 rfl|exact o_conv underlying3 underlying141 rfl) ?_;refine tl_env (d:=29) (v:= .int .u64 ((sz:Nat):Int)) (congrArg (λ z:Nat=>Value.int .u64 (z:Int)) (Nat.mod_eq_of_lt oqz)) ?_;refine Zd8 ?_;refine tc_cond rfl (λ h=> ?_) (λ h=> ?_)
  . have hbig:sz<v:=(by first|omega|(simp at h;omega));refine Zhf ?_;have e0:recordsS at_ sz s=([],110):=(by rw [hrec];exact recsF_big oqz oqz);rw [e0]
    exact ⟨.tuple #[.slice none 0 0,.int .i64 (110)],C (RDev r s)*Parts [] []*Sl 2 (.slice none 0 0) 0 [],res2 rfl rfl rfl,λ _ _ h=>sl_nil (show sat _ _ (C (RDev r s)*Parts [] []) by rw [hC,show Parts [] []=emp by unfold Parts;rfl,star_emp];exact Dr.sat (A':=R*RDev r s) drqz _ _ h),none,0,[],rfl,Nat.le_refl _,rfl,rfl⟩
  have hbig:¬sz<v:=(by first|omega|(simp at h;omega));refine Ze ?_;refine Zhh ?_;refine tv (o_fieldAddr (o:=1) underlying267 rfl rfl sz3 rfl) ?_;refine tv (o_load p3 rfl haqz rfl) ?_;refine tv adqz ?_;refine tl_env (d:=35) (v:=(vn (at_+64+0))) (by first|rfl|(show Value.int .i64 _=_;congr 1;omega)) ?_;refine Zci ?_;refine Zd7 ?_;refine tc_pre (A':=R*RDev r s*Parts [] []*Sl 2 (.slice none 0 0) 0 []) (λ _ _ h=>sl_nil (show sat _ _ (R*RDev r s*Parts [] []) by rw [show Parts [] []=emp by unfold Parts;rfl,star_emp];exact h)) ?_;refine tc_loop (λ kk ρ BB=>∃ (i:Nat) (p:Nat) (D:List (Nat×List Nat)) (vs:List Value) (a5:Option Addr) (c5:Nat),(cat D (recsF (s.ls.length*64) at_ sz room (v-i) p)=recordsS at_ sz s)/\ (p<=sz-64)/\ (D.length=i)/\ (vs.length=i)/\ (i<=c5)/\ (i<=v)/\ (24*i<=p)/\ kk=v-i/\ ρ 5= .slice a5 i c5/\ ρ 6=(vn (at_+64+p))/\ ρ 7=(vn i)/\ ρ 0=(pz bk)/\ ρ 4= .int .u64 (v:Nat)/\ Dr BB (R*RDev r s*Parts vs (D.map (·.2))*Sl 2 (.slice a5 i c5) i (kcl D vs))) (m:=v-(0)) ?_ ?_
  . exact ⟨0,0,[],[],none,0,by rw [hrec,cat_nil,Nat.sub_zero],by omega,rfl,rfl,by omega,by omega,by omega,rfl,rfl,rfl,rfl,rfl,rfl,drqz⟩
  intro k ρ B hI;obtain ⟨i,p,D,vs,a5,c5,hp0,hp1,hp2,hp3,hp4,hp5,hp6,hkk1,hE5,hE6,hE7,hE0,hE4,hBA⟩:=hI;refine tc_pre hBA.sat ?_;clear hBA;refine te 5 hE5 ?_;refine te 6 hE6 ?_;refine te 7 hE7 ?_;refine te 0 hE0 ?_;refine te 4 hE4 ?_;refine Zm ?_;refine Zg8 ?_;refine tl_env (d:=38) (v:=(vn v)) (by show Value.int .i64 (IntKind.i64.wrap _)=_;rw [wr_i64 oqz]) ?_;refine Zx ?_;refine tc_cond rfl (λ h=> ?_) (λ h=> ?_)
  . have hj:i<v:=(by first|omega|(simp at h;omega));refine Zen ?_;refine tlm ?_;refine tl_c rfl (o_call bd344 rfl (rread_c (s:=s) (q:=at_+64+p) (p:=p) (room:=room))) ?_;rintro _ _ ⟨a45,c45,rfl,hc45,rfl⟩;refine Zbn ?_;refine tv (o_extract rfl rfl) ?_;refine tl_x rfl (o_alloc z336 rfl) ?_;rintro _ _ ⟨b8,rfl,rfl⟩;refine tl_u rfl (o_stUN (l':=[.int .i64 ((rdW (readS (s.ls.length*64) at_ sz room p):Nat):Int),(.slice a45 (rdO (readS (s.ls.length*64) at_ sz room p)).length c45)]) rfl upqz sz336 rfl rfl rfl (by show 2<=2;decide) rfl) ?_;refine tla ?_;refine Zic ?_;refine nq ?_;refine tc_cond rfl (λ h=> ?_) (λ h=> ?_)
    . have hrd:(readS (s.ls.length*64) at_ sz room p)=none:=(by rcases hq9:(readS (s.ls.length*64) at_ sz room p) with _|x;rfl;rw [hq9] at h;simp at h);refine sr ?_;refine Zc6 ?_;have e0:recordsS at_ sz s=([],110):=(by rw [←hp0,recs_none hrd oqz]);rw [e0]
      exact ⟨.tuple #[.slice none 0 0,.int .i64 (110)],C (RDev r s)*Parts [] []*Sl 2 (.slice none 0 0) 0 [],res2 rfl rfl rfl,λ _ _ h=>sl_nil (show sat _ _ (C (RDev r s)*Parts [] []) by rw [hC,show Parts [] []=emp by unfold Parts;rfl,star_emp];exact Dr.sat (A':=R*RDev r s) drqz _ _ h),none,0,[],rfl,Nat.le_refl _,rfl,rfl⟩
    have hrd:=rd_some (o:=(readS (s.ls.length*64) at_ sz room p)) (by simpa using h);have hrm:=read_room hrd;refine Zb2 ?_;refine tv (o_loadN (vs:=[.int .i64 ((rdW (readS (s.ls.length*64) at_ sz room p):Nat):Int),(.slice a45 (rdO (readS (s.ls.length*64) at_ sz room p)).length c45)]) a336 sz336 rfl hsqz (by show 2<=2;decide) rfl) ?_;refine tl_x rfl (o_buildSliceK (k:=2) (l:=[.int .i64 ((rdW (readS (s.ls.length*64) at_ sz room p):Nat):Int),(.slice a45 (rdO (readS (s.ls.length*64) at_ sz room p)).length c45)]) underlying259 sz336 z336 rfl rfl (by decide)) ?_;rintro _ _ ⟨b53,rfl,rfl⟩;refine tl_x rfl (o_apB underlying259 underlying259 sz336 by336 z336 rfl (by decide) (by decide) rfl rfl rfl ctqz rfl rfl oqz (show _=kcl (D++[(rdW (readS (s.ls.length*64) at_ sz room p),rdO (readS (s.ls.length*64) at_ sz room p))]) (vs++[(.slice a45 (rdO (readS (s.ls.length*64) at_ sz room p)).length c45)]) by rw [kcl_snoc oqz])) ?_;rintro _ _ ⟨a54,c54,rfl,hc54,rfl⟩;have hps:Parts (vs++[(.slice a45 (rdO (readS (s.ls.length*64) at_ sz room p)).length c45)]) ((D++[(rdW (readS (s.ls.length*64) at_ sz room p),rdO (readS (s.ls.length*64) at_ sz room p))]).map (·.2))=Parts vs (D.map (·.2))*Sl 1 (.slice a45 (rdO (readS (s.ls.length*64) at_ sz room p)).length c45) (rdO (readS (s.ls.length*64) at_ sz room p)).length (bys (rdO (readS (s.ls.length*64) at_ sz room p))):=(by rw [List.map_append];exact parts_snoc (by rw [List.length_map];omega));refine tl_eq (show _=R*RDev r s*Parts (vs++[(.slice a45 (rdO (readS (s.ls.length*64) at_ sz room p)).length c45)]) ((D++[(rdW (readS (s.ls.length*64) at_ sz room p),rdO (readS (s.ls.length*64) at_ sz room p))]).map (·.2))*Sl 2 (.slice a54 (i+1) c54) (i+1) (kcl (D++[(rdW (readS (s.ls.length*64) at_ sz room p),rdO (readS (s.ls.length*64) at_ sz room p))]) (vs++[(.slice a45 (rdO (readS (s.ls.length*64) at_ sz room p)).length c45)]))*pt b8 (cl ([.int .i64 ((rdW (readS (s.ls.length*64) at_ sz room p):Nat):Int),(.slice a45 (rdO (readS (s.ls.length*64) at_ sz room p)).length c45)]:List Value) 336) by rw [hps];ac_rfl) ?_;refine Zfx ?_;refine tv adqz ?_;refine tl_env (d:=57) (v:= .int .i64 ((at_+64+(p+rkT (readS (s.ls.length*64) at_ sz room p)):Nat):Int)) (by first|rfl|(show Value.int .i64 _=_;congr 1;omega)) ?_;refine Zc3 ?_;refine Zfy ?_;exact ⟨_,by omega,i+1,_,D++[(rdW (readS (s.ls.length*64) at_ sz room p),rdO (readS (s.ls.length*64) at_ sz room p))],vs++[(.slice a45 (rdO (readS (s.ls.length*64) at_ sz room p)).length c45)],a54,c54,by rw [show v-(i+1)=v-i-1 by omega,←recs_some hrd oqz];exact hp0,by omega,by rw [List.length_append,hp2];rfl,by rw [List.length_append,hp3];rfl,hc54,by omega,by omega,rfl,rfl,rfl,rfl,rfl,rfl,drqz⟩
  obtain rfl:i=v:=by first|omega|(simp at h;omega)
  refine Zhb ?_;have e0:recordsS at_ sz s=(D,0):=(by rw [←hp0,Nat.sub_self];unfold recsF cat;rw [if_neg (by simp),List.append_nil]);rw [e0]
  exact ⟨.tuple #[.slice a5 i c5,.int .i64 0],R*RDev r s*Parts vs (D.map (·.2))*Sl 2 (.slice a5 i c5) i (kcl D vs),res2 rfl rfl rfl,Dr.sat drqz,a5,c5,vs,by rw [hp2],by rw [hp2];exact hp4,by rw [hp3];exact hp2.symm,by rw [hC];simp only [];rw [hp2]⟩
end Go.Vl

namespace Go.Vl
open Go Go.Proofs Go.Proofs.Tryz
def sizedL (n:Nat)(xs:List Nat):List Nat:=xs.take n++List.replicate (n-xs.length) 0
theorem sizedL_len (n:Nat)(xs:List Nat):(sizedL n xs).length=n:=by unfold sizedL;rw [List.length_append,List.length_take,List.length_replicate];omega
theorem sizedL_lt {n:Nat}{xs:List Nat}(h:∀x∈xs,x<256):∀x∈sizedL n xs,x<256:=λ x hx=>by
  unfold sizedL at hx
  rcases List.mem_append.1 hx with h1|h1
  . exact h x (List.mem_of_mem_take h1)
  have:=List.eq_of_mem_replicate h1;omega
theorem fil_set' {L:List Nat}{n i:Nat}(h:i<L.length)(hn:i<n):(L.take i++List.replicate (n-i) 0).set i L[i]=L.take (i+1)++List.replicate (n-(i+1)) 0:=by
  have e:n-i=(n-(i+1))+1:=(by omega);have hl:(L.take i).length=i:=(by rw [List.length_take];omega);rw [List.set_append_right _ _ oqz,hl,Nat.sub_self,e,List.replicate_succ,List.set_cons_zero,List.take_succ_eq_append_getElem h,List.append_assoc];rfl
attribute [local irreducible] Sl pt ro Dev imgS fromS
theorem Sized_c {A:SP}{a:Option Addr}{c m n:Nat}{xs:List Nat}(hr:Rs A a (bys xs):=by exact rbqz)(hm:xs.length=m:=by first|assumption|rfl)(hb:∀x∈xs,x<256:=by assumption)(hn:n<=17592186044416:=by omega)(hl:m<=140737488351232:=by omega):
    Fn Tryz.prog 29 #[.slice a m c,vn n] A (λ r B=>∃a c,r= .slice a n c/\ n<=c/\ B=A*Sl 1 (.slice a n c) n (bys (sizedL n xs))):=by
  refine fn_enterW func29 rfl ntmps29 (by simp) ?_;refine Zdg ?_;refine tl_x rfl (o_makeSlice (len:=n) (cap:=n) underlying67 sz5 by5 z5 rfl rfl rfl oqz oqz oqz) ?_;rintro _ _ ⟨b8,rfl,rfl⟩;refine tl_pre (λ _ _ h=>sl_new (k:=1) (n:=n) (cap:=n) (xs:=bys (List.replicate n 0)) h oqz (by simp) (by rw [Nat.mul_one,List.take_of_length_le (by simp)];unfold bys;rw [List.map_replicate];rfl)) ?_;refine Zci ?_;refine Zd7 ?_;refine tc_loop (λ kk ρ BB=>∃ (i:Nat),(i<=n)/\ (i<=m)/\ kk=n-i/\ ρ 6=(vn i)/\ ρ 0= .slice a m c/\ ρ 1=(vn n)/\ ρ 5= .slice (some ⟨b8,0,none⟩) n n/\ BB=A*Sl 1 (.slice (some ⟨b8,0,none⟩) n n) n (bys (xs.take i++List.replicate (n-i) 0))) (m:=n-(0)) ?_ ?_
  . exact ⟨0,by omega,by omega,rfl,rfl,rfl,rfl,rfl,rfl⟩
  intro k ρ B hI;obtain ⟨i,hp0,hp1,hkk1,hE6,hE0,hE1,hE5,rfl⟩:=hI;refine te 6 hE6 ?_;refine te 0 hE0 ?_;refine te 1 hE1 ?_;refine te 5 hE5 ?_;refine Zm ?_;refine tlm ?_;refine Zcn ?_;refine tl_bool (d:=12) rfl (λ h=> ?_) (sbq ?_)
  . have hin:i<n:=(by simpa using h);refine Zgz ?_;refine tv (o_lss rfl rfl) ?_;refine tv (o_pick_t rfl wqz) ?_;refine nq ?_;refine tc_cond rfl (λ h=> ?_) (sbq ?_)
    . have hi:i<xs.length:=(by simp at h;omega);have hx8:=hb _ (List.getElem_mem hi);refine Zbe ?_;refine Zb0 ?_;refine Zt ?_;refine Zfi ?_;refine tv (o_ixP1 underlying67 sz5 rfl rfl sq2z sq1z) ?_;refine tl_u rfl (o_stP sz5 rfl rfl rfl ctqz oqz (by first|exact bys_set _ _ _|exact ints_set _ _ _|exact wds_set' _ _ _|exact bos_set _ _ _|rfl)) ?_;refine Zc9 ?_;refine Zfy ?_;exact ⟨_,by omega,i+1,by omega,by omega,rfl,rfl,rfl,rfl,rfl,(by rw [←fil_set' hi oqz])⟩
    intro h;refine Zk ?_;refine tc_seq ?_
    have hfin:xs.take i++List.replicate (n-i) 0=sizedL n xs:=by
      unfold sizedL
      have hc:i=n∨i=xs.length:=by
        try simp only [Bool.false_eq_true,decide_eq_false_iff_not,decide_eq_true_eq] at*
        omega
      rcases hc with hc|hc
      . rw [hc,show n-xs.length=0 by omega,Nat.sub_self]
      rw [hc,List.take_length,List.take_of_length_le oqz]
    rw [hfin]
    refine Zbr ?_;refine Zl ?_;exact ⟨_,_,res1 rfl rfl,λ _ _ h=>h,some ⟨b8,0,none⟩,n,rfl,Nat.le_refl _,rfl⟩
  intro h;refine Zbj ?_;refine tv (o_pick_f rfl wqz) ?_;refine nq ?_;refine tc_cond_f rfl ?_;refine Zk ?_;refine tc_seq ?_
  have hfin:xs.take i++List.replicate (n-i) 0=sizedL n xs:=by
    unfold sizedL
    have hc:i=n∨i=xs.length:=by
      try simp only [Bool.false_eq_true,decide_eq_false_iff_not,decide_eq_true_eq] at*
      omega
    rcases hc with hc|hc
    . rw [hc,show n-xs.length=0 by omega,Nat.sub_self]
    rw [hc,List.take_length,List.take_of_length_le oqz]
  rw [hfin]
  refine Zbr ?_;refine Zl ?_;exact ⟨_,_,res1 rfl rfl,λ _ _ h=>h,some ⟨b8,0,none⟩,n,rfl,Nat.le_refl _,rfl⟩
structure WdC where
  a:Option Addr
  c:Nat
  b:List Nat
  q:Int
  v:Int
  af:Int
  kq:Int
def WdC.cells (t:WdC):List Value:=[.slice t.a t.b.length t.c,.int .i64 t.q,.int .u64 t.v,.int .i64 t.af,.int .i64 t.kq]
def PWord (A:SP)(cs:List Value)(t:WdC):Prop:=cs=t.cells/\ Rs A t.a (bys t.b)/\ (∀x∈t.b,x<256)/\ t.b.length<=t.c/\ t.b.length<=140737488351232/\ 0<=t.v/\ t.v<18446744073709551616
end Go.Vl

namespace Go.Vl
open Go Go.Proofs Go.Proofs.Tryz
structure Gd (n k:Nat) (s:DevS):Prop where
  len:s.ls.length=n
  room:Room k s
  wf:WfD s
theorem Gd.le {n a b:Nat}{s:DevS}(h:Gd n a s)(hab:b<=a):Gd n b s:=⟨h.len,room_le h.room hab,h.wf⟩
theorem fe_len (s:DevS):(fe s).2.ls.length=s.ls.length:=by
  unfold fe
  split
  . rfl
  rw [doneS_len];simp [fenceS]
theorem flF_len:∀ (k q:Nat) (s:DevS),(flF k q s).2.ls.length=s.ls.length
  |0,q,s=>by rw [flF_zero];exact fe_len s
  |k+1,q,s=>by
    show (if (fl1 ((q*64:Nat):Int) s).1≠0 then fl1 ((q*64:Nat):Int) s else flF k (q+1) (fl1 ((q*64:Nat):Int) s).2).2.ls.length=_
    split
    . exact fl1_len _ _
    rw [flF_len k];exact fl1_len _ _
theorem gd_flF {n k:Nat}(j q:Nat){s:DevS}(h:Gd n k s):Gd n k (flF j q s).2:=⟨(flF_len _ _ _).trans h.len,(flF_room _ _ _ h.wf h.room).1,(flF_room _ _ _ h.wf h.room).2⟩
theorem gd_fe {n k:Nat}{s:DevS}(h:Gd n k s):Gd n k (fe s).2:=by rw [←flF_zero 0];exact gd_flF 0 0 h
theorem gd_range {n k:Nat}{p m:Int}{s:DevS}(h:Gd n k s):Gd n k (rangeP p m s).2:=by
  unfold rangeP
  split
  . exact h
  split
  . exact h
  split
  . exact h
  exact gd_flF _ _ h
theorem gd_pub {n k v:Nat}{p:Int}{s:DevS}(h:Gd n (k+1) s)(hv:v<18446744073709551616):Gd n k (pubP p v s).2:=by
  have h1:Gd n k (st8 p v s).2:=⟨(st8_len _ _ _).trans h.len,st8_room (e:=(st8 p v s).1) rfl h.wf hv h.room,st8_wf (e:=(st8 p v s).1) rfl h.wf hv (room_le h.room oqz)⟩
  unfold pubP
  split
  . exact h1
  exact gd_flF _ _ h1
theorem gd_sto {n k:Nat}{p:Int}{b:List Nat}{s:DevS}(h:Gd n (k+b.length) s)(hb:∀x∈b,x<256):Gd n k (sto p b s).2:=
  ⟨(sto_len _ _ _).trans h.len,sto_room (e:=(sto p b s).1) rfl h.wf hb h.room,sto_wf h.wf hb (room_le h.room oqz)⟩
theorem gd_putF {n k at_ sz:Nat}:∀{l:List (Int×Int)} {p:Nat} {s:DevS},l.all (mayX (n*64) at_ sz)=true->Gd n (k+needN l) s->Gd n k (putF p l s).2
  |[],p,s,_,h=>h.le oqz
  |x::l,p,s,ha,h=>by
    rw [List.all_cons,Bool.and_eq_true] at ha
    obtain ⟨q,m,rfl,y1,y2,y3,y4⟩:=may_nat ha.1;rw [needN_cons] at h
    simp only [Int.toNat_natCast] at h
    have hil:=imgS_len h.wf;have hln:=h.len;have hol:(((imgS s).drop q).take m).length=m:=(by rw [List.length_take,List.length_drop];omega);have hrl:(recS q (((imgS s).drop q).take m)).length=24+up8 m:=(by rw [recS_len,hol]);have h1:Gd n (k+needN l) (sto (p:Nat) (recS q (((imgS s).drop q).take m)) s).2:=gd_sto (h.le (by rw [hrl];omega)) (recS_b img_sub)
    show Gd n k (if (sto (p:Nat) (recS q (((imgS s).drop q).take m)) s).1≠0 then sto (p:Nat) (recS q (((imgS s).drop q).take m)) s else putF (p+(24+up8 m)) l (sto (p:Nat) (recS q (((imgS s).drop q).take m)) s).2).2
    split
    . exact h1.le oqz
    exact gd_putF ha.2 h1
theorem gd_write {n k at_ sz:Nat}{l:List (Int×Int)}{s:DevS}(h:Gd n (sz+1+k) s)(hl:l.length<18446744073709551616):Gd n k (writeS at_ sz l s).2:=by
  unfold writeS
  split
  . exact h.le oqz
  split
  . exact h.le oqz
  split
  . exact h.le oqz
  rename_i hall
  split
  . exact h.le oqz
  rename_i hful
  split
  . exact h.le oqz
  have ha:l.all (mayX (s.ls.length*64) at_ sz)=true:=(by simpa using hall)
  have hx1:∀x∈l,1<=x.2:=λ x hx=>by
    obtain ⟨p,m,rfl,_,hn,_⟩:=may_nat (List.all_eq_true.1 ha x hx);show (1:Int)<=(m:Int);omega
  obtain ⟨nd,en,hnd⟩:∃nd en,needS (lensX l)=(nd,en):=⟨_,_,rfl⟩;rw [hnd] at hful
  simp only [] at hful
  have hN:=needF_ok hx1 hnd oqz;have h1:Gd n (k+1) (putF (at_+64) l s).2:=gd_putF (by rw [←h.len];exact ha) (h.le oqz)
  split
  . exact h1.le oqz
  have h2:=gd_range (p:=((at_+64:Nat):Int)) (m:=(needS (lensX l)).1) h1
  split
  . exact h2.le oqz
  exact gd_pub h2 hl
theorem gd_clear {n k at_:Nat}{s:DevS}(h:Gd n (k+1) s):Gd n k (clearS at_ s).2:=by
  unfold clearS
  split
  . exact h.le oqz
  exact gd_pub h (by decide)
abbrev TF:=Nat->Option (Nat×Bool)
def tf0:TF:=λ _=>none
def layF (p:Nat)(xs:List Nat)(fr:Bool)(f:TF):TF:=λ a=>if p<=a/\ a<p+xs.length then some (xs.getD (a-p) 0,((f a).map (·.2)).getD fr) else f a
def byF (f:TF)(a:Nat):Nat:=((f a).map (·.1)).getD 0
def isK (f:TF)(k:Bool)(a:Nat):Bool:=decide ((f a).map (·.2)=some k)
def adrF (n:Nat)(k:Bool)(f:TF):List Nat:=(List.range n).filter (isK f k)
def runA (f:TF)(out:List (Nat×List Nat))(a:Nat):List (Nat×List Nat):=
  match out.getLast? with
  |some r=>if r.1+r.2.length=a then out.dropLast++[(r.1,r.2++[byF f a])] else out++[(a,[byF f a])]
  |none=>[(a,[byF f a])]
def runsL (f:TF)(l:List Nat):List (Nat×List Nat):=l.foldl (runA f) []
def runsF (n:Nat)(k:Bool)(f:TF):List (Nat×List Nat):=runsL f (adrF n k f)
def extX (l:List (Nat×List Nat)):List (Int×Int):=l.map λ r=>((r.1:Int),(r.2.length:Int))
def ovF (f:TF)(p:Nat)(xs:List Nat):List Nat:=xs.mapIdx λ i x=>((f (p+i)).map (·.1)).getD x
theorem ovF_len (f:TF)(p:Nat)(xs:List Nat):(ovF f p xs).length=xs.length:=by simp [ovF]
def stoL:List (Nat×List Nat)->DevS->Int×DevS
  |[],s=>(0,s)
  |r::l,s=>if (sto (r.1:Nat) r.2 s).1≠0 then sto (r.1:Nat) r.2 s else stoL l (sto (r.1:Nat) r.2 s).2
def linR:List (Nat×List Nat)->Nat->List Nat
  |[],_=>[]
  |r::l,d=>(List.range ((r.1+r.2.length-1)/64+1-max (r.1/64) d)).map (λ j=>max (r.1/64) d+j)++linR l (max d ((r.1+r.2.length-1)/64+1))
def flLs:List Nat->DevS->Int×DevS
  |[],s=>(0,s)
  |q::l,s=>if (fl1 ((q*64:Nat):Int) s).1≠0 then fl1 ((q*64:Nat):Int) s else flLs l (fl1 ((q*64:Nat):Int) s).2
def writeT (l:List (Nat×List Nat))(s:DevS):Int×DevS:=if (stoL l s).1≠0 then stoL l s else flLs (linR l 0) (stoL l s).2
def comS (at_ sz n:Nat)(f:TF)(s:DevS):(Int×Bool)×DevS:=
  if (writeT (runsF n true f) s).1≠0 then (((writeT (runsF n true f) s).1,true),(writeT (runsF n true f) s).2)
  else if runsF n false f=[] then
    if runsF n true f=[] then ((0,true),(writeT (runsF n true f) s).2) else (((fe (writeT (runsF n true f) s).2).1,true),(fe (writeT (runsF n true f) s).2).2)
  else if (writeS at_ sz (extX (runsF n false f)) (writeT (runsF n true f) s).2).1≠0 then
    (((writeS at_ sz (extX (runsF n false f)) (writeT (runsF n true f) s).2).1,decide ((writeS at_ sz (extX (runsF n false f)) (writeT (runsF n true f) s).2).1=5)),(writeS at_ sz (extX (runsF n false f)) (writeT (runsF n true f) s).2).2)
  else if (writeT (runsF n false f) (writeS at_ sz (extX (runsF n false f)) (writeT (runsF n true f) s).2).2).1≠0 then
    (((writeT (runsF n false f) (writeS at_ sz (extX (runsF n false f)) (writeT (runsF n true f) s).2).2).1,true),(writeT (runsF n false f) (writeS at_ sz (extX (runsF n false f)) (writeT (runsF n true f) s).2).2).2)
  else if (fe (writeT (runsF n false f) (writeS at_ sz (extX (runsF n false f)) (writeT (runsF n true f) s).2).2).2).1≠0 then
    (((fe (writeT (runsF n false f) (writeS at_ sz (extX (runsF n false f)) (writeT (runsF n true f) s).2).2).2).1,true),(fe (writeT (runsF n false f) (writeS at_ sz (extX (runsF n false f)) (writeT (runsF n true f) s).2).2).2).2)
  else (((clearS at_ (fe (writeT (runsF n false f) (writeS at_ sz (extX (runsF n false f)) (writeT (runsF n true f) s).2).2).2).2).1,true),(clearS at_ (fe (writeT (runsF n false f) (writeS at_ sz (extX (runsF n false f)) (writeT (runsF n true f) s).2).2).2).2).2)
def encC (c:Nat×Bool):Value:= .agg #[.int .u8 (c.1:Nat),.bool c.2]
structure MF (M:MS) (n:Nat) (f:TF):Prop where
  wf:WfM M
  get:∀a:Nat,M.get (a:Int)=(f a).map encC
  keys:∀e∈M.D,∃a:Nat,a<n/\ e.k=(a:Int)
  out:∀a,n<=a->f a=none
  by_:∀a c,f a=some c->c.1<256
theorem mf_nil (c n:Nat):MF ⟨[],c⟩ n tf0:=⟨⟨(by simp),(by simp),λ e h=>(by cases h)⟩,λ a=>rfl,λ e h=>(by cases h),λ _ _=>rfl,λ a c h=>(by cases h)⟩
theorem layF_nil (p:Nat)(fr:Bool)(f:TF):layF p [] fr f=f:=by
  funext a;unfold layF;rw [if_neg (by simp only [List.length_nil];omega)]
theorem layF_snoc {p:Nat}{xs:List Nat}{x:Nat}{fr:Bool}{f:TF}:layF p (xs++[x]) fr f=λ a=>if a=p+xs.length then some (x,((layF p xs fr f a).map (·.2)).getD fr) else layF p xs fr f a:=by
  funext a
  unfold layF
  simp only [List.length_append,List.length_singleton]
  by_cases h:a=p+xs.length
  . subst h;rw [if_pos oqz,if_pos rfl,if_neg oqz,show p+xs.length-p=xs.length by omega]
    simp [List.getD]
  rw [if_neg h]
  by_cases h2:p<=a/\ a<p+xs.length
  . rw [if_pos oqz,if_pos h2]
    congr 2
    simp only [List.getD_eq_getElem?_getD]
    rw [List.getElem?_append_left oqz]
  rw [if_neg oqz,if_neg h2]
theorem mf_put {M:MS}{n a:Nat}{f:TF}{x:Nat}{b:Bool}(h:MF M n f)(ha:a<n)(hx:x<256):MF (M.put (a:Int) (encC (x,b))) n (λ c=>if c=a then some (x,b) else f c):=by
  refine ⟨wfM_put h.wf,λ c=> ?_,λ e he=> ?_,λ c hc=> ?_,λ c v hv=> ?_⟩
  . rw [MS.get_put]
    by_cases hc:c=a
    . subst hc;rw [if_pos rfl];simp
    rw [if_neg oqz,if_neg hc];exact h.get c
  . unfold MS.put at he
    split at he
    . rename_i i u hf
      have hk:∃e'∈M.D,e'.k=e.k:=by
        obtain ⟨j,hj,rfl⟩:=List.mem_iff_getElem.1 he
        simp only [List.length_modify] at hj
        refine ⟨M.D[j],List.getElem_mem _, ?_⟩
        simp only [List.getElem_modify]
        split<;>rfl
      obtain ⟨e',h1,h2⟩:=hk;rw [←h2];exact h.keys e' h1
    rcases List.mem_append.1 he with he|he
    . exact h.keys e he
    rw [List.mem_singleton.1 he];exact ⟨a,ha,rfl⟩
  . simp only [if_neg (show c≠a by omega)];exact h.out c hc
  by_cases hc:c=a
  . simp only [if_pos hc,Option.some.injEq] at hv;rw [←hv];exact hx
  simp only [if_neg hc] at hv;exact h.by_ c v hv
theorem mfind_mem:∀{D:List ME} {e:ME},(D.map ME.k).Nodup->e∈D->∃i,mfind D e.k 0=some (i,e.v)
  |x::D,e,hn,he=>by
    simp only [List.map_cons,List.nodup_cons] at hn
    rw [mfind_cons]
    rcases List.mem_cons.1 he with rfl|he
    . exact ⟨0,by rw [if_pos rfl]⟩
    have hne:e.k≠x.k:=λ h=>hn.1 (h▸List.mem_map_of_mem he)
    obtain ⟨i,hi⟩:=mfind_mem hn.2 he;exact ⟨i+1,by rw [if_neg hne,mfind_i,hi];rfl⟩
theorem get_mem {M:MS}{e:ME}(hw:WfM M)(he:e∈M.D):M.get e.k=some e.v:=by
  obtain ⟨i,hi⟩:=mfind_mem hw.keys he
  unfold MS.get;rw [hi];rfl
theorem mfind_has:∀{D:List ME} {a:Int} {i:Nat} {v:Value},mfind D a 0=some (i,v)->∃e∈D,e.k=a/\ e.v=v:=λ {D a i v} h=>by
  obtain ⟨hi,h1,h2⟩:=mfind_some h;exact ⟨D[i],List.getElem_mem hi,h1,h2⟩
theorem mf_val {M:MS}{n:Nat}{f:TF}{e:ME}(h:MF M n f)(he:e∈M.D):∃a c,a<n/\ e.k=((a:Nat):Int)/\ f a=some c/\ e.v=encC c:=by
  obtain ⟨a,ha,hk⟩:=h.keys e he;have h1:=get_mem h.wf he;rw [hk,h.get a] at h1
  cases hf:f a with
  |none=>rw [hf] at h1;cases h1
  |some c=>rw [hf] at h1;simp only [Option.map_some,Option.some.injEq] at h1;exact ⟨a,c,ha,hk,hf,h1.symm⟩
theorem mf_has {M:MS}{n a:Nat}{f:TF}{c:Nat×Bool}(h:MF M n f)(hf:f a=some c):∃e∈M.D,e.k=((a:Nat):Int)/\ e.v=encC c:=by
  have h1:=h.get a;rw [hf] at h1
  unfold MS.get at h1
  cases hm:mfind M.D (a:Int) 0 with
  |none=>rw [hm] at h1;cases h1
  |some p=>
    rw [hm] at h1
    simp only [Option.map_some,Option.some.injEq] at h1
    obtain ⟨e,he,h2,h3⟩:=mfind_has (i:=p.1) (v:=p.2) hm;exact ⟨e,he,h2,h3.trans h1⟩
def kys (f:TF)(k:Bool)(l:List ME):List Int:=(l.filter λ e=>isK f k e.k.toNat).map ME.k
theorem kys_nil (f:TF)(k:Bool):kys f k []=[]:=rfl
theorem kys_snoc (f:TF)(k:Bool)(l:List ME)(e:ME):kys f k (l++[e])=kys f k l++(if isK f k e.k.toNat then [e.k] else []):=by
  unfold kys
  rw [List.filter_append,List.map_append]
  congr 1
  simp only [List.filter_cons,List.filter_nil]
  split<;>rfl
theorem kys_len (f:TF)(k:Bool)(l:List ME):(kys f k l).length<=l.length:=by unfold kys;rw [List.length_map];exact List.length_filter_le _ _
theorem adr_mem {n:Nat}{k:Bool}{f:TF}{a:Nat}:a∈adrF n k f↔a<n/\ isK f k a=true:=by unfold adrF;rw [List.mem_filter,List.mem_range]
theorem adr_sorted (n:Nat)(k:Bool)(f:TF):(adrF n k f).Pairwise (·<·):=(List.pairwise_lt_range).filter _
theorem kys_sort {M:MS}{n:Nat}{f:TF}{k:Bool}{vis:List ME}(h:MF M n f)(hv:vis.Perm M.D):(kys f k vis).mergeSort (λ x y=>decide (x<=y))=(adrF n k f).map λ a:Nat=>(a:Int):=by
  have hp1:((kys f k vis).mergeSort (λ x y=>decide (x<=y))).Perm ((adrF n k f).map λ a:Nat=>(a:Int)):=by
    refine (List.mergeSort_perm _ _).trans ?_;refine (List.perm_ext_iff_of_nodup ?_ ?_).2 λ x=> ?_
    . unfold kys
      exact ((hv.map ME.k).nodup_iff.2 h.wf.keys).sublist (List.filter_sublist.map ME.k)
    . refine List.Pairwise.map _ (λ a b hab e=> ?_) (adr_sorted n k f)
      omega
    unfold kys
    simp only [List.mem_map,List.mem_filter]
    constructor
    . rintro ⟨e,⟨he,hk⟩,rfl⟩;obtain ⟨a,c,ha,hka,hf,_⟩:=mf_val h (hv.mem_iff.1 he);rw [hka,Int.toNat_natCast] at hk
      exact ⟨a,adr_mem.2 ⟨ha,hk⟩,hka.symm⟩
    rintro ⟨a,ha,rfl⟩;obtain ⟨h1,h2⟩:=adr_mem.1 ha;have h3:=of_decide_eq_true h2
    cases hf:f a with
    |none=>rw [hf] at h3;cases h3
    |some c=>
      obtain ⟨e,he,hk,_⟩:=mf_has h hf;exact ⟨e,⟨hv.mem_iff.2 he,by rw [hk,Int.toNat_natCast];exact h2⟩,hk⟩
  have hs1:((kys f k vis).mergeSort (λ x y=>decide (x<=y))).Pairwise (·<=·):=by
    have:=List.pairwise_mergeSort (le:=λ x y:Int=>decide (x<=y)) (λ a b c h1 h2=>decide_eq_true (Int.le_trans (of_decide_eq_true h1) (of_decide_eq_true h2))) (λ a b=>by simp only [Bool.or_eq_true,decide_eq_true_eq];omega) (kys f k vis);exact this.imp λ h=>of_decide_eq_true h
  have hs2:((adrF n k f).map λ a:Nat=>(a:Int)).Pairwise (·<=·):=List.Pairwise.map _ (λ a b hab=>by omega) (adr_sorted n k f);exact hp1.eq_of_pairwise (λ a b _ _ h1 h2=>Int.le_antisymm h1 h2) hs1 hs2
theorem mf_len {M:MS}{n:Nat}{f:TF}(h:MF M n f):M.D.length<=n:=by
  have h1:(M.D.map λ e=>e.k.toNat).Nodup:=by
    refine List.pairwise_map.2 ?_;refine List.Pairwise.imp_of_mem (λ {x y} hx hy hne=> ?_) (List.pairwise_map.1 h.wf.keys);obtain ⟨a,_,h2⟩:=h.keys x hx;obtain ⟨b,_,h3⟩:=h.keys y hy
    omega
  have h3:=List.Nodup.length_le_of_subset h1 (l₂:=List.range n) λ x hx=>by
    obtain ⟨e,he,rfl⟩:=List.mem_map.1 hx;obtain ⟨a,ha,hk⟩:=h.keys e he;rw [List.mem_range];omega
  rw [List.length_map,List.length_range] at h3;exact h3
theorem runsL_snoc (f:TF)(l:List Nat)(a:Nat):runsL f (l++[a])=runA f (runsL f l) a:=by unfold runsL;rw [List.foldl_append];rfl
def scQ (l:Nat)(K:Env->SP->Prop)(Q:Post):Post
  | .goto l',ρ,A=>l'=l/\ K ρ A
  |e,ρ,A=>Q e ρ A
section
variable {P:Program} {n:Nat} {ρ:Env} {A:SP} {Q:Post} {K:Env->SP->Prop} {l:Nat}
theorem tc_goto (h:Q (.goto l) ρ A):TC P n (.goto l) Q ρ A:=λ g a w ha hs=>wp_goto ⟨rfl,ρ,A,ha,hs,h⟩
theorem q_sc_r (h:Q .ret ρ A):scQ l K Q .ret ρ A:=h
theorem q_sc_g (h:K ρ A):scQ l K Q (.goto l) ρ A:=⟨rfl,h⟩
theorem q_then_g {K':Env->SP->Prop}(h:Q (.goto l) ρ A):thenQ K' Q (.goto l) ρ A:=h
theorem tc_scope {c rest:Code}(K:Env->SP->Prop)(hf:findLabel c l=some (.seq .skip rest))(hk:∀ρ A,K ρ A->TC P n rest (scQ l (λ _ _=>False) Q) ρ A)
    (h:(∀ρ A,K ρ A->TC P n rest (scQ l (λ _ _=>False) Q) ρ A)->TC P n c (scQ l K Q) ρ A):TC P n (.scope c) Q ρ A:=λ g a w ha hs=>by
  refine wp_scope_jumps l (λ a w=>∃ρ A,Agr n ρ a/\ sat g w A/\ K ρ A) (λ _ _=>0) hf ?_ ?_
  . refine wp_mono (h hk g a w ha hs) λ e a' w' ⟨hok,ρ',A',ha',hs',hq⟩=> ?_
    cases e with
    |goto l'=>exact ⟨hq.1,ρ',A',ha',hs',hq.2⟩
    |normal=>exact ⟨hok,ρ',A',ha',hs',hq⟩
    |exit id=>exact ⟨hok,ρ',A',ha',hs',hq⟩
    |ret=>exact ⟨hok,ρ',A',ha',hs',hq⟩
    |panic ch=>exact ⟨hok,ρ',A',ha',hs',hq⟩
    |outgrown=>exact ⟨hok,ρ',A',ha',hs',hq⟩
  rintro a w ⟨ρ,A,ha,hs,hK⟩;refine wp_mono ((tc_seq (tc_skip (hk ρ A hK)):TC P n (.seq .skip rest) (scQ l (λ _ _=>False) Q) ρ A) g a w ha hs) λ e a' w' ⟨hok,ρ',A',ha',hs',hq⟩=> ?_
  cases e with
  |goto l'=>exact hq.2.elim
  |normal=>exact ⟨hok,ρ',A',ha',hs',hq⟩
  |exit id=>exact ⟨hok,ρ',A',ha',hs',hq⟩
  |ret=>exact ⟨hok,ρ',A',ha',hs',hq⟩
  |panic ch=>exact ⟨hok,ρ',A',ha',hs',hq⟩
  |outgrown=>exact ⟨hok,ρ',A',ha',hs',hq⟩
theorem tc_fall {rest:Code}(hk:∀ρ A,K ρ A->TC P n rest (scQ l (λ _ _=>False) Q) ρ A)(h:K ρ A):TC P n (.seq (.label l) rest) (scQ l K Q) ρ A:=by
  refine tc_seq (tc_label ?_)
  show TC P n rest (scQ l K Q) ρ A
  exact tc_imp (hk ρ A h) λ e ρ A hq=>by
    cases e with
    |goto l'=>exact hq.2.elim
    |_=>exact hq
end
def pocs (lg d:Nat)(ov:Option Nat):List Value:=[pz d,pz lg,.pointer (ov.map λ t=>(⟨t,0,none⟩:Addr))]
def txcs (p mb:Nat)(over:Bool):List Value:=[pz p,.map (some mb),.bool over]
def stpS (at_ sz:Nat)(s:DevS):Int:=if (recordsS at_ sz s).2=0/\ (recordsS at_ sz s).1≠[] then 3 else (recordsS at_ sz s).2
def idlS (s:DevS)(ov:Option Nat):Int:=if s.off=true then 5 else if ov.isSome then 3 else 0
theorem rec_err {at_ sz:Nat}{s:DevS}:(recordsS at_ sz s).2=0∨(recordsS at_ sz s).2=5∨(recordsS at_ sz s).2=110:=by
  unfold recordsS
  split
  . exact .inr (.inl rfl)
  rcases Classical.em ((recsF (s.ls.length*64) at_ sz (roomS at_ sz s) (wordP (at_:Nat) s).1 0).2=0) with h|h
  . exact .inl h
  rw [recs_err h];exact .inr (.inr rfl)
attribute [local irreducible] crk crL crc Sl pt ro Dev imgS recS readS recsF rdW rdO rkT Parts rvl recordsS
theorem made12_c {A:SP}{d:Nat}{p lg:Nat}{ov:Option Nat}(hp:Has A p (cl (pocs lg d ov) 263):=by exact hbqz):
    Fn Tryz.prog 249 #[pz p] A (λ r B=>r= .bool true/\ A=B):=by
  refine fn_enterW func249 rfl ntmps249 (by simp) ?_;refine Zdg ?_;refine tv (o_nep underlying163 rfl rfl) ?_;refine tlm ?_;refine tl_bool (d:=5) rfl (sbq ?_) dbq;intro h;refine Zba ?_;refine tv (o_fieldAddr (o:=0) underlying263 rfl rfl sz44 rfl) ?_;refine tv (o_load p44 rfl hp rfl) ?_;refine tv (o_nep underlying44 rfl rfl) ?_;refine Zee ?_;exact ⟨.bool true,_,res1 rfl rfl,Dr.sat drqz,rfl,rfl⟩
theorem Size12_c {A R:SP}{C:SP->SP}{d:Nat}{s:DevS}(hc:Ct A (Dev d s) R C:=by exact cbqz){p lg:Nat}{ov:Option Nat}(hp:Has A p (cl (pocs lg d ov) 263):=by exact hbqz):
    Fn Tryz.prog 171 #[pz p] A (λ r B=>r= .int .i64 ((s.ls.length:Int)*64)/\ A=B):=by
  refine fn_enterW func171 rfl ntmps171 (by simp) ?_;refine Zcb ?_;refine tl_c rfl (o_call bd249 rfl (made12_c (hp:=hp))) ?_;refine Zb1 ?_;refine Zq ?_;intro h;refine Zew ?_;refine tv (o_fieldAddr (o:=0) underlying263 rfl rfl sz44 rfl) ?_;refine tv (o_load p44 rfl hp rfl) ?_;refine tl_c rfl (o_call bd155 rfl (Size_c (hc:=hc))) ?_;rintro _ _ ⟨rfl,rfl⟩;refine Zl ?_;exact ⟨_,_,res1 rfl rfl,Dr.sat drqz,rfl,rfl⟩
theorem Zdn {p r:Prop}(k:r)(h:Kq r->p:=by intro k;refine tv (o_pick_f rfl wqz) ?_;refine tl_nil ?_;exact k.o):p:=h ⟨k⟩
theorem State12_c {A R:SP}{C:SP->SP}{d:Nat}{s:DevS}(hc:Ct A (Dev d s) R C:=by exact cbqz){p lg:Nat}{ov:Option Nat}(hp:Has A p (cl (pocs lg d ov) 263):=by exact hbqz){at_ sz:Nat}(hl:Has R lg (cl (lcs11 d at_ sz) 258):=by exact hbqz)(hlw:LogW (s.ls.length*64) at_ sz:=by assumption):
    Fn Tryz.prog 293 #[pz p] A (λ r B=>r= .int .i64 (stpS at_ sz s)/\ A=B):=by
  refine fn_enterW func293 rfl ntmps293 (by simp) ?_;obtain ⟨L,e0,hL⟩:∃L e0,recordsS at_ sz s=(L,e0):=⟨_,_,rfl⟩;have hst:stpS at_ sz s=if e0=0/\ L≠[] then 3 else e0:=(by unfold stpS;rw [hL]);refine Zcb ?_;refine tl_c rfl (o_call bd249 rfl (made12_c (hp:=hp))) ?_;refine Zb1 ?_;refine Zq ?_;intro h;refine Zew ?_;refine tv (o_fieldAddr (o:=1) underlying263 rfl rfl sz160 rfl) ?_;refine tv (o_load p160 rfl hp rfl) ?_;refine tl_c rfl (o_call bd170 rfl (Records_w (hc:=hc) (hl:=hl) (hlw:=hlw) (hX:=hL))) ?_;rintro _ _ ⟨a13,c13,vs,rfl,hc13,hvs,rfl⟩;have hA9:C (Dev d s)=A:=(by rw [hc.2];exact hc.1.symm);rw [hA9]
  refine Zbq ?_;refine Zfc ?_;refine tc_cut (λ ρ BB=>∃ (bb:Bool),(bb=decide (e0=0/\ L≠[]))/\ ρ 22= .bool bb/\ ρ 4= .int .i64 e0/\ Dr BB (A)) ?_ ?_
  . skip
    refine Zbr ?_;refine tv (o_eqi rfl rfl) ?_;refine tlm ?_;refine tl_bool (d:=18) rfl (λ h=> ?_) (λ h=> ?_)
    . have g18:(e0=0):=(by first|exact of_decide_eq_true h|(have h2:=h;simp at h2;omega)|simpa using h);refine tlm ?_;refine tv (o_len underlying259 rfl) ?_;refine tv (o_gtr rfl rfl) ?_;refine Zbb ?_;exact ⟨_,by first|(rw [decide_eq_decide];exact ⟨λ h9=>⟨g18,λ e=>by subst e;simp at h9⟩,λ h9=>by have:=List.length_pos_iff.2 h9.2;omega⟩)|exact (decide_eq_false λ h9=>g18 h9.1).symm,rfl,rfl,drqz⟩
    have g18:¬(e0=0):=(by first|exact of_decide_eq_false h|(have h2:=h;simp at h2;omega)|simpa using h);refine Zc5 ?_;refine Zdn ?_;exact ⟨_,by first|(rw [decide_eq_decide];exact ⟨λ h9=>⟨g18,λ e=>by subst e;simp at h9⟩,λ h9=>by have:=List.length_pos_iff.2 h9.2;omega⟩)|exact (decide_eq_false λ h9=>g18 h9.1).symm,rfl,rfl,drqz⟩
  intro ρ B hI;obtain ⟨bb,hbb0,hE22,hE4,hBA⟩:=hI;refine q_then_n ?_;refine tc_pre hBA.sat ?_;clear hBA;refine te 22 hE22 ?_;refine te 4 hE4 ?_;refine tc_cond rfl (sbq ?_) (sbq ?_)
  . intro h;refine Zdy ?_;rw [h] at hbb0
    have h9:=of_decide_eq_true hbb0.symm;rw [hst,if_pos h9]
    exact ⟨.int .i64 3,_,res1 rfl rfl,Dr.sat drqz,rfl,rfl⟩
  intro h;refine Zb2 ?_;refine Zl ?_;rw [h] at hbb0
  have h9:=of_decide_eq_false hbb0.symm;rw [hst,if_neg h9]
  exact ⟨.int .i64 e0,_,res1 rfl rfl,Dr.sat drqz,rfl,rfl⟩
theorem idle12_c {A R:SP}{C:SP->SP}{d:Nat}{s:DevS}(hc:Ct A (Dev d s) R C:=by exact cbqz){p lg:Nat}{ov:Option Nat}(hp:Has A p (cl (pocs lg d ov) 263):=by exact hbqz):
    Fn Tryz.prog 292 #[pz p] A (λ r B=>r= .int .i64 (idlS s ov)/\ A=B):=by
  refine fn_enterW func292 rfl ntmps292 (by simp) ?_;refine Zbw ?_;refine Zu ?_;refine Zb ?_;refine tl_c rfl (o_call bd249 rfl (made12_c (hp:=hp))) ?_;refine Zb1 ?_;refine Zep ?_;intro h;refine Zs ?_;refine tv (o_fieldAddr (o:=0) underlying263 rfl rfl sz44 rfl) ?_;refine tv (o_load p44 rfl hp rfl) ?_;refine tl_c rfl (o_call bd262 rfl (Off_c (hc:=hc))) ?_;refine Zh5 ?_;refine tc_cond rfl (sbq ?_) (λ h=> ?_)
  . intro h;refine Zif ?_;have e:idlS s ov=5:=(by unfold idlS;rw [if_pos h]);rw [e]
    exact ⟨.int .i64 5,_,res1 rfl rfl,Dr.sat drqz,rfl,rfl⟩
  have ho:s.off=false:=(by simpa using h);refine Zs ?_;refine tv (o_fieldAddr (o:=2) underlying263 rfl rfl sz122 rfl) ?_;refine tv (o_load p122 rfl hp rfl) ?_;refine tv (o_nep underlying122 rfl rfl) ?_;refine Za ?_;refine tc_cond rfl (sbq ?_) (sbq ?_)
  . intro h;refine Zif ?_;have e:idlS s ov=3:=(by unfold idlS;rw [if_neg (by rw [ho];decide),if_pos (by cases ov<;>simp at h ⊢)]);rw [e]
    exact ⟨.int .i64 3,_,res1 rfl rfl,Dr.sat drqz,rfl,rfl⟩
  intro h;refine Zfj ?_;refine Zcd ?_;have e:idlS s ov=0:=(by unfold idlS;rw [if_neg (by rw [ho];decide),if_neg (by cases ov<;>simp at h ⊢)]);rw [e]
  exact ⟨.int .i64 0,_,res1 rfl rfl,Dr.sat drqz,rfl,rfl⟩
theorem Zii {p r:Prop}(k:r)(h:Kq r->p:=by intro k;refine tv (o_eqp underlying122 rfl rfl) ?_;refine Zfz ?_;exact k.o):p:=h ⟨k⟩
theorem Zgd {p r:Prop}(k:r)(h:Kq r->p:=by intro k;refine Zba ?_;refine tv (o_fieldAddr (o:=0) underlying298 rfl rfl sz163 rfl) ?_;exact k.o):p:=h ⟨k⟩
theorem Zgv {p r:Prop}(k:r)(h:Kq r->p:=by intro k;refine tv (o_eqp underlying163 rfl rfl) ?_;refine tv (o_pick_f rfl wqz) ?_;exact k.o):p:=h ⟨k⟩
theorem Ze4 {p r:Prop}(k:r)(h:Kq r->p:=by intro k;refine Zs ?_;refine tv (o_fieldAddr (o:=2) underlying298 rfl rfl sz4 rfl) ?_;exact k.o):p:=h ⟨k⟩
theorem Zdf {p r:Prop}(k:r)(h:Kq r->p:=by intro k;refine tv (o_nilCheck rfl) ?_;refine tv (o_fieldAddr (o:=0) underlying263 rfl rfl sz44 rfl) ?_;exact k.o):p:=h ⟨k⟩
theorem begun12_c {A R:SP}{C:SP->SP}{d:Nat}{s:DevS}(hc:Ct A (Dev d s) R C:=by exact cbqz){p lg:Nat}{ov:Option Nat}(hp:Has A p (cl (pocs lg d ov) 263):=by exact hbqz){t mb:Nat}(ht:Has A t (cl (txcs p mb false) 298):=by exact hbqz)(ho:s.off=false:=by assumption):
    Fn Tryz.prog 205 #[pz t] A (λ r B=>r= .int .i64 0/\ A=B):=by
  refine fn_enterW func205 rfl ntmps205 (by simp) ?_;refine Zbw ?_;refine Zu ?_;refine Zb ?_;refine Zii ?_;intro h;refine Zgd ?_;refine tv (o_load p163 rfl ht rfl) ?_;refine Zgv ?_;refine Zep ?_;intro h;refine Ze4 ?_;refine tv (o_load p4 rfl ht rfl) ?_;refine Zep ?_;intro h;refine Zs ?_;refine tv (o_fieldAddr (o:=0) underlying298 rfl rfl sz163 rfl) ?_;refine tv (o_load p163 rfl ht rfl) ?_;refine Zdf ?_;refine tv (o_load p44 rfl hp rfl) ?_;refine tl_c rfl (o_call bd262 rfl (Off_c (hc:=hc))) ?_;refine Zh5 ?_;refine tc_cond rfl (λ h=> ?_) (sbq ?_)
  . exfalso;rw [ho] at h;simp at h
  intro h;refine Zfj ?_;refine Zcd ?_;exact ⟨.int .i64 0,_,res1 rfl rfl,Dr.sat drqz,rfl,rfl⟩
theorem Zcz {p r:Prop}(k:r)(h:Kq r->p:=by intro k;refine tv (o_fieldAddr (o:=1) underlying298 rfl rfl sz296 rfl) ?_;refine tv (o_load p296 rfl hsqz rfl) ?_;exact k.o):p:=h ⟨k⟩
theorem Zhw {p r:Prop}(k:r)(h:Kq r->p:=by intro k;refine tc_reg ?_;refine Zba ?_;exact k.o):p:=h ⟨k⟩
theorem Zb7 {p r:Prop}(k:r)(h:Kq r->p:=by intro k;refine tv (o_fieldAddr (o:=0) underlying298 rfl rfl sz163 rfl) ?_;refine tv (o_load p163 rfl hsqz rfl) ?_;exact k.o):p:=h ⟨k⟩
theorem end12_c {A R:SP}{p lg d t mb:Nat}{over:Bool}{M:MS}(hA:A=R*pt p (cl (pocs lg d (some t)) 263)*pt t (cl (txcs p mb over) 298)*pt mb (mpo .i64 M)):
    Fn Tryz.prog 212 #[pz t] A (λ r B=>r= .tuple #[]/\ B=R*pt p (cl (pocs lg d none) 263)*pt t (cl (txcs p mb true) 298)*pt mb (mpo .i64 M.clr)):=by
  refine fn_enterW func212 rfl ntmps212 (by simp) ?_;subst hA;refine Ze4 ?_;refine tl_u rfl (o_stU (l':=txcs p mb true) rfl upqz sz4 rfl rfl (by show 2<3;decide) rfl) ?_;refine nq ?_;refine Zs ?_;refine Zcz ?_;refine tl_x rfl (o_clearM underlying296 rfl upqz) ?_;refine Zgn ?_;refine Zhw ?_;refine Zb7 ?_;refine tv (o_nilCheck rfl) ?_;refine tv (o_fieldAddr (o:=2) underlying263 rfl rfl sz122 rfl) ?_;refine tl_u rfl (o_stU (l':=pocs lg d none) rfl upqz sz122 rfl rfl (by show 2<3;decide) rfl) ?_;refine tl_nil ?_;exact ⟨.tuple #[],_,res0 rfl,λ _ _ h=>h,rfl,rfl⟩
end Go.Vl

namespace Go.Vl
open Go Go.Proofs Go.Proofs.Tryz
def TxA (t p lg d mb at_ sz:Nat)(M:MS)(over:Bool)(s:DevS):SP:=pt p (cl (pocs lg d (if over then none else some t)) 263)*pt lg (cl (lcs11 d at_ sz) 258)*Dev d s*pt t (cl (txcs p mb over) 298)*pt mb (mpo .i64 M)
def cel0 (c:Nat×Bool):List Value:=[.int .u8 ((c.1:Nat):Int),.bool c.2]
theorem mf_lay {M:MS}{n q i x:Nat}{xs:List Nat}{fr:Bool}{f:TF}(h:MF M n (layF q (xs.take i) fr f))(hi:i<xs.length)(hx:xs[i]=x)(hb:x<256)(hn:q+i<n):
    MF (M.put ((q+i:Nat):Int) (encC (x,(((layF q (xs.take i) fr f (q+i)).map (·.2)).getD fr)))) n (layF q (xs.take (i+1)) fr f):=by
  have e:layF q (xs.take (i+1)) fr f=λ c=>if c=q+i then some (x,((layF q (xs.take i) fr f (q+i)).map (·.2)).getD fr) else layF q (xs.take i) fr f c:=by
    rw [List.take_succ_eq_append_getElem hi,layF_snoc,hx]
    funext c
    rw [List.length_take,Nat.min_eq_left oqz]
    by_cases hc:c=q+i
    . subst hc;rw [if_pos rfl]
    rw [if_neg hc,if_neg hc]
  rw [e]
  exact mf_put h hn hb
theorem layF_zero (q:Nat)(fr:Bool)(f:TF)(xs:List Nat):layF q (xs.take 0) fr f=f:=layF_nil q fr f
attribute [local irreducible] crk crL crc Sl pt ro Dev imgS recS readS recsF rdW rdO rkT Parts rvl recordsS
theorem New12_c {A R:SP}{C:SP->SP}{d:Nat}{s:DevS}(hc:Ct A (Dev d s) R C:=by exact cbqz){lg:Nat}{at_ sz:Nat}(hl:Has R lg (cl (lcs11 d at_ sz) 258):=by exact hbqz)(hlw:LogW (s.ls.length*64) at_ sz:=by assumption):
    Fn Tryz.prog 85 #[pz d,pz lg] A (λ r B=>∃p,r= .tuple #[pz p,.int .i64 0]/\ B=A*pt p (cl (pocs lg d none) 263)):=by
  refine fn_enterW func85 rfl ntmps85 (by simp) ?_;obtain ⟨L,e0,hL⟩:∃L e0,recordsS at_ sz s=(L,e0):=⟨_,_,rfl⟩;have he0:e0≠1:=(by have h9:=rec_err (at_:=at_) (sz:=sz) (s:=s);rw [hL] at h9;simp only [] at h9;omega);refine tc_have (λ _ _ h=>ct_wf2 hc h) λ hwf=> ?_
  have htop:=hwf.top;have hpos:=hwf.pos;refine Zdi ?_;refine tl_c rfl (o_call bd155 rfl (Size_c (hc:=hc))) ?_;rintro _ _ ⟨rfl,rfl⟩;refine tv (o_eqi rfl rfl) ?_;refine Zq ?_;intro h;refine Zcr ?_;refine tl_c rfl (o_call bd170 rfl (Records_w (hc:=hc) (hl:=hl) (hlw:=hlw) (hX:=hL))) ?_;rintro _ _ ⟨a13,c13,vs,rfl,hc13,hvs,rfl⟩;have hA9:C (Dev d s)=A:=(by rw [hc.2];exact hc.1.symm);rw [hA9]
  refine Zey ?_;refine Zdd ?_;refine tc_cond rfl (λ h=> ?_) (sbq ?_)
  . exfalso;first|exact he0 (of_decide_eq_true h)|(simp at h;omega)
  intro h;refine Zfm ?_;refine tv (o_bS (l:=[_,_,_]) (pv_cons wqz (pv_cons wqz pv_nil)) underlying263 z263 (pl263 underlying263) rfl) ?_;refine tl_x rfl (o_box rfl rfl) ?_;rintro _ _ ⟨b21,rfl,rfl⟩;refine Z6 ?_;exact ⟨_,_,res2 rfl rfl rfl,Dr.sat drqz,b21,rfl,rfl⟩
theorem Begin12_ok {A R:SP}{C:SP->SP}{p lg d at_ sz:Nat}{s:DevS}(hA:A=R*pt p (cl (pocs lg d none) 263)*pt lg (cl (lcs11 d at_ sz) 258)*Dev d s)(hlw:LogW (s.ls.length*64) at_ sz)(ho:s.off=false)(hst:stpS at_ sz s=0):
    Fn Tryz.prog 250 #[pz p] A (λ r B=>∃t mb,r= .tuple #[pz t,.int .i64 0]/\ B=R*TxA t p lg d mb at_ sz ⟨[],0⟩ false s):=by
  refine fn_enterW func250 rfl ntmps250 (by simp) ?_;subst hA;refine Zdi ?_;refine tl_c rfl (o_call bd292 rfl (idle12_c (s:=s))) ?_;refine Zhc ?_;refine tc_cond rfl (λ h=> ?_) (sbq ?_)
  . exfalso;unfold idlS at h;rw [if_neg (by rw [ho];decide)] at h;simp at h
  intro h;refine Zcr ?_;refine tl_c rfl (o_call bd293 rfl (State12_c (s:=s))) ?_;refine Zhc ?_;refine tc_cond rfl (λ h=> ?_) (sbq ?_)
  . exfalso;rw [hst] at h;simp at h
  intro h;refine Zfm ?_;refine tl_x rfl (o_makeMap (ik:= .i64) underlying296) ?_;rintro _ _ ⟨b18,rfl,rfl⟩;refine tv (o_bS (l:=[_,_,_]) (pv_cons wqz (pv_cons wqz pv_nil)) underlying298 z298 (pl298 underlying298) rfl) ?_;refine tl_x rfl (o_box rfl rfl) ?_;rintro _ _ ⟨b20,rfl,rfl⟩;refine tv (o_nilCheck rfl) ?_;refine tv (o_fieldAddr (o:=2) underlying263 rfl rfl sz122 rfl) ?_;refine tl_u rfl (o_stU (l':=pocs lg d (some b20)) rfl upqz sz122 rfl rfl (by show 2<3;decide) rfl) ?_;refine nq ?_;refine Zs ?_;refine tv (o_fieldAddr (o:=2) underlying263 rfl rfl sz122 rfl) ?_;refine tv (by first|exact o_load p122 rfl hsqz rfl|exact o_loadC p122 rfl (by assumption)) ?_;refine Z6 ?_;exact ⟨_,_,res2 rfl rfl rfl,λ g w h=>(Dr.sat (A':=R*pt p (cl (pocs lg d (some b20)) 263)*pt lg (cl (lcs11 d at_ sz) 258)*Dev d s*pt b18 (mpo .i64 ⟨[],0⟩)*pt b20 (cl (txcs p b18 false) 298)) drqz g w h).perm (by unfold TxA;rw [if_neg (by decide)];ac_rfl),b20,b18,rfl,rfl⟩
theorem Zij {p r:Prop}(k:r)(h:Kq r->p:=by intro k;refine Zcu ?_;refine Zbd ?_;exact k.o):p:=h ⟨k⟩
theorem Zg6 {p r:Prop}(k:r)(h:Kq r->p:=by intro k;refine Zcr ?_;refine tv (o_nilCheck rfl) ?_;exact k.o):p:=h ⟨k⟩
theorem lay12_c {A R:SP}{C:SP->SP}{t p lg d mb at_ sz:Nat}{M:MS}{s:DevS}(hc:Ct A (TxA t p lg d mb at_ sz M false s) R C:=by exact cbqz){n:Nat}{f:TF}{fr:Bool}{a:Option Addr}{c m q:Nat}{xs:List Nat}(hM:MF M n f)(hn:n=s.ls.length*64:=by omega)(ho:s.off=false:=by assumption)(hr:Rs R a (bys xs):=by exact rbqz)(hm:xs.length=m:=by first|assumption|rfl)(hb:∀x∈xs,x<256:=by assumption)(hqm:q+m<=n:=by omega):
    Fn Tryz.prog 255 #[pz t,vn q,.slice a m c,.bool fr] A (λ r B=>∃M2,r= .int .i64 0/\ MF M2 n (layF q xs fr f)/\ B=C (TxA t p lg d mb at_ sz M2 false s)):=by
  refine fn_enterW func255 rfl ntmps255 (by simp) ?_;obtain ⟨rfl,hC⟩:=hc;refine tc_eq (show _=R*pt p (cl (pocs lg d (some t)) 263)*pt lg (cl (lcs11 d at_ sz) 258)*Dev d s*pt t (cl (txcs p mb false) 298)*pt mb (mpo .i64 M) by unfold TxA;rw [if_neg (by decide)];ac_rfl) ?_;refine tc_have (λ _ _ h=>ct_wf2 ctqz h) λ hwf=> ?_
  have htop:=hwf.top;refine Zcb ?_;refine tl_c rfl (o_call bd205 rfl (begun12_c (s:=s))) ?_;refine Zij ?_;intro h;refine Zg6 ?_;refine Zb7 ?_;refine Zdf ?_;refine tv (o_load p44 rfl hsqz rfl) ?_;refine tl_c rfl (o_call bd155 rfl (Size_c (s:=s))) ?_;refine Zcu ?_;refine Zcn ?_;refine tl_bool (d:=30) rfl dbq (sbq ?_);intro h;refine Zt ?_;refine Zhg ?_;refine tl_bool (d:=35) rfl dbq (sbq ?_);intro h;refine Zde ?_;refine Zgm ?_;refine Z7 ?_;refine Zq ?_;intro h;refine Zcr ?_;refine Zes ?_;refine tc_loop (λ kk ρ BB=>∃ (i:Nat) (M1:MS),(i<=m)/\ (MF M1 n (layF q (xs.take i) fr f))/\ kk=m-i/\ ρ 45=(vn i)/\ ρ 0=(pz t)/\ ρ 1=(vn q)/\ ρ 3= .bool fr/\ ρ 43= .slice a m c/\ ρ 44=(vn m)/\ Dr BB (R*pt p (cl (pocs lg d (some t)) 263)*pt lg (cl (lcs11 d at_ sz) 258)*Dev d s*pt t (cl (txcs p mb false) 298)*pt mb (mpo .i64 M1))) (m:=m-(0)) ?_ ?_
  . exact ⟨0,M,by omega,by rw [layF_zero];exact hM,rfl,rfl,rfl,rfl,rfl,rfl,rfl,drqz⟩
  intro k ρ B hI;obtain ⟨i,M1,hp0,hp1,hkk1,hE45,hE0,hE1,hE3,hE43,hE44,hBA⟩:=hI;refine tc_pre hBA.sat ?_;clear hBA;refine te 45 hE45 ?_;refine te 0 hE0 ?_;refine te 1 hE1 ?_;refine te 3 hE3 ?_;refine te 43 hE43 ?_;refine te 44 hE44 ?_;refine Zb9 ?_;refine tc_cond rfl (λ h=> ?_) (λ h=> ?_)
  . have hi:i<xs.length:=(by simp at h;omega);obtain ⟨x,hx1⟩:∃x,xs[i]=x:=⟨_,rfl⟩;have hx8:x<256:=hx1▸hb _ (List.getElem_mem hi)
    have hlay:=mf_lay hp1 hi hx1 hx8 oqz;have hget:=hp1.get (q+i);obtain ⟨o,ho9⟩:∃o,layF q (xs.take i) fr f (q+i)=o:=⟨_,rfl⟩;rw [ho9] at hlay hget
    refine Zen ?_;refine tv (o_ixP1 underlying67 sz5 rfl rfl sq2z sq1z) ?_;refine tv (o_ldP p5 rfl (by repeat (first|exact hr|apply Rs.left)) (bys_at hi)) ?_;refine tl_env (d:=49) (v:= .int .u8 ((x:Nat):Int)) (by show Value.int .u8 ((xs[i]:Nat):Int)=_;rw [hx1]) ?_;refine tla ?_;refine Zfu ?_;refine Zcz ?_;refine Zt ?_;refine tv adqz ?_;refine tl_env (d:=57) (v:=(vn (q+i))) (by first|rfl|(show Value.int .i64 _=_;congr 1;omega)) ?_;refine tv (o_lookupOk (ik:= .i64) underlying296 underlying3 z360 rfl rfl hsqz) ?_;refine tl_env (d:=58) (v:= .tuple #[.agg (cel0 (o.getD (0,false))).toArray,.bool o.isSome]) (by show Value.tuple #[(M1.get ((q+i:Nat):Int)).getD _,.bool (M1.get ((q+i:Nat):Int)).isSome]=_;rw [hget];cases o<;>rfl) ?_;refine Zbn ?_;refine tl_x rfl (o_alloc z360 rfl) ?_;rintro _ _ ⟨b13,rfl,rfl⟩;refine tl_u rfl (o_stUN (l':=cel0 (o.getD (0,false))) rfl upqz sz360 rfl rfl rfl (by show 2<=2;decide) rfl) ?_;refine Zic ?_;refine nq ?_;refine tc_cut (λ ρ BB=>ρ 0=(pz t)/\ ρ 1=(vn q)/\ ρ 3= .bool fr/\ ρ 11=(vn i)/\ ρ 12= .int .u8 ((x:Nat):Int)/\ ρ 13=(pz b13)/\ ρ 43= .slice a m c/\ ρ 44=(vn m)/\ ρ 45=(vn i)/\ BB=R*pt p (cl (pocs lg d (some t)) 263)*pt lg (cl (lcs11 d at_ sz) 258)*Dev d s*pt t (cl (txcs p mb false) 298)*pt mb (mpo .i64 M1)*pt b13 (cl [.int .u8 (((o.getD (0,false)).1:Nat):Int),.bool ((o.map (·.2)).getD fr)] 360)) ?_ ?_
    . skip
      refine tc_cond rfl (λ h=> ?_) (λ h=> ?_)
      . obtain rfl:o=none:=by cases o<;>simp at h ⊢
        refine Zbr ?_;refine tv (o_fieldAddr (o:=1) underlying360 rfl rfl sz4 rfl) ?_;refine tl_u rfl (o_stU (l':=[.int .u8 0,.bool fr]) rfl upqz sz4 rfl rfl (by show 1<2;decide) rfl) ?_;refine tl_nil ?_;exact ⟨rfl,rfl,rfl,rfl,rfl,rfl,rfl,rfl,rfl,rfl⟩
      obtain ⟨c0,rfl⟩:∃c0,o=some c0:=by cases o<;>simp at h ⊢
      refine tc_skip ?_;exact ⟨rfl,rfl,rfl,rfl,rfl,rfl,rfl,rfl,rfl,rfl⟩
    intro ρ B hI;obtain ⟨hE0,hE1,hE3,hE11,hE12,hE13,hE43,hE44,hE45,rfl⟩:=hI;refine q_then_n ?_;refine te 0 hE0 ?_;refine te 1 hE1 ?_;refine te 3 hE3 ?_;refine te 11 hE11 ?_;refine te 12 hE12 ?_;refine te 13 hE13 ?_;refine te 43 hE43 ?_;refine te 44 hE44 ?_;refine te 45 hE45 ?_;refine Zb ?_;refine tv (o_fieldAddr (o:=0) underlying360 rfl rfl sz5 rfl) ?_;refine tl_u rfl (o_stU (l':=cel0 (x,(o.map (·.2)).getD fr)) rfl upqz sz5 rfl rfl (by show 0<2;decide) rfl) ?_;refine nq ?_;refine tc_regh (S:=R*pt p (cl (pocs lg d (some t)) 263)*pt lg (cl (lcs11 d at_ sz) 258)*Dev d s*pt t (cl (txcs p mb false) 298)*pt b13 (cl (cel0 (x,(o.map (·.2)).getD fr)) 360)) mo drqz ?_
    show TH _ _ _ _ _ 9 (Array.replicate 9 false) _ _
    refine Zb4 ?_;refine tm 2 rfl kqz rfl (o_fieldAddr (o:=1) underlying298 rfl rfl sz296 rfl) ?_;refine tm 3 rfl kqz rfl (o_load p296 rfl hsqz rfl) ?_;refine Zeb ?_;refine tm 6 rfl kqz rfl adqz ?_;refine th_env (d:=73) (v:=(vn (q+i))) (by first|rfl|(show Value.int .i64 _=_;congr 1;omega)) ?_;refine tm 7 rfl kqz rfl (o_loadN (vs:=cel0 (x,(o.map (·.2)).getD fr)) a360 sz360 rfl hsqz (by show 2<=2;decide) rfl) ?_;refine th_one (i:=8) kqz ?_;refine oh_u rfl rfl rfl (o_mapUpdate (ik:= .i64) (M:=M1) (v:=encC (x,(o.map (·.2)).getD fr)) underlying296 underlying3 rfl upqz rfl rfl rfl) drqz ?_;refine th_done kqz ?_;refine Zr ?_;refine Zbz ?_;exact ⟨_,by omega,i+1,_,by omega,hlay,rfl,rfl,rfl,rfl,rfl,rfl,rfl,drqz⟩
  obtain rfl:i=m:=by simp at h;omega
  rw [List.take_of_length_le (show xs.length<=i by omega)] at hp1
  refine Zk ?_;refine Zcd ?_;exact ⟨.int .i64 0,C (TxA t p lg d mb at_ sz M1 false s),res1 rfl rfl,(λ g w h=>by rw [hC];exact (Dr.sat (A':=R*pt p (cl (pocs lg d (some t)) 263)*pt lg (cl (lcs11 d at_ sz) 258)*Dev d s*pt t (cl (txcs p mb false) 298)*pt mb (mpo .i64 M1)) drqz g w h).perm (by unfold TxA;rw [if_neg (by decide)];ac_rfl)),M1,rfl,hp1,rfl⟩
end Go.Vl

namespace Go.Vl
open Go Go.Proofs Go.Proofs.Tryz
theorem sq0z {p:Prop}(h:p:=by repeat (first|with_reducible exact rs_sl|apply Rs.left)):p:=h
def adjB (out:List (Nat×List Nat))(a:Nat):Bool:=match out.getLast? with
  |some r=>decide (r.1+r.2.length=a)
  |none=>false
theorem list_snoc {α:Type}{l:List α}(h:0<l.length):∃O r,l=O++[r]:=⟨l.dropLast,l.getLast (List.length_pos_iff.1 h),(List.dropLast_concat_getLast _).symm⟩
theorem adjB_snoc (O:List (Nat×List Nat))(r:Nat×List Nat)(a:Nat):adjB (O++[r]) a=decide (r.1+r.2.length=a):=by unfold adjB;rw [List.getLast?_concat]
theorem adj_t {f:TF}{out:List (Nat×List Nat)}{a:Nat}(h:adjB out a=true):∃O r,out=O++[r]/\ r.1+r.2.length=a/\ runA f out a=O++[(r.1,r.2++[byF f a])]:=by
  rcases Nat.eq_zero_or_pos out.length with h0|h0
  . rw [List.eq_nil_of_length_eq_zero h0] at h;cases h
  obtain ⟨O,r,rfl⟩:=list_snoc h0;rw [adjB_snoc] at h
  have h1:=of_decide_eq_true h;refine ⟨O,r,rfl,h1, ?_⟩
  unfold runA;rw [List.getLast?_concat];simp only [];rw [if_pos h1,List.dropLast_concat]
theorem adj_f {f:TF}{out:List (Nat×List Nat)}{a:Nat}(h:adjB out a=false):runA f out a=out++[(a,[byF f a])]:=by
  rcases Nat.eq_zero_or_pos out.length with h0|h0
  . rw [List.eq_nil_of_length_eq_zero h0];rfl
  obtain ⟨O,r,rfl⟩:=list_snoc h0;rw [adjB_snoc] at h
  unfold runA;rw [List.getLast?_concat];simp only [];rw [if_neg (of_decide_eq_false h)]
theorem adr_at {n:Nat}{k:Bool}{f:TF}{i:Nat}(h:i<(adrF n k f).length):∃c,f ((adrF n k f)[i])=some c/\ c.2=k/\ (adrF n k f)[i]<n:=by
  obtain ⟨h1,h2⟩:=adr_mem.1 (List.getElem_mem h);have h3:=of_decide_eq_true h2
  cases hf:f ((adrF n k f)[i]) with
  |none=>rw [hf] at h3;cases h3
  |some c=>rw [hf] at h3;simp only [Option.map_some,Option.some.injEq] at h3;exact ⟨c,rfl,h3,h1⟩
theorem sl_some {k:Nat}{a:Option Addr}{m c:Nat}{xs:List Value}{R:SP}{g:Gh}{w:World}(hs:sat g w (R*Sl k (.slice a m c) m xs))(h:0<m):∃b o,a=some ⟨b,o,none⟩:=by
  obtain ⟨_,⟨e1,e2,_⟩|⟨b,off,cap,L,E,e1,_⟩⟩:=sl_iff.1 hs
  . omega
  simp only [Value.slice.injEq] at e1;exact ⟨b,off,e1.1⟩
theorem adr_len (n:Nat)(k:Bool)(f:TF):(adrF n k f).length<=n:=by unfold adrF;exact Nat.le_trans (List.length_filter_le _ _) (by rw [List.length_range];exact Nat.le_refl _)
theorem parts_last {O:List (Nat×List Nat)}{r:Nat×List Nat}{vs:List Value}(h:vs.length=(O++[r]).length)(hps:∀k,k<(O++[r]).length->∃b c,vs.getD k (.slice none 0 0)= .slice b ((O++[r]).getD k (0,[])).2.length c/\ ((O++[r]).getD k (0,[])).2.length<=c):
    ∃V xb xc,vs=V++[.slice xb r.2.length xc]/\ V.length=O.length/\ r.2.length<=xc:=by
  rw [List.length_append,List.length_singleton] at h
  obtain ⟨V,v,rfl⟩:=list_snoc (l:=vs) oqz;rw [List.length_append,List.length_singleton] at h
  have hV:V.length=O.length:=(by omega);obtain ⟨b,c,h1,h2⟩:=hps O.length (by rw [List.length_append,List.length_singleton];omega);have e1:(V++[v]).getD O.length (.slice none 0 0)=v:=(by rw [←hV,List.getD_eq_getElem?_getD];simp);have e2:(O++[r]).getD O.length (0,[])=r:=(by rw [List.getD_eq_getElem?_getD];simp);rw [e1,e2] at h1
  rw [e2] at h2
  exact ⟨V,b,c,by rw [h1],hV,h2⟩
theorem kcl_set {O:List (Nat×List Nat)}{V:List Value}{r:Nat×List Nat}{v u:Value}(h:V.length=O.length)(ys:List Nat):(kcl (O++[r]) (V++[v])).set (O.length*2+1) u=kcl (O++[(r.1,ys)]) (V++[u]):=by
  rw [kcl_snoc h,kcl_snoc h]
  have hl:=kcl_len h;rw [List.set_append,if_neg oqz,hl,show O.length*2+1-O.length*2=1 by omega];rfl
theorem runs_next {n:Nat}{k:Bool}{f:TF}{i:Nat}{out:List (Nat×List Nat)}(h:runsL f ((adrF n k f).take i)=out)(hi:i<(adrF n k f).length):runsL f ((adrF n k f).take (i+1))=runA f out ((adrF n k f)[i]):=by
  rw [List.take_succ_eq_append_getElem hi,runsL_snoc,h]
theorem kcl_l1 {O:List (Nat×List Nat)}{V:List Value}{r:Nat×List Nat}{v:Value}(h:V.length=O.length):(kcl (O++[r]) (V++[v]))[O.length*2+1]? =some v:=by
  rw [kcl_snoc h,List.getElem?_append_right (by rw [kcl_len h];omega),kcl_len h,show O.length*2+1-O.length*2=1 by omega];rfl
theorem kcl_l0 {O:List (Nat×List Nat)}{V:List Value}{r:Nat×List Nat}{v:Value}(h:V.length=O.length):(kcl (O++[r]) (V++[v]))[O.length*2+0]? =some ((vn r.1)):=by
  rw [kcl_snoc h,List.getElem?_append_right (by rw [kcl_len h];omega),kcl_len h,show O.length*2+0-O.length*2=0 by omega];rfl
theorem byF_some {f:TF}{a:Nat}{c:Nat×Bool}(h:f a=some c):byF f a=c.1:=by unfold byF;rw [h];rfl
theorem isK_some {f:TF}{a:Nat}{c:Nat×Bool}(h:f a=some c)(k:Bool):isK f k a=(c.2==k):=by
  unfold isK;rw [h];simp only [Option.map_some,Option.some.injEq]
  cases c.2<;>cases k<;>rfl
attribute [local irreducible] crk crL crc Sl pt ro Dev imgS recS readS recsF rdW rdO rkT Parts rvl recordsS runsL adrF kcl kys runA
theorem Zh1 {p r:Prop}(k:r)(h:Kq r->p:=by intro k;refine ⟨by repeat (first|with_reducible exact dr_refl|apply dr_keep|apply dr_drop), ?_⟩;refine th_one (i:=6) kqz ?_;exact k.o):p:=h ⟨k⟩
theorem runs12_c {A:SP}{p t mb n:Nat}{over:Bool}{M:MS}{f:TF}{kd:Bool}(ht:Has A t (cl (txcs p mb over) 298):=by exact hbqz)(hmb:Has A mb (mpo .i64 M):=by exact hbqz)(hM:MF M n f)(hn:n<=4194304:=by omega):
    Fn Tryz.prog 206 #[pz t,.bool kd] A (λ r B=>∃a c vs,r= .slice a (runsF n kd f).length c/\ (runsF n kd f).length<=c/\ vs.length=(runsF n kd f).length/\ B=A*Parts vs ((runsF n kd f).map (·.2))*Sl 2 (.slice a (runsF n kd f).length c) (runsF n kd f).length (kcl (runsF n kd f) vs)):=by
  refine fn_enterW func206 rfl ntmps206 (by simp) ?_;have hDl:M.D.length<=n:=mf_len hM;have hal:=adr_len n kd f;refine Zbw ?_;refine Zcb ?_;refine tv (o_nilCheck rfl) ?_;refine tv (o_fieldAddr (o:=1) underlying298 rfl rfl sz296 rfl) ?_;refine tv (o_load p296 rfl ht rfl) ?_;refine tl_x rfl (o_range (ik:= .i64) underlying296 rfl hmb) ?_;rintro _ _ ⟨r16,rfl,rfl⟩;refine Zhq ?_;refine tc_pre (A':=A*pt r16 (mit mb M.c (([]:List ME).map ME.b) M.c)*Sl 1 (.slice none 0 0) 0 []) (λ _ _ h=>sl_nil h) ?_;refine tc_loop (λ kk ρ BB=>∃ (vis:List ME) (a5:Option Addr) (c5:Nat),(Vis M vis)/\ ((kys f kd vis).length<=c5)/\ kk=M.D.length-vis.length/\ ρ 5= .slice a5 (kys f kd vis).length c5/\ ρ 0=(pz t)/\ ρ 1= .bool kd/\ ρ 16=(pz r16)/\ Dr BB (A*pt r16 (mit mb M.c (vis.map ME.b) M.c)*Sl 1 (.slice a5 (kys f kd vis).length c5) (kys f kd vis).length (ints (kys f kd vis)))) (m:=M.D.length-(([]:List ME)).length) ?_ ?_
  . exact ⟨([]:List ME),none,0,vis_nil M,by rw [kys_nil];exact Nat.le_refl _,rfl,by rw [kys_nil];rfl,rfl,rfl,rfl,by rw [kys_nil];exact dr_refl⟩
  intro k ρ B hI;obtain ⟨vis,a5,c5,hp0,hp1,hkk1,hE5,hE0,hE1,hE16,hBA⟩:=hI;refine tc_pre hBA.sat ?_;clear hBA;refine te 5 hE5 ?_;refine te 0 hE0 ?_;refine te 1 hE1 ?_;refine te 16 hE16 ?_;refine sr ?_;refine tl_x rfl (o_next (ik:= .i64) (M:=M) (b:=mb) (seen:=vis.map ME.b) hM.wf rfl ctqz haqz) ?_;rintro _ _ ⟨o17,hnx,rfl,rfl⟩;refine tv (o_exNx rfl) ?_;refine Zf2 ?_;refine tc_cond rfl (λ h=> ?_) (λ h=> ?_)
  . obtain ⟨e,rfl⟩:∃e,o17=some e:=Option.isSome_iff_exists.1 (by simpa using h);have hvs2:=vis_snoc hp0 hnx;have hvl:=vis_len hvs2;have hvl2:(vis++[e]).length=vis.length+1:=(by rw [List.length_append,List.length_singleton]);have hem:=(hnx.yes e rfl).1;obtain ⟨a,c0,ha,hk,hf,hv⟩:=mf_val hM hem;have hky:=kys_snoc f kd vis e;rw [hk,Int.toNat_natCast,isK_some hf] at hky
    have hkl:=kys_len f kd vis;refine tc_eq (show _=A*pt r16 (mit mb M.c (vis.map ME.b++[e.b]) M.c)*Sl 1 (.slice a5 (kys f kd vis).length c5) (kys f kd vis).length (ints (kys f kd vis)) from rfl) ?_;refine Zf4 ?_;refine sr ?_;refine tv (o_entry (ik:= .i64) (M:=M) (b:=mb) (seen:=vis.map ME.b) hM.wf hem rfl (by repeat (first|with_reducible exact has_here|apply has_left)) haqz) ?_;refine tl_env (d:=19) (v:= .tuple #[vn a,.agg (cel0 c0).toArray]) (by rw [hk,hv];rfl) ?_;refine Zn ?_;refine tl_x rfl (o_alloc z360 rfl) ?_;rintro _ _ ⟨b7,rfl,rfl⟩;refine tla ?_;refine tl_u rfl (o_stUN (l':=cel0 c0) rfl upqz sz360 rfl rfl rfl (by show 2<=2;decide) rfl) ?_;refine nq ?_;refine sr ?_;refine tv (o_fieldAddr (o:=1) underlying360 rfl rfl sz4 rfl) ?_;refine tv (o_load p4 rfl hsqz rfl) ?_;refine tlm ?_;refine tv (o_eqb underlying4 rfl rfl) ?_;refine tl_env (d:=25) (v:= .bool (c0.2==kd)) (by first|rfl|(cases c0.2<;>cases kd<;>rfl)) ?_;refine nq ?_;refine tc_cut (λ ρ BB=>∃ (aj:Option Addr) (cj:Nat),((kys f kd (vis++[e])).length<=cj)/\ ρ 5= .slice aj (kys f kd (vis++[e])).length cj/\ ρ 0=(pz t)/\ ρ 1= .bool kd/\ ρ 16=(pz r16)/\ Dr BB (A*pt r16 (mit mb M.c (vis.map ME.b++[e.b]) M.c)*Sl 1 (.slice aj (kys f kd (vis++[e])).length cj) (kys f kd (vis++[e])).length (ints (kys f kd (vis++[e]))))) ?_ ?_
    . skip
      refine tc_cond rfl (λ h=> ?_) (λ h=> ?_)
      . rw [if_pos h] at hky
        refine Zb0 ?_;refine tl_x rfl (o_buildSlice1 underlying34 sz3 z3 wqz rfl) ?_;rintro _ _ ⟨b28,rfl,rfl⟩;refine tl_x rfl (o_apB underlying34 underlying34 sz3 by3 z3 rfl (by decide) (by decide) rfl rfl rfl ctqz rfl (by first|exact bys_all _|exact ints_all _|exact wds_all _|exact bos_all _|rfl) sq2z (by first|exact bys_sn _ _|exact ints_sn _ _|exact wds_sn _ _|exact bos_sn _ _|exact (bys_append _ _).symm|rfl)) ?_;rintro _ _ ⟨a29,c29,rfl,hc29,rfl⟩;refine Zbf ?_;exact ⟨a29,c29,by rw [hky];first|exact hp1|(rw [List.length_append];exact hc29),by rw [hky];first|rfl|(rw [List.length_append];rfl),rfl,rfl,rfl,by first|(rw [hky,List.length_append,List.length_singleton];exact dr_drop dr_refl)|(rw [hky];exact dr_drop dr_refl)⟩
      rw [if_neg (by rw [h];decide),List.append_nil] at hky
      refine tc_skip ?_;exact ⟨a5,c5,by rw [hky];first|exact hp1|(rw [List.length_append];exact hc29),by rw [hky];first|rfl|(rw [List.length_append];rfl),rfl,rfl,rfl,by first|(rw [hky,List.length_append,List.length_singleton];exact dr_drop dr_refl)|(rw [hky];exact dr_drop dr_refl)⟩
    intro ρ B hI;obtain ⟨aj,cj,hj0,hE5,hE0,hE1,hE16,hBA⟩:=hI;refine q_block_n (q_then_n ?_);exact ⟨_,by omega,vis++[e],aj,cj,hvs2,hj0,rfl,hE5,hE0,hE1,hE16,by rw [show (vis++[e]).map ME.b=vis.map ME.b++[e.b] by rw [List.map_append];rfl];exact hBA⟩
  obtain rfl:o17=none:=by cases o17<;>simp at h ⊢
  have hvp:=vis_perm hM.wf hp0 hnx;have hks:=kys_sort (k:=kd) hM hvp;have hkl:=kys_len f kd vis;have hvl:=vis_len hp0;have hkn:(kys f kd vis).length=(adrF n kd f).length:=(by have h9:=congrArg List.length hks;rw [List.length_mergeSort,List.length_map] at h9;exact h9);refine Zcs ?_;refine tl_c rfl (o_call bd260 rfl (Sort_c (zs:=kys f kd vis))) ?_;rintro _ _ ⟨rfl,rfl⟩;rw [hks]
  refine nq ?_;refine Zcb ?_;refine Zgt ?_;refine tc_pre (A':=A*Sl 1 (.slice a5 (kys f kd vis).length c5) (kys f kd vis).length (ints ((adrF n kd f).map λ a:Nat=>(a:Int)))*Parts [] []*Sl 2 (.slice none 0 0) 0 []) (λ g w h=>sl_nil (show sat g w (A*Sl 1 (.slice a5 (kys f kd vis).length c5) (kys f kd vis).length (ints ((adrF n kd f).map λ a:Nat=>(a:Int)))*Parts [] []) by rw [show Parts [] []=emp by unfold Parts;rfl,star_emp];exact Dr.sat drqz g w h)) ?_;refine tc_loop (λ kk ρ BB=>∃ (i:Nat) (out:List (Nat×List Nat)) (vs:List Value) (a8:Option Addr) (c8:Nat),(i<=(adrF n kd f).length)/\ (runsL f ((adrF n kd f).take i)=out)/\ (vs.length=out.length)/\ (out.length<=c8)/\ (out.length<=i)/\ (∀r∈out,r.1+r.2.length<=n)/\ kk=(adrF n kd f).length-i/\ ρ 8= .slice a8 out.length c8/\ ρ 34=(vn i)/\ ρ 0=(pz t)/\ ρ 32= .slice a5 (kys f kd vis).length c5/\ ρ 33= .int .i64 ((kys f kd vis).length:Nat)/\ Dr BB (A*Sl 1 (.slice a5 (kys f kd vis).length c5) (kys f kd vis).length (ints ((adrF n kd f).map λ a:Nat=>(a:Int)))*Parts vs (out.map (·.2))*Sl 2 (.slice a8 out.length c8) out.length (kcl out vs))) (m:=(adrF n kd f).length-(0)) ?_ ?_
  . exact ⟨0,[],[],none,0,by omega,by rw [List.take_zero];unfold runsL;rfl,rfl,Nat.le_refl _,Nat.le_refl _,λ r h=>(by cases h),rfl,rfl,rfl,rfl,rfl,rfl,by rw [kcl_nil];exact dr_refl⟩
  intro k ρ B hI;obtain ⟨i,out,vs,a8,c8,hq0,hq1,hq2,hq3,hq4,hq5,hkk2,hE8,hE34,hE0,hE32,hE33,hBA⟩:=hI;refine tc_pre hBA.sat ?_;clear hBA;refine te 8 hE8 ?_;refine te 34 hE34 ?_;refine te 0 hE0 ?_;refine te 32 hE32 ?_;refine te 33 hE33 ?_;refine Zb9 ?_;refine tc_cond rfl (λ h=> ?_) (λ h=> ?_)
  . have hi:i<(adrF n kd f).length:=(by simp at h;omega);obtain ⟨c0,hf,hck,han⟩:=adr_at hi;obtain ⟨a,haq⟩:∃a,(adrF n kd f)[i]=a:=⟨_,rfl⟩;have hbya:=byF_some hf;have hget:=hM.get ((adrF n kd f)[i]);rw [hf] at hget
    refine tc_have (λ _ _ h=>parts_getD hq2 h.left) λ hps=> ?_
    refine Zdt ?_;refine tv (o_ixP1 underlying34 sz3 rfl rfl oqz (nn_rs (xs:=ints ((adrF n kd f).map λ a:Nat=>(a:Int))) sq0z (by rw [ints_length,List.length_map];omega))) ?_;refine tv (o_ldP (xs:=ints ((adrF n kd f).map λ a:Nat=>(a:Int))) p3 rfl sq0z (ints_at (by rw [List.length_map];exact hi))) ?_;refine tl_env (d:=37) (v:= .int .i64 ((((adrF n kd f)[i]'oqz):Nat):Int)) (by show Value.int .i64 _=_;rw [List.getElem_map]) ?_;refine Zy ?_;refine tv (o_len underlying299 rfl) ?_;refine tv (o_subI rfl rfl oqz) ?_;refine Zci ?_;refine tc_cut (λ ρ BB=>∃ (bb:Bool),(bb=adjB out ((adrF n kd f)[i]'oqz))/\ ρ 58= .bool bb/\ ρ 0=(pz t)/\ ρ 8= .slice a8 out.length c8/\ ρ 10= .int .i64 ((((adrF n kd f)[i]'oqz):Nat):Int)/\ ρ 11= .int .i64 ((out.length:Int)-1)/\ ρ 32= .slice a5 (kys f kd vis).length c5/\ ρ 33= .int .i64 ((kys f kd vis).length:Nat)/\ ρ 34=(vn i)/\ Dr BB (A*Sl 1 (.slice a5 (kys f kd vis).length c5) (kys f kd vis).length (ints ((adrF n kd f).map λ a:Nat=>(a:Int)))*Parts vs (out.map (·.2))*Sl 2 (.slice a8 out.length c8) out.length (kcl out vs))) ?_ ?_
    . skip
      refine tc_regq mo kqz ?_;refine ql_v rfl (o_move wqz) ?_;refine ql_v rfl (o_geq rfl rfl) ?_;refine ql_v rfl (o_move wqz) ?_;refine ql_bool (d:=43) rfl (λ h=> ?_) (λ h=> ?_)
      . have hne:0<out.length:=(by simp at h;omega);obtain ⟨O,r_,hO⟩:=list_snoc hne;obtain ⟨V,xb,xc,hV,hVl,hxc⟩:=parts_last (O:=O) (r:=r_) (by rw [←hO];exact hq2) (by rw [←hO];exact hps);have hOl:out.length-1=O.length:=(by rw [hO,List.length_append,List.length_singleton];omega);have hrn:=hq5 r_ (by rw [hO];simp);have hk0:(kcl out vs)[(out.length-1)*2+0]? =some ((vn r_.1)):=(by rw [hOl,hO,hV];exact kcl_l0 hVl);have hk1:(kcl out vs)[(out.length-1)*2+1]? =some (.slice xb r_.2.length xc):=(by rw [hOl,hO,hV];exact kcl_l1 hVl);refine Zb5 ?_;refine ql_env (d:=45) (v:=(vn (out.length-1))) (by show Value.int .i64 _=_;congr 1;omega) ?_;refine ql_v rfl (o_ixP (a:=a8) underlying299 sz363 rfl rfl oqz (nn_rs (xs:=kcl out vs) sq0z (λ _=>by rw [kcl_len hq2];omega))) ?_;refine ql_v rfl (o_faP (a:=a8) (m:=0) (o:=0) underlying363 rfl rfl sz3 rfl (nn_rs (xs:=kcl out vs) sq0z (λ _=>by rw [kcl_len hq2];omega))) ?_;refine ql_v rfl (o_ldP (a:=a8) (xs:=kcl out vs) p3 rfl sq0z hk0) ?_;refine Zb5 ?_;refine ql_env (d:=50) (v:=(vn (out.length-1))) (by show Value.int .i64 _=_;congr 1;omega) ?_;refine ql_v rfl (o_ixP (a:=a8) underlying299 sz363 rfl rfl oqz (nn_rs (xs:=kcl out vs) sq0z (λ _=>by rw [kcl_len hq2];omega))) ?_;refine ql_v rfl (o_faP (a:=a8) (m:=0) (o:=1) underlying363 rfl rfl sz67 rfl (nn_rs (xs:=kcl out vs) sq0z (λ _=>by rw [kcl_len hq2];omega))) ?_;refine ql_v rfl (o_ldP (a:=a8) (xs:=kcl out vs) p67 rfl sq0z hk1) ?_;refine ql_v rfl (o_len underlying67 rfl) ?_;refine ql_v rfl (o_addI rfl rfl oqz) ?_;refine ql_v rfl (o_move wqz) ?_;refine ql_v rfl (o_eqi rfl rfl) ?_;refine Ze2 ?_;exact ⟨_,by first|(rw [hO,adjB_snoc,decide_eq_decide];omega)|(rw [hne];rfl),rfl,rfl,rfl,rfl,rfl,rfl,rfl,rfl,drqz⟩
      have hne:out=[]:=List.eq_nil_of_length_eq_zero (by simp at h;omega);refine Zhx ?_;refine Zv ?_;refine Zg5 ?_;exact ⟨_,by first|(rw [hO,adjB_snoc,decide_eq_decide];omega)|(rw [hne];rfl),rfl,rfl,rfl,rfl,rfl,rfl,rfl,rfl,drqz⟩
    intro ρ B hI;obtain ⟨bb,hbb0,hE58,hE0,hE8,hE10,hE11,hE32,hE33,hE34,hBA⟩:=hI;refine q_then_n ?_;refine tc_pre hBA.sat ?_;clear hBA;refine te 58 hE58 ?_;refine te 0 hE0 ?_;refine te 8 hE8 ?_;refine te 10 hE10 ?_;refine te 11 hE11 ?_;refine te 32 hE32 ?_;refine te 33 hE33 ?_;refine te 34 hE34 ?_;refine tc_cond rfl (λ h=> ?_) (λ h=> ?_)
    . obtain ⟨O,r_,hO,hadj,hrun⟩:=adj_t (f:=f) (show adjB out ((adrF n kd f)[i]'oqz)=true by rw [←hbb0];exact h);obtain ⟨V,xb,xc,hV,hVl,hxc⟩:=parts_last (O:=O) (r:=r_) (by rw [←hO];exact hq2) (by rw [←hO];exact hps);subst hO hV;have hOl:(O++[r_]).length=O.length+1:=(by rw [List.length_append,List.length_singleton]);have hrn:=hq5 r_ (by simp);refine tc_have (λ _ _ h=>sl_some h oqz) λ ⟨bb8,oo8,ha8⟩=> ?_
      subst ha8;refine tc_eq (show _=A*Sl 1 (.slice a5 (kys f kd vis).length c5) (kys f kd vis).length (ints ((adrF n kd f).map λ a:Nat=>(a:Int)))*Parts V (O.map (·.2))*Sl 1 (.slice xb r_.2.length xc) r_.2.length (bys r_.2)*Sl 2 (.slice (some ⟨bb8,oo8,none⟩) (O++[r_]).length c8) (O++[r_]).length (kcl (O++[r_]) (V++[(.slice xb r_.2.length xc)])) by rw [List.map_append];rw [show Parts (V++[(.slice xb r_.2.length xc)]) (O.map (·.2)++[r_].map (·.2))=Parts V (O.map (·.2))*Sl 1 (.slice xb r_.2.length xc) r_.2.length (bys r_.2) from parts_snoc (by rw [List.length_map];exact hVl)];ac_rfl) ?_;refine tc_seq ?_;refine tc_regh (S:=A*Sl 1 (.slice a5 (kys f kd vis).length c5) (kys f kd vis).length (ints ((adrF n kd f).map λ a:Nat=>(a:Int)))*Parts V (O.map (·.2))) mo drqz ?_
      show TH _ _ _ _ _ 19 (Array.replicate 19 false) _ _
      refine Zea ?_;refine th_env (d:=60) (v:=(vn O.length)) (by show Value.int .i64 _=_;rw [hOl];congr 1;omega) ?_;refine Zcy ?_;refine th_env (d:=62) (v:=(vn O.length)) (by show Value.int .i64 _=_;rw [hOl];congr 1;omega) ?_;refine tm 4 rfl kqz rfl (o_ixP (a:=some ⟨bb8,oo8,none⟩) underlying299 sz363 rfl rfl oqz nn_some) ?_;refine tm 5 rfl kqz rfl (o_faP (a:=some ⟨bb8,oo8,none⟩) (m:=0) (o:=1) underlying363 rfl rfl sz67 rfl nn_some) ?_;refine tm 7 rfl kqz rfl (o_move wqz) ?_;refine tm 8 rfl kqz rfl (o_nilCheck rfl) ?_;refine tm 9 rfl kqz rfl (o_fieldAddr (o:=1) underlying298 rfl rfl sz296 rfl) ?_;refine tm 10 rfl kqz rfl (o_load p296 rfl haqz rfl) ?_;refine tm 11 rfl kqz rfl (o_move wqz) ?_;refine tm 12 rfl kqz rfl (o_lookup (ik:= .i64) underlying296 underlying3 z360 rfl rfl haqz) ?_;refine th_env (d:=71) (v:= .agg (cel0 c0).toArray) (by show (M.get ((((adrF n kd f)[i]'oqz):Nat):Int)).getD _=_;rw [hget];rfl) ?_;refine tm 13 rfl kqz rfl (o_field1 underlying360 rfl p5 rfl rfl) ?_;refine th_two (i:=6) (j:=14) kqz ?_ ?_
      . skip
        refine oh_v rfl rfl rfl (o_ldP (a:=some ⟨bb8,oo8,none⟩) (xs:=kcl (O++[r_]) (V++[(.slice xb r_.2.length xc)])) p67 rfl sq0z (kcl_l1 hVl)) ?_;refine th_one (i:=14) kqz ?_;refine oh_x rfl rfl rfl (o_buildSliceL (k:=1) (vs:=bys [c0.1]) (l:=bys [c0.1]) underlying67 sz5 z5 rfl rfl (by decide) (by decide) (by intro v hv;simp only [bys,b8,List.map_cons,List.map_nil,List.mem_cons,List.not_mem_nil,or_false] at hv;rcases hv with rfl;rfl) rfl) ?_;rintro _ _ ⟨b73,rfl,rfl⟩;refine ⟨by repeat (first|with_reducible exact dr_refl|apply dr_keep|apply dr_drop), ?_⟩;refine th_one (i:=15) kqz ?_;refine oh_x rfl rfl rfl (o_apB underlying67 underlying67 sz5 by5 z5 rfl (by decide) (by decide) rfl rfl rfl ctqz rfl rfl oqz (show _=bys (r_.2++[c0.1]) by rw [←bys_append])) ?_;rintro _ _ ⟨a74,c74,rfl,hc74,rfl⟩;refine ⟨by repeat (first|with_reducible exact dr_refl|apply dr_keep|apply dr_drop), ?_⟩;refine tm 16 rfl kqz rfl (o_ixP (a:=some ⟨bb8,oo8,none⟩) underlying299 sz363 rfl rfl oqz nn_some) ?_;refine tm 17 rfl kqz rfl (o_faP (a:=some ⟨bb8,oo8,none⟩) (m:=0) (o:=1) underlying363 rfl rfl sz67 rfl nn_some) ?_;refine th_one (i:=18) kqz ?_;refine oh_u rfl rfl rfl (o_stP (ys:=kcl (O++[(r_.1,r_.2++[c0.1])]) (V++[.slice a74 (r_.2.length+1) c74])) sz67 rfl rfl rfl ctqz oqz (kcl_set hVl _)) drqz ?_;refine Zbv ?_;refine tc_exit ?_;refine q_then_e (q_block_x (q_then_n ?_));refine Zgo ?_;have hlo:(O++[(r_.1,r_.2++[c0.1])]).length=(O++[r_]).length:=(by rw [List.length_append,List.length_append];rfl);exact ⟨_,by omega,i+1,O++[(r_.1,r_.2++[c0.1])],V++[(.slice a74 (r_.2.length+1) c74)],(some ⟨bb8,oo8,none⟩),c8,by omega,by rw [runs_next hq1 hi,hrun,hbya],by rw [List.length_append,List.length_append,hVl];rfl,by rw [hlo];exact hq3,by rw [hlo];omega,λ r hr=>(by rcases List.mem_append.1 hr with h9|h9;exact hq5 r (List.mem_append_left _ h9);rw [List.mem_singleton] at h9;subst h9;show r_.1+(r_.2++[c0.1]).length<=n;rw [List.length_append,List.length_singleton];omega),rfl,by rw [hlo];rfl,rfl,rfl,rfl,rfl,by rw [hlo,List.map_append,show Parts (V++[(.slice a74 (r_.2.length+1) c74)]) (O.map (·.2)++[(r_.1,r_.2++[c0.1])].map (·.2))=Parts V (O.map (·.2))*Sl 1 (.slice a74 (r_.2.length+1) c74) (r_.2.length+1) (bys (r_.2++[c0.1])) from (parts_snoc (x:=r_.2++[c0.1]) (by rw [List.length_map];exact hVl)).trans (by rw [List.length_append,List.length_singleton]),←star_assoc];repeat (first|with_reducible exact dr_refl|apply dr_keep|apply dr_drop)⟩
      . skip
        refine oh_x rfl rfl rfl (o_buildSliceL (k:=1) (vs:=bys [c0.1]) (l:=bys [c0.1]) underlying67 sz5 z5 rfl rfl (by decide) (by decide) (by intro v hv;simp only [bys,b8,List.map_cons,List.map_nil,List.mem_cons,List.not_mem_nil,or_false] at hv;rcases hv with rfl;rfl) rfl) ?_;rintro _ _ ⟨b73,rfl,rfl⟩;refine Zh1 ?_;refine oh_v rfl rfl rfl (o_ldP (a:=some ⟨bb8,oo8,none⟩) (xs:=kcl (O++[r_]) (V++[(.slice xb r_.2.length xc)])) p67 rfl sq0z (kcl_l1 hVl)) ?_;refine th_one (i:=15) kqz ?_;refine oh_x rfl rfl rfl (o_apB underlying67 underlying67 sz5 by5 z5 rfl (by decide) (by decide) rfl rfl rfl ctqz rfl rfl oqz (show _=bys (r_.2++[c0.1]) by rw [←bys_append])) ?_;rintro _ _ ⟨a74,c74,rfl,hc74,rfl⟩;refine ⟨by repeat (first|with_reducible exact dr_refl|apply dr_keep|apply dr_drop), ?_⟩;refine tm 16 rfl kqz rfl (o_ixP (a:=some ⟨bb8,oo8,none⟩) underlying299 sz363 rfl rfl oqz nn_some) ?_;refine tm 17 rfl kqz rfl (o_faP (a:=some ⟨bb8,oo8,none⟩) (m:=0) (o:=1) underlying363 rfl rfl sz67 rfl nn_some) ?_;refine th_one (i:=18) kqz ?_;refine oh_u rfl rfl rfl (o_stP (ys:=kcl (O++[(r_.1,r_.2++[c0.1])]) (V++[.slice a74 (r_.2.length+1) c74])) sz67 rfl rfl rfl ctqz oqz (kcl_set hVl _)) drqz ?_;refine Zbv ?_;refine tc_exit ?_;refine q_then_e (q_block_x (q_then_n ?_));refine Zgo ?_;have hlo:(O++[(r_.1,r_.2++[c0.1])]).length=(O++[r_]).length:=(by rw [List.length_append,List.length_append];rfl);exact ⟨_,by omega,i+1,O++[(r_.1,r_.2++[c0.1])],V++[(.slice a74 (r_.2.length+1) c74)],(some ⟨bb8,oo8,none⟩),c8,by omega,by rw [runs_next hq1 hi,hrun,hbya],by rw [List.length_append,List.length_append,hVl];rfl,by rw [hlo];exact hq3,by rw [hlo];omega,λ r hr=>(by rcases List.mem_append.1 hr with h9|h9;exact hq5 r (List.mem_append_left _ h9);rw [List.mem_singleton] at h9;subst h9;show r_.1+(r_.2++[c0.1]).length<=n;rw [List.length_append,List.length_singleton];omega),rfl,by rw [hlo];rfl,rfl,rfl,rfl,rfl,by rw [hlo,List.map_append,show Parts (V++[(.slice a74 (r_.2.length+1) c74)]) (O.map (·.2)++[(r_.1,r_.2++[c0.1])].map (·.2))=Parts V (O.map (·.2))*Sl 1 (.slice a74 (r_.2.length+1) c74) (r_.2.length+1) (bys (r_.2++[c0.1])) from (parts_snoc (x:=r_.2++[c0.1]) (by rw [List.length_map];exact hVl)).trans (by rw [List.length_append,List.length_singleton]),←star_assoc];repeat (first|with_reducible exact dr_refl|apply dr_keep|apply dr_drop)⟩
    have hbf:adjB out ((adrF n kd f)[i]'oqz)=false:=(by rw [←hbb0];exact h);refine Ze ?_;refine Zb0 ?_;refine Zba ?_;refine tv (o_fieldAddr (o:=1) underlying298 rfl rfl sz296 rfl) ?_;refine tv (o_load p296 rfl haqz rfl) ?_;refine tlm ?_;refine tv (o_lookup (ik:= .i64) underlying296 underlying3 z360 rfl rfl haqz) ?_;refine tl_env (d:=84) (v:= .agg (cel0 c0).toArray) (by show (M.get ((((adrF n kd f)[i]'oqz):Nat):Int)).getD _=_;rw [hget];rfl) ?_;refine tv (o_field1 underlying360 rfl p5 rfl rfl) ?_;refine tl_x rfl (o_buildSliceL (k:=1) (vs:=bys [c0.1]) (l:=bys [c0.1]) underlying67 sz5 z5 rfl rfl (by decide) (by decide) (by intro v hv;simp only [bys,b8,List.map_cons,List.map_nil,List.mem_cons,List.not_mem_nil,or_false] at hv;rcases hv with rfl;rfl) rfl) ?_;rintro _ _ ⟨b86,rfl,rfl⟩;refine tl_pre (A':=A*Sl 1 (.slice a5 (kys f kd vis).length c5) (kys f kd vis).length (ints ((adrF n kd f).map λ a:Nat=>(a:Int)))*Parts vs (out.map (·.2))*Sl 2 (.slice a8 out.length c8) out.length (kcl out vs)*Sl 1 (.slice (some ⟨b86,0,none⟩) 1 1) 1 (bys [c0.1])) (λ _ _ h=>sl_new (k:=1) (n:=1) (cap:=1) (xs:=bys [c0.1]) h (by decide) (Nat.le_refl _) rfl) ?_;refine tv (o_bS (l:=[_,_]) (pv_cons wqz (pv_cons wqz pv_nil)) underlying363 z363 (pl363 underlying363) rfl) ?_;refine tl_x rfl (o_buildSliceK (k:=2) (l:=[.int .i64 ((((adrF n kd f)[i]'oqz):Nat):Int),.slice (some ⟨b86,0,none⟩) 1 1]) underlying299 sz363 z363 rfl rfl (by decide)) ?_;rintro _ _ ⟨b88,rfl,rfl⟩;refine tl_x rfl (o_apB underlying299 underlying299 sz363 by363 z363 rfl (by decide) (by decide) rfl rfl rfl ctqz rfl rfl oqz (show _=kcl (out++[(((adrF n kd f)[i]'oqz),[(byF f ((adrF n kd f)[i]'oqz))])]) (vs++[.slice (some ⟨b86,0,none⟩) 1 1]) by rw [kcl_snoc hq2])) ?_;rintro _ _ ⟨a89,c89,rfl,hc89,rfl⟩;refine tl_eq (show _=A*Sl 1 (.slice a5 (kys f kd vis).length c5) (kys f kd vis).length (ints ((adrF n kd f).map λ a:Nat=>(a:Int)))*Parts (vs++[.slice (some ⟨b86,0,none⟩) 1 1]) ((out++[(((adrF n kd f)[i]'oqz),[(byF f ((adrF n kd f)[i]'oqz))])]).map (·.2))*Sl 2 (.slice a89 (out.length+1) c89) (out.length+1) (kcl (out++[(((adrF n kd f)[i]'oqz),[(byF f ((adrF n kd f)[i]'oqz))])]) (vs++[.slice (some ⟨b86,0,none⟩) 1 1])) by rw [List.map_append,show Parts (vs++[.slice (some ⟨b86,0,none⟩) 1 1]) (out.map (·.2)++[(((adrF n kd f)[i]'oqz),[(byF f ((adrF n kd f)[i]'oqz))])].map (·.2))=Parts vs (out.map (·.2))*Sl 1 (.slice (some ⟨b86,0,none⟩) 1 1) 1 (bys [c0.1]) by rw [←hbya];exact parts_snoc (by rw [List.length_map];exact hq2)];ac_rfl) ?_;refine Zeo ?_;exact ⟨_,by omega,i+1,out++[(((adrF n kd f)[i]'oqz),[(byF f ((adrF n kd f)[i]'oqz))])],vs++[.slice (some ⟨b86,0,none⟩) 1 1],a89,c89,by omega,by rw [runs_next hq1 hi];exact adj_f hbf,by rw [List.length_append,List.length_append,hq2];rfl,by rw [List.length_append];exact hc89,by rw [List.length_append,List.length_singleton];omega,λ r hr=>by rcases List.mem_append.1 hr with h9|h9;exact hq5 r h9;rw [List.mem_singleton] at h9;subst h9;show _+1<=n;omega,rfl,by rw [List.length_append,List.length_singleton];rfl,rfl,rfl,rfl,rfl,by rw [List.length_append,List.length_singleton];repeat (first|with_reducible exact dr_refl|apply dr_keep|apply dr_drop)⟩
  obtain rfl:i=(adrF n kd f).length:=by simp at h;omega
  rw [List.take_length] at hq1
  refine Zh6 ?_;have e9:runsF n kd f=out:=hq1;rw [e9]
  exact ⟨_,_,res1 rfl rfl,Dr.sat drqz,a8,c8,vs,rfl,hq3,hq2,rfl⟩
end Go.Vl

namespace Go.Vl
open Go Go.Proofs Go.Proofs.Tryz
def ovK (f:TF)(q i:Nat)(xs:List Nat):List Nat:=xs.mapIdx λ j x=>if j<i then ((f (q+j)).map (·.1)).getD x else x
theorem ovK_len (f:TF)(q i:Nat)(xs:List Nat):(ovK f q i xs).length=xs.length:=by simp [ovK]
theorem ovK_zero (f:TF)(q:Nat)(xs:List Nat):ovK f q 0 xs=xs:=by
  apply List.ext_getElem?;intro j;unfold ovK;rw [List.getElem?_mapIdx]
  cases xs[j]? <;>simp
theorem ovK_all (f:TF)(q:Nat)(xs:List Nat):ovK f q xs.length xs=ovF f q xs:=by
  apply List.ext_getElem?;intro j;unfold ovK ovF;rw [List.getElem?_mapIdx,List.getElem?_mapIdx]
  cases h:xs[j]? with
  |none=>rfl
  |some x=>obtain ⟨hj,_⟩:=List.getElem?_eq_some_iff.1 h;simp only [Option.map_some];rw [if_pos hj]
theorem ovK_none {f:TF}{q i:Nat}{xs:List Nat}(h:f (q+i)=none):ovK f q (i+1) xs=ovK f q i xs:=by
  apply List.ext_getElem?;intro j;unfold ovK;rw [List.getElem?_mapIdx,List.getElem?_mapIdx]
  cases xs[j]? with
  |none=>rfl
  |some x=>
    simp only [Option.map_some]
    by_cases hj:j=i
    . subst hj;rw [if_pos oqz,if_neg oqz,h];rfl
    by_cases h2:j<i
    . rw [if_pos (show j<i+1 by omega),if_pos h2]
    rw [if_neg (show¬j<i+1 by omega),if_neg h2]
theorem ovK_some {f:TF}{q i:Nat}{xs:List Nat}{c:Nat×Bool}(h:f (q+i)=some c)(hi:i<xs.length):(ovK f q i xs).set i c.1=ovK f q (i+1) xs:=by
  apply List.ext_getElem?;intro j
  rw [List.getElem?_set,ovK_len]
  unfold ovK;rw [List.getElem?_mapIdx,List.getElem?_mapIdx]
  by_cases hj:i=j
  . subst hj;rw [if_pos rfl,if_pos hi,List.getElem?_eq_getElem hi]
    simp only [Option.map_some];rw [if_pos oqz,h];rfl
  rw [if_neg hj]
  cases xs[j]? with
  |none=>rfl
  |some x=>
    simp only [Option.map_some]
    by_cases h2:j<i
    . rw [if_pos (show j<i+1 by omega),if_pos h2]
    rw [if_neg (show¬j<i+1 by omega),if_neg h2]
theorem ext_succ {L:List (Nat×List Nat)}{i:Nat}(h:i<L.length):extX (L.take (i+1))=extX (L.take i)++[((((L.getD i (0,[])).1:Nat):Int),(((L.getD i (0,[])).2.length:Nat):Int))]:=by
  have e:L.getD i (0,[])=L[i]:=(by rw [List.getD_eq_getElem?_getD,List.getElem?_eq_getElem h];rfl);rw [List.take_succ_eq_append_getElem h,e];unfold extX;rw [List.map_append];rfl
theorem ext_len (L:List (Nat×List Nat)):(extX L).length=L.length:=by unfold extX;rw [List.length_map]
theorem xcl_sn (l:List (Int×Int))(x:Int×Int):xcl (l++[x])=xcl l++xcs x:=by unfold xcl;rw [List.flatMap_append];simp
theorem runs12_w {A:SP}{p t mb n:Nat}{over:Bool}{M:MS}{f:TF}{kd:Bool}{L:List (Nat×List Nat)}(ht:Has A t (cl (txcs p mb over) 298))(hmb:Has A mb (mpo .i64 M))(hM:MF M n f)(hn:n<=4194304)(hX:runsF n kd f=L):
    Fn Tryz.prog 206 #[pz t,.bool kd] A (λ r B=>∃a c vs,r= .slice a L.length c/\ L.length<=c/\ vs.length=L.length/\ B=A*Parts vs (L.map (·.2))*Sl 2 (.slice a L.length c) L.length (kcl L vs)):=by
  subst hX;exact runs12_c ht hmb hM hn
attribute [local irreducible] crk crL crc Sl pt ro Dev imgS recS readS recsF rdW rdO rkT Parts rvl recordsS runsL adrF kcl xcl kys runA runsF layF
theorem StoreT_c {A R:SP}{C:SP->SP}{t p lg d mb at_ sz:Nat}{M:MS}{s:DevS}(hc:Ct A (TxA t p lg d mb at_ sz M false s) R C:=by exact cbqz){n:Nat}{f:TF}{a:Option Addr}{c m q:Nat}{xs:List Nat}(hM:MF M n f)(hn:n=s.ls.length*64:=by omega)(ho:s.off=false:=by assumption)(hr:Rs R a (bys xs):=by exact rbqz)(hm:xs.length=m:=by first|assumption|rfl)(hb:∀x∈xs,x<256:=by assumption)(hqm:q+m<=n:=by omega):
    Fn Tryz.prog 186 #[pz t,vn q,.slice a m c] A (λ r B=>∃M2,r= .int .i64 0/\ MF M2 n (layF q xs false f)/\ B=C (TxA t p lg d mb at_ sz M2 false s)):=by
  refine fn_enterW func186 rfl ntmps186 (by simp) ?_;refine Zdg ?_;refine Zt ?_;refine tl_c rfl (o_call bd255 rfl (lay12_c (hc:=hc) (n:=n) (f:=f) (fr:=false) (xs:=xs) (hM:=hM) (hn:=hn) (ho:=ho) (hr:=hr) (hm:=hm) (hb:=hb) (hqm:=hqm))) ?_;rintro _ _ ⟨M2,rfl,hM2,rfl⟩;refine Zl ?_;exact ⟨.int .i64 0,_,res1 rfl rfl,λ _ _ h=>h,M2,rfl,hM2,rfl⟩
theorem FreshT_c {A R:SP}{C:SP->SP}{t p lg d mb at_ sz:Nat}{M:MS}{s:DevS}(hc:Ct A (TxA t p lg d mb at_ sz M false s) R C:=by exact cbqz){n:Nat}{f:TF}{a:Option Addr}{c m q:Nat}{xs:List Nat}(hM:MF M n f)(hn:n=s.ls.length*64:=by omega)(ho:s.off=false:=by assumption)(hr:Rs R a (bys xs):=by exact rbqz)(hm:xs.length=m:=by first|assumption|rfl)(hb:∀x∈xs,x<256:=by assumption)(hqm:q+m<=n:=by omega):
    Fn Tryz.prog 187 #[pz t,vn q,.slice a m c] A (λ r B=>∃M2,r= .int .i64 0/\ MF M2 n (layF q xs true f)/\ B=C (TxA t p lg d mb at_ sz M2 false s)):=by
  refine fn_enterW func187 rfl ntmps187 (by simp) ?_;refine Zdg ?_;refine Zt ?_;refine tl_c rfl (o_call bd255 rfl (lay12_c (hc:=hc) (n:=n) (f:=f) (fr:=true) (xs:=xs) (hM:=hM) (hn:=hn) (ho:=ho) (hr:=hr) (hm:=hm) (hb:=hb) (hqm:=hqm))) ?_;rintro _ _ ⟨M2,rfl,hM2,rfl⟩;refine Zl ?_;exact ⟨.int .i64 0,_,res1 rfl rfl,λ _ _ h=>h,M2,rfl,hM2,rfl⟩
theorem LoadT_c {A R:SP}{C:SP->SP}{t p lg d mb at_ sz:Nat}{M:MS}{s:DevS}(hc:Ct A (TxA t p lg d mb at_ sz M false s) R C:=by exact cbqz){n:Nat}{f:TF}{q m:Nat}(hM:MF M n f)(hn:n=s.ls.length*64:=by omega)(ho:s.off=false:=by assumption)(hqm:q+m<=n:=by omega):
    Fn Tryz.prog 204 #[pz t,vn q,vn m] A (λ r B=>∃a c,r= .tuple #[.slice a m c,.int .i64 0]/\ m<=c/\ B=A*Sl 1 (.slice a m c) m (bys (ovF f q (((imgS s).drop q).take m)))):=by
  refine fn_enterW func204 rfl ntmps204 (by simp) ?_;obtain ⟨rfl,hC⟩:=hc;refine tc_eq (show _=R*pt p (cl (pocs lg d (some t)) 263)*pt lg (cl (lcs11 d at_ sz) 258)*Dev d s*pt t (cl (txcs p mb false) 298)*pt mb (mpo .i64 M) by unfold TxA;rw [if_neg (by decide)];ac_rfl) ?_;refine tc_have (λ _ _ h=>ct_wf2 ctqz h) λ hwf=> ?_
  have htop:=hwf.top;have hil:=imgS_len hwf;obtain ⟨xs,hxs⟩:∃xs,(((imgS s).drop q).take m)=xs:=⟨_,rfl⟩;have hxl:xs.length=m:=(by rw [←hxs,List.length_take,List.length_drop];omega);refine Zdi ?_;refine tl_c rfl (o_call bd205 rfl (begun12_c (s:=s))) ?_;refine Zij ?_;intro h;refine Zew ?_;refine Zb7 ?_;refine Zdf ?_;refine tv (o_load p44 rfl hsqz rfl) ?_;refine Zt ?_;refine tl_c rfl (o_call bd247 rfl (Load_c (s:=s) (p:=q) (m:=m))) ?_;rintro _ _ ⟨a29,c29,rfl,hc29,rfl⟩;rw [hxs]
  refine Zdu ?_;refine Zes ?_;refine tc_loop (λ kk ρ BB=>∃ (i:Nat),(i<=m)/\ kk=m-i/\ ρ 34=(vn i)/\ ρ 0=(pz t)/\ ρ 1=(vn q)/\ ρ 9= .slice a29 m c29/\ ρ 10= .int .i64 0/\ ρ 33=(vn m)/\ Dr BB (R*pt p (cl (pocs lg d (some t)) 263)*pt lg (cl (lcs11 d at_ sz) 258)*Dev d s*pt t (cl (txcs p mb false) 298)*pt mb (mpo .i64 M)*Sl 1 (.slice a29 m c29) m (bys (ovK f q i xs)))) (m:=m-(0)) ?_ ?_
  . exact ⟨0,by omega,rfl,rfl,rfl,rfl,rfl,rfl,rfl,by rw [ovK_zero];exact dr_refl⟩
  intro k ρ B hI;obtain ⟨i,hp0,hkk1,hE34,hE0,hE1,hE9,hE10,hE33,hBA⟩:=hI;refine tc_pre hBA.sat ?_;clear hBA;refine te 34 hE34 ?_;refine te 0 hE0 ?_;refine te 1 hE1 ?_;refine te 9 hE9 ?_;refine te 10 hE10 ?_;refine te 33 hE33 ?_;refine Zb9 ?_;refine tc_cond rfl (λ h=> ?_) (λ h=> ?_)
  . have hi:i<xs.length:=(by simp at h;omega);have hget:=hM.get (q+i);obtain ⟨o,ho9⟩:∃o,f (q+i)=o:=⟨_,rfl⟩;rw [ho9] at hget
    have hkl:=ovK_len f q i xs;refine Zen ?_;refine Zfu ?_;refine Zcz ?_;refine Zt ?_;refine tv adqz ?_;refine tl_env (d:=44) (v:=(vn (q+i))) (by first|rfl|(show Value.int .i64 _=_;congr 1;omega)) ?_;refine tv (o_lookupOk (ik:= .i64) underlying296 underlying3 z360 rfl rfl hsqz) ?_;refine tl_env (d:=45) (v:= .tuple #[.agg (cel0 (o.getD (0,false))).toArray,.bool o.isSome]) (by show Value.tuple #[(M.get ((q+i:Nat):Int)).getD _,.bool (M.get ((q+i:Nat):Int)).isSome]=_;rw [hget];cases o<;>rfl) ?_;refine Zbn ?_;refine tl_x rfl (o_alloc z360 rfl) ?_;rintro _ _ ⟨b12,rfl,rfl⟩;refine tl_u rfl (o_stUN (l':=cel0 (o.getD (0,false))) rfl upqz sz360 rfl rfl rfl (by show 2<=2;decide) rfl) ?_;refine Zz ?_;refine nq ?_;refine tc_cut (λ ρ BB=>ρ 0=(pz t)/\ ρ 1=(vn q)/\ ρ 9= .slice a29 m c29/\ ρ 10= .int .i64 0/\ ρ 33=(vn m)/\ ρ 34=(vn i)/\ Dr BB (R*pt p (cl (pocs lg d (some t)) 263)*pt lg (cl (lcs11 d at_ sz) 258)*Dev d s*pt t (cl (txcs p mb false) 298)*pt mb (mpo .i64 M)*Sl 1 (.slice a29 m c29) m (bys (ovK f q (i+1) xs)))) ?_ ?_
    . skip
      refine tc_cond rfl (λ h=> ?_) (λ h=> ?_)
      . obtain ⟨c0,rfl⟩:∃c0,o=some c0:=by cases o<;>simp at h ⊢
        have hc8:=hM.by_ _ _ ho9;refine Zb0 ?_;refine tv (o_fieldAddr (o:=0) underlying360 rfl rfl sz5 rfl) ?_;refine tv (by first|exact o_load p5 rfl hsqz rfl|exact o_loadC p5 rfl (by assumption)) ?_;refine tv (o_ixP1 underlying67 sz5 rfl rfl oqz (nn_rs (xs:=bys (ovK f q i xs)) sq0z (by rw [bys_length];omega))) ?_;refine tl_u rfl (o_stP (ys:=bys ((ovK f q i xs).set i c0.1)) sz5 rfl rfl rfl ctqz oqz (bys_set _ _ _)) ?_;refine tl_nil ?_;exact ⟨rfl,rfl,rfl,rfl,rfl,rfl,by first|(rw [ovK_none ho9];exact dr_drop dr_refl)|(rw [←ovK_some ho9 hi];repeat (first|with_reducible exact dr_refl|apply dr_keep|apply dr_drop))⟩
      obtain rfl:o=none:=by cases o<;>simp at h ⊢
      refine tc_skip ?_;exact ⟨rfl,rfl,rfl,rfl,rfl,rfl,by first|(rw [ovK_none ho9];exact dr_drop dr_refl)|(rw [←ovK_some ho9 hi];repeat (first|with_reducible exact dr_refl|apply dr_keep|apply dr_drop))⟩
    intro ρ B hI;obtain ⟨hE0,hE1,hE9,hE10,hE33,hE34,hBA⟩:=hI;refine q_block_n (q_then_n ?_);refine tc_pre hBA.sat ?_;clear hBA;refine te 0 hE0 ?_;refine te 1 hE1 ?_;refine te 9 hE9 ?_;refine te 10 hE10 ?_;refine te 33 hE33 ?_;refine te 34 hE34 ?_;refine Zgo ?_;exact ⟨_,by omega,i+1,by omega,rfl,rfl,rfl,rfl,rfl,rfl,rfl,drqz⟩
  obtain rfl:i=m:=by simp at h;omega
  refine Zcs ?_;refine tlm ?_;refine Z6 ?_;have e9:ovK f q i xs=ovF f q xs:=(by rw [←hxl];exact ovK_all f q xs);rw [e9]
  exact ⟨_,R*TxA t p lg d mb at_ sz M false s*Sl 1 (.slice a29 i c29) i (bys (ovF f q xs)),res2 rfl rfl rfl,λ g w h=>(Dr.sat (A':=R*pt p (cl (pocs lg d (some t)) 263)*pt lg (cl (lcs11 d at_ sz) 258)*Dev d s*pt t (cl (txcs p mb false) 298)*pt mb (mpo .i64 M)*Sl 1 (.slice a29 i c29) i (bys (ovF f q xs))) drqz g w h).perm (by unfold TxA;rw [if_neg (by decide)];ac_rfl),a29,c29,rfl,hc29,rfl⟩
theorem Zd2 {p r:Prop}(k:r)(h:Kq r->p:=by intro k;refine tv (o_fieldAddr (o:=0) underlying363 rfl rfl sz3 rfl) ?_;refine tv (o_load p3 rfl hsqz rfl) ?_;exact k.o):p:=h ⟨k⟩
theorem Zfd {p r:Prop}(k:r)(h:Kq r->p:=by intro k;refine tv (o_fieldAddr (o:=1) underlying363 rfl rfl sz67 rfl) ?_;refine tv (o_load p67 rfl hsqz rfl) ?_;exact k.o):p:=h ⟨k⟩
theorem Extents12_c {A:SP}{p t mb n:Nat}{M:MS}{f:TF}{L:List (Nat×List Nat)}(ht:Has A t (cl (txcs p mb false) 298):=by exact hbqz)(hmb:Has A mb (mpo .i64 M):=by exact hbqz)(hM:MF M n f)(hn:n<=4194304:=by omega)(hX:runsF n false f=L)(hLl:L.length<=4194304):
    Fn Tryz.prog 207 #[pz t] A (λ r B=>∃a c,r= .slice a L.length c/\ L.length<=c/\ B=A*Sl 2 (.slice a L.length c) L.length (xcl (extX L))):=by
  refine fn_enterW func207 rfl ntmps207 (by simp) ?_;refine Zcb ?_;refine tv (o_eqp underlying122 rfl rfl) ?_;refine tlm ?_;refine tl_bool (d:=8) rfl dbq (sbq ?_);intro h;refine Zgd ?_;refine tv (o_load p163 rfl ht rfl) ?_;refine tv (o_eqp underlying163 rfl rfl) ?_;refine Zbo ?_;refine tl_bool (d:=15) rfl dbq (sbq ?_);intro h;refine Zba ?_;refine tv (o_fieldAddr (o:=2) underlying298 rfl rfl sz4 rfl) ?_;refine tv (o_load p4 rfl ht rfl) ?_;refine Zdz ?_;intro h;refine Ze ?_;refine Zcb ?_;refine tl_c rfl (o_call bd206 rfl (runs12_w ht hmb hM hn hX)) ?_;rintro _ _ ⟨a22,c22,vs,rfl,hc22,hvs,rfl⟩;refine tl_have (λ _ _ h=>parts_getD hvs h.left) λ hps=> ?_
  refine tv (o_len underlying299 rfl) ?_;refine Zb6 ?_;refine tc_pre (A':=A*Parts vs (L.map (·.2))*Sl 2 (.slice a22 L.length c22) L.length (kcl L vs)*Sl 2 (.slice none 0 0) 0 []) (λ _ _ h=>sl_nil h) ?_;refine tc_loop (λ kk ρ BB=>∃ (i:Nat) (a3:Option Addr) (c3:Nat),(i<=L.length)/\ (i<=c3)/\ kk=L.length-i/\ ρ 3= .slice a3 i c3/\ ρ 24=(vn i)/\ ρ 22= .slice a22 L.length c22/\ ρ 23=(vn L.length)/\ Dr BB (A*Parts vs (L.map (·.2))*Sl 2 (.slice a22 L.length c22) L.length (kcl L vs)*Sl 2 (.slice a3 i c3) i (xcl (extX (L.take i))))) (m:=L.length-(0)) ?_ ?_
  . exact ⟨0,none,0,by omega,by omega,rfl,rfl,rfl,rfl,rfl,by rw [List.take_zero,show extX []=[] from rfl,xcl_nil];exact dr_refl⟩
  intro k ρ B hI;obtain ⟨i,a3,c3,hp0,hp1,hkk1,hE3,hE24,hE22,hE23,hBA⟩:=hI;refine tc_pre hBA.sat ?_;clear hBA;refine te 3 hE3 ?_;refine te 24 hE24 ?_;refine te 22 hE22 ?_;refine te 23 hE23 ?_;refine Zb9 ?_;refine tc_cond rfl (λ h=> ?_) (λ h=> ?_)
  . have hi:i<L.length:=(by simp at h;omega);obtain ⟨xb,xc,hv,hxc⟩:=hps i hi;have hkat:=kcl_at hvs hi;rw [hv] at hkat
    refine Zdt ?_;refine tv (o_ixP (a:=a22) underlying299 sz363 rfl rfl oqz (nn_rs (xs:=kcl L vs) sq0z (λ _=>by rw [kcl_len hvs];omega))) ?_;refine tv (o_ldPN (a:=a22) (xs:=kcl L vs) (vs:=[.int .i64 (((L.getD i (0,[])).1:Nat):Int),.slice xb (L.getD i (0,[])).2.length xc]) a363 sz363 rfl sq0z hkat rfl (by decide)) ?_;refine tl_x rfl (o_alloc z363 rfl) ?_;rintro _ _ ⟨b5,rfl,rfl⟩;refine tl_u rfl (o_stUN (l':=[.int .i64 (((L.getD i (0,[])).1:Nat):Int),.slice xb (L.getD i (0,[])).2.length xc]) rfl upqz sz363 rfl rfl rfl (by show 2<=2;decide) rfl) ?_;refine nq ?_;refine Zbr ?_;refine Zd2 ?_;refine Zfd ?_;refine tv (o_len underlying67 rfl) ?_;refine tv (o_bS (l:=[_,_]) (pv_cons wqz (pv_cons wqz pv_nil)) underlying365 z365 (pl365 underlying365) rfl) ?_;refine tl_x rfl (o_buildSliceK (k:=2) (l:=xcs ((((L.getD i (0,[])).1:Nat):Int),(((L.getD i (0,[])).2.length:Nat):Int))) underlying301 sz365 z365 rfl rfl (by decide)) ?_;rintro _ _ ⟨b35,rfl,rfl⟩;refine tl_x rfl (o_apB underlying301 underlying301 sz365 by365 z365 rfl (by decide) (by decide) rfl rfl rfl ctqz rfl rfl oqz rfl) ?_;rintro _ _ ⟨a36,c36,rfl,hc36,rfl⟩;refine Zeo ?_;exact ⟨_,by omega,i+1,_,_,by omega,hc36,rfl,rfl,rfl,rfl,rfl,by rw [ext_succ hi,xcl_sn];repeat (first|with_reducible exact dr_refl|apply dr_keep|apply dr_drop)⟩
  obtain rfl:i=L.length:=by simp at h;omega
  rw [List.take_length]
  refine Zh6 ?_;exact ⟨_,_,res1 rfl rfl,Dr.sat drqz,a3,c3,rfl,hp1,rfl⟩
theorem DropT_c {A R:SP}{C:SP->SP}{t p lg d mb at_ sz:Nat}{M:MS}{s:DevS}(hc:Ct A (TxA t p lg d mb at_ sz M false s) R C:=by exact cbqz):
    Fn Tryz.prog 132 #[pz t] A (λ r B=>r= .int .i64 0/\ B=C (TxA t p lg d mb at_ sz M.clr true s)):=by
  refine fn_enterW func132 rfl ntmps132 (by simp) ?_;obtain ⟨rfl,hC⟩:=hc;refine tc_eq (show _=R*pt p (cl (pocs lg d (some t)) 263)*pt lg (cl (lcs11 d at_ sz) 258)*Dev d s*pt t (cl (txcs p mb false) 298)*pt mb (mpo .i64 M) by unfold TxA;rw [if_neg (by decide)];ac_rfl) ?_;refine tc_have (λ _ _ h=>ct_wf2 ctqz h) λ hwf=> ?_
  have htop:=hwf.top;refine Zbw ?_;refine Zu ?_;refine Zb ?_;refine Zii ?_;intro h;refine Zba ?_;refine Zb7 ?_;refine Zgv ?_;refine Zep ?_;intro h;refine Ze4 ?_;refine tv (o_load p4 rfl hsqz rfl) ?_;refine Zep ?_;intro h;refine Zfj ?_;refine Zb ?_;refine tl_c rfl (o_call bd212 rfl (end12_c (R:=R*pt lg (cl (lcs11 d at_ sz) 258)*Dev d s) (p:=p) (lg:=lg) (d:=d) (mb:=mb) (M:=M) (over:=false) (hA:=by first|rfl|ac_rfl))) ?_;refine Zgn ?_;refine Zcd ?_;exact ⟨.int .i64 0,_,res1 rfl rfl,λ g w h=>by rw [hC];exact h.perm (by unfold TxA;rw [if_pos rfl];ac_rfl),rfl,rfl⟩
theorem DropO_c {A:SP}{p t mb:Nat}(ht:Has A t (cl (txcs p mb true) 298):=by exact hbqz):
    Fn Tryz.prog 132 #[pz t] A (λ r B=>r= .int .i64 3/\ A=B):=by
  refine fn_enterW func132 rfl ntmps132 (by simp) ?_;refine Zbw ?_;refine Zu ?_;refine Zb ?_;refine Zii ?_;intro h;refine Zgd ?_;refine tv (o_load p163 rfl ht rfl) ?_;refine Zgv ?_;refine Zep ?_;intro h;refine Ze4 ?_;refine tv (o_load p4 rfl ht rfl) ?_;refine Za ?_;refine tc_cond rfl (sbq ?_) dbq;intro h;refine Zif ?_;exact ⟨.int .i64 3,_,res1 rfl rfl,Dr.sat drqz,rfl,rfl⟩
end Go.Vl

namespace Go.Vl
open Go Go.Proofs Go.Proofs.Tryz
theorem o_max2 {P:Program}{n:Nat}{ρ:Env}{A:SP}{dst:Option Tmp}{ty t t':TypeId}{pos:String}{after:Array Edge}{gd:Option (Nat×Bool)}{x y:Operand}{a b:Nat}(hu:P.underlying ty=some (.int .i64))(hx:ev n ρ x=(vn a))(hy:ev n ρ y=(vn b)):
    OpV P n ρ A ⟨dst,.call { callee:= .builtin .max,args:= #[x,y],argTypes:= #[t,t'] },ty,pos,after,gd⟩ ((vn (max a b))):=λ g w hs=>by
  simp only [execOp,resolve,List.map_toArray,List.map_cons,List.map_nil,hx,hy]
  rw [run_bind (w':=w) (a:=⟨.builtin .max #[t,t'] ty _,#[vn a,vn b]⟩) (by rfl)]
  simp only [invoke,builtin]
  rw [run_bind (w':=w) (a:=(vn (max a b)))]
  . rfl
  have e:(if (b:Int)>(a:Int) then (b:Int) else (a:Int))=((max a b:Nat):Int):=(by split<;>omega)
  simp [Builtin.max_,Builtin.max2,List.foldlM,Sem.run_bind,←e]
theorem drop_getD {L:List (Nat×List Nat)}{i:Nat}(h:i<L.length):L.drop i=L.getD i (0,[])::L.drop (i+1):=by
  rw [List.drop_eq_getElem_cons h,List.getD_eq_getElem?_getD,List.getElem?_eq_getElem h];rfl
theorem stoL_cons (r:Nat×List Nat)(l:List (Nat×List Nat))(s:DevS):stoL (r::l) s=if (sto (r.1:Nat) r.2 s).1≠0 then sto (r.1:Nat) r.2 s else stoL l (sto (r.1:Nat) r.2 s).2:=rfl
theorem stoL_e {L:List (Nat×List Nat)}{i:Nat}{s s2:DevS}{e:Int}(hi:i<L.length)(h:sto ((L.getD i (0,[])).1:Nat) (L.getD i (0,[])).2 s=(e,s2))(he:e≠0):stoL (L.drop i) s=(e,s2):=by
  rw [drop_getD hi,stoL_cons,h,if_pos he]
theorem stoL_o {L:List (Nat×List Nat)}{i:Nat}{s s2:DevS}(hi:i<L.length)(h:sto ((L.getD i (0,[])).1:Nat) (L.getD i (0,[])).2 s=(0,s2)):stoL (L.drop i) s=stoL (L.drop (i+1)) s2:=by
  rw [drop_getD hi,stoL_cons,h,if_neg (by simp)]
theorem linR_at {L:List (Nat×List Nat)}{j dn:Nat}(h:j<L.length):linR (L.drop j) dn=(List.range ((((L.getD j (0,[])).1+(L.getD j (0,[])).2.length-1)/64)+1-(max ((L.getD j (0,[])).1/64) dn))).map (λ i=>(max ((L.getD j (0,[])).1/64) dn)+i)++linR (L.drop (j+1)) (max dn ((((L.getD j (0,[])).1+(L.getD j (0,[])).2.length-1)/64)+1)):=by
  rw [drop_getD h];rfl
theorem flLs_cons (q:Nat)(l:List Nat)(s:DevS):flLs (q::l) s=if (fl1 ((q*64:Nat):Int) s).1≠0 then fl1 ((q*64:Nat):Int) s else flLs l (fl1 ((q*64:Nat):Int) s).2:=rfl
theorem range_step {k q:Nat}(h:q<k):(List.range (k-q)).map (λ i=>q+i)=q::(List.range (k-(q+1))).map (λ i=>q+1+i):=by
  rw [show k-q=(k-(q+1))+1 by omega,List.range_succ_eq_map,List.map_cons,List.map_map]
  congr 1
  apply List.map_congr_left
  intro i _
  show q+(i+1)=q+1+i
  omega
theorem flLs_e {q:Nat}{l:List Nat}{s s2:DevS}{e:Int}(h:fl1 ((q*64:Nat):Int) s=(e,s2))(he:e≠0):flLs (q::l) s=(e,s2):=by rw [flLs_cons,h,if_pos he]
theorem flLs_o {q:Nat}{l:List Nat}{s s2:DevS}(h:fl1 ((q*64:Nat):Int) s=(0,s2)):flLs (q::l) s=flLs l s2:=by rw [flLs_cons,h,if_neg (by simp)]
theorem writeT_e {L:List (Nat×List Nat)}{s s1:DevS}{e:Int}(h:stoL L s=(e,s1))(he:e≠0):writeT L s=(e,s1):=by unfold writeT;rw [h,if_pos he]
theorem writeT_o {L:List (Nat×List Nat)}{s s1:DevS}{X:Int×DevS}(h:stoL L s=(0,s1))(h2:flLs (linR L 0) s1=X):writeT L s=X:=by unfold writeT;rw [h,if_neg (by simp),h2]
def RunW (n:Nat)(L:List (Nat×List Nat)):Prop:=∀r∈L,1<=r.2.length/\ r.1+r.2.length<=n/\∀b∈r.2,b<256
attribute [local irreducible] crk crL crc Sl pt ro Dev imgS recS readS recsF rdW rdO rkT Parts rvl recordsS runsL adrF kcl xcl kys runA runsF layF linR flLs stoL
theorem Zid {p r:Prop}(k:r)(h:Kq r->p:=by intro k;refine nq ?_;refine Zb ?_;exact k.o):p:=h ⟨k⟩
theorem write12_c {A R:SP}{C:SP->SP}{d:Nat}{s:DevS}(hc:Ct A (Dev d s) R C:=by exact cbqz){p lg t mb:Nat}{ov:Option Nat}{over:Bool}(ht:Has R t (cl (txcs p mb over) 298):=by exact hbqz)(hp:Has R p (cl (pocs lg d ov) 263):=by exact hbqz){a:Option Addr}{c m n:Nat}{L:List (Nat×List Nat)}{vs:List Value}(hr:Rs R a (kcl L vs):=by exact rbqz)(hvs:vs.length=L.length:=by assumption)(hps:PsR R L vs)(hcp:∀k,k<L.length->∃b c,vs.getD k (.slice none 0 0)= .slice b (L.getD k (0,[])).2.length c/\ (L.getD k (0,[])).2.length<=c)(hW:RunW n L)(hn:n=s.ls.length*64:=by omega)(hm:L.length=m:=by first|assumption|rfl)(hml:m<=4194304:=by omega)(hroom:Room (sumL L) s:=by assumption):
    Fn Tryz.prog 208 #[pz t,.slice a m c] A (λ r B=>∃e s2,writeT L s=(e,s2)/\ r= .int .i64 e/\ B=C (Dev d s2)):=by
  refine fn_enterW func208 rfl ntmps208 (by simp) ?_;obtain ⟨rfl,hC⟩:=hc;refine tc_have (λ _ _ h=>ct_wf2 ctqz h) λ hwf=> ?_
  have htop:=hwf.top;refine Zhh ?_;refine tv (o_fieldAddr (o:=0) underlying298 rfl rfl sz163 rfl) ?_;refine tv (o_load p163 rfl haqz rfl) ?_;refine Zdf ?_;refine tv (o_load p44 rfl haqz rfl) ?_;refine Zy ?_;refine tv (o_len underlying299 rfl) ?_;refine Zb6 ?_;refine tc_loop (λ kk ρ BB=>∃ (i:Nat) (s1:DevS),(i<=m)/\ (stoL (L.drop i) s1=stoL L s)/\ (s1.ls.length=s.ls.length)/\ (Room (sumL (L.drop i)) s1)/\ kk=m-i/\ ρ 23=(vn i)/\ ρ 1= .slice a m c/\ ρ 5=(pz d)/\ ρ 21= .slice a m c/\ ρ 22=(vn m)/\ Dr BB (R*Dev d s1)) (m:=m-(0)) ?_ ?_
  . exact ⟨0,s,by omega,rfl,rfl,by rw [List.drop_zero];exact hroom,rfl,rfl,rfl,rfl,rfl,rfl,drqz⟩
  intro k ρ B hI;obtain ⟨i,s1,hp0,hp1,hp2,hp3,hkk1,hE23,hE1,hE5,hE21,hE22,hBA⟩:=hI;refine tc_pre hBA.sat ?_;clear hBA;refine te 23 hE23 ?_;refine te 1 hE1 ?_;refine te 5 hE5 ?_;refine te 21 hE21 ?_;refine te 22 hE22 ?_;refine Zb9 ?_;refine tc_cond rfl (λ h=> ?_) (λ h=> ?_)
  . have hi:i<L.length:=(by simp at h;omega);obtain ⟨hw1_,hw2_,hwb⟩:=hW _ (getD_mem hi);obtain ⟨xb,xc,hv,hrb,hrl⟩:=hps i hi;obtain ⟨xb2,xc2,hv2,hxc⟩:=hcp i hi;rw [hv] at hv2
    simp only [Value.slice.injEq] at hv2
    obtain ⟨rfl,_,rfl⟩:=hv2;have hkat:=kcl_at hvs hi;rw [hv] at hkat
    refine tc_have (λ _ _ h=>ct_wf2 ctqz h) λ hw1=> ?_
    refine Zdt ?_;refine tv (o_ixP (a:=a) underlying299 sz363 rfl rfl oqz (nn_rs (xs:=kcl L vs) (by repeat (first|exact hr|apply Rs.left)) (λ _=>by rw [kcl_len hvs];omega))) ?_;refine tv (o_ldPN (a:=a) (xs:=kcl L vs) (vs:=[.int .i64 (((L.getD i (0,[])).1:Nat):Int),.slice xb (L.getD i (0,[])).2.length xc]) a363 sz363 rfl (by repeat (first|exact hr|apply Rs.left)) hkat rfl (by decide)) ?_;refine tl_x rfl (o_alloc z363 rfl) ?_;rintro _ _ ⟨b7,rfl,rfl⟩;refine tl_u rfl (o_stUN (l':=[.int .i64 (((L.getD i (0,[])).1:Nat):Int),.slice xb (L.getD i (0,[])).2.length xc]) rfl upqz sz363 rfl rfl rfl (by show 2<=2;decide) rfl) ?_;refine Zid ?_;refine Zd2 ?_;refine Zfd ?_;refine tl_c rfl (o_call bd263 rfl (Store_c (s:=s1) (p:=(((L.getD i (0,[])).1:Nat):Int)) (xs:=(L.getD i (0,[])).2) (hr:=by repeat (first|exact hrb|apply Rs.left)) (hm:=rfl) (hb:=hwb) (hroom:=λ _ l hl=>by have h9:=hp3 l hl;rw [drop_getD hi,sumL_cons] at h9;omega))) ?_;rintro _ _ ⟨e32,s32,hs32,rfl,rfl⟩;refine Zg0 ?_;refine tc_cond rfl (λ h=> ?_) (λ h=> ?_)
    . have he0:e32≠0:=(by simpa using h);refine Zff ?_;refine q_block_r (q_then_r (q_then_r (q_block_r (q_then_r ?_))));exact ⟨.int .i64 (e32),C (Dev d s32),res1 rfl rfl,λ _ _ h=>by rw [hC];exact (Dr.sat (A':=R*Dev d s32) drqz) _ _ h,e32,s32,writeT_e (by rw [←hp1];exact stoL_e hi hs32 he0) he0,rfl,rfl⟩
    obtain rfl:e32=0:=by simpa using h
    refine Zem ?_;refine Zbz ?_;exact ⟨_,by omega,i+1,_,by omega,by rw [←hp1];exact (stoL_o hi hs32).symm,by have h9:=sto_len (((L.getD i (0,[])).1:Nat):Int) (L.getD i (0,[])).2 s1;rw [hs32] at h9;exact h9.trans hp2,sto_room hs32 hw1 hwb (by rw [Nat.add_comm,←sumL_cons,←drop_getD hi];exact hp3),rfl,rfl,rfl,rfl,rfl,rfl,drqz⟩
  obtain rfl:i=m:=by simp at h;omega
  have hst:stoL L s=(0,s1):=(by rw [←hp1,List.drop_eq_nil_of_le oqz];unfold stoL;rfl);refine Zk ?_;refine Zcb ?_;refine tv (o_len underlying299 rfl) ?_;refine Zb6 ?_;refine tc_loop (λ kk ρ BB=>∃ (j:Nat) (dn:Nat) (s2:DevS),(j<=i)/\ (flLs (linR (L.drop j) dn) s2=flLs (linR L 0) s1)/\ (s2.ls.length=s.ls.length)/\ (dn<=4194304)/\ kk=i-j/\ ρ 9= .int .i64 ((dn:Int)-1)/\ ρ 39=(vn j)/\ ρ 5=(pz d)/\ ρ 37= .slice a i c/\ ρ 38=(vn i)/\ Dr BB (R*Dev d s2)) (m:=i-(0)) ?_ ?_
  . exact ⟨0,0,s1,by omega,rfl,hp2,by omega,rfl,rfl,rfl,rfl,rfl,rfl,drqz⟩
  intro k ρ B hI;obtain ⟨j,dn,s2,hq0,hq1,hq2,hq3,hkk2,hE9,hE39,hE5,hE37,hE38,hBA⟩:=hI;refine tc_pre hBA.sat ?_;clear hBA;refine te 9 hE9 ?_;refine te 39 hE39 ?_;refine te 5 hE5 ?_;refine te 37 hE37 ?_;refine te 38 hE38 ?_;refine Zb9 ?_;refine tc_cond rfl (λ h=> ?_) (λ h=> ?_)
  . have hj:j<L.length:=(by simp at h;omega);obtain ⟨hw1_,hw2_,hwb⟩:=hW _ (getD_mem hj);obtain ⟨xb,xc,hv,hxc⟩:=hcp j hj;have hkat:=kcl_at hvs hj;rw [hv] at hkat
    have hla:=linR_at (dn:=dn) hj;rw [hla] at hq1
    refine Zdt ?_;refine tv (o_ixP (a:=a) underlying299 sz363 rfl rfl oqz (nn_rs (xs:=kcl L vs) (by repeat (first|exact hr|apply Rs.left)) (λ _=>by rw [kcl_len hvs];omega))) ?_;refine tv (o_ldPN (a:=a) (xs:=kcl L vs) (vs:=[.int .i64 (((L.getD j (0,[])).1:Nat):Int),.slice xb (L.getD j (0,[])).2.length xc]) a363 sz363 rfl (by repeat (first|exact hr|apply Rs.left)) hkat rfl (by decide)) ?_;refine tl_x rfl (o_alloc z363 rfl) ?_;rintro _ _ ⟨b11,rfl,rfl⟩;refine tl_u rfl (o_stUN (l':=[.int .i64 (((L.getD j (0,[])).1:Nat):Int),.slice xb (L.getD j (0,[])).2.length xc]) rfl upqz sz363 rfl rfl rfl (by show 2<=2;decide) rfl) ?_;refine nq ?_;refine sr ?_;refine Zd2 ?_;refine tv (o_quoN (b:=64) rfl rfl oqz) ?_;refine tlm ?_;refine tv (o_addI rfl rfl oqz) ?_;refine tl_env (d:=47) (v:=(vn dn)) (by show Value.int .i64 _=_;congr 1;omega) ?_;refine tv (o_max2 underlying3 rfl rfl) ?_;refine Zhs ?_;refine tc_loop (λ kk ρ BB=>∃ (q:Nat) (dq:Nat) (s3:DevS),((max ((L.getD j (0,[])).1/64) dn)<=q)/\ (dq=if q=(max ((L.getD j (0,[])).1/64) dn) then dn else q)/\ (q<=max (max ((L.getD j (0,[])).1/64) dn) ((((L.getD j (0,[])).1+(L.getD j (0,[])).2.length-1)/64)+1))/\ (flLs ((List.range ((((L.getD j (0,[])).1+(L.getD j (0,[])).2.length-1)/64)+1-q)).map (λ i=>q+i)++linR (L.drop (j+1)) (max dn ((((L.getD j (0,[])).1+(L.getD j (0,[])).2.length-1)/64)+1))) s3=flLs (linR L 0) s1)/\ (s3.ls.length=s.ls.length)/\ kk=(((L.getD j (0,[])).1+(L.getD j (0,[])).2.length-1)/64)+1-q/\ ρ 9= .int .i64 ((dq:Int)-1)/\ ρ 12=(vn q)/\ ρ 5=(pz d)/\ ρ 11=(pz b11)/\ ρ 37= .slice a i c/\ ρ 38=(vn i)/\ ρ 39=(vn j)/\ Dr BB (R*Dev d s3*pt b11 (cl [.int .i64 (((L.getD j (0,[])).1:Nat):Int),.slice xb (L.getD j (0,[])).2.length xc] 363))) (m:=(((L.getD j (0,[])).1+(L.getD j (0,[])).2.length-1)/64)+1-((max ((L.getD j (0,[])).1/64) dn))) ?_ ?_
    . exact ⟨(max ((L.getD j (0,[])).1/64) dn),dn,s2,by omega,by rw [if_pos rfl],by omega,hq1,hq2,rfl,rfl,rfl,rfl,rfl,rfl,rfl,rfl,drqz⟩
    intro k ρ B hI;obtain ⟨q,dq,s3,ht0,ht1,ht2,ht3,ht4,hkk3,hE9,hE12,hE5,hE11,hE37,hE38,hE39,hBA⟩:=hI;refine tc_pre hBA.sat ?_;clear hBA;refine te 9 hE9 ?_;refine te 12 hE12 ?_;refine te 5 hE5 ?_;refine te 11 hE11 ?_;refine te 37 hE37 ?_;refine te 38 hE38 ?_;refine te 39 hE39 ?_;refine Zm ?_;refine Zd2 ?_;refine Zfd ?_;refine tv (o_len underlying67 rfl) ?_;refine tv (o_addI rfl rfl oqz) ?_;refine tv (o_subI rfl rfl oqz) ?_;refine tl_env (d:=56) (v:= .int .i64 (((L.getD j (0,[])).1+(L.getD j (0,[])).2.length-1:Nat):Int)) (by show Value.int .i64 _=_;congr 1;omega) ?_;refine tv (o_quoN (b:=64) rfl rfl oqz) ?_;refine tv (o_leq rfl rfl) ?_;refine nq ?_;refine tc_cond rfl (λ h=> ?_) (λ h=> ?_)
    . have hqh:q<=(((L.getD j (0,[])).1+(L.getD j (0,[])).2.length-1)/64):=(by have h9:=of_decide_eq_true h;omega);refine Zbe ?_;refine Zm ?_;refine Zeu ?_;refine tl_env (d:=63) (v:=(vn (q*64))) (by first|(show Value.int .i64 _=_;congr 1;done)|(show Value.int .i64 _=_;congr 1;omega)) ?_;refine tl_c rfl (o_call bd264 rfl (Flush_c (s:=s3) (p:=((q*64:Nat):Int)))) ?_;rintro _ _ ⟨e64,s64,hs64,rfl,rfl⟩;refine Zg0 ?_;refine tc_cond rfl (λ h=> ?_) (λ h=> ?_)
      . have he0:e64≠0:=(by simpa using h);refine Zff ?_;refine q_then_r (q_block_r (q_then_r (q_then_r (q_block_r (q_block_r (q_then_r (q_then_r (q_block_r (q_then_r ?_)))))))));exact ⟨.int .i64 (e64),C (Dev d s64),res1 rfl rfl,λ _ _ h=>by rw [hC];exact (Dr.sat (A':=R*Dev d s64) drqz) _ _ h,e64,s64,writeT_o hst (by rw [←ht3,range_step (show q<(((L.getD j (0,[])).1+(L.getD j (0,[])).2.length-1)/64)+1 by omega),List.cons_append];exact flLs_e hs64 he0),rfl,rfl⟩
      obtain rfl:e64=0:=by simpa using h
      refine Ze ?_;refine Zbr ?_;refine Zc3 ?_;refine Zfy ?_;exact ⟨_,by omega,q+1,q+1,_,by omega,by rw [if_neg oqz],by omega,by rw [←ht3,range_step (show q<(((L.getD j (0,[])).1+(L.getD j (0,[])).2.length-1)/64)+1 by omega),List.cons_append];exact (flLs_o hs64).symm,by have h9:=fl1_len ((q*64:Nat):Int) s3;rw [hs64] at h9;exact h9.trans ht4,rfl,by show Value.int .i64 _=_;congr 1;omega,rfl,rfl,rfl,rfl,rfl,rfl,drqz⟩
    have hqh:¬q<=(((L.getD j (0,[])).1+(L.getD j (0,[])).2.length-1)/64):=(by have h9:=of_decide_eq_false h;omega);have hdq:dq=max dn ((((L.getD j (0,[])).1+(L.getD j (0,[])).2.length-1)/64)+1):=(by rw [ht1];split<;>omega);rw [show (((L.getD j (0,[])).1+(L.getD j (0,[])).2.length-1)/64)+1-q=0 by omega,List.range_zero,List.map_nil,List.nil_append] at ht3
    refine Zcw ?_;refine Zgo ?_;exact ⟨_,by omega,j+1,dq,s3,by omega,by rw [hdq];exact ht3,ht4,by omega,rfl,rfl,rfl,rfl,rfl,rfl,drqz⟩
  obtain rfl:j=i:=by simp at h;omega
  rw [List.drop_eq_nil_of_le (show L.length<=j by omega)] at hq1
  refine Zk ?_;refine Zcd ?_;exact ⟨.int .i64 (0),C (Dev d s2),res1 rfl rfl,λ _ _ h=>by rw [hC];exact (Dr.sat (A':=R*Dev d s2) drqz) _ _ h,0,s2,writeT_o hst (by rw [←hq1];unfold linR flLs;rfl),rfl,rfl⟩
end Go.Vl

namespace Go.Vl
open Go Go.Proofs Go.Proofs.Tryz
structure RunP (n k:Nat) (out:List (Nat×List Nat)):Prop where
  sum:sumL out=k
  len:out.length<=k
  ok:RunW n out
theorem sumL_app (a b:List (Nat×List Nat)):sumL (a++b)=sumL a+sumL b:=by unfold sumL;rw [List.map_append,List.sum_append]
theorem runP_step {n k a:Nat}{f:TF}{out:List (Nat×List Nat)}(h:RunP n k out)(ha:a<n)(hb:byF f a<256):RunP n (k+1) (runA f out a):=by
  have h1:∀x:Nat,sumL [(x,[byF f a])]=1:=λ x=>rfl
  cases hj:adjB out a with
  |true=>
    obtain ⟨O,r,rfl,hadj,hrun⟩:=adj_t (f:=f) hj;rw [hrun]
    have hs:=h.sum;have hl:=h.len;rw [sumL_app] at hs
    rw [List.length_append,List.length_singleton] at hl
    obtain ⟨g1,g2,g3⟩:=h.ok r (by simp);have e1:∀y:List Nat,sumL [(r.1,y)]=y.length:=λ y=>by unfold sumL;simp
    have e2:sumL [r]=r.2.length:=(by unfold sumL;simp);refine ⟨by rw [sumL_app,e1,List.length_append,List.length_singleton];rw [e2] at hs;omega,by rw [List.length_append,List.length_singleton];omega,λ x hx=> ?_⟩
    rcases List.mem_append.1 hx with h9|h9
    . exact h.ok x (List.mem_append_left _ h9)
    rw [List.mem_singleton] at h9
    subst h9;refine ⟨by simp,by show r.1+(r.2++[byF f a]).length<=n;rw [List.length_append,List.length_singleton];omega,λ b hb'=> ?_⟩
    rcases List.mem_append.1 hb' with h8|h8
    . exact g3 b h8
    rw [List.mem_singleton.1 h8];exact hb
  |false=>
    rw [adj_f hj]
    refine ⟨by rw [sumL_app,h1,h.sum],by rw [List.length_append,List.length_singleton];have:=h.len;omega,λ x hx=> ?_⟩
    rcases List.mem_append.1 hx with h9|h9
    . exact h.ok x h9
    rw [List.mem_singleton] at h9
    subst h9;exact ⟨Nat.le_refl _,by show a+1<=n;omega,λ b hb'=>by rw [List.mem_singleton.1 hb'];exact hb⟩
theorem runP_all {M:MS}{n:Nat}{k:Bool}{f:TF}(hM:MF M n f):∀i,i<=(adrF n k f).length->RunP n i (runsL f ((adrF n k f).take i))
  |0,_=>⟨rfl,Nat.le_refl _,λ r h=>(by cases h)⟩
  |i+1,h=>by
    rw [runs_next (out:=runsL f ((adrF n k f).take i)) rfl oqz]
    obtain ⟨c,hf,_,hn⟩:=adr_at (n:=n) (k:=k) (f:=f) (i:=i) oqz;exact runP_step (runP_all hM i oqz) hn (by rw [byF_some hf];exact hM.by_ _ _ hf)
theorem runP_F {M:MS}{n:Nat}{k:Bool}{f:TF}(hM:MF M n f):RunP n (adrF n k f).length (runsF n k f):=by
  have:=runP_all (k:=k) hM (adrF n k f).length (Nat.le_refl _);rw [List.take_length] at this;exact this
theorem extX_xw {n:Nat}{L:List (Nat×List Nat)}(h:RunW n L)(hn:n<=4194304):∀x∈extX L,XW x:=λ x hx=>by
  obtain ⟨r,hr,rfl⟩:=List.mem_map.1 hx;obtain ⟨_,h2,_⟩:=h r hr;exact ⟨by show-9223372036854775808<=(r.1:Int)/\ (r.1:Int)<=9223372036854775807;omega,by show-9223372036854775808<=(r.2.length:Int)/\ (r.2.length:Int)<=9223372036854775807;omega⟩
theorem gd_stoL {n k m:Nat}:∀{L:List (Nat×List Nat)} {s:DevS},RunW m L->Gd n (k+sumL L) s->Gd n k (stoL L s).2
  |[],s,_,h=>h.le oqz
  |r::l,s,hW,h=>by
    rw [sumL_cons] at h
    obtain ⟨_,_,hb⟩:=hW r (by simp);have h1:Gd n (k+sumL l) (sto (r.1:Nat) r.2 s).2:=gd_sto (h.le oqz) hb;rw [stoL_cons]
    split
    . exact h1.le oqz
    exact gd_stoL (λ x hx=>hW x (List.mem_cons_of_mem _ hx)) h1
theorem gd_fl1 {n k:Nat}{p:Int}{s:DevS}(h:Gd n k s):Gd n k (fl1 p s).2:=⟨(fl1_len _ _).trans h.len,fl1_room (e:=(fl1 p s).1) rfl h.wf h.room,fl1_wf h.wf⟩
theorem gd_flLs {n k:Nat}:∀{l:List Nat} {s:DevS},Gd n k s->Gd n k (flLs l s).2
  |[],s,h=>h
  |q::l,s,h=>by
    rw [flLs_cons]
    split
    . exact gd_fl1 h
    exact gd_flLs (gd_fl1 h)
theorem gd_writeT {n k m:Nat}{L:List (Nat×List Nat)}{s s2:DevS}{e:Int}(hw:writeT L s=(e,s2))(hW:RunW m L)(h:Gd n (k+sumL L) s):Gd n k s2:=by
  have h1:=gd_stoL hW h;have h2:(writeT L s).2=s2:=(by rw [hw]);rw [←h2]
  unfold writeT
  split
  . exact h1
  exact gd_flLs h1
section
variable {at_ sz n:Nat} {f:TF} {s s1 s2 s3 s4 s5:DevS} {e:Int}
theorem com_w1 (h1:writeT (runsF n true f) s=(e,s1))(he:e≠0):comS at_ sz n f s=((e,true),s1):=by unfold comS;rw [h1,if_pos he]
theorem com_00 (h1:writeT (runsF n true f) s=(0,s1))(hl:runsF n false f=[])(hf:runsF n true f=[]):comS at_ sz n f s=((0,true),s1):=by
  unfold comS;rw [h1,if_neg (by simp),if_pos hl,if_pos hf]
theorem com_0f (h1:writeT (runsF n true f) s=(0,s1))(hl:runsF n false f=[])(hf:runsF n true f≠[])(h2:fe s1=(e,s2)):comS at_ sz n f s=((e,true),s2):=by
  unfold comS;rw [h1,if_neg (by simp),if_pos hl,if_neg hf];simp only [];rw [h2]
theorem com_lw (h1:writeT (runsF n true f) s=(0,s1))(hl:runsF n false f≠[])(h2:writeS at_ sz (extX (runsF n false f)) s1=(e,s2))(he:e≠0):comS at_ sz n f s=((e,decide (e=5)),s2):=by
  unfold comS;rw [h1,if_neg (by simp),if_neg hl];simp only [];rw [h2,if_pos he]
theorem com_w2 (h1:writeT (runsF n true f) s=(0,s1))(hl:runsF n false f≠[])(h2:writeS at_ sz (extX (runsF n false f)) s1=(0,s2))(h3:writeT (runsF n false f) s2=(e,s3))(he:e≠0):comS at_ sz n f s=((e,true),s3):=by
  unfold comS;rw [h1,if_neg (by simp),if_neg hl];simp only [];rw [h2,if_neg (by simp)];simp only [];rw [h3,if_pos he]
theorem com_fe (h1:writeT (runsF n true f) s=(0,s1))(hl:runsF n false f≠[])(h2:writeS at_ sz (extX (runsF n false f)) s1=(0,s2))(h3:writeT (runsF n false f) s2=(0,s3))(h4:fe s3=(e,s4))(he:e≠0):comS at_ sz n f s=((e,true),s4):=by
  unfold comS;rw [h1,if_neg (by simp),if_neg hl];simp only [];rw [h2,if_neg (by simp)];simp only [];rw [h3,if_neg (by simp)];simp only [];rw [h4,if_pos he]
theorem com_cl (h1:writeT (runsF n true f) s=(0,s1))(hl:runsF n false f≠[])(h2:writeS at_ sz (extX (runsF n false f)) s1=(0,s2))(h3:writeT (runsF n false f) s2=(0,s3))(h4:fe s3=(0,s4))(h5:clearS at_ s4=(e,s5)):comS at_ sz n f s=((e,true),s5):=by
  unfold comS;rw [h1,if_neg (by simp),if_neg hl];simp only [];rw [h2,if_neg (by simp)];simp only [];rw [h3,if_neg (by simp)];simp only [];rw [h4,if_neg (by simp)];simp only [];rw [h5]
end
theorem del_c (M:MS)(a:Int):(M.del a).c=M.c:=by unfold MS.del;split<;>rfl
theorem del_sub (M:MS)(a:Int):(M.del a).D.Sublist M.D:=by
  unfold MS.del
  split
  . exact List.eraseIdx_sublist _ _
  exact List.Sublist.refl _
theorem wfM_del {M:MS}(h:WfM M)(a:Int):WfM (M.del a):=⟨h.keys.sublist ((del_sub M a).map _),h.born.sublist ((del_sub M a).map _),λ e he=>by rw [del_c];exact h.past e ((del_sub M a).subset he)⟩
theorem del_mem {M:MS}{e:ME}(h:WfM M)(he:e∈M.D):(M.del e.k).D.length<M.D.length/\∀x∈(M.del e.k).D,x.b≠e.b:=by
  obtain ⟨i,hi⟩:=mfind_mem h.keys he;obtain ⟨hil,hk,_⟩:=mfind_some hi;have hD:(M.del e.k).D=M.D.eraseIdx i:=(by unfold MS.del;rw [hi]);rw [hD]
  refine ⟨by rw [List.length_eraseIdx_of_lt hil];omega,λ x hx hxb=> ?_⟩
  have hei:M.D[i]=e:=by
    obtain ⟨j,hj,hje⟩:=List.mem_iff_getElem.1 he
    have hkk:(M.D.map ME.k)[i]? =(M.D.map ME.k)[j]? :=by
      rw [List.getElem?_map,List.getElem?_map,List.getElem?_eq_getElem hil,List.getElem?_eq_getElem hj]
      simp only [Option.map_some];rw [hk,hje]
    have hij:=(List.getElem?_inj (by simpa using hil) h.keys).1 hkk;subst hij;exact hje
  rw [List.mem_eraseIdx_iff_getElem] at hx
  obtain ⟨j,hj,hji,hjx⟩:=hx
  have hbb:(M.D.map ME.b)[i]? =(M.D.map ME.b)[j]? :=by
    rw [List.getElem?_map,List.getElem?_map,List.getElem?_eq_getElem hil,List.getElem?_eq_getElem hj]
    simp only [Option.map_some];rw [hei,hjx,hxb]
  exact hji ((List.getElem?_inj (by simpa using hil) h.born).1 hbb).symm
attribute [local irreducible] crk crL crc Sl pt ro Dev imgS recS readS recsF rdW rdO rkT Parts rvl recordsS runsL adrF kcl xcl kys runA runsF layF linR flLs stoL writeT writeS comS clearS extX
theorem Zf0 {p r:Prop}(k:r)(h:Kq r->p:=by intro k;refine tc_goto ?_;refine q_then_g (q_sc_g ?_);exact k.o):p:=h ⟨k⟩
theorem Zik {p r:Prop}(k:r)(h:Kq r->p:=by intro k;refine tv (o_fieldAddr (o:=1) underlying263 rfl rfl sz160 rfl) ?_;refine tv (o_load p160 rfl hsqz rfl) ?_;exact k.o):p:=h ⟨k⟩
theorem Commit12_c {A R:SP}{C:SP->SP}{t p lg d mb at_ sz:Nat}{M:MS}{s:DevS}(hc:Ct A (TxA t p lg d mb at_ sz M false s) R C:=by exact cbqz){n:Nat}{f:TF}(hM:MF M n f)(hn:n=s.ls.length*64:=by omega)(hlw:LogW (s.ls.length*64) at_ sz:=by assumption)(ho:s.off=false:=by assumption)(hroom:Room (2*n+sz+8) s:=by assumption):
    Fn Tryz.prog 129 #[pz t] A (λ r B=>∃e b s2 M2,comS at_ sz n f s=((e,b),s2)/\ r= .int .i64 e/\ MF M2 n (if b=true then tf0 else f)/\ B=C (TxA t p lg d mb at_ sz M2 b s2)):=by
  refine fn_enterW func129 rfl ntmps129 (by simp) ?_;obtain ⟨rfl,hC⟩:=hc;refine tc_eq (show _=R*pt p (cl (pocs lg d (some t)) 263)*pt lg (cl (lcs11 d at_ sz) 258)*Dev d s*pt t (cl (txcs p mb false) 298)*pt mb (mpo .i64 M) by unfold TxA;rw [if_neg (by decide)];ac_rfl) ?_;refine tc_have (λ _ _ h=>ct_wf2 ctqz h) λ hwf=> ?_
  have htop:=hwf.top;obtain ⟨LF,hLF⟩:∃L,runsF n true f=L:=⟨_,rfl⟩;obtain ⟨LL,hLL⟩:∃L,runsF n false f=L:=⟨_,rfl⟩;have hPF:=runP_F (k:=true) hM;have hPL:=runP_F (k:=false) hM;rw [hLF] at hPF
  rw [hLL] at hPL
  have haf:=adr_len n true f;have hal:=adr_len n false f;have hg0:Gd s.ls.length (2*n+sz+8) s:=⟨rfl,hroom,hwf⟩;have hfs:=hPF.sum;have hfl:=hPF.len;have hls:=hPL.sum;have hll:=hPL.len;obtain ⟨w1,w2,w3,w4,w5⟩:=id hlw;refine Zbw ?_;refine tc_scope (l:=0) (λ ρ BB=>∃ (e_:Int) (sE:DevS),(comS at_ sz n f s=((e_,true),sE))/\ ρ 3= .int .i64 e_/\ ρ 0=(pz t)/\ Dr BB (R*pt p (cl (pocs lg d (some t)) 263)*pt lg (cl (lcs11 d at_ sz) 258)*Dev d sE*pt t (cl (txcs p mb false) 298)*pt mb (mpo .i64 M))) rfl ?_ ?_
  . intro ρ B hI;obtain ⟨e_,sE,hcm0,hE3,hE0,hBA⟩:=hI;refine tc_pre hBA.sat ?_;clear hBA;refine te 3 hE3 ?_;refine te 0 hE0 ?_;refine Zm ?_;refine tv (o_nilCheck rfl) ?_;refine Zcz ?_;refine tl_x rfl (o_range (ik:= .i64) (M:=M) underlying296 rfl hsqz) ?_;rintro _ _ ⟨r75,rfl,rfl⟩;refine Zhq ?_;refine tc_loop (λ kk ρ BB=>∃ (M1:MS) (seen:List Nat),(WfM M1)/\ (∀x∈M1.D,x.b∉seen)/\ kk=M1.D.length/\ ρ 0=(pz t)/\ ρ 3= .int .i64 e_/\ ρ 75=(pz r75)/\ Dr BB (R*pt p (cl (pocs lg d (some t)) 263)*pt lg (cl (lcs11 d at_ sz) 258)*Dev d sE*pt t (cl (txcs p mb false) 298)*pt mb (mpo .i64 M1)*pt r75 (mit mb M1.c seen M1.c))) (m:=(M).D.length) ?_ ?_
    . exact ⟨M,[],hM.wf,λ x _ h=>(by cases h),rfl,rfl,rfl,rfl,drqz⟩
    intro k ρ B hI;obtain ⟨M1,seen,hp0,hp1,hkk1,hE0,hE3,hE75,hBA⟩:=hI;refine tc_pre hBA.sat ?_;clear hBA;refine te 0 hE0 ?_;refine te 3 hE3 ?_;refine te 75 hE75 ?_;refine sr ?_;refine tl_x rfl (o_next (ik:= .i64) (M:=M1) (b:=mb) (seen:=seen) hp0 rfl ctqz hsqz) ?_;rintro _ _ ⟨o76,hnx,rfl,rfl⟩;refine tv (o_exNx rfl) ?_;refine Zf2 ?_;refine tc_cond rfl (λ h=> ?_) (λ h=> ?_)
    . obtain ⟨e,rfl⟩:∃e,o76=some e:=Option.isSome_iff_exists.1 (by simpa using h);have hem:=(hnx.yes e rfl).1;refine tc_eq (show _=R*pt p (cl (pocs lg d (some t)) 263)*pt lg (cl (lcs11 d at_ sz) 258)*Dev d sE*pt t (cl (txcs p mb false) 298)*pt mb (mpo .i64 M1)*pt r75 (mit mb M1.c (seen++[e.b]) M1.c) from rfl) ?_;refine Zf4 ?_;refine sr ?_;refine tv (o_entry (ik:= .i64) (M:=M1) (b:=mb) (seen:=seen) hp0 hem rfl hsqz hsqz) ?_;refine tv (o_extract rfl rfl) ?_;refine Za ?_;refine Zhw ?_;refine Zcz ?_;refine tlm ?_;refine tl_x rfl (o_delete (ik:= .i64) (M:=M1) underlying296 underlying3 rfl rfl upqz rfl) ?_;rintro _ _ ⟨rfl,rfl⟩;refine tl_nil ?_;refine q_block_n (q_then_n ?_);exact ⟨_,(by have:=(del_mem hp0 hem).1;omega),M1.del e.k,seen++[e.b],wfM_del hp0 _,λ x hx h=>(by rcases List.mem_append.1 h with h9|h9;exact hp1 x ((del_sub _ _).subset hx) h9;exact (del_mem hp0 hem).2 x hx (List.mem_singleton.1 h9)),rfl,rfl,rfl,rfl,by rw [del_c];repeat (first|with_reducible exact dr_refl|apply dr_keep|apply dr_drop)⟩
    obtain rfl:o76=none:=by cases o76<;>simp at h ⊢
    refine Zcs ?_;refine tl_c rfl (o_call bd212 rfl (end12_c (R:=R*pt lg (cl (lcs11 d at_ sz) 258)*Dev d sE*pt r75 (mit mb M1.c seen M1.c)) (p:=p) (lg:=lg) (d:=d) (mb:=mb) (M:=M1) (over:=false) (hA:=by first|rfl|ac_rfl))) ?_;refine Zgn ?_;refine Zff ?_;refine q_sc_r ?_;exact ⟨.int .i64 e_,C (TxA t p lg d mb at_ sz M1.clr true sE),res1 rfl rfl,(λ g w h=>by rw [hC];exact (Dr.sat (A':=R*pt lg (cl (lcs11 d at_ sz) 258)*Dev d sE*pt p (cl (pocs lg d none) 263)*pt t (cl (txcs p mb true) 298)*pt mb (mpo .i64 M1.clr)) drqz g w h).perm (by unfold TxA;rw [if_pos rfl];ac_rfl)),e_,true,sE,M1.clr,hcm0,rfl,by rw [if_pos rfl];exact mf_nil _ _,rfl⟩
  intro hsc;refine Zb ?_;refine tl_c rfl (o_call bd205 rfl (begun12_c (s:=s))) ?_;rintro _ _ ⟨rfl,rfl⟩;refine Zy ?_;refine Zbd ?_;intro h;refine Zew ?_;refine Zb7 ?_;refine Zdf ?_;refine tv (o_load p44 rfl hsqz rfl) ?_;refine Zz ?_;refine tl_c rfl (o_call bd206 rfl (runs12_w (kd:=true) (M:=M) (over:=false) (p:=p) hsqz hsqz hM oqz hLF)) ?_;rintro _ _ ⟨a22,c22,vf,rfl,hc22,hvf,rfl⟩;refine tl_have (λ _ _ h=>parts_getD hvf h.left) λ hpf=> ?_
  refine tlm ?_;refine tl_c rfl (o_call bd206 rfl (runs12_w (kd:=false) (M:=M) (over:=false) (p:=p) hsqz hsqz hM oqz hLL)) ?_;rintro _ _ ⟨a24,c24,vl,rfl,hc24,hvl,rfl⟩;refine tl_have (λ _ _ h=>parts_getD hvl h.left) λ hpl=> ?_
  refine tlm ?_;refine tl_c rfl (o_call bd207 rfl (Extents12_c (M:=M) (p:=p) (L:=LL) (ht:=(by repeat (first|with_reducible exact has_here|with_reducible exact has_pt|apply has_left))) (hmb:=(by repeat (first|with_reducible exact has_here|with_reducible exact has_pt|apply has_left))) (hM:=hM) (hX:=hLL) (hLl:=by omega))) ?_;rintro _ _ ⟨a26,c26,rfl,hc26,rfl⟩;refine tla ?_;refine tla ?_;refine Zy ?_;refine tlm ?_;refine tl_c rfl (o_call bd208 rfl (write12_c (s:=s) (n:=n) (L:=LF) (vs:=vf) (a:=a22) (hr:=(by repeat (first|with_reducible exact rs_sl|apply Rs.left))) (hvs:=hvf) (hps:=by repeat (first|exact psr_of hvf hpf (λ x hx=>by have h9:=(hPF.ok x hx).2.1;omega)|apply PsR.left)) (hcp:=hpf) (hW:=hPF.ok) (hn:=by have h9:=hg0.len;omega) (hm:=rfl) (hml:=by have h9:=hPF.len;omega) (hroom:=(hg0.le oqz).room))) ?_;rintro _ _ ⟨e29,s29,hs29,rfl,rfl⟩;have hg1:Gd s.ls.length (n+sz+8) s29:=gd_writeT hs29 hPF.ok (hg0.le oqz);have hg1l:=hg1.len;refine Zg0 ?_;refine tc_cond rfl (λ h=> ?_) (λ h=> ?_)
  . have he29:e29≠0:=(by simpa using h);have hcm9:comS at_ sz n f s=((e29,true),s29):=com_w1 (by rw [hLF];exact hs29) he29;refine Zf0 ?_;exact ⟨_,_,hcm9,rfl,rfl,drqz⟩
  obtain rfl:e29=0:=by simpa using h
  refine Zcr ?_;refine tv (o_len underlying299 rfl) ?_;refine Zdd ?_;refine tc_cond rfl (λ h=> ?_) (λ h=> ?_)
  . have hll0:LL=[]:=List.eq_nil_of_length_eq_zero (by first|(have h9:=of_decide_eq_true h;omega)|(simp at h;omega));refine Zm ?_;refine tv (o_len underlying299 rfl) ?_;refine Zd8 ?_;refine tc_cond rfl (λ h=> ?_) (λ h=> ?_)
    . have hlf0:LF≠[]:=λ e=>by subst e;simp at h
      refine Zbr ?_;refine tl_c rfl (o_call bd209 rfl (Fence_c (s:=s29))) ?_;rintro _ _ ⟨e39,s39,hs39,rfl,rfl⟩;have hcm9:comS at_ sz n f s=((e39,true),s39):=com_0f (by rw [hLF];exact hs29) (by rw [hLL];exact hll0) (by rw [hLF];exact hlf0) hs39;refine Za ?_;refine Zf0 ?_;exact ⟨_,_,hcm9,rfl,rfl,drqz⟩
    have hlf0:LF=[]:=List.eq_nil_of_length_eq_zero (by first|(have h9:=of_decide_eq_false h;omega)|(simp at h;omega));have hcm9:comS at_ sz n f s=((0,true),s29):=com_00 (by rw [hLF];exact hs29) (by rw [hLL];exact hll0) (by rw [hLF];exact hlf0);refine Ze ?_;refine Zf0 ?_;exact ⟨_,_,hcm9,rfl,rfl,drqz⟩
  have hll0:LL≠[]:=λ e=>by subst e;simp at h
  refine Zg6 ?_;refine Zb7 ?_;refine tv (o_nilCheck rfl) ?_;refine Zik ?_;refine tlm ?_;refine tl_c rfl (o_call bd210 rfl (Write_c (s:=s29) (xs:=extX LL) (hr:=(by repeat (first|with_reducible exact rs_sl|apply Rs.left))) (hm:=ext_len LL) (hX:=extX_xw hPL.ok oqz) (hlw:=by rw [hg1l];exact hlw) (hml:=by omega) (hroom:=(hg1.le oqz).room))) ?_;rintro _ _ ⟨e48,s48,hs48,rfl,rfl⟩;have hg2:Gd s.ls.length (n+4) s48:=(by have h9:=gd_write (at_:=at_) (sz:=sz) (k:=n+4) (l:=extX LL) (hg1.le oqz) (by rw [ext_len];omega);rw [hs48] at h9;exact h9);have hg2l:=hg2.len;refine Zg0 ?_;refine tc_cond rfl (λ h=> ?_) (λ h=> ?_)
  . have he48:e48≠0:=(by simpa using h);refine Zm ?_;refine Z5 ?_;refine tc_cond rfl (λ h=> ?_) (λ h=> ?_)
    . have he5:e48≠5:=(by simpa using h);refine Zff ?_;refine q_then_r (q_then_r (q_sc_r ?_));exact ⟨.int .i64 e48,C (TxA t p lg d mb at_ sz M false s48),res1 rfl rfl,(λ g w h=>by rw [hC];exact (Dr.sat (A':=R*pt p (cl (pocs lg d (some t)) 263)*pt lg (cl (lcs11 d at_ sz) 258)*Dev d s48*pt t (cl (txcs p mb false) 298)*pt mb (mpo .i64 M)) drqz g w h).perm (by unfold TxA;rw [if_neg (by decide)];ac_rfl)),e48,false,s48,M,by rw [com_lw (by rw [hLF];exact hs29) (by rw [hLL];exact hll0) (by rw [hLL];exact hs48) he48,decide_eq_false he5],rfl,hM,rfl⟩
    obtain rfl:e48=5:=by simpa using h
    have hcm9:comS at_ sz n f s=((5,true),s48):=com_lw (by rw [hLF];exact hs29) (by rw [hLL];exact hll0) (by rw [hLL];exact hs48) (by decide);refine Ze ?_;refine Zf0 ?_;exact ⟨_,_,hcm9,rfl,rfl,drqz⟩
  obtain rfl:e48=0:=by simpa using h
  refine Zcr ?_;refine tlm ?_;refine tl_c rfl (o_call bd208 rfl (write12_c (s:=s48) (n:=n) (L:=LL) (vs:=vl) (a:=a24) (hr:=(by repeat (first|with_reducible exact rs_sl|apply Rs.left))) (hvs:=hvl) (hps:=by repeat (first|exact psr_of hvl hpl (λ x hx=>by have h9:=(hPL.ok x hx).2.1;omega)|apply PsR.left)) (hcp:=hpl) (hW:=hPL.ok) (hn:=by have h9:=hg2.len;omega) (hm:=rfl) (hml:=by have h9:=hPL.len;omega) (hroom:=(hg2.le oqz).room))) ?_;rintro _ _ ⟨e56,s56,hs56,rfl,rfl⟩;have hg3:Gd s.ls.length 4 s56:=gd_writeT hs56 hPL.ok (hg2.le oqz);have hg3l:=hg3.len;refine Zg0 ?_;refine tc_cond rfl (λ h=> ?_) (λ h=> ?_)
  . have he56:e56≠0:=(by simpa using h);have hcm9:comS at_ sz n f s=((e56,true),s56):=com_w2 (by rw [hLF];exact hs29) (by rw [hLL];exact hll0) (by rw [hLL];exact hs48) (by rw [hLL];exact hs56) he56;refine Zf0 ?_;exact ⟨_,_,hcm9,rfl,rfl,drqz⟩
  obtain rfl:e56=0:=by simpa using h
  refine Zcr ?_;refine tl_c rfl (o_call bd209 rfl (Fence_c (s:=s56))) ?_;rintro _ _ ⟨e60,s60,hs60,rfl,rfl⟩;have hg4:Gd s.ls.length 4 s60:=(by have h9:=gd_fe hg3;rw [hs60] at h9;exact h9);have hg4l:=hg4.len;refine Zg0 ?_;refine tc_cond rfl (λ h=> ?_) (λ h=> ?_)
  . have he60:e60≠0:=(by simpa using h);have hcm9:comS at_ sz n f s=((e60,true),s60):=com_fe (by rw [hLF];exact hs29) (by rw [hLL];exact hll0) (by rw [hLL];exact hs48) (by rw [hLL];exact hs56) hs60 he60;refine Zf0 ?_;exact ⟨_,_,hcm9,rfl,rfl,drqz⟩
  obtain rfl:e60=0:=by simpa using h
  refine Zew ?_;refine Zb7 ?_;refine tv (o_nilCheck rfl) ?_;refine Zik ?_;refine tl_c rfl (o_call bd211 rfl (Clear_c (s:=s60) (hlw:=by rw [hg4l];exact hlw) (hroom:=(hg4.le oqz).room))) ?_;rintro _ _ ⟨e70,s70,hs70,rfl,rfl⟩;have hcm9:comS at_ sz n f s=((e70,true),s70):=com_cl (by rw [hLF];exact hs29) (by rw [hLL];exact hll0) (by rw [hLL];exact hs48) (by rw [hLL];exact hs56) hs60 hs70;refine Za ?_;refine tc_fall hsc ?_;exact ⟨_,_,hcm9,rfl,rfl,drqz⟩
end Go.Vl

namespace Go.Vl
open Go Go.Proofs Go.Proofs.Tryz
def fW1:TF:=layF 64 [1,2,3] false tf0
def fW:TF:=layF 66 [9,9] true fW1
section
variable {A R:SP} {C:SP->SP} {t p lg d mb at_ sz:Nat} {M:MS} {over:Bool} {s:DevS} (hc:Ct A (TxA t p lg d mb at_ sz M over s) R C)
include hc
theorem txa_dev:Ct A (Dev d s) (R*pt p (cl (pocs lg d (if over then none else some t)) 263)*pt lg (cl (lcs11 d at_ sz) 258)*pt t (cl (txcs p mb over) 298)*pt mb (mpo .i64 M)) (λ Y=>R*pt p (cl (pocs lg d (if over then none else some t)) 263)*pt lg (cl (lcs11 d at_ sz) 258)*pt t (cl (txcs p mb over) 298)*pt mb (mpo .i64 M)*Y):=
  ⟨by rw [hc.1];unfold TxA;ac_rfl,λ _=>rfl⟩
theorem txa_t:Has A t (cl (txcs p mb over) 298):=λ g w h=>by
  rw [hc.1] at h;unfold TxA at h;exact has_pt g w (h.right.left.right)
theorem txa_wf:∀g w,sat g w A->WfD s:=λ g w h=>ct_wf2 (txa_dev hc) h
end
attribute [local irreducible] crk crL crc Sl pt ro Dev imgS recS readS recsF rdW rdO rkT Parts rvl recordsS runsL adrF kcl xcl kys runA runsF layF linR flLs stoL writeT writeS comS clearS extX ovF newS fW fW1
end Go.Vl

namespace Go.Vl
open Go Go.Proofs Go.Proofs.Tryz
structure SF (M:MS) (n:Nat) (g:Nat->Bool):Prop where
  wf:WfM M
  get:∀a:Int,M.get a=if 0<=a/\ g a.toNat=true then some (.bool true) else none
  keys:∀e∈M.D,∃a:Nat,a<n/\ e.k=(a:Int)/\ g a=true
  out:∀a,n<=a->g a=false
def g0:Nat->Bool:=λ _=>false
theorem sf_nil (c n:Nat):SF ⟨[],c⟩ n g0:=⟨⟨(by simp),(by simp),λ e h=>(by cases h)⟩,λ a=>(by rw [MS.get_nil,if_neg (λ h=>by simp [g0] at h)]),λ e h=>(by cases h),λ _ _=>rfl⟩
def updG (g:Nat->Bool)(p:Nat)(b:Bool):Nat->Bool:=λ c=>if c=p then b else g c
theorem put_keys {M:MS}{a:Int}{v:Value}{e:ME}(h:e∈(M.put a v).D):e.k=a∨∃e'∈M.D,e'.k=e.k:=by
  unfold MS.put at h
  split at h
  . rename_i i u hf
    obtain ⟨j,hj,rfl⟩:=List.mem_iff_getElem.1 h
    simp only [List.length_modify] at hj
    refine .inr ⟨M.D[j],List.getElem_mem _, ?_⟩
    simp only [List.getElem_modify]
    split<;>rfl
  rcases List.mem_append.1 h with h1|h1
  . exact .inr ⟨e,h1,rfl⟩
  rw [List.mem_singleton.1 h1];exact .inl rfl
theorem sf_put {M:MS}{n p:Nat}{g:Nat->Bool}(h:SF M n g)(hp:p<n):SF (M.put (p:Int) (.bool true)) n (updG g p true):=by
  refine ⟨wfM_put h.wf,λ a=> ?_,λ e he=> ?_,λ a ha=> ?_⟩
  . rw [MS.get_put]
    unfold updG
    by_cases hc:(p:Int)=a
    . subst hc;rw [if_pos rfl,if_pos ⟨by omega,by rw [if_pos (by simp)]⟩]
    rw [if_neg hc,h.get a]
    by_cases h0:0<=a
    . rw [if_neg (show¬a.toNat=p by omega)]
    rw [if_neg (λ h9=>h0 h9.1),if_neg (λ h9=>h0 h9.1)]
  . rcases put_keys he with h1|⟨e',h1,h2⟩
    . exact ⟨p,hp,h1,by unfold updG;rw [if_pos rfl]⟩
    obtain ⟨a,h3,h4,h5⟩:=h.keys e' h1;refine ⟨a,h3,by rw [←h2];exact h4, ?_⟩
    unfold updG;split
    . rfl
    exact h5
  unfold updG;rw [if_neg oqz];exact h.out a ha
theorem mfind_mem' {D:List ME}{a:Int}{i:Nat}{v:Value}(h:mfind D a 0=some (i,v)):∃e∈D,e.k=a:=by
  obtain ⟨hi,h1,_⟩:=mfind_some h;exact ⟨_,List.getElem_mem hi,h1⟩
theorem get_of_mem {M:MS}{e:ME}(hw:WfM M)(he:e∈M.D):M.get e.k=some e.v:=get_mem hw he
theorem del_ne {M:MS}{a:Int}(hw:WfM M):∀e∈(M.del a).D,e.k≠a:=λ e he hk=>by
  have hm:=(del_sub M a).subset he;subst hk;exact (del_mem hw hm).2 e he rfl
theorem del_had {M:MS}{a:Int}{e:ME}(he:e∈M.D)(hk:e.k≠a):e∈(M.del a).D:=by
  unfold MS.del
  split
  . rename_i i u hf
    obtain ⟨hi,h1,_⟩:=mfind_some hf;obtain ⟨j,hj,rfl⟩:=List.mem_iff_getElem.1 he;have hij:j≠i:=λ e9=>by subst e9;exact hk h1
    exact List.mem_eraseIdx_iff_getElem.2 ⟨j,hj,hij,rfl⟩
  exact he
theorem get_none {M:MS}{a:Int}(h:∀e∈M.D,e.k≠a):M.get a=none:=by
  unfold MS.get
  cases hf:mfind M.D a 0 with
  |none=>rfl
  |some x=>
    obtain ⟨e,he,hk⟩:=mfind_mem' (i:=x.1) (v:=x.2) hf;exact absurd hk (h e he)
theorem get_del {M:MS}{a c:Int}(hw:WfM M):(M.del a).get c=if a=c then none else M.get c:=by
  by_cases hc:a=c
  . subst hc;rw [if_pos rfl];exact get_none (del_ne hw)
  rw [if_neg hc]
  cases hg:M.get c with
  |none=>
    refine get_none λ e he hk=> ?_
    have:=get_mem hw ((del_sub M a).subset he);rw [hk,hg] at this;cases this
  |some v=>
    unfold MS.get at hg
    cases hf:mfind M.D c 0 with
    |none=>rw [hf] at hg;cases hg
    |some x=>
      rw [hf] at hg
      simp only [Option.map_some,Option.some.injEq] at hg
      obtain ⟨hi,h1,h2⟩:=mfind_some (i:=x.1) (v:=x.2) hf;have hm:M.D[x.1]∈(M.del a).D:=del_had (List.getElem_mem hi) (by rw [h1];exact λ e=>hc e.symm);have:=get_mem (wfM_del hw a) hm;rw [h1,h2,hg] at this
      exact this
theorem sf_del {M:MS}{n p:Nat}{g:Nat->Bool}(h:SF M n g):SF (M.del (p:Int)) n (updG g p false):=by
  refine ⟨wfM_del h.wf _,λ a=> ?_,λ e he=> ?_,λ a ha=> ?_⟩
  . rw [get_del h.wf]
    unfold updG
    by_cases hc:(p:Int)=a
    . subst hc;rw [if_pos rfl,if_neg (λ h9=>by simp at h9)]
    rw [if_neg hc,h.get a]
    by_cases h0:0<=a
    . rw [if_neg (show¬a.toNat=p by omega)]
    rw [if_neg (λ h9=>h0 h9.1),if_neg (λ h9=>h0 h9.1)]
  . obtain ⟨a,h3,h4,h5⟩:=h.keys e ((del_sub M _).subset he);refine ⟨a,h3,h4, ?_⟩;have hne:=del_ne h.wf e he
    unfold updG;rw [if_neg (λ e9=>hne (by rw [h4,e9]))];exact h5
  unfold updG;split
  . rfl
  exact h.out a ha
def adS (n:Nat)(g:Nat->Bool):List Nat:=(List.range n).filter g
def adZ (n:Nat)(g:Nat->Bool):List Int:=(adS n g).map λ a:Nat=>(a:Int)
theorem adS_mem {n a:Nat}{g:Nat->Bool}:a∈adS n g↔a<n/\ g a=true:=by unfold adS;rw [List.mem_filter,List.mem_range]
theorem adS_sorted (n:Nat)(g:Nat->Bool):(adS n g).Pairwise (·<·):=(List.pairwise_lt_range).filter _
theorem adS_len (n:Nat)(g:Nat->Bool):(adS n g).length<=n:=by unfold adS;exact Nat.le_trans (List.length_filter_le _ _) (by rw [List.length_range];exact Nat.le_refl _)
theorem sf_has {M:MS}{n a:Nat}{g:Nat->Bool}(h:SF M n g)(ha:g a=true):∃e∈M.D,e.k=(a:Int):=by
  have h1:=h.get (a:Int);rw [if_pos ⟨by omega,by simpa using ha⟩] at h1
  unfold MS.get at h1
  cases hf:mfind M.D (a:Int) 0 with
  |none=>rw [hf] at h1;cases h1
  |some x=>exact mfind_mem' (i:=x.1) (v:=x.2) hf
theorem sf_sort {M:MS}{n:Nat}{g:Nat->Bool}(h:SF M n g):(M.D.map ME.k).mergeSort (λ x y=>decide (x<=y))=adZ n g:=by
  have hp:(M.D.map ME.k).Perm (adZ n g):=by
    refine (List.perm_ext_iff_of_nodup h.wf.keys ?_).2 λ x=> ?_
    . unfold adZ
      exact List.Pairwise.map _ (λ a b hab e=>absurd (Int.ofNat_inj.1 e) (Nat.ne_of_lt hab)) (adS_sorted n g)
    unfold adZ
    rw [List.mem_map,List.mem_map]
    constructor
    . rintro ⟨e,he,rfl⟩;obtain ⟨a,h1,h2,h3⟩:=h.keys e he;exact ⟨a,adS_mem.2 ⟨h1,h3⟩,h2.symm⟩
    rintro ⟨a,ha,rfl⟩;obtain ⟨e,he,hk⟩:=sf_has h (adS_mem.1 ha).2;exact ⟨e,he,hk⟩
  rw [Go.mergeSort_of_perm_i hp]
  refine List.mergeSort_of_pairwise ?_
  unfold adZ
  refine List.pairwise_map.2 ((adS_sorted n g).imp λ {a b} hab=> ?_)
  simp only [decide_eq_true_eq];omega
theorem sf_len {M:MS}{n:Nat}{g:Nat->Bool}(h:SF M n g):M.D.length=(adS n g).length:=by
  have:=congrArg List.length (sf_sort h);rw [List.length_mergeSort,List.length_map] at this
  unfold adZ at this;rw [List.length_map] at this;exact this
theorem sf_bd {M:MS}{n:Nat}{g:Nat->Bool}(h:SF M n g)(hn:n<=4194304):∀e∈M.D,-9223372036854775808<=e.k/\ e.k<=9223372036854775807:=λ e he=>by
  obtain ⟨a,h1,h2,_⟩:=h.keys e he;omega
structure WkX where
  h:Nat
  w:Nat
  t:Nat
  p:Nat
  lg:Nat
  d:Nat
  mb:Nat
  lv:Nat
  tk:Nat
  gv:Nat
  at_:Nat
  sz:Nat
  ba:Nat
  n:Nat
structure WkY where
  Ml:MS
  Mt:MS
  Mg:MS
  M:MS
  ls:Nat
structure WkT where
  lv:Nat->Bool
  tk:Nat->Bool
  gv:Nat->Bool
  f:TF
structure WkOk (X:WkX) (Y:WkY) (T:WkT) (N:Nat):Prop where
  l:SF Y.Ml X.n T.lv
  t:SF Y.Mt X.n T.tk
  g:SF Y.Mg X.n T.gv
  m:MF Y.M N T.f
  le:Y.ls<=X.n
  lo:∀b,b<Y.ls->T.lv b=true∨T.tk b=true
  dj:∀b,T.tk b=true->T.lv b=false
  gl:∀b,T.gv b=true->T.lv b=true
def usedB (T:WkT)(b:Nat):Bool:=T.tk b||(T.lv b&& !T.gv b)
def usedZ (T:WkT)(b:Int):Bool:=decide (0<=b)&&usedB T b.toNat
def freeB (T:WkT)(b:Nat):Bool:= !T.lv b&& !T.tk b
def leastB (T:WkT)(n:Nat):Option Nat:=(List.range n).find? (freeB T)
theorem used_n {X:WkX}{Y:WkY}{T:WkT}{N:Nat}(h:WkOk X Y T N){b:Nat}(hb:usedB T b=true):b<X.n:=by
  rcases Nat.lt_or_ge b X.n with h1|h1
  . exact h1
  unfold usedB at hb;rw [h.t.out b h1,h.l.out b h1] at hb;simp at hb
theorem leastB_some {T:WkT}{n b:Nat}:leastB T n=some b↔b<n/\ freeB T b=true/\∀c,c<b->freeB T c=false:=by
  unfold leastB
  rw [List.find?_range_eq_some]
  simp only [List.mem_range]
  constructor
  . rintro ⟨h1,h2,h3⟩;exact ⟨h2,h1,λ c hc=>by simpa using h3 c hc⟩
  rintro ⟨h1,h2,h3⟩;exact ⟨h2,h1,λ c hc=>by simpa using h3 c hc⟩
theorem leastB_none {T:WkT}{n:Nat}:leastB T n=none↔∀c,c<n->freeB T c=false:=by
  unfold leastB
  rw [List.find?_eq_none]
  simp only [List.mem_range]
  exact ⟨λ h c hc=>by simpa using h c hc,λ h c hc=>by simpa using h c hc⟩
def hcs (p ba n lv:Nat)(ov:Option Nat):List Value:=[pz p,vn ba,vn n,.map (some lv),.pointer (ov.map λ w=>(⟨w,0,none⟩:Addr))]
def wcs (h t tk gv ls:Nat)(over:Bool):List Value:=[pz h,pz t,.map (some tk),.map (some gv),vn ls,.bool over]
def WkA (X:WkX)(Y:WkY)(s:DevS):SP:=pt X.h (cl (hcs X.p X.ba X.n X.lv (some X.w)) 210)*pt X.w (cl (wcs X.h X.t X.tk X.gv Y.ls false) 126)*pt X.lv (mpo .i64 Y.Ml)*pt X.tk (mpo .i64 Y.Mt)*pt X.gv (mpo .i64 Y.Mg)*TxA X.t X.p X.lg X.d X.mb X.at_ X.sz Y.M false s
structure WkB (X:WkX) (s:DevS):Prop where
  lo:128<=X.ba
  hi:X.ba+256*X.n<=s.ls.length*64
  top:s.ls.length*64<=4194304
theorem mapN (M:MS)(a:Int){n:Nat}{g:Nat->Bool}(h:SF M n g):(M.get a).isSome=(decide (0<=a)&&g a.toNat):=by
  rw [h.get a]
  by_cases h1:0<=a<;>cases h2:g a.toNat<;>simp [h1]
theorem mapV (M:MS)(a:Int){n:Nat}{g:Nat->Bool}(h:SF M n g):(M.get a).getD (.bool false)= .bool (decide (0<=a)&&g a.toNat):=by
  rw [h.get a]
  by_cases h1:0<=a<;>cases h2:g a.toNat<;>simp [h1]
section
variable {A R:SP} {C:SP->SP} {X:WkX} {Y:WkY} {s:DevS} (hc:Ct A (WkA X Y s) R C)
include hc
theorem wka_txa:Ct A (TxA X.t X.p X.lg X.d X.mb X.at_ X.sz Y.M false s) (R*pt X.h (cl (hcs X.p X.ba X.n X.lv (some X.w)) 210)*pt X.w (cl (wcs X.h X.t X.tk X.gv Y.ls false) 126)*pt X.lv (mpo .i64 Y.Ml)*pt X.tk (mpo .i64 Y.Mt)*pt X.gv (mpo .i64 Y.Mg)) (λ Z=>R*pt X.h (cl (hcs X.p X.ba X.n X.lv (some X.w)) 210)*pt X.w (cl (wcs X.h X.t X.tk X.gv Y.ls false) 126)*pt X.lv (mpo .i64 Y.Ml)*pt X.tk (mpo .i64 Y.Mt)*pt X.gv (mpo .i64 Y.Mg)*Z):=
  ⟨by rw [hc.1];unfold WkA;ac_rfl,λ _=>rfl⟩
theorem wka_h:Has A X.h (cl (hcs X.p X.ba X.n X.lv (some X.w)) 210):=λ g w h=>by
  rw [hc.1] at h;unfold WkA at h;exact has_pt g w (h.right.left.left.left.left.left)
theorem wka_w:Has A X.w (cl (wcs X.h X.t X.tk X.gv Y.ls false) 126):=λ g w h=>by
  rw [hc.1] at h;unfold WkA at h;exact has_pt g w (h.right.left.left.left.left.right)
theorem wka_lv:Has A X.lv (mpo .i64 Y.Ml):=λ g w h=>by
  rw [hc.1] at h;unfold WkA at h;exact has_pt g w (h.right.left.left.left.right)
theorem wka_tk:Has A X.tk (mpo .i64 Y.Mt):=λ g w h=>by
  rw [hc.1] at h;unfold WkA at h;exact has_pt g w (h.right.left.left.right)
theorem wka_gv:Has A X.gv (mpo .i64 Y.Mg):=λ g w h=>by
  rw [hc.1] at h;unfold WkA at h;exact has_pt g w (h.right.left.right)
end
attribute [local irreducible] crk crL crc Sl pt ro Dev imgS recS readS recsF rdW rdO rkT Parts rvl recordsS runsL adrF kcl xcl kys runA runsF layF ovF TxA adZ
theorem there13_c {A:SP}{h w t tk gv ls:Nat}{over:Bool}(hw:Has A w (cl (wcs h t tk gv ls over) 126):=by exact hbqz):
    Fn Tryz.prog 126 #[pz w] A (λ r B=>r= .bool true/\ A=B):=by
  refine fn_enterW func126 rfl ntmps126 (by simp) ?_;refine Zdg ?_;refine tv (o_nep underlying46 rfl rfl) ?_;refine tlm ?_;refine tl_bool (d:=5) rfl (sbq ?_) dbq;intro h;refine Zba ?_;refine tv (o_fieldAddr (o:=0) underlying126 rfl rfl sz45 rfl) ?_;refine tv (o_load p45 rfl hw rfl) ?_;refine tv (o_nep underlying45 rfl rfl) ?_;refine Zee ?_;exact ⟨.bool true,_,res1 rfl rfl,Dr.sat drqz,rfl,rfl⟩
theorem thereH_c {A:SP}{h p ba n lv:Nat}{ov:Option Nat}(hh:Has A h (cl (hcs p ba n lv ov) 210):=by exact hbqz):
    Fn Tryz.prog 172 #[pz h] A (λ r B=>r= .bool true/\ A=B):=by
  refine fn_enterW func172 rfl ntmps172 (by simp) ?_;refine Zdg ?_;refine tv (o_nep underlying45 rfl rfl) ?_;refine tlm ?_;refine tl_bool (d:=5) rfl (sbq ?_) dbq;intro h;refine Zba ?_;refine tv (o_fieldAddr (o:=0) underlying210 rfl rfl sz163 rfl) ?_;refine tv (o_load p163 rfl hh rfl) ?_;refine tv (o_nep underlying163 rfl rfl) ?_;refine Zee ?_;exact ⟨.bool true,_,res1 rfl rfl,Dr.sat drqz,rfl,rfl⟩
theorem place13_c {A:SP}{h p ba n lv b:Nat}{ov:Option Nat}(hh:Has A h (cl (hcs p ba n lv ov) 210):=by exact hbqz)(hb:ba<=4194304:=by omega)(hb2:b<=4194304:=by omega):
    Fn Tryz.prog 189 #[pz h,vn b] A (λ r B=>r=(vn (ba+256*b))/\ A=B):=by
  refine fn_enterW func189 rfl ntmps189 (by simp) ?_;refine Zhh ?_;refine tv (o_fieldAddr (o:=1) underlying210 rfl rfl sz3 rfl) ?_;refine tv (o_load p3 rfl hh rfl) ?_;refine Zeu ?_;refine tv adqz ?_;refine Zl ?_;exact ⟨.int .i64 ((ba+256*b:Nat):Int),_,res1 rfl (by first|rfl|exact congrArg (Value.int .i64) oqz),Dr.sat drqz,rfl,rfl⟩
theorem seen0_c {A:SP}{v:Value}{e:Int}(he:e≠5:=by decide):
    Fn Tryz.prog 188 #[v,.int .i64 e] A (λ r B=>r= .int .i64 e/\ A=B):=by
  refine fn_enterW func188 rfl ntmps188 (by simp) ?_;refine Zcb ?_;refine Zdd ?_;refine tc_cond rfl (λ h=> ?_) (sbq ?_)
  . exfalso;exact he (by first|exact of_decide_eq_true h|simpa using h)
  intro h;refine Zb2 ?_;refine Zl ?_;exact ⟨.int .i64 e,_,res1 rfl rfl,Dr.sat drqz,rfl,rfl⟩
theorem Zfk {p r:Prop}(k:r)(h:Kq r->p:=by intro k;refine tl_c rfl (o_call bd188 rfl (seen0_c)) ?_;rintro _ _ ⟨rfl,rfl⟩;exact k.o):p:=h ⟨k⟩
theorem begin13_c {A R:SP}{C:SP->SP}{X:WkX}{Y:WkY}{T:WkT}{s:DevS}(hc:Ct A (WkA X Y s) R C:=by exact cbqz)(hok:WkOk X Y T (s.ls.length*64))(hb:WkB X s)(ho:s.off=false:=by assumption):
    Fn Tryz.prog 128 #[.pointer (some ⟨X.w,0,none⟩)] A (λ r B=>r= .int .i64 0/\ A=B):=by
  refine fn_enterW func128 rfl ntmps128 (by simp) ?_;have hst:∃R2 C2,Ct A (TxA X.t X.p X.lg X.d X.mb X.at_ X.sz Y.M false s) R2 C2:=⟨_,_,wka_txa hc⟩;obtain ⟨R2,C2,hct⟩:=hst;have hw9:=wka_w hc;refine Zcb ?_;refine tl_c rfl (o_call bd126 rfl (there13_c (hw:=hw9))) ?_;refine Zb1 ?_;refine Zq ?_;intro h;refine Zg6 ?_;refine tv (o_fieldAddr (o:=5) underlying126 rfl rfl sz4 rfl) ?_;refine tv (o_load p4 rfl hw9 rfl) ?_;refine Zq ?_;intro h;refine Zew ?_;refine tv (o_fieldAddr (o:=1) underlying126 rfl rfl sz122 rfl) ?_;refine tv (o_load p122 rfl hw9 rfl) ?_;refine tl_c rfl (o_call bd204 rfl (LoadT_c (hc:=hct) (n:=s.ls.length*64) (f:=T.f) (q:=0) (m:=0) (hM:=hok.m) (ho:=ho) (hqm:=Nat.zero_le _))) ?_;rintro _ _ ⟨a17,c17,rfl,hc17,rfl⟩;refine Zey ?_;refine tlm ?_;refine Zfk ?_;refine Zl ?_;exact ⟨.int .i64 0,_,res1 rfl rfl,Dr.sat drqz,rfl,rfl⟩
end Go.Vl

namespace Go.Vl
open Go Go.Proofs Go.Proofs.Tryz
theorem adZ_len (n:Nat)(g:Nat->Bool):(adZ n g).length=(adS n g).length:=by unfold adZ;rw [List.length_map]
def WkT.take (T:WkT)(b:Nat):WkT:={ T with tk:=updG T.tk b true }
def WkT.give (T:WkT)(b:Nat):WkT:=if T.tk b then { T with tk:=updG T.tk b false } else { T with gv:=updG T.gv b true }
def WkT.write (T:WkT)(ba b:Nat)(xs:List Nat):WkT:={ T with f:=layF (ba+256*b) xs (T.tk b) T.f }
theorem ok_take {X:WkX}{Y:WkY}{T:WkT}{N b:Nat}(h:WkOk X Y T N)(hb:b<X.n)(hf:freeB T b=true)(hlo:∀c,c<b->freeB T c=false):WkOk X { Y with Mt:=Y.Mt.put (b:Int) (.bool true),ls:=b+1 } (T.take b) N:=by
  unfold freeB at hf hlo
  simp only [Bool.and_eq_true,Bool.not_eq_true'] at hf
  refine ⟨h.l,sf_put h.t hb,h.g,h.m,by show b+1<=X.n;omega,λ c hc=> ?_,λ c hc=> ?_,h.gl⟩
  . show T.lv c=true∨updG T.tk b true c=true
    unfold updG
    by_cases hcb:c=b
    . rw [if_pos hcb];exact .inr rfl
    rw [if_neg hcb]
    have hc':c<b+1:=hc;have:=hlo c oqz
    cases h1:T.lv c<;>cases h2:T.tk c<;>simp [h1,h2] at this ⊢
  show T.lv c=false
  have hc':updG T.tk b true c=true:=hc
  unfold updG at hc'
  by_cases hcb:c=b
  . rw [hcb];exact hf.1
  rw [if_neg hcb] at hc';exact h.dj c hc'
theorem ok_give {X:WkX}{Y:WkY}{T:WkT}{N b:Nat}(h:WkOk X Y T N)(ht:T.tk b=true):WkOk X { Y with Mt:=Y.Mt.del (b:Int),ls:=min Y.ls b } (T.give b) N:=by
  unfold WkT.give;rw [if_pos ht]
  refine ⟨h.l,sf_del h.t,h.g,h.m,by have:=h.le;show min Y.ls b<=X.n;omega,λ c hc=> ?_,λ c hc=> ?_,h.gl⟩
  . show T.lv c=true∨updG T.tk b false c=true
    have hc':c<min Y.ls b:=hc
    unfold updG;rw [if_neg oqz]
    exact h.lo c oqz
  have hc':updG T.tk b false c=true:=hc
  unfold updG at hc'
  by_cases hcb:c=b
  . rw [if_pos hcb] at hc';cases hc'
  rw [if_neg hcb] at hc';exact h.dj c hc'
theorem ok_give2 {X:WkX}{Y:WkY}{T:WkT}{N b:Nat}(h:WkOk X Y T N)(ht:¬T.tk b=true)(hu:usedB T b=true):WkOk X { Y with Mg:=Y.Mg.put (b:Int) (.bool true) } (T.give b) N:=by
  have hn:=used_n h hu
  unfold WkT.give;rw [if_neg ht]
  refine ⟨h.l,h.t,sf_put h.g hn,h.m,h.le,h.lo,h.dj,λ c hc=> ?_⟩;have hc':updG T.gv b true c=true:=hc
  unfold updG at hc'
  by_cases hcb:c=b
  . unfold usedB at hu;rw [hcb]
    cases h1:T.tk b
    . rw [h1] at hu;simp at hu;exact hu.1
    exact absurd h1 ht
  rw [if_neg hcb] at hc';exact h.gl c hc'
theorem ok_write {X:WkX}{Y:WkY}{T:WkT}{N b:Nat}{M:MS}{xs:List Nat}(h:WkOk X Y T N)(hM:MF M N (layF (X.ba+256*b) xs (T.tk b) T.f)):WkOk X { Y with M:=M } (T.write X.ba b xs) N:=
  ⟨h.l,h.t,h.g,hM,h.le,h.lo,h.dj,h.gl⟩
theorem o_min2 {P:Program}{n:Nat}{ρ:Env}{A:SP}{dst:Option Tmp}{ty t t':TypeId}{pos:String}{after:Array Edge}{gd:Option (Nat×Bool)}{x y:Operand}{a b:Nat}(hu:P.underlying ty=some (.int .i64))(hx:ev n ρ x=(vn a))(hy:ev n ρ y=(vn b)):
    OpV P n ρ A ⟨dst,.call { callee:= .builtin .min,args:= #[x,y],argTypes:= #[t,t'] },ty,pos,after,gd⟩ ((vn (min a b))):=λ g w hs=>by
  simp only [execOp,resolve,List.map_toArray,List.map_cons,List.map_nil,hx,hy]
  rw [run_bind (w':=w) (a:=⟨.builtin .min #[t,t'] ty _,#[vn a,vn b]⟩) (by rfl)]
  simp only [invoke,builtin]
  rw [run_bind (w':=w) (a:=(vn (min a b)))]
  . rfl
  have e:(if (b:Int)<(a:Int) then (b:Int) else (a:Int))=((min a b:Nat):Int):=(by split<;>omega)
  simp [Builtin.min_,Builtin.min2,List.foldlM,Sem.run_bind,←e]
theorem usedZ_nat {T:WkT}{b:Nat}:usedZ T (b:Int)=usedB T b:=by unfold usedZ;simp
attribute [local irreducible] crk crL crc Sl pt ro Dev imgS recS readS recsF rdW rdO rkT Parts rvl recordsS runsL adrF kcl xcl kys runA runsF layF ovF TxA adZ WkA
theorem Zec {p r:Prop}(k:r)(h:Kq r->p:=by intro k;refine tv (o_nilCheck rfl) ?_;refine tv (o_fieldAddr (o:=3) underlying210 rfl rfl sz124 rfl) ?_;exact k.o):p:=h ⟨k⟩
theorem use13_c {A R:SP}{C:SP->SP}{X:WkX}{Y:WkY}{T:WkT}{s:DevS}(hc:Ct A (WkA X Y s) R C:=by exact cbqz)(hok:WkOk X Y T (s.ls.length*64))(hb:WkB X s)(ho:s.off=false:=by assumption){b:Int}:
    Fn Tryz.prog 185 #[.pointer (some ⟨X.w,0,none⟩),.int .i64 b] A (λ r B=>r= .int .i64 (if usedZ T b=true then 0 else 130)/\ A=B):=by
  refine fn_enterW func185 rfl ntmps185 (by simp) ?_;have hw9:=wka_w hc;have hh9:=wka_h hc;have hl9:=wka_lv hc;have ht9:=wka_tk hc;have hg9:=wka_gv hc;have hB:=hb;obtain ⟨hb1,hb2,hb3⟩:=hB;refine Zcb ?_;refine tl_c rfl (o_call bd128 rfl (begin13_c (hc:=hc) (hok:=hok) (hb:=hb))) ?_;refine Zij ?_;intro h;refine Zew ?_;refine tv (o_fieldAddr (o:=2) underlying126 rfl rfl sz124 rfl) ?_;refine tv (o_load p124 rfl hw9 rfl) ?_;refine tlm ?_;refine tv (o_lookupOk (ik:= .i64) (M:=Y.Mt) underlying124 underlying3 z4 rfl rfl ht9) ?_;refine tl_env (d:=23) (v:= .tuple #[.bool (decide (0<=b)&&T.tk b.toNat),.bool (decide (0<=b)&&T.tk b.toNat)]) (by show Value.tuple #[(Y.Mt.get b).getD _,.bool (Y.Mt.get b).isSome]=_;rw [mapV Y.Mt b hok.t,mapN Y.Mt b hok.t]) ?_;refine Zbq ?_;refine Zfu ?_;refine tv (o_fieldAddr (o:=3) underlying126 rfl rfl sz124 rfl) ?_;refine tv (o_load p124 rfl hw9 rfl) ?_;refine tlm ?_;refine tv (o_lookupOk (ik:= .i64) (M:=Y.Mg) underlying124 underlying3 z4 rfl rfl hg9) ?_;refine tl_env (d:=32) (v:= .tuple #[.bool (decide (0<=b)&&T.gv b.toNat),.bool (decide (0<=b)&&T.gv b.toNat)]) (by show Value.tuple #[(Y.Mg.get b).getD _,.bool (Y.Mg.get b).isSome]=_;rw [mapV Y.Mg b hok.g,mapN Y.Mg b hok.g]) ?_;refine Zdu ?_;refine tv (o_nilCheck rfl) ?_;refine tv (o_fieldAddr (o:=0) underlying126 rfl rfl sz45 rfl) ?_;refine tv (o_load p45 rfl hw9 rfl) ?_;refine Zec ?_;refine tv (o_load p124 rfl hh9 rfl) ?_;refine tlm ?_;refine tv (o_lookupOk (ik:= .i64) (M:=Y.Ml) underlying124 underlying3 z4 rfl rfl hl9) ?_;refine tl_env (d:=44) (v:= .tuple #[.bool (decide (0<=b)&&T.lv b.toNat),.bool (decide (0<=b)&&T.lv b.toNat)]) (by show Value.tuple #[(Y.Ml.get b).getD _,.bool (Y.Ml.get b).isSome]=_;rw [mapV Y.Ml b hok.l,mapN Y.Ml b hok.l]) ?_;refine Zbq ?_;refine Zci ?_;refine tc_cut (λ ρ BB=>ρ 54= .bool (usedZ T b)/\ Dr BB (A)) ?_ ?_
  . skip
    refine Zb0 ?_;refine tl_bool (d:=48) rfl (sbq ?_) (sbq ?_)
    . intro h;refine Zbj ?_;refine tk ?_;refine Zbb ?_;exact ⟨by unfold usedZ usedB;cases h0:decide (0<=b)<;>cases h1:T.tk b.toNat<;>cases h2:T.lv b.toNat<;>cases h3:T.gv b.toNat<;>simp [h0,h1,h2,h3] at* <;>rfl,drqz⟩
    intro h;refine Zt ?_;refine tl_bool (d:=50) rfl (sbq ?_) (sbq ?_)
    . intro h;refine tlm ?_;refine tv (o_not rfl) ?_;refine tv (o_pick_t rfl wqz) ?_;refine Zdn ?_;exact ⟨by unfold usedZ usedB;cases h0:decide (0<=b)<;>cases h1:T.tk b.toNat<;>cases h2:T.lv b.toNat<;>cases h3:T.gv b.toNat<;>simp [h0,h1,h2,h3] at* <;>rfl,drqz⟩
    intro h;refine Zp ?_;refine tv (o_pick_f rfl wqz) ?_;refine Zdn ?_;exact ⟨by unfold usedZ usedB;cases h0:decide (0<=b)<;>cases h1:T.tk b.toNat<;>cases h2:T.lv b.toNat<;>cases h3:T.gv b.toNat<;>simp [h0,h1,h2,h3] at* <;>rfl,drqz⟩
  intro ρ B hI;obtain ⟨hE54,hBA⟩:=hI;refine q_then_n ?_;refine tc_pre hBA.sat ?_;clear hBA;refine te 54 hE54 ?_;refine tc_cond rfl (sbq ?_) (sbq ?_)
  . intro h;refine Zdy ?_;rw [if_pos (by first|exact h|simpa using h)]
    exact ⟨.int .i64 0,_,res1 rfl rfl,Dr.sat drqz,rfl,rfl⟩
  intro h;refine Ze ?_;refine Zcd ?_;rw [if_neg (by first|exact Bool.eq_false_iff.1 h|(rw [h];decide))]
  exact ⟨.int .i64 130,_,res1 rfl rfl,Dr.sat drqz,rfl,rfl⟩
theorem Zdh {p r:Prop}(k:r)(h:Kq r->p:=by intro k;refine tv (o_nilCheck rfl) ?_;refine tv (o_fieldAddr (o:=4) underlying126 rfl rfl sz3 rfl) ?_;exact k.o):p:=h ⟨k⟩
theorem Zbl {p r:Prop}(k:r)(h:Kq r->p:=by intro k;refine tv (o_fieldAddr (o:=0) underlying126 rfl rfl sz45 rfl) ?_;refine tv (o_load p45 rfl hsqz rfl) ?_;exact k.o):p:=h ⟨k⟩
theorem Zei {p r:Prop}(k:r)(h:Kq r->p:=by intro k;refine tv (o_nilCheck rfl) ?_;refine tv (o_fieldAddr (o:=2) underlying210 rfl rfl sz3 rfl) ?_;exact k.o):p:=h ⟨k⟩
theorem Zb8 {p r:Prop}(k:r)(h:Kq r->p:=by intro k;refine tv (o_fieldAddr (o:=2) underlying126 rfl rfl sz124 rfl) ?_;refine tv (o_load p124 rfl hsqz rfl) ?_;exact k.o):p:=h ⟨k⟩
theorem Take13_ok {A R:SP}{C:SP->SP}{X:WkX}{Y:WkY}{T:WkT}{s:DevS}(hc:Ct A (WkA X Y s) R C:=by exact cbqz)(hok:WkOk X Y T (s.ls.length*64))(hb:WkB X s)(ho:s.off=false:=by assumption){b:Nat}(hf:leastB T X.n=some b):
    Fn Tryz.prog 103 #[.pointer (some ⟨X.w,0,none⟩)] A (λ r B=>∃Y2,r= .tuple #[vn b,.int .i64 0]/\ WkOk X Y2 (T.take b) (s.ls.length*64)/\ B=C (WkA X Y2 s)):=by
  refine fn_enterW func103 rfl ntmps103 (by simp) ?_;obtain ⟨hbn,hbf,hbl⟩:=leastB_some.1 hf
  have hlsb:Y.ls<=b:=by
    rcases Nat.lt_or_ge b Y.ls with h9|h9
    . have:=hok.lo b h9;unfold freeB at hbf;rcases this with h1|h1<;>simp [h1] at hbf
    exact h9
  obtain ⟨hb1,hb2,hb3⟩:=id hb;have hle:=hok.le;obtain ⟨rfl,hC⟩:=hc;refine tc_eq (show _=R*pt X.h (cl (hcs X.p X.ba X.n X.lv (some X.w)) 210)*pt X.w (cl (wcs X.h X.t X.tk X.gv Y.ls false) 126)*pt X.lv (mpo .i64 Y.Ml)*pt X.tk (mpo .i64 Y.Mt)*pt X.gv (mpo .i64 Y.Mg)*TxA X.t X.p X.lg X.d X.mb X.at_ X.sz Y.M false s by unfold WkA;ac_rfl) ?_;refine Zdi ?_;refine tl_c rfl (o_call bd128 rfl (begin13_c (s:=s) (X:=X) (Y:=Y) (T:=T) (R:=R) (C:=λ Z=>R*Z) (hc:=⟨by unfold WkA;ac_rfl,λ _=>rfl⟩) (hok:=hok) (hb:=hb))) ?_;refine Zij ?_;intro h;refine Zcr ?_;refine Zdh ?_;refine tv (o_load p3 rfl hsqz rfl) ?_;refine Zhs ?_;refine tc_loop (λ kk ρ BB=>∃ (c:Nat),(c<=b)/\ kk=X.n-c/\ ρ 5=(vn c)/\ ρ 0= .pointer (some ⟨X.w,0,none⟩)/\ Dr BB (R*pt X.h (cl (hcs X.p X.ba X.n X.lv (some X.w)) 210)*pt X.w (cl (wcs X.h X.t X.tk X.gv Y.ls false) 126)*pt X.lv (mpo .i64 Y.Ml)*pt X.tk (mpo .i64 Y.Mt)*pt X.gv (mpo .i64 Y.Mg)*TxA X.t X.p X.lg X.d X.mb X.at_ X.sz Y.M false s)) (m:=X.n-(Y.ls)) ?_ ?_
  . exact ⟨Y.ls,hlsb,rfl,rfl,rfl,drqz⟩
  intro k ρ B hI;obtain ⟨c,hp0,hkk1,hE5,hE0,hBA⟩:=hI;refine tc_pre hBA.sat ?_;clear hBA;refine te 5 hE5 ?_;refine te 0 hE0 ?_;refine Zm ?_;refine Zba ?_;refine Zbl ?_;refine Zei ?_;refine tv (o_load p3 rfl hsqz rfl) ?_;refine Zx ?_;refine tc_cond rfl (λ h=> ?_) dbq;have hcn:c<X.n:=(by first|omega|(simp at h;omega));refine Zbe ?_;refine Zs ?_;refine Zbl ?_;refine Zec ?_;refine tv (o_load p124 rfl hsqz rfl) ?_;refine tlm ?_;refine tv (o_lookupOk (ik:= .i64) (M:=Y.Ml) underlying124 underlying3 z4 rfl rfl hsqz) ?_;refine tl_env (d:=37) (v:= .tuple #[.bool (T.lv c),.bool (T.lv c)]) (by show Value.tuple #[(Y.Ml.get (c:Int)).getD _,.bool (Y.Ml.get (c:Int)).isSome]=_;rw [mapV Y.Ml (c:Int) hok.l,mapN Y.Ml (c:Int) hok.l];simp) ?_;refine Zbq ?_;refine Zci ?_;refine tc_cut (λ ρ BB=>ρ 50= .bool (freeB T c)/\ ρ 0= .pointer (some ⟨X.w,0,none⟩)/\ ρ 5=(vn c)/\ Dr BB (R*pt X.h (cl (hcs X.p X.ba X.n X.lv (some X.w)) 210)*pt X.w (cl (wcs X.h X.t X.tk X.gv Y.ls false) 126)*pt X.lv (mpo .i64 Y.Ml)*pt X.tk (mpo .i64 Y.Mt)*pt X.gv (mpo .i64 Y.Mg)*TxA X.t X.p X.lg X.d X.mb X.at_ X.sz Y.M false s)) ?_ ?_
  . skip
    refine Zbr ?_;refine tv (o_not rfl) ?_;refine tlm ?_;refine tl_bool (d:=42) rfl (sbq ?_) (sbq ?_)
    . intro h;refine Zba ?_;refine Zb8 ?_;refine tlm ?_;refine tv (o_lookup (ik:= .i64) (M:=Y.Mt) underlying124 underlying3 z4 rfl rfl hsqz) ?_;refine tl_env (d:=48) (v:= .bool (T.tk c)) (by show (Y.Mt.get (c:Int)).getD _=_;rw [mapV Y.Mt (c:Int) hok.t];simp) ?_;refine tv (o_not rfl) ?_;refine Zbb ?_;exact ⟨by unfold freeB;cases h1:T.lv c<;>cases h2:T.tk c<;>simp [h1,h2] at* <;>rfl,rfl,rfl,drqz⟩
    intro h;refine Zbj ?_;refine Zc5 ?_;refine Zdn ?_;exact ⟨by unfold freeB;cases h1:T.lv c<;>cases h2:T.tk c<;>simp [h1,h2] at* <;>rfl,rfl,rfl,drqz⟩
  intro ρ B hI;obtain ⟨hE50,hE0,hE5,hBA⟩:=hI;refine q_then_n ?_;refine tc_pre hBA.sat ?_;clear hBA;refine te 50 hE50 ?_;refine te 0 hE0 ?_;refine te 5 hE5 ?_;refine tc_cond rfl (λ h=> ?_) (sbq ?_)
  . obtain rfl:c=b:=by rcases Nat.lt_or_ge c b with h9|h9<;>first|omega|(exfalso;have h8:=hbl c h9;rw [h8] at h;simp at h)
    refine Zs ?_;refine Zb8 ?_;refine tlm ?_;refine tl_u rfl (o_mapUpdate (ik:= .i64) (M:=Y.Mt) (v:= .bool true) underlying124 underlying3 rfl upqz rfl rfl rfl) ?_;refine Zid ?_;refine Zcv ?_;refine Zdh ?_;refine tl_u rfl (o_stU (l':=wcs X.h X.t X.tk X.gv (c+1) false) rfl upqz sz3 rfl rfl (by show 4<6;decide) rfl) ?_;refine Zid ?_;refine Z6 ?_;refine q_block_r (q_then_r (q_then_r (q_block_r (q_then_r ?_))));exact ⟨_,C (WkA X { Y with Mt:=Y.Mt.put (c:Int) (.bool true),ls:=c+1 } s),res2 rfl rfl rfl,(λ g w h=>by rw [hC];exact (Dr.sat (A':=R*pt X.h (cl (hcs X.p X.ba X.n X.lv (some X.w)) 210)*pt X.w (cl (wcs X.h X.t X.tk X.gv (c+1) false) 126)*pt X.lv (mpo .i64 Y.Ml)*pt X.tk (mpo .i64 (Y.Mt.put (c:Int) (.bool true)))*pt X.gv (mpo .i64 Y.Mg)*TxA X.t X.p X.lg X.d X.mb X.at_ X.sz Y.M false s) drqz g w h).perm (by unfold WkA;ac_rfl)),_,rfl,ok_take hok hbn hbf hbl,rfl⟩
  intro h;refine Zem ?_;refine Zfy ?_;exact ⟨_,by omega,c+1,by rcases Nat.lt_or_ge c b with h9|h9<;>first|omega|(exfalso;have e9:c=b:=(by omega);subst e9;rw [hbf] at h;simp at h),rfl,rfl,rfl,drqz⟩
theorem Take13_no {A R:SP}{C:SP->SP}{X:WkX}{Y:WkY}{T:WkT}{s:DevS}(hc:Ct A (WkA X Y s) R C:=by exact cbqz)(hok:WkOk X Y T (s.ls.length*64))(hb:WkB X s)(ho:s.off=false:=by assumption)(hf:leastB T X.n=none):
    Fn Tryz.prog 103 #[.pointer (some ⟨X.w,0,none⟩)] A (λ r B=>r= .tuple #[.int .i64 0,.int .i64 7]/\ B=C (WkA X Y s)):=by
  refine fn_enterW func103 rfl ntmps103 (by simp) ?_;have hnf:=leastB_none.1 hf;obtain ⟨hb1,hb2,hb3⟩:=id hb;have hle:=hok.le;obtain ⟨rfl,hC⟩:=hc;refine tc_eq (show _=R*pt X.h (cl (hcs X.p X.ba X.n X.lv (some X.w)) 210)*pt X.w (cl (wcs X.h X.t X.tk X.gv Y.ls false) 126)*pt X.lv (mpo .i64 Y.Ml)*pt X.tk (mpo .i64 Y.Mt)*pt X.gv (mpo .i64 Y.Mg)*TxA X.t X.p X.lg X.d X.mb X.at_ X.sz Y.M false s by unfold WkA;ac_rfl) ?_;refine Zdi ?_;refine tl_c rfl (o_call bd128 rfl (begin13_c (s:=s) (X:=X) (Y:=Y) (T:=T) (R:=R) (C:=λ Z=>R*Z) (hc:=⟨by unfold WkA;ac_rfl,λ _=>rfl⟩) (hok:=hok) (hb:=hb))) ?_;refine Zij ?_;intro h;refine Zcr ?_;refine Zdh ?_;refine tv (o_load p3 rfl hsqz rfl) ?_;refine Zhs ?_;refine tc_loop (λ kk ρ BB=>∃ (c:Nat),(c<=X.n)/\ kk=X.n-c/\ ρ 5=(vn c)/\ ρ 0= .pointer (some ⟨X.w,0,none⟩)/\ Dr BB (R*pt X.h (cl (hcs X.p X.ba X.n X.lv (some X.w)) 210)*pt X.w (cl (wcs X.h X.t X.tk X.gv Y.ls false) 126)*pt X.lv (mpo .i64 Y.Ml)*pt X.tk (mpo .i64 Y.Mt)*pt X.gv (mpo .i64 Y.Mg)*TxA X.t X.p X.lg X.d X.mb X.at_ X.sz Y.M false s)) (m:=X.n-(Y.ls)) ?_ ?_
  . exact ⟨Y.ls,by omega,rfl,rfl,rfl,drqz⟩
  intro k ρ B hI;obtain ⟨c,hp0,hkk1,hE5,hE0,hBA⟩:=hI;refine tc_pre hBA.sat ?_;clear hBA;refine te 5 hE5 ?_;refine te 0 hE0 ?_;refine Zm ?_;refine Zba ?_;refine Zbl ?_;refine Zei ?_;refine tv (o_load p3 rfl hsqz rfl) ?_;refine Zx ?_;refine tc_cond rfl (λ h=> ?_) (sbq ?_)
  . have hcn:c<X.n:=(by first|omega|(simp at h;omega));refine Zbe ?_;refine Zs ?_;refine Zbl ?_;refine Zec ?_;refine tv (o_load p124 rfl hsqz rfl) ?_;refine tlm ?_;refine tv (o_lookupOk (ik:= .i64) (M:=Y.Ml) underlying124 underlying3 z4 rfl rfl hsqz) ?_;refine tl_env (d:=37) (v:= .tuple #[.bool (T.lv c),.bool (T.lv c)]) (by show Value.tuple #[(Y.Ml.get (c:Int)).getD _,.bool (Y.Ml.get (c:Int)).isSome]=_;rw [mapV Y.Ml (c:Int) hok.l,mapN Y.Ml (c:Int) hok.l];simp) ?_;refine Zbq ?_;refine Zci ?_;refine tc_cut (λ ρ BB=>ρ 50= .bool (freeB T c)/\ ρ 0= .pointer (some ⟨X.w,0,none⟩)/\ ρ 5=(vn c)/\ Dr BB (R*pt X.h (cl (hcs X.p X.ba X.n X.lv (some X.w)) 210)*pt X.w (cl (wcs X.h X.t X.tk X.gv Y.ls false) 126)*pt X.lv (mpo .i64 Y.Ml)*pt X.tk (mpo .i64 Y.Mt)*pt X.gv (mpo .i64 Y.Mg)*TxA X.t X.p X.lg X.d X.mb X.at_ X.sz Y.M false s)) ?_ ?_
    . skip
      refine Zbr ?_;refine tv (o_not rfl) ?_;refine tlm ?_;refine tl_bool (d:=42) rfl (sbq ?_) (sbq ?_)
      . intro h;refine Zba ?_;refine Zb8 ?_;refine tlm ?_;refine tv (o_lookup (ik:= .i64) (M:=Y.Mt) underlying124 underlying3 z4 rfl rfl hsqz) ?_;refine tl_env (d:=48) (v:= .bool (T.tk c)) (by show (Y.Mt.get (c:Int)).getD _=_;rw [mapV Y.Mt (c:Int) hok.t];simp) ?_;refine tv (o_not rfl) ?_;refine Zbb ?_;exact ⟨by unfold freeB;cases h1:T.lv c<;>cases h2:T.tk c<;>simp [h1,h2] at* <;>rfl,rfl,rfl,drqz⟩
      intro h;refine Zbj ?_;refine Zc5 ?_;refine Zdn ?_;exact ⟨by unfold freeB;cases h1:T.lv c<;>cases h2:T.tk c<;>simp [h1,h2] at* <;>rfl,rfl,rfl,drqz⟩
    intro ρ B hI;obtain ⟨hE50,hE0,hE5,hBA⟩:=hI;refine q_then_n ?_;refine tc_pre hBA.sat ?_;clear hBA;refine te 50 hE50 ?_;refine te 0 hE0 ?_;refine te 5 hE5 ?_;refine tc_cond rfl (λ h=> ?_) (sbq ?_)
    . exfalso;rw [hnf c hcn] at h;simp at h
    intro h;refine Zem ?_;refine Zfy ?_;exact ⟨_,by omega,c+1,by omega,rfl,rfl,rfl,drqz⟩
  intro h;refine Zk ?_;refine sr ?_;refine Z6 ?_;exact ⟨_,C (WkA X Y s),res2 rfl rfl rfl,(λ g w h=>by rw [hC];exact (Dr.sat (A':=R*pt X.h (cl (hcs X.p X.ba X.n X.lv (some X.w)) 210)*pt X.w (cl (wcs X.h X.t X.tk X.gv Y.ls false) 126)*pt X.lv (mpo .i64 Y.Ml)*pt X.tk (mpo .i64 Y.Mt)*pt X.gv (mpo .i64 Y.Mg)*TxA X.t X.p X.lg X.d X.mb X.at_ X.sz Y.M false s) drqz g w h).perm (by unfold WkA;ac_rfl)),rfl,rfl⟩
theorem Ziq {p r:Prop}(k:r)(h:Kq r->p:=by intro k;refine tlm ?_;refine tv (o_min2 underlying3 rfl rfl) ?_;exact k.o):p:=h ⟨k⟩
theorem Zil {p r:Prop}(k:r)(h:Kq r->p:=by intro k;refine tv (o_fieldAddr (o:=3) underlying126 rfl rfl sz124 rfl) ?_;refine tv (o_load p124 rfl hsqz rfl) ?_;exact k.o):p:=h ⟨k⟩
theorem Give13_ok {A R:SP}{C:SP->SP}{X:WkX}{Y:WkY}{T:WkT}{s:DevS}(hc:Ct A (WkA X Y s) R C:=by exact cbqz)(hok:WkOk X Y T (s.ls.length*64))(hb:WkB X s)(ho:s.off=false:=by assumption){b:Nat}(hu:usedB T b=true):
    Fn Tryz.prog 105 #[.pointer (some ⟨X.w,0,none⟩),vn b] A (λ r B=>∃Y2,r= .int .i64 0/\ WkOk X Y2 (T.give b) (s.ls.length*64)/\ B=C (WkA X Y2 s)):=by
  refine fn_enterW func105 rfl ntmps105 (by simp) ?_;obtain ⟨hb1,hb2,hb3⟩:=id hb;have hle:=hok.le;have hun:=used_n hok hu;obtain ⟨rfl,hC⟩:=hc;refine tc_eq (show _=R*pt X.h (cl (hcs X.p X.ba X.n X.lv (some X.w)) 210)*pt X.w (cl (wcs X.h X.t X.tk X.gv Y.ls false) 126)*pt X.lv (mpo .i64 Y.Ml)*pt X.tk (mpo .i64 Y.Mt)*pt X.gv (mpo .i64 Y.Mg)*TxA X.t X.p X.lg X.d X.mb X.at_ X.sz Y.M false s by unfold WkA;ac_rfl) ?_;refine Zcb ?_;refine tlm ?_;refine tl_c rfl (o_call bd185 rfl (use13_c (s:=s) (X:=X) (Y:=Y) (T:=T) (R:=R) (C:=λ Z=>R*Z) (b:=(b:Int)) (hc:=⟨by unfold WkA;ac_rfl,λ _=>rfl⟩) (hok:=hok) (hb:=hb))) ?_;rintro _ _ ⟨rfl,rfl⟩;refine tl_env (d:=8) (v:= .int .i64 0) (by show Value.int .i64 (if usedZ T (b:Int)=true then 0 else 130)=_;rw [usedZ_nat,if_pos hu]) ?_;refine Zz ?_;refine Zbd ?_;intro h;refine Zg6 ?_;refine Zb8 ?_;refine tlm ?_;refine tv (o_lookup (ik:= .i64) (M:=Y.Mt) underlying124 underlying3 z4 rfl rfl hsqz) ?_;refine tl_env (d:=17) (v:= .bool (T.tk b)) (by show (Y.Mt.get (b:Int)).getD _=_;rw [mapV Y.Mt (b:Int) hok.t];simp) ?_;refine nq ?_;refine tc_cut (λ ρ BB=>∃ (Y2:WkY),(WkOk X Y2 (T.give b) (s.ls.length*64))/\ Dr BB (R*pt X.h (cl (hcs X.p X.ba X.n X.lv (some X.w)) 210)*pt X.w (cl (wcs X.h X.t X.tk X.gv Y2.ls false) 126)*pt X.lv (mpo .i64 Y2.Ml)*pt X.tk (mpo .i64 Y2.Mt)*pt X.gv (mpo .i64 Y2.Mg)*TxA X.t X.p X.lg X.d X.mb X.at_ X.sz Y2.M false s)) ?_ ?_
  . skip
    refine tc_cond rfl (λ h=> ?_) (λ h=> ?_)
    . have htk:T.tk b=true:=(by first|exact h|simpa using h);refine Zs ?_;refine Zb8 ?_;refine tlm ?_;refine tl_x rfl (o_delete (ik:= .i64) (M:=Y.Mt) underlying124 underlying3 rfl rfl upqz rfl) ?_;refine Zgn ?_;refine Zb0 ?_;refine Zdh ?_;refine tv (o_load p3 rfl hsqz rfl) ?_;refine Ziq ?_;refine Zdh ?_;refine tl_u rfl (o_stU (l':=wcs X.h X.t X.tk X.gv (min Y.ls b) false) rfl upqz sz3 rfl rfl (by show 4<6;decide) rfl) ?_;refine tl_nil ?_;exact ⟨{ Y with Mt:=Y.Mt.del (b:Int),ls:=min Y.ls b },by first|exact ok_give hok htk|exact ok_give2 hok htk hu,drqz⟩
    have htk:¬T.tk b=true:=(by first|exact Bool.eq_false_iff.1 h|(rw [h];decide));refine Zhw ?_;refine Zil ?_;refine tlm ?_;refine tl_u rfl (o_mapUpdate (ik:= .i64) (M:=Y.Mg) (v:= .bool true) underlying124 underlying3 rfl upqz rfl rfl rfl) ?_;refine tl_nil ?_;exact ⟨{ Y with Mg:=Y.Mg.put (b:Int) (.bool true) },by first|exact ok_give hok htk|exact ok_give2 hok htk hu,drqz⟩
  intro ρ B hI;obtain ⟨Y2,hgv0,hBA⟩:=hI;refine q_then_n ?_;refine tc_pre hBA.sat ?_;clear hBA;refine Zcd ?_;exact ⟨_,C (WkA X Y2 s),res1 rfl rfl,(λ g w h=>by rw [hC];exact (Dr.sat (A':=R*pt X.h (cl (hcs X.p X.ba X.n X.lv (some X.w)) 210)*pt X.w (cl (wcs X.h X.t X.tk X.gv Y2.ls false) 126)*pt X.lv (mpo .i64 Y2.Ml)*pt X.tk (mpo .i64 Y2.Mt)*pt X.gv (mpo .i64 Y2.Mg)*TxA X.t X.p X.lg X.d X.mb X.at_ X.sz Y2.M false s) drqz g w h).perm (by unfold WkA;ac_rfl)),Y2,rfl,hgv0,rfl⟩
theorem Read13_ok {A R:SP}{C:SP->SP}{X:WkX}{Y:WkY}{T:WkT}{s:DevS}(hc:Ct A (WkA X Y s) R C:=by exact cbqz)(hok:WkOk X Y T (s.ls.length*64))(hb:WkB X s)(ho:s.off=false:=by assumption){b:Nat}(hu:usedB T b=true):
    Fn Tryz.prog 148 #[.pointer (some ⟨X.w,0,none⟩),vn b] A (λ r B=>∃a c,r= .tuple #[.slice a 256 c,.int .i64 0]/\ 256<=c/\ B=A*Sl 1 (.slice a 256 c) 256 (bys (ovF T.f (X.ba+256*b) (((imgS s).drop (X.ba+256*b)).take 256)))):=by
  refine fn_enterW func148 rfl ntmps148 (by simp) ?_;have hw9:=wka_w hc;have hh9:=wka_h hc;have hl9:=wka_lv hc;have ht9:=wka_tk hc;have hg9:=wka_gv hc;have hB:=hb;obtain ⟨hb1,hb2,hb3⟩:=hB;have hun:=used_n hok hu;refine Zdi ?_;refine tlm ?_;refine tl_c rfl (o_call bd185 rfl (use13_c (hc:=hc) (b:=(b:Int)) (hok:=hok) (hb:=hb))) ?_;rintro _ _ ⟨rfl,rfl⟩;refine tl_env (d:=11) (v:= .int .i64 0) (by show Value.int .i64 (if usedZ T (b:Int)=true then 0 else 130)=_;rw [usedZ_nat,if_pos hu]) ?_;refine Zz ?_;refine Zbd ?_;intro h;refine Zdm ?_;refine tc_regh mo dr_refl ?_
  show TH _ _ _ _ _ 16 (Array.replicate 16 false) _ _
  refine Zb4 ?_;refine tm 2 rfl kqz rfl (o_fieldAddr (o:=1) underlying126 rfl rfl sz122 rfl) ?_;refine tm 3 rfl kqz rfl (o_load p122 rfl hw9 rfl) ?_;refine Zd4 ?_;refine tm 6 rfl kqz rfl (o_fieldAddr (o:=0) underlying126 rfl rfl sz45 rfl) ?_;refine tm 7 rfl kqz rfl (o_load p45 rfl hw9 rfl) ?_;refine tm 8 rfl kqz rfl (o_move wqz) ?_;refine th_one (i:=9) kqz ?_;refine oh_c rfl rfl rfl (o_call bd189 rfl (place13_c (hh:=hh9))) ?_;refine Zcp ?_;refine th_one (i:=10) kqz ?_;refine oh_c rfl rfl rfl (o_call bd204 rfl (LoadT_c (hc:=wka_txa hc) (n:=s.ls.length*64) (f:=T.f) (q:=X.ba+256*b) (m:=256) (hM:=hok.m) (ho:=ho) (hqm:=by omega))) ?_;rintro _ _ ⟨a26,c26,rfl,hc26,rfl⟩;refine ⟨by repeat (first|with_reducible exact dr_refl|apply dr_keep|apply dr_drop), ?_⟩;refine tm 11 rfl kqz rfl (o_move wqz) ?_;refine tm 12 rfl kqz rfl (o_extract rfl rfl) ?_;refine tm 13 rfl kqz rfl (o_extract rfl rfl) ?_;refine tm 14 rfl kqz rfl (o_assign wqz) ?_;refine tm 15 rfl kqz rfl (o_assign wqz) ?_;refine Zbv ?_;refine Zb ?_;refine Zt ?_;refine Zfk ?_;refine Z6 ?_;exact ⟨_,_,res2 rfl rfl rfl,Dr.sat drqz,a26,c26,rfl,hc26,rfl⟩
theorem Read13_no {A R:SP}{C:SP->SP}{X:WkX}{Y:WkY}{T:WkT}{s:DevS}(hc:Ct A (WkA X Y s) R C:=by exact cbqz)(hok:WkOk X Y T (s.ls.length*64))(hb:WkB X s)(ho:s.off=false:=by assumption){b:Int}(hu:usedZ T b=false):
    Fn Tryz.prog 148 #[.pointer (some ⟨X.w,0,none⟩),.int .i64 b] A (λ r B=>r= .tuple #[.slice none 0 0,.int .i64 130]/\ A=B):=by
  refine fn_enterW func148 rfl ntmps148 (by simp) ?_;refine Zdi ?_;refine tlm ?_;refine tl_c rfl (o_call bd185 rfl (use13_c (hc:=hc) (b:=b) (hok:=hok) (hb:=hb))) ?_;rintro _ _ ⟨rfl,rfl⟩;refine tl_env (d:=11) (v:= .int .i64 130) (by show Value.int .i64 (if usedZ T b=true then 0 else 130)=_;rw [hu];rfl) ?_;refine Zg0 ?_;refine tc_cond rfl (sbq ?_) dbq;intro h;refine Zhe ?_;exact ⟨_,_,res2 rfl rfl rfl,Dr.sat drqz,rfl,rfl⟩
theorem Zd0 {p r:Prop}(k:r)(h:Kq r->p:=by intro k;refine tv (o_fieldAddr (o:=1) underlying126 rfl rfl sz122 rfl) ?_;refine tv (o_load p122 rfl hsqz rfl) ?_;exact k.o):p:=h ⟨k⟩
theorem Write13_ok {A R:SP}{C:SP->SP}{X:WkX}{Y:WkY}{T:WkT}{s:DevS}(hc:Ct A (WkA X Y s) R C:=by exact cbqz)(hok:WkOk X Y T (s.ls.length*64))(hb:WkB X s)(ho:s.off=false:=by assumption){b:Nat}(hu:usedB T b=true){a:Option Addr}{c:Nat}{xs:List Nat}(hr:Rs R a (bys xs):=by exact rbqz)(hxl:xs.length=256)(hxb:∀x∈xs,x<256):
    Fn Tryz.prog 107 #[.pointer (some ⟨X.w,0,none⟩),vn b,.slice a 256 c] A (λ r B=>∃Y2,r= .int .i64 0/\ WkOk X Y2 (T.write X.ba b xs) (s.ls.length*64)/\ B=C (WkA X Y2 s)):=by
  refine fn_enterW func107 rfl ntmps107 (by simp) ?_;obtain ⟨hb1,hb2,hb3⟩:=id hb;have hle:=hok.le;have hun:=used_n hok hu;obtain ⟨rfl,hC⟩:=hc;refine tc_eq (show _=R*pt X.h (cl (hcs X.p X.ba X.n X.lv (some X.w)) 210)*pt X.w (cl (wcs X.h X.t X.tk X.gv Y.ls false) 126)*pt X.lv (mpo .i64 Y.Ml)*pt X.tk (mpo .i64 Y.Mt)*pt X.gv (mpo .i64 Y.Mg)*TxA X.t X.p X.lg X.d X.mb X.at_ X.sz Y.M false s by unfold WkA;ac_rfl) ?_;refine Zcb ?_;refine tlm ?_;refine tl_c rfl (o_call bd185 rfl (use13_c (s:=s) (X:=X) (Y:=Y) (T:=T) (R:=R) (C:=λ Z=>R*Z) (b:=(b:Int)) (hc:=⟨by unfold WkA;ac_rfl,λ _=>rfl⟩) (hok:=hok) (hb:=hb))) ?_;rintro _ _ ⟨rfl,rfl⟩;refine tl_env (d:=11) (v:= .int .i64 0) (by show Value.int .i64 (if usedZ T (b:Int)=true then 0 else 130)=_;rw [usedZ_nat,if_pos hu]) ?_;refine Zz ?_;refine Zbd ?_;intro h;refine Zcr ?_;refine tv (o_len underlying67 rfl) ?_;refine Zbd ?_;intro h;refine Zew ?_;refine Zd0 ?_;refine tv (o_makeFunc (fs:=[.pointer (some ⟨X.t,0,none⟩)]) (cs:=[]) rfl rfl) ?_;refine Zy ?_;refine tv (o_nilCheck rfl) ?_;refine Zb8 ?_;refine tlm ?_;refine tv (o_lookup (ik:= .i64) (M:=Y.Mt) underlying124 underlying3 z4 rfl rfl hsqz) ?_;refine tl_env (d:=28) (v:= .bool (T.tk b)) (by show (Y.Mt.get (b:Int)).getD _=_;rw [mapV Y.Mt (b:Int) hok.t];simp) ?_;refine nq ?_;refine tc_cond rfl (λ h=> ?_) (λ h=> ?_)
  . have htk:T.tk b=true:=(by first|exact h|simpa using h);refine Zhw ?_;refine Zd0 ?_;refine tv (o_makeFunc (fs:=[.pointer (some ⟨X.t,0,none⟩)]) (cs:=[]) rfl rfl) ?_;refine Zf6 ?_;refine tv (o_nilCheck rfl) ?_;refine Zbl ?_;refine tlm ?_;refine tl_c rfl (o_call bd189 rfl (place13_c)) ?_;refine Zej ?_;refine tl_c rfl (o_dyn bd187 rfl rfl (FreshT_c (s:=s) (n:=s.ls.length*64) (f:=T.f) (q:=X.ba+256*b) (xs:=xs) (hM:=hok.m) (hn:=rfl) (ho:=ho) (hr:=by repeat (first|exact hr|apply Rs.left)) (hm:=hxl) (hb:=hxb) (hqm:=by omega))) ?_;rintro _ _ ⟨M43,rfl,hM43,rfl⟩;refine Zfk ?_;refine Zl ?_;exact ⟨_,C (WkA X { Y with M:=M43 } s),res1 rfl rfl,(λ g w h=>by rw [hC];exact (Dr.sat (A':=R*pt X.h (cl (hcs X.p X.ba X.n X.lv (some X.w)) 210)*pt X.w (cl (wcs X.h X.t X.tk X.gv Y.ls false) 126)*pt X.lv (mpo .i64 Y.Ml)*pt X.tk (mpo .i64 Y.Mt)*pt X.gv (mpo .i64 Y.Mg)*TxA X.t X.p X.lg X.d X.mb X.at_ X.sz M43 false s) drqz g w h).perm (by unfold WkA;ac_rfl)),{ Y with M:=M43 },rfl,ok_write hok (by rw [htk];exact hM43),rfl⟩
  have htk:T.tk b=false:=(by first|exact h|simpa using h);refine Zh8 ?_;refine tv (o_nilCheck rfl) ?_;refine Zbl ?_;refine tlm ?_;refine tl_c rfl (o_call bd189 rfl (place13_c)) ?_;refine Zej ?_;refine tl_c rfl (o_dyn bd186 rfl rfl (StoreT_c (s:=s) (n:=s.ls.length*64) (f:=T.f) (q:=X.ba+256*b) (xs:=xs) (hM:=hok.m) (hn:=rfl) (ho:=ho) (hr:=by repeat (first|exact hr|apply Rs.left)) (hm:=hxl) (hb:=hxb) (hqm:=by omega))) ?_;rintro _ _ ⟨M43,rfl,hM43,rfl⟩;refine Zfk ?_;refine Zl ?_;exact ⟨_,C (WkA X { Y with M:=M43 } s),res1 rfl rfl,(λ g w h=>by rw [hC];exact (Dr.sat (A':=R*pt X.h (cl (hcs X.p X.ba X.n X.lv (some X.w)) 210)*pt X.w (cl (wcs X.h X.t X.tk X.gv Y.ls false) 126)*pt X.lv (mpo .i64 Y.Ml)*pt X.tk (mpo .i64 Y.Mt)*pt X.gv (mpo .i64 Y.Mg)*TxA X.t X.p X.lg X.d X.mb X.at_ X.sz M43 false s) drqz g w h).perm (by unfold WkA;ac_rfl)),{ Y with M:=M43 },rfl,ok_write hok (by rw [htk];exact hM43),rfl⟩
theorem Root13_c {A R:SP}{C:SP->SP}{X:WkX}{Y:WkY}{T:WkT}{s:DevS}(hc:Ct A (WkA X Y s) R C:=by exact cbqz)(hok:WkOk X Y T (s.ls.length*64))(hb:WkB X s)(ho:s.off=false:=by assumption):
    Fn Tryz.prog 199 #[.pointer (some ⟨X.w,0,none⟩)] A (λ r B=>∃v,r= .tuple #[.int .u64 v,.int .i64 0]/\ A=B):=by
  refine fn_enterW func199 rfl ntmps199 (by simp) ?_;have hw9:=wka_w hc;have hh9:=wka_h hc;have hl9:=wka_lv hc;have ht9:=wka_tk hc;have hg9:=wka_gv hc;have hB:=hb;obtain ⟨hb1,hb2,hb3⟩:=hB;have hN:128<=s.ls.length*64:=(by omega);refine Zdi ?_;refine tl_c rfl (o_call bd128 rfl (begin13_c (hc:=hc) (hok:=hok) (hb:=hb))) ?_;refine Zij ?_;intro h;refine Zew ?_;refine tv (o_fieldAddr (o:=1) underlying126 rfl rfl sz122 rfl) ?_;refine tv (o_load p122 rfl hw9 rfl) ?_;refine tl_c rfl (o_call bd204 rfl (LoadT_c (hc:=wka_txa hc) (n:=s.ls.length*64) (f:=T.f) (q:=64) (m:=8) (hM:=hok.m) (ho:=ho) (hqm:=by omega))) ?_;rintro _ _ ⟨a20,c20,rfl,hc20,rfl⟩;refine Zf9 ?_;intro h;refine Zdm ?_;obtain ⟨zs,hzs⟩:∃zs,ovF T.f 64 (((imgS s).drop 64).take 8)=zs:=⟨_,rfl⟩;rw [hzs]
  refine tc_have (λ _ _ h=>sl_len h) λ hzl=> ?_
  rw [bys_length] at hzl
  refine tc_reg ?_;refine Zy ?_;refine Zes ?_;refine tc_loop (λ kk ρ BB=>∃ (i:Nat) (v:Value),(i<=8)/\ (∃z,v= .int .u64 z)/\ kk=8-i/\ ρ 30=(vn i)/\ ρ 7=v/\ ρ 28= .slice a20 8 c20/\ ρ 29= .int .i64 8/\ Dr BB (A*Sl 1 (.slice a20 8 c20) 8 (bys zs))) (m:=8-(0)) ?_ ?_
  . exact ⟨0,.int .u64 0,by omega,⟨0,rfl⟩,rfl,rfl,rfl,rfl,rfl,drqz⟩
  intro k ρ B hI;obtain ⟨i,v,hp0,hp1,hkk1,hE30,hE7,hE28,hE29,hBA⟩:=hI;refine tc_pre hBA.sat ?_;clear hBA;refine te 30 hE30 ?_;refine te 7 hE7 ?_;refine te 28 hE28 ?_;refine te 29 hE29 ?_;refine Zb9 ?_;refine tc_cond rfl (λ h=> ?_) (λ h=> ?_)
  . obtain ⟨z,rfl⟩:=hp1;have hi:i<zs.length:=(by simp at h;omega);obtain ⟨y,hy⟩:∃y,zs[i]=y:=⟨_,rfl⟩;refine Zen ?_;refine tv (o_ixP1 (a:=a20) underlying67 sz5 rfl rfl oqz (nn_rs (xs:=bys zs) sq0z (by rw [bys_length];omega))) ?_;refine tv (o_ldP (a:=a20) (xs:=bys zs) p5 rfl sq0z (bys_at hi)) ?_;refine tl_env (d:=34) (v:= .int .u8 (y:Nat)) (by show Value.int .u8 ((zs[i]:Nat):Int)=_;rw [hy]) ?_;refine tla ?_;refine Zfx ?_;refine tv (by first|exact o_conv64 underlying5 underlying141 rfl|exact o_conv underlying5 underlying141 rfl) ?_;refine Zeu ?_;refine tv (o_shl rfl rfl oqz) ?_;refine tv (o_or rfl rfl) ?_;refine Zeo ?_;exact ⟨_,by omega,i+1,_,by omega,⟨_,rfl⟩,rfl,rfl,rfl,rfl,rfl,drqz⟩
  obtain ⟨z,rfl⟩:=hp1;refine Zhb ?_;exact ⟨_,_,res2 rfl rfl rfl,Dr.sat drqz,z,rfl,rfl⟩
theorem rising_c {A:SP}{b n:Nat}{M:MS}{g:Nat->Bool}(hm:Has A b (mpo .i64 M))(hs:SF M n g)(hn:n<=4194304:=by omega):
    Fn Tryz.prog 127 #[.map (some b)] A (λ r B=>∃a c,r= .slice a (adZ n g).length c/\ (adZ n g).length<=c/\ B=A*Sl 1 (.slice a (adZ n g).length c) (adZ n g).length (ints (adZ n g))):=by
  refine fn_enterW func127 rfl ntmps127 (by simp) ?_;have hlen:M.D.length=(adZ n g).length:=(by rw [sf_len hs,adZ_len]);have hsl:=adS_len n g;rw [←adZ_len] at hsl
  refine Zdg ?_;refine tl_c rfl (o_call bd203 rfl (Keys_c)) ?_;rintro _ _ ⟨k4,rfl,rfl⟩;refine tl_c rfl (o_call bd202 rfl (Sorted_c (M:=M) (hm:=has_left hm) (hk:=by first|exact has_here|exact has_pt) (hw:=hs.wf) (hb:=sf_bd hs hn) (hl:=by omega))) ?_;rintro _ _ ⟨a5,c5,rfl,hc5,rfl⟩;rw [sf_sort hs,hlen]
  rw [hlen] at hc5
  refine Zl ?_;exact ⟨_,_,res1 rfl rfl,Dr.sat drqz,a5,c5,rfl,hc5,rfl⟩
theorem Taken13_c {A R:SP}{C:SP->SP}{X:WkX}{Y:WkY}{T:WkT}{s:DevS}(hc:Ct A (WkA X Y s) R C:=by exact cbqz)(hok:WkOk X Y T (s.ls.length*64))(hb:WkB X s)(ho:s.off=false:=by assumption):
    Fn Tryz.prog 36 #[.pointer (some ⟨X.w,0,none⟩)] A (λ r B=>∃a c,r= .slice a (adZ X.n T.tk).length c/\ (adZ X.n T.tk).length<=c/\ B=A*Sl 1 (.slice a (adZ X.n T.tk).length c) (adZ X.n T.tk).length (ints (adZ X.n T.tk))):=by
  refine fn_enterW func36 rfl ntmps36 (by simp) ?_;have hw9:=wka_w hc;have hh9:=wka_h hc;have hl9:=wka_lv hc;have ht9:=wka_tk hc;have hg9:=wka_gv hc;have hB:=hb;obtain ⟨hb1,hb2,hb3⟩:=hB;refine Zcb ?_;refine tl_c rfl (o_call bd126 rfl (there13_c (hw:=hw9))) ?_;refine Zb1 ?_;refine Zfz ?_;intro h;refine Zba ?_;refine tv (o_fieldAddr (o:=5) underlying126 rfl rfl sz4 rfl) ?_;refine tv (o_load p4 rfl hw9 rfl) ?_;refine Zdz ?_;intro h;refine Zew ?_;refine tv (o_fieldAddr (o:=2) underlying126 rfl rfl sz124 rfl) ?_;refine tv (o_load p124 rfl hw9 rfl) ?_;refine tl_c rfl (o_call bd127 rfl (rising_c (M:=Y.Mt) (g:=T.tk) (hm:=ht9) (hs:=hok.t))) ?_;rintro _ _ ⟨a16,c16,rfl,hc16,rfl⟩;refine Zl ?_;exact ⟨_,_,res1 rfl rfl,Dr.sat drqz,a16,c16,rfl,hc16,rfl⟩
end Go.Vl

namespace Go.Vl
open Go Go.Proofs Go.Proofs.Tryz
def onL (zs:List Nat):Nat->Bool:=λ c=>decide (c∈zs)
theorem onL_nil:onL []=g0:=by funext c;simp [onL,g0]
theorem onL_snoc (zs:List Nat)(x:Nat):onL (zs++[x])=updG (onL zs) x true:=by
  funext c;unfold onL updG
  by_cases h:c=x
  . rw [if_pos h,h];simp
  rw [if_neg h];simp [h]
def natI (zs:List Nat):List Int:=zs.map λ a:Nat=>(a:Int)
theorem natI_len (zs:List Nat):(natI zs).length=zs.length:=by simp [natI]
theorem natI_at {zs:List Nat}{i:Nat}(h:i<zs.length):(ints (natI zs))[i]? =some ((vn (zs[i]))):=by
  unfold ints natI;rw [List.getElem?_map,List.getElem?_map,List.getElem?_eq_getElem h];rfl
theorem nodup_at {zs:List Nat}(h:zs.Nodup){i:Nat}(hi:i<zs.length):onL (zs.take i) zs[i]=false:=by
  unfold onL
  rw [decide_eq_false]
  intro hm;obtain ⟨j,hj,e⟩:=List.mem_iff_getElem.1 hm;rw [List.length_take] at hj
  rw [List.getElem_take] at e
  exact List.pairwise_iff_getElem.1 h j i oqz hi oqz e
theorem o_eqpS {P:Program}{n:Nat}{ρ:Env}{A:SP}{dst:Option Tmp}{ty:TypeId}{pos:String}{after:Array Edge}{gd:Option (Nat×Bool)}{t t' e:TypeId}{x y:Operand}{a:Addr}{j:TypeInfo}(hu:P.underlying t=some (.pointer e))(hj:P.info? e=some j)(hge:P.eqGuardType P.depth t=false)(hx:ev n ρ x= .pointer (some a))(hy:ev n ρ y= .pointer (some a)):
    OpV P n ρ A ⟨dst,.binOp .eql t x y t',ty,pos,after,gd⟩ (.bool true):=opv_of λ w=>by
  simp only [execOp,hx,hy]
  rw [run_bind (w':=w) (a:= .bool true)]
  . rfl
  rw [run_bind (w':=w) (a:=())]
  . exact run_eql_ptr_same w a hu hj
  simp [eqGuard,hge,program,bind,Sem.bind,Sem.run,pure]
attribute [local irreducible] crk crL crc Sl pt ro Dev imgS recS readS recsF rdW rdO rkT Parts rvl recordsS runsL adrF kcl xcl kys runA runsF layF ovF TxA adZ WkA
theorem NewH_c {A R:SP}{C:SP->SP}{d:Nat}{s:DevS}(hc:Ct A (Dev d s) R C:=by exact cbqz){p lg:Nat}{ov:Option Nat}(hp:Has A p (cl (pocs lg d ov) 263):=by exact hbqz){ba n:Nat}(h64:ba%64=0)(h1:128<=ba)(h2:ba+256*n<=s.ls.length*64)(htop:s.ls.length*64<=4194304)(hpos:0<s.ls.length):
    Fn Tryz.prog 86 #[pz p,vn ba,vn n] A (λ r B=>∃lv hd,r= .tuple #[pz hd,.int .i64 0]/\ B=A*pt lv (mpo .i64 ⟨[],0⟩)*pt hd (cl (hcs p ba n lv none) 210)):=by
  refine fn_enterW func86 rfl ntmps86 (by simp) ?_;refine Zdi ?_;refine tl_c rfl (o_call bd171 rfl (Size12_c (hc:=hc) (hp:=hp))) ?_;rintro _ _ ⟨rfl,rfl⟩;refine tv (o_eqi rfl rfl) ?_;refine Zq ?_;intro h;refine Zcr ?_;refine tv (o_remI rfl rfl oqz) ?_;refine Zdv ?_;refine tl_bool (d:=14) rfl dbq (sbq ?_);intro h;refine Zhy ?_;refine tl_bool (d:=18) rfl dbq (sbq ?_);intro h;refine Zhy ?_;refine tl_bool (d:=22) rfl dbq (sbq ?_);intro h;refine Zt ?_;refine tl_c rfl (o_call bd171 rfl (Size12_c (hc:=hc) (hp:=hp))) ?_;rintro _ _ ⟨rfl,rfl⟩;refine Zhg ?_;refine tl_bool (d:=28) rfl dbq (sbq ?_);intro h;refine Zt ?_;refine tl_c rfl (o_call bd171 rfl (Size12_c (hc:=hc) (hp:=hp))) ?_;rintro _ _ ⟨rfl,rfl⟩;refine Zc0 ?_;refine tv (o_quoI rfl rfl oqz) ?_;refine Z7 ?_;refine Zq ?_;intro h;refine Zh8 ?_;refine tl_x rfl (o_makeMap (ik:= .i64) underlying124) ?_;rintro _ _ ⟨b40,rfl,rfl⟩;refine tv (o_bS (l:=[_,_,_,_,_]) (pv_cons wqz (pv_cons wqz (pv_cons wqz (pv_cons wqz pv_nil)))) underlying210 z210 (pl210 underlying210) rfl) ?_;refine tl_x rfl (o_box rfl rfl) ?_;rintro _ _ ⟨b42,rfl,rfl⟩;refine Z6 ?_;exact ⟨_,_,res2 rfl rfl rfl,Dr.sat drqz,b40,b42,rfl,rfl⟩
theorem Zed {p r:Prop}(k:r)(h:Kq r->p:=by intro k;refine tv (o_nilCheck rfl) ?_;refine tv (o_fieldAddr (o:=4) underlying210 rfl rfl sz46 rfl) ?_;exact k.o):p:=h ⟨k⟩
theorem LoadH_c {A R:SP}{hd p ba n lv m c:Nat}{a:Option Addr}{zs:List Nat}(hA:A=R*pt hd (cl (hcs p ba n lv none) 210))(hr:Rs R a (ints (natI zs)))(hm:zs.length=m)(hnd:zs.Nodup)(hz:∀x∈zs,x<n)(hn:n<=4194304)(hml:m<=4194304):
    Fn Tryz.prog 87 #[pz hd,.slice a m c] A (λ r B=>∃l2 M2,r= .int .i64 0/\ SF M2 n (onL zs)/\ B=R*pt hd (cl (hcs p ba n l2 none) 210)*pt l2 (mpo .i64 M2)):=by
  refine fn_enterW func87 rfl ntmps87 (by simp) ?_;subst hA;refine Zcb ?_;refine tl_c rfl (o_call bd172 rfl (thereH_c)) ?_;refine Zb1 ?_;refine Zq ?_;intro h;refine Zcr ?_;refine Zed ?_;refine tv (o_load p46 rfl hsqz rfl) ?_;refine tv (o_nep underlying46 rfl rfl) ?_;refine Zq ?_;intro h;refine Ze ?_;refine sr ?_;refine tl_x rfl (o_makeMap (ik:= .i64) underlying124) ?_;rintro _ _ ⟨l2,rfl,rfl⟩;refine Zy ?_;refine Zgt ?_;refine tc_loop (λ kk ρ BB=>∃ (i:Nat) (M2:MS),(i<=m)/\ (SF M2 n (onL (zs.take i)))/\ kk=m-i/\ ρ 19=(vn i)/\ ρ 0=(pz hd)/\ ρ 5= .map (some l2)/\ ρ 17= .slice a m c/\ ρ 18=(vn m)/\ Dr BB (R*pt hd (cl (hcs p ba n lv none) 210)*pt l2 (mpo .i64 M2))) (m:=m-(0)) ?_ ?_
  . exact ⟨0,⟨[],0⟩,by omega,by rw [List.take_zero,onL_nil];exact sf_nil 0 n,rfl,rfl,rfl,rfl,rfl,rfl,drqz⟩
  intro k ρ B hI;obtain ⟨i,M2,hp0,hp1,hkk1,hE19,hE0,hE5,hE17,hE18,hBA⟩:=hI;refine tc_pre hBA.sat ?_;clear hBA;refine te 19 hE19 ?_;refine te 0 hE0 ?_;refine te 5 hE5 ?_;refine te 17 hE17 ?_;refine te 18 hE18 ?_;refine Zb9 ?_;refine tc_cond rfl (λ h=> ?_) (λ h=> ?_)
  . have hi:i<zs.length:=(by first|omega|(simp at h;omega));obtain ⟨x,hx1⟩:∃x,zs[i]=x:=⟨_,rfl⟩;have hxn:x<n:=hx1▸hz _ (List.getElem_mem hi)
    have hxo:onL (zs.take i) x=false:=hx1▸nodup_at hnd hi
    refine Zdt ?_;refine tv (o_ixP1 (a:=a) underlying34 sz3 rfl rfl oqz (nn_rs (xs:=ints (natI zs)) (by repeat (first|exact hr|apply Rs.left)) (by rw [ints_length,natI_len];omega))) ?_;refine tv (o_ldP (a:=a) (xs:=ints (natI zs)) p3 rfl (by repeat (first|exact hr|apply Rs.left)) (natI_at hi)) ?_;refine tl_env (d:=22) (v:=(vn x)) (by show Value.int .i64 ((zs[i]:Nat):Int)=_;rw [hx1]) ?_;refine Zy ?_;refine Zcn ?_;refine tl_bool (d:=25) rfl dbq (sbq ?_);intro h;refine Zt ?_;refine Zei ?_;refine tv (o_load p3 rfl hsqz rfl) ?_;refine tv (o_geq rfl rfl) ?_;refine Zbo ?_;refine tl_bool (d:=33) rfl dbq (sbq ?_);intro h;refine Zt ?_;refine tv (o_lookup (ik:= .i64) (M:=M2) underlying124 underlying3 z4 rfl rfl hsqz) ?_;refine tl_env (d:=36) (v:= .bool false) (by show (M2.get (x:Int)).getD _=_;rw [mapV M2 (x:Int) hp1];simp [hxo]) ?_;refine Zdz ?_;intro h;refine Ze ?_;refine Zb0 ?_;refine tl_u rfl (o_mapUpdate (ik:= .i64) (M:=M2) (v:= .bool true) underlying124 underlying3 rfl upqz rfl rfl rfl) ?_;refine Zc9 ?_;refine Zbz ?_;exact ⟨_,by omega,i+1,_,by omega,by rw [List.take_succ_eq_append_getElem hi,onL_snoc,hx1];exact sf_put hp1 hxn,rfl,rfl,rfl,rfl,rfl,rfl,drqz⟩
  obtain rfl:i=m:=by first|omega|(simp at h;omega)
  rw [List.take_of_length_le oqz] at hp1
  refine Zcs ?_;refine Zba ?_;refine tv (o_fieldAddr (o:=3) underlying210 rfl rfl sz124 rfl) ?_;refine tl_u rfl (o_stU (l':=hcs p ba n l2 none) rfl upqz sz124 rfl rfl (by show 3<5;decide) rfl) ?_;refine nq ?_;refine Zcd ?_;exact ⟨.int .i64 0,_,res1 rfl rfl,Dr.sat drqz,l2,M2,rfl,hp1,rfl⟩
theorem BeginH_c {A R:SP}{hd p ba n lv lg d at_ sz:Nat}{s:DevS}(hA:A=R*pt hd (cl (hcs p ba n lv none) 210)*pt p (cl (pocs lg d none) 263)*pt lg (cl (lcs11 d at_ sz) 258)*Dev d s)(hlw:LogW (s.ls.length*64) at_ sz)(ho:s.off=false)(hst:stpS at_ sz s=0):
    Fn Tryz.prog 176 #[pz hd] A (λ r B=>∃w t mb tk gv,r= .tuple #[pz w,.int .i64 0]/\ B=R*pt hd (cl (hcs p ba n lv (some w)) 210)*TxA t p lg d mb at_ sz ⟨[],0⟩ false s*pt tk (mpo .i64 ⟨[],0⟩)*pt gv (mpo .i64 ⟨[],0⟩)*pt w (cl (wcs hd t tk gv 0 false) 126)):=by
  refine fn_enterW func176 rfl ntmps176 (by simp) ?_;subst hA;refine Zdi ?_;refine tl_c rfl (o_call bd172 rfl (thereH_c)) ?_;refine Zb1 ?_;refine Zq ?_;intro h;refine Zew ?_;refine tv (o_fieldAddr (o:=0) underlying210 rfl rfl sz163 rfl) ?_;refine tv (o_load p163 rfl hsqz rfl) ?_;refine tl_c rfl (o_call bd250 rfl (Begin12_ok (C:=λ Y=>Y) (R:=R*pt hd (cl (hcs p ba n lv none) 210)) (s:=s) (at_:=at_) (sz:=sz) (p:=p) (lg:=lg) (d:=d) (hA:=by ac_rfl) (hlw:=hlw) (ho:=ho) (hst:=hst))) ?_;rintro _ _ ⟨t,mb,rfl,rfl⟩;refine Zf9 ?_;intro h;refine Zh8 ?_;refine tl_x rfl (o_makeMap (ik:= .i64) underlying124) ?_;rintro _ _ ⟨tk,rfl,rfl⟩;refine tl_x rfl (o_makeMap (ik:= .i64) underlying124) ?_;rintro _ _ ⟨gv,rfl,rfl⟩;refine tv (o_bS (l:=[_,_,_,_,_,_]) (pv_cons wqz (pv_cons wqz (pv_cons wqz (pv_cons wqz pv_nil)))) underlying126 z126 (pl126 underlying126) rfl) ?_;refine tl_x rfl (o_box rfl rfl) ?_;rintro _ _ ⟨b26,rfl,rfl⟩;refine Zed ?_;refine tl_u rfl (o_stU (l':=hcs p ba n lv (some b26)) rfl upqz sz46 rfl rfl (by show 4<5;decide) rfl) ?_;refine nq ?_;refine Zs ?_;refine tv (o_fieldAddr (o:=4) underlying210 rfl rfl sz46 rfl) ?_;refine tv (o_load p46 rfl hsqz rfl) ?_;refine Z6 ?_;exact ⟨_,_,res2 rfl rfl rfl,Dr.sat drqz,b26,t,mb,tk,gv,rfl,rfl⟩
end Go.Vl

namespace Go.Vl
open Go Go.Proofs Go.Proofs.Tryz
section
variable {P:Program} {n:Nat} {ρ:Env} {A A' R:SP} {C:SP->SP} {dst:Option Tmp} {ty:TypeId} {pos:String} {after:Array Edge} {gd:Option (Nat×Bool)}
theorem o_eqmN {t t' k e:TypeId}{x y:Operand}{b:Nat}(hu:P.underlying t=some (.map k e))(hge:P.eqGuardType P.depth t=false)(hx:ev n ρ x= .map (some b))(hy:ev n ρ y= .map none):
    OpV P n ρ A ⟨dst,.binOp .eql t x y t',ty,pos,after,gd⟩ (.bool false):=opv_of λ w=>by
  simp only [execOp,hx,hy]
  rw [run_bind (w':=w) (a:= .bool false)]
  . rfl
  rw [run_bind (w':=w) (a:=())]
  . have h1:∀d,(Op.equalIn (d+1) t (.map (some b)) (.map none)).run P w= .ok false w:=λ d=>by simp [Op.equalIn,Go.run_underlying hu]
    simp only [binOp]
    simp [show Op.equal t (.map (some b)) (.map none)=Op.equalIn (9999+1) t (.map (some b)) (.map none) from rfl,h1]
  simp [eqGuard,hge,program,bind,Sem.bind,Sem.run,pure]
theorem o_mkI {t k e:TypeId}{x:Operand}{v:Value}(hu:P.underlying t=some (.map k e))(hx:ev n ρ x=v):OpV P n ρ A ⟨dst,.makeInterface t x,ty,pos,after,gd⟩ (.iface t v):=opv_of λ w=>by
  simp only [execOp,hx]
  rw [run_bind (w':=w) (a:= .iface t v)]
  . rfl
  unfold Instr.makeInterface
  rw [run_bind (run_und hu)];rfl
theorem o_tAs {t s k e:TypeId}{x:Operand}{v:Value}(hu:P.underlying t=some (.map k e))(hx:ev n ρ x= .iface t v):OpV P n ρ A ⟨dst,.typeAssert x s t false,ty,pos,after,gd⟩ v:=opv_of λ w=>by
  simp only [execOp,hx]
  rw [run_bind (w':=w) (a:=v)]
  . rfl
  unfold Instr.typeAssert
  rw [run_bind (run_und hu)]
  simp only []
  rw [if_pos trivial];rfl
theorem o_mclone {f : FuncId} {fn : Func} {tys : Array TypeId} {x : Operand} {t : TypeId} {b : Nat} {M : MS} (hf : P.funcs[f]? = some fn) (hname : (fn.name == "runtime.NumGoroutine") = false) (hb : fn.body.isNone = true) (hn : Extern.findNext fn = none) (he : Extern.find fn = some Extern.MapsClone.clone) (hx : ev n ρ x = .iface t (.map (some b))) (hm : Has A b (mpo .i64 M)) :
    OpX P n ρ A ⟨dst,.call { callee:= .value (.func f),args:= #[x],argTypes:=tys },ty,pos,after,gd⟩ (λ v B=>∃r,v= .iface t (.map (some r))/\ B=A*pt r (mpo .i64 M)):=λ g w hs=>by
  have h2:w.heap[b]? =some (mpo .i64 M):=hm g w hs;have hx':(#[x]:Array Operand).map (ev n ρ)= #[.iface t (.map (some b))]:=(by simp [hx]);have hfv:ev n ρ (.func f)= .func (.func f) #[] #[]:=rfl;refine ⟨.iface t (.map (some w.heap.size)),w.alloc (mpo .i64 M),_, ?_,hs.alloc _,w.heap.size,rfl,rfl⟩
  simp only [execOp,resolve,hfv,Deferred.ofValue,hx']
  rw [run_bind (w':=w) (a:=⟨.fn (.func f) #[],#[]++ #[.iface t (.map (some b))]⟩) (by rfl)]
  simp only [invoke]
  have hrun:(Extern.MapsClone.clone #[.iface t (.map (some b))]).run P w= .ok (.iface t (.map (some w.heap.size))) (w.alloc (mpo .i64 M)):=by
    have e:Extern.MapsClone.clone #[.iface t (.map (some b))]=(getObj b>>=λ o=>match o with
      | .map entries clock=>(newObj (.map entries clock)>>=λ n=>pure (.iface t (.map (some n))))
      | _ => stuck "maps.clone: a map expected") := rfl
    rw [e]
    simp [MapKept.run_getObj_map (show w.heap[b]? =some (.map (M.D.map (ment .i64)).toArray M.c) from h2),Result.andThen,go_sem]
    rfl
  have:(callFunc f (#[]++ #[.iface t (.map (some b))]++ #[])).run P w= .ok (.value (.iface t (.map (some w.heap.size)))) (w.alloc (mpo .i64 M)):=(by rw [run_callFunc_extern hf hname hb hn he];simp [hrun,Result.andThen]);exact this
end
theorem sf_congr {M:MS}{n:Nat}{g g':Nat->Bool}(h:SF M n g)(e:∀a,g a=g' a):SF M n g':=by
  have:g=g':=funext e;subst this;exact h
theorem sf_mem {M:MS}{n:Nat}{g:Nat->Bool}{e:ME}(h:SF M n g)(he:e∈M.D):∃a:Nat,a<n/\ e.k=(a:Int)/\ g a=true/\ e.v= .bool true:=by
  obtain ⟨a,h1,h2,h3⟩:=h.keys e he;refine ⟨a,h1,h2,h3, ?_⟩;have h4:=get_of_mem h.wf he;rw [h.get,h2,if_pos ⟨by omega,by simpa using h3⟩] at h4
  exact (Option.some.inj h4).symm
theorem sf_vis {M:MS}{n a:Nat}{g:Nat->Bool}{vis:List ME}(h:SF M n g)(hp:vis.Perm M.D):decide ((a:Int)∈vis.map ME.k)=g a:=by
  have e:((a:Int)∈vis.map ME.k)↔g a=true:=by
    rw [(hp.map ME.k).mem_iff,List.mem_map]
    constructor
    . rintro ⟨e,he,hk⟩;obtain ⟨c,_,h2,h3⟩:=h.keys e he;have:c=a:=(by omega);exact this▸h3
    intro ha;obtain ⟨e,he,hk⟩:=sf_has h ha;exact ⟨e,he,hk⟩
  cases hg:g a with
  |true=>exact decide_eq_true (e.2 hg)
  |false=>exact decide_eq_false λ h9=>by rw [e.1 h9] at hg;cases hg
theorem vis_or {g:Nat->Bool}{vis:List ME}{e:ME}{a:Nat}(hk:e.k=(a:Int)):updG (λ c=>g c||decide ((c:Int)∈vis.map ME.k)) a true=λ c=>g c||decide ((c:Int)∈(vis++[e]).map ME.k):=by
  funext c;unfold updG
  rw [List.map_append,List.map_singleton]
  by_cases hc:c=a
  . rw [if_pos hc,hc,hk];simp
  rw [if_neg hc,hk]
  have:¬(c:Int)=(a:Int):=(by omega)
  simp [this]
theorem vis_no {g:Nat->Bool}{vis:List ME}{e:ME}{a:Nat}(hk:e.k=(a:Int)):updG (λ c=>g c&& !decide ((c:Int)∈vis.map ME.k)) a false=λ c=>g c&& !decide ((c:Int)∈(vis++[e]).map ME.k):=by
  funext c;unfold updG
  rw [List.map_append,List.map_singleton]
  by_cases hc:c=a
  . rw [if_pos hc,hc,hk];simp
  rw [if_neg hc,hk]
  have:¬(c:Int)=(a:Int):=(by omega)
  simp [this]
attribute [local irreducible] crk crL crc Sl pt ro Dev imgS recS readS recsF rdW rdO rkT Parts rvl recordsS runsL adrF kcl xcl kys runA runsF layF ovF TxA adZ WkA
theorem Clone13_c {A:SP}{b:Nat}{M:MS}(hm:Has A b (mpo .i64 M):=by exact hbqz):
    Fn Tryz.prog 130 #[.map (some b)] A (λ v B=>∃r,v= .map (some r)/\ B=A*pt r (mpo .i64 M)):=by
  refine fn_enterW func130 rfl ntmps130 (by simp) ?_;refine Zcb ?_;refine tv (o_eqmN underlying124 kqz rfl rfl) ?_;refine Zq ?_;intro h;refine Zb2 ?_;refine tv (o_mkI underlying124 rfl) ?_;refine tl_x rfl (o_mclone (M:=M) func213 kqz kqz kqz kqz rfl haqz) ?_;rintro _ _ ⟨r7,rfl,rfl⟩;refine tv (o_tAs underlying124 rfl) ?_;refine Zl ?_;exact ⟨_,_,res1 rfl rfl,λ _ _ h=>h,r7,rfl,rfl⟩
theorem Copy13_c {A R:SP}{C:SP->SP}{b1 b2 n:Nat}{M1 M2:MS}{g1 g2:Nat->Bool}(hc:Ct A (pt b1 (mpo .i64 M1)) R C:=by exact cbqz)(hm:Has R b2 (mpo .i64 M2):=by exact hbqz)(h1:SF M1 n g1)(h2:SF M2 n g2):
    Fn Tryz.prog 131 #[.map (some b1),.map (some b2)] A (λ v B=>∃M3,v= .tuple #[]/\ SF M3 n (λ a=>g1 a||g2 a)/\ B=C (pt b1 (mpo .i64 M3))):=by
  refine fn_enterW func131 rfl ntmps131 (by simp) ?_;obtain ⟨rfl,hC⟩:=hc;refine Zb ?_;refine tl_x rfl (o_range (ik:= .i64) (M:=M2) underlying124 rfl haqz) ?_;rintro _ _ ⟨r7,rfl,rfl⟩;refine Zhq ?_;refine tc_loop (λ kk ρ BB=>∃ (vis:List ME) (M3:MS),(Vis M2 vis)/\ (SF M3 n (λ c=>g1 c||decide ((c:Int)∈vis.map ME.k)))/\ kk=M2.D.length-vis.length/\ ρ 0= .map (some b1)/\ ρ 7=(pz r7)/\ Dr BB (R*pt b1 (mpo .i64 M3)*pt r7 (mit b2 M2.c (vis.map ME.b) M2.c))) (m:=M2.D.length-(([]:List ME)).length) ?_ ?_
  . exact ⟨([]:List ME),M1,vis_nil M2,sf_congr h1 (λ a=>by simp),rfl,rfl,rfl,drqz⟩
  intro k ρ B hI;obtain ⟨vis,M3,hp0,hp1,hkk1,hE0,hE7,hBA⟩:=hI;refine tc_pre hBA.sat ?_;clear hBA;refine te 0 hE0 ?_;refine te 7 hE7 ?_;refine sr ?_;refine tl_x rfl (o_next (ik:= .i64) (M:=M2) (b:=b2) (seen:=vis.map ME.b) h2.wf rfl ctqz haqz) ?_;rintro _ _ ⟨o8,hnx,rfl,rfl⟩;refine tv (o_exNx rfl) ?_;refine Zf2 ?_;refine tc_cond rfl (λ h=> ?_) (λ h=> ?_)
  . obtain ⟨e,rfl⟩:∃e,o8=some e:=Option.isSome_iff_exists.1 (by simpa using h);have hvs2:=vis_snoc hp0 hnx;have hvl:=vis_len hvs2;have hvl2:(vis++[e]).length=vis.length+1:=(by rw [List.length_append,List.length_singleton]);have hem:=(hnx.yes e rfl).1;obtain ⟨a,ha,hk,hg,hv⟩:=sf_mem h2 hem;have hsf:=vis_or (g:=g1) (vis:=vis) hk▸sf_put hp1 ha
    refine tc_eq (show _=R*pt b1 (mpo .i64 M3)*pt r7 (mit b2 M2.c (vis.map ME.b++[e.b]) M2.c) from rfl) ?_;refine Zf4 ?_;refine sr ?_;refine tv (o_entry (ik:= .i64) (M:=M2) (b:=b2) (seen:=vis.map ME.b) h2.wf hem rfl (by repeat (first|with_reducible exact has_here|apply has_left)) haqz) ?_;refine tl_env (d:=10) (v:= .tuple #[vn a,.bool true]) (by show Value.tuple #[.int .i64 e.k,e.v]=_;rw [hk,hv]) ?_;refine Zn ?_;refine tla ?_;refine Zfx ?_;refine tlm ?_;refine tl_u rfl (o_mapUpdate (ik:= .i64) (M:=M3) (v:= .bool true) underlying124 underlying3 rfl upqz rfl rfl rfl) ?_;refine tl_nil ?_;refine q_block_n (q_then_n ?_);exact ⟨_,by omega,vis++[e],_,hvs2,hsf,rfl,rfl,rfl,by rw [show (vis++[e]).map ME.b=vis.map ME.b++[e.b] by rw [List.map_append];rfl];repeat (first|with_reducible exact dr_refl|apply dr_keep|apply dr_drop)⟩
  obtain rfl:o8=none:=by cases o8<;>simp at h ⊢
  have hvp:=vis_perm h2.wf hp0 hnx;have hsf:SF M3 n (λ a=>g1 a||g2 a):=sf_congr hp1 λ a=>by rw [sf_vis h2 hvp]
  refine tc_exit ?_;refine q_then_e (q_then_e (q_block_x ?_));exact ⟨.tuple #[],C (pt b1 (mpo .i64 M3)),res0 rfl,(λ g w h=>by rw [hC];exact Dr.sat (A':=R*pt b1 (mpo .i64 M3)) drqz g w h),M3,rfl,hsf,rfl⟩
end Go.Vl

namespace Go.Vl
open Go Go.Proofs Go.Proofs.Tryz
def nblk (n:Nat):Nat:=if n%248=0 then n/248 else n/248+1
def blkS (next:Nat)(xs:List Nat):List Nat:=le 4 next++le 2 xs.length++le 2 0++xs++List.replicate (248-xs.length) 0
abbrev Lk:=Nat×List Nat×Int
def lnkS (u:Nat->Bool)(c:Nat->List Nat)(ref:Nat):Lk×Nat:=
  if 1<=ref/\ u (ref-1)=true then
    if 1<=nm (((c (ref-1)).drop 4).take 2)/\ nm (((c (ref-1)).drop 4).take 2)<=248/\ (nm ((c (ref-1)).take 4)=0∨nm (((c (ref-1)).drop 4).take 2)=248)∧
        blkS (nm ((c (ref-1)).take 4)) (((c (ref-1)).drop 8).take (nm (((c (ref-1)).drop 4).take 2)))=c (ref-1) then
      ((ref-1,((c (ref-1)).drop 8).take (nm (((c (ref-1)).drop 4).take 2)),0),nm ((c (ref-1)).take 4))
    else ((0,[],140),0)
  else ((0,[],140),0)
def cutL (m:Nat)(l:Lk):Lk:=if 65536<m+l.2.1.length then (0,[],140) else l
def chL (f:Nat->Lk×Nat):Nat->Nat->Nat->List Lk
  |0,_,_=>[]
  |k+1,ref,m=>if ref=0 then [] else if (cutL m (f ref).1).2.2≠0 then [cutL m (f ref).1] else cutL m (f ref).1::chL f k (f ref).2 (m+(f ref).1.2.1.length)
def whL (l:List Lk):List Nat×List Nat×Int:=if l.all (λ x=>decide (x.2.2=0)) then (l.flatMap (·.2.1),l.map (·.1),0) else ([],[],140)
def whS (u:Nat->Bool)(c:Nat->List Nat)(ref:Nat):List Nat×List Nat×Int:=whL (chL (lnkS u c) 65538 ref 0)
inductive Chn (u:Nat->Bool) (c:Nat->List Nat):Nat->List Nat->List Nat->Prop
  |nil:Chn u c 0 [] []
  |cons {b next:Nat} {d t l:List Nat} (hu:u b=true) (hc:c b=blkS next d) (h1:1<=d.length) (h2:d.length<=248) (h3:next=0∨d.length=248) (hn:next<4294967296) (h:Chn u c next t l):Chn u c (b+1) (d++t) (b::l)
def conB (T:WkT)(s:DevS)(ba b:Nat):List Nat:=ovF T.f (ba+256*b) (((imgS s).drop (ba+256*b)).take 256)
theorem ovF_get (f:TF)(p:Nat)(xs:List Nat)(i:Nat):(ovF f p xs)[i]? =(xs[i]?).map λ x=>((f (p+i)).map (·.1)).getD x:=by unfold ovF;rw [List.getElem?_mapIdx]
theorem layF_in {p i:Nat}{xs:List Nat}{fr:Bool}{f:TF}(h:i<xs.length):(layF p xs fr f (p+i)).map (·.1)=some xs[i]:=by
  unfold layF
  rw [if_pos ⟨by omega,by omega⟩,Nat.add_sub_cancel_left,List.getD_eq_getElem?_getD,List.getElem?_eq_getElem h];rfl
theorem layF_out {p a:Nat}{xs:List Nat}{fr:Bool}{f:TF}(h:a<p∨p+xs.length<=a):layF p xs fr f a=f a:=by
  unfold layF
  rw [if_neg oqz]
theorem con_write {T:WkT}{s:DevS}{ba b c:Nat}{xs:List Nat}(hx:xs.length=256)(hl:ba+256*b+256<=(imgS s).length):conB (T.write ba b xs) s ba c=if c=b then xs else conB T s ba c:=by
  unfold conB
  show ovF (layF (ba+256*b) xs (T.tk b) T.f) (ba+256*c) _=_
  by_cases hc:c=b
  . subst hc;rw [if_pos rfl]
    refine List.ext_getElem? λ i=> ?_
    rw [ovF_get]
    rcases Nat.lt_or_ge i 256 with h|h
    . rw [layF_in oqz,List.getElem?_eq_getElem (by rw [List.length_take,List.length_drop];omega),List.getElem?_eq_getElem oqz];rfl
    rw [List.getElem?_eq_none (by rw [List.length_take];omega),List.getElem?_eq_none oqz];rfl
  rw [if_neg hc]
  refine List.ext_getElem? λ i=> ?_
  rw [ovF_get,ovF_get]
  rcases Nat.lt_or_ge i 256 with h|h
  . rw [layF_out oqz]
  rw [List.getElem?_eq_none (by rw [List.length_take];omega)];rfl
theorem con_len {T:WkT}{s:DevS}{ba b:Nat}(h:ba+256*b+256<=(imgS s).length):(conB T s ba b).length=256:=by
  unfold conB;rw [ovF_len,List.length_take,List.length_drop];omega
def takeL (n:Nat):Nat->WkT->List Nat×WkT×Bool
  |0,T=>([],T,true)
  |k+1,T=>match leastB T n with
    |none=>([],T,false)
    |some b=>(b::(takeL n k (T.take b)).1,(takeL n k (T.take b)).2)
def wrL (ba:Nat):List Nat->WkT->List Nat->WkT
  |[],T,_=>T
  |[b],T,s=>T.write ba b (blkS 0 s)
  |b::c::l,T,s=>wrL ba (c::l) (T.write ba b (blkS (c+1) (s.take 248))) (s.drop 248)
def refL:List Nat->Nat
  |[]=>0
  |b::_=>b+1
def putS (ba n:Nat)(T:WkT)(s:List Nat):Nat×Int×WkT:=
  if 65536<s.length then (0,4,T)
  else if (takeL n (nblk s.length) T).2.2=true then (refL (takeL n (nblk s.length) T).1,0,wrL ba (takeL n (nblk s.length) T).1 (takeL n (nblk s.length) T).2.1 s)
  else (0,7,(takeL n (nblk s.length) T).2.1)
def takeS (n:Nat)(T:WkT):Nat×Int×WkT:=match leastB T n with
  |none=>(0,7,T)
  |some b=>(b,0,T.take b)
theorem takeS_no {n b:Nat}{e:Int}{T T2:WkT}(h:takeS n T=(b,e,T2))(he:e≠0):leastB T n=none/\ T2=T/\ e=7:=by
  unfold takeS at h
  cases hl:leastB T n with
  |none=>rw [hl] at h;simp only [Prod.mk.injEq] at h;exact ⟨rfl,h.2.2.symm,h.2.1.symm⟩
  |some c=>rw [hl] at h;simp only [Prod.mk.injEq] at h;omega
section
variable {α:Type} {lt:α->α->Bool}
structure SWO (lt:α->α->Bool):Prop where
  asymm:∀a b,lt a b=true->lt b a=false
  ntrans:∀a b c,lt b a=false->lt c b=false->lt c a=false
def leF (lt:α->α->Bool)(a b:α):Bool:= !lt b a
def Sd (lt:α->α->Bool)(l:List α):Prop:=l.Pairwise λ a b=>lt b a=false
def eqv (lt:α->α->Bool)(a b:α):Bool:= !lt a b&& !lt b a
structure SS (lt:α->α->Bool) (l r:List α):Prop where
  sd:Sd lt r
  eq:∀a,r.filter (eqv lt a)=l.filter (eqv lt a)
def mg (lt:α->α->Bool):List α->List α->List α
  |[],ys=>ys
  |xs,[]=>xs
  |x::xs,y::ys=>if lt y x then y::mg lt (x::xs) ys else x::mg lt xs (y::ys)
termination_by xs ys=>xs.length+ys.length
end
section
variable {α:Type} {lt:α->α->Bool}
def sw (l:List α)(p q:Nat):List α:=if h:p<l.length/\ q<l.length then (l.set p (l[q]'h.2)).set q (l[p]'h.1) else l
def swR (l:List α)(a b:Nat):Nat->List α
  |0=>l
  |n+1=>sw (swR l a b n) (a+n) (b+n)
def Blk (lt:α->α->Bool)(bs:Nat)(l d:List α):Prop:=d.length=l.length/\∀k,SS lt ((l.drop (k*bs)).take bs) ((d.drop (k*bs)).take bs)
structure Blm (lt:α->α->Bool) (bs a:Nat) (l d:List α):Prop where
  len:d.length=l.length
  two:∀k,(k+1)*(2*bs)<=a->SS lt ((l.drop (k*(2*bs))).take (2*bs)) ((d.drop (k*(2*bs))).take (2*bs))
  one:∀k,a<=k*bs->SS lt ((l.drop (k*bs)).take bs) ((d.drop (k*bs)).take bs)
def srt (lt:α->α->Bool)(l:List α):List α:=l.foldl (λ acc x=>mg lt acc [x]) []
end
section
variable {α:Type} {lt:α->α->Bool}
structure InsR (lt:α->α->Bool) (p q:Nat) (d d2:List α):Prop where
  len:d2.length=d.length
  pre:d2.take p=d.take p
  post:d2.drop q=d.drop q
  ss:SS lt ((d.drop p).take (q-p)) ((d2.drop p).take (q-p))
def insT (d:List α)(x:α)(i j:Nat):List α:=d.take j++x::((d.drop j).take (i-j)++d.drop (i+1))
def rotT (d:List α)(p m q:Nat):List α:=d.take p++((d.drop m).take (q-m)++((d.drop p).take (m-p)++d.drop q))
def RotI (m i j:Nat)(d T:List α):Prop:=∃P X Y Q:List α,d=P++(X++(Y++Q))/\ P.length+i=m/\ X.length=i/\ Y.length=j/\ P++(Y++(X++Q))=T
def symT (lt:α->α->Bool)(d:List α)(p m q:Nat):List α:=d.take p++(mg lt ((d.drop p).take (m-p)) ((d.drop m).take (q-m))++d.drop q)
end
structure Mk where
  id:Nat
  at_:Int
  gr:Nat
deriving DecidableEq
def Mk.cells (m:Mk):List Value:=[.int .u32 (m.id:Nat),.int .i64 m.at_,.int .u8 (m.gr:Nat)]
def mcs (l:List Mk):List Value:=l.flatMap Mk.cells
structure OrdF (gf:Nat) (cf:Mk->Mk->Int):Prop where
  body:bodyB Tryz.prog gf=true
  run:∀ (A:SP) (x y:Mk),Fn Tryz.prog gf #[.agg x.cells.toArray,.agg y.cells.toArray] A (λ v B=>v= .int .i64 (cf x y)/\ A=B)
def ltc (cf:Mk->Mk->Int)(x y:Mk):Bool:=decide (cf x y<0)
theorem wrap_i64 {a:Nat}(h:a<=9223372036854775807):IntKind.i64.wrap (a:Int)=a:=by simp [IntKind.wrap,IntKind.bits,IntKind.signed];omega
def gA (d:List Mk)(k:Nat):Mk:=d.getD k ⟨0,0,0⟩
section
variable {α:Type} {lt:α->α->Bool}
def fwT (d:List α)(x:α)(p k:Nat):List α:=d.take p++((d.drop (p+1)).take (k-p)++x::d.drop (k+1))
end
section
variable {α:Type} {lt:α->α->Bool}
structure Bl1 (lt:α->α->Bool) (bs a:Nat) (l d:List α):Prop where
  len:d.length=l.length
  done:∀k,(k+1)*bs<=a->SS lt ((l.drop (k*bs)).take bs) ((d.drop (k*bs)).take bs)
  rest:d.drop a=l.drop a
end
def intK (P : Program) (f : Field) (k : IntKind) : Bool := f.name != "_" && plainE P f.type && (match P.underlying f.type with | some (.int j) => j == k | _ => false)
def zk (ks:List IntKind)(l:List Int):List Value:=List.zipWith Value.int ks l
def flatK (P:Program)(fs:Array Field)(ks:List IntKind):Bool:=((fs.toList.map λ f=>f.offset)==List.range ks.length)&&fs.toList.all λ f=>intK P f (ks.getD f.offset .i64)
def Mk.ns (m:Mk):List Int:=[(m.id:Int),m.at_,(m.gr:Int)]
def mkk:List IntKind:=[.u32,.i64,.u8]
section
variable {n:Nat} {ρ:Env} {A:SP} {dst:Option Tmp} {ty:TypeId} {pos:String} {after:Array Edge} {gd:Option (Nat×Bool)}
end
def cId (x y:Mk):Int:=if x.id<y.id then-1 else if y.id<x.id then 1 else 0
def cPl (x y:Mk):Int:=if x.at_<y.at_ then-1 else if y.at_<x.at_ then 1 else cId x y
attribute [local irreducible] Sl pt ro
def okM (m:Mk):Bool:=decide (0<=m.at_)&&decide (m.gr<=1)
end Go.Vl

namespace Go.Vl
open Go Go.Proofs Go.Proofs.Tryz
def SlB (e:TypeId)(v:Value)(n:Nat)(xs:List Value):SP:=λ h=>xs.length=n∧
  ((v = .slice none 0 0 ∧ n = 0 ∧ h = fun _ => none) ∨
   ∃b cap l,v= .slice (some ⟨b,0,none⟩) n cap/\ n<=cap/\ cap<=l.length/\ l.take n=xs/\ pt b (cl l e) h)
section
variable {P:Program} {n:Nat} {ρ:Env} {A:SP} {dst:Option Tmp} {ty:TypeId} {pos:String} {after:Array Edge} {gd:Option (Nat×Bool)}
end
section
variable {P:Program} {n:Nat} {ρ:Env} {A:SP} {dst:Option Tmp} {ty:TypeId} {pos:String} {after:Array Edge} {gd:Option (Nat×Bool)}
theorem o_appendGZ {t t' e:TypeId}{x y:Operand}{v z:Value}{m k q bytes:Nat}{xs ys:List Value}{R:SP}
    (hu:P.underlying t=some (.slice e)) (hu':P.underlying t'=some (.int .i64)) (hk:szE P e=some k) (hb:bytesE P e=some bytes) (hz:zeroE P e=some z) (hzk:z.cells.size=k) (hk0:0<k) (hb0:0<bytes)
    (hx:ev n ρ x=v) (hy:ev n ρ y=(vn m)) (hA:A=R*Sl k v q xs) (hys:(Builtin.zeroCells z.cells m).toList=ys) (hm1:m≠0) (hm:ys.length=m*k) (ho:∀u∈ys,oneC u=true) (hlim:(q+m)*bytes<=140737488355328):
    OpX P n ρ A ⟨dst,.call { callee:= .builtin .append,args:= #[x,y],argTypes:= #[t,t'] },ty,pos,after,gd⟩ (λ v' B=>(∃a' c',v= .slice a' q c'/\ v'= .slice a' (q+m) c'/\ q+m<=c'/\ B=R*Sl k v' (q+m) (xs++ys))∨B=R*Sl k v q xs*Sl k v' (q+m) (xs++ys)):=λ g w hs=>by
  have hs0:=hs;rw [hA] at hs0
  obtain ⟨hl,hcase⟩:=sl_iff.1 hs0;obtain ⟨aa,cap,hv,hqc,_,hrd⟩:=sl_have hs0
  -- the run, but for the operation itself
  have key:∀ (r:Value) (w':World),(Builtin.append_ #[t,t'] ty #[v,vn m]).run P w= .ok r w'→
      (execOp (ev n ρ) ⟨dst,.call { callee:= .builtin .append,args:= #[x,y],argTypes:= #[t,t'] },ty,pos,after,gd⟩).run P w= .ok (.value r) w':=λ r w' h=>by
    simp only [execOp,resolve,List.map_toArray,List.map_cons,List.map_nil,hx,hy]
    rw [run_bind (w':=w) (a:=⟨.builtin .append #[t,t'] ty _,#[v,vn m]⟩) (by rfl)]
    simp only [invoke,builtin]
    rw [run_bind h];rfl
  have hold:(Builtin.firstCells k q (.slice aa q cap)).run P w= .ok xs.toArray w:=run_firstCells hrd hl hs0;have hz8:Builtin.zeroCells z.cells m=ys.toArray:=(by rw [←hys]);have hk1:k≠0:=(by omega);have hmb:m*1<=m*bytes:=Nat.mul_le_mul_left _ hb0;have hqb:m*bytes<=(q+m)*bytes:=Nat.mul_le_mul_right _ oqz;have hwr:IntKind.i64.wrap (m:Int)=m:=wrap_i64 oqz;have hneg:¬((m:Int)<0):=(by omega)
  have hbg:¬(281474976710656<(m:Int)*(bytes:Int)):=by
    have:((m*bytes:Nat):Int)=(m:Int)*(bytes:Int):=(by simp)
    omega
  subst hv;obtain ⟨i,hi,hi1,hi2,hi3⟩:=info_of hk hb hz;have hmk:¬(m*k=0):=λ e=>by rcases Nat.mul_eq_zero.1 e with h|h<;>omega
  have hbgi:¬(281474976710656<(m:Int)*(i.bytes:Int)):=(by rw [hi2];exact hbg)
  by_cases hroom:q+m<=cap
  · -- there is room
    rcases hcase with ⟨e1,e2,hsR⟩|⟨b,off,cap',l,E,e1,e2,e3,e4,hsR⟩
    . simp only [Value.slice.injEq] at e1
      obtain ⟨rfl,rfl,rfl⟩:=e1;have hm0:m=0:=(by omega);subst hm0;have hy0:ys=[]:=(by simpa using hm);subst hy0;refine ⟨.slice none 0 0,w,_,key _ _ ?_, ?_,.inl ⟨none,0,rfl,rfl,by omega,rfl⟩⟩
      . exact absurd rfl hm1
      rw [List.append_nil];exact hs0
    simp only [Value.slice.injEq] at e1
    obtain ⟨rfl,_,rfl⟩:=e1
    have hlen:off+q*k+ys.length<=l.length:=by
      have:(q+m)*k<=cap*k:=Nat.mul_le_mul_right k hroom;rw [Nat.add_mul] at this
      omega
    obtain ⟨w',hst,hh,g1,g2,g3⟩:=run_storeCells (P:=P) (off:=off+q*k) ys 0 l w (has_here g w hsR) oqz ho;refine ⟨.slice (some ⟨b,off,none⟩) (q+m) cap,w',_,key _ _ ?_, ?_,.inl ⟨_,_,rfl,rfl,hroom,rfl⟩⟩
    . skip
      simp [Builtin.append_,run_underlying hu,run_underlying hu',sizeOf,typeInfo,hi,hi1,asInt,asIntOf,hmk,hbgi,hwr,hneg,hbg,hi2,hi3,hm1,hk1,hz8,zeroValue,hroom,addr_add,hst]
    have hu2:Upd (R*pt b (cl l E)) b (cl l E) (cl (splice l (off+q*k) ys) E) (R*pt b (cl (splice l (off+q*k) ys) E)):=upd_here;have hs2:=hu2.sat hsR (λ j=>by rw [hh j];rfl) g1 g2 g3;refine sl_iff.2 ⟨by rw [List.length_append,hl,hm,Nat.add_mul],.inr ⟨b,off,cap,_,E,rfl,hroom,by rw [splice_length];exact e3, ?_,hs2⟩⟩
    apply List.ext_getElem?
    intro i;rw [List.getElem?_take,List.getElem?_append,List.getElem?_drop,splice_getElem? _ _ _ _ hlen,Nat.add_mul,←hm,←hl]
    have hx':∀i,i<xs.length->l[off+i]? =xs[i]? :=λ i hi=>by
      rw [←e4,List.getElem?_take,if_pos (by rw [←hl];exact hi),List.getElem?_drop]
    by_cases h1:i<xs.length
    . rw [if_pos oqz,if_neg oqz,if_pos h1,hx' i h1]
    by_cases h2:i<xs.length+ys.length
    . rw [if_pos h2,if_pos oqz,if_neg h1];congr 1;omega
    rw [if_neg h2,if_neg h1,List.getElem?_eq_none oqz]
  -- it grows
  have hbig:cap<q+m:=(by omega);have hfit:=growslice_fits hbig hlim;have p48:(2:Nat)^48=281474976710656:=(by decide)
  let cut:=(Question.appendCap (q+m) cap e).cut (w.tape w.drawn (.appendCap (q+m) cap e))
  have hcut:q+m<=cut:=(by show q+m<=(q+m)+_;omega)
  let wd:World:={ w with drawn:=w.drawn+1 }
  have hsd:sat g wd A:=hs.draw rfl rfl rfl rfl;have hsd0:sat g wd (R*Sl k (.slice aa q cap) q xs):=hA▸hsd
  have hold':(Builtin.firstCells k q (.slice aa q cap)).run P wd= .ok xs.toArray wd:=run_firstCells hrd hl hsd0
  let rest:=Builtin.zeroCells z.cells (cut-(q+m))
  have hrest:rest.size=(cut-(q+m))*k:=(by show (Builtin.zeroCells z.cells (cut-(q+m))).size=_;rw [size_zeroCells,hzk])
  let cs:=xs++ys++rest.toList
  have hcs:xs.toArray++ys.toArray++rest=cs.toArray:=(by apply Array.ext';simp [cs]);refine ⟨.slice (some ⟨w.heap.size,0,none⟩) (q+m) cut,wd.alloc (cl cs e),_,key _ _ ?_, ?_,.inr rfl⟩
  . skip
    have h63:¬(9223372036854775807<((q:Int)+(m:Int))):=by
      have:(q+m)*1<=(q+m)*bytes:=Nat.mul_le_mul_left _ hb0
      omega
    have hfit':¬(281474976710656<Builtin.nextslicecap (q+m) cap*i.bytes):=(by rw [hi2];omega);have hwd:w.drew=wd:=rfl;have hcut':(Question.appendCap (q+m) cap e).cut (w.tape w.drawn (.appendCap (q+m) cap e))=cut:=rfl;have hrow:wd.alloc (.cells (xs.toArray++ys.toArray++Builtin.zeroCells z.cells (cut-(q+m))) e)=wd.alloc (cl cs e):=congrArg (λ c=>wd.alloc (.cells c e)) hcs;have hsz:wd.heap.size=w.heap.size:=rfl;rw [←hrow]
    simp [Builtin.append_,run_underlying hu,run_underlying hu',sizeOf,typeInfo,zeroValue,hi,hi1,hi3,asInt,asIntOf,hmk,hbgi,hwr,hneg,hbg,hm1,hk1,hz8,hroom,h63,hfit',Question.forced,hwd,hold',hcut',newRow,hsz]
    congr 2;apply Array.ext';simp
  have:=hsd0.alloc (cl cs e);refine sl_new this hcut ?_ ?_
  . simp only [cs,List.length_append,Array.length_toList,hrest,hl,hm,←Nat.add_mul]
    rw [Nat.add_sub_cancel' hcut];exact Nat.le_refl _
  have:(q+m)*k=(xs++ys).length:=(by rw [List.length_append,hl,hm,Nat.add_mul]);rw [this]
  show List.take _ ((xs++ys)++_)=_
  rw [List.take_left]
theorem o_appendZ {t t' e:TypeId}{x y:Operand}{v z:Value}{m k q bytes:Nat}{xs ys:List Value}{R:SP}
    (hu:P.underlying t=some (.slice e)) (hu':P.underlying t'=some (.int .i64)) (hk:szE P e=some k) (hb:bytesE P e=some bytes) (hz:zeroE P e=some z) (hzk:z.cells.size=k) (hk0:0<k) (hb0:0<bytes)
    (hx:ev n ρ x=v) (hy:ev n ρ y=(vn m)) (hA:A=R*Sl k v q xs) (hys:(Builtin.zeroCells z.cells m).toList=ys) (hm1:m≠0) (hm:ys.length=m*k) (ho:∀u∈ys,oneC u=true) (hlim:(q+m)*bytes<=140737488355328):
    OpX P n ρ A ⟨dst,.call { callee:= .builtin .append,args:= #[x,y],argTypes:= #[t,t'] },ty,pos,after,gd⟩ (λ v' B=>B=R*Sl k v' (q+m) (xs++ys)):=λ g w hs=>by
  obtain ⟨v',w',B,h1,h2,⟨_,_,_,_,_,rfl⟩|rfl⟩:=o_appendGZ (dst:=dst) (ty:=ty) (pos:=pos) (after:=after) (gd:=gd) hu hu' hk hb hz hzk hk0 hb0 hx hy hA hys hm1 hm ho hlim g w hs
  . exact ⟨v',w',_,h1,h2,rfl⟩
  refine ⟨v',w',_,h1, ?_,rfl⟩;rw [star_assoc,star_comm (Sl k v q xs),←star_assoc] at h2
  exact h2.left
theorem wrap0:IntKind.i64.wrap 0=0:=by decide
theorem o_apRZ {t t' e:TypeId}{x y:Operand}{z:Value}{m k q bytes c0:Nat}{a:Option Addr}{xs ys zs:List Value}{R:SP}{C:SP->SP}
    (hu:P.underlying t=some (.slice e)) (hu':P.underlying t'=some (.int .i64)) (hk:szE P e=some k) (hb:bytesE P e=some bytes) (hz:zeroE P e=some z) (hzk:z.cells.size=k) (hk0:0<k) (hb0:0<bytes)
    (hx:ev n ρ x= .slice a q c0) (hy:ev n ρ y=(vn m)) (hf:Ct A (Sl k (.slice a q c0) q xs) R C) (hys:(Builtin.zeroCells z.cells m).toList=ys) (hm:ys.length=m*k) (ho:ys.all oneC=true) (hlim:(q+m)*bytes<=140737488355328) (he:xs++ys=zs):
    OpX P n ρ A ⟨dst,.call { callee:= .builtin .append,args:= #[x,y],argTypes:= #[t,t'] },ty,pos,after,gd⟩ (λ v' B=>∃a' c',v'= .slice a' (q+m) c'/\ q+m<=c'/\ B=C (Sl k (.slice a' (q+m) c') (q+m) zs)):=λ g w hs=>by
  subst he;obtain ⟨rfl,hC⟩:=hf
  by_cases hm1:m=0
  . subst hm1;have hy0:ys=[]:=List.eq_nil_of_length_eq_zero (by rw [hm];omega);subst hy0;obtain ⟨a',c',hv,h1,_⟩:=sl_have hs
    simp only [Value.slice.injEq,true_and] at hv
    obtain ⟨rfl,rfl⟩:=hv;obtain ⟨i,hi,hi1,hi2,hi3⟩:=info_of hk hb hz;refine ⟨.slice a q c0,w,_, ?_, ?_,a,c0,rfl,h1,rfl⟩
    . simp only [execOp,resolve,List.map_toArray,List.map_cons,List.map_nil,hx,hy]
      rw [run_bind (w':=w) (a:=⟨.builtin .append #[t,t'] ty _,#[.slice a q c0,vn 0]⟩) (by rfl)]
      simp only [invoke,builtin]
      rw [run_bind (a:= .slice a q c0) (w':=w)]
      . rfl
      cases a<;>simp [Builtin.append_,run_underlying hu,run_underlying hu',sizeOf,typeInfo,hi,hi1,asInt,asIntOf,h1,wrap0,storeCells]<;>rfl
    rw [hC,List.append_nil];exact hs
  obtain ⟨v',w',B,hr,hB,rfl⟩:=o_appendZ (dst:=dst) (ty:=ty) (pos:=pos) (after:=after) (gd:=gd) hu hu' hk hb hz hzk hk0 hb0 hx hy rfl hys hm1 hm (λ u hu=>List.all_eq_true.1 ho u hu) hlim g w hs;obtain ⟨a',c',rfl,h1,_⟩:=sl_have hB;exact ⟨_,w',_,hr,hB,a',c',rfl,h1,(hC _).symm⟩
theorem zrepB (m:Nat):(Builtin.zeroCells #[Value.int .u8 0] m).toList=bys (List.replicate m 0):=by
  unfold Builtin.zeroCells bys
  refine List.ext_getElem (by simp) λ i h1 h2=> ?_
  simp [b8,Nat.mod_one]
end
section
variable {P:Program} {n:Nat} {ρ:Env} {A:SP} {dst:Option Tmp} {ty:TypeId} {pos:String} {after:Array Edge} {gd:Option (Nat×Bool)}
end
def bdc (p v:Value):List Value:=[p,v]
attribute [local irreducible] Sl pt ro SlB
end Go.Vl

namespace Go.Vl
open Go Go.Proofs Go.Proofs.Tryz
theorem o_maxZ {P:Program}{n:Nat}{ρ:Env}{A:SP}{dst:Option Tmp}{ty t t':TypeId}{pos:String}{after:Array Edge}{gd:Option (Nat×Bool)}{x y:Operand}{a:Int}(hu:P.underlying ty=some (.int .i64))(hx:ev n ρ x= .int .i64 a)(hy:ev n ρ y= .int .i64 0):
    OpV P n ρ A ⟨dst,.call { callee:= .builtin .max,args:= #[x,y],argTypes:= #[t,t'] },ty,pos,after,gd⟩ ((vn a.toNat)):=λ g w hs=>by
  simp only [execOp,resolve,List.map_toArray,List.map_cons,List.map_nil,hx,hy]
  rw [run_bind (w':=w) (a:=⟨.builtin .max #[t,t'] ty _,#[.int .i64 a,.int .i64 0]⟩) (by rfl)]
  simp only [invoke,builtin]
  rw [run_bind (w':=w) (a:=(vn a.toNat))]
  . rfl
  have e:(if (0:Int)>a then (0:Int) else a)=((a.toNat:Nat):Int):=(by split<;>omega)
  simp only [gt_iff_lt] at e
  simp [Builtin.max_,Builtin.max2,List.foldlM,Sem.run_bind,←e]
attribute [local irreducible] crk crL crc Sl pt ro Dev imgS recS readS recsF rdW rdO rkT Parts rvl recordsS runsL adrF kcl xcl kys runA runsF layF ovF TxA adZ WkA SlB blkS conB
end Go.Vl

namespace Go.Vl
open Go Go.Proofs Go.Proofs.Tryz
theorem Take13_c {A R:SP}{C:SP->SP}{X:WkX}{Y:WkY}{T:WkT}{s:DevS}(hc:Ct A (WkA X Y s) R C:=by exact cbqz)(hok:WkOk X Y T (s.ls.length*64))(hb:WkB X s)(ho:s.off=false:=by assumption):
    Fn Tryz.prog 103 #[.pointer (some ⟨X.w,0,none⟩)] A (λ r B=>∃b e T2 Y2,takeS X.n T=(b,e,T2)/\ r= .tuple #[vn b,.int .i64 e]/\ WkOk X Y2 T2 (s.ls.length*64)/\ B=C (WkA X Y2 s)):=by
  cases h:leastB T X.n with
  |none=>exact (Take13_no (hc:=hc) (hok:=hok) (hb:=hb) (hf:=h)).mono λ r B ⟨h1,h2⟩=>⟨0,7,T,Y,by unfold takeS;rw [h],h1,hok,h2⟩
  |some b=>exact (Take13_ok (hc:=hc) (hok:=hok) (hb:=hb) (hf:=h)).mono λ r B ⟨Y2,h1,h2,h3⟩=>⟨b,0,_,Y2,by unfold takeS;rw [h],h1,h2,h3⟩
theorem natI_snoc (zs:List Nat)(b:Nat):ints (natI zs)++[vn b]=ints (natI (zs++[b])):=by unfold ints natI;simp [i64]
attribute [local irreducible] crk crL crc Sl pt ro Dev imgS recS readS recsF rdW rdO rkT Parts rvl recordsS runsL adrF kcl xcl kys runA runsF layF ovF TxA adZ WkA SlB blkS conB
end Go.Vl

namespace Go.Vl
open Go Go.Proofs Go.Proofs.Tryz
theorem ovF_lt {M:MS}{n:Nat}{f:TF}(h:MF M n f){p:Nat}{xs:List Nat}(hx:∀x∈xs,x<256):∀x∈ovF f p xs,x<256:=λ x hm=>by
  obtain ⟨i,hi⟩:=List.mem_iff_getElem?.1 hm;rw [ovF_get] at hi
  cases hxi:xs[i]? with
  |none=>rw [hxi] at hi;cases hi
  |some y=>
    rw [hxi] at hi
    simp only [Option.map_some,Option.some.injEq] at hi
    cases hf:f (p+i) with
    |none=>rw [hf] at hi;simp at hi;rw [←hi];exact hx y (List.mem_of_getElem? hxi)
    |some c=>rw [hf] at hi;simp at hi;rw [←hi];exact h.by_ _ _ hf
theorem con_lt {X:WkX}{Y:WkY}{T:WkT}{N:Nat}{s:DevS}{ba b:Nat}(h:WkOk X Y T N):∀x∈conB T s ba b,x<256:=ovF_lt h.m img_sub
theorem sobB {xs:List Nat}(h:∀x∈xs,x<256):sbys (sob xs)=xs:=by
  unfold sbys sob
  rw [List.toList_toArray,List.map_map]
  conv=>rhs;rw [←List.map_id xs]
  refine List.map_congr_left λ x hx=> ?_
  show (UInt8.ofNat x).toNat=x
  rw [UInt8.toNat_ofNat']
  exact Nat.mod_eq_of_lt (h x hx)
theorem sbys_inj {a b:ByteArray}:a.toList=b.toList↔sbys a=sbys b:=by
  rw [ByteArray.toList_eq,ByteArray.toList_eq]
  unfold sbys
  constructor
  . intro h;rw [h]
  intro h;exact List.map_inj_right (λ x y e=>UInt8.toNat_inj.1 e)|>.1 h
theorem sob_inj {xs ys:List Nat}(hx:∀x∈xs,x<256)(hy:∀x∈ys,x<256):(sob xs).toList=(sob ys).toList↔xs=ys:=by
  rw [sbys_inj,sobB hx,sobB hy]
theorem Read13_c {A R:SP}{C:SP->SP}{X:WkX}{Y:WkY}{T:WkT}{s:DevS}(hc:Ct A (WkA X Y s) R C:=by exact cbqz)(hok:WkOk X Y T (s.ls.length*64))(hb:WkB X s)(ho:s.off=false:=by assumption){b:Int}:
    Fn Tryz.prog 148 #[.pointer (some ⟨X.w,0,none⟩),.int .i64 b] A (λ r B=>∃a m c e xs,r= .tuple #[.slice a m c,.int .i64 e]∧
      ((usedZ T b=true/\ e=0/\ m=256/\ 256<=c/\ xs=conB T s X.ba b.toNat)∨(usedZ T b=false/\ e=130/\ m=0/\ xs=[]))/\ B=A*Sl 1 (.slice a m c) m (bys xs)):=by
  cases h:usedZ T b with
  |true=>
    obtain ⟨q,rfl⟩:∃q:Nat,b=q:=by
      unfold usedZ at h
      simp only [Bool.and_eq_true,decide_eq_true_eq] at h
      exact ⟨b.toNat,by omega⟩
    rw [usedZ_nat] at h
    exact (Read13_ok (hc:=hc) (hok:=hok) (hb:=hb) (hu:=h)).mono λ r B ⟨a,c,h1,h2,h3⟩=>⟨a,256,c,0,_,h1,.inl ⟨rfl,rfl,rfl,h2,rfl⟩,h3⟩
  |false=>
    intro g w hs;refine (Read13_no (hc:=hc) (hok:=hok) (hb:=hb) (hu:=h) (ho:=ho) g w hs).mono ?_;rintro e w' ⟨v,B,e1,⟨e2,rfl⟩,hB⟩;exact ⟨v,_,e1,⟨none,0,0,130,[],e2,.inr ⟨rfl,rfl,rfl,rfl⟩,rfl⟩,sl_nil hB⟩
attribute [local irreducible] crk crL crc Sl pt ro Dev imgS recS readS recsF rdW rdO rkT Parts rvl recordsS runsL adrF kcl xcl kys runA runsF layF ovF TxA adZ WkA SlB blkS conB
end Go.Vl

namespace Go.Vl
open Go Go.Proofs Go.Proofs.Tryz
def lkV (x:Lk):Value:= .agg ([vn x.1,.string (sob x.2.1),.int .i64 x.2.2]:List Value).toArray
attribute [local irreducible] crk crL crc Sl pt ro Dev imgS recS readS recsF rdW rdO rkT Parts rvl recordsS runsL adrF kcl xcl kys runA runsF layF ovF TxA adZ WkA SlB blkS conB
namespace Rg
end Rg
end Go.Vl

namespace Go.Vl
open Go Go.Proofs Go.Proofs.Tryz
theorem nodup_le {l:List Nat}{n:Nat}(h:l.Nodup)(hl:∀b∈l,b<n):l.length<=n:=by
  have:=h.length_le_of_subset λ b hb=>List.mem_range.2 (hl b hb)
  rwa [List.length_range] at this
theorem give_used {X:WkX}{Y:WkY}{T:WkT}{N b c:Nat}(h:WkOk X Y T N)(hb:usedB T b=true):usedB (T.give b) c=(usedB T c&&decide (c≠b)):=by
  unfold WkT.give
  cases ht:T.tk b with
  |true=>
    have hl:=h.dj b ht;rw [if_pos rfl]
    unfold usedB updG
    by_cases hc:c=b
    . subst hc;simp [hl]
    simp [hc]
  |false=>
    rw [if_neg (by decide)]
    unfold usedB updG
    by_cases hc:c=b
    . subst hc;simp [ht]
    simp [hc]
theorem foldl_snoc {α β:Type}(f:β->α->β)(b:β)(l:List α)(i:Nat)(h:i<l.length):(l.take (i+1)).foldl f b=f ((l.take i).foldl f b) l[i]:=by
  rw [List.take_succ_eq_append_getElem h,List.foldl_append];rfl
theorem mem_drop_ne {l:List Nat}{i:Nat}(h:l.Nodup)(hi:i<l.length):∀b∈l.drop (i+1),b≠l[i]:=λ b hb e=>by
  have h1:(l.drop i).Nodup:=h.sublist (List.drop_sublist _ _);rw [List.drop_eq_getElem_cons hi] at h1
  exact (List.nodup_cons.1 h1).1 (e▸hb)
attribute [local irreducible] crk crL crc Sl pt ro Dev imgS recS readS recsF rdW rdO rkT Parts rvl recordsS runsL adrF kcl xcl kys runA runsF layF ovF TxA adZ WkA SlB blkS conB
end Go.Vl

namespace Go.Vl
open Go Go.Proofs Go.Proofs.Tryz
def nB (bl:Int):Nat:=(1+(IntKind.i64.wrap (bl-1))%60).toNat
def wasL (n:Nat)(live:List Nat):List Bool:=(List.range n).map λ c=>decide (c∈live)
theorem wasL_nil (n:Nat):wasL n []=List.replicate n false:=by
  unfold wasL
  refine List.ext_getElem (by simp) λ i h1 h2=> ?_
  simp
theorem wasL_len (n:Nat)(l:List Nat):(wasL n l).length=n:=by unfold wasL;simp
theorem wasL_at {n k:Nat}{l:List Nat}(h:k<n):(bos (wasL n l))[k]? =some (.bool (decide (k∈l))):=by
  unfold bos wasL
  rw [List.map_map,List.getElem?_map,List.getElem?_range h];rfl
theorem wasL_set {n k:Nat}{l:List Nat}(h:k<n):(bos (wasL n l)).set k (.bool true)=bos (wasL n (l++[k])):=by
  unfold bos wasL
  rw [List.map_map,List.map_map]
  refine List.ext_getElem? λ i=> ?_
  rw [List.getElem?_set]
  simp only [List.length_map,List.length_range,List.getElem?_map]
  by_cases hi:k=i
  . subst hi;rw [if_pos rfl,if_pos h,List.getElem?_range h];simp
  rw [if_neg hi]
  cases hr:(List.range n)[i]? with
  |none=>rfl
  |some c=>
    have:c=i:=by
      have hi':=(List.getElem?_eq_some_iff.1 hr).1;rw [List.length_range] at hi'
      rw [List.getElem?_range hi'] at hr
      exact (Option.some.inj hr).symm
    subst this
    simp [show¬c=k from λ e=>hi e.symm]
def imS (n:Nat)(fs:List (List Nat))(st:List Nat×List Nat)(z:Int):List Nat×List Nat:=
  if (z%(n:Int)).toNat∈st.2 then st
  else (if st.2.length<fs.length then spl st.1 (16512+256*(z%(n:Int)).toNat) ((fs.getD st.2.length []).take 256) else st.1,st.2++[(z%(n:Int)).toNat])
def imF (n:Nat)(fs:List (List Nat))(ls:List Int):List Nat×List Nat:=ls.foldl (imS n fs) (List.replicate (16512+256*n) 0,[])
structure ImOk (n:Nat) (st:List Nat×List Nat):Prop where
  len:st.1.length=16512+256*n
  lt:∀c∈st.2,c<n
  nd:st.2.Nodup
  by_:∀x∈st.1,x<256
  z:st.1.take 16512=List.replicate 16512 0
def RsRows (A:SP)(a:Option Addr)(fs:List (List Nat)):Prop:=∃vs:List Value,vs.length=fs.length/\ Rs A a vs/\∀i (h:i<fs.length),∃b c,vs[i]? =some (.slice b fs[i].length c)/\ fs[i].length<=c/\ fs[i].length<=140737488351232/\ Rs A b (bys fs[i])
attribute [local irreducible] crk crL crc Sl pt ro Dev imgS recS readS recsF rdW rdO rkT Parts rvl recordsS runsL adrF kcl xcl kys runA runsF layF ovF TxA adZ WkA SlB blkS conB imF
end Go.Vl

namespace Go.Vl
open Go Go.Proofs Go.Proofs.Tryz
theorem rdev_cell {A R:SP}{C:SP->SP}{r:Nat}{s:DevS}(hc:Ct A (RDev r s) R C){i:Nat}{v:Value}(h:∀A lv rls av,RdevR A r lv rls av s->Cell A r i v):Cell A r i v:=λ g w hs=>by
  rw [hc.1] at hs
  obtain ⟨hw,lv,rls,av,kvs,h1,h2,hs'⟩:=rdev_iff.1 hs;exact h _ lv rls av (rdevR_of hw h1 hs') g w hs'
theorem cell_of_rs {A:SP}{b i:Nat}{xs:List Value}{v:Value}(h:Rs A (some ⟨b,0,none⟩) xs)(hv:xs[i]? =some v):Cell A b i v:=λ g w hs=>by
  obtain ⟨b',o,e,hc⟩:=h g w hs i v hv
  simp only [Option.some.injEq,Addr.mk.injEq,and_true] at e
  obtain ⟨rfl,rfl⟩:=e
  simpa using hc
theorem rdev_bytes {A R:SP}{C:SP->SP}{r:Nat}{s:DevS}(hc:Ct A (RDev r s) R C):Cell A r 0 ((vn (s.ls.length*64))):=rdev_cell hc λ A lv rls av hR=>cell_of_rs hR.d rfl
theorem rdev_gone {A R:SP}{C:SP->SP}{r:Nat}{s:DevS}(hc:Ct A (RDev r s) R C):Cell A r 5 (.bool s.off):=rdev_cell hc λ A lv rls av hR=>cell_of_rs hR.d rfl
attribute [local irreducible] crk crL crc Sl pt ro Dev imgS recS readS recsF rdW rdO rkT Parts rvl recordsS runsL adrF kcl xcl kys runA runsF layF ovF TxA adZ WkA SlB blkS conB imF RDev
theorem rNew12_c {A:SP}{r lg:Nat}:
    Fn Tryz.prog 91 #[pz r,pz lg] A (λ v B=>∃q,v= .tuple #[pz q,.int .i64 0]/\ B=A*pt q (cl [pz r,pz lg,.pointer none] 269)):=by
  refine fn_enterW func91 rfl ntmps91 (by simp) ?_;refine Zdi ?_;refine tv (o_eqp underlying47 rfl rfl) ?_;refine tlm ?_;refine tl_bool (d:=8) rfl dbq (sbq ?_);intro h;refine tlm ?_;refine tv (o_eqp underlying172 rfl rfl) ?_;refine Zdz ?_;intro h;refine Zfm ?_;refine tv (o_bS (l:=[_,_,_]) (pv_cons wqz (pv_cons wqz pv_nil)) underlying269 z269 (pl269 underlying269) rfl) ?_;refine tl_x rfl (o_box rfl rfl) ?_;rintro _ _ ⟨b15,rfl,rfl⟩;refine Z6 ?_;exact ⟨_,_,res2 rfl rfl rfl,λ _ _ h=>h,b15,rfl,rfl⟩
theorem rSize12_c {A R:SP}{C:SP->SP}{r:Nat}{s:DevS}(hc:Ct A (RDev r s) R C:=by exact cbqz){q lg:Nat}{o:Value}(hq:Has A q (cl [pz r,pz lg,o] 269):=by exact hbqz):
    Fn Tryz.prog 174 #[pz q] A (λ v B=>v=(vn (s.ls.length*64))/\ A=B):=by
  refine fn_enterW func174 rfl ntmps174 (by simp) ?_;refine Zhh ?_;refine tv (o_fieldAddr (o:=0) underlying269 rfl rfl sz47 rfl) ?_;refine tv (o_load p47 rfl hq rfl) ?_;refine Zcf ?_;refine tv (o_loadC p3 rfl (rdev_bytes hc)) ?_;refine Zl ?_;exact ⟨.int .i64 ((s.ls.length*64:Nat):Int),_,res1 rfl rfl,Dr.sat drqz,rfl,rfl⟩
theorem rNew13_c {A R:SP}{C:SP->SP}{r:Nat}{s:DevS}(hc:Ct A (RDev r s) R C:=by exact cbqz){q lg:Nat}{o:Value}(hq:Has A q (cl [pz r,pz lg,o] 269):=by exact hbqz){at_ n:Nat}(h64:at_%64=0)(h1:128<=at_)(h2:at_+256*n<=s.ls.length*64)(htop:s.ls.length*64<=4194304):
    Fn Tryz.prog 92 #[pz q,vn at_,vn n] A (λ v B=>∃l hd,v= .tuple #[pz hd,.int .i64 0]/\ B=A*Sl 1 (.slice (some ⟨l,0,none⟩) n n) n (bos (wasL n []))*pt hd (cl [pz q,vn at_,vn n,.slice (some ⟨l,0,none⟩) n n,.pointer none] 232)):=by
  refine fn_enterW func92 rfl ntmps92 (by simp) ?_;refine Zdi ?_;refine tv (o_eqp underlying175 rfl rfl) ?_;refine Zq ?_;intro h;refine Zcr ?_;refine tv (o_remI rfl rfl oqz) ?_;refine Zdv ?_;refine tl_bool (d:=13) rfl dbq (sbq ?_);intro h;refine Zhy ?_;refine tl_bool (d:=17) rfl dbq (sbq ?_);intro h;refine Zhy ?_;refine tl_bool (d:=21) rfl dbq (sbq ?_);intro h;refine Zt ?_;refine tl_c rfl (o_call bd174 rfl (rSize12_c (hc:=hc) (hq:=hq))) ?_;rintro _ _ ⟨rfl,rfl⟩;refine Zhg ?_;refine tl_bool (d:=27) rfl dbq (sbq ?_);intro h;refine Zt ?_;refine tl_c rfl (o_call bd174 rfl (rSize12_c (hc:=hc) (hq:=hq))) ?_;rintro _ _ ⟨rfl,rfl⟩;refine Zc0 ?_;refine tv (o_quoI rfl rfl oqz) ?_;refine Z7 ?_;refine Zq ?_;intro h;refine Zh8 ?_;refine tlm ?_;refine tl_x rfl (o_makeSlice (len:=n) (cap:=n) underlying228 sz4 by4 z4 rfl rfl rfl oqz oqz oqz) ?_;rintro _ _ ⟨b40,rfl,rfl⟩;refine tl_pre (λ _ _ h=>sl_new (k:=1) (n:=n) (cap:=n) (xs:=bos (wasL n [])) h oqz (by simp) (by rw [Nat.mul_one,List.take_of_length_le (by simp),wasL_nil];unfold bos;rw [List.map_replicate])) ?_;refine tv (o_bS (l:=[_,_,_,_,_]) (pv_cons wqz (pv_cons wqz (pv_cons wqz (pv_cons wqz pv_nil)))) underlying232 z232 (pl232 underlying232) rfl) ?_;refine tl_x rfl (o_box rfl rfl) ?_;rintro _ _ ⟨b42,rfl,rfl⟩;refine Z6 ?_;exact ⟨_,_,res2 rfl rfl rfl,λ _ _ h=>h,b40,b42,rfl,rfl⟩
theorem rOpenH_c {A:SP}{hd q at_ n:Nat}{l:Value}(hh:Has A hd (cl [pz q,vn at_,vn n,l,.pointer none] 232):=by exact hbqz):
    Fn Tryz.prog 175 #[pz hd] A (λ v B=>v= .bool false/\ A=B):=by
  refine fn_enterW func175 rfl ntmps175 (by simp) ?_;refine Zhh ?_;refine tv (o_fieldAddr (o:=4) underlying232 rfl rfl sz49 rfl) ?_;refine tv (o_load p49 rfl hh rfl) ?_;refine tv (o_nep underlying49 rfl rfl) ?_;refine tlm ?_;refine tl_bool (d:=8) rfl dbq (sbq ?_);intro h;refine Zbj ?_;refine Zbj ?_;refine Zef ?_;exact ⟨.bool false,_,res1 rfl rfl,Dr.sat drqz,rfl,rfl⟩
theorem rLoad13_c {A R:SP}{hd q at_ n m c:Nat}{lv:Value}{a:Option Addr}{zs:List Nat}(hA:A=R*pt hd (cl [pz q,vn at_,vn n,lv,.pointer none] 232))(hr:Rs R a (ints (natI zs)))(hm:zs.length=m)(hnd:zs.Nodup)(hz:∀x∈zs,x<n)(hn:n<=4194304)(hml:m<=4194304):
    Fn Tryz.prog 93 #[pz hd,.slice a m c] A (λ v B=>∃l,v= .int .i64 0/\ B=R*pt hd (cl [pz q,vn at_,vn n,.slice (some ⟨l,0,none⟩) n n,.pointer none] 232)*Sl 1 (.slice (some ⟨l,0,none⟩) n n) n (bos (wasL n zs))):=by
  refine fn_enterW func93 rfl ntmps93 (by simp) ?_;subst hA;refine Zcb ?_;refine tl_c rfl (o_call bd175 rfl (rOpenH_c)) ?_;rintro _ _ ⟨rfl,rfl⟩;refine Zq ?_;intro h;refine Zew ?_;refine tv (o_fieldAddr (o:=2) underlying232 rfl rfl sz3 rfl) ?_;refine tv (o_load p3 rfl hsqz rfl) ?_;refine tl_x rfl (o_makeSlice (len:=n) (cap:=n) underlying228 sz4 by4 z4 rfl rfl rfl oqz oqz oqz) ?_;rintro _ _ ⟨b13,rfl,rfl⟩;refine tl_pre (λ _ _ h=>sl_new (k:=1) (n:=n) (cap:=n) (xs:=bos (wasL n [])) h oqz (by simp) (by rw [Nat.mul_one,List.take_of_length_le (by simp),wasL_nil];unfold bos;rw [List.map_replicate])) ?_;refine Zci ?_;refine Zd7 ?_;refine tc_loop (λ kk ρ BB=>∃ (i:Nat),(i<=m)/\ kk=m-i/\ ρ 6=(vn i)/\ ρ 0=(pz hd)/\ ρ 1= .slice a m c/\ ρ 5= .slice (some ⟨b13,0,none⟩) n n/\ Dr BB (R*pt hd (cl [pz q,vn at_,vn n,lv,.pointer none] 232)*Sl 1 (.slice (some ⟨b13,0,none⟩) n n) n (bos (wasL n (zs.take i))))) (m:=m-(0)) ?_ ?_
  . exact ⟨0,by omega,rfl,rfl,rfl,rfl,rfl,(by rw [List.take_zero];repeat (first|with_reducible exact dr_refl|apply dr_keep|apply dr_drop))⟩
  intro k ρ B hI;obtain ⟨i,hp0,hkk1,hE6,hE0,hE1,hE5,hBA⟩:=hI;refine tc_pre hBA.sat ?_;clear hBA;refine te 6 hE6 ?_;refine te 0 hE0 ?_;refine te 1 hE1 ?_;refine te 5 hE5 ?_;refine Zm ?_;refine Zet ?_;refine Zx ?_;refine tc_cond rfl (λ h=> ?_) (λ h=> ?_)
  . have hi:i<zs.length:=(by first|omega|(simp at h;omega));obtain ⟨x,hx1⟩:∃x,zs[i]=x:=⟨_,rfl⟩;have hxn:x<n:=hx1▸hz _ (List.getElem_mem hi)
    have hxo:x∉zs.take i:=(by have:=nodup_at hnd hi;rw [hx1] at this;exact of_decide_eq_false this);have htk:zs.take (i+1)=zs.take i++[x]:=(by rw [List.take_succ_eq_append_getElem hi,hx1]);refine Zbe ?_;refine Ze9 ?_;refine tc_regq mo kqz ?_;refine Zb5 ?_;refine ql_v rfl (o_ixP1 (a:=a) (j:=i) underlying34 sz3 rfl rfl oqz (nn_rs (xs:=ints (natI zs)) (by repeat (first|exact hr|apply Rs.left)) (by rw [ints_length,natI_len];omega))) ?_;refine ql_v rfl (o_ldP (a:=a) (xs:=ints (natI zs)) p3 rfl (by repeat (first|exact hr|apply Rs.left)) (natI_at hi)) ?_;refine ql_env (d:=23) (v:=(vn x)) (by show Value.int .i64 ((zs[i]:Nat):Int)=_;rw [hx1]) ?_;refine ql_v rfl (o_lss rfl rfl) ?_;refine ql_v rfl (o_move wqz) ?_;refine ql_bool (d:=25) rfl dbq (sbq ?_);intro h;refine Zb5 ?_;refine ql_v rfl (o_ixP1 (a:=a) (j:=i) underlying34 sz3 rfl rfl oqz (nn_rs (xs:=ints (natI zs)) (by repeat (first|exact hr|apply Rs.left)) (by rw [ints_length,natI_len];omega))) ?_;refine ql_v rfl (o_ldP (a:=a) (xs:=ints (natI zs)) p3 rfl (by repeat (first|exact hr|apply Rs.left)) (natI_at hi)) ?_;refine ql_env (d:=29) (v:=(vn x)) (by show Value.int .i64 ((zs[i]:Nat):Int)=_;rw [hx1]) ?_;refine Zbs ?_;refine ql_v rfl (o_fieldAddr (o:=2) underlying232 rfl rfl sz3 rfl) ?_;refine ql_v rfl (o_load p3 rfl hsqz rfl) ?_;refine Zhv ?_;refine ql_v rfl (o_move wqz) ?_;refine ql_bool (d:=36) rfl dbq (sbq ?_);intro h;refine Zb5 ?_;refine ql_v rfl (o_move wqz) ?_;refine ql_v rfl (o_ixP1 (a:=a) (j:=i) underlying34 sz3 rfl rfl oqz (nn_rs (xs:=ints (natI zs)) (by repeat (first|exact hr|apply Rs.left)) (by rw [ints_length,natI_len];omega))) ?_;refine ql_v rfl (o_ldP (a:=a) (xs:=ints (natI zs)) p3 rfl (by repeat (first|exact hr|apply Rs.left)) (natI_at hi)) ?_;refine ql_env (d:=41) (v:=(vn x)) (by show Value.int .i64 ((zs[i]:Nat):Int)=_;rw [hx1]) ?_;refine ql_v rfl (o_ixP1 (j:=x) underlying228 sz4 rfl rfl oqz (nn_rs (xs:=bos (wasL n (zs.take i))) sq0z (by rw [bos_length,wasL_len];omega))) ?_;refine ql_v rfl (o_ldP (xs:=bos (wasL n (zs.take i))) p4 rfl sq0z (wasL_at hxn)) ?_;refine ql_env (d:=43) (v:= .bool false) (congrArg Value.bool (decide_eq_false hxo)) ?_;refine ql_v rfl (o_pick_f rfl wqz) ?_;refine Zdq ?_;refine tc_cond rfl dbq (sbq ?_);intro h;refine Ze ?_;refine Zb0 ?_;refine tlm ?_;refine tv (o_ixP1 (a:=a) (j:=i) underlying34 sz3 rfl rfl oqz (nn_rs (xs:=ints (natI zs)) (by repeat (first|exact hr|apply Rs.left)) (by rw [ints_length,natI_len];omega))) ?_;refine tv (o_ldP (a:=a) (xs:=ints (natI zs)) p3 rfl (by repeat (first|exact hr|apply Rs.left)) (natI_at hi)) ?_;refine tl_env (d:=49) (v:=(vn x)) (by show Value.int .i64 ((zs[i]:Nat):Int)=_;rw [hx1]) ?_;refine tv (o_ixP1 (j:=x) underlying228 sz4 rfl rfl oqz (nn_rs (xs:=bos (wasL n (zs.take i))) sq0z (by rw [bos_length,wasL_len];omega))) ?_;refine tl_u rfl (o_stP (ys:=bos (wasL n (zs.take (i+1)))) sz4 rfl rfl rfl ctqz oqz (by rw [htk];exact wasL_set hxn)) ?_;refine Zc9 ?_;refine Zfy ?_;exact ⟨_,by omega,i+1,by omega,rfl,rfl,rfl,rfl,rfl,drqz⟩
  obtain rfl:i=m:=by first|omega|(simp at h;omega)
  rw [List.take_of_length_le oqz]
  refine Zcs ?_;refine Zba ?_;refine tv (o_fieldAddr (o:=3) underlying232 rfl rfl sz228 rfl) ?_;refine tl_u rfl (o_stU (l':=[pz q,vn at_,vn n,.slice (some ⟨b13,0,none⟩) n n,.pointer none]) rfl upqz sz228 rfl rfl (by show 3<5;decide) rfl) ?_;refine nq ?_;refine Zcd ?_;exact ⟨.int .i64 0,_,res1 rfl rfl,Dr.sat drqz,b13,rfl,rfl⟩
theorem rState12_c {A R:SP}{C:SP->SP}{r:Nat}{s:DevS}(hc:Ct A (RDev r s) R C:=by exact cbqz){q lg la lz:Nat}{o:Value}(hq:Has A q (cl [pz r,pz lg,o] 269):=by exact hbqz)(hl:Has R lg (cl [pz r,vn la,vn lz] 267):=by exact hbqz)(hlw:LogW (s.ls.length*64) la lz)(hre:recordsS la lz s=([],0)):
    Fn Tryz.prog 294 #[pz q] A (λ v B=>v= .int .i64 0/\ A=B):=by
  refine fn_enterW func294 rfl ntmps294 (by simp) ?_;refine Zhh ?_;refine tv (o_fieldAddr (o:=1) underlying269 rfl rfl sz172 rfl) ?_;refine tv (o_load p172 rfl hq rfl) ?_;refine tl_c rfl (o_call bd322 rfl (rRecords_c (hc:=hc) (hl:=hl) (hlw:=hlw))) ?_;rintro _ _ ⟨a10,c10,vs10,rfl,hc10,hvs10,rfl⟩;rw [hre] at hc10 hvs10
  rw [hre]
  refine Zf9 ?_;intro h;refine Zcr ?_;refine tv (o_len underlying259 rfl) ?_;refine tv (o_gtr rfl rfl) ?_;refine Zq ?_;intro h;refine Ze ?_;refine Zcd ?_;exact ⟨.int .i64 0,_,res1 rfl rfl,(λ g w h=>by rw [hc.1];rw [hc.2] at h;exact Dr.sat (A':=R*RDev r s) drqz g w h),rfl,rfl⟩
theorem pt_bos {R:SP}{b n:Nat}{E:TypeId}{g:Gh}{w:World}(h:sat g w (R*pt b (cl (List.replicate n (.bool false)) E))):sat g w (R*Sl 1 (.slice (some ⟨b,0,none⟩) n n) n (bos (wasL n []))):=
  sl_new (k:=1) h (Nat.le_refl _) (by simp) (by rw [Nat.mul_one,List.take_of_length_le (by simp),wasL_nil];unfold bos;rw [List.map_replicate])
theorem Zim {p r:Prop}(k:r)(h:Kq r->p:=by intro k;refine tv (o_fieldAddr (o:=2) underlying269 rfl rfl sz227 rfl) ?_;refine tv (o_load p227 rfl hsqz rfl) ?_;exact k.o):p:=h ⟨k⟩
theorem rBegin12_c {A R:SP}{q r lg la lz:Nat}{s:DevS}(hA:A=R*pt q (cl [pz r,pz lg,.pointer none] 269)*pt lg (cl [pz r,vn la,vn lz] 267)*RDev r s)(hlw:LogW (s.ls.length*64) la lz)(hre:recordsS la lz s=([],0))(ho:s.off=false:=by assumption):
    Fn Tryz.prog 251 #[pz q] A (λ v B=>∃t,v= .tuple #[pz t,.int .i64 0]/\ B=R*pt q (cl [pz r,pz lg,pz t] 269)*pt lg (cl [pz r,vn la,vn lz] 267)*RDev r s*pt t (cl [pz q,.slice none 0 0,.bool false] 328)):=by
  refine fn_enterW func251 rfl ntmps251 (by simp) ?_;subst hA;refine Zdi ?_;refine tv (o_nilCheck rfl) ?_;refine tv (o_fieldAddr (o:=0) underlying269 rfl rfl sz47 rfl) ?_;refine tv (o_load p47 rfl hsqz rfl) ?_;refine Zfv ?_;refine tv (o_loadC p4 rfl (rdev_gone ctqz)) ?_;refine tl_env (d:=11) (v:= .bool false) (congrArg Value.bool ho) ?_;refine Zq ?_;intro h;refine Zg6 ?_;refine Zim ?_;refine tv (o_nep underlying227 rfl rfl) ?_;refine Zq ?_;intro h;refine Zb2 ?_;refine tl_c rfl (o_call bd294 rfl (rState12_c (s:=s) (la:=la) (lz:=lz) (r:=r) (lg:=lg) (hlw:=hlw) (hre:=hre))) ?_;rintro _ _ ⟨rfl,rfl⟩;refine Zy ?_;refine Zbd ?_;intro h;refine Zfm ?_;refine tv (o_bS (l:=[_,_,_]) (pv_cons wqz pv_nil) underlying328 z328 (pl328 underlying328) rfl) ?_;refine tl_x rfl (o_box rfl rfl) ?_;rintro _ _ ⟨b25,rfl,rfl⟩;refine tv (o_nilCheck rfl) ?_;refine tv (o_fieldAddr (o:=2) underlying269 rfl rfl sz227 rfl) ?_;refine tl_u rfl (o_stU (l':=[pz r,pz lg,pz b25]) rfl upqz sz227 rfl rfl (by show 2<3;decide) rfl) ?_;refine nq ?_;refine Zs ?_;refine Zim ?_;refine Z6 ?_;exact ⟨_,_,res2 rfl rfl rfl,λ _ _ h=>h,b25,rfl,rfl⟩
theorem Z4 {p r:Prop}(k:r)(h:Kq r->p:=by intro k;refine ⟨by repeat (first|with_reducible exact dr_refl|apply dr_keep|apply dr_drop), ?_⟩;refine tm 13 rfl kqz rfl (o_bS (l:=[_,_,_,_,_]) (pv_cons wqz (pv_cons wqz (pv_cons wqz (pv_cons wqz pv_nil)))) underlying230 z230 (pl230 underlying230) rfl) ?_;exact k.o):p:=h ⟨k⟩
theorem Zdx {p r:Prop}(k:r)(h:Kq r->p:=by intro k;refine th_one (i:=14) kqz ?_;refine oh_x rfl rfl rfl (o_box rfl rfl) ?_;exact k.o):p:=h ⟨k⟩
theorem Zcg {p r:Prop}(k:r)(h:Kq r->p:=by intro k;refine tm 16 rfl kqz rfl (o_fieldAddr (o:=4) underlying232 rfl rfl sz49 rfl) ?_;refine th_one (i:=17) kqz ?_;exact k.o):p:=h ⟨k⟩
theorem Zck {p r:Prop}(k:r)(h:Kq r->p:=by intro k;refine tv (o_fieldAddr (o:=4) underlying232 rfl rfl sz49 rfl) ?_;refine tv (o_load p49 rfl hsqz rfl) ?_;exact k.o):p:=h ⟨k⟩
theorem Zh0 {p r:Prop}(k:r)(h:Kq r->p:=by intro k;refine ⟨by repeat (first|with_reducible exact dr_refl|apply dr_keep|apply dr_drop), ?_⟩;refine th_one (i:=12) kqz ?_;exact k.o):p:=h ⟨k⟩
theorem rBegin13_c {A R:SP}{hd n at_ q r lg la lz:Nat}{l:Value}{s:DevS}(hA:A=R*pt hd (cl [pz q,vn at_,vn n,l,.pointer none] 232)*pt q (cl [pz r,pz lg,.pointer none] 269)*pt lg (cl [pz r,vn la,vn lz] 267)*RDev r s)(hlw:LogW (s.ls.length*64) la lz)(hre:recordsS la lz s=([],0))(hn:n<=4194304)(ho:s.off=false:=by assumption):
    Fn Tryz.prog 177 #[pz hd] A (λ v B=>∃t k1 k2 w,v= .tuple #[pz w,.int .i64 0]/\ B=R*pt hd (cl [pz q,vn at_,vn n,l,pz w] 232)*pt q (cl [pz r,pz lg,pz t] 269)*pt lg (cl [pz r,vn la,vn lz] 267)*RDev r s*pt t (cl [pz q,.slice none 0 0,.bool false] 328)*pt w (cl [pz hd,pz t,.slice (some ⟨k1,0,none⟩) n n,.slice (some ⟨k2,0,none⟩) n n,.bool false] 230)*Sl 1 (.slice (some ⟨k1,0,none⟩) n n) n (bos (wasL n []))*Sl 1 (.slice (some ⟨k2,0,none⟩) n n) n (bos (wasL n []))):=by
  refine fn_enterW func177 rfl ntmps177 (by simp) ?_;subst hA;refine Zcc ?_;refine Zfu ?_;refine tv (o_fieldAddr (o:=0) underlying232 rfl rfl sz175 rfl) ?_;refine tv (o_load p175 rfl hsqz rfl) ?_;refine tl_c rfl (o_call bd251 rfl (rBegin12_c (R:=R*pt hd (cl [pz q,vn at_,vn n,l,.pointer none] 232)) (q:=q) (r:=r) (lg:=lg) (la:=la) (lz:=lz) (s:=s) (hA:=by ac_rfl) (hlw:=hlw) (hre:=hre))) ?_;rintro _ _ ⟨t11,rfl,rfl⟩;refine Zf9 ?_;intro h;refine Zdm ?_;refine tc_regh (S:=R) mo drqz ?_
  show TH _ _ _ _ _ 18 (Array.replicate 18 false) _ _
  refine Zea ?_;refine Zcy ?_;refine tm 4 rfl kqz rfl (o_nilCheck rfl) ?_;refine tm 5 rfl kqz rfl (o_fieldAddr (o:=2) underlying232 rfl rfl sz3 rfl) ?_;refine tm 8 rfl kqz rfl (o_move wqz) ?_;refine tm 9 rfl kqz rfl (o_nilCheck rfl) ?_;refine tm 10 rfl kqz rfl (o_fieldAddr (o:=2) underlying232 rfl rfl sz3 rfl) ?_;refine th_two (i:=6) (j:=11) kqz ?_ ?_
  . skip
    refine oh_v rfl rfl rfl (o_load p3 rfl hsqz rfl) ?_;refine th_two (i:=7) (j:=11) kqz ?_ ?_
    . skip
      refine oh_x rfl rfl rfl (o_makeSlice (len:=n) (cap:=n) underlying228 sz4 by4 z4 rfl rfl rfl oqz oqz oqz) ?_;rintro _ _ ⟨b24,rfl,rfl⟩;refine Zeq ?_;refine oh_v rfl rfl rfl (o_load p3 rfl hsqz rfl) ?_;refine th_one (i:=12) kqz ?_;refine oh_x rfl rfl rfl (o_makeSlice (len:=n) (cap:=n) underlying228 sz4 by4 z4 rfl rfl rfl oqz oqz oqz) ?_;rintro _ _ ⟨b29,rfl,rfl⟩;refine Z4 ?_;refine Zdx ?_;rintro _ _ ⟨b31,rfl,rfl⟩;refine Z8 ?_;refine Zcg ?_;refine oh_u rfl rfl rfl (o_stU (l':=[pz q,vn at_,vn n,l,pz b31]) rfl upqz sz49 rfl rfl (by show 4<5;decide) rfl) drqz ?_;refine Zbv ?_;refine Zs ?_;refine Zck ?_;refine Z6 ?_;exact ⟨_,_,res2 rfl rfl rfl,(λ g w h=>pt_bos (b:=b29) ((pt_bos (b:=b24) (h.perm (show _=R*pt hd (cl [pz q,vn at_,vn n,l,pz b31] 232)*pt q (cl [pz r,pz lg,pz t11] 269)*pt lg (cl [pz r,vn la,vn lz] 267)*RDev r s*pt t11 (cl [pz q,.slice none 0 0,.bool false] 328)*pt b31 (cl [pz hd,pz t11,.slice (some ⟨b24,0,none⟩) n n,.slice (some ⟨b29,0,none⟩) n n,.bool false] 230)*pt b29 (cl (List.replicate n (.bool false)) 4)*pt b24 (cl (List.replicate n (.bool false)) 4) by ac_rfl))).perm (show _=R*pt hd (cl [pz q,vn at_,vn n,l,pz b31] 232)*pt q (cl [pz r,pz lg,pz t11] 269)*pt lg (cl [pz r,vn la,vn lz] 267)*RDev r s*pt t11 (cl [pz q,.slice none 0 0,.bool false] 328)*pt b31 (cl [pz hd,pz t11,.slice (some ⟨b24,0,none⟩) n n,.slice (some ⟨b29,0,none⟩) n n,.bool false] 230)*Sl 1 (.slice (some ⟨b24,0,none⟩) n n) n (bos (wasL n []))*pt b29 (cl (List.replicate n (.bool false)) 4) by ac_rfl))),t11,b24,b29,b31,rfl,rfl⟩
    . skip
      refine oh_v rfl rfl rfl (o_load p3 rfl hsqz rfl) ?_;refine th_two (i:=7) (j:=12) kqz ?_ ?_
      . skip
        refine oh_x rfl rfl rfl (o_makeSlice (len:=n) (cap:=n) underlying228 sz4 by4 z4 rfl rfl rfl oqz oqz oqz) ?_;rintro _ _ ⟨b24,rfl,rfl⟩;refine Zh0 ?_;refine oh_x rfl rfl rfl (o_makeSlice (len:=n) (cap:=n) underlying228 sz4 by4 z4 rfl rfl rfl oqz oqz oqz) ?_;rintro _ _ ⟨b29,rfl,rfl⟩;refine Z4 ?_;refine Zdx ?_;rintro _ _ ⟨b31,rfl,rfl⟩;refine Z8 ?_;refine Zcg ?_;refine oh_u rfl rfl rfl (o_stU (l':=[pz q,vn at_,vn n,l,pz b31]) rfl upqz sz49 rfl rfl (by show 4<5;decide) rfl) drqz ?_;refine Zbv ?_;refine Zs ?_;refine Zck ?_;refine Z6 ?_;exact ⟨_,_,res2 rfl rfl rfl,(λ g w h=>pt_bos (b:=b29) ((pt_bos (b:=b24) (h.perm (show _=R*pt hd (cl [pz q,vn at_,vn n,l,pz b31] 232)*pt q (cl [pz r,pz lg,pz t11] 269)*pt lg (cl [pz r,vn la,vn lz] 267)*RDev r s*pt t11 (cl [pz q,.slice none 0 0,.bool false] 328)*pt b31 (cl [pz hd,pz t11,.slice (some ⟨b24,0,none⟩) n n,.slice (some ⟨b29,0,none⟩) n n,.bool false] 230)*pt b29 (cl (List.replicate n (.bool false)) 4)*pt b24 (cl (List.replicate n (.bool false)) 4) by ac_rfl))).perm (show _=R*pt hd (cl [pz q,vn at_,vn n,l,pz b31] 232)*pt q (cl [pz r,pz lg,pz t11] 269)*pt lg (cl [pz r,vn la,vn lz] 267)*RDev r s*pt t11 (cl [pz q,.slice none 0 0,.bool false] 328)*pt b31 (cl [pz hd,pz t11,.slice (some ⟨b24,0,none⟩) n n,.slice (some ⟨b29,0,none⟩) n n,.bool false] 230)*Sl 1 (.slice (some ⟨b24,0,none⟩) n n) n (bos (wasL n []))*pt b29 (cl (List.replicate n (.bool false)) 4) by ac_rfl))),t11,b24,b29,b31,rfl,rfl⟩
      . skip
        refine oh_x rfl rfl rfl (o_makeSlice (len:=n) (cap:=n) underlying228 sz4 by4 z4 rfl rfl rfl oqz oqz oqz) ?_;rintro _ _ ⟨b29,rfl,rfl⟩;refine Zco ?_;refine oh_x rfl rfl rfl (o_makeSlice (len:=n) (cap:=n) underlying228 sz4 by4 z4 rfl rfl rfl oqz oqz oqz) ?_;rintro _ _ ⟨b24,rfl,rfl⟩;refine Z4 ?_;refine Zdx ?_;rintro _ _ ⟨b31,rfl,rfl⟩;refine Z8 ?_;refine Zcg ?_;refine oh_u rfl rfl rfl (o_stU (l':=[pz q,vn at_,vn n,l,pz b31]) rfl upqz sz49 rfl rfl (by show 4<5;decide) rfl) drqz ?_;refine Zbv ?_;refine Zs ?_;refine Zck ?_;refine Z6 ?_;exact ⟨_,_,res2 rfl rfl rfl,(λ g w h=>pt_bos (b:=b29) ((pt_bos (b:=b24) (h.perm (show _=R*pt hd (cl [pz q,vn at_,vn n,l,pz b31] 232)*pt q (cl [pz r,pz lg,pz t11] 269)*pt lg (cl [pz r,vn la,vn lz] 267)*RDev r s*pt t11 (cl [pz q,.slice none 0 0,.bool false] 328)*pt b31 (cl [pz hd,pz t11,.slice (some ⟨b24,0,none⟩) n n,.slice (some ⟨b29,0,none⟩) n n,.bool false] 230)*pt b29 (cl (List.replicate n (.bool false)) 4)*pt b24 (cl (List.replicate n (.bool false)) 4) by ac_rfl))).perm (show _=R*pt hd (cl [pz q,vn at_,vn n,l,pz b31] 232)*pt q (cl [pz r,pz lg,pz t11] 269)*pt lg (cl [pz r,vn la,vn lz] 267)*RDev r s*pt t11 (cl [pz q,.slice none 0 0,.bool false] 328)*pt b31 (cl [pz hd,pz t11,.slice (some ⟨b24,0,none⟩) n n,.slice (some ⟨b29,0,none⟩) n n,.bool false] 230)*Sl 1 (.slice (some ⟨b24,0,none⟩) n n) n (bos (wasL n []))*pt b29 (cl (List.replicate n (.bool false)) 4) by ac_rfl))),t11,b24,b29,b31,rfl,rfl⟩
  . skip
    refine oh_v rfl rfl rfl (o_load p3 rfl hsqz rfl) ?_;refine th_two (i:=6) (j:=12) kqz ?_ ?_
    . skip
      refine oh_v rfl rfl rfl (o_load p3 rfl hsqz rfl) ?_;refine th_two (i:=7) (j:=12) kqz ?_ ?_
      . skip
        refine oh_x rfl rfl rfl (o_makeSlice (len:=n) (cap:=n) underlying228 sz4 by4 z4 rfl rfl rfl oqz oqz oqz) ?_;rintro _ _ ⟨b24,rfl,rfl⟩;refine Zh0 ?_;refine oh_x rfl rfl rfl (o_makeSlice (len:=n) (cap:=n) underlying228 sz4 by4 z4 rfl rfl rfl oqz oqz oqz) ?_;rintro _ _ ⟨b29,rfl,rfl⟩;refine Z4 ?_;refine Zdx ?_;rintro _ _ ⟨b31,rfl,rfl⟩;refine Z8 ?_;refine Zcg ?_;refine oh_u rfl rfl rfl (o_stU (l':=[pz q,vn at_,vn n,l,pz b31]) rfl upqz sz49 rfl rfl (by show 4<5;decide) rfl) drqz ?_;refine Zbv ?_;refine Zs ?_;refine Zck ?_;refine Z6 ?_;exact ⟨_,_,res2 rfl rfl rfl,(λ g w h=>pt_bos (b:=b29) ((pt_bos (b:=b24) (h.perm (show _=R*pt hd (cl [pz q,vn at_,vn n,l,pz b31] 232)*pt q (cl [pz r,pz lg,pz t11] 269)*pt lg (cl [pz r,vn la,vn lz] 267)*RDev r s*pt t11 (cl [pz q,.slice none 0 0,.bool false] 328)*pt b31 (cl [pz hd,pz t11,.slice (some ⟨b24,0,none⟩) n n,.slice (some ⟨b29,0,none⟩) n n,.bool false] 230)*pt b29 (cl (List.replicate n (.bool false)) 4)*pt b24 (cl (List.replicate n (.bool false)) 4) by ac_rfl))).perm (show _=R*pt hd (cl [pz q,vn at_,vn n,l,pz b31] 232)*pt q (cl [pz r,pz lg,pz t11] 269)*pt lg (cl [pz r,vn la,vn lz] 267)*RDev r s*pt t11 (cl [pz q,.slice none 0 0,.bool false] 328)*pt b31 (cl [pz hd,pz t11,.slice (some ⟨b24,0,none⟩) n n,.slice (some ⟨b29,0,none⟩) n n,.bool false] 230)*Sl 1 (.slice (some ⟨b24,0,none⟩) n n) n (bos (wasL n []))*pt b29 (cl (List.replicate n (.bool false)) 4) by ac_rfl))),t11,b24,b29,b31,rfl,rfl⟩
      . skip
        refine oh_x rfl rfl rfl (o_makeSlice (len:=n) (cap:=n) underlying228 sz4 by4 z4 rfl rfl rfl oqz oqz oqz) ?_;rintro _ _ ⟨b29,rfl,rfl⟩;refine Zco ?_;refine oh_x rfl rfl rfl (o_makeSlice (len:=n) (cap:=n) underlying228 sz4 by4 z4 rfl rfl rfl oqz oqz oqz) ?_;rintro _ _ ⟨b24,rfl,rfl⟩;refine Z4 ?_;refine Zdx ?_;rintro _ _ ⟨b31,rfl,rfl⟩;refine Z8 ?_;refine Zcg ?_;refine oh_u rfl rfl rfl (o_stU (l':=[pz q,vn at_,vn n,l,pz b31]) rfl upqz sz49 rfl rfl (by show 4<5;decide) rfl) drqz ?_;refine Zbv ?_;refine Zs ?_;refine Zck ?_;refine Z6 ?_;exact ⟨_,_,res2 rfl rfl rfl,(λ g w h=>pt_bos (b:=b29) ((pt_bos (b:=b24) (h.perm (show _=R*pt hd (cl [pz q,vn at_,vn n,l,pz b31] 232)*pt q (cl [pz r,pz lg,pz t11] 269)*pt lg (cl [pz r,vn la,vn lz] 267)*RDev r s*pt t11 (cl [pz q,.slice none 0 0,.bool false] 328)*pt b31 (cl [pz hd,pz t11,.slice (some ⟨b24,0,none⟩) n n,.slice (some ⟨b29,0,none⟩) n n,.bool false] 230)*pt b29 (cl (List.replicate n (.bool false)) 4)*pt b24 (cl (List.replicate n (.bool false)) 4) by ac_rfl))).perm (show _=R*pt hd (cl [pz q,vn at_,vn n,l,pz b31] 232)*pt q (cl [pz r,pz lg,pz t11] 269)*pt lg (cl [pz r,vn la,vn lz] 267)*RDev r s*pt t11 (cl [pz q,.slice none 0 0,.bool false] 328)*pt b31 (cl [pz hd,pz t11,.slice (some ⟨b24,0,none⟩) n n,.slice (some ⟨b29,0,none⟩) n n,.bool false] 230)*Sl 1 (.slice (some ⟨b24,0,none⟩) n n) n (bos (wasL n []))*pt b29 (cl (List.replicate n (.bool false)) 4) by ac_rfl))),t11,b24,b29,b31,rfl,rfl⟩
    . skip
      refine oh_x rfl rfl rfl (o_makeSlice (len:=n) (cap:=n) underlying228 sz4 by4 z4 rfl rfl rfl oqz oqz oqz) ?_;rintro _ _ ⟨b29,rfl,rfl⟩;refine Zh1 ?_;refine oh_v rfl rfl rfl (o_load p3 rfl hsqz rfl) ?_;refine th_one (i:=7) kqz ?_;refine oh_x rfl rfl rfl (o_makeSlice (len:=n) (cap:=n) underlying228 sz4 by4 z4 rfl rfl rfl oqz oqz oqz) ?_;rintro _ _ ⟨b24,rfl,rfl⟩;refine Z4 ?_;refine Zdx ?_;rintro _ _ ⟨b31,rfl,rfl⟩;refine Z8 ?_;refine Zcg ?_;refine oh_u rfl rfl rfl (o_stU (l':=[pz q,vn at_,vn n,l,pz b31]) rfl upqz sz49 rfl rfl (by show 4<5;decide) rfl) drqz ?_;refine Zbv ?_;refine Zs ?_;refine Zck ?_;refine Z6 ?_;exact ⟨_,_,res2 rfl rfl rfl,(λ g w h=>pt_bos (b:=b29) ((pt_bos (b:=b24) (h.perm (show _=R*pt hd (cl [pz q,vn at_,vn n,l,pz b31] 232)*pt q (cl [pz r,pz lg,pz t11] 269)*pt lg (cl [pz r,vn la,vn lz] 267)*RDev r s*pt t11 (cl [pz q,.slice none 0 0,.bool false] 328)*pt b31 (cl [pz hd,pz t11,.slice (some ⟨b24,0,none⟩) n n,.slice (some ⟨b29,0,none⟩) n n,.bool false] 230)*pt b29 (cl (List.replicate n (.bool false)) 4)*pt b24 (cl (List.replicate n (.bool false)) 4) by ac_rfl))).perm (show _=R*pt hd (cl [pz q,vn at_,vn n,l,pz b31] 232)*pt q (cl [pz r,pz lg,pz t11] 269)*pt lg (cl [pz r,vn la,vn lz] 267)*RDev r s*pt t11 (cl [pz q,.slice none 0 0,.bool false] 328)*pt b31 (cl [pz hd,pz t11,.slice (some ⟨b24,0,none⟩) n n,.slice (some ⟨b29,0,none⟩) n n,.bool false] 230)*Sl 1 (.slice (some ⟨b24,0,none⟩) n n) n (bos (wasL n []))*pt b29 (cl (List.replicate n (.bool false)) 4) by ac_rfl))),t11,b24,b29,b31,rfl,rfl⟩
end Go.Vl

namespace Go.Vl
open Go Go.Proofs Go.Proofs.Tryz
theorem RsRows.left {A Z:SP}{a:Option Addr}{fs:List (List Nat)}(h:RsRows A a fs):RsRows (A*Z) a fs:=by
  obtain ⟨vs,h1,h2,h3⟩:=h;exact ⟨vs,h1,h2.left,λ i hi=>by obtain ⟨b,c,e1,e2,e3,e4⟩:=h3 i hi;exact ⟨b,c,e1,e2,e3,e4.left⟩⟩
def pvO (o:Option Nat):Value:= .pointer (o.map λ b=>(⟨b,0,none⟩:Addr))
def gcs (d h w r g k:Option Nat)(n:Nat):List Value:=[pvO d,pvO h,pvO w,pvO r,pvO g,pvO k,vn n]
def s14 (n:Nat)(I:List Nat):DevS:=fromS (258+4*n) I
def T014 (zs:List Nat):WkT:=⟨onL zs,g0,g0,tf0⟩
def Y014 (M:MS):WkY:=⟨M,⟨[],0⟩,⟨[],0⟩,⟨[],0⟩,0⟩
attribute [local irreducible] crk crL crc Sl pt ro Dev imgS recS readS recsF rdW rdO rkT Parts rvl recordsS runsL adrF kcl xcl kys runA runsF layF ovF TxA adZ WkA SlB blkS conB imF RDev s14
end Go.Vl

namespace Go.Vl
open Go Go.Proofs Go.Proofs.Tryz
def s0 (n:Nat):DevS:=s14 n (List.replicate (16512+256*n) 0)
def awS:ByteArray:=sob (List.replicate 250 0)++⟨#[101,110,100]⟩
attribute [local irreducible] crk crL crc Sl pt ro Dev imgS recS readS recsF rdW rdO rkT Parts rvl recordsS runsL adrF kcl xcl kys runA runsF layF ovF TxA adZ WkA SlB blkS conB imF RDev s14 s0 wasL putS whS takeL
end Go.Vl

namespace Go.Vl
open Go Go.Proofs Go.Proofs.Tryz
def PRowsB (A:SP)(cs:List Value)(fs:List (List Nat)):Prop:=∃a cap,cs=[.slice a fs.length cap]/\ fs.length<=140737488351232/\ RsRows A a fs/\∀f∈fs,∀x∈f,x<256
theorem rdb_rowsB (W:World):Rdb Tryz.prog W 35 (PRowsB (old W)):=
  (rdb_slice (k:=1) (b:=24) underlying35 kqz kqz (by decide) (rdb_bys (W:=W) underlying67 underlying5 kqz kqz)).mono λ cs xs ⟨a,cap,Cs,e1,hc,hs,hl,hx,hr⟩=>by
    have hk:∀c∈Cs,c.length=1:=λ c h=>by
      obtain ⟨i,hi,rfl⟩:=List.mem_iff_getElem.1 h;exact (hx i oqz hi).1
    refine ⟨xs,a,cap,e1,by unfold reachBytes at hs;omega,⟨Cs.flatten,by rw [flat_length hk];omega,hr,λ i hi=> ?_⟩,λ f hf x hxf=> ?_⟩
    . obtain ⟨_,a2,c2,h1,h2,h3,h4,h5⟩:=hx i hi oqz;have:=flat_at hk (i:=i) (j:=0) (by decide) oqz;rw [Nat.mul_one,Nat.add_zero,h1] at this
      exact ⟨a2,c2,this,h2,h3,h4⟩
    obtain ⟨i,hi,rfl⟩:=List.mem_iff_getElem.1 hf;obtain ⟨_,a2,c2,h1,h2,h3,h4,h5⟩:=hx i hi oqz;exact h5 x hxf
structure Bs14 where
  bl:Int
  ls:List Int
  fs:List (List Nat)
def PBase (A:SP)(cs:List Value)(t:Bs14):Prop:=∃v1 v2,cs=[.int .i64 t.bl,v1,v2]/\ (-9223372036854775808<=t.bl/\ t.bl<=9223372036854775807)/\ PInts A [v1] t.ls/\ PRowsB A [v2] t.fs
def BadW (A:SP)(v:Value)(e:Int):Prop:=(v= .pointer none/\ e=1)∨(∃w,v=(pz w)/\ Has A w (cl [.pointer none,.pointer none,.map none,.map none,.int .i64 0,.bool false] 126)/\ e=1)∨∃w h t tk gv ls,v=(pz w)/\ Has A w (cl (wcs h t tk gv ls true) 126)/\ e=3
theorem BadW.left {A X:SP}{v:Value}{e:Int}(h:BadW A v e):BadW (A*X) v e:=by
  rcases h with h|⟨w,h1,h2,h3⟩|⟨w,a,b,c,d,f,h1,h2,h3⟩
  . exact .inl h
  . exact .inr (.inl ⟨w,h1,has_left h2,h3⟩)
  exact .inr (.inr ⟨w,a,b,c,d,f,h1,has_left h2,h3⟩)
theorem BadW.ne {A:SP}{v:Value}{e:Int}(h:BadW A v e):e≠0:=by
  rcases h with ⟨_,h⟩|⟨w,h1,h2,h⟩|⟨w,a,b,c,d,f,h1,h2,h⟩<;>omega
attribute [local irreducible] crk crL crc Sl pt ro Dev imgS recS readS recsF rdW rdO rkT Parts rvl recordsS runsL adrF kcl xcl kys runA runsF layF ovF TxA adZ WkA SlB blkS conB imF RDev s14 s0 wasL putS whS takeL
namespace Rg
end Rg
theorem end13_c {A R:SP}{w hd p ba n lv t tk gv ls:Nat}(hA:A=R*pt hd (cl (hcs p ba n lv (some w)) 210)*pt w (cl (wcs hd t tk gv ls false) 126)):
    Fn Tryz.prog 133 #[pz w] A (λ r B=>r= .tuple #[]/\ B=R*pt hd (cl (hcs p ba n lv none) 210)*pt w (cl (wcs hd t tk gv ls true) 126)):=by
  refine fn_enterW func133 rfl ntmps133 (by simp) ?_;subst hA;obtain ⟨jb,hj1,hj2,_,_⟩:=info_of sz126 by126 z126;refine Zs ?_;refine tv (o_fieldAddr (o:=5) underlying126 rfl rfl sz4 rfl) ?_;refine tl_u rfl (o_stU (l':=wcs hd t tk gv ls true) rfl upqz sz4 rfl rfl (by show 5<6;decide) rfl) ?_;refine nq ?_;refine Zs ?_;refine Zbl ?_;refine Zed ?_;refine tv (o_load p46 rfl hsqz rfl) ?_;refine tlm ?_;refine tv (o_eqpS underlying46 hj1 kqz rfl rfl) ?_;refine nq ?_;refine tc_cond rfl (sbq ?_) dbq;intro h;refine Zhw ?_;refine Zbl ?_;refine Zed ?_;refine tl_u rfl (o_stU (l':=hcs p ba n lv none) rfl upqz sz46 rfl rfl (by show 4<5;decide) rfl) ?_;refine tl_nil ?_;exact ⟨_,_,res0 rfl,λ _ _ h=>h,rfl,rfl⟩
end Go.Vl

namespace Go.Vl
open Go Go.Proofs Go.Proofs.Tryz
def RsA (h p lg d at_ sz ba n lv:Nat)(M:MS)(s:DevS):SP:=pt h (cl (hcs p ba n lv none) 210)*pt lv (mpo .i64 M)*pt p (cl (pocs lg d none) 263)*pt lg (cl (lcs11 d at_ sz) 258)*Dev d s
theorem com_b {at_ sz n:Nat}{f:TF}{s s2:DevS}{b:Bool}(h:comS at_ sz n f s=((0,b),s2)):b=true:=by
  unfold comS at h
  split at h
  . exact (Prod.mk.inj (Prod.mk.inj h).1).2.symm
  split at h
  . split at h
    . exact (Prod.mk.inj (Prod.mk.inj h).1).2.symm
    exact (Prod.mk.inj (Prod.mk.inj h).1).2.symm
  split at h
  . rename_i h1
    exact absurd (Prod.mk.inj (Prod.mk.inj h).1).1 h1
  split at h
  . exact (Prod.mk.inj (Prod.mk.inj h).1).2.symm
  split at h
  . exact (Prod.mk.inj (Prod.mk.inj h).1).2.symm
  exact (Prod.mk.inj (Prod.mk.inj h).1).2.symm
theorem com_b5 {at_ sz n:Nat}{f:TF}{s s2:DevS}{b:Bool}(h:comS at_ sz n f s=((5,b),s2)):b=true:=by
  unfold comS at h
  split at h
  . exact (Prod.mk.inj (Prod.mk.inj h).1).2.symm
  split at h
  . split at h
    . exact (Prod.mk.inj (Prod.mk.inj h).1).2.symm
    exact (Prod.mk.inj (Prod.mk.inj h).1).2.symm
  split at h
  . have h2:=(Prod.mk.inj h).1;have h3:=(Prod.mk.inj h2).1;have h4:=(Prod.mk.inj h2).2;rw [h3] at h4
    rw [←h4];decide
  split at h
  . exact (Prod.mk.inj (Prod.mk.inj h).1).2.symm
  split at h
  . exact (Prod.mk.inj (Prod.mk.inj h).1).2.symm
  exact (Prod.mk.inj (Prod.mk.inj h).1).2.symm
theorem DropT13_c {A R:SP}{C:SP->SP}{t p lg d mb at_ sz:Nat}{M:MS}{s:DevS}{b:Bool}(hc:Ct A (TxA t p lg d mb at_ sz M b s) R C):Fn Tryz.prog 132 #[pz t] A (λ v B=>∃M2 e,v= .int .i64 e/\ B=C (TxA t p lg d mb at_ sz M2 true s)):=by
  cases b with
  |false=>exact (DropT_c (hc:=hc)).mono λ v B ⟨h1,h2⟩=>⟨_,_,h1,h2⟩
  |true=>exact (DropO_c (p:=p) (mb:=mb) (txa_t hc)).mono λ v B ⟨h1,h2⟩=>⟨M,_,h1,by rw [←h2,hc.2];exact hc.1⟩
def rootV (T:WkT)(s:DevS):Nat:=nm (ovF T.f 64 (((imgS s).drop 64).take 8))
attribute [local irreducible] crk crL crc Sl pt ro Dev imgS recS readS recsF rdW rdO rkT Parts rvl recordsS runsL adrF kcl xcl kys runA runsF layF ovF TxA adZ WkA comS
theorem Commit13_c {A R:SP}{C:SP->SP}{X:WkX}{Y:WkY}{T:WkT}{s:DevS}(hc:Ct A (WkA X Y s) R C:=by exact cbqz)(hok:WkOk X Y T (s.ls.length*64))(hb:WkB X s)(ho:s.off=false:=by assumption)(hlw:LogW (s.ls.length*64) X.at_ X.sz:=by assumption)(hroom:Room (2*(s.ls.length*64)+X.sz+8) s:=by assumption):
    Fn Tryz.prog 39 #[.pointer (some ⟨X.w,0,none⟩)] A (λ r B=>∃e b s2 lv2 M2,comS X.at_ X.sz (s.ls.length*64) T.f s=((e,b),s2)/\ r= .int .i64 e/\ SF M2 X.n (if e=0 then usedB T else T.lv)/\ B=R*RsA X.h X.p X.lg X.d X.at_ X.sz X.ba X.n lv2 M2 s2*pt X.w (cl (wcs X.h X.t X.tk X.gv Y.ls true) 126)):=by
  refine fn_enterW func39 rfl ntmps39 (by simp) ?_;obtain ⟨hb1,hb2,hb3⟩:=id hb;have hle:=hok.le;obtain ⟨rfl,hC⟩:=hc;refine tc_eq (show _=R*pt X.h (cl (hcs X.p X.ba X.n X.lv (some X.w)) 210)*pt X.w (cl (wcs X.h X.t X.tk X.gv Y.ls false) 126)*pt X.lv (mpo .i64 Y.Ml)*pt X.tk (mpo .i64 Y.Mt)*pt X.gv (mpo .i64 Y.Mg)*TxA X.t X.p X.lg X.d X.mb X.at_ X.sz Y.M false s by unfold WkA;ac_rfl) ?_;refine Zcb ?_;refine tl_c rfl (o_call bd128 rfl (begin13_c (s:=s) (X:=X) (Y:=Y) (T:=T) (R:=R) (C:=λ Z=>R*Z) (hc:=⟨by unfold WkA;ac_rfl,λ _=>rfl⟩) (hok:=hok) (hb:=hb))) ?_;refine Zij ?_;intro h;refine Zew ?_;refine Zd0 ?_;refine tl_c rfl (o_call bd129 rfl (Commit12_c (s:=s) (n:=s.ls.length*64) (f:=T.f) (M:=Y.M) (hM:=hok.m) (hn:=rfl) (hlw:=hlw) (ho:=ho) (hroom:=hroom))) ?_;rintro _ _ ⟨e16,b16,s16,M16,hs16,rfl,hM16,rfl⟩;refine Zy ?_;refine Zhq ?_;refine sr ?_;refine tv (o_eqi rfl rfl) ?_;refine Za ?_;refine tc_cut (λ ρ BB=>∃ (e_:Int) (b_:Bool) (lv2:Nat) (M2:MS) (M3:MS) (s_:DevS),(comS X.at_ X.sz (s.ls.length*64) T.f s=((e_,b_),s_))/\ (SF M2 X.n (if e_=0 then usedB T else T.lv))/\ ρ 4= .int .i64 e_/\ ρ 0= .pointer (some ⟨X.w,0,none⟩)/\ Dr BB (R*pt X.h (cl (hcs X.p X.ba X.n lv2 (some X.w)) 210)*pt X.w (cl (wcs X.h X.t X.tk X.gv Y.ls false) 126)*pt lv2 (mpo .i64 M2)*TxA X.t X.p X.lg X.d X.mb X.at_ X.sz M3 true s_)) ?_ ?_
  . skip
    refine tc_cond rfl (λ h=> ?_) (λ h=> ?_)
    . obtain rfl:e16=0:=by first|exact of_decide_eq_true h|simpa using h
      obtain rfl:=com_b hs16;refine Zs ?_;refine Zbl ?_;refine Zec ?_;refine tv (o_load p124 rfl hsqz rfl) ?_;refine tl_c rfl (o_call bd130 rfl (Clone13_c (M:=Y.Ml))) ?_;rintro _ _ ⟨r32,rfl,rfl⟩;refine Zy ?_;refine tv (o_nilCheck rfl) ?_;refine Zil ?_;refine tl_x rfl (o_range (ik:= .i64) (M:=Y.Mg) underlying124 rfl hsqz) ?_;rintro _ _ ⟨r37,rfl,rfl⟩;refine Zhq ?_;refine tc_loop (λ kk ρ BB=>∃ (vis:List ME) (M3:MS),(Vis Y.Mg vis)/\ (SF M3 X.n (λ c=>T.lv c&& !decide ((c:Int)∈vis.map ME.k)))/\ kk=Y.Mg.D.length-vis.length/\ ρ 0= .pointer (some ⟨X.w,0,none⟩)/\ ρ 4= .int .i64 0/\ ρ 5= .map (some r32)/\ ρ 37=(pz r37)/\ Dr BB (R*pt X.h (cl (hcs X.p X.ba X.n X.lv (some X.w)) 210)*pt X.w (cl (wcs X.h X.t X.tk X.gv Y.ls false) 126)*pt X.lv (mpo .i64 Y.Ml)*pt X.tk (mpo .i64 Y.Mt)*pt X.gv (mpo .i64 Y.Mg)*TxA X.t X.p X.lg X.d X.mb X.at_ X.sz M16 true s16*pt r32 (mpo .i64 M3)*pt r37 (mit X.gv Y.Mg.c (vis.map ME.b) Y.Mg.c))) (m:=Y.Mg.D.length-(([]:List ME)).length) ?_ ?_
      . exact ⟨([]:List ME),Y.Ml,vis_nil Y.Mg,sf_congr hok.l (λ a=>by simp),rfl,rfl,rfl,rfl,rfl,drqz⟩
      intro k ρ B hI;obtain ⟨vis,M3,hp0,hp1,hkk1,hE0,hE4,hE5,hE37,hBA⟩:=hI;refine tc_pre hBA.sat ?_;clear hBA;refine te 0 hE0 ?_;refine te 4 hE4 ?_;refine te 5 hE5 ?_;refine te 37 hE37 ?_;refine sr ?_;refine tl_x rfl (o_next (ik:= .i64) (M:=Y.Mg) (b:=X.gv) (seen:=vis.map ME.b) hok.g.wf rfl ctqz hsqz) ?_;rintro _ _ ⟨o38,hnx,rfl,rfl⟩;refine tv (o_exNx rfl) ?_;refine Zf2 ?_;refine tc_cond rfl (λ h=> ?_) (λ h=> ?_)
      . obtain ⟨e,rfl⟩:∃e,o38=some e:=Option.isSome_iff_exists.1 (by simpa using h);have hvs2:=vis_snoc hp0 hnx;have hvl:=vis_len hvs2;have hvl2:(vis++[e]).length=vis.length+1:=(by rw [List.length_append,List.length_singleton]);have hem:=(hnx.yes e rfl).1;obtain ⟨a,ha,hk,hg,hv⟩:=sf_mem hok.g hem;have hsf:=vis_no (g:=T.lv) (vis:=vis) hk▸sf_del (p:=a) hp1
        refine tc_eq (show _=R*pt X.h (cl (hcs X.p X.ba X.n X.lv (some X.w)) 210)*pt X.w (cl (wcs X.h X.t X.tk X.gv Y.ls false) 126)*pt X.lv (mpo .i64 Y.Ml)*pt X.tk (mpo .i64 Y.Mt)*pt X.gv (mpo .i64 Y.Mg)*TxA X.t X.p X.lg X.d X.mb X.at_ X.sz M16 true s16*pt r32 (mpo .i64 M3)*pt r37 (mit X.gv Y.Mg.c (vis.map ME.b++[e.b]) Y.Mg.c) from rfl) ?_;refine Zf4 ?_;refine sr ?_;refine tv (o_entry (ik:= .i64) (M:=Y.Mg) (b:=X.gv) (seen:=vis.map ME.b) hok.g.wf hem rfl (by repeat (first|with_reducible exact has_here|apply has_left)) hsqz) ?_;refine tl_env (d:=40) (v:= .tuple #[vn a,.bool true]) (by show Value.tuple #[.int .i64 e.k,e.v]=_;rw [hk,hv]) ?_;refine tv (o_extract rfl rfl) ?_;refine Zfx ?_;refine tl_x rfl (o_delete (ik:= .i64) (M:=M3) underlying124 underlying3 rfl rfl upqz rfl) ?_;rintro _ _ ⟨rfl,rfl⟩;refine tl_nil ?_;refine q_block_n (q_then_n ?_);exact ⟨_,by omega,vis++[e],_,hvs2,hsf,rfl,rfl,rfl,rfl,rfl,by rw [show (vis++[e]).map ME.b=vis.map ME.b++[e.b] by rw [List.map_append];rfl];repeat (first|with_reducible exact dr_refl|apply dr_keep|apply dr_drop)⟩
      obtain rfl:o38=none:=by cases o38<;>simp at h ⊢
      have hvp:=vis_perm hok.g.wf hp0 hnx;have hsf:SF M3 X.n (λ a=>T.lv a&& !T.gv a):=sf_congr hp1 λ a=>by rw [sf_vis hok.g hvp]
      refine Zcs ?_;refine Zba ?_;refine Zb8 ?_;refine tl_c rfl (o_call bd131 rfl (Copy13_c (b1:=r32) (b2:=X.tk) (M1:=M3) (M2:=Y.Mt) (h1:=hsf) (h2:=hok.t))) ?_;rintro _ _ ⟨M49,rfl,hM49,rfl⟩
      have hu49:SF M49 X.n (if (0:Int)=0 then usedB T else T.lv):=by
        rw [if_pos rfl]
        refine sf_congr hM49 λ a=> ?_
        unfold usedB;cases T.tk a<;>cases T.lv a<;>cases T.gv a<;>rfl
      refine nq ?_;refine tc_pre (A':=R*pt X.h (cl (hcs X.p X.ba X.n X.lv (some X.w)) 210)*pt X.w (cl (wcs X.h X.t X.tk X.gv Y.ls false) 126)*pt r32 (mpo .i64 M49)*TxA X.t X.p X.lg X.d X.mb X.at_ X.sz M16 true s16) (λ g w h=>(Dr.sat (A':=R*pt X.h (cl (hcs X.p X.ba X.n X.lv (some X.w)) 210)*pt X.w (cl (wcs X.h X.t X.tk X.gv Y.ls false) 126)*TxA X.t X.p X.lg X.d X.mb X.at_ X.sz M16 true s16*pt r32 (mpo .i64 M49)) drqz g w h).perm (by ac_rfl)) ?_;refine Zhw ?_;refine Zbl ?_;refine Zba ?_;refine tv (o_fieldAddr (o:=3) underlying210 rfl rfl sz124 rfl) ?_;refine tl_u rfl (o_stU (l':=hcs X.p X.ba X.n r32 (some X.w)) rfl upqz sz124 rfl rfl (by show 3<5;decide) rfl) ?_;refine tl_nil ?_;exact ⟨_,_,r32,M49,M16,_,hs16,hu49,rfl,rfl,drqz⟩
    have he16:e16≠0:=(by first|exact of_decide_eq_false h|simpa using h);have hu49:SF Y.Ml X.n (if e16=0 then usedB T else T.lv):=(by rw [if_neg he16];exact hok.l);refine sr ?_;refine tv (o_eqi rfl rfl) ?_;refine Za ?_;refine tc_cond rfl (λ h=> ?_) (sbq ?_)
    . obtain rfl:e16=5:=by first|exact of_decide_eq_true h|simpa using h
      obtain rfl:=com_b5 hs16;refine tc_skip ?_;exact ⟨_,_,X.lv,Y.Ml,M16,_,hs16,hu49,rfl,rfl,drqz⟩
    intro h;refine Zhw ?_;refine Zd0 ?_;refine tl_c rfl (o_call bd132 rfl (DropT13_c (t:=X.t) (p:=X.p) (lg:=X.lg) (d:=X.d) (mb:=X.mb) (at_:=X.at_) (sz:=X.sz) (M:=M16) (b:=b16) (s:=s16) (hc:=by exact cbqz))) ?_;rintro _ _ ⟨M22,e22,rfl,rfl⟩;refine tl_nil ?_;exact ⟨_,_,X.lv,Y.Ml,M22,_,hs16,hu49,rfl,rfl,drqz⟩
  intro ρ B hI;obtain ⟨e_,b_,lv2,M2,M3,s_,hj0,hj1,hE4,hE0,hBA⟩:=hI;refine q_block_n (q_then_n ?_);refine tc_pre hBA.sat ?_;clear hBA;refine te 4 hE4 ?_;refine te 0 hE0 ?_;refine Zb ?_;refine tl_c rfl (o_call bd133 rfl (end13_c (R:=R*pt lv2 (mpo .i64 M2)*TxA X.t X.p X.lg X.d X.mb X.at_ X.sz M3 true s_) (w:=X.w) (hd:=X.h) (p:=X.p) (ba:=X.ba) (n:=X.n) (lv:=lv2) (t:=X.t) (tk:=X.tk) (gv:=X.gv) (ls:=Y.ls) (hA:=by ac_rfl))) ?_;refine Zgn ?_;refine Zff ?_;exact ⟨.int .i64 e_,R*RsA X.h X.p X.lg X.d X.at_ X.sz X.ba X.n lv2 M2 s_*pt X.w (cl (wcs X.h X.t X.tk X.gv Y.ls true) 126),res1 rfl rfl,(λ g w h=>(Dr.sat (A':=R*pt X.h (cl (hcs X.p X.ba X.n lv2 none) 210)*pt X.w (cl (wcs X.h X.t X.tk X.gv Y.ls true) 126)*pt lv2 (mpo .i64 M2)*pt X.p (cl (pocs X.lg X.d none) 263)*pt X.lg (cl (lcs11 X.d X.at_ X.sz) 258)*Dev X.d s_) ⟨pt X.t (cl (txcs X.p X.mb true) 298)*pt X.mb (mpo .i64 M3),by unfold TxA;rw [if_pos rfl];ac_rfl⟩ g w h).perm (by unfold RsA;ac_rfl)),e_,b_,s_,lv2,M2,hj0,rfl,hj1,rfl⟩
end Go.Vl

namespace Go.Vl
open Go Go.Proofs Go.Proofs.Tryz
def WkT.root (T:WkT)(v:Nat):WkT:={ T with f:=layF 64 (le 8 v) false T.f }
def nwE (N:Nat)(ba n:Int):Int:=if ba%64≠0∨ba<128∨n<0∨(N:Int)<ba∨((N:Int)-ba)/256<n then 2 else 0
attribute [local irreducible] crk crL crc Sl pt ro Dev imgS recS readS recsF rdW rdO rkT Parts rvl recordsS runsL adrF kcl xcl kys runA runsF layF ovF TxA adZ WkA comS
end Go.Vl

namespace Go.Vl
open Go Go.Proofs Go.Proofs.Tryz
def su5 (lg n fi:Int)(lv ar:Value):List Value:=[.int .i64 lg,.int .i64 n,.int .u8 fi,lv,ar]
def fitB (lg n:Int):Bool:=decide (128<=lg/\ lg<=32768/\ lg%64=0/\ 0<=n/\ n<=64)
def imZ (h n fi k:Nat):List Nat:=(List.range (h+256*n)).map λ j=>if j<h∨k<=j then 0 else (fi+j%251)%256
def im13 (h n fi:Nat):List Nat:=imZ h n fi (h+256*n)
theorem cut0 {a:Option Addr}{c:Nat}:cutAddr a c 0 1=a:=by unfold cutAddr;cases a<;>simp [Addr.add]
def stI (xs:List Nat):List Nat:=spl (sizedL 1024 xs) 128 (List.replicate 8 0)
def stZ (xs:List Nat)(k:Nat):List Nat:=spl (sizedL 1024 xs) 128 (List.replicate k 0)
def stD (xs:List Nat):DevS:=fromS 16 (stI xs)
def plA (at_:Int):Nat:=if at_%384<64 then (at_%384).toNat+64 else (at_%384).toNat+640
def plN (at_:Int)(m:Nat):Nat:=min (min m 12) ((if at_%384<64 then 128 else 1024)-plA at_)
structure Pu12 where
  q:Int
  a:Option Addr
  c:Nat
  b:List Nat
  fr:Bool
def Pu12.cells (x:Pu12):List Value:=[.int .i64 x.q,.slice x.a x.b.length x.c,.bool x.fr]
structure PuW (A:SP) (x:Pu12):Prop where
  q: -9223372036854775808<=x.q/\ x.q<=9223372036854775807
  cap:x.b.length<=x.c
  rs:Rs A x.a (bys x.b)
  by_:∀y∈x.b,y<256
theorem PuW.left {A X:SP}{x:Pu12}(h:PuW A x):PuW (A*X) x:=⟨h.q,h.cap,h.rs.left,h.by_⟩
def ptl (l:List Pu12):List Value:=l.flatMap Pu12.cells
def lay12 (f:TF)(x:Pu12):TF:=layF (plA x.q) (x.b.take (plN x.q x.b.length)) x.fr f
def laysK (l:List Pu12)(i:Nat):TF:=(l.take i).foldl lay12 tf0
def kdF (f:TF)(a:Nat):Int:=match f a with|none=>0|some (_,b)=>if b then 2 else 1
def bkK (f:TF):List Int:=(List.range 1024).map (kdF f)
def bkB (f:TF):List Nat:=(List.range 1024).map (byF f)
def bkc (f:TF):List Value:=ints (bkK f)++bys (bkB f)
def put1 (f:TF)(p x:Nat)(b:Bool):TF:=λ c=>if c=p then some (x,b) else f c
end Go.Vl

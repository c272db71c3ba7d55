/- What the row rests on, part 4: a calculus of assertions, walks of functions over it, and plain laws. Conditions: none. -/
import Derived.Deep.QuietTactic
import Derived.BigQuiet
import Derived.WalkKit
import Derived.Test.YtpjjmbmmfelooaaGreatProg
import Derived.OrdersHeld
import Derived.Shelf.SortM.SortNone
import Derived.Shelf.SortM.Plain
import Derived.Ground.SlgmProg
import Derived.Shelf.SlIterI.Nil
import Derived.Ground.GgzProg
import Derived.Maps.RangeRun
import Derived.Laws.BytesArg
import Derived.RangeFuncRecord
import Derived.TacticsIn
import Derived.Deep.Slices
import Derived.OpenShut
import Derived.ChangeArms
import Derived.SizedLaws
import Derived.ChangeSame
import Derived.Test.YtpjjmbmmfelooaaGreatRows
import Derived.Sort.QuietThIn
import Derived.ScopeJumps
import Derived.LaidEqlPtr
import Derived.Lib.Builder
import Derived.Lib.UnsafeStr
import Derived.Laws.Strings
import Derived.Test.YtpjjmbmmfelooaaGreatMg3
set_option linter.unusedVariables false
set_option linter.unusedSimpArgs false
set_option maxRecDepth 100000
set_option maxHeartbeats 4000000
namespace Go.Vl
open Go Go.Proofs Go.Proofs.Tryz
theorem sq4z {p:Prop}(h:p:=by repeat (first|with_reducible exact rs_sl|assumption|apply Rs.left)):p:=h
def xcl (l:List (Int×Int)):List Value:=l.flatMap xcs
theorem xcl_len (l:List (Int×Int)):(xcl l).length=l.length*2:=fm_length (f:=xcs) λ _ _=>rfl
theorem xcl_at {l:List (Int×Int)}{j:Nat}(h:j<l.length):((xcl l).drop (j*2)).take 2=xcs l[j]:=fm_at (f:=xcs) (λ _ _=>rfl) h
theorem lensX_succ {l:List (Int×Int)}{i:Nat}(h:i<l.length):lensX (l.take (i+1))=lensX (l.take i)++[l[i].2]:=by
  rw [List.take_succ_eq_append_getElem h];unfold lensX;rw [List.map_append];rfl
theorem lensX_len (l:List (Int×Int)):(lensX l).length=l.length:=by unfold lensX;rw [List.length_map]
theorem may_nat {n at_ sz:Nat}{x:Int×Int}(h:mayX n at_ sz x=true):∃p m:Nat,x=((p:Int),(m:Int))/\ 64<=p/\ 1<=m/\ p+m<=n/\ (p+m<=at_∨at_+sz<=p):=by
  have h1:=of_decide_eq_true h;obtain ⟨p,hp⟩:=Int.eq_ofNat_of_zero_le (show 0<=x.1 by omega);obtain ⟨m,hm⟩:=Int.eq_ofNat_of_zero_le (show 0<=x.2 by omega);exact ⟨p,m,by cases x;simp only at hp hm;rw [hp,hm],by omega,by omega,by omega,by omega⟩
theorem word_in {p:Nat}{s:DevS}(ho:s.off=false)(hp:p%8=0)(hi:p+8<=s.ls.length*64):wordP (p:Nat) s=(nm (((imgS s).drop p).take 8),0):=by
  unfold wordP loadP
  rw [if_neg (by rw [ho];decide),if_neg oqz,ho,if_neg (by rw [rdy_ok oqz oqz oqz];decide),Int.toNat_natCast]
theorem nm8_lt {l:List Nat}(h:∀x∈l,x<256):nm (l.take 8)<18446744073709551616:=by
  have h1:=nm_lt (l.take 8) λ x hx=>h x (List.mem_of_mem_take hx)
  exact Nat.lt_of_lt_of_le h1 (by calc 256^(l.take 8).length<=256^8:=Nat.pow_le_pow_right (by decide) (List.length_take_le _ _)
    _=18446744073709551616:=by decide)
theorem putF_e {q p m:Nat}{l:List (Int×Int)}{s s2:DevS}{e:Int}(h:sto (q:Nat) (recS p (((imgS s).drop p).take m)) s=(e,s2))(he:e≠0):putF q (((p:Int),(m:Int))::l) s=(e,s2):=by
  show (if (sto (q:Nat) (recS p (((imgS s).drop p).take m)) s).1≠0 then sto (q:Nat) (recS p (((imgS s).drop p).take m)) s else _)=_
  rw [h,if_pos he]
theorem putF_o {q p m:Nat}{l:List (Int×Int)}{s s2:DevS}(h:sto (q:Nat) (recS p (((imgS s).drop p).take m)) s=(0,s2)):putF q (((p:Int),(m:Int))::l) s=putF (q+(24+up8 m)) l s2:=by
  show (if (sto (q:Nat) (recS p (((imgS s).drop p).take m)) s).1≠0 then _ else putF (q+(24+up8 m)) l (sto (q:Nat) (recS p (((imgS s).drop p).take m)) s).2)=_
  rw [h,if_neg (by simp)]
theorem needN_ge:∀ (l:List (Int×Int)),l.length<=needN l
  |[]=>Nat.zero_le _
  |x::l=>by have:=needN_ge l;rw [needN_cons,List.length_cons];omega
theorem all_drop {α:Type}{p:α->Bool}{l:List α}(h:l.all p=true){i:Nat}(hi:i<l.length):p l[i]=true:=List.all_eq_true.1 h _ (List.getElem_mem hi)
theorem all_take {α:Type}{p:α->Bool}{l:List α}{i:Nat}(hi:i<l.length)(h:(l.take i).all p=true)(hp:p l[i]=true):(l.take (i+1)).all p=true:=by
  rw [List.take_succ_eq_append_getElem hi,List.all_append,h];simp [hp]
theorem all_not {α:Type}{p:α->Bool}{l:List α}{i:Nat}(hi:i<l.length)(hp:p l[i]=false):l.all p=false:=by
  rw [List.all_eq_false];exact ⟨_,List.getElem_mem hi,by rw [hp];decide⟩
attribute [local irreducible] crk crL crc Sl pt ro Dev imgS recS
theorem Zk4 {p r:Prop}(k:r)(h:Kq r->p:=by intro k;refine ql_v rfl (o_fieldAddr (o:=0) underlying99 rfl rfl sz47 rfl) ?_;refine ql_v rfl (o_load p47 rfl haqz rfl) ?_;exact k.o):p:=h ⟨k⟩
theorem Zk8 {p r:Prop}(k:r)(h:Kq r->p:=by intro k;refine Zkq ?_;refine tv (o_extract rfl rfl) ?_;exact k.o):p:=h ⟨k⟩
theorem Zhy {p r:Prop}(k:r)(h:Kq r->p:=by intro k;refine tm 6 rfl kqz rfl (o_fieldAddr (o:=1) underlying162 rfl rfl sz3 rfl) ?_;refine tm 7 rfl kqz rfl (by first|exact o_load p3 rfl hsqz rfl|exact o_loadC p3 rfl (by assumption)) ?_;exact k.o):p:=h ⟨k⟩
theorem Zdb {p r:Prop}(k:r)(h:Kq r->p:=by intro k;refine ⟨by repeat (first|with_reducible exact dr_refl|apply dr_keep|apply dr_drop), ?_⟩;refine tm 9 rfl kqz rfl (o_move wqz) ?_;exact k.o):p:=h ⟨k⟩
theorem Zlk {p r:Prop}(k:r)(h:Kq r->p:=by intro k;refine Zcs ?_;refine tm 12 rfl kqz rfl (o_assign wqz) ?_;refine tm 13 rfl kqz rfl (o_assign wqz) ?_;exact k.o):p:=h ⟨k⟩
theorem Zlq {p r:Prop}(k:r)(h:Kq r->p:=by intro k;refine ⟨by repeat (first|with_reducible exact dr_refl|apply dr_keep|apply dr_drop), ?_⟩;refine Zfs ?_;exact k.o):p:=h ⟨k⟩
theorem Write_c {A R:SP}{C:SP->SP}{d:Nat}{s:DevS}(hc:Ct A (Dev d s) R C:=by exact cbqz){bl at_ sz:Nat}(hl:Has R bl (cl (lcs11 d at_ sz) 99):=by exact hbqz)(hlw:LogW (s.ls.length*64) at_ sz:=by assumption){a:Option Addr}{c m:Nat}{xs:List (Int×Int)}(hr:Rs R a (xcl xs):=by exact rbqz)(hm:xs.length=m:=by first|assumption|rfl)(hX:∀x∈xs,XW x:=by assumption)(hml:m<=17592186044416:=by omega)(hroom:Room (sz+1) s:=by assumption):
    Fn Tryz.prog 99 #[pz bl,.slice a m c] A (λ r B=>∃e s2,writeS at_ sz xs s=(e,s2)/\ r= .int .i64 e/\ B=C (Dev d s2)):=by
  refine fn_enterW func99 rfl ntmps99 (by simp) ?_;refine tc_have (λ _ _ h=>ct_wf2 hc h) λ hw=> ?_
  have htop:=hw.top;have hpos:=hw.pos;obtain ⟨rfl,hC⟩:=hc;have hAC:∀g w,sat g w (R*Dev d s)->sat g w (C (Dev d s)):=λ g w h=>by rw [hC];exact h
  have hlw9:=hlw;obtain ⟨w1,w2,w3,w4,w5⟩:=hlw9;refine Zcl ?_;refine tl_c rfl (o_call bd162 rfl (ready11_c (s:=s) (hl:=hl))) ?_;refine Zgd ?_;refine tc_cond rfl (sbq ?_) (λ h=> ?_)
  . intro h;refine Zge ?_;have ho:=stE_off h;exact ⟨.int .i64 (stE s),C (Dev d s),res1 rfl rfl,λ _ _ h=>by rw [hC];exact (Dr.sat (A':=R*Dev d s) drqz) _ _ h,stE s,s,by unfold writeS stE;rw [if_pos ho,if_pos ho],rfl,rfl⟩
  have ho:s.off=false:=stE_on (by simpa using h);have hw2:=word_in (p:=at_) ho oqz oqz;obtain ⟨v,hv⟩:∃v,(wordP (at_:Nat) s).1=v:=⟨_,rfl⟩;have hvl:v<18446744073709551616:=(by rw [←hv,hw2];exact nm8_lt λ x hx=>img_lt x (List.mem_of_mem_drop hx));refine Zc ?_;refine Zdw ?_;refine tc_regq mo kqz ?_;refine Zbk ?_;refine Zk4 ?_;refine Zbk ?_;refine Zev ?_;refine ql_c rfl (λ w=>exec_call bd163 rfl) (Word_c (s:=s) (p:=(at_:Nat))) ?_;refine ql_v rfl (o_move wqz) ?_;refine ql_v rfl (o_extract rfl rfl) ?_;refine ql_env (d:=36) (v:= .int .u64 (v:Nat)) (by show Value.int .u64 ((wordP (at_:Nat) s).1:Nat)=_;rw [hv]) ?_;refine ql_v rfl (o_extract rfl rfl) ?_;refine ql_env (d:=37) (v:= .int .i64 0) (by show Value.int .i64 (wordP (at_:Nat) s).2=_;rw [hw2]) ?_;refine ql_v rfl (o_assign wqz) ?_;refine Zf5 ?_;refine Zb ?_;refine Zdr ?_;refine tl_bool (d:=40) rfl dbq (sbq ?_);intro h;refine tlm ?_;refine tv (o_nei rfl rfl) ?_;refine Zft ?_;refine tc_cond rfl (λ h=> ?_) (λ h=> ?_)
  . have hv0:v≠0:=(by first|(have h9:=of_decide_eq_true h;omega)|(simp at h;omega));refine Zb6 ?_;exact ⟨.int .i64 (3),C (Dev d s),res1 rfl rfl,λ _ _ h=>by rw [hC];exact (Dr.sat (A':=R*Dev d s) drqz) _ _ h,3,s,by unfold writeS;rw [if_neg (by rw [ho];decide),if_pos (by rw [hv];exact hv0)],rfl,rfl⟩
  have hv0:¬v≠0:=(by first|(have h9:=of_decide_eq_false h;omega)|(simp at h;omega));refine Zc ?_;refine Zcl ?_;refine tv (o_len underlying107 rfl) ?_;refine Zid ?_;refine tc_pre (A':=R*Dev d s*Sl 1 (.slice none 0 0) 0 (ints (lensX (xs.take 0)))) (λ _ _ h=>sl_nil h) ?_;refine tc_loop (λ kk ρ BB=>∃ (i:Nat) (a8:Option Addr) (c8:Nat),(i<=m)/\ ((xs.take i).all (mayX (s.ls.length*64) at_ sz)=true)/\ (i<=c8)/\ kk=m-i/\ ρ 8= .slice a8 i c8/\ ρ 46=(vn i)/\ ρ 0=(pz bl)/\ ρ 1= .slice a m c/\ ρ 44= .slice a m c/\ ρ 45=(vn m)/\ Dr BB (R*Dev d s*Sl 1 (.slice a8 i c8) i (ints (lensX (xs.take i))))) (m:=m-(0)) ?_ ?_
  . exact ⟨0,none,0,by omega,rfl,by omega,rfl,rfl,rfl,rfl,rfl,rfl,rfl,drqz⟩
  intro k ρ B hI;obtain ⟨i,a8,c8,hp0,hp1,hp2,hkk1,hE8,hE46,hE0,hE1,hE44,hE45,hBA⟩:=hI;refine tc_pre hBA.sat ?_;clear hBA;refine te 8 hE8 ?_;refine te 46 hE46 ?_;refine te 0 hE0 ?_;refine te 1 hE1 ?_;refine te 44 hE44 ?_;refine te 45 hE45 ?_;refine Zei ?_;refine tc_cond rfl (λ h=> ?_) (λ h=> ?_)
  . have hi:i<xs.length:=(by first|omega|(simp at h;omega));obtain ⟨x,hx1⟩:∃x,xs[i]=x:=⟨_,rfl⟩;have hxw:XW x:=hX x (hx1▸List.getElem_mem hi);refine Zg5 ?_;refine tv (o_ixP (a:=a) underlying107 sz162 rfl rfl oqz (nn_rs sq4z (λ _=>by rw [xcl_len];omega))) ?_;refine tv (o_ldPN (a:=a) (xs:=xcl xs) (vs:=xcs x) a162 sz162 rfl sq4z (by rw [xcl_at oqz,hx1]) rfl (by decide)) ?_;refine tl_x rfl (o_alloc z162 rfl) ?_;rintro _ _ ⟨b10,rfl,rfl⟩;refine tl_u rfl (o_stUN (l':=xcs x) rfl upqz sz162 rfl rfl rfl (by show 2<=2;decide) rfl) ?_;refine nq ?_;refine Ze ?_;refine tv (o_loadN (vs:=xcs x) a162 sz162 rfl hsqz (by show 2<=2;decide) rfl) ?_;refine tl_c rfl (o_call bd164 rfl (may11_c (s:=s) (x:=x) (hl:=has_left (has_left (has_left hl))))) ?_;refine Zim ?_;refine tc_cond rfl (λ h=> ?_) (λ h=> ?_)
    . have hmy:mayX (s.ls.length*64) at_ sz x=false:=(by simpa using h);refine sr ?_;refine Zb4 ?_;exact ⟨.int .i64 (6),C (Dev d s),res1 rfl rfl,λ _ _ h=>by rw [hC];exact (Dr.sat (A':=R*Dev d s) drqz) _ _ h,6,s,by unfold writeS;rw [if_neg (by rw [ho];decide),if_neg (by rw [hv];exact hv0),if_pos (all_not hi (by rw [hx1];exact hmy))],rfl,rfl⟩
    have hmy:mayX (s.ls.length*64) at_ sz x=true:=(by simpa using h);refine Zc ?_;refine Zm ?_;refine Zbs ?_;refine tl_x rfl (o_buildSlice1 underlying26 sz3 z3 wqz rfl) ?_;rintro _ _ ⟨b57,rfl,rfl⟩;refine tl_x rfl (o_apB underlying26 underlying26 sz3 by3 z3 rfl (by decide) (by decide) rfl rfl rfl ctqz rfl (by first|exact bys_all _|exact ints_all _|exact wds_all _|exact bos_all _|rfl) sq1z (by first|exact bys_sn _ _|exact ints_sn _ _|exact wds_sn _ _|exact bos_sn _ _|exact (bys_append _ _).symm|rfl)) ?_;rintro _ _ ⟨a58,c58,rfl,hc58,rfl⟩;refine Zlf ?_;exact ⟨_,by omega,i+1,_,_,by omega,all_take hi hp1 (by rw [hx1];exact hmy),hc58,rfl,rfl,rfl,rfl,rfl,rfl,rfl,by rw [lensX_succ hi,hx1];repeat (first|with_reducible exact dr_refl|apply dr_keep|apply dr_drop)⟩
  obtain rfl:i=m:=by first|omega|(simp at h;omega)
  have htk:xs.take i=xs:=List.take_of_length_le oqz;rw [htk] at hp1
  refine tc_pre (A':=R*Dev d s*Sl 1 (.slice a8 i c8) i (ints (lensX xs))) (λ _ _ h=>by rw [htk] at h;exact h) ?_;obtain ⟨nd,en,hnd⟩:∃nd en,needS (lensX xs)=(nd,en):=⟨_,_,rfl⟩;have hxl:∀x∈lensX xs,-9223372036854775808<=x/\ x<=9223372036854775807:=λ x hx=>by obtain ⟨y,hy,rfl⟩:=List.mem_map.1 hx;exact (hX y hy).l
  have hx1:∀x∈xs,1<=x.2:=λ x hx=>by obtain ⟨p,n,rfl,_,hn,_⟩:=may_nat (List.all_eq_true.1 hp1 x hx);show (1:Int)<=(n:Int);omega
  have hnd2:en=0->nd=(needN xs:Nat):=λ h9=>by have:=needF_ok hx1 hnd h9;omega
  refine Zdx ?_;refine tl_c rfl (o_call bd165 rfl (Need_c (xs:=lensX xs) (hr:=rs_sl) (hm:=(lensX_len xs).trans hm) (hx:=hxl))) ?_;refine Zk8 ?_;refine tl_env (d:=63) (v:= .int .i64 nd) (by show Value.int .i64 (needS (lensX xs)).1=_;rw [hnd]) ?_;refine tv (o_extract rfl rfl) ?_;refine tl_env (d:=64) (v:= .int .i64 en) (by show Value.int .i64 (needS (lensX xs)).2=_;rw [hnd]) ?_;refine Z0 ?_;refine Zdw ?_;refine tc_cut (λ ρ BB=>∃ (bb:Bool),(bb=decide (en≠0∨((sz-64:Nat):Int)<nd))/\ ρ 75= .bool bb/\ ρ 0=(pz bl)/\ ρ 1= .slice a i c/\ ρ 11= .int .i64 nd/\ Dr BB (R*Dev d s)) ?_ ?_
  . skip
    refine Zm ?_;refine Zdr ?_;refine tl_bool (d:=67) rfl (λ h=> ?_) (λ h=> ?_)
    . have g67:(en≠0):=(by first|exact of_decide_eq_true h|(have h2:=h;simp at h2;omega)|simpa using h);refine Zdl ?_;refine tk ?_;refine Zcx ?_;exact ⟨_,by first|exact (decide_eq_true oqz).symm|exact (decide_eq_false oqz).symm|(rw [decide_eq_decide];omega),rfl,rfl,rfl,rfl,drqz⟩
    have g67:¬(en≠0):=(by first|exact of_decide_eq_false h|(have h2:=h;simp at h2;omega)|simpa using h);refine tlm ?_;refine Zw ?_;refine tv (o_fieldAddr (o:=2) underlying99 rfl rfl sz3 rfl) ?_;refine tv (o_load p3 rfl haqz rfl) ?_;refine tv (o_subI rfl rfl oqz) ?_;refine tl_env (d:=73) (v:=(vn (sz-64))) (by show Value.int .i64 ((sz:Int)-64)=_;congr 1;omega) ?_;refine Zc2 ?_;refine tl_nil ?_;exact ⟨_,by first|exact (decide_eq_true oqz).symm|exact (decide_eq_false oqz).symm|(rw [decide_eq_decide];omega),rfl,rfl,rfl,rfl,drqz⟩
  intro ρ B hI;obtain ⟨bb,hbb0,hE75,hE0,hE1,hE11,hBA⟩:=hI;refine q_then_n ?_;refine tc_pre hBA.sat ?_;clear hBA;refine te 75 hE75 ?_;refine te 0 hE0 ?_;refine te 1 hE1 ?_;refine te 11 hE11 ?_;refine tc_cond rfl (λ h=> ?_) (λ h=> ?_)
  . have hful:=of_decide_eq_true (show decide (en≠0∨((sz-64:Nat):Int)<nd)=true by rw [←hbb0];exact h);refine Zb6 ?_;exact ⟨.int .i64 (111),C (Dev d s),res1 rfl rfl,λ _ _ h=>by rw [hC];exact (Dr.sat (A':=R*Dev d s) drqz) _ _ h,111,s,by unfold writeS;rw [if_neg (by rw [ho];decide),if_neg (by rw [hv];exact hv0),if_neg (by rw [hp1];decide),hnd,if_pos hful],rfl,rfl⟩
  have hful:=of_decide_eq_false (show decide (en≠0∨((sz-64:Nat):Int)<nd)=false by rw [←hbb0];exact h);obtain rfl:en=0:=by omega
  obtain rfl:=hnd2 rfl;have hN:needN xs<=sz-64:=(by omega);refine Zdf ?_;refine Zca ?_;refine tc_cond rfl (λ h=> ?_) (λ h=> ?_)
  . have hx0:xs=[]:=(by have h9:=needN_ge xs;have h8:needN xs=0:=(by first|(have:=of_decide_eq_true h;omega)|(simp at h;omega));exact List.eq_nil_of_length_eq_zero oqz);refine Zb6 ?_;exact ⟨.int .i64 (0),C (Dev d s),res1 rfl rfl,λ _ _ h=>by rw [hC];exact (Dr.sat (A':=R*Dev d s) drqz) _ _ h,0,s,by unfold writeS;rw [if_neg (by rw [ho];decide),if_neg (by rw [hv];exact hv0),if_neg (by rw [hp1];decide),hnd,if_neg hful,if_pos hx0],rfl,rfl⟩
  have hx0:xs≠[]:=λ e=>by subst e;first|exact of_decide_eq_false h rfl|exact h rfl|(simp [needN] at h)
  have hxl0:0<xs.length:=List.length_pos_iff.2 hx0;have hN1:=needN_ge xs;refine Zfx ?_;refine tv (o_fieldAddr (o:=1) underlying99 rfl rfl sz3 rfl) ?_;refine tv (o_load p3 rfl haqz rfl) ?_;refine tv adqz ?_;refine tl_env (d:=82) (v:=(vn (at_+64))) (by first|rfl|(show Value.int .i64 _=_;congr 1;omega)) ?_;refine Zd1 ?_;refine tv (o_len underlying107 rfl) ?_;refine Zid ?_;refine tc_loop (λ kk ρ BB=>∃ (j:Nat) (q:Nat) (s1:DevS),(j<=i)/\ (putF (at_+64) xs s=putF q (xs.drop j) s1)/\ (s1.off=false)/\ (s1.ls.length=s.ls.length)/\ (q+needN (xs.drop j)=at_+64+needN xs)/\ (Room (needN (xs.drop j)+1) s1)/\ kk=i-j/\ ρ 13=(vn q)/\ ρ 85=(vn j)/\ ρ 0=(pz bl)/\ ρ 1= .slice a i c/\ ρ 11= .int .i64 (needN xs:Nat)/\ ρ 83= .slice a i c/\ ρ 84=(vn i)/\ Dr BB (R*Dev d s1)) (m:=i-(0)) ?_ ?_
  . exact ⟨0,at_+64,s,by omega,rfl,ho,rfl,by rw [List.drop_zero],λ l hl=>by have:=hroom l hl;rw [List.drop_zero];omega,rfl,rfl,rfl,rfl,rfl,rfl,rfl,rfl,drqz⟩
  intro k ρ B hI;obtain ⟨j,q,s1,hq0,hq1,hq2,hq3,hq4,hq5,hkk2,hE13,hE85,hE0,hE1,hE11,hE83,hE84,hBA⟩:=hI;refine tc_pre hBA.sat ?_;clear hBA;refine te 13 hE13 ?_;refine te 85 hE85 ?_;refine te 0 hE0 ?_;refine te 1 hE1 ?_;refine te 11 hE11 ?_;refine te 83 hE83 ?_;refine te 84 hE84 ?_;refine Zei ?_;refine tc_cond rfl (λ h=> ?_) (λ h=> ?_)
  . have hj:j<xs.length:=(by first|omega|(simp at h;omega));obtain ⟨x,hx1⟩:∃x,xs[j]=x:=⟨_,rfl⟩;have hmx:=all_drop hp1 hj;have hdr:=List.drop_eq_getElem_cons hj;rw [hx1] at hmx hdr
    obtain ⟨p,n,rfl,y1,y2,y3,y4⟩:=may_nat hmx;rw [hdr,needN_cons] at hq4 hq5
    simp only [Int.toNat_natCast] at hq4 hq5
    refine tc_have (λ _ _ h=>ct_wf2 ctqz h) λ hw1=> ?_
    have hil:=imgS_len hw1;have hol:(((imgS s1).drop p).take n).length=n:=(by rw [List.length_take,List.length_drop,hil,hq3];omega);have hrl:(recS p (((imgS s1).drop p).take n)).length=24+up8 n:=(by rw [recS_len,hol]);have hrb:∀x∈recS p (((imgS s1).drop p).take n),x<256:=recS_b img_sub;have hu8:=up8_le n;refine Zg5 ?_;refine tv (o_ixP (a:=a) underlying107 sz162 rfl rfl oqz (nn_rs sq4z (λ _=>by rw [xcl_len];omega))) ?_;refine tv (o_ldPN (a:=a) (xs:=xcl xs) (vs:=xcs ((p:Int),(n:Int))) a162 sz162 rfl sq4z (by rw [xcl_at oqz,hx1]) rfl (by decide)) ?_;refine tl_x rfl (o_alloc z162 rfl) ?_;rintro _ _ ⟨b15,rfl,rfl⟩;refine tl_u rfl (o_stUN (l':=xcs ((p:Int),(n:Int))) rfl upqz sz162 rfl rfl rfl (by show 2<=2;decide) rfl) ?_;refine Zku ?_;refine tc_regh (S:=R*pt b15 (cl (xcs ((p:Int),(n:Int))) 162)) mo drqz ?_
    show TH _ _ _ _ _ 14 (Array.replicate 14 false) _ _
    refine Zq ?_;refine Zda ?_;refine tm 4 rfl kqz rfl (o_fieldAddr (o:=0) underlying162 rfl rfl sz3 rfl) ?_;refine tm 5 rfl kqz rfl (by first|exact o_load p3 rfl hsqz rfl|exact o_loadC p3 rfl (by assumption)) ?_;refine Zhy ?_;refine th_one (i:=8) kqz ?_;refine oh_c rfl rfl rfl (o_call bd110 rfl (Load_c (s:=s1) (p:=p) (m:=n))) ?_;rintro _ _ ⟨a98,c98,rfl,hc98,rfl⟩;refine Zdb ?_;refine Zlk ?_;refine Zba ?_;refine Ze ?_;refine Zck ?_;intro h;refine Zk9 ?_;refine Zbb ?_;refine tlm ?_;refine tl_c rfl (o_call bd166 rfl (record_c (p:=p) (xs:=((imgS s1).drop p).take n) (hr:=rs_sl) (hm:=hol) (hb:=img_sub))) ?_;rintro _ _ ⟨a107,c107,rfl,hc107,rfl⟩;refine Za ?_;refine Zb2 ?_;refine Zfg ?_;refine Z2 ?_;refine tl_c rfl (o_call bd123 rfl (Store_c (s:=s1) (p:=(q:Nat)) (xs:=recS p (((imgS s1).drop p).take n)) (hm:=hrl) (hb:=hrb) (hroom:=λ _ l hl=>by have:=hq5 l hl;omega))) ?_;rintro _ _ ⟨e114,s114,hs114,rfl,rfl⟩;refine Zkz ?_;refine tc_cond rfl (λ h=> ?_) (λ h=> ?_)
    . have he0:e114≠0:=(by simpa using h);have hput:putF (at_+64) xs s=(e114,s114):=(by rw [hq1,hdr];exact putF_e hs114 he0);refine Zb ?_;refine Zb4 ?_;exact ⟨.int .i64 (e114),C (Dev d s114),res1 rfl rfl,λ _ _ h=>by rw [hC];exact (Dr.sat (A':=R*Dev d s114) drqz) _ _ h,e114,s114,by unfold writeS;rw [if_neg (by rw [ho];decide),if_neg (by rw [hv];exact hv0),if_neg (by rw [hp1];decide),hnd,if_neg hful,if_neg hx0,hput,if_pos he0],rfl,rfl⟩
    obtain rfl:e114=0:=by simpa using h
    refine Zc ?_;refine Zm ?_;refine Zbp ?_;refine tv adqz ?_;refine tl_env (d:=121) (v:= .int .i64 ((q+(24+up8 n):Nat):Int)) (by first|rfl|(show Value.int .i64 _=_;congr 1;omega)) ?_;refine Zlf ?_;exact ⟨_,by omega,j+1,_,_,by omega,by rw [hq1,hdr];exact putF_o hs114,by rw [sto_on hs114];exact hq2,by have h9:=sto_len (q:Nat) (recS p (((imgS s1).drop p).take n)) s1;rw [hs114] at h9;exact h9.trans hq3,by omega,sto_room hs114 hw1 hrb (λ l hl=>by have:=hq5 l hl;rw [hrl];omega),rfl,rfl,rfl,rfl,rfl,rfl,rfl,rfl,drqz⟩
  obtain rfl:j=i:=by first|omega|(simp at h;omega)
  have hput:putF (at_+64) xs s=(0,s1):=(by rw [hq1,List.drop_eq_nil_of_le oqz];rfl);refine tc_have (λ _ _ h=>ct_wf2 ctqz h) λ hw1=> ?_
  have hr1:Room 1 s1:=λ l hl=>by have:=hq5 l hl;omega
  refine Zf ?_;refine Zdw ?_;refine tc_regh (S:=R) mo drqz ?_
  show TH _ _ _ _ _ 12 (Array.replicate 12 false) _ _
  refine Zq ?_;refine Zda ?_;refine Zem ?_;refine Zel ?_;refine tm 8 rfl kqz rfl adqz ?_;refine th_env (d:=131) (v:=(vn (at_+64))) (by first|rfl|(show Value.int .i64 _=_;congr 1;omega)) ?_;refine tm 9 rfl kqz rfl (o_move wqz) ?_;refine th_one (i:=10) kqz ?_;refine oh_c rfl rfl rfl (o_call bd167 rfl (Range_c (s:=s1) (p:=((at_+64:Nat):Int)) (m:=(needN xs:Nat)))) ?_;rintro _ _ ⟨e133,s133,hs133,rfl,rfl⟩;refine Zlq ?_;refine Zb ?_;refine Zl ?_;refine tc_cond rfl (λ h=> ?_) (λ h=> ?_)
  . have he1:e133≠0:=(by simpa using h);refine Zge ?_;exact ⟨.int .i64 (e133),C (Dev d s133),res1 rfl rfl,λ _ _ h=>by rw [hC];exact (Dr.sat (A':=R*Dev d s133) drqz) _ _ h,e133,s133,by unfold writeS;rw [if_neg (by rw [ho];decide),if_neg (by rw [hv];exact hv0),if_neg (by rw [hp1];decide),hnd,if_neg hful,if_neg hx0,hput,if_neg (by simp)];simp only [];rw [hs133,if_pos he1],rfl,rfl⟩
  obtain rfl:e133=0:=by simpa using h
  have hr2:=rangeP_room hs133 hw1 hr1;refine Zhp ?_;refine tc_regh (S:=R) mo drqz ?_
  show TH _ _ _ _ _ 13 (Array.replicate 13 false) _ _
  refine Zq ?_;refine Zda ?_;refine Zem ?_;refine Zel ?_;refine tm 8 rfl kqz rfl (o_move wqz) ?_;refine tm 9 rfl kqz rfl (o_len underlying107 rfl) ?_;refine tm 10 rfl kqz rfl (by first|exact o_conv64 underlying3 underlying174 rfl|exact o_conv underlying3 underlying174 rfl) ?_;refine th_env (d:=147) (v:= .int .u64 ((xs.length:Nat):Int)) (by rw [hm];exact congrArg (λ z:Nat=>Value.int .u64 (z:Int)) (Nat.mod_eq_of_lt oqz)) ?_;refine th_one (i:=11) kqz ?_;refine oh_c rfl rfl rfl (o_call bd168 rfl (Publish_c (s:=s133) (p:=(at_:Nat)) (v:=xs.length))) ?_;rintro _ _ ⟨e148,s148,hs148,rfl,rfl⟩;refine ⟨by repeat (first|with_reducible exact dr_refl|apply dr_keep|apply dr_drop), ?_⟩;refine tm 12 rfl kqz rfl (o_assign wqz) ?_;refine Zba ?_;refine tc_ret ?_;exact ⟨.int .i64 (e148),C (Dev d s148),res1 rfl rfl,λ _ _ h=>by rw [hC];exact (Dr.sat (A':=R*Dev d s148) drqz) _ _ h,e148,s148,by unfold writeS;rw [if_neg (by rw [ho];decide),if_neg (by rw [hv];exact hv0),if_neg (by rw [hp1];decide),hnd,if_neg hful,if_neg hx0,hput,if_neg (by simp)];simp only [];rw [hs133,if_neg (by simp)];exact hs148,rfl,rfl⟩
end Go.Vl

namespace Go.Vl
open Go Go.Proofs Go.Proofs.Tryz
def phi (s:DevS):Nat:=s.arms.length+(if s.off=true then 1 else 0)
theorem chunk_at {q j:Nat}{I:List Nat}(h:j<64):(chunk q I)[j]? =I[q*64+j]? :=by
  unfold chunk;rw [List.getElem?_take,if_pos h,List.getElem?_drop]
def Same (I:List Nat)(s:DevS):Prop:=Poss (λ q c=>c=chunk q I) s
def recsB (I:List Nat)(l:List (Int×Int)):List Nat:=l.flatMap λ x=>recS x.1.toNat ((I.drop x.1.toNat).take x.2.toNat)
def Out (a b:Nat)(I J:List Nat):Prop:=∀i,¬(a<=i/\ i<b)->I[i]? =J[i]?
theorem Out.refl (a b:Nat)(I:List Nat):Out a b I I:=λ _ _=>rfl
theorem Out.trans {a b:Nat}{I J K:List Nat}(h1:Out a b I J)(h2:Out a b J K):Out a b I K:=λ i hi=>(h1 i hi).trans (h2 i hi)
attribute [local irreducible] crk crL crc Sl pt ro Dev imgS recS
theorem CloneBN_f {A:SP}{n c:Nat}:
    Fn Tryz.prog 216 #[.slice none n c] A (λ r B=>r= .slice none 0 0/\ A=B):=by
  refine fn_enterW func216 rfl ntmps216 (by simp) ?_;refine Zcl ?_;refine tv (o_eqs underlying57 rfl rfl) ?_;refine Zdt ?_;intro h;refine Zb6 ?_;exact ⟨_,_,res1 rfl rfl,λ _ _ h=>h,rfl,rfl⟩
theorem CloneBS_f {A:SP}{n c:Nat}{p:Addr}{xs:List Value}(hr:Rs A (some p) xs)(hl:xs.length=n*1)(ho:xs.all oneC=true)(hs:n<=5864062014800):
    Fn Tryz.prog 216 #[.slice (some p) n c] A (λ r B=>∃a2 c2,r= .slice a2 n c2/\ n<=c2/\ B=A*Sl 1 (.slice a2 n c2) n xs):=by
  refine fn_enterW func216 rfl ntmps216 (by simp) ?_;refine Zcl ?_;refine tv (o_eqs underlying57 rfl rfl) ?_;refine Z3 ?_;intro h;refine Zhp ?_
  skip
  refine tc_reg ?_;refine tl_x rfl (o_buildSlice0 underlying57 sz5 rfl) ?_;rintro _ _ ⟨b5,rfl,rfl⟩;refine tl_pre (A':=A*Sl 1 (.slice (some ⟨b5,0,none⟩) 0 0) 0 []) (λ _ _ h=>sl_new h (Nat.le_refl _) (by simp) (by simp)) ?_;refine tlm ?_;refine tl_x rfl (o_apR underlying57 underlying57 sz5 by5 z5 rfl (by decide) (by decide) rfl rfl ctqz (hr.left) hl ho oqz (List.nil_append _)) ?_;rintro _ _ ⟨a7,c7,rfl,hc7,rfl⟩;refine Zd ?_;exact ⟨.slice a7 (0+n) c7,A*Sl 1 (.slice a7 (0+n) c7) (0+n) xs,res1 rfl rfl,λ _ _ h=>h,a7,c7,by rw [Nat.zero_add],by rw [Nat.zero_add] at hc7;exact hc7,by rw [Nat.zero_add]⟩
theorem CloneB_c {A:SP}{a:Option Addr}{n c:Nat}{l:List Nat}(hr:Rs A a (bys l):=by exact rbqz)(hm:l.length=n:=by first|assumption|rfl)(hs:n<=5864062014800:=by omega):
    Fn Tryz.prog 216 #[.slice a n c] A (λ r B=>∃a2 c2,r= .slice a2 n c2/\ n<=c2/\ B=A*Sl 1 (.slice a2 n c2) n (bys l)):=by
  have hl:(bys l).length=n*1:=(by rw [bys_length,hm,Nat.mul_one])
  cases a with
  |none=>
    intro g w hs2
    have hx:bys l=[]:=by
      rcases hr.rd hs2 with h|⟨b,o,e,_⟩
      . exact h
      cases e
    have hn:n=0:=(by rw [hx] at hl;simp at hl;omega);subst hn;rw [hx]
    refine (CloneBN_f (n:=0) (c:=c) g w hs2).mono ?_;rintro e w' ⟨v,B,rfl,⟨rfl,rfl⟩,hB⟩;exact ⟨_,_,rfl,⟨none,0,rfl,Nat.le_refl _,rfl⟩,sl_nil hB⟩
  |some p=>exact CloneBS_f hr hl (bys_all l) hs
theorem EqualB_c {A:SP}{a1 a2:Option Addr}{c1 c2 n m:Nat}{xs ys:List Nat}(h1:Rs A a1 (bys xs):=by exact rbqz)(h2:Rs A a2 (bys ys):=by exact rbqz)(hx:xs.length=n:=by first|assumption|rfl)(hy:ys.length=m:=by first|assumption|rfl)(hn:n<=4611686018427387904:=by omega):
    Fn Tryz.prog 217 #[.slice a1 n c1,.slice a2 m c2] A (λ r B=>r= .bool (decide (xs=ys))/\ A=B):=by
  refine fn_enterW func217 rfl ntmps217 (by simp) ?_;refine Zcl ?_;refine tv (o_len underlying57 rfl) ?_;refine Zbp ?_;refine Zl ?_;refine tc_cond rfl (sbq ?_) (λ h=> ?_)
  . intro h;refine Zb6 ?_;have e:decide (xs=ys)=false:=decide_eq_false λ e=>by subst e;first|omega|(simp at h;omega)
    rw [e]
    exact ⟨.bool false,A,res1 rfl rfl,Dr.sat drqz,rfl,rfl⟩
  obtain rfl:n=m:=by first|omega|(simp at h;omega)
  refine Zdf ?_;refine Zez ?_;refine Zcj ?_;refine tc_loop (λ kk ρ BB=>∃ (i:Nat),(i<=n)/\ (xs.take i=ys.take i)/\ kk=n-i/\ ρ 13=(vn i)/\ ρ 0= .slice a1 n c1/\ ρ 1= .slice a2 n c2/\ ρ 12=(vn n)/\ BB=A) (m:=n-(0)) ?_ ?_
  . exact ⟨0,by omega,rfl,rfl,rfl,rfl,rfl,rfl,rfl⟩
  intro k ρ B hI;obtain ⟨i,hp0,hp1,hkk1,hE13,hE0,hE1,hE12,hBA⟩:=hI;obtain rfl:=hBA.symm;refine te 13 hE13 ?_;refine te 0 hE0 ?_;refine te 1 hE1 ?_;refine te 12 hE12 ?_;refine Zei ?_;refine tc_cond rfl (λ h=> ?_) (sbq ?_)
  . have hi:i<xs.length:=(by first|omega|(simp at h;omega));have hi2:i<ys.length:=(by omega);refine Zin ?_;refine Za ?_;refine Zfr ?_;refine Zbt ?_;refine ql_v rfl (o_ixP1 underlying57 sz5 rfl rfl oqz (nn_rs h1 (by rw [bys_length];omega))) ?_;refine ql_v rfl (o_ldP p5 rfl h1 (bys_at hi)) ?_;refine Zbt ?_;refine ql_v rfl (o_ixP1 underlying57 sz5 rfl rfl oqz (nn_rs h2 (by rw [bys_length];omega))) ?_;refine ql_v rfl (o_ldP p5 rfl h2 (bys_at hi2)) ?_;refine ql_v rfl (o_nei rfl rfl) ?_;refine Zec ?_;refine tc_cond rfl (λ h=> ?_) (λ h=> ?_)
    . have hne:xs[i]≠ys[i]:=λ e=>by rw [e] at h;simp at h
      refine Zjt ?_;have e:decide (xs=ys)=false:=decide_eq_false λ e=>by subst e;exact hne rfl
      rw [e]
      exact ⟨.bool false,A,res1 rfl rfl,Dr.sat drqz,rfl,rfl⟩
    have heq:((xs[i]:Nat):Int)=((ys[i]:Nat):Int):=(by first|omega|(simpa using h));refine Zbd ?_;refine Ze9 ?_;exact ⟨_,by omega,i+1,by omega,take_succ_eq hp1 oqz oqz oqz,rfl,rfl,rfl,rfl,rfl,rfl⟩
  intro h;refine Zgf ?_;have e:decide (xs=ys)=true:=decide_eq_true (take_all hp1 oqz oqz);rw [e]
  exact ⟨.bool true,A,res1 rfl rfl,Dr.sat drqz,rfl,rfl⟩
theorem Zfp {p r:Prop}(k:r)(h:Kq r->p:=by intro k;refine Zbz ?_;refine Z2 ?_;exact k.o):p:=h ⟨k⟩
theorem Zkh {p r:Prop}(k:r)(h:Kq r->p:=by intro k;refine Zdz ?_;refine Zek ?_;exact k.o):p:=h ⟨k⟩
theorem field_c {A:SP}{a:Option Addr}{c m p w:Nat}{xs:List Nat}(q:Nat)(hq:q=p+w*8:=by omega)(hr:Rs A a (bys xs):=by exact rbqz)(hm:xs.length=m:=by first|assumption|rfl)(hb:∀x∈xs,x<256:=by assumption)(h8:q+8<=m:=by omega)(hl:m<=1099511627776:=by omega):
    Fn Tryz.prog 215 #[.slice a m c,vn p,vn w] A (λ r B=>r= .int .u64 ((nm ((xs.drop q).take 8):Nat):Int)/\ A=B):=by
  refine fn_enterW func215 rfl ntmps215 (by simp) ?_;subst hq;refine Zfp ?_;refine tv (by first|exact o_mulI rfl rfl oqz|exact o_mul rfl rfl) ?_;refine tl_env (d:=13) (v:=(vn (w*8))) (by first|rfl|(show Value.int .i64 (IntKind.i64.wrap ((w*8:Nat):Int))=_;rw [wr_i64 oqz])) ?_;refine tv adqz ?_;refine tl_env (d:=14) (v:=(vn (p+w*8))) (by first|rfl|(show Value.int .i64 _=_;congr 1;omega)) ?_;refine tl_c rfl (o_call bd114 rfl (Take64_c (p:=p+w*8) (xs:=xs))) ?_;refine Zkh ?_;refine Zd ?_;exact ⟨_,A,res1 rfl rfl,Dr.sat drqz,rfl,rfl⟩
def rdW (o:Option ((Nat×List Nat)×Nat)):Nat:=match o with|none=>0|some x=>x.1.1
def rdO (o:Option ((Nat×List Nat)×Nat)):List Nat:=match o with|none=>[]|some x=>x.1.2
def rkT (o:Option ((Nat×List Nat)×Nat)):Nat:=match o with|none=>0|some x=>x.2
theorem read_short {n at_ sz p:Nat}{room:List Nat}(h:room.length<p+24):readS n at_ sz room p=none:=by unfold readS;rw [if_pos h]
theorem read_may {n at_ sz p:Nat}{room:List Nat}(h:mayX n at_ sz ((nm ((room.drop p).take 8):Nat),(nm ((room.drop (p+8)).take 8):Nat))=false):readS n at_ sz room p=none:=by
  unfold readS
  by_cases h0:room.length<p+24
  . rw [if_pos h0]
  rw [if_neg h0,if_pos h]
theorem read_need {n at_ sz p:Nat}{room:List Nat}(h:room.length<p+(24+up8 (nm ((room.drop (p+8)).take 8)))):readS n at_ sz room p=none:=by
  unfold readS
  by_cases h0:room.length<p+24
  . rw [if_pos h0]
  rw [if_neg h0]
  by_cases h1:mayX n at_ sz ((nm ((room.drop p).take 8):Nat),(nm ((room.drop (p+8)).take 8):Nat))=false
  . rw [if_pos h1]
  rw [if_neg h1,if_pos h]
theorem read_bad {n at_ sz p w m:Nat}{room:List Nat}(hw:nm ((room.drop p).take 8)=w)(hm:nm ((room.drop (p+8)).take 8)=m)(h:recS w ((room.drop (p+24)).take m)≠(room.drop p).take (24+up8 m)):readS n at_ sz room p=none:=by
  subst hw hm;unfold readS
  by_cases h0:room.length<p+24
  . rw [if_pos h0]
  rw [if_neg h0]
  by_cases h1:mayX n at_ sz ((nm ((room.drop p).take 8):Nat),(nm ((room.drop (p+8)).take 8):Nat))=false
  . rw [if_pos h1]
  rw [if_neg h1]
  by_cases h2:room.length<p+(24+up8 (nm ((room.drop (p+8)).take 8)))
  . rw [if_pos h2]
  rw [if_neg h2,if_pos h]
theorem read_good {n at_ sz p w m:Nat}{room:List Nat}(hw:nm ((room.drop p).take 8)=w)(hm:nm ((room.drop (p+8)).take 8)=m)(h1:¬room.length<p+24)(h2:mayX n at_ sz ((w:Int),(m:Int))=true)(h3:¬room.length<p+(24+up8 m))(h:recS w ((room.drop (p+24)).take m)=(room.drop p).take (24+up8 m)):readS n at_ sz room p=some ((w,(room.drop (p+24)).take m),24+up8 m):=by
  subst hw hm;unfold readS;rw [if_neg h1,if_neg (by rw [h2];decide),if_neg h3,if_neg (by rw [h];simp)]
theorem may_big {n at_ sz w m:Nat}(hn:n<=4194304)(h:4194304<w∨4194304<m):mayX n at_ sz ((w:Int),(m:Int))=false:=decide_eq_false (by show¬((1:Int)<=(m:Int)/\ (64:Int)<=(w:Int)/\ (w:Int)+(m:Int)<=(n:Int)/\ _);omega)
theorem may_zero1 {n at_ sz w m:Nat}(h:m<1):mayX n at_ sz ((w:Int),(m:Int))=false:=decide_eq_false (by show¬((1:Int)<=(m:Int)/\ (64:Int)<=(w:Int)/\ (w:Int)+(m:Int)<=(n:Int)/\ _);omega)
theorem need_one {m:Nat}(h:1<=m)(h2:m<=4194304):needS [(m:Int)]=(((24+up8 m:Nat):Int),0):=by
  have:=up8_le m
  unfold needS
  rw [needF_cons h]
  have e:rndS m=(((up8 m:Nat):Int),0):=(by unfold rndS;have:pad8 m<8:=(by unfold pad8;omega);rw [if_neg oqz]);rw [e,if_neg (by simp only [ne_eq,not_true,false_or];omega)]
  show ((0:Int)+24+((up8 m:Nat):Int),(0:Int))=_
  congr 1
theorem need_zero:needS [((0:Nat):Int)]=(0,2):=needF_bad (by decide)
theorem Zj0 {p r:Prop}(k:r)(h:Kq r->p:=by intro k;refine sr ?_;refine tv (o_bS (l:=[_,_]) pv_nil underlying253 z253 (pl253 underlying253) rfl) ?_;refine tl_u rfl (o_stUN rfl upqz sz253 rfl rfl rfl (by first|decide|simp|omega) rfl) ?_;refine Zb8 ?_;exact k.o):p:=h ⟨k⟩
theorem Zix {p r:Prop}(k:r)(h:Kq r->p:=by intro k;refine tv (o_bS (l:=[_,_]) (pv_cons wqz (pv_cons wqz pv_nil)) underlying162 z162 (pl162 underlying162) rfl) ?_;refine tl_x rfl (o_alloc z162 rfl) ?_;exact k.o):p:=h ⟨k⟩
theorem Zj4 {p r:Prop}(k:r)(h:Kq r->p:=by intro k;refine tlm ?_;refine tv (o_bS (l:=[_,_]) (pv_cons wqz (pv_cons wqz pv_nil)) underlying253 z253 (pl253 underlying253) rfl) ?_;exact k.o):p:=h ⟨k⟩
theorem read_c {A R:SP}{C:SP->SP}{d:Nat}{s:DevS}(hc:Ct A (Dev d s) R C:=by exact cbqz){bl at_ sz:Nat}(hl:Has R bl (cl (lcs11 d at_ sz) 99):=by exact hbqz)(hlw:LogW (s.ls.length*64) at_ sz:=by assumption){a:Option Addr}{c rm p:Nat}{room:List Nat}(hr:Rs R a (bys room):=by exact rbqz)(hm:room.length=rm:=by first|assumption|rfl)(hmc:rm<=c:=by omega)(hb:∀x∈room,x<256:=by assumption)(hrm:rm<=4194304:=by omega)(hp:p<=rm:=by omega):
    Fn Tryz.prog 170 #[pz bl,.slice a rm c,vn p] A (λ r B=>∃a2 c2,r= .tuple #[.agg #[.int .i64 ((rdW (readS (s.ls.length*64) at_ sz room p):Nat):Int),.slice a2 (rdO (readS (s.ls.length*64) at_ sz room p)).length c2],.int .i64 ((rkT (readS (s.ls.length*64) at_ sz room p):Nat):Int),.bool (readS (s.ls.length*64) at_ sz room p).isSome]/\ (rdO (readS (s.ls.length*64) at_ sz room p)).length<=c2/\ B=C (Dev d s)*Sl 1 (.slice a2 (rdO (readS (s.ls.length*64) at_ sz room p)).length c2) (rdO (readS (s.ls.length*64) at_ sz room p)).length (bys (rdO (readS (s.ls.length*64) at_ sz room p)))):=by
  refine fn_enterW func170 rfl ntmps170 (by simp) ?_;refine tc_have (λ _ _ h=>ct_wf2 hc h) λ hw=> ?_
  have htop:=hw.top;have hpos:=hw.pos;obtain ⟨rfl,hC⟩:=hc;rw [hC]
  have hlw9:=hlw;obtain ⟨w1,w2,w3,w4,w5⟩:=hlw9;obtain ⟨w,hwq⟩:∃w,(nm ((room.drop p).take 8))=w:=⟨_,rfl⟩;obtain ⟨m,hmq⟩:∃m,(nm ((room.drop (p+8)).take 8))=m:=⟨_,rfl⟩;have hw8:w<18446744073709551616:=hwq▸nm8_lt λ x hx=>hb x (List.mem_of_mem_drop hx)
  have hm8:m<18446744073709551616:=hmq▸nm8_lt λ x hx=>hb x (List.mem_of_mem_drop hx)
  refine sr ?_;refine tl_x rfl (o_alloc z253 rfl) ?_;rintro _ _ ⟨b6,rfl,rfl⟩;refine Zbx ?_;refine Zez ?_;refine tv (o_subI rfl rfl oqz) ?_;refine Zn ?_;refine tc_cond rfl (λ h=> ?_) (λ h=> ?_)
  . have hsh:room.length<p+24:=(by first|omega|(simp at h;omega));refine Zj0 ?_;have e0:(readS (s.ls.length*64) at_ sz room p)=none:=(by exact read_short hsh);rw [e0]
    exact ⟨.tuple #[.agg #[.int .i64 0,.slice none 0 0],.int .i64 0,.bool false],R*Dev d s*Sl 1 (.slice none 0 0) 0 [],resA3 rfl (rv_cell a253 sz253 rfl hsqz (by show 2<=2;decide) rfl) (rv_tmp rfl) (rv_tmp rfl),λ _ _ h=>sl_nil (Dr.sat drqz _ _ h),none,0,rfl,Nat.le_refl _,rfl⟩
  have hsh:¬room.length<p+24:=(by first|omega|(simp at h;omega));refine Zgr ?_;refine tl_c rfl (o_call bd215 rfl (field_c (q:=p) (w:=0) (xs:=room))) ?_;rintro _ _ ⟨rfl,rfl⟩;refine tl_env (d:=23) (v:= .int .u64 (w:Nat)) (by show Value.int .u64 (((nm ((room.drop p).take 8)):Nat):Int)=_;rw [hwq]) ?_;refine Z2 ?_;refine tl_c rfl (o_call bd215 rfl (field_c (q:=p+8) (w:=1) (xs:=room))) ?_;rintro _ _ ⟨rfl,rfl⟩;refine tl_env (d:=26) (v:= .int .u64 (m:Nat)) (by show Value.int .u64 (((nm ((room.drop (p+8)).take 8)):Nat):Int)=_;rw [hmq]) ?_;refine Z0 ?_;refine Zdw ?_;refine tc_cut (λ ρ BB=>∃ (bb:Bool),(bb=decide (4194304<w∨4194304<m))/\ ρ 32= .bool bb/\ ρ 0=(pz bl)/\ ρ 1= .slice a rm c/\ ρ 2=(vn p)/\ ρ 6=(pz b6)/\ ρ 9= .int .u64 (w:Nat)/\ ρ 10= .int .u64 (m:Nat)/\ BB=R*Dev d s*pt b6 (cl [.int .i64 0,.slice none 0 0] 253)) ?_ ?_
  . skip
    refine Zm ?_;refine tv (o_gtr rfl rfl) ?_;refine tlm ?_;refine tl_bool (d:=29) rfl (λ h=> ?_) (λ h=> ?_)
    . have g29:(4194304<w):=(by first|exact of_decide_eq_true h|(have h2:=h;simp at h2;omega)|simpa using h);refine Zh ?_;refine Zcx ?_;exact ⟨_,by first|exact (decide_eq_true oqz).symm|exact (decide_eq_false oqz).symm|(rw [decide_eq_decide];omega),rfl,rfl,rfl,rfl,rfl,rfl,rfl,rfl⟩
    have g29:¬(4194304<w):=(by first|exact of_decide_eq_false h|(have h2:=h;simp at h2;omega)|simpa using h);refine tlm ?_;refine Zc2 ?_;refine tl_nil ?_;exact ⟨_,by first|exact (decide_eq_true oqz).symm|exact (decide_eq_false oqz).symm|(rw [decide_eq_decide];omega),rfl,rfl,rfl,rfl,rfl,rfl,rfl,rfl⟩
  intro ρ B hI;obtain ⟨bb,hbb0,hE32,hE0,hE1,hE2,hE6,hE9,hE10,rfl⟩:=hI;refine q_then_n ?_;refine te 32 hE32 ?_;refine te 0 hE0 ?_;refine te 1 hE1 ?_;refine te 2 hE2 ?_;refine te 6 hE6 ?_;refine te 9 hE9 ?_;refine te 10 hE10 ?_;refine tc_cond rfl (λ h=> ?_) (λ h=> ?_)
  . have hbig:=of_decide_eq_true (show decide (4194304<w∨4194304<m)=true by rw [←hbb0];exact h);refine Zj0 ?_;have e0:(readS (s.ls.length*64) at_ sz room p)=none:=(by exact read_may (by rw [hwq,hmq];exact may_big oqz hbig));rw [e0]
    exact ⟨.tuple #[.agg #[.int .i64 0,.slice none 0 0],.int .i64 0,.bool false],R*Dev d s*Sl 1 (.slice none 0 0) 0 [],resA3 rfl (rv_cell a253 sz253 rfl hsqz (by show 2<=2;decide) rfl) (rv_tmp rfl) (rv_tmp rfl),λ _ _ h=>sl_nil (Dr.sat drqz _ _ h),none,0,rfl,Nat.le_refl _,rfl⟩
  have hbig:=of_decide_eq_false (show decide (4194304<w∨4194304<m)=false by rw [←hbb0];exact h);refine Zc6 ?_;refine tv (o_conv underlying174 underlying3 rfl) ?_;refine tl_env (d:=35) (v:=(vn w)) (by show Value.int .i64 (IntKind.i64.wrap _)=_;rw [wr_i64 oqz]) ?_;refine tlm ?_;refine tv (o_conv underlying174 underlying3 rfl) ?_;refine tl_env (d:=37) (v:=(vn m)) (by show Value.int .i64 (IntKind.i64.wrap _)=_;rw [wr_i64 oqz]) ?_;refine Zix ?_;rintro _ _ ⟨b11,rfl,rfl⟩;refine tl_u rfl (o_stUN (l':=xcs ((w:Int),(m:Int))) rfl upqz sz162 rfl rfl rfl (by show 2<=2;decide) rfl) ?_;refine Zku ?_;obtain ⟨nd,en,hnd⟩:∃nd en,needS [(m:Int)]=(nd,en):=⟨_,_,rfl⟩;refine tc_reg ?_;refine Zbs ?_;refine tl_x rfl (o_buildSlice1 underlying26 sz3 z3 wqz rfl) ?_;rintro _ _ ⟨b42,rfl,rfl⟩;refine tl_c rfl (o_call bd165 rfl (Need_c (xs:=[(m:Int)]) (hr:=show Rs _ _ [Value.int .i64 (m:Int)] from rs_pt rfl) (hx:=by intro x hx;simp at hx;omega))) ?_;refine Zk8 ?_;refine tl_env (d:=44) (v:= .int .i64 nd) (by show Value.int .i64 (needS [(m:Int)]).1=_;rw [hnd]) ?_;refine tv (o_extract rfl rfl) ?_;refine tl_env (d:=45) (v:= .int .i64 en) (by show Value.int .i64 (needS [(m:Int)]).2=_;rw [hnd]) ?_;refine Z0 ?_;refine Zdw ?_;refine tc_cut (λ ρ BB=>∃ (bb:Bool),(bb=decide (mayX (s.ls.length*64) at_ sz ((w:Int),(m:Int))=false∨room.length<p+(24+up8 m)))/\ ρ 61= .bool bb/\ ρ 1= .slice a rm c/\ ρ 2=(vn p)/\ ρ 6=(pz b6)/\ ρ 11=(pz b11)/\ ρ 12= .int .i64 nd/\ Dr BB (R*Dev d s*pt b6 (cl [.int .i64 0,.slice none 0 0] 253)*pt b11 (cl (xcs ((w:Int),(m:Int))) 162))) ?_ ?_
  . skip
    refine Zm ?_;refine Zdr ?_;refine tl_bool (d:=48) rfl (λ h=> ?_) (λ h=> ?_)
    . have hen:en≠0:=(by first|exact of_decide_eq_true h|simpa using h);have hm0:m<1:=(by rcases Nat.lt_or_ge m 1 with h9|h9;exact h9;rw [need_one h9 oqz] at hnd;simp at hnd;omega);have hmy0:=may_zero1 (n:=s.ls.length*64) (at_:=at_) (sz:=sz) (w:=w) hm0;refine Z8 ?_;refine Z7 ?_;refine Zdl ?_;refine Zcx ?_;exact ⟨_,by first|exact (decide_eq_true (.inl (by assumption))).symm|(rw [decide_eq_decide];simp only [hmy1,Bool.true_eq_false,false_or];omega),rfl,rfl,rfl,rfl,rfl,rfl,drqz⟩
    have hen:en=0:=(by first|(have h9:=of_decide_eq_false h;omega)|(simp at h;omega));have hm1:1<=m:=(by rcases Nat.lt_or_ge m 1 with h9|h9;have h8:m=0:=(by omega);subst h8;rw [need_zero] at hnd;simp at hnd;omega;exact h9);have hnd1:nd=((24+up8 m:Nat):Int):=(by rw [need_one hm1 oqz] at hnd;simp only [Prod.mk.injEq] at hnd;exact hnd.1.symm);have hxw:XW ((w:Int),(m:Int)):=⟨by show-9223372036854775808<=(w:Int)/\ (w:Int)<=9223372036854775807;omega,by show-9223372036854775808<=(m:Int)/\ (m:Int)<=9223372036854775807;omega⟩;refine tlm ?_;refine tv (o_loadN (vs:=xcs ((w:Int),(m:Int))) a162 sz162 rfl hsqz (by show 2<=2;decide) rfl) ?_;refine tl_c rfl (o_call bd164 rfl (may11_c (s:=s) (x:=((w:Int),(m:Int))) (hl:=by repeat (first|assumption|apply has_left)))) ?_;refine Zbi ?_;refine Z1 ?_;refine tl_bool (d:=54) rfl (λ h=> ?_) (λ h=> ?_)
    . have hmy:mayX (s.ls.length*64) at_ sz ((w:Int),(m:Int))=false:=(by first|assumption|simpa using h);refine Zdl ?_;refine Zcx ?_;exact ⟨_,by first|exact (decide_eq_true (.inl (by assumption))).symm|(rw [decide_eq_decide];simp only [hmy1,Bool.true_eq_false,false_or];omega),rfl,rfl,rfl,rfl,rfl,rfl,drqz⟩
    have hmy1:mayX (s.ls.length*64) at_ sz ((w:Int),(m:Int))=true:=(by simpa using h);refine Z2 ?_;refine Zez ?_;refine Zgu ?_;refine tl_nil ?_;exact ⟨_,by first|exact (decide_eq_true (.inl (by assumption))).symm|(rw [decide_eq_decide];simp only [hmy1,Bool.true_eq_false,false_or];omega),rfl,rfl,rfl,rfl,rfl,rfl,drqz⟩
  intro ρ B hI;obtain ⟨bb,hbc0,hE61,hE1,hE2,hE6,hE11,hE12,hBA⟩:=hI;refine q_then_n ?_;refine tc_pre hBA.sat ?_;clear hBA;refine te 61 hE61 ?_;refine te 1 hE1 ?_;refine te 2 hE2 ?_;refine te 6 hE6 ?_;refine te 11 hE11 ?_;refine te 12 hE12 ?_;refine tc_cond rfl (λ h=> ?_) (λ h=> ?_)
  . have hor:=of_decide_eq_true (show decide (mayX (s.ls.length*64) at_ sz ((w:Int),(m:Int))=false∨room.length<p+(24+up8 m))=true by rw [←hbc0];exact h);refine Zj0 ?_;have e0:(readS (s.ls.length*64) at_ sz room p)=none:=(by rcases hor with h9|h9;exact read_may (by rw [hwq,hmq];exact h9);exact read_need (by rw [hmq];exact h9));rw [e0]
    exact ⟨.tuple #[.agg #[.int .i64 0,.slice none 0 0],.int .i64 0,.bool false],R*Dev d s*Sl 1 (.slice none 0 0) 0 [],resA3 rfl (rv_cell a253 sz253 rfl hsqz (by show 2<=2;decide) rfl) (rv_tmp rfl) (rv_tmp rfl),λ _ _ h=>sl_nil (Dr.sat drqz _ _ h),none,0,rfl,Nat.le_refl _,rfl⟩
  have hor:=of_decide_eq_false (show decide (mayX (s.ls.length*64) at_ sz ((w:Int),(m:Int))=false∨room.length<p+(24+up8 m))=false by rw [←hbc0];exact h);have hmy:mayX (s.ls.length*64) at_ sz ((w:Int),(m:Int))=true:=(by rcases hb9:mayX (s.ls.length*64) at_ sz ((w:Int),(m:Int)) with _|_;exact absurd (.inl hb9) hor;rfl);have hnr:¬room.length<p+(24+up8 m):=λ h9=>hor (.inr h9)
  have hm1:1<=m:=(by rcases Nat.lt_or_ge m 1 with h9|h9;rw [may_zero1 h9] at hmy;exact absurd hmy (by decide);exact h9);have hup:=up8_le m;rw [need_one hm1 oqz] at hnd
  obtain ⟨rfl,rfl⟩:((24+up8 m:Nat):Int)=nd/\ (0:Int)=en:=by simpa using hnd
  obtain ⟨old,hold⟩:∃old,((room.drop (p+24)).take m)=old:=⟨_,rfl⟩;have holl:old.length=m:=(by rw [←hold,List.length_take,List.length_drop];omega);have hob:∀x∈old,x<256:=λ x hx=>hb x (List.mem_of_mem_drop (List.mem_of_mem_take (hold.symm▸hx)))
  refine Zgr ?_;refine tv adqz ?_;refine tl_env (d:=65) (v:=(vn (p+24))) (by first|rfl|(show Value.int .i64 _=_;congr 1;omega)) ?_;refine tlm ?_;refine tv adqz ?_;refine tl_env (d:=67) (v:=(vn (p+24))) (by first|rfl|(show Value.int .i64 _=_;congr 1;omega)) ?_;refine Zbs ?_;refine tv adqz ?_;refine tl_env (d:=70) (v:=(vn (p+24+m))) (by first|rfl|(show Value.int .i64 _=_;congr 1;omega)) ?_;refine tv (o_slice (l:=p+24) (h:=p+24+m) underlying57 sz5 rfl (bnd_nat rfl) (bnd_nat rfl) oqz oqz) ?_;refine tl_env (d:=71) (v:= .slice (cutAddr a c (p+24) 1) m (c-(p+24))) (by show Value.slice (cutAddr a c (p+24) 1) (p+24+m-(p+24)) (c-(p+24))=_;rw [show p+24+m-(p+24)=m by omega]) ?_;refine tl_c rfl (o_call bd216 rfl (CloneB_c (l:=old) (n:=m) (hr:=by rw [←hold];exact (rs_mid (l:=p+24) (m:=m) hr oqz).left.left.left))) ?_;rintro _ _ ⟨a72,c72,rfl,hc72,rfl⟩;refine Za ?_;refine Zdw ?_;refine tc_regh (S:=R*Dev d s*pt b6 (cl [.int .i64 0,.slice none 0 0] 253)*pt b11 (cl (xcs ((w:Int),(m:Int))) 162)*Sl 1 (.slice a72 m c72) m (bys old)) mo drqz ?_
  show TH _ _ _ _ _ 12 (Array.replicate 12 false) _ _
  refine tm 0 rfl kqz rfl (o_fieldAddr (o:=0) underlying162 rfl rfl sz3 rfl) ?_;refine tm 1 rfl kqz rfl (by first|exact o_load p3 rfl hsqz rfl|exact o_loadC p3 rfl (by assumption)) ?_;refine tm 2 rfl kqz rfl (o_move wqz) ?_;refine Zc1 ?_;refine Zg9 ?_;refine tm 8 rfl kqz rfl adqz ?_;refine th_env (d:=81) (v:= .int .i64 ((p+(24+up8 m):Nat):Int)) (by first|rfl|(show Value.int .i64 _=_;congr 1;omega)) ?_;refine tm 9 rfl kqz rfl (o_slice (l:=p) (h:=p+(24+up8 m)) underlying57 sz5 rfl (bnd_nat rfl) (bnd_nat rfl) oqz oqz) ?_;refine th_env (d:=82) (v:= .slice (cutAddr a c p 1) (24+up8 m) (c-p)) (by show Value.slice (cutAddr a c p 1) (p+(24+up8 m)-p) (c-p)=_;rw [show p+(24+up8 m)-p=24+up8 m by omega]) ?_;refine th_one (i:=3) kqz ?_;refine oh_c rfl rfl rfl (o_call bd166 rfl (record_c (p:=w) (m:=m) (xs:=old) (hm:=holl))) ?_;rintro _ _ ⟨a76,c76,rfl,hc76,rfl⟩;refine ⟨by repeat (first|with_reducible exact dr_refl|apply dr_keep|apply dr_drop), ?_⟩;refine th_one (i:=10) kqz ?_;refine oh_c rfl rfl rfl (o_call bd217 rfl (EqualB_c (xs:=recS w old) (ys:=(room.drop p).take (24+up8 m)) (hx:=by rw [recS_len,holl]) (hy:=by rw [List.length_take,List.length_drop];omega) (h2:=(rs_mid (l:=p) (m:=24+up8 m) hr oqz).left.left.left.left.left))) ?_;refine Zt ?_;refine tm 11 rfl kqz rfl (o_not rfl) ?_;refine Zba ?_;refine tc_cond rfl (λ h=> ?_) (λ h=> ?_)
  . have hne:recS w old≠(room.drop p).take (24+up8 m):=λ e=>by rw [e] at h;simp at h
    refine Zj0 ?_;have e0:(readS (s.ls.length*64) at_ sz room p)=none:=(by exact read_bad hwq hmq (by rw [hold];exact hne));rw [e0]
    exact ⟨.tuple #[.agg #[.int .i64 0,.slice none 0 0],.int .i64 0,.bool false],R*Dev d s*Sl 1 (.slice none 0 0) 0 [],resA3 rfl (rv_cell a253 sz253 rfl hsqz (by show 2<=2;decide) rfl) (rv_tmp rfl) (rv_tmp rfl),λ _ _ h=>sl_nil (Dr.sat drqz _ _ h),none,0,rfl,Nat.le_refl _,rfl⟩
  have heq:recS w old=(room.drop p).take (24+up8 m):=(by simpa using h);refine Zk9 ?_;refine Zbb ?_;refine Zj4 ?_;refine tlm ?_;refine tl_u rfl (o_stUN (l':=[.int .i64 (w:Int),.slice a72 m c72]) rfl upqz sz253 rfl rfl rfl (by show 2<=2;decide) rfl) ?_;refine Zc4 ?_;have e0:(readS (s.ls.length*64) at_ sz room p)=some ((w,old),24+up8 m):=(by rw [←hold];exact read_good hwq hmq hsh hmy hnr (by rw [hold];exact heq));rw [e0]
  exact ⟨.tuple #[.agg #[.int .i64 (w:Int),.slice a72 m c72],vn (24+up8 m),.bool true],R*Dev d s*Sl 1 (.slice a72 m c72) m (bys old),resA3 rfl (rv_cell a253 sz253 rfl hsqz (by show 2<=2;decide) rfl) (rv_tmp rfl) (rv_tmp rfl),Dr.sat drqz,a72,c72,by show _=Value.tuple #[.agg #[.int .i64 (w:Int),.slice a72 old.length c72],_,_];rw [holl];rfl,by show old.length<=c72;rw [holl];exact hc72,by show _=R*Dev d s*Sl 1 (.slice a72 old.length c72) old.length (bys old);rw [holl]⟩
end Go.Vl

namespace Go.Vl
open Go Go.Proofs Go.Proofs.Tryz
def kcl:List (Nat×List Nat)->List Value->List Value
  |x::l,v::vs=>(vn x.1)::v::kcl l vs
  |_,_=>[]
theorem kcl_len:∀{l:List (Nat×List Nat)} {vs:List Value},vs.length=l.length->(kcl l vs).length=l.length*2
  |[],[],_=>rfl
  |x::l,v::vs,h=>by
    show (kcl l vs).length+1+1=_
    rw [kcl_len (by simpa using h),List.length_cons];omega
theorem kcl_snoc:∀{l:List (Nat×List Nat)} {vs:List Value} {x:Nat×List Nat} {v:Value},vs.length=l.length->kcl (l++[x]) (vs++[v])=kcl l vs++[vn x.1,v]
  |[],[],_,_,_=>rfl
  |y::l,u::vs,x,v,h=>by
    show _::u::kcl (l++[x]) (vs++[v])=_
    rw [kcl_snoc (by simpa using h)];rfl
theorem wr_u64 {j:Nat}(h:j<18446744073709551616):IntKind.u64.wrap (j:Int)=(j:Int):=by simp [IntKind.wrap,IntKind.bits,IntKind.signed];omega
theorem rd_some {o:Option ((Nat×List Nat)×Nat)}(h:o.isSome=true):o=some ((rdW o,rdO o),rkT o):=by
  cases o with
  |none=>cases h
  |some x=>rfl
def cat (D:List (Nat×List Nat))(x:List (Nat×List Nat)×Int):List (Nat×List Nat)×Int:=if x.2≠0 then ([],110) else (D++x.1,0)
theorem recs_none {n at_ sz k p:Nat}{room:List Nat}{D:List (Nat×List Nat)}(h:readS n at_ sz room p=none)(hk:0<k):cat D (recsF n at_ sz room k p)=([],110):=by
  obtain ⟨k,rfl⟩:∃j,k=j+1:=⟨k-1,by omega⟩
  unfold recsF;rw [h];rfl
theorem recs_some {n at_ sz k p:Nat}{room:List Nat}{D:List (Nat×List Nat)}{x:Nat×List Nat}{t:Nat}(h:readS n at_ sz room p=some (x,t))(hk:0<k):cat D (recsF n at_ sz room k p)=cat (D++[x]) (recsF n at_ sz room (k-1) (p+t)):=by
  obtain ⟨k,rfl⟩:∃j,k=j+1:=⟨k-1,by omega⟩;rw [show k+1-1=k by omega]
  have e:recsF n at_ sz room (k+1) p=if (recsF n at_ sz room k (p+t)).2≠0 then ([],110) else (x::(recsF n at_ sz room k (p+t)).1,0):=by
    rw [show recsF n at_ sz room (k+1) p=match readS n at_ sz room p with
      |none=>([],110)
      |some (x,t)=>if (recsF n at_ sz room k (p+t)).2≠0 then ([],110) else (x::(recsF n at_ sz room k (p+t)).1,0) from rfl,h]
  rw [e]
  unfold cat
  by_cases h2:(recsF n at_ sz room k (p+t)).2≠0
  . rw [if_pos h2,if_pos h2,if_pos (by decide)]
  rw [if_neg h2,if_neg h2,if_neg (by simp),List.append_assoc];rfl
theorem recs_err {n at_ sz:Nat}{room:List Nat}:∀{k p:Nat},(recsF n at_ sz room k p).2≠0->recsF n at_ sz room k p=([],110)
  |0,p,h=>absurd rfl h
  |k+1,p,h=>by
    have e:recsF n at_ sz room (k+1) p=match readS n at_ sz room p with
      |none=>([],110)
      |some (x,t)=>if (recsF n at_ sz room k (p+t)).2≠0 then ([],110) else (x::(recsF n at_ sz room k (p+t)).1,0):=rfl
    rw [e] at h ⊢
    cases hr:readS n at_ sz room p with
    |none=>rfl
    |some y=>
      rw [hr] at h
      simp only at h ⊢
      by_cases h2:(recsF n at_ sz room k (p+y.2)).2≠0
      . rw [if_pos h2]
      rw [if_neg h2] at h;exact absurd rfl h
theorem cat_nil {n at_ sz k p:Nat}{room:List Nat}:cat [] (recsF n at_ sz room k p)=recsF n at_ sz room k p:=by
  unfold cat
  by_cases h:(recsF n at_ sz room k p).2≠0
  . rw [if_pos h,recs_err h]
  rw [if_neg h];exact Prod.ext rfl (by simp only;omega)
theorem read_room {n at_ sz p:Nat}{room:List Nat}{x:Nat×List Nat}{t:Nat}(h:readS n at_ sz room p=some (x,t)):p+t<=room.length/\ 24<=t:=by
  unfold readS at h
  split at h;cases h
  split at h;cases h
  split at h;cases h
  rename_i h3
  split at h;cases h
  simp only [Option.some.injEq,Prod.mk.injEq] at h
  omega
attribute [local irreducible] crk crL crc Sl pt ro Dev imgS recS readS recsF rdW rdO rkT Parts
theorem Zj1 {p r:Prop}(k:r)(h:Kq r->p:=by intro k;refine ⟨by repeat (first|with_reducible exact dr_refl|apply dr_keep|apply dr_drop), ?_⟩;refine tm 15 rfl kqz rfl (o_move wqz) ?_;exact k.o):p:=h ⟨k⟩
theorem Records_c {A R:SP}{C:SP->SP}{d:Nat}{s:DevS}(hc:Ct A (Dev d s) R C:=by exact cbqz){bl at_ sz:Nat}(hl:Has R bl (cl (lcs11 d at_ sz) 99):=by exact hbqz)(hlw:LogW (s.ls.length*64) at_ sz:=by assumption):
    Fn Tryz.prog 108 #[pz bl] A (λ r B=>∃a2 c2 vs,r= .tuple #[.slice a2 (recordsS at_ sz s).1.length c2,.int .i64 (recordsS at_ sz s).2]/\ (recordsS at_ sz s).1.length<=c2/\ vs.length=(recordsS at_ sz s).1.length/\ B=C (Dev d s)*Parts vs ((recordsS at_ sz s).1.map (·.2))*Sl 2 (.slice a2 (recordsS at_ sz s).1.length c2) (recordsS at_ sz s).1.length (kcl (recordsS at_ sz s).1 vs)):=by
  refine fn_enterW func108 rfl ntmps108 (by simp) ?_;refine tc_have (λ _ _ h=>ct_wf2 hc h) λ hw=> ?_
  have htop:=hw.top;have hpos:=hw.pos;obtain ⟨rfl,hC⟩:=hc;have hAC:∀g w,sat g w (R*Dev d s)->sat g w (C (Dev d s)):=λ g w h=>by rw [hC];exact h
  have hlw9:=hlw;obtain ⟨w1,w2,w3,w4,w5⟩:=hlw9;refine Zc3 ?_;refine tl_c rfl (o_call bd162 rfl (ready11_c (s:=s) (hl:=hl))) ?_;refine Zgd ?_;refine tc_cond rfl (sbq ?_) (λ h=> ?_)
  . intro h;refine Ze1 ?_;have ho:=stE_off h;have es:stE s=5:=(by unfold stE;rw [if_pos ho]);rw [es]
    have e0:recordsS at_ sz s=([],5):=(by unfold recordsS;rw [if_pos ho]);rw [e0]
    exact ⟨.tuple #[.slice none 0 0,.int .i64 (5)],C (Dev d s)*Parts [] []*Sl 2 (.slice none 0 0) 0 [],res2 rfl rfl rfl,λ _ _ h=>sl_nil (show sat _ _ (C (Dev d s)*Parts [] []) by rw [hC,show Parts [] []=emp by unfold Parts;rfl,star_emp];exact Dr.sat (A':=R*Dev d s) drqz _ _ h),none,0,[],rfl,Nat.le_refl _,rfl,rfl⟩
  have ho:s.off=false:=stE_on (by simpa using h);have hw2:=word_in (p:=at_) ho oqz oqz;obtain ⟨v,hv⟩:∃v,(wordP (at_:Nat) s).1=v:=⟨_,rfl⟩;have hvl:v<18446744073709551616:=(by rw [←hv,hw2];exact nm8_lt λ x hx=>img_lt x (List.mem_of_mem_drop hx));obtain ⟨room,hroom⟩:∃room,roomS at_ sz s=room:=⟨_,rfl⟩;have hil:=imgS_len hw;have hrl:room.length=sz-64:=(by rw [←hroom];unfold roomS;rw [List.length_take,List.length_drop,hil];omega);have hrb:∀x∈room,x<256:=λ x hx=>by rw [←hroom] at hx;exact img_sub x hx
  have hrec:recordsS at_ sz s=recsF (s.ls.length*64) at_ sz room v 0:=(by unfold recordsS;rw [if_neg (by rw [ho];decide),hv,hroom]);refine Zc ?_;refine Zfr ?_;refine Zbk ?_;refine Zk4 ?_;refine Zbk ?_;refine Zev ?_;refine ql_c rfl (λ w=>exec_call bd163 rfl) (Word_c (s:=s) (p:=(at_:Nat))) ?_;refine ql_v rfl (o_move wqz) ?_;refine ql_v rfl (o_extract rfl rfl) ?_;refine ql_env (d:=28) (v:= .int .u64 (v:Nat)) (by show Value.int .u64 ((wordP (at_:Nat) s).1:Nat)=_;rw [hv]) ?_;refine ql_v rfl (o_extract rfl rfl) ?_;refine ql_env (d:=29) (v:= .int .i64 0) (by show Value.int .i64 (wordP (at_:Nat) s).2=_;rw [hw2]) ?_;refine ql_v rfl (o_assign wqz) ?_;refine Zf5 ?_;refine Ze ?_;refine Zck ?_;intro h;refine Zdf ?_;refine Zca ?_;refine tc_cond rfl (λ h=> ?_) (λ h=> ?_)
  . have hv0:v=0:=(by first|(have h9:=of_decide_eq_true h;omega)|(simp at h;omega));refine Zgs ?_;have e0:recordsS at_ sz s=([],0):=(by rw [hrec,hv0];unfold recsF;rfl);rw [e0]
    exact ⟨.tuple #[.slice none 0 0,.int .i64 (0)],C (Dev d s)*Parts [] []*Sl 2 (.slice none 0 0) 0 [],res2 rfl rfl rfl,λ _ _ h=>sl_nil (show sat _ _ (C (Dev d s)*Parts [] []) by rw [hC,show Parts [] []=emp by unfold Parts;rfl,star_emp];exact Dr.sat (A':=R*Dev d s) drqz _ _ h),none,0,[],rfl,Nat.le_refl _,rfl,rfl⟩
  have hv0:v≠0:=(by first|(have h9:=of_decide_eq_false h;omega)|(simp at h;omega));refine Zhp ?_;refine tc_regh (S:=R) mo drqz ?_
  show TH _ _ _ _ _ 20 (Array.replicate 20 false) _ _
  refine Zq ?_;refine Zda ?_;refine Zem ?_;refine Zel ?_;refine tm 8 rfl kqz rfl adqz ?_;refine th_env (d:=44) (v:=(vn (at_+64))) (by first|rfl|(show Value.int .i64 _=_;congr 1;omega)) ?_;refine tm 9 rfl kqz rfl (o_move wqz) ?_;refine tm 10 rfl kqz rfl (o_nilCheck rfl) ?_;refine tm 11 rfl kqz rfl (o_fieldAddr (o:=2) underlying99 rfl rfl sz3 rfl) ?_;refine tm 12 rfl kqz rfl (o_load p3 rfl haqz rfl) ?_;refine tm 13 rfl kqz rfl (o_subI rfl rfl oqz) ?_;refine th_env (d:=49) (v:=(vn (sz-64))) (by show Value.int .i64 ((sz:Int)-64)=_;congr 1;omega) ?_;refine th_one (i:=14) kqz ?_;refine oh_c rfl rfl rfl (o_call bd110 rfl (Load_c (s:=s) (p:=at_+64) (m:=sz-64))) ?_;rintro _ _ ⟨a50,c50,rfl,hc50,rfl⟩;refine Zj1 ?_;refine tm 16 rfl kqz rfl (o_extract rfl rfl) ?_;refine tm 17 rfl kqz rfl (o_extract rfl rfl) ?_;refine tm 18 rfl kqz rfl (o_assign wqz) ?_;refine tm 19 rfl kqz rfl (o_assign wqz) ?_;refine Zba ?_;refine Ze ?_;refine Zck ?_;intro h;refine Zc ?_;refine Zj ?_;refine Zgo ?_;refine tc_pre (A':=R*Dev d s*Sl 1 (.slice a50 (sz-64) c50) (sz-64) (bys room)*Parts [] []*Sl 2 (.slice none 0 0) 0 []) (λ _ _ h=>sl_nil (show sat _ _ (R*Dev d s*Sl 1 (.slice a50 (sz-64) c50) (sz-64) (bys room)*Parts [] []) by rw [show Parts [] []=emp by unfold Parts;rfl,star_emp];rw [←hroom];exact h)) ?_;refine tc_loop (λ kk ρ BB=>∃ (j:Nat) (p:Nat) (n:Nat) (D:List (Nat×List Nat)) (vs:List Value) (a8:Option Addr) (c8:Nat),(cat D (recsF (s.ls.length*64) at_ sz room j p)=recordsS at_ sz s)/\ (p<=sz-64)/\ (D.length=n)/\ (vs.length=n)/\ (n<=c8)/\ (j<18446744073709551616)/\ (24*n<=p)/\ kk=j/\ ρ 5= .int .u64 (j:Nat)/\ ρ 8= .slice a8 n c8/\ ρ 9=(vn p)/\ ρ 0=(pz bl)/\ ρ 7= .slice a50 (sz-64) c50/\ Dr BB (R*Dev d s*Sl 1 (.slice a50 (sz-64) c50) (sz-64) (bys room)*Parts vs (D.map (·.2))*Sl 2 (.slice a8 n c8) n (kcl D vs))) (m:=(v)) ?_ ?_
  . exact ⟨v,0,0,[],[],none,0,by rw [hrec,cat_nil],by omega,rfl,rfl,by omega,hvl,by omega,rfl,rfl,rfl,rfl,rfl,rfl,drqz⟩
  intro k ρ B hI;obtain ⟨j,p,n,D,vs,a8,c8,hp0,hp1,hp2,hp3,hp4,hp5,hp6,hkk1,hE5,hE8,hE9,hE0,hE7,hBA⟩:=hI;refine tc_pre hBA.sat ?_;clear hBA;refine te 5 hE5 ?_;refine te 8 hE8 ?_;refine te 9 hE9 ?_;refine te 0 hE0 ?_;refine te 7 hE7 ?_;refine Ze ?_;refine Ze4 ?_;refine tc_cond rfl (λ h=> ?_) (λ h=> ?_)
  . have hj:0<j:=(by first|omega|(simp at h;omega));refine Zin ?_;refine Z2 ?_;refine tl_c rfl (o_call bd170 rfl (read_c (s:=s) (p:=p) (room:=room))) ?_;rintro _ _ ⟨a64,c64,rfl,hc64,rfl⟩;refine Zb1 ?_;refine tv (o_extract rfl rfl) ?_;refine tl_x rfl (o_alloc z253 rfl) ?_;rintro _ _ ⟨b10,rfl,rfl⟩;refine tl_u rfl (o_stUN (l':=[.int .i64 ((rdW (readS (s.ls.length*64) at_ sz room p):Nat):Int),(.slice a64 (rdO (readS (s.ls.length*64) at_ sz room p)).length c64)]) rfl upqz sz253 rfl rfl rfl (by show 2<=2;decide) rfl) ?_;refine Zbx ?_;refine tv (o_not rfl) ?_;refine nq ?_;refine tc_cond rfl (λ h=> ?_) (λ h=> ?_)
    . have hrd:(readS (s.ls.length*64) at_ sz room p)=none:=(by rcases hq9:(readS (s.ls.length*64) at_ sz room p) with _|x;rfl;rw [hq9] at h;simp at h);refine Zlh ?_;have e0:recordsS at_ sz s=([],110):=(by rw [←hp0,recs_none hrd hj]);rw [e0]
      exact ⟨.tuple #[.slice none 0 0,.int .i64 (110)],C (Dev d s)*Parts [] []*Sl 2 (.slice none 0 0) 0 [],res2 rfl rfl rfl,λ _ _ h=>sl_nil (show sat _ _ (C (Dev d s)*Parts [] []) by rw [hC,show Parts [] []=emp by unfold Parts;rfl,star_emp];exact Dr.sat (A':=R*Dev d s) drqz _ _ h),none,0,[],rfl,Nat.le_refl _,rfl,rfl⟩
    have hrd:=rd_some (o:=(readS (s.ls.length*64) at_ sz room p)) (by simpa using h);have hrm:=read_room hrd;refine Zc6 ?_;refine tv (o_loadN (vs:=[.int .i64 ((rdW (readS (s.ls.length*64) at_ sz room p):Nat):Int),(.slice a64 (rdO (readS (s.ls.length*64) at_ sz room p)).length c64)]) a253 sz253 rfl hsqz (by show 2<=2;decide) rfl) ?_;refine tl_x rfl (o_buildSliceK (k:=2) (l:=[.int .i64 ((rdW (readS (s.ls.length*64) at_ sz room p):Nat):Int),(.slice a64 (rdO (readS (s.ls.length*64) at_ sz room p)).length c64)]) underlying181 sz253 z253 rfl rfl (by decide)) ?_;rintro _ _ ⟨b72,rfl,rfl⟩;refine tl_x rfl (o_apB underlying181 underlying181 sz253 by253 z253 rfl (by decide) (by decide) rfl rfl rfl ctqz rfl rfl oqz (show _=kcl (D++[(rdW (readS (s.ls.length*64) at_ sz room p),rdO (readS (s.ls.length*64) at_ sz room p))]) (vs++[(.slice a64 (rdO (readS (s.ls.length*64) at_ sz room p)).length c64)]) by rw [kcl_snoc oqz])) ?_;rintro _ _ ⟨a73,c73,rfl,hc73,rfl⟩;have hps:Parts (vs++[(.slice a64 (rdO (readS (s.ls.length*64) at_ sz room p)).length c64)]) ((D++[(rdW (readS (s.ls.length*64) at_ sz room p),rdO (readS (s.ls.length*64) at_ sz room p))]).map (·.2))=Parts vs (D.map (·.2))*Sl 1 (.slice a64 (rdO (readS (s.ls.length*64) at_ sz room p)).length c64) (rdO (readS (s.ls.length*64) at_ sz room p)).length (bys (rdO (readS (s.ls.length*64) at_ sz room p))):=(by rw [List.map_append];exact parts_snoc (by rw [List.length_map];omega));refine tl_eq (show _=R*Dev d s*Sl 1 (.slice a50 (sz-64) c50) (sz-64) (bys room)*Parts (vs++[(.slice a64 (rdO (readS (s.ls.length*64) at_ sz room p)).length c64)]) ((D++[(rdW (readS (s.ls.length*64) at_ sz room p),rdO (readS (s.ls.length*64) at_ sz room p))]).map (·.2))*Sl 2 (.slice a73 (n+1) c73) (n+1) (kcl (D++[(rdW (readS (s.ls.length*64) at_ sz room p),rdO (readS (s.ls.length*64) at_ sz room p))]) (vs++[(.slice a64 (rdO (readS (s.ls.length*64) at_ sz room p)).length c64)]))*pt b10 (cl ([.int .i64 ((rdW (readS (s.ls.length*64) at_ sz room p):Nat):Int),(.slice a64 (rdO (readS (s.ls.length*64) at_ sz room p)).length c64)]:List Value) 253) by rw [hps];ac_rfl) ?_;refine Za ?_;refine Zfn ?_;refine tv adqz ?_;refine tl_env (d:=76) (v:= .int .i64 ((p+rkT (readS (s.ls.length*64) at_ sz room p):Nat):Int)) (by first|rfl|(show Value.int .i64 _=_;congr 1;omega)) ?_;refine Zdp ?_;refine Zm ?_;refine tv (o_sub rfl rfl) ?_;refine tl_env (d:=59) (v:= .int .u64 ((j-1:Nat):Int)) (by show Value.int .u64 (IntKind.u64.wrap ((j:Int)-1))=_;rw [show (j:Int)-1=((j-1:Nat):Int) by omega,wr_u64 oqz]) ?_;refine Za ?_;exact ⟨_,by omega,j-1,_,n+1,D++[(rdW (readS (s.ls.length*64) at_ sz room p),rdO (readS (s.ls.length*64) at_ sz room p))],vs++[(.slice a64 (rdO (readS (s.ls.length*64) at_ sz room p)).length c64)],a73,c73,by rw [←recs_some hrd hj];exact hp0,by omega,by rw [List.length_append,hp2];rfl,by rw [List.length_append,hp3];rfl,hc73,by omega,by omega,rfl,rfl,rfl,rfl,rfl,rfl,drqz⟩
  obtain rfl:j=0:=by first|omega|(simp at h;omega)
  refine Zkg ?_;have e0:recordsS at_ sz s=(D,0):=(by rw [←hp0];unfold recsF cat;rw [if_neg (by simp),List.append_nil]);rw [e0]
  exact ⟨.tuple #[.slice a8 n c8,.int .i64 0],R*Dev d s*Parts vs (D.map (·.2))*Sl 2 (.slice a8 n c8) n (kcl D vs),res2 rfl rfl rfl,Dr.sat drqz,a8,c8,vs,by rw [hp2],by rw [hp2];exact hp4,by rw [hp3];exact hp2.symm,by rw [hC];simp only [];rw [hp2]⟩
end Go.Vl

namespace Go.Vl
open Go Go.Proofs Go.Proofs.Tryz
namespace Rg
section
variable {P:Program} {n:Nat} {ops:Array Oper} {A:SP} {ρ:Env} {o:Oper} {rest:List Oper} {Q:Post}
def QL (P:Program)(n:Nat)(ops:Array Oper)(A:SP)(K:Env->Prop)(l:List Oper)(ρ:Env):Prop:=
  ∀g a,Agr n ρ a->wpQuietIn (Fc ⟨none⟩) 0 P ops (λ w=>sat g w A) (λ a'=>∃ρ',Agr n ρ' a'/\ K ρ') l a
theorem ql_nil {K:Env->Prop}(h:K ρ):QL P n ops A K [] ρ:=λ g a ha=>wpQuietIn_nil ⟨ρ,ha,h⟩
theorem ql_skip {K:Env->Prop}(hw:wantE n ops ρ o=false)(k:QL P n ops A K rest (put n ρ o.dst undef)):QL P n ops A K (o::rest) ρ:=λ g a ha=>by
  unfold wpQuietIn
  rw [want_eq ha,hw]
  exact ⟨λ _ _ _ _=>trivial,k g _ (ha.put _ _)⟩
theorem ql_v {K:Env->Prop}{v:Value}(hw:wantE n ops ρ o=true)(h:OpV P n ρ A o v)(k:QL P n ops A K rest (put n ρ o.dst v)):QL P n ops A K (o::rest) ρ:=λ g a ha=>by
  unfold wpQuietIn
  rw [want_eq ha,hw,if_pos rfl]
  refine ⟨λ _ _ _ _=>trivial,v,λ w hs=> ?_,k g _ (ha.put _ _)⟩
  unfold Oper.quietAtIn
  rw [ha.eval,h g w hs]
  exact ⟨rfl,rfl⟩
theorem ql_env {K:Env->Prop}{l:List Oper}{d:Nat}{v:Value}(h:ρ d=v)(k:QL P n ops A K l (upd ρ d v)):QL P n ops A K l ρ:=by
  rw [←env_set h] at k;exact k
theorem ql_bool {K:Env->Prop}{l:List Oper}{d:Nat}{b:Bool}(hv:ρ d= .bool b)(ht:b=true->QL P n ops A K l (upd ρ d (.bool true)))(hf:b=false->QL P n ops A K l (upd ρ d (.bool false))):QL P n ops A K l ρ:=by
  cases b with
  |true=>exact ql_env hv (ht rfl)
  |false=>exact ql_env hv (hf rfl)
theorem tc_regq {id:Nat}{l:List Oper}(hm:P.follows .mixedOrders=true)(hB:Region.lexB .any l.toArray=true)(h:QL P n l.toArray A (λ ρ'=>Q .normal ρ' A) l ρ):
    @TC ⟨none⟩ P n (.region id l.toArray true) Q ρ A:=λ g a w ha hs=>by
  refine wpIn_region_quiet (C:=λ w=>sat g w A) rfl hm hB (hs.draw rfl rfl rfl rfl) ?_;have hh:=h g a ha;have he:l.toArray.toList=l:=(by simp);rw [he]
  have mono:∀ (l':List Oper) (a:Act),wpQuietIn (Fc ⟨none⟩) 0 P l.toArray (λ w=>sat g w A) (λ a'=>∃ρ',Agr n ρ' a'/\ Q .normal ρ' A) l' a→
      wpQuietIn (Fc ⟨none⟩) 0 P l.toArray (λ w=>sat g w A) (λ a'=>∀w',sat g w' A->lift g n Q .normal a' w') l' a:=by
    intro l'
    induction l' with
    |nil=>intro a ⟨ρ',h1,h2⟩ w' hw';exact ⟨rfl,ρ',A,h1,hw',h2⟩
    |cons o l' ih=>
      intro a h
      unfold wpQuietIn at h ⊢
      refine ⟨h.1, ?_⟩;have h2:=h.2
      split
      . rename_i hw
        rw [if_pos hw] at h2
        exact Oper.quietIn_mono (λ a=>ih a) h2
      rename_i hw
      rw [if_neg hw] at h2
      exact ih _ h2
  exact mono l a hh
end
end Rg
namespace Rg
section
variable {P:Program} {m:Nat} {ops:Array Oper} {μ:Rm}
def nodB (l:List Oper):Bool:=l.all λ o=>match o.op with| .defer _=>false|_=>true
theorem nod_of {l:List Oper}(h:nodB l=true):∀ (i:Nat) (o:Oper),l.toArray[i]? =some o->∀c,o.op≠ .defer c:=λ i o hi c e=>by
  have h1:=List.all_eq_true.1 h o (List.mem_of_getElem? (by simpa using hi))
  simp [e] at h1
theorem upon_tr {o:Oper}{a:Act}{K:Act->World->Prop}{Q:Exit->Act->World->Prop}{r:Result Next}:Oper.uponIn (Fc ⟨none⟩) m P o a K Q r=Oper.uponIn (Fc μ) m P o a K Q r:=by
  cases r with
  |ok x w=>cases x<;>rfl
  |halt x w=>cases x<;>rfl
theorem op_tr {i:Nat}{K:Act->World->Prop}{Q:Exit->Act->World->Prop}{a:Act}{w:World}(hnd:∀ (i:Nat) (o:Oper),ops[i]? =some o->∀c,o.op≠ .defer c)(h:wpOpIn (Fc ⟨none⟩) m P ops Q i K a w):wpOpIn (Fc μ) m P ops Q i K a w:=by
  unfold wpOpIn at*
  cases hi:ops[i]? with
  |none=>simpa [hi] using h
  |some o=>
    simp only [hi] at h ⊢
    split
    . rename_i hw
      simp only [hw,if_true] at h
      unfold Oper.wpIn at*
      rw [Oper.semAt_eq _ _ _ (hnd i o hi)] at h ⊢
      rw [←upon_tr]
      exact h
    rename_i hw
    simp only [hw] at h
    exact h
theorem any_tr {Q:Exit->Act->World->Prop}(hnd:∀ (i:Nat) (o:Oper),ops[i]? =some o->∀c,o.op≠ .defer c):∀ (fuel:Nat) (listed:Array Bool) (a:Act) (w:World),wpAnyIn (Fc ⟨none⟩) m P .any ops Q fuel listed a w->wpAnyIn (Fc μ) m P .any ops Q fuel listed a w
  |0,_,_,_,h=>h
  |fuel+1,_,_,_,h=>⟨h.1,λ i hi=>op_tr hnd (wpOpIn_mono (λ a w=>any_tr hnd fuel _ a w) (h.2 i hi))⟩
theorem tc_regt {n:Nat}{Q:Post}{ρ:Env}{A:SP}{id:Nat}{l:List Oper}(hm:P.follows .mixedOrders=true)(hd:nodB l=true)
    (h:∀g a w,Agr n ρ a->sat g w A->wpAnyIn (Fc ⟨none⟩) 0 P .any l.toArray (lift g n Q) l.length (Array.replicate l.length false) a w): @TC μ P n (.region id l.toArray true) Q ρ A:=λ g a w ha hs=>
  wpIn_region_any hm (by
    have h1:=h g a { w with drawn:=w.drawn+1 } ha (hs.draw rfl rfl rfl rfl);have h2:=any_tr (μ:=μ) (nod_of hd) _ _ _ _ h1
    simpa using h2)
end
end Rg
namespace Rg
section
variable {P:Program} {n:Nat} {ops:Array Oper} {A S:SP} {ρ:Env} {o:Oper} {Q:Post}
def notCall (o:Oper):Bool:=match o.op with| .call _=>false|_=>true
theorem about_none {o:Oper}(h:notCall o=true)(w:World)(e:Operand->Value):o.about P w e=none:=by
  unfold notCall at h
  unfold Oper.about
  cases ho:o.op<;>first|rfl|(simp [ho] at h)
def TH (P:Program)(n:Nat)(ops:Array Oper)(Q:Post)(S:SP)(fuel:Nat)(listed:Array Bool)(ρ:Env)(A:SP):Prop:=
  ∀g a w,Agr n ρ a->sat g w A->wpAnyIn (Fc ⟨none⟩) 0 P .any ops (lift g n Q) fuel listed a w
theorem tc_regh {μ:Rm}{id:Nat}{l:List Oper}(hm:P.follows .mixedOrders=true)(hd:Dr A S)(h:TH P n l.toArray Q S l.length (Array.replicate l.length false) ρ A)(hn:nodB l=true:=by kernel_rfl): @TC μ P n (.region id l.toArray true) Q ρ A:=
  tc_regt hm hn h
theorem th_done {fuel:Nat}{listed:Array Bool}(hr:Region.ready .any ops listed=[])(h:Q .normal ρ A):TH P n ops Q S fuel listed ρ A:=λ g a w ha hs=>
  wpAnyIn_done hr ⟨rfl,ρ,A,ha,hs,h⟩ fuel
theorem th_take {fuel i:Nat}{listed listed':Array Bool}{v:Value}(hi:ops[i]? =some o)(hs':Region.noSelect ops=true)(hf:Region.free .any ops listed i=true)(hr:(Region.ready .any ops listed).contains i=true)
    (hl:listed.setIfInBounds i true=listed') (hw:wantE n ops ρ o=true) (hv:OpV P n ρ emp o v) (k:TH P n ops Q S fuel listed' (put n ρ o.dst v) A) (hc:notCall o=true:=by rfl):TH P n ops Q S (fuel+1) listed ρ A:=λ g a w ha hs=>
  wpAnyIn_take rfl hi hs' hf hr (λ c a w h=>absurd h.1 (by simp [okE])) ⟨.inl ⟨by rw [want_eq ha,hw],λ w'=>by
    rw [ha.eval]
    exact hv ⟨w'.os,w'.tape,w'.output⟩ w' ⟨rfl,rfl,rfl,_,rfl,λ _ _ _ h=>by cases h⟩⟩,λ w'=>about_none hc w' _⟩ (by rw [hl];exact k g _ w (ha.put _ _) hs)
def OH (P:Program)(n:Nat)(ops:Array Oper)(Q:Post)(S:SP)(fuel i:Nat)(listed:Array Bool)(ρ:Env)(A:SP):Prop:=
  ∀g a w,Agr n ρ a->sat g w A->wpOpIn (Fc ⟨none⟩) 0 P ops (lift g n Q) i (wpAnyIn (Fc ⟨none⟩) 0 P .any ops (lift g n Q) fuel (listed.setIfInBounds i true)) a w
theorem th_all {fuel:Nat}{listed:Array Bool}{rs:List Nat}(hr:Region.ready .any ops listed=rs)(hne:rs≠[])(h:∀i∈rs,OH P n ops Q S fuel i listed ρ A):TH P n ops Q S (fuel+1) listed ρ A:=λ g a w ha hs=>
  wpAnyIn_all hr hne λ i hi=>h i hi g a w ha hs
theorem th_one {fuel i:Nat}{listed:Array Bool}(hr:Region.ready .any ops listed=[i])(h:OH P n ops Q S fuel i listed ρ A):TH P n ops Q S (fuel+1) listed ρ A:=th_all hr (by simp) (by simpa using h)
theorem th_two {fuel i j:Nat}{listed:Array Bool}(hr:Region.ready .any ops listed=[i,j])(h:OH P n ops Q S fuel i listed ρ A)(h':OH P n ops Q S fuel j listed ρ A):TH P n ops Q S (fuel+1) listed ρ A:=
  th_all hr (by simp) (by simpa using ⟨h,h'⟩)
theorem th_three {fuel i j k:Nat}{listed:Array Bool}(hr:Region.ready .any ops listed=[i,j,k])(h:OH P n ops Q S fuel i listed ρ A)(h':OH P n ops Q S fuel j listed ρ A)(h'':OH P n ops Q S fuel k listed ρ A):TH P n ops Q S (fuel+1) listed ρ A:=
  th_all hr (by simp) (by simpa using ⟨h,h',h''⟩)
section
variable {fuel i:Nat} {listed listed':Array Bool}
theorem oh_v {v:Value}(hi:ops[i]? =some o)(hl:listed.setIfInBounds i true=listed')(hw:wantE n ops ρ o=true)(h:OpV P n ρ A o v)(k:TH P n ops Q S fuel listed' (put n ρ o.dst v) A):OH P n ops Q S fuel i listed ρ A:=λ g a w ha hs=>by
  subst hl
  unfold wpOpIn
  simp only [hi,want_eq ha,hw,if_true]
  refine ⟨λ _ _=>trivial, ?_⟩;rw [ha.eval,sem_eq (h g w hs) (by simp)]
  exact k g _ w (ha.put _ _) hs
theorem oh_x {R:Value->SP->Prop}(hi:ops[i]? =some o)(hl:listed.setIfInBounds i true=listed')(hw:wantE n ops ρ o=true)(h:OpX P n ρ A o R)(k:∀v B,R v B->Dr B S/\ TH P n ops Q S fuel listed' (put n ρ o.dst v) B):OH P n ops Q S fuel i listed ρ A:=λ g a w ha hs=>by
  subst hl
  unfold wpOpIn
  simp only [hi,want_eq ha,hw,if_true]
  refine ⟨λ _ _=>trivial, ?_⟩;obtain ⟨v,w',B,hr,hb,hR⟩:=h g w hs;rw [ha.eval,sem_eq hr (by simp)]
  exact (k v B hR).2 g _ w' (ha.put _ _) hb
theorem oh_c {R:Value->SP->Prop}(hi:ops[i]? =some o)(hl:listed.setIfInBounds i true=listed')(hw:wantE n ops ρ o=true)(h:OpC P n ρ A o R)(k:∀v B,R v B->Dr B S/\ TH P n ops Q S fuel listed' (put n ρ o.dst v) B):OH P n ops Q S fuel i listed ρ A:=λ g a w ha hs=>by
  subst hl
  unfold wpOpIn
  simp only [hi,want_eq ha,hw,if_true]
  refine ⟨λ _ _=>trivial, ?_⟩;obtain ⟨f,args,w',hr,hc⟩:=h g w hs;rw [ha.eval,sem_eq hr (by simp)]
  refine ⟨λ h=>(by cases h), ?_⟩;have hc':CallsIn Fence.wide (0-1) P f args w' λ e w''=>∃v B,e= .returned v/\ R v B/\ sat g w'' B:=callsIn_wide.2 hc
  refine CallsIn.mono (show CallsIn (Fc ⟨none⟩) (0-1) P f args w' _ from hc') λ e w'' ⟨v,B,he,hR,hb⟩=> ?_
  subst he;exact (k v B hR).2 g _ w'' (ha.put _ _) hb
theorem oh_u {B:SP}(hi:ops[i]? =some o)(hl:listed.setIfInBounds i true=listed')(hw:wantE n ops ρ o=true)(h:OpU P n ρ A o B)(hd:Dr B S)(k:TH P n ops Q S fuel listed' (put n ρ o.dst undef) B):OH P n ops Q S fuel i listed ρ A:=λ g a w ha hs=>by
  subst hl
  unfold wpOpIn
  simp only [hi,want_eq ha,hw,if_true]
  refine ⟨λ _ _=>trivial, ?_⟩;obtain ⟨w',hr,hb⟩:=h g w hs;rw [ha.eval,sem_eq hr (by simp)]
  exact k g _ w' (ha.put _ _) hb
end
theorem th_env {fuel:Nat}{listed:Array Bool}{d:Nat}{v:Value}(h:ρ d=v)(k:TH P n ops Q S fuel listed (upd ρ d v) A):TH P n ops Q S fuel listed ρ A:=by
  rw [←env_set h] at k;exact k
end
end Rg
theorem has_rt {F R:SP}{b:Nat}{o:Obj}(k:Has R b o):Has (F*R) b o:=λ g w h=>k g w h.right
theorem flL_e {N i q:Nat}{s s2:DevS}{e:Int}(hi:i<N)(h:fl1 (((q+i)*64:Nat):Int) s=(e,s2))(he:e≠0):flL (N-i) (q+i) s=(e,s2):=by
  rw [show N-i=(N-(i+1))+1 by omega]
  show (if _ then _ else _)=_
  rw [h,if_pos he]
theorem flL_o {N i q:Nat}{s s2:DevS}(hi:i<N)(h:fl1 (((q+i)*64:Nat):Int) s=(0,s2)):flL (N-i) (q+i) s=flL (N-(i+1)) (q+(i+1)) s2:=by
  rw [show N-i=(N-(i+1))+1 by omega]
  show (if _ then _ else _)=_
  rw [h,if_neg (by simp)];rfl
attribute [local irreducible] crk crL crc Sl pt ro Dev imgS recS readS recsF rdW rdO rkT Parts
namespace Rg
theorem Yb5 {p r:Prop}(k:r)(h:Kq r->p:=by intro k;refine oh_v rfl rfl rfl (by first|exact o_load p89 rfl (by repeat (first|with_reducible exact has_here|with_reducible exact has_pt|apply has_left)) rfl|exact o_loadC p89 rfl (by assumption)) ?_;refine th_take (i:=1) rfl kqz kqz kqz rfl rfl (o_nilCheck rfl) ?_;refine th_take (i:=2) rfl kqz kqz kqz rfl rfl (o_fieldAddr (o:=0) underlying99 rfl rfl sz47 rfl) ?_;exact k.o):p:=h ⟨k⟩
theorem Yds {p r:Prop}(k:r)(h:Kq r->p:=by intro k;refine th_one (i:=7) kqz ?_;refine oh_v rfl rfl rfl (by first|exact o_load p57 rfl (by repeat (first|with_reducible exact has_here|with_reducible exact has_pt|apply has_left)) rfl|exact o_loadC p57 rfl (by assumption)) ?_;exact k.o):p:=h ⟨k⟩
theorem Yd7 {p r:Prop}(k:r)(h:Kq r->p:=by intro k;refine ⟨by repeat (first|with_reducible exact dr_refl|apply dr_keep|apply dr_drop), ?_⟩;refine th_take (i:=9) rfl kqz kqz kqz rfl rfl (o_assign wqz) ?_;refine th_done kqz ?_;exact k.o):p:=h ⟨k⟩
theorem Ydv {p r:Prop}(k:r)(h:Kq r->p:=by intro k;refine th_one (i:=5) kqz ?_;refine oh_v rfl rfl rfl (by first|exact o_load p3 rfl (by repeat (first|with_reducible exact has_here|with_reducible exact has_pt|apply has_left)) rfl|exact o_loadC p3 rfl (by assumption)) ?_;exact k.o):p:=h ⟨k⟩
theorem Ylr {p r:Prop}(k:r)(h:Kq r->p:=by intro k;refine oh_v rfl rfl rfl (o_load p47 rfl (by repeat (first|assumption|apply has_left)) rfl) ?_;refine Yds ?_;exact k.o):p:=h ⟨k⟩
theorem Yf1 {p r:Prop}(k:r)(h:Kq r->p:=by intro k;refine th_one (i:=3) kqz ?_;refine oh_v rfl rfl rfl (o_load p47 rfl (by repeat (first|assumption|apply has_left)) rfl) ?_;refine th_one (i:=8) kqz ?_;exact k.o):p:=h ⟨k⟩
theorem Yha {p r:Prop}(k:r)(h:Kq r->p:=by intro k;refine oh_v rfl rfl rfl (by first|exact o_load p57 rfl (by repeat (first|with_reducible exact has_here|with_reducible exact has_pt|apply has_left)) rfl|exact o_loadC p57 rfl (by assumption)) ?_;refine Yf1 ?_;exact k.o):p:=h ⟨k⟩
theorem Yls {p r:Prop}(k:r)(h:Kq r->p:=by intro k;refine oh_v rfl rfl rfl (o_load p47 rfl (by repeat (first|assumption|apply has_left)) rfl) ?_;refine Ydv ?_;exact k.o):p:=h ⟨k⟩
theorem Yhc {p r:Prop}(k:r)(h:Kq r->p:=by intro k;refine oh_v rfl rfl rfl (by first|exact o_load p3 rfl (by repeat (first|with_reducible exact has_here|with_reducible exact has_pt|apply has_left)) rfl|exact o_loadC p3 rfl (by assumption)) ?_;refine Yf1 ?_;exact k.o):p:=h ⟨k⟩
theorem Yef {p r:Prop}(k:r)(h:Kq r->p:=by intro k;refine Ybw ?_;refine tl_v rfl (by first|exact o_load p89 rfl (by repeat (first|with_reducible exact has_here|with_reducible exact has_pt|apply has_left)) rfl|exact o_loadC p89 rfl (by assumption)) ?_;exact k.o):p:=h ⟨k⟩
theorem Yll {p r:Prop}(k:r)(h:Kq r->p:=by intro k;refine tl_v rfl (o_nilCheck rfl) ?_;refine tl_v rfl (o_fieldAddr (o:=0) underlying99 rfl rfl sz47 rfl) ?_;exact k.o):p:=h ⟨k⟩
theorem back_c {A R:SP}{C:SP->SP}{d:Nat}{s:DevS}(hc:Ct A (Dev d s) R C:=by repeat (first|with_reducible exact ct_here|apply ct_left)){bl at_ sz:Nat}(hl:Has R bl (cl (lcs11 d at_ sz) 99):=by (repeat (first|assumption|with_reducible exact has_here|with_reducible exact has_pt|apply has_left))){a:Option Addr}{c m p:Nat}{xs:List Nat}(hr:Rs R a (bys xs):=by repeat (first|assumption|with_reducible exact rs_sl|with_reducible exact rs_pt0|exact rs_none|apply Rs.left))(hm:xs.length=m:=by first|assumption|rfl)(hmc:m<=c:=by first|assumption|omega)(hb:∀x∈xs,x<256:=by assumption)(h1:1<=m:=by omega)(hpm:p+m<=s.ls.length*64:=by omega)(hroom:Room m s:=by assumption):
    Fn Tryz.prog 172 #[pz bl,.agg #[vn p,.slice a m c]] A (λ r B=>∃e s2,backS (p,xs) s=(e,s2)/\ r= .int .i64 e/\ B=C (Dev d s2)):=by
  refine fn_enterW func172 rfl ntmps172 (by simp) ?_;refine tc_have (λ _ _ h=>ct_wf2 hc h) λ hw=> ?_
  have htop:=hw.top;have hpos:=hw.pos;obtain ⟨rfl,hC⟩:=hc;have hAC:∀g w,sat g w (R*Dev d s)->sat g w (C (Dev d s)):=λ g w h=>by rw [hC];exact h
  refine Ybw ?_;refine tl_x rfl (o_box rfl rfl) ?_;rintro _ _ ⟨b2,rfl,rfl⟩;refine tl_x rfl (o_box rfl rfl) ?_;rintro _ _ ⟨b3,rfl,rfl⟩;refine tl_x rfl (o_alloc z33 rfl) ?_;rintro _ _ ⟨b4,rfl,rfl⟩;refine Yby ?_;refine tc_seq ?_;refine tc_seq ?_;refine tc_cut (λ ρ BB=>∃ (e16:Int) (s16:DevS),(sto (p:Nat) xs s=(e16,s16))/\ ρ 5= .int .i64 e16/\ ρ 37=undef/\ ρ 2=(pz b2)/\ ρ 3=(pz b3)/\ ρ 4=(pz b4)/\ BB=R*Dev d s16*pt b2 (cl [pz bl] 89)*pt b3 (cl [vn p,.slice a m c] 253)*pt b4 (cl [.int .i64 0] 33)) ?_ ?_
  . skip
    refine tc_regh (S:=R) mo (by repeat (first|with_reducible exact dr_refl|apply dr_keep|apply dr_drop)) ?_
    show TH _ _ _ _ _ 10 (Array.replicate 10 false) _ _
    refine th_take (i:=4) rfl kqz kqz kqz rfl rfl (o_fieldAddr (o:=0) underlying253 rfl rfl sz3 rfl) ?_;refine th_take (i:=6) rfl kqz kqz kqz rfl rfl (o_fieldAddr (o:=1) underlying253 rfl rfl sz57 rfl) ?_;refine th_three (i:=0) (j:=5) (k:=7) kqz ?_ ?_ ?_
    . skip
      refine Yb5 ?_;refine th_three (i:=3) (j:=5) (k:=7) kqz ?_ ?_ ?_
      . skip
        refine oh_v rfl rfl rfl (o_load p47 rfl (by repeat (first|assumption|apply has_left)) rfl) ?_;refine th_two (i:=5) (j:=7) kqz ?_ ?_
        . skip
          refine oh_v rfl rfl rfl (by first|exact o_load p3 rfl (by repeat (first|with_reducible exact has_here|with_reducible exact has_pt|apply has_left)) rfl|exact o_loadC p3 rfl (by assumption)) ?_;refine Yds ?_;refine th_one (i:=8) kqz ?_;refine oh_c rfl rfl rfl (o_call bd123 rfl (Store_c (s:=s) (p:=(p:Nat)) (xs:=xs) (hroom:=λ _=>hroom))) ?_;rintro _ _ ⟨e16,s16,hs16,rfl,rfl⟩;refine Yd7 ?_;exact ⟨e16,s16,hs16,rfl,rfl,rfl,rfl,rfl,rfl⟩
        . skip
          refine oh_v rfl rfl rfl (by first|exact o_load p57 rfl (by repeat (first|with_reducible exact has_here|with_reducible exact has_pt|apply has_left)) rfl|exact o_loadC p57 rfl (by assumption)) ?_;refine Ydv ?_;refine th_one (i:=8) kqz ?_;refine oh_c rfl rfl rfl (o_call bd123 rfl (Store_c (s:=s) (p:=(p:Nat)) (xs:=xs) (hroom:=λ _=>hroom))) ?_;rintro _ _ ⟨e16,s16,hs16,rfl,rfl⟩;refine Yd7 ?_;exact ⟨e16,s16,hs16,rfl,rfl,rfl,rfl,rfl,rfl⟩
      . skip
        refine oh_v rfl rfl rfl (by first|exact o_load p3 rfl (by repeat (first|with_reducible exact has_here|with_reducible exact has_pt|apply has_left)) rfl|exact o_loadC p3 rfl (by assumption)) ?_;refine th_two (i:=3) (j:=7) kqz ?_ ?_
        . skip
          refine Ylr ?_;refine th_one (i:=8) kqz ?_;refine oh_c rfl rfl rfl (o_call bd123 rfl (Store_c (s:=s) (p:=(p:Nat)) (xs:=xs) (hroom:=λ _=>hroom))) ?_;rintro _ _ ⟨e16,s16,hs16,rfl,rfl⟩;refine Yd7 ?_;exact ⟨e16,s16,hs16,rfl,rfl,rfl,rfl,rfl,rfl⟩
        . skip
          refine Yha ?_;refine oh_c rfl rfl rfl (o_call bd123 rfl (Store_c (s:=s) (p:=(p:Nat)) (xs:=xs) (hroom:=λ _=>hroom))) ?_;rintro _ _ ⟨e16,s16,hs16,rfl,rfl⟩;refine Yd7 ?_;exact ⟨e16,s16,hs16,rfl,rfl,rfl,rfl,rfl,rfl⟩
      . skip
        refine oh_v rfl rfl rfl (by first|exact o_load p57 rfl (by repeat (first|with_reducible exact has_here|with_reducible exact has_pt|apply has_left)) rfl|exact o_loadC p57 rfl (by assumption)) ?_;refine th_two (i:=3) (j:=5) kqz ?_ ?_
        . skip
          refine Yls ?_;refine th_one (i:=8) kqz ?_;refine oh_c rfl rfl rfl (o_call bd123 rfl (Store_c (s:=s) (p:=(p:Nat)) (xs:=xs) (hroom:=λ _=>hroom))) ?_;rintro _ _ ⟨e16,s16,hs16,rfl,rfl⟩;refine Yd7 ?_;exact ⟨e16,s16,hs16,rfl,rfl,rfl,rfl,rfl,rfl⟩
        . skip
          refine Yhc ?_;refine oh_c rfl rfl rfl (o_call bd123 rfl (Store_c (s:=s) (p:=(p:Nat)) (xs:=xs) (hroom:=λ _=>hroom))) ?_;rintro _ _ ⟨e16,s16,hs16,rfl,rfl⟩;refine Yd7 ?_;exact ⟨e16,s16,hs16,rfl,rfl,rfl,rfl,rfl,rfl⟩
    . skip
      refine oh_v rfl rfl rfl (by first|exact o_load p3 rfl (by repeat (first|with_reducible exact has_here|with_reducible exact has_pt|apply has_left)) rfl|exact o_loadC p3 rfl (by assumption)) ?_;refine th_two (i:=0) (j:=7) kqz ?_ ?_
      . skip
        refine Yb5 ?_;refine th_two (i:=3) (j:=7) kqz ?_ ?_
        . skip
          refine Ylr ?_;refine th_one (i:=8) kqz ?_;refine oh_c rfl rfl rfl (o_call bd123 rfl (Store_c (s:=s) (p:=(p:Nat)) (xs:=xs) (hroom:=λ _=>hroom))) ?_;rintro _ _ ⟨e16,s16,hs16,rfl,rfl⟩;refine Yd7 ?_;exact ⟨e16,s16,hs16,rfl,rfl,rfl,rfl,rfl,rfl⟩
        . skip
          refine Yha ?_;refine oh_c rfl rfl rfl (o_call bd123 rfl (Store_c (s:=s) (p:=(p:Nat)) (xs:=xs) (hroom:=λ _=>hroom))) ?_;rintro _ _ ⟨e16,s16,hs16,rfl,rfl⟩;refine Yd7 ?_;exact ⟨e16,s16,hs16,rfl,rfl,rfl,rfl,rfl,rfl⟩
      . skip
        refine oh_v rfl rfl rfl (by first|exact o_load p57 rfl (by repeat (first|with_reducible exact has_here|with_reducible exact has_pt|apply has_left)) rfl|exact o_loadC p57 rfl (by assumption)) ?_;refine th_one (i:=0) kqz ?_;refine Yb5 ?_;refine Yf1 ?_;refine oh_c rfl rfl rfl (o_call bd123 rfl (Store_c (s:=s) (p:=(p:Nat)) (xs:=xs) (hroom:=λ _=>hroom))) ?_;rintro _ _ ⟨e16,s16,hs16,rfl,rfl⟩;refine Yd7 ?_;exact ⟨e16,s16,hs16,rfl,rfl,rfl,rfl,rfl,rfl⟩
    . skip
      refine oh_v rfl rfl rfl (by first|exact o_load p57 rfl (by repeat (first|with_reducible exact has_here|with_reducible exact has_pt|apply has_left)) rfl|exact o_loadC p57 rfl (by assumption)) ?_;refine th_two (i:=0) (j:=5) kqz ?_ ?_
      . skip
        refine Yb5 ?_;refine th_two (i:=3) (j:=5) kqz ?_ ?_
        . skip
          refine Yls ?_;refine th_one (i:=8) kqz ?_;refine oh_c rfl rfl rfl (o_call bd123 rfl (Store_c (s:=s) (p:=(p:Nat)) (xs:=xs) (hroom:=λ _=>hroom))) ?_;rintro _ _ ⟨e16,s16,hs16,rfl,rfl⟩;refine Yd7 ?_;exact ⟨e16,s16,hs16,rfl,rfl,rfl,rfl,rfl,rfl⟩
        . skip
          refine Yhc ?_;refine oh_c rfl rfl rfl (o_call bd123 rfl (Store_c (s:=s) (p:=(p:Nat)) (xs:=xs) (hroom:=λ _=>hroom))) ?_;rintro _ _ ⟨e16,s16,hs16,rfl,rfl⟩;refine Yd7 ?_;exact ⟨e16,s16,hs16,rfl,rfl,rfl,rfl,rfl,rfl⟩
      . skip
        refine oh_v rfl rfl rfl (by first|exact o_load p3 rfl (by repeat (first|with_reducible exact has_here|with_reducible exact has_pt|apply has_left)) rfl|exact o_loadC p3 rfl (by assumption)) ?_;refine th_one (i:=0) kqz ?_;refine Yb5 ?_;refine Yf1 ?_;refine oh_c rfl rfl rfl (o_call bd123 rfl (Store_c (s:=s) (p:=(p:Nat)) (xs:=xs) (hroom:=λ _=>hroom))) ?_;rintro _ _ ⟨e16,s16,hs16,rfl,rfl⟩;refine Yd7 ?_;exact ⟨e16,s16,hs16,rfl,rfl,rfl,rfl,rfl,rfl⟩
  intro ρ B hI;obtain ⟨e16,s16,hst0,hE5,hE37,hE2,hE3,hE4,rfl⟩:=hI;refine q_then_n ?_;refine tc_env (d:=5) hE5 ?_;refine tc_env (d:=37) hE37 ?_;refine tc_env (d:=2) hE2 ?_;refine tc_env (d:=3) hE3 ?_;refine tc_env (d:=4) hE4 ?_;refine tc_seq ?_;have hs16:=hst0;refine tc_reg ?_;refine tlm ?_;refine tl_v rfl (o_nei rfl rfl) ?_;refine Yby ?_;refine tc_cond rfl (λ h=> ?_) (λ h=> ?_)
  . have he0:e16≠0:=(by simpa using h);refine Ye5 ?_;refine Yip ?_;refine q_then_r ?_;exact ⟨[],_,rfl,λ _ _ h=>mk0 h,.int .i64 e16,C (Dev d s16),resA1 rfl (rv_cell1 p33 rfl (by repeat (first|with_reducible exact has_here|with_reducible exact has_pt|apply has_left)) rfl),λ _ _ h=>by rw [hC];exact (Dr.sat (A':=R*Dev d s16) (by repeat (first|with_reducible exact dr_refl|apply dr_keep|apply dr_drop))) _ _ h,e16,s16,by unfold backS;simp only [];rw [hs16,if_pos he0],rfl,rfl⟩
  obtain rfl:e16=0:=by simpa using h
  have hsl:=sto_len (p:Nat) xs s;rw [hs16] at hsl
  simp only at hsl
  refine Yg6 ?_;refine tc_seq ?_;refine Ybw ?_;refine tl_v rfl (o_fieldAddr (o:=0) underlying253 rfl rfl sz3 rfl) ?_;refine tl_v rfl (by first|exact o_load p3 rfl (by repeat (first|with_reducible exact has_here|with_reducible exact has_pt|apply has_left)) rfl|exact o_loadC p3 rfl (by assumption)) ?_;refine tl_v rfl (o_fieldAddr (o:=1) underlying253 rfl rfl sz57 rfl) ?_;refine tl_v rfl (by first|exact o_load p57 rfl (by repeat (first|with_reducible exact has_here|with_reducible exact has_pt|apply has_left)) rfl|exact o_loadC p57 rfl (by assumption)) ?_;refine tl_v rfl (o_len underlying57 rfl) ?_;refine tl_c rfl (o_call bd219 rfl (Lines_c)) ?_;rintro _ _ ⟨w1,w2,rfl,rfl⟩;refine Yby ?_;refine tc_block ?_;refine tc_rangeI (K:=(pt w1 (cl [.int .i64 (p:Int)] 3)*pt w2 (cl [.int .i64 (m:Int)] 3))) (N:=((p+m-1)/64-p/64+1)) (A0:=R*Dev d s16*pt b2 (cl [pz bl] 89)*pt b3 (cl [vn p,.slice a m c] 253)*pt b4 (cl [.int .i64 0] 33)) (λ i S=>∃ (s1:DevS),(flL (((p+m-1)/64-p/64+1)-i) (p/64+i) s1=flL ((p+m-1)/64-p/64+1) (p/64) s16)/\ (s1.ls.length=s.ls.length)/\ S=R*Dev d s1*pt b2 (cl [pz bl] 89)*pt b3 (cl [vn p,.slice a m c] 253)*pt b4 (cl [.int .i64 0] 33)) (λ j S=>∃ (e:Int) (s1:DevS),j= .ret/\ (flL ((p+m-1)/64-p/64+1) (p/64) s16=(e,s1))/\ S=R*Dev d s1*pt b2 (cl [pz bl] 89)*pt b3 (cl [vn p,.slice a m c] 253)*pt b4 (cl [.int .i64 e] 33)) rfl bd255 (Lines_it (N:=((p+m-1)/64-p/64+1)) h1 oqz rfl) (λ _=>rfl) rfl (Dr.sat (by repeat (first|with_reducible exact dr_refl|apply dr_keep|apply dr_drop))) (⟨s16,rfl,hsl,rfl⟩) ?_ ?_ ?_
  . intro l F i S hi hI;obtain ⟨s1,hi0,hi1,rfl⟩:=hI;refine tc_eq (by simp only [←star_assoc];rfl) ?_;refine tc_env (d:=26) (v:=(vn (p/64+i))) (rfl) ?_;refine tc_reg ?_;refine tla ?_;refine tl_nil ?_;refine ⟨R*Dev d s1*pt b2 (cl [pz bl] 89)*pt b3 (cl [vn p,.slice a m c] 253)*pt b4 (cl [.int .i64 0] 33),λ g w h=>by simp only [←star_assoc];exact Dr.sat (by repeat (first|with_reducible exact dr_refl|apply dr_keep|apply dr_drop)) g w h,λ F=> ?_⟩;refine tc_eq (by simp only [←star_assoc];rfl) ?_;refine tc_block ?_;refine Yef ?_;refine Yll ?_;refine tl_v rfl (o_load p47 rfl (by repeat (first|assumption|exact has_rt (by assumption)|apply has_left)) rfl) ?_;refine tlm ?_;refine tl_v rfl (by first|exact o_mulI rfl rfl oqz|exact o_mul rfl rfl) ?_;refine tl_env (d:=32) (v:= .int .i64 (((p/64+i)*64:Nat):Int)) (rfl) ?_;refine tl_c rfl (o_call bd159 rfl (Flush_c (s:=s1) (p:=(((p/64+i)*64:Nat):Int)))) ?_;rintro _ _ ⟨e33,s33,hs33,rfl,rfl⟩;refine Yiu ?_;refine Yhq ?_;refine Yby ?_;refine tc_cond rfl (λ h=> ?_) (λ h=> ?_)
    . have h:e33≠0:=(by simpa using h);refine Ye5 ?_;refine Yip ?_;refine q_block_r ?_;exact ⟨R*Dev d (s33)*pt b2 (cl [pz bl] 89)*pt b3 (cl [vn p,.slice a m c] 253)*pt b4 (cl [.int .i64 (e33)] 33),λ g w h=>by simp only [←star_assoc];exact Dr.sat (by repeat (first|with_reducible exact dr_refl|apply dr_keep|apply dr_drop)) g w h,e33,s33,rfl,by rw [←hi0];exact flL_e hi hs33 h,rfl⟩
    obtain rfl:e33=0:=by simpa using h
    refine tc_skip ?_;refine q_block_n ?_;exact ⟨R*Dev d (s33)*pt b2 (cl [pz bl] 89)*pt b3 (cl [vn p,.slice a m c] 253)*pt b4 (cl [.int .i64 0] 33),λ g w h=>by simp only [←star_assoc];exact Dr.sat (by repeat (first|with_reducible exact dr_refl|apply dr_keep|apply dr_drop)) g w h,s33,by rw [←hi0];exact (flL_o hi hs33).symm,by have:=fl1_len (((p/64+i)*64:Nat):Int) s1;rw [hs33] at this;exact this.trans hi1,rfl⟩
  . intro r S hI;obtain ⟨s1,hi0,hi1,rfl⟩:=hI;refine q_block_n (q_then_n ?_);refine Ybw ?_;refine Yip ?_;exact ⟨[r],_,rfl,λ _ _ h=>mk1 h,.int .i64 0,C (Dev d s1),resA1 rfl (rv_cell1 p33 rfl (by repeat (first|with_reducible exact has_here|with_reducible exact has_pt|apply has_left)) rfl),λ _ _ h=>by rw [hC];exact (Dr.sat (A':=R*Dev d s1) (by repeat (first|with_reducible exact dr_refl|apply dr_keep|apply dr_drop))) _ _ h,0,s1,by unfold backS flushX;simp only [];rw [hs16,if_neg (by simp)];simp only [hm];rw [←hi0,Nat.sub_self];rfl,rfl,rfl⟩
  intro r j S hX;obtain ⟨e,s1,rfl,hx0,rfl⟩:=hX;refine jmp_r ?_;refine q_block_r (q_then_r ?_);exact ⟨[r],_,rfl,λ _ _ h=>mk1 h,.int .i64 e,C (Dev d s1),resA1 rfl (rv_cell1 p33 rfl (by repeat (first|with_reducible exact has_here|with_reducible exact has_pt|apply has_left)) rfl),λ _ _ h=>by rw [hC];exact (Dr.sat (A':=R*Dev d s1) (by repeat (first|with_reducible exact dr_refl|apply dr_keep|apply dr_drop))) _ _ h,e,s1,by unfold backS flushX;simp only [];rw [hs16,if_neg (by simp)];simp only [hm];exact hx0,rfl,rfl⟩
end Rg
end Go.Vl

namespace Go.Vl
open Go Go.Proofs Go.Proofs.Tryz
def rvl (L:List (Nat×List Nat))(vs:List Value)(k:Nat):Value:= .agg #[.int .i64 ((L.getD k (0,[])).1:Nat),vs.getD k (.slice none 0 0)]
theorem kcl_at:∀{L:List (Nat×List Nat)} {vs:List Value} {k:Nat},vs.length=L.length->k<L.length->((kcl L vs).drop (k*2)).take 2=[.int .i64 ((L.getD k (0,[])).1:Nat),vs.getD k (.slice none 0 0)]
  |[],[],_,_,h=>by simp at h
  |x::l,v::vs,0,_,_=>rfl
  |x::l,v::vs,k+1,h,hk=>by
    rw [show (k+1)*2=k*2+1+1 by omega]
    show ((kcl l vs).drop (k*2)).take 2=_
    rw [kcl_at (by simpa using h) (by simpa using hk)];rfl
attribute [local irreducible] crk crL crc Sl pt ro Dev imgS recS readS recsF rdW rdO rkT Parts
namespace Rg
theorem bwd1_f {a:Option Addr}{c l N q1:Nat}{L:List (Nat×List Nat)}{vs:List Value}{J:Nat->SP->Prop}{X:SP->Prop}{S0:SP}(hL:L.length=N)(hv:vs.length=N)(h2:N<=1099511627776)(h0:J 0 S0)(hY:∀F i S,i<N->J i S->Yd Tryz.prog l #[vn (N-1-i),rvl L vs (N-1-i)] (F*S) (λ v B=>∃ (b:Bool) (S':SP),v= .bool b/\ (b=true->J (i+1) S')/\ (b=false->X S')/\ B=F*S')):
    Fn Tryz.prog 218 #[.func (.yield l) #[] #[],pz q1] (S0*pt q1 (cl [.slice a N c] 181)*Sl 2 (.slice a N c) N (kcl L vs)) (λ r B=>r= .tuple #[]/\ ((∃S,J N S/\ B=S*pt q1 (cl [.slice a N c] 181)*Sl 2 (.slice a N c) N (kcl L vs))∨∃S,X S/\ B=S*pt q1 (cl [.slice a N c] 181)*Sl 2 (.slice a N c) N (kcl L vs))):=by
  refine fn_enterW func218 rfl ntmps218 (by simp) ?_;refine Ybw ?_;refine tl_v rfl (by first|exact o_load p181 rfl (by repeat (first|with_reducible exact has_here|with_reducible exact has_pt|apply has_left)) rfl|exact o_loadC p181 rfl (by assumption)) ?_;refine tl_v rfl (o_len underlying181 rfl) ?_;refine tl_v rfl (o_subI rfl rfl oqz) ?_;refine tl_env (d:=6) (v:= .int .i64 ((N:Nat)-1-((0:Nat):Int))) (by show Value.int .i64 ((N:Int)-1)=_;congr 1;omega) ?_;refine Yiu ?_;refine tc_block ?_;refine tc_loop (λ kk ρ BB=>∃ (k:Nat) (S:SP),(k<=N)/\ (J k S)/\ kk=N-k/\ ρ 3= .int .i64 ((N:Nat)-1-(k:Nat))/\ ρ 19=undef/\ ρ 0= .func (.yield l) #[] #[]/\ ρ 1=(pz q1)/\ BB=S*pt q1 (cl [.slice a N c] 181)*Sl 2 (.slice a N c) N (kcl L vs)) (m:=N-(0)) ?_ ?_
  . exact ⟨0,S0,by omega,h0,rfl,rfl,rfl,rfl,rfl,rfl⟩
  intro k ρ B hI;obtain ⟨k,S,hp0,hp1,hkk1,hE3,hE19,hE0,hE1,rfl⟩:=hI;refine tc_env (d:=3) hE3 ?_;refine tc_env (d:=19) hE19 ?_;refine tc_env (d:=0) hE0 ?_;refine tc_env (d:=1) hE1 ?_;refine tc_seq ?_;refine Ye5 ?_;refine tl_v rfl (o_geq rfl rfl) ?_;refine Yby ?_;refine tc_cond rfl (λ h=> ?_) (λ h=> ?_)
  . have hk:k<N:=(by first|omega|(simp at h;omega));refine Yg6 ?_;refine tc_seq ?_;refine tc_block ?_;refine Ye5 ?_;refine tlm ?_;refine tl_env (d:=12) (v:=(vn (N-1-k))) (by show Value.int .i64 ((N:Int)-1-(k:Int))=_;congr 1;omega) ?_;refine tl_v rfl (by first|exact o_load p181 rfl (by repeat (first|with_reducible exact has_here|with_reducible exact has_pt|apply has_left)) rfl|exact o_loadC p181 rfl (by assumption)) ?_;refine tlm ?_;refine tl_env (d:=14) (v:=(vn (N-1-k))) (by show Value.int .i64 ((N:Int)-1-(k:Int))=_;congr 1;omega) ?_;refine tl_v rfl (o_ixP (a:=a) underlying181 sz253 rfl rfl oqz (nn_sl (by decide))) ?_;refine tl_v rfl (o_ldPN (a:=a) (xs:=kcl L vs) (vs:=[.int .i64 ((L.getD (N-1-k) (0,[])).1:Nat),vs.getD (N-1-k) (.slice none 0 0)]) a253 sz253 rfl rs_sl (kcl_at oqz oqz) rfl (by decide)) ?_;refine tl_y rfl rfl rfl (yd_b (F:=(pt q1 (cl [.slice a N c] 181)*Sl 2 (.slice a N c) N (kcl L vs))) (G:=λ S'=>S'*pt q1 (cl [.slice a N c] 181)*Sl 2 (.slice a N c) N (kcl L vs)) (hY _ k S oqz hp1) (by ac_rfl) (λ S'=>by ac_rfl)) ?_;rintro _ _ ⟨b17,S2,rfl,hT,hF,rfl⟩;refine tl_v rfl (o_not rfl) ?_;refine Yby ?_;refine tc_cond rfl (λ h=> ?_) (λ h=> ?_)
    . have hb:b17=false:=(by simpa using h);subst hb;refine tc_ret ?_;refine q_block_r (q_then_r (q_then_r (q_block_r ?_)));exact ⟨[],_,rfl,λ _ _ h=>mk0 h,.tuple #[],S2*pt q1 (cl [.slice a N c] 181)*Sl 2 (.slice a N c) N (kcl L vs),res0 rfl,λ _ _ h=>h,rfl,.inr ⟨S2,hF rfl,rfl⟩⟩
    have hb:b17=true:=(by simpa using h);subst hb;refine tc_skip ?_;refine q_block_n (q_then_n ?_);refine tc_reg ?_;refine tlm ?_;refine tl_v rfl (o_subI rfl rfl oqz) ?_;refine tl_env (d:=10) (v:= .int .i64 ((N:Nat)-1-((k+1:Nat):Int))) (by show Value.int .i64 ((N:Int)-1-(k:Int)-1)=_;congr 1;omega) ?_;refine Yiu ?_;exact ⟨_,by omega,k+1,_,by omega,hT rfl,rfl,rfl,rfl,rfl,rfl,rfl⟩
  have hk:¬k<N:=(by first|omega|(simp at h;omega));refine tc_exit ?_;refine q_then_e (q_then_e (q_block_x ?_));obtain rfl:N=k:=by omega
  exact ⟨[],_,rfl,λ _ _ h=>mk0 h,.tuple #[],S*pt q1 (cl [.slice a N c] 181)*Sl 2 (.slice a N c) N (kcl L vs),res0 rfl,λ _ _ h=>h,rfl,.inl ⟨S,hp1,rfl⟩⟩
end Rg
theorem bwd_it {a:Option Addr}{c N q1:Nat}{L:List (Nat×List Nat)}{vs:List Value}(hL:L.length=N)(hv:vs.length=N)(h2:N<=1099511627776):
    Rg.It Tryz.prog 218 [] [pz q1] (pt q1 (cl [.slice a N c] 181)*Sl 2 (.slice a N c) N (kcl L vs)) N (λ i=>[vn (N-1-i),rvl L vs (N-1-i)]):=λ l J X S0 h0 hY=>by
  have hk:∀S:SP,S*(pt q1 (cl [.slice a N c] 181)*Sl 2 (.slice a N c) N (kcl L vs))=S*pt q1 (cl [.slice a N c] 181)*Sl 2 (.slice a N c) N (kcl L vs):=λ S=>(star_assoc _ _ _).symm
  rw [hk S0]
  refine (Rg.bwd1_f (J:=J) (X:=X) hL hv h2 h0 hY).mono ?_;rintro v B ⟨rfl,⟨S,hS,rfl⟩|⟨S,hS,rfl⟩⟩
  . exact ⟨rfl,.inl ⟨S,hS,(hk S).symm⟩⟩
  exact ⟨rfl,.inr ⟨S,hS,(hk S).symm⟩⟩
theorem bwd_c {A:SP}{a:Option Addr}{c N:Nat}:
    Fn Tryz.prog 171 #[.slice a N c] A (λ r B=>∃q1,r= .func (.func 218) #[] #[pz q1]/\ B=A*pt q1 (cl [.slice a N c] 181)):=by
  refine fn_enterW func171 rfl ntmps171 (by simp) ?_;refine Zeu ?_;rintro _ _ ⟨b1,rfl,rfl⟩;refine Za ?_;refine sr ?_;refine tv (o_makeFunc rfl rfl) ?_;refine Zd ?_;exact ⟨_,_,res1 rfl rfl,λ _ _ h=>h,b1,rfl,rfl⟩
end Go.Vl

namespace Go.Vl
open Go Go.Proofs Go.Proofs.Tryz
section
variable {at_ sz:Nat} {s s1 s2 s3:DevS} {L:List (Nat×List Nat)} {e:Int}
theorem roll_no (h:recordsS at_ sz s=(L,e))(h2:e≠0∨L=[]):rollS at_ sz s=((0,e),s):=by unfold rollS;rw [h,if_pos h2]
theorem roll_b (h:recordsS at_ sz s=(L,0))(h2:L≠[])(h3:backF L.reverse s=(e,s2))(he:e≠0):rollS at_ sz s=((0,e),s2):=by
  unfold rollS;rw [h,if_neg (by simp [h2])];simp only [];rw [h3,if_pos he]
theorem roll_f (h:recordsS at_ sz s=(L,0))(h2:L≠[])(h3:backF L.reverse s=(0,s1))(h4:fe s1=(e,s2))(he:e≠0):rollS at_ sz s=((0,e),s2):=by
  unfold rollS;rw [h,if_neg (by simp [h2])];simp only [];rw [h3,if_neg (by simp)];simp only [];rw [h4,if_pos he]
theorem roll_p (h:recordsS at_ sz s=(L,0))(h2:L≠[])(h3:backF L.reverse s=(0,s1))(h4:fe s1=(0,s2))(h5:pubP (at_:Nat) 0 s2=(e,s3))(he:e≠0):rollS at_ sz s=((0,e),s3):=by
  unfold rollS;rw [h,if_neg (by simp [h2])];simp only [];rw [h3,if_neg (by simp)];simp only [];rw [h4,if_neg (by simp)];simp only [];rw [h5,if_pos he]
theorem roll_o (h:recordsS at_ sz s=(L,0))(h2:L≠[])(h3:backF L.reverse s=(0,s1))(h4:fe s1=(0,s2))(h5:pubP (at_:Nat) 0 s2=(0,s3)):rollS at_ sz s=((((L.length:Nat):Int),0),s3):=by
  unfold rollS;rw [h,if_neg (by simp [h2])];simp only [];rw [h3,if_neg (by simp)];simp only [];rw [h4,if_neg (by simp)];simp only [];rw [h5,if_neg (by simp)]
end
def sumL (L:List (Nat×List Nat)):Nat:=(L.map λ x=>x.2.length).sum
theorem sumL_cons (x:Nat×List Nat)(L:List (Nat×List Nat)):sumL (x::L)=x.2.length+sumL L:=by unfold sumL;rw [List.map_cons,List.sum_cons]
theorem sumL_rev (L:List (Nat×List Nat)):sumL L.reverse=sumL L:=by unfold sumL;rw [List.map_reverse,List.sum_reverse]
def RecOk (n at_ sz:Nat)(x:Nat×List Nat):Prop:=mayX n at_ sz ((x.1:Int),((x.2.length:Nat):Int))=true/\∀b∈x.2,b<256
theorem read_ok {n at_ sz p:Nat}{room:List Nat}{x:Nat×List Nat}{t:Nat}(hb:∀b∈room,b<256)(h:readS n at_ sz room p=some (x,t)):RecOk n at_ sz x/\ p+t<=room.length/\ 24+x.2.length<=t:=by
  unfold readS at h
  split at h;cases h
  split at h;cases h
  rename_i h2
  split at h;cases h
  rename_i h3
  split at h;cases h
  simp only [Option.some.injEq,Prod.mk.injEq] at h
  obtain ⟨rfl,rfl⟩:=h;have hu:=up8_le (nm ((room.drop (p+8)).take 8));have hl:((room.drop (p+24)).take (nm ((room.drop (p+8)).take 8))).length=nm ((room.drop (p+8)).take 8):=(by rw [List.length_take,List.length_drop];omega);refine ⟨⟨?_,λ b hb'=>hb b (List.mem_of_mem_drop (List.mem_of_mem_take hb'))⟩,by omega,by rw [hl];omega⟩
  show mayX n at_ sz (_,((List.length _:Nat):Int))=true
  rw [hl];simpa using h2
theorem recsF_ok {n at_ sz:Nat}{room:List Nat}(hb:∀b∈room,b<256):∀{k p:Nat} {L:List (Nat×List Nat)},p<=room.length->recsF n at_ sz room k p=(L,0)->(∀x∈L,RecOk n at_ sz x)/\ sumL L+24*L.length+p<=room.length
  |0,p,L,hp,h=>by
    simp only [recsF,Prod.mk.injEq] at h
    obtain ⟨rfl,_⟩:=h;exact ⟨by simp,by simp [sumL];exact hp⟩
  |k+1,p,L,hp,h=>by
    have e:recsF n at_ sz room (k+1) p=match readS n at_ sz room p with
      |none=>([],110)
      |some (x,t)=>if (recsF n at_ sz room k (p+t)).2≠0 then ([],110) else (x::(recsF n at_ sz room k (p+t)).1,0):=rfl
    rw [e] at h
    cases hr:readS n at_ sz room p with
    |none=>rw [hr] at h;simp at h
    |some y=>
      rw [hr] at h
      simp only at h
      obtain ⟨h1,h2,h3⟩:=read_ok hb (x:=y.1) (t:=y.2) hr
      by_cases h4:(recsF n at_ sz room k (p+y.2)).2≠0
      . rw [if_pos h4] at h;simp at h
      rw [if_neg h4] at h
      simp only [Prod.mk.injEq,and_true] at h
      obtain ⟨g1,g2⟩:=recsF_ok hb (L:=(recsF n at_ sz room k (p+y.2)).1) h2 (Prod.ext rfl (by simp only;omega));subst h;refine ⟨λ x hx=> ?_,by rw [sumL_cons,List.length_cons];omega⟩
      rcases List.mem_cons.1 hx with rfl|hx
      . exact h1
      exact g1 x hx
theorem records_ok {at_ sz:Nat}{s:DevS}{L:List (Nat×List Nat)}(hw:WfD s)(hlw:LogW (s.ls.length*64) at_ sz)(h:recordsS at_ sz s=(L,0)):(∀x∈L,RecOk (s.ls.length*64) at_ sz x)/\ sumL L+24*L.length<=sz-64:=by
  unfold recordsS at h
  split at h;cases h
  have hl:(roomS at_ sz s).length=sz-64:=by
    have:=imgS_len hw;have:=hlw.top;have:=hlw.s
    unfold roomS;rw [List.length_take,List.length_drop];omega
  obtain ⟨h1,h2⟩:=recsF_ok (λ b hb=>img_sub b hb) (Nat.zero_le _) h;have hl2:(((imgS s).drop (at_+64)).take (sz-64)).length=sz-64:=hl;exact ⟨h1,by omega⟩
theorem backF_e {x:Nat×List Nat}{l:List (Nat×List Nat)}{s s2:DevS}{e:Int}(h:backS x s=(e,s2))(he:e≠0):backF (x::l) s=(e,s2):=by
  show (if (backS x s).1≠0 then backS x s else _)=_
  rw [h,if_pos he]
theorem backF_o {x:Nat×List Nat}{l:List (Nat×List Nat)}{s s2:DevS}(h:backS x s=(0,s2)):backF (x::l) s=backF l s2:=by
  show (if (backS x s).1≠0 then backS x s else backF l (backS x s).2)=_
  rw [h,if_neg (by simp)]
theorem rev_at {L:List (Nat×List Nat)}{i:Nat}(h:i<L.length):L.reverse.drop i=L.getD (L.length-1-i) (0,[])::L.reverse.drop (i+1):=by
  have h':i<L.reverse.length:=(by rw [List.length_reverse];exact h);rw [List.drop_eq_getElem_cons h',List.getElem_reverse,List.getD_eq_getElem?_getD,List.getElem?_eq_getElem oqz];rfl
theorem parts_rs:∀{vs:List Value} {ls:List (List Nat)} {k:Nat} (_:vs.length=ls.length) (h:k<ls.length) {b:Option Addr} {c:Nat},vs.getD k (.slice none 0 0)= .slice b (ls[k]).length c->∀A:SP,Rs (A*Parts vs ls) b (bys ls[k])
  |v::vs,x::ls,0,_,_,b,c,he,A=>by
    have e:Parts (v::vs) (x::ls)=Parts vs ls*Sl 1 v x.length (bys x):=rfl;have e2:v= .slice b x.length c:=he;rw [e,e2,←star_assoc];exact rs_sl
  |v::vs,x::ls,k+1,h,hk,b,c,he,A=>by
    have e:Parts (v::vs) (x::ls)=Parts vs ls*Sl 1 v x.length (bys x):=rfl;rw [e,←star_assoc]
    exact (parts_rs (vs:=vs) (ls:=ls) (k:=k) (by simpa using h) (by simpa using hk) he A).left
  |[],x::ls,_,h,_,_,_,_,_=>by simp at h
  |_,[],_,_,h,_,_,_,_=>by simp at h
theorem parts_getD:∀{vs:List Value} {L:List (Nat×List Nat)} {X:SP} {g:Gh} {w:World},vs.length=L.length->sat g w (X*Parts vs (L.map (·.2)))->∀k,k<L.length->∃b c,vs.getD k (.slice none 0 0)= .slice b (L.getD k (0,[])).2.length c/\ (L.getD k (0,[])).2.length<=c
  |[],[],_,_,_,_,_=>λ k hk=>by simp at hk
  |v::vs,x::L,X,g,w,hl,h=>by
    have e:Parts (v::vs) ((x::L).map (·.2))=Parts vs (L.map (·.2))*Sl 1 v x.2.length (bys x.2):=rfl;rw [e,←star_assoc] at h
    intro k hk
    cases k with
    |zero=>
      obtain ⟨a,cap,h1,h2,_⟩:=sl_have h;exact ⟨a,cap,h1,h2⟩
    |succ k=>exact parts_getD (by simpa using hl) h.left k (by simpa using hk)
theorem parts_rsL {vs:List Value}{L:List (Nat×List Nat)}{k:Nat}(h:vs.length=L.length)(hk:k<L.length){b:Option Addr}{c:Nat}(he:vs.getD k (.slice none 0 0)= .slice b (L.getD k (0,[])).2.length c)(A:SP):Rs (A*Parts vs (L.map (·.2))) b (bys (L.getD k (0,[])).2):=by
  have e1:L.getD k (0,[])=L[k]:=(by rw [List.getD_eq_getElem?_getD,List.getElem?_eq_getElem hk];rfl);have e2:(L.map (·.2))[k]'(by rw [List.length_map];exact hk)=L[k].2:=(by rw [List.getElem_map]);rw [e1] at he ⊢
  rw [←e2] at he ⊢
  exact parts_rs (by rw [List.length_map];exact h) (by rw [List.length_map];exact hk) he A
theorem getD_mem {L:List (Nat×List Nat)}{k:Nat}(hk:k<L.length):L.getD k (0,[])∈L:=by
  rw [List.getD_eq_getElem?_getD,List.getElem?_eq_getElem hk];exact List.getElem_mem hk
theorem fl1_wf {p:Int}{s:DevS}(hw:WfD s):WfD (fl1 p s).2:=by
  unfold fl1
  split
  . exact hw
  exact doneS_wf (flushS_wf hw)
theorem sto_wf {p:Int}{b:List Nat}{s:DevS}(hw:WfD s)(hb:∀x∈b,x<256)(hr:Room b.length s):WfD (sto p b s).2:=by
  unfold sto
  split
  . exact hw
  exact (storeF_room b.length (r:=0) rfl hw hb (λ l hl=>by have:=hr l hl;omega)).2
theorem flL_wf:∀ (k:Nat) {q:Nat} {s:DevS},WfD s->WfD (flL k q s).2
  |0,_,_,h=>h
  |k+1,q,s,hw=>by
    show WfD (if (fl1 ((q*64:Nat):Int) s).1≠0 then fl1 ((q*64:Nat):Int) s else flL k (q+1) (fl1 ((q*64:Nat):Int) s).2).2
    split
    . exact fl1_wf hw
    exact flL_wf k (fl1_wf hw)
theorem flL_room:∀ (k:Nat) {q r:Nat} {s:DevS},WfD s->Room r s->Room r (flL k q s).2
  |0,_,_,_,_,h=>h
  |k+1,q,r,s,hw,h=>by
    show Room r (if (fl1 ((q*64:Nat):Int) s).1≠0 then fl1 ((q*64:Nat):Int) s else flL k (q+1) (fl1 ((q*64:Nat):Int) s).2).2
    have h1:=fl1_room (s2:=(fl1 ((q*64:Nat):Int) s).2) rfl hw h
    split
    . exact h1
    exact flL_room k (fl1_wf hw) h1
theorem back_room {x:Nat×List Nat}{r:Nat}{s s2:DevS}{e:Int}(h:backS x s=(e,s2))(hw:WfD s)(hb:∀b∈x.2,b<256)(hr:Room (r+x.2.length) s):Room r s2:=by
  have hws:WfD (sto (x.1:Nat) x.2 s).2:=sto_wf hw hb λ l hl=>by have:=hr l hl;omega
  have h1:=sto_room (e:=(sto (x.1:Nat) x.2 s).1) (s2:=(sto (x.1:Nat) x.2 s).2) rfl hw hb hr
  unfold backS at h
  split at h
  . have:=congrArg Prod.snd h;simp only at this;rw [←this];exact h1
  have h2:=flL_room ((x.1+x.2.length-1)/64-x.1/64+1) (q:=x.1/64) hws h1;have:=congrArg Prod.snd h;simp only at this;rw [←this];exact h2
theorem flL_len:∀ (k q:Nat) (s:DevS),(flL k q s).2.ls.length=s.ls.length
  |0,_,_=>rfl
  |k+1,q,s=>by
    show (if (fl1 ((q*64:Nat):Int) s).1≠0 then fl1 ((q*64:Nat):Int) s else flL k (q+1) (fl1 ((q*64:Nat):Int) s).2).2.ls.length=_
    split
    . exact fl1_len _ _
    rw [flL_len k];exact fl1_len _ _
theorem back_len (x:Nat×List Nat)(s:DevS):(backS x s).2.ls.length=s.ls.length:=by
  unfold backS
  split
  . exact sto_len _ _ _
  unfold flushX;rw [flL_len];exact sto_len _ _ _
theorem Records_w {A R:SP}{C:SP->SP}{d:Nat}{s:DevS}(hc:Ct A (Dev d s) R C:=by exact cbqz){bl at_ sz:Nat}(hl:Has R bl (cl (lcs11 d at_ sz) 99):=by exact hbqz)(hlw:LogW (s.ls.length*64) at_ sz:=by assumption){L:List (Nat×List Nat)}{e:Int}(hX:recordsS at_ sz s=(L,e)):Fn Tryz.prog 108 #[pz bl] A (λ r B=>∃a2 c2 vs,r= .tuple #[.slice a2 L.length c2,.int .i64 e]/\ L.length<=c2/\ vs.length=L.length/\ B=C (Dev d s)*Parts vs (L.map (·.2))*Sl 2 (.slice a2 L.length c2) L.length (kcl L vs)):=by
  have h:=Records_c hc hl hlw;rw [hX] at h
  exact h
attribute [local irreducible] crk crL crc Sl pt ro Dev imgS recS readS recsF rdW rdO rkT Parts rvl recordsS
namespace Rg
theorem Ygw {p r:Prop}(k:r)(h:Kq r->p:=by intro k;refine oh_v rfl rfl rfl (by first|exact o_load p89 rfl (by repeat (first|with_reducible exact has_here|with_reducible exact has_pt|apply has_left)) rfl|exact o_loadC p89 rfl (by assumption)) ?_;refine th_take (i:=5) rfl kqz kqz kqz rfl rfl (o_nilCheck rfl) ?_;refine th_take (i:=6) rfl kqz kqz kqz rfl rfl (o_fieldAddr (o:=1) underlying99 rfl rfl sz3 rfl) ?_;exact k.o):p:=h ⟨k⟩
theorem Ygj {p r:Prop}(k:r)(h:Kq r->p:=by intro k;refine th_one (i:=7) kqz ?_;refine oh_v rfl rfl rfl (o_load p3 rfl (by repeat (first|assumption|apply has_left)) rfl) ?_;exact k.o):p:=h ⟨k⟩
theorem Ylt {p r:Prop}(k:r)(h:Kq r->p:=by intro k;refine oh_v rfl rfl rfl (o_load p47 rfl (by repeat (first|assumption|apply has_left)) rfl) ?_;refine Ygj ?_;exact k.o):p:=h ⟨k⟩
theorem Ylx {p r:Prop}(k:r)(h:Kq r->p:=by intro k;refine oh_v rfl rfl rfl (o_load p3 rfl (by repeat (first|assumption|apply has_left)) rfl) ?_;refine Yf1 ?_;exact k.o):p:=h ⟨k⟩
theorem Rollback_c {A R:SP}{C:SP->SP}{d:Nat}{s:DevS}(hc:Ct A (Dev d s) R C:=by repeat (first|with_reducible exact ct_here|apply ct_left)){bl at_ sz:Nat}(hl:Has R bl (cl (lcs11 d at_ sz) 99):=by (repeat (first|assumption|with_reducible exact has_here|with_reducible exact has_pt|apply has_left)))(hlw:LogW (s.ls.length*64) at_ sz:=by assumption)(hroom:Room (sz+1) s:=by assumption):
    Fn Tryz.prog 112 #[pz bl] A (λ r B=>∃e k s2,rollS at_ sz s=((k,e),s2)/\ r= .tuple #[.int .i64 k,.int .i64 e]/\ B=C (Dev d s2)):=by
  refine fn_enterW func112 rfl ntmps112 (by simp) ?_;refine tc_have (λ _ _ h=>ct_wf2 hc h) λ hw=> ?_
  have htop:=hw.top;have hpos:=hw.pos;obtain ⟨rfl,hC⟩:=hc;have hAC:∀g w,sat g w (R*Dev d s)->sat g w (C (Dev d s)):=λ g w h=>by rw [hC];exact h
  have hlw9:=hlw;obtain ⟨w1,w2,w3,w4,w5⟩:=hlw9;obtain ⟨L,e0,hL⟩:∃L e0,recordsS at_ sz s=(L,e0):=⟨_,_,rfl⟩;refine Ybw ?_;refine tl_x rfl (o_box rfl rfl) ?_;rintro _ _ ⟨b1,rfl,rfl⟩;refine tl_x rfl (o_alloc z3 rfl) ?_;rintro _ _ ⟨b2,rfl,rfl⟩;refine tl_x rfl (o_alloc z33 rfl) ?_;rintro _ _ ⟨b3,rfl,rfl⟩;refine Yby ?_;refine Yef ?_;refine tl_c rfl (o_call bd108 rfl (Records_w (s:=s) (hX:=hL))) ?_;rintro _ _ ⟨a13,c13,vs,rfl,hc13,hvs,rfl⟩;refine tl_have (λ _ _ h=>parts_getD hvs h.left) λ hps=> ?_
  refine tlm ?_;refine tl_v rfl (o_extract rfl rfl) ?_;refine tl_v rfl (o_extract rfl rfl) ?_;refine tla ?_;refine Yiu ?_;refine tc_seq ?_;refine Yhq ?_;refine tlm ?_;refine tl_bool (d:=18) rfl (λ h=> ?_) (λ h=> ?_)
  . have g18:(e0≠0):=(by first|exact of_decide_eq_true h|(have h2:=h;simp at h2;omega)|simpa using h);refine tl_skip rfl ?_;refine tl_skip rfl ?_;refine tl_skip rfl ?_;refine tl_v rfl (o_pick_t rfl wqz) ?_;refine Yby ?_;refine tc_cond_t rfl ?_;refine Ybw ?_;refine Ybj ?_;refine Yip ?_;refine q_then_r ?_;exact ⟨[],_,rfl,λ _ _ h=>mk0 h,.tuple #[.int .i64 0,.int .i64 e0],C (Dev d s),resA2 rfl (rv_cell1 p3 rfl (by repeat (first|with_reducible exact has_here|with_reducible exact has_pt|apply has_left)) rfl) (rv_cell1 p33 rfl (by repeat (first|with_reducible exact has_here|with_reducible exact has_pt|apply has_left)) rfl),λ _ _ h=>by rw [hC];exact (Dr.sat (A':=R*Dev d s) (by repeat (first|with_reducible exact dr_refl|apply dr_keep|apply dr_drop))) _ _ h,e0,0,s,roll_no hL (by first|exact hor|exact .inl (by assumption)),rfl,rfl⟩
  have g18:¬(e0≠0):=(by first|exact of_decide_eq_false h|(have h2:=h;simp at h2;omega)|simpa using h);refine tlm ?_;refine tl_v rfl (o_len underlying181 rfl) ?_;refine tl_v rfl (o_eqi rfl rfl) ?_;refine tl_v rfl (o_pick_f rfl wqz) ?_;refine Yby ?_;refine tc_cond rfl (λ h=> ?_) (λ h=> ?_)
  . have hor:e0≠0∨L=[]:=(by first|exact .inl (by assumption)|exact .inr (List.eq_nil_of_length_eq_zero (by first|(have:=of_decide_eq_true h;omega)|(simp at h;omega))));refine Ybw ?_;refine Ybj ?_;refine Yip ?_;refine q_then_r ?_;exact ⟨[],_,rfl,λ _ _ h=>mk0 h,.tuple #[.int .i64 0,.int .i64 e0],C (Dev d s),resA2 rfl (rv_cell1 p3 rfl (by repeat (first|with_reducible exact has_here|with_reducible exact has_pt|apply has_left)) rfl) (rv_cell1 p33 rfl (by repeat (first|with_reducible exact has_here|with_reducible exact has_pt|apply has_left)) rfl),λ _ _ h=>by rw [hC];exact (Dr.sat (A':=R*Dev d s) (by repeat (first|with_reducible exact dr_refl|apply dr_keep|apply dr_drop))) _ _ h,e0,0,s,roll_no hL (by first|exact hor|exact .inl (by assumption)),rfl,rfl⟩
  obtain rfl:e0=0:=by omega
  have hne:L≠[]:=λ e9=>by subst e9;first|exact of_decide_eq_false h rfl|(simp at h)
  refine Yg6 ?_;refine tc_seq ?_;refine tc_seq ?_;obtain ⟨hrk,hrs⟩:=records_ok hw hlw hL;refine tc_reg ?_;refine tlm ?_;refine tl_c rfl (o_call bd171 rfl (bwd_c (N:=L.length))) ?_;rintro _ _ ⟨q1,rfl,rfl⟩;refine Yby ?_;refine tc_block ?_;refine tc_rangeI (K:=(pt q1 (cl [.slice a13 L.length c13] 181)*Sl 2 (.slice a13 L.length c13) L.length (kcl L vs))) (N:=L.length) (A0:=R*Dev d s*Parts vs (L.map (·.2))*pt b1 (cl [pz bl] 89)*pt b2 (cl [.int .i64 0] 3)*pt b3 (cl [.int .i64 0] 33)) (λ i S=>∃ (s1:DevS),(backF (L.reverse.drop i) s1=backF L.reverse s)/\ (s1.ls.length=s.ls.length)/\ (Room (sumL (L.reverse.drop i)+1) s1)/\ S=R*Dev d s1*Parts vs (L.map (·.2))*pt b1 (cl [pz bl] 89)*pt b2 (cl [.int .i64 0] 3)*pt b3 (cl [.int .i64 0] 33)) (λ j S=>∃ (e:Int) (s1:DevS),j= .ret/\ (backF L.reverse s=(e,s1))/\ (e≠0)/\ S=R*Dev d s1*Parts vs (L.map (·.2))*pt b1 (cl [pz bl] 89)*pt b2 (cl [.int .i64 0] 3)*pt b3 (cl [.int .i64 e] 33)) rfl bd218 (bwd_it (L:=L) (vs:=vs) (a:=a13) (c:=c13) rfl hvs oqz) (λ _=>rfl) rfl (λ _ _ h=>h.perm (by ac_rfl)) (⟨s,rfl,rfl,λ l hl=>by have:=hroom l hl;rw [List.drop_zero,sumL_rev];omega,rfl⟩) ?_ ?_ ?_
  . intro l F i S hi hI;obtain ⟨s1,hi0,hi1,hi2,rfl⟩:=hI;refine tc_eq (by simp only [←star_assoc];rfl) ?_;have hkk:(L.length-1-i)<L.length:=(by omega);obtain ⟨xb,xc,hv27,hxc⟩:=hps _ hkk;have hprs:=parts_rsL hvs hkk hv27;have hdr:=rev_at hi;obtain ⟨hmx,hxb⟩:=hrk _ (getD_mem hkk);obtain ⟨zp,zm,hz,y1,y2,y3,y4⟩:=may_nat hmx
    simp only [Prod.mk.injEq,Int.ofNat_inj] at hz
    obtain ⟨hz1,hz2⟩:=hz;rw [hdr,sumL_cons] at hi2
    refine tc_have (λ _ _ h=>ct_wf2 (by repeat (first|with_reducible exact ct_here|apply ct_left)) h) λ hw1=> ?_
    refine tc_env (d:=26) (v:= .int .i64 (((L.length-1-i):Nat):Int)) (rfl) ?_;refine tc_env (d:=27) (v:= .agg #[.int .i64 ((((L.getD (L.length-1-i) (0,[])).1):Nat):Int),.slice xb ((L.getD (L.length-1-i) (0,[])).2).length xc]) (by show rvl L vs (L.length-1-i)=_;unfold rvl;rw [hv27]) ?_;refine tc_reg ?_;refine tl_x rfl (o_alloc z253 rfl) ?_;rintro _ _ ⟨b7,rfl,rfl⟩;refine tl_u rfl (o_stUN (l':=[.int .i64 ((((L.getD (L.length-1-i) (0,[])).1):Nat):Int),.slice xb ((L.getD (L.length-1-i) (0,[])).2).length xc]) rfl (by repeat (first|with_reducible exact upd_here|with_reducible exact upd_pt|apply upd_left)) sz253 rfl rfl rfl (by show 2<=2;decide) rfl) ?_;refine tl_nil ?_;refine ⟨R*Dev d s1*Parts vs (L.map (·.2))*pt b1 (cl [pz bl] 89)*pt b2 (cl [.int .i64 0] 3)*pt b3 (cl [.int .i64 0] 33)*pt b7 (cl [.int .i64 ((((L.getD (L.length-1-i) (0,[])).1):Nat):Int),.slice xb ((L.getD (L.length-1-i) (0,[])).2).length xc] 253),λ g w h=>by simp only [←star_assoc];exact Dr.sat (by repeat (first|with_reducible exact dr_refl|apply dr_keep|apply dr_drop)) g w h,λ F=> ?_⟩;refine tc_eq (by simp only [←star_assoc];rfl) ?_;refine tc_block ?_;refine Yef ?_;refine tl_v rfl (o_loadN (vs:=[.int .i64 ((((L.getD (L.length-1-i) (0,[])).1):Nat):Int),.slice xb ((L.getD (L.length-1-i) (0,[])).2).length xc]) a253 sz253 rfl (by repeat (first|with_reducible exact has_here|with_reducible exact has_pt|apply has_left)) (by show 2<=2;decide) rfl) ?_;refine tl_c rfl (o_call bd172 rfl (back_c (s:=s1) (p:=((L.getD (L.length-1-i) (0,[])).1)) (m:=((L.getD (L.length-1-i) (0,[])).2).length) (xs:=((L.getD (L.length-1-i) (0,[])).2)) (a:=xb) (c:=xc) (hl:=(by repeat (first|assumption|exact has_rt (by assumption)|apply has_left))) (hr:=by repeat (first|exact hprs _|apply Rs.left)) (hmc:=hxc) (hb:=hxb) (hroom:=λ l hl=>by have:=hi2 l hl;omega))) ?_;rintro _ _ ⟨e30,s30,hs30,rfl,rfl⟩;refine Yiu ?_;refine Yhq ?_;refine Yby ?_;refine tc_cond rfl (λ h=> ?_) (λ h=> ?_)
    . have he30:e30≠0:=(by simpa using h);refine Ybw ?_;refine Ybj ?_;refine Yip ?_;refine q_block_r ?_;exact ⟨R*Dev d (s30)*Parts vs (L.map (·.2))*pt b1 (cl [pz bl] 89)*pt b2 (cl [.int .i64 0] 3)*pt b3 (cl [.int .i64 (e30)] 33),λ g w h=>by simp only [←star_assoc];exact Dr.sat (by repeat (first|with_reducible exact dr_refl|apply dr_keep|apply dr_drop)) g w h,e30,s30,rfl,by rw [←hi0,hdr];exact backF_e hs30 he30,he30,rfl⟩
    obtain rfl:e30=0:=by simpa using h
    refine tc_skip ?_;refine q_block_n ?_;exact ⟨R*Dev d (s30)*Parts vs (L.map (·.2))*pt b1 (cl [pz bl] 89)*pt b2 (cl [.int .i64 0] 3)*pt b3 (cl [.int .i64 0] 33),λ g w h=>by simp only [←star_assoc];exact Dr.sat (by repeat (first|with_reducible exact dr_refl|apply dr_keep|apply dr_drop)) g w h,s30,by rw [←hi0,hdr];exact (backF_o hs30).symm,by have:=back_len (L.getD (L.length-1-i) (0,[])) s1;rw [show backS (L.getD (L.length-1-i) (0,[])) s1=(0,s30) from hs30] at this;exact this.trans hi1,back_room (x:=L.getD (L.length-1-i) (0,[])) hs30 hw1 hxb (λ l hl=>by have:=hi2 l hl;omega),rfl⟩
  . intro r S hI;obtain ⟨s1,hi0,hi1,hi2,rfl⟩:=hI;refine q_block_n (q_then_n ?_);refine tc_seq ?_;refine tc_seq ?_;have hbk:backF L.reverse s=(0,s1):=(by rw [←hi0,List.drop_eq_nil_of_le (by rw [List.length_reverse];exact Nat.le_refl _)];rfl);refine tc_have (λ _ _ h=>ct_wf2 (by repeat (first|with_reducible exact ct_here|apply ct_left)) h) λ hw1=> ?_
    have hr1:Room 1 s1:=λ l hl=>by have:=hi2 l hl;omega
    refine tc_reg ?_;refine tl_v rfl (by first|exact o_load p89 rfl (by repeat (first|with_reducible exact has_here|with_reducible exact has_pt|apply has_left)) rfl|exact o_loadC p89 rfl (by assumption)) ?_;refine Yll ?_;refine tl_v rfl (o_load p47 rfl (by repeat (first|assumption|apply has_left)) rfl) ?_;refine tl_c rfl (o_call bd98 rfl (Fence_c (s:=s1))) ?_;rintro _ _ ⟨e38,s38,hs38,rfl,rfl⟩;refine Yiu ?_;refine Yhq ?_;refine Yby ?_;refine tc_cond rfl (λ h=> ?_) (λ h=> ?_)
    . have he38:e38≠0:=(by simpa using h);refine Ybw ?_;refine Ybj ?_;refine Yip ?_;refine q_then_r ?_;exact ⟨[r],_,rfl,λ _ _ h=>mk1 h,.tuple #[.int .i64 0,.int .i64 e38],C (Dev d s38),resA2 rfl (rv_cell1 p3 rfl (by repeat (first|with_reducible exact has_here|with_reducible exact has_pt|apply has_left)) rfl) (rv_cell1 p33 rfl (by repeat (first|with_reducible exact has_here|with_reducible exact has_pt|apply has_left)) rfl),λ _ _ h=>by rw [hC];exact (Dr.sat (A':=R*Dev d s38) (by repeat (first|with_reducible exact dr_refl|apply dr_keep|apply dr_drop))) _ _ h,e38,0,s38,roll_f hL hne hbk hs38 he38,rfl,rfl⟩
    obtain rfl:e38=0:=by simpa using h
    have hr2:=fe_room hs38 hw1 hr1;refine Yg6 ?_;refine tc_seq ?_;refine tc_seq ?_;refine tc_cut (λ ρ BB=>∃ (e50:Int) (s50:DevS),(pubP (at_:Nat) 0 s38=(e50,s50))/\ ρ 10= .int .i64 e50/\ ρ 56=mkv [r]/\ ρ 2=(pz b2)/\ ρ 3=(pz b3)/\ ρ 4= .slice a13 L.length c13/\ Dr BB (R*Dev d s50*Parts vs (L.map (·.2))*pt b1 (cl [pz bl] 89)*pt b2 (cl [.int .i64 0] 3)*pt b3 (cl [.int .i64 0] 33)*pt r mkO)) ?_ ?_
    . skip
      refine tc_regh (S:=R) mo (by repeat (first|with_reducible exact dr_refl|apply dr_keep|apply dr_drop)) ?_
      show TH _ _ _ _ _ 10 (Array.replicate 10 false) _ _
      refine th_two (i:=0) (j:=4) kqz ?_ ?_
      . skip
        refine Yb5 ?_;refine th_two (i:=3) (j:=4) kqz ?_ ?_
        . skip
          refine oh_v rfl rfl rfl (o_load p47 rfl (by repeat (first|assumption|apply has_left)) rfl) ?_;refine th_one (i:=4) kqz ?_;refine Ygw ?_;refine Ygj ?_;refine th_one (i:=8) kqz ?_;refine oh_c rfl rfl rfl (o_call bd168 rfl (Publish_c (s:=s38) (p:=(at_:Nat)) (v:=0))) ?_;rintro _ _ ⟨e50,s50,hs50,rfl,rfl⟩;refine Yd7 ?_;exact ⟨e50,s50,hs50,rfl,rfl,rfl,rfl,rfl,(by repeat (first|with_reducible exact dr_refl|apply dr_keep|apply dr_drop))⟩
        . skip
          refine Ygw ?_;refine th_two (i:=3) (j:=7) kqz ?_ ?_
          . skip
            refine Ylt ?_;refine th_one (i:=8) kqz ?_;refine oh_c rfl rfl rfl (o_call bd168 rfl (Publish_c (s:=s38) (p:=(at_:Nat)) (v:=0))) ?_;rintro _ _ ⟨e50,s50,hs50,rfl,rfl⟩;refine Yd7 ?_;exact ⟨e50,s50,hs50,rfl,rfl,rfl,rfl,rfl,(by repeat (first|with_reducible exact dr_refl|apply dr_keep|apply dr_drop))⟩
          . skip
            refine Ylx ?_;refine oh_c rfl rfl rfl (o_call bd168 rfl (Publish_c (s:=s38) (p:=(at_:Nat)) (v:=0))) ?_;rintro _ _ ⟨e50,s50,hs50,rfl,rfl⟩;refine Yd7 ?_;exact ⟨e50,s50,hs50,rfl,rfl,rfl,rfl,rfl,(by repeat (first|with_reducible exact dr_refl|apply dr_keep|apply dr_drop))⟩
      . skip
        refine Ygw ?_;refine th_two (i:=0) (j:=7) kqz ?_ ?_
        . skip
          refine Yb5 ?_;refine th_two (i:=3) (j:=7) kqz ?_ ?_
          . skip
            refine Ylt ?_;refine th_one (i:=8) kqz ?_;refine oh_c rfl rfl rfl (o_call bd168 rfl (Publish_c (s:=s38) (p:=(at_:Nat)) (v:=0))) ?_;rintro _ _ ⟨e50,s50,hs50,rfl,rfl⟩;refine Yd7 ?_;exact ⟨e50,s50,hs50,rfl,rfl,rfl,rfl,rfl,(by repeat (first|with_reducible exact dr_refl|apply dr_keep|apply dr_drop))⟩
          . skip
            refine Ylx ?_;refine oh_c rfl rfl rfl (o_call bd168 rfl (Publish_c (s:=s38) (p:=(at_:Nat)) (v:=0))) ?_;rintro _ _ ⟨e50,s50,hs50,rfl,rfl⟩;refine Yd7 ?_;exact ⟨e50,s50,hs50,rfl,rfl,rfl,rfl,rfl,(by repeat (first|with_reducible exact dr_refl|apply dr_keep|apply dr_drop))⟩
        . skip
          refine oh_v rfl rfl rfl (o_load p3 rfl (by repeat (first|assumption|apply has_left)) rfl) ?_;refine th_one (i:=0) kqz ?_;refine Yb5 ?_;refine Yf1 ?_;refine oh_c rfl rfl rfl (o_call bd168 rfl (Publish_c (s:=s38) (p:=(at_:Nat)) (v:=0))) ?_;rintro _ _ ⟨e50,s50,hs50,rfl,rfl⟩;refine Yd7 ?_;exact ⟨e50,s50,hs50,rfl,rfl,rfl,rfl,rfl,(by repeat (first|with_reducible exact dr_refl|apply dr_keep|apply dr_drop))⟩
    intro ρ B hI;obtain ⟨e50,s50,hst0,hE10,hE56,hE2,hE3,hE4,hBA⟩:=hI;refine q_then_n ?_;refine tc_pre hBA.sat ?_;clear hBA;refine tc_env (d:=10) hE10 ?_;refine tc_env (d:=56) hE56 ?_;refine tc_env (d:=2) hE2 ?_;refine tc_env (d:=3) hE3 ?_;refine tc_env (d:=4) hE4 ?_;refine Yhq ?_;refine Yby ?_;refine tc_cond rfl (λ h=> ?_) (λ h=> ?_)
    . have he50:e50≠0:=(by simpa using h);refine Ybw ?_;refine Ybj ?_;refine Yip ?_;refine q_then_r ?_;exact ⟨[r],_,rfl,λ _ _ h=>mk1 h,.tuple #[.int .i64 0,.int .i64 e50],C (Dev d s50),resA2 rfl (rv_cell1 p3 rfl (by repeat (first|with_reducible exact has_here|with_reducible exact has_pt|apply has_left)) rfl) (rv_cell1 p33 rfl (by repeat (first|with_reducible exact has_here|with_reducible exact has_pt|apply has_left)) rfl),λ _ _ h=>by rw [hC];exact (Dr.sat (A':=R*Dev d s50) (by repeat (first|with_reducible exact dr_refl|apply dr_keep|apply dr_drop))) _ _ h,e50,0,s50,roll_p hL hne hbk hs38 hst0 he50,rfl,rfl⟩
    obtain rfl:e50=0:=by simpa using h
    refine Yg6 ?_;refine Ye5 ?_;refine tl_v rfl (o_len underlying181 rfl) ?_;refine tl_u rfl (o_stU rfl (by repeat (first|with_reducible exact upd_here|with_reducible exact upd_pt|apply upd_left)) sz3 rfl rfl (by first|decide|simp|omega) rfl) ?_;refine Yip ?_;exact ⟨[r],_,rfl,λ _ _ h=>mk1 h,.tuple #[vn L.length,.int .i64 0],C (Dev d s50),resA2 rfl (rv_cell1 p3 rfl (by repeat (first|with_reducible exact has_here|with_reducible exact has_pt|apply has_left)) rfl) (rv_cell1 p33 rfl (by repeat (first|with_reducible exact has_here|with_reducible exact has_pt|apply has_left)) rfl),λ _ _ h=>by rw [hC];exact (Dr.sat (A':=R*Dev d s50) (by repeat (first|with_reducible exact dr_refl|apply dr_keep|apply dr_drop))) _ _ h,0,((L.length:Nat):Int),s50,roll_o hL hne hbk hs38 hst0,rfl,rfl⟩
  intro r j S hX;obtain ⟨e,s1,rfl,hx0,hx1,rfl⟩:=hX;refine jmp_r ?_;refine q_block_r (q_then_r ?_);exact ⟨[r],_,rfl,λ _ _ h=>mk1 h,.tuple #[.int .i64 0,.int .i64 e],C (Dev d s1),resA2 rfl (rv_cell1 p3 rfl (by repeat (first|with_reducible exact has_here|with_reducible exact has_pt|apply has_left)) rfl) (rv_cell1 p33 rfl (by repeat (first|with_reducible exact has_here|with_reducible exact has_pt|apply has_left)) rfl),λ _ _ h=>by rw [hC];exact (Dr.sat (A':=R*Dev d s1) (by repeat (first|with_reducible exact dr_refl|apply dr_keep|apply dr_drop))) _ _ h,e,0,s1,roll_b hL hne hx0 hx1,rfl,rfl⟩
end Rg
end Go.Vl

namespace Go.Vl
open Go Go.Proofs Go.Proofs.Tryz
def oldsL (I:List Nat)(l:List (Int×Int)):List (Nat×List Nat):=l.map λ x=>(x.1.toNat,(I.drop x.1.toNat).take x.2.toNat)
def wrI1 (at_:Nat)(I:List Nat)(l:List (Int×Int)):List Nat:=spl I (at_+64) (recsB I l)
def wrI (at_:Nat)(I:List Nat)(l:List (Int×Int)):List Nat:=spl (wrI1 at_ I l) at_ (le 8 l.length)
def Mkd (j:Nat)(s:DevS):Prop:=∀l,s.ls[j]? =some l->l.mark=(l.st.length:Int)-1
def InX (L:List (Nat×List Nat))(i:Nat):Prop:=∃x∈L,x.1<=i/\ i<x.1+x.2.length
def XU (L:List (Nat×List Nat))(I:List Nat)(q:Nat)(c:List Nat):Prop:=∀j,j<64->¬InX L (q*64+j)->c[j]? =I[q*64+j]?
structure AS (L:List (Nat×List Nat)) (I:List Nat) (s:DevS):Prop where
  wf:WfD s
  len:I.length=s.ls.length*64
  poss:Poss (XU L I) s
  one:∀ (q:Nat) (l:LineS),(∀i,InX L i->i/64≠q)->s.ls[q]? =some l->l.st.length=1
theorem AS.img {L:List (Nat×List Nat)}{I:List Nat}{s:DevS}(h:AS L I s){i:Nat}(hi:¬InX L i):(imgS s)[i]? =I[i]? :=by
  have hil:=imgS_len h.wf;have hl:=h.len
  rcases Nat.lt_or_ge i (s.ls.length*64) with h1|h1
  . have:=poss_img h.wf h.poss (q:=i/64) oqz (i%64) oqz (by rw [show i/64*64+i%64=i by omega];exact hi);rw [chunk_at oqz,show i/64*64+i%64=i by omega] at this
    exact this
  rw [List.getElem?_eq_none oqz,List.getElem?_eq_none oqz]
theorem AS.sub {L:List (Nat×List Nat)}{I:List Nat}{s:DevS}(h:AS L I s){p m:Nat}(hd:∀i,p<=i->i<p+m->¬InX L i):((imgS s).drop p).take m=(I.drop p).take m:=by
  apply List.ext_getElem?
  intro i;rw [List.getElem?_take,List.getElem?_take]
  split
  . rw [List.getElem?_drop,List.getElem?_drop];exact h.img (hd _ oqz oqz)
  rfl
structure Got (D:List (Nat×List Nat)) (I:List Nat) (s:DevS):Prop where
  img:∀i,InX D i->(imgS s)[i]? =I[i]?
  mkd:∀i,InX D i->Mkd (i/64) s
def armP (after:Int)(keep:List Int)(Q:PlS):PlS:={ Q with s:={ Q.s with arms:=[(after,keep)],cnt:=Q.s.ops } }
structure ArmStep (after:Int) (keep:List Int) (P':Bool×PlS) (Q:PlS) (Q':Bool×PlS):Prop where
  ok:Q'.1=true
  ops:P'.2.s.ops=Q'.2.s.ops
  near:Q'.2.s.ops=Q.s.ops∨Q'.2.s.ops=Q.s.ops+1
  on:Q'.2.s.ops≠after->P'=(true,armP after keep Q'.2)
  gone:Q'.2.s.ops=after->P'.1=false/\ P'.2.s.off=true/\ P'.2.s.arms=[]/\ P'.2.s.ls=(goesS keep Q'.2.s).ls
theorem WfP.mono {r r':Nat}{P:PlS}(h:WfP r P)(hr:r'<=r):WfP r' P:=⟨h.pos,h.top,h.ls,h.seen,h.held,h.last,h.sure,λ l hl=>by have:=h.room l hl;omega,λ l hl=>by have:=h.hroom l hl;omega⟩
def rise (n:Nat):List Nat:=(List.range n).map λ i=>i%256
def mdK (k:Nat):List Nat:=spl (rise 1024) 128 (List.replicate k 0)
def mdI:List Nat:=mdK 8
def mds:DevS:=fromS 16 mdI
def LogI (sz:Nat)(l:List (Int×Int))(I:List Nat):Prop:=nm ((I.drop 128).take 8)=l.length/\ (I.drop 192).take (needN l)=recsB mdI l/\ I.length=1024/\ Out 128 (128+sz) I mdI
theorem pair_eq {α β:Type}{x:α×β}{a c:α}{b d:β}(h1:x=(a,b))(h2:x=(c,d)):a=c/\ b=d:=by
  rw [h1] at h2;simpa using h2
def NoL (A:SP)(v:Value):Prop:=v= .pointer none∨∃b,v=(pz b)/\ Has A b (cl [.pointer none,.int .i64 0,.int .i64 0] 99)
theorem NoL.left {A X:SP}{v:Value}(h:NoL A v):NoL (A*X) v:=h.imp id λ ⟨b,e,hc⟩=>⟨b,e,has_left hc⟩
attribute [local irreducible] crk crL crc Sl pt ro Dev imgS recS readS recsF rdW rdO rkT Parts rvl recordsS mdI mdK rise mds writeS rollS
theorem readyN11_c {A:SP}:
    Fn Tryz.prog 162 #[.pointer none] A (λ r B=>r= .int .i64 1/\ A=B):=by
  refine fn_enterW func162 rfl ntmps162 (by simp) ?_;refine Zlw ?_;refine tlm ?_;refine tl_bool (d:=6) rfl (sbq ?_) dbq;intro h;refine Zk2 ?_;refine Za ?_;refine tc_cond_t rfl ?_;refine Zhl ?_;exact ⟨.int .i64 1,A,res1 rfl rfl,Dr.sat drqz,rfl,rfl⟩
theorem Zif {p r:Prop}(k:r)(h:Kq r->p:=by intro k;refine Za ?_;refine tc_cond rfl (sbq ?_) dbq;exact k.o):p:=h ⟨k⟩
theorem readyB11_c {A:SP}{b:Nat}(hc:Has A b (cl [.pointer none,.int .i64 0,.int .i64 0] 99)):
    Fn Tryz.prog 162 #[pz b] A (λ r B=>r= .int .i64 1/\ A=B):=by
  refine fn_enterW func162 rfl ntmps162 (by simp) ?_;refine Zlw ?_;refine tlm ?_;refine tl_bool (d:=6) rfl dbq (sbq ?_);intro h;refine Zw ?_;refine tv (o_fieldAddr (o:=0) underlying99 rfl rfl sz47 rfl) ?_;refine tv (o_load p47 rfl hc rfl) ?_;refine tv (o_eqp underlying47 rfl rfl) ?_;refine tv (o_pick_f rfl wqz) ?_;refine Zif ?_;intro h;refine Zhl ?_;exact ⟨.int .i64 1,A,res1 rfl rfl,Dr.sat drqz,rfl,rfl⟩
theorem readyZ11_c {A:SP}{v:Value}(h0:NoL A v:=by assumption):Fn Tryz.prog 162 #[v] A (λ r B=>r= .int .i64 1/\ A=B):=by
  rcases h0 with rfl|⟨b,rfl,hc⟩
  . exact readyN11_c
  exact readyB11_c hc
theorem RecordsZ11_c {A:SP}{v:Value}(h0:NoL A v:=by assumption):
    Fn Tryz.prog 108 #[v] A (λ r B=>r= .tuple #[.slice none 0 0,.int .i64 1]/\ A=B):=by
  refine fn_enterW func108 rfl ntmps108 (by simp) ?_;refine Zc3 ?_;refine tl_c rfl (o_call bd162 rfl (readyZ11_c)) ?_;refine Zgd ?_;refine tc_cond rfl (sbq ?_) (λ h=> ?_)
  . intro h;refine Ze1 ?_;exact ⟨.tuple #[.slice none 0 0,.int .i64 1],A,res2 rfl rfl rfl,Dr.sat drqz,rfl,rfl⟩
  exfalso;simp at h
namespace Rg
end Rg
namespace Rg
end Rg
end Go.Vl

namespace Go.Vl
open Go Go.Proofs Go.Proofs.Tryz
def lst (xs:List Int)(i:Nat):List (Int×Int):=(xs.take i).map λ x=>((600:Int),1+x%90)
theorem xcl_nil:xcl []=[]:=rfl
def brN (x:Int×Int):Int:=1+(IntKind.i64.wrap (x.2-1))%40
def brX (x:Int×Int):Int×Int:=(if 256<=x.1∨x.1<0 then 512+x.1%(512-brN x+1) else 64+x.1%(64-brN x+1),brN x)
def brL (es:List (Int×Int))(i:Nat):List (Int×Int):=(es.take i).map brX
def fiveX (k:Nat):List (Int×Int):=(List.range k).map λ i:Nat=>((64:Int),1+(i:Int))
def PsR (A:SP)(L:List (Nat×List Nat))(vs:List Value):Prop:=∀k,k<L.length->∃b c,vs.getD k (.slice none 0 0)= .slice b (L.getD k (0,[])).2.length c/\ Rs A b (bys (L.getD k (0,[])).2)/\ (L.getD k (0,[])).2.length<=4294967296
theorem psr_of {A:SP}{L:List (Nat×List Nat)}{vs:List Value}(h1:vs.length=L.length)(h2:∀k,k<L.length->∃b c,vs.getD k (.slice none 0 0)= .slice b (L.getD k (0,[])).2.length c/\ (L.getD k (0,[])).2.length<=c)(h3:∀x∈L,x.2.length<=4294967296):PsR (A*Parts vs (L.map (·.2))) L vs:=λ k hk=>by
  obtain ⟨b,c,e,_⟩:=h2 k hk;exact ⟨b,c,e,parts_rsL h1 hk e A,h3 _ (getD_mem hk)⟩
theorem PsR.left {A X:SP}{L:List (Nat×List Nat)}{vs:List Value}(h:PsR A L vs):PsR (A*X) L vs:=λ k hk=>by
  obtain ⟨b,c,e,hr,hl⟩:=h k hk;exact ⟨b,c,e,hr.left,hl⟩
theorem kcl_nil:kcl [] []=[]:=rfl
theorem wfd_on {s:DevS}(h:WfD s):WfD { s with off:=false }:=⟨h.pos,h.top,h.line,h.arms,h.after,h.keeps⟩
def kpR (kp:List Int)(i:Nat):List Int:=(kp.take i).map λ x=>x%1000
def PXts (A:SP)(cs:List Value)(es:List (Int×Int)):Prop:=∃a c,cs=[.slice a es.length c]/\ es.length<=c/\ es.length<=8796093022208/\ Rs A a (xcl es)/\∀x∈es,XW x
structure Ar1 where
  af:Int
  a:Option Addr
  c:Nat
  kp:List Int
def Ar1.cells (x:Ar1):List Value:=[.int .i64 x.af,.slice x.a x.kp.length x.c]
def PArs (A:SP)(cs:List Value)(p:List Value×List (Int×List Int)):Prop:=∃a c,cs=[.slice a p.2.length c]/\ p.2.length<=c/\ p.2.length<=4398046511104/\ RdA A a p.1 p.2/\∀x∈p.2,(-9223372036854775808<=x.1/\ x.1<=9223372036854775807)/\ x.2.length<=17592186043904/\∀k∈x.2,-9223372036854775808<=k/\ k<=9223372036854775807
structure Chg where
  q:Int
  p:Int
  a:Option Addr
  c:Nat
  b:List Nat
  fl:Bool
  fe:Bool
def Chg.cells (x:Chg):List Value:=[.int .i64 x.q,.int .i64 x.p,.slice x.a x.b.length x.c,.bool x.fl,.bool x.fe]
structure ChgW (A:SP) (x:Chg):Prop where
  q:(-9223372036854775808<=x.q/\ x.q<=9223372036854775807)
  p:(-9223372036854775808<=x.p/\ x.p<=9223372036854775807)
  cap:x.b.length<=x.c
  len:x.b.length<=140737488351232
  rs:Rs A x.a (bys x.b)
  by_:∀y∈x.b,y<256
theorem ChgW.left {A X:SP}{x:Chg}(h:ChgW A x):ChgW (A*X) x:=⟨h.q,h.p,h.cap,h.len,h.rs.left,h.by_⟩
def chl (l:List Chg):List Value:=l.flatMap Chg.cells
def PChs (A:SP)(cs:List Value)(l:List Chg):Prop:=∃a c,cs=[.slice a l.length c]/\ l.length<=c/\ l.length<=2932031007403/\ Rs A a (chl l)/\∀x∈l,ChgW A x
structure Stx where
  es:List (Int×Int)
  ch:List Chg
  kvs:List Value
  ars:List (Int×List Int)
  lg:Bool
def PSto (A:SP)(cs:List Value)(t:Stx):Prop:=∃v1 v2 v3,cs=[v1,v2,v3,.bool t.lg]/\ PXts A [v1] t.es/\ PChs A [v2] t.ch/\ PArs A [v3] (t.kvs,t.ars)
def XIn (x:Int×Int):Prop:=1<=x.2/\ x.2<=40/\ ((64<=x.1/\ x.1+x.2<=128)∨(512<=x.1/\ x.1+x.2<=1024))
structure CSt (X:List (Int×Int)) (I:List Nat) (r:Nat) (s:DevS):Prop where
  ast:AS (oldsL mdI X) I s
  len:s.ls.length=16
  room:Room r s
structure Clr (I:List Nat) (s:DevS):Prop where
  wf:WfD s
  cln:Cln s
  img:imgS s=spl I 128 (le 8 0)
  len:s.ls.length=16
structure Trn (X:List (Int×Int)) (I:List Nat) (s:DevS):Prop where
  room:Room 385 s
  ast:(X≠[]/\ AS (oldsL mdI X) I s/\ s.ls.length=16)∨Clr I s
def Ar1.pr (x:Ar1):Int×List Int:=(x.af,x.kp)
def ownR (x:Ar1):SP:=Sl 1 (.slice x.a x.kp.length x.c) x.kp.length (ints x.kp)
def brA (x:Int×List Int):Int×List Int:=(1+x.1%60,x.2.map λ k=>k%1000)
structure ArP (xs:List Ar1) (ars:List (Int×List Int)):Prop where
  mp:xs.map Ar1.pr=ars.map brA
  cp:∀x∈xs,x.kp.length<=x.c
def ArB (a:Option Addr)(c n:Nat)(xs:List Ar1):SP:=Sl 2 (.slice a n c) n (xs.flatMap Ar1.cells)*Bs ownR xs
structure ChgV (A:SP) (x:Chg):Prop where
  q: -9223372036854775808<=x.q/\ x.q<=9223372036854775807
  p: -9223372036854775808<=x.p/\ x.p<=9223372036854775807
  cap:x.b.length<=x.c
  rs:Rs A x.a (bys x.b)
  by_:∀y∈x.b,y<256
theorem ChgV.left {A X:SP}{x:Chg}(h:ChgV A x):ChgV (A*X) x:=⟨h.q,h.p,h.cap,h.rs.left,h.by_⟩
def ArOk (ars:List (Int×List Int)):Prop:=∀x∈ars,(-9223372036854775808<=x.1/\ x.1<=9223372036854775807)/\ x.2.length<=1099511627776/\∀k∈x.2,-9223372036854775808<=k/\ k<=9223372036854775807
def PXtU (A:SP)(cs:List Value)(es:List (Int×Int)):Prop:=∃a c,cs=[.slice a es.length c]/\ es.length<=c/\ Rs A a (xcl es)/\∀x∈es,XW x
def PArU (A:SP)(cs:List Value)(p:List Value×List (Int×List Int)):Prop:=∃a c,cs=[.slice a p.2.length c]/\ p.2.length<=c/\ RdA A a p.1 p.2/\∀x∈p.2,(-9223372036854775808<=x.1/\ x.1<=9223372036854775807)/\∀k∈x.2,-9223372036854775808<=k/\ k<=9223372036854775807
def PChU (A:SP)(cs:List Value)(l:List Chg):Prop:=∃a c,cs=[.slice a l.length c]/\ l.length<=c/\ Rs A a (chl l)/\∀x∈l,ChgV A x
def PStU (A:SP)(cs:List Value)(t:Stx):Prop:=∃v1 v2 v3,cs=[v1,v2,v3,.bool t.lg]/\ PXtU A [v1] t.es/\ PChU A [v2] t.ch/\ PArU A [v3] (t.kvs,t.ars)
def Stx.sz (t:Stx):Nat:=t.es.length+(t.ch.map λ x=>x.b.length+1).sum+(t.ars.map λ x=>x.2.length+1).sum
def GrK (k:Nat)(v:Value)(n:Nat)(xs:List Value)(v':Value)(m:Nat)(ys:List Value):SP:=λ h=>
  (∃a c,v= .slice a n c/\ v'= .slice a m c/\ n<=m/\ xs=ys.take (n*k)/\ Sl k v' m ys h)∨(Sl k v n xs*Sl k v' m ys) h
def ilv {α:Type}:List α->List α->List α
  |x::xs,y::ys=>x::y::ilv xs ys
  |_,_=>[]
def pc (x:Int×Value):List Value:=[.int .i64 x.1,x.2]
def pcl (l:List (Int×Value)):List Value:=l.flatMap pc
def rpl (n:Nat)(k:Int):List (Int×Value):=List.replicate n (k,.slice none 0 0)
def kz:List (Nat×List Nat)->List Value->List (Int×Value)
  |x::l,v::vs=>((x.1:Nat),v)::kz l vs
  |_,_=>[]
attribute [local irreducible] crk crL crc Sl pt ro Dev imgS recS readS recsF rdW rdO rkT Parts rvl recordsS mdI mdK rise mds writeS rollS clearS oldsL kcl xcl RDev
theorem rRound8_c {A:SP}{n:Nat}(hn:n<=9223372036854775807:=by omega):
    Fn Tryz.prog 259 #[vn n,.int .i64 8] A (λ r B=>r= .tuple #[.int .i64 (rndS n).1,.int .i64 (rndS n).2]/\ A=B):=by
  refine fn_enterW func259 rfl ntmps259 (by simp) ?_;have hp8:pad8 n<8:=(by unfold pad8;omega);refine Zc3 ?_;refine Zdq ?_;refine tl_bool (d:=9) rfl dbq (sbq ?_);intro h;refine Zjw ?_;refine Zd6 ?_;intro h;refine Zgr ?_;refine tv (o_remN (b:=8) rfl rfl (by decide)) ?_;refine tl_env (d:=15) (v:=(vn (n%8))) (rfl) ?_;refine Zd1 ?_;refine Zca ?_;refine tc_cond rfl (λ h=> ?_) (λ h=> ?_)
  . have g17:n%8=0:=(by first|(have h9:=of_decide_eq_true h;omega)|(simp at h;omega));refine Ze1 ?_;have e:rndS n=((n:Int),0):=(by unfold rndS up8;have:pad8 n=0:=(by unfold pad8;omega);rw [this,if_neg oqz];rfl);rw [e]
    exact ⟨.tuple #[vn n,.int .i64 0],A,res2 rfl rfl rfl,Dr.sat drqz,rfl,rfl⟩
  have g17:¬n%8=0:=(by first|(have h9:=of_decide_eq_false h;omega)|(simp at h;omega));have hpp:pad8 n=8-n%8:=(by unfold pad8;omega);refine Zdf ?_;refine Z2 ?_;refine tv (o_subI rfl rfl oqz) ?_;refine tv (o_subI rfl rfl oqz) ?_;refine Ze4 ?_;refine tc_cond rfl (λ h=> ?_) (λ h=> ?_)
  . have g24:9223372036854775807<n+pad8 n:=(by first|(have h9:=of_decide_eq_true h;omega)|(simp at h;omega));refine Zgs ?_;have e:rndS n=(0,2):=(by unfold rndS;rw [if_pos g24]);rw [e]
    exact ⟨.tuple #[.int .i64 0,.int .i64 2],A,res2 rfl rfl rfl,Dr.sat drqz,rfl,rfl⟩
  have g24:¬9223372036854775807<n+pad8 n:=(by first|(have h9:=of_decide_eq_false h;omega)|(simp at h;omega));refine Zc6 ?_;refine Z2 ?_;refine tv (o_subI rfl rfl oqz) ?_;refine tv (o_addI rfl rfl oqz) ?_;refine tl_env (d:=29) (v:=(vn (up8 n))) (by show Value.int .i64 ((n:Int)+(8-((n%8:Nat):Int)))=_;congr 1;unfold up8;omega) ?_;refine Zc4 ?_;have e:rndS n=(((up8 n:Nat):Int),0):=(by unfold rndS;rw [if_neg g24]);rw [e]
  exact ⟨.tuple #[vn (up8 n),.int .i64 0],A,res2 rfl rfl rfl,Dr.sat drqz,rfl,rfl⟩
theorem Zk5 {p r:Prop}(k:r)(h:Kq r->p:=by intro k;refine tlm ?_;refine tv (o_addI rfl rfl oqz) ?_;exact k.o):p:=h ⟨k⟩
theorem rNeed_c {A:SP}{a:Option Addr}{c m:Nat}{xs:List Int}(hr:Rs A a (ints xs):=by exact rbqz)(hm:xs.length=m:=by first|assumption|rfl)(hx:∀x∈xs,-9223372036854775808<=x/\ x<=9223372036854775807:=by assumption)(hml:m<=4611686018427387904:=by omega):
    Fn Tryz.prog 281 #[.slice a m c] A (λ r B=>r= .tuple #[.int .i64 (needS xs).1,.int .i64 (needS xs).2]/\ A=B):=by
  refine fn_enterW func281 rfl ntmps281 (by simp) ?_;refine sr ?_;refine Z0 ?_;refine Zky ?_;refine tc_loop (λ kk ρ BB=>∃ (i:Nat) (sm:Int),(i<=m)/\ (needF (xs.drop i) sm=needS xs)/\ (0<=sm/\ sm<=9223372036854775807)/\ kk=m-i/\ ρ 4= .int .i64 sm/\ ρ 5=(vn i)/\ ρ 0= .slice a m c/\ BB=A) (m:=m-(0)) ?_ ?_
  . exact ⟨0,0,by omega,rfl,by omega,rfl,rfl,rfl,rfl,rfl⟩
  intro k ρ B hI;obtain ⟨i,sm,hp0,hp1,hp2,hkk1,hE4,hE5,hE0,hBA⟩:=hI;obtain rfl:=hBA.symm;refine te 4 hE4 ?_;refine te 5 hE5 ?_;refine te 0 hE0 ?_;refine Zed ?_;refine Ze2 ?_;refine tc_cond rfl (λ h=> ?_) (λ h=> ?_)
  . have hi:i<xs.length:=(by first|omega|(simp at h;omega));obtain ⟨x,hx1⟩:∃x,xs[i]=x:=⟨_,rfl⟩;have hxb:=hx x (hx1▸List.getElem_mem hi);have hnd:=needF_drop hi sm;rw [hx1] at hnd
    obtain ⟨hsm0,hsm1⟩:=hp2;refine Zbe ?_;refine Zed ?_;refine tv (o_ixP1 underlying26 sz3 rfl rfl oqz (nn_rs hr (by rw [ints_length];omega))) ?_;refine tv (o_ldP p3 rfl hr (ints_at hi)) ?_;refine tl_env (d:=17) (v:= .int .i64 x) (by show Value.int .i64 xs[i]=_;rw [hx1]) ?_;refine Zn ?_;refine tc_cond rfl (λ h=> ?_) (λ h=> ?_)
    . have g18:(x<1):=(by first|exact of_decide_eq_true h|(have h2:=h;simp at h2;omega)|simpa using h);refine Zlh ?_;have e:needS xs=(0,2):=(by rw [←hp1,hnd];first|exact needF_bad g18|rw [needF_cons hq1,if_pos hng]);rw [e]
      exact ⟨.tuple #[.int .i64 0,.int .i64 2],A,res2 rfl rfl rfl,Dr.sat drqz,rfl,rfl⟩
    have g18:¬(x<1):=(by first|exact of_decide_eq_false h|(have h2:=h;simp at h2;omega)|simpa using h);refine Zhp ?_;obtain ⟨q,rfl⟩:=Int.eq_ofNat_of_zero_le (show 0<=x by omega);have hq1:1<=q:=(by omega);have hqr:(rndS q).1<=9223372036854775807/\ 0<=(rndS q).1:=(by unfold rndS up8;split<;>simp<;>omega);refine Zfn ?_;refine tv (o_ixP1 underlying26 sz3 rfl rfl oqz (nn_rs hr (by rw [ints_length];omega))) ?_;refine tv (o_ldP p3 rfl hr (ints_at hi)) ?_;refine tl_env (d:=23) (v:=(vn q)) (by show Value.int .i64 xs[i]=_;rw [hx1]) ?_;refine tl_c rfl (o_call bd259 rfl (rRound8_c (n:=q))) ?_;refine Zdz ?_;refine Z0 ?_;refine Zdw ?_;refine tc_cut (λ ρ BB=>∃ (bb:Bool),(bb=decide ((rndS q).2≠0∨9223372036854775807-24-sm<(rndS q).1))/\ ρ 34= .bool bb/\ ρ 0= .slice a m c/\ ρ 4= .int .i64 sm/\ ρ 5=(vn i)/\ ρ 6= .int .i64 (rndS q).1/\ BB=A) ?_ ?_
    . skip
      refine Zm ?_;refine Zdr ?_;refine tl_bool (d:=29) rfl (λ h=> ?_) (λ h=> ?_)
      . have hng:(rndS q).2≠0∨9223372036854775807-24-sm<(rndS q).1:= .inl (by first|exact of_decide_eq_true h|(simp at h;omega));refine Z8 ?_;refine Zcx ?_;exact ⟨_,by first|exact (decide_eq_true oqz).symm|exact (decide_eq_false oqz).symm|(rw [decide_eq_decide];omega),rfl,rfl,rfl,rfl,rfl,rfl⟩
      have h24:(rndS q).2=0:=(by first|(have h9:=of_decide_eq_false h;omega)|(simp at h;omega));refine Z2 ?_;refine Zgu ?_;refine tl_nil ?_;exact ⟨_,by first|exact (decide_eq_true oqz).symm|exact (decide_eq_false oqz).symm|(rw [decide_eq_decide];omega),rfl,rfl,rfl,rfl,rfl,rfl⟩
    intro ρ B hI;obtain ⟨bb,hbb0,hE34,hE0,hE4,hE5,hE6,hBA⟩:=hI;obtain rfl:=hBA.symm;refine q_then_n ?_;refine te 34 hE34 ?_;refine te 0 hE0 ?_;refine te 4 hE4 ?_;refine te 5 hE5 ?_;refine te 6 hE6 ?_;refine tc_cond rfl (λ h=> ?_) (λ h=> ?_)
    . have hng:=of_decide_eq_true (show decide ((rndS q).2≠0∨9223372036854775807-24-sm<(rndS q).1)=true by rw [←hbb0];exact h);refine Zlh ?_;have e:needS xs=(0,2):=(by rw [←hp1,hnd];first|exact needF_bad g18|rw [needF_cons hq1,if_pos hng]);rw [e]
      exact ⟨.tuple #[.int .i64 0,.int .i64 2],A,res2 rfl rfl rfl,Dr.sat drqz,rfl,rfl⟩
    have hng:=of_decide_eq_false (show decide ((rndS q).2≠0∨9223372036854775807-24-sm<(rndS q).1)=false by rw [←hbb0];exact h);refine Zc ?_;refine Zm ?_;refine tv (o_addI rfl rfl oqz) ?_;refine Zk5 ?_;refine Zhr ?_;exact ⟨_,by omega,i+1,_,by omega,by rw [←hp1,hnd,needF_cons hq1,if_neg hng],by omega,rfl,rfl,rfl,rfl,rfl⟩
  obtain rfl:i=m:=by first|omega|(simp at h;omega)
  refine Zkg ?_;have e:needS xs=(sm,0):=(by rw [←hp1,List.drop_eq_nil_of_le oqz];rfl);rw [e]
  exact ⟨.tuple #[.int .i64 sm,.int .i64 0],A,res2 rfl rfl rfl,Dr.sat drqz,rfl,rfl⟩
theorem rOpen_okf (A:SP){r:Nat}{lv av:Value}{rls:List RL}{s:DevS}(hR:RdevR A r lv rls av s){p q:Int}(hp: -9223372036854775808<=p/\ p<=9223372036854775807)(hq: -9223372036854775808<=q/\ q<=9223372036854775807)(hok:(64<=p/\ p%64=0/\ 128<=q/\ q%64=0/\ p<=(s.ls.length:Int)*64/\ q<=(s.ls.length:Int)*64-p)):
    Fn Tryz.prog 81 #[pz r,.int .i64 p,.int .i64 q] A (λ v B=>∃X,B=A*X/\∃b,v= .tuple #[pz b,.int .i64 0]/\ X=pt b (cl [pz r,.int .i64 p,.int .i64 q] 233)):=by
  refine fn_enterW func81 rfl ntmps81 (by simp) ?_;have htop:=hR.wf.top;refine Zc3 ?_;refine tv (o_eqp underlying48 rfl rfl) ?_;refine Z3 ?_;intro h;refine Zc ?_;refine Zdw ?_;refine tc_cut (λ ρ BB=>∃ (bb:Bool),(bb=decide (¬(64<=p/\ p%64=0/\ 128<=q/\ q%64=0/\ p<=(s.ls.length:Int)*64/\ q<=(s.ls.length:Int)*64-p)))/\ ρ 43= .bool bb/\ ρ 0=(pz r)/\ ρ 1= .int .i64 p/\ ρ 2= .int .i64 q/\ BB=A) ?_ ?_
  . skip
    refine Zm ?_;refine Zdq ?_;refine tl_bool (d:=12) rfl (λ h=> ?_) (λ h=> ?_)
    . have g12:(p<64):=(by first|exact of_decide_eq_true h|(have h2:=h;simp at h2;omega)|simpa using h);refine Zg7 ?_;refine Zh ?_;refine Z7 ?_;refine Zg7 ?_;refine Zdl ?_;refine Z7 ?_;refine Zhj ?_;refine Zcx ?_;exact ⟨_,by first|exact (decide_eq_true oqz).symm|exact (decide_eq_false oqz).symm|(rw [decide_eq_decide];omega),rfl,rfl,rfl,rfl,rfl⟩
    have g12:¬(p<64):=(by first|exact of_decide_eq_false h|(have h2:=h;simp at h2;omega)|simpa using h);refine Zee ?_;refine Zcz ?_;refine tl_bool (d:=17) rfl (λ h=> ?_) (λ h=> ?_)
    . have g17:(p<64∨p%64≠0):=(by first|exact of_decide_eq_true h|(have h2:=h;simp at h2;omega)|simpa using h);refine Zh ?_;refine Z7 ?_;refine Zg7 ?_;refine Zdl ?_;refine Z7 ?_;refine Zhj ?_;refine Zcx ?_;exact ⟨_,by first|exact (decide_eq_true oqz).symm|exact (decide_eq_false oqz).symm|(rw [decide_eq_decide];omega),rfl,rfl,rfl,rfl,rfl⟩
    have g17:¬(p<64∨p%64≠0):=(by first|exact of_decide_eq_false h|(have h2:=h;simp at h2;omega)|simpa using h);refine Zjw ?_;refine Z1 ?_;refine tl_bool (d:=21) rfl (λ h=> ?_) (λ h=> ?_)
    . have g21:(p<64∨p%64≠0∨q<128):=(by first|exact of_decide_eq_true h|(have h2:=h;simp at h2;omega)|simpa using h);refine Zg7 ?_;refine Zdl ?_;refine Z7 ?_;refine Zhj ?_;refine Zcx ?_;exact ⟨_,by first|exact (decide_eq_true oqz).symm|exact (decide_eq_false oqz).symm|(rw [decide_eq_decide];omega),rfl,rfl,rfl,rfl,rfl⟩
    have g21:¬(p<64∨p%64≠0∨q<128):=(by first|exact of_decide_eq_false h|(have h2:=h;simp at h2;omega)|simpa using h);refine Zee ?_;refine Zcz ?_;refine tl_bool (d:=26) rfl (λ h=> ?_) (λ h=> ?_)
    . have g26:(p<64∨p%64≠0∨q<128∨q%64≠0):=(by first|exact of_decide_eq_true h|(have h2:=h;simp at h2;omega)|simpa using h);refine Zdl ?_;refine Z7 ?_;refine Zhj ?_;refine Zcx ?_;exact ⟨_,by first|exact (decide_eq_true oqz).symm|exact (decide_eq_false oqz).symm|(rw [decide_eq_decide];omega),rfl,rfl,rfl,rfl,rfl⟩
    have g26:¬(p<64∨p%64≠0∨q<128∨q%64≠0):=(by first|exact of_decide_eq_false h|(have h2:=h;simp at h2;omega)|simpa using h);refine tlm ?_;refine Zfj ?_;refine tv (o_ldP (a:=some ⟨r,0,none⟩) (i:=0) p3 rfl (by repeat (first|exact hR.d|apply Rs.left)) rfl) ?_;refine tl_env (d:=31) (v:= .int .i64 ((s.ls.length:Int)*64)) (by show Value.int .i64 ((s.ls.length*64:Nat):Int)=_;congr 1) ?_;refine Zir ?_;refine tl_bool (d:=34) rfl (λ h=> ?_) (λ h=> ?_)
    . have g34:(p<64∨p%64≠0∨q<128∨q%64≠0∨(s.ls.length:Int)*64<p):=(by first|exact of_decide_eq_true h|(have h2:=h;simp at h2;omega)|simpa using h);refine Zhj ?_;refine Zcx ?_;exact ⟨_,by first|exact (decide_eq_true oqz).symm|exact (decide_eq_false oqz).symm|(rw [decide_eq_decide];omega),rfl,rfl,rfl,rfl,rfl⟩
    have g34:¬(p<64∨p%64≠0∨q<128∨q%64≠0∨(s.ls.length:Int)*64<p):=(by first|exact of_decide_eq_false h|(have h2:=h;simp at h2;omega)|simpa using h);refine tlm ?_;refine Zfj ?_;refine tv (o_ldP (a:=some ⟨r,0,none⟩) (i:=0) p3 rfl (by repeat (first|exact hR.d|apply Rs.left)) rfl) ?_;refine tl_env (d:=39) (v:= .int .i64 ((s.ls.length:Int)*64)) (by show Value.int .i64 ((s.ls.length*64:Nat):Int)=_;congr 1) ?_;refine tlm ?_;refine Zgu ?_;refine tl_nil ?_;exact ⟨_,by first|exact (decide_eq_true oqz).symm|exact (decide_eq_false oqz).symm|(rw [decide_eq_decide];omega),rfl,rfl,rfl,rfl,rfl⟩
  intro ρ B hI;obtain ⟨bb,hbb0,hE43,hE0,hE1,hE2,hBA⟩:=hI;obtain rfl:=hBA.symm;refine q_then_n ?_;refine te 43 hE43 ?_;refine te 0 hE0 ?_;refine te 1 hE1 ?_;refine te 2 hE2 ?_;refine tc_cond rfl (λ h=> ?_) (sbq ?_)
  . exfalso;rw [h] at hbb0;have:=of_decide_eq_true hbb0.symm;omega
  intro h;refine Zc6 ?_;refine Z2 ?_;refine tv (o_bS (l:=[_,_,_]) (pv_cons wqz (pv_cons wqz (pv_cons wqz pv_nil))) underlying233 z233 (pl233 underlying233) rfl) ?_;refine tl_x rfl (o_box rfl rfl) ?_;rintro _ _ ⟨b48,rfl,rfl⟩;refine Zc4 ?_;exact ⟨_,_,res2 rfl rfl rfl,λ _ _ h=>h,_,rfl,b48,rfl,rfl⟩
theorem rOpen_ok {A R:SP}{C:SP->SP}{r:Nat}{s:DevS}(hc:Ct A (RDev r s) R C:=by exact cbqz){p q:Int}(hp: -9223372036854775808<=p/\ p<=9223372036854775807)(hq: -9223372036854775808<=q/\ q<=9223372036854775807)(hok:(64<=p/\ p%64=0/\ 128<=q/\ q%64=0/\ p<=(s.ls.length:Int)*64/\ q<=(s.ls.length:Int)*64-p):=by omega):Fn Tryz.prog 81 #[pz r,.int .i64 p,.int .i64 q] A (λ v B=>∃b,v= .tuple #[pz b,.int .i64 0]/\ B=A*pt b (cl [pz r,.int .i64 p,.int .i64 q] 233)):=by
  obtain ⟨rfl,_⟩:=hc;intro g w hs;refine (fn_rdevR (λ A lv rls av hR=>rOpen_okf A hR hp hq hok) g w hs).mono ?_;rintro e w' ⟨v,B,e1,⟨X,rfl,b,rfl,rfl⟩,hB⟩;exact ⟨_,_,e1,⟨b,rfl,rfl⟩,hB⟩
end Go.Vl

namespace Go.Vl
open Go Go.Proofs Go.Proofs.Tryz
theorem cellR0 {R:SP}{r:Nat}{s:DevS}:Cell (R*RDev r s) r 0 ((vn (s.ls.length*64))):=λ g w hs=>by
  obtain ⟨hw,lv,rls,av,kvs,h1,h2,hs'⟩:=rdev_iff.1 hs;obtain ⟨b,o,e,h⟩:=(rdevR_of hw h1 hs').d g w hs' 0 _ rfl
  simp only [Option.some.injEq,Addr.mk.injEq,and_true] at e
  obtain ⟨rfl,rfl⟩:=e;exact h
theorem cellR5 {R:SP}{r:Nat}{s:DevS}:Cell (R*RDev r s) r 5 (.bool s.off):=λ g w hs=>by
  obtain ⟨hw,lv,rls,av,kvs,h1,h2,hs'⟩:=rdev_iff.1 hs;obtain ⟨b,o,e,h⟩:=(rdevR_of hw h1 hs').d g w hs' 5 _ rfl
  simp only [Option.some.injEq,Addr.mk.injEq,and_true] at e
  obtain ⟨rfl,rfl⟩:=e;exact h
def lnK (q k:Nat):List Int:=(List.range k).map λ j=>((q+j:Nat):Int)
theorem lnK_len (q k:Nat):(lnK q k).length=k:=by simp [lnK]
theorem lnK_succ (q k:Nat):lnK q (k+1)=lnK q k++[((q+k:Nat):Int)]:=by simp [lnK,List.range_succ]
theorem lnK_at {q k i:Nat}(h:i<k):(ints (lnK q k))[i]? =some ((vn (q+i))):=by
  unfold lnK ints;simp [h];rfl
theorem pub_e1 {p v:Nat}{s s1:DevS}{e:Int}(h:st8 (p:Nat) v s=(e,s1))(he:e≠0):pubP (p:Nat) v s=(e,s1):=by
  unfold pubP;rw [h,if_pos he]
theorem pub_last {p v:Nat}{s s1:DevS}(hp:p%64=0)(h:st8 (p:Nat) v s=(0,s1)):pubP (p:Nat) v s=flF 1 (p/64) s1:=by
  unfold pubP;rw [h,if_neg (by simp)];unfold lastS
  rw [Int.toNat_natCast];congr 1;omega
theorem pub_e2 {p v:Nat}{s s1 s2:DevS}{e:Int}(hp:p%64=0)(h:st8 (p:Nat) v s=(0,s1))(h2:fl1 (p:Nat) s1=(e,s2))(he:e≠0):pubP (p:Nat) v s=(e,s2):=by
  rw [pub_last hp h]
  show (if (fl1 ((p/64*64:Nat):Int) s1).1≠0 then fl1 ((p/64*64:Nat):Int) s1 else _)=_
  rw [show p/64*64=p by omega,h2,if_pos he]
theorem pub_o {p v:Nat}{s s1 s2 s3:DevS}{e:Int}(hp:p%64=0)(h:st8 (p:Nat) v s=(0,s1))(h2:fl1 (p:Nat) s1=(0,s2))(h3:fe s2=(e,s3)):pubP (p:Nat) v s=(e,s3):=by
  rw [pub_last hp h]
  show (if (fl1 ((p/64*64:Nat):Int) s1).1≠0 then fl1 ((p/64*64:Nat):Int) s1 else flF 0 (p/64+1) (fl1 ((p/64*64:Nat):Int) s1).2)=_
  rw [show p/64*64=p by omega,h2,if_neg (by simp),flF_zero,h3]
theorem flX_e {N i q:Nat}{s s2:DevS}{e:Int}(hi:i<N)(h:fl1 (((q+i)*64:Nat):Int) s=(e,s2))(he:e≠0):flL (N-i) (q+i) s=(e,s2):=by
  rw [show N-i=(N-(i+1))+1 by omega]
  show (if _ then _ else _)=_
  rw [h,if_pos he]
theorem flX_o {N i q:Nat}{s s2:DevS}(hi:i<N)(h:fl1 (((q+i)*64:Nat):Int) s=(0,s2)):flL (N-i) (q+i) s=flL (N-(i+1)) (q+(i+1)) s2:=by
  rw [show N-i=(N-(i+1))+1 by omega]
  show (if _ then _ else _)=_
  rw [h,if_neg (by simp)];rfl
attribute [local irreducible] crk crL crc Sl pt ro Dev RDev imgS recS
theorem Take8R_c {A:SP}{a:Option Addr}{c:Nat}{xs:List Nat}(hr:Rs A a (bys xs):=by exact rbqz)(hm:xs.length=8:=by first|assumption|rfl)(hb:∀x∈xs,x<256:=by assumption):
    Fn Tryz.prog 257 #[.slice a 8 c,.int .i64 0,.int .i64 8] A (λ v B=>v= .tuple #[.int .u64 ((nm xs:Nat):Int),.int .i64 0]/\ A=B):=by
  refine fn_enterW func257 rfl ntmps257 (by simp) ?_;refine Zc3 ?_;refine Zdq ?_;refine tl_bool (d:=12) rfl dbq (sbq ?_);intro h;refine Zgn ?_;refine Zir ?_;refine tl_bool (d:=18) rfl dbq (sbq ?_);intro h;refine Zbp ?_;refine Zdj ?_;refine Zjw ?_;refine Zd6 ?_;intro h;refine Zc ?_;refine Zcl ?_;refine tv (by first|exact o_subI rfl rfl oqz|exact o_sub rfl rfl) ?_;refine Zii ?_;refine tc_loop (λ kk ρ BB=>∃ (i:Nat),(i<=8)/\ kk=i/\ ρ 8= .int .u64 ((nm (xs.drop i):Nat):Int)/\ ρ 9= .int .i64 ((i:Int)-1)/\ ρ 0= .slice a 8 c/\ ρ 1= .int .i64 0/\ BB=A) (m:=(8)) ?_ ?_
  . exact ⟨8,by omega,rfl,by rw [List.drop_of_length_le oqz];rfl,rfl,rfl,rfl,rfl⟩
  intro k ρ B hI;obtain ⟨i,hp0,hkk1,hE8,hE9,hE0,hE1,hBA⟩:=hI;obtain rfl:=hBA.symm;refine te 8 hE8 ?_;refine te 9 hE9 ?_;refine te 0 hE0 ?_;refine te 1 hE1 ?_;refine Ze ?_;refine Zj9 ?_;refine tc_cond rfl (λ h=> ?_) (sbq ?_)
  . have hi:1<=i:=(by simp at h;omega);have hi2:i-1<xs.length:=(by omega);have e1:xs.drop (i-1)=xs[i-1]::xs.drop i:=(by rw [List.drop_eq_getElem_cons hi2,show i-1+1=i by omega]);have hbb:=nm_bound (λ x hx=>hb x (List.mem_of_mem_drop hx)) (show (xs.drop (i-1)).length<=8 by rw [List.length_drop];omega);rw [e1,nm_snocr] at hbb
    have hx:=hb _ (List.getElem_mem hi2);refine Zbe ?_;refine Zm ?_;refine tv (o_mulN (b:=256) rfl rfl rfl rfl (by show _<18446744073709551616;omega)) ?_;refine Z2 ?_;refine tlm ?_;refine tv adqz ?_;refine tl_env (d:=37) (v:=(vn (i-1))) (by show Value.int .i64 _=Value.int .i64 _;congr 1;omega) ?_;refine Zcw ?_;refine tv (by first|exact o_conv64 underlying5 underlying174 rfl|exact o_conv underlying5 underlying174 rfl) ?_;refine tl_env (d:=40) (v:= .int .u64 ((xs[i-1]:Nat):Int)) (congrArg (λ z:Nat=>Value.int .u64 (z:Int)) (Nat.mod_eq_of_lt oqz)) ?_;refine tv (o_addN rfl rfl rfl (by show _<18446744073709551616;omega)) ?_;refine Zdp ?_;refine Zm ?_;refine tv (by first|exact o_subI rfl rfl oqz|exact o_sub rfl rfl) ?_;refine Za ?_;exact ⟨_,by omega,i-1,by omega,rfl,by show Value.int .u64 _=Value.int .u64 _;rw [e1,nm_snocr];congr 1;omega,by show Value.int .i64 _=_;congr 1;omega,rfl,rfl,rfl⟩
  intro h;refine Zkg ?_;obtain rfl:i=0:=by simp at h;omega
  exact ⟨.tuple #[.int .u64 ((nm (xs.drop 0):Nat):Int),.int .i64 0],A,res2 rfl rfl rfl,Dr.sat drqz,by rw [List.drop_zero],rfl⟩
theorem Zbm {p r:Prop}(k:r)(h:Kq r->p:=by intro k;refine tv (o_fieldAddr (o:=0) underlying233 rfl rfl sz48 rfl) ?_;refine tv (o_load p48 rfl haqz rfl) ?_;exact k.o):p:=h ⟨k⟩
theorem rnum_c {A R:SP}{C:SP->SP}{r:Nat}{s:DevS}(hc:Ct A (RDev r s) R C:=by exact cbqz){bk at_ sz:Nat}(hl:Has R bk (cl (lcs11 r at_ sz) 233):=by exact hbqz){q:Nat}(ho:s.off=false:=by assumption)(hq:q+8<=s.ls.length*64:=by omega):
    Fn Tryz.prog 220 #[pz bk,vn q] A (λ v B=>v= .int .u64 ((nm (((imgS s).drop q).take 8):Nat):Int)/\ A=B):=by
  refine fn_enterW func220 rfl ntmps220 (by simp) ?_;refine tc_have (λ _ _ h=>wfR_ct hc h) λ hw=> ?_
  have htop:=hw.top;have hpos:=hw.pos;obtain ⟨rfl,hC⟩:=hc;have hAC:∀g w,sat g w (R*RDev r s)->sat g w (C (RDev r s)):=λ g w h=>by rw [hC];exact h
  have hil:=imgS_len hw;have hol:(((imgS s).drop q).take 8).length=8:=(by rw [List.length_take,List.length_drop,hil];omega);have hob:∀x∈((imgS s).drop q).take 8,x<256:=img_sub;refine Zlc ?_;refine Zbm ?_;refine tlm ?_;refine tl_c rfl (o_call bd174 rfl (rLoad_c (s:=s) (p:=q) (m:=8))) ?_;rintro _ _ ⟨a15,c15,rfl,hc15,rfl⟩;refine Zit ?_;refine tl_c rfl (o_call bd257 rfl (Take8R_c (xs:=((imgS s).drop q).take 8))) ?_;refine Zkh ?_;refine Zd ?_;exact ⟨_,_,res1 rfl rfl,Dr.sat drqz,rfl,rfl⟩
theorem Zh5 {p r:Prop}(k:r)(h:Kq r->p:=by intro k;refine ql_v rfl (o_pick_t rfl wqz) ?_;refine ql_v rfl (o_move wqz) ?_;exact k.o):p:=h ⟨k⟩
theorem Zh6 {p r:Prop}(k:r)(h:Kq r->p:=by intro k;refine ql_v rfl (o_pick_t rfl wqz) ?_;refine ql_nil ?_;exact k.o):p:=h ⟨k⟩
theorem Zk3 {p r:Prop}(k:r)(h:Kq r->p:=by intro k;refine ql_v rfl (o_fieldAddr (o:=0) underlying233 rfl rfl sz48 rfl) ?_;refine ql_v rfl (o_load p48 rfl haqz rfl) ?_;exact k.o):p:=h ⟨k⟩
theorem Zlm {p r:Prop}(k:r)(h:Kq r->p:=by intro k;refine ql_v rfl (o_nilCheck rfl) ?_;refine ql_v rfl (o_fieldAddr (o:=0) underlying195 rfl rfl sz3 rfl) ?_;exact k.o):p:=h ⟨k⟩
theorem Zgx {p r:Prop}(k:r)(h:Kq r->p:=by intro k;refine ql_v rfl (o_fieldAddr (o:=1) underlying233 rfl rfl sz3 rfl) ?_;refine ql_v rfl (o_load p3 rfl haqz rfl) ?_;exact k.o):p:=h ⟨k⟩
theorem Zk7 {p r:Prop}(k:r)(h:Kq r->p:=by intro k;refine ql_v rfl (o_fieldAddr (o:=2) underlying233 rfl rfl sz3 rfl) ?_;refine ql_v rfl (o_load p3 rfl haqz rfl) ?_;exact k.o):p:=h ⟨k⟩
theorem rMay11_c {A R:SP}{C:SP->SP}{r:Nat}{s:DevS}(hc:Ct A (RDev r s) R C:=by exact cbqz){bk at_ sz:Nat}(hl:Has A bk (cl (lcs11 r at_ sz) 233):=by exact hbqz){x:Int×Int}(hx:XW x:=by assumption)(hlw:LogW (s.ls.length*64) at_ sz:=by assumption):
    Fn Tryz.prog 258 #[pz bk,.agg (xcs x).toArray] A (λ r_ B=>r_= .bool (mayX (s.ls.length*64) at_ sz x)/\ A=B):=by
  refine fn_enterW func258 rfl ntmps258 (by simp) ?_;refine tc_have (λ _ _ h=>wfR_ct hc h) λ hw=> ?_
  have htop:=hw.top;have hpos:=hw.pos;obtain ⟨rfl,hC⟩:=hc;obtain ⟨⟨hx1,hx2⟩,⟨hx3,hx4⟩⟩:=hx;obtain ⟨w1,w2,w3,w4,w5⟩:=hlw;refine Zeu ?_;rintro _ _ ⟨b3,rfl,rfl⟩;refine Za ?_;refine Zdw ?_;refine tc_cut (λ ρ BB=>∃ (bb:Bool),(bb=decide (¬(1<=x.2/\ 64<=x.1/\ x.1<=(s.ls.length:Int)*64/\ x.2<=(s.ls.length:Int)*64-x.1)))/\ ρ 39= .bool bb/\ ρ 0=(pz bk)/\ ρ 3=(pz b3)/\ BB=R*RDev r s*pt b3 (cl (xcs x) 162)) ?_ ?_
  . skip
    refine tc_regq mo kqz ?_;refine Zde ?_;refine ql_v rfl (o_lss rfl rfl) ?_;refine ql_v rfl (o_move wqz) ?_;refine ql_bool (d:=8) rfl (λ h=> ?_) (λ h=> ?_)
    . have g8:(x.2<1):=(by first|exact of_decide_eq_true h|(have h2:=h;simp at h2;omega)|simpa using h);refine Zv ?_;refine ql_skip rfl ?_;refine Zh5 ?_;refine Zie ?_;refine Zv ?_;refine Zh5 ?_;refine Zie ?_;refine Zeb ?_;refine ql_skip rfl ?_;refine Zh6 ?_;exact ⟨_,by first|exact (decide_eq_true oqz).symm|exact (decide_eq_false oqz).symm|(rw [decide_eq_decide];omega),rfl,rfl,rfl,rfl⟩
    have g8:¬(x.2<1):=(by first|exact of_decide_eq_false h|(have h2:=h;simp at h2;omega)|simpa using h);refine Zbo ?_;refine ql_v rfl (o_lss rfl rfl) ?_;refine ql_v rfl (o_pick_f rfl wqz) ?_;refine ql_v rfl (o_move wqz) ?_;refine ql_bool (d:=13) rfl (λ h=> ?_) (λ h=> ?_)
    . have g13:(x.2<1∨x.1<64):=(by first|exact of_decide_eq_true h|(have h2:=h;simp at h2;omega)|simpa using h);refine Zie ?_;refine Zv ?_;refine Zh5 ?_;refine Zie ?_;refine Zeb ?_;refine ql_skip rfl ?_;refine Zh6 ?_;exact ⟨_,by first|exact (decide_eq_true oqz).symm|exact (decide_eq_false oqz).symm|(rw [decide_eq_decide];omega),rfl,rfl,rfl,rfl⟩
    have g13:¬(x.2<1∨x.1<64):=(by first|exact of_decide_eq_false h|(have h2:=h;simp at h2;omega)|simpa using h);refine Zbo ?_;refine Zbk ?_;refine Zk3 ?_;refine Zlm ?_;refine ql_v rfl (o_loadC (b:=r) p3 rfl (by repeat (first|exact cellR0|apply Cell.left))) ?_;refine ql_v rfl (o_gtr rfl rfl) ?_;refine ql_v rfl (o_pick_f rfl wqz) ?_;refine ql_v rfl (o_move wqz) ?_;refine ql_bool (d:=25) rfl (λ h=> ?_) (λ h=> ?_)
    . have g25:(x.2<1∨x.1<64∨(s.ls.length:Int)*64<x.1):=(by first|exact of_decide_eq_true h|(have h2:=h;simp at h2;omega)|simpa using h);refine Zie ?_;refine Zeb ?_;refine ql_skip rfl ?_;refine Zh6 ?_;exact ⟨_,by first|exact (decide_eq_true oqz).symm|exact (decide_eq_false oqz).symm|(rw [decide_eq_decide];omega),rfl,rfl,rfl,rfl⟩
    have g25:¬(x.2<1∨x.1<64∨(s.ls.length:Int)*64<x.1):=(by first|exact of_decide_eq_false h|(have h2:=h;simp at h2;omega)|simpa using h);refine Zde ?_;refine Zbk ?_;refine Zk3 ?_;refine Zlm ?_;refine ql_v rfl (o_loadC (b:=r) p3 rfl (by repeat (first|exact cellR0|apply Cell.left))) ?_;refine Zbo ?_;refine ql_v rfl (o_subI rfl rfl oqz) ?_;refine ql_v rfl (o_gtr rfl rfl) ?_;refine ql_v rfl (o_pick_f rfl wqz) ?_;refine ql_nil ?_;exact ⟨_,by first|exact (decide_eq_true oqz).symm|exact (decide_eq_false oqz).symm|(rw [decide_eq_decide];omega),rfl,rfl,rfl,rfl⟩
  intro ρ B hI;obtain ⟨bb,hbb0,hE39,hE0,hE3,rfl⟩:=hI;refine q_then_n ?_;refine te 39 hE39 ?_;refine te 0 hE0 ?_;refine te 3 hE3 ?_;refine tc_cond rfl (λ h=> ?_) (λ h=> ?_)
  . have hf:=of_decide_eq_true (show decide (¬(1<=x.2/\ 64<=x.1/\ x.1<=(s.ls.length:Int)*64/\ x.2<=(s.ls.length:Int)*64-x.1))=true by rw [←hbb0];exact h);refine Zb6 ?_;have e:mayX (s.ls.length*64) at_ sz x=false:=decide_eq_false oqz;rw [e]
    exact ⟨.bool false,_,res1 rfl rfl,Dr.sat drqz,rfl,rfl⟩
  have hf:(1<=x.2/\ 64<=x.1/\ x.1<=(s.ls.length:Int)*64/\ x.2<=(s.ls.length:Int)*64-x.1):=(by have h9:=of_decide_eq_false (show decide (¬(1<=x.2/\ 64<=x.1/\ x.1<=(s.ls.length:Int)*64/\ x.2<=(s.ls.length:Int)*64-x.1))=false by rw [←hbb0];exact h);omega);refine Zc ?_;refine Zfr ?_;refine Zbo ?_;refine Zde ?_;refine ql_v rfl (o_addI rfl rfl oqz) ?_;refine Zbk ?_;refine Zgx ?_;refine ql_v rfl (o_leq rfl rfl) ?_;refine ql_v rfl (o_move wqz) ?_;refine ql_bool (d:=50) rfl (λ h=> ?_) (λ h=> ?_)
  . have g50:(x.1+x.2<=at_):=(by first|exact of_decide_eq_true h|(have h2:=h;simp at h2;omega)|simpa using h);refine Zie ?_;refine Zeb ?_;refine ql_v rfl (o_pick_t rfl wqz) ?_;refine Zf5 ?_;refine tc_ret ?_;have e:∀b,b=decide (x.1+x.2<=at_∨((at_+sz:Nat):Int)<=x.1)->mayX (s.ls.length*64) at_ sz x=b:=λ b hb=>by rw [hb];unfold mayX;rw [decide_eq_decide];omega
    exact ⟨.bool (mayX (s.ls.length*64) at_ sz x),_,res1 rfl (congrArg Value.bool (e _ (by first|exact (decide_eq_true oqz).symm|exact (decide_eq_false oqz).symm|(rw [decide_eq_decide];omega)))).symm,Dr.sat drqz,rfl,rfl⟩
  have g50:¬(x.1+x.2<=at_):=(by first|exact of_decide_eq_false h|(have h2:=h;simp at h2;omega)|simpa using h);refine Zbo ?_;refine Zbk ?_;refine Zgx ?_;refine Zbk ?_;refine Zk7 ?_;refine ql_v rfl (o_addI rfl rfl oqz) ?_;refine ql_v rfl (o_geq rfl rfl) ?_;refine ql_v rfl (o_pick_f rfl wqz) ?_;refine Zf5 ?_;refine tc_ret ?_;have e:∀b,b=decide (x.1+x.2<=at_∨((at_+sz:Nat):Int)<=x.1)->mayX (s.ls.length*64) at_ sz x=b:=λ b hb=>by rw [hb];unfold mayX;rw [decide_eq_decide];omega
  exact ⟨.bool (mayX (s.ls.length*64) at_ sz x),_,res1 rfl (congrArg Value.bool (e _ (by first|exact (decide_eq_true oqz).symm|exact (decide_eq_false oqz).symm|(rw [decide_eq_decide];omega)))).symm,Dr.sat drqz,rfl,rfl⟩
theorem rLines_c {A:SP}{p m:Nat}(h1:1<=m:=by omega)(hpm:p+m<=1099511627776:=by omega):
    Fn Tryz.prog 261 #[.agg (xcs ((p:Int),(m:Int))).toArray] A (λ v B=>∃a c,v= .slice a ((p+m-1)/64-p/64+1) c/\ ((p+m-1)/64-p/64+1)<=c/\ B=A*Sl 1 (.slice a ((p+m-1)/64-p/64+1) c) ((p+m-1)/64-p/64+1) (ints (lnK (p/64) ((p+m-1)/64-p/64+1)))):=by
  refine fn_enterW func261 rfl ntmps261 (by simp) ?_;refine Zeu ?_;rintro _ _ ⟨b1,rfl,rfl⟩;refine Za ?_;refine Zj ?_;refine Ze8 ?_;refine Zbb ?_;refine tv (o_quoN (b:=64) rfl rfl oqz) ?_;refine Zii ?_;refine tc_pre (A':=A*pt b1 (cl (xcs ((p:Int),(m:Int))) 162)*Sl 1 (.slice none 0 0) 0 (ints (lnK (p/64) 0))) (λ _ _ h=>sl_nil h) ?_;refine tc_loop (λ kk ρ BB=>∃ (i:Nat) (a3:Option Addr) (c3:Nat),(i<=((p+m-1)/64-p/64+1))/\ (i<=c3)/\ kk=((p+m-1)/64-p/64+1)-i/\ ρ 3= .slice a3 i c3/\ ρ 4=(vn (p/64+i))/\ ρ 1=(pz b1)/\ Dr BB (A*pt b1 (cl (xcs ((p:Int),(m:Int))) 162)*Sl 1 (.slice a3 i c3) i (ints (lnK (p/64) i)))) (m:=((p+m-1)/64-p/64+1)-(0)) ?_ ?_
  . exact ⟨0,none,0,by omega,by omega,rfl,rfl,rfl,rfl,drqz⟩
  intro k ρ B hI;obtain ⟨i,a3,c3,hp0,hp1,hkk1,hE3,hE4,hE1,hBA⟩:=hI;refine tc_pre hBA.sat ?_;clear hBA;refine te 3 hE3 ?_;refine te 4 hE4 ?_;refine te 1 hE1 ?_;refine Ze ?_;refine Zbb ?_;refine Zbs ?_;refine tv adqz ?_;refine tv (by first|exact o_subI rfl rfl oqz|exact o_sub rfl rfl) ?_;refine tl_env (d:=14) (v:=(vn (p+m-1))) (by show Value.int .i64 _=_;congr 1;omega) ?_;refine tv (o_quoN (b:=64) rfl rfl oqz) ?_;refine tv (o_leq rfl rfl) ?_;refine nq ?_;refine tc_cond rfl (λ h=> ?_) (λ h=> ?_)
  . have hi:i<((p+m-1)/64-p/64+1):=(by simp at h;omega);refine Zbe ?_;refine Zfn ?_;refine tl_x rfl (o_buildSlice1 underlying26 sz3 z3 wqz rfl) ?_;rintro _ _ ⟨b21,rfl,rfl⟩;refine tl_x rfl (o_apB underlying26 underlying26 sz3 by3 z3 rfl (by decide) (by decide) rfl rfl rfl ctqz rfl (by first|exact bys_all _|exact ints_all _|exact wds_all _|exact bos_all _|rfl) sq1z (by first|exact bys_sn _ _|exact ints_sn _ _|exact wds_sn _ _|exact bos_sn _ _|exact (bys_append _ _).symm|rfl)) ?_;rintro _ _ ⟨a22,c22,rfl,hc22,rfl⟩;refine Zhr ?_;exact ⟨_,by omega,i+1,_,_,by omega,hc22,rfl,rfl,rfl,rfl,by rw [lnK_succ];repeat (first|with_reducible exact dr_refl|apply dr_keep|apply dr_drop)⟩
  obtain rfl:i=((p+m-1)/64-p/64+1):=by simp at h;omega
  refine Zio ?_;exact ⟨.slice a3 ((p+m-1)/64-p/64+1) c3,_,res1 rfl rfl,Dr.sat drqz,a3,c3,rfl,hp1,rfl⟩
theorem Zly {p r:Prop}(k:r)(h:Kq r->p:=by intro k;refine Zbe ?_;refine tc_seq ?_;exact k.o):p:=h ⟨k⟩
theorem Zcm {p r:Prop}(k:r)(h:Kq r->p:=by intro k;refine tm 2 rfl kqz rfl (o_fieldAddr (o:=0) underlying233 rfl rfl sz48 rfl) ?_;refine tm 3 rfl kqz rfl (o_load p48 rfl haqz rfl) ?_;exact k.o):p:=h ⟨k⟩
theorem rflush_c {A R:SP}{C:SP->SP}{r:Nat}{s:DevS}(hc:Ct A (RDev r s) R C:=by exact cbqz){bk at_ sz:Nat}(hl:Has R bk (cl (lcs11 r at_ sz) 233):=by exact hbqz){p m:Nat}(h1:1<=m:=by omega)(hpm:p+m<=s.ls.length*64:=by omega):
    Fn Tryz.prog 222 #[pz bk,.agg (xcs ((p:Int),(m:Int))).toArray] A (λ r_ B=>∃e s2,flushX p m s=(e,s2)/\ r_= .int .i64 e/\ B=C (RDev r s2)):=by
  refine fn_enterW func222 rfl ntmps222 (by simp) ?_;refine tc_have (λ _ _ h=>wfR_ct hc h) λ hw=> ?_
  have htop:=hw.top;have hpos:=hw.pos;obtain ⟨rfl,hC⟩:=hc;have hAC:∀g w,sat g w (R*RDev r s)->sat g w (C (RDev r s)):=λ g w h=>by rw [hC];exact h
  refine Zeu ?_;rintro _ _ ⟨b3,rfl,rfl⟩;refine Za ?_;refine sr ?_;refine tv (o_loadN (vs:=xcs ((p:Int),(m:Int))) a162 sz162 rfl hsqz (by show 2<=2;decide) rfl) ?_;refine tl_c rfl (o_call bd261 rfl (rLines_c (p:=p) (m:=m))) ?_;rintro _ _ ⟨a9,c9,rfl,hc9,rfl⟩;refine Zhk ?_;refine tc_loop (λ kk ρ BB=>∃ (i:Nat) (s1:DevS),(i<=((p+m-1)/64-p/64+1))/\ (flL (((p+m-1)/64-p/64+1)-i) (p/64+i) s1=flushX p m s)/\ (s1.ls.length=s.ls.length)/\ kk=((p+m-1)/64-p/64+1)-i/\ ρ 6=(vn i)/\ ρ 0=(pz bk)/\ ρ 5= .slice a9 ((p+m-1)/64-p/64+1) c9/\ Dr BB (R*RDev r s1*pt b3 (cl (xcs ((p:Int),(m:Int))) 162)*Sl 1 (.slice a9 ((p+m-1)/64-p/64+1) c9) ((p+m-1)/64-p/64+1) (ints (lnK (p/64) ((p+m-1)/64-p/64+1))))) (m:=((p+m-1)/64-p/64+1)-(0)) ?_ ?_
  . exact ⟨0,s,by omega,rfl,rfl,rfl,rfl,rfl,rfl,drqz⟩
  intro k ρ B hI;obtain ⟨i,s1,hp0,hp1,hp2,hkk1,hE6,hE0,hE5,hBA⟩:=hI;refine tc_pre hBA.sat ?_;clear hBA;refine te 6 hE6 ?_;refine te 0 hE0 ?_;refine te 5 hE5 ?_;refine Zed ?_;refine Ze2 ?_;refine tc_cond rfl (λ h=> ?_) (λ h=> ?_)
  . have hi:i<((p+m-1)/64-p/64+1):=(by simp at h;omega);refine Zly ?_;refine tc_regh (S:=R*pt b3 (cl (xcs ((p:Int),(m:Int))) 162)*Sl 1 (.slice a9 ((p+m-1)/64-p/64+1) c9) ((p+m-1)/64-p/64+1) (ints (lnK (p/64) ((p+m-1)/64-p/64+1)))) mo drqz ?_
    show TH _ _ _ _ _ 11 (Array.replicate 11 false) _ _
    refine Zq ?_;refine Zcm ?_;refine Zc1 ?_;refine tm 6 rfl kqz rfl (o_ixP1 underlying26 sz3 rfl rfl oqz (nn_rs rs_sl (by rw [ints_length,lnK_len];omega))) ?_;refine tm 7 rfl kqz rfl (o_ldP p3 rfl rs_sl (lnK_at hi)) ?_;refine tm 8 rfl kqz rfl (by first|exact o_mulI rfl rfl oqz|exact o_mul rfl rfl) ?_;refine th_env (d:=24) (v:= .int .i64 (((p/64+i)*64:Nat):Int)) (by show Value.int .i64 _=_;congr 1;omega) ?_;refine th_one (i:=9) kqz ?_;refine oh_c rfl rfl rfl (o_call bd262 rfl (rFlush_c (s:=s1) (p:=(((p/64+i)*64:Nat):Int)))) ?_;rintro _ _ ⟨e25,s25,hs25,rfl,rfl⟩;refine ⟨by repeat (first|with_reducible exact dr_refl|apply dr_keep|apply dr_drop), ?_⟩;refine tm 10 rfl kqz rfl (o_assign wqz) ?_;refine Zba ?_;refine Zb ?_;refine Zl ?_;refine tc_cond rfl (λ h=> ?_) (λ h=> ?_)
    . have h:e25≠0:=(by simpa using h);refine Zb ?_;refine Zbq ?_;exact ⟨.int .i64 e25,C (RDev r s25),res1 rfl rfl,λ _ _ h=>by rw [hC];exact (Dr.sat (A':=R*RDev r s25) drqz) _ _ h,e25,s25,by rw [←hp1];exact flX_e hi hs25 h,rfl,rfl⟩
    obtain rfl:e25=0:=by simpa using h
    refine Zfl ?_;exact ⟨_,by omega,i+1,_,by omega,by rw [←hp1];exact (flX_o hi hs25).symm,by have:=fl1_len (((p/64+i)*64:Nat):Int) s1;rw [hs25] at this;exact this.trans hp2,rfl,rfl,rfl,rfl,drqz⟩
  obtain rfl:i=((p+m-1)/64-p/64+1):=by simp at h;omega
  refine Zgf ?_;exact ⟨.int .i64 0,C (RDev r s1),res1 rfl rfl,λ _ _ h=>by rw [hC];exact (Dr.sat (A':=R*RDev r s1) drqz) _ _ h,0,s1,by rw [←hp1,Nat.sub_self];rfl,rfl,rfl⟩
theorem Zj7 {p r:Prop}(k:r)(h:Kq r->p:=by intro k;refine tm 6 rfl kqz rfl (o_fieldAddr (o:=1) underlying233 rfl rfl sz3 rfl) ?_;refine tm 7 rfl kqz rfl (o_load p3 rfl haqz rfl) ?_;exact k.o):p:=h ⟨k⟩
theorem rpub_c {A R:SP}{C:SP->SP}{r:Nat}{s:DevS}(hc:Ct A (RDev r s) R C:=by exact cbqz){bk at_ sz:Nat}(hl:Has R bk (cl (lcs11 r at_ sz) 233):=by exact hbqz){n:Nat}(hn:n<=9223372036854775807:=by omega)(ham:at_%64=0:=by omega)(hatt:at_<=9223372036854775807:=by omega)(hroom:Room 1 s:=by assumption):
    Fn Tryz.prog 224 #[pz bk,vn n] A (λ r_ B=>∃e s2,pubP (at_:Nat) n s=(e,s2)/\ r_= .int .i64 e/\ B=C (RDev r s2)):=by
  refine fn_enterW func224 rfl ntmps224 (by simp) ?_;refine tc_have (λ _ _ h=>wfR_ct hc h) λ hw=> ?_
  have htop:=hw.top;have hpos:=hw.pos;obtain ⟨rfl,hC⟩:=hc;have hAC:∀g w,sat g w (R*RDev r s)->sat g w (C (RDev r s)):=λ g w h=>by rw [hC];exact h
  refine Zj ?_;refine tc_seq ?_;refine tc_regh (S:=R) mo drqz ?_
  show TH _ _ _ _ _ 12 (Array.replicate 12 false) _ _
  refine Zq ?_;refine Zcm ?_;refine Zem ?_;refine Zj7 ?_;refine tm 8 rfl kqz rfl (o_move wqz) ?_;refine tm 9 rfl kqz rfl (by first|exact o_conv64 underlying3 underlying174 rfl|exact o_conv underlying3 underlying174 rfl) ?_;refine th_env (d:=15) (v:= .int .u64 ((n:Nat):Int)) (congrArg (λ z:Nat=>Value.int .u64 (z:Int)) (Nat.mod_eq_of_lt oqz)) ?_;refine th_one (i:=10) kqz ?_;refine oh_c rfl rfl rfl (o_call bd263 rfl (rStore8_c (s:=s) (p:=(at_:Nat)) (v:=n))) ?_;rintro _ _ ⟨e16,s16,hs16,rfl,rfl⟩;refine Zlq ?_;refine Ze ?_;refine Zca ?_;refine tc_cond rfl (λ h=> ?_) (λ h=> ?_)
  . obtain rfl:e16=0:=by simpa using h
    refine tc_regh (S:=R) mo drqz ?_
    show TH _ _ _ _ _ 10 (Array.replicate 10 false) _ _
    refine Zq ?_;refine Zcm ?_;refine Zem ?_;refine Zj7 ?_;refine th_one (i:=8) kqz ?_;refine oh_c rfl rfl rfl (o_call bd262 rfl (rFlush_c (s:=s16) (p:=(at_:Nat)))) ?_;rintro _ _ ⟨e27,s27,hs27,rfl,rfl⟩;refine Zjs ?_;refine Zba ?_;refine Ze ?_;refine Zca ?_;refine tc_cond rfl (λ h=> ?_) (λ h=> ?_)
    . obtain rfl:e27=0:=by simpa using h
      refine Zfo ?_;refine Zbm ?_;refine tl_c rfl (o_call bd223 rfl (rFence_c (s:=s27))) ?_;rintro _ _ ⟨e34,s34,hs34,rfl,rfl⟩;refine Zep ?_;refine Zd ?_;exact ⟨.int .i64 e34,C (RDev r s34),res1 rfl rfl,λ _ _ h=>by rw [hC];exact (Dr.sat (A':=R*RDev r s34) drqz) _ _ h,e34,s34,by exact pub_o ham hs16 hs27 hs34,rfl,rfl⟩
    have he27:e27≠0:=(by simpa using h);refine Zc6 ?_;refine Zd ?_;exact ⟨.int .i64 e27,C (RDev r s27),res1 rfl rfl,λ _ _ h=>by rw [hC];exact (Dr.sat (A':=R*RDev r s27) drqz) _ _ h,e27,s27,by exact pub_e2 ham hs16 hs27 he27,rfl,rfl⟩
  have he16:e16≠0:=(by simpa using h);refine Zdf ?_;refine Zca ?_;refine tc_cond rfl (λ h=> ?_) (sbq ?_)
  . exfalso;exact he16 (by simpa using h)
  intro h;refine Zc6 ?_;refine Zd ?_;exact ⟨.int .i64 e16,C (RDev r s16),res1 rfl rfl,λ _ _ h=>by rw [hC];exact (Dr.sat (A':=R*RDev r s16) drqz) _ _ h,e16,s16,by exact pub_e1 hs16 he16,rfl,rfl⟩
theorem rClear_c {A R:SP}{C:SP->SP}{r:Nat}{s:DevS}(hc:Ct A (RDev r s) R C:=by exact cbqz){bk at_ sz:Nat}(hl:Has R bk (cl (lcs11 r at_ sz) 233):=by exact hbqz)(hlw:LogW (s.ls.length*64) at_ sz:=by assumption)(hroom:Room 1 s:=by assumption):
    Fn Tryz.prog 268 #[pz bk] A (λ r_ B=>∃e s2,clearS at_ s=(e,s2)/\ r_= .int .i64 e/\ B=C (RDev r s2)):=by
  refine fn_enterW func268 rfl ntmps268 (by simp) ?_;refine tc_have (λ _ _ h=>wfR_ct hc h) λ hw=> ?_
  have htop:=hw.top;have hpos:=hw.pos;obtain ⟨rfl,hC⟩:=hc;have hAC:∀g w,sat g w (R*RDev r s)->sat g w (C (RDev r s)):=λ g w h=>by rw [hC];exact h
  have hlw9:=hlw;obtain ⟨w1,w2,w3,w4,w5⟩:=hlw9;refine Zj ?_;refine Zb2 ?_;refine Zbm ?_;refine Zz ?_;refine tv (o_loadC (b:=r) p4 rfl (by repeat (first|exact cellR5|apply Cell.left))) ?_;refine nq ?_;refine tc_cond rfl (sbq ?_) (λ h=> ?_)
  . intro h;refine Zb6 ?_;exact ⟨.int .i64 5,C (RDev r s),res1 rfl rfl,hAC,5,s,by unfold clearS;rw [if_pos h],rfl,rfl⟩
  have ho:s.off=false:=(by simpa using h);refine Zc6 ?_;refine tl_c rfl (o_call bd224 rfl (rpub_c (s:=s) (n:=0))) ?_;rintro _ _ ⟨e11,s11,hs11,rfl,rfl⟩;refine Zd ?_;exact ⟨.int .i64 e11,C (RDev r s11),res1 rfl rfl,λ _ _ h=>by rw [hC];exact (Dr.sat (A':=R*RDev r s11) drqz) _ _ h,e11,s11,by unfold clearS;rw [if_neg (by rw [ho];decide)];exact hs11,rfl,rfl⟩
end Go.Vl

namespace Go.Vl
open Go Go.Proofs Go.Proofs.Tryz
theorem Three_j {A:SP}{a1 a2 a3:Option Addr}{m1 m2 m3 c1 c2 c3 b:Nat}{xs ys zs:List Nat}{E:TypeId}(h1:Rs A a1 (bys xs))(h2:Rs A a2 (bys ys))(h3:Rs A a3 (bys zs))(e1:xs.length=m1)(e2:ys.length=m2)(e3:zs.length=m3)(hl:m1+m2+m3<=17592186044416):
    Fn Tryz.prog 234 #[.slice (some ⟨b,0,none⟩) 3 3] (A*pt b (cl [.slice a1 m1 c1,.slice a2 m2 c2,.slice a3 m3 c3] E)) (λ r B=>∃a c,r= .slice a (m1+m2+m3) c/\ m1+m2+m3<=c/\ B=A*pt b (cl [.slice a1 m1 c1,.slice a2 m2 c2,.slice a3 m3 c3] E)*Sl 1 (.slice a (m1+m2+m3) c) (m1+m2+m3) (bys (xs++ys++zs))):=by
  subst e1 e2 e3;refine fn_rs (xs:=[.slice a1 xs.length c1,.slice a2 ys.length c2,.slice a3 zs.length c3]) rs_pt0 λ hr=> ?_
  refine fn_rs h1.left λ h1=>fn_rs h2.left λ h2=>fn_rs h3.left λ h3=> ?_
  have key:=JoinN_f (A*pt b (cl [.slice a1 xs.length c1,.slice a2 ys.length c2,.slice a3 zs.length c3] E)) (some ⟨b,0,none⟩) 3 3 [xs,ys,zs] ⟨_,rfl,hr,λ i hi=>by
    match i,hi with
    |0,_=>exact ⟨a1,c1,rfl,h1⟩
    |1,_=>exact ⟨a2,c2,rfl,h2⟩
    |2,_=>exact ⟨a3,c3,rfl,h3⟩⟩ (by simp;omega) (by simp) rfl
  have e:([xs,ys,zs]:List (List Nat)).flatten=xs++ys++zs:=(by simp);rw [e] at key
  have e3:(xs++ys++zs).length=xs.length+ys.length+zs.length:=(by simp [Nat.add_assoc]);rw [e3] at key
  exact fn_sl key
theorem room_sub {at_ sz p k:Nat}{s:DevS}{room:List Nat}(hroom:roomS at_ sz s=room)(h:p+k<=sz-64):((imgS s).drop (at_+64+p)).take k=(room.drop p).take k:=by
  rw [←hroom];unfold roomS
  rw [List.drop_take,List.drop_drop,List.take_take,Nat.min_eq_left oqz]
theorem may_big2 {n at_ sz w m:Nat}(h:n<w∨n<m):mayX n at_ sz ((w:Int),(m:Int))=false:=decide_eq_false (by show¬((1:Int)<=(m:Int)/\ (64:Int)<=(w:Int)/\ (w:Int)+(m:Int)<=(n:Int)/\ _);omega)
theorem rnd_small {m:Nat}(h:m<=4194304):rndS m=(((up8 m:Nat):Int),0):=by
  unfold rndS;have:pad8 m<8:=(by unfold pad8;omega);rw [if_neg oqz]
attribute [local irreducible] crk crL crc Sl pt ro Dev RDev imgS recS
theorem rRec_c {A:SP}{a:Option Addr}{c m p:Nat}{xs:List Nat}(hr:Rs A a (bys xs):=by exact rbqz)(hm:xs.length=m:=by first|assumption|rfl)(hb:∀x∈xs,x<256:=by assumption)(hp:p<9223372036854775808:=by omega)(hml:m<=549755813888:=by omega):
    Fn Tryz.prog 260 #[vn p,.slice a m c] A (λ r B=>∃a2 c2,r= .slice a2 (24+up8 m) c2/\ 24+up8 m<=c2/\ B=A*Sl 1 (.slice a2 (24+up8 m) c2) (24+up8 m) (bys (recS p xs))):=by
  refine fn_enterW func260 rfl ntmps260 (by simp) ?_;obtain ⟨Z,hZ⟩:∃Z,crc 0 (recH p m++xs)=Z:=⟨_,rfl⟩;have hZb:∀x∈recH p m++xs,x<256:=λ x hx=>by rcases List.mem_append.1 hx with h1|h1;exact recH_b _ _ x h1;exact hb x h1
  have hZl:Z<4294967296:=hZ▸crc_lt (by decide) hZb
  obtain ⟨Y,hY⟩:∃Y,recH p m++le 8 Z++xs=Y:=⟨_,rfl⟩;have hYl:Y.length=24+m:=(by rw [←hY,List.length_append,List.length_append,recH_len,le_length,hm]);have hYr:recS p xs=Y++List.replicate (pad8 m) 0:=(by rw [←hY,←hZ,←hm];exact recS_eq _ _);refine Zjg ?_;refine tl_env (d:=9) (v:= .int .u64 ((p:Nat):Int)) (congrArg (λ z:Nat=>Value.int .u64 (z:Int)) (Nat.mod_eq_of_lt oqz)) ?_;refine tl_c rfl (o_call bd235 rfl (Little_c (v:=p) (n:=8))) ?_;rintro _ _ ⟨a10,c10,rfl,hc10,rfl⟩;refine Zjh ?_;refine tl_env (d:=13) (v:= .int .u64 ((m:Nat):Int)) (congrArg (λ z:Nat=>Value.int .u64 (z:Int)) (Nat.mod_eq_of_lt oqz)) ?_;refine tl_c rfl (o_call bd235 rfl (Little_c (v:=m) (n:=8))) ?_;rintro _ _ ⟨a14,c14,rfl,hc14,rfl⟩;refine tl_c rfl (o_call bd278 rfl (Two_c (xs:=le 8 p) (ys:=le 8 m) (h1:=(by repeat (first|with_reducible exact rs_sl|assumption|apply Rs.left))) (h2:=(by repeat (first|with_reducible exact rs_sl|assumption|apply Rs.left))) (e1:=le_length 8 p) (e2:=le_length 8 m))) ?_;rintro _ _ ⟨a15,c15,rfl,hc15,rfl⟩;refine Zjb ?_;refine tl_c rfl (o_call bd278 rfl (Two_c (xs:=le 8 p++le 8 m) (ys:=xs) (h1:=(by repeat (first|with_reducible exact rs_sl|assumption|apply Rs.left))) (h2:=(by repeat (first|with_reducible exact rs_sl|assumption|apply Rs.left))) (e1:=by rw [List.length_append,le_length,le_length]) (e2:=hm))) ?_;rintro _ _ ⟨a18,c18,rfl,hc18,rfl⟩;refine tl_c rfl (o_call bd279 rfl (SumR_c (xs:=le 8 p++le 8 m++xs) (hr:=(by repeat (first|with_reducible exact rs_sl|assumption|apply Rs.left))) (hm:=by rw [List.length_append,List.length_append,le_length,le_length,hm]) (hb:=hZb))) ?_;rintro _ _ ⟨rfl,rfl⟩;refine tl_env (d:=19) (v:= .int .u32 ((Z:Nat):Int)) (by show Value.int .u32 ((crc 0 (recH p m++xs):Nat):Int)=_;rw [hZ]) ?_;refine Zjb ?_;refine tv (by first|exact o_conv64 underlying32 underlying174 rfl|exact o_conv underlying32 underlying174 rfl) ?_;refine tl_env (d:=22) (v:= .int .u64 ((Z:Nat):Int)) (congrArg (λ z:Nat=>Value.int .u64 (z:Int)) (Nat.mod_eq_of_lt oqz)) ?_;refine tl_c rfl (o_call bd235 rfl (Little_c (v:=Z) (n:=8))) ?_;rintro _ _ ⟨a23,c23,rfl,hc23,rfl⟩;refine tlm ?_;refine tl_x rfl (o_buildSliceL (k:=1) (vs:=[.slice a15 (8+8) c15,.slice a23 8 c23,.slice a m c]) (l:=[.slice a15 (8+8) c15,.slice a23 8 c23,.slice a m c]) underlying41 sz57 z57 rfl rfl (by decide) (by decide) (by intro v hv;simp at hv;rcases hv with rfl|rfl|rfl<;>rfl) rfl) ?_;rintro _ _ ⟨b25,rfl,rfl⟩;refine tl_c rfl (o_call bd234 rfl (Three_j (xs:=le 8 p++le 8 m) (ys:=le 8 Z) (zs:=xs) (h1:=(by repeat (first|with_reducible exact rs_sl|assumption|apply Rs.left))) (h2:=(by repeat (first|with_reducible exact rs_sl|assumption|apply Rs.left))) (h3:=(by repeat (first|with_reducible exact rs_sl|assumption|apply Rs.left))) (e1:=by rw [List.length_append,le_length,le_length]) (e2:=le_length 8 Z) (e3:=hm) (hl:=by omega))) ?_;rintro _ _ ⟨a26,c26,rfl,hc26,rfl⟩;refine Za ?_;refine Zp ?_;refine tc_pre (A':=A*Sl 1 (.slice a26 (24+m+0) c26) (24+m+0) (bys (Y++List.replicate 0 0))) (λ g w h=>by have h2:=Dr.sat (A':=A*Sl 1 (.slice a26 (8+8+8+m) c26) (8+8+8+m) (bys (le 8 p++le 8 m++le 8 Z++xs))) drqz g w h;rw [show le 8 p++le 8 m++le 8 Z++xs=Y from hY] at h2;rw [show 24+m+0=8+8+8+m by omega,List.replicate_zero,List.append_nil];exact h2) ?_;refine tc_loop (λ kk ρ BB=>∃ (i:Nat) (a5:Option Addr) (c5:Nat),(i<=pad8 m)/\ (24+m+i<=c5)/\ kk=pad8 m-i/\ ρ 7= .slice a5 (24+m+i) c5/\ Dr BB (A*Sl 1 (.slice a5 (24+m+i) c5) (24+m+i) (bys (Y++List.replicate i 0)))) (m:=pad8 m-(0)) ?_ ?_
  . exact ⟨0,a26,c26,by omega,by omega,rfl,by rw [show 24+m+0=8+8+8+m by omega];rfl,drqz⟩
  intro k ρ B hI;obtain ⟨i,a5,c5,hp0,hp1,hkk1,hE7,hBA⟩:=hI;refine tc_pre hBA.sat ?_;clear hBA;refine te 7 hE7 ?_;refine Ze ?_;refine tv (o_len underlying57 rfl) ?_;refine tv (o_remN (b:=8) rfl rfl (by decide)) ?_;refine tl_env (d:=29) (v:= .int .i64 (((24+m+i)%8:Nat):Int)) (by first|rfl|(show Value.int .i64 _=_;congr 1;omega)) ?_;refine Zl ?_;refine tc_cond rfl (λ h=> ?_) (λ h=> ?_)
  . have hi:i<pad8 m:=(by have h9:(24+m+i)%8≠0:=(by first|omega|(simp at h;omega));unfold pad8 at*;omega);have hi8:i<8:=(by have:pad8 m<8:=(by unfold pad8;omega);omega);refine Zi4 ?_;refine Zm ?_;refine tl_x rfl (o_buildSliceL (k:=1) (vs:=bys [0]) (l:=bys [0]) underlying57 sz5 z5 rfl rfl (by decide) (by decide) (by intro v hv;simp only [bys,b8,List.map_cons,List.map_nil,List.mem_cons,List.not_mem_nil,or_false] at hv;rcases hv with rfl;rfl) rfl) ?_;rintro _ _ ⟨b32,rfl,rfl⟩;refine tl_x rfl (o_apB underlying57 underlying57 sz5 by5 z5 rfl (by decide) (by decide) rfl rfl rfl ctqz rfl rfl oqz (show _=bys (Y++List.replicate i 0++[0]) by rw [←bys_append])) ?_;rintro _ _ ⟨a33,c33,rfl,hc33,rfl⟩;refine Zdp ?_;exact ⟨_,by omega,i+1,a33,c33,by omega,by omega,rfl,rfl,by rw [List.replicate_succ',←List.append_assoc];repeat (first|with_reducible exact dr_refl|apply dr_keep|apply dr_drop)⟩
  obtain rfl:i=pad8 m:=by have h9:(24+m+i)%8=0:=(by first|omega|(simp at h;omega));unfold pad8 at*;omega
  refine Zio ?_;rw [hYr,show 24+up8 m=24+m+pad8 m by unfold up8;omega]
  exact ⟨_,_,res1 rfl rfl,Dr.sat drqz,a5,c5,rfl,hp1,rfl⟩
theorem Zdn {p r:Prop}(k:r)(h:Kq r->p:=by intro k;refine tv (o_nilCheck rfl) ?_;refine tv (o_fieldAddr (o:=0) underlying195 rfl rfl sz3 rfl) ?_;exact k.o):p:=h ⟨k⟩
theorem rread_c {A R:SP}{C:SP->SP}{r:Nat}{s:DevS}(hc:Ct A (RDev r s) R C:=by exact cbqz){bk at_ sz:Nat}(hl:Has R bk (cl (lcs11 r at_ sz) 233):=by exact hbqz)(hlw:LogW (s.ls.length*64) at_ sz:=by assumption){q p:Nat}{room:List Nat}(ho:s.off=false:=by assumption)(hroom:roomS at_ sz s=room:=by assumption)(hq:q=at_+64+p:=by omega)(hp:p<=sz-64:=by omega):
    Fn Tryz.prog 221 #[pz bk,vn q] A (λ r_ B=>∃a2 c2,r_= .tuple #[.agg #[.int .i64 ((rdW (readS (s.ls.length*64) at_ sz room p):Nat):Int),.slice a2 (rdO (readS (s.ls.length*64) at_ sz room p)).length c2],.int .i64 ((rkT (readS (s.ls.length*64) at_ sz room p):Nat):Int),.bool (readS (s.ls.length*64) at_ sz room p).isSome]/\ (rdO (readS (s.ls.length*64) at_ sz room p)).length<=c2/\ B=C (RDev r s)*Sl 1 (.slice a2 (rdO (readS (s.ls.length*64) at_ sz room p)).length c2) (rdO (readS (s.ls.length*64) at_ sz room p)).length (bys (rdO (readS (s.ls.length*64) at_ sz room p)))):=by
  refine fn_enterW func221 rfl ntmps221 (by simp) ?_;refine tc_have (λ _ _ h=>wfR_ct hc h) λ hw=> ?_
  have htop:=hw.top;have hpos:=hw.pos;obtain ⟨rfl,hC⟩:=hc;rw [hC]
  have hlw9:=hlw;obtain ⟨w1,w2,w3,w4,w5⟩:=hlw9;have hil:=imgS_len hw;have hrl:room.length=sz-64:=(by rw [←hroom];unfold roomS;rw [List.length_take,List.length_drop,hil];omega);have hb:∀x∈room,x<256:=λ x hx=>by rw [←hroom] at hx;exact img_sub x hx
  obtain ⟨w,hwq⟩:∃w,(nm ((room.drop p).take 8))=w:=⟨_,rfl⟩;obtain ⟨m,hmq⟩:∃m,(nm ((room.drop (p+8)).take 8))=m:=⟨_,rfl⟩;have hw8:w<18446744073709551616:=hwq▸nm8_lt λ x hx=>hb x (List.mem_of_mem_drop hx)
  have hm8:m<18446744073709551616:=hmq▸nm8_lt λ x hx=>hb x (List.mem_of_mem_drop hx)
  refine sr ?_;refine tl_x rfl (o_alloc z253 rfl) ?_;rintro _ _ ⟨b4,rfl,rfl⟩;refine Z0 ?_;refine Zfr ?_;refine Zbk ?_;refine Zgx ?_;refine Zbk ?_;refine Zk7 ?_;refine ql_v rfl adqz ?_;refine ql_env (d:=25) (v:=(vn (at_+sz))) (by first|rfl|(show Value.int .i64 _=_;congr 1;omega)) ?_;refine Zf5 ?_;refine Zed ?_;refine tv (o_subI rfl rfl oqz) ?_;refine Zn ?_;refine tc_cond rfl (λ h=> ?_) (λ h=> ?_)
  . have hsh:room.length<p+24:=(by first|omega|(simp at h;omega));refine Zj0 ?_;have e0:(readS (s.ls.length*64) at_ sz room p)=none:=(by exact read_short hsh);rw [e0]
    exact ⟨.tuple #[.agg #[.int .i64 0,.slice none 0 0],.int .i64 0,.bool false],R*RDev r s*Sl 1 (.slice none 0 0) 0 [],resA3 rfl (rv_cell a253 sz253 rfl hsqz (by show 2<=2;decide) rfl) (rv_tmp rfl) (rv_tmp rfl),λ _ _ h=>sl_nil (Dr.sat drqz _ _ h),none,0,rfl,Nat.le_refl _,rfl⟩
  have hsh:¬room.length<p+24:=(by first|omega|(simp at h;omega));have hwq2:nm (((imgS s).drop q).take 8)=w:=(by rw [hq,room_sub hroom oqz];exact hwq);have hmq2:nm (((imgS s).drop (q+8)).take 8)=m:=(by rw [hq,show at_+64+p+8=at_+64+(p+8) by omega,room_sub hroom oqz];exact hmq);refine Zgr ?_;refine tl_c rfl (o_call bd220 rfl (rnum_c (s:=s) (q:=q))) ?_;rintro _ _ ⟨rfl,rfl⟩;refine tl_env (d:=33) (v:= .int .u64 (w:Nat)) (by show Value.int .u64 ((nm (((imgS s).drop q).take 8):Nat):Int)=_;rw [hwq2]) ?_;refine Zjb ?_;refine tv adqz ?_;refine tl_env (d:=36) (v:=(vn (q+8))) (by first|rfl|(show Value.int .i64 _=_;congr 1;omega)) ?_;refine tl_c rfl (o_call bd220 rfl (rnum_c (s:=s) (q:=q+8))) ?_;rintro _ _ ⟨rfl,rfl⟩;refine tl_env (d:=37) (v:= .int .u64 (m:Nat)) (by show Value.int .u64 ((nm (((imgS s).drop (q+8)).take 8):Nat):Int)=_;rw [hmq2]) ?_;refine Za ?_;refine Zdw ?_;refine tc_cut (λ ρ BB=>∃ (bb:Bool),(bb=decide (s.ls.length*64<w∨s.ls.length*64<m))/\ ρ 59= .bool bb/\ ρ 0=(pz bk)/\ ρ 1=(vn q)/\ ρ 4=(pz b4)/\ ρ 7=(vn (at_+sz))/\ ρ 8= .int .u64 (w:Nat)/\ ρ 9= .int .u64 (m:Nat)/\ BB=R*RDev r s*pt b4 (cl [.int .i64 0,.slice none 0 0] 253)) ?_ ?_
  . skip
    refine Zm ?_;refine Zw ?_;refine Zbm ?_;refine Zdn ?_;refine tv (o_loadC (b:=r) p3 rfl (by repeat (first|exact cellR0|apply Cell.left))) ?_;refine tv (by first|exact o_conv64 underlying3 underlying174 rfl|exact o_conv underlying3 underlying174 rfl) ?_;refine tl_env (d:=46) (v:= .int .u64 ((s.ls.length*64:Nat):Int)) (congrArg (λ z:Nat=>Value.int .u64 (z:Int)) (Nat.mod_eq_of_lt oqz)) ?_;refine tv (o_gtr rfl rfl) ?_;refine tlm ?_;refine tl_bool (d:=48) rfl (λ h=> ?_) (λ h=> ?_)
    . have g48:(s.ls.length*64<w):=(by first|exact of_decide_eq_true h|(have h2:=h;simp at h2;omega)|simpa using h);refine Z8 ?_;refine Zdl ?_;refine Zcx ?_;exact ⟨_,by first|exact (decide_eq_true oqz).symm|exact (decide_eq_false oqz).symm|(rw [decide_eq_decide];omega),rfl,rfl,rfl,rfl,rfl,rfl,rfl,rfl⟩
    have g48:¬(s.ls.length*64<w):=(by first|exact of_decide_eq_false h|(have h2:=h;simp at h2;omega)|simpa using h);refine tlm ?_;refine Zw ?_;refine Zbm ?_;refine Zdn ?_;refine tv (o_loadC (b:=r) p3 rfl (by repeat (first|exact cellR0|apply Cell.left))) ?_;refine tv (by first|exact o_conv64 underlying3 underlying174 rfl|exact o_conv underlying3 underlying174 rfl) ?_;refine tl_env (d:=57) (v:= .int .u64 ((s.ls.length*64:Nat):Int)) (congrArg (λ z:Nat=>Value.int .u64 (z:Int)) (Nat.mod_eq_of_lt oqz)) ?_;refine Zc2 ?_;refine tl_nil ?_;exact ⟨_,by first|exact (decide_eq_true oqz).symm|exact (decide_eq_false oqz).symm|(rw [decide_eq_decide];omega),rfl,rfl,rfl,rfl,rfl,rfl,rfl,rfl⟩
  intro ρ B hI;obtain ⟨bb,hbb0,hE59,hE0,hE1,hE4,hE7,hE8,hE9,rfl⟩:=hI;refine q_then_n ?_;refine te 59 hE59 ?_;refine te 0 hE0 ?_;refine te 1 hE1 ?_;refine te 4 hE4 ?_;refine te 7 hE7 ?_;refine te 8 hE8 ?_;refine te 9 hE9 ?_;refine tc_cond rfl (λ h=> ?_) (λ h=> ?_)
  . have hbig:=of_decide_eq_true (show decide (s.ls.length*64<w∨s.ls.length*64<m)=true by rw [←hbb0];exact h);refine Zj0 ?_;have e0:(readS (s.ls.length*64) at_ sz room p)=none:=(by exact read_may (by rw [hwq,hmq];exact may_big2 hbig));rw [e0]
    exact ⟨.tuple #[.agg #[.int .i64 0,.slice none 0 0],.int .i64 0,.bool false],R*RDev r s*Sl 1 (.slice none 0 0) 0 [],resA3 rfl (rv_cell a253 sz253 rfl hsqz (by show 2<=2;decide) rfl) (rv_tmp rfl) (rv_tmp rfl),λ _ _ h=>sl_nil (Dr.sat drqz _ _ h),none,0,rfl,Nat.le_refl _,rfl⟩
  have hbig:=of_decide_eq_false (show decide (s.ls.length*64<w∨s.ls.length*64<m)=false by rw [←hbb0];exact h);have hxw:XW ((w:Int),(m:Int)):=⟨by show-9223372036854775808<=(w:Int)/\ (w:Int)<=9223372036854775807;omega,by show-9223372036854775808<=(m:Int)/\ (m:Int)<=9223372036854775807;omega⟩;refine Zc6 ?_;refine tv (o_conv underlying174 underlying3 rfl) ?_;refine tl_env (d:=62) (v:=(vn w)) (by show Value.int .i64 (IntKind.i64.wrap _)=_;rw [wr_i64 oqz]) ?_;refine tlm ?_;refine tv (o_conv underlying174 underlying3 rfl) ?_;refine tl_env (d:=64) (v:=(vn m)) (by show Value.int .i64 (IntKind.i64.wrap _)=_;rw [wr_i64 oqz]) ?_;refine Zix ?_;rintro _ _ ⟨b10,rfl,rfl⟩;refine tl_u rfl (o_stUN (l':=xcs ((w:Int),(m:Int))) rfl upqz sz162 rfl rfl rfl (by show 2<=2;decide) rfl) ?_;refine nq ?_;refine Ze ?_;refine tv (o_loadN (vs:=xcs ((w:Int),(m:Int))) a162 sz162 rfl hsqz (by show 2<=2;decide) rfl) ?_;refine tl_c rfl (o_call bd258 rfl (rMay11_c (s:=s) (x:=((w:Int),(m:Int))) (hl:=by repeat (first|assumption|apply has_left)))) ?_;refine Zim ?_;refine tc_cond rfl (λ h=> ?_) (λ h=> ?_)
  . have hmy:mayX (s.ls.length*64) at_ sz ((w:Int),(m:Int))=false:=(by simpa using h);refine Zj0 ?_;have e0:(readS (s.ls.length*64) at_ sz room p)=none:=(by exact read_may (by rw [hwq,hmq];exact hmy));rw [e0]
    exact ⟨.tuple #[.agg #[.int .i64 0,.slice none 0 0],.int .i64 0,.bool false],R*RDev r s*Sl 1 (.slice none 0 0) 0 [],resA3 rfl (rv_cell a253 sz253 rfl hsqz (by show 2<=2;decide) rfl) (rv_tmp rfl) (rv_tmp rfl),λ _ _ h=>sl_nil (Dr.sat drqz _ _ h),none,0,rfl,Nat.le_refl _,rfl⟩
  have hmy:mayX (s.ls.length*64) at_ sz ((w:Int),(m:Int))=true:=(by simpa using h);have hm1:1<=m:=(by rcases Nat.lt_or_ge m 1 with h9|h9;rw [may_zero1 h9] at hmy;exact absurd hmy (by decide);exact h9);have hup:=up8_le m;refine Zk9 ?_;refine Zbs ?_;refine tl_c rfl (o_call bd259 rfl (rRound8_c (n:=m))) ?_;refine Zk8 ?_;refine tl_env (d:=75) (v:=(vn (up8 m))) (by show Value.int .i64 (rndS m).1=_;rw [rnd_small oqz]) ?_;refine tv (o_extract rfl rfl) ?_;refine Zbx ?_;refine Z2 ?_;refine tv (o_subI rfl rfl oqz) ?_;refine tv (o_subI rfl rfl oqz) ?_;refine Ze4 ?_;refine tc_cond rfl (λ h=> ?_) (λ h=> ?_)
  . have hnr:room.length<p+(24+up8 m):=(by first|omega|(simp at h;omega));refine Zj0 ?_;have e0:(readS (s.ls.length*64) at_ sz room p)=none:=(by exact read_need (by rw [hmq];exact hnr));rw [e0]
    exact ⟨.tuple #[.agg #[.int .i64 0,.slice none 0 0],.int .i64 0,.bool false],R*RDev r s*Sl 1 (.slice none 0 0) 0 [],resA3 rfl (rv_cell a253 sz253 rfl hsqz (by show 2<=2;decide) rfl) (rv_tmp rfl) (rv_tmp rfl),λ _ _ h=>sl_nil (Dr.sat drqz _ _ h),none,0,rfl,Nat.le_refl _,rfl⟩
  have hnr:¬room.length<p+(24+up8 m):=(by first|omega|(simp at h;omega));obtain ⟨old,hold⟩:∃old,((room.drop (p+24)).take m)=old:=⟨_,rfl⟩;have holl:old.length=m:=(by rw [←hold,List.length_take,List.length_drop];omega);have hob:∀x∈old,x<256:=λ x hx=>hb x (List.mem_of_mem_drop (List.mem_of_mem_take (hold.symm▸hx)))
  have hold2:((imgS s).drop (q+24)).take m=old:=(by rw [hq,show at_+64+p+24=at_+64+(p+24) by omega,room_sub hroom oqz];exact hold);have htk2:((imgS s).drop q).take (24+up8 m)=(room.drop p).take (24+up8 m):=(by rw [hq,room_sub hroom oqz]);refine Zhp ?_;refine tc_regh (S:=R*pt b4 (cl [.int .i64 0,.slice none 0 0] 253)*pt b10 (cl (xcs ((w:Int),(m:Int))) 162)) mo drqz ?_
  show TH _ _ _ _ _ 14 (Array.replicate 14 false) _ _
  refine Zq ?_;refine Zcm ?_;refine tm 4 rfl kqz rfl (o_move wqz) ?_;refine tm 5 rfl kqz rfl adqz ?_;refine th_env (d:=90) (v:=(vn (q+24))) (by first|rfl|(show Value.int .i64 _=_;congr 1;omega)) ?_;refine Zhy ?_;refine th_one (i:=8) kqz ?_;refine oh_c rfl rfl rfl (o_call bd174 rfl (rLoad_c (s:=s) (p:=q+24) (m:=m))) ?_;rintro _ _ ⟨a93,c93,rfl,hc93,rfl⟩;refine ⟨by repeat (first|with_reducible exact dr_refl|apply dr_keep|apply dr_drop), ?_⟩;rw [hold2]
  refine tm 9 rfl kqz rfl (o_move wqz) ?_;refine Zlk ?_;refine Zba ?_;refine Zs ?_;refine Zbm ?_;refine Zlv ?_;refine tl_env (d:=103) (v:=(vn (24+up8 m))) (by first|rfl|(show Value.int .i64 _=_;congr 1;omega)) ?_;refine tl_c rfl (o_call bd174 rfl (rLoad_c (s:=s) (p:=q) (m:=24+up8 m))) ?_;rintro _ _ ⟨a104,c104,rfl,hc104,rfl⟩;rw [htk2]
  refine Zhd ?_;refine Zbb ?_;refine tlm ?_;refine tl_c rfl (o_call bd260 rfl (rRec_c (p:=w) (m:=m) (xs:=old) (hr:=(by repeat (first|with_reducible exact rs_sl|assumption|apply Rs.left))) (hm:=holl))) ?_;rintro _ _ ⟨a111,c111,rfl,hc111,rfl⟩;refine tl_c rfl (o_call bd60 rfl (EqBytes_c (xs:=(room.drop p).take (24+up8 m)) (ys:=recS w old) (h1:=(by repeat (first|with_reducible exact rs_sl|assumption|apply Rs.left))) (h2:=(by repeat (first|with_reducible exact rs_sl|assumption|apply Rs.left))) (hx:=by rw [List.length_take,List.length_drop];omega) (hy:=by rw [recS_len,holl]))) ?_;refine Zim ?_;refine tc_cond rfl (λ h=> ?_) (λ h=> ?_)
  . have hne:recS w old≠(room.drop p).take (24+up8 m):=λ e=>by rw [e] at h;simp at h
    refine Zj0 ?_;have e0:(readS (s.ls.length*64) at_ sz room p)=none:=(by exact read_bad hwq hmq (by rw [hold];exact hne));rw [e0]
    exact ⟨.tuple #[.agg #[.int .i64 0,.slice none 0 0],.int .i64 0,.bool false],R*RDev r s*Sl 1 (.slice none 0 0) 0 [],resA3 rfl (rv_cell a253 sz253 rfl hsqz (by show 2<=2;decide) rfl) (rv_tmp rfl) (rv_tmp rfl),λ _ _ h=>sl_nil (Dr.sat drqz _ _ h),none,0,rfl,Nat.le_refl _,rfl⟩
  have heq:recS w old=(room.drop p).take (24+up8 m):=(show (room.drop p).take (24+up8 m)=recS w old by simpa using h).symm;refine Zk9 ?_;refine Zbb ?_;refine Zj4 ?_;refine tlm ?_;refine tv adqz ?_;refine tl_env (d:=120) (v:=(vn (24+up8 m))) (by first|rfl|(show Value.int .i64 _=_;congr 1;omega)) ?_;refine tl_u rfl (o_stUN (l':=[.int .i64 (w:Int),.slice a93 m c93]) rfl upqz sz253 rfl rfl rfl (by show 2<=2;decide) rfl) ?_;refine Zc4 ?_;have e0:(readS (s.ls.length*64) at_ sz room p)=some ((w,old),24+up8 m):=(by rw [←hold];exact read_good hwq hmq hsh hmy hnr (by rw [hold];exact heq));rw [e0]
  exact ⟨.tuple #[.agg #[.int .i64 (w:Int),.slice a93 m c93],vn (24+up8 m),.bool true],R*RDev r s*Sl 1 (.slice a93 m c93) m (bys old),resA3 rfl (rv_cell a253 sz253 rfl hsqz (by show 2<=2;decide) rfl) (rv_tmp rfl) (rv_tmp rfl),Dr.sat drqz,a93,c93,by show _=Value.tuple #[.agg #[.int .i64 (w:Int),.slice a93 old.length c93],_,_];rw [holl];rfl,by show old.length<=c93;rw [holl];exact hc93,by show _=R*RDev r s*Sl 1 (.slice a93 old.length c93) old.length (bys old);rw [holl]⟩
end Go.Vl

namespace Go.Vl
open Go Go.Proofs Go.Proofs.Tryz
theorem sq3z {p:Prop}(h:p:=by repeat (first|with_reducible exact rs_sl|apply Rs.left)):p:=h
theorem recsF_big {n at_ sz:Nat}{room:List Nat}:∀{k p:Nat},p<=room.length->room.length<p+k->recsF n at_ sz room k p=([],110)
  |0,p,h1,h2=>by omega
  |k+1,p,h1,h2=>by
    have e:recsF n at_ sz room (k+1) p=match readS n at_ sz room p with
      |none=>([],110)
      |some (x,t)=>if (recsF n at_ sz room k (p+t)).2≠0 then ([],110) else (x::(recsF n at_ sz room k (p+t)).1,0):=rfl
    rw [e]
    cases hr:readS n at_ sz room p with
    |none=>rfl
    |some y=>
      have h3:=read_room (x:=y.1) (t:=y.2) hr;have h4:recsF n at_ sz room k (p+y.2)=([],110):=recsF_big oqz oqz
      simp only []
      rw [h4,if_pos (by decide)]
theorem xcl_at0 {l:List (Int×Int)}{j:Nat}(h:j<l.length):(xcl l)[j*2+0]? =some (.int .i64 l[j].1):=fm_atj (f:=xcs) (k:=2) (λ _ _=>rfl) h (by decide) rfl
theorem xcl_at1 {l:List (Int×Int)}{j:Nat}(h:j<l.length):(xcl l)[j*2+1]? =some (.int .i64 l[j].2):=fm_atj (f:=xcs) (k:=2) (λ _ _=>rfl) h (by decide) rfl
theorem kcl_a0 {L:List (Nat×List Nat)}{vs:List Value}{k:Nat}(h:vs.length=L.length)(hk:k<L.length):(kcl L vs)[k*2+0]? =some (.int .i64 ((L.getD k (0,[])).1:Nat)):=by
  have h1:=congrArg (λ l:List Value=>l[0]?) (kcl_at h hk)
  simp only [List.getElem?_take,List.getElem?_drop] at h1
  exact h1
theorem kcl_a1 {L:List (Nat×List Nat)}{vs:List Value}{k:Nat}(h:vs.length=L.length)(hk:k<L.length):(kcl L vs)[k*2+1]? =some (vs.getD k (.slice none 0 0)):=by
  have h1:=congrArg (λ l:List Value=>l[1]?) (kcl_at h hk)
  simp only [List.getElem?_take,List.getElem?_drop] at h1
  exact h1
theorem flF_flL:∀ (k q:Nat) (s:DevS),flF k q s=if (flL k q s).1≠0 then flL k q s else fe (flL k q s).2
  |0,q,s=>by rw [flF_zero];show _=if (0:Int)≠0 then _ else fe s;rw [if_neg (by simp)]
  |k+1,q,s=>by
    show (if (fl1 ((q*64:Nat):Int) s).1≠0 then fl1 ((q*64:Nat):Int) s else flF k (q+1) (fl1 ((q*64:Nat):Int) s).2)=_
    have e:flL (k+1) q s=if (fl1 ((q*64:Nat):Int) s).1≠0 then fl1 ((q*64:Nat):Int) s else flL k (q+1) (fl1 ((q*64:Nat):Int) s).2:=rfl;rw [e]
    by_cases h:(fl1 ((q*64:Nat):Int) s).1≠0
    . rw [if_pos h,if_pos h,if_pos h]
    rw [if_neg h,if_neg h];exact flF_flL k (q+1) _
theorem range_last {p m:Nat}{s:DevS}(ho:s.off=false)(hm:1<=m)(hi:p+m<=s.ls.length*64):rangeP ((p:Nat):Int) ((m:Nat):Int) s=if (flushX p m s).1≠0 then flushX p m s else fe (flushX p m s).2:=by
  unfold rangeP
  rw [if_neg (by rw [ho];decide),if_neg oqz,rdy_ok oqz oqz oqz,if_neg (by decide),Int.toNat_natCast,Int.toNat_natCast]
  unfold lastS flushX
  exact flF_flL _ _ _
theorem range_e {p m:Nat}{s s2:DevS}{e:Int}(ho:s.off=false)(hm:1<=m)(hi:p+m<=s.ls.length*64)(h:flushX p m s=(e,s2))(he:e≠0):rangeP ((p:Nat):Int) ((m:Nat):Int) s=(e,s2):=by
  rw [range_last ho hm hi,h,if_pos he]
theorem range_o {p m:Nat}{s s2 s3:DevS}{e:Int}(ho:s.off=false)(hm:1<=m)(hi:p+m<=s.ls.length*64)(h:flushX p m s=(0,s2))(h2:fe s2=(e,s3)):rangeP ((p:Nat):Int) ((m:Nat):Int) s=(e,s3):=by
  rw [range_last ho hm hi,h,if_neg (by simp),h2]
theorem back_e1 {x:Nat×List Nat}{s s2:DevS}{e:Int}(h:sto (x.1:Nat) x.2 s=(e,s2))(he:e≠0):backS x s=(e,s2):=by unfold backS;rw [h,if_pos he]
theorem back_e2 {x:Nat×List Nat}{s s1 s2:DevS}{e:Int}(h:sto (x.1:Nat) x.2 s=(0,s1))(h2:flushX x.1 x.2.length s1=(e,s2)):backS x s=(e,s2):=by unfold backS;rw [h,if_neg (by simp),h2]
attribute [local irreducible] crk crL crc Sl pt ro Dev RDev imgS recS readS recsF rdW rdO rkT Parts rvl recordsS
theorem Zeh {p r:Prop}(k:r)(h:Kq r->p:=by intro k;refine tv (o_fieldAddr (o:=1) underlying233 rfl rfl sz3 rfl) ?_;refine tv (o_load p3 rfl haqz rfl) ?_;exact k.o):p:=h ⟨k⟩
theorem rRecords_c {A R:SP}{C:SP->SP}{r:Nat}{s:DevS}(hc:Ct A (RDev r s) R C:=by exact cbqz){bk at_ sz:Nat}(hl:Has R bk (cl (lcs11 r at_ sz) 233):=by exact hbqz)(hlw:LogW (s.ls.length*64) at_ sz:=by assumption):
    Fn Tryz.prog 175 #[pz bk] A (λ r_ B=>∃a2 c2 vs,r_= .tuple #[.slice a2 (recordsS at_ sz s).1.length c2,.int .i64 (recordsS at_ sz s).2]/\ (recordsS at_ sz s).1.length<=c2/\ vs.length=(recordsS at_ sz s).1.length/\ B=C (RDev r s)*Parts vs ((recordsS at_ sz s).1.map (·.2))*Sl 2 (.slice a2 (recordsS at_ sz s).1.length c2) (recordsS at_ sz s).1.length (kcl (recordsS at_ sz s).1 vs)):=by
  refine fn_enterW func175 rfl ntmps175 (by simp) ?_;refine tc_have (λ _ _ h=>wfR_ct hc h) λ hw=> ?_
  have htop:=hw.top;have hpos:=hw.pos;obtain ⟨rfl,hC⟩:=hc;have hAC:∀g w,sat g w (R*RDev r s)->sat g w (C (RDev r s)):=λ g w h=>by rw [hC];exact h
  have hlw9:=hlw;obtain ⟨w1,w2,w3,w4,w5⟩:=hlw9;refine Zc3 ?_;refine tv (o_nilCheck rfl) ?_;refine Zbm ?_;refine Zz ?_;refine tv (o_loadC (b:=r) p4 rfl (by repeat (first|exact cellR5|apply Cell.left))) ?_;refine nq ?_;refine tc_cond rfl (sbq ?_) (λ h=> ?_)
  . intro h;refine Zgs ?_;have e0:recordsS at_ sz s=([],5):=(by unfold recordsS;rw [if_pos h]);rw [e0]
    exact ⟨.tuple #[.slice none 0 0,.int .i64 (5)],C (RDev r s)*Parts [] []*Sl 2 (.slice none 0 0) 0 [],res2 rfl rfl rfl,λ _ _ h=>sl_nil (show sat _ _ (C (RDev r s)*Parts [] []) by rw [hC,show Parts [] []=emp by unfold Parts;rfl,star_emp];exact Dr.sat (A':=R*RDev r s) drqz _ _ h),none,0,[],rfl,Nat.le_refl _,rfl,rfl⟩
  have ho:s.off=false:=(by simpa using h);have hw2:=word_in (p:=at_) ho oqz oqz;obtain ⟨v,hv⟩:∃v,(wordP (at_:Nat) s).1=v:=⟨_,rfl⟩;have hvl:v<18446744073709551616:=(by rw [←hv,hw2];exact nm8_lt λ x hx=>img_lt x (List.mem_of_mem_drop hx));have hv2:nm (((imgS s).drop at_).take 8)=v:=(by rw [←hv,hw2]);obtain ⟨room,hroom⟩:∃room,roomS at_ sz s=room:=⟨_,rfl⟩;have hil:=imgS_len hw;have hrl:room.length=sz-64:=(by rw [←hroom];unfold roomS;rw [List.length_take,List.length_drop,hil];omega);have hrec:recordsS at_ sz s=recsF (s.ls.length*64) at_ sz room v 0:=(by unfold recordsS;rw [if_neg (by rw [ho];decide),hv,hroom]);refine Zc6 ?_;refine Zw ?_;refine Zeh ?_;refine tl_c rfl (o_call bd220 rfl (rnum_c (s:=s) (q:=at_))) ?_;rintro _ _ ⟨rfl,rfl⟩;refine tl_env (d:=23) (v:= .int .u64 (v:Nat)) (by show Value.int .u64 ((nm (((imgS s).drop at_).take 8):Nat):Int)=_;rw [hv2]) ?_;refine Zd1 ?_;refine Zw ?_;refine tv (o_fieldAddr (o:=2) underlying233 rfl rfl sz3 rfl) ?_;refine tv (o_load p3 rfl haqz rfl) ?_;refine tv (by first|exact o_conv64 underlying3 underlying174 rfl|exact o_conv underlying3 underlying174 rfl) ?_;refine tl_env (d:=29) (v:= .int .u64 ((sz:Nat):Int)) (congrArg (λ z:Nat=>Value.int .u64 (z:Int)) (Nat.mod_eq_of_lt oqz)) ?_;refine Ze4 ?_;refine tc_cond rfl (λ h=> ?_) (λ h=> ?_)
  . have hbig:sz<v:=(by first|omega|(simp at h;omega));refine Zgs ?_;have e0:recordsS at_ sz s=([],110):=(by rw [hrec];exact recsF_big oqz oqz);rw [e0]
    exact ⟨.tuple #[.slice none 0 0,.int .i64 (110)],C (RDev r s)*Parts [] []*Sl 2 (.slice none 0 0) 0 [],res2 rfl rfl rfl,λ _ _ h=>sl_nil (show sat _ _ (C (RDev r s)*Parts [] []) by rw [hC,show Parts [] []=emp by unfold Parts;rfl,star_emp];exact Dr.sat (A':=R*RDev r s) drqz _ _ h),none,0,[],rfl,Nat.le_refl _,rfl,rfl⟩
  have hbig:¬sz<v:=(by first|omega|(simp at h;omega));refine Zc ?_;refine Zlc ?_;refine Zeh ?_;refine tv adqz ?_;refine tl_env (d:=35) (v:=(vn (at_+64+0))) (by first|rfl|(show Value.int .i64 _=_;congr 1;omega)) ?_;refine Zhk ?_;refine tc_pre (A':=R*RDev r s*Parts [] []*Sl 2 (.slice none 0 0) 0 []) (λ _ _ h=>sl_nil (show sat _ _ (R*RDev r s*Parts [] []) by rw [show Parts [] []=emp by unfold Parts;rfl,star_emp];exact h)) ?_;refine tc_loop (λ kk ρ BB=>∃ (i:Nat) (p:Nat) (D:List (Nat×List Nat)) (vs:List Value) (a5:Option Addr) (c5:Nat),(cat D (recsF (s.ls.length*64) at_ sz room (v-i) p)=recordsS at_ sz s)/\ (p<=sz-64)/\ (D.length=i)/\ (vs.length=i)/\ (i<=c5)/\ (i<=v)/\ (24*i<=p)/\ kk=v-i/\ ρ 5= .slice a5 i c5/\ ρ 6=(vn (at_+64+p))/\ ρ 7=(vn i)/\ ρ 0=(pz bk)/\ ρ 4= .int .u64 (v:Nat)/\ Dr BB (R*RDev r s*Parts vs (D.map (·.2))*Sl 2 (.slice a5 i c5) i (kcl D vs))) (m:=v-(0)) ?_ ?_
  . exact ⟨0,0,[],[],none,0,by rw [hrec,cat_nil,Nat.sub_zero],by omega,rfl,rfl,by omega,by omega,by omega,rfl,rfl,rfl,rfl,rfl,rfl,drqz⟩
  intro k ρ B hI;obtain ⟨i,p,D,vs,a5,c5,hp0,hp1,hp2,hp3,hp4,hp5,hp6,hkk1,hE5,hE6,hE7,hE0,hE4,hBA⟩:=hI;refine tc_pre hBA.sat ?_;clear hBA;refine te 5 hE5 ?_;refine te 6 hE6 ?_;refine te 7 hE7 ?_;refine te 0 hE0 ?_;refine te 4 hE4 ?_;refine Zed ?_;refine tv (o_conv underlying174 underlying3 rfl) ?_;refine tl_env (d:=38) (v:=(vn v)) (by show Value.int .i64 (IntKind.i64.wrap _)=_;rw [wr_i64 oqz]) ?_;refine Zn ?_;refine tc_cond rfl (λ h=> ?_) (λ h=> ?_)
  . have hj:i<v:=(by first|omega|(simp at h;omega));refine Zlg ?_;refine tl_c rfl (o_call bd221 rfl (rread_c (s:=s) (q:=at_+64+p) (p:=p) (room:=room))) ?_;rintro _ _ ⟨a45,c45,rfl,hc45,rfl⟩;refine Zb1 ?_;refine tv (o_extract rfl rfl) ?_;refine tl_x rfl (o_alloc z253 rfl) ?_;rintro _ _ ⟨b8,rfl,rfl⟩;refine tl_u rfl (o_stUN (l':=[.int .i64 ((rdW (readS (s.ls.length*64) at_ sz room p):Nat):Int),(.slice a45 (rdO (readS (s.ls.length*64) at_ sz room p)).length c45)]) rfl upqz sz253 rfl rfl rfl (by show 2<=2;decide) rfl) ?_;refine Zbx ?_;refine tv (o_not rfl) ?_;refine nq ?_;refine tc_cond rfl (λ h=> ?_) (λ h=> ?_)
    . have hrd:(readS (s.ls.length*64) at_ sz room p)=none:=(by rcases hq9:(readS (s.ls.length*64) at_ sz room p) with _|x;rfl;rw [hq9] at h;simp at h);refine Zlh ?_;have e0:recordsS at_ sz s=([],110):=(by rw [←hp0,recs_none hrd oqz]);rw [e0]
      exact ⟨.tuple #[.slice none 0 0,.int .i64 (110)],C (RDev r s)*Parts [] []*Sl 2 (.slice none 0 0) 0 [],res2 rfl rfl rfl,λ _ _ h=>sl_nil (show sat _ _ (C (RDev r s)*Parts [] []) by rw [hC,show Parts [] []=emp by unfold Parts;rfl,star_emp];exact Dr.sat (A':=R*RDev r s) drqz _ _ h),none,0,[],rfl,Nat.le_refl _,rfl,rfl⟩
    have hrd:=rd_some (o:=(readS (s.ls.length*64) at_ sz room p)) (by simpa using h);have hrm:=read_room hrd;refine Zc6 ?_;refine tv (o_loadN (vs:=[.int .i64 ((rdW (readS (s.ls.length*64) at_ sz room p):Nat):Int),(.slice a45 (rdO (readS (s.ls.length*64) at_ sz room p)).length c45)]) a253 sz253 rfl hsqz (by show 2<=2;decide) rfl) ?_;refine tl_x rfl (o_buildSliceK (k:=2) (l:=[.int .i64 ((rdW (readS (s.ls.length*64) at_ sz room p):Nat):Int),(.slice a45 (rdO (readS (s.ls.length*64) at_ sz room p)).length c45)]) underlying181 sz253 z253 rfl rfl (by decide)) ?_;rintro _ _ ⟨b53,rfl,rfl⟩;refine tl_x rfl (o_apB underlying181 underlying181 sz253 by253 z253 rfl (by decide) (by decide) rfl rfl rfl ctqz rfl rfl oqz (show _=kcl (D++[(rdW (readS (s.ls.length*64) at_ sz room p),rdO (readS (s.ls.length*64) at_ sz room p))]) (vs++[(.slice a45 (rdO (readS (s.ls.length*64) at_ sz room p)).length c45)]) by rw [kcl_snoc oqz])) ?_;rintro _ _ ⟨a54,c54,rfl,hc54,rfl⟩;have hps:Parts (vs++[(.slice a45 (rdO (readS (s.ls.length*64) at_ sz room p)).length c45)]) ((D++[(rdW (readS (s.ls.length*64) at_ sz room p),rdO (readS (s.ls.length*64) at_ sz room p))]).map (·.2))=Parts vs (D.map (·.2))*Sl 1 (.slice a45 (rdO (readS (s.ls.length*64) at_ sz room p)).length c45) (rdO (readS (s.ls.length*64) at_ sz room p)).length (bys (rdO (readS (s.ls.length*64) at_ sz room p))):=(by rw [List.map_append];exact parts_snoc (by rw [List.length_map];omega));refine tl_eq (show _=R*RDev r s*Parts (vs++[(.slice a45 (rdO (readS (s.ls.length*64) at_ sz room p)).length c45)]) ((D++[(rdW (readS (s.ls.length*64) at_ sz room p),rdO (readS (s.ls.length*64) at_ sz room p))]).map (·.2))*Sl 2 (.slice a54 (i+1) c54) (i+1) (kcl (D++[(rdW (readS (s.ls.length*64) at_ sz room p),rdO (readS (s.ls.length*64) at_ sz room p))]) (vs++[(.slice a45 (rdO (readS (s.ls.length*64) at_ sz room p)).length c45)]))*pt b8 (cl ([.int .i64 ((rdW (readS (s.ls.length*64) at_ sz room p):Nat):Int),(.slice a45 (rdO (readS (s.ls.length*64) at_ sz room p)).length c45)]:List Value) 253) by rw [hps];ac_rfl) ?_;refine Za ?_;refine Zfn ?_;refine tv adqz ?_;refine tl_env (d:=57) (v:= .int .i64 ((at_+64+(p+rkT (readS (s.ls.length*64) at_ sz room p)):Nat):Int)) (by first|rfl|(show Value.int .i64 _=_;congr 1;omega)) ?_;refine Zhr ?_;exact ⟨_,by omega,i+1,_,D++[(rdW (readS (s.ls.length*64) at_ sz room p),rdO (readS (s.ls.length*64) at_ sz room p))],vs++[(.slice a45 (rdO (readS (s.ls.length*64) at_ sz room p)).length c45)],a54,c54,by rw [show v-(i+1)=v-i-1 by omega,←recs_some hrd oqz];exact hp0,by omega,by rw [List.length_append,hp2];rfl,by rw [List.length_append,hp3];rfl,hc54,by omega,by omega,rfl,rfl,rfl,rfl,rfl,rfl,drqz⟩
  obtain rfl:i=v:=by first|omega|(simp at h;omega)
  refine Zkg ?_;have e0:recordsS at_ sz s=(D,0):=(by rw [←hp0,Nat.sub_self];unfold recsF cat;rw [if_neg (by simp),List.append_nil]);rw [e0]
  exact ⟨.tuple #[.slice a5 i c5,.int .i64 0],R*RDev r s*Parts vs (D.map (·.2))*Sl 2 (.slice a5 i c5) i (kcl D vs),res2 rfl rfl rfl,Dr.sat drqz,a5,c5,vs,by rw [hp2],by rw [hp2];exact hp4,by rw [hp3];exact hp2.symm,by rw [hC];simp only [];rw [hp2]⟩
theorem rRecords_w {A R:SP}{C:SP->SP}{r:Nat}{s:DevS}(hc:Ct A (RDev r s) R C:=by exact cbqz){bk at_ sz:Nat}(hl:Has R bk (cl (lcs11 r at_ sz) 233):=by exact hbqz)(hlw:LogW (s.ls.length*64) at_ sz:=by assumption){L:List (Nat×List Nat)}{e:Int}(hX:recordsS at_ sz s=(L,e)):Fn Tryz.prog 175 #[pz bk] A (λ r_ B=>∃a2 c2 vs,r_= .tuple #[.slice a2 L.length c2,.int .i64 e]/\ L.length<=c2/\ vs.length=L.length/\ B=C (RDev r s)*Parts vs (L.map (·.2))*Sl 2 (.slice a2 L.length c2) L.length (kcl L vs)):=by
  have h:=rRecords_c hc hl hlw;rw [hX] at h
  exact h
theorem Zje {p r:Prop}(k:r)(h:Kq r->p:=by intro k;refine Zed ?_;refine tv (o_len underlying107 rfl) ?_;exact k.o):p:=h ⟨k⟩
theorem Zjf {p r:Prop}(k:r)(h:Kq r->p:=by intro k;refine tm 9 rfl kqz rfl (o_move wqz) ?_;refine tm 10 rfl kqz rfl (o_move wqz) ?_;exact k.o):p:=h ⟨k⟩
theorem Zcf {p r:Prop}(k:r)(h:Kq r->p:=by intro k;refine Zl ?_;refine tc_cond rfl (sbq ?_) dbq;exact k.o):p:=h ⟨k⟩
theorem rWrite_c {A R:SP}{C:SP->SP}{r:Nat}{s:DevS}(hc:Ct A (RDev r s) R C:=by exact cbqz){bk at_ sz:Nat}(hl:Has R bk (cl (lcs11 r at_ sz) 233):=by exact hbqz)(hlw:LogW (s.ls.length*64) at_ sz:=by assumption){a:Option Addr}{c m:Nat}{xs:List (Int×Int)}(hr:Rs R a (xcl xs):=by exact rbqz)(hm:xs.length=m:=by first|assumption|rfl)(hX:∀x∈xs,XW x:=by assumption)(hml:m<=17592186044416:=by omega)(hroom:Room (sz+1) s:=by assumption):
    Fn Tryz.prog 267 #[pz bk,.slice a m c] A (λ r_ B=>∃e s2,writeS at_ sz xs s=(e,s2)/\ r_= .int .i64 e/\ B=C (RDev r s2)):=by
  refine fn_enterW func267 rfl ntmps267 (by simp) ?_;refine tc_have (λ _ _ h=>wfR_ct hc h) λ hw=> ?_
  have htop:=hw.top;have hpos:=hw.pos;obtain ⟨rfl,hC⟩:=hc;have hAC:∀g w,sat g w (R*RDev r s)->sat g w (C (RDev r s)):=λ g w h=>by rw [hC];exact h
  have hlw9:=hlw;obtain ⟨w1,w2,w3,w4,w5⟩:=hlw9;refine Zj ?_;refine Zb2 ?_;refine Zbm ?_;refine Zz ?_;refine tv (o_loadC (b:=r) p4 rfl (by repeat (first|exact cellR5|apply Cell.left))) ?_;refine nq ?_;refine tc_cond rfl (sbq ?_) (λ h=> ?_)
  . intro h;refine Zb6 ?_;exact ⟨.int .i64 (5),C (RDev r s),res1 rfl rfl,λ _ _ h=>by rw [hC];exact (Dr.sat (A':=R*RDev r s) drqz) _ _ h,5,s,by unfold writeS;rw [if_pos h],rfl,rfl⟩
  have ho:s.off=false:=(by simpa using h);have hw2:=word_in (p:=at_) ho oqz oqz;obtain ⟨v,hv⟩:∃v,(wordP (at_:Nat) s).1=v:=⟨_,rfl⟩;have hvl:v<18446744073709551616:=(by rw [←hv,hw2];exact nm8_lt λ x hx=>img_lt x (List.mem_of_mem_drop hx));have hv2:nm (((imgS s).drop at_).take 8)=v:=(by rw [←hv,hw2]);refine Zdf ?_;refine Zw ?_;refine Zeh ?_;refine tl_c rfl (o_call bd220 rfl (rnum_c (s:=s) (q:=at_))) ?_;rintro _ _ ⟨rfl,rfl⟩;refine tl_env (d:=26) (v:= .int .u64 (v:Nat)) (by show Value.int .u64 ((nm (((imgS s).drop at_).take 8):Nat):Int)=_;rw [hv2]) ?_;refine Zl ?_;refine tc_cond rfl (λ h=> ?_) (λ h=> ?_)
  . have hv0:v≠0:=(by first|(have h9:=of_decide_eq_true h;omega)|(simp at h;omega));refine Zb6 ?_;exact ⟨.int .i64 (3),C (RDev r s),res1 rfl rfl,λ _ _ h=>by rw [hC];exact (Dr.sat (A':=R*RDev r s) drqz) _ _ h,3,s,by unfold writeS;rw [if_neg (by rw [ho];decide),if_pos (by rw [hv];exact hv0)],rfl,rfl⟩
  have hv0:¬v≠0:=(by first|(have h9:=of_decide_eq_false h;omega)|(simp at h;omega));refine Zc ?_;refine Zky ?_;refine tc_pre (A':=R*RDev r s*Sl 1 (.slice none 0 0) 0 (ints (lensX (xs.take 0)))) (λ _ _ h=>sl_nil h) ?_;refine tc_loop (λ kk ρ BB=>∃ (i:Nat) (a5:Option Addr) (c5:Nat),(i<=m)/\ ((xs.take i).all (mayX (s.ls.length*64) at_ sz)=true)/\ (i<=c5)/\ kk=m-i/\ ρ 5= .slice a5 i c5/\ ρ 6=(vn i)/\ ρ 0=(pz bk)/\ ρ 1= .slice a m c/\ Dr BB (R*RDev r s*Sl 1 (.slice a5 i c5) i (ints (lensX (xs.take i))))) (m:=m-(0)) ?_ ?_
  . exact ⟨0,none,0,by omega,rfl,by omega,rfl,rfl,rfl,rfl,rfl,drqz⟩
  intro k ρ B hI;obtain ⟨i,a5,c5,hp0,hp1,hp2,hkk1,hE5,hE6,hE0,hE1,hBA⟩:=hI;refine tc_pre hBA.sat ?_;clear hBA;refine te 5 hE5 ?_;refine te 6 hE6 ?_;refine te 0 hE0 ?_;refine te 1 hE1 ?_;refine Zje ?_;refine Zn ?_;refine tc_cond rfl (λ h=> ?_) (λ h=> ?_)
  . have hi:i<xs.length:=(by first|omega|(simp at h;omega));obtain ⟨x,hx1⟩:∃x,xs[i]=x:=⟨_,rfl⟩;have hxw:XW x:=hX x (hx1▸List.getElem_mem hi);refine Zbe ?_;refine Ze ?_;refine Z2 ?_;refine tv (o_ixP (a:=a) underlying107 sz162 rfl rfl oqz (nn_rs sq4z (λ _=>by rw [xcl_len];omega))) ?_;refine tv (o_ldPN (a:=a) (xs:=xcl xs) (vs:=xcs x) a162 sz162 rfl sq4z (by rw [xcl_at oqz,hx1]) rfl (by decide)) ?_;refine tl_c rfl (o_call bd258 rfl (rMay11_c (s:=s) (x:=x))) ?_;refine Zim ?_;refine tc_cond rfl (λ h=> ?_) (λ h=> ?_)
    . have hmy:mayX (s.ls.length*64) at_ sz x=false:=(by simpa using h);refine sr ?_;refine Zb4 ?_;exact ⟨.int .i64 (6),C (RDev r s),res1 rfl rfl,λ _ _ h=>by rw [hC];exact (Dr.sat (A':=R*RDev r s) drqz) _ _ h,6,s,by unfold writeS;rw [if_neg (by rw [ho];decide),if_neg (by rw [hv];exact hv0),if_pos (all_not hi (by rw [hx1];exact hmy))],rfl,rfl⟩
    have hmy:mayX (s.ls.length*64) at_ sz x=true:=(by simpa using h);refine Zc ?_;refine Zh2 ?_;refine tv (o_ixP (a:=a) underlying107 sz162 rfl rfl oqz (nn_rs sq4z (λ _=>by rw [xcl_len];omega))) ?_;refine tv (o_faP (a:=a) (m:=0) (o:=1) underlying162 rfl rfl sz3 rfl (nn_rs sq4z (λ _=>by rw [xcl_len];omega))) ?_;refine tv (o_ldP (a:=a) (xs:=xcl xs) p3 rfl sq4z (by rw [xcl_at1 oqz,hx1])) ?_;refine tl_x rfl (o_buildSlice1 underlying26 sz3 z3 wqz rfl) ?_;rintro _ _ ⟨b47,rfl,rfl⟩;refine tl_x rfl (o_apB underlying26 underlying26 sz3 by3 z3 rfl (by decide) (by decide) rfl rfl rfl ctqz rfl (by first|exact bys_all _|exact ints_all _|exact wds_all _|exact bos_all _|rfl) sq1z (by first|exact bys_sn _ _|exact ints_sn _ _|exact wds_sn _ _|exact bos_sn _ _|exact (bys_append _ _).symm|rfl)) ?_;rintro _ _ ⟨a48,c48,rfl,hc48,rfl⟩;refine Zhr ?_;exact ⟨_,by omega,i+1,_,_,by omega,all_take hi hp1 (by rw [hx1];exact hmy),hc48,rfl,rfl,rfl,rfl,rfl,by rw [lensX_succ hi,hx1];repeat (first|with_reducible exact dr_refl|apply dr_keep|apply dr_drop)⟩
  obtain rfl:i=m:=by first|omega|(simp at h;omega)
  have htk:xs.take i=xs:=List.take_of_length_le oqz;rw [htk] at hp1
  refine tc_pre (A':=R*RDev r s*Sl 1 (.slice a5 i c5) i (ints (lensX xs))) (λ _ _ h=>by rw [htk] at h;exact h) ?_;obtain ⟨nd,en,hnd⟩:∃nd en,needS (lensX xs)=(nd,en):=⟨_,_,rfl⟩;have hxl:∀x∈lensX xs,-9223372036854775808<=x/\ x<=9223372036854775807:=λ x hx=>by obtain ⟨y,hy,rfl⟩:=List.mem_map.1 hx;exact (hX y hy).l
  have hx1:∀x∈xs,1<=x.2:=λ x hx=>by obtain ⟨p,n,rfl,_,hn,_⟩:=may_nat (List.all_eq_true.1 hp1 x hx);show (1:Int)<=(n:Int);omega
  have hnd2:en=0->nd=(needN xs:Nat):=λ h9=>by have:=needF_ok hx1 hnd h9;omega
  refine Zdx ?_;refine tl_c rfl (o_call bd281 rfl (rNeed_c (xs:=lensX xs) (hr:=rs_sl) (hm:=(lensX_len xs).trans hm) (hx:=hxl))) ?_;refine Zk8 ?_;refine tl_env (d:=52) (v:= .int .i64 nd) (by show Value.int .i64 (needS (lensX xs)).1=_;rw [hnd]) ?_;refine tv (o_extract rfl rfl) ?_;refine tl_env (d:=53) (v:= .int .i64 en) (by show Value.int .i64 (needS (lensX xs)).2=_;rw [hnd]) ?_;refine Z0 ?_;refine Zdw ?_;refine tc_cut (λ ρ BB=>∃ (bb:Bool),(bb=decide (en≠0∨((sz-64:Nat):Int)<nd))/\ ρ 64= .bool bb/\ ρ 0=(pz bk)/\ ρ 1= .slice a i c/\ ρ 7= .int .i64 nd/\ Dr BB (R*RDev r s)) ?_ ?_
  . skip
    refine Zm ?_;refine Zdr ?_;refine tl_bool (d:=56) rfl (λ h=> ?_) (λ h=> ?_)
    . have g56:(en≠0):=(by first|exact of_decide_eq_true h|(have h2:=h;simp at h2;omega)|simpa using h);refine Zdl ?_;refine tk ?_;refine Zcx ?_;exact ⟨_,by first|exact (decide_eq_true oqz).symm|exact (decide_eq_false oqz).symm|(rw [decide_eq_decide];omega),rfl,rfl,rfl,rfl,drqz⟩
    have g56:¬(en≠0):=(by first|exact of_decide_eq_false h|(have h2:=h;simp at h2;omega)|simpa using h);refine tlm ?_;refine Zw ?_;refine tv (o_fieldAddr (o:=2) underlying233 rfl rfl sz3 rfl) ?_;refine tv (o_load p3 rfl haqz rfl) ?_;refine tv (o_subI rfl rfl oqz) ?_;refine tl_env (d:=62) (v:=(vn (sz-64))) (by show Value.int .i64 ((sz:Int)-64)=_;congr 1;omega) ?_;refine Zc2 ?_;refine tl_nil ?_;exact ⟨_,by first|exact (decide_eq_true oqz).symm|exact (decide_eq_false oqz).symm|(rw [decide_eq_decide];omega),rfl,rfl,rfl,rfl,drqz⟩
  intro ρ B hI;obtain ⟨bb,hbb0,hE64,hE0,hE1,hE7,hBA⟩:=hI;refine q_then_n ?_;refine tc_pre hBA.sat ?_;clear hBA;refine te 64 hE64 ?_;refine te 0 hE0 ?_;refine te 1 hE1 ?_;refine te 7 hE7 ?_;refine tc_cond rfl (λ h=> ?_) (λ h=> ?_)
  . have hful:=of_decide_eq_true (show decide (en≠0∨((sz-64:Nat):Int)<nd)=true by rw [←hbb0];exact h);refine Zb6 ?_;exact ⟨.int .i64 (111),C (RDev r s),res1 rfl rfl,λ _ _ h=>by rw [hC];exact (Dr.sat (A':=R*RDev r s) drqz) _ _ h,111,s,by unfold writeS;rw [if_neg (by rw [ho];decide),if_neg (by rw [hv];exact hv0),if_neg (by rw [hp1];decide),hnd,if_pos hful],rfl,rfl⟩
  have hful:=of_decide_eq_false (show decide (en≠0∨((sz-64:Nat):Int)<nd)=false by rw [←hbb0];exact h);obtain rfl:en=0:=by omega
  obtain rfl:=hnd2 rfl;have hN:needN xs<=sz-64:=(by omega);refine Zdf ?_;refine tv (o_len underlying107 rfl) ?_;refine Zca ?_;refine tc_cond rfl (λ h=> ?_) (λ h=> ?_)
  . have hx0:xs=[]:=List.eq_nil_of_length_eq_zero (by first|(have:=of_decide_eq_true h;omega)|(simp at h;omega));refine Zb6 ?_;exact ⟨.int .i64 (0),C (RDev r s),res1 rfl rfl,λ _ _ h=>by rw [hC];exact (Dr.sat (A':=R*RDev r s) drqz) _ _ h,0,s,by unfold writeS;rw [if_neg (by rw [ho];decide),if_neg (by rw [hv];exact hv0),if_neg (by rw [hp1];decide),hnd,if_neg hful,if_pos hx0],rfl,rfl⟩
  have hx0:xs≠[]:=λ e=>by subst e;simp at hm;first|exact of_decide_eq_false h oqz|(simp at h;omega)|omega
  have hxl0:0<xs.length:=List.length_pos_iff.2 hx0;have hN1:=needN_ge xs;refine Zfx ?_;refine Zeh ?_;refine tv adqz ?_;refine tl_env (d:=72) (v:=(vn (at_+64))) (by first|rfl|(show Value.int .i64 _=_;congr 1;omega)) ?_;refine Zhk ?_;refine tc_loop (λ kk ρ BB=>∃ (j:Nat) (q:Nat) (s1:DevS),(j<=i)/\ (putF (at_+64) xs s=putF q (xs.drop j) s1)/\ (s1.off=false)/\ (s1.ls.length=s.ls.length)/\ (q+needN (xs.drop j)=at_+64+needN xs)/\ (Room (needN (xs.drop j)+1) s1)/\ kk=i-j/\ ρ 9=(vn q)/\ ρ 10=(vn j)/\ ρ 0=(pz bk)/\ ρ 1= .slice a i c/\ ρ 7= .int .i64 (needN xs:Nat)/\ Dr BB (R*RDev r s1)) (m:=i-(0)) ?_ ?_
  . exact ⟨0,at_+64,s,by omega,rfl,ho,rfl,by rw [List.drop_zero],λ l hl=>by have:=hroom l hl;rw [List.drop_zero];omega,rfl,rfl,rfl,rfl,rfl,rfl,drqz⟩
  intro k ρ B hI;obtain ⟨j,q,s1,hq0,hq1,hq2,hq3,hq4,hq5,hkk2,hE9,hE10,hE0,hE1,hE7,hBA⟩:=hI;refine tc_pre hBA.sat ?_;clear hBA;refine te 9 hE9 ?_;refine te 10 hE10 ?_;refine te 0 hE0 ?_;refine te 1 hE1 ?_;refine te 7 hE7 ?_;refine Zje ?_;refine Zn ?_;refine tc_cond rfl (λ h=> ?_) (λ h=> ?_)
  . have hj:j<xs.length:=(by first|omega|(simp at h;omega));obtain ⟨x,hx1⟩:∃x,xs[j]=x:=⟨_,rfl⟩;have hmx:=all_drop hp1 hj;have hdr:=List.drop_eq_getElem_cons hj;rw [hx1] at hmx hdr
    obtain ⟨p,n,rfl,y1,y2,y3,y4⟩:=may_nat hmx;rw [hdr,needN_cons] at hq4 hq5
    simp only [Int.toNat_natCast] at hq4 hq5
    refine tc_have (λ _ _ h=>wfR_ct ctqz h) λ hw1=> ?_
    have hil:=imgS_len hw1;have hol:(((imgS s1).drop p).take n).length=n:=(by rw [List.length_take,List.length_drop,hil,hq3];omega);have hrl:(recS p (((imgS s1).drop p).take n)).length=24+up8 n:=(by rw [recS_len,hol]);have hrb:∀x∈recS p (((imgS s1).drop p).take n),x<256:=recS_b img_sub;have hu8:=up8_le n;refine Zly ?_;refine tc_regh (S:=R) mo drqz ?_
    show TH _ _ _ _ _ 20 (Array.replicate 20 false) _ _
    refine Zq ?_;refine Zcm ?_;refine Zc1 ?_;refine tm 6 rfl kqz rfl (o_ixP (a:=a) underlying107 sz162 rfl rfl oqz (nn_rs sq4z (λ _=>by rw [xcl_len];omega))) ?_;refine tm 7 rfl kqz rfl (o_faP (a:=a) (m:=0) (o:=0) underlying162 rfl rfl sz3 rfl (nn_rs sq4z (λ _=>by rw [xcl_len];omega))) ?_;refine tm 8 rfl kqz rfl (o_ldP (a:=a) (xs:=xcl xs) p3 rfl sq4z (by rw [xcl_at0 oqz,hx1])) ?_;refine Zjf ?_;refine tm 11 rfl kqz rfl (o_ixP (a:=a) underlying107 sz162 rfl rfl oqz (nn_rs sq4z (λ _=>by rw [xcl_len];omega))) ?_;refine tm 12 rfl kqz rfl (o_faP (a:=a) (m:=0) (o:=1) underlying162 rfl rfl sz3 rfl (nn_rs sq4z (λ _=>by rw [xcl_len];omega))) ?_;refine tm 13 rfl kqz rfl (o_ldP (a:=a) (xs:=xcl xs) p3 rfl sq4z (by rw [xcl_at1 oqz,hx1])) ?_;refine th_one (i:=14) kqz ?_;refine oh_c rfl rfl rfl (o_call bd174 rfl (rLoad_c (s:=s1) (p:=p) (m:=n))) ?_;rintro _ _ ⟨a94,c94,rfl,hc94,rfl⟩;refine Zj1 ?_;refine tm 16 rfl kqz rfl (o_extract rfl rfl) ?_;refine tm 17 rfl kqz rfl (o_extract rfl rfl) ?_;refine tm 18 rfl kqz rfl (o_assign wqz) ?_;refine tm 19 rfl kqz rfl (o_assign wqz) ?_;refine Zba ?_;refine Zb7 ?_;refine tv (o_ixP (a:=a) underlying107 sz162 rfl rfl oqz (nn_rs sq4z (λ _=>by rw [xcl_len];omega))) ?_;refine tv (o_faP (a:=a) (m:=0) (o:=0) underlying162 rfl rfl sz3 rfl (nn_rs sq4z (λ _=>by rw [xcl_len];omega))) ?_;refine tv (o_ldP (a:=a) (xs:=xcl xs) p3 rfl sq4z (by rw [xcl_at0 oqz,hx1])) ?_;refine tlm ?_;refine tl_c rfl (o_call bd260 rfl (rRec_c (p:=p) (xs:=((imgS s1).drop p).take n) (hr:=rs_sl) (hm:=hol) (hb:=img_sub))) ?_;rintro _ _ ⟨a103,c103,rfl,hc103,rfl⟩;refine Za ?_;refine Zs ?_;refine Zbm ?_;refine Z2 ?_;refine tl_c rfl (o_call bd124 rfl (rStore_c (s:=s1) (p:=(q:Nat)) (xs:=recS p (((imgS s1).drop p).take n)) (hm:=hrl) (hb:=hrb) (hroom:=λ _ l hl=>by have:=hq5 l hl;omega))) ?_;rintro _ _ ⟨e110,s110,hs110,rfl,rfl⟩;refine Zd1 ?_;refine Zl ?_;refine tc_cond rfl (λ h=> ?_) (λ h=> ?_)
    . have he0:e110≠0:=(by simpa using h);have hput:putF (at_+64) xs s=(e110,s110):=(by rw [hq1,hdr];exact putF_e hs110 he0);refine Zb ?_;refine Zb4 ?_;exact ⟨.int .i64 (e110),C (RDev r s110),res1 rfl rfl,λ _ _ h=>by rw [hC];exact (Dr.sat (A':=R*RDev r s110) drqz) _ _ h,e110,s110,by unfold writeS;rw [if_neg (by rw [ho];decide),if_neg (by rw [hv];exact hv0),if_neg (by rw [hp1];decide),hnd,if_neg hful,if_neg hx0,hput,if_pos he0],rfl,rfl⟩
    obtain rfl:e110=0:=by simpa using h
    refine Zc ?_;refine Zm ?_;refine Zbp ?_;refine tv adqz ?_;refine tl_env (d:=117) (v:= .int .i64 ((q+(24+up8 n):Nat):Int)) (by first|rfl|(show Value.int .i64 _=_;congr 1;omega)) ?_;refine Zhr ?_;exact ⟨_,by omega,j+1,_,_,by omega,by rw [hq1,hdr];exact putF_o hs110,by rw [sto_on hs110];exact hq2,by have h9:=sto_len (q:Nat) (recS p (((imgS s1).drop p).take n)) s1;rw [hs110] at h9;exact h9.trans hq3,by omega,sto_room hs110 hw1 hrb (λ l hl=>by have:=hq5 l hl;rw [hrl];omega),rfl,rfl,rfl,rfl,rfl,rfl,drqz⟩
  obtain rfl:j=i:=by first|omega|(simp at h;omega)
  have hput:putF (at_+64) xs s=(0,s1):=(by rw [hq1,List.drop_eq_nil_of_le oqz];rfl);refine tc_have (λ _ _ h=>wfR_ct ctqz h) λ hw1=> ?_
  have hr1:Room 1 s1:=λ l hl=>by have:=hq5 l hl;omega
  have hin1:at_+64+needN xs<=s1.ls.length*64:=(by omega);refine Zdx ?_;refine Zw ?_;refine Zeh ?_;refine tv adqz ?_;refine tl_env (d:=123) (v:=(vn (at_+64))) (by first|rfl|(show Value.int .i64 _=_;congr 1;omega)) ?_;refine tlm ?_;refine tv (o_bS (l:=[_,_]) (pv_cons wqz (pv_cons wqz pv_nil)) underlying162 z162 (pl162 underlying162) rfl) ?_;refine tl_c rfl (o_call bd222 rfl (rflush_c (s:=s1) (p:=at_+64) (m:=needN xs))) ?_;rintro _ _ ⟨e126,s126,hs126,rfl,rfl⟩;refine Zd1 ?_;refine Zca ?_;refine tc_cond rfl (λ h=> ?_) (λ h=> ?_)
  . obtain rfl:e126=0:=by simpa using h
    refine Zfo ?_;refine Zbm ?_;refine tl_c rfl (o_call bd223 rfl (rFence_c (s:=s126))) ?_;rintro _ _ ⟨e133,s133,hs133,rfl,rfl⟩;refine Zd1 ?_;refine Zl ?_;refine tc_cond rfl (λ h=> ?_) (λ h=> ?_)
    . have he1:e133≠0:=(by simpa using h);have hrg:=range_o hq2 oqz hin1 hs126 hs133;refine Zge ?_;exact ⟨.int .i64 (e133),C (RDev r s133),res1 rfl rfl,λ _ _ h=>by rw [hC];exact (Dr.sat (A':=R*RDev r s133) drqz) _ _ h,e133,s133,by unfold writeS;rw [if_neg (by rw [ho];decide),if_neg (by rw [hv];exact hv0),if_neg (by rw [hp1];decide),hnd,if_neg hful,if_neg hx0,hput,if_neg (by simp)];simp only [];rw [hrg,if_pos he1],rfl,rfl⟩
    obtain rfl:e133=0:=by simpa using h
    have hrg:=range_o hq2 oqz hin1 hs126 hs133;have hr2:=rangeP_room hrg hw1 hr1;refine Zgr ?_;refine tv (o_len underlying107 rfl) ?_;refine tl_env (d:=139) (v:=(vn xs.length)) (by rw [hm];rfl) ?_;refine tl_c rfl (o_call bd224 rfl (rpub_c (s:=s133) (n:=xs.length))) ?_;rintro _ _ ⟨e140,s140,hs140,rfl,rfl⟩;refine Zd ?_;exact ⟨.int .i64 (e140),C (RDev r s140),res1 rfl rfl,λ _ _ h=>by rw [hC];exact (Dr.sat (A':=R*RDev r s140) drqz) _ _ h,e140,s140,by unfold writeS;rw [if_neg (by rw [ho];decide),if_neg (by rw [hv];exact hv0),if_neg (by rw [hp1];decide),hnd,if_neg hful,if_neg hx0,hput,if_neg (by simp)];simp only [];rw [hrg,if_neg (by simp)];exact hs140,rfl,rfl⟩
  have he1:e126≠0:=(by simpa using h);have hrg:=range_e hq2 oqz hin1 hs126 he1;refine Zdf ?_;refine Zcf ?_;intro h;refine Zge ?_;exact ⟨.int .i64 (e126),C (RDev r s126),res1 rfl rfl,λ _ _ h=>by rw [hC];exact (Dr.sat (A':=R*RDev r s126) drqz) _ _ h,e126,s126,by unfold writeS;rw [if_neg (by rw [ho];decide),if_neg (by rw [hv];exact hv0),if_neg (by rw [hp1];decide),hnd,if_neg hful,if_neg hx0,hput,if_neg (by simp)];simp only [];rw [hrg,if_pos he1],rfl,rfl⟩
theorem Ze0 {p r:Prop}(k:r)(h:Kq r->p:=by intro k;refine tm 15 rfl kqz rfl (o_assign wqz) ?_;refine Zba ?_;exact k.o):p:=h ⟨k⟩
theorem Zhs {p r:Prop}(k:r)(h:Kq r->p:=by intro k;refine tm 11 rfl kqz rfl (o_len underlying57 rfl) ?_;refine tm 12 rfl kqz rfl (o_bS (l:=[_,_]) (pv_cons wqz (pv_cons wqz pv_nil)) underlying162 z162 (pl162 underlying162) rfl) ?_;exact k.o):p:=h ⟨k⟩
theorem rRollback_c {A R:SP}{C:SP->SP}{r:Nat}{s:DevS}(hc:Ct A (RDev r s) R C:=by exact cbqz){bk at_ sz:Nat}(hl:Has R bk (cl (lcs11 r at_ sz) 233):=by exact hbqz)(hlw:LogW (s.ls.length*64) at_ sz:=by assumption)(hroom:Room (sz+1) s:=by assumption):
    Fn Tryz.prog 176 #[pz bk] A (λ r_ B=>∃e k s2,rollS at_ sz s=((k,e),s2)/\ r_= .tuple #[.int .i64 k,.int .i64 e]/\ B=C (RDev r s2)):=by
  refine fn_enterW func176 rfl ntmps176 (by simp) ?_;refine tc_have (λ _ _ h=>wfR_ct hc h) λ hw=> ?_
  have htop:=hw.top;have hpos:=hw.pos;obtain ⟨rfl,hC⟩:=hc;have hAC:∀g w,sat g w (R*RDev r s)->sat g w (C (RDev r s)):=λ g w h=>by rw [hC];exact h
  have hlw9:=hlw;obtain ⟨w1,w2,w3,w4,w5⟩:=hlw9;obtain ⟨L,e0,hL⟩:∃L e0,recordsS at_ sz s=(L,e0):=⟨_,_,rfl⟩;refine Zkx ?_;refine tl_c rfl (o_call bd175 rfl (rRecords_w (s:=s) (hX:=hL))) ?_;rintro _ _ ⟨a9,c9,vs,rfl,hc9,hvs,rfl⟩;refine tl_have (λ _ _ h=>parts_getD hvs h.left) λ hps=> ?_
  refine Zhd ?_;refine Zdr ?_;refine tl_bool (d:=14) rfl (λ h=> ?_) (λ h=> ?_)
  . have g14:(e0≠0):=(by first|exact of_decide_eq_true h|(have h2:=h;simp at h2;omega)|simpa using h);refine Ze3 ?_;refine Zfw ?_;refine Ze1 ?_;exact ⟨.tuple #[.int .i64 0,.int .i64 e0],C (RDev r s),res2 rfl rfl rfl,λ _ _ h=>by rw [hC];exact (Dr.sat (A':=R*RDev r s) drqz) _ _ h,e0,0,s,roll_no hL (by first|exact hor|exact .inl (by assumption)),rfl,rfl⟩
  have g14:¬(e0≠0):=(by first|exact of_decide_eq_false h|(have h2:=h;simp at h2;omega)|simpa using h);refine tlm ?_;refine tv (o_len underlying181 rfl) ?_;refine tv (o_eqi rfl rfl) ?_;refine Zft ?_;refine tc_cond rfl (λ h=> ?_) (λ h=> ?_)
  . have hor:e0≠0∨L=[]:=(by first|exact .inl (by assumption)|exact .inr (List.eq_nil_of_length_eq_zero (by first|(have:=of_decide_eq_true h;omega)|(simp at h;omega))));refine Ze1 ?_;exact ⟨.tuple #[.int .i64 0,.int .i64 e0],C (RDev r s),res2 rfl rfl rfl,λ _ _ h=>by rw [hC];exact (Dr.sat (A':=R*RDev r s) drqz) _ _ h,e0,0,s,roll_no hL (by first|exact hor|exact .inl (by assumption)),rfl,rfl⟩
  obtain rfl:e0=0:=by omega
  have hne:L≠[]:=λ e9=>by subst e9;first|exact of_decide_eq_false h rfl|(simp at h)
  refine Zc ?_;refine Zdw ?_;obtain ⟨hrk,hrs⟩:=records_ok hw hlw hL;refine Zm ?_;refine tv (o_len underlying181 rfl) ?_;refine tv (by first|exact o_subI rfl rfl oqz|exact o_sub rfl rfl) ?_;refine tl_env (d:=22) (v:= .int .i64 ((L.length:Int)-1-((0:Nat):Int))) (by show Value.int .i64 _=_;congr 1;omega) ?_;refine Zii ?_;refine tc_loop (λ kk ρ BB=>∃ (i:Nat) (s1:DevS),(i<=L.length)/\ (backF (L.reverse.drop i) s1=backF L.reverse s)/\ (s1.ls.length=s.ls.length)/\ (Room (sumL (L.reverse.drop i)+1) s1)/\ kk=L.length-i/\ ρ 6= .int .i64 ((L.length:Int)-1-(i:Int))/\ ρ 0=(pz bk)/\ ρ 4= .slice a9 L.length c9/\ Dr BB (R*RDev r s1*Parts vs (L.map (·.2))*Sl 2 (.slice a9 L.length c9) L.length (kcl L vs))) (m:=L.length-(0)) ?_ ?_
  . exact ⟨0,s,by omega,rfl,rfl,λ l hl=>by have:=hroom l hl;rw [List.drop_zero,sumL_rev];omega,rfl,rfl,rfl,rfl,drqz⟩
  intro k ρ B hI;obtain ⟨i,s1,hp0,hp1,hp2,hp3,hkk1,hE6,hE0,hE4,hBA⟩:=hI;refine tc_pre hBA.sat ?_;clear hBA;refine te 6 hE6 ?_;refine te 0 hE0 ?_;refine te 4 hE4 ?_;refine Ze ?_;refine Zj9 ?_;refine tc_cond rfl (λ h=> ?_) (λ h=> ?_)
  . have hi:i<L.length:=(by simp at h;omega);have hkk:(L.length-1-i)<L.length:=(by omega);obtain ⟨xb,xc,hv27,hxc⟩:=hps _ hkk;have hprs:=parts_rsL hvs hkk hv27;have hdr:=rev_at hi;obtain ⟨hmx,hxb⟩:=hrk _ (getD_mem hkk);obtain ⟨zp,zm,hz,y1,y2,y3,y4⟩:=may_nat hmx
    simp only [Prod.mk.injEq,Int.ofNat_inj] at hz
    obtain ⟨hz1,hz2⟩:=hz;rw [hdr,sumL_cons] at hp3
    refine tc_have (λ _ _ h=>wfR_ct ctqz h) λ hw1=> ?_
    have hkI:(L.length:Int)-1-(i:Int)=(((L.length-1-i):Nat):Int):=(by omega);refine Zly ?_;refine tc_regh (S:=R*Parts vs (L.map (·.2))*Sl 2 (.slice a9 L.length c9) L.length (kcl L vs)) mo drqz ?_
    show TH _ _ _ _ _ 16 (Array.replicate 16 false) _ _
    refine Zq ?_;refine Zcm ?_;refine Zc1 ?_;refine th_env (d:=32) (v:= .int .i64 (((L.length-1-i):Nat):Int)) (by show Value.int .i64 _=_;rw [hkI]) ?_;refine tm 6 rfl kqz rfl (o_ixP (a:=a9) underlying181 sz253 rfl rfl oqz (nn_rs (xs:=kcl L vs) sq3z (λ _=>by rw [kcl_len hvs];omega))) ?_;refine tm 7 rfl kqz rfl (o_faP (a:=a9) (m:=0) (o:=0) underlying253 rfl rfl sz3 rfl (nn_rs (xs:=kcl L vs) sq3z (λ _=>by rw [kcl_len hvs];omega))) ?_;refine tm 8 rfl kqz rfl (o_ldP (a:=a9) (xs:=kcl L vs) p3 rfl sq3z (kcl_a0 hvs hkk)) ?_;refine Zjf ?_;refine th_env (d:=37) (v:= .int .i64 (((L.length-1-i):Nat):Int)) (by show Value.int .i64 _=_;rw [hkI]) ?_;refine tm 11 rfl kqz rfl (o_ixP (a:=a9) underlying181 sz253 rfl rfl oqz (nn_rs (xs:=kcl L vs) sq3z (λ _=>by rw [kcl_len hvs];omega))) ?_;refine tm 12 rfl kqz rfl (o_faP (a:=a9) (m:=0) (o:=1) underlying253 rfl rfl sz57 rfl (nn_rs (xs:=kcl L vs) sq3z (λ _=>by rw [kcl_len hvs];omega))) ?_;refine tm 13 rfl kqz rfl (o_ldP (a:=a9) (xs:=kcl L vs) p57 rfl sq3z (kcl_a1 hvs hkk)) ?_;refine th_env (d:=40) (v:= .slice xb ((L.getD (L.length-1-i) (0,[])).2).length xc) (hv27) ?_;refine th_one (i:=14) kqz ?_;refine oh_c rfl rfl rfl (o_call bd124 rfl (rStore_c (s:=s1) (p:=((((L.getD (L.length-1-i) (0,[])).1):Nat):Int)) (xs:=((L.getD (L.length-1-i) (0,[])).2)) (hr:=by repeat (first|exact hprs _|apply Rs.left)) (hmc:=hxc) (hb:=hxb) (hroom:=λ _ l hl=>by have:=hp3 l hl;omega))) ?_;rintro _ _ ⟨e41,s41,hs41,rfl,rfl⟩;refine ⟨by repeat (first|with_reducible exact dr_refl|apply dr_keep|apply dr_drop), ?_⟩;refine Ze0 ?_;refine Ze ?_;refine Zca ?_;refine tc_cond rfl (λ h=> ?_) (λ h=> ?_)
    . obtain rfl:e41=0:=by simpa using h
      have hsl:=sto_len ((((L.getD (L.length-1-i) (0,[])).1):Nat):Int) ((L.getD (L.length-1-i) (0,[])).2) s1;rw [hs41] at hsl
      simp only at hsl
      refine tc_regh (S:=R*Parts vs (L.map (·.2))*Sl 2 (.slice a9 L.length c9) L.length (kcl L vs)) mo drqz ?_
      show TH _ _ _ _ _ 15 (Array.replicate 15 false) _ _
      refine Zib ?_;refine th_env (d:=46) (v:= .int .i64 (((L.length-1-i):Nat):Int)) (by show Value.int .i64 _=_;rw [hkI]) ?_;refine tm 3 rfl kqz rfl (o_ixP (a:=a9) underlying181 sz253 rfl rfl oqz (nn_rs (xs:=kcl L vs) sq3z (λ _=>by rw [kcl_len hvs];omega))) ?_;refine tm 4 rfl kqz rfl (o_faP (a:=a9) (m:=0) (o:=0) underlying253 rfl rfl sz3 rfl (nn_rs (xs:=kcl L vs) sq3z (λ _=>by rw [kcl_len hvs];omega))) ?_;refine tm 5 rfl kqz rfl (o_ldP (a:=a9) (xs:=kcl L vs) p3 rfl sq3z (kcl_a0 hvs hkk)) ?_;refine Zg9 ?_;refine th_env (d:=51) (v:= .int .i64 (((L.length-1-i):Nat):Int)) (by show Value.int .i64 _=_;rw [hkI]) ?_;refine tm 8 rfl kqz rfl (o_ixP (a:=a9) underlying181 sz253 rfl rfl oqz (nn_rs (xs:=kcl L vs) sq3z (λ _=>by rw [kcl_len hvs];omega))) ?_;refine tm 9 rfl kqz rfl (o_faP (a:=a9) (m:=0) (o:=1) underlying253 rfl rfl sz57 rfl (nn_rs (xs:=kcl L vs) sq3z (λ _=>by rw [kcl_len hvs];omega))) ?_;refine tm 10 rfl kqz rfl (o_ldP (a:=a9) (xs:=kcl L vs) p57 rfl sq3z (kcl_a1 hvs hkk)) ?_;refine th_env (d:=54) (v:= .slice xb ((L.getD (L.length-1-i) (0,[])).2).length xc) (hv27) ?_;refine Zhs ?_;refine th_one (i:=13) kqz ?_;refine oh_c rfl rfl rfl (o_call bd222 rfl (rflush_c (s:=s41) (p:=((L.getD (L.length-1-i) (0,[])).1)) (m:=((L.getD (L.length-1-i) (0,[])).2).length))) ?_;rintro _ _ ⟨e57,s57,hs57,rfl,rfl⟩;refine ⟨by repeat (first|with_reducible exact dr_refl|apply dr_keep|apply dr_drop), ?_⟩;have hbk:=back_e2 (x:=L.getD (L.length-1-i) (0,[])) hs41 hs57;refine tm 14 rfl kqz rfl (o_assign wqz) ?_;refine Zba ?_;refine Zb ?_;refine Zl ?_;refine tc_cond rfl (λ h=> ?_) (λ h=> ?_)
      . have he57:e57≠0:=(by simpa using h);refine Zb ?_;refine tla ?_;refine Zbq ?_;exact ⟨.tuple #[.int .i64 0,.int .i64 e57],C (RDev r s57),res2 rfl rfl rfl,λ _ _ h=>by rw [hC];exact (Dr.sat (A':=R*RDev r s57) drqz) _ _ h,e57,0,s57,roll_b hL hne (by rw [←hp1,hdr];exact backF_e hbk he57) he57,rfl,rfl⟩
      obtain rfl:e57=0:=by simpa using h
      refine Zbd ?_;refine Zm ?_;refine tv (by first|exact o_subI rfl rfl oqz|exact o_sub rfl rfl) ?_;refine Za ?_;exact ⟨_,by omega,i+1,_,by omega,by rw [←hp1,hdr];exact (backF_o hbk).symm,by have:=back_len (L.getD (L.length-1-i) (0,[])) s1;rw [hbk] at this;exact this.trans hp2,back_room (x:=L.getD (L.length-1-i) (0,[])) hbk hw1 hxb (λ l hl=>by have:=hp3 l hl;omega),rfl,by show Value.int .i64 _=_;congr 1;omega,rfl,rfl,drqz⟩
    have he41:e41≠0:=(by simpa using h);have hbk:=back_e1 (x:=L.getD (L.length-1-i) (0,[])) hs41 he41;refine Zc6 ?_;refine Zcf ?_;intro h;refine Zb ?_;refine tla ?_;refine Zbq ?_;exact ⟨.tuple #[.int .i64 0,.int .i64 e41],C (RDev r s41),res2 rfl rfl rfl,λ _ _ h=>by rw [hC];exact (Dr.sat (A':=R*RDev r s41) drqz) _ _ h,e41,0,s41,roll_b hL hne (by rw [←hp1,hdr];exact backF_e hbk he41) he41,rfl,rfl⟩
  obtain rfl:i=L.length:=by simp at h;omega
  have hbk:backF L.reverse s=(0,s1):=(by rw [←hp1,List.drop_eq_nil_of_le (by rw [List.length_reverse];exact Nat.le_refl _)];rfl);refine tc_have (λ _ _ h=>wfR_ct ctqz h) λ hw1=> ?_
  have hr1:Room 1 s1:=λ l hl=>by have:=hp3 l hl;omega
  refine Zf ?_;refine Zs ?_;refine Zbm ?_;refine tl_c rfl (o_call bd223 rfl (rFence_c (s:=s1))) ?_;rintro _ _ ⟨e65,s65,hs65,rfl,rfl⟩;refine Zd1 ?_;refine Zca ?_;refine tc_cond rfl (λ h=> ?_) (λ h=> ?_)
  . obtain rfl:e65=0:=by simpa using h
    have hr2:=fe_room hs65 hw1 hr1;refine Zm ?_;refine tl_c rfl (o_call bd224 rfl (rpub_c (s:=s65) (n:=0))) ?_;rintro _ _ ⟨e69,s69,hs69,rfl,rfl⟩;refine Zd1 ?_;refine Zl ?_;refine tc_cond rfl (λ h=> ?_) (λ h=> ?_)
    . have he69:e69≠0:=(by simpa using h);refine Ze1 ?_;exact ⟨.tuple #[.int .i64 0,.int .i64 e69],C (RDev r s69),res2 rfl rfl rfl,λ _ _ h=>by rw [hC];exact (Dr.sat (A':=R*RDev r s69) drqz) _ _ h,e69,0,s69,roll_p hL hne hbk hs65 hs69 he69,rfl,rfl⟩
    obtain rfl:e69=0:=by simpa using h
    refine Zc6 ?_;refine tv (o_len underlying181 rfl) ?_;refine Zc4 ?_;exact ⟨.tuple #[vn L.length,.int .i64 0],C (RDev r s69),res2 rfl rfl rfl,λ _ _ h=>by rw [hC];exact (Dr.sat (A':=R*RDev r s69) drqz) _ _ h,0,((L.length:Nat):Int),s69,roll_o hL hne hbk hs65 hs69,rfl,rfl⟩
  have he65:e65≠0:=(by simpa using h);refine Zdf ?_;refine Zcf ?_;intro h;refine Ze1 ?_;exact ⟨.tuple #[.int .i64 0,.int .i64 e65],C (RDev r s65),res2 rfl rfl rfl,λ _ _ h=>by rw [hC];exact (Dr.sat (A':=R*RDev r s65) drqz) _ _ h,e65,0,s65,roll_f hL hne hbk hs65 he65,rfl,rfl⟩
end Go.Vl

namespace Go.Vl
open Go Go.Proofs Go.Proofs.Tryz
def sizedL (n:Nat)(xs:List Nat):List Nat:=xs.take n++List.replicate (n-xs.length) 0
theorem fil_set' {L:List Nat}{n i:Nat}(h:i<L.length)(hn:i<n):(L.take i++List.replicate (n-i) 0).set i L[i]=L.take (i+1)++List.replicate (n-(i+1)) 0:=by
  have e:n-i=(n-(i+1))+1:=(by omega);have hl:(L.take i).length=i:=(by rw [List.length_take];omega);rw [List.set_append_right _ _ oqz,hl,Nat.sub_self,e,List.replicate_succ,List.set_cons_zero,List.take_succ_eq_append_getElem h,List.append_assoc];rfl
attribute [local irreducible] Sl pt ro Dev imgS fromS
theorem Sized_c {A:SP}{a:Option Addr}{c m n:Nat}{xs:List Nat}(hr:Rs A a (bys xs):=by exact rbqz)(hm:xs.length=m:=by first|assumption|rfl)(hb:∀x∈xs,x<256:=by assumption)(hn:n<=17592186044416:=by omega)(hl:m<=140737488351232:=by omega):
    Fn Tryz.prog 50 #[.slice a m c,vn n] A (λ r B=>∃a c,r= .slice a n c/\ n<=c/\ B=A*Sl 1 (.slice a n c) n (bys (sizedL n xs))):=by
  refine fn_enterW func50 rfl ntmps50 (by simp) ?_;refine Zbz ?_;refine tl_x rfl (o_makeSlice (len:=n) (cap:=n) underlying57 sz5 by5 z5 rfl rfl rfl oqz oqz oqz) ?_;rintro _ _ ⟨b8,rfl,rfl⟩;refine tl_pre (λ _ _ h=>sl_new (k:=1) (n:=n) (cap:=n) (xs:=bys (List.replicate n 0)) h oqz (by simp) (by rw [Nat.mul_one,List.take_of_length_le (by simp)];unfold bys;rw [List.map_replicate];rfl)) ?_;refine Zhk ?_;refine tc_loop (λ kk ρ BB=>∃ (i:Nat),(i<=n)/\ (i<=m)/\ kk=n-i/\ ρ 6=(vn i)/\ ρ 0= .slice a m c/\ ρ 1=(vn n)/\ ρ 5= .slice (some ⟨b8,0,none⟩) n n/\ BB=A*Sl 1 (.slice (some ⟨b8,0,none⟩) n n) n (bys (xs.take i++List.replicate (n-i) 0))) (m:=n-(0)) ?_ ?_
  . exact ⟨0,by omega,by omega,rfl,rfl,rfl,rfl,rfl,rfl⟩
  intro k ρ B hI;obtain ⟨i,hp0,hp1,hkk1,hE6,hE0,hE1,hE5,rfl⟩:=hI;refine te 6 hE6 ?_;refine te 0 hE0 ?_;refine te 1 hE1 ?_;refine te 5 hE5 ?_;refine Zed ?_;refine Zdq ?_;refine tl_bool (d:=12) rfl (λ h=> ?_) (sbq ?_)
  . have hin:i<n:=(by simpa using h);refine Zgn ?_;refine tv (o_lss rfl rfl) ?_;refine Zdu ?_;refine tc_cond rfl (λ h=> ?_) (sbq ?_)
    . have hi:i<xs.length:=(by simp at h;omega);have hx8:=hb _ (List.getElem_mem hi);refine Zbe ?_;refine Zh2 ?_;refine tlm ?_;refine Zcw ?_;refine Zcq ?_;refine Zjx ?_;exact ⟨_,by omega,i+1,by omega,by omega,rfl,rfl,rfl,rfl,rfl,(by rw [←fil_set' hi oqz])⟩
    intro h;refine Zf ?_;refine tc_seq ?_
    have hfin:xs.take i++List.replicate (n-i) 0=sizedL n xs:=by
      unfold sizedL
      have hc:i=n∨i=xs.length:=by
        try simp only [Bool.false_eq_true,decide_eq_false_iff_not,decide_eq_true_eq] at*
        omega
      rcases hc with hc|hc
      . rw [hc,show n-xs.length=0 by omega,Nat.sub_self]
      rw [hc,List.take_length,List.take_of_length_le oqz]
    rw [hfin]
    refine Zm ?_;refine Zd ?_;exact ⟨_,_,res1 rfl rfl,λ _ _ h=>h,some ⟨b8,0,none⟩,n,rfl,Nat.le_refl _,rfl⟩
  intro h;refine Z8 ?_;refine Zft ?_;refine tc_cond_f rfl ?_;refine Zf ?_;refine tc_seq ?_
  have hfin:xs.take i++List.replicate (n-i) 0=sizedL n xs:=by
    unfold sizedL
    have hc:i=n∨i=xs.length:=by
      try simp only [Bool.false_eq_true,decide_eq_false_iff_not,decide_eq_true_eq] at*
      omega
    rcases hc with hc|hc
    . rw [hc,show n-xs.length=0 by omega,Nat.sub_self]
    rw [hc,List.take_length,List.take_of_length_le oqz]
  rw [hfin]
  refine Zm ?_;refine Zd ?_;exact ⟨_,_,res1 rfl rfl,λ _ _ h=>h,some ⟨b8,0,none⟩,n,rfl,Nat.le_refl _,rfl⟩
structure WdC where
  a:Option Addr
  c:Nat
  b:List Nat
  q:Int
  v:Int
  af:Int
  kq:Int
def WdC.cells (t:WdC):List Value:=[.slice t.a t.b.length t.c,.int .i64 t.q,.int .u64 t.v,.int .i64 t.af,.int .i64 t.kq]
def PWord (A:SP)(cs:List Value)(t:WdC):Prop:=cs=t.cells/\ Rs A t.a (bys t.b)/\ (∀x∈t.b,x<256)/\ t.b.length<=t.c/\ t.b.length<=140737488351232/\ 0<=t.v/\ t.v<18446744073709551616
end Go.Vl

namespace Go.Vl
open Go Go.Proofs Go.Proofs.Tryz
structure Gd (n k:Nat) (s:DevS):Prop where
  len:s.ls.length=n
  room:Room k s
  wf:WfD s
theorem Gd.le {n a b:Nat}{s:DevS}(h:Gd n a s)(hab:b<=a):Gd n b s:=⟨h.len,room_le h.room hab,h.wf⟩
theorem fe_len (s:DevS):(fe s).2.ls.length=s.ls.length:=by
  unfold fe
  split
  . rfl
  rw [doneS_len];simp [fenceS]
theorem flF_len:∀ (k q:Nat) (s:DevS),(flF k q s).2.ls.length=s.ls.length
  |0,q,s=>by rw [flF_zero];exact fe_len s
  |k+1,q,s=>by
    show (if (fl1 ((q*64:Nat):Int) s).1≠0 then fl1 ((q*64:Nat):Int) s else flF k (q+1) (fl1 ((q*64:Nat):Int) s).2).2.ls.length=_
    split
    . exact fl1_len _ _
    rw [flF_len k];exact fl1_len _ _
theorem gd_flF {n k:Nat}(j q:Nat){s:DevS}(h:Gd n k s):Gd n k (flF j q s).2:=⟨(flF_len _ _ _).trans h.len,(flF_room _ _ _ h.wf h.room).1,(flF_room _ _ _ h.wf h.room).2⟩
theorem gd_fe {n k:Nat}{s:DevS}(h:Gd n k s):Gd n k (fe s).2:=by rw [←flF_zero 0];exact gd_flF 0 0 h
theorem gd_range {n k:Nat}{p m:Int}{s:DevS}(h:Gd n k s):Gd n k (rangeP p m s).2:=by
  unfold rangeP
  split
  . exact h
  split
  . exact h
  split
  . exact h
  exact gd_flF _ _ h
theorem gd_pub {n k v:Nat}{p:Int}{s:DevS}(h:Gd n (k+1) s)(hv:v<18446744073709551616):Gd n k (pubP p v s).2:=by
  have h1:Gd n k (st8 p v s).2:=⟨(st8_len _ _ _).trans h.len,st8_room (e:=(st8 p v s).1) rfl h.wf hv h.room,st8_wf (e:=(st8 p v s).1) rfl h.wf hv (room_le h.room oqz)⟩
  unfold pubP
  split
  . exact h1
  exact gd_flF _ _ h1
theorem gd_sto {n k:Nat}{p:Int}{b:List Nat}{s:DevS}(h:Gd n (k+b.length) s)(hb:∀x∈b,x<256):Gd n k (sto p b s).2:=
  ⟨(sto_len _ _ _).trans h.len,sto_room (e:=(sto p b s).1) rfl h.wf hb h.room,sto_wf h.wf hb (room_le h.room oqz)⟩
theorem gd_putF {n k at_ sz:Nat}:∀{l:List (Int×Int)} {p:Nat} {s:DevS},l.all (mayX (n*64) at_ sz)=true->Gd n (k+needN l) s->Gd n k (putF p l s).2
  |[],p,s,_,h=>h.le oqz
  |x::l,p,s,ha,h=>by
    rw [List.all_cons,Bool.and_eq_true] at ha
    obtain ⟨q,m,rfl,y1,y2,y3,y4⟩:=may_nat ha.1;rw [needN_cons] at h
    simp only [Int.toNat_natCast] at h
    have hil:=imgS_len h.wf;have hln:=h.len;have hol:(((imgS s).drop q).take m).length=m:=(by rw [List.length_take,List.length_drop];omega);have hrl:(recS q (((imgS s).drop q).take m)).length=24+up8 m:=(by rw [recS_len,hol]);have h1:Gd n (k+needN l) (sto (p:Nat) (recS q (((imgS s).drop q).take m)) s).2:=gd_sto (h.le (by rw [hrl];omega)) (recS_b img_sub)
    show Gd n k (if (sto (p:Nat) (recS q (((imgS s).drop q).take m)) s).1≠0 then sto (p:Nat) (recS q (((imgS s).drop q).take m)) s else putF (p+(24+up8 m)) l (sto (p:Nat) (recS q (((imgS s).drop q).take m)) s).2).2
    split
    . exact h1.le oqz
    exact gd_putF ha.2 h1
theorem gd_write {n k at_ sz:Nat}{l:List (Int×Int)}{s:DevS}(h:Gd n (sz+1+k) s)(hl:l.length<18446744073709551616):Gd n k (writeS at_ sz l s).2:=by
  unfold writeS
  split
  . exact h.le oqz
  split
  . exact h.le oqz
  split
  . exact h.le oqz
  rename_i hall
  split
  . exact h.le oqz
  rename_i hful
  split
  . exact h.le oqz
  have ha:l.all (mayX (s.ls.length*64) at_ sz)=true:=(by simpa using hall)
  have hx1:∀x∈l,1<=x.2:=λ x hx=>by
    obtain ⟨p,m,rfl,_,hn,_⟩:=may_nat (List.all_eq_true.1 ha x hx);show (1:Int)<=(m:Int);omega
  obtain ⟨nd,en,hnd⟩:∃nd en,needS (lensX l)=(nd,en):=⟨_,_,rfl⟩;rw [hnd] at hful
  simp only [] at hful
  have hN:=needF_ok hx1 hnd oqz;have h1:Gd n (k+1) (putF (at_+64) l s).2:=gd_putF (by rw [←h.len];exact ha) (h.le oqz)
  split
  . exact h1.le oqz
  have h2:=gd_range (p:=((at_+64:Nat):Int)) (m:=(needS (lensX l)).1) h1
  split
  . exact h2.le oqz
  exact gd_pub h2 hl
theorem gd_clear {n k at_:Nat}{s:DevS}(h:Gd n (k+1) s):Gd n k (clearS at_ s).2:=by
  unfold clearS
  split
  . exact h.le oqz
  exact gd_pub h (by decide)
theorem back_wf {x:Nat×List Nat}{s:DevS}(hw:WfD s)(hb:∀b∈x.2,b<256)(hr:Room x.2.length s):WfD (backS x s).2:=by
  have h1:=sto_wf (p:=(x.1:Nat)) hw hb hr
  unfold backS
  split
  . exact h1
  unfold flushX;exact flL_wf _ h1
theorem gd_backF {n k:Nat}:∀{L:List (Nat×List Nat)} {s:DevS},(∀x∈L,∀b∈x.2,b<256)->Gd n (k+sumL L) s->Gd n k (backF L s).2
  |[],s,_,h=>h.le oqz
  |x::l,s,hb,h=>by
    rw [sumL_cons] at h
    have hbx:=hb x (by simp);have h1:Gd n (k+sumL l) (backS x s).2:=⟨(back_len _ _).trans h.len,back_room (e:=(backS x s).1) rfl h.wf hbx (room_le h.room oqz),back_wf h.wf hbx (room_le h.room oqz)⟩
    show Gd n k (if (backS x s).1≠0 then backS x s else backF l (backS x s).2).2
    split
    . exact h1.le oqz
    exact gd_backF (λ y hy=>hb y (List.mem_cons_of_mem _ hy)) h1
theorem gd_roll {n k at_ sz:Nat}{s:DevS}(h:Gd n (sz+1+k) s)(hlw:LogW (s.ls.length*64) at_ sz):Gd n k (rollS at_ sz s).2:=by
  obtain ⟨L,e,hL⟩:∃L e,recordsS at_ sz s=(L,e):=⟨_,_,rfl⟩
  by_cases h0:e≠0∨L=[]
  . rw [roll_no hL h0];exact h.le oqz
  obtain rfl:e=0:=by omega
  have hne:L≠[]:=λ e9=>h0 (.inr e9)
  obtain ⟨hrk,hrs⟩:=records_ok h.wf hlw hL;have h1:Gd n (k+1) (backF L.reverse s).2:=gd_backF (λ x hx=>(hrk x (List.mem_reverse.1 hx)).2) (h.le (by rw [sumL_rev];omega))
  by_cases c1:(backF L.reverse s).1=0
  . by_cases c2:(fe (backF L.reverse s).2).1=0
    . have h2:=gd_fe h1;have h3:Gd n k (pubP (at_:Nat) 0 (fe (backF L.reverse s).2).2).2:=gd_pub h2 (by decide)
      by_cases c3:(pubP (at_:Nat) 0 (fe (backF L.reverse s).2).2).1=0
      . rw [roll_o hL hne (Prod.ext c1 rfl) (Prod.ext c2 rfl) (Prod.ext c3 rfl)];exact h3
      rw [roll_p hL hne (Prod.ext c1 rfl) (Prod.ext c2 rfl) (e:=(pubP (at_:Nat) 0 (fe (backF L.reverse s).2).2).1) rfl c3];exact h3
    rw [roll_f hL hne (Prod.ext c1 rfl) (e:=(fe (backF L.reverse s).2).1) rfl c2];exact (gd_fe h1).le oqz
  rw [roll_b hL hne (e:=(backF L.reverse s).1) rfl c1];exact h1.le oqz
theorem spl_zero {l:List Nat}{p k:Nat}(h:p+k<l.length):(spl l p (List.replicate k 0)).set (p+k) 0=spl l p (List.replicate (k+1) 0):=by
  apply List.ext_getElem?
  intro j;have h1:(spl l p (List.replicate k 0)).length=l.length:=spl_length (by rw [List.length_replicate];omega);rw [List.getElem?_set,h1,spl_at (by rw [List.length_replicate];omega),spl_at (by rw [List.length_replicate];omega)]
  simp only [List.length_replicate,List.getElem?_replicate]
  by_cases hj:p+k=j
  . subst hj;rw [if_pos rfl,if_pos oqz,if_pos oqz,if_pos oqz]
  rw [if_neg hj]
  by_cases h2:p<=j/\ j<p+k
  . rw [if_pos h2,if_pos oqz,if_pos oqz,if_pos oqz]
  rw [if_neg h2,if_neg oqz]
abbrev TF:=Nat->Option (Nat×Bool)
def tf0:TF:=λ _=>none
def layF (p:Nat)(xs:List Nat)(fr:Bool)(f:TF):TF:=λ a=>if p<=a/\ a<p+xs.length then some (xs.getD (a-p) 0,((f a).map (·.2)).getD fr) else f a
def byF (f:TF)(a:Nat):Nat:=((f a).map (·.1)).getD 0
def isK (f:TF)(k:Bool)(a:Nat):Bool:=decide ((f a).map (·.2)=some k)
def adrF (n:Nat)(k:Bool)(f:TF):List Nat:=(List.range n).filter (isK f k)
def runA (f:TF)(out:List (Nat×List Nat))(a:Nat):List (Nat×List Nat):=
  match out.getLast? with
  |some r=>if r.1+r.2.length=a then out.dropLast++[(r.1,r.2++[byF f a])] else out++[(a,[byF f a])]
  |none=>[(a,[byF f a])]
def runsL (f:TF)(l:List Nat):List (Nat×List Nat):=l.foldl (runA f) []
def runsF (n:Nat)(k:Bool)(f:TF):List (Nat×List Nat):=runsL f (adrF n k f)
def extX (l:List (Nat×List Nat)):List (Int×Int):=l.map λ r=>((r.1:Int),(r.2.length:Int))
def ovF (f:TF)(p:Nat)(xs:List Nat):List Nat:=xs.mapIdx λ i x=>((f (p+i)).map (·.1)).getD x
theorem ovF_len (f:TF)(p:Nat)(xs:List Nat):(ovF f p xs).length=xs.length:=by simp [ovF]
def stoL:List (Nat×List Nat)->DevS->Int×DevS
  |[],s=>(0,s)
  |r::l,s=>if (sto (r.1:Nat) r.2 s).1≠0 then sto (r.1:Nat) r.2 s else stoL l (sto (r.1:Nat) r.2 s).2
def linR:List (Nat×List Nat)->Nat->List Nat
  |[],_=>[]
  |r::l,d=>(List.range ((r.1+r.2.length-1)/64+1-max (r.1/64) d)).map (λ j=>max (r.1/64) d+j)++linR l (max d ((r.1+r.2.length-1)/64+1))
def flLs:List Nat->DevS->Int×DevS
  |[],s=>(0,s)
  |q::l,s=>if (fl1 ((q*64:Nat):Int) s).1≠0 then fl1 ((q*64:Nat):Int) s else flLs l (fl1 ((q*64:Nat):Int) s).2
def writeT (l:List (Nat×List Nat))(s:DevS):Int×DevS:=if (stoL l s).1≠0 then stoL l s else flLs (linR l 0) (stoL l s).2
def comS (at_ sz n:Nat)(f:TF)(s:DevS):(Int×Bool)×DevS:=
  if (writeT (runsF n true f) s).1≠0 then (((writeT (runsF n true f) s).1,true),(writeT (runsF n true f) s).2)
  else if runsF n false f=[] then
    if runsF n true f=[] then ((0,true),(writeT (runsF n true f) s).2) else (((fe (writeT (runsF n true f) s).2).1,true),(fe (writeT (runsF n true f) s).2).2)
  else if (writeS at_ sz (extX (runsF n false f)) (writeT (runsF n true f) s).2).1≠0 then
    (((writeS at_ sz (extX (runsF n false f)) (writeT (runsF n true f) s).2).1,decide ((writeS at_ sz (extX (runsF n false f)) (writeT (runsF n true f) s).2).1=5)),(writeS at_ sz (extX (runsF n false f)) (writeT (runsF n true f) s).2).2)
  else if (writeT (runsF n false f) (writeS at_ sz (extX (runsF n false f)) (writeT (runsF n true f) s).2).2).1≠0 then
    (((writeT (runsF n false f) (writeS at_ sz (extX (runsF n false f)) (writeT (runsF n true f) s).2).2).1,true),(writeT (runsF n false f) (writeS at_ sz (extX (runsF n false f)) (writeT (runsF n true f) s).2).2).2)
  else if (fe (writeT (runsF n false f) (writeS at_ sz (extX (runsF n false f)) (writeT (runsF n true f) s).2).2).2).1≠0 then
    (((fe (writeT (runsF n false f) (writeS at_ sz (extX (runsF n false f)) (writeT (runsF n true f) s).2).2).2).1,true),(fe (writeT (runsF n false f) (writeS at_ sz (extX (runsF n false f)) (writeT (runsF n true f) s).2).2).2).2)
  else (((clearS at_ (fe (writeT (runsF n false f) (writeS at_ sz (extX (runsF n false f)) (writeT (runsF n true f) s).2).2).2).2).1,true),(clearS at_ (fe (writeT (runsF n false f) (writeS at_ sz (extX (runsF n false f)) (writeT (runsF n true f) s).2).2).2).2).2)
def encC (c:Nat×Bool):Value:= .agg #[.int .u8 (c.1:Nat),.bool c.2]
structure MF (M:MS) (n:Nat) (f:TF):Prop where
  wf:WfM M
  get:∀a:Nat,M.get (a:Int)=(f a).map encC
  keys:∀e∈M.D,∃a:Nat,a<n/\ e.k=(a:Int)
  out:∀a,n<=a->f a=none
  by_:∀a c,f a=some c->c.1<256
theorem mf_nil (c n:Nat):MF ⟨[],c⟩ n tf0:=⟨⟨(by simp),(by simp),λ e h=>(by cases h)⟩,λ a=>rfl,λ e h=>(by cases h),λ _ _=>rfl,λ a c h=>(by cases h)⟩
theorem layF_nil (p:Nat)(fr:Bool)(f:TF):layF p [] fr f=f:=by
  funext a;unfold layF;rw [if_neg (by simp only [List.length_nil];omega)]
theorem layF_snoc {p:Nat}{xs:List Nat}{x:Nat}{fr:Bool}{f:TF}:layF p (xs++[x]) fr f=λ a=>if a=p+xs.length then some (x,((layF p xs fr f a).map (·.2)).getD fr) else layF p xs fr f a:=by
  funext a
  unfold layF
  simp only [List.length_append,List.length_singleton]
  by_cases h:a=p+xs.length
  . subst h;rw [if_pos oqz,if_pos rfl,if_neg oqz,show p+xs.length-p=xs.length by omega]
    simp [List.getD]
  rw [if_neg h]
  by_cases h2:p<=a/\ a<p+xs.length
  . rw [if_pos oqz,if_pos h2]
    congr 2
    simp only [List.getD_eq_getElem?_getD]
    rw [List.getElem?_append_left oqz]
  rw [if_neg oqz,if_neg h2]
theorem mf_put {M:MS}{n a:Nat}{f:TF}{x:Nat}{b:Bool}(h:MF M n f)(ha:a<n)(hx:x<256):MF (M.put (a:Int) (encC (x,b))) n (λ c=>if c=a then some (x,b) else f c):=by
  refine ⟨wfM_put h.wf,λ c=> ?_,λ e he=> ?_,λ c hc=> ?_,λ c v hv=> ?_⟩
  . rw [MS.get_put]
    by_cases hc:c=a
    . subst hc;rw [if_pos rfl];simp
    rw [if_neg oqz,if_neg hc];exact h.get c
  . unfold MS.put at he
    split at he
    . rename_i i u hf
      have hk:∃e'∈M.D,e'.k=e.k:=by
        obtain ⟨j,hj,rfl⟩:=List.mem_iff_getElem.1 he
        simp only [List.length_modify] at hj
        refine ⟨M.D[j],List.getElem_mem _, ?_⟩
        simp only [List.getElem_modify]
        split<;>rfl
      obtain ⟨e',h1,h2⟩:=hk;rw [←h2];exact h.keys e' h1
    rcases List.mem_append.1 he with he|he
    . exact h.keys e he
    rw [List.mem_singleton.1 he];exact ⟨a,ha,rfl⟩
  . simp only [if_neg (show c≠a by omega)];exact h.out c hc
  by_cases hc:c=a
  . simp only [if_pos hc,Option.some.injEq] at hv;rw [←hv];exact hx
  simp only [if_neg hc] at hv;exact h.by_ c v hv
theorem mfind_mem:∀{D:List ME} {e:ME},(D.map ME.k).Nodup->e∈D->∃i,mfind D e.k 0=some (i,e.v)
  |x::D,e,hn,he=>by
    simp only [List.map_cons,List.nodup_cons] at hn
    rw [mfind_cons]
    rcases List.mem_cons.1 he with rfl|he
    . exact ⟨0,by rw [if_pos rfl]⟩
    have hne:e.k≠x.k:=λ h=>hn.1 (h▸List.mem_map_of_mem he)
    obtain ⟨i,hi⟩:=mfind_mem hn.2 he;exact ⟨i+1,by rw [if_neg hne,mfind_i,hi];rfl⟩
theorem get_mem {M:MS}{e:ME}(hw:WfM M)(he:e∈M.D):M.get e.k=some e.v:=by
  obtain ⟨i,hi⟩:=mfind_mem hw.keys he
  unfold MS.get;rw [hi];rfl
theorem mfind_has:∀{D:List ME} {a:Int} {i:Nat} {v:Value},mfind D a 0=some (i,v)->∃e∈D,e.k=a/\ e.v=v:=λ {D a i v} h=>by
  obtain ⟨hi,h1,h2⟩:=mfind_some h;exact ⟨D[i],List.getElem_mem hi,h1,h2⟩
theorem mf_val {M:MS}{n:Nat}{f:TF}{e:ME}(h:MF M n f)(he:e∈M.D):∃a c,a<n/\ e.k=((a:Nat):Int)/\ f a=some c/\ e.v=encC c:=by
  obtain ⟨a,ha,hk⟩:=h.keys e he;have h1:=get_mem h.wf he;rw [hk,h.get a] at h1
  cases hf:f a with
  |none=>rw [hf] at h1;cases h1
  |some c=>rw [hf] at h1;simp only [Option.map_some,Option.some.injEq] at h1;exact ⟨a,c,ha,hk,hf,h1.symm⟩
theorem mf_has {M:MS}{n a:Nat}{f:TF}{c:Nat×Bool}(h:MF M n f)(hf:f a=some c):∃e∈M.D,e.k=((a:Nat):Int)/\ e.v=encC c:=by
  have h1:=h.get a;rw [hf] at h1
  unfold MS.get at h1
  cases hm:mfind M.D (a:Int) 0 with
  |none=>rw [hm] at h1;cases h1
  |some p=>
    rw [hm] at h1
    simp only [Option.map_some,Option.some.injEq] at h1
    obtain ⟨e,he,h2,h3⟩:=mfind_has (i:=p.1) (v:=p.2) hm;exact ⟨e,he,h2,h3.trans h1⟩
def kys (f:TF)(k:Bool)(l:List ME):List Int:=(l.filter λ e=>isK f k e.k.toNat).map ME.k
theorem kys_nil (f:TF)(k:Bool):kys f k []=[]:=rfl
theorem kys_snoc (f:TF)(k:Bool)(l:List ME)(e:ME):kys f k (l++[e])=kys f k l++(if isK f k e.k.toNat then [e.k] else []):=by
  unfold kys
  rw [List.filter_append,List.map_append]
  congr 1
  simp only [List.filter_cons,List.filter_nil]
  split<;>rfl
theorem kys_len (f:TF)(k:Bool)(l:List ME):(kys f k l).length<=l.length:=by unfold kys;rw [List.length_map];exact List.length_filter_le _ _
theorem adr_mem {n:Nat}{k:Bool}{f:TF}{a:Nat}:a∈adrF n k f↔a<n/\ isK f k a=true:=by unfold adrF;rw [List.mem_filter,List.mem_range]
theorem adr_sorted (n:Nat)(k:Bool)(f:TF):(adrF n k f).Pairwise (·<·):=(List.pairwise_lt_range).filter _
theorem kys_sort {M:MS}{n:Nat}{f:TF}{k:Bool}{vis:List ME}(h:MF M n f)(hv:vis.Perm M.D):(kys f k vis).mergeSort (λ x y=>decide (x<=y))=(adrF n k f).map λ a:Nat=>(a:Int):=by
  have hp1:((kys f k vis).mergeSort (λ x y=>decide (x<=y))).Perm ((adrF n k f).map λ a:Nat=>(a:Int)):=by
    refine (List.mergeSort_perm _ _).trans ?_;refine (List.perm_ext_iff_of_nodup ?_ ?_).2 λ x=> ?_
    . unfold kys
      exact ((hv.map ME.k).nodup_iff.2 h.wf.keys).sublist (List.filter_sublist.map ME.k)
    . refine List.Pairwise.map _ (λ a b hab e=> ?_) (adr_sorted n k f)
      omega
    unfold kys
    simp only [List.mem_map,List.mem_filter]
    constructor
    . rintro ⟨e,⟨he,hk⟩,rfl⟩;obtain ⟨a,c,ha,hka,hf,_⟩:=mf_val h (hv.mem_iff.1 he);rw [hka,Int.toNat_natCast] at hk
      exact ⟨a,adr_mem.2 ⟨ha,hk⟩,hka.symm⟩
    rintro ⟨a,ha,rfl⟩;obtain ⟨h1,h2⟩:=adr_mem.1 ha;have h3:=of_decide_eq_true h2
    cases hf:f a with
    |none=>rw [hf] at h3;cases h3
    |some c=>
      obtain ⟨e,he,hk,_⟩:=mf_has h hf;exact ⟨e,⟨hv.mem_iff.2 he,by rw [hk,Int.toNat_natCast];exact h2⟩,hk⟩
  have hs1:((kys f k vis).mergeSort (λ x y=>decide (x<=y))).Pairwise (·<=·):=by
    have:=List.pairwise_mergeSort (le:=λ x y:Int=>decide (x<=y)) (λ a b c h1 h2=>decide_eq_true (Int.le_trans (of_decide_eq_true h1) (of_decide_eq_true h2))) (λ a b=>by simp only [Bool.or_eq_true,decide_eq_true_eq];omega) (kys f k vis);exact this.imp λ h=>of_decide_eq_true h
  have hs2:((adrF n k f).map λ a:Nat=>(a:Int)).Pairwise (·<=·):=List.Pairwise.map _ (λ a b hab=>by omega) (adr_sorted n k f);exact hp1.eq_of_pairwise (λ a b _ _ h1 h2=>Int.le_antisymm h1 h2) hs1 hs2
theorem mf_len {M:MS}{n:Nat}{f:TF}(h:MF M n f):M.D.length<=n:=by
  have h1:(M.D.map λ e=>e.k.toNat).Nodup:=by
    refine List.pairwise_map.2 ?_;refine List.Pairwise.imp_of_mem (λ {x y} hx hy hne=> ?_) (List.pairwise_map.1 h.wf.keys);obtain ⟨a,_,h2⟩:=h.keys x hx;obtain ⟨b,_,h3⟩:=h.keys y hy
    omega
  have h3:=List.Nodup.length_le_of_subset h1 (l₂:=List.range n) λ x hx=>by
    obtain ⟨e,he,rfl⟩:=List.mem_map.1 hx;obtain ⟨a,ha,hk⟩:=h.keys e he;rw [List.mem_range];omega
  rw [List.length_map,List.length_range] at h3;exact h3
theorem runsL_snoc (f:TF)(l:List Nat)(a:Nat):runsL f (l++[a])=runA f (runsL f l) a:=by unfold runsL;rw [List.foldl_append];rfl
def scQ (l:Nat)(K:Env->SP->Prop)(Q:Post):Post
  | .goto l',ρ,A=>l'=l/\ K ρ A
  |e,ρ,A=>Q e ρ A
section
variable {P:Program} {n:Nat} {ρ:Env} {A:SP} {Q:Post} {K:Env->SP->Prop} {l:Nat}
theorem tc_goto (h:Q (.goto l) ρ A):TC P n (.goto l) Q ρ A:=λ g a w ha hs=>wp_goto ⟨rfl,ρ,A,ha,hs,h⟩
theorem q_sc_r (h:Q .ret ρ A):scQ l K Q .ret ρ A:=h
theorem q_sc_g (h:K ρ A):scQ l K Q (.goto l) ρ A:=⟨rfl,h⟩
theorem q_then_g {K':Env->SP->Prop}(h:Q (.goto l) ρ A):thenQ K' Q (.goto l) ρ A:=h
theorem tc_scope {c rest:Code}(K:Env->SP->Prop)(hf:findLabel c l=some (.seq .skip rest))(hk:∀ρ A,K ρ A->TC P n rest (scQ l (λ _ _=>False) Q) ρ A)
    (h:(∀ρ A,K ρ A->TC P n rest (scQ l (λ _ _=>False) Q) ρ A)->TC P n c (scQ l K Q) ρ A):TC P n (.scope c) Q ρ A:=λ g a w ha hs=>by
  refine wp_scope_jumps l (λ a w=>∃ρ A,Agr n ρ a/\ sat g w A/\ K ρ A) (λ _ _=>0) hf ?_ ?_
  . refine wp_mono (h hk g a w ha hs) λ e a' w' ⟨hok,ρ',A',ha',hs',hq⟩=> ?_
    cases e with
    |goto l'=>exact ⟨hq.1,ρ',A',ha',hs',hq.2⟩
    |normal=>exact ⟨hok,ρ',A',ha',hs',hq⟩
    |exit id=>exact ⟨hok,ρ',A',ha',hs',hq⟩
    |ret=>exact ⟨hok,ρ',A',ha',hs',hq⟩
    |panic ch=>exact ⟨hok,ρ',A',ha',hs',hq⟩
    |outgrown=>exact ⟨hok,ρ',A',ha',hs',hq⟩
  rintro a w ⟨ρ,A,ha,hs,hK⟩;refine wp_mono ((tc_seq (tc_skip (hk ρ A hK)):TC P n (.seq .skip rest) (scQ l (λ _ _=>False) Q) ρ A) g a w ha hs) λ e a' w' ⟨hok,ρ',A',ha',hs',hq⟩=> ?_
  cases e with
  |goto l'=>exact hq.2.elim
  |normal=>exact ⟨hok,ρ',A',ha',hs',hq⟩
  |exit id=>exact ⟨hok,ρ',A',ha',hs',hq⟩
  |ret=>exact ⟨hok,ρ',A',ha',hs',hq⟩
  |panic ch=>exact ⟨hok,ρ',A',ha',hs',hq⟩
  |outgrown=>exact ⟨hok,ρ',A',ha',hs',hq⟩
theorem tc_fall {rest:Code}(hk:∀ρ A,K ρ A->TC P n rest (scQ l (λ _ _=>False) Q) ρ A)(h:K ρ A):TC P n (.seq (.label l) rest) (scQ l K Q) ρ A:=by
  refine tc_seq (tc_label ?_)
  show TC P n rest (scQ l K Q) ρ A
  exact tc_imp (hk ρ A h) λ e ρ A hq=>by
    cases e with
    |goto l'=>exact hq.2.elim
    |_=>exact hq
end
def pocs (lg d:Nat)(ov:Option Nat):List Value:=[pz d,pz lg,.pointer (ov.map λ t=>(⟨t,0,none⟩:Addr))]
def txcs (p mb:Nat)(over:Bool):List Value:=[pz p,.map (some mb),.bool over]
def stpS (at_ sz:Nat)(s:DevS):Int:=if (recordsS at_ sz s).2=0/\ (recordsS at_ sz s).1≠[] then 3 else (recordsS at_ sz s).2
def idlS (s:DevS)(ov:Option Nat):Int:=if s.off=true then 5 else if ov.isSome then 3 else 0
theorem rec_err {at_ sz:Nat}{s:DevS}:(recordsS at_ sz s).2=0∨(recordsS at_ sz s).2=5∨(recordsS at_ sz s).2=110:=by
  unfold recordsS
  split
  . exact .inr (.inl rfl)
  rcases Classical.em ((recsF (s.ls.length*64) at_ sz (roomS at_ sz s) (wordP (at_:Nat) s).1 0).2=0) with h|h
  . exact .inl h
  rw [recs_err h];exact .inr (.inr rfl)
attribute [local irreducible] crk crL crc Sl pt ro Dev imgS recS readS recsF rdW rdO rkT Parts rvl recordsS
theorem Zlz {p r:Prop}(k:r)(h:Kq r->p:=by intro k;refine fn_enterW func109 rfl ntmps109 (by simp) ?_;refine Zbz ?_;refine tv (o_nep underlying69 rfl rfl) ?_;exact k.o):p:=h ⟨k⟩
theorem made12_c {A:SP}{d:Nat}{p lg:Nat}{ov:Option Nat}(hp:Has A p (cl (pocs lg d ov) 110):=by exact hbqz):
    Fn Tryz.prog 109 #[pz p] A (λ r B=>r= .bool true/\ A=B):=by
  refine Zlz ?_;refine tlm ?_;refine tl_bool (d:=5) rfl (sbq ?_) dbq;intro h;refine Zw ?_;refine tv (o_fieldAddr (o:=0) underlying110 rfl rfl sz47 rfl) ?_;refine tv (o_load p47 rfl hp rfl) ?_;refine tv (o_nep underlying47 rfl rfl) ?_;refine Ze6 ?_;exact ⟨.bool true,_,res1 rfl rfl,Dr.sat drqz,rfl,rfl⟩
theorem Ziz {p r:Prop}(k:r)(h:Kq r->p:=by intro k;refine Zfx ?_;refine tv (o_fieldAddr (o:=0) underlying110 rfl rfl sz47 rfl) ?_;exact k.o):p:=h ⟨k⟩
theorem Size12_c {A R:SP}{C:SP->SP}{d:Nat}{s:DevS}(hc:Ct A (Dev d s) R C:=by exact cbqz){p lg:Nat}{ov:Option Nat}(hp:Has A p (cl (pocs lg d ov) 110):=by exact hbqz):
    Fn Tryz.prog 45 #[pz p] A (λ r B=>r= .int .i64 ((s.ls.length:Int)*64)/\ A=B):=by
  refine fn_enterW func45 rfl ntmps45 (by simp) ?_;refine Zcl ?_;refine tl_c rfl (o_call bd109 rfl (made12_c (hp:=hp))) ?_;refine Zbi ?_;refine Z3 ?_;intro h;refine Ziz ?_;refine tv (o_load p47 rfl hp rfl) ?_;refine tl_c rfl (o_call bd104 rfl (Size_c (hc:=hc))) ?_;refine Zct ?_;exact ⟨_,_,res1 rfl rfl,Dr.sat drqz,rfl,rfl⟩
theorem Zka {p r:Prop}(k:r)(h:Kq r->p:=by intro k;refine fn_enterW func40 rfl ntmps40 (by simp) ?_;refine Zc3 ?_;exact k.o):p:=h ⟨k⟩
theorem Load12_c {A R:SP}{C:SP->SP}{d:Nat}{s:DevS}(hc:Ct A (Dev d s) R C:=by exact cbqz){p lg:Nat}{ov:Option Nat}(hp:Has A p (cl (pocs lg d ov) 110):=by exact hbqz){q m:Nat}(hoff:s.off=false:=by assumption)(hpm:q+m<=s.ls.length*64:=by omega):
    Fn Tryz.prog 40 #[pz p,vn q,vn m] A (λ r B=>∃a c,r= .tuple #[.slice a m c,.int .i64 0]/\ m<=c/\ B=A*Sl 1 (.slice a m c) m (bys (((imgS s).drop q).take m))):=by
  refine Zka ?_;refine tl_c rfl (o_call bd109 rfl (made12_c (hp:=hp))) ?_;refine Zbi ?_;refine Z3 ?_;intro h;refine Ziz ?_;refine tv (o_load p47 rfl hp rfl) ?_;refine Z2 ?_;refine tl_c rfl (o_call bd110 rfl (Load_c (hc:=hc) (p:=q) (m:=m))) ?_;rintro _ _ ⟨a17,c17,rfl,hc17,rfl⟩;refine Zk0 ?_;exact ⟨_,_,res2 rfl rfl rfl,Dr.sat drqz,a17,c17,rfl,hc17,rfl⟩
theorem State12_c {A R:SP}{C:SP->SP}{d:Nat}{s:DevS}(hc:Ct A (Dev d s) R C:=by exact cbqz){p lg:Nat}{ov:Option Nat}(hp:Has A p (cl (pocs lg d ov) 110):=by exact hbqz){at_ sz:Nat}(hl:Has R lg (cl (lcs11 d at_ sz) 99):=by exact hbqz)(hlw:LogW (s.ls.length*64) at_ sz:=by assumption):
    Fn Tryz.prog 44 #[pz p] A (λ r B=>r= .int .i64 (stpS at_ sz s)/\ A=B):=by
  refine fn_enterW func44 rfl ntmps44 (by simp) ?_;obtain ⟨L,e0,hL⟩:∃L e0,recordsS at_ sz s=(L,e0):=⟨_,_,rfl⟩;have hst:stpS at_ sz s=if e0=0/\ L≠[] then 3 else e0:=(by unfold stpS;rw [hL]);refine Zcl ?_;refine tl_c rfl (o_call bd109 rfl (made12_c (hp:=hp))) ?_;refine Zbi ?_;refine Z3 ?_;intro h;refine Zfx ?_;refine tv (o_fieldAddr (o:=1) underlying110 rfl rfl sz89 rfl) ?_;refine tv (o_load p89 rfl hp rfl) ?_;refine tl_c rfl (o_call bd108 rfl (Records_w (hc:=hc) (hl:=hl) (hlw:=hlw) (hX:=hL))) ?_;rintro _ _ ⟨a13,c13,vs,rfl,hc13,hvs,rfl⟩;have hA9:C (Dev d s)=A:=(by rw [hc.2];exact hc.1.symm);rw [hA9]
  refine Zb1 ?_;refine Z0 ?_;refine Zdw ?_;refine tc_cut (λ ρ BB=>∃ (bb:Bool),(bb=decide (e0=0/\ L≠[]))/\ ρ 22= .bool bb/\ ρ 4= .int .i64 e0/\ Dr BB (A)) ?_ ?_
  . skip
    refine Zm ?_;refine tv (o_eqi rfl rfl) ?_;refine tlm ?_;refine tl_bool (d:=18) rfl (λ h=> ?_) (λ h=> ?_)
    . have g18:(e0=0):=(by first|exact of_decide_eq_true h|(have h2:=h;simp at h2;omega)|simpa using h);refine tlm ?_;refine tv (o_len underlying181 rfl) ?_;refine tv (o_gtr rfl rfl) ?_;refine Zcx ?_;exact ⟨_,by first|(rw [decide_eq_decide];exact ⟨λ h9=>⟨g18,λ e=>by subst e;simp at h9⟩,λ h9=>by have:=List.length_pos_iff.2 h9.2;omega⟩)|exact (decide_eq_false λ h9=>g18 h9.1).symm,rfl,rfl,drqz⟩
    have g18:¬(e0=0):=(by first|exact of_decide_eq_false h|(have h2:=h;simp at h2;omega)|simpa using h);refine Ze3 ?_;refine tv (o_pick_f rfl wqz) ?_;refine tl_nil ?_;exact ⟨_,by first|(rw [decide_eq_decide];exact ⟨λ h9=>⟨g18,λ e=>by subst e;simp at h9⟩,λ h9=>by have:=List.length_pos_iff.2 h9.2;omega⟩)|exact (decide_eq_false λ h9=>g18 h9.1).symm,rfl,rfl,drqz⟩
  intro ρ B hI;obtain ⟨bb,hbb0,hE22,hE4,hBA⟩:=hI;refine q_then_n ?_;refine tc_pre hBA.sat ?_;clear hBA;refine te 22 hE22 ?_;refine te 4 hE4 ?_;refine tc_cond rfl (sbq ?_) (sbq ?_)
  . intro h;refine Zb6 ?_;rw [h] at hbb0
    have h9:=of_decide_eq_true hbb0.symm;rw [hst,if_pos h9]
    exact ⟨.int .i64 3,_,res1 rfl rfl,Dr.sat drqz,rfl,rfl⟩
  intro h;refine Zc6 ?_;refine Zd ?_;rw [h] at hbb0
  have h9:=of_decide_eq_false hbb0.symm;rw [hst,if_neg h9]
  exact ⟨.int .i64 e0,_,res1 rfl rfl,Dr.sat drqz,rfl,rfl⟩
theorem idle12_c {A R:SP}{C:SP->SP}{d:Nat}{s:DevS}(hc:Ct A (Dev d s) R C:=by exact cbqz){p lg:Nat}{ov:Option Nat}(hp:Has A p (cl (pocs lg d ov) 110):=by exact hbqz):
    Fn Tryz.prog 111 #[pz p] A (λ r B=>r= .int .i64 (idlS s ov)/\ A=B):=by
  refine fn_enterW func111 rfl ntmps111 (by simp) ?_;refine Zg8 ?_;refine tl_c rfl (o_call bd109 rfl (made12_c (hp:=hp))) ?_;refine Zbi ?_;refine Ze7 ?_;intro h;refine Zs ?_;refine tv (o_fieldAddr (o:=0) underlying110 rfl rfl sz47 rfl) ?_;refine tv (o_load p47 rfl hp rfl) ?_;refine tl_c rfl (o_call bd58 rfl (Off_c (hc:=hc))) ?_;refine Z4 ?_;refine tc_cond rfl (sbq ?_) (λ h=> ?_)
  . intro h;refine Zhl ?_;have e:idlS s ov=5:=(by unfold idlS;rw [if_pos h]);rw [e]
    exact ⟨.int .i64 5,_,res1 rfl rfl,Dr.sat drqz,rfl,rfl⟩
  have ho:s.off=false:=(by simpa using h);refine Zs ?_;refine tv (o_fieldAddr (o:=2) underlying110 rfl rfl sz62 rfl) ?_;refine tv (o_load p62 rfl hp rfl) ?_;refine tv (o_nep underlying62 rfl rfl) ?_;refine Za ?_;refine tc_cond rfl (sbq ?_) (sbq ?_)
  . intro h;refine Zhl ?_;have e:idlS s ov=3:=(by unfold idlS;rw [if_neg (by rw [ho];decide),if_pos (by cases ov<;>simp at h ⊢)]);rw [e]
    exact ⟨.int .i64 3,_,res1 rfl rfl,Dr.sat drqz,rfl,rfl⟩
  intro h;refine Zbd ?_;refine Zd0 ?_;have e:idlS s ov=0:=(by unfold idlS;rw [if_neg (by rw [ho];decide),if_neg (by cases ov<;>simp at h ⊢)]);rw [e]
  exact ⟨.int .i64 0,_,res1 rfl rfl,Dr.sat drqz,rfl,rfl⟩
theorem Zht {p r:Prop}(k:r)(h:Kq r->p:=by intro k;refine fn_enterW func95 rfl ntmps95 (by simp) ?_;refine Zg8 ?_;exact k.o):p:=h ⟨k⟩
theorem Zcc {p r:Prop}(k:r)(h:Kq r->p:=by intro k;refine tv (o_eqp underlying62 rfl rfl) ?_;refine tlm ?_;exact k.o):p:=h ⟨k⟩
theorem Zf2 {p r:Prop}(k:r)(h:Kq r->p:=by intro k;refine Zcc ?_;refine tl_bool (d:=6) rfl dbq (sbq ?_);exact k.o):p:=h ⟨k⟩
theorem Zc8 {p r:Prop}(k:r)(h:Kq r->p:=by intro k;refine Zw ?_;refine tv (o_fieldAddr (o:=0) underlying113 rfl rfl sz69 rfl) ?_;exact k.o):p:=h ⟨k⟩
theorem Zd8 {p r:Prop}(k:r)(h:Kq r->p:=by intro k;refine tv (o_eqp underlying69 rfl rfl) ?_;refine tv (o_pick_f rfl wqz) ?_;exact k.o):p:=h ⟨k⟩
theorem Zen {p r:Prop}(k:r)(h:Kq r->p:=by intro k;refine Zs ?_;refine tv (o_fieldAddr (o:=2) underlying113 rfl rfl sz4 rfl) ?_;exact k.o):p:=h ⟨k⟩
theorem Zcp {p r:Prop}(k:r)(h:Kq r->p:=by intro k;refine tv (o_nilCheck rfl) ?_;refine tv (o_fieldAddr (o:=0) underlying110 rfl rfl sz47 rfl) ?_;exact k.o):p:=h ⟨k⟩
theorem begun12_c {A R:SP}{C:SP->SP}{d:Nat}{s:DevS}(hc:Ct A (Dev d s) R C:=by exact cbqz){p lg:Nat}{ov:Option Nat}(hp:Has A p (cl (pocs lg d ov) 110):=by exact hbqz){t mb:Nat}(ht:Has A t (cl (txcs p mb false) 113):=by exact hbqz)(ho:s.off=false:=by assumption):
    Fn Tryz.prog 95 #[pz t] A (λ r B=>r= .int .i64 0/\ A=B):=by
  refine Zht ?_;refine Zf2 ?_;intro h;refine Zc8 ?_;refine tv (o_load p69 rfl ht rfl) ?_;refine Zd8 ?_;refine Ze7 ?_;intro h;refine Zen ?_;refine tv (o_load p4 rfl ht rfl) ?_;refine Ze7 ?_;intro h;refine Zs ?_;refine tv (o_fieldAddr (o:=0) underlying113 rfl rfl sz69 rfl) ?_;refine tv (o_load p69 rfl ht rfl) ?_;refine Zcp ?_;refine tv (o_load p47 rfl hp rfl) ?_;refine tl_c rfl (o_call bd58 rfl (Off_c (hc:=hc))) ?_;refine Z4 ?_;refine tc_cond rfl (λ h=> ?_) (sbq ?_)
  . exfalso;rw [ho] at h;simp at h
  intro h;refine Zbd ?_;refine Zd0 ?_;exact ⟨.int .i64 0,_,res1 rfl rfl,Dr.sat drqz,rfl,rfl⟩
theorem begunO_c {A:SP}{p t mb:Nat}(ht:Has A t (cl (txcs p mb true) 113):=by exact hbqz):
    Fn Tryz.prog 95 #[pz t] A (λ r B=>r= .int .i64 3/\ A=B):=by
  refine Zht ?_;refine Zf2 ?_;intro h;refine Zc8 ?_;refine tv (o_load p69 rfl ht rfl) ?_;refine Zd8 ?_;refine Ze7 ?_;intro h;refine Zen ?_;refine tv (o_load p4 rfl ht rfl) ?_;refine Zif ?_;intro h;refine Zhl ?_;exact ⟨.int .i64 3,_,res1 rfl rfl,Dr.sat drqz,rfl,rfl⟩
theorem Zd9 {p r:Prop}(k:r)(h:Kq r->p:=by intro k;refine tv (o_fieldAddr (o:=1) underlying113 rfl rfl sz111 rfl) ?_;refine tv (o_load p111 rfl hsqz rfl) ?_;exact k.o):p:=h ⟨k⟩
theorem Zbn {p r:Prop}(k:r)(h:Kq r->p:=by intro k;refine tv (o_fieldAddr (o:=0) underlying113 rfl rfl sz69 rfl) ?_;refine tv (o_load p69 rfl hsqz rfl) ?_;exact k.o):p:=h ⟨k⟩
theorem end12_c {A R:SP}{p lg d t mb:Nat}{over:Bool}{M:MS}(hA:A=R*pt p (cl (pocs lg d (some t)) 110)*pt t (cl (txcs p mb over) 113)*pt mb (mpo .i64 M)):
    Fn Tryz.prog 101 #[pz t] A (λ r B=>r= .tuple #[]/\ B=R*pt p (cl (pocs lg d none) 110)*pt t (cl (txcs p mb true) 113)*pt mb (mpo .i64 M.clr)):=by
  refine fn_enterW func101 rfl ntmps101 (by simp) ?_;subst hA;refine Zen ?_;refine tl_u rfl (o_stU (l':=txcs p mb true) rfl upqz sz4 rfl rfl (by show 2<3;decide) rfl) ?_;refine Zld ?_;refine Zd9 ?_;refine tl_x rfl (o_clearM underlying111 rfl upqz) ?_;refine Zet ?_;refine Zfo ?_;refine Zbn ?_;refine tv (o_nilCheck rfl) ?_;refine tv (o_fieldAddr (o:=2) underlying110 rfl rfl sz62 rfl) ?_;refine tl_u rfl (o_stU (l':=pocs lg d none) rfl upqz sz62 rfl rfl (by show 2<3;decide) rfl) ?_;refine tl_nil ?_;exact ⟨.tuple #[],_,res0 rfl,λ _ _ h=>h,rfl,rfl⟩
end Go.Vl

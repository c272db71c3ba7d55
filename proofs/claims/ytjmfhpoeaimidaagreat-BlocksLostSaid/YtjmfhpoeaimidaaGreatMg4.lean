/- What the row rests on, part 4: a calculus of assertions, walks of functions over it, and plain laws. Conditions: none. -/
import Derived.Deep.QuietTactic
import Derived.BigQuiet
import Derived.WalkKit
import Derived.Test.YtjmfhpoeaimidaaGreatProg
import Derived.OrdersHeld
import Derived.Shelf.SortM.SortNone
import Derived.Shelf.SortM.Plain
import Derived.Ground.SlgmProg
import Derived.Shelf.SlIterI.Nil
import Derived.Ground.GgzProg
import Derived.Maps.RangeRun
import Derived.Laws.BytesArg
import Derived.RangeFuncRecord
import Derived.TacticsIn
import Derived.Deep.Slices
import Derived.OpenShut
import Derived.ChangeArms
import Derived.SizedLaws
import Derived.ChangeSame
import Derived.Test.YtjmfhpoeaimidaaGreatRows
import Derived.Sort.QuietThIn
import Derived.ScopeJumps
import Derived.LaidEqlPtr
import Derived.MapKept
import Derived.Laws.Externs
import Derived.Lib.Builder
import Derived.Lib.UnsafeStr
import Derived.Laws.Strings
import Derived.Test.YtjmfhpoeaimidaaGreatMg3
set_option linter.unusedVariables false
set_option linter.unusedSimpArgs false
set_option maxRecDepth 100000
set_option maxHeartbeats 4000000
namespace Go.Vl
open Go Go.Proofs Go.Proofs.Tryz
def TxA (t p lg d mb at_ sz:Nat)(M:MS)(over:Bool)(s:DevS):SP:=pt p (cl (pocs lg d (if over then none else some t)) 78)*pt lg (cl (lcs11 d at_ sz) 183)*Dev d s*pt t (cl (txcs p mb over) 155)*pt mb (mpo .i64 M)
def cel0 (c:Nat×Bool):List Value:=[.int .u8 ((c.1:Nat):Int),.bool c.2]
theorem mf_lay {M:MS}{n q i x:Nat}{xs:List Nat}{fr:Bool}{f:TF}(h:MF M n (layF q (xs.take i) fr f))(hi:i<xs.length)(hx:xs[i]=x)(hb:x<256)(hn:q+i<n):
    MF (M.put ((q+i:Nat):Int) (encC (x,(((layF q (xs.take i) fr f (q+i)).map (·.2)).getD fr)))) n (layF q (xs.take (i+1)) fr f):=by
  have e:layF q (xs.take (i+1)) fr f=λ c=>if c=q+i then some (x,((layF q (xs.take i) fr f (q+i)).map (·.2)).getD fr) else layF q (xs.take i) fr f c:=by
    rw [List.take_succ_eq_append_getElem hi,layF_snoc,hx]
    funext c
    rw [List.length_take,Nat.min_eq_left oqz]
    by_cases hc:c=q+i
    . subst hc;rw [if_pos rfl]
    rw [if_neg hc,if_neg hc]
  rw [e]
  exact mf_put h hn hb
theorem layF_zero (q:Nat)(fr:Bool)(f:TF)(xs:List Nat):layF q (xs.take 0) fr f=f:=layF_nil q fr f
attribute [local irreducible] crk crL crc Sl pt ro Dev imgS recS readS recsF rdW rdO rkT Parts rvl recordsS
theorem New12_c {A R:SP}{C:SP->SP}{d:Nat}{s:DevS}(hc:Ct A (Dev d s) R C:=by exact cbqz){lg:Nat}{at_ sz:Nat}(hl:Has R lg (cl (lcs11 d at_ sz) 183):=by exact hbqz)(hlw:LogW (s.ls.length*64) at_ sz:=by assumption):
    Fn Tryz.prog 80 #[pz d,pz lg] A (λ r B=>∃p,r= .tuple #[pz p,.int .i64 0]/\ B=A*pt p (cl (pocs lg d none) 78)):=by
  refine fn_enterW func80 rfl ntmps80 (by simp) ?_;obtain ⟨L,e0,hL⟩:∃L e0,recordsS at_ sz s=(L,e0):=⟨_,_,rfl⟩;have he0:e0≠1:=(by have h9:=rec_err (at_:=at_) (sz:=sz) (s:=s);rw [hL] at h9;simp only [] at h9;omega);refine tc_have (λ _ _ h=>ct_wf2 hc h) λ hwf=> ?_
  have htop:=hwf.top;have hpos:=hwf.pos;refine Zc0 ?_;refine tl_c rfl (o_call bd73 rfl (Size_c (hc:=hc))) ?_;rintro _ _ ⟨rfl,rfl⟩;refine tv (o_eqi rfl rfl) ?_;refine Zz ?_;intro h;refine Zcd ?_;refine tl_c rfl (o_call bd138 rfl (Records_w (hc:=hc) (hl:=hl) (hlw:=hlw) (hX:=hL))) ?_;rintro _ _ ⟨a13,c13,vs,rfl,hc13,hvs,rfl⟩;have hA9:C (Dev d s)=A:=(by rw [hc.2];exact hc.1.symm);rw [hA9]
  refine Ze7 ?_;refine Zdq ?_;refine tc_cond rfl (λ h=> ?_) (sbq ?_)
  . exfalso;first|exact he0 (of_decide_eq_true h)|(simp at h;omega)
  intro h;refine Zgr ?_;refine tv (o_bS (l:=[_,_,_]) (pv_cons wqz (pv_cons wqz pv_nil)) underlying78 z78 (pl78 underlying78) rfl) ?_;refine tl_x rfl (o_box rfl rfl) ?_;rintro _ _ ⟨b21,rfl,rfl⟩;refine Zdd ?_;exact ⟨_,_,res2 rfl rfl rfl,Dr.sat drqz,b21,rfl,rfl⟩
theorem Begin12_ok {A R:SP}{C:SP->SP}{p lg d at_ sz:Nat}{s:DevS}(hA:A=R*pt p (cl (pocs lg d none) 78)*pt lg (cl (lcs11 d at_ sz) 183)*Dev d s)(hlw:LogW (s.ls.length*64) at_ sz)(ho:s.off=false)(hst:stpS at_ sz s=0):
    Fn Tryz.prog 48 #[pz p] A (λ r B=>∃t mb,r= .tuple #[pz t,.int .i64 0]/\ B=R*TxA t p lg d mb at_ sz ⟨[],0⟩ false s):=by
  refine fn_enterW func48 rfl ntmps48 (by simp) ?_;subst hA;refine Zc0 ?_;refine tl_c rfl (o_call bd112 rfl (idle12_c (s:=s))) ?_;refine Zd2 ?_;refine tc_cond rfl (λ h=> ?_) (sbq ?_)
  . exfalso;unfold idlS at h;rw [if_neg (by rw [ho];decide)] at h;simp at h
  intro h;refine Zcd ?_;refine tl_c rfl (o_call bd113 rfl (State12_c (s:=s))) ?_;refine Zd2 ?_;refine tc_cond rfl (λ h=> ?_) (sbq ?_)
  . exfalso;rw [hst] at h;simp at h
  intro h;refine Zgr ?_;refine tl_x rfl (o_makeMap (ik:= .i64) underlying153) ?_;rintro _ _ ⟨b18,rfl,rfl⟩;refine tv (o_bS (l:=[_,_,_]) (pv_cons wqz (pv_cons wqz pv_nil)) underlying155 z155 (pl155 underlying155) rfl) ?_;refine tl_x rfl (o_box rfl rfl) ?_;rintro _ _ ⟨b20,rfl,rfl⟩;refine tv (o_nilCheck rfl) ?_;refine tv (o_fieldAddr (o:=2) underlying78 rfl rfl sz76 rfl) ?_;refine tl_u rfl (o_stU (l':=pocs lg d (some b20)) rfl upqz sz76 rfl rfl (by show 2<3;decide) rfl) ?_;refine nq ?_;refine Z7 ?_;refine tv (o_fieldAddr (o:=2) underlying78 rfl rfl sz76 rfl) ?_;refine tv (by first|exact o_load p76 rfl hsqz rfl|exact o_loadC p76 rfl (by assumption)) ?_;refine Zdd ?_;exact ⟨_,_,res2 rfl rfl rfl,λ g w h=>(Dr.sat (A':=R*pt p (cl (pocs lg d (some b20)) 78)*pt lg (cl (lcs11 d at_ sz) 183)*Dev d s*pt b18 (mpo .i64 ⟨[],0⟩)*pt b20 (cl (txcs p b18 false) 155)) drqz g w h).perm (by unfold TxA;rw [if_neg (by decide)];ac_rfl),b20,b18,rfl,rfl⟩
theorem Begin12_no {A R:SP}{C:SP->SP}{d:Nat}{s:DevS}(hc:Ct A (Dev d s) R C:=by exact cbqz){p lg:Nat}{ov:Option Nat}(hp:Has A p (cl (pocs lg d ov) 78):=by exact hbqz)(hno:idlS s ov≠0:=by assumption):
    Fn Tryz.prog 48 #[pz p] A (λ r B=>r= .tuple #[.pointer none,.int .i64 (idlS s ov)]/\ A=B):=by
  refine fn_enterW func48 rfl ntmps48 (by simp) ?_;refine Zc0 ?_;refine tl_c rfl (o_call bd112 rfl (idle12_c (hc:=hc) (hp:=hp))) ?_;refine Zd2 ?_;refine tc_cond rfl (sbq ?_) (λ h=> ?_)
  . intro h;refine Zfj ?_;exact ⟨_,_,res2 rfl rfl rfl,Dr.sat drqz,rfl,rfl⟩
  exfalso;simp at h;exact hno h
theorem Zg1 {p r:Prop}(k:r)(h:Kq r->p:=by intro k;refine Zbi ?_;refine Z3 ?_;exact k.o):p:=h ⟨k⟩
theorem Zgh {p r:Prop}(k:r)(h:Kq r->p:=by intro k;refine Zbr ?_;refine tv (o_load p28 rfl hsqz rfl) ?_;exact k.o):p:=h ⟨k⟩
theorem Zb4 {p r:Prop}(k:r)(h:Kq r->p:=by intro k;refine tv (o_nilCheck rfl) ?_;refine tv (o_fieldAddr (o:=1) underlying155 rfl rfl sz153 rfl) ?_;exact k.o):p:=h ⟨k⟩
theorem Zgb {p r:Prop}(k:r)(h:Kq r->p:=by intro k;refine Zb4 ?_;refine tv (o_load p153 rfl hsqz rfl) ?_;exact k.o):p:=h ⟨k⟩
theorem lay12_c {A R:SP}{C:SP->SP}{t p lg d mb at_ sz:Nat}{M:MS}{s:DevS}(hc:Ct A (TxA t p lg d mb at_ sz M false s) R C:=by exact cbqz){n:Nat}{f:TF}{fr:Bool}{a:Option Addr}{c m q:Nat}{xs:List Nat}(hM:MF M n f)(hn:n=s.ls.length*64:=by omega)(ho:s.off=false:=by assumption)(hr:Rs R a (bys xs):=by exact rbqz)(hm:xs.length=m:=by first|assumption|rfl)(hb:∀x∈xs,x<256:=by assumption)(hqm:q+m<=n:=by omega):
    Fn Tryz.prog 116 #[pz t,vn q,.slice a m c,.bool fr] A (λ r B=>∃M2,r= .int .i64 0/\ MF M2 n (layF q xs fr f)/\ B=C (TxA t p lg d mb at_ sz M2 false s)):=by
  refine fn_enterW func116 rfl ntmps116 (by simp) ?_;obtain ⟨rfl,hC⟩:=hc;refine tc_eq (show _=R*pt p (cl (pocs lg d (some t)) 78)*pt lg (cl (lcs11 d at_ sz) 183)*Dev d s*pt t (cl (txcs p mb false) 155)*pt mb (mpo .i64 M) by unfold TxA;rw [if_neg (by decide)];ac_rfl) ?_;refine tc_have (λ _ _ h=>ct_wf2 ctqz h) λ hwf=> ?_
  have htop:=hwf.top;refine Zbl ?_;refine tl_c rfl (o_call bd114 rfl (begun12_c (s:=s))) ?_;refine Zg1 ?_;intro h;refine Zcd ?_;refine Zcx ?_;refine Zgh ?_;refine tl_c rfl (o_call bd73 rfl (Size_c (s:=s))) ?_;refine Zbi ?_;refine Zd3 ?_;refine tl_bool (d:=30) rfl dbq (sbq ?_);intro h;refine Zbc ?_;refine tv (o_gtr rfl rfl) ?_;refine Zbb ?_;refine tl_bool (d:=35) rfl dbq (sbq ?_);intro h;refine Zex ?_;refine Zbc ?_;refine Zfs ?_;refine Zz ?_;intro h;refine Zcd ?_;refine Zcp ?_;refine Zbh ?_;refine tc_loop (λ kk ρ BB=>∃ (i:Nat) (M1:MS),(i<=m)/\ (MF M1 n (layF q (xs.take i) fr f))/\ kk=m-i/\ ρ 45=(vn i)/\ ρ 0=(pz t)/\ ρ 1=(vn q)/\ ρ 3= .bool fr/\ ρ 43= .slice a m c/\ ρ 44=(vn m)/\ Dr BB (R*pt p (cl (pocs lg d (some t)) 78)*pt lg (cl (lcs11 d at_ sz) 183)*Dev d s*pt t (cl (txcs p mb false) 155)*pt mb (mpo .i64 M1))) (m:=m-(0)) ?_ ?_
  . exact ⟨0,M,by omega,by rw [layF_zero];exact hM,rfl,rfl,rfl,rfl,rfl,rfl,rfl,drqz⟩
  intro k ρ B hI;obtain ⟨i,M1,hp0,hp1,hkk1,hE45,hE0,hE1,hE3,hE43,hE44,hBA⟩:=hI;refine tc_pre hBA.sat ?_;clear hBA;refine te 45 hE45 ?_;refine te 0 hE0 ?_;refine te 1 hE1 ?_;refine te 3 hE3 ?_;refine te 43 hE43 ?_;refine te 44 hE44 ?_;refine Zcf ?_;refine tc_cond rfl (λ h=> ?_) (λ h=> ?_)
  . have hi:i<xs.length:=(by simp at h;omega);obtain ⟨x,hx1⟩:∃x,xs[i]=x:=⟨_,rfl⟩;have hx8:x<256:=hx1▸hb _ (List.getElem_mem hi)
    have hlay:=mf_lay hp1 hi hx1 hx8 oqz;have hget:=hp1.get (q+i);obtain ⟨o,ho9⟩:∃o,layF q (xs.take i) fr f (q+i)=o:=⟨_,rfl⟩;rw [ho9] at hlay hget
    refine Zd1 ?_;refine tv (o_ixP1 underlying32 sz5 rfl rfl sq0z sq2z) ?_;refine tv (o_ldP p5 rfl (by repeat (first|exact hr|apply Rs.left)) (bys_at hi)) ?_;refine tl_env (d:=49) (v:= .int .u8 ((x:Nat):Int)) (by show Value.int .u8 ((xs[i]:Nat):Int)=_;rw [hx1]) ?_;refine tla ?_;refine Zs ?_;refine Zgb ?_;refine Zbc ?_;refine tv adqz ?_;refine tl_env (d:=57) (v:=(vn (q+i))) (by first|rfl|(show Value.int .i64 _=_;congr 1;omega)) ?_;refine tv (o_lookupOk (ik:= .i64) underlying153 underlying3 z157 rfl rfl hsqz) ?_;refine tl_env (d:=58) (v:= .tuple #[.agg (cel0 (o.getD (0,false))).toArray,.bool o.isSome]) (by show Value.tuple #[(M1.get ((q+i:Nat):Int)).getD _,.bool (M1.get ((q+i:Nat):Int)).isSome]=_;rw [hget];cases o<;>rfl) ?_;refine Zbj ?_;refine tl_x rfl (o_alloc z157 rfl) ?_;rintro _ _ ⟨b13,rfl,rfl⟩;refine tl_u rfl (o_stUN (l':=cel0 (o.getD (0,false))) rfl upqz sz157 rfl rfl rfl (by show 2<=2;decide) rfl) ?_;refine Zp ?_;refine tv (o_not rfl) ?_;refine nq ?_;refine tc_cut (λ ρ BB=>ρ 0=(pz t)/\ ρ 1=(vn q)/\ ρ 3= .bool fr/\ ρ 11=(vn i)/\ ρ 12= .int .u8 ((x:Nat):Int)/\ ρ 13=(pz b13)/\ ρ 43= .slice a m c/\ ρ 44=(vn m)/\ ρ 45=(vn i)/\ BB=R*pt p (cl (pocs lg d (some t)) 78)*pt lg (cl (lcs11 d at_ sz) 183)*Dev d s*pt t (cl (txcs p mb false) 155)*pt mb (mpo .i64 M1)*pt b13 (cl [.int .u8 (((o.getD (0,false)).1:Nat):Int),.bool ((o.map (·.2)).getD fr)] 157)) ?_ ?_
    . skip
      refine tc_cond rfl (λ h=> ?_) (λ h=> ?_)
      . obtain rfl:o=none:=by cases o<;>simp at h ⊢
        refine Zw ?_;refine tv (o_fieldAddr (o:=1) underlying157 rfl rfl sz4 rfl) ?_;refine tl_u rfl (o_stU (l':=[.int .u8 0,.bool fr]) rfl upqz sz4 rfl rfl (by show 1<2;decide) rfl) ?_;refine tl_nil ?_;exact ⟨rfl,rfl,rfl,rfl,rfl,rfl,rfl,rfl,rfl,rfl⟩
      obtain ⟨c0,rfl⟩:∃c0,o=some c0:=by cases o<;>simp at h ⊢
      refine tc_skip ?_;exact ⟨rfl,rfl,rfl,rfl,rfl,rfl,rfl,rfl,rfl,rfl⟩
    intro ρ B hI;obtain ⟨hE0,hE1,hE3,hE11,hE12,hE13,hE43,hE44,hE45,rfl⟩:=hI;refine q_then_n ?_;refine te 0 hE0 ?_;refine te 1 hE1 ?_;refine te 3 hE3 ?_;refine te 11 hE11 ?_;refine te 12 hE12 ?_;refine te 13 hE13 ?_;refine te 43 hE43 ?_;refine te 44 hE44 ?_;refine te 45 hE45 ?_;refine Zb ?_;refine tv (o_fieldAddr (o:=0) underlying157 rfl rfl sz5 rfl) ?_;refine tl_u rfl (o_stU (l':=cel0 (x,(o.map (·.2)).getD fr)) rfl upqz sz5 rfl rfl (by show 0<2;decide) rfl) ?_;refine nq ?_;refine tc_regh (S:=R*pt p (cl (pocs lg d (some t)) 78)*pt lg (cl (lcs11 d at_ sz) 183)*Dev d s*pt t (cl (txcs p mb false) 155)*pt b13 (cl (cel0 (x,(o.map (·.2)).getD fr)) 157)) mo drqz ?_
    show TH _ _ _ _ _ 9 (Array.replicate 9 false) _ _
    refine Zbx ?_;refine tm 2 rfl kqz rfl (o_fieldAddr (o:=1) underlying155 rfl rfl sz153 rfl) ?_;refine tm 3 rfl kqz rfl (o_load p153 rfl hsqz rfl) ?_;refine tm 4 rfl kqz rfl (o_move wqz) ?_;refine tm 5 rfl kqz rfl (o_move wqz) ?_;refine tm 6 rfl kqz rfl adqz ?_;refine th_env (d:=73) (v:=(vn (q+i))) (by first|rfl|(show Value.int .i64 _=_;congr 1;omega)) ?_;refine tm 7 rfl kqz rfl (o_loadN (vs:=cel0 (x,(o.map (·.2)).getD fr)) a157 sz157 rfl hsqz (by show 2<=2;decide) rfl) ?_;refine th_one (i:=8) kqz ?_;refine oh_u rfl rfl rfl (o_mapUpdate (ik:= .i64) (M:=M1) (v:=encC (x,(o.map (·.2)).getD fr)) underlying153 underlying3 rfl upqz rfl rfl rfl) drqz ?_;refine th_done kqz ?_;refine Zn ?_;refine Zco ?_;exact ⟨_,by omega,i+1,_,by omega,hlay,rfl,rfl,rfl,rfl,rfl,rfl,rfl,drqz⟩
  obtain rfl:i=m:=by simp at h;omega
  rw [List.take_of_length_le (show xs.length<=i by omega)] at hp1
  refine Zg ?_;refine Zdn ?_;exact ⟨.int .i64 0,C (TxA t p lg d mb at_ sz M1 false s),res1 rfl rfl,(λ g w h=>by rw [hC];exact (Dr.sat (A':=R*pt p (cl (pocs lg d (some t)) 78)*pt lg (cl (lcs11 d at_ sz) 183)*Dev d s*pt t (cl (txcs p mb false) 155)*pt mb (mpo .i64 M1)) drqz g w h).perm (by unfold TxA;rw [if_neg (by decide)];ac_rfl)),M1,rfl,hp1,rfl⟩
end Go.Vl

namespace Go.Vl
open Go Go.Proofs Go.Proofs.Tryz
theorem sq1z {p:Prop}(h:p:=by repeat (first|with_reducible exact rs_sl|apply Rs.left)):p:=h
def adjB (out:List (Nat×List Nat))(a:Nat):Bool:=match out.getLast? with
  |some r=>decide (r.1+r.2.length=a)
  |none=>false
theorem list_snoc {α:Type}{l:List α}(h:0<l.length):∃O r,l=O++[r]:=⟨l.dropLast,l.getLast (List.length_pos_iff.1 h),(List.dropLast_concat_getLast _).symm⟩
theorem adjB_snoc (O:List (Nat×List Nat))(r:Nat×List Nat)(a:Nat):adjB (O++[r]) a=decide (r.1+r.2.length=a):=by unfold adjB;rw [List.getLast?_concat]
theorem adj_t {f:TF}{out:List (Nat×List Nat)}{a:Nat}(h:adjB out a=true):∃O r,out=O++[r]/\ r.1+r.2.length=a/\ runA f out a=O++[(r.1,r.2++[byF f a])]:=by
  rcases Nat.eq_zero_or_pos out.length with h0|h0
  . rw [List.eq_nil_of_length_eq_zero h0] at h;cases h
  obtain ⟨O,r,rfl⟩:=list_snoc h0;rw [adjB_snoc] at h
  have h1:=of_decide_eq_true h;refine ⟨O,r,rfl,h1, ?_⟩
  unfold runA;rw [List.getLast?_concat];simp only [];rw [if_pos h1,List.dropLast_concat]
theorem adj_f {f:TF}{out:List (Nat×List Nat)}{a:Nat}(h:adjB out a=false):runA f out a=out++[(a,[byF f a])]:=by
  rcases Nat.eq_zero_or_pos out.length with h0|h0
  . rw [List.eq_nil_of_length_eq_zero h0];rfl
  obtain ⟨O,r,rfl⟩:=list_snoc h0;rw [adjB_snoc] at h
  unfold runA;rw [List.getLast?_concat];simp only [];rw [if_neg (of_decide_eq_false h)]
theorem adr_at {n:Nat}{k:Bool}{f:TF}{i:Nat}(h:i<(adrF n k f).length):∃c,f ((adrF n k f)[i])=some c/\ c.2=k/\ (adrF n k f)[i]<n:=by
  obtain ⟨h1,h2⟩:=adr_mem.1 (List.getElem_mem h);have h3:=of_decide_eq_true h2
  cases hf:f ((adrF n k f)[i]) with
  |none=>rw [hf] at h3;cases h3
  |some c=>rw [hf] at h3;simp only [Option.map_some,Option.some.injEq] at h3;exact ⟨c,rfl,h3,h1⟩
theorem sl_some {k:Nat}{a:Option Addr}{m c:Nat}{xs:List Value}{R:SP}{g:Gh}{w:World}(hs:sat g w (R*Sl k (.slice a m c) m xs))(h:0<m):∃b o,a=some ⟨b,o,none⟩:=by
  obtain ⟨_,⟨e1,e2,_⟩|⟨b,off,cap,L,E,e1,_⟩⟩:=sl_iff.1 hs
  . omega
  simp only [Value.slice.injEq] at e1;exact ⟨b,off,e1.1⟩
theorem adr_len (n:Nat)(k:Bool)(f:TF):(adrF n k f).length<=n:=by unfold adrF;exact Nat.le_trans (List.length_filter_le _ _) (by rw [List.length_range];exact Nat.le_refl _)
theorem parts_last {O:List (Nat×List Nat)}{r:Nat×List Nat}{vs:List Value}(h:vs.length=(O++[r]).length)(hps:∀k,k<(O++[r]).length->∃b c,vs.getD k (.slice none 0 0)= .slice b ((O++[r]).getD k (0,[])).2.length c/\ ((O++[r]).getD k (0,[])).2.length<=c):
    ∃V xb xc,vs=V++[.slice xb r.2.length xc]/\ V.length=O.length/\ r.2.length<=xc:=by
  rw [List.length_append,List.length_singleton] at h
  obtain ⟨V,v,rfl⟩:=list_snoc (l:=vs) oqz;rw [List.length_append,List.length_singleton] at h
  have hV:V.length=O.length:=(by omega);obtain ⟨b,c,h1,h2⟩:=hps O.length (by rw [List.length_append,List.length_singleton];omega);have e1:(V++[v]).getD O.length (.slice none 0 0)=v:=(by rw [←hV,List.getD_eq_getElem?_getD];simp);have e2:(O++[r]).getD O.length (0,[])=r:=(by rw [List.getD_eq_getElem?_getD];simp);rw [e1,e2] at h1
  rw [e2] at h2
  exact ⟨V,b,c,by rw [h1],hV,h2⟩
theorem kcl_set {O:List (Nat×List Nat)}{V:List Value}{r:Nat×List Nat}{v u:Value}(h:V.length=O.length)(ys:List Nat):(kcl (O++[r]) (V++[v])).set (O.length*2+1) u=kcl (O++[(r.1,ys)]) (V++[u]):=by
  rw [kcl_snoc h,kcl_snoc h]
  have hl:=kcl_len h;rw [List.set_append,if_neg oqz,hl,show O.length*2+1-O.length*2=1 by omega];rfl
theorem runs_next {n:Nat}{k:Bool}{f:TF}{i:Nat}{out:List (Nat×List Nat)}(h:runsL f ((adrF n k f).take i)=out)(hi:i<(adrF n k f).length):runsL f ((adrF n k f).take (i+1))=runA f out ((adrF n k f)[i]):=by
  rw [List.take_succ_eq_append_getElem hi,runsL_snoc,h]
theorem kcl_l1 {O:List (Nat×List Nat)}{V:List Value}{r:Nat×List Nat}{v:Value}(h:V.length=O.length):(kcl (O++[r]) (V++[v]))[O.length*2+1]? =some v:=by
  rw [kcl_snoc h,List.getElem?_append_right (by rw [kcl_len h];omega),kcl_len h,show O.length*2+1-O.length*2=1 by omega];rfl
theorem kcl_l0 {O:List (Nat×List Nat)}{V:List Value}{r:Nat×List Nat}{v:Value}(h:V.length=O.length):(kcl (O++[r]) (V++[v]))[O.length*2+0]? =some ((vn r.1)):=by
  rw [kcl_snoc h,List.getElem?_append_right (by rw [kcl_len h];omega),kcl_len h,show O.length*2+0-O.length*2=0 by omega];rfl
theorem byF_some {f:TF}{a:Nat}{c:Nat×Bool}(h:f a=some c):byF f a=c.1:=by unfold byF;rw [h];rfl
theorem isK_some {f:TF}{a:Nat}{c:Nat×Bool}(h:f a=some c)(k:Bool):isK f k a=(c.2==k):=by
  unfold isK;rw [h];simp only [Option.map_some,Option.some.injEq]
  cases c.2<;>cases k<;>rfl
attribute [local irreducible] crk crL crc Sl pt ro Dev imgS recS readS recsF rdW rdO rkT Parts rvl recordsS runsL adrF kcl kys runA
theorem runs12_c {A:SP}{p t mb n:Nat}{over:Bool}{M:MS}{f:TF}{kd:Bool}(ht:Has A t (cl (txcs p mb over) 155):=by exact hbqz)(hmb:Has A mb (mpo .i64 M):=by exact hbqz)(hM:MF M n f)(hn:n<=4194304:=by omega):
    Fn Tryz.prog 117 #[pz t,.bool kd] A (λ r B=>∃a c vs,r= .slice a (runsF n kd f).length c/\ (runsF n kd f).length<=c/\ vs.length=(runsF n kd f).length/\ B=A*Parts vs ((runsF n kd f).map (·.2))*Sl 2 (.slice a (runsF n kd f).length c) (runsF n kd f).length (kcl (runsF n kd f) vs)):=by
  refine fn_enterW func117 rfl ntmps117 (by simp) ?_;have hDl:M.D.length<=n:=mf_len hM;have hal:=adr_len n kd f;refine Zb9 ?_;refine Zbl ?_;refine Zb4 ?_;refine tv (o_load p153 rfl ht rfl) ?_;refine tl_x rfl (o_range (ik:= .i64) underlying153 rfl hmb) ?_;rintro _ _ ⟨r16,rfl,rfl⟩;refine Zbh ?_;refine tc_pre (A':=A*pt r16 (mit mb M.c (([]:List ME).map ME.b) M.c)*Sl 1 (.slice none 0 0) 0 []) (λ _ _ h=>sl_nil h) ?_;refine tc_loop (λ kk ρ BB=>∃ (vis:List ME) (a5:Option Addr) (c5:Nat),(Vis M vis)/\ ((kys f kd vis).length<=c5)/\ kk=M.D.length-vis.length/\ ρ 5= .slice a5 (kys f kd vis).length c5/\ ρ 0=(pz t)/\ ρ 1= .bool kd/\ ρ 16=(pz r16)/\ Dr BB (A*pt r16 (mit mb M.c (vis.map ME.b) M.c)*Sl 1 (.slice a5 (kys f kd vis).length c5) (kys f kd vis).length (ints (kys f kd vis)))) (m:=M.D.length-(([]:List ME)).length) ?_ ?_
  . exact ⟨([]:List ME),none,0,vis_nil M,by rw [kys_nil];exact Nat.le_refl _,rfl,by rw [kys_nil];rfl,rfl,rfl,rfl,by rw [kys_nil];exact dr_refl⟩
  intro k ρ B hI;obtain ⟨vis,a5,c5,hp0,hp1,hkk1,hE5,hE0,hE1,hE16,hBA⟩:=hI;refine tc_pre hBA.sat ?_;clear hBA;refine te 5 hE5 ?_;refine te 0 hE0 ?_;refine te 1 hE1 ?_;refine te 16 hE16 ?_;refine sr ?_;refine tl_x rfl (o_next (ik:= .i64) (M:=M) (b:=mb) (seen:=vis.map ME.b) hM.wf rfl ctqz haqz) ?_;rintro _ _ ⟨o17,hnx,rfl,rfl⟩;refine tv (o_exNx rfl) ?_;refine Zeq ?_;refine tc_cond rfl (λ h=> ?_) (λ h=> ?_)
  . obtain ⟨e,rfl⟩:∃e,o17=some e:=Option.isSome_iff_exists.1 (by simpa using h);have hvs2:=vis_snoc hp0 hnx;have hvl:=vis_len hvs2;have hvl2:(vis++[e]).length=vis.length+1:=(by rw [List.length_append,List.length_singleton]);have hem:=(hnx.yes e rfl).1;obtain ⟨a,c0,ha,hk,hf,hv⟩:=mf_val hM hem;have hky:=kys_snoc f kd vis e;rw [hk,Int.toNat_natCast,isK_some hf] at hky
    have hkl:=kys_len f kd vis;refine tc_eq (show _=A*pt r16 (mit mb M.c (vis.map ME.b++[e.b]) M.c)*Sl 1 (.slice a5 (kys f kd vis).length c5) (kys f kd vis).length (ints (kys f kd vis)) from rfl) ?_;refine Zgg ?_;refine sr ?_;refine tv (o_entry (ik:= .i64) (M:=M) (b:=mb) (seen:=vis.map ME.b) hM.wf hem rfl (by repeat (first|with_reducible exact has_here|apply has_left)) haqz) ?_;refine tl_env (d:=19) (v:= .tuple #[vn a,.agg (cel0 c0).toArray]) (by rw [hk,hv];rfl) ?_;refine Zj ?_;refine tl_x rfl (o_alloc z157 rfl) ?_;rintro _ _ ⟨b7,rfl,rfl⟩;refine tla ?_;refine tl_u rfl (o_stUN (l':=cel0 c0) rfl upqz sz157 rfl rfl rfl (by show 2<=2;decide) rfl) ?_;refine Zf4 ?_;refine tv (o_fieldAddr (o:=1) underlying157 rfl rfl sz4 rfl) ?_;refine tv (o_load p4 rfl hsqz rfl) ?_;refine tlm ?_;refine tv (o_eqb underlying4 rfl rfl) ?_;refine tl_env (d:=25) (v:= .bool (c0.2==kd)) (by first|rfl|(cases c0.2<;>cases kd<;>rfl)) ?_;refine nq ?_;refine tc_cut (λ ρ BB=>∃ (aj:Option Addr) (cj:Nat),((kys f kd (vis++[e])).length<=cj)/\ ρ 5= .slice aj (kys f kd (vis++[e])).length cj/\ ρ 0=(pz t)/\ ρ 1= .bool kd/\ ρ 16=(pz r16)/\ Dr BB (A*pt r16 (mit mb M.c (vis.map ME.b++[e.b]) M.c)*Sl 1 (.slice aj (kys f kd (vis++[e])).length cj) (kys f kd (vis++[e])).length (ints (kys f kd (vis++[e]))))) ?_ ?_
    . skip
      refine tc_cond rfl (λ h=> ?_) (λ h=> ?_)
      . rw [if_pos h] at hky
        refine Zdr ?_;refine tl_x rfl (o_buildSlice1 underlying22 sz3 z3 wqz rfl) ?_;rintro _ _ ⟨b28,rfl,rfl⟩;refine tl_x rfl (o_apB underlying22 underlying22 sz3 by3 z3 rfl (by decide) (by decide) rfl rfl rfl ctqz rfl (by first|exact bys_all _|exact ints_all _|exact wds_all _|exact bos_all _|rfl) sq0z (by first|exact bys_sn _ _|exact ints_sn _ _|exact wds_sn _ _|exact bos_sn _ _|exact (bys_append _ _).symm|rfl)) ?_;rintro _ _ ⟨a29,c29,rfl,hc29,rfl⟩;refine Ze2 ?_;exact ⟨a29,c29,by rw [hky];first|exact hp1|(rw [List.length_append];exact hc29),by rw [hky];first|rfl|(rw [List.length_append];rfl),rfl,rfl,rfl,by first|(rw [hky,List.length_append,List.length_singleton];exact dr_drop dr_refl)|(rw [hky];exact dr_drop dr_refl)⟩
      rw [if_neg (by rw [h];decide),List.append_nil] at hky
      refine tc_skip ?_;exact ⟨a5,c5,by rw [hky];first|exact hp1|(rw [List.length_append];exact hc29),by rw [hky];first|rfl|(rw [List.length_append];rfl),rfl,rfl,rfl,by first|(rw [hky,List.length_append,List.length_singleton];exact dr_drop dr_refl)|(rw [hky];exact dr_drop dr_refl)⟩
    intro ρ B hI;obtain ⟨aj,cj,hj0,hE5,hE0,hE1,hE16,hBA⟩:=hI;refine q_block_n (q_then_n ?_);exact ⟨_,by omega,vis++[e],aj,cj,hvs2,hj0,rfl,hE5,hE0,hE1,hE16,by rw [show (vis++[e]).map ME.b=vis.map ME.b++[e.b] by rw [List.map_append];rfl];exact hBA⟩
  obtain rfl:o17=none:=by cases o17<;>simp at h ⊢
  have hvp:=vis_perm hM.wf hp0 hnx;have hks:=kys_sort (k:=kd) hM hvp;have hkl:=kys_len f kd vis;have hvl:=vis_len hp0;have hkn:(kys f kd vis).length=(adrF n kd f).length:=(by have h9:=congrArg List.length hks;rw [List.length_mergeSort,List.length_map] at h9;exact h9);refine Zda ?_;refine tl_c rfl (o_call bd153 rfl (Sort_c (zs:=kys f kd vis))) ?_;rintro _ _ ⟨rfl,rfl⟩;rw [hks]
  refine nq ?_;refine Zf0 ?_;refine Zet ?_;refine tc_pre (A':=A*Sl 1 (.slice a5 (kys f kd vis).length c5) (kys f kd vis).length (ints ((adrF n kd f).map λ a:Nat=>(a:Int)))*Parts [] []*Sl 2 (.slice none 0 0) 0 []) (λ g w h=>sl_nil (show sat g w (A*Sl 1 (.slice a5 (kys f kd vis).length c5) (kys f kd vis).length (ints ((adrF n kd f).map λ a:Nat=>(a:Int)))*Parts [] []) by rw [show Parts [] []=emp by unfold Parts;rfl,star_emp];exact Dr.sat drqz g w h)) ?_;refine tc_loop (λ kk ρ BB=>∃ (i:Nat) (out:List (Nat×List Nat)) (vs:List Value) (a8:Option Addr) (c8:Nat),(i<=(adrF n kd f).length)/\ (runsL f ((adrF n kd f).take i)=out)/\ (vs.length=out.length)/\ (out.length<=c8)/\ (out.length<=i)/\ (∀r∈out,r.1+r.2.length<=n)/\ kk=(adrF n kd f).length-i/\ ρ 8= .slice a8 out.length c8/\ ρ 34=(vn i)/\ ρ 0=(pz t)/\ ρ 32= .slice a5 (kys f kd vis).length c5/\ ρ 33= .int .i64 ((kys f kd vis).length:Nat)/\ Dr BB (A*Sl 1 (.slice a5 (kys f kd vis).length c5) (kys f kd vis).length (ints ((adrF n kd f).map λ a:Nat=>(a:Int)))*Parts vs (out.map (·.2))*Sl 2 (.slice a8 out.length c8) out.length (kcl out vs))) (m:=(adrF n kd f).length-(0)) ?_ ?_
  . exact ⟨0,[],[],none,0,by omega,by rw [List.take_zero];unfold runsL;rfl,rfl,Nat.le_refl _,Nat.le_refl _,λ r h=>(by cases h),rfl,rfl,rfl,rfl,rfl,rfl,by rw [kcl_nil];exact dr_refl⟩
  intro k ρ B hI;obtain ⟨i,out,vs,a8,c8,hq0,hq1,hq2,hq3,hq4,hq5,hkk2,hE8,hE34,hE0,hE32,hE33,hBA⟩:=hI;refine tc_pre hBA.sat ?_;clear hBA;refine te 8 hE8 ?_;refine te 34 hE34 ?_;refine te 0 hE0 ?_;refine te 32 hE32 ?_;refine te 33 hE33 ?_;refine Zcf ?_;refine tc_cond rfl (λ h=> ?_) (λ h=> ?_)
  . have hi:i<(adrF n kd f).length:=(by simp at h;omega);obtain ⟨c0,hf,hck,han⟩:=adr_at hi;obtain ⟨a,haq⟩:∃a,(adrF n kd f)[i]=a:=⟨_,rfl⟩;have hbya:=byF_some hf;have hget:=hM.get ((adrF n kd f)[i]);rw [hf] at hget
    refine tc_have (λ _ _ h=>parts_getD hq2 h.left) λ hps=> ?_
    refine Zec ?_;refine tv (o_ixP1 underlying22 sz3 rfl rfl oqz (nn_rs (xs:=ints ((adrF n kd f).map λ a:Nat=>(a:Int))) sq1z (by rw [ints_length,List.length_map];omega))) ?_;refine tv (o_ldP (xs:=ints ((adrF n kd f).map λ a:Nat=>(a:Int))) p3 rfl sq1z (ints_at (by rw [List.length_map];exact hi))) ?_;refine tl_env (d:=37) (v:= .int .i64 ((((adrF n kd f)[i]'oqz):Nat):Int)) (by show Value.int .i64 _=_;rw [List.getElem_map]) ?_;refine Zp ?_;refine tv (o_len underlying160 rfl) ?_;refine tv (o_subI rfl rfl oqz) ?_;refine Zc1 ?_;refine tc_cut (λ ρ BB=>∃ (bb:Bool),(bb=adjB out ((adrF n kd f)[i]'oqz))/\ ρ 58= .bool bb/\ ρ 0=(pz t)/\ ρ 8= .slice a8 out.length c8/\ ρ 10= .int .i64 ((((adrF n kd f)[i]'oqz):Nat):Int)/\ ρ 11= .int .i64 ((out.length:Int)-1)/\ ρ 32= .slice a5 (kys f kd vis).length c5/\ ρ 33= .int .i64 ((kys f kd vis).length:Nat)/\ ρ 34=(vn i)/\ Dr BB (A*Sl 1 (.slice a5 (kys f kd vis).length c5) (kys f kd vis).length (ints ((adrF n kd f).map λ a:Nat=>(a:Int)))*Parts vs (out.map (·.2))*Sl 2 (.slice a8 out.length c8) out.length (kcl out vs))) ?_ ?_
    . skip
      refine tc_regq mo kqz ?_;refine ql_v rfl (o_move wqz) ?_;refine ql_v rfl (o_geq rfl rfl) ?_;refine ql_v rfl (o_move wqz) ?_;refine ql_bool (d:=43) rfl (λ h=> ?_) (λ h=> ?_)
      . have hne:0<out.length:=(by simp at h;omega);obtain ⟨O,r_,hO⟩:=list_snoc hne;obtain ⟨V,xb,xc,hV,hVl,hxc⟩:=parts_last (O:=O) (r:=r_) (by rw [←hO];exact hq2) (by rw [←hO];exact hps);have hOl:out.length-1=O.length:=(by rw [hO,List.length_append,List.length_singleton];omega);have hrn:=hq5 r_ (by rw [hO];simp);have hk0:(kcl out vs)[(out.length-1)*2+0]? =some ((vn r_.1)):=(by rw [hOl,hO,hV];exact kcl_l0 hVl);have hk1:(kcl out vs)[(out.length-1)*2+1]? =some (.slice xb r_.2.length xc):=(by rw [hOl,hO,hV];exact kcl_l1 hVl);refine Zbk ?_;refine ql_env (d:=45) (v:=(vn (out.length-1))) (by show Value.int .i64 _=_;congr 1;omega) ?_;refine ql_v rfl (o_ixP (a:=a8) underlying160 sz193 rfl rfl oqz (nn_rs (xs:=kcl out vs) sq1z (λ _=>by rw [kcl_len hq2];omega))) ?_;refine ql_v rfl (o_faP (a:=a8) (m:=0) (o:=0) underlying193 rfl rfl sz3 rfl (nn_rs (xs:=kcl out vs) sq1z (λ _=>by rw [kcl_len hq2];omega))) ?_;refine ql_v rfl (o_ldP (a:=a8) (xs:=kcl out vs) p3 rfl sq1z hk0) ?_;refine Zbk ?_;refine ql_env (d:=50) (v:=(vn (out.length-1))) (by show Value.int .i64 _=_;congr 1;omega) ?_;refine ql_v rfl (o_ixP (a:=a8) underlying160 sz193 rfl rfl oqz (nn_rs (xs:=kcl out vs) sq1z (λ _=>by rw [kcl_len hq2];omega))) ?_;refine ql_v rfl (o_faP (a:=a8) (m:=0) (o:=1) underlying193 rfl rfl sz32 rfl (nn_rs (xs:=kcl out vs) sq1z (λ _=>by rw [kcl_len hq2];omega))) ?_;refine ql_v rfl (o_ldP (a:=a8) (xs:=kcl out vs) p32 rfl sq1z hk1) ?_;refine ql_v rfl (o_len underlying32 rfl) ?_;refine ql_v rfl (o_addI rfl rfl oqz) ?_;refine ql_v rfl (o_move wqz) ?_;refine ql_v rfl (o_eqi rfl rfl) ?_;refine ql_v rfl (o_pick_t rfl wqz) ?_;refine ql_nil ?_;exact ⟨_,by first|(rw [hO,adjB_snoc,decide_eq_decide];omega)|(rw [hne];rfl),rfl,rfl,rfl,rfl,rfl,rfl,rfl,rfl,drqz⟩
      have hne:out=[]:=List.eq_nil_of_length_eq_zero (by simp at h;omega);refine Zfo ?_;refine Zfo ?_;refine Zfo ?_;refine Zbd ?_;refine ql_v rfl (o_pick_f rfl wqz) ?_;refine ql_nil ?_;exact ⟨_,by first|(rw [hO,adjB_snoc,decide_eq_decide];omega)|(rw [hne];rfl),rfl,rfl,rfl,rfl,rfl,rfl,rfl,rfl,drqz⟩
    intro ρ B hI;obtain ⟨bb,hbb0,hE58,hE0,hE8,hE10,hE11,hE32,hE33,hE34,hBA⟩:=hI;refine q_then_n ?_;refine tc_pre hBA.sat ?_;clear hBA;refine te 58 hE58 ?_;refine te 0 hE0 ?_;refine te 8 hE8 ?_;refine te 10 hE10 ?_;refine te 11 hE11 ?_;refine te 32 hE32 ?_;refine te 33 hE33 ?_;refine te 34 hE34 ?_;refine tc_cond rfl (λ h=> ?_) (λ h=> ?_)
    . obtain ⟨O,r_,hO,hadj,hrun⟩:=adj_t (f:=f) (show adjB out ((adrF n kd f)[i]'oqz)=true by rw [←hbb0];exact h);obtain ⟨V,xb,xc,hV,hVl,hxc⟩:=parts_last (O:=O) (r:=r_) (by rw [←hO];exact hq2) (by rw [←hO];exact hps);subst hO hV;have hOl:(O++[r_]).length=O.length+1:=(by rw [List.length_append,List.length_singleton]);have hrn:=hq5 r_ (by simp);refine tc_have (λ _ _ h=>sl_some h oqz) λ ⟨bb8,oo8,ha8⟩=> ?_
      subst ha8;refine tc_eq (show _=A*Sl 1 (.slice a5 (kys f kd vis).length c5) (kys f kd vis).length (ints ((adrF n kd f).map λ a:Nat=>(a:Int)))*Parts V (O.map (·.2))*Sl 1 (.slice xb r_.2.length xc) r_.2.length (bys r_.2)*Sl 2 (.slice (some ⟨bb8,oo8,none⟩) (O++[r_]).length c8) (O++[r_]).length (kcl (O++[r_]) (V++[(.slice xb r_.2.length xc)])) by rw [List.map_append];rw [show Parts (V++[(.slice xb r_.2.length xc)]) (O.map (·.2)++[r_].map (·.2))=Parts V (O.map (·.2))*Sl 1 (.slice xb r_.2.length xc) r_.2.length (bys r_.2) from parts_snoc (by rw [List.length_map];exact hVl)];ac_rfl) ?_;refine tc_seq ?_;refine tc_regh (S:=A*Sl 1 (.slice a5 (kys f kd vis).length c5) (kys f kd vis).length (ints ((adrF n kd f).map λ a:Nat=>(a:Int)))*Parts V (O.map (·.2))) mo drqz ?_
      show TH _ _ _ _ _ 19 (Array.replicate 19 false) _ _
      refine Zee ?_;refine th_env (d:=60) (v:=(vn O.length)) (by show Value.int .i64 _=_;rw [hOl];congr 1;omega) ?_;refine tm 2 rfl kqz rfl (o_move wqz) ?_;refine tm 3 rfl kqz rfl (o_move wqz) ?_;refine th_env (d:=62) (v:=(vn O.length)) (by show Value.int .i64 _=_;rw [hOl];congr 1;omega) ?_;refine tm 4 rfl kqz rfl (o_ixP (a:=some ⟨bb8,oo8,none⟩) underlying160 sz193 rfl rfl oqz nn_some) ?_;refine tm 5 rfl kqz rfl (o_faP (a:=some ⟨bb8,oo8,none⟩) (m:=0) (o:=1) underlying193 rfl rfl sz32 rfl nn_some) ?_;refine tm 7 rfl kqz rfl (o_move wqz) ?_;refine tm 8 rfl kqz rfl (o_nilCheck rfl) ?_;refine tm 9 rfl kqz rfl (o_fieldAddr (o:=1) underlying155 rfl rfl sz153 rfl) ?_;refine tm 10 rfl kqz rfl (o_load p153 rfl haqz rfl) ?_;refine tm 11 rfl kqz rfl (o_move wqz) ?_;refine tm 12 rfl kqz rfl (o_lookup (ik:= .i64) underlying153 underlying3 z157 rfl rfl haqz) ?_;refine th_env (d:=71) (v:= .agg (cel0 c0).toArray) (by show (M.get ((((adrF n kd f)[i]'oqz):Nat):Int)).getD _=_;rw [hget];rfl) ?_;refine tm 13 rfl kqz rfl (o_field1 underlying157 rfl p5 rfl rfl) ?_;refine th_two (i:=6) (j:=14) kqz ?_ ?_
      . skip
        refine oh_v rfl rfl rfl (o_ldP (a:=some ⟨bb8,oo8,none⟩) (xs:=kcl (O++[r_]) (V++[(.slice xb r_.2.length xc)])) p32 rfl sq1z (kcl_l1 hVl)) ?_;refine th_one (i:=14) kqz ?_;refine oh_x rfl rfl rfl (o_buildSliceL (k:=1) (vs:=bys [c0.1]) (l:=bys [c0.1]) underlying32 sz5 z5 rfl rfl (by decide) (by decide) (by intro v hv;simp only [bys,b8,List.map_cons,List.map_nil,List.mem_cons,List.not_mem_nil,or_false] at hv;rcases hv with rfl;rfl) rfl) ?_;rintro _ _ ⟨b73,rfl,rfl⟩;refine ⟨by repeat (first|with_reducible exact dr_refl|apply dr_keep|apply dr_drop), ?_⟩;refine th_one (i:=15) kqz ?_;refine oh_x rfl rfl rfl (o_apB underlying32 underlying32 sz5 by5 z5 rfl (by decide) (by decide) rfl rfl rfl ctqz rfl rfl oqz (show _=bys (r_.2++[c0.1]) by rw [←bys_append])) ?_;rintro _ _ ⟨a74,c74,rfl,hc74,rfl⟩;refine ⟨by repeat (first|with_reducible exact dr_refl|apply dr_keep|apply dr_drop), ?_⟩;refine tm 16 rfl kqz rfl (o_ixP (a:=some ⟨bb8,oo8,none⟩) underlying160 sz193 rfl rfl oqz nn_some) ?_;refine tm 17 rfl kqz rfl (o_faP (a:=some ⟨bb8,oo8,none⟩) (m:=0) (o:=1) underlying193 rfl rfl sz32 rfl nn_some) ?_;refine th_one (i:=18) kqz ?_;refine oh_u rfl rfl rfl (o_stP (ys:=kcl (O++[(r_.1,r_.2++[c0.1])]) (V++[.slice a74 (r_.2.length+1) c74])) sz32 rfl rfl rfl ctqz oqz (kcl_set hVl _)) drqz ?_;refine Zby ?_;refine tc_exit ?_;refine q_then_e (q_block_x (q_then_n ?_));refine Zfh ?_;have hlo:(O++[(r_.1,r_.2++[c0.1])]).length=(O++[r_]).length:=(by rw [List.length_append,List.length_append];rfl);exact ⟨_,by omega,i+1,O++[(r_.1,r_.2++[c0.1])],V++[(.slice a74 (r_.2.length+1) c74)],(some ⟨bb8,oo8,none⟩),c8,by omega,by rw [runs_next hq1 hi,hrun,hbya],by rw [List.length_append,List.length_append,hVl];rfl,by rw [hlo];exact hq3,by rw [hlo];omega,λ r hr=>(by rcases List.mem_append.1 hr with h9|h9;exact hq5 r (List.mem_append_left _ h9);rw [List.mem_singleton] at h9;subst h9;show r_.1+(r_.2++[c0.1]).length<=n;rw [List.length_append,List.length_singleton];omega),rfl,by rw [hlo];rfl,rfl,rfl,rfl,rfl,by rw [hlo,List.map_append,show Parts (V++[(.slice a74 (r_.2.length+1) c74)]) (O.map (·.2)++[(r_.1,r_.2++[c0.1])].map (·.2))=Parts V (O.map (·.2))*Sl 1 (.slice a74 (r_.2.length+1) c74) (r_.2.length+1) (bys (r_.2++[c0.1])) from (parts_snoc (x:=r_.2++[c0.1]) (by rw [List.length_map];exact hVl)).trans (by rw [List.length_append,List.length_singleton]),←star_assoc];repeat (first|with_reducible exact dr_refl|apply dr_keep|apply dr_drop)⟩
      . skip
        refine oh_x rfl rfl rfl (o_buildSliceL (k:=1) (vs:=bys [c0.1]) (l:=bys [c0.1]) underlying32 sz5 z5 rfl rfl (by decide) (by decide) (by intro v hv;simp only [bys,b8,List.map_cons,List.map_nil,List.mem_cons,List.not_mem_nil,or_false] at hv;rcases hv with rfl;rfl) rfl) ?_;rintro _ _ ⟨b73,rfl,rfl⟩;refine ⟨by repeat (first|with_reducible exact dr_refl|apply dr_keep|apply dr_drop), ?_⟩;refine th_one (i:=6) kqz ?_;refine oh_v rfl rfl rfl (o_ldP (a:=some ⟨bb8,oo8,none⟩) (xs:=kcl (O++[r_]) (V++[(.slice xb r_.2.length xc)])) p32 rfl sq1z (kcl_l1 hVl)) ?_;refine th_one (i:=15) kqz ?_;refine oh_x rfl rfl rfl (o_apB underlying32 underlying32 sz5 by5 z5 rfl (by decide) (by decide) rfl rfl rfl ctqz rfl rfl oqz (show _=bys (r_.2++[c0.1]) by rw [←bys_append])) ?_;rintro _ _ ⟨a74,c74,rfl,hc74,rfl⟩;refine ⟨by repeat (first|with_reducible exact dr_refl|apply dr_keep|apply dr_drop), ?_⟩;refine tm 16 rfl kqz rfl (o_ixP (a:=some ⟨bb8,oo8,none⟩) underlying160 sz193 rfl rfl oqz nn_some) ?_;refine tm 17 rfl kqz rfl (o_faP (a:=some ⟨bb8,oo8,none⟩) (m:=0) (o:=1) underlying193 rfl rfl sz32 rfl nn_some) ?_;refine th_one (i:=18) kqz ?_;refine oh_u rfl rfl rfl (o_stP (ys:=kcl (O++[(r_.1,r_.2++[c0.1])]) (V++[.slice a74 (r_.2.length+1) c74])) sz32 rfl rfl rfl ctqz oqz (kcl_set hVl _)) drqz ?_;refine Zby ?_;refine tc_exit ?_;refine q_then_e (q_block_x (q_then_n ?_));refine Zfh ?_;have hlo:(O++[(r_.1,r_.2++[c0.1])]).length=(O++[r_]).length:=(by rw [List.length_append,List.length_append];rfl);exact ⟨_,by omega,i+1,O++[(r_.1,r_.2++[c0.1])],V++[(.slice a74 (r_.2.length+1) c74)],(some ⟨bb8,oo8,none⟩),c8,by omega,by rw [runs_next hq1 hi,hrun,hbya],by rw [List.length_append,List.length_append,hVl];rfl,by rw [hlo];exact hq3,by rw [hlo];omega,λ r hr=>(by rcases List.mem_append.1 hr with h9|h9;exact hq5 r (List.mem_append_left _ h9);rw [List.mem_singleton] at h9;subst h9;show r_.1+(r_.2++[c0.1]).length<=n;rw [List.length_append,List.length_singleton];omega),rfl,by rw [hlo];rfl,rfl,rfl,rfl,rfl,by rw [hlo,List.map_append,show Parts (V++[(.slice a74 (r_.2.length+1) c74)]) (O.map (·.2)++[(r_.1,r_.2++[c0.1])].map (·.2))=Parts V (O.map (·.2))*Sl 1 (.slice a74 (r_.2.length+1) c74) (r_.2.length+1) (bys (r_.2++[c0.1])) from (parts_snoc (x:=r_.2++[c0.1]) (by rw [List.length_map];exact hVl)).trans (by rw [List.length_append,List.length_singleton]),←star_assoc];repeat (first|with_reducible exact dr_refl|apply dr_keep|apply dr_drop)⟩
    have hbf:adjB out ((adrF n kd f)[i]'oqz)=false:=(by rw [←hbb0];exact h);refine Zc ?_;refine Zw ?_;refine Zbc ?_;refine Zb4 ?_;refine tv (o_load p153 rfl haqz rfl) ?_;refine tlm ?_;refine tv (o_lookup (ik:= .i64) underlying153 underlying3 z157 rfl rfl haqz) ?_;refine tl_env (d:=84) (v:= .agg (cel0 c0).toArray) (by show (M.get ((((adrF n kd f)[i]'oqz):Nat):Int)).getD _=_;rw [hget];rfl) ?_;refine tv (o_field1 underlying157 rfl p5 rfl rfl) ?_;refine tl_x rfl (o_buildSliceL (k:=1) (vs:=bys [c0.1]) (l:=bys [c0.1]) underlying32 sz5 z5 rfl rfl (by decide) (by decide) (by intro v hv;simp only [bys,b8,List.map_cons,List.map_nil,List.mem_cons,List.not_mem_nil,or_false] at hv;rcases hv with rfl;rfl) rfl) ?_;rintro _ _ ⟨b86,rfl,rfl⟩;refine tl_pre (A':=A*Sl 1 (.slice a5 (kys f kd vis).length c5) (kys f kd vis).length (ints ((adrF n kd f).map λ a:Nat=>(a:Int)))*Parts vs (out.map (·.2))*Sl 2 (.slice a8 out.length c8) out.length (kcl out vs)*Sl 1 (.slice (some ⟨b86,0,none⟩) 1 1) 1 (bys [c0.1])) (λ _ _ h=>sl_new (k:=1) (n:=1) (cap:=1) (xs:=bys [c0.1]) h (by decide) (Nat.le_refl _) rfl) ?_;refine tv (o_bS (l:=[_,_]) (pv_cons wqz (pv_cons wqz pv_nil)) underlying193 z193 (pl193 underlying193) rfl) ?_;refine tl_x rfl (o_buildSliceK (k:=2) (l:=[.int .i64 ((((adrF n kd f)[i]'oqz):Nat):Int),.slice (some ⟨b86,0,none⟩) 1 1]) underlying160 sz193 z193 rfl rfl (by decide)) ?_;rintro _ _ ⟨b88,rfl,rfl⟩;refine tl_x rfl (o_apB underlying160 underlying160 sz193 by193 z193 rfl (by decide) (by decide) rfl rfl rfl ctqz rfl rfl oqz (show _=kcl (out++[(((adrF n kd f)[i]'oqz),[(byF f ((adrF n kd f)[i]'oqz))])]) (vs++[.slice (some ⟨b86,0,none⟩) 1 1]) by rw [kcl_snoc hq2])) ?_;rintro _ _ ⟨a89,c89,rfl,hc89,rfl⟩;refine tl_eq (show _=A*Sl 1 (.slice a5 (kys f kd vis).length c5) (kys f kd vis).length (ints ((adrF n kd f).map λ a:Nat=>(a:Int)))*Parts (vs++[.slice (some ⟨b86,0,none⟩) 1 1]) ((out++[(((adrF n kd f)[i]'oqz),[(byF f ((adrF n kd f)[i]'oqz))])]).map (·.2))*Sl 2 (.slice a89 (out.length+1) c89) (out.length+1) (kcl (out++[(((adrF n kd f)[i]'oqz),[(byF f ((adrF n kd f)[i]'oqz))])]) (vs++[.slice (some ⟨b86,0,none⟩) 1 1])) by rw [List.map_append,show Parts (vs++[.slice (some ⟨b86,0,none⟩) 1 1]) (out.map (·.2)++[(((adrF n kd f)[i]'oqz),[(byF f ((adrF n kd f)[i]'oqz))])].map (·.2))=Parts vs (out.map (·.2))*Sl 1 (.slice (some ⟨b86,0,none⟩) 1 1) 1 (bys [c0.1]) by rw [←hbya];exact parts_snoc (by rw [List.length_map];exact hq2)];ac_rfl) ?_;refine Zgq ?_;exact ⟨_,by omega,i+1,out++[(((adrF n kd f)[i]'oqz),[(byF f ((adrF n kd f)[i]'oqz))])],vs++[.slice (some ⟨b86,0,none⟩) 1 1],a89,c89,by omega,by rw [runs_next hq1 hi];exact adj_f hbf,by rw [List.length_append,List.length_append,hq2];rfl,by rw [List.length_append];exact hc89,by rw [List.length_append,List.length_singleton];omega,λ r hr=>by rcases List.mem_append.1 hr with h9|h9;exact hq5 r h9;rw [List.mem_singleton] at h9;subst h9;show _+1<=n;omega,rfl,by rw [List.length_append,List.length_singleton];rfl,rfl,rfl,rfl,rfl,by rw [List.length_append,List.length_singleton];repeat (first|with_reducible exact dr_refl|apply dr_keep|apply dr_drop)⟩
  obtain rfl:i=(adrF n kd f).length:=by simp at h;omega
  rw [List.take_length] at hq1
  refine Zda ?_;refine Zf ?_;have e9:runsF n kd f=out:=hq1;rw [e9]
  exact ⟨_,_,res1 rfl rfl,Dr.sat drqz,a8,c8,vs,rfl,hq3,hq2,rfl⟩
end Go.Vl

namespace Go.Vl
open Go Go.Proofs Go.Proofs.Tryz
def ovK (f:TF)(q i:Nat)(xs:List Nat):List Nat:=xs.mapIdx λ j x=>if j<i then ((f (q+j)).map (·.1)).getD x else x
theorem ovK_len (f:TF)(q i:Nat)(xs:List Nat):(ovK f q i xs).length=xs.length:=by simp [ovK]
theorem ovK_zero (f:TF)(q:Nat)(xs:List Nat):ovK f q 0 xs=xs:=by
  apply List.ext_getElem?;intro j;unfold ovK;rw [List.getElem?_mapIdx]
  cases xs[j]? <;>simp
theorem ovK_all (f:TF)(q:Nat)(xs:List Nat):ovK f q xs.length xs=ovF f q xs:=by
  apply List.ext_getElem?;intro j;unfold ovK ovF;rw [List.getElem?_mapIdx,List.getElem?_mapIdx]
  cases h:xs[j]? with
  |none=>rfl
  |some x=>obtain ⟨hj,_⟩:=List.getElem?_eq_some_iff.1 h;simp only [Option.map_some];rw [if_pos hj]
theorem ovK_none {f:TF}{q i:Nat}{xs:List Nat}(h:f (q+i)=none):ovK f q (i+1) xs=ovK f q i xs:=by
  apply List.ext_getElem?;intro j;unfold ovK;rw [List.getElem?_mapIdx,List.getElem?_mapIdx]
  cases xs[j]? with
  |none=>rfl
  |some x=>
    simp only [Option.map_some]
    by_cases hj:j=i
    . subst hj;rw [if_pos oqz,if_neg oqz,h];rfl
    by_cases h2:j<i
    . rw [if_pos (show j<i+1 by omega),if_pos h2]
    rw [if_neg (show¬j<i+1 by omega),if_neg h2]
theorem ovK_some {f:TF}{q i:Nat}{xs:List Nat}{c:Nat×Bool}(h:f (q+i)=some c)(hi:i<xs.length):(ovK f q i xs).set i c.1=ovK f q (i+1) xs:=by
  apply List.ext_getElem?;intro j
  rw [List.getElem?_set,ovK_len]
  unfold ovK;rw [List.getElem?_mapIdx,List.getElem?_mapIdx]
  by_cases hj:i=j
  . subst hj;rw [if_pos rfl,if_pos hi,List.getElem?_eq_getElem hi]
    simp only [Option.map_some];rw [if_pos oqz,h];rfl
  rw [if_neg hj]
  cases xs[j]? with
  |none=>rfl
  |some x=>
    simp only [Option.map_some]
    by_cases h2:j<i
    . rw [if_pos (show j<i+1 by omega),if_pos h2]
    rw [if_neg (show¬j<i+1 by omega),if_neg h2]
theorem ext_succ {L:List (Nat×List Nat)}{i:Nat}(h:i<L.length):extX (L.take (i+1))=extX (L.take i)++[((((L.getD i (0,[])).1:Nat):Int),(((L.getD i (0,[])).2.length:Nat):Int))]:=by
  have e:L.getD i (0,[])=L[i]:=(by rw [List.getD_eq_getElem?_getD,List.getElem?_eq_getElem h];rfl);rw [List.take_succ_eq_append_getElem h,e];unfold extX;rw [List.map_append];rfl
theorem ext_len (L:List (Nat×List Nat)):(extX L).length=L.length:=by unfold extX;rw [List.length_map]
theorem xcl_sn (l:List (Int×Int))(x:Int×Int):xcl (l++[x])=xcl l++xcs x:=by unfold xcl;rw [List.flatMap_append];simp
theorem runs12_w {A:SP}{p t mb n:Nat}{over:Bool}{M:MS}{f:TF}{kd:Bool}{L:List (Nat×List Nat)}(ht:Has A t (cl (txcs p mb over) 155))(hmb:Has A mb (mpo .i64 M))(hM:MF M n f)(hn:n<=4194304)(hX:runsF n kd f=L):
    Fn Tryz.prog 117 #[pz t,.bool kd] A (λ r B=>∃a c vs,r= .slice a L.length c/\ L.length<=c/\ vs.length=L.length/\ B=A*Parts vs (L.map (·.2))*Sl 2 (.slice a L.length c) L.length (kcl L vs)):=by
  subst hX;exact runs12_c ht hmb hM hn
attribute [local irreducible] crk crL crc Sl pt ro Dev imgS recS readS recsF rdW rdO rkT Parts rvl recordsS runsL adrF kcl xcl kys runA runsF layF
theorem StoreT_c {A R:SP}{C:SP->SP}{t p lg d mb at_ sz:Nat}{M:MS}{s:DevS}(hc:Ct A (TxA t p lg d mb at_ sz M false s) R C:=by exact cbqz){n:Nat}{f:TF}{a:Option Addr}{c m q:Nat}{xs:List Nat}(hM:MF M n f)(hn:n=s.ls.length*64:=by omega)(ho:s.off=false:=by assumption)(hr:Rs R a (bys xs):=by exact rbqz)(hm:xs.length=m:=by first|assumption|rfl)(hb:∀x∈xs,x<256:=by assumption)(hqm:q+m<=n:=by omega):
    Fn Tryz.prog 54 #[pz t,vn q,.slice a m c] A (λ r B=>∃M2,r= .int .i64 0/\ MF M2 n (layF q xs false f)/\ B=C (TxA t p lg d mb at_ sz M2 false s)):=by
  refine fn_enterW func54 rfl ntmps54 (by simp) ?_;refine Zds ?_;refine Zbc ?_;refine tl_c rfl (o_call bd116 rfl (lay12_c (hc:=hc) (n:=n) (f:=f) (fr:=false) (xs:=xs) (hM:=hM) (hn:=hn) (ho:=ho) (hr:=hr) (hm:=hm) (hb:=hb) (hqm:=hqm))) ?_;rintro _ _ ⟨M2,rfl,hM2,rfl⟩;refine Zf ?_;exact ⟨.int .i64 0,_,res1 rfl rfl,λ _ _ h=>h,M2,rfl,hM2,rfl⟩
theorem FreshT_c {A R:SP}{C:SP->SP}{t p lg d mb at_ sz:Nat}{M:MS}{s:DevS}(hc:Ct A (TxA t p lg d mb at_ sz M false s) R C:=by exact cbqz){n:Nat}{f:TF}{a:Option Addr}{c m q:Nat}{xs:List Nat}(hM:MF M n f)(hn:n=s.ls.length*64:=by omega)(ho:s.off=false:=by assumption)(hr:Rs R a (bys xs):=by exact rbqz)(hm:xs.length=m:=by first|assumption|rfl)(hb:∀x∈xs,x<256:=by assumption)(hqm:q+m<=n:=by omega):
    Fn Tryz.prog 55 #[pz t,vn q,.slice a m c] A (λ r B=>∃M2,r= .int .i64 0/\ MF M2 n (layF q xs true f)/\ B=C (TxA t p lg d mb at_ sz M2 false s)):=by
  refine fn_enterW func55 rfl ntmps55 (by simp) ?_;refine Zds ?_;refine Zbc ?_;refine tl_c rfl (o_call bd116 rfl (lay12_c (hc:=hc) (n:=n) (f:=f) (fr:=true) (xs:=xs) (hM:=hM) (hn:=hn) (ho:=ho) (hr:=hr) (hm:=hm) (hb:=hb) (hqm:=hqm))) ?_;rintro _ _ ⟨M2,rfl,hM2,rfl⟩;refine Zf ?_;exact ⟨.int .i64 0,_,res1 rfl rfl,λ _ _ h=>h,M2,rfl,hM2,rfl⟩
theorem LoadT_c {A R:SP}{C:SP->SP}{t p lg d mb at_ sz:Nat}{M:MS}{s:DevS}(hc:Ct A (TxA t p lg d mb at_ sz M false s) R C:=by exact cbqz){n:Nat}{f:TF}{q m:Nat}(hM:MF M n f)(hn:n=s.ls.length*64:=by omega)(ho:s.off=false:=by assumption)(hqm:q+m<=n:=by omega):
    Fn Tryz.prog 51 #[pz t,vn q,vn m] A (λ r B=>∃a c,r= .tuple #[.slice a m c,.int .i64 0]/\ m<=c/\ B=A*Sl 1 (.slice a m c) m (bys (ovF f q (((imgS s).drop q).take m)))):=by
  refine fn_enterW func51 rfl ntmps51 (by simp) ?_;obtain ⟨rfl,hC⟩:=hc;refine tc_eq (show _=R*pt p (cl (pocs lg d (some t)) 78)*pt lg (cl (lcs11 d at_ sz) 183)*Dev d s*pt t (cl (txcs p mb false) 155)*pt mb (mpo .i64 M) by unfold TxA;rw [if_neg (by decide)];ac_rfl) ?_;refine tc_have (λ _ _ h=>ct_wf2 ctqz h) λ hwf=> ?_
  have htop:=hwf.top;have hil:=imgS_len hwf;obtain ⟨xs,hxs⟩:∃xs,(((imgS s).drop q).take m)=xs:=⟨_,rfl⟩;have hxl:xs.length=m:=(by rw [←hxs,List.length_take,List.length_drop];omega);refine Zc0 ?_;refine tl_c rfl (o_call bd114 rfl (begun12_c (s:=s))) ?_;refine Zg1 ?_;intro h;refine Zbq ?_;refine Zcx ?_;refine Zgh ?_;refine Zbc ?_;refine tl_c rfl (o_call bd115 rfl (Load_c (s:=s) (p:=q) (m:=m))) ?_;rintro _ _ ⟨a29,c29,rfl,hc29,rfl⟩;rw [hxs]
  refine Zdc ?_;refine Zcp ?_;refine Zbh ?_;refine tc_loop (λ kk ρ BB=>∃ (i:Nat),(i<=m)/\ kk=m-i/\ ρ 34=(vn i)/\ ρ 0=(pz t)/\ ρ 1=(vn q)/\ ρ 9= .slice a29 m c29/\ ρ 10= .int .i64 0/\ ρ 33=(vn m)/\ Dr BB (R*pt p (cl (pocs lg d (some t)) 78)*pt lg (cl (lcs11 d at_ sz) 183)*Dev d s*pt t (cl (txcs p mb false) 155)*pt mb (mpo .i64 M)*Sl 1 (.slice a29 m c29) m (bys (ovK f q i xs)))) (m:=m-(0)) ?_ ?_
  . exact ⟨0,by omega,rfl,rfl,rfl,rfl,rfl,rfl,rfl,by rw [ovK_zero];exact dr_refl⟩
  intro k ρ B hI;obtain ⟨i,hp0,hkk1,hE34,hE0,hE1,hE9,hE10,hE33,hBA⟩:=hI;refine tc_pre hBA.sat ?_;clear hBA;refine te 34 hE34 ?_;refine te 0 hE0 ?_;refine te 1 hE1 ?_;refine te 9 hE9 ?_;refine te 10 hE10 ?_;refine te 33 hE33 ?_;refine Zcf ?_;refine tc_cond rfl (λ h=> ?_) (λ h=> ?_)
  . have hi:i<xs.length:=(by simp at h;omega);have hget:=hM.get (q+i);obtain ⟨o,ho9⟩:∃o,f (q+i)=o:=⟨_,rfl⟩;rw [ho9] at hget
    have hkl:=ovK_len f q i xs;refine Zd1 ?_;refine Zs ?_;refine Zgb ?_;refine Zbc ?_;refine tv adqz ?_;refine tl_env (d:=44) (v:=(vn (q+i))) (by first|rfl|(show Value.int .i64 _=_;congr 1;omega)) ?_;refine tv (o_lookupOk (ik:= .i64) underlying153 underlying3 z157 rfl rfl hsqz) ?_;refine tl_env (d:=45) (v:= .tuple #[.agg (cel0 (o.getD (0,false))).toArray,.bool o.isSome]) (by show Value.tuple #[(M.get ((q+i:Nat):Int)).getD _,.bool (M.get ((q+i:Nat):Int)).isSome]=_;rw [hget];cases o<;>rfl) ?_;refine Zbj ?_;refine tl_x rfl (o_alloc z157 rfl) ?_;rintro _ _ ⟨b12,rfl,rfl⟩;refine tl_u rfl (o_stUN (l':=cel0 (o.getD (0,false))) rfl upqz sz157 rfl rfl rfl (by show 2<=2;decide) rfl) ?_;refine Zs ?_;refine nq ?_;refine tc_cut (λ ρ BB=>ρ 0=(pz t)/\ ρ 1=(vn q)/\ ρ 9= .slice a29 m c29/\ ρ 10= .int .i64 0/\ ρ 33=(vn m)/\ ρ 34=(vn i)/\ Dr BB (R*pt p (cl (pocs lg d (some t)) 78)*pt lg (cl (lcs11 d at_ sz) 183)*Dev d s*pt t (cl (txcs p mb false) 155)*pt mb (mpo .i64 M)*Sl 1 (.slice a29 m c29) m (bys (ovK f q (i+1) xs)))) ?_ ?_
    . skip
      refine tc_cond rfl (λ h=> ?_) (λ h=> ?_)
      . obtain ⟨c0,rfl⟩:∃c0,o=some c0:=by cases o<;>simp at h ⊢
        have hc8:=hM.by_ _ _ ho9;refine Zdr ?_;refine tv (o_fieldAddr (o:=0) underlying157 rfl rfl sz5 rfl) ?_;refine tv (by first|exact o_load p5 rfl hsqz rfl|exact o_loadC p5 rfl (by assumption)) ?_;refine tv (o_ixP1 underlying32 sz5 rfl rfl oqz (nn_rs (xs:=bys (ovK f q i xs)) sq1z (by rw [bys_length];omega))) ?_;refine tl_u rfl (o_stP (ys:=bys ((ovK f q i xs).set i c0.1)) sz5 rfl rfl rfl ctqz oqz (bys_set _ _ _)) ?_;refine tl_nil ?_;exact ⟨rfl,rfl,rfl,rfl,rfl,rfl,by first|(rw [ovK_none ho9];exact dr_drop dr_refl)|(rw [←ovK_some ho9 hi];repeat (first|with_reducible exact dr_refl|apply dr_keep|apply dr_drop))⟩
      obtain rfl:o=none:=by cases o<;>simp at h ⊢
      refine tc_skip ?_;exact ⟨rfl,rfl,rfl,rfl,rfl,rfl,by first|(rw [ovK_none ho9];exact dr_drop dr_refl)|(rw [←ovK_some ho9 hi];repeat (first|with_reducible exact dr_refl|apply dr_keep|apply dr_drop))⟩
    intro ρ B hI;obtain ⟨hE0,hE1,hE9,hE10,hE33,hE34,hBA⟩:=hI;refine q_block_n (q_then_n ?_);refine tc_pre hBA.sat ?_;clear hBA;refine te 0 hE0 ?_;refine te 1 hE1 ?_;refine te 9 hE9 ?_;refine te 10 hE10 ?_;refine te 33 hE33 ?_;refine te 34 hE34 ?_;refine Zfh ?_;exact ⟨_,by omega,i+1,by omega,rfl,rfl,rfl,rfl,rfl,rfl,rfl,drqz⟩
  obtain rfl:i=m:=by simp at h;omega
  refine Zda ?_;refine tlm ?_;refine Zdd ?_;have e9:ovK f q i xs=ovF f q xs:=(by rw [←hxl];exact ovK_all f q xs);rw [e9]
  exact ⟨_,R*TxA t p lg d mb at_ sz M false s*Sl 1 (.slice a29 i c29) i (bys (ovF f q xs)),res2 rfl rfl rfl,λ g w h=>(Dr.sat (A':=R*pt p (cl (pocs lg d (some t)) 78)*pt lg (cl (lcs11 d at_ sz) 183)*Dev d s*pt t (cl (txcs p mb false) 155)*pt mb (mpo .i64 M)*Sl 1 (.slice a29 i c29) i (bys (ovF f q xs))) drqz g w h).perm (by unfold TxA;rw [if_neg (by decide)];ac_rfl),a29,c29,rfl,hc29,rfl⟩
theorem Zc5 {p r:Prop}(k:r)(h:Kq r->p:=by intro k;refine tv (o_fieldAddr (o:=0) underlying193 rfl rfl sz3 rfl) ?_;refine tv (o_load p3 rfl hsqz rfl) ?_;exact k.o):p:=h ⟨k⟩
theorem Zel {p r:Prop}(k:r)(h:Kq r->p:=by intro k;refine tv (o_fieldAddr (o:=1) underlying193 rfl rfl sz32 rfl) ?_;refine tv (o_load p32 rfl hsqz rfl) ?_;exact k.o):p:=h ⟨k⟩
theorem Extents12_c {A:SP}{p t mb n:Nat}{M:MS}{f:TF}{L:List (Nat×List Nat)}(ht:Has A t (cl (txcs p mb false) 155):=by exact hbqz)(hmb:Has A mb (mpo .i64 M):=by exact hbqz)(hM:MF M n f)(hn:n<=4194304:=by omega)(hX:runsF n false f=L)(hLl:L.length<=4194304):
    Fn Tryz.prog 118 #[pz t] A (λ r B=>∃a c,r= .slice a L.length c/\ L.length<=c/\ B=A*Sl 2 (.slice a L.length c) L.length (xcl (extX L))):=by
  refine fn_enterW func118 rfl ntmps118 (by simp) ?_;refine Zbl ?_;refine Zek ?_;refine tl_bool (d:=8) rfl dbq (sbq ?_);intro h;refine tlm ?_;refine Zu ?_;refine tv (o_load p66 rfl ht rfl) ?_;refine tv (o_eqp underlying66 rfl rfl) ?_;refine Zbb ?_;refine tl_bool (d:=15) rfl dbq (sbq ?_);intro h;refine Zff ?_;refine tv (o_fieldAddr (o:=2) underlying155 rfl rfl sz4 rfl) ?_;refine tv (o_load p4 rfl ht rfl) ?_;refine Zeh ?_;intro h;refine Zc ?_;refine Zbl ?_;refine tl_c rfl (o_call bd117 rfl (runs12_w ht hmb hM hn hX)) ?_;rintro _ _ ⟨a22,c22,vs,rfl,hc22,hvs,rfl⟩;refine tl_have (λ _ _ h=>parts_getD hvs h.left) λ hps=> ?_
  refine tv (o_len underlying160 rfl) ?_;refine Zet ?_;refine tc_pre (A':=A*Parts vs (L.map (·.2))*Sl 2 (.slice a22 L.length c22) L.length (kcl L vs)*Sl 2 (.slice none 0 0) 0 []) (λ _ _ h=>sl_nil h) ?_;refine tc_loop (λ kk ρ BB=>∃ (i:Nat) (a3:Option Addr) (c3:Nat),(i<=L.length)/\ (i<=c3)/\ kk=L.length-i/\ ρ 3= .slice a3 i c3/\ ρ 24=(vn i)/\ ρ 22= .slice a22 L.length c22/\ ρ 23=(vn L.length)/\ Dr BB (A*Parts vs (L.map (·.2))*Sl 2 (.slice a22 L.length c22) L.length (kcl L vs)*Sl 2 (.slice a3 i c3) i (xcl (extX (L.take i))))) (m:=L.length-(0)) ?_ ?_
  . exact ⟨0,none,0,by omega,by omega,rfl,rfl,rfl,rfl,rfl,by rw [List.take_zero,show extX []=[] from rfl,xcl_nil];exact dr_refl⟩
  intro k ρ B hI;obtain ⟨i,a3,c3,hp0,hp1,hkk1,hE3,hE24,hE22,hE23,hBA⟩:=hI;refine tc_pre hBA.sat ?_;clear hBA;refine te 3 hE3 ?_;refine te 24 hE24 ?_;refine te 22 hE22 ?_;refine te 23 hE23 ?_;refine Zcf ?_;refine tc_cond rfl (λ h=> ?_) (λ h=> ?_)
  . have hi:i<L.length:=(by simp at h;omega);obtain ⟨xb,xc,hv,hxc⟩:=hps i hi;have hkat:=kcl_at hvs hi;rw [hv] at hkat
    refine Zec ?_;refine tv (o_ixP (a:=a22) underlying160 sz193 rfl rfl oqz (nn_rs (xs:=kcl L vs) sq1z (λ _=>by rw [kcl_len hvs];omega))) ?_;refine tv (o_ldPN (a:=a22) (xs:=kcl L vs) (vs:=[.int .i64 (((L.getD i (0,[])).1:Nat):Int),.slice xb (L.getD i (0,[])).2.length xc]) a193 sz193 rfl sq1z hkat rfl (by decide)) ?_;refine tl_x rfl (o_alloc z193 rfl) ?_;rintro _ _ ⟨b5,rfl,rfl⟩;refine tl_u rfl (o_stUN (l':=[.int .i64 (((L.getD i (0,[])).1:Nat):Int),.slice xb (L.getD i (0,[])).2.length xc]) rfl upqz sz193 rfl rfl rfl (by show 2<=2;decide) rfl) ?_;refine nq ?_;refine Zw ?_;refine Zc5 ?_;refine Zel ?_;refine tv (o_len underlying32 rfl) ?_;refine tv (o_bS (l:=[_,_]) (pv_cons wqz (pv_cons wqz pv_nil)) underlying195 z195 (pl195 underlying195) rfl) ?_;refine tl_x rfl (o_buildSliceK (k:=2) (l:=xcs ((((L.getD i (0,[])).1:Nat):Int),(((L.getD i (0,[])).2.length:Nat):Int))) underlying162 sz195 z195 rfl rfl (by decide)) ?_;rintro _ _ ⟨b35,rfl,rfl⟩;refine tl_x rfl (o_apB underlying162 underlying162 sz195 by195 z195 rfl (by decide) (by decide) rfl rfl rfl ctqz rfl rfl oqz rfl) ?_;rintro _ _ ⟨a36,c36,rfl,hc36,rfl⟩;refine Zgq ?_;exact ⟨_,by omega,i+1,_,_,by omega,hc36,rfl,rfl,rfl,rfl,rfl,by rw [ext_succ hi,xcl_sn];repeat (first|with_reducible exact dr_refl|apply dr_keep|apply dr_drop)⟩
  obtain rfl:i=L.length:=by simp at h;omega
  rw [List.take_length]
  refine Zda ?_;refine Zf ?_;exact ⟨_,_,res1 rfl rfl,Dr.sat drqz,a3,c3,rfl,hp1,rfl⟩
theorem DropT_c {A R:SP}{C:SP->SP}{t p lg d mb at_ sz:Nat}{M:MS}{s:DevS}(hc:Ct A (TxA t p lg d mb at_ sz M false s) R C:=by exact cbqz):
    Fn Tryz.prog 59 #[pz t] A (λ r B=>r= .int .i64 0/\ B=C (TxA t p lg d mb at_ sz M.clr true s)):=by
  refine fn_enterW func59 rfl ntmps59 (by simp) ?_;obtain ⟨rfl,hC⟩:=hc;refine tc_eq (show _=R*pt p (cl (pocs lg d (some t)) 78)*pt lg (cl (lcs11 d at_ sz) 183)*Dev d s*pt t (cl (txcs p mb false) 155)*pt mb (mpo .i64 M) by unfold TxA;rw [if_neg (by decide)];ac_rfl) ?_;refine tc_have (λ _ _ h=>ct_wf2 ctqz h) λ hwf=> ?_
  have htop:=hwf.top;refine Zb9 ?_;refine Zr ?_;refine Zb ?_;refine Zf9 ?_;intro h;refine tlm ?_;refine Zcx ?_;refine Zei ?_;refine Zcz ?_;intro h;refine Zc6 ?_;refine tv (o_load p4 rfl hsqz rfl) ?_;refine Zcz ?_;intro h;refine Zdi ?_;refine Zb ?_;refine tl_c rfl (o_call bd123 rfl (end12_c (R:=R*pt lg (cl (lcs11 d at_ sz) 183)*Dev d s) (p:=p) (lg:=lg) (d:=d) (mb:=mb) (M:=M) (over:=false) (hA:=by first|rfl|ac_rfl))) ?_;refine Zdo ?_;refine Zdn ?_;exact ⟨.int .i64 0,_,res1 rfl rfl,λ g w h=>by rw [hC];exact h.perm (by unfold TxA;rw [if_pos rfl];ac_rfl),rfl,rfl⟩
theorem DropO_c {A:SP}{p t mb:Nat}(ht:Has A t (cl (txcs p mb true) 155):=by exact hbqz):
    Fn Tryz.prog 59 #[pz t] A (λ r B=>r= .int .i64 3/\ A=B):=by
  refine fn_enterW func59 rfl ntmps59 (by simp) ?_;refine Zb9 ?_;refine Zr ?_;refine Zb ?_;refine Zf9 ?_;intro h;refine tlm ?_;refine Zu ?_;refine tv (o_load p66 rfl ht rfl) ?_;refine Zei ?_;refine Zcz ?_;intro h;refine Zc6 ?_;refine tv (o_load p4 rfl ht rfl) ?_;refine Za ?_;refine tc_cond rfl (sbq ?_) dbq;intro h;refine Zf3 ?_;exact ⟨.int .i64 3,_,res1 rfl rfl,Dr.sat drqz,rfl,rfl⟩
end Go.Vl

namespace Go.Vl
open Go Go.Proofs Go.Proofs.Tryz
theorem o_max2 {P:Program}{n:Nat}{ρ:Env}{A:SP}{dst:Option Tmp}{ty t t':TypeId}{pos:String}{after:Array Edge}{gd:Option (Nat×Bool)}{x y:Operand}{a b:Nat}(hu:P.underlying ty=some (.int .i64))(hx:ev n ρ x=(vn a))(hy:ev n ρ y=(vn b)):
    OpV P n ρ A ⟨dst,.call { callee:= .builtin .max,args:= #[x,y],argTypes:= #[t,t'] },ty,pos,after,gd⟩ ((vn (max a b))):=λ g w hs=>by
  simp only [execOp,resolve,List.map_toArray,List.map_cons,List.map_nil,hx,hy]
  rw [run_bind (w':=w) (a:=⟨.builtin .max #[t,t'] ty _,#[vn a,vn b]⟩) (by rfl)]
  simp only [invoke,builtin]
  rw [run_bind (w':=w) (a:=(vn (max a b)))]
  . rfl
  have e:(if (b:Int)>(a:Int) then (b:Int) else (a:Int))=((max a b:Nat):Int):=(by split<;>omega)
  simp [Builtin.max_,Builtin.max2,List.foldlM,Sem.run_bind,←e]
theorem drop_getD {L:List (Nat×List Nat)}{i:Nat}(h:i<L.length):L.drop i=L.getD i (0,[])::L.drop (i+1):=by
  rw [List.drop_eq_getElem_cons h,List.getD_eq_getElem?_getD,List.getElem?_eq_getElem h];rfl
theorem stoL_cons (r:Nat×List Nat)(l:List (Nat×List Nat))(s:DevS):stoL (r::l) s=if (sto (r.1:Nat) r.2 s).1≠0 then sto (r.1:Nat) r.2 s else stoL l (sto (r.1:Nat) r.2 s).2:=rfl
theorem stoL_e {L:List (Nat×List Nat)}{i:Nat}{s s2:DevS}{e:Int}(hi:i<L.length)(h:sto ((L.getD i (0,[])).1:Nat) (L.getD i (0,[])).2 s=(e,s2))(he:e≠0):stoL (L.drop i) s=(e,s2):=by
  rw [drop_getD hi,stoL_cons,h,if_pos he]
theorem stoL_o {L:List (Nat×List Nat)}{i:Nat}{s s2:DevS}(hi:i<L.length)(h:sto ((L.getD i (0,[])).1:Nat) (L.getD i (0,[])).2 s=(0,s2)):stoL (L.drop i) s=stoL (L.drop (i+1)) s2:=by
  rw [drop_getD hi,stoL_cons,h,if_neg (by simp)]
theorem linR_at {L:List (Nat×List Nat)}{j dn:Nat}(h:j<L.length):linR (L.drop j) dn=(List.range ((((L.getD j (0,[])).1+(L.getD j (0,[])).2.length-1)/64)+1-(max ((L.getD j (0,[])).1/64) dn))).map (λ i=>(max ((L.getD j (0,[])).1/64) dn)+i)++linR (L.drop (j+1)) (max dn ((((L.getD j (0,[])).1+(L.getD j (0,[])).2.length-1)/64)+1)):=by
  rw [drop_getD h];rfl
theorem flLs_cons (q:Nat)(l:List Nat)(s:DevS):flLs (q::l) s=if (fl1 ((q*64:Nat):Int) s).1≠0 then fl1 ((q*64:Nat):Int) s else flLs l (fl1 ((q*64:Nat):Int) s).2:=rfl
theorem range_step {k q:Nat}(h:q<k):(List.range (k-q)).map (λ i=>q+i)=q::(List.range (k-(q+1))).map (λ i=>q+1+i):=by
  rw [show k-q=(k-(q+1))+1 by omega,List.range_succ_eq_map,List.map_cons,List.map_map]
  congr 1
  apply List.map_congr_left
  intro i _
  show q+(i+1)=q+1+i
  omega
theorem flLs_e {q:Nat}{l:List Nat}{s s2:DevS}{e:Int}(h:fl1 ((q*64:Nat):Int) s=(e,s2))(he:e≠0):flLs (q::l) s=(e,s2):=by rw [flLs_cons,h,if_pos he]
theorem flLs_o {q:Nat}{l:List Nat}{s s2:DevS}(h:fl1 ((q*64:Nat):Int) s=(0,s2)):flLs (q::l) s=flLs l s2:=by rw [flLs_cons,h,if_neg (by simp)]
theorem writeT_e {L:List (Nat×List Nat)}{s s1:DevS}{e:Int}(h:stoL L s=(e,s1))(he:e≠0):writeT L s=(e,s1):=by unfold writeT;rw [h,if_pos he]
theorem writeT_o {L:List (Nat×List Nat)}{s s1:DevS}{X:Int×DevS}(h:stoL L s=(0,s1))(h2:flLs (linR L 0) s1=X):writeT L s=X:=by unfold writeT;rw [h,if_neg (by simp),h2]
def RunW (n:Nat)(L:List (Nat×List Nat)):Prop:=∀r∈L,1<=r.2.length/\ r.1+r.2.length<=n/\∀b∈r.2,b<256
attribute [local irreducible] crk crL crc Sl pt ro Dev imgS recS readS recsF rdW rdO rkT Parts rvl recordsS runsL adrF kcl xcl kys runA runsF layF linR flLs stoL
theorem Zfq {p r:Prop}(k:r)(h:Kq r->p:=by intro k;refine tlm ?_;refine tv (by first|exact o_mulI rfl rfl oqz|exact o_mul rfl rfl) ?_;exact k.o):p:=h ⟨k⟩
theorem write12_c {A R:SP}{C:SP->SP}{d:Nat}{s:DevS}(hc:Ct A (Dev d s) R C:=by exact cbqz){p lg t mb:Nat}{ov:Option Nat}{over:Bool}(ht:Has R t (cl (txcs p mb over) 155):=by exact hbqz)(hp:Has R p (cl (pocs lg d ov) 78):=by exact hbqz){a:Option Addr}{c m n:Nat}{L:List (Nat×List Nat)}{vs:List Value}(hr:Rs R a (kcl L vs):=by exact rbqz)(hvs:vs.length=L.length:=by assumption)(hps:PsR R L vs)(hcp:∀k,k<L.length->∃b c,vs.getD k (.slice none 0 0)= .slice b (L.getD k (0,[])).2.length c/\ (L.getD k (0,[])).2.length<=c)(hW:RunW n L)(hn:n=s.ls.length*64:=by omega)(hm:L.length=m:=by first|assumption|rfl)(hml:m<=4194304:=by omega)(hroom:Room (sumL L) s:=by assumption):
    Fn Tryz.prog 119 #[pz t,.slice a m c] A (λ r B=>∃e s2,writeT L s=(e,s2)/\ r= .int .i64 e/\ B=C (Dev d s2)):=by
  refine fn_enterW func119 rfl ntmps119 (by simp) ?_;obtain ⟨rfl,hC⟩:=hc;refine tc_have (λ _ _ h=>ct_wf2 ctqz h) λ hwf=> ?_
  have htop:=hwf.top;refine Zds ?_;refine Zu ?_;refine tv (o_load p66 rfl haqz rfl) ?_;refine Zbr ?_;refine tv (o_load p28 rfl haqz rfl) ?_;refine Zp ?_;refine tv (o_len underlying160 rfl) ?_;refine Zet ?_;refine tc_loop (λ kk ρ BB=>∃ (i:Nat) (s1:DevS),(i<=m)/\ (stoL (L.drop i) s1=stoL L s)/\ (s1.ls.length=s.ls.length)/\ (Room (sumL (L.drop i)) s1)/\ kk=m-i/\ ρ 23=(vn i)/\ ρ 1= .slice a m c/\ ρ 5=(pz d)/\ ρ 21= .slice a m c/\ ρ 22=(vn m)/\ Dr BB (R*Dev d s1)) (m:=m-(0)) ?_ ?_
  . exact ⟨0,s,by omega,rfl,rfl,by rw [List.drop_zero];exact hroom,rfl,rfl,rfl,rfl,rfl,rfl,drqz⟩
  intro k ρ B hI;obtain ⟨i,s1,hp0,hp1,hp2,hp3,hkk1,hE23,hE1,hE5,hE21,hE22,hBA⟩:=hI;refine tc_pre hBA.sat ?_;clear hBA;refine te 23 hE23 ?_;refine te 1 hE1 ?_;refine te 5 hE5 ?_;refine te 21 hE21 ?_;refine te 22 hE22 ?_;refine Zcf ?_;refine tc_cond rfl (λ h=> ?_) (λ h=> ?_)
  . have hi:i<L.length:=(by simp at h;omega);obtain ⟨hw1_,hw2_,hwb⟩:=hW _ (getD_mem hi);obtain ⟨xb,xc,hv,hrb,hrl⟩:=hps i hi;obtain ⟨xb2,xc2,hv2,hxc⟩:=hcp i hi;rw [hv] at hv2
    simp only [Value.slice.injEq] at hv2
    obtain ⟨rfl,_,rfl⟩:=hv2;have hkat:=kcl_at hvs hi;rw [hv] at hkat
    refine tc_have (λ _ _ h=>ct_wf2 ctqz h) λ hw1=> ?_
    refine Zec ?_;refine tv (o_ixP (a:=a) underlying160 sz193 rfl rfl oqz (nn_rs (xs:=kcl L vs) (by repeat (first|exact hr|apply Rs.left)) (λ _=>by rw [kcl_len hvs];omega))) ?_;refine tv (o_ldPN (a:=a) (xs:=kcl L vs) (vs:=[.int .i64 (((L.getD i (0,[])).1:Nat):Int),.slice xb (L.getD i (0,[])).2.length xc]) a193 sz193 rfl (by repeat (first|exact hr|apply Rs.left)) hkat rfl (by decide)) ?_;refine tl_x rfl (o_alloc z193 rfl) ?_;rintro _ _ ⟨b7,rfl,rfl⟩;refine tl_u rfl (o_stUN (l':=[.int .i64 (((L.getD i (0,[])).1:Nat):Int),.slice xb (L.getD i (0,[])).2.length xc]) rfl upqz sz193 rfl rfl rfl (by show 2<=2;decide) rfl) ?_;refine nq ?_;refine Zb ?_;refine Zc5 ?_;refine Zel ?_;refine tl_c rfl (o_call bd154 rfl (Store_c (s:=s1) (p:=(((L.getD i (0,[])).1:Nat):Int)) (xs:=(L.getD i (0,[])).2) (hr:=by repeat (first|exact hrb|apply Rs.left)) (hm:=rfl) (hb:=hwb) (hroom:=λ _ l hl=>by have h9:=hp3 l hl;rw [drop_getD hi,sumL_cons] at h9;omega))) ?_;rintro _ _ ⟨e32,s32,hs32,rfl,rfl⟩;refine Zdy ?_;refine tc_cond rfl (λ h=> ?_) (λ h=> ?_)
    . have he0:e32≠0:=(by simpa using h);refine Zb ?_;refine Zce ?_;exact ⟨.int .i64 (e32),C (Dev d s32),res1 rfl rfl,λ _ _ h=>by rw [hC];exact (Dr.sat (A':=R*Dev d s32) drqz) _ _ h,e32,s32,writeT_e (by rw [←hp1];exact stoL_e hi hs32 he0) he0,rfl,rfl⟩
    obtain rfl:e32=0:=by simpa using h
    refine Zd7 ?_;refine Zco ?_;exact ⟨_,by omega,i+1,_,by omega,by rw [←hp1];exact (stoL_o hi hs32).symm,by have h9:=sto_len (((L.getD i (0,[])).1:Nat):Int) (L.getD i (0,[])).2 s1;rw [hs32] at h9;exact h9.trans hp2,sto_room hs32 hw1 hwb (by rw [Nat.add_comm,←sumL_cons,←drop_getD hi];exact hp3),rfl,rfl,rfl,rfl,rfl,rfl,drqz⟩
  obtain rfl:i=m:=by simp at h;omega
  have hst:stoL L s=(0,s1):=(by rw [←hp1,List.drop_eq_nil_of_le oqz];unfold stoL;rfl);refine Zg ?_;refine Zbl ?_;refine tv (o_len underlying160 rfl) ?_;refine Zet ?_;refine tc_loop (λ kk ρ BB=>∃ (j:Nat) (dn:Nat) (s2:DevS),(j<=i)/\ (flLs (linR (L.drop j) dn) s2=flLs (linR L 0) s1)/\ (s2.ls.length=s.ls.length)/\ (dn<=4194304)/\ kk=i-j/\ ρ 9= .int .i64 ((dn:Int)-1)/\ ρ 39=(vn j)/\ ρ 5=(pz d)/\ ρ 37= .slice a i c/\ ρ 38=(vn i)/\ Dr BB (R*Dev d s2)) (m:=i-(0)) ?_ ?_
  . exact ⟨0,0,s1,by omega,rfl,hp2,by omega,rfl,rfl,rfl,rfl,rfl,rfl,drqz⟩
  intro k ρ B hI;obtain ⟨j,dn,s2,hq0,hq1,hq2,hq3,hkk2,hE9,hE39,hE5,hE37,hE38,hBA⟩:=hI;refine tc_pre hBA.sat ?_;clear hBA;refine te 9 hE9 ?_;refine te 39 hE39 ?_;refine te 5 hE5 ?_;refine te 37 hE37 ?_;refine te 38 hE38 ?_;refine Zcf ?_;refine tc_cond rfl (λ h=> ?_) (λ h=> ?_)
  . have hj:j<L.length:=(by simp at h;omega);obtain ⟨hw1_,hw2_,hwb⟩:=hW _ (getD_mem hj);obtain ⟨xb,xc,hv,hxc⟩:=hcp j hj;have hkat:=kcl_at hvs hj;rw [hv] at hkat
    have hla:=linR_at (dn:=dn) hj;rw [hla] at hq1
    refine Zec ?_;refine tv (o_ixP (a:=a) underlying160 sz193 rfl rfl oqz (nn_rs (xs:=kcl L vs) (by repeat (first|exact hr|apply Rs.left)) (λ _=>by rw [kcl_len hvs];omega))) ?_;refine tv (o_ldPN (a:=a) (xs:=kcl L vs) (vs:=[.int .i64 (((L.getD j (0,[])).1:Nat):Int),.slice xb (L.getD j (0,[])).2.length xc]) a193 sz193 rfl (by repeat (first|exact hr|apply Rs.left)) hkat rfl (by decide)) ?_;refine tl_x rfl (o_alloc z193 rfl) ?_;rintro _ _ ⟨b11,rfl,rfl⟩;refine tl_u rfl (o_stUN (l':=[.int .i64 (((L.getD j (0,[])).1:Nat):Int),.slice xb (L.getD j (0,[])).2.length xc]) rfl upqz sz193 rfl rfl rfl (by show 2<=2;decide) rfl) ?_;refine Zf4 ?_;refine Zc5 ?_;refine tv (o_quoN (b:=64) rfl rfl oqz) ?_;refine tlm ?_;refine tv (o_addI rfl rfl oqz) ?_;refine tl_env (d:=47) (v:=(vn dn)) (by show Value.int .i64 _=_;congr 1;omega) ?_;refine tv (o_max2 underlying3 rfl rfl) ?_;refine Za ?_;refine tc_block ?_;refine tc_loop (λ kk ρ BB=>∃ (q:Nat) (dq:Nat) (s3:DevS),((max ((L.getD j (0,[])).1/64) dn)<=q)/\ (dq=if q=(max ((L.getD j (0,[])).1/64) dn) then dn else q)/\ (q<=max (max ((L.getD j (0,[])).1/64) dn) ((((L.getD j (0,[])).1+(L.getD j (0,[])).2.length-1)/64)+1))/\ (flLs ((List.range ((((L.getD j (0,[])).1+(L.getD j (0,[])).2.length-1)/64)+1-q)).map (λ i=>q+i)++linR (L.drop (j+1)) (max dn ((((L.getD j (0,[])).1+(L.getD j (0,[])).2.length-1)/64)+1))) s3=flLs (linR L 0) s1)/\ (s3.ls.length=s.ls.length)/\ kk=(((L.getD j (0,[])).1+(L.getD j (0,[])).2.length-1)/64)+1-q/\ ρ 9= .int .i64 ((dq:Int)-1)/\ ρ 12=(vn q)/\ ρ 5=(pz d)/\ ρ 11=(pz b11)/\ ρ 37= .slice a i c/\ ρ 38=(vn i)/\ ρ 39=(vn j)/\ Dr BB (R*Dev d s3*pt b11 (cl [.int .i64 (((L.getD j (0,[])).1:Nat):Int),.slice xb (L.getD j (0,[])).2.length xc] 193))) (m:=(((L.getD j (0,[])).1+(L.getD j (0,[])).2.length-1)/64)+1-((max ((L.getD j (0,[])).1/64) dn))) ?_ ?_
    . exact ⟨(max ((L.getD j (0,[])).1/64) dn),dn,s2,by omega,by rw [if_pos rfl],by omega,hq1,hq2,rfl,rfl,rfl,rfl,rfl,rfl,rfl,rfl,drqz⟩
    intro k ρ B hI;obtain ⟨q,dq,s3,ht0,ht1,ht2,ht3,ht4,hkk3,hE9,hE12,hE5,hE11,hE37,hE38,hE39,hBA⟩:=hI;refine tc_pre hBA.sat ?_;clear hBA;refine te 9 hE9 ?_;refine te 12 hE12 ?_;refine te 5 hE5 ?_;refine te 11 hE11 ?_;refine te 37 hE37 ?_;refine te 38 hE38 ?_;refine te 39 hE39 ?_;refine Ze ?_;refine Zc5 ?_;refine Zel ?_;refine tv (o_len underlying32 rfl) ?_;refine tv (o_addI rfl rfl oqz) ?_;refine tv (o_subI rfl rfl oqz) ?_;refine tl_env (d:=56) (v:= .int .i64 (((L.getD j (0,[])).1+(L.getD j (0,[])).2.length-1:Nat):Int)) (by show Value.int .i64 _=_;congr 1;omega) ?_;refine tv (o_quoN (b:=64) rfl rfl oqz) ?_;refine tv (o_leq rfl rfl) ?_;refine nq ?_;refine tc_cond rfl (λ h=> ?_) (λ h=> ?_)
    . have hqh:q<=(((L.getD j (0,[])).1+(L.getD j (0,[])).2.length-1)/64):=(by have h9:=of_decide_eq_true h;omega);refine Zbe ?_;refine Ze ?_;refine Zfq ?_;refine tl_env (d:=63) (v:=(vn (q*64))) (by first|(show Value.int .i64 _=_;congr 1;done)|(show Value.int .i64 _=_;congr 1;omega)) ?_;refine tl_c rfl (o_call bd155 rfl (Flush_c (s:=s3) (p:=((q*64:Nat):Int)))) ?_;rintro _ _ ⟨e64,s64,hs64,rfl,rfl⟩;refine Zdy ?_;refine tc_cond rfl (λ h=> ?_) (λ h=> ?_)
      . have he0:e64≠0:=(by simpa using h);refine Zb ?_;refine Zf ?_;refine q_then_r (q_block_r (q_then_r (q_then_r (q_block_r (q_block_r (q_then_r (q_then_r (q_block_r (q_then_r ?_)))))))));exact ⟨.int .i64 (e64),C (Dev d s64),res1 rfl rfl,λ _ _ h=>by rw [hC];exact (Dr.sat (A':=R*Dev d s64) drqz) _ _ h,e64,s64,writeT_o hst (by rw [←ht3,range_step (show q<(((L.getD j (0,[])).1+(L.getD j (0,[])).2.length-1)/64)+1 by omega),List.cons_append];exact flLs_e hs64 he0),rfl,rfl⟩
      obtain rfl:e64=0:=by simpa using h
      refine Zc ?_;refine Zw ?_;refine Zeu ?_;refine Zde ?_;exact ⟨_,by omega,q+1,q+1,_,by omega,by rw [if_neg oqz],by omega,by rw [←ht3,range_step (show q<(((L.getD j (0,[])).1+(L.getD j (0,[])).2.length-1)/64)+1 by omega),List.cons_append];exact (flLs_o hs64).symm,by have h9:=fl1_len ((q*64:Nat):Int) s3;rw [hs64] at h9;exact h9.trans ht4,rfl,by show Value.int .i64 _=_;congr 1;omega,rfl,rfl,rfl,rfl,rfl,rfl,drqz⟩
    have hqh:¬q<=(((L.getD j (0,[])).1+(L.getD j (0,[])).2.length-1)/64):=(by have h9:=of_decide_eq_false h;omega);have hdq:dq=max dn ((((L.getD j (0,[])).1+(L.getD j (0,[])).2.length-1)/64)+1):=(by rw [ht1];split<;>omega);rw [show (((L.getD j (0,[])).1+(L.getD j (0,[])).2.length-1)/64)+1-q=0 by omega,List.range_zero,List.map_nil,List.nil_append] at ht3
    refine Zfw ?_;refine Zfh ?_;exact ⟨_,by omega,j+1,dq,s3,by omega,by rw [hdq];exact ht3,ht4,by omega,rfl,rfl,rfl,rfl,rfl,rfl,drqz⟩
  obtain rfl:j=i:=by simp at h;omega
  rw [List.drop_eq_nil_of_le (show L.length<=j by omega)] at hq1
  refine Zg ?_;refine Zdn ?_;exact ⟨.int .i64 (0),C (Dev d s2),res1 rfl rfl,λ _ _ h=>by rw [hC];exact (Dr.sat (A':=R*Dev d s2) drqz) _ _ h,0,s2,writeT_o hst (by rw [←hq1];unfold linR flLs;rfl),rfl,rfl⟩
end Go.Vl

namespace Go.Vl
open Go Go.Proofs Go.Proofs.Tryz
structure RunP (n k:Nat) (out:List (Nat×List Nat)):Prop where
  sum:sumL out=k
  len:out.length<=k
  ok:RunW n out
theorem sumL_app (a b:List (Nat×List Nat)):sumL (a++b)=sumL a+sumL b:=by unfold sumL;rw [List.map_append,List.sum_append]
theorem runP_step {n k a:Nat}{f:TF}{out:List (Nat×List Nat)}(h:RunP n k out)(ha:a<n)(hb:byF f a<256):RunP n (k+1) (runA f out a):=by
  have h1:∀x:Nat,sumL [(x,[byF f a])]=1:=λ x=>rfl
  cases hj:adjB out a with
  |true=>
    obtain ⟨O,r,rfl,hadj,hrun⟩:=adj_t (f:=f) hj;rw [hrun]
    have hs:=h.sum;have hl:=h.len;rw [sumL_app] at hs
    rw [List.length_append,List.length_singleton] at hl
    obtain ⟨g1,g2,g3⟩:=h.ok r (by simp);have e1:∀y:List Nat,sumL [(r.1,y)]=y.length:=λ y=>by unfold sumL;simp
    have e2:sumL [r]=r.2.length:=(by unfold sumL;simp);refine ⟨by rw [sumL_app,e1,List.length_append,List.length_singleton];rw [e2] at hs;omega,by rw [List.length_append,List.length_singleton];omega,λ x hx=> ?_⟩
    rcases List.mem_append.1 hx with h9|h9
    . exact h.ok x (List.mem_append_left _ h9)
    rw [List.mem_singleton] at h9
    subst h9;refine ⟨by simp,by show r.1+(r.2++[byF f a]).length<=n;rw [List.length_append,List.length_singleton];omega,λ b hb'=> ?_⟩
    rcases List.mem_append.1 hb' with h8|h8
    . exact g3 b h8
    rw [List.mem_singleton.1 h8];exact hb
  |false=>
    rw [adj_f hj]
    refine ⟨by rw [sumL_app,h1,h.sum],by rw [List.length_append,List.length_singleton];have:=h.len;omega,λ x hx=> ?_⟩
    rcases List.mem_append.1 hx with h9|h9
    . exact h.ok x h9
    rw [List.mem_singleton] at h9
    subst h9;exact ⟨Nat.le_refl _,by show a+1<=n;omega,λ b hb'=>by rw [List.mem_singleton.1 hb'];exact hb⟩
theorem runP_all {M:MS}{n:Nat}{k:Bool}{f:TF}(hM:MF M n f):∀i,i<=(adrF n k f).length->RunP n i (runsL f ((adrF n k f).take i))
  |0,_=>⟨rfl,Nat.le_refl _,λ r h=>(by cases h)⟩
  |i+1,h=>by
    rw [runs_next (out:=runsL f ((adrF n k f).take i)) rfl oqz]
    obtain ⟨c,hf,_,hn⟩:=adr_at (n:=n) (k:=k) (f:=f) (i:=i) oqz;exact runP_step (runP_all hM i oqz) hn (by rw [byF_some hf];exact hM.by_ _ _ hf)
theorem runP_F {M:MS}{n:Nat}{k:Bool}{f:TF}(hM:MF M n f):RunP n (adrF n k f).length (runsF n k f):=by
  have:=runP_all (k:=k) hM (adrF n k f).length (Nat.le_refl _);rw [List.take_length] at this;exact this
theorem extX_xw {n:Nat}{L:List (Nat×List Nat)}(h:RunW n L)(hn:n<=4194304):∀x∈extX L,XW x:=λ x hx=>by
  obtain ⟨r,hr,rfl⟩:=List.mem_map.1 hx;obtain ⟨_,h2,_⟩:=h r hr;exact ⟨by show-9223372036854775808<=(r.1:Int)/\ (r.1:Int)<=9223372036854775807;omega,by show-9223372036854775808<=(r.2.length:Int)/\ (r.2.length:Int)<=9223372036854775807;omega⟩
theorem gd_stoL {n k m:Nat}:∀{L:List (Nat×List Nat)} {s:DevS},RunW m L->Gd n (k+sumL L) s->Gd n k (stoL L s).2
  |[],s,_,h=>h.le oqz
  |r::l,s,hW,h=>by
    rw [sumL_cons] at h
    obtain ⟨_,_,hb⟩:=hW r (by simp);have h1:Gd n (k+sumL l) (sto (r.1:Nat) r.2 s).2:=gd_sto (h.le oqz) hb;rw [stoL_cons]
    split
    . exact h1.le oqz
    exact gd_stoL (λ x hx=>hW x (List.mem_cons_of_mem _ hx)) h1
theorem gd_fl1 {n k:Nat}{p:Int}{s:DevS}(h:Gd n k s):Gd n k (fl1 p s).2:=⟨(fl1_len _ _).trans h.len,fl1_room (e:=(fl1 p s).1) rfl h.wf h.room,fl1_wf h.wf⟩
theorem gd_flLs {n k:Nat}:∀{l:List Nat} {s:DevS},Gd n k s->Gd n k (flLs l s).2
  |[],s,h=>h
  |q::l,s,h=>by
    rw [flLs_cons]
    split
    . exact gd_fl1 h
    exact gd_flLs (gd_fl1 h)
theorem gd_writeT {n k m:Nat}{L:List (Nat×List Nat)}{s s2:DevS}{e:Int}(hw:writeT L s=(e,s2))(hW:RunW m L)(h:Gd n (k+sumL L) s):Gd n k s2:=by
  have h1:=gd_stoL hW h;have h2:(writeT L s).2=s2:=(by rw [hw]);rw [←h2]
  unfold writeT
  split
  . exact h1
  exact gd_flLs h1
section
variable {at_ sz n:Nat} {f:TF} {s s1 s2 s3 s4 s5:DevS} {e:Int}
theorem com_w1 (h1:writeT (runsF n true f) s=(e,s1))(he:e≠0):comS at_ sz n f s=((e,true),s1):=by unfold comS;rw [h1,if_pos he]
theorem com_00 (h1:writeT (runsF n true f) s=(0,s1))(hl:runsF n false f=[])(hf:runsF n true f=[]):comS at_ sz n f s=((0,true),s1):=by
  unfold comS;rw [h1,if_neg (by simp),if_pos hl,if_pos hf]
theorem com_0f (h1:writeT (runsF n true f) s=(0,s1))(hl:runsF n false f=[])(hf:runsF n true f≠[])(h2:fe s1=(e,s2)):comS at_ sz n f s=((e,true),s2):=by
  unfold comS;rw [h1,if_neg (by simp),if_pos hl,if_neg hf];simp only [];rw [h2]
theorem com_lw (h1:writeT (runsF n true f) s=(0,s1))(hl:runsF n false f≠[])(h2:writeS at_ sz (extX (runsF n false f)) s1=(e,s2))(he:e≠0):comS at_ sz n f s=((e,decide (e=5)),s2):=by
  unfold comS;rw [h1,if_neg (by simp),if_neg hl];simp only [];rw [h2,if_pos he]
theorem com_w2 (h1:writeT (runsF n true f) s=(0,s1))(hl:runsF n false f≠[])(h2:writeS at_ sz (extX (runsF n false f)) s1=(0,s2))(h3:writeT (runsF n false f) s2=(e,s3))(he:e≠0):comS at_ sz n f s=((e,true),s3):=by
  unfold comS;rw [h1,if_neg (by simp),if_neg hl];simp only [];rw [h2,if_neg (by simp)];simp only [];rw [h3,if_pos he]
theorem com_fe (h1:writeT (runsF n true f) s=(0,s1))(hl:runsF n false f≠[])(h2:writeS at_ sz (extX (runsF n false f)) s1=(0,s2))(h3:writeT (runsF n false f) s2=(0,s3))(h4:fe s3=(e,s4))(he:e≠0):comS at_ sz n f s=((e,true),s4):=by
  unfold comS;rw [h1,if_neg (by simp),if_neg hl];simp only [];rw [h2,if_neg (by simp)];simp only [];rw [h3,if_neg (by simp)];simp only [];rw [h4,if_pos he]
theorem com_cl (h1:writeT (runsF n true f) s=(0,s1))(hl:runsF n false f≠[])(h2:writeS at_ sz (extX (runsF n false f)) s1=(0,s2))(h3:writeT (runsF n false f) s2=(0,s3))(h4:fe s3=(0,s4))(h5:clearS at_ s4=(e,s5)):comS at_ sz n f s=((e,true),s5):=by
  unfold comS;rw [h1,if_neg (by simp),if_neg hl];simp only [];rw [h2,if_neg (by simp)];simp only [];rw [h3,if_neg (by simp)];simp only [];rw [h4,if_neg (by simp)];simp only [];rw [h5]
end
theorem del_c (M:MS)(a:Int):(M.del a).c=M.c:=by unfold MS.del;split<;>rfl
theorem del_sub (M:MS)(a:Int):(M.del a).D.Sublist M.D:=by
  unfold MS.del
  split
  . exact List.eraseIdx_sublist _ _
  exact List.Sublist.refl _
theorem wfM_del {M:MS}(h:WfM M)(a:Int):WfM (M.del a):=⟨h.keys.sublist ((del_sub M a).map _),h.born.sublist ((del_sub M a).map _),λ e he=>by rw [del_c];exact h.past e ((del_sub M a).subset he)⟩
theorem del_mem {M:MS}{e:ME}(h:WfM M)(he:e∈M.D):(M.del e.k).D.length<M.D.length/\∀x∈(M.del e.k).D,x.b≠e.b:=by
  obtain ⟨i,hi⟩:=mfind_mem h.keys he;obtain ⟨hil,hk,_⟩:=mfind_some hi;have hD:(M.del e.k).D=M.D.eraseIdx i:=(by unfold MS.del;rw [hi]);rw [hD]
  refine ⟨by rw [List.length_eraseIdx_of_lt hil];omega,λ x hx hxb=> ?_⟩
  have hei:M.D[i]=e:=by
    obtain ⟨j,hj,hje⟩:=List.mem_iff_getElem.1 he
    have hkk:(M.D.map ME.k)[i]? =(M.D.map ME.k)[j]? :=by
      rw [List.getElem?_map,List.getElem?_map,List.getElem?_eq_getElem hil,List.getElem?_eq_getElem hj]
      simp only [Option.map_some];rw [hk,hje]
    have hij:=(List.getElem?_inj (by simpa using hil) h.keys).1 hkk;subst hij;exact hje
  rw [List.mem_eraseIdx_iff_getElem] at hx
  obtain ⟨j,hj,hji,hjx⟩:=hx
  have hbb:(M.D.map ME.b)[i]? =(M.D.map ME.b)[j]? :=by
    rw [List.getElem?_map,List.getElem?_map,List.getElem?_eq_getElem hil,List.getElem?_eq_getElem hj]
    simp only [Option.map_some];rw [hei,hjx,hxb]
  exact hji ((List.getElem?_inj (by simpa using hil) h.born).1 hbb).symm
attribute [local irreducible] crk crL crc Sl pt ro Dev imgS recS readS recsF rdW rdO rkT Parts rvl recordsS runsL adrF kcl xcl kys runA runsF layF linR flLs stoL writeT writeS comS clearS extX
theorem Ze8 {p r:Prop}(k:r)(h:Kq r->p:=by intro k;refine tc_goto ?_;refine q_then_g (q_sc_g ?_);exact k.o):p:=h ⟨k⟩
theorem Commit12_c {A R:SP}{C:SP->SP}{t p lg d mb at_ sz:Nat}{M:MS}{s:DevS}(hc:Ct A (TxA t p lg d mb at_ sz M false s) R C:=by exact cbqz){n:Nat}{f:TF}(hM:MF M n f)(hn:n=s.ls.length*64:=by omega)(hlw:LogW (s.ls.length*64) at_ sz:=by assumption)(ho:s.off=false:=by assumption)(hroom:Room (2*n+sz+8) s:=by assumption):
    Fn Tryz.prog 56 #[pz t] A (λ r B=>∃e b s2 M2,comS at_ sz n f s=((e,b),s2)/\ r= .int .i64 e/\ MF M2 n (if b=true then tf0 else f)/\ B=C (TxA t p lg d mb at_ sz M2 b s2)):=by
  refine fn_enterW func56 rfl ntmps56 (by simp) ?_;obtain ⟨rfl,hC⟩:=hc;refine tc_eq (show _=R*pt p (cl (pocs lg d (some t)) 78)*pt lg (cl (lcs11 d at_ sz) 183)*Dev d s*pt t (cl (txcs p mb false) 155)*pt mb (mpo .i64 M) by unfold TxA;rw [if_neg (by decide)];ac_rfl) ?_;refine tc_have (λ _ _ h=>ct_wf2 ctqz h) λ hwf=> ?_
  have htop:=hwf.top;obtain ⟨LF,hLF⟩:∃L,runsF n true f=L:=⟨_,rfl⟩;obtain ⟨LL,hLL⟩:∃L,runsF n false f=L:=⟨_,rfl⟩;have hPF:=runP_F (k:=true) hM;have hPL:=runP_F (k:=false) hM;rw [hLF] at hPF
  rw [hLL] at hPL
  have haf:=adr_len n true f;have hal:=adr_len n false f;have hg0:Gd s.ls.length (2*n+sz+8) s:=⟨rfl,hroom,hwf⟩;have hfs:=hPF.sum;have hfl:=hPF.len;have hls:=hPL.sum;have hll:=hPL.len;obtain ⟨w1,w2,w3,w4,w5⟩:=id hlw;refine Zb9 ?_;refine tc_scope (l:=0) (λ ρ BB=>∃ (e_:Int) (sE:DevS),(comS at_ sz n f s=((e_,true),sE))/\ ρ 3= .int .i64 e_/\ ρ 0=(pz t)/\ Dr BB (R*pt p (cl (pocs lg d (some t)) 78)*pt lg (cl (lcs11 d at_ sz) 183)*Dev d sE*pt t (cl (txcs p mb false) 155)*pt mb (mpo .i64 M))) rfl ?_ ?_
  . intro ρ B hI;obtain ⟨e_,sE,hcm0,hE3,hE0,hBA⟩:=hI;refine tc_pre hBA.sat ?_;clear hBA;refine te 3 hE3 ?_;refine te 0 hE0 ?_;refine Ze ?_;refine Zgb ?_;refine tl_x rfl (o_range (ik:= .i64) (M:=M) underlying153 rfl hsqz) ?_;rintro _ _ ⟨r75,rfl,rfl⟩;refine Zbh ?_;refine tc_loop (λ kk ρ BB=>∃ (M1:MS) (seen:List Nat),(WfM M1)/\ (∀x∈M1.D,x.b∉seen)/\ kk=M1.D.length/\ ρ 0=(pz t)/\ ρ 3= .int .i64 e_/\ ρ 75=(pz r75)/\ Dr BB (R*pt p (cl (pocs lg d (some t)) 78)*pt lg (cl (lcs11 d at_ sz) 183)*Dev d sE*pt t (cl (txcs p mb false) 155)*pt mb (mpo .i64 M1)*pt r75 (mit mb M1.c seen M1.c))) (m:=(M).D.length) ?_ ?_
    . exact ⟨M,[],hM.wf,λ x _ h=>(by cases h),rfl,rfl,rfl,rfl,drqz⟩
    intro k ρ B hI;obtain ⟨M1,seen,hp0,hp1,hkk1,hE0,hE3,hE75,hBA⟩:=hI;refine tc_pre hBA.sat ?_;clear hBA;refine te 0 hE0 ?_;refine te 3 hE3 ?_;refine te 75 hE75 ?_;refine sr ?_;refine tl_x rfl (o_next (ik:= .i64) (M:=M1) (b:=mb) (seen:=seen) hp0 rfl ctqz hsqz) ?_;rintro _ _ ⟨o76,hnx,rfl,rfl⟩;refine tv (o_exNx rfl) ?_;refine Zeq ?_;refine tc_cond rfl (λ h=> ?_) (λ h=> ?_)
    . obtain ⟨e,rfl⟩:∃e,o76=some e:=Option.isSome_iff_exists.1 (by simpa using h);have hem:=(hnx.yes e rfl).1;refine tc_eq (show _=R*pt p (cl (pocs lg d (some t)) 78)*pt lg (cl (lcs11 d at_ sz) 183)*Dev d sE*pt t (cl (txcs p mb false) 155)*pt mb (mpo .i64 M1)*pt r75 (mit mb M1.c (seen++[e.b]) M1.c) from rfl) ?_;refine Zgg ?_;refine sr ?_;refine tv (o_entry (ik:= .i64) (M:=M1) (b:=mb) (seen:=seen) hp0 hem rfl hsqz hsqz) ?_;refine tv (o_extract rfl rfl) ?_;refine Za ?_;refine Zw ?_;refine Zgb ?_;refine tlm ?_;refine tl_x rfl (o_delete (ik:= .i64) (M:=M1) underlying153 underlying3 rfl rfl upqz rfl) ?_;rintro _ _ ⟨rfl,rfl⟩;refine tl_nil ?_;refine q_block_n (q_then_n ?_);exact ⟨_,(by have:=(del_mem hp0 hem).1;omega),M1.del e.k,seen++[e.b],wfM_del hp0 _,λ x hx h=>(by rcases List.mem_append.1 h with h9|h9;exact hp1 x ((del_sub _ _).subset hx) h9;exact (del_mem hp0 hem).2 x hx (List.mem_singleton.1 h9)),rfl,rfl,rfl,rfl,by rw [del_c];repeat (first|with_reducible exact dr_refl|apply dr_keep|apply dr_drop)⟩
    obtain rfl:o76=none:=by cases o76<;>simp at h ⊢
    refine Zda ?_;refine tl_c rfl (o_call bd123 rfl (end12_c (R:=R*pt lg (cl (lcs11 d at_ sz) 183)*Dev d sE*pt r75 (mit mb M1.c seen M1.c)) (p:=p) (lg:=lg) (d:=d) (mb:=mb) (M:=M1) (over:=false) (hA:=by first|rfl|ac_rfl))) ?_;refine Zdo ?_;refine Zb ?_;refine Zf ?_;refine q_sc_r ?_;exact ⟨.int .i64 e_,C (TxA t p lg d mb at_ sz M1.clr true sE),res1 rfl rfl,(λ g w h=>by rw [hC];exact (Dr.sat (A':=R*pt lg (cl (lcs11 d at_ sz) 183)*Dev d sE*pt p (cl (pocs lg d none) 78)*pt t (cl (txcs p mb true) 155)*pt mb (mpo .i64 M1.clr)) drqz g w h).perm (by unfold TxA;rw [if_pos rfl];ac_rfl)),e_,true,sE,M1.clr,hcm0,rfl,by rw [if_pos rfl];exact mf_nil _ _,rfl⟩
  intro hsc;refine Zb ?_;refine tl_c rfl (o_call bd114 rfl (begun12_c (s:=s))) ?_;rintro _ _ ⟨rfl,rfl⟩;refine Zp ?_;refine Z3 ?_;intro h;refine Zbq ?_;refine Zcx ?_;refine Zgh ?_;refine Zs ?_;refine tl_c rfl (o_call bd117 rfl (runs12_w (kd:=true) (M:=M) (over:=false) (p:=p) hsqz hsqz hM oqz hLF)) ?_;rintro _ _ ⟨a22,c22,vf,rfl,hc22,hvf,rfl⟩;refine tl_have (λ _ _ h=>parts_getD hvf h.left) λ hpf=> ?_
  refine tlm ?_;refine tl_c rfl (o_call bd117 rfl (runs12_w (kd:=false) (M:=M) (over:=false) (p:=p) hsqz hsqz hM oqz hLL)) ?_;rintro _ _ ⟨a24,c24,vl,rfl,hc24,hvl,rfl⟩;refine tl_have (λ _ _ h=>parts_getD hvl h.left) λ hpl=> ?_
  refine tlm ?_;refine tl_c rfl (o_call bd118 rfl (Extents12_c (M:=M) (p:=p) (L:=LL) (ht:=(by repeat (first|with_reducible exact has_here|with_reducible exact has_pt|apply has_left))) (hmb:=(by repeat (first|with_reducible exact has_here|with_reducible exact has_pt|apply has_left))) (hM:=hM) (hX:=hLL) (hLl:=by omega))) ?_;rintro _ _ ⟨a26,c26,rfl,hc26,rfl⟩;refine tla ?_;refine Zbm ?_;refine tlm ?_;refine tl_c rfl (o_call bd119 rfl (write12_c (s:=s) (n:=n) (L:=LF) (vs:=vf) (a:=a22) (hr:=(by repeat (first|with_reducible exact rs_sl|apply Rs.left))) (hvs:=hvf) (hps:=by repeat (first|exact psr_of hvf hpf (λ x hx=>by have h9:=(hPF.ok x hx).2.1;omega)|apply PsR.left)) (hcp:=hpf) (hW:=hPF.ok) (hn:=by have h9:=hg0.len;omega) (hm:=rfl) (hml:=by have h9:=hPF.len;omega) (hroom:=(hg0.le oqz).room))) ?_;rintro _ _ ⟨e29,s29,hs29,rfl,rfl⟩;have hg1:Gd s.ls.length (n+sz+8) s29:=gd_writeT hs29 hPF.ok (hg0.le oqz);have hg1l:=hg1.len;refine Zdy ?_;refine tc_cond rfl (λ h=> ?_) (λ h=> ?_)
  . have he29:e29≠0:=(by simpa using h);have hcm9:comS at_ sz n f s=((e29,true),s29):=com_w1 (by rw [hLF];exact hs29) he29;refine Ze8 ?_;exact ⟨_,_,hcm9,rfl,rfl,drqz⟩
  obtain rfl:e29=0:=by simpa using h
  refine Zcd ?_;refine tv (o_len underlying160 rfl) ?_;refine Zdq ?_;refine tc_cond rfl (λ h=> ?_) (λ h=> ?_)
  . have hll0:LL=[]:=List.eq_nil_of_length_eq_zero (by first|(have h9:=of_decide_eq_true h;omega)|(simp at h;omega));refine Ze ?_;refine tv (o_len underlying160 rfl) ?_;refine Zgj ?_;refine tc_cond rfl (λ h=> ?_) (λ h=> ?_)
    . have hlf0:LF≠[]:=λ e=>by subst e;simp at h
      refine Zw ?_;refine tl_c rfl (o_call bd120 rfl (Fence_c (s:=s29))) ?_;rintro _ _ ⟨e39,s39,hs39,rfl,rfl⟩;have hcm9:comS at_ sz n f s=((e39,true),s39):=com_0f (by rw [hLF];exact hs29) (by rw [hLL];exact hll0) (by rw [hLF];exact hlf0) hs39;refine Za ?_;refine Ze8 ?_;exact ⟨_,_,hcm9,rfl,rfl,drqz⟩
    have hlf0:LF=[]:=List.eq_nil_of_length_eq_zero (by first|(have h9:=of_decide_eq_false h;omega)|(simp at h;omega));have hcm9:comS at_ sz n f s=((0,true),s29):=com_00 (by rw [hLF];exact hs29) (by rw [hLL];exact hll0) (by rw [hLF];exact hlf0);refine Zc ?_;refine Ze8 ?_;exact ⟨_,_,hcm9,rfl,rfl,drqz⟩
  have hll0:LL≠[]:=λ e=>by subst e;simp at h
  refine Zcd ?_;refine Zcx ?_;refine tv (o_nilCheck rfl) ?_;refine tv (o_fieldAddr (o:=1) underlying78 rfl rfl sz75 rfl) ?_;refine tv (o_load p75 rfl hsqz rfl) ?_;refine tlm ?_;refine tl_c rfl (o_call bd121 rfl (Write_c (s:=s29) (xs:=extX LL) (hr:=(by repeat (first|with_reducible exact rs_sl|apply Rs.left))) (hm:=ext_len LL) (hX:=extX_xw hPL.ok oqz) (hlw:=by rw [hg1l];exact hlw) (hml:=by omega) (hroom:=(hg1.le oqz).room))) ?_;rintro _ _ ⟨e48,s48,hs48,rfl,rfl⟩;have hg2:Gd s.ls.length (n+4) s48:=(by have h9:=gd_write (at_:=at_) (sz:=sz) (k:=n+4) (l:=extX LL) (hg1.le oqz) (by rw [ext_len];omega);rw [hs48] at h9;exact h9);have hg2l:=hg2.len;refine Zdy ?_;refine tc_cond rfl (λ h=> ?_) (λ h=> ?_)
  . have he48:e48≠0:=(by simpa using h);refine Ze ?_;refine Zk ?_;refine tc_cond rfl (λ h=> ?_) (λ h=> ?_)
    . have he5:e48≠5:=(by simpa using h);refine Zb ?_;refine Zf ?_;refine q_then_r (q_then_r (q_sc_r ?_));exact ⟨.int .i64 e48,C (TxA t p lg d mb at_ sz M false s48),res1 rfl rfl,(λ g w h=>by rw [hC];exact (Dr.sat (A':=R*pt p (cl (pocs lg d (some t)) 78)*pt lg (cl (lcs11 d at_ sz) 183)*Dev d s48*pt t (cl (txcs p mb false) 155)*pt mb (mpo .i64 M)) drqz g w h).perm (by unfold TxA;rw [if_neg (by decide)];ac_rfl)),e48,false,s48,M,by rw [com_lw (by rw [hLF];exact hs29) (by rw [hLL];exact hll0) (by rw [hLL];exact hs48) he48,decide_eq_false he5],rfl,hM,rfl⟩
    obtain rfl:e48=5:=by simpa using h
    have hcm9:comS at_ sz n f s=((5,true),s48):=com_lw (by rw [hLF];exact hs29) (by rw [hLL];exact hll0) (by rw [hLL];exact hs48) (by decide);refine Zc ?_;refine Ze8 ?_;exact ⟨_,_,hcm9,rfl,rfl,drqz⟩
  obtain rfl:e48=0:=by simpa using h
  refine Zcd ?_;refine tlm ?_;refine tl_c rfl (o_call bd119 rfl (write12_c (s:=s48) (n:=n) (L:=LL) (vs:=vl) (a:=a24) (hr:=(by repeat (first|with_reducible exact rs_sl|apply Rs.left))) (hvs:=hvl) (hps:=by repeat (first|exact psr_of hvl hpl (λ x hx=>by have h9:=(hPL.ok x hx).2.1;omega)|apply PsR.left)) (hcp:=hpl) (hW:=hPL.ok) (hn:=by have h9:=hg2.len;omega) (hm:=rfl) (hml:=by have h9:=hPL.len;omega) (hroom:=(hg2.le oqz).room))) ?_;rintro _ _ ⟨e56,s56,hs56,rfl,rfl⟩;have hg3:Gd s.ls.length 4 s56:=gd_writeT hs56 hPL.ok (hg2.le oqz);have hg3l:=hg3.len;refine Zdy ?_;refine tc_cond rfl (λ h=> ?_) (λ h=> ?_)
  . have he56:e56≠0:=(by simpa using h);have hcm9:comS at_ sz n f s=((e56,true),s56):=com_w2 (by rw [hLF];exact hs29) (by rw [hLL];exact hll0) (by rw [hLL];exact hs48) (by rw [hLL];exact hs56) he56;refine Ze8 ?_;exact ⟨_,_,hcm9,rfl,rfl,drqz⟩
  obtain rfl:e56=0:=by simpa using h
  refine Zcd ?_;refine tl_c rfl (o_call bd120 rfl (Fence_c (s:=s56))) ?_;rintro _ _ ⟨e60,s60,hs60,rfl,rfl⟩;have hg4:Gd s.ls.length 4 s60:=(by have h9:=gd_fe hg3;rw [hs60] at h9;exact h9);have hg4l:=hg4.len;refine Zdy ?_;refine tc_cond rfl (λ h=> ?_) (λ h=> ?_)
  . have he60:e60≠0:=(by simpa using h);have hcm9:comS at_ sz n f s=((e60,true),s60):=com_fe (by rw [hLF];exact hs29) (by rw [hLL];exact hll0) (by rw [hLL];exact hs48) (by rw [hLL];exact hs56) hs60 he60;refine Ze8 ?_;exact ⟨_,_,hcm9,rfl,rfl,drqz⟩
  obtain rfl:e60=0:=by simpa using h
  refine Zbq ?_;refine Zcx ?_;refine tv (o_nilCheck rfl) ?_;refine tv (o_fieldAddr (o:=1) underlying78 rfl rfl sz75 rfl) ?_;refine tv (o_load p75 rfl hsqz rfl) ?_;refine tl_c rfl (o_call bd122 rfl (Clear_c (s:=s60) (hlw:=by rw [hg4l];exact hlw) (hroom:=(hg4.le oqz).room))) ?_;rintro _ _ ⟨e70,s70,hs70,rfl,rfl⟩;have hcm9:comS at_ sz n f s=((e70,true),s70):=com_cl (by rw [hLF];exact hs29) (by rw [hLL];exact hll0) (by rw [hLL];exact hs48) (by rw [hLL];exact hs56) hs60 hs70;refine Za ?_;refine tc_fall hsc ?_;exact ⟨_,_,hcm9,rfl,rfl,drqz⟩
end Go.Vl

namespace Go.Vl
open Go Go.Proofs Go.Proofs.Tryz
def fW1:TF:=layF 64 [1,2,3] false tf0
def fW:TF:=layF 66 [9,9] true fW1
section
variable {A R:SP} {C:SP->SP} {t p lg d mb at_ sz:Nat} {M:MS} {over:Bool} {s:DevS} (hc:Ct A (TxA t p lg d mb at_ sz M over s) R C)
include hc
theorem txa_dev:Ct A (Dev d s) (R*pt p (cl (pocs lg d (if over then none else some t)) 78)*pt lg (cl (lcs11 d at_ sz) 183)*pt t (cl (txcs p mb over) 155)*pt mb (mpo .i64 M)) (λ Y=>R*pt p (cl (pocs lg d (if over then none else some t)) 78)*pt lg (cl (lcs11 d at_ sz) 183)*pt t (cl (txcs p mb over) 155)*pt mb (mpo .i64 M)*Y):=
  ⟨by rw [hc.1];unfold TxA;ac_rfl,λ _=>rfl⟩
theorem txa_p:Has A p (cl (pocs lg d (if over then none else some t)) 78):=λ g w h=>by
  rw [hc.1] at h;unfold TxA at h;exact h.right.left.left.left.left.hp.elim λ x hx=>has_pt g w (h.right.left.left.left.left)
theorem txa_t:Has A t (cl (txcs p mb over) 155):=λ g w h=>by
  rw [hc.1] at h;unfold TxA at h;exact has_pt g w (h.right.left.right)
theorem txa_wf:∀g w,sat g w A->WfD s:=λ g w h=>ct_wf2 (txa_dev hc) h
end
attribute [local irreducible] crk crL crc Sl pt ro Dev imgS recS readS recsF rdW rdO rkT Parts rvl recordsS runsL adrF kcl xcl kys runA runsF layF linR flLs stoL writeT writeS comS clearS extX ovF newS fW fW1
end Go.Vl

namespace Go.Vl
open Go Go.Proofs Go.Proofs.Tryz
structure SF (M:MS) (n:Nat) (g:Nat->Bool):Prop where
  wf:WfM M
  get:∀a:Int,M.get a=if 0<=a/\ g a.toNat=true then some (.bool true) else none
  keys:∀e∈M.D,∃a:Nat,a<n/\ e.k=(a:Int)/\ g a=true
  out:∀a,n<=a->g a=false
def g0:Nat->Bool:=λ _=>false
theorem sf_nil (c n:Nat):SF ⟨[],c⟩ n g0:=⟨⟨(by simp),(by simp),λ e h=>(by cases h)⟩,λ a=>(by rw [MS.get_nil,if_neg (λ h=>by simp [g0] at h)]),λ e h=>(by cases h),λ _ _=>rfl⟩
def updG (g:Nat->Bool)(p:Nat)(b:Bool):Nat->Bool:=λ c=>if c=p then b else g c
theorem put_keys {M:MS}{a:Int}{v:Value}{e:ME}(h:e∈(M.put a v).D):e.k=a∨∃e'∈M.D,e'.k=e.k:=by
  unfold MS.put at h
  split at h
  . rename_i i u hf
    obtain ⟨j,hj,rfl⟩:=List.mem_iff_getElem.1 h
    simp only [List.length_modify] at hj
    refine .inr ⟨M.D[j],List.getElem_mem _, ?_⟩
    simp only [List.getElem_modify]
    split<;>rfl
  rcases List.mem_append.1 h with h1|h1
  . exact .inr ⟨e,h1,rfl⟩
  rw [List.mem_singleton.1 h1];exact .inl rfl
theorem sf_put {M:MS}{n p:Nat}{g:Nat->Bool}(h:SF M n g)(hp:p<n):SF (M.put (p:Int) (.bool true)) n (updG g p true):=by
  refine ⟨wfM_put h.wf,λ a=> ?_,λ e he=> ?_,λ a ha=> ?_⟩
  . rw [MS.get_put]
    unfold updG
    by_cases hc:(p:Int)=a
    . subst hc;rw [if_pos rfl,if_pos ⟨by omega,by rw [if_pos (by simp)]⟩]
    rw [if_neg hc,h.get a]
    by_cases h0:0<=a
    . rw [if_neg (show¬a.toNat=p by omega)]
    rw [if_neg (λ h9=>h0 h9.1),if_neg (λ h9=>h0 h9.1)]
  . rcases put_keys he with h1|⟨e',h1,h2⟩
    . exact ⟨p,hp,h1,by unfold updG;rw [if_pos rfl]⟩
    obtain ⟨a,h3,h4,h5⟩:=h.keys e' h1;refine ⟨a,h3,by rw [←h2];exact h4, ?_⟩
    unfold updG;split
    . rfl
    exact h5
  unfold updG;rw [if_neg oqz];exact h.out a ha
theorem mfind_mem' {D:List ME}{a:Int}{i:Nat}{v:Value}(h:mfind D a 0=some (i,v)):∃e∈D,e.k=a:=by
  obtain ⟨hi,h1,_⟩:=mfind_some h;exact ⟨_,List.getElem_mem hi,h1⟩
theorem get_of_mem {M:MS}{e:ME}(hw:WfM M)(he:e∈M.D):M.get e.k=some e.v:=get_mem hw he
theorem del_ne {M:MS}{a:Int}(hw:WfM M):∀e∈(M.del a).D,e.k≠a:=λ e he hk=>by
  have hm:=(del_sub M a).subset he;subst hk;exact (del_mem hw hm).2 e he rfl
theorem del_had {M:MS}{a:Int}{e:ME}(he:e∈M.D)(hk:e.k≠a):e∈(M.del a).D:=by
  unfold MS.del
  split
  . rename_i i u hf
    obtain ⟨hi,h1,_⟩:=mfind_some hf;obtain ⟨j,hj,rfl⟩:=List.mem_iff_getElem.1 he;have hij:j≠i:=λ e9=>by subst e9;exact hk h1
    exact List.mem_eraseIdx_iff_getElem.2 ⟨j,hj,hij,rfl⟩
  exact he
theorem get_none {M:MS}{a:Int}(h:∀e∈M.D,e.k≠a):M.get a=none:=by
  unfold MS.get
  cases hf:mfind M.D a 0 with
  |none=>rfl
  |some x=>
    obtain ⟨e,he,hk⟩:=mfind_mem' (i:=x.1) (v:=x.2) hf;exact absurd hk (h e he)
theorem get_del {M:MS}{a c:Int}(hw:WfM M):(M.del a).get c=if a=c then none else M.get c:=by
  by_cases hc:a=c
  . subst hc;rw [if_pos rfl];exact get_none (del_ne hw)
  rw [if_neg hc]
  cases hg:M.get c with
  |none=>
    refine get_none λ e he hk=> ?_
    have:=get_mem hw ((del_sub M a).subset he);rw [hk,hg] at this;cases this
  |some v=>
    unfold MS.get at hg
    cases hf:mfind M.D c 0 with
    |none=>rw [hf] at hg;cases hg
    |some x=>
      rw [hf] at hg
      simp only [Option.map_some,Option.some.injEq] at hg
      obtain ⟨hi,h1,h2⟩:=mfind_some (i:=x.1) (v:=x.2) hf;have hm:M.D[x.1]∈(M.del a).D:=del_had (List.getElem_mem hi) (by rw [h1];exact λ e=>hc e.symm);have:=get_mem (wfM_del hw a) hm;rw [h1,h2,hg] at this
      exact this
theorem sf_del {M:MS}{n p:Nat}{g:Nat->Bool}(h:SF M n g):SF (M.del (p:Int)) n (updG g p false):=by
  refine ⟨wfM_del h.wf _,λ a=> ?_,λ e he=> ?_,λ a ha=> ?_⟩
  . rw [get_del h.wf]
    unfold updG
    by_cases hc:(p:Int)=a
    . subst hc;rw [if_pos rfl,if_neg (λ h9=>by simp at h9)]
    rw [if_neg hc,h.get a]
    by_cases h0:0<=a
    . rw [if_neg (show¬a.toNat=p by omega)]
    rw [if_neg (λ h9=>h0 h9.1),if_neg (λ h9=>h0 h9.1)]
  . obtain ⟨a,h3,h4,h5⟩:=h.keys e ((del_sub M _).subset he);refine ⟨a,h3,h4, ?_⟩;have hne:=del_ne h.wf e he
    unfold updG;rw [if_neg (λ e9=>hne (by rw [h4,e9]))];exact h5
  unfold updG;split
  . rfl
  exact h.out a ha
def adS (n:Nat)(g:Nat->Bool):List Nat:=(List.range n).filter g
def adZ (n:Nat)(g:Nat->Bool):List Int:=(adS n g).map λ a:Nat=>(a:Int)
theorem adS_mem {n a:Nat}{g:Nat->Bool}:a∈adS n g↔a<n/\ g a=true:=by unfold adS;rw [List.mem_filter,List.mem_range]
theorem adS_sorted (n:Nat)(g:Nat->Bool):(adS n g).Pairwise (·<·):=(List.pairwise_lt_range).filter _
theorem adS_len (n:Nat)(g:Nat->Bool):(adS n g).length<=n:=by unfold adS;exact Nat.le_trans (List.length_filter_le _ _) (by rw [List.length_range];exact Nat.le_refl _)
theorem sf_has {M:MS}{n a:Nat}{g:Nat->Bool}(h:SF M n g)(ha:g a=true):∃e∈M.D,e.k=(a:Int):=by
  have h1:=h.get (a:Int);rw [if_pos ⟨by omega,by simpa using ha⟩] at h1
  unfold MS.get at h1
  cases hf:mfind M.D (a:Int) 0 with
  |none=>rw [hf] at h1;cases h1
  |some x=>exact mfind_mem' (i:=x.1) (v:=x.2) hf
theorem sf_sort {M:MS}{n:Nat}{g:Nat->Bool}(h:SF M n g):(M.D.map ME.k).mergeSort (λ x y=>decide (x<=y))=adZ n g:=by
  have hp:(M.D.map ME.k).Perm (adZ n g):=by
    refine (List.perm_ext_iff_of_nodup h.wf.keys ?_).2 λ x=> ?_
    . unfold adZ
      exact List.Pairwise.map _ (λ a b hab e=>absurd (Int.ofNat_inj.1 e) (Nat.ne_of_lt hab)) (adS_sorted n g)
    unfold adZ
    rw [List.mem_map,List.mem_map]
    constructor
    . rintro ⟨e,he,rfl⟩;obtain ⟨a,h1,h2,h3⟩:=h.keys e he;exact ⟨a,adS_mem.2 ⟨h1,h3⟩,h2.symm⟩
    rintro ⟨a,ha,rfl⟩;obtain ⟨e,he,hk⟩:=sf_has h (adS_mem.1 ha).2;exact ⟨e,he,hk⟩
  rw [Go.mergeSort_of_perm_i hp]
  refine List.mergeSort_of_pairwise ?_
  unfold adZ
  refine List.pairwise_map.2 ((adS_sorted n g).imp λ {a b} hab=> ?_)
  simp only [decide_eq_true_eq];omega
theorem sf_len {M:MS}{n:Nat}{g:Nat->Bool}(h:SF M n g):M.D.length=(adS n g).length:=by
  have:=congrArg List.length (sf_sort h);rw [List.length_mergeSort,List.length_map] at this
  unfold adZ at this;rw [List.length_map] at this;exact this
theorem sf_bd {M:MS}{n:Nat}{g:Nat->Bool}(h:SF M n g)(hn:n<=4194304):∀e∈M.D,-9223372036854775808<=e.k/\ e.k<=9223372036854775807:=λ e he=>by
  obtain ⟨a,h1,h2,_⟩:=h.keys e he;omega
structure WkX where
  h:Nat
  w:Nat
  t:Nat
  p:Nat
  lg:Nat
  d:Nat
  mb:Nat
  lv:Nat
  tk:Nat
  gv:Nat
  at_:Nat
  sz:Nat
  ba:Nat
  n:Nat
structure WkY where
  Ml:MS
  Mt:MS
  Mg:MS
  M:MS
  ls:Nat
structure WkT where
  lv:Nat->Bool
  tk:Nat->Bool
  gv:Nat->Bool
  f:TF
structure WkOk (X:WkX) (Y:WkY) (T:WkT) (N:Nat):Prop where
  l:SF Y.Ml X.n T.lv
  t:SF Y.Mt X.n T.tk
  g:SF Y.Mg X.n T.gv
  m:MF Y.M N T.f
  le:Y.ls<=X.n
  lo:∀b,b<Y.ls->T.lv b=true∨T.tk b=true
  dj:∀b,T.tk b=true->T.lv b=false
  gl:∀b,T.gv b=true->T.lv b=true
def usedB (T:WkT)(b:Nat):Bool:=T.tk b||(T.lv b&& !T.gv b)
def usedZ (T:WkT)(b:Int):Bool:=decide (0<=b)&&usedB T b.toNat
def freeB (T:WkT)(b:Nat):Bool:= !T.lv b&& !T.tk b
def leastB (T:WkT)(n:Nat):Option Nat:=(List.range n).find? (freeB T)
theorem used_n {X:WkX}{Y:WkY}{T:WkT}{N:Nat}(h:WkOk X Y T N){b:Nat}(hb:usedB T b=true):b<X.n:=by
  rcases Nat.lt_or_ge b X.n with h1|h1
  . exact h1
  unfold usedB at hb;rw [h.t.out b h1,h.l.out b h1] at hb;simp at hb
theorem leastB_some {T:WkT}{n b:Nat}:leastB T n=some b↔b<n/\ freeB T b=true/\∀c,c<b->freeB T c=false:=by
  unfold leastB
  rw [List.find?_range_eq_some]
  simp only [List.mem_range]
  constructor
  . rintro ⟨h1,h2,h3⟩;exact ⟨h2,h1,λ c hc=>by simpa using h3 c hc⟩
  rintro ⟨h1,h2,h3⟩;exact ⟨h2,h1,λ c hc=>by simpa using h3 c hc⟩
theorem leastB_none {T:WkT}{n:Nat}:leastB T n=none↔∀c,c<n->freeB T c=false:=by
  unfold leastB
  rw [List.find?_eq_none]
  simp only [List.mem_range]
  exact ⟨λ h c hc=>by simpa using h c hc,λ h c hc=>by simpa using h c hc⟩
def hcs (p ba n lv:Nat)(ov:Option Nat):List Value:=[pz p,vn ba,vn n,.map (some lv),.pointer (ov.map λ w=>(⟨w,0,none⟩:Addr))]
def wcs (h t tk gv ls:Nat)(over:Bool):List Value:=[pz h,pz t,.map (some tk),.map (some gv),vn ls,.bool over]
def WkA (X:WkX)(Y:WkY)(s:DevS):SP:=pt X.h (cl (hcs X.p X.ba X.n X.lv (some X.w)) 99)*pt X.w (cl (wcs X.h X.t X.tk X.gv Y.ls false) 101)*pt X.lv (mpo .i64 Y.Ml)*pt X.tk (mpo .i64 Y.Mt)*pt X.gv (mpo .i64 Y.Mg)*TxA X.t X.p X.lg X.d X.mb X.at_ X.sz Y.M false s
structure WkB (X:WkX) (s:DevS):Prop where
  lo:128<=X.ba
  hi:X.ba+256*X.n<=s.ls.length*64
  top:s.ls.length*64<=4194304
theorem mapN (M:MS)(a:Int){n:Nat}{g:Nat->Bool}(h:SF M n g):(M.get a).isSome=(decide (0<=a)&&g a.toNat):=by
  rw [h.get a]
  by_cases h1:0<=a<;>cases h2:g a.toNat<;>simp [h1]
theorem mapV (M:MS)(a:Int){n:Nat}{g:Nat->Bool}(h:SF M n g):(M.get a).getD (.bool false)= .bool (decide (0<=a)&&g a.toNat):=by
  rw [h.get a]
  by_cases h1:0<=a<;>cases h2:g a.toNat<;>simp [h1]
section
variable {A R:SP} {C:SP->SP} {X:WkX} {Y:WkY} {s:DevS} (hc:Ct A (WkA X Y s) R C)
include hc
theorem wka_txa:Ct A (TxA X.t X.p X.lg X.d X.mb X.at_ X.sz Y.M false s) (R*pt X.h (cl (hcs X.p X.ba X.n X.lv (some X.w)) 99)*pt X.w (cl (wcs X.h X.t X.tk X.gv Y.ls false) 101)*pt X.lv (mpo .i64 Y.Ml)*pt X.tk (mpo .i64 Y.Mt)*pt X.gv (mpo .i64 Y.Mg)) (λ Z=>R*pt X.h (cl (hcs X.p X.ba X.n X.lv (some X.w)) 99)*pt X.w (cl (wcs X.h X.t X.tk X.gv Y.ls false) 101)*pt X.lv (mpo .i64 Y.Ml)*pt X.tk (mpo .i64 Y.Mt)*pt X.gv (mpo .i64 Y.Mg)*Z):=
  ⟨by rw [hc.1];unfold WkA;ac_rfl,λ _=>rfl⟩
theorem wka_h:Has A X.h (cl (hcs X.p X.ba X.n X.lv (some X.w)) 99):=λ g w h=>by
  rw [hc.1] at h;unfold WkA at h;exact has_pt g w (h.right.left.left.left.left.left)
theorem wka_w:Has A X.w (cl (wcs X.h X.t X.tk X.gv Y.ls false) 101):=λ g w h=>by
  rw [hc.1] at h;unfold WkA at h;exact has_pt g w (h.right.left.left.left.left.right)
theorem wka_lv:Has A X.lv (mpo .i64 Y.Ml):=λ g w h=>by
  rw [hc.1] at h;unfold WkA at h;exact has_pt g w (h.right.left.left.left.right)
theorem wka_tk:Has A X.tk (mpo .i64 Y.Mt):=λ g w h=>by
  rw [hc.1] at h;unfold WkA at h;exact has_pt g w (h.right.left.left.right)
theorem wka_gv:Has A X.gv (mpo .i64 Y.Mg):=λ g w h=>by
  rw [hc.1] at h;unfold WkA at h;exact has_pt g w (h.right.left.right)
end
attribute [local irreducible] crk crL crc Sl pt ro Dev imgS recS readS recsF rdW rdO rkT Parts rvl recordsS runsL adrF kcl xcl kys runA runsF layF ovF TxA adZ
theorem Zhc {p r:Prop}(k:r)(h:Kq r->p:=by intro k;refine fn_enterW func61 rfl ntmps61 (by simp) ?_;refine Zds ?_;refine tv (o_nep underlying40 rfl rfl) ?_;exact k.o):p:=h ⟨k⟩
theorem Zy {p r:Prop}(k:r)(h:Kq r->p:=by intro k;refine tv (o_nilCheck rfl) ?_;refine tv (o_fieldAddr (o:=0) underlying101 rfl rfl sz29 rfl) ?_;exact k.o):p:=h ⟨k⟩
theorem there13_c {A:SP}{h w t tk gv ls:Nat}{over:Bool}(hw:Has A w (cl (wcs h t tk gv ls over) 101):=by exact hbqz):
    Fn Tryz.prog 61 #[pz w] A (λ r B=>r= .bool true/\ A=B):=by
  refine Zhc ?_;refine Zf8 ?_;intro h;refine tlm ?_;refine Zy ?_;refine tv (o_load p29 rfl hw rfl) ?_;refine tv (o_nep underlying29 rfl rfl) ?_;refine Zdt ?_;exact ⟨.bool true,_,res1 rfl rfl,Dr.sat drqz,rfl,rfl⟩
theorem thereH_c {A:SP}{h p ba n lv:Nat}{ov:Option Nat}(hh:Has A h (cl (hcs p ba n lv ov) 99):=by exact hbqz):
    Fn Tryz.prog 47 #[pz h] A (λ r B=>r= .bool true/\ A=B):=by
  refine fn_enterW func47 rfl ntmps47 (by simp) ?_;refine Zds ?_;refine tv (o_nep underlying29 rfl rfl) ?_;refine Zf8 ?_;intro h;refine Zff ?_;refine tv (o_fieldAddr (o:=0) underlying99 rfl rfl sz66 rfl) ?_;refine tv (o_load p66 rfl hh rfl) ?_;refine tv (o_nep underlying66 rfl rfl) ?_;refine Zdt ?_;exact ⟨.bool true,_,res1 rfl rfl,Dr.sat drqz,rfl,rfl⟩
theorem place13_c {A:SP}{h p ba n lv b:Nat}{ov:Option Nat}(hh:Has A h (cl (hcs p ba n lv ov) 99):=by exact hbqz)(hb:ba<=4194304:=by omega)(hb2:b<=4194304:=by omega):
    Fn Tryz.prog 52 #[pz h,vn b] A (λ r B=>r=(vn (ba+256*b))/\ A=B):=by
  refine fn_enterW func52 rfl ntmps52 (by simp) ?_;refine Zds ?_;refine tv (o_nilCheck rfl) ?_;refine tv (o_fieldAddr (o:=1) underlying99 rfl rfl sz3 rfl) ?_;refine tv (o_load p3 rfl hh rfl) ?_;refine Zfq ?_;refine tv adqz ?_;refine Zf ?_;exact ⟨.int .i64 ((ba+256*b:Nat):Int),_,res1 rfl (by first|rfl|exact congrArg (Value.int .i64) oqz),Dr.sat drqz,rfl,rfl⟩
theorem seen0_c {A:SP}{v:Value}{e:Int}(he:e≠5:=by decide):
    Fn Tryz.prog 53 #[v,.int .i64 e] A (λ r B=>r= .int .i64 e/\ A=B):=by
  refine fn_enterW func53 rfl ntmps53 (by simp) ?_;refine Zbl ?_;refine Zdq ?_;refine tc_cond rfl (λ h=> ?_) (sbq ?_)
  . exfalso;exact he (by first|exact of_decide_eq_true h|simpa using h)
  intro h;refine Zbq ?_;refine Zf ?_;exact ⟨.int .i64 e,_,res1 rfl rfl,Dr.sat drqz,rfl,rfl⟩
theorem Ze4 {p r:Prop}(k:r)(h:Kq r->p:=by intro k;refine tv (o_nilCheck rfl) ?_;refine tv (o_fieldAddr (o:=5) underlying101 rfl rfl sz4 rfl) ?_;exact k.o):p:=h ⟨k⟩
theorem Zfr {p r:Prop}(k:r)(h:Kq r->p:=by intro k;refine Ze3 ?_;refine tv (o_fieldAddr (o:=1) underlying101 rfl rfl sz76 rfl) ?_;exact k.o):p:=h ⟨k⟩
theorem Zev {p r:Prop}(k:r)(h:Kq r->p:=by intro k;refine tl_c rfl (o_call bd53 rfl (seen0_c)) ?_;rintro _ _ ⟨rfl,rfl⟩;exact k.o):p:=h ⟨k⟩
theorem begin13_c {A R:SP}{C:SP->SP}{X:WkX}{Y:WkY}{T:WkT}{s:DevS}(hc:Ct A (WkA X Y s) R C:=by exact cbqz)(hok:WkOk X Y T (s.ls.length*64))(hb:WkB X s)(ho:s.off=false:=by assumption):
    Fn Tryz.prog 49 #[.pointer (some ⟨X.w,0,none⟩)] A (λ r B=>r= .int .i64 0/\ A=B):=by
  refine fn_enterW func49 rfl ntmps49 (by simp) ?_;have hst:∃R2 C2,Ct A (TxA X.t X.p X.lg X.d X.mb X.at_ X.sz Y.M false s) R2 C2:=⟨_,_,wka_txa hc⟩;obtain ⟨R2,C2,hct⟩:=hst;have hw9:=wka_w hc;refine Zbl ?_;refine tl_c rfl (o_call bd61 rfl (there13_c (hw:=hw9))) ?_;refine Zfz ?_;intro h;refine Zcd ?_;refine Ze4 ?_;refine tv (o_load p4 rfl hw9 rfl) ?_;refine Zz ?_;intro h;refine Zfr ?_;refine tv (o_load p76 rfl hw9 rfl) ?_;refine tl_c rfl (o_call bd51 rfl (LoadT_c (hc:=hct) (n:=s.ls.length*64) (f:=T.f) (q:=0) (m:=0) (hM:=hok.m) (ho:=ho) (hqm:=Nat.zero_le _))) ?_;rintro _ _ ⟨a17,c17,rfl,hc17,rfl⟩;refine Ze7 ?_;refine tlm ?_;refine Zev ?_;refine Zf ?_;exact ⟨.int .i64 0,_,res1 rfl rfl,Dr.sat drqz,rfl,rfl⟩
end Go.Vl

namespace Go.Vl
open Go Go.Proofs Go.Proofs.Tryz
theorem adZ_len (n:Nat)(g:Nat->Bool):(adZ n g).length=(adS n g).length:=by unfold adZ;rw [List.length_map]
def WkT.take (T:WkT)(b:Nat):WkT:={ T with tk:=updG T.tk b true }
def WkT.give (T:WkT)(b:Nat):WkT:=if T.tk b then { T with tk:=updG T.tk b false } else { T with gv:=updG T.gv b true }
def WkT.write (T:WkT)(ba b:Nat)(xs:List Nat):WkT:={ T with f:=layF (ba+256*b) xs (T.tk b) T.f }
theorem ok_take {X:WkX}{Y:WkY}{T:WkT}{N b:Nat}(h:WkOk X Y T N)(hb:b<X.n)(hf:freeB T b=true)(hlo:∀c,c<b->freeB T c=false):WkOk X { Y with Mt:=Y.Mt.put (b:Int) (.bool true),ls:=b+1 } (T.take b) N:=by
  unfold freeB at hf hlo
  simp only [Bool.and_eq_true,Bool.not_eq_true'] at hf
  refine ⟨h.l,sf_put h.t hb,h.g,h.m,by show b+1<=X.n;omega,λ c hc=> ?_,λ c hc=> ?_,h.gl⟩
  . show T.lv c=true∨updG T.tk b true c=true
    unfold updG
    by_cases hcb:c=b
    . rw [if_pos hcb];exact .inr rfl
    rw [if_neg hcb]
    have hc':c<b+1:=hc;have:=hlo c oqz
    cases h1:T.lv c<;>cases h2:T.tk c<;>simp [h1,h2] at this ⊢
  show T.lv c=false
  have hc':updG T.tk b true c=true:=hc
  unfold updG at hc'
  by_cases hcb:c=b
  . rw [hcb];exact hf.1
  rw [if_neg hcb] at hc';exact h.dj c hc'
theorem ok_give {X:WkX}{Y:WkY}{T:WkT}{N b:Nat}(h:WkOk X Y T N)(ht:T.tk b=true):WkOk X { Y with Mt:=Y.Mt.del (b:Int),ls:=min Y.ls b } (T.give b) N:=by
  unfold WkT.give;rw [if_pos ht]
  refine ⟨h.l,sf_del h.t,h.g,h.m,by have:=h.le;show min Y.ls b<=X.n;omega,λ c hc=> ?_,λ c hc=> ?_,h.gl⟩
  . show T.lv c=true∨updG T.tk b false c=true
    have hc':c<min Y.ls b:=hc
    unfold updG;rw [if_neg oqz]
    exact h.lo c oqz
  have hc':updG T.tk b false c=true:=hc
  unfold updG at hc'
  by_cases hcb:c=b
  . rw [if_pos hcb] at hc';cases hc'
  rw [if_neg hcb] at hc';exact h.dj c hc'
theorem ok_give2 {X:WkX}{Y:WkY}{T:WkT}{N b:Nat}(h:WkOk X Y T N)(ht:¬T.tk b=true)(hu:usedB T b=true):WkOk X { Y with Mg:=Y.Mg.put (b:Int) (.bool true) } (T.give b) N:=by
  have hn:=used_n h hu
  unfold WkT.give;rw [if_neg ht]
  refine ⟨h.l,h.t,sf_put h.g hn,h.m,h.le,h.lo,h.dj,λ c hc=> ?_⟩;have hc':updG T.gv b true c=true:=hc
  unfold updG at hc'
  by_cases hcb:c=b
  . unfold usedB at hu;rw [hcb]
    cases h1:T.tk b
    . rw [h1] at hu;simp at hu;exact hu.1
    exact absurd h1 ht
  rw [if_neg hcb] at hc';exact h.gl c hc'
theorem ok_write {X:WkX}{Y:WkY}{T:WkT}{N b:Nat}{M:MS}{xs:List Nat}(h:WkOk X Y T N)(hM:MF M N (layF (X.ba+256*b) xs (T.tk b) T.f)):WkOk X { Y with M:=M } (T.write X.ba b xs) N:=
  ⟨h.l,h.t,h.g,hM,h.le,h.lo,h.dj,h.gl⟩
theorem o_min2 {P:Program}{n:Nat}{ρ:Env}{A:SP}{dst:Option Tmp}{ty t t':TypeId}{pos:String}{after:Array Edge}{gd:Option (Nat×Bool)}{x y:Operand}{a b:Nat}(hu:P.underlying ty=some (.int .i64))(hx:ev n ρ x=(vn a))(hy:ev n ρ y=(vn b)):
    OpV P n ρ A ⟨dst,.call { callee:= .builtin .min,args:= #[x,y],argTypes:= #[t,t'] },ty,pos,after,gd⟩ ((vn (min a b))):=λ g w hs=>by
  simp only [execOp,resolve,List.map_toArray,List.map_cons,List.map_nil,hx,hy]
  rw [run_bind (w':=w) (a:=⟨.builtin .min #[t,t'] ty _,#[vn a,vn b]⟩) (by rfl)]
  simp only [invoke,builtin]
  rw [run_bind (w':=w) (a:=(vn (min a b)))]
  . rfl
  have e:(if (b:Int)<(a:Int) then (b:Int) else (a:Int))=((min a b:Nat):Int):=(by split<;>omega)
  simp [Builtin.min_,Builtin.min2,List.foldlM,Sem.run_bind,←e]
theorem usedZ_nat {T:WkT}{b:Nat}:usedZ T (b:Int)=usedB T b:=by unfold usedZ;simp
attribute [local irreducible] crk crL crc Sl pt ro Dev imgS recS readS recsF rdW rdO rkT Parts rvl recordsS runsL adrF kcl xcl kys runA runsF layF ovF TxA adZ WkA
theorem Zez {p r:Prop}(k:r)(h:Kq r->p:=by intro k;refine tv (o_nilCheck rfl) ?_;refine tv (o_fieldAddr (o:=3) underlying101 rfl rfl sz97 rfl) ?_;exact k.o):p:=h ⟨k⟩
theorem Zb6 {p r:Prop}(k:r)(h:Kq r->p:=by intro k;refine tv (o_nilCheck rfl) ?_;refine tv (o_fieldAddr (o:=3) underlying99 rfl rfl sz97 rfl) ?_;exact k.o):p:=h ⟨k⟩
theorem use13_c {A R:SP}{C:SP->SP}{X:WkX}{Y:WkY}{T:WkT}{s:DevS}(hc:Ct A (WkA X Y s) R C:=by exact cbqz)(hok:WkOk X Y T (s.ls.length*64))(hb:WkB X s)(ho:s.off=false:=by assumption){b:Int}:
    Fn Tryz.prog 50 #[.pointer (some ⟨X.w,0,none⟩),.int .i64 b] A (λ r B=>r= .int .i64 (if usedZ T b=true then 0 else 130)/\ A=B):=by
  refine fn_enterW func50 rfl ntmps50 (by simp) ?_;have hw9:=wka_w hc;have hh9:=wka_h hc;have hl9:=wka_lv hc;have ht9:=wka_tk hc;have hg9:=wka_gv hc;have hB:=hb;obtain ⟨hb1,hb2,hb3⟩:=hB;refine Zbl ?_;refine tl_c rfl (o_call bd49 rfl (begin13_c (hc:=hc) (hok:=hok) (hb:=hb))) ?_;refine Zg1 ?_;intro h;refine Ze3 ?_;refine tv (o_fieldAddr (o:=2) underlying101 rfl rfl sz97 rfl) ?_;refine tv (o_load p97 rfl hw9 rfl) ?_;refine tlm ?_;refine tv (o_lookupOk (ik:= .i64) (M:=Y.Mt) underlying97 underlying3 z4 rfl rfl ht9) ?_;refine tl_env (d:=23) (v:= .tuple #[.bool (decide (0<=b)&&T.tk b.toNat),.bool (decide (0<=b)&&T.tk b.toNat)]) (by show Value.tuple #[(Y.Mt.get b).getD _,.bool (Y.Mt.get b).isSome]=_;rw [mapV Y.Mt b hok.t,mapN Y.Mt b hok.t]) ?_;refine Ze7 ?_;refine Zez ?_;refine tv (o_load p97 rfl hw9 rfl) ?_;refine tlm ?_;refine tv (o_lookupOk (ik:= .i64) (M:=Y.Mg) underlying97 underlying3 z4 rfl rfl hg9) ?_;refine tl_env (d:=32) (v:= .tuple #[.bool (decide (0<=b)&&T.gv b.toNat),.bool (decide (0<=b)&&T.gv b.toNat)]) (by show Value.tuple #[(Y.Mg.get b).getD _,.bool (Y.Mg.get b).isSome]=_;rw [mapV Y.Mg b hok.g,mapN Y.Mg b hok.g]) ?_;refine Zdc ?_;refine Zy ?_;refine tv (o_load p29 rfl hw9 rfl) ?_;refine Zb6 ?_;refine tv (o_load p97 rfl hh9 rfl) ?_;refine tlm ?_;refine tv (o_lookupOk (ik:= .i64) (M:=Y.Ml) underlying97 underlying3 z4 rfl rfl hl9) ?_;refine tl_env (d:=44) (v:= .tuple #[.bool (decide (0<=b)&&T.lv b.toNat),.bool (decide (0<=b)&&T.lv b.toNat)]) (by show Value.tuple #[(Y.Ml.get b).getD _,.bool (Y.Ml.get b).isSome]=_;rw [mapV Y.Ml b hok.l,mapN Y.Ml b hok.l]) ?_;refine Zc7 ?_;refine Zc1 ?_;refine tc_cut (λ ρ BB=>ρ 54= .bool (usedZ T b)/\ Dr BB (A)) ?_ ?_
  . skip
    refine Zdr ?_;refine tl_bool (d:=48) rfl (sbq ?_) (sbq ?_)
    . intro h;refine Zb3 ?_;refine Z9 ?_;refine tl_nil ?_;exact ⟨by unfold usedZ usedB;cases h0:decide (0<=b)<;>cases h1:T.tk b.toNat<;>cases h2:T.lv b.toNat<;>cases h3:T.gv b.toNat<;>simp [h0,h1,h2,h3] at* <;>rfl,drqz⟩
    intro h;refine Zbc ?_;refine tl_bool (d:=50) rfl (sbq ?_) (sbq ?_)
    . intro h;refine tlm ?_;refine tv (o_not rfl) ?_;refine tv (o_pick_t rfl wqz) ?_;refine Zdj ?_;exact ⟨by unfold usedZ usedB;cases h0:decide (0<=b)<;>cases h1:T.tk b.toNat<;>cases h2:T.lv b.toNat<;>cases h3:T.gv b.toNat<;>simp [h0,h1,h2,h3] at* <;>rfl,drqz⟩
    intro h;refine Zo ?_;refine tv (o_pick_f rfl wqz) ?_;refine Zdj ?_;exact ⟨by unfold usedZ usedB;cases h0:decide (0<=b)<;>cases h1:T.tk b.toNat<;>cases h2:T.lv b.toNat<;>cases h3:T.gv b.toNat<;>simp [h0,h1,h2,h3] at* <;>rfl,drqz⟩
  intro ρ B hI;obtain ⟨hE54,hBA⟩:=hI;refine q_then_n ?_;refine tc_pre hBA.sat ?_;clear hBA;refine te 54 hE54 ?_;refine tc_cond rfl (sbq ?_) (sbq ?_)
  . intro h;refine Zdb ?_;rw [if_pos (by first|exact h|simpa using h)]
    exact ⟨.int .i64 0,_,res1 rfl rfl,Dr.sat drqz,rfl,rfl⟩
  intro h;refine Zc ?_;refine Zdn ?_;rw [if_neg (by first|exact Bool.eq_false_iff.1 h|(rw [h];decide))]
  exact ⟨.int .i64 130,_,res1 rfl rfl,Dr.sat drqz,rfl,rfl⟩
theorem Zct {p r:Prop}(k:r)(h:Kq r->p:=by intro k;refine tv (o_nilCheck rfl) ?_;refine tv (o_fieldAddr (o:=4) underlying101 rfl rfl sz3 rfl) ?_;exact k.o):p:=h ⟨k⟩
theorem Zcn {p r:Prop}(k:r)(h:Kq r->p:=by intro k;refine Zy ?_;refine tv (o_load p29 rfl hsqz rfl) ?_;exact k.o):p:=h ⟨k⟩
theorem Zen {p r:Prop}(k:r)(h:Kq r->p:=by intro k;refine tv (o_fieldAddr (o:=2) underlying99 rfl rfl sz3 rfl) ?_;refine tv (o_load p3 rfl hsqz rfl) ?_;exact k.o):p:=h ⟨k⟩
theorem Zbp {p r:Prop}(k:r)(h:Kq r->p:=by intro k;refine tv (o_fieldAddr (o:=2) underlying101 rfl rfl sz97 rfl) ?_;refine tv (o_load p97 rfl hsqz rfl) ?_;exact k.o):p:=h ⟨k⟩
theorem Take13_ok {A R:SP}{C:SP->SP}{X:WkX}{Y:WkY}{T:WkT}{s:DevS}(hc:Ct A (WkA X Y s) R C:=by exact cbqz)(hok:WkOk X Y T (s.ls.length*64))(hb:WkB X s)(ho:s.off=false:=by assumption){b:Nat}(hf:leastB T X.n=some b):
    Fn Tryz.prog 14 #[.pointer (some ⟨X.w,0,none⟩)] A (λ r B=>∃Y2,r= .tuple #[vn b,.int .i64 0]/\ WkOk X Y2 (T.take b) (s.ls.length*64)/\ B=C (WkA X Y2 s)):=by
  refine fn_enterW func14 rfl ntmps14 (by simp) ?_;obtain ⟨hbn,hbf,hbl⟩:=leastB_some.1 hf
  have hlsb:Y.ls<=b:=by
    rcases Nat.lt_or_ge b Y.ls with h9|h9
    . have:=hok.lo b h9;unfold freeB at hbf;rcases this with h1|h1<;>simp [h1] at hbf
    exact h9
  obtain ⟨hb1,hb2,hb3⟩:=id hb;have hle:=hok.le;obtain ⟨rfl,hC⟩:=hc;refine tc_eq (show _=R*pt X.h (cl (hcs X.p X.ba X.n X.lv (some X.w)) 99)*pt X.w (cl (wcs X.h X.t X.tk X.gv Y.ls false) 101)*pt X.lv (mpo .i64 Y.Ml)*pt X.tk (mpo .i64 Y.Mt)*pt X.gv (mpo .i64 Y.Mg)*TxA X.t X.p X.lg X.d X.mb X.at_ X.sz Y.M false s by unfold WkA;ac_rfl) ?_;refine Zc0 ?_;refine tl_c rfl (o_call bd49 rfl (begin13_c (s:=s) (X:=X) (Y:=Y) (T:=T) (R:=R) (C:=λ Z=>R*Z) (hc:=⟨by unfold WkA;ac_rfl,λ _=>rfl⟩) (hok:=hok) (hb:=hb))) ?_;refine Zg1 ?_;intro h;refine Zcd ?_;refine Zct ?_;refine tv (o_load p3 rfl hsqz rfl) ?_;refine Za ?_;refine tc_block ?_;refine tc_loop (λ kk ρ BB=>∃ (c:Nat),(c<=b)/\ kk=X.n-c/\ ρ 5=(vn c)/\ ρ 0= .pointer (some ⟨X.w,0,none⟩)/\ Dr BB (R*pt X.h (cl (hcs X.p X.ba X.n X.lv (some X.w)) 99)*pt X.w (cl (wcs X.h X.t X.tk X.gv Y.ls false) 101)*pt X.lv (mpo .i64 Y.Ml)*pt X.tk (mpo .i64 Y.Mt)*pt X.gv (mpo .i64 Y.Mg)*TxA X.t X.p X.lg X.d X.mb X.at_ X.sz Y.M false s)) (m:=X.n-(Y.ls)) ?_ ?_
  . exact ⟨Y.ls,hlsb,rfl,rfl,rfl,drqz⟩
  intro k ρ B hI;obtain ⟨c,hp0,hkk1,hE5,hE0,hBA⟩:=hI;refine tc_pre hBA.sat ?_;clear hBA;refine te 5 hE5 ?_;refine te 0 hE0 ?_;refine Ze ?_;refine tlm ?_;refine Zcn ?_;refine tv (o_nilCheck rfl) ?_;refine Zen ?_;refine Zq ?_;refine tc_cond rfl (λ h=> ?_) dbq;have hcn:c<X.n:=(by first|omega|(simp at h;omega));refine Zd1 ?_;refine Zcn ?_;refine Zb6 ?_;refine tv (o_load p97 rfl hsqz rfl) ?_;refine tlm ?_;refine tv (o_lookupOk (ik:= .i64) (M:=Y.Ml) underlying97 underlying3 z4 rfl rfl hsqz) ?_;refine tl_env (d:=37) (v:= .tuple #[.bool (T.lv c),.bool (T.lv c)]) (by show Value.tuple #[(Y.Ml.get (c:Int)).getD _,.bool (Y.Ml.get (c:Int)).isSome]=_;rw [mapV Y.Ml (c:Int) hok.l,mapN Y.Ml (c:Int) hok.l];simp) ?_;refine Zc7 ?_;refine Zc1 ?_;refine tc_cut (λ ρ BB=>ρ 50= .bool (freeB T c)/\ ρ 0= .pointer (some ⟨X.w,0,none⟩)/\ ρ 5=(vn c)/\ Dr BB (R*pt X.h (cl (hcs X.p X.ba X.n X.lv (some X.w)) 99)*pt X.w (cl (wcs X.h X.t X.tk X.gv Y.ls false) 101)*pt X.lv (mpo .i64 Y.Ml)*pt X.tk (mpo .i64 Y.Mt)*pt X.gv (mpo .i64 Y.Mg)*TxA X.t X.p X.lg X.d X.mb X.at_ X.sz Y.M false s)) ?_ ?_
  . skip
    refine Zw ?_;refine tv (o_not rfl) ?_;refine tlm ?_;refine tl_bool (d:=42) rfl (sbq ?_) (sbq ?_)
    . intro h;refine Zff ?_;refine Zbp ?_;refine tlm ?_;refine tv (o_lookup (ik:= .i64) (M:=Y.Mt) underlying97 underlying3 z4 rfl rfl hsqz) ?_;refine tl_env (d:=48) (v:= .bool (T.tk c)) (by show (Y.Mt.get (c:Int)).getD _=_;rw [mapV Y.Mt (c:Int) hok.t];simp) ?_;refine tv (o_not rfl) ?_;refine Zc2 ?_;exact ⟨by unfold freeB;cases h1:T.lv c<;>cases h2:T.tk c<;>simp [h1,h2] at* <;>rfl,rfl,rfl,drqz⟩
    intro h;refine Zfg ?_;refine tk ?_;refine Zdj ?_;exact ⟨by unfold freeB;cases h1:T.lv c<;>cases h2:T.tk c<;>simp [h1,h2] at* <;>rfl,rfl,rfl,drqz⟩
  intro ρ B hI;obtain ⟨hE50,hE0,hE5,hBA⟩:=hI;refine q_then_n ?_;refine tc_pre hBA.sat ?_;clear hBA;refine te 50 hE50 ?_;refine te 0 hE0 ?_;refine te 5 hE5 ?_;refine tc_cond rfl (λ h=> ?_) (sbq ?_)
  . obtain rfl:c=b:=by rcases Nat.lt_or_ge c b with h9|h9<;>first|omega|(exfalso;have h8:=hbl c h9;rw [h8] at h;simp at h)
    refine Z7 ?_;refine Zbp ?_;refine tlm ?_;refine tl_u rfl (o_mapUpdate (ik:= .i64) (M:=Y.Mt) (v:= .bool true) underlying97 underlying3 rfl upqz rfl rfl rfl) ?_;refine nq ?_;refine Zb ?_;refine Zbz ?_;refine Zct ?_;refine tl_u rfl (o_stU (l':=wcs X.h X.t X.tk X.gv (c+1) false) rfl upqz sz3 rfl rfl (by show 4<6;decide) rfl) ?_;refine nq ?_;refine Zb ?_;refine tla ?_;refine Zce ?_;exact ⟨_,C (WkA X { Y with Mt:=Y.Mt.put (c:Int) (.bool true),ls:=c+1 } s),res2 rfl rfl rfl,(λ g w h=>by rw [hC];exact (Dr.sat (A':=R*pt X.h (cl (hcs X.p X.ba X.n X.lv (some X.w)) 99)*pt X.w (cl (wcs X.h X.t X.tk X.gv (c+1) false) 101)*pt X.lv (mpo .i64 Y.Ml)*pt X.tk (mpo .i64 (Y.Mt.put (c:Int) (.bool true)))*pt X.gv (mpo .i64 Y.Mg)*TxA X.t X.p X.lg X.d X.mb X.at_ X.sz Y.M false s) drqz g w h).perm (by unfold WkA;ac_rfl)),_,rfl,ok_take hok hbn hbf hbl,rfl⟩
  intro h;refine Zgs ?_;exact ⟨_,by omega,c+1,by rcases Nat.lt_or_ge c b with h9|h9<;>first|omega|(exfalso;have e9:c=b:=(by omega);subst e9;rw [hbf] at h;simp at h),rfl,rfl,rfl,drqz⟩
theorem Take13_no {A R:SP}{C:SP->SP}{X:WkX}{Y:WkY}{T:WkT}{s:DevS}(hc:Ct A (WkA X Y s) R C:=by exact cbqz)(hok:WkOk X Y T (s.ls.length*64))(hb:WkB X s)(ho:s.off=false:=by assumption)(hf:leastB T X.n=none):
    Fn Tryz.prog 14 #[.pointer (some ⟨X.w,0,none⟩)] A (λ r B=>r= .tuple #[.int .i64 0,.int .i64 7]/\ B=C (WkA X Y s)):=by
  refine fn_enterW func14 rfl ntmps14 (by simp) ?_;have hnf:=leastB_none.1 hf;obtain ⟨hb1,hb2,hb3⟩:=id hb;have hle:=hok.le;obtain ⟨rfl,hC⟩:=hc;refine tc_eq (show _=R*pt X.h (cl (hcs X.p X.ba X.n X.lv (some X.w)) 99)*pt X.w (cl (wcs X.h X.t X.tk X.gv Y.ls false) 101)*pt X.lv (mpo .i64 Y.Ml)*pt X.tk (mpo .i64 Y.Mt)*pt X.gv (mpo .i64 Y.Mg)*TxA X.t X.p X.lg X.d X.mb X.at_ X.sz Y.M false s by unfold WkA;ac_rfl) ?_;refine Zc0 ?_;refine tl_c rfl (o_call bd49 rfl (begin13_c (s:=s) (X:=X) (Y:=Y) (T:=T) (R:=R) (C:=λ Z=>R*Z) (hc:=⟨by unfold WkA;ac_rfl,λ _=>rfl⟩) (hok:=hok) (hb:=hb))) ?_;refine Zg1 ?_;intro h;refine Zcd ?_;refine Zct ?_;refine tv (o_load p3 rfl hsqz rfl) ?_;refine Za ?_;refine tc_block ?_;refine tc_loop (λ kk ρ BB=>∃ (c:Nat),(c<=X.n)/\ kk=X.n-c/\ ρ 5=(vn c)/\ ρ 0= .pointer (some ⟨X.w,0,none⟩)/\ Dr BB (R*pt X.h (cl (hcs X.p X.ba X.n X.lv (some X.w)) 99)*pt X.w (cl (wcs X.h X.t X.tk X.gv Y.ls false) 101)*pt X.lv (mpo .i64 Y.Ml)*pt X.tk (mpo .i64 Y.Mt)*pt X.gv (mpo .i64 Y.Mg)*TxA X.t X.p X.lg X.d X.mb X.at_ X.sz Y.M false s)) (m:=X.n-(Y.ls)) ?_ ?_
  . exact ⟨Y.ls,by omega,rfl,rfl,rfl,drqz⟩
  intro k ρ B hI;obtain ⟨c,hp0,hkk1,hE5,hE0,hBA⟩:=hI;refine tc_pre hBA.sat ?_;clear hBA;refine te 5 hE5 ?_;refine te 0 hE0 ?_;refine Ze ?_;refine tlm ?_;refine Zcn ?_;refine tv (o_nilCheck rfl) ?_;refine Zen ?_;refine Zq ?_;refine tc_cond rfl (λ h=> ?_) (sbq ?_)
  . have hcn:c<X.n:=(by first|omega|(simp at h;omega));refine Zd1 ?_;refine Zcn ?_;refine Zb6 ?_;refine tv (o_load p97 rfl hsqz rfl) ?_;refine tlm ?_;refine tv (o_lookupOk (ik:= .i64) (M:=Y.Ml) underlying97 underlying3 z4 rfl rfl hsqz) ?_;refine tl_env (d:=37) (v:= .tuple #[.bool (T.lv c),.bool (T.lv c)]) (by show Value.tuple #[(Y.Ml.get (c:Int)).getD _,.bool (Y.Ml.get (c:Int)).isSome]=_;rw [mapV Y.Ml (c:Int) hok.l,mapN Y.Ml (c:Int) hok.l];simp) ?_;refine Zc7 ?_;refine Zc1 ?_;refine tc_cut (λ ρ BB=>ρ 50= .bool (freeB T c)/\ ρ 0= .pointer (some ⟨X.w,0,none⟩)/\ ρ 5=(vn c)/\ Dr BB (R*pt X.h (cl (hcs X.p X.ba X.n X.lv (some X.w)) 99)*pt X.w (cl (wcs X.h X.t X.tk X.gv Y.ls false) 101)*pt X.lv (mpo .i64 Y.Ml)*pt X.tk (mpo .i64 Y.Mt)*pt X.gv (mpo .i64 Y.Mg)*TxA X.t X.p X.lg X.d X.mb X.at_ X.sz Y.M false s)) ?_ ?_
    . skip
      refine Zw ?_;refine tv (o_not rfl) ?_;refine tlm ?_;refine tl_bool (d:=42) rfl (sbq ?_) (sbq ?_)
      . intro h;refine Zff ?_;refine Zbp ?_;refine tlm ?_;refine tv (o_lookup (ik:= .i64) (M:=Y.Mt) underlying97 underlying3 z4 rfl rfl hsqz) ?_;refine tl_env (d:=48) (v:= .bool (T.tk c)) (by show (Y.Mt.get (c:Int)).getD _=_;rw [mapV Y.Mt (c:Int) hok.t];simp) ?_;refine tv (o_not rfl) ?_;refine Zc2 ?_;exact ⟨by unfold freeB;cases h1:T.lv c<;>cases h2:T.tk c<;>simp [h1,h2] at* <;>rfl,rfl,rfl,drqz⟩
      intro h;refine Zfg ?_;refine tk ?_;refine Zdj ?_;exact ⟨by unfold freeB;cases h1:T.lv c<;>cases h2:T.tk c<;>simp [h1,h2] at* <;>rfl,rfl,rfl,drqz⟩
    intro ρ B hI;obtain ⟨hE50,hE0,hE5,hBA⟩:=hI;refine q_then_n ?_;refine tc_pre hBA.sat ?_;clear hBA;refine te 50 hE50 ?_;refine te 0 hE0 ?_;refine te 5 hE5 ?_;refine tc_cond rfl (λ h=> ?_) (sbq ?_)
    . exfalso;rw [hnf c hcn] at h;simp at h
    intro h;refine Zgs ?_;exact ⟨_,by omega,c+1,by omega,rfl,rfl,rfl,drqz⟩
  intro h;refine Zg ?_;refine sr ?_;refine Zdd ?_;exact ⟨_,C (WkA X Y s),res2 rfl rfl rfl,(λ g w h=>by rw [hC];exact (Dr.sat (A':=R*pt X.h (cl (hcs X.p X.ba X.n X.lv (some X.w)) 99)*pt X.w (cl (wcs X.h X.t X.tk X.gv Y.ls false) 101)*pt X.lv (mpo .i64 Y.Ml)*pt X.tk (mpo .i64 Y.Mt)*pt X.gv (mpo .i64 Y.Mg)*TxA X.t X.p X.lg X.d X.mb X.at_ X.sz Y.M false s) drqz g w h).perm (by unfold WkA;ac_rfl)),rfl,rfl⟩
theorem Give13_ok {A R:SP}{C:SP->SP}{X:WkX}{Y:WkY}{T:WkT}{s:DevS}(hc:Ct A (WkA X Y s) R C:=by exact cbqz)(hok:WkOk X Y T (s.ls.length*64))(hb:WkB X s)(ho:s.off=false:=by assumption){b:Nat}(hu:usedB T b=true):
    Fn Tryz.prog 15 #[.pointer (some ⟨X.w,0,none⟩),vn b] A (λ r B=>∃Y2,r= .int .i64 0/\ WkOk X Y2 (T.give b) (s.ls.length*64)/\ B=C (WkA X Y2 s)):=by
  refine fn_enterW func15 rfl ntmps15 (by simp) ?_;obtain ⟨hb1,hb2,hb3⟩:=id hb;have hle:=hok.le;have hun:=used_n hok hu;obtain ⟨rfl,hC⟩:=hc;refine tc_eq (show _=R*pt X.h (cl (hcs X.p X.ba X.n X.lv (some X.w)) 99)*pt X.w (cl (wcs X.h X.t X.tk X.gv Y.ls false) 101)*pt X.lv (mpo .i64 Y.Ml)*pt X.tk (mpo .i64 Y.Mt)*pt X.gv (mpo .i64 Y.Mg)*TxA X.t X.p X.lg X.d X.mb X.at_ X.sz Y.M false s by unfold WkA;ac_rfl) ?_;refine Zbl ?_;refine tlm ?_;refine tl_c rfl (o_call bd50 rfl (use13_c (s:=s) (X:=X) (Y:=Y) (T:=T) (R:=R) (C:=λ Z=>R*Z) (b:=(b:Int)) (hc:=⟨by unfold WkA;ac_rfl,λ _=>rfl⟩) (hok:=hok) (hb:=hb))) ?_;rintro _ _ ⟨rfl,rfl⟩;refine tl_env (d:=8) (v:= .int .i64 0) (by show Value.int .i64 (if usedZ T (b:Int)=true then 0 else 130)=_;rw [usedZ_nat,if_pos hu]) ?_;refine Zs ?_;refine Z3 ?_;intro h;refine Zcd ?_;refine tv (o_nilCheck rfl) ?_;refine Zbp ?_;refine tlm ?_;refine tv (o_lookup (ik:= .i64) (M:=Y.Mt) underlying97 underlying3 z4 rfl rfl hsqz) ?_;refine tl_env (d:=17) (v:= .bool (T.tk b)) (by show (Y.Mt.get (b:Int)).getD _=_;rw [mapV Y.Mt (b:Int) hok.t];simp) ?_;refine nq ?_;refine tc_cut (λ ρ BB=>∃ (Y2:WkY),(WkOk X Y2 (T.give b) (s.ls.length*64))/\ Dr BB (R*pt X.h (cl (hcs X.p X.ba X.n X.lv (some X.w)) 99)*pt X.w (cl (wcs X.h X.t X.tk X.gv Y2.ls false) 101)*pt X.lv (mpo .i64 Y2.Ml)*pt X.tk (mpo .i64 Y2.Mt)*pt X.gv (mpo .i64 Y2.Mg)*TxA X.t X.p X.lg X.d X.mb X.at_ X.sz Y2.M false s)) ?_ ?_
  . skip
    refine tc_cond rfl (λ h=> ?_) (λ h=> ?_)
    . have htk:T.tk b=true:=(by first|exact h|simpa using h);refine Z7 ?_;refine Zbp ?_;refine tlm ?_;refine tl_x rfl (o_delete (ik:= .i64) (M:=Y.Mt) underlying97 underlying3 rfl rfl upqz rfl) ?_;refine Zdo ?_;refine Zdr ?_;refine Zct ?_;refine tv (o_load p3 rfl hsqz rfl) ?_;refine tlm ?_;refine tv (o_min2 underlying3 rfl rfl) ?_;refine Zct ?_;refine tl_u rfl (o_stU (l':=wcs X.h X.t X.tk X.gv (min Y.ls b) false) rfl upqz sz3 rfl rfl (by show 4<6;decide) rfl) ?_;refine tl_nil ?_;exact ⟨{ Y with Mt:=Y.Mt.del (b:Int),ls:=min Y.ls b },by first|exact ok_give hok htk|exact ok_give2 hok htk hu,drqz⟩
    have htk:¬T.tk b=true:=(by first|exact Bool.eq_false_iff.1 h|(rw [h];decide));refine Zw ?_;refine Zez ?_;refine tv (o_load p97 rfl hsqz rfl) ?_;refine tlm ?_;refine tl_u rfl (o_mapUpdate (ik:= .i64) (M:=Y.Mg) (v:= .bool true) underlying97 underlying3 rfl upqz rfl rfl rfl) ?_;refine tl_nil ?_;exact ⟨{ Y with Mg:=Y.Mg.put (b:Int) (.bool true) },by first|exact ok_give hok htk|exact ok_give2 hok htk hu,drqz⟩
  intro ρ B hI;obtain ⟨Y2,hgv0,hBA⟩:=hI;refine q_then_n ?_;refine tc_pre hBA.sat ?_;clear hBA;refine Zdn ?_;exact ⟨_,C (WkA X Y2 s),res1 rfl rfl,(λ g w h=>by rw [hC];exact (Dr.sat (A':=R*pt X.h (cl (hcs X.p X.ba X.n X.lv (some X.w)) 99)*pt X.w (cl (wcs X.h X.t X.tk X.gv Y2.ls false) 101)*pt X.lv (mpo .i64 Y2.Ml)*pt X.tk (mpo .i64 Y2.Mt)*pt X.gv (mpo .i64 Y2.Mg)*TxA X.t X.p X.lg X.d X.mb X.at_ X.sz Y2.M false s) drqz g w h).perm (by unfold WkA;ac_rfl)),Y2,rfl,hgv0,rfl⟩
theorem Read13_ok {A R:SP}{C:SP->SP}{X:WkX}{Y:WkY}{T:WkT}{s:DevS}(hc:Ct A (WkA X Y s) R C:=by exact cbqz)(hok:WkOk X Y T (s.ls.length*64))(hb:WkB X s)(ho:s.off=false:=by assumption){b:Nat}(hu:usedB T b=true):
    Fn Tryz.prog 16 #[.pointer (some ⟨X.w,0,none⟩),vn b] A (λ r B=>∃a c,r= .tuple #[.slice a 256 c,.int .i64 0]/\ 256<=c/\ B=A*Sl 1 (.slice a 256 c) 256 (bys (ovF T.f (X.ba+256*b) (((imgS s).drop (X.ba+256*b)).take 256)))):=by
  refine fn_enterW func16 rfl ntmps16 (by simp) ?_;have hw9:=wka_w hc;have hh9:=wka_h hc;have hl9:=wka_lv hc;have ht9:=wka_tk hc;have hg9:=wka_gv hc;have hB:=hb;obtain ⟨hb1,hb2,hb3⟩:=hB;have hun:=used_n hok hu;refine Zc0 ?_;refine tlm ?_;refine tl_c rfl (o_call bd50 rfl (use13_c (hc:=hc) (b:=(b:Int)) (hok:=hok) (hb:=hb))) ?_;rintro _ _ ⟨rfl,rfl⟩;refine tl_env (d:=11) (v:= .int .i64 0) (by show Value.int .i64 (if usedZ T (b:Int)=true then 0 else 130)=_;rw [usedZ_nat,if_pos hu]) ?_;refine Zs ?_;refine Z3 ?_;intro h;refine Zcu ?_;refine tc_regh mo dr_refl ?_
  show TH _ _ _ _ _ 16 (Array.replicate 16 false) _ _
  refine Zbx ?_;refine tm 2 rfl kqz rfl (o_fieldAddr (o:=1) underlying101 rfl rfl sz76 rfl) ?_;refine tm 3 rfl kqz rfl (o_load p76 rfl hw9 rfl) ?_;refine Zcq ?_;refine tm 6 rfl kqz rfl (o_fieldAddr (o:=0) underlying101 rfl rfl sz29 rfl) ?_;refine tm 7 rfl kqz rfl (o_load p29 rfl hw9 rfl) ?_;refine tm 8 rfl kqz rfl (o_move wqz) ?_;refine th_one (i:=9) kqz ?_;refine oh_c rfl rfl rfl (o_call bd52 rfl (place13_c (hh:=hh9))) ?_;refine Z1 ?_;refine th_one (i:=10) kqz ?_;refine oh_c rfl rfl rfl (o_call bd51 rfl (LoadT_c (hc:=wka_txa hc) (n:=s.ls.length*64) (f:=T.f) (q:=X.ba+256*b) (m:=256) (hM:=hok.m) (ho:=ho) (hqm:=by omega))) ?_;rintro _ _ ⟨a26,c26,rfl,hc26,rfl⟩;refine ⟨by repeat (first|with_reducible exact dr_refl|apply dr_keep|apply dr_drop), ?_⟩;refine tm 11 rfl kqz rfl (o_move wqz) ?_;refine tm 12 rfl kqz rfl (o_extract rfl rfl) ?_;refine tm 13 rfl kqz rfl (o_extract rfl rfl) ?_;refine tm 14 rfl kqz rfl (o_assign wqz) ?_;refine tm 15 rfl kqz rfl (o_assign wqz) ?_;refine Zby ?_;refine Zb ?_;refine Zbc ?_;refine Zev ?_;refine Zdd ?_;exact ⟨_,_,res2 rfl rfl rfl,Dr.sat drqz,a26,c26,rfl,hc26,rfl⟩
theorem Zc4 {p r:Prop}(k:r)(h:Kq r->p:=by intro k;refine tv (o_fieldAddr (o:=1) underlying101 rfl rfl sz76 rfl) ?_;refine tv (o_load p76 rfl hsqz rfl) ?_;exact k.o):p:=h ⟨k⟩
theorem Write13_ok {A R:SP}{C:SP->SP}{X:WkX}{Y:WkY}{T:WkT}{s:DevS}(hc:Ct A (WkA X Y s) R C:=by exact cbqz)(hok:WkOk X Y T (s.ls.length*64))(hb:WkB X s)(ho:s.off=false:=by assumption){b:Nat}(hu:usedB T b=true){a:Option Addr}{c:Nat}{xs:List Nat}(hr:Rs R a (bys xs):=by exact rbqz)(hxl:xs.length=256)(hxb:∀x∈xs,x<256):
    Fn Tryz.prog 18 #[.pointer (some ⟨X.w,0,none⟩),vn b,.slice a 256 c] A (λ r B=>∃Y2,r= .int .i64 0/\ WkOk X Y2 (T.write X.ba b xs) (s.ls.length*64)/\ B=C (WkA X Y2 s)):=by
  refine fn_enterW func18 rfl ntmps18 (by simp) ?_;obtain ⟨hb1,hb2,hb3⟩:=id hb;have hle:=hok.le;have hun:=used_n hok hu;obtain ⟨rfl,hC⟩:=hc;refine tc_eq (show _=R*pt X.h (cl (hcs X.p X.ba X.n X.lv (some X.w)) 99)*pt X.w (cl (wcs X.h X.t X.tk X.gv Y.ls false) 101)*pt X.lv (mpo .i64 Y.Ml)*pt X.tk (mpo .i64 Y.Mt)*pt X.gv (mpo .i64 Y.Mg)*TxA X.t X.p X.lg X.d X.mb X.at_ X.sz Y.M false s by unfold WkA;ac_rfl) ?_;refine Zbl ?_;refine tlm ?_;refine tl_c rfl (o_call bd50 rfl (use13_c (s:=s) (X:=X) (Y:=Y) (T:=T) (R:=R) (C:=λ Z=>R*Z) (b:=(b:Int)) (hc:=⟨by unfold WkA;ac_rfl,λ _=>rfl⟩) (hok:=hok) (hb:=hb))) ?_;rintro _ _ ⟨rfl,rfl⟩;refine tl_env (d:=11) (v:= .int .i64 0) (by show Value.int .i64 (if usedZ T (b:Int)=true then 0 else 130)=_;rw [usedZ_nat,if_pos hu]) ?_;refine Zs ?_;refine Z3 ?_;intro h;refine Zcd ?_;refine tv (o_len underlying32 rfl) ?_;refine Z3 ?_;intro h;refine Ze3 ?_;refine Zc4 ?_;refine tv (o_makeFunc (fs:=[.pointer (some ⟨X.t,0,none⟩)]) (cs:=[]) rfl rfl) ?_;refine Zp ?_;refine tv (o_nilCheck rfl) ?_;refine Zbp ?_;refine tlm ?_;refine tv (o_lookup (ik:= .i64) (M:=Y.Mt) underlying97 underlying3 z4 rfl rfl hsqz) ?_;refine tl_env (d:=28) (v:= .bool (T.tk b)) (by show (Y.Mt.get (b:Int)).getD _=_;rw [mapV Y.Mt (b:Int) hok.t];simp) ?_;refine nq ?_;refine tc_cond rfl (λ h=> ?_) (λ h=> ?_)
  . have htk:T.tk b=true:=(by first|exact h|simpa using h);refine Zw ?_;refine tv (o_nilCheck rfl) ?_;refine Zc4 ?_;refine tv (o_makeFunc (fs:=[.pointer (some ⟨X.t,0,none⟩)]) (cs:=[]) rfl rfl) ?_;refine Zs ?_;refine Zbc ?_;refine Zcn ?_;refine tlm ?_;refine tl_c rfl (o_call bd52 rfl (place13_c)) ?_;refine Zgx ?_;refine tl_c rfl (o_dyn bd55 rfl rfl (FreshT_c (s:=s) (n:=s.ls.length*64) (f:=T.f) (q:=X.ba+256*b) (xs:=xs) (hM:=hok.m) (hn:=rfl) (ho:=ho) (hr:=by repeat (first|exact hr|apply Rs.left)) (hm:=hxl) (hb:=hxb) (hqm:=by omega))) ?_;rintro _ _ ⟨M43,rfl,hM43,rfl⟩;refine Zev ?_;refine Zf ?_;exact ⟨_,C (WkA X { Y with M:=M43 } s),res1 rfl rfl,(λ g w h=>by rw [hC];exact (Dr.sat (A':=R*pt X.h (cl (hcs X.p X.ba X.n X.lv (some X.w)) 99)*pt X.w (cl (wcs X.h X.t X.tk X.gv Y.ls false) 101)*pt X.lv (mpo .i64 Y.Ml)*pt X.tk (mpo .i64 Y.Mt)*pt X.gv (mpo .i64 Y.Mg)*TxA X.t X.p X.lg X.d X.mb X.at_ X.sz M43 false s) drqz g w h).perm (by unfold WkA;ac_rfl)),{ Y with M:=M43 },rfl,ok_write hok (by rw [htk];exact hM43),rfl⟩
  have htk:T.tk b=false:=(by first|exact h|simpa using h);refine Zbq ?_;refine Zbc ?_;refine Zcn ?_;refine tlm ?_;refine tl_c rfl (o_call bd52 rfl (place13_c)) ?_;refine Zgx ?_;refine tl_c rfl (o_dyn bd54 rfl rfl (StoreT_c (s:=s) (n:=s.ls.length*64) (f:=T.f) (q:=X.ba+256*b) (xs:=xs) (hM:=hok.m) (hn:=rfl) (ho:=ho) (hr:=by repeat (first|exact hr|apply Rs.left)) (hm:=hxl) (hb:=hxb) (hqm:=by omega))) ?_;rintro _ _ ⟨M43,rfl,hM43,rfl⟩;refine Zev ?_;refine Zf ?_;exact ⟨_,C (WkA X { Y with M:=M43 } s),res1 rfl rfl,(λ g w h=>by rw [hC];exact (Dr.sat (A':=R*pt X.h (cl (hcs X.p X.ba X.n X.lv (some X.w)) 99)*pt X.w (cl (wcs X.h X.t X.tk X.gv Y.ls false) 101)*pt X.lv (mpo .i64 Y.Ml)*pt X.tk (mpo .i64 Y.Mt)*pt X.gv (mpo .i64 Y.Mg)*TxA X.t X.p X.lg X.d X.mb X.at_ X.sz M43 false s) drqz g w h).perm (by unfold WkA;ac_rfl)),{ Y with M:=M43 },rfl,ok_write hok (by rw [htk];exact hM43),rfl⟩
theorem rising_c {A:SP}{b n:Nat}{M:MS}{g:Nat->Bool}(hm:Has A b (mpo .i64 M))(hs:SF M n g)(hn:n<=4194304:=by omega):
    Fn Tryz.prog 125 #[.map (some b)] A (λ r B=>∃a c,r= .slice a (adZ n g).length c/\ (adZ n g).length<=c/\ B=A*Sl 1 (.slice a (adZ n g).length c) (adZ n g).length (ints (adZ n g))):=by
  refine fn_enterW func125 rfl ntmps125 (by simp) ?_;have hlen:M.D.length=(adZ n g).length:=(by rw [sf_len hs,adZ_len]);have hsl:=adS_len n g;rw [←adZ_len] at hsl
  refine Zds ?_;refine tl_c rfl (o_call bd166 rfl (Keys_c)) ?_;rintro _ _ ⟨k4,rfl,rfl⟩;refine tl_c rfl (o_call bd165 rfl (Sorted_c (M:=M) (hm:=has_left hm) (hk:=by first|exact has_here|exact has_pt) (hw:=hs.wf) (hb:=sf_bd hs hn) (hl:=by omega))) ?_;rintro _ _ ⟨a5,c5,rfl,hc5,rfl⟩;rw [sf_sort hs,hlen]
  rw [hlen] at hc5
  refine Zf ?_;exact ⟨_,_,res1 rfl rfl,Dr.sat drqz,a5,c5,rfl,hc5,rfl⟩
end Go.Vl

namespace Go.Vl
open Go Go.Proofs Go.Proofs.Tryz
def onL (zs:List Nat):Nat->Bool:=λ c=>decide (c∈zs)
theorem onL_nil:onL []=g0:=by funext c;simp [onL,g0]
theorem onL_snoc (zs:List Nat)(x:Nat):onL (zs++[x])=updG (onL zs) x true:=by
  funext c;unfold onL updG
  by_cases h:c=x
  . rw [if_pos h,h];simp
  rw [if_neg h];simp [h]
def natI (zs:List Nat):List Int:=zs.map λ a:Nat=>(a:Int)
theorem natI_len (zs:List Nat):(natI zs).length=zs.length:=by simp [natI]
theorem natI_at {zs:List Nat}{i:Nat}(h:i<zs.length):(ints (natI zs))[i]? =some ((vn (zs[i]))):=by
  unfold ints natI;rw [List.getElem?_map,List.getElem?_map,List.getElem?_eq_getElem h];rfl
theorem nodup_at {zs:List Nat}(h:zs.Nodup){i:Nat}(hi:i<zs.length):onL (zs.take i) zs[i]=false:=by
  unfold onL
  rw [decide_eq_false]
  intro hm;obtain ⟨j,hj,e⟩:=List.mem_iff_getElem.1 hm;rw [List.length_take] at hj
  rw [List.getElem_take] at e
  exact List.pairwise_iff_getElem.1 h j i oqz hi oqz e
theorem o_eqpS {P:Program}{n:Nat}{ρ:Env}{A:SP}{dst:Option Tmp}{ty:TypeId}{pos:String}{after:Array Edge}{gd:Option (Nat×Bool)}{t t' e:TypeId}{x y:Operand}{a:Addr}{j:TypeInfo}(hu:P.underlying t=some (.pointer e))(hj:P.info? e=some j)(hge:P.eqGuardType P.depth t=false)(hx:ev n ρ x= .pointer (some a))(hy:ev n ρ y= .pointer (some a)):
    OpV P n ρ A ⟨dst,.binOp .eql t x y t',ty,pos,after,gd⟩ (.bool true):=opv_of λ w=>by
  simp only [execOp,hx,hy]
  rw [run_bind (w':=w) (a:= .bool true)]
  . rfl
  rw [run_bind (w':=w) (a:=())]
  . exact run_eql_ptr_same w a hu hj
  simp [eqGuard,hge,program,bind,Sem.bind,Sem.run,pure]
attribute [local irreducible] crk crL crc Sl pt ro Dev imgS recS readS recsF rdW rdO rkT Parts rvl recordsS runsL adrF kcl xcl kys runA runsF layF ovF TxA adZ WkA
theorem NewH_c {A R:SP}{C:SP->SP}{d:Nat}{s:DevS}(hc:Ct A (Dev d s) R C:=by exact cbqz){p lg:Nat}{ov:Option Nat}(hp:Has A p (cl (pocs lg d ov) 78):=by exact hbqz){ba n:Nat}(h64:ba%64=0)(h1:128<=ba)(h2:ba+256*n<=s.ls.length*64)(htop:s.ls.length*64<=4194304)(hpos:0<s.ls.length):
    Fn Tryz.prog 28 #[pz p,vn ba,vn n] A (λ r B=>∃lv hd,r= .tuple #[pz hd,.int .i64 0]/\ B=A*pt lv (mpo .i64 ⟨[],0⟩)*pt hd (cl (hcs p ba n lv none) 99)):=by
  refine fn_enterW func28 rfl ntmps28 (by simp) ?_;refine Zc0 ?_;refine tl_c rfl (o_call bd69 rfl (Size12_c (hc:=hc) (hp:=hp))) ?_;rintro _ _ ⟨rfl,rfl⟩;refine tv (o_eqi rfl rfl) ?_;refine Zz ?_;intro h;refine Zcd ?_;refine tv (o_remI rfl rfl oqz) ?_;refine Zc9 ?_;refine tl_bool (d:=14) rfl dbq (sbq ?_);intro h;refine Zfk ?_;refine Zbb ?_;refine tl_bool (d:=18) rfl dbq (sbq ?_);intro h;refine Zfk ?_;refine Zbb ?_;refine tl_bool (d:=22) rfl dbq (sbq ?_);intro h;refine Zbc ?_;refine tl_c rfl (o_call bd69 rfl (Size12_c (hc:=hc) (hp:=hp))) ?_;rintro _ _ ⟨rfl,rfl⟩;refine tv (o_gtr rfl rfl) ?_;refine Zbb ?_;refine tl_bool (d:=28) rfl dbq (sbq ?_);intro h;refine Zbc ?_;refine tl_c rfl (o_call bd69 rfl (Size12_c (hc:=hc) (hp:=hp))) ?_;refine Zgx ?_;refine tv (o_subI rfl rfl oqz) ?_;refine tv (o_quoI rfl rfl oqz) ?_;refine Zb5 ?_;refine Zz ?_;intro h;refine Zbq ?_;refine Zbc ?_;refine tl_x rfl (o_makeMap (ik:= .i64) underlying97) ?_;rintro _ _ ⟨b40,rfl,rfl⟩;refine tv (o_bS (l:=[_,_,_,_,_]) (pv_cons wqz (pv_cons wqz (pv_cons wqz (pv_cons wqz pv_nil)))) underlying99 z99 (pl99 underlying99) rfl) ?_;refine tl_x rfl (o_box rfl rfl) ?_;rintro _ _ ⟨b42,rfl,rfl⟩;refine Zdd ?_;exact ⟨_,_,res2 rfl rfl rfl,Dr.sat drqz,b40,b42,rfl,rfl⟩
theorem Zdh {p r:Prop}(k:r)(h:Kq r->p:=by intro k;refine tv (o_nilCheck rfl) ?_;refine tv (o_fieldAddr (o:=4) underlying99 rfl rfl sz40 rfl) ?_;exact k.o):p:=h ⟨k⟩
theorem LoadH_c {A R:SP}{hd p ba n lv m c:Nat}{a:Option Addr}{zs:List Nat}(hA:A=R*pt hd (cl (hcs p ba n lv none) 99))(hr:Rs R a (ints (natI zs)))(hm:zs.length=m)(hnd:zs.Nodup)(hz:∀x∈zs,x<n)(hn:n<=4194304)(hml:m<=4194304):
    Fn Tryz.prog 46 #[pz hd,.slice a m c] A (λ r B=>∃l2 M2,r= .int .i64 0/\ SF M2 n (onL zs)/\ B=R*pt hd (cl (hcs p ba n l2 none) 99)*pt l2 (mpo .i64 M2)):=by
  refine fn_enterW func46 rfl ntmps46 (by simp) ?_;subst hA;refine Zbl ?_;refine tl_c rfl (o_call bd47 rfl (thereH_c)) ?_;refine Zfz ?_;intro h;refine Zcd ?_;refine Zdh ?_;refine tv (o_load p40 rfl hsqz rfl) ?_;refine tv (o_nep underlying40 rfl rfl) ?_;refine Zz ?_;intro h;refine Zc ?_;refine sr ?_;refine tl_x rfl (o_makeMap (ik:= .i64) underlying97) ?_;rintro _ _ ⟨l2,rfl,rfl⟩;refine Zp ?_;refine tv (o_len underlying22 rfl) ?_;refine Zet ?_;refine tc_loop (λ kk ρ BB=>∃ (i:Nat) (M2:MS),(i<=m)/\ (SF M2 n (onL (zs.take i)))/\ kk=m-i/\ ρ 19=(vn i)/\ ρ 0=(pz hd)/\ ρ 5= .map (some l2)/\ ρ 17= .slice a m c/\ ρ 18=(vn m)/\ Dr BB (R*pt hd (cl (hcs p ba n lv none) 99)*pt l2 (mpo .i64 M2))) (m:=m-(0)) ?_ ?_
  . exact ⟨0,⟨[],0⟩,by omega,by rw [List.take_zero,onL_nil];exact sf_nil 0 n,rfl,rfl,rfl,rfl,rfl,rfl,drqz⟩
  intro k ρ B hI;obtain ⟨i,M2,hp0,hp1,hkk1,hE19,hE0,hE5,hE17,hE18,hBA⟩:=hI;refine tc_pre hBA.sat ?_;clear hBA;refine te 19 hE19 ?_;refine te 0 hE0 ?_;refine te 5 hE5 ?_;refine te 17 hE17 ?_;refine te 18 hE18 ?_;refine Zcf ?_;refine tc_cond rfl (λ h=> ?_) (λ h=> ?_)
  . have hi:i<zs.length:=(by first|omega|(simp at h;omega));obtain ⟨x,hx1⟩:∃x,zs[i]=x:=⟨_,rfl⟩;have hxn:x<n:=hx1▸hz _ (List.getElem_mem hi)
    have hxo:onL (zs.take i) x=false:=hx1▸nodup_at hnd hi
    refine Zec ?_;refine tv (o_ixP1 (a:=a) underlying22 sz3 rfl rfl oqz (nn_rs (xs:=ints (natI zs)) (by repeat (first|exact hr|apply Rs.left)) (by rw [ints_length,natI_len];omega))) ?_;refine tv (o_ldP (a:=a) (xs:=ints (natI zs)) p3 rfl (by repeat (first|exact hr|apply Rs.left)) (natI_at hi)) ?_;refine tl_env (d:=22) (v:=(vn x)) (by show Value.int .i64 ((zs[i]:Nat):Int)=_;rw [hx1]) ?_;refine Zp ?_;refine Zd3 ?_;refine tl_bool (d:=25) rfl dbq (sbq ?_);intro h;refine Zbc ?_;refine tv (o_nilCheck rfl) ?_;refine Zen ?_;refine tv (o_geq rfl rfl) ?_;refine Zbb ?_;refine tl_bool (d:=33) rfl dbq (sbq ?_);intro h;refine Zbc ?_;refine tv (o_lookup (ik:= .i64) (M:=M2) underlying97 underlying3 z4 rfl rfl hsqz) ?_;refine tl_env (d:=36) (v:= .bool false) (by show (M2.get (x:Int)).getD _=_;rw [mapV M2 (x:Int) hp1];simp [hxo]) ?_;refine Zeh ?_;intro h;refine Zc ?_;refine Zdr ?_;refine tl_u rfl (o_mapUpdate (ik:= .i64) (M:=M2) (v:= .bool true) underlying97 underlying3 rfl upqz rfl rfl rfl) ?_;refine Zbv ?_;refine Zco ?_;exact ⟨_,by omega,i+1,_,by omega,by rw [List.take_succ_eq_append_getElem hi,onL_snoc,hx1];exact sf_put hp1 hxn,rfl,rfl,rfl,rfl,rfl,rfl,drqz⟩
  obtain rfl:i=m:=by first|omega|(simp at h;omega)
  rw [List.take_of_length_le oqz] at hp1
  refine Zda ?_;refine tlm ?_;refine Zb6 ?_;refine tl_u rfl (o_stU (l':=hcs p ba n l2 none) rfl upqz sz97 rfl rfl (by show 3<5;decide) rfl) ?_;refine nq ?_;refine Zdn ?_;exact ⟨.int .i64 0,_,res1 rfl rfl,Dr.sat drqz,l2,M2,rfl,hp1,rfl⟩
theorem BeginH_c {A R:SP}{hd p ba n lv lg d at_ sz:Nat}{s:DevS}(hA:A=R*pt hd (cl (hcs p ba n lv none) 99)*pt p (cl (pocs lg d none) 78)*pt lg (cl (lcs11 d at_ sz) 183)*Dev d s)(hlw:LogW (s.ls.length*64) at_ sz)(ho:s.off=false)(hst:stpS at_ sz s=0):
    Fn Tryz.prog 12 #[pz hd] A (λ r B=>∃w t mb tk gv,r= .tuple #[pz w,.int .i64 0]/\ B=R*pt hd (cl (hcs p ba n lv (some w)) 99)*TxA t p lg d mb at_ sz ⟨[],0⟩ false s*pt tk (mpo .i64 ⟨[],0⟩)*pt gv (mpo .i64 ⟨[],0⟩)*pt w (cl (wcs hd t tk gv 0 false) 101)):=by
  refine fn_enterW func12 rfl ntmps12 (by simp) ?_;subst hA;refine Zc0 ?_;refine tl_c rfl (o_call bd47 rfl (thereH_c)) ?_;refine Zfz ?_;intro h;refine Ze3 ?_;refine tv (o_fieldAddr (o:=0) underlying99 rfl rfl sz66 rfl) ?_;refine tv (o_load p66 rfl hsqz rfl) ?_;refine tl_c rfl (o_call bd48 rfl (Begin12_ok (C:=λ Y=>Y) (R:=R*pt hd (cl (hcs p ba n lv none) 99)) (s:=s) (at_:=at_) (sz:=sz) (p:=p) (lg:=lg) (d:=d) (hA:=by ac_rfl) (hlw:=hlw) (ho:=ho) (hst:=hst))) ?_;rintro _ _ ⟨t,mb,rfl,rfl⟩;refine Zfv ?_;intro h;refine Zbq ?_;refine Zbc ?_;refine tl_x rfl (o_makeMap (ik:= .i64) underlying97) ?_;rintro _ _ ⟨tk,rfl,rfl⟩;refine tl_x rfl (o_makeMap (ik:= .i64) underlying97) ?_;rintro _ _ ⟨gv,rfl,rfl⟩;refine tv (o_bS (l:=[_,_,_,_,_,_]) (pv_cons wqz (pv_cons wqz (pv_cons wqz (pv_cons wqz pv_nil)))) underlying101 z101 (pl101 underlying101) rfl) ?_;refine tl_x rfl (o_box rfl rfl) ?_;rintro _ _ ⟨b26,rfl,rfl⟩;refine Zdh ?_;refine tl_u rfl (o_stU (l':=hcs p ba n lv (some b26)) rfl upqz sz40 rfl rfl (by show 4<5;decide) rfl) ?_;refine nq ?_;refine Z7 ?_;refine tv (o_fieldAddr (o:=4) underlying99 rfl rfl sz40 rfl) ?_;refine tv (o_load p40 rfl hsqz rfl) ?_;refine Zdd ?_;exact ⟨_,_,res2 rfl rfl rfl,Dr.sat drqz,b26,t,mb,tk,gv,rfl,rfl⟩
end Go.Vl

namespace Go.Vl
open Go Go.Proofs Go.Proofs.Tryz
section
variable {P:Program} {n:Nat} {ρ:Env} {A A' R:SP} {C:SP->SP} {dst:Option Tmp} {ty:TypeId} {pos:String} {after:Array Edge} {gd:Option (Nat×Bool)}
theorem o_eqmN {t t' k e:TypeId}{x y:Operand}{b:Nat}(hu:P.underlying t=some (.map k e))(hge:P.eqGuardType P.depth t=false)(hx:ev n ρ x= .map (some b))(hy:ev n ρ y= .map none):
    OpV P n ρ A ⟨dst,.binOp .eql t x y t',ty,pos,after,gd⟩ (.bool false):=opv_of λ w=>by
  simp only [execOp,hx,hy]
  rw [run_bind (w':=w) (a:= .bool false)]
  . rfl
  rw [run_bind (w':=w) (a:=())]
  . have h1:∀d,(Op.equalIn (d+1) t (.map (some b)) (.map none)).run P w= .ok false w:=λ d=>by simp [Op.equalIn,Go.run_underlying hu]
    simp only [binOp]
    simp [show Op.equal t (.map (some b)) (.map none)=Op.equalIn (9999+1) t (.map (some b)) (.map none) from rfl,h1]
  simp [eqGuard,hge,program,bind,Sem.bind,Sem.run,pure]
theorem o_mkI {t k e:TypeId}{x:Operand}{v:Value}(hu:P.underlying t=some (.map k e))(hx:ev n ρ x=v):OpV P n ρ A ⟨dst,.makeInterface t x,ty,pos,after,gd⟩ (.iface t v):=opv_of λ w=>by
  simp only [execOp,hx]
  rw [run_bind (w':=w) (a:= .iface t v)]
  . rfl
  unfold Instr.makeInterface
  rw [run_bind (run_und hu)];rfl
theorem o_tAs {t s k e:TypeId}{x:Operand}{v:Value}(hu:P.underlying t=some (.map k e))(hx:ev n ρ x= .iface t v):OpV P n ρ A ⟨dst,.typeAssert x s t false,ty,pos,after,gd⟩ v:=opv_of λ w=>by
  simp only [execOp,hx]
  rw [run_bind (w':=w) (a:=v)]
  . rfl
  unfold Instr.typeAssert
  rw [run_bind (run_und hu)]
  simp only []
  rw [if_pos trivial];rfl
theorem o_mclone {f : FuncId} {fn : Func} {tys : Array TypeId} {x : Operand} {t : TypeId} {b : Nat} {M : MS} (hf : P.funcs[f]? = some fn) (hname : (fn.name == "runtime.NumGoroutine") = false) (hb : fn.body.isNone = true) (hn : Extern.findNext fn = none) (he : Extern.find fn = some Extern.MapsClone.clone) (hx : ev n ρ x = .iface t (.map (some b))) (hm : Has A b (mpo .i64 M)) :
    OpX P n ρ A ⟨dst,.call { callee:= .value (.func f),args:= #[x],argTypes:=tys },ty,pos,after,gd⟩ (λ v B=>∃r,v= .iface t (.map (some r))/\ B=A*pt r (mpo .i64 M)):=λ g w hs=>by
  have h2:w.heap[b]? =some (mpo .i64 M):=hm g w hs;have hx':(#[x]:Array Operand).map (ev n ρ)= #[.iface t (.map (some b))]:=(by simp [hx]);have hfv:ev n ρ (.func f)= .func (.func f) #[] #[]:=rfl;refine ⟨.iface t (.map (some w.heap.size)),w.alloc (mpo .i64 M),_, ?_,hs.alloc _,w.heap.size,rfl,rfl⟩
  simp only [execOp,resolve,hfv,Deferred.ofValue,hx']
  rw [run_bind (w':=w) (a:=⟨.fn (.func f) #[],#[]++ #[.iface t (.map (some b))]⟩) (by rfl)]
  simp only [invoke]
  have hrun:(Extern.MapsClone.clone #[.iface t (.map (some b))]).run P w= .ok (.iface t (.map (some w.heap.size))) (w.alloc (mpo .i64 M)):=by
    have e:Extern.MapsClone.clone #[.iface t (.map (some b))]=(getObj b>>=λ o=>match o with
      | .map entries clock=>(newObj (.map entries clock)>>=λ n=>pure (.iface t (.map (some n))))
      | _ => stuck "maps.clone: a map expected") := rfl
    rw [e]
    simp [MapKept.run_getObj_map (show w.heap[b]? =some (.map (M.D.map (ment .i64)).toArray M.c) from h2),Result.andThen,go_sem]
    rfl
  have:(callFunc f (#[]++ #[.iface t (.map (some b))]++ #[])).run P w= .ok (.value (.iface t (.map (some w.heap.size)))) (w.alloc (mpo .i64 M)):=(by rw [run_callFunc_extern hf hname hb hn he];simp [hrun,Result.andThen]);exact this
end
theorem sf_congr {M:MS}{n:Nat}{g g':Nat->Bool}(h:SF M n g)(e:∀a,g a=g' a):SF M n g':=by
  have:g=g':=funext e;subst this;exact h
theorem sf_mem {M:MS}{n:Nat}{g:Nat->Bool}{e:ME}(h:SF M n g)(he:e∈M.D):∃a:Nat,a<n/\ e.k=(a:Int)/\ g a=true/\ e.v= .bool true:=by
  obtain ⟨a,h1,h2,h3⟩:=h.keys e he;refine ⟨a,h1,h2,h3, ?_⟩;have h4:=get_of_mem h.wf he;rw [h.get,h2,if_pos ⟨by omega,by simpa using h3⟩] at h4
  exact (Option.some.inj h4).symm
theorem sf_vis {M:MS}{n a:Nat}{g:Nat->Bool}{vis:List ME}(h:SF M n g)(hp:vis.Perm M.D):decide ((a:Int)∈vis.map ME.k)=g a:=by
  have e:((a:Int)∈vis.map ME.k)↔g a=true:=by
    rw [(hp.map ME.k).mem_iff,List.mem_map]
    constructor
    . rintro ⟨e,he,hk⟩;obtain ⟨c,_,h2,h3⟩:=h.keys e he;have:c=a:=(by omega);exact this▸h3
    intro ha;obtain ⟨e,he,hk⟩:=sf_has h ha;exact ⟨e,he,hk⟩
  cases hg:g a with
  |true=>exact decide_eq_true (e.2 hg)
  |false=>exact decide_eq_false λ h9=>by rw [e.1 h9] at hg;cases hg
theorem vis_or {g:Nat->Bool}{vis:List ME}{e:ME}{a:Nat}(hk:e.k=(a:Int)):updG (λ c=>g c||decide ((c:Int)∈vis.map ME.k)) a true=λ c=>g c||decide ((c:Int)∈(vis++[e]).map ME.k):=by
  funext c;unfold updG
  rw [List.map_append,List.map_singleton]
  by_cases hc:c=a
  . rw [if_pos hc,hc,hk];simp
  rw [if_neg hc,hk]
  have:¬(c:Int)=(a:Int):=(by omega)
  simp [this]
theorem vis_no {g:Nat->Bool}{vis:List ME}{e:ME}{a:Nat}(hk:e.k=(a:Int)):updG (λ c=>g c&& !decide ((c:Int)∈vis.map ME.k)) a false=λ c=>g c&& !decide ((c:Int)∈(vis++[e]).map ME.k):=by
  funext c;unfold updG
  rw [List.map_append,List.map_singleton]
  by_cases hc:c=a
  . rw [if_pos hc,hc,hk];simp
  rw [if_neg hc,hk]
  have:¬(c:Int)=(a:Int):=(by omega)
  simp [this]
attribute [local irreducible] crk crL crc Sl pt ro Dev imgS recS readS recsF rdW rdO rkT Parts rvl recordsS runsL adrF kcl xcl kys runA runsF layF ovF TxA adZ WkA
theorem Clone13_c {A:SP}{b:Nat}{M:MS}(hm:Has A b (mpo .i64 M):=by exact hbqz):
    Fn Tryz.prog 57 #[.map (some b)] A (λ v B=>∃r,v= .map (some r)/\ B=A*pt r (mpo .i64 M)):=by
  refine fn_enterW func57 rfl ntmps57 (by simp) ?_;refine Zbl ?_;refine tv (o_eqmN underlying97 kqz rfl rfl) ?_;refine Zz ?_;intro h;refine Zbq ?_;refine tv (o_mkI underlying97 rfl) ?_;refine tl_x rfl (o_mclone (M:=M) func124 kqz kqz kqz kqz rfl haqz) ?_;rintro _ _ ⟨r7,rfl,rfl⟩;refine tv (o_tAs underlying97 rfl) ?_;refine Zf ?_;exact ⟨_,_,res1 rfl rfl,λ _ _ h=>h,r7,rfl,rfl⟩
theorem Copy13_c {A R:SP}{C:SP->SP}{b1 b2 n:Nat}{M1 M2:MS}{g1 g2:Nat->Bool}(hc:Ct A (pt b1 (mpo .i64 M1)) R C:=by exact cbqz)(hm:Has R b2 (mpo .i64 M2):=by exact hbqz)(h1:SF M1 n g1)(h2:SF M2 n g2):
    Fn Tryz.prog 58 #[.map (some b1),.map (some b2)] A (λ v B=>∃M3,v= .tuple #[]/\ SF M3 n (λ a=>g1 a||g2 a)/\ B=C (pt b1 (mpo .i64 M3))):=by
  refine fn_enterW func58 rfl ntmps58 (by simp) ?_;obtain ⟨rfl,hC⟩:=hc;refine Zb ?_;refine tl_x rfl (o_range (ik:= .i64) (M:=M2) underlying97 rfl haqz) ?_;rintro _ _ ⟨r7,rfl,rfl⟩;refine Zbh ?_;refine tc_loop (λ kk ρ BB=>∃ (vis:List ME) (M3:MS),(Vis M2 vis)/\ (SF M3 n (λ c=>g1 c||decide ((c:Int)∈vis.map ME.k)))/\ kk=M2.D.length-vis.length/\ ρ 0= .map (some b1)/\ ρ 7=(pz r7)/\ Dr BB (R*pt b1 (mpo .i64 M3)*pt r7 (mit b2 M2.c (vis.map ME.b) M2.c))) (m:=M2.D.length-(([]:List ME)).length) ?_ ?_
  . exact ⟨([]:List ME),M1,vis_nil M2,sf_congr h1 (λ a=>by simp),rfl,rfl,rfl,drqz⟩
  intro k ρ B hI;obtain ⟨vis,M3,hp0,hp1,hkk1,hE0,hE7,hBA⟩:=hI;refine tc_pre hBA.sat ?_;clear hBA;refine te 0 hE0 ?_;refine te 7 hE7 ?_;refine sr ?_;refine tl_x rfl (o_next (ik:= .i64) (M:=M2) (b:=b2) (seen:=vis.map ME.b) h2.wf rfl ctqz haqz) ?_;rintro _ _ ⟨o8,hnx,rfl,rfl⟩;refine tv (o_exNx rfl) ?_;refine Zeq ?_;refine tc_cond rfl (λ h=> ?_) (λ h=> ?_)
  . obtain ⟨e,rfl⟩:∃e,o8=some e:=Option.isSome_iff_exists.1 (by simpa using h);have hvs2:=vis_snoc hp0 hnx;have hvl:=vis_len hvs2;have hvl2:(vis++[e]).length=vis.length+1:=(by rw [List.length_append,List.length_singleton]);have hem:=(hnx.yes e rfl).1;obtain ⟨a,ha,hk,hg,hv⟩:=sf_mem h2 hem;have hsf:=vis_or (g:=g1) (vis:=vis) hk▸sf_put hp1 ha
    refine tc_eq (show _=R*pt b1 (mpo .i64 M3)*pt r7 (mit b2 M2.c (vis.map ME.b++[e.b]) M2.c) from rfl) ?_;refine Zgg ?_;refine sr ?_;refine tv (o_entry (ik:= .i64) (M:=M2) (b:=b2) (seen:=vis.map ME.b) h2.wf hem rfl (by repeat (first|with_reducible exact has_here|apply has_left)) haqz) ?_;refine tl_env (d:=10) (v:= .tuple #[vn a,.bool true]) (by show Value.tuple #[.int .i64 e.k,e.v]=_;rw [hk,hv]) ?_;refine Zj ?_;refine tla ?_;refine Za ?_;refine Zw ?_;refine Zbc ?_;refine tl_u rfl (o_mapUpdate (ik:= .i64) (M:=M3) (v:= .bool true) underlying97 underlying3 rfl upqz rfl rfl rfl) ?_;refine tl_nil ?_;refine q_block_n (q_then_n ?_);exact ⟨_,by omega,vis++[e],_,hvs2,hsf,rfl,rfl,rfl,by rw [show (vis++[e]).map ME.b=vis.map ME.b++[e.b] by rw [List.map_append];rfl];repeat (first|with_reducible exact dr_refl|apply dr_keep|apply dr_drop)⟩
  obtain rfl:o8=none:=by cases o8<;>simp at h ⊢
  have hvp:=vis_perm h2.wf hp0 hnx;have hsf:SF M3 n (λ a=>g1 a||g2 a):=sf_congr hp1 λ a=>by rw [sf_vis h2 hvp]
  refine tc_exit ?_;refine q_then_e (q_then_e (q_block_x ?_));exact ⟨.tuple #[],C (pt b1 (mpo .i64 M3)),res0 rfl,(λ g w h=>by rw [hC];exact Dr.sat (A':=R*pt b1 (mpo .i64 M3)) drqz g w h),M3,rfl,hsf,rfl⟩
end Go.Vl

namespace Go.Vl
open Go Go.Proofs Go.Proofs.Tryz
def nblk (n:Nat):Nat:=if n%248=0 then n/248 else n/248+1
def blkS (next:Nat)(xs:List Nat):List Nat:=le 4 next++le 2 xs.length++le 2 0++xs++List.replicate (248-xs.length) 0
abbrev Lk:=Nat×List Nat×Int
def lnkS (u:Nat->Bool)(c:Nat->List Nat)(ref:Nat):Lk×Nat:=
  if 1<=ref/\ u (ref-1)=true then
    if 1<=nm (((c (ref-1)).drop 4).take 2)/\ nm (((c (ref-1)).drop 4).take 2)<=248/\ (nm ((c (ref-1)).take 4)=0∨nm (((c (ref-1)).drop 4).take 2)=248)∧
        blkS (nm ((c (ref-1)).take 4)) (((c (ref-1)).drop 8).take (nm (((c (ref-1)).drop 4).take 2)))=c (ref-1) then
      ((ref-1,((c (ref-1)).drop 8).take (nm (((c (ref-1)).drop 4).take 2)),0),nm ((c (ref-1)).take 4))
    else ((0,[],140),0)
  else ((0,[],140),0)
def cutL (m:Nat)(l:Lk):Lk:=if 65536<m+l.2.1.length then (0,[],140) else l
def chL (f:Nat->Lk×Nat):Nat->Nat->Nat->List Lk
  |0,_,_=>[]
  |k+1,ref,m=>if ref=0 then [] else if (cutL m (f ref).1).2.2≠0 then [cutL m (f ref).1] else cutL m (f ref).1::chL f k (f ref).2 (m+(f ref).1.2.1.length)
def whL (l:List Lk):List Nat×List Nat×Int:=if l.all (λ x=>decide (x.2.2=0)) then (l.flatMap (·.2.1),l.map (·.1),0) else ([],[],140)
def whS (u:Nat->Bool)(c:Nat->List Nat)(ref:Nat):List Nat×List Nat×Int:=whL (chL (lnkS u c) 65538 ref 0)
inductive Chn (u:Nat->Bool) (c:Nat->List Nat):Nat->List Nat->List Nat->Prop
  |nil:Chn u c 0 [] []
  |cons {b next:Nat} {d t l:List Nat} (hu:u b=true) (hc:c b=blkS next d) (h1:1<=d.length) (h2:d.length<=248) (h3:next=0∨d.length=248) (hn:next<4294967296) (h:Chn u c next t l):Chn u c (b+1) (d++t) (b::l)
def conB (T:WkT)(s:DevS)(ba b:Nat):List Nat:=ovF T.f (ba+256*b) (((imgS s).drop (ba+256*b)).take 256)
theorem ovF_get (f:TF)(p:Nat)(xs:List Nat)(i:Nat):(ovF f p xs)[i]? =(xs[i]?).map λ x=>((f (p+i)).map (·.1)).getD x:=by unfold ovF;rw [List.getElem?_mapIdx]
theorem layF_in {p i:Nat}{xs:List Nat}{fr:Bool}{f:TF}(h:i<xs.length):(layF p xs fr f (p+i)).map (·.1)=some xs[i]:=by
  unfold layF
  rw [if_pos ⟨by omega,by omega⟩,Nat.add_sub_cancel_left,List.getD_eq_getElem?_getD,List.getElem?_eq_getElem h];rfl
theorem layF_out {p a:Nat}{xs:List Nat}{fr:Bool}{f:TF}(h:a<p∨p+xs.length<=a):layF p xs fr f a=f a:=by
  unfold layF
  rw [if_neg oqz]
theorem con_len {T:WkT}{s:DevS}{ba b:Nat}(h:ba+256*b+256<=(imgS s).length):(conB T s ba b).length=256:=by
  unfold conB;rw [ovF_len,List.length_take,List.length_drop];omega
def takeL (n:Nat):Nat->WkT->List Nat×WkT×Bool
  |0,T=>([],T,true)
  |k+1,T=>match leastB T n with
    |none=>([],T,false)
    |some b=>(b::(takeL n k (T.take b)).1,(takeL n k (T.take b)).2)
def wrL (ba:Nat):List Nat->WkT->List Nat->WkT
  |[],T,_=>T
  |[b],T,s=>T.write ba b (blkS 0 s)
  |b::c::l,T,s=>wrL ba (c::l) (T.write ba b (blkS (c+1) (s.take 248))) (s.drop 248)
def refL:List Nat->Nat
  |[]=>0
  |b::_=>b+1
def putS (ba n:Nat)(T:WkT)(s:List Nat):Nat×Int×WkT:=
  if 65536<s.length then (0,4,T)
  else if (takeL n (nblk s.length) T).2.2=true then (refL (takeL n (nblk s.length) T).1,0,wrL ba (takeL n (nblk s.length) T).1 (takeL n (nblk s.length) T).2.1 s)
  else (0,7,(takeL n (nblk s.length) T).2.1)
def takeS (n:Nat)(T:WkT):Nat×Int×WkT:=match leastB T n with
  |none=>(0,7,T)
  |some b=>(b,0,T.take b)
section
variable {α:Type} {lt:α->α->Bool}
structure SWO (lt:α->α->Bool):Prop where
  asymm:∀a b,lt a b=true->lt b a=false
  ntrans:∀a b c,lt b a=false->lt c b=false->lt c a=false
def leF (lt:α->α->Bool)(a b:α):Bool:= !lt b a
def Sd (lt:α->α->Bool)(l:List α):Prop:=l.Pairwise λ a b=>lt b a=false
def eqv (lt:α->α->Bool)(a b:α):Bool:= !lt a b&& !lt b a
structure SS (lt:α->α->Bool) (l r:List α):Prop where
  sd:Sd lt r
  eq:∀a,r.filter (eqv lt a)=l.filter (eqv lt a)
def mg (lt:α->α->Bool):List α->List α->List α
  |[],ys=>ys
  |xs,[]=>xs
  |x::xs,y::ys=>if lt y x then y::mg lt (x::xs) ys else x::mg lt xs (y::ys)
termination_by xs ys=>xs.length+ys.length
end
section
variable {α:Type} {lt:α->α->Bool}
def sw (l:List α)(p q:Nat):List α:=if h:p<l.length/\ q<l.length then (l.set p (l[q]'h.2)).set q (l[p]'h.1) else l
def swR (l:List α)(a b:Nat):Nat->List α
  |0=>l
  |n+1=>sw (swR l a b n) (a+n) (b+n)
def Blk (lt:α->α->Bool)(bs:Nat)(l d:List α):Prop:=d.length=l.length/\∀k,SS lt ((l.drop (k*bs)).take bs) ((d.drop (k*bs)).take bs)
structure Blm (lt:α->α->Bool) (bs a:Nat) (l d:List α):Prop where
  len:d.length=l.length
  two:∀k,(k+1)*(2*bs)<=a->SS lt ((l.drop (k*(2*bs))).take (2*bs)) ((d.drop (k*(2*bs))).take (2*bs))
  one:∀k,a<=k*bs->SS lt ((l.drop (k*bs)).take bs) ((d.drop (k*bs)).take bs)
def srt (lt:α->α->Bool)(l:List α):List α:=l.foldl (λ acc x=>mg lt acc [x]) []
end
section
variable {α:Type} {lt:α->α->Bool}
structure InsR (lt:α->α->Bool) (p q:Nat) (d d2:List α):Prop where
  len:d2.length=d.length
  pre:d2.take p=d.take p
  post:d2.drop q=d.drop q
  ss:SS lt ((d.drop p).take (q-p)) ((d2.drop p).take (q-p))
def insT (d:List α)(x:α)(i j:Nat):List α:=d.take j++x::((d.drop j).take (i-j)++d.drop (i+1))
def rotT (d:List α)(p m q:Nat):List α:=d.take p++((d.drop m).take (q-m)++((d.drop p).take (m-p)++d.drop q))
def RotI (m i j:Nat)(d T:List α):Prop:=∃P X Y Q:List α,d=P++(X++(Y++Q))/\ P.length+i=m/\ X.length=i/\ Y.length=j/\ P++(Y++(X++Q))=T
def symT (lt:α->α->Bool)(d:List α)(p m q:Nat):List α:=d.take p++(mg lt ((d.drop p).take (m-p)) ((d.drop m).take (q-m))++d.drop q)
end
structure Mk where
  id:Nat
  at_:Int
  gr:Nat
deriving DecidableEq
def Mk.cells (m:Mk):List Value:=[.int .u32 (m.id:Nat),.int .i64 m.at_,.int .u8 (m.gr:Nat)]
def mcs (l:List Mk):List Value:=l.flatMap Mk.cells
structure OrdF (gf:Nat) (cf:Mk->Mk->Int):Prop where
  body:bodyB Tryz.prog gf=true
  run:∀ (A:SP) (x y:Mk),Fn Tryz.prog gf #[.agg x.cells.toArray,.agg y.cells.toArray] A (λ v B=>v= .int .i64 (cf x y)/\ A=B)
def ltc (cf:Mk->Mk->Int)(x y:Mk):Bool:=decide (cf x y<0)
def gA (d:List Mk)(k:Nat):Mk:=d.getD k ⟨0,0,0⟩
section
variable {α:Type} {lt:α->α->Bool}
def fwT (d:List α)(x:α)(p k:Nat):List α:=d.take p++((d.drop (p+1)).take (k-p)++x::d.drop (k+1))
end
section
variable {α:Type} {lt:α->α->Bool}
structure Bl1 (lt:α->α->Bool) (bs a:Nat) (l d:List α):Prop where
  len:d.length=l.length
  done:∀k,(k+1)*bs<=a->SS lt ((l.drop (k*bs)).take bs) ((d.drop (k*bs)).take bs)
  rest:d.drop a=l.drop a
end
def intK (P : Program) (f : Field) (k : IntKind) : Bool := f.name != "_" && plainE P f.type && (match P.underlying f.type with | some (.int j) => j == k | _ => false)
def zk (ks:List IntKind)(l:List Int):List Value:=List.zipWith Value.int ks l
def flatK (P:Program)(fs:Array Field)(ks:List IntKind):Bool:=((fs.toList.map λ f=>f.offset)==List.range ks.length)&&fs.toList.all λ f=>intK P f (ks.getD f.offset .i64)
def Mk.ns (m:Mk):List Int:=[(m.id:Int),m.at_,(m.gr:Int)]
def mkk:List IntKind:=[.u32,.i64,.u8]
section
variable {n:Nat} {ρ:Env} {A:SP} {dst:Option Tmp} {ty:TypeId} {pos:String} {after:Array Edge} {gd:Option (Nat×Bool)}
end
def cId (x y:Mk):Int:=if x.id<y.id then-1 else if y.id<x.id then 1 else 0
def cPl (x y:Mk):Int:=if x.at_<y.at_ then-1 else if y.at_<x.at_ then 1 else cId x y
attribute [local irreducible] Sl pt ro
def okM (m:Mk):Bool:=decide (0<=m.at_)&&decide (m.gr<=1)
end Go.Vl

namespace Go.Vl
open Go Go.Proofs Go.Proofs.Tryz
def SlB (e:TypeId)(v:Value)(n:Nat)(xs:List Value):SP:=λ h=>xs.length=n∧
  ((v = .slice none 0 0 ∧ n = 0 ∧ h = fun _ => none) ∨
   ∃b cap l,v= .slice (some ⟨b,0,none⟩) n cap/\ n<=cap/\ cap<=l.length/\ l.take n=xs/\ pt b (cl l e) h)
section
variable {P:Program} {n:Nat} {ρ:Env} {A:SP} {dst:Option Tmp} {ty:TypeId} {pos:String} {after:Array Edge} {gd:Option (Nat×Bool)}
end
section
variable {P:Program} {n:Nat} {ρ:Env} {A:SP} {dst:Option Tmp} {ty:TypeId} {pos:String} {after:Array Edge} {gd:Option (Nat×Bool)}
end
def bdc (p v:Value):List Value:=[p,v]
theorem Take13_c {A R:SP}{C:SP->SP}{X:WkX}{Y:WkY}{T:WkT}{s:DevS}(hc:Ct A (WkA X Y s) R C:=by exact cbqz)(hok:WkOk X Y T (s.ls.length*64))(hb:WkB X s)(ho:s.off=false:=by assumption):
    Fn Tryz.prog 14 #[.pointer (some ⟨X.w,0,none⟩)] A (λ r B=>∃b e T2 Y2,takeS X.n T=(b,e,T2)/\ r= .tuple #[vn b,.int .i64 e]/\ WkOk X Y2 T2 (s.ls.length*64)/\ B=C (WkA X Y2 s)):=by
  cases h:leastB T X.n with
  |none=>exact (Take13_no (hc:=hc) (hok:=hok) (hb:=hb) (hf:=h)).mono λ r B ⟨h1,h2⟩=>⟨0,7,T,Y,by unfold takeS;rw [h],h1,hok,h2⟩
  |some b=>exact (Take13_ok (hc:=hc) (hok:=hok) (hb:=hb) (hf:=h)).mono λ r B ⟨Y2,h1,h2,h3⟩=>⟨b,0,_,Y2,by unfold takeS;rw [h],h1,h2,h3⟩
theorem ovF_lt {M:MS}{n:Nat}{f:TF}(h:MF M n f){p:Nat}{xs:List Nat}(hx:∀x∈xs,x<256):∀x∈ovF f p xs,x<256:=λ x hm=>by
  obtain ⟨i,hi⟩:=List.mem_iff_getElem?.1 hm;rw [ovF_get] at hi
  cases hxi:xs[i]? with
  |none=>rw [hxi] at hi;cases hi
  |some y=>
    rw [hxi] at hi
    simp only [Option.map_some,Option.some.injEq] at hi
    cases hf:f (p+i) with
    |none=>rw [hf] at hi;simp at hi;rw [←hi];exact hx y (List.mem_of_getElem? hxi)
    |some c=>rw [hf] at hi;simp at hi;rw [←hi];exact h.by_ _ _ hf
def lkV (x:Lk):Value:= .agg ([vn x.1,.string (sob x.2.1),.int .i64 x.2.2]:List Value).toArray
theorem nodup_le {l:List Nat}{n:Nat}(h:l.Nodup)(hl:∀b∈l,b<n):l.length<=n:=by
  have:=h.length_le_of_subset λ b hb=>List.mem_range.2 (hl b hb)
  rwa [List.length_range] at this
def nB (bl:Int):Nat:=(1+(IntKind.i64.wrap (bl-1))%60).toNat
def wasL (n:Nat)(live:List Nat):List Bool:=(List.range n).map λ c=>decide (c∈live)
def imS (n:Nat)(fs:List (List Nat))(st:List Nat×List Nat)(z:Int):List Nat×List Nat:=
  if (z%(n:Int)).toNat∈st.2 then st
  else (if st.2.length<fs.length then spl st.1 (16512+256*(z%(n:Int)).toNat) ((fs.getD st.2.length []).take 256) else st.1,st.2++[(z%(n:Int)).toNat])
def imF (n:Nat)(fs:List (List Nat))(ls:List Int):List Nat×List Nat:=ls.foldl (imS n fs) (List.replicate (16512+256*n) 0,[])
structure ImOk (n:Nat) (st:List Nat×List Nat):Prop where
  len:st.1.length=16512+256*n
  lt:∀c∈st.2,c<n
  nd:st.2.Nodup
  by_:∀x∈st.1,x<256
  z:st.1.take 16512=List.replicate 16512 0
def RsRows (A:SP)(a:Option Addr)(fs:List (List Nat)):Prop:=∃vs:List Value,vs.length=fs.length/\ Rs A a vs/\∀i (h:i<fs.length),∃b c,vs[i]? =some (.slice b fs[i].length c)/\ fs[i].length<=c/\ fs[i].length<=140737488351232/\ Rs A b (bys fs[i])
theorem RsRows.left {A Z:SP}{a:Option Addr}{fs:List (List Nat)}(h:RsRows A a fs):RsRows (A*Z) a fs:=by
  obtain ⟨vs,h1,h2,h3⟩:=h;exact ⟨vs,h1,h2.left,λ i hi=>by obtain ⟨b,c,e1,e2,e3,e4⟩:=h3 i hi;exact ⟨b,c,e1,e2,e3,e4.left⟩⟩
def pvO (o:Option Nat):Value:= .pointer (o.map λ b=>(⟨b,0,none⟩:Addr))
def gcs (d h w r g k:Option Nat)(n:Nat):List Value:=[pvO d,pvO h,pvO w,pvO r,pvO g,pvO k,vn n]
def s14 (n:Nat)(I:List Nat):DevS:=fromS (258+4*n) I
def T014 (zs:List Nat):WkT:=⟨onL zs,g0,g0,tf0⟩
def Y014 (M:MS):WkY:=⟨M,⟨[],0⟩,⟨[],0⟩,⟨[],0⟩,0⟩
def s0 (n:Nat):DevS:=s14 n (List.replicate (16512+256*n) 0)
def awS:ByteArray:=sob (List.replicate 250 0)++⟨#[101,110,100]⟩
def PRowsB (A:SP)(cs:List Value)(fs:List (List Nat)):Prop:=∃a cap,cs=[.slice a fs.length cap]/\ fs.length<=140737488351232/\ RsRows A a fs/\∀f∈fs,∀x∈f,x<256
structure Bs14 where
  bl:Int
  ls:List Int
  fs:List (List Nat)
def PBase (A:SP)(cs:List Value)(t:Bs14):Prop:=∃v1 v2,cs=[.int .i64 t.bl,v1,v2]/\ (-9223372036854775808<=t.bl/\ t.bl<=9223372036854775807)/\ PInts A [v1] t.ls/\ PRowsB A [v2] t.fs
def BadW (A:SP)(v:Value)(e:Int):Prop:=(v= .pointer none/\ e=1)∨(∃w,v=(pz w)/\ Has A w (cl [.pointer none,.pointer none,.map none,.map none,.int .i64 0,.bool false] 101)/\ e=1)∨∃w h t tk gv ls,v=(pz w)/\ Has A w (cl (wcs h t tk gv ls true) 101)/\ e=3
theorem BadW.left {A X:SP}{v:Value}{e:Int}(h:BadW A v e):BadW (A*X) v e:=by
  rcases h with h|⟨w,h1,h2,h3⟩|⟨w,a,b,c,d,f,h1,h2,h3⟩
  . exact .inl h
  . exact .inr (.inl ⟨w,h1,has_left h2,h3⟩)
  exact .inr (.inr ⟨w,a,b,c,d,f,h1,has_left h2,h3⟩)
theorem BadW.ne {A:SP}{v:Value}{e:Int}(h:BadW A v e):e≠0:=by
  rcases h with ⟨_,h⟩|⟨w,h1,h2,h⟩|⟨w,a,b,c,d,f,h1,h2,h⟩<;>omega
attribute [local irreducible] crk crL crc Sl pt ro Dev imgS recS readS recsF rdW rdO rkT Parts rvl recordsS runsL adrF kcl xcl kys runA runsF layF ovF TxA adZ WkA SlB blkS conB imF RDev s14 s0 wasL putS whS takeL
theorem thereN_c {A:SP}:
    Fn Tryz.prog 61 #[.pointer none] A (λ r B=>r= .bool false/\ A=B):=by
  refine Zhc ?_;refine tlm ?_;refine tl_bool (d:=5) rfl dbq (sbq ?_);intro h;refine Zb3 ?_;refine tk ?_;refine tv (o_pick_f rfl wqz) ?_;refine Zf ?_;exact ⟨.bool false,A,res1 rfl rfl,Dr.sat drqz,rfl,rfl⟩
theorem thereO_c {A:SP}{w h t tk gv ls:Nat}(hw:Has A w (cl (wcs h t tk gv ls true) 101)):
    Fn Tryz.prog 61 #[pz w] A (λ r B=>r= .bool true/\ A=B):=by
  refine Zhc ?_;refine Zf8 ?_;intro h;refine tlm ?_;refine Zy ?_;refine tv (o_load p29 rfl hw rfl) ?_;refine tv (o_nep underlying29 rfl rfl) ?_;refine Zdt ?_;exact ⟨.bool true,A,res1 rfl rfl,Dr.sat drqz,rfl,rfl⟩
theorem beginN_c {A:SP}:
    Fn Tryz.prog 49 #[.pointer none] A (λ r B=>r= .int .i64 1/\ A=B):=by
  refine fn_enterW func49 rfl ntmps49 (by simp) ?_;refine Zbl ?_;refine tl_c rfl (o_call bd61 rfl (thereN_c)) ?_;refine Zbf ?_;refine Zf1 ?_;intro h;refine Zdb ?_;exact ⟨.int .i64 1,A,res1 rfl rfl,Dr.sat drqz,rfl,rfl⟩
theorem beginO_c {A:SP}{w h t tk gv ls:Nat}(hw:Has A w (cl (wcs h t tk gv ls true) 101)):
    Fn Tryz.prog 49 #[pz w] A (λ r B=>r= .int .i64 3/\ A=B):=by
  refine fn_enterW func49 rfl ntmps49 (by simp) ?_;refine Zbl ?_;refine tl_c rfl (o_call bd61 rfl (thereO_c hw)) ?_;refine Zfz ?_;intro h;refine Zcd ?_;refine Ze4 ?_;refine tv (o_load p4 rfl hw rfl) ?_;refine Zf1 ?_;intro h;refine Zdb ?_;exact ⟨.int .i64 3,A,res1 rfl rfl,Dr.sat drqz,rfl,rfl⟩
theorem end13_c {A R:SP}{w hd p ba n lv t tk gv ls:Nat}(hA:A=R*pt hd (cl (hcs p ba n lv (some w)) 99)*pt w (cl (wcs hd t tk gv ls false) 101)):
    Fn Tryz.prog 60 #[pz w] A (λ r B=>r= .tuple #[]/\ B=R*pt hd (cl (hcs p ba n lv none) 99)*pt w (cl (wcs hd t tk gv ls true) 101)):=by
  refine fn_enterW func60 rfl ntmps60 (by simp) ?_;subst hA;obtain ⟨jb,hj1,hj2,_,_⟩:=info_of sz101 by101 z101;refine Z7 ?_;refine tv (o_fieldAddr (o:=5) underlying101 rfl rfl sz4 rfl) ?_;refine tl_u rfl (o_stU (l':=wcs hd t tk gv ls true) rfl upqz sz4 rfl rfl (by show 5<6;decide) rfl) ?_;refine nq ?_;refine Zb ?_;refine Zcn ?_;refine Zdh ?_;refine tv (o_load p40 rfl hsqz rfl) ?_;refine tlm ?_;refine tv (o_eqpS underlying40 hj1 kqz rfl rfl) ?_;refine Zf1 ?_;intro h;refine Zw ?_;refine Zcn ?_;refine Zdh ?_;refine tl_u rfl (o_stU (l':=hcs p ba n lv none) rfl upqz sz40 rfl rfl (by show 4<5;decide) rfl) ?_;refine tl_nil ?_;exact ⟨_,_,res0 rfl,λ _ _ h=>h,rfl,rfl⟩
end Go.Vl

namespace Go.Vl
open Go Go.Proofs Go.Proofs.Tryz
def RsA (h p lg d at_ sz ba n lv:Nat)(M:MS)(s:DevS):SP:=pt h (cl (hcs p ba n lv none) 99)*pt lv (mpo .i64 M)*pt p (cl (pocs lg d none) 78)*pt lg (cl (lcs11 d at_ sz) 183)*Dev d s
theorem com_b {at_ sz n:Nat}{f:TF}{s s2:DevS}{b:Bool}(h:comS at_ sz n f s=((0,b),s2)):b=true:=by
  unfold comS at h
  split at h
  . exact (Prod.mk.inj (Prod.mk.inj h).1).2.symm
  split at h
  . split at h
    . exact (Prod.mk.inj (Prod.mk.inj h).1).2.symm
    exact (Prod.mk.inj (Prod.mk.inj h).1).2.symm
  split at h
  . rename_i h1
    exact absurd (Prod.mk.inj (Prod.mk.inj h).1).1 h1
  split at h
  . exact (Prod.mk.inj (Prod.mk.inj h).1).2.symm
  split at h
  . exact (Prod.mk.inj (Prod.mk.inj h).1).2.symm
  exact (Prod.mk.inj (Prod.mk.inj h).1).2.symm
theorem com_b5 {at_ sz n:Nat}{f:TF}{s s2:DevS}{b:Bool}(h:comS at_ sz n f s=((5,b),s2)):b=true:=by
  unfold comS at h
  split at h
  . exact (Prod.mk.inj (Prod.mk.inj h).1).2.symm
  split at h
  . split at h
    . exact (Prod.mk.inj (Prod.mk.inj h).1).2.symm
    exact (Prod.mk.inj (Prod.mk.inj h).1).2.symm
  split at h
  . have h2:=(Prod.mk.inj h).1;have h3:=(Prod.mk.inj h2).1;have h4:=(Prod.mk.inj h2).2;rw [h3] at h4
    rw [←h4];decide
  split at h
  . exact (Prod.mk.inj (Prod.mk.inj h).1).2.symm
  split at h
  . exact (Prod.mk.inj (Prod.mk.inj h).1).2.symm
  exact (Prod.mk.inj (Prod.mk.inj h).1).2.symm
theorem DropT13_c {A R:SP}{C:SP->SP}{t p lg d mb at_ sz:Nat}{M:MS}{s:DevS}{b:Bool}(hc:Ct A (TxA t p lg d mb at_ sz M b s) R C):Fn Tryz.prog 59 #[pz t] A (λ v B=>∃M2 e,v= .int .i64 e/\ B=C (TxA t p lg d mb at_ sz M2 true s)):=by
  cases b with
  |false=>exact (DropT_c (hc:=hc)).mono λ v B ⟨h1,h2⟩=>⟨_,_,h1,h2⟩
  |true=>exact (DropO_c (p:=p) (mb:=mb) (txa_t hc)).mono λ v B ⟨h1,h2⟩=>⟨M,_,h1,by rw [←h2,hc.2];exact hc.1⟩
theorem nm_app1:∀ (l:List Nat) (y:Nat),nm (l++[y])=nm l+256^l.length*y
  |[],y=>by simp [nm]
  |x::l,y=>by
    show x+256*nm (l++[y])=x+256*nm l+256^(l.length+1)*y
    rw [nm_app1 l y,Nat.mul_add,Nat.pow_succ,Nat.mul_comm (256^l.length) 256,Nat.mul_assoc];omega
def rootV (T:WkT)(s:DevS):Nat:=nm (ovF T.f 64 (((imgS s).drop 64).take 8))
theorem root_step {zs:List Nat}{i y:Nat}(hi:i<zs.length)(hy:zs[i]=y)(hb:∀x∈zs,x<256)(h8:zs.length=8):nm (zs.take i)<18446744073709551616/\ y*2^(8*i)<18446744073709551616/\ nm (zs.take i)|||y*2^(8*i)=nm (zs.take (i+1)):=by
  have hyb:y<256:=hy▸hb _ (List.getElem_mem hi)
  have hl:(zs.take i).length=i:=(by rw [List.length_take];omega);have h1:=nm_lt (zs.take i) λ x hx=>hb x (List.mem_of_mem_take hx)
  rw [hl] at h1
  have hp:(256:Nat)^i=2^(8*i):=(by rw [Nat.pow_mul]);have hle:(256:Nat)^i<=256^7:=Nat.pow_le_pow_right (by decide) oqz;have h256:(256:Nat)^7=72057594037927936:=(by decide);have hm:y*256^i<=255*256^7:=Nat.mul_le_mul oqz hle;refine ⟨by omega,by rw [←hp];omega, ?_⟩;rw [List.take_succ_eq_append_getElem hi,hy,nm_app1,hl,Nat.or_comm,←Nat.shiftLeft_eq,←Nat.shiftLeft_add_eq_or_of_lt (by rw [←hp];exact h1),Nat.shiftLeft_eq,←hp,Nat.mul_comm (256^i) y];omega
attribute [local irreducible] crk crL crc Sl pt ro Dev imgS recS readS recsF rdW rdO rkT Parts rvl recordsS runsL adrF kcl xcl kys runA runsF layF ovF TxA adZ WkA comS
theorem Root13_v {A R:SP}{C:SP->SP}{X:WkX}{Y:WkY}{T:WkT}{s:DevS}(hc:Ct A (WkA X Y s) R C:=by exact cbqz)(hok:WkOk X Y T (s.ls.length*64))(hb:WkB X s)(ho:s.off=false:=by assumption):
    Fn Tryz.prog 20 #[.pointer (some ⟨X.w,0,none⟩)] A (λ r B=>r= .tuple #[.int .u64 ((rootV T s:Nat):Int),.int .i64 0]/\ A=B):=by
  refine fn_enterW func20 rfl ntmps20 (by simp) ?_;have hw9:=wka_w hc;have hh9:=wka_h hc;have hl9:=wka_lv hc;have ht9:=wka_tk hc;have hg9:=wka_gv hc;have hB:=hb;obtain ⟨hb1,hb2,hb3⟩:=hB;have hN:128<=s.ls.length*64:=(by omega);refine tc_have (λ _ _ h=>txa_wf (wka_txa hc) _ _ h) λ hwf9=> ?_
  have hil9:=imgS_len hwf9;refine Zc0 ?_;refine tl_c rfl (o_call bd49 rfl (begin13_c (hc:=hc) (hok:=hok) (hb:=hb))) ?_;refine Zg1 ?_;intro h;refine Zfr ?_;refine tv (o_load p76 rfl hw9 rfl) ?_;refine tl_c rfl (o_call bd51 rfl (LoadT_c (hc:=wka_txa hc) (n:=s.ls.length*64) (f:=T.f) (q:=64) (m:=8) (hM:=hok.m) (ho:=ho) (hqm:=by omega))) ?_;rintro _ _ ⟨a20,c20,rfl,hc20,rfl⟩;refine Zfv ?_;intro h;refine Zcu ?_;obtain ⟨zs,hzs⟩:∃zs,ovF T.f 64 (((imgS s).drop 64).take 8)=zs:=⟨_,rfl⟩;rw [hzs]
  have hzl:zs.length=8:=(by rw [←hzs,ovF_len,List.length_take,List.length_drop,hil9];omega);have hzb:∀x∈zs,x<256:=hzs▸ovF_lt hok.m (λ x hx=>img_lt x (List.mem_of_mem_drop (List.mem_of_mem_take hx)))
  have hrv:nm zs=rootV T s:=congrArg nm hzs.symm;refine tc_reg ?_;refine Zp ?_;refine Zcp ?_;refine Zbh ?_;refine tc_loop (λ kk ρ BB=>∃ (i:Nat),(i<=8)/\ kk=8-i/\ ρ 30=(vn i)/\ ρ 7= .int .u64 ((nm (zs.take i):Nat):Int)/\ ρ 28= .slice a20 8 c20/\ ρ 29= .int .i64 8/\ Dr BB (A*Sl 1 (.slice a20 8 c20) 8 (bys zs))) (m:=8-(0)) ?_ ?_
  . exact ⟨0,by omega,rfl,rfl,rfl,rfl,rfl,drqz⟩
  intro k ρ B hI;obtain ⟨i,hp0,hkk1,hE30,hE7,hE28,hE29,hBA⟩:=hI;refine tc_pre hBA.sat ?_;clear hBA;refine te 30 hE30 ?_;refine te 7 hE7 ?_;refine te 28 hE28 ?_;refine te 29 hE29 ?_;refine Zcf ?_;refine tc_cond rfl (λ h=> ?_) (λ h=> ?_)
  . have hi:i<zs.length:=(by simp at h;omega);obtain ⟨y,hy⟩:∃y,zs[i]=y:=⟨_,rfl⟩;have hyb:y<256:=hy▸hzb _ (List.getElem_mem hi)
    obtain ⟨hr1,hr2,hr3⟩:=root_step hi hy hzb hzl;refine Zd1 ?_;refine tv (o_ixP1 (a:=a20) underlying32 sz5 rfl rfl oqz (nn_rs (xs:=bys zs) sq1z (by rw [bys_length];omega))) ?_;refine tv (o_ldP (a:=a20) (xs:=bys zs) p5 rfl sq1z (bys_at hi)) ?_;refine tl_env (d:=34) (v:= .int .u8 (y:Nat)) (by show Value.int .u8 ((zs[i]:Nat):Int)=_;rw [hy]) ?_;refine tla ?_;refine Za ?_;refine Zdr ?_;refine tv (by first|exact o_conv64 underlying5 underlying36 rfl|exact o_conv underlying5 underlying36 rfl) ?_;refine tl_env (d:=37) (v:= .int .u64 (y:Nat)) (by show Value.int .u64 ((y%18446744073709551616:Nat):Int)=_;rw [Nat.mod_eq_of_lt oqz]) ?_;refine Zfq ?_;refine tl_env (d:=39) (v:=(vn (8*i))) (by first|rfl|exact congrArg (Value.int .i64) oqz) ?_;refine tv (o_shl64 (a:=y) (b:=8*i) rfl rfl rfl oqz hr2) ?_;refine tv (o_orN (a:=nm (zs.take i)) (b:=y*2^(8*i)) rfl rfl rfl hr1 hr2) ?_;refine tl_env (d:=41) (v:= .int .u64 ((nm (zs.take (i+1)):Nat):Int)) (by show Value.int .u64 ((nm (zs.take i)|||y*2^(8*i):Nat):Int)=_;rw [hr3]) ?_;refine Zgq ?_;exact ⟨_,by omega,i+1,by omega,rfl,rfl,rfl,rfl,rfl,drqz⟩
  obtain rfl:i=8:=by first|omega|(simp at h;omega)
  rw [List.take_of_length_le oqz,hrv]
  refine Zda ?_;refine Zdd ?_;exact ⟨_,_,res2 rfl rfl rfl,Dr.sat drqz,rfl,rfl⟩
theorem Zfn {p r:Prop}(k:r)(h:Kq r->p:=by intro k;refine sr ?_;refine tv (o_eqi rfl rfl) ?_;exact k.o):p:=h ⟨k⟩
theorem Commit13_c {A R:SP}{C:SP->SP}{X:WkX}{Y:WkY}{T:WkT}{s:DevS}(hc:Ct A (WkA X Y s) R C:=by exact cbqz)(hok:WkOk X Y T (s.ls.length*64))(hb:WkB X s)(ho:s.off=false:=by assumption)(hlw:LogW (s.ls.length*64) X.at_ X.sz:=by assumption)(hroom:Room (2*(s.ls.length*64)+X.sz+8) s:=by assumption):
    Fn Tryz.prog 22 #[.pointer (some ⟨X.w,0,none⟩)] A (λ r B=>∃e b s2 lv2 M2,comS X.at_ X.sz (s.ls.length*64) T.f s=((e,b),s2)/\ r= .int .i64 e/\ SF M2 X.n (if e=0 then usedB T else T.lv)/\ B=R*RsA X.h X.p X.lg X.d X.at_ X.sz X.ba X.n lv2 M2 s2*pt X.w (cl (wcs X.h X.t X.tk X.gv Y.ls true) 101)):=by
  refine fn_enterW func22 rfl ntmps22 (by simp) ?_;obtain ⟨hb1,hb2,hb3⟩:=id hb;have hle:=hok.le;obtain ⟨rfl,hC⟩:=hc;refine tc_eq (show _=R*pt X.h (cl (hcs X.p X.ba X.n X.lv (some X.w)) 99)*pt X.w (cl (wcs X.h X.t X.tk X.gv Y.ls false) 101)*pt X.lv (mpo .i64 Y.Ml)*pt X.tk (mpo .i64 Y.Mt)*pt X.gv (mpo .i64 Y.Mg)*TxA X.t X.p X.lg X.d X.mb X.at_ X.sz Y.M false s by unfold WkA;ac_rfl) ?_;refine Zbl ?_;refine tl_c rfl (o_call bd49 rfl (begin13_c (s:=s) (X:=X) (Y:=Y) (T:=T) (R:=R) (C:=λ Z=>R*Z) (hc:=⟨by unfold WkA;ac_rfl,λ _=>rfl⟩) (hok:=hok) (hb:=hb))) ?_;refine Zg1 ?_;intro h;refine Ze3 ?_;refine Zc4 ?_;refine tl_c rfl (o_call bd56 rfl (Commit12_c (s:=s) (n:=s.ls.length*64) (f:=T.f) (M:=Y.M) (hM:=hok.m) (hn:=rfl) (hlw:=hlw) (ho:=ho) (hroom:=hroom))) ?_;rintro _ _ ⟨e16,b16,s16,M16,hs16,rfl,hM16,rfl⟩;refine Zp ?_;refine Zbh ?_;refine Zfn ?_;refine Za ?_;refine tc_cut (λ ρ BB=>∃ (e_:Int) (b_:Bool) (lv2:Nat) (M2:MS) (M3:MS) (s_:DevS),(comS X.at_ X.sz (s.ls.length*64) T.f s=((e_,b_),s_))/\ (SF M2 X.n (if e_=0 then usedB T else T.lv))/\ ρ 4= .int .i64 e_/\ ρ 0= .pointer (some ⟨X.w,0,none⟩)/\ Dr BB (R*pt X.h (cl (hcs X.p X.ba X.n lv2 (some X.w)) 99)*pt X.w (cl (wcs X.h X.t X.tk X.gv Y.ls false) 101)*pt lv2 (mpo .i64 M2)*TxA X.t X.p X.lg X.d X.mb X.at_ X.sz M3 true s_)) ?_ ?_
  . skip
    refine tc_cond rfl (λ h=> ?_) (λ h=> ?_)
    . obtain rfl:e16=0:=by first|exact of_decide_eq_true h|simpa using h
      obtain rfl:=com_b hs16;refine Zb ?_;refine Zcn ?_;refine Zb6 ?_;refine tv (o_load p97 rfl hsqz rfl) ?_;refine tl_c rfl (o_call bd57 rfl (Clone13_c (M:=Y.Ml))) ?_;rintro _ _ ⟨r32,rfl,rfl⟩;refine Zp ?_;refine Zez ?_;refine tv (o_load p97 rfl hsqz rfl) ?_;refine tl_x rfl (o_range (ik:= .i64) (M:=Y.Mg) underlying97 rfl hsqz) ?_;rintro _ _ ⟨r37,rfl,rfl⟩;refine Zbh ?_;refine tc_loop (λ kk ρ BB=>∃ (vis:List ME) (M3:MS),(Vis Y.Mg vis)/\ (SF M3 X.n (λ c=>T.lv c&& !decide ((c:Int)∈vis.map ME.k)))/\ kk=Y.Mg.D.length-vis.length/\ ρ 0= .pointer (some ⟨X.w,0,none⟩)/\ ρ 4= .int .i64 0/\ ρ 5= .map (some r32)/\ ρ 37=(pz r37)/\ Dr BB (R*pt X.h (cl (hcs X.p X.ba X.n X.lv (some X.w)) 99)*pt X.w (cl (wcs X.h X.t X.tk X.gv Y.ls false) 101)*pt X.lv (mpo .i64 Y.Ml)*pt X.tk (mpo .i64 Y.Mt)*pt X.gv (mpo .i64 Y.Mg)*TxA X.t X.p X.lg X.d X.mb X.at_ X.sz M16 true s16*pt r32 (mpo .i64 M3)*pt r37 (mit X.gv Y.Mg.c (vis.map ME.b) Y.Mg.c))) (m:=Y.Mg.D.length-(([]:List ME)).length) ?_ ?_
      . exact ⟨([]:List ME),Y.Ml,vis_nil Y.Mg,sf_congr hok.l (λ a=>by simp),rfl,rfl,rfl,rfl,rfl,drqz⟩
      intro k ρ B hI;obtain ⟨vis,M3,hp0,hp1,hkk1,hE0,hE4,hE5,hE37,hBA⟩:=hI;refine tc_pre hBA.sat ?_;clear hBA;refine te 0 hE0 ?_;refine te 4 hE4 ?_;refine te 5 hE5 ?_;refine te 37 hE37 ?_;refine sr ?_;refine tl_x rfl (o_next (ik:= .i64) (M:=Y.Mg) (b:=X.gv) (seen:=vis.map ME.b) hok.g.wf rfl ctqz hsqz) ?_;rintro _ _ ⟨o38,hnx,rfl,rfl⟩;refine tv (o_exNx rfl) ?_;refine Zeq ?_;refine tc_cond rfl (λ h=> ?_) (λ h=> ?_)
      . obtain ⟨e,rfl⟩:∃e,o38=some e:=Option.isSome_iff_exists.1 (by simpa using h);have hvs2:=vis_snoc hp0 hnx;have hvl:=vis_len hvs2;have hvl2:(vis++[e]).length=vis.length+1:=(by rw [List.length_append,List.length_singleton]);have hem:=(hnx.yes e rfl).1;obtain ⟨a,ha,hk,hg,hv⟩:=sf_mem hok.g hem;have hsf:=vis_no (g:=T.lv) (vis:=vis) hk▸sf_del (p:=a) hp1
        refine tc_eq (show _=R*pt X.h (cl (hcs X.p X.ba X.n X.lv (some X.w)) 99)*pt X.w (cl (wcs X.h X.t X.tk X.gv Y.ls false) 101)*pt X.lv (mpo .i64 Y.Ml)*pt X.tk (mpo .i64 Y.Mt)*pt X.gv (mpo .i64 Y.Mg)*TxA X.t X.p X.lg X.d X.mb X.at_ X.sz M16 true s16*pt r32 (mpo .i64 M3)*pt r37 (mit X.gv Y.Mg.c (vis.map ME.b++[e.b]) Y.Mg.c) from rfl) ?_;refine Zgg ?_;refine sr ?_;refine tv (o_entry (ik:= .i64) (M:=Y.Mg) (b:=X.gv) (seen:=vis.map ME.b) hok.g.wf hem rfl (by repeat (first|with_reducible exact has_here|apply has_left)) hsqz) ?_;refine tl_env (d:=40) (v:= .tuple #[vn a,.bool true]) (by show Value.tuple #[.int .i64 e.k,e.v]=_;rw [hk,hv]) ?_;refine tv (o_extract rfl rfl) ?_;refine Za ?_;refine Zdr ?_;refine tl_x rfl (o_delete (ik:= .i64) (M:=M3) underlying97 underlying3 rfl rfl upqz rfl) ?_;rintro _ _ ⟨rfl,rfl⟩;refine tl_nil ?_;refine q_block_n (q_then_n ?_);exact ⟨_,by omega,vis++[e],_,hvs2,hsf,rfl,rfl,rfl,rfl,rfl,by rw [show (vis++[e]).map ME.b=vis.map ME.b++[e.b] by rw [List.map_append];rfl];repeat (first|with_reducible exact dr_refl|apply dr_keep|apply dr_drop)⟩
      obtain rfl:o38=none:=by cases o38<;>simp at h ⊢
      have hvp:=vis_perm hok.g.wf hp0 hnx;have hsf:SF M3 X.n (λ a=>T.lv a&& !T.gv a):=sf_congr hp1 λ a=>by rw [sf_vis hok.g hvp]
      refine Zda ?_;refine Zff ?_;refine Zbp ?_;refine tl_c rfl (o_call bd58 rfl (Copy13_c (b1:=r32) (b2:=X.tk) (M1:=M3) (M2:=Y.Mt) (h1:=hsf) (h2:=hok.t))) ?_;rintro _ _ ⟨M49,rfl,hM49,rfl⟩
      have hu49:SF M49 X.n (if (0:Int)=0 then usedB T else T.lv):=by
        rw [if_pos rfl]
        refine sf_congr hM49 λ a=> ?_
        unfold usedB;cases T.tk a<;>cases T.lv a<;>cases T.gv a<;>rfl
      refine nq ?_;refine tc_pre (A':=R*pt X.h (cl (hcs X.p X.ba X.n X.lv (some X.w)) 99)*pt X.w (cl (wcs X.h X.t X.tk X.gv Y.ls false) 101)*pt r32 (mpo .i64 M49)*TxA X.t X.p X.lg X.d X.mb X.at_ X.sz M16 true s16) (λ g w h=>(Dr.sat (A':=R*pt X.h (cl (hcs X.p X.ba X.n X.lv (some X.w)) 99)*pt X.w (cl (wcs X.h X.t X.tk X.gv Y.ls false) 101)*TxA X.t X.p X.lg X.d X.mb X.at_ X.sz M16 true s16*pt r32 (mpo .i64 M49)) drqz g w h).perm (by ac_rfl)) ?_;refine Zw ?_;refine Zcn ?_;refine tlm ?_;refine Zb6 ?_;refine tl_u rfl (o_stU (l':=hcs X.p X.ba X.n r32 (some X.w)) rfl upqz sz97 rfl rfl (by show 3<5;decide) rfl) ?_;refine tl_nil ?_;exact ⟨_,_,r32,M49,M16,_,hs16,hu49,rfl,rfl,drqz⟩
    have he16:e16≠0:=(by first|exact of_decide_eq_false h|simpa using h);have hu49:SF Y.Ml X.n (if e16=0 then usedB T else T.lv):=(by rw [if_neg he16];exact hok.l);refine Zfn ?_;refine Za ?_;refine tc_cond rfl (λ h=> ?_) (sbq ?_)
    . obtain rfl:e16=5:=by first|exact of_decide_eq_true h|simpa using h
      obtain rfl:=com_b5 hs16;refine tc_skip ?_;exact ⟨_,_,X.lv,Y.Ml,M16,_,hs16,hu49,rfl,rfl,drqz⟩
    intro h;refine Zw ?_;refine tv (o_nilCheck rfl) ?_;refine Zc4 ?_;refine tl_c rfl (o_call bd59 rfl (DropT13_c (t:=X.t) (p:=X.p) (lg:=X.lg) (d:=X.d) (mb:=X.mb) (at_:=X.at_) (sz:=X.sz) (M:=M16) (b:=b16) (s:=s16) (hc:=by exact cbqz))) ?_;rintro _ _ ⟨M22,e22,rfl,rfl⟩;refine tl_nil ?_;exact ⟨_,_,X.lv,Y.Ml,M22,_,hs16,hu49,rfl,rfl,drqz⟩
  intro ρ B hI;obtain ⟨e_,b_,lv2,M2,M3,s_,hj0,hj1,hE4,hE0,hBA⟩:=hI;refine q_block_n (q_then_n ?_);refine tc_pre hBA.sat ?_;clear hBA;refine te 4 hE4 ?_;refine te 0 hE0 ?_;refine Zb ?_;refine tl_c rfl (o_call bd60 rfl (end13_c (R:=R*pt lv2 (mpo .i64 M2)*TxA X.t X.p X.lg X.d X.mb X.at_ X.sz M3 true s_) (w:=X.w) (hd:=X.h) (p:=X.p) (ba:=X.ba) (n:=X.n) (lv:=lv2) (t:=X.t) (tk:=X.tk) (gv:=X.gv) (ls:=Y.ls) (hA:=by ac_rfl))) ?_;refine Zdo ?_;refine Zb ?_;refine Zf ?_;exact ⟨.int .i64 e_,R*RsA X.h X.p X.lg X.d X.at_ X.sz X.ba X.n lv2 M2 s_*pt X.w (cl (wcs X.h X.t X.tk X.gv Y.ls true) 101),res1 rfl rfl,(λ g w h=>(Dr.sat (A':=R*pt X.h (cl (hcs X.p X.ba X.n lv2 none) 99)*pt X.w (cl (wcs X.h X.t X.tk X.gv Y.ls true) 101)*pt lv2 (mpo .i64 M2)*pt X.p (cl (pocs X.lg X.d none) 78)*pt X.lg (cl (lcs11 X.d X.at_ X.sz) 183)*Dev X.d s_) ⟨pt X.t (cl (txcs X.p X.mb true) 155)*pt X.mb (mpo .i64 M3),by unfold TxA;rw [if_pos rfl];ac_rfl⟩ g w h).perm (by unfold RsA;ac_rfl)),e_,b_,s_,lv2,M2,hj0,rfl,hj1,rfl⟩
end Go.Vl

namespace Go.Vl
open Go Go.Proofs Go.Proofs.Tryz
def WkT.root (T:WkT)(v:Nat):WkT:={ T with f:=layF 64 (le 8 v) false T.f }
theorem ok_root {X:WkX}{Y:WkY}{T:WkT}{N v:Nat}{M:MS}(h:WkOk X Y T N)(hM:MF M N (layF 64 (le 8 v) false T.f)):WkOk X { Y with M:=M } (T.root v) N:=
  ⟨h.l,h.t,h.g,hM,h.le,h.lo,h.dj,h.gl⟩
theorem le_put {v i:Nat}(h:i<8):(bys (le i v++List.replicate (8-i) 0)).set i (.int .u8 ((v/2^(8*i)%256:Nat):Int))=bys (le (i+1) v++List.replicate (8-(i+1)) 0):=by
  have hp:(2:Nat)^(8*i)=256^i:=(by rw [Nat.pow_mul]);rw [bys_set,hp]
  congr 1
  rw [le_snoc,List.append_assoc,show 8-i=(8-(i+1))+1 by omega,List.replicate_succ]
  rw [List.set_append_right _ _ (by rw [le_length];exact Nat.le_refl _),le_length,Nat.sub_self];rfl
def nwE (N:Nat)(ba n:Int):Int:=if ba%64≠0∨ba<128∨n<0∨(N:Int)<ba∨((N:Int)-ba)/256<n then 2 else 0
attribute [local irreducible] crk crL crc Sl pt ro Dev imgS recS readS recsF rdW rdO rkT Parts rvl recordsS runsL adrF kcl xcl kys runA runsF layF ovF TxA adZ WkA comS
theorem SetRoot13_ok {A R:SP}{C:SP->SP}{X:WkX}{Y:WkY}{T:WkT}{s:DevS}(hc:Ct A (WkA X Y s) R C:=by exact cbqz)(hok:WkOk X Y T (s.ls.length*64))(hb:WkB X s)(ho:s.off=false:=by assumption){v:Nat}(hv:v<18446744073709551616):
    Fn Tryz.prog 21 #[.pointer (some ⟨X.w,0,none⟩),.int .u64 ((v:Nat):Int)] A (λ r B=>∃Y2,r= .int .i64 0/\ WkOk X Y2 (T.root v) (s.ls.length*64)/\ B=C (WkA X Y2 s)):=by
  refine fn_enterW func21 rfl ntmps21 (by simp) ?_;obtain ⟨hb1,hb2,hb3⟩:=id hb;have hle:=hok.le;obtain ⟨rfl,hC⟩:=hc;refine tc_eq (show _=R*pt X.h (cl (hcs X.p X.ba X.n X.lv (some X.w)) 99)*pt X.w (cl (wcs X.h X.t X.tk X.gv Y.ls false) 101)*pt X.lv (mpo .i64 Y.Ml)*pt X.tk (mpo .i64 Y.Mt)*pt X.gv (mpo .i64 Y.Mg)*TxA X.t X.p X.lg X.d X.mb X.at_ X.sz Y.M false s by unfold WkA;ac_rfl) ?_;refine Zbl ?_;refine tl_c rfl (o_call bd49 rfl (begin13_c (s:=s) (X:=X) (Y:=Y) (T:=T) (R:=R) (C:=λ Z=>R*Z) (hc:=⟨by unfold WkA;ac_rfl,λ _=>rfl⟩) (hok:=hok) (hb:=hb))) ?_;refine Zg1 ?_;intro h;refine Zc ?_;refine sr ?_;refine tl_x rfl (o_alloc (l:=bys (List.replicate 8 0)) z112 rfl) ?_;rintro _ _ ⟨b6,rfl,rfl⟩;refine nq ?_;refine Ze ?_;refine Zbh ?_;refine tc_loop (λ kk ρ BB=>∃ (i:Nat),(i<=8)/\ kk=8-i/\ ρ 13=(vn i)/\ ρ 0= .pointer (some ⟨X.w,0,none⟩)/\ ρ 1= .int .u64 ((v:Nat):Int)/\ ρ 6=(pz b6)/\ Dr BB (R*pt X.h (cl (hcs X.p X.ba X.n X.lv (some X.w)) 99)*pt X.w (cl (wcs X.h X.t X.tk X.gv Y.ls false) 101)*pt X.lv (mpo .i64 Y.Ml)*pt X.tk (mpo .i64 Y.Mt)*pt X.gv (mpo .i64 Y.Mg)*TxA X.t X.p X.lg X.d X.mb X.at_ X.sz Y.M false s*pt b6 (cl (bys (le i v++List.replicate (8-i) 0)) 112))) (m:=8-(0)) ?_ ?_
  . exact ⟨0,by omega,rfl,rfl,rfl,rfl,rfl,drqz⟩
  intro k ρ B hI;obtain ⟨i,hp0,hkk1,hE13,hE0,hE1,hE6,hBA⟩:=hI;refine tc_pre hBA.sat ?_;clear hBA;refine te 13 hE13 ?_;refine te 0 hE0 ?_;refine te 1 hE1 ?_;refine te 6 hE6 ?_;refine Zcf ?_;refine tc_cond rfl (λ h=> ?_) (λ h=> ?_)
  . have hi:i<8:=(by first|omega|(simp at h;omega));refine Zd1 ?_;refine Za ?_;refine Zw ?_;refine Zdv ?_;refine tl_env (d:=19) (v:=(vn (8*i))) (by first|rfl|exact congrArg (Value.int .i64) oqz) ?_;refine tv (o_shrN (a:=v) (b:=8*i) rfl rfl rfl (by show 8*i<=64;omega)) ?_;refine tv (by first|exact o_conv8 underlying36 underlying5 rfl|exact o_conv underlying36 underlying5 rfl) ?_;refine tv (o_indexAddrAN1 (j:=i) underlying112 sz5 rfl rfl hi) ?_;refine tl_u rfl (o_stU (l':=bys (le (i+1) v++List.replicate (8-(i+1)) 0)) rfl upqz sz5 rfl rfl (by rw [bys_length,List.length_append,le_length,List.length_replicate];omega) (by rw [Nat.zero_add];exact le_put hi)) ?_;refine Zbv ?_;refine Zco ?_;exact ⟨_,by omega,i+1,by omega,rfl,rfl,rfl,rfl,rfl,drqz⟩
  obtain rfl:i=8:=by first|omega|(simp at h;omega)
  refine Zg ?_;refine tc_seq ?_;refine tc_eq (show _=R*pt X.h (cl (hcs X.p X.ba X.n X.lv (some X.w)) 99)*pt X.w (cl (wcs X.h X.t X.tk X.gv Y.ls false) 101)*pt X.lv (mpo .i64 Y.Ml)*pt X.tk (mpo .i64 Y.Mt)*pt X.gv (mpo .i64 Y.Mg)*TxA X.t X.p X.lg X.d X.mb X.at_ X.sz Y.M false s*pt b6 (cl (bys (le 8 v)) 112) by rw [Nat.sub_self,List.replicate_zero,List.append_nil]) ?_;refine tc_regh (S:=R*pt X.h (cl (hcs X.p X.ba X.n X.lv (some X.w)) 99)*pt X.w (cl (wcs X.h X.t X.tk X.gv Y.ls false) 101)) mo drqz ?_
  show TH _ _ _ _ _ 9 (Array.replicate 9 false) _ _
  refine Zee ?_;refine tm 2 rfl kqz rfl (o_nilCheck rfl) ?_;refine tm 3 rfl kqz rfl (o_fieldAddr (o:=1) underlying101 rfl rfl sz76 rfl) ?_;refine tm 4 rfl kqz rfl (o_load p76 rfl hsqz rfl) ?_;refine tm 5 rfl kqz rfl (o_sliceA underlying112 sz5 rfl bnd_none bnd_none oqz oqz) ?_;refine th_env (d:=29) (v:= .slice (some ⟨b6,0,none⟩) 8 8) (by show Value.slice (cutAddr _ _ _ _) _ _=_;rw [cut_lt oqz]) ?_;refine th_one (i:=6) kqz ?_;refine oh_c rfl rfl rfl (o_call bd54 rfl (StoreT_c (s:=s) (n:=s.ls.length*64) (f:=T.f) (q:=64) (xs:=le 8 v) (hM:=hok.m) (hn:=rfl) (ho:=ho) (hr:=by repeat (first|exact rs_pt rfl|apply Rs.left)) (hm:=le_length 8 v) (hb:=le_bytes 8 v) (hqm:=by omega))) ?_;rintro _ _ ⟨M30,rfl,hM30,rfl⟩;refine Zgu ?_;refine oh_c rfl rfl rfl (o_call bd53 rfl (seen0_c)) ?_;refine Z1 ?_;refine tm 8 rfl kqz rfl (o_assign wqz) ?_;refine Zha ?_;exact ⟨_,C (WkA X { Y with M:=M30 } s),res1 rfl rfl,(λ g w h=>by rw [hC];exact (Dr.sat (A':=R*pt X.h (cl (hcs X.p X.ba X.n X.lv (some X.w)) 99)*pt X.w (cl (wcs X.h X.t X.tk X.gv Y.ls false) 101)*pt X.lv (mpo .i64 Y.Ml)*pt X.tk (mpo .i64 Y.Mt)*pt X.gv (mpo .i64 Y.Mg)*TxA X.t X.p X.lg X.d X.mb X.at_ X.sz M30 false s) drqz g w h).perm (by unfold WkA;ac_rfl)),{ Y with M:=M30 },rfl,ok_root hok hM30,rfl⟩
theorem Lives13_c {A:SP}{h p ba n lv:Nat}{ov:Option Nat}{M:MS}{g:Nat->Bool}(hh:Has A h (cl (hcs p ba n lv ov) 99):=by exact hbqz)(hm:Has A lv (mpo .i64 M):=by exact hbqz)(hs:SF M n g)(hn:n<=4194304:=by omega):
    Fn Tryz.prog 63 #[pz h] A (λ r B=>∃a c,r= .slice a (adZ n g).length c/\ (adZ n g).length<=c/\ B=A*Sl 1 (.slice a (adZ n g).length c) (adZ n g).length (ints (adZ n g))):=by
  refine fn_enterW func63 rfl ntmps63 (by simp) ?_;refine Zbl ?_;refine tl_c rfl (o_call bd47 rfl (thereH_c (hh:=hh))) ?_;refine Zfz ?_;intro h;refine Ze3 ?_;refine tv (o_fieldAddr (o:=3) underlying99 rfl rfl sz97 rfl) ?_;refine tv (o_load p97 rfl hh rfl) ?_;refine tl_c rfl (o_call bd125 rfl (rising_c (M:=M) (g:=g) (hm:=hm) (hs:=hs))) ?_;rintro _ _ ⟨a10,c10,rfl,hc10,rfl⟩;refine Zf ?_;exact ⟨_,_,res1 rfl rfl,Dr.sat drqz,a10,c10,rfl,hc10,rfl⟩
theorem Room13_c {A:SP}{h p ba n lv:Nat}{ov:Option Nat}{M:MS}{g:Nat->Bool}(hh:Has A h (cl (hcs p ba n lv ov) 99):=by exact hbqz)(hm:Has A lv (mpo .i64 M):=by exact hbqz)(hs:SF M n g)(hn:n<=4194304:=by omega):
    Fn Tryz.prog 30 #[pz h] A (λ r B=>r= .agg (ints [(n:Int),((adS n g).length:Nat),((n-(adS n g).length:Nat):Int)]).toArray/\ A=B):=by
  refine fn_enterW func30 rfl ntmps30 (by simp) ?_;have hal:=adS_len n g;have hsl:=sf_len hs;refine sr ?_;refine tl_x rfl (o_alloc (l:=ints [0,0,0]) z80 rfl) ?_;rintro _ _ ⟨b2,rfl,rfl⟩;refine nq ?_;refine Ze ?_;refine tl_c rfl (o_call bd47 rfl (thereH_c (hh:=has_left hh))) ?_;refine Zfz ?_;intro h;refine Zcu ?_;refine tc_regh (S:=A) mo drqz ?_
  show TH _ _ _ _ _ 21 (Array.replicate 21 false) _ _
  refine Zbx ?_;refine tm 2 rfl kqz rfl (o_fieldAddr (o:=2) underlying99 rfl rfl sz3 rfl) ?_;refine tm 3 rfl kqz rfl (o_load p3 rfl (by first|exact hh|exact has_left hh) rfl) ?_;refine Zcq ?_;refine tm 6 rfl kqz rfl (o_fieldAddr (o:=3) underlying99 rfl rfl sz97 rfl) ?_;refine tm 7 rfl kqz rfl (o_load p97 rfl (by first|exact hh|exact has_left hh) rfl) ?_;refine tm 8 rfl kqz rfl (o_lenM underlying97 rfl (by first|exact hm|exact has_left hm)) ?_;refine th_env (d:=15) (v:= .int .i64 (((adS n g).length:Nat):Int)) (by show Value.int .i64 ((M.D.length:Nat):Int)=_;rw [hsl]) ?_;refine tm 9 rfl kqz rfl (o_move wqz) ?_;refine tm 10 rfl kqz rfl (o_nilCheck rfl) ?_;refine tm 11 rfl kqz rfl (o_fieldAddr (o:=2) underlying99 rfl rfl sz3 rfl) ?_;refine tm 12 rfl kqz rfl (o_load p3 rfl (by first|exact hh|exact has_left hh) rfl) ?_;refine tm 13 rfl kqz rfl (o_move wqz) ?_;refine tm 14 rfl kqz rfl (o_nilCheck rfl) ?_;refine tm 15 rfl kqz rfl (o_fieldAddr (o:=3) underlying99 rfl rfl sz97 rfl) ?_;refine tm 16 rfl kqz rfl (o_load p97 rfl (by first|exact hh|exact has_left hh) rfl) ?_;refine tm 17 rfl kqz rfl (o_lenM underlying97 rfl (by first|exact hm|exact has_left hm)) ?_;refine th_env (d:=24) (v:= .int .i64 (((adS n g).length:Nat):Int)) (by show Value.int .i64 ((M.D.length:Nat):Int)=_;rw [hsl]) ?_;refine tm 18 rfl kqz rfl (by first|exact o_subI rfl rfl oqz|exact o_sub rfl rfl) ?_;refine th_env (d:=25) (v:= .int .i64 ((n-(adS n g).length:Nat):Int)) (congrArg (Value.int .i64) oqz) ?_;refine tm 19 rfl kqz rfl (o_bS (l:=[_,_,_]) (pv_cons wqz (pv_cons wqz (pv_cons wqz pv_nil))) underlying80 z80 (pl80 underlying80) rfl) ?_;refine th_one (i:=20) kqz ?_;refine oh_u rfl rfl rfl (o_stUN (l':=ints [(n:Int),((adS n g).length:Nat),((n-(adS n g).length:Nat):Int)]) rfl upqz sz80 rfl rfl rfl (by exact Nat.le_refl 3) rfl) drqz ?_;refine Zha ?_;exact ⟨_,A,resA1 rfl (rv_cell a80 sz80 rfl hsqz (by show 0+3<=3;decide) rfl),Dr.sat drqz,rfl,rfl⟩
end Go.Vl

namespace Go.Vl
open Go Go.Proofs Go.Proofs.Tryz
theorem o_addm8 {P:Program}{n:Nat}{ρ:Env}{A:SP}{dst:Option Tmp}{ty:TypeId}{pos:String}{after:Array Edge}{gd:Option (Nat×Bool)}{t t':TypeId}{x y:Operand}{a b:Nat}(hx:ev n ρ x= .int .u8 (a:Nat))(hy:ev n ρ y= .int .u8 (b:Nat)):
    OpV P n ρ A ⟨dst,.binOp .add t x y t',ty,pos,after,gd⟩ (.int .u8 (((a+b)%256:Nat):Int)):=(o_add hx hy).cast (by
  have:(a:Int)+b=((a+b:Nat):Int):=(by simp)
  rw [this,wrap_u8])
def su5 (lg n fi:Int)(lv ar:Value):List Value:=[.int .i64 lg,.int .i64 n,.int .u8 fi,lv,ar]
def fitB (lg n:Int):Bool:=decide (128<=lg/\ lg<=32768/\ lg%64=0/\ 0<=n/\ n<=64)
def imZ (h n fi k:Nat):List Nat:=(List.range (h+256*n)).map λ j=>if j<h∨k<=j then 0 else (fi+j%251)%256
def im13 (h n fi:Nat):List Nat:=imZ h n fi (h+256*n)
theorem imZ_len (h n fi k:Nat):(imZ h n fi k).length=h+256*n:=by unfold imZ;rw [List.length_map,List.length_range]
theorem imZ_lt (h n fi k:Nat):∀x∈imZ h n fi k,x<256:=λ x hx=>by
  unfold imZ at hx
  obtain ⟨j,_,rfl⟩:=List.mem_map.1 hx
  split<;>omega
theorem imZ_zero (h n fi:Nat):imZ h n fi h=List.replicate (h+256*n) 0:=by
  unfold imZ
  refine List.ext_getElem (by simp) λ i h1 h2=> ?_
  simp only [List.getElem_map,List.getElem_range,List.getElem_replicate]
  rw [if_pos oqz]
theorem imZ_step {h n fi k:Nat}(h1:h<=k)(h2:k<h+256*n):(imZ h n fi k).set k ((fi+k%251)%256)=imZ h n fi (k+1):=by
  unfold imZ
  refine List.ext_getElem (by simp) λ i h3 h4=> ?_
  rw [List.getElem_set]
  simp only [List.getElem_map,List.getElem_range]
  by_cases e:k=i
  . subst e;rw [if_pos rfl,if_neg oqz]
  rw [if_neg e]
  by_cases hc:i<h∨k<=i
  . rw [if_pos hc,if_pos oqz]
  rw [if_neg hc,if_neg oqz]
theorem im13_hd {lg n fi:Nat}(h:8<=lg):((im13 (128+lg) n fi).drop 128).take 8=List.replicate 8 0:=by
  unfold im13 imZ
  apply List.ext_getElem?
  intro j;rw [List.getElem?_take,List.getElem?_replicate]
  by_cases hj:j<8
  . rw [if_pos hj,if_pos hj,List.getElem?_drop,List.getElem?_map,List.getElem?_range oqz]
    simp only [Option.map_some]
    rw [if_pos oqz]
  rw [if_neg hj,if_neg hj]
attribute [local irreducible] crk crL crc Sl pt ro Dev imgS recS readS recsF rdW rdO rkT Parts rvl recordsS runsL adrF kcl xcl kys runA runsF layF ovF TxA adZ WkA comS
theorem Zeo {p r:Prop}(k:r)(h:Kq r->p:=by intro k;refine tv (o_fieldAddr (o:=0) underlying25 rfl rfl sz3 rfl) ?_;refine tv (o_load p3 rfl hsqz rfl) ?_;exact k.o):p:=h ⟨k⟩
theorem heap13_c {A:SP}{lg:Nat}{n fi:Int}{lv ar:Value}(hlg:lg<=4194304:=by omega):
    Fn Tryz.prog 11 #[.agg (su5 (lg:Nat) n fi lv ar).toArray] A (λ r B=>r=(vn (128+lg))/\ A=B):=by
  refine fn_enterW func11 rfl ntmps11 (by simp) ?_;refine Zcc ?_;rintro _ _ ⟨b1,rfl,rfl⟩;refine Za ?_;refine sr ?_;refine Zeo ?_;refine tv adqz ?_;refine Zf ?_;exact ⟨.int .i64 ((128+lg:Nat):Int),A,res1 rfl (by first|rfl|exact congrArg (Value.int .i64) oqz),Dr.sat drqz,rfl,rfl⟩
theorem image13_c {A:SP}{lg n fi:Nat}{lv ar:Value}(hlg:lg<=4194304:=by omega)(hn:n<=4096:=by omega)(hfi:fi<256:=by omega):
    Fn Tryz.prog 10 #[.agg (su5 (lg:Nat) (n:Nat) (fi:Nat) lv ar).toArray] A (λ r B=>∃a c,r= .slice a (128+lg+256*n) c/\ 128+lg+256*n<=c/\ B=A*Sl 1 (.slice a (128+lg+256*n) c) (128+lg+256*n) (bys (im13 (128+lg) n fi))):=by
  refine fn_enterW func10 rfl ntmps10 (by simp) ?_;refine Zcc ?_;rintro _ _ ⟨b1,rfl,rfl⟩;refine Zc1 ?_;refine tc_regh (S:=A*pt b1 (cl (su5 (lg:Nat) (n:Nat) (fi:Nat) lv ar) 25)) mo drqz ?_
  show TH _ _ _ _ _ 8 (Array.replicate 8 false) _ _
  refine tm 0 rfl kqz rfl (o_loadN (vs:=(su5 (lg:Nat) (n:Nat) (fi:Nat) lv ar)) a25 sz25 rfl hsqz (by exact Nat.le_refl 5) rfl) ?_;refine tm 2 rfl kqz rfl (o_fieldAddr (o:=1) underlying25 rfl rfl sz3 rfl) ?_;refine tm 3 rfl kqz rfl (o_load p3 rfl hsqz rfl) ?_;refine tm 4 rfl kqz rfl (by first|exact o_mulI rfl rfl oqz|exact o_mul rfl rfl) ?_;refine th_one (i:=1) kqz ?_;refine oh_c rfl rfl rfl (o_call bd11 rfl (heap13_c (lg:=lg))) ?_;refine Z1 ?_;refine tm 5 rfl kqz rfl adqz ?_;refine th_env (d:=10) (v:=(vn (128+lg+256*n))) (by first|rfl|exact congrArg (Value.int .i64) oqz) ?_;refine th_one (i:=6) kqz ?_;refine oh_x rfl rfl rfl (o_makeSlice (len:=(128+lg+256*n)) (cap:=(128+lg+256*n)) underlying32 sz5 by5 z5 rfl rfl rfl oqz oqz oqz) ?_;rintro _ _ ⟨b11,rfl,rfl⟩;refine ⟨by repeat (first|with_reducible exact dr_refl|apply dr_keep|apply dr_drop), ?_⟩;refine th_pre (λ _ _ h=>sl_new (k:=1) (n:=(128+lg+256*n)) (cap:=(128+lg+256*n)) (xs:=bys (List.replicate ((128+lg+256*n)) 0)) h oqz (by simp) (by rw [Nat.mul_one,List.take_of_length_le (by simp)];unfold bys;rw [List.map_replicate];rfl)) ?_;refine tm 7 rfl kqz rfl (o_assign wqz) ?_;refine Zby ?_;refine tc_seq ?_;refine sr ?_;refine tv (o_loadN (vs:=(su5 (lg:Nat) (n:Nat) (fi:Nat) lv ar)) a25 sz25 rfl hsqz (by exact Nat.le_refl 5) rfl) ?_;refine tl_c rfl (o_call bd11 rfl (heap13_c (lg:=lg))) ?_;refine Zfb ?_;refine tc_block ?_;refine tc_loop (λ kk ρ BB=>∃ (k:Nat),(128+lg<=k)/\ (k<=128+lg+256*n)/\ kk=128+lg+256*n-k/\ ρ 4=(vn k)/\ ρ 1=(pz b1)/\ ρ 3= .slice (some ⟨b11,0,none⟩) (128+lg+256*n) (128+lg+256*n)/\ Dr BB (A*pt b1 (cl (su5 (lg:Nat) (n:Nat) (fi:Nat) lv ar) 25)*Sl 1 (.slice (some ⟨b11,0,none⟩) (128+lg+256*n) (128+lg+256*n)) (128+lg+256*n) (bys (imZ (128+lg) n fi k)))) (m:=128+lg+256*n-(128+lg)) ?_ ?_
  . exact ⟨128+lg,by omega,by omega,rfl,rfl,rfl,rfl,by rw [imZ_zero];repeat (first|with_reducible exact dr_refl|apply dr_keep|apply dr_drop)⟩
  intro k ρ B hI;obtain ⟨k,hp0,hp1,hkk1,hE4,hE1,hE3,hBA⟩:=hI;refine tc_pre hBA.sat ?_;clear hBA;refine te 4 hE4 ?_;refine te 1 hE1 ?_;refine te 3 hE3 ?_;refine Ze ?_;refine Zex ?_;refine Zq ?_;refine tc_cond rfl (λ h=> ?_) (λ h=> ?_)
  . have hk:k<128+lg+256*n:=(by first|omega|(simp at h;omega));refine Zbe ?_;refine Zdr ?_;refine tv (o_fieldAddr (o:=2) underlying25 rfl rfl sz5 rfl) ?_;refine tv (o_load p5 rfl hsqz rfl) ?_;refine tlm ?_;refine tv (o_remN (b:=251) rfl rfl oqz) ?_;refine tv (by first|exact o_conv8 underlying3 underlying5 rfl|exact o_conv underlying3 underlying5 rfl) ?_;refine tl_env (d:=26) (v:= .int .u8 ((k%251:Nat):Int)) (by show Value.int .u8 ((k%251%256:Nat):Int)=_;rw [Nat.mod_eq_of_lt oqz]) ?_;refine tv (o_addm8 (a:=fi) (b:=k%251) rfl rfl) ?_;refine tl_env (d:=27) (v:= .int .u8 (((fi+k%251)%256:Nat):Int)) (rfl) ?_;refine tv (o_ixP1 underlying32 sz5 rfl rfl hk (nn_rs rs_sl (by rw [bys_length,imZ_len];omega))) ?_;refine tl_u rfl (o_stP (ys:=bys (imZ (128+lg) n fi (k+1))) sz5 rfl rfl rfl ctqz oqz (by rw [←imZ_step oqz hk];exact bys_set _ _ _)) ?_;refine Zbv ?_;refine Zde ?_;exact ⟨_,by omega,k+1,by omega,by omega,rfl,rfl,rfl,rfl,drqz⟩
  obtain rfl:k=128+lg+256*n:=by first|omega|(simp at h;omega)
  refine Zda ?_;refine Zf ?_;exact ⟨_,_,res1 rfl rfl,Dr.sat drqz,some ⟨b11,0,none⟩,128+lg+256*n,rfl,Nat.le_refl _,rfl⟩
end Go.Vl

namespace Go.Vl
open Go Go.Proofs Go.Proofs.Tryz
def stI (xs:List Nat):List Nat:=spl (sizedL 1024 xs) 128 (List.replicate 8 0)
def stZ (xs:List Nat)(k:Nat):List Nat:=spl (sizedL 1024 xs) 128 (List.replicate k 0)
def stD (xs:List Nat):DevS:=fromS 16 (stI xs)
def plA (at_:Int):Nat:=if at_%384<64 then (at_%384).toNat+64 else (at_%384).toNat+640
def plN (at_:Int)(m:Nat):Nat:=min (min m 12) ((if at_%384<64 then 128 else 1024)-plA at_)
structure Pu12 where
  q:Int
  a:Option Addr
  c:Nat
  b:List Nat
  fr:Bool
def Pu12.cells (x:Pu12):List Value:=[.int .i64 x.q,.slice x.a x.b.length x.c,.bool x.fr]
structure PuW (A:SP) (x:Pu12):Prop where
  q: -9223372036854775808<=x.q/\ x.q<=9223372036854775807
  cap:x.b.length<=x.c
  rs:Rs A x.a (bys x.b)
  by_:∀y∈x.b,y<256
theorem PuW.left {A X:SP}{x:Pu12}(h:PuW A x):PuW (A*X) x:=⟨h.q,h.cap,h.rs.left,h.by_⟩
def ptl (l:List Pu12):List Value:=l.flatMap Pu12.cells
def lay12 (f:TF)(x:Pu12):TF:=layF (plA x.q) (x.b.take (plN x.q x.b.length)) x.fr f
def laysK (l:List Pu12)(i:Nat):TF:=(l.take i).foldl lay12 tf0
def kdF (f:TF)(a:Nat):Int:=match f a with|none=>0|some (_,b)=>if b then 2 else 1
def bkK (f:TF):List Int:=(List.range 1024).map (kdF f)
def bkB (f:TF):List Nat:=(List.range 1024).map (byF f)
def bkc (f:TF):List Value:=ints (bkK f)++bys (bkB f)
def put1 (f:TF)(p x:Nat)(b:Bool):TF:=λ c=>if c=p then some (x,b) else f c
structure RunQ (f:TF) (k:Bool) (l:List Nat) (out:List (Nat×List Nat)):Prop where
  pos:∀r∈out,1<=r.2.length
  top:∀r∈out,∃x∈l,r.1+r.2.length=x+1
  gap:out.Pairwise λ r s=>r.1+r.2.length<s.1
  kind:∀r∈out,∀j,j<r.2.length->isK f k (r.1+j)=true/\ r.2[j]? =some (byF f (r.1+j))
  cov:∀x∈l,∃r∈out,r.1<=x/\ x<r.1+r.2.length
theorem runQ_step {f:TF}{k:Bool}{l:List Nat}{out:List (Nat×List Nat)}{a:Nat}(h:RunQ f k l out)(ha:isK f k a=true)(hl:∀x∈l,x<a):RunQ f k (l++[a]) (runA f out a):=by
  cases hj:adjB out a with
  |true=>
    obtain ⟨O,r,rfl,hadj,hrun⟩:=adj_t (f:=f) hj;rw [hrun]
    have hp:=List.pairwise_append.1 h.gap;refine ⟨λ z hz=> ?_,λ z hz=> ?_,List.pairwise_append.2 ⟨hp.1,List.pairwise_singleton _ _,λ x hx y hy=> ?_⟩,λ z hz j hjl=> ?_,λ x hx=> ?_⟩
    . rcases List.mem_append.1 hz with h1|h1
      . exact h.pos z (List.mem_append_left _ h1)
      rw [List.mem_singleton.1 h1];simp
    . rcases List.mem_append.1 hz with h1|h1
      . obtain ⟨x,hx,e⟩:=h.top z (List.mem_append_left _ h1);exact ⟨x,List.mem_append_left _ hx,e⟩
      rw [List.mem_singleton.1 h1]
      exact ⟨a,by simp,by simp only [List.length_append,List.length_singleton];omega⟩
    . rw [List.mem_singleton.1 hy]
      exact hp.2.2 x hx r (List.mem_singleton.2 rfl)
    . rcases List.mem_append.1 hz with h1|h1
      . exact h.kind z (List.mem_append_left _ h1) j hjl
      rw [List.mem_singleton.1 h1] at hjl ⊢
      simp only [List.length_append,List.length_singleton] at hjl ⊢
      by_cases hjr:j<r.2.length
      . obtain ⟨g1,g2⟩:=h.kind r (by simp) j hjr;exact ⟨g1,by rw [List.getElem?_append_left hjr];exact g2⟩
      obtain rfl:j=r.2.length:=by omega
      rw [hadj]
      exact ⟨ha,by rw [List.getElem?_append_right (Nat.le_refl _),Nat.sub_self];rfl⟩
    rcases List.mem_append.1 hx with h1|h1
    . obtain ⟨z,hz,g1,g2⟩:=h.cov x h1
      rcases List.mem_append.1 hz with h2|h2
      . exact ⟨z,List.mem_append_left _ h2,g1,g2⟩
      rw [List.mem_singleton.1 h2] at g1 g2
      exact ⟨_,List.mem_append_right _ (List.mem_singleton.2 rfl),g1,by simp only [List.length_append,List.length_singleton];omega⟩
    rw [List.mem_singleton.1 h1]
    have:=h.pos r (by simp);exact ⟨_,List.mem_append_right _ (List.mem_singleton.2 rfl),by simp only [];omega,by simp only [List.length_append,List.length_singleton];omega⟩
  |false=>
    rw [adj_f hj]
    have hlt:∀z∈out,z.1+z.2.length<a:=λ z hz=>by
      rcases Nat.eq_zero_or_pos out.length with h0|h0
      . rw [List.eq_nil_of_length_eq_zero h0] at hz;cases hz
      obtain ⟨O,r,rfl⟩:=list_snoc h0;rw [adjB_snoc] at hj
      have hne:=of_decide_eq_false hj;obtain ⟨x,hx,e⟩:=h.top r (by simp);have hxa:=hl x hx
      rcases List.mem_append.1 hz with h1|h1
      . have:=(List.pairwise_append.1 h.gap).2.2 z h1 r (List.mem_singleton.2 rfl)
        omega
      rw [List.mem_singleton.1 h1];omega
    refine ⟨λ z hz=> ?_,λ z hz=> ?_,List.pairwise_append.2 ⟨h.gap,List.pairwise_singleton _ _,λ x hx y hy=> ?_⟩,λ z hz j hjl=> ?_,λ x hx=> ?_⟩
    . rcases List.mem_append.1 hz with h1|h1
      . exact h.pos z h1
      rw [List.mem_singleton.1 h1];simp
    . rcases List.mem_append.1 hz with h1|h1
      . obtain ⟨x,hx,e⟩:=h.top z h1;exact ⟨x,List.mem_append_left _ hx,e⟩
      rw [List.mem_singleton.1 h1];exact ⟨a,by simp,rfl⟩
    . rw [List.mem_singleton.1 hy];exact hlt x hx
    . rcases List.mem_append.1 hz with h1|h1
      . exact h.kind z h1 j hjl
      rw [List.mem_singleton.1 h1] at hjl ⊢
      simp only [List.length_singleton] at hjl
      obtain rfl:j=0:=by omega
      exact ⟨ha,rfl⟩
    rcases List.mem_append.1 hx with h1|h1
    . obtain ⟨z,hz,g1,g2⟩:=h.cov x h1;exact ⟨z,List.mem_append_left _ hz,g1,g2⟩
    rw [List.mem_singleton.1 h1]
    exact ⟨_,List.mem_append_right _ (List.mem_singleton.2 rfl),Nat.le_refl _,by show a<a+1;omega⟩
theorem runQ_all {n:Nat}{k:Bool}{f:TF}:∀i,i<=(adrF n k f).length->RunQ f k ((adrF n k f).take i) (runsL f ((adrF n k f).take i))
  |0,_=>by
    rw [List.take_zero]
    exact ⟨λ r h=>(by cases h),λ r h=>(by cases h),List.Pairwise.nil,λ r h=>(by cases h),λ r h=>(by cases h)⟩
  |i+1,h=>by
    have ih:=runQ_all (n:=n) (k:=k) (f:=f) i oqz;rw [runs_next rfl oqz,List.take_succ_eq_append_getElem oqz]
    refine runQ_step ih ?_ λ x hx=> ?_
    . exact (adr_mem.1 (List.getElem_mem oqz)).2
    obtain ⟨j,hj,rfl⟩:=List.mem_iff_getElem.1 hx;rw [List.length_take] at hj
    rw [List.getElem_take]
    exact List.pairwise_iff_getElem.1 (adr_sorted n k f) j i oqz oqz oqz
theorem runQ_F (n:Nat)(k:Bool)(f:TF):RunQ f k (adrF n k f) (runsF n k f):=by
  have:=runQ_all (n:=n) (k:=k) (f:=f) _ (Nat.le_refl _);rw [List.take_length] at this
  unfold runsF;exact this
theorem kd_one {f:TF}{a:Nat}:kdF f a=1↔isK f false a=true:=by
  unfold kdF isK
  cases f a with
  |none=>simp
  |some c=>obtain ⟨x,b⟩:=c;cases b<;>simp
theorem kd_zero {f:TF}{a:Nat}:kdF f a=0↔f a=none:=by
  unfold kdF
  cases f a with
  |none=>simp
  |some c=>obtain ⟨x,b⟩:=c;cases b<;>simp
theorem kd_nn (f:TF)(a:Nat):0<=kdF f a/\ kdF f a<=2:=by
  unfold kdF
  cases f a with
  |none=>simp
  |some c=>obtain ⟨x,b⟩:=c;cases b<;>simp
def kdT (f:TF)(a:Nat):Int:=match f a with
  |none=>0
  |some c=>if c.2 then 2 else 1
def lineC (f:TF)(d:Nat):List Value:=Value.int .i64 ((d:Nat):Int)::(bys ((List.range 64).map λ j=>byF f (64*d+j))++ints ((List.range 64).map λ j=>kdT f (64*d+j)))
def putB (f:TF)(a x:Nat)(fr:Bool):TF:=λ c=>if c=a then some (x,((f a).map (·.2)).getD fr) else f c
def RLines:List Nat->List Nat->TF->SP
  |v::vs,d::D,f=>RLines vs D f*pt v (cl (lineC f d) 225)
  |_,_,_=>emp
def ptrV (vs:List Nat):List Value:=vs.map λ v=>(pz v)
def posL (n:Nat):List Nat->Nat
  |[]=>0
  |d::D=>if d<n then posL n D+1 else 0
def insD (n:Nat)(D:List Nat):List Nat:=D.take (posL n D)++n::D.drop (posL n D)
def line0 (d:Nat):List Value:=Value.int .i64 ((d:Nat):Int)::(bys (List.replicate 64 0)++ints (List.replicate 64 0))
attribute [local irreducible] crk crL crc Sl pt ro Dev imgS recS readS recsF rdW rdO rkT Parts rvl recordsS runsL adrF kcl xcl kys runA runsF layF ovF TxA adZ WkA SlB blkS conB imF RDev lineC RLines
end Go.Vl

namespace Go.Vl
open Go Go.Proofs Go.Proofs.Tryz
def putsF (f:TF)(p:Nat)(X:List Nat)(fr:Bool):Nat->TF
  |0=>f
  |i+1=>putB (putsF f p X fr i) (p+i) (X.getD i 0) fr
def LnOk (k:Nat)(D:List Nat)(f:TF):Prop:=D.Pairwise (·<·)/\ (∀x,f x≠none->x/64∈D)/\ (∀d∈D,d<k)/\∀d∈D,∃x,f x≠none/\ x/64=d
attribute [local irreducible] crk crL crc Sl pt ro Dev imgS recS readS recsF rdW rdO rkT Parts rvl recordsS runsL adrF kcl xcl kys runA runsF layF ovF TxA adZ WkA SlB blkS conB imF RDev lineC RLines
end Go.Vl

namespace Go.Vl
open Go Go.Proofs Go.Proofs.Tryz
def lnA (kd:Bool)(f:TF)(d j:Nat):List Nat:=((List.range j).map λ k=>64*d+k).filter (isK f kd)
def adL (kd:Bool)(f:TF)(D:List Nat):List Nat:=D.flatMap λ d=>lnA kd f d 64
attribute [local irreducible] crk crL crc Sl pt ro Dev imgS recS readS recsF rdW rdO rkT Parts rvl recordsS runsL adrF kcl xcl kys runA runsF layF ovF TxA adZ WkA SlB blkS conB imF RDev lineC RLines
end Go.Vl

namespace Go.Vl
open Go Go.Proofs Go.Proofs.Tryz
def hasK (kd:Bool)(f:TF)(d:Nat):Bool:=(List.range 64).any λ k=>isK f kd (64*d+k)
attribute [local irreducible] crk crL crc Sl pt ro Dev imgS recS readS recsF rdW rdO rkT Parts rvl recordsS runsL adrF kcl xcl kys runA runsF layF ovF TxA adZ WkA SlB blkS conB imF RDev lineC RLines
end Go.Vl

namespace Go.Vl
open Go Go.Proofs Go.Proofs.Tryz
def runG (L:List (Nat×List Nat)):Prop:=L.Pairwise (λ r s=>r.1+r.2.length<s.1)/\∀r∈L,1<=r.2.length
attribute [local irreducible] crk crL crc Sl pt ro Dev imgS recS readS recsF rdW rdO rkT Parts rvl recordsS runsL adrF kcl xcl kys runA runsF layF ovF TxA adZ WkA SlB blkS conB imF RDev lineC RLines
end Go.Vl

namespace Go.Vl
open Go Go.Proofs Go.Proofs.Tryz
theorem runP_b {n:Nat}{k:Bool}{f:TF}(hb:∀a c,f a=some c->c.1<256):∀i,i<=(adrF n k f).length->RunP n i (runsL f ((adrF n k f).take i))
  |0,_=>⟨rfl,Nat.le_refl _,λ r h=>(by cases h)⟩
  |i+1,h=>by
    rw [runs_next (out:=runsL f ((adrF n k f).take i)) rfl oqz]
    obtain ⟨c,hf,_,hn⟩:=adr_at (n:=n) (k:=k) (f:=f) (i:=i) oqz;exact runP_step (runP_b hb i oqz) hn (by rw [byF_some hf];exact hb _ _ hf)
theorem runP_Fb {n:Nat}{k:Bool}{f:TF}(hb:∀a c,f a=some c->c.1<256):RunP n (adrF n k f).length (runsF n k f):=by
  have:=runP_b (k:=k) (n:=n) hb (adrF n k f).length (Nat.le_refl _);rw [List.take_length] at this;unfold runsF;exact this
attribute [local irreducible] crk crL crc Sl pt ro Dev imgS recS readS recsF rdW rdO rkT Parts rvl recordsS runsL adrF kcl xcl kys runA runsF layF ovF TxA adZ WkA SlB blkS conB imF RDev lineC RLines
end Go.Vl

namespace Go.Vl
open Go Go.Proofs Go.Proofs.Tryz
variable {nl at_ sz:Nat}
structure ByM (nl:Nat) (M:List Nat):Prop where
  len:M.length=(nl*64)
  by_:∀x∈M,x<256
def LogM (nl at_:Nat)(M:List Nat)(sz:Nat)(l:List (Int×Int))(I:List Nat):Prop:=nm ((I.drop at_).take 8)=l.length/\ (I.drop (at_+64)).take (needN l)=recsB M l/\ I.length=(nl*64)/\ Out at_ (at_+sz) I M
theorem log_recordsM {M:List Nat}(hM:ByM nl M){l:List (Int×Int)}{s:DevS}(hlw:LogW (nl*64) at_ sz)(hl:l.all (mayX (nl*64) at_ sz)=true)(hN:needN l<=sz-64)(hw:WfD s)(hO:s.off=false)(hlen:s.ls.length=nl)
    (hi:((imgS s).drop at_).take 8=((imgS s).drop at_).take 8) (hh:nm (((imgS s).drop at_).take 8)=l.length) (hr:((imgS s).drop (at_+64)).take (needN l)=recsB M l):recordsS at_ sz s=(oldsL M l,0):=
  records_of hw hO (by rw [hlen];exact hlw) (by rw [hlen];exact hM.len) (by rw [hlen];exact hl) hN hh hr
theorem olds_okM {M:List Nat}(hM:ByM nl M){l:List (Int×Int)}{I:List Nat}(hl:l.all (mayX (nl*64) at_ sz)=true)(hI:LogM nl at_ M sz l I):∀x∈oldsL M l,mayX (nl*64) at_ sz ((x.1:Int),((x.2.length:Nat):Int))=true/\ (∀b∈x.2,b<256)/\ x.2=(I.drop x.1).take x.2.length:=λ x hx=>by
  obtain ⟨y,hy,rfl⟩:=olds_mem hx;have hm:=List.all_eq_true.1 hl y hy;obtain ⟨p,m,rfl,y1,y2,y3,y4⟩:=may_nat hm;have hml:=hM.len;have hol:((M.drop p).take m).length=m:=(by rw [List.length_take,List.length_drop];omega)
  simp only [Int.toNat_natCast]
  refine ⟨by rw [hol];exact hm,λ b hb=>hM.by_ b (List.mem_of_mem_drop (List.mem_of_mem_take hb)), ?_⟩;rw [hol]
  exact (out_sub hI.2.2.2 oqz).symm
theorem olds_inM {M:List Nat}(hM:ByM nl M){i:Nat}{l:List (Int×Int)}(hl:l.all (mayX (nl*64) at_ sz)=true)(h:InX (oldsL M l) i):i<at_∨at_+sz<=i:=by
  obtain ⟨x,hx,h1,h2⟩:=h;obtain ⟨y,hy,rfl⟩:=olds_mem hx;obtain ⟨p,m,rfl,y1,y2,y3,y4⟩:=may_nat (List.all_eq_true.1 hl y hy);have hml:=hM.len
  simp only [Int.toNat_natCast,List.length_take,List.length_drop] at h1 h2
  omega
theorem sum_oldsM {M:List Nat}(hM:ByM nl M):∀{l:List (Int×Int)},l.all (mayX (nl*64) at_ sz)=true->sumL (oldsL M l)<=needN l
  |[],_=>Nat.zero_le _
  |x::l,hl=>by
    rw [List.all_cons,Bool.and_eq_true] at hl
    obtain ⟨p,m,rfl,y1,y2,y3,y4⟩:=may_nat hl.1;have ih:=sum_oldsM hM hl.2;have e:oldsL M (((p:Int),(m:Int))::l)=(p,(M.drop p).take m)::oldsL M l:=rfl;rw [e,sumL_cons,needN_cons]
    simp only [Int.toNat_natCast,List.length_take]
    have:=up8_le m
    omega
theorem as_recordsM {M:List Nat}(hM:ByM nl M){l:List (Int×Int)}{I:List Nat}{s:DevS}(hlw:LogW (nl*64) at_ sz)(hl:l.all (mayX (nl*64) at_ sz)=true)(hN:needN l<=sz-64)(hI:LogM nl at_ M sz l I)(hA:AS (oldsL M l) I s)(hO:s.off=false)(hlen:s.ls.length=nl):recordsS at_ sz s=(oldsL M l,0):=by
  have ⟨w1,w2,w3,w4,w5⟩:=hlw;have hno:∀i,at_<=i->i<at_+sz->¬InX (oldsL M l) i:=λ i a b hin=>by rcases olds_inM hM hl hin with h|h<;>omega
  refine log_recordsM hM hlw hl hN hA.wf hO hlen rfl ?_ ?_
  . rw [hA.sub (λ i a b=>hno i a oqz)];exact hI.1
  rw [hA.sub (λ i a b=>hno i oqz oqz)];exact hI.2.1
theorem as_rollM {M:List Nat}(hM:ByM nl M){l:List (Int×Int)}{I:List Nat}{s:DevS}(hlw:LogW (nl*64) at_ sz)(hl:l.all (mayX (nl*64) at_ sz)=true)(hN:needN l<=sz-64)(hne:l≠[])(hI:LogM nl at_ M sz l I)(hA:AS (oldsL M l) I s)(hO:s.off=false)(hlen:s.ls.length=nl)(hr:Room (needN l+1) s):
    ∃k e s2,rollS at_ sz s=((k,e),s2)/\ s2.ls.length=nl/\ ((e=0/\ k=l.length/\ s2.off=false/\ WfD s2/\ Cln s2/\ imgS s2=spl I at_ (le 8 0))∨(e=5/\ s2.off=true/\ ((AS (oldsL M l) I s2/\ Cln s2)∨(WfD s2/\ Cln s2/\ imgS s2=spl I at_ (le 8 0))))):=by
  have ⟨w1,w2,w3,w4,w5⟩:=hlw;have hs:=sum_oldsM hM hl
  have:=roll_loss (at_:=at_) (sz:=sz) hA hO (by rw [hlen];exact hlw) (λ l hl=>by have:=hr l hl;omega) (by
    intro e;apply hne;have:=congrArg List.length e
    unfold oldsL at this;rw [List.length_map] at this;exact List.eq_nil_of_length_eq_zero this) (as_recordsM hM hlw hl hN hI hA hO hlen) (by rw [hlen];exact olds_okM hM hl hI)
  rw [hlen] at this
  have hll:(oldsL M l).length=l.length:=(by unfold oldsL;rw [List.length_map]);rw [hll] at this
  exact this
theorem nodup_sub {α:Type}[DecidableEq α]:∀{l G:List α},l.Nodup->(∀x∈l,x∈G)->l.length<=G.length
  |[],_,_,_=>Nat.zero_le _
  |x::l,G,hn,hs=>by
    obtain ⟨h1,h2⟩:=List.nodup_cons.1 hn;have hx:=hs x (by simp);have:=nodup_sub (l:=l) (G:=G.erase x) h2 λ y hy=>(List.mem_erase_of_ne (by intro e;subst e;exact h1 hy)).2 (hs y (List.mem_cons_of_mem _ hy))
    rw [List.length_erase_of_mem hx] at this
    have:=List.length_pos_of_mem hx;rw [List.length_cons];omega
def kdO (f:TF)(a:Nat):Option Bool:=(f a).map (·.2)
theorem isK_iff {f:TF}{k:Bool}{a:Nat}:isK f k a=true↔kdO f a=some k:=by unfold isK kdO;simp
theorem kdO_none {f:TF}{a:Nat}:f a=none↔kdO f a=none:=by unfold kdO;cases f a<;>simp
theorem kdO_lay {p:Nat}{X:List Nat}{fr:Bool}{f:TF}{a:Nat}:kdO (layF p X fr f) a=if p<=a/\ a<p+X.length then some ((kdO f a).getD fr) else kdO f a:=by
  unfold kdO layF
  split<;>rfl
structure PutG (G:List Nat) (f:TF):Prop where
  st:∀a,kdO f a=some false->(∀b,b+1=a->kdO f b≠some false)->a∈G
  en:∀a,kdO f a=some true->kdO f (a+1)=none->a+1∈G
theorem putG_nil:PutG [] tf0:=⟨λ a h=>by simp [kdO,tf0] at h,λ a h=>by simp [kdO,tf0] at h⟩
theorem putG_lay {G:List Nat}{f:TF}{p:Nat}{X:List Nat}{fr:Bool}(h:PutG G f):PutG ((if fr=true then p+X.length else p)::G) (layF p X fr f):=by
  refine ⟨λ a ha hb=> ?_,λ a ha hb=> ?_⟩
  . by_cases hold:kdO f a=some false
    . refine List.mem_cons_of_mem _ (h.st a hold λ b hba hkb=>hb b hba ?_);rw [kdO_lay,hkb];split<;>rfl
    rw [kdO_lay] at ha
    split at ha
    . rename_i hin
      cases hk:kdO f a with
      |some k=>rw [hk] at ha hold;simp at ha;exact absurd (by rw [ha]) hold
      |none=>
        rw [hk] at ha
        simp only [Option.getD_none,Option.some.injEq] at ha
        subst ha;rw [if_neg (by decide)]
        by_cases hap:a=p
        . rw [hap];exact List.mem_cons_self
        have hb1:=hb (a-1) oqz;rw [kdO_lay,if_pos oqz] at hb1
        cases hk1:kdO f (a-1) with
        |none=>rw [hk1] at hb1;simp at hb1
        |some k1=>
          rw [hk1] at hb1
          cases k1 with
          |false=>simp at hb1
          |true=>
            have:=h.en (a-1) hk1 (by rw [show a-1+1=a by omega];exact hk);rw [show a-1+1=a by omega] at this
            exact List.mem_cons_of_mem _ this
    exact absurd ha hold
  rw [kdO_lay] at hb
  split at hb
  . cases hb
  rename_i hnin
  by_cases hold:kdO f a=some true
  . exact List.mem_cons_of_mem _ (h.en a hold hb)
  rw [kdO_lay] at ha
  split at ha
  . rename_i hin
    cases hk:kdO f a with
    |some k=>rw [hk] at ha hold;simp at ha;exact absurd (by rw [ha]) hold
    |none=>
      rw [hk] at ha
      simp only [Option.getD_none,Option.some.injEq] at ha
      subst ha;rw [if_pos rfl,show a+1=p+X.length by omega]
      exact List.mem_cons_self
  exact absurd ha hold
theorem runs_len {G:List Nat}{f:TF}{n:Nat}(h:PutG G f)(hout:∀a,n<=a->f a=none):(runsF n false f).length<=G.length:=by
  have hQ:=runQ_F n false f
  have hnd:((runsF n false f).map (·.1)).Nodup:=by
    rw [List.nodup_iff_pairwise_ne,List.pairwise_map]
    refine List.pairwise_iff_getElem.2 λ i j hi hj hij=> ?_
    have h1:=List.pairwise_iff_getElem.1 hQ.gap i j hi hj hij;have h2:=hQ.pos _ (List.getElem_mem hi)
    omega
  have:=nodup_sub (G:=G) hnd λ x hx=>by
    obtain ⟨r,hr,rfl⟩:=List.mem_map.1 hx;have hp:=hQ.pos r hr;obtain ⟨g1,_⟩:=hQ.kind r hr 0 oqz;rw [Nat.add_zero] at g1
    refine h.st r.1 (isK_iff.1 g1) λ b hb hkb=> ?_
    have hbn:b<n:=by
      rcases Nat.lt_or_ge b n with h9|h9
      . exact h9
      rw [kdO_none.1 (hout b h9)] at hkb;cases hkb
    obtain ⟨s,hs,s1,s2⟩:=hQ.cov b (adr_mem.2 ⟨hbn,isK_iff.2 hkb⟩);obtain ⟨i,hi,rfl⟩:=List.mem_iff_getElem.1 hr;obtain ⟨j,hj,rfl⟩:=List.mem_iff_getElem.1 hs
    rcases Nat.lt_trichotomy i j with hij|hij|hij
    . have:=List.pairwise_iff_getElem.1 hQ.gap i j hi hj hij;omega
    . subst hij;omega
    have:=List.pairwise_iff_getElem.1 hQ.gap j i hj hi hij;omega
  rwa [List.length_map] at this
theorem filter_or {α:Type}{p q r:α->Bool}(h:∀x,p x=true->q x=true∨r x=true):∀l:List α,(l.filter p).length<=(l.filter q).length+(l.filter r).length
  |[]=>Nat.le_refl _
  |x::l=>by
    have ih:=filter_or h l;have hx:=h x
    simp only [List.filter_cons]
    cases hp:p x<;>cases hq:q x<;>cases hr:r x<;>simp [hp,hq,hr] at hx ⊢<;>omega
theorem adr_lay {n p:Nat}{X:List Nat}{fr k:Bool}{f:TF}:(adrF n k (layF p X fr f)).length<=(adrF n k f).length+X.length:=by
  unfold adrF
  refine Nat.le_trans (filter_or (q:=isK f k) (r:=λ a=>decide (p<=a/\ a<p+X.length)) (λ a ha=> ?_) _) (Nat.add_le_add_left ?_ _)
  . by_cases hin:p<=a/\ a<p+X.length
    . exact .inr (decide_eq_true hin)
    refine .inl (isK_iff.2 ?_);have:=isK_iff.1 ha
    rwa [kdO_lay,if_neg hin] at this
  have:=nodup_sub (l:=(List.range n).filter λ a=>decide (p<=a/\ a<p+X.length)) (G:=List.range' p X.length) (List.nodup_range.filter _) (λ x hx=>by
    have:=of_decide_eq_true (List.mem_filter.1 hx).2
    rw [List.mem_range'_1];omega)
  rwa [List.length_range'] at this
theorem need_runs:∀ (L:List (Nat×List Nat)),needN (extX L)<=31*L.length+sumL L
  |[]=>Nat.le_refl _
  |r::L=>by
    have ih:=need_runs L;have h1:=up8_le r.2.length
    show needN (((r.1:Int),(r.2.length:Int))::extX L)<=_
    rw [needN_cons,sumL_cons,List.length_cons]
    simp only [Int.toNat_natCast]
    omega
theorem fl1_loss {X:Nat->List Nat->Prop}{q:Nat}{s:DevS}(hw:WfD s)(hO:s.off=false)(hP:Poss X s)(hq:q<s.ls.length):
    ∃e s2,fl1 ((q*64:Nat):Int) s=(e,s2)/\ ((e=0/\ s2.off=false/\ WfD s2/\ s2.ls=flsh 1 q s.ls)∨(e=5/\ Lost X s.ls.length s2)):=by
  obtain ⟨e,s2,g1,g2⟩:=flL_loss (X:=X) 1 q s hw hO hP oqz;have h1:flL 1 q s=if (fl1 ((q*64:Nat):Int) s).1≠0 then fl1 ((q*64:Nat):Int) s else (0,(fl1 ((q*64:Nat):Int) s).2):=rfl;obtain ⟨e1,s1,hf⟩:∃e1 s1,fl1 ((q*64:Nat):Int) s=(e1,s1):=⟨_,_,rfl⟩;rw [hf] at h1
  simp only [] at h1
  have h2:flL 1 q s=(e1,s1):=by
    rw [h1];split
    . rfl
    rename_i h0;rw [Classical.not_not.1 h0]
  rw [h2] at g1
  obtain ⟨rfl,rfl⟩:=pair_eq g1 rfl;exact ⟨_,_,hf,g2⟩
theorem as_flsh {L0:List (Nat×List Nat)}{I:List Nat}{q:Nat}{s s2:DevS}(hA:AS L0 I s)(hw:WfD s2)(h:s2.ls=flsh 1 q s.ls):AS L0 I s2/\ s2.ls.length=s.ls.length/\ imgS s2=imgS s/\ (∀k,Room k s->Room k s2)/\ (∀j,j=q∨Mkd j s->Mkd j s2):=by
  have hlen:s2.ls.length=s.ls.length:=(by rw [h,flsh_len])
  have hget:∀j l',s2.ls[j]? =some l'->∃l,s.ls[j]? =some l/\ l'=if q<=j/\ j<q+1 then flushL l else l:=λ j l' hl=>by
    rw [h] at hl;exact flsh_get hl
  have hst:∀ (j:Nat) (l':LineS),s2.ls[j]? =some l'->∃l:LineS,s.ls[j]? =some l/\ l'.st=l.st:=λ j l' hl=>by
    obtain ⟨l,e1,e2⟩:=hget j l' hl;exact ⟨l,e1,by rw [e2];split<;>rfl⟩
  refine ⟨⟨hw,by rw [hlen];exact hA.len,poss_sub hA.poss λ j l' hl=> ?_,λ j l' hj hl=> ?_⟩,hlen, ?_,λ k hr l' hl=> ?_,λ j hj l' hl=> ?_⟩
  . obtain ⟨l,e1,e2⟩:=hst j l' hl;exact ⟨l,e1,λ σ hσ=>e2▸hσ⟩
  . obtain ⟨l,e1,e2⟩:=hst j l' hl;rw [e2];exact hA.one j l hj e1
  . unfold imgS;rw [h];exact img_seen (flsh_seen _ _ _)
  . obtain ⟨j,hj,rfl⟩:=List.mem_iff_getElem.1 hl;obtain ⟨l,e1,e2⟩:=hst j _ (List.getElem?_eq_getElem hj);rw [e2];exact hr l (List.mem_of_getElem? e1)
  obtain ⟨l,e1,e2⟩:=hget j l' hl
  rcases hj with rfl|hj
  . rw [if_pos oqz] at e2
    rw [e2];rfl
  rw [e2];split
  . rfl
  exact hj l e1
theorem flLs_loss {L0:List (Nat×List Nat)}{I:List Nat}:∀{l:List Nat} {s:DevS},AS L0 I s->s.off=false->(∀q∈l,q<s.ls.length)→
    ∃e s2,flLs l s=(e,s2)/\ s2.ls.length=s.ls.length/\ AS L0 I s2/\ ((e=0/\ s2.off=false/\ imgS s2=imgS s/\ (∀k,Room k s->Room k s2)/\ (∀j,j∈l∨Mkd j s->Mkd j s2))∨(e=5/\ s2.off=true))
  |[],s,hA,hO,_=>⟨0,s,rfl,rfl,hA,.inl ⟨rfl,hO,rfl,λ _ h=>h,λ j h=>h.elim (λ h=>by cases h) id⟩⟩
  |q::l,s,hA,hO,hq=>by
    obtain ⟨e,s1,g1,g2⟩:=fl1_loss (X:=XU L0 I) hA.wf hO hA.poss (hq q (by simp))
    rcases g2 with ⟨rfl,a2,a3,a4⟩|⟨rfl,a2⟩
    . obtain ⟨b1,b2,b3,b4,b5⟩:=as_flsh hA a3 a4;obtain ⟨e,s2,k1,k2,k3,k4⟩:=flLs_loss (l:=l) b1 a2 (λ x hx=>by rw [b2];exact hq x (List.mem_cons_of_mem _ hx));refine ⟨e,s2, ?_,k2.trans b2,k3, ?_⟩
      . rw [flLs_cons,g1,if_neg (by simp)];exact k1
      rcases k4 with ⟨c1,c2,c3,c4,c5⟩|k4
      . refine .inl ⟨c1,c2,c3.trans b3,λ k h=>c4 k (b4 k h),λ j hj=> ?_⟩
        rcases hj with hj|hj
        . rcases List.mem_cons.1 hj with rfl|hj
          . exact c5 j (.inr (b5 j (.inl rfl)))
          exact c5 j (.inl hj)
        exact c5 j (.inr (b5 j (.inr hj)))
      exact .inr k4
    refine ⟨5,s1, ?_,a2.2.2.2.2,as_lost a2 hA.len,.inr ⟨rfl,a2.1⟩⟩;rw [flLs_cons,g1,if_pos (show (5:Int)≠0 by decide)]
def stoI:List (Nat×List Nat)->List Nat->List Nat
  |[],I=>I
  |r::l,I=>stoI l (spl I r.1 r.2)
theorem as_stoL {L0:List (Nat×List Nat)}{I:List Nat}{k:Nat}:∀{R:List (Nat×List Nat)} {s:DevS},AS L0 I s->s.off=false->(∀r∈R,r.1+r.2.length<=s.ls.length*64/\ (∀b∈r.2,b<256)/\∀i,r.1<=i->i<r.1+r.2.length->InX L0 i)->Room (k+sumL R) s→
    ∃e s2,stoL R s=(e,s2)/\ s2.ls.length=s.ls.length/\ AS L0 I s2/\ ((e=0/\ s2.off=false/\ Room k s2/\ imgS s2=stoI R (imgS s))∨(e=5/\ s2.off=true))
  |[],s,hA,hO,_,hr=>⟨0,s,rfl,rfl,hA,.inl ⟨rfl,hO,room_le hr oqz,rfl⟩⟩
  |r::R,s,hA,hO,hR,hr=>by
    obtain ⟨h1,h2,h3⟩:=hR r (by simp);rw [sumL_cons] at hr
    obtain ⟨e,s1,g1,g2⟩:=as_sto (r:=k+sumL R) hA hO h1 h3 h2 (room_le hr oqz)
    rcases g2 with ⟨rfl,a2,a3,a4,a5,a6⟩|⟨rfl,a2,a3,a4⟩
    . obtain ⟨e,s2,k1,k2,k3,k4⟩:=as_stoL (R:=R) a3 a2 (λ x hx=>by rw [a4];exact hR x (List.mem_cons_of_mem _ hx)) a5;refine ⟨e,s2, ?_,k2.trans a4,k3, ?_⟩
      . rw [stoL_cons,g1,if_neg (by simp)];exact k1
      rcases k4 with ⟨c1,c2,c3,c4⟩|k4
      . exact .inl ⟨c1,c2,c3,by rw [c4,a6];rfl⟩
      exact .inr k4
    refine ⟨5,s1, ?_,a4,a3,.inr ⟨rfl,a2⟩⟩;rw [stoL_cons,g1,if_pos (show (5:Int)≠0 by decide)]
theorem fe_law {L0:List (Nat×List Nat)}{I:List Nat}{s:DevS}(hA:AS L0 I s)(hO:s.off=false)(hM:∀i,InX L0 i->Mkd (i/64) s):
    ∃e s2,fe s=(e,s2)/\ s2.ls.length=s.ls.length/\ ((e=0/\ s2.off=false/\ WfD s2/\ Cln s2/\ imgS s2=imgS s)∨(e=5/\ s2.off=true/\ AS L0 I s2)):=by
  have hwf:=fence_wf hA.wf
  have hPf:Poss (XU L0 I) (fenceS s):=poss_sub hA.poss λ q l' hl'=>by
    obtain ⟨l,h1,rfl⟩:=fence_get hl';exact ⟨l,h1,fence_mem⟩
  have hfe:fe s=(doneE (fenceS s),doneS (fenceS s)):=(by unfold fe;rw [if_neg (by rw [hO];decide)]);have hfl:(fenceS s).ls.length=s.ls.length:=(by simp [fenceS])
  rcases done_loss hwf hPf with ⟨b1,b2,b3⟩|⟨b1,b2⟩
  . refine ⟨0,doneS (fenceS s),by rw [hfe,b1],by rw [b2,hfl],.inl ⟨rfl,by rw [b3];exact hO,doneS_wf hwf,λ l' hl'=> ?_, ?_⟩⟩
    . rw [b2] at hl'
      obtain ⟨q,hq,rfl⟩:=List.mem_iff_getElem.1 hl';obtain ⟨l,e1,e2⟩:=fence_get (show (s.ls.map fenceL)[q]? =some _ from List.getElem?_eq_getElem hq);have hwl:=hA.wf.line l (List.mem_of_getElem? e1);have hpl:=List.length_pos_iff.2 hwl.ne;rw [e2]
      by_cases hU:∀i,InX L0 i->i/64≠q
      . have h1:=hA.one q l hU e1
        unfold fenceL;split
        . have:=hwl.hi;simp only [List.length_drop];omega
        exact h1
      have:∃i,InX L0 i/\ i/64=q:=by
        apply Classical.byContradiction
        intro hn;exact hU λ i hi he=>hn ⟨i,hi,he⟩
      obtain ⟨i,hi,rfl⟩:=this;have h1:=hM i hi l e1
      unfold fenceL
      rw [if_pos oqz]
      simp only [List.length_drop];omega
    unfold imgS;rw [b2]
    show img (s.ls.map fenceL)=_
    refine img_seen ?_;rw [List.map_map]
    exact List.map_congr_left λ l hl=>seen_fence (hA.wf.line l hl)
  rw [hfl] at b2
  exact ⟨5,doneS (fenceS s),by rw [hfe,b1],b2.2.2.2.2,.inr ⟨rfl,b2.1,as_lost b2 hA.len⟩⟩
theorem linR_memW:∀{R:List (Nat×List Nat)} {d:Nat},R.Pairwise (λ r s=>r.1+r.2.length<s.1)->(∀r∈R,1<=r.2.length)->∀r∈R,∀q,r.1/64<=q->q<=(r.1+r.2.length-1)/64->q∈linR R d∨q<d
  |[],_,_,_,r,hr,_,_,_=>by cases hr
  |x::R,d,hg,hp,r,hr,q,h1,h2=>by
    obtain ⟨g1,g2⟩:=List.pairwise_cons.1 hg
    have hin:∀q,x.1/64<=q->q<=(x.1+x.2.length-1)/64->q∈linR (x::R) d∨q<d:=λ q h1 h2=>by
      rcases Nat.lt_or_ge q d with hd|hd
      . exact .inr hd
      refine .inl (List.mem_append_left _ (List.mem_map.2 ⟨q-max (x.1/64) d,List.mem_range.2 oqz,by omega⟩))
    rcases List.mem_cons.1 hr with rfl|hr
    . exact hin q h1 h2
    have hx:=g1 r hr;have hx1:=hp x (by simp)
    rcases linR_memW (d:=max d ((x.1+x.2.length-1)/64+1)) g2 (λ y hy=>hp y (List.mem_cons_of_mem _ hy)) r hr q h1 h2 with h|h
    . exact .inl (List.mem_append_right _ h)
    rcases Nat.lt_or_ge q d with hd|hd
    . exact .inr hd
    exact hin q oqz oqz
theorem linR_top:∀{R:List (Nat×List Nat)} {d n:Nat},(∀r∈R,r.1+r.2.length<=n*64/\ 1<=r.2.length)->∀q∈linR R d,q<n
  |[],_,_,_,q,hq=>by cases hq
  |x::R,d,n,h,q,hq=>by
    rcases List.mem_append.1 hq with hq|hq
    . obtain ⟨j,hj,rfl⟩:=List.mem_map.1 hq;have:=List.mem_range.1 hj;have:=h x (by simp)
      omega
    exact linR_top (λ y hy=>h y (List.mem_cons_of_mem _ hy)) q hq
theorem writeT_law {L0:List (Nat×List Nat)}{I:List Nat}{k:Nat}{R:List (Nat×List Nat)}{s:DevS}(hA:AS L0 I s)(hO:s.off=false)(hg:R.Pairwise λ r s=>r.1+r.2.length<s.1)
    (hR:∀r∈R,1<=r.2.length/\ r.1+r.2.length<=s.ls.length*64/\ (∀b∈r.2,b<256)/\∀i,r.1<=i->i<r.1+r.2.length->InX L0 i) (hr:Room (k+sumL R) s):
    ∃e s2,writeT R s=(e,s2)/\ s2.ls.length=s.ls.length/\ AS L0 I s2/\ ((e=0/\ s2.off=false/\ Room k s2/\ imgS s2=stoI R (imgS s)/\ (∀i,InX R i->Mkd (i/64) s2))∨(e=5/\ s2.off=true)):=by
  obtain ⟨e1,s1,g1,g2,g3,g4⟩:=as_stoL (k:=k) hA hO (λ r h=>⟨(hR r h).2.1,(hR r h).2.2.1,(hR r h).2.2.2⟩) hr
  rcases g4 with ⟨rfl,a2,a3,a4⟩|⟨rfl,a2⟩
  . obtain ⟨e2,s2,k1,k2,k3,k4⟩:=flLs_loss (l:=linR R 0) g3 a2 (λ q hq=>by rw [g2];exact linR_top (λ r h=>⟨(hR r h).2.1,(hR r h).1⟩) q hq);refine ⟨e2,s2, ?_,k2.trans g2,k3, ?_⟩
    . unfold writeT;rw [g1,if_neg (by simp)];exact k1
    rcases k4 with ⟨c1,c2,c3,c4,c5⟩|k4
    . refine .inl ⟨c1,c2,c4 k a3,c3.trans a4,λ i hi=>c5 _ (.inl ?_)⟩;obtain ⟨r,hr9,h1,h2⟩:=hi
      rcases linR_memW (d:=0) hg (λ r h=>(hR r h).1) r hr9 (i/64) oqz oqz with h|h
      . exact h
      exact absurd h (Nat.not_lt_zero _)
    exact .inr k4
  refine ⟨5,s1, ?_,g2,g3,.inr ⟨rfl,a2⟩⟩
  unfold writeT;rw [g1,if_pos (show (5:Int)≠0 by decide)]
end Go.Vl

namespace Go.Vl
open Go Go.Proofs Go.Proofs.Tryz
theorem fe_loss {X:Nat->List Nat->Prop}{s:DevS}(hw:WfD s)(hO:s.off=false)(hP:Poss X s)(hM:∀ (q:Nat) (l:LineS),s.ls[q]? =some l->l.st.length=1∨l.mark=(l.st.length:Int)-1):
    ∃e s2,fe s=(e,s2)/\ ((e=0/\ s2.off=false/\ WfD s2/\ Cln s2/\ s2.ls.length=s.ls.length/\ imgS s2=imgS s)∨(e=5/\ Lost X s.ls.length s2)):=by
  have hwf:=fence_wf hw
  have hPf:Poss X (fenceS s):=poss_sub hP λ q l' hl'=>by
    obtain ⟨l,h1,rfl⟩:=fence_get hl';exact ⟨l,h1,fence_mem⟩
  have hfe:fe s=(doneE (fenceS s),doneS (fenceS s)):=(by unfold fe;rw [if_neg (by rw [hO];decide)]);have hfl:(fenceS s).ls.length=s.ls.length:=(by simp [fenceS])
  rcases done_loss hwf hPf with ⟨b1,b2,b3⟩|⟨b1,b2⟩
  . refine ⟨0,doneS (fenceS s),by rw [hfe,b1],.inl ⟨rfl,by rw [b3];exact hO,doneS_wf hwf,λ l' hl'=> ?_,by rw [b2,hfl], ?_⟩⟩
    . rw [b2] at hl'
      obtain ⟨q,hq,rfl⟩:=List.mem_iff_getElem.1 hl';obtain ⟨l,e1,e2⟩:=fence_get (show (s.ls.map fenceL)[q]? =some _ from List.getElem?_eq_getElem hq);have hwl:=hw.line l (List.mem_of_getElem? e1);have hpl:=List.length_pos_iff.2 hwl.ne;rw [e2]
      rcases hM q l e1 with h1|h1
      . unfold fenceL;split
        . have:=hwl.hi;simp only [List.length_drop];omega
        exact h1
      unfold fenceL
      rw [if_pos oqz]
      simp only [List.length_drop];omega
    unfold imgS;rw [b2]
    show img (s.ls.map fenceL)=_
    refine img_seen ?_;rw [List.map_map]
    exact List.map_congr_left λ l hl=>seen_fence (hw.line l hl)
  rw [hfl] at b2
  exact ⟨5,doneS (fenceS s),by rw [hfe,b1],.inr ⟨rfl,b2⟩⟩
theorem flF_via:∀ (k q:Nat) (s:DevS),flF k q s=if (flL k q s).1≠0 then flL k q s else fe (flL k q s).2
  |0,q,s=>by rw [flF_zero];rfl
  |k+1,q,s=>by
    have h1:flL (k+1) q s=if (fl1 ((q*64:Nat):Int) s).1≠0 then fl1 ((q*64:Nat):Int) s else flL k (q+1) (fl1 ((q*64:Nat):Int) s).2:=rfl
    show (if (fl1 ((q*64:Nat):Int) s).1≠0 then fl1 ((q*64:Nat):Int) s else flF k (q+1) (fl1 ((q*64:Nat):Int) s).2)=_
    rw [h1]
    by_cases h:(fl1 ((q*64:Nat):Int) s).1≠0
    . rw [if_pos h,if_pos h,if_pos h]
    rw [if_neg h,if_neg h];exact flF_via k (q+1) _
theorem last_loss2 {X:Nat->List Nat->Prop}{p m:Nat}{s:DevS}(hw:WfD s)(hO:s.off=false)(hP:Poss X s)(h1:1<=m)(hp:p+m<=s.ls.length*64)(hc:∀ (q:Nat) (l:LineS),(q+1)*64<=p∨p+m<=q*64->s.ls[q]? =some l->l.st.length=1∨l.mark=(l.st.length:Int)-1):
    ∃e s2,lastS p m s=(e,s2)/\ ((e=0/\ s2.off=false/\ WfD s2/\ Cln s2/\ s2.ls.length=s.ls.length/\ imgS s2=imgS s)∨(e=5/\ Lost X s.ls.length s2)):=by
  unfold lastS
  rw [flF_via]
  obtain ⟨e,s1,g1,g2⟩:=flL_loss (X:=X) ((p+m-1)/64-p/64+1) (p/64) s hw hO hP oqz;rw [g1]
  rcases g2 with ⟨rfl,a2,a3,a4⟩|⟨rfl,a2⟩
  . rw [if_neg (by simp)]
    have hget:∀ (j:Nat) (l':LineS),s1.ls[j]? =some l'->∃l:LineS,s.ls[j]? =some l/\ l'=if p/64<=j/\ j<p/64+((p+m-1)/64-p/64+1) then flushL l else l:=λ j l' hl=>by
      rw [a4] at hl;exact flsh_get hl
    have hln:s1.ls.length=s.ls.length:=(by rw [a4,flsh_len])
    obtain ⟨e,s2,k1,k2⟩:=fe_loss (X:=X) a3 a2 (poss_sub hP λ j l' hl=>by
      obtain ⟨l,e1,e2⟩:=hget j l' hl;refine ⟨l,e1,λ σ hσ=> ?_⟩
      rw [e2] at hσ;split at hσ<;>exact hσ) (λ j l' hl=>by
      obtain ⟨l,e1,e2⟩:=hget j l' hl
      by_cases hj:p/64<=j/\ j<p/64+((p+m-1)/64-p/64+1)
      . rw [if_pos hj] at e2;right;rw [e2];rfl
      rw [if_neg hj] at e2;rw [e2];exact hc j l oqz e1)
    rw [hln] at k2
    refine ⟨e,s2,k1, ?_⟩
    rcases k2 with ⟨c1,c2,c3,c4,c5,c6⟩|k2
    . exact .inl ⟨c1,c2,c3,c4,c5,by rw [c6];unfold imgS;rw [a4];exact img_seen (flsh_seen _ _ _)⟩
    exact .inr k2
  rw [if_pos (show (5:Int)≠0 by decide)]
  exact ⟨5,s1,rfl,.inr ⟨rfl,a2⟩⟩
def bodyX (at_ sz:Nat):Nat×List Nat:=(at_+64,List.replicate (sz-64) 0)
theorem bodyX_len {at_ sz:Nat}:(bodyX at_ sz).2.length=(sz-64):=by unfold bodyX;rw [List.length_replicate]
theorem bodyX_at {at_ sz:Nat}:(bodyX at_ sz).1=(at_+64):=rfl
theorem inX_body {at_ sz:Nat}(h64:64<=sz){L:List (Nat×List Nat)}{i:Nat}:InX (L++[bodyX at_ sz]) i↔InX L i∨((at_+64)<=i/\ i<(at_+sz)):=by
  constructor
  . rintro ⟨x,hx,h1,h2⟩
    rcases List.mem_append.1 hx with hx|hx
    . exact .inl ⟨x,hx,h1,h2⟩
    rw [List.mem_singleton.1 hx,bodyX_at] at h1
    rw [List.mem_singleton.1 hx,bodyX_at,bodyX_len] at h2
    exact .inr ⟨h1,by omega⟩
  rintro (⟨x,hx,h⟩|h)
  . exact ⟨x,List.mem_append_left _ hx,h⟩
  exact ⟨bodyX at_ sz,List.mem_append_right _ (List.mem_singleton.2 rfl),h.1,by rw [bodyX_at,bodyX_len];omega⟩
theorem as_mono {L L':List (Nat×List Nat)}{I:List Nat}{s:DevS}(h:AS L I s)(hs:∀i,InX L i->InX L' i):AS L' I s:=
  ⟨h.wf,h.len,poss_mono h.poss λ q c _ hc j hj hn=>hc j hj λ hi=>hn (hs _ hi),λ q l hq hl=>h.one q l (λ i hi=>hq i (hs i hi)) hl⟩
theorem as_cln2 {L:List (Nat×List Nat)}{I:List Nat}{s:DevS}(hw:WfD s)(hc:Cln s)(hI:I.length=s.ls.length*64)(h:∀i,¬InX L i->(imgS s)[i]? =I[i]?):AS L I s:=
  ⟨hw,hI,poss_cln hw hc λ q hq j hj hn=>by rw [chunk_at hj];exact h _ hn,λ q l _ hl=>hc l (List.mem_of_getElem? hl)⟩
theorem write_law {nl at_ sz:Nat}(hlw:LogW (nl*64) at_ sz)(htop:nl*64<=4194304){LF:List (Nat×List Nat)}{I0 M:List Nat}{l:List (Int×Int)}{s:DevS}(hA:AS LF I0 s)(hO:s.off=false)(hlen:s.ls.length=nl)(hM:imgS s=M)(hmk:∀i,InX LF i->Mkd (i/64) s)(hLF:∀i,InX LF i->(64<=i/\ i<at_)∨((at_+sz)<=i/\ i<(nl*64)))(h0:nm ((M.drop at_).take 8)=0)(hl:l.all (mayX (nl*64) at_ sz)=true)(hne:l≠[])(hN:needN l<=(sz-64))(hr:Room (needN l+1) s):
    ∃e s2,writeS at_ sz l s=(e,s2)/\ s2.ls.length=nl/\ ((e=0/\ s2.off=false/\ WfD s2/\ Cln s2/\ imgS s2=wrI at_ M l)∨(e=5/\ s2.off=true/\ (AS (LF++[bodyX at_ sz]) I0 s2∨(WfD s2/\ Cln s2/\ imgS s2=wrI at_ M l)))):=by
  have ⟨w1,w2,w3,w4,w5⟩:=hlw;have hw:=hA.wf;have hlw9:LogW (s.ls.length*64) at_ sz:=(by rw [hlen];exact hlw);have hil:M.length=(nl*64):=(by rw [←hM,imgS_len hw,hlen]);have hI0:I0.length=(nl*64):=(by rw [hA.len,hlen]);have hn64:s.ls.length*64=(nl*64):=(by rw [hlen]);have hwd:=word_in (s:=s) (p:=at_) hO oqz (by rw [hn64];omega);have hnd:=need_may (n:=(nl*64)) htop hl oqz;have hrl:=recsB_len hil hl;have hl1:1<=needN l:=Nat.le_trans (List.length_pos_iff.2 hne) (needN_ge l);have hllt:l.length<18446744073709551616:=Nat.lt_of_le_of_lt (needN_ge l) oqz;have hI1l:(wrI1 at_ M l).length=(nl*64):=(by unfold wrI1;rw [spl_length oqz,hil]);have hA2:=as_mono (L':=LF++[bodyX at_ sz]) hA λ i hi=>(inX_body oqz).2 (.inl hi)
  have hMI:∀i,¬InX (LF++[bodyX at_ sz]) i->M[i]? =I0[i]? :=λ i hi=>by rw [←hM];exact hA2.img hi
  have hXo:∀I:List Nat,I.length=s.ls.length*64->Out (at_+64) (at_+sz) I M->∀j,j<s.ls.length->XU (LF++[bodyX at_ sz]) I0 j (chunk j I):=λ I hI hout j hj t ht hn=>by
    rw [chunk_at ht,←hMI _ hn]
    exact hout _ λ h=>hn ((inX_body oqz).2 (.inr ⟨by omega,by omega⟩))
  obtain ⟨e1,s1,g1,g2⟩:=put_loss (X:=XU (LF++[bodyX at_ sz]) I0) (I0:=M) (at_:=at_) (sz:=sz) (l:=l) (q:=at_+64) (r:=1) (s:=s) hw hO hA2.poss hlw9 (by rw [hn64];exact hl) (Nat.le_refl _) oqz (room_le hr oqz) (by rw [hM];exact Out.refl _ _ _) (by rw [hn64];exact hil) hXo
  have hW:writeS at_ sz l s=if (putF (at_+64) l s).1≠0 then putF (at_+64) l s
      else if (rangeP ((at_+64:Nat):Int) (needN l:Nat) (putF (at_+64) l s).2).1≠0 then rangeP ((at_+64:Nat):Int) (needN l:Nat) (putF (at_+64) l s).2
      else pubP (at_:Nat) l.length (rangeP ((at_+64:Nat):Int) (needN l:Nat) (putF (at_+64) l s).2).2:=by
    unfold writeS
    rw [if_neg (by rw [hO];decide),hwd,hM,if_neg (by rw [h0];simp),if_neg (by rw [hn64,hl];decide),hnd,if_neg (by simp only [ne_eq,not_true,false_or];omega),if_neg hne]
  rw [hW,g1]
  simp only []
  rcases g2 with ⟨a1,a2,a3,a4,a5,a6,a7,a8⟩|⟨a1,a2⟩
  . subst a1;rw [if_neg (by simp)]
    have hrg:rangeP ((at_+64:Nat):Int) (needN l:Nat) s1=lastS (at_+64) (needN l) s1:=by
      unfold rangeP
      rw [if_neg (by rw [a2];decide),if_neg oqz,rdy_ok oqz oqz (by rw [a5];omega),if_neg (by decide),Int.toNat_natCast,Int.toNat_natCast]
    obtain ⟨e2,s2,k1,k2⟩:=last_loss2 (p:=at_+64) (m:=needN l) a3 a2 a4 hl1 (by rw [a5];omega) (λ q ln hq hln=>by
      rw [a6 q hq] at hln
      by_cases hU:∀i,InX LF i->i/64≠q
      . exact .inl (hA.one q ln hU hln)
      have:∃i,InX LF i/\ i/64=q:=by
        apply Classical.byContradiction
        intro hn;exact hU λ i hi he=>hn ⟨i,hi,he⟩
      obtain ⟨i,hi,rfl⟩:=this
      exact .inr (hmk i hi ln hln))
    have hrm2:Room 1 s2:=rangeP_room (p:=((at_+64:Nat):Int)) (m:=(needN l:Nat)) (by rw [hrg];exact k1) a3 a7;rw [hrg,k1]
    simp only []
    rw [a5] at k2
    rcases k2 with ⟨b1,b2,b3,b4,b5,b6⟩|⟨b1,b2⟩
    . subst b1;rw [if_neg (by simp)]
      have hi2:imgS s2=wrI1 at_ M l:=(by rw [b6,a8,hM];rfl)
      obtain ⟨e3,s3,c1,c2⟩:=pub_loss (X:=λ q c=>c=chunk q (wrI1 at_ M l)∨c=chunk q (wrI at_ M l)) (p:=at_) (v:=l.length) (s:=s2) b3 b2
        (poss_cln b3 b4 λ q hq=> .inl (by rw [hi2])) (λ q ln _ hln=>b4 ln (List.mem_of_getElem? hln)) oqz (by rw [b5];omega) hllt hrm2 (.inr (by rw [hi2];rfl))
      refine ⟨e3,s3,c1, ?_⟩;rw [b5] at c2
      rcases c2 with ⟨d1,d2,d3,d4,d5,d6⟩|⟨d1,d2,d3,d4,d5,d6⟩
      . exact ⟨by rw [d5,hlen],.inl ⟨d1,d2,d3,d4,by rw [d6,hi2];rfl⟩⟩
      refine ⟨by rw [d6,hlen],.inr ⟨d1,d2, ?_⟩⟩;have hil3:=imgS_len d3;have hI2l:(wrI at_ M l).length=(nl*64):=(by unfold wrI;rw [spl_length (by rw [le_length];omega),hI1l]);have hoth:∀q,q≠at_/64->chunk q (wrI at_ M l)=chunk q (wrI1 at_ M l):=λ q hq=>by unfold wrI;exact chunk_spl (by rw [le_length];omega) (by rw [le_length];omega)
      have hq:∀q,q<s.ls.length->chunk q (imgS s3)=chunk q (wrI1 at_ M l)∨chunk q (imgS s3)=chunk q (wrI at_ M l):=λ q hq=>poss_img d3 d5 (by rw [d6];exact hq)
      rcases hq (at_/64) oqz with h1|h1
      . left
        have e9:imgS s3=wrI1 at_ M l:=img_ext (n:=s.ls.length) (by rw [hil3,d6]) oqz λ q hql=>by
          by_cases e:q=at_/64
          . rw [e];exact h1
          rcases hq q hql with h2|h2
          . exact h2
          rw [h2,hoth q e]
        refine as_cln2 d3 d4 (by rw [d6];omega) λ i hi=> ?_
        rw [←hMI i hi,e9]
        exact (out_spl (a:=(at_+64)) (b:=(at_+sz)) oqz (Nat.le_refl _) oqz) i λ h=>hi ((inX_body oqz).2 (.inr h))
      right
      exact ⟨d3,d4,img_ext (n:=s.ls.length) (by rw [hil3,d6]) oqz λ q hql=>by
        by_cases e:q=at_/64
        . rw [e];exact h1
        rcases hq q hql with h2|h2
        . rw [h2,hoth q e]
        exact h2⟩
    subst b1;rw [if_pos (show (5:Int)≠0 by decide)]
    exact ⟨5,s2,rfl,by rw [b2.2.2.2.2,hlen],.inr ⟨rfl,b2.1,.inl (as_lost b2 (by rw [hlen];exact hI0))⟩⟩
  subst a1;rw [if_pos (show (5:Int)≠0 by decide)]
  exact ⟨5,s1,rfl,by rw [a2.2.2.2.2,hlen],.inr ⟨rfl,a2.1,.inl (as_lost a2 (by rw [hlen];exact hI0))⟩⟩
variable {nl at_ sz:Nat}
theorem clear_law (hlw:LogW (nl*64) at_ sz){K:List Nat}{s:DevS}(hw:WfD s)(hO:s.off=false)(hc:Cln s)(hlen:s.ls.length=nl)(hK:imgS s=K):
    ∃e s2,clearS at_ s=(e,s2)/\ s2.ls.length=nl/\ WfD s2/\ Cln s2/\ ((e=0/\ s2.off=false/\ imgS s2=spl K at_ (le 8 0))∨(e=5/\ s2.off=true/\ (imgS s2=K∨imgS s2=spl K at_ (le 8 0)))):=by
  have ⟨w1,w2,w3,w4,w5⟩:=hlw;have hil:K.length=(nl*64):=(by rw [←hK,imgS_len hw,hlen])
  obtain ⟨e,s2,g1,g2⟩:=pub_loss (X:=λ q c=>c=chunk q K∨c=chunk q (spl K at_ (le 8 0))) (p:=at_) (v:=0) (s:=s) hw hO
    (poss_cln hw hc λ q hq=> .inl (by rw [hK])) (λ q ln _ hln=>hc ln (List.mem_of_getElem? hln)) oqz (by rw [hlen];omega) (by decide) (room_cln hc (by decide)) (.inr (by rw [hK]))
  refine ⟨e,s2,by unfold clearS;rw [if_neg (by rw [hO];decide)];exact g1, ?_⟩
  rcases g2 with ⟨d1,d2,d3,d4,d5,d6⟩|⟨d1,d2,d3,d4,d5,d6⟩
  . exact ⟨by rw [d5,hlen],d3,d4,.inl ⟨d1,d2,by rw [d6,hK]⟩⟩
  refine ⟨by rw [d6,hlen],d3,d4,.inr ⟨d1,d2, ?_⟩⟩;have hil3:=imgS_len d3;have hJl:(spl K at_ (le 8 0)).length=(nl*64):=(by rw [spl_length (by rw [le_length];omega),hil]);have hoth:∀q,q≠at_/64->chunk q (spl K at_ (le 8 0))=chunk q K:=λ q hq=>chunk_spl (by rw [le_length];omega) (by rw [le_length];omega)
  have hq:∀q,q<s.ls.length->chunk q (imgS s2)=chunk q K∨chunk q (imgS s2)=chunk q (spl K at_ (le 8 0)):=λ q hq=>poss_img d3 d5 (by rw [d6];exact hq)
  rcases hq (at_/64) oqz with h1|h1
  . exact .inl (img_ext (n:=s.ls.length) (by rw [hil3,d6]) oqz λ q hql=>by
      by_cases e:q=at_/64
      . rw [e];exact h1
      rcases hq q hql with h2|h2
      . exact h2
      rw [h2,hoth q e])
  exact .inr (img_ext (n:=s.ls.length) (by rw [hil3,d6]) oqz λ q hql=>by
    by_cases e:q=at_/64
    . rw [e];exact h1
    rcases hq q hql with h2|h2
    . rw [h2,hoth q e]
    exact h2)
theorem stoI_len:∀{R:List (Nat×List Nat)} {I:List Nat} {n:Nat},I.length=n->(∀r∈R,r.1+r.2.length<=n)->(stoI R I).length=n
  |[],_,_,h,_=>h
  |r::R,I,n,h,hR=>stoI_len (R:=R) (by rw [spl_length (by have:=hR r (by simp);omega),h]) λ x hx=>hR x (List.mem_cons_of_mem _ hx)
theorem stoI_out:∀{R:List (Nat×List Nat)} {I:List Nat} {n i:Nat},I.length=n->(∀r∈R,r.1+r.2.length<=n)->¬InX R i->(stoI R I)[i]? =I[i]?
  |[],_,_,_,_,_,_=>rfl
  |r::R,I,n,i,h,hR,hi=>by
    have hr:=hR r (by simp);have h1:=stoI_out (R:=R) (I:=spl I r.1 r.2) (n:=n) (i:=i) (by rw [spl_length oqz,h]) (λ x hx=>hR x (List.mem_cons_of_mem _ hx)) λ ⟨x,hx,h2⟩=>hi ⟨x,List.mem_cons_of_mem _ hx,h2⟩
    show (stoI R (spl I r.1 r.2))[i]? =_
    rw [h1,spl_at oqz,if_neg λ hc=>hi ⟨r,by simp,hc⟩]
theorem stoI_in {B:Nat->Nat}:∀{R:List (Nat×List Nat)} {I:List Nat} {n i:Nat},I.length=n->(∀r∈R,r.1+r.2.length<=n/\∀j,j<r.2.length->r.2[j]? =some (B (r.1+j)))->InX R i->(stoI R I)[i]? =some (B i)
  |[],_,_,_,_,_,h=>by obtain ⟨x,hx,_⟩:=h;cases hx
  |r::R,I,n,i,h,hR,hi=>by
    obtain ⟨hr1,hr2⟩:=hR r (by simp)
    show (stoI R (spl I r.1 r.2))[i]? =_
    have hlen:(spl I r.1 r.2).length=n:=(by rw [spl_length oqz,h])
    by_cases hin:InX R i
    . exact stoI_in (R:=R) hlen (λ x hx=>hR x (List.mem_cons_of_mem _ hx)) hin
    rw [stoI_out hlen (λ x hx=>(hR x (List.mem_cons_of_mem _ hx)).1) hin,spl_at oqz]
    obtain ⟨x,hx,h1,h2⟩:=hi
    rcases List.mem_cons.1 hx with rfl|hx
    . rw [if_pos ⟨h1,h2⟩]
      have:=hr2 (i-x.1) oqz;rw [this];congr 2;omega
    exact absurd ⟨x,hx,h1,h2⟩ hin
structure RnOk (nl at_ sz:Nat) (R:List (Nat×List Nat)):Prop where
  gap:R.Pairwise λ r s=>r.1+r.2.length<s.1
  ok:∀r∈R,1<=r.2.length/\ (∀b∈r.2,b<256)/\ ((64<=r.1/\ r.1+r.2.length<=at_/\ r.1+r.2.length<=nl*64)∨(64<=r.1/\ at_+sz<=r.1/\ r.1+r.2.length<=(nl*64)))
theorem RnOk.top {R:List (Nat×List Nat)}(h:RnOk nl at_ sz R):∀r∈R,r.1+r.2.length<=(nl*64):=λ r hr=>by
  rcases (h.ok r hr).2.2 with h|h<;>omega
theorem RnOk.inx {R:List (Nat×List Nat)}(h:RnOk nl at_ sz R){i:Nat}(hi:InX R i):(64<=i/\ i<at_)∨((at_+sz)<=i/\ i<(nl*64)):=by
  obtain ⟨r,hr,h1,h2⟩:=hi
  rcases (h.ok r hr).2.2 with h|h<;>omega
theorem RnOk.may {R:List (Nat×List Nat)}(h:RnOk nl at_ sz R):(extX R).all (mayX (nl*64) at_ sz)=true:=List.all_eq_true.2 λ x hx=>by
  obtain ⟨r,hr,rfl⟩:=List.mem_map.1 hx;obtain ⟨h1,_,h3⟩:=h.ok r hr;refine decide_eq_true ⟨by show (1:Int)<=(r.2.length:Int);omega,by show (64:Int)<=(r.1:Int);omega,by show (r.1:Int)+(r.2.length:Int)<=_;omega, ?_⟩
  show (r.1:Int)+(r.2.length:Int)<=_∨_<=(r.1:Int)
  omega
theorem inX_oldsR {M:List Nat}{R:List (Nat×List Nat)}(h:RnOk nl at_ sz R)(hM:M.length=(nl*64)){i:Nat}:InX (oldsL M (extX R)) i↔InX R i:=by
  have hol:∀r∈R,((M.drop r.1).take r.2.length).length=r.2.length:=λ r hr=>by
    have:=h.top r hr;rw [List.length_take,List.length_drop];omega
  constructor
  . rintro ⟨x,hx,h1,h2⟩;obtain ⟨y,hy,rfl⟩:=olds_mem hx;obtain ⟨r,hr,rfl⟩:=List.mem_map.1 hy
    simp only [Int.toNat_natCast] at h1 h2
    rw [hol r hr] at h2
    exact ⟨r,hr,h1,h2⟩
  rintro ⟨r,hr,h1,h2⟩;refine ⟨(r.1,(M.drop r.1).take r.2.length),List.mem_map.2 ⟨((r.1:Int),(r.2.length:Int)),List.mem_map.2 ⟨r,hr,rfl⟩,by simp only [Int.toNat_natCast]⟩,h1, ?_⟩
  show i<r.1+((M.drop r.1).take r.2.length).length
  rw [hol r hr];exact h2
theorem img_byM {s:DevS}(hw:WfD s)(hlen:s.ls.length=nl):ByM nl (imgS s):=⟨by rw [imgS_len hw,hlen],λ x hx=>img_lt x hx⟩
theorem wr_logM (hlw:LogW (nl*64) at_ sz)(htop:nl*64<=4194304){M:List Nat}{l:List (Int×Int)}(hM:ByM nl M)(hl:l.all (mayX (nl*64) at_ sz)=true)(hN:needN l<=(sz-64)):LogM nl at_ M sz l (wrI at_ M l):=by
  have ⟨w1,w2,w3,w4,w5⟩:=hlw;have hml:=hM.len;have hrl:=recsB_len hml hl;have h1l:(wrI1 at_ M l).length=(nl*64):=(by unfold wrI1;rw [spl_length oqz,hml]);have h2l:(wrI at_ M l).length=(nl*64):=(by unfold wrI;rw [spl_length (by rw [le_length];omega),h1l]);have hll:l.length<18446744073709551616:=Nat.lt_of_le_of_lt (needN_ge l) oqz;refine ⟨?_, ?_,h2l, ?_⟩
  . have:=spl_mid (l:=wrI1 at_ M l) (b:=le 8 l.length) (p:=at_) (by rw [le_length];omega);rw [le_length] at this
    unfold wrI;rw [this,nm_le]
    exact Nat.mod_eq_of_lt (by have : (256 : Nat) ^ 8 = 18446744073709551616 := by decide
                               omega)
  . unfold wrI
    rw [spl_drop_ge (by rw [le_length];omega) (by rw [le_length];omega)]
    have:=spl_mid (l:=M) (b:=recsB M l) (p:=(at_+64)) oqz;rw [hrl] at this;exact this
  have h1l2:(spl M (at_+64) (recsB M l)).length=(nl*64):=h1l
  unfold wrI wrI1
  exact (out_spl (by rw [le_length];omega) (Nat.le_refl _) (by rw [le_length];omega)).trans (out_spl oqz oqz oqz)
end Go.Vl

namespace Go.Vl
open Go Go.Proofs Go.Proofs.Tryz
structure ComK where
  nl:Nat
  at_:Nat
  sz:Nat
  F:List (Nat×List Nat)
  L:List (Nat×List Nat)
  I:List Nat
def ComK.M (c:ComK):List Nat:=stoI c.F c.I
def ComK.J (c:ComK):List Nat:=wrI c.at_ c.M (extX c.L)
def ComK.K (c:ComK):List Nat:=stoI c.L c.J
def ComK.E (c:ComK):List Nat:=if c.L=[] then c.M else spl c.K c.at_ (le 8 0)
structure ComOk (c:ComK):Prop where
  w:LogW (c.nl*64) c.at_ c.sz
  top:c.nl*64<=4194304
  f:RnOk c.nl c.at_ c.sz c.F
  l:RnOk c.nl c.at_ c.sz c.L
  i:ByM c.nl c.I
  dis:∀i,InX c.F i->¬InX c.L i
  need:needN (extX c.L)<=(c.sz-64)
  hd:(c.I.drop c.at_).take 8=List.replicate 8 0
theorem ComOk.mlen {c:ComK}(h:ComOk c):c.M.length=(c.nl*64):=stoI_len h.i.len h.f.top
theorem ComOk.mhd {c:ComK}(h:ComOk c):nm ((c.M.drop c.at_).take 8)=0:=by
  have ⟨w1,w2,w3,w4,w5⟩:=h.w
  have e:(c.M.drop c.at_).take 8=(c.I.drop c.at_).take 8:=by
    apply List.ext_getElem?
    intro i;rw [List.getElem?_take,List.getElem?_take]
    split
    . rw [List.getElem?_drop,List.getElem?_drop]
      exact stoI_out h.i.len h.f.top λ hi=>by have:=h.f.inx hi;omega
    rfl
  rw [e,h.hd];decide
def Old0 (c:ComK)(s:DevS):Prop:=AS (c.F++[bodyX c.at_ c.sz]) c.I s/\ s.ls.length=c.nl
def Mid0 (c:ComK)(s:DevS):Prop:=c.L≠[]/\ ByM c.nl c.M/\ AS (oldsL c.M (extX c.L)) c.J s/\ s.ls.length=c.nl
def New0 (c:ComK)(s:DevS):Prop:=WfD s/\ Cln s/\ s.ls.length=c.nl/\ imgS s=c.E
theorem old_of {c:ComK}{s:DevS}(hc:ComOk c)(h:AS c.F c.I s)(hl:s.ls.length=c.nl):Old0 c s:=⟨as_mono h λ i hi=>(inX_body (by have:=hc.w.s;omega)).2 (.inl hi),hl⟩
theorem com_law {c:ComK}{f:TF}{s:DevS}(hc:ComOk c)(hF:runsF (c.nl*64) true f=c.F)(hL:runsF (c.nl*64) false f=c.L)(hw:WfD s)(hO:s.off=false)(hcl:Cln s)(hlen:s.ls.length=c.nl)(hi:imgS s=c.I)(hsf:sumL c.F<=4194304)(hsl:sumL c.L<=4194304):
    ∃e s2,comS c.at_ c.sz (c.nl*64) f s=((e,true),s2)/\ ((e=0/\ s2.off=false/\ New0 c s2)∨(e=5/\ s2.off=true/\ (Old0 c s2∨Mid0 c s2∨New0 c s2))):=by
  have ⟨w1,w2,w3,w4,w5⟩:=hc.w;have hn64:s.ls.length*64=(c.nl*64):=(by rw [hlen]);have hA:AS c.F c.I s:=as_cln hw hcl hi;obtain ⟨e1,s1,g1,g2,g3,g4⟩:=writeT_law (k:=needN (extX c.L)+1) (R:=c.F) hA hO hc.f.gap (λ r hr=>⟨(hc.f.ok r hr).1,by rw [hn64];exact hc.f.top r hr,(hc.f.ok r hr).2.1,λ i h1 h2=>⟨r,hr,h1,h2⟩⟩) (room_cln hcl (by have:=hc.need;have:=hc.top;omega));rw [←hF] at g1
  rcases g4 with ⟨rfl,a2,a3,a4,a5⟩|⟨rfl,a2⟩
  . have hM:imgS s1=c.M:=(by rw [a4,hi];rfl)
    by_cases hl0:c.L=[]
    . by_cases hf0:c.F=[]
      . refine ⟨0,s1,com_00 g1 (hL.trans hl0) (hF.trans hf0),.inl ⟨rfl,a2,g3.wf,λ l hl=> ?_,g2.trans hlen, ?_⟩⟩
        . obtain ⟨q,hq,rfl⟩:=List.mem_iff_getElem.1 hl;exact g3.one q _ (λ i hi9=>by rw [hf0] at hi9;obtain ⟨x,hx,_⟩:=hi9;cases hx) (List.getElem?_eq_getElem hq)
        unfold ComK.E;rw [if_pos hl0];exact hM
      obtain ⟨e2,s2,k1,k2,k3⟩:=fe_law g3 a2 a5;refine ⟨e2,s2,com_0f g1 (hL.trans hl0) (by rw [hF];exact hf0) k1, ?_⟩
      rcases k3 with ⟨b1,b2,b3,b4,b5⟩|⟨b1,b2,b3⟩
      . exact .inl ⟨b1,b2,b3,b4,k2.trans (g2.trans hlen),by unfold ComK.E;rw [if_pos hl0,b5];exact hM⟩
      exact .inr ⟨b1,b2,.inl (old_of hc b3 (k2.trans (g2.trans hlen)))⟩
    have hne:extX c.L≠[]:=λ e=>hl0 (List.eq_nil_of_length_eq_zero (by rw [←ext_len,e];rfl))
    have hbM:ByM c.nl c.M:=hM▸img_byM g3.wf (g2.trans hlen)
    have hJ:LogM c.nl c.at_ c.M c.sz (extX c.L) c.J:=wr_logM hc.w hc.top hbM hc.l.may hc.need;obtain ⟨e2,s2,k1,k2,k3⟩:=write_law hc.w hc.top g3 a2 (g2.trans hlen) hM a5 (λ i h=>hc.f.inx h) hc.mhd hc.l.may hne hc.need a3;rw [←hL] at k1
    have hLne:runsF (c.nl*64) false f≠[]:=(by rw [hL];exact hl0)
    rcases k3 with ⟨rfl,b2,b3,b4,b5⟩|⟨rfl,b2,b3⟩
    . have hA2:AS (oldsL c.M (extX c.L)) c.J s2:=as_cln b3 b4 b5;have hn2:s2.ls.length*64=(c.nl*64):=(by rw [k2]);obtain ⟨e3,s3,m1,m2,m3,m4⟩:=writeT_law (k:=1) (R:=c.L) hA2 b2 hc.l.gap (λ r hr=>⟨(hc.l.ok r hr).1,by rw [hn2];exact hc.l.top r hr,(hc.l.ok r hr).2.1,λ i h1 h2=>(inX_oldsR hc.l hbM.len).2 ⟨r,hr,h1,h2⟩⟩) (room_cln b4 oqz);rw [←hL] at m1
      rcases m4 with ⟨rfl,c2,c3,c4,c5⟩|⟨rfl,c2⟩
      . have hK:imgS s3=c.K:=(by rw [c4,b5];rfl);obtain ⟨e4,s4,n1,n2,n3⟩:=fe_law m3 c2 λ i hi9=>c5 i ((inX_oldsR hc.l hbM.len).1 hi9)
        rcases n3 with ⟨rfl,d2,d3,d4,d5⟩|⟨rfl,d2,d3⟩
        . obtain ⟨e5,s5,p1,p2,p3,p4,p5⟩:=clear_law hc.w d3 d2 d4 (n2.trans (m2.trans k2)) (d5.trans hK);refine ⟨e5,s5,com_cl g1 hLne k1 m1 n1 p1, ?_⟩
          rcases p5 with ⟨q1,q2,q3⟩|⟨q1,q2,q3⟩
          . exact .inl ⟨q1,q2,p3,p4,p2,by unfold ComK.E;rw [if_neg hl0];exact q3⟩
          refine .inr ⟨q1,q2, ?_⟩
          rcases q3 with q3|q3
          . refine .inr (.inl ⟨hl0,hbM,as_cln2 p3 p4 (by rw [p2];exact hJ.2.2.1) λ i hi9=> ?_,p2⟩);rw [q3]
            exact stoI_out hJ.2.2.1 hc.l.top λ h9=>hi9 ((inX_oldsR hc.l hbM.len).2 h9)
          exact .inr (.inr ⟨p3,p4,p2,by unfold ComK.E;rw [if_neg hl0];exact q3⟩)
        exact ⟨5,s4,com_fe g1 hLne k1 m1 n1 (by decide),.inr ⟨rfl,d2,.inr (.inl ⟨hl0,hbM,d3,n2.trans (m2.trans k2)⟩)⟩⟩
      exact ⟨5,s3,com_w2 g1 hLne k1 m1 (by decide),.inr ⟨rfl,c2,.inr (.inl ⟨hl0,hbM,m3,m2.trans k2⟩)⟩⟩
    have h5:=com_lw (at_:=c.at_) (sz:=c.sz) g1 hLne k1 (show (5:Int)≠0 by decide);refine ⟨5,s2,by rw [h5];rfl,.inr ⟨rfl,b2, ?_⟩⟩
    rcases b3 with b3|⟨b3,b4,b5⟩
    . exact .inl ⟨b3,k2⟩
    exact .inr (.inl ⟨hl0,hbM,as_cln b3 b4 b5,k2⟩)
  exact ⟨5,s1,com_w1 g1 (by decide),.inr ⟨rfl,a2,.inl (old_of hc g3 (g2.trans hlen))⟩⟩
def Rol0 (c:ComK)(s:DevS):Prop:=c.L≠[]/\ ByM c.nl c.M/\ WfD s/\ Cln s/\ s.ls.length=c.nl/\ imgS s=spl c.J c.at_ (le 8 0)
def Set9 (c:ComK)(s:DevS):Prop:=Old0 c s∨New0 c s∨Rol0 c s
def Rec9 (c:ComK)(s:DevS):Prop:=Mid0 c s∨Set9 c s
theorem hd_spl {nl at_ sz:Nat}(hlw:LogW (nl*64) at_ sz){K:List Nat}(h:K.length=nl*64):nm (((spl K at_ (le 8 0)).drop at_).take 8)=0:=by
  have ⟨w1,w2,w3,w4,w5⟩:=hlw;have:=spl_mid (l:=K) (b:=le 8 0) (p:=at_) (by rw [le_length];omega);rw [le_length] at this
  rw [this];decide
theorem ComOk.jlen {c:ComK}(h:ComOk c)(hM:ByM c.nl c.M):LogM c.nl c.at_ c.M c.sz (extX c.L) c.J:=wr_logM h.w h.top hM h.l.may h.need
theorem new_hd {c:ComK}{s:DevS}(h:ComOk c)(hn:New0 c s):nm (((imgS s).drop c.at_).take 8)=0:=by
  have ⟨w1,w2,w3,w4,w5⟩:=h.w;obtain ⟨h1,h2,h3,h4⟩:=hn;rw [h4]
  unfold ComK.E
  split
  . exact h.mhd
  have hl:(spl c.K c.at_ (le 8 0)).length=c.K.length∨True:= .inr trivial;have hKl:c.K.length=(c.nl*64):=stoI_len (by unfold ComK.J wrI wrI1;rw [spl_length,spl_length];exact h.mlen;(rw [recsB_len h.mlen h.l.may,h.mlen];have:=h.need;have:=h.top;omega);(rw [spl_length,le_length,h.mlen];omega;(rw [recsB_len h.mlen h.l.may,h.mlen];have:=h.need;have:=h.top;omega))) h.l.top;exact hd_spl h.w hKl
theorem set_none {c:ComK}{s:DevS}(h:ComOk c)(hs:Set9 c s)(hO:s.off=false):s.ls.length=c.nl/\ recordsS c.at_ c.sz s=([],0):=by
  have ⟨w1,w2,w3,w4,w5⟩:=h.w;have key:s.ls.length=c.nl->nm (((imgS s).drop c.at_).take 8)=0->s.ls.length=c.nl/\ recordsS c.at_ c.sz s=([],0):=λ hl h0=>⟨hl,records_none hO (by rw [hl];exact h.w) h0⟩
  rcases hs with ⟨hA,hl⟩|hn|⟨_,hM,_,_,hl,hi⟩
  . refine key hl ?_;rw [hA.sub (λ i h1 h2 hi=>by rcases (inX_body oqz).1 hi with h9|h9;(have:=h.f.inx h9;omega);omega),h.hd];decide
  . exact key hn.2.2.1 (new_hd h hn)
  exact key hl (by rw [hi];exact hd_spl h.w (h.jlen hM).2.2.1)
theorem roll_law {c:ComK}{s:DevS}{k:Nat}(h:ComOk c)(hs:Rec9 c s)(hO:s.off=false)(hg:Gd c.nl (c.sz+1+k) s):
    ∃q e s2,rollS c.at_ c.sz s=((q,e),s2)/\ Gd c.nl k s2/\ s2.arms.length<=s.arms.length/\ (New0 c s->New0 c s2)/\ ((e=0/\ s2.off=false/\ Set9 c s2)∨(e=5/\ s2.off=true/\ Rec9 c s2/\ s2.arms.length<s.arms.length)):=by
  have ⟨w1,w2,w3,w4,w5⟩:=h.w
  have hset:Set9 c s->∃q e s2,rollS c.at_ c.sz s=((q,e),s2)/\ Gd c.nl k s2/\ s2.arms.length<=s.arms.length/\ (New0 c s->New0 c s2)/\ ((e=0/\ s2.off=false/\ Set9 c s2)∨(e=5/\ s2.off=true/\ Rec9 c s2/\ s2.arms.length<s.arms.length)):=λ hs=>
    ⟨0,0,s,roll_no (set_none h hs hO).2 (.inr rfl),hg.le oqz,Nat.le_refl _,id,.inl ⟨rfl,hO,hs⟩⟩
  by_cases hN:New0 c s
  . exact hset (.inr (.inl hN))
  rcases hs with ⟨hne,hM,hA,hl⟩|hs
  . have hnx:extX c.L≠[]:=λ e=>hne (List.eq_nil_of_length_eq_zero (by rw [←ext_len,e];rfl))
    have hph:=rollS_phi c.at_ c.sz s;obtain ⟨q,e,s2,g1,g2,g3⟩:=as_rollM hM h.w h.l.may h.need hnx (h.jlen hM) hA hO hl (room_le hg.room (by have:=h.need;have:=h.top;omega));have hgd:=gd_roll (n:=c.nl) (k:=k) (at_:=c.at_) (sz:=c.sz) (hg.le oqz) (by rw [hl];exact h.w);rw [g1] at hph hgd
    have harm:s2.arms.length<=s.arms.length/\ (s2.off=true->s2.arms.length<s.arms.length):=by
      unfold phi at hph
      rw [hO] at hph
      simp only [Bool.false_eq_true,if_false] at hph
      constructor
      . split at hph<;>omega
      intro h9;rw [if_pos h9] at hph;omega
    refine ⟨q,e,s2,g1,hgd,harm.1,λ h9=>absurd h9 hN, ?_⟩
    rcases g3 with ⟨a1,a2,a3,a4,a5,a6⟩|⟨a1,a2,a3⟩
    . exact .inl ⟨a1,a3,.inr (.inr ⟨hne,hM,a4,a5,g2,a6⟩)⟩
    refine .inr ⟨a1,a2, ?_,harm.2 a2⟩
    rcases a3 with ⟨a4,a5⟩|⟨a4,a5,a6⟩
    . exact .inl ⟨hne,hM,a4,g2⟩
    exact .inr (.inr (.inr ⟨hne,hM,a4,a5,g2,a6⟩))
  exact hset hs
theorem as_eqv {L:List (Nat×List Nat)}{I:List Nat}{s s2:DevS}(h:AS L I s)(hw:WfD s2)(e:s2.ls=s.ls):AS L I s2:=⟨hw,by rw [e];exact h.len,λ q l hl=>h.poss q l (by rw [←e];exact hl),λ q l hq hl=>h.one q l hq (by rw [←e];exact hl)⟩
theorem new_eqv {c:ComK}{s s2:DevS}(h:New0 c s)(hw:WfD s2)(e:s2.ls=s.ls):New0 c s2:=⟨hw,λ l hl=>h.2.1 l (by rw [←e];exact hl),by rw [e];exact h.2.2.1,by unfold imgS;rw [e];exact h.2.2.2⟩
theorem set_eqv {c:ComK}{s s2:DevS}(h:Set9 c s)(hw:WfD s2)(e:s2.ls=s.ls):Set9 c s2:=by
  rcases h with ⟨h1,h2⟩|h|⟨h1,h2,h3,h4,h5,h6⟩
  . exact .inl ⟨as_eqv h1 hw e,by rw [e];exact h2⟩
  . exact .inr (.inl (new_eqv h hw e))
  exact .inr (.inr ⟨h1,h2,hw,λ l hl=>h4 l (by rw [←e];exact hl),by rw [e];exact h5,by unfold imgS;rw [e];exact h6⟩)
theorem rec_eqv {c:ComK}{s s2:DevS}(h:Rec9 c s)(hw:WfD s2)(e:s2.ls=s.ls):Rec9 c s2:=by
  rcases h with ⟨h1,h2,h3,h4⟩|h
  . exact .inl ⟨h1,h2,as_eqv h3 hw e,by rw [e];exact h4⟩
  exact .inr (set_eqv h hw e)
theorem as_goes {L:List (Nat×List Nat)}{I:List Nat}{s:DevS}{kp:List Int}(h:AS L I s):AS L I (goesS kp s):=⟨goesS_wf h.wf,by rw [goes_len];exact h.len,goes_poss h.wf h.poss,λ q l _ hl=>goes_cln h.wf l (List.mem_of_getElem? hl)⟩
theorem new_goes {c:ComK}{s:DevS}{kp:List Int}(h:New0 c s):New0 c (goesS kp s):=⟨goesS_wf h.1,goes_cln h.1,by rw [goes_len];exact h.2.2.1,by rw [goes_single h.2.1];exact h.2.2.2⟩
theorem set_goes {c:ComK}{s:DevS}{kp:List Int}(h:Set9 c s):Set9 c (goesS kp s):=by
  rcases h with ⟨h1,h2⟩|h|⟨h1,h2,h3,h4,h5,h6⟩
  . exact .inl ⟨as_goes h1,by rw [goes_len];exact h2⟩
  . exact .inr (.inl (new_goes h))
  exact .inr (.inr ⟨h1,h2,goesS_wf h3,goes_cln h3,by rw [goes_len];exact h5,by rw [goes_single h4];exact h6⟩)
theorem Fn.weak {P:Program}{f:FuncId}{args:Array Value}{A:SP}{Q Q':Value->SP->Prop}(h:Fn P f args A Q)(k:∀v B,Q v B->∃B',(∀g w,sat g w B->sat g w B')/\ Q' v B'):Fn P f args A Q':=λ g w hs=>(h g w hs).mono λ _ _ ⟨v,B,e,q,s⟩=>
  let ⟨B',k1,k2⟩:=k v B q
  ⟨v,B',e,k2,k1 _ _ s⟩
def TxR (t q r lg la lz:Nat)(f:TF)(s:DevS):SP:=λ h=>∃a m c vs D,vs.length=m/\ D.length=m/\ LnOk s.ls.length D f/\ (pt q (cl [pz r,pz lg,((pz t))] 177)*pt lg (cl [pz r,vn la,vn lz] 208)*RDev r s*pt t (cl [pz q,.slice a m c,.bool false] 219)*Sl 1 (.slice a m c) m (ptrV vs)*RLines vs D f) h
def TxE (t q r lg la lz:Nat)(s:DevS):SP:=(pt q (cl [pz r,pz lg,.pointer none] 177))*(pt lg (cl [pz r,vn la,vn lz] 208))*RDev r s*(pt t (cl [pz q,.slice none 0 0,.bool true] 219))
theorem com_gd {la lz k:Nat}{f:TF}{s s2:DevS}{e:Int}{b:Bool}(hg:Gd s.ls.length (2*(s.ls.length*64)+lz+8+k) s)(hby:∀a c,f a=some c->c.1<256)(htop:s.ls.length*64<=4194304)(hc:comS la lz (s.ls.length*64) f s=((e,b),s2)):Gd s.ls.length k s2:=by
  have hPF:=runP_Fb (n:=s.ls.length*64) (k:=true) hby;have hPL:=runP_Fb (n:=s.ls.length*64) (k:=false) hby;have haf:=adr_len (s.ls.length*64) true f;have hal:=adr_len (s.ls.length*64) false f;have hfs:=hPF.sum;have hls:=hPL.sum;have hll:=hPL.len;obtain ⟨LF,hLF⟩:∃L,runsF (s.ls.length*64) true f=L:=⟨_,rfl⟩;obtain ⟨LL,hLL⟩:∃L,runsF (s.ls.length*64) false f=L:=⟨_,rfl⟩;rw [hLF] at hPF hfs
  rw [hLL] at hPL hls hll
  have g1:Gd s.ls.length (s.ls.length*64+lz+8+k) (writeT LF s).2:=gd_writeT (e:=(writeT LF s).1) rfl hPF.ok (hg.le oqz);have g2:Gd s.ls.length (s.ls.length*64+4+k) (writeS la lz (extX LL) (writeT LF s).2).2:=gd_write (g1.le oqz) (by rw [ext_len];omega);have g3:Gd s.ls.length (4+k) (writeT LL (writeS la lz (extX LL) (writeT LF s).2).2).2:=gd_writeT (e:=(writeT LL (writeS la lz (extX LL) (writeT LF s).2).2).1) rfl hPL.ok (g2.le oqz);have g4:=gd_fe g3;have g5:Gd s.ls.length k (clearS la (fe (writeT LL (writeS la lz (extX LL) (writeT LF s).2).2).2).2).2:=gd_clear (g4.le oqz);have g1f:=gd_fe g1
  unfold comS at hc
  rw [hLF,hLL] at hc
  split at hc
  . obtain rfl:=(Prod.mk.inj hc).2;exact g1.le oqz
  split at hc
  . split at hc
    . obtain rfl:=(Prod.mk.inj hc).2;exact g1.le oqz
    obtain rfl:=(Prod.mk.inj hc).2;exact g1f.le oqz
  split at hc
  . obtain rfl:=(Prod.mk.inj hc).2;exact g2.le oqz
  split at hc
  . obtain rfl:=(Prod.mk.inj hc).2;exact g3.le oqz
  split at hc
  . obtain rfl:=(Prod.mk.inj hc).2;exact g4.le oqz
  obtain rfl:=(Prod.mk.inj hc).2;exact g5
end Go.Vl

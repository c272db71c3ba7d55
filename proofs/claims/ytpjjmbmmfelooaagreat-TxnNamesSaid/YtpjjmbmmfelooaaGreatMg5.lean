/- What the row rests on, part 5: a calculus of assertions, walks of functions over it, and plain laws. Conditions: none. -/
import Derived.Deep.QuietTactic
import Derived.BigQuiet
import Derived.WalkKit
import Derived.Test.YtpjjmbmmfelooaaGreatProg
import Derived.OrdersHeld
import Derived.Shelf.SortM.SortNone
import Derived.Shelf.SortM.Plain
import Derived.Ground.SlgmProg
import Derived.Shelf.SlIterI.Nil
import Derived.Ground.GgzProg
import Derived.Maps.RangeRun
import Derived.Laws.BytesArg
import Derived.RangeFuncRecord
import Derived.TacticsIn
import Derived.Deep.Slices
import Derived.OpenShut
import Derived.ChangeArms
import Derived.SizedLaws
import Derived.ChangeSame
import Derived.Test.YtpjjmbmmfelooaaGreatRows
import Derived.Sort.QuietThIn
import Derived.ScopeJumps
import Derived.LaidEqlPtr
import Derived.Lib.Builder
import Derived.Lib.UnsafeStr
import Derived.Laws.Strings
import Derived.Test.YtpjjmbmmfelooaaGreatMg4
set_option linter.unusedVariables false
set_option linter.unusedSimpArgs false
set_option maxRecDepth 100000
set_option maxHeartbeats 4000000
namespace Go.Vl
open Go Go.Proofs Go.Proofs.Tryz
def TxA (t p lg d mb at_ sz:Nat)(M:MS)(over:Bool)(s:DevS):SP:=pt p (cl (pocs lg d (if over then none else some t)) 110)*pt lg (cl (lcs11 d at_ sz) 99)*Dev d s*pt t (cl (txcs p mb over) 113)*pt mb (mpo .i64 M)
def cel0 (c:Nat×Bool):List Value:=[.int .u8 ((c.1:Nat):Int),.bool c.2]
theorem mf_lay {M:MS}{n q i x:Nat}{xs:List Nat}{fr:Bool}{f:TF}(h:MF M n (layF q (xs.take i) fr f))(hi:i<xs.length)(hx:xs[i]=x)(hb:x<256)(hn:q+i<n):
    MF (M.put ((q+i:Nat):Int) (encC (x,(((layF q (xs.take i) fr f (q+i)).map (·.2)).getD fr)))) n (layF q (xs.take (i+1)) fr f):=by
  have e:layF q (xs.take (i+1)) fr f=λ c=>if c=q+i then some (x,((layF q (xs.take i) fr f (q+i)).map (·.2)).getD fr) else layF q (xs.take i) fr f c:=by
    rw [List.take_succ_eq_append_getElem hi,layF_snoc,hx]
    funext c
    rw [List.length_take,Nat.min_eq_left oqz]
    by_cases hc:c=q+i
    . subst hc;rw [if_pos rfl]
    rw [if_neg hc,if_neg hc]
  rw [e]
  exact mf_put h hn hb
theorem layF_zero (q:Nat)(fr:Bool)(f:TF)(xs:List Nat):layF q (xs.take 0) fr f=f:=layF_nil q fr f
attribute [local irreducible] crk crL crc Sl pt ro Dev imgS recS readS recsF rdW rdO rkT Parts rvl recordsS
theorem Zh7 {p r:Prop}(k:r)(h:Kq r->p:=by intro k;rintro _ _ ⟨rfl,rfl⟩;refine tv (o_eqi rfl rfl) ?_;exact k.o):p:=h ⟨k⟩
theorem New12_c {A R:SP}{C:SP->SP}{d:Nat}{s:DevS}(hc:Ct A (Dev d s) R C:=by exact cbqz){lg:Nat}{at_ sz:Nat}(hl:Has R lg (cl (lcs11 d at_ sz) 99):=by exact hbqz)(hlw:LogW (s.ls.length*64) at_ sz:=by assumption):
    Fn Tryz.prog 39 #[pz d,pz lg] A (λ r B=>∃p,r= .tuple #[pz p,.int .i64 0]/\ B=A*pt p (cl (pocs lg d none) 110)):=by
  refine fn_enterW func39 rfl ntmps39 (by simp) ?_;obtain ⟨L,e0,hL⟩:∃L e0,recordsS at_ sz s=(L,e0):=⟨_,_,rfl⟩;have he0:e0≠1:=(by have h9:=rec_err (at_:=at_) (sz:=sz) (s:=s);rw [hL] at h9;simp only [] at h9;omega);refine tc_have (λ _ _ h=>ct_wf2 hc h) λ hwf=> ?_
  have htop:=hwf.top;have hpos:=hwf.pos;refine Zc3 ?_;refine tl_c rfl (o_call bd104 rfl (Size_c (hc:=hc))) ?_;refine Zh7 ?_;refine Z3 ?_;intro h;refine Zdf ?_;refine tl_c rfl (o_call bd108 rfl (Records_w (hc:=hc) (hl:=hl) (hlw:=hlw) (hX:=hL))) ?_;rintro _ _ ⟨a13,c13,vs,rfl,hc13,hvs,rfl⟩;have hA9:C (Dev d s)=A:=(by rw [hc.2];exact hc.1.symm);rw [hA9]
  refine Zit ?_;refine Zca ?_;refine tc_cond rfl (λ h=> ?_) (sbq ?_)
  . exfalso;first|exact he0 (of_decide_eq_true h)|(simp at h;omega)
  intro h;refine Zgr ?_;refine tv (o_bS (l:=[_,_,_]) (pv_cons wqz (pv_cons wqz pv_nil)) underlying110 z110 (pl110 underlying110) rfl) ?_;refine tl_x rfl (o_box rfl rfl) ?_;rintro _ _ ⟨b21,rfl,rfl⟩;refine Zc4 ?_;exact ⟨_,_,res2 rfl rfl rfl,Dr.sat drqz,b21,rfl,rfl⟩
theorem Begin12_ok {A R:SP}{C:SP->SP}{p lg d at_ sz:Nat}{s:DevS}(hA:A=R*pt p (cl (pocs lg d none) 110)*pt lg (cl (lcs11 d at_ sz) 99)*Dev d s)(hlw:LogW (s.ls.length*64) at_ sz)(ho:s.off=false)(hst:stpS at_ sz s=0):
    Fn Tryz.prog 42 #[pz p] A (λ r B=>∃t mb,r= .tuple #[pz t,.int .i64 0]/\ B=R*TxA t p lg d mb at_ sz ⟨[],0⟩ false s):=by
  refine fn_enterW func42 rfl ntmps42 (by simp) ?_;subst hA;refine Zc3 ?_;refine tl_c rfl (o_call bd111 rfl (idle12_c (s:=s))) ?_;refine Zgd ?_;refine tc_cond rfl (λ h=> ?_) (sbq ?_)
  . exfalso;unfold idlS at h;rw [if_neg (by rw [ho];decide)] at h;simp at h
  intro h;refine Zdf ?_;refine tl_c rfl (o_call bd44 rfl (State12_c (s:=s))) ?_;refine Zgd ?_;refine tc_cond rfl (λ h=> ?_) (sbq ?_)
  . exfalso;rw [hst] at h;simp at h
  intro h;refine Zgr ?_;refine tl_x rfl (o_makeMap (ik:= .i64) underlying111) ?_;rintro _ _ ⟨b18,rfl,rfl⟩;refine tv (o_bS (l:=[_,_,_]) (pv_cons wqz (pv_cons wqz pv_nil)) underlying113 z113 (pl113 underlying113) rfl) ?_;refine tl_x rfl (o_box rfl rfl) ?_;rintro _ _ ⟨b20,rfl,rfl⟩;refine tv (o_nilCheck rfl) ?_;refine tv (o_fieldAddr (o:=2) underlying110 rfl rfl sz62 rfl) ?_;refine tl_u rfl (o_stU (l':=pocs lg d (some b20)) rfl upqz sz62 rfl rfl (by show 2<3;decide) rfl) ?_;refine Zld ?_;refine tv (o_fieldAddr (o:=2) underlying110 rfl rfl sz62 rfl) ?_;refine tv (by first|exact o_load p62 rfl hsqz rfl|exact o_loadC p62 rfl (by assumption)) ?_;refine Zc4 ?_;exact ⟨_,_,res2 rfl rfl rfl,λ g w h=>(Dr.sat (A':=R*pt p (cl (pocs lg d (some b20)) 110)*pt lg (cl (lcs11 d at_ sz) 99)*Dev d s*pt b18 (mpo .i64 ⟨[],0⟩)*pt b20 (cl (txcs p b18 false) 113)) drqz g w h).perm (by unfold TxA;rw [if_neg (by decide)];ac_rfl),b20,b18,rfl,rfl⟩
theorem Begin12_no {A R:SP}{C:SP->SP}{d:Nat}{s:DevS}(hc:Ct A (Dev d s) R C:=by exact cbqz){p lg:Nat}{ov:Option Nat}(hp:Has A p (cl (pocs lg d ov) 110):=by exact hbqz)(hno:idlS s ov≠0:=by assumption):
    Fn Tryz.prog 42 #[pz p] A (λ r B=>r= .tuple #[.pointer none,.int .i64 (idlS s ov)]/\ A=B):=by
  refine fn_enterW func42 rfl ntmps42 (by simp) ?_;refine Zc3 ?_;refine tl_c rfl (o_call bd111 rfl (idle12_c (hc:=hc) (hp:=hp))) ?_;refine Zgd ?_;refine tc_cond rfl (sbq ?_) (λ h=> ?_)
  . intro h;refine Ze1 ?_;exact ⟨_,_,res2 rfl rfl rfl,Dr.sat drqz,rfl,rfl⟩
  exfalso;simp at h;exact hno h
theorem Zg4 {p r:Prop}(k:r)(h:Kq r->p:=by intro k;refine Zcp ?_;refine tv (o_load p47 rfl hsqz rfl) ?_;exact k.o):p:=h ⟨k⟩
theorem lay12_c {A R:SP}{C:SP->SP}{t p lg d mb at_ sz:Nat}{M:MS}{s:DevS}(hc:Ct A (TxA t p lg d mb at_ sz M false s) R C:=by exact cbqz){n:Nat}{f:TF}{fr:Bool}{a:Option Addr}{c m q:Nat}{xs:List Nat}(hM:MF M n f)(hn:n=s.ls.length*64:=by omega)(ho:s.off=false:=by assumption)(hr:Rs R a (bys xs):=by exact rbqz)(hm:xs.length=m:=by first|assumption|rfl)(hb:∀x∈xs,x<256:=by assumption)(hqm:q+m<=n:=by omega):
    Fn Tryz.prog 113 #[pz t,vn q,.slice a m c,.bool fr] A (λ r B=>∃M2,r= .int .i64 0/\ MF M2 n (layF q xs fr f)/\ B=C (TxA t p lg d mb at_ sz M2 false s)):=by
  refine fn_enterW func113 rfl ntmps113 (by simp) ?_;obtain ⟨rfl,hC⟩:=hc;refine tc_eq (show _=R*pt p (cl (pocs lg d (some t)) 110)*pt lg (cl (lcs11 d at_ sz) 99)*Dev d s*pt t (cl (txcs p mb false) 113)*pt mb (mpo .i64 M) by unfold TxA;rw [if_neg (by decide)];ac_rfl) ?_;refine tc_have (λ _ _ h=>ct_wf2 ctqz h) λ hwf=> ?_
  have htop:=hwf.top;refine Zcl ?_;refine tl_c rfl (o_call bd95 rfl (begun12_c (s:=s))) ?_;refine Zdy ?_;refine Zck ?_;intro h;refine Zc ?_;refine Zb2 ?_;refine Zbn ?_;refine Zg4 ?_;refine tl_c rfl (o_call bd104 rfl (Size_c (s:=s))) ?_;refine Zdy ?_;refine Zdq ?_;refine tl_bool (d:=30) rfl dbq (sbq ?_);intro h;refine Z2 ?_;refine Zir ?_;refine tl_bool (d:=35) rfl dbq (sbq ?_);intro h;refine Zbp ?_;refine Z2 ?_;refine Zgu ?_;refine Z3 ?_;intro h;refine Zdf ?_;refine Zez ?_;refine Zcj ?_;refine tc_loop (λ kk ρ BB=>∃ (i:Nat) (M1:MS),(i<=m)/\ (MF M1 n (layF q (xs.take i) fr f))/\ kk=m-i/\ ρ 45=(vn i)/\ ρ 0=(pz t)/\ ρ 1=(vn q)/\ ρ 3= .bool fr/\ ρ 43= .slice a m c/\ ρ 44=(vn m)/\ Dr BB (R*pt p (cl (pocs lg d (some t)) 110)*pt lg (cl (lcs11 d at_ sz) 99)*Dev d s*pt t (cl (txcs p mb false) 113)*pt mb (mpo .i64 M1))) (m:=m-(0)) ?_ ?_
  . exact ⟨0,M,by omega,by rw [layF_zero];exact hM,rfl,rfl,rfl,rfl,rfl,rfl,rfl,drqz⟩
  intro k ρ B hI;obtain ⟨i,M1,hp0,hp1,hkk1,hE45,hE0,hE1,hE3,hE43,hE44,hBA⟩:=hI;refine tc_pre hBA.sat ?_;clear hBA;refine te 45 hE45 ?_;refine te 0 hE0 ?_;refine te 1 hE1 ?_;refine te 3 hE3 ?_;refine te 43 hE43 ?_;refine te 44 hE44 ?_;refine Zei ?_;refine tc_cond rfl (λ h=> ?_) (λ h=> ?_)
  . have hi:i<xs.length:=(by simp at h;omega);obtain ⟨x,hx1⟩:∃x,xs[i]=x:=⟨_,rfl⟩;have hx8:x<256:=hx1▸hb _ (List.getElem_mem hi)
    have hlay:=mf_lay hp1 hi hx1 hx8 oqz;have hget:=hp1.get (q+i);obtain ⟨o,ho9⟩:∃o,layF q (xs.take i) fr f (q+i)=o:=⟨_,rfl⟩;rw [ho9] at hlay hget
    refine Zin ?_;refine tv (o_ixP1 underlying57 sz5 rfl rfl sq1z sq0z) ?_;refine tv (o_ldP p5 rfl (by repeat (first|exact hr|apply Rs.left)) (bys_at hi)) ?_;refine tl_env (d:=49) (v:= .int .u8 ((x:Nat):Int)) (by show Value.int .u8 ((xs[i]:Nat):Int)=_;rw [hx1]) ?_;refine Z0 ?_;refine Zs ?_;refine Zd9 ?_;refine Zlv ?_;refine tl_env (d:=57) (v:=(vn (q+i))) (by first|rfl|(show Value.int .i64 _=_;congr 1;omega)) ?_;refine tv (o_lookupOk (ik:= .i64) underlying111 underlying3 z185 rfl rfl hsqz) ?_;refine tl_env (d:=58) (v:= .tuple #[.agg (cel0 (o.getD (0,false))).toArray,.bool o.isSome]) (by show Value.tuple #[(M1.get ((q+i:Nat):Int)).getD _,.bool (M1.get ((q+i:Nat):Int)).isSome]=_;rw [hget];cases o<;>rfl) ?_;refine Zb1 ?_;refine tl_x rfl (o_alloc z185 rfl) ?_;rintro _ _ ⟨b13,rfl,rfl⟩;refine tl_u rfl (o_stUN (l':=cel0 (o.getD (0,false))) rfl upqz sz185 rfl rfl rfl (by show 2<=2;decide) rfl) ?_;refine Zd1 ?_;refine tv (o_not rfl) ?_;refine nq ?_;refine tc_cut (λ ρ BB=>ρ 0=(pz t)/\ ρ 1=(vn q)/\ ρ 3= .bool fr/\ ρ 11=(vn i)/\ ρ 12= .int .u8 ((x:Nat):Int)/\ ρ 13=(pz b13)/\ ρ 43= .slice a m c/\ ρ 44=(vn m)/\ ρ 45=(vn i)/\ BB=R*pt p (cl (pocs lg d (some t)) 110)*pt lg (cl (lcs11 d at_ sz) 99)*Dev d s*pt t (cl (txcs p mb false) 113)*pt mb (mpo .i64 M1)*pt b13 (cl [.int .u8 (((o.getD (0,false)).1:Nat):Int),.bool ((o.map (·.2)).getD fr)] 185)) ?_ ?_
    . skip
      refine tc_cond rfl (λ h=> ?_) (λ h=> ?_)
      . obtain rfl:o=none:=by cases o<;>simp at h ⊢
        refine Zm ?_;refine tv (o_fieldAddr (o:=1) underlying185 rfl rfl sz4 rfl) ?_;refine tl_u rfl (o_stU (l':=[.int .u8 0,.bool fr]) rfl upqz sz4 rfl rfl (by show 1<2;decide) rfl) ?_;refine tl_nil ?_;exact ⟨rfl,rfl,rfl,rfl,rfl,rfl,rfl,rfl,rfl,rfl⟩
      obtain ⟨c0,rfl⟩:∃c0,o=some c0:=by cases o<;>simp at h ⊢
      refine tc_skip ?_;exact ⟨rfl,rfl,rfl,rfl,rfl,rfl,rfl,rfl,rfl,rfl⟩
    intro ρ B hI;obtain ⟨hE0,hE1,hE3,hE11,hE12,hE13,hE43,hE44,hE45,rfl⟩:=hI;refine q_then_n ?_;refine te 0 hE0 ?_;refine te 1 hE1 ?_;refine te 3 hE3 ?_;refine te 11 hE11 ?_;refine te 12 hE12 ?_;refine te 13 hE13 ?_;refine te 43 hE43 ?_;refine te 44 hE44 ?_;refine te 45 hE45 ?_;refine Zb ?_;refine tv (o_fieldAddr (o:=0) underlying185 rfl rfl sz5 rfl) ?_;refine tl_u rfl (o_stU (l':=cel0 (x,(o.map (·.2)).getD fr)) rfl upqz sz5 rfl rfl (by show 0<2;decide) rfl) ?_;refine nq ?_;refine tc_regh (S:=R*pt p (cl (pocs lg d (some t)) 110)*pt lg (cl (lcs11 d at_ sz) 99)*Dev d s*pt t (cl (txcs p mb false) 113)*pt b13 (cl (cel0 (x,(o.map (·.2)).getD fr)) 185)) mo drqz ?_
    show TH _ _ _ _ _ 9 (Array.replicate 9 false) _ _
    refine Zq ?_;refine tm 2 rfl kqz rfl (o_fieldAddr (o:=1) underlying113 rfl rfl sz111 rfl) ?_;refine tm 3 rfl kqz rfl (o_load p111 rfl hsqz rfl) ?_;refine Zc1 ?_;refine tm 6 rfl kqz rfl adqz ?_;refine th_env (d:=73) (v:=(vn (q+i))) (by first|rfl|(show Value.int .i64 _=_;congr 1;omega)) ?_;refine tm 7 rfl kqz rfl (o_loadN (vs:=cel0 (x,(o.map (·.2)).getD fr)) a185 sz185 rfl hsqz (by show 2<=2;decide) rfl) ?_;refine th_one (i:=8) kqz ?_;refine oh_u rfl rfl rfl (o_mapUpdate (ik:= .i64) (M:=M1) (v:=encC (x,(o.map (·.2)).getD fr)) underlying111 underlying3 rfl upqz rfl rfl rfl) drqz ?_;refine Zcg ?_;refine Ze9 ?_;exact ⟨_,by omega,i+1,_,by omega,hlay,rfl,rfl,rfl,rfl,rfl,rfl,rfl,drqz⟩
  obtain rfl:i=m:=by simp at h;omega
  rw [List.take_of_length_le (show xs.length<=i by omega)] at hp1
  refine Zgf ?_;exact ⟨.int .i64 0,C (TxA t p lg d mb at_ sz M1 false s),res1 rfl rfl,(λ g w h=>by rw [hC];exact (Dr.sat (A':=R*pt p (cl (pocs lg d (some t)) 110)*pt lg (cl (lcs11 d at_ sz) 99)*Dev d s*pt t (cl (txcs p mb false) 113)*pt mb (mpo .i64 M1)) drqz g w h).perm (by unfold TxA;rw [if_neg (by decide)];ac_rfl)),M1,rfl,hp1,rfl⟩
end Go.Vl

namespace Go.Vl
open Go Go.Proofs Go.Proofs.Tryz
def adjB (out:List (Nat×List Nat))(a:Nat):Bool:=match out.getLast? with
  |some r=>decide (r.1+r.2.length=a)
  |none=>false
theorem list_snoc {α:Type}{l:List α}(h:0<l.length):∃O r,l=O++[r]:=⟨l.dropLast,l.getLast (List.length_pos_iff.1 h),(List.dropLast_concat_getLast _).symm⟩
theorem adjB_snoc (O:List (Nat×List Nat))(r:Nat×List Nat)(a:Nat):adjB (O++[r]) a=decide (r.1+r.2.length=a):=by unfold adjB;rw [List.getLast?_concat]
theorem adj_t {f:TF}{out:List (Nat×List Nat)}{a:Nat}(h:adjB out a=true):∃O r,out=O++[r]/\ r.1+r.2.length=a/\ runA f out a=O++[(r.1,r.2++[byF f a])]:=by
  rcases Nat.eq_zero_or_pos out.length with h0|h0
  . rw [List.eq_nil_of_length_eq_zero h0] at h;cases h
  obtain ⟨O,r,rfl⟩:=list_snoc h0;rw [adjB_snoc] at h
  have h1:=of_decide_eq_true h;refine ⟨O,r,rfl,h1, ?_⟩
  unfold runA;rw [List.getLast?_concat];simp only [];rw [if_pos h1,List.dropLast_concat]
theorem adj_f {f:TF}{out:List (Nat×List Nat)}{a:Nat}(h:adjB out a=false):runA f out a=out++[(a,[byF f a])]:=by
  rcases Nat.eq_zero_or_pos out.length with h0|h0
  . rw [List.eq_nil_of_length_eq_zero h0];rfl
  obtain ⟨O,r,rfl⟩:=list_snoc h0;rw [adjB_snoc] at h
  unfold runA;rw [List.getLast?_concat];simp only [];rw [if_neg (of_decide_eq_false h)]
theorem adr_at {n:Nat}{k:Bool}{f:TF}{i:Nat}(h:i<(adrF n k f).length):∃c,f ((adrF n k f)[i])=some c/\ c.2=k/\ (adrF n k f)[i]<n:=by
  obtain ⟨h1,h2⟩:=adr_mem.1 (List.getElem_mem h);have h3:=of_decide_eq_true h2
  cases hf:f ((adrF n k f)[i]) with
  |none=>rw [hf] at h3;cases h3
  |some c=>rw [hf] at h3;simp only [Option.map_some,Option.some.injEq] at h3;exact ⟨c,rfl,h3,h1⟩
theorem sl_some {k:Nat}{a:Option Addr}{m c:Nat}{xs:List Value}{R:SP}{g:Gh}{w:World}(hs:sat g w (R*Sl k (.slice a m c) m xs))(h:0<m):∃b o,a=some ⟨b,o,none⟩:=by
  obtain ⟨_,⟨e1,e2,_⟩|⟨b,off,cap,L,E,e1,_⟩⟩:=sl_iff.1 hs
  . omega
  simp only [Value.slice.injEq] at e1;exact ⟨b,off,e1.1⟩
theorem adr_len (n:Nat)(k:Bool)(f:TF):(adrF n k f).length<=n:=by unfold adrF;exact Nat.le_trans (List.length_filter_le _ _) (by rw [List.length_range];exact Nat.le_refl _)
theorem parts_last {O:List (Nat×List Nat)}{r:Nat×List Nat}{vs:List Value}(h:vs.length=(O++[r]).length)(hps:∀k,k<(O++[r]).length->∃b c,vs.getD k (.slice none 0 0)= .slice b ((O++[r]).getD k (0,[])).2.length c/\ ((O++[r]).getD k (0,[])).2.length<=c):
    ∃V xb xc,vs=V++[.slice xb r.2.length xc]/\ V.length=O.length/\ r.2.length<=xc:=by
  rw [List.length_append,List.length_singleton] at h
  obtain ⟨V,v,rfl⟩:=list_snoc (l:=vs) oqz;rw [List.length_append,List.length_singleton] at h
  have hV:V.length=O.length:=(by omega);obtain ⟨b,c,h1,h2⟩:=hps O.length (by rw [List.length_append,List.length_singleton];omega);have e1:(V++[v]).getD O.length (.slice none 0 0)=v:=(by rw [←hV,List.getD_eq_getElem?_getD];simp);have e2:(O++[r]).getD O.length (0,[])=r:=(by rw [List.getD_eq_getElem?_getD];simp);rw [e1,e2] at h1
  rw [e2] at h2
  exact ⟨V,b,c,by rw [h1],hV,h2⟩
theorem kcl_set {O:List (Nat×List Nat)}{V:List Value}{r:Nat×List Nat}{v u:Value}(h:V.length=O.length)(ys:List Nat):(kcl (O++[r]) (V++[v])).set (O.length*2+1) u=kcl (O++[(r.1,ys)]) (V++[u]):=by
  rw [kcl_snoc h,kcl_snoc h]
  have hl:=kcl_len h;rw [List.set_append,if_neg oqz,hl,show O.length*2+1-O.length*2=1 by omega];rfl
theorem runs_next {n:Nat}{k:Bool}{f:TF}{i:Nat}{out:List (Nat×List Nat)}(h:runsL f ((adrF n k f).take i)=out)(hi:i<(adrF n k f).length):runsL f ((adrF n k f).take (i+1))=runA f out ((adrF n k f)[i]):=by
  rw [List.take_succ_eq_append_getElem hi,runsL_snoc,h]
theorem kcl_l1 {O:List (Nat×List Nat)}{V:List Value}{r:Nat×List Nat}{v:Value}(h:V.length=O.length):(kcl (O++[r]) (V++[v]))[O.length*2+1]? =some v:=by
  rw [kcl_snoc h,List.getElem?_append_right (by rw [kcl_len h];omega),kcl_len h,show O.length*2+1-O.length*2=1 by omega];rfl
theorem kcl_l0 {O:List (Nat×List Nat)}{V:List Value}{r:Nat×List Nat}{v:Value}(h:V.length=O.length):(kcl (O++[r]) (V++[v]))[O.length*2+0]? =some ((vn r.1)):=by
  rw [kcl_snoc h,List.getElem?_append_right (by rw [kcl_len h];omega),kcl_len h,show O.length*2+0-O.length*2=0 by omega];rfl
theorem byF_some {f:TF}{a:Nat}{c:Nat×Bool}(h:f a=some c):byF f a=c.1:=by unfold byF;rw [h];rfl
theorem isK_some {f:TF}{a:Nat}{c:Nat×Bool}(h:f a=some c)(k:Bool):isK f k a=(c.2==k):=by
  unfold isK;rw [h];simp only [Option.map_some,Option.some.injEq]
  cases c.2<;>cases k<;>rfl
attribute [local irreducible] crk crL crc Sl pt ro Dev imgS recS readS recsF rdW rdO rkT Parts rvl recordsS runsL adrF kcl kys runA
theorem Zfk {p r:Prop}(k:r)(h:Kq r->p:=by intro k;refine tm 7 rfl kqz rfl (o_move wqz) ?_;refine tm 8 rfl kqz rfl (o_nilCheck rfl) ?_;exact k.o):p:=h ⟨k⟩
theorem Zi5 {p r:Prop}(k:r)(h:Kq r->p:=by intro k;refine tc_exit ?_;refine q_then_e (q_block_x (q_then_n ?_));exact k.o):p:=h ⟨k⟩
theorem Zdh {p r:Prop}(k:r)(h:Kq r->p:=by intro k;refine ⟨by repeat (first|with_reducible exact dr_refl|apply dr_keep|apply dr_drop), ?_⟩;refine th_one (i:=6) kqz ?_;exact k.o):p:=h ⟨k⟩
theorem runs12_c {A:SP}{p t mb n:Nat}{over:Bool}{M:MS}{f:TF}{kd:Bool}(ht:Has A t (cl (txcs p mb over) 113):=by exact hbqz)(hmb:Has A mb (mpo .i64 M):=by exact hbqz)(hM:MF M n f)(hn:n<=4194304:=by omega):
    Fn Tryz.prog 96 #[pz t,.bool kd] A (λ r B=>∃a c vs,r= .slice a (runsF n kd f).length c/\ (runsF n kd f).length<=c/\ vs.length=(runsF n kd f).length/\ B=A*Parts vs ((runsF n kd f).map (·.2))*Sl 2 (.slice a (runsF n kd f).length c) (runsF n kd f).length (kcl (runsF n kd f) vs)):=by
  refine fn_enterW func96 rfl ntmps96 (by simp) ?_;have hDl:M.D.length<=n:=mf_len hM;have hal:=adr_len n kd f;refine Zj ?_;refine Zj ?_;refine Zb2 ?_;refine tv (o_fieldAddr (o:=1) underlying113 rfl rfl sz111 rfl) ?_;refine tv (o_load p111 rfl ht rfl) ?_;refine tl_x rfl (o_range (ik:= .i64) underlying111 rfl hmb) ?_;rintro _ _ ⟨r16,rfl,rfl⟩;refine Zcj ?_;refine tc_pre (A':=A*pt r16 (mit mb M.c (([]:List ME).map ME.b) M.c)*Sl 1 (.slice none 0 0) 0 []) (λ _ _ h=>sl_nil h) ?_;refine tc_loop (λ kk ρ BB=>∃ (vis:List ME) (a5:Option Addr) (c5:Nat),(Vis M vis)/\ ((kys f kd vis).length<=c5)/\ kk=M.D.length-vis.length/\ ρ 5= .slice a5 (kys f kd vis).length c5/\ ρ 0=(pz t)/\ ρ 1= .bool kd/\ ρ 16=(pz r16)/\ Dr BB (A*pt r16 (mit mb M.c (vis.map ME.b) M.c)*Sl 1 (.slice a5 (kys f kd vis).length c5) (kys f kd vis).length (ints (kys f kd vis)))) (m:=M.D.length-(([]:List ME)).length) ?_ ?_
  . exact ⟨([]:List ME),none,0,vis_nil M,by rw [kys_nil];exact Nat.le_refl _,rfl,by rw [kys_nil];rfl,rfl,rfl,rfl,by rw [kys_nil];exact dr_refl⟩
  intro k ρ B hI;obtain ⟨vis,a5,c5,hp0,hp1,hkk1,hE5,hE0,hE1,hE16,hBA⟩:=hI;refine tc_pre hBA.sat ?_;clear hBA;refine te 5 hE5 ?_;refine te 0 hE0 ?_;refine te 1 hE1 ?_;refine te 16 hE16 ?_;refine sr ?_;refine tl_x rfl (o_next (ik:= .i64) (M:=M) (b:=mb) (seen:=vis.map ME.b) hM.wf rfl ctqz haqz) ?_;rintro _ _ ⟨o17,hnx,rfl,rfl⟩;refine tv (o_exNx rfl) ?_;refine Zku ?_;refine tc_cond rfl (λ h=> ?_) (λ h=> ?_)
  . obtain ⟨e,rfl⟩:∃e,o17=some e:=Option.isSome_iff_exists.1 (by simpa using h);have hvs2:=vis_snoc hp0 hnx;have hvl:=vis_len hvs2;have hvl2:(vis++[e]).length=vis.length+1:=(by rw [List.length_append,List.length_singleton]);have hem:=(hnx.yes e rfl).1;obtain ⟨a,c0,ha,hk,hf,hv⟩:=mf_val hM hem;have hky:=kys_snoc f kd vis e;rw [hk,Int.toNat_natCast,isK_some hf] at hky
    have hkl:=kys_len f kd vis;refine tc_eq (show _=A*pt r16 (mit mb M.c (vis.map ME.b++[e.b]) M.c)*Sl 1 (.slice a5 (kys f kd vis).length c5) (kys f kd vis).length (ints (kys f kd vis)) from rfl) ?_;refine Zi4 ?_;refine sr ?_;refine tv (o_entry (ik:= .i64) (M:=M) (b:=mb) (seen:=vis.map ME.b) hM.wf hem rfl (by repeat (first|with_reducible exact has_here|apply has_left)) haqz) ?_;refine tl_env (d:=19) (v:= .tuple #[vn a,.agg (cel0 c0).toArray]) (by rw [hk,hv];rfl) ?_;refine Zi ?_;refine tl_x rfl (o_alloc z185 rfl) ?_;rintro _ _ ⟨b7,rfl,rfl⟩;refine tla ?_;refine tl_u rfl (o_stUN (l':=cel0 c0) rfl upqz sz185 rfl rfl rfl (by show 2<=2;decide) rfl) ?_;refine nq ?_;refine sr ?_;refine tv (o_fieldAddr (o:=1) underlying185 rfl rfl sz4 rfl) ?_;refine tv (o_load p4 rfl hsqz rfl) ?_;refine tlm ?_;refine tv (o_eqb underlying4 rfl rfl) ?_;refine tl_env (d:=25) (v:= .bool (c0.2==kd)) (by first|rfl|(cases c0.2<;>cases kd<;>rfl)) ?_;refine nq ?_;refine tc_cut (λ ρ BB=>∃ (aj:Option Addr) (cj:Nat),((kys f kd (vis++[e])).length<=cj)/\ ρ 5= .slice aj (kys f kd (vis++[e])).length cj/\ ρ 0=(pz t)/\ ρ 1= .bool kd/\ ρ 16=(pz r16)/\ Dr BB (A*pt r16 (mit mb M.c (vis.map ME.b++[e.b]) M.c)*Sl 1 (.slice aj (kys f kd (vis++[e])).length cj) (kys f kd (vis++[e])).length (ints (kys f kd (vis++[e]))))) ?_ ?_
    . skip
      refine tc_cond rfl (λ h=> ?_) (λ h=> ?_)
      . rw [if_pos h] at hky
        refine Zfn ?_;refine tl_x rfl (o_buildSlice1 underlying26 sz3 z3 wqz rfl) ?_;rintro _ _ ⟨b28,rfl,rfl⟩;refine tl_x rfl (o_apB underlying26 underlying26 sz3 by3 z3 rfl (by decide) (by decide) rfl rfl rfl ctqz rfl (by first|exact bys_all _|exact ints_all _|exact wds_all _|exact bos_all _|rfl) sq1z (by first|exact bys_sn _ _|exact ints_sn _ _|exact wds_sn _ _|exact bos_sn _ _|exact (bys_append _ _).symm|rfl)) ?_;rintro _ _ ⟨a29,c29,rfl,hc29,rfl⟩;refine Zes ?_;exact ⟨a29,c29,by rw [hky];first|exact hp1|(rw [List.length_append];exact hc29),by rw [hky];first|rfl|(rw [List.length_append];rfl),rfl,rfl,rfl,by first|(rw [hky,List.length_append,List.length_singleton];exact dr_drop dr_refl)|(rw [hky];exact dr_drop dr_refl)⟩
      rw [if_neg (by rw [h];decide),List.append_nil] at hky
      refine tc_skip ?_;exact ⟨a5,c5,by rw [hky];first|exact hp1|(rw [List.length_append];exact hc29),by rw [hky];first|rfl|(rw [List.length_append];rfl),rfl,rfl,rfl,by first|(rw [hky,List.length_append,List.length_singleton];exact dr_drop dr_refl)|(rw [hky];exact dr_drop dr_refl)⟩
    intro ρ B hI;obtain ⟨aj,cj,hj0,hE5,hE0,hE1,hE16,hBA⟩:=hI;refine q_block_n (q_then_n ?_);exact ⟨_,by omega,vis++[e],aj,cj,hvs2,hj0,rfl,hE5,hE0,hE1,hE16,by rw [show (vis++[e]).map ME.b=vis.map ME.b++[e.b] by rw [List.map_append];rfl];exact hBA⟩
  obtain rfl:o17=none:=by cases o17<;>simp at h ⊢
  have hvp:=vis_perm hM.wf hp0 hnx;have hks:=kys_sort (k:=kd) hM hvp;have hkl:=kys_len f kd vis;have hvl:=vis_len hp0;have hkn:(kys f kd vis).length=(adrF n kd f).length:=(by have h9:=congrArg List.length hks;rw [List.length_mergeSort,List.length_map] at h9;exact h9);refine Zdx ?_;refine tl_c rfl (o_call bd158 rfl (Sort_c (zs:=kys f kd vis))) ?_;rintro _ _ ⟨rfl,rfl⟩;rw [hks]
  refine nq ?_;refine Zcl ?_;refine tv (o_len underlying26 rfl) ?_;refine Zid ?_;refine tc_pre (A':=A*Sl 1 (.slice a5 (kys f kd vis).length c5) (kys f kd vis).length (ints ((adrF n kd f).map λ a:Nat=>(a:Int)))*Parts [] []*Sl 2 (.slice none 0 0) 0 []) (λ g w h=>sl_nil (show sat g w (A*Sl 1 (.slice a5 (kys f kd vis).length c5) (kys f kd vis).length (ints ((adrF n kd f).map λ a:Nat=>(a:Int)))*Parts [] []) by rw [show Parts [] []=emp by unfold Parts;rfl,star_emp];exact Dr.sat drqz g w h)) ?_;refine tc_loop (λ kk ρ BB=>∃ (i:Nat) (out:List (Nat×List Nat)) (vs:List Value) (a8:Option Addr) (c8:Nat),(i<=(adrF n kd f).length)/\ (runsL f ((adrF n kd f).take i)=out)/\ (vs.length=out.length)/\ (out.length<=c8)/\ (out.length<=i)/\ (∀r∈out,r.1+r.2.length<=n)/\ kk=(adrF n kd f).length-i/\ ρ 8= .slice a8 out.length c8/\ ρ 34=(vn i)/\ ρ 0=(pz t)/\ ρ 32= .slice a5 (kys f kd vis).length c5/\ ρ 33= .int .i64 ((kys f kd vis).length:Nat)/\ Dr BB (A*Sl 1 (.slice a5 (kys f kd vis).length c5) (kys f kd vis).length (ints ((adrF n kd f).map λ a:Nat=>(a:Int)))*Parts vs (out.map (·.2))*Sl 2 (.slice a8 out.length c8) out.length (kcl out vs))) (m:=(adrF n kd f).length-(0)) ?_ ?_
  . exact ⟨0,[],[],none,0,by omega,by rw [List.take_zero];unfold runsL;rfl,rfl,Nat.le_refl _,Nat.le_refl _,λ r h=>(by cases h),rfl,rfl,rfl,rfl,rfl,rfl,by rw [kcl_nil];exact dr_refl⟩
  intro k ρ B hI;obtain ⟨i,out,vs,a8,c8,hq0,hq1,hq2,hq3,hq4,hq5,hkk2,hE8,hE34,hE0,hE32,hE33,hBA⟩:=hI;refine tc_pre hBA.sat ?_;clear hBA;refine te 8 hE8 ?_;refine te 34 hE34 ?_;refine te 0 hE0 ?_;refine te 32 hE32 ?_;refine te 33 hE33 ?_;refine Zei ?_;refine tc_cond rfl (λ h=> ?_) (λ h=> ?_)
  . have hi:i<(adrF n kd f).length:=(by simp at h;omega);obtain ⟨c0,hf,hck,han⟩:=adr_at hi;obtain ⟨a,haq⟩:∃a,(adrF n kd f)[i]=a:=⟨_,rfl⟩;have hbya:=byF_some hf;have hget:=hM.get ((adrF n kd f)[i]);rw [hf] at hget
    refine tc_have (λ _ _ h=>parts_getD hq2 h.left) λ hps=> ?_
    refine Zg5 ?_;refine tv (o_ixP1 underlying26 sz3 rfl rfl oqz (nn_rs (xs:=ints ((adrF n kd f).map λ a:Nat=>(a:Int))) sq3z (by rw [ints_length,List.length_map];omega))) ?_;refine tv (o_ldP (xs:=ints ((adrF n kd f).map λ a:Nat=>(a:Int))) p3 rfl sq3z (ints_at (by rw [List.length_map];exact hi))) ?_;refine tl_env (d:=37) (v:= .int .i64 ((((adrF n kd f)[i]'oqz):Nat):Int)) (by show Value.int .i64 _=_;rw [List.getElem_map]) ?_;refine Zd1 ?_;refine tv (o_len underlying169 rfl) ?_;refine tv (o_subI rfl rfl oqz) ?_;refine Za ?_;refine tc_seq ?_;refine tc_cut (λ ρ BB=>∃ (bb:Bool),(bb=adjB out ((adrF n kd f)[i]'oqz))/\ ρ 58= .bool bb/\ ρ 0=(pz t)/\ ρ 8= .slice a8 out.length c8/\ ρ 10= .int .i64 ((((adrF n kd f)[i]'oqz):Nat):Int)/\ ρ 11= .int .i64 ((out.length:Int)-1)/\ ρ 32= .slice a5 (kys f kd vis).length c5/\ ρ 33= .int .i64 ((kys f kd vis).length:Nat)/\ ρ 34=(vn i)/\ Dr BB (A*Sl 1 (.slice a5 (kys f kd vis).length c5) (kys f kd vis).length (ints ((adrF n kd f).map λ a:Nat=>(a:Int)))*Parts vs (out.map (·.2))*Sl 2 (.slice a8 out.length c8) out.length (kcl out vs))) ?_ ?_
    . skip
      refine tc_regq mo kqz ?_;refine ql_v rfl (o_move wqz) ?_;refine ql_v rfl (o_geq rfl rfl) ?_;refine ql_v rfl (o_move wqz) ?_;refine ql_bool (d:=43) rfl (λ h=> ?_) (λ h=> ?_)
      . have hne:0<out.length:=(by simp at h;omega);obtain ⟨O,r_,hO⟩:=list_snoc hne;obtain ⟨V,xb,xc,hV,hVl,hxc⟩:=parts_last (O:=O) (r:=r_) (by rw [←hO];exact hq2) (by rw [←hO];exact hps);have hOl:out.length-1=O.length:=(by rw [hO,List.length_append,List.length_singleton];omega);have hrn:=hq5 r_ (by rw [hO];simp);have hk0:(kcl out vs)[(out.length-1)*2+0]? =some ((vn r_.1)):=(by rw [hOl,hO,hV];exact kcl_l0 hVl);have hk1:(kcl out vs)[(out.length-1)*2+1]? =some (.slice xb r_.2.length xc):=(by rw [hOl,hO,hV];exact kcl_l1 hVl);refine Zbt ?_;refine ql_env (d:=45) (v:=(vn (out.length-1))) (by show Value.int .i64 _=_;congr 1;omega) ?_;refine ql_v rfl (o_ixP (a:=a8) underlying169 sz189 rfl rfl oqz (nn_rs (xs:=kcl out vs) sq3z (λ _=>by rw [kcl_len hq2];omega))) ?_;refine ql_v rfl (o_faP (a:=a8) (m:=0) (o:=0) underlying189 rfl rfl sz3 rfl (nn_rs (xs:=kcl out vs) sq3z (λ _=>by rw [kcl_len hq2];omega))) ?_;refine ql_v rfl (o_ldP (a:=a8) (xs:=kcl out vs) p3 rfl sq3z hk0) ?_;refine Zbt ?_;refine ql_env (d:=50) (v:=(vn (out.length-1))) (by show Value.int .i64 _=_;congr 1;omega) ?_;refine ql_v rfl (o_ixP (a:=a8) underlying169 sz189 rfl rfl oqz (nn_rs (xs:=kcl out vs) sq3z (λ _=>by rw [kcl_len hq2];omega))) ?_;refine ql_v rfl (o_faP (a:=a8) (m:=0) (o:=1) underlying189 rfl rfl sz57 rfl (nn_rs (xs:=kcl out vs) sq3z (λ _=>by rw [kcl_len hq2];omega))) ?_;refine ql_v rfl (o_ldP (a:=a8) (xs:=kcl out vs) p57 rfl sq3z hk1) ?_;refine ql_v rfl (o_len underlying57 rfl) ?_;refine ql_v rfl (o_addI rfl rfl oqz) ?_;refine ql_v rfl (o_move wqz) ?_;refine ql_v rfl (o_eqi rfl rfl) ?_;refine Zh6 ?_;exact ⟨_,by first|(rw [hO,adjB_snoc,decide_eq_decide];omega)|(rw [hne];rfl),rfl,rfl,rfl,rfl,rfl,rfl,rfl,rfl,drqz⟩
      have hne:out=[]:=List.eq_nil_of_length_eq_zero (by simp at h;omega);refine Zie ?_;refine Zeb ?_;refine Zv ?_;refine ql_v rfl (o_pick_f rfl wqz) ?_;refine ql_nil ?_;exact ⟨_,by first|(rw [hO,adjB_snoc,decide_eq_decide];omega)|(rw [hne];rfl),rfl,rfl,rfl,rfl,rfl,rfl,rfl,rfl,drqz⟩
    intro ρ B hI;obtain ⟨bb,hbb0,hE58,hE0,hE8,hE10,hE11,hE32,hE33,hE34,hBA⟩:=hI;refine q_then_n ?_;refine tc_pre hBA.sat ?_;clear hBA;refine te 58 hE58 ?_;refine te 0 hE0 ?_;refine te 8 hE8 ?_;refine te 10 hE10 ?_;refine te 11 hE11 ?_;refine te 32 hE32 ?_;refine te 33 hE33 ?_;refine te 34 hE34 ?_;refine tc_cond rfl (λ h=> ?_) (λ h=> ?_)
    . obtain ⟨O,r_,hO,hadj,hrun⟩:=adj_t (f:=f) (show adjB out ((adrF n kd f)[i]'oqz)=true by rw [←hbb0];exact h);obtain ⟨V,xb,xc,hV,hVl,hxc⟩:=parts_last (O:=O) (r:=r_) (by rw [←hO];exact hq2) (by rw [←hO];exact hps);subst hO hV;have hOl:(O++[r_]).length=O.length+1:=(by rw [List.length_append,List.length_singleton]);have hrn:=hq5 r_ (by simp);refine tc_have (λ _ _ h=>sl_some h oqz) λ ⟨bb8,oo8,ha8⟩=> ?_
      subst ha8;refine tc_eq (show _=A*Sl 1 (.slice a5 (kys f kd vis).length c5) (kys f kd vis).length (ints ((adrF n kd f).map λ a:Nat=>(a:Int)))*Parts V (O.map (·.2))*Sl 1 (.slice xb r_.2.length xc) r_.2.length (bys r_.2)*Sl 2 (.slice (some ⟨bb8,oo8,none⟩) (O++[r_]).length c8) (O++[r_]).length (kcl (O++[r_]) (V++[(.slice xb r_.2.length xc)])) by rw [List.map_append];rw [show Parts (V++[(.slice xb r_.2.length xc)]) (O.map (·.2)++[r_].map (·.2))=Parts V (O.map (·.2))*Sl 1 (.slice xb r_.2.length xc) r_.2.length (bys r_.2) from parts_snoc (by rw [List.length_map];exact hVl)];ac_rfl) ?_;refine tc_seq ?_;refine tc_regh (S:=A*Sl 1 (.slice a5 (kys f kd vis).length c5) (kys f kd vis).length (ints ((adrF n kd f).map λ a:Nat=>(a:Int)))*Parts V (O.map (·.2))) mo drqz ?_
      show TH _ _ _ _ _ 19 (Array.replicate 19 false) _ _
      refine Zcd ?_;refine th_env (d:=60) (v:=(vn O.length)) (by show Value.int .i64 _=_;rw [hOl];congr 1;omega) ?_;refine tm 2 rfl kqz rfl (o_move wqz) ?_;refine tm 3 rfl kqz rfl (o_move wqz) ?_;refine th_env (d:=62) (v:=(vn O.length)) (by show Value.int .i64 _=_;rw [hOl];congr 1;omega) ?_;refine tm 4 rfl kqz rfl (o_ixP (a:=some ⟨bb8,oo8,none⟩) underlying169 sz189 rfl rfl oqz nn_some) ?_;refine tm 5 rfl kqz rfl (o_faP (a:=some ⟨bb8,oo8,none⟩) (m:=0) (o:=1) underlying189 rfl rfl sz57 rfl nn_some) ?_;refine Zfk ?_;refine tm 9 rfl kqz rfl (o_fieldAddr (o:=1) underlying113 rfl rfl sz111 rfl) ?_;refine tm 10 rfl kqz rfl (o_load p111 rfl haqz rfl) ?_;refine tm 11 rfl kqz rfl (o_move wqz) ?_;refine tm 12 rfl kqz rfl (o_lookup (ik:= .i64) underlying111 underlying3 z185 rfl rfl haqz) ?_;refine th_env (d:=71) (v:= .agg (cel0 c0).toArray) (by show (M.get ((((adrF n kd f)[i]'oqz):Nat):Int)).getD _=_;rw [hget];rfl) ?_;refine tm 13 rfl kqz rfl (o_field1 underlying185 rfl p5 rfl rfl) ?_;refine th_two (i:=6) (j:=14) kqz ?_ ?_
      . skip
        refine oh_v rfl rfl rfl (o_ldP (a:=some ⟨bb8,oo8,none⟩) (xs:=kcl (O++[r_]) (V++[(.slice xb r_.2.length xc)])) p57 rfl sq3z (kcl_l1 hVl)) ?_;refine th_one (i:=14) kqz ?_;refine oh_x rfl rfl rfl (o_buildSliceL (k:=1) (vs:=bys [c0.1]) (l:=bys [c0.1]) underlying57 sz5 z5 rfl rfl (by decide) (by decide) (by intro v hv;simp only [bys,b8,List.map_cons,List.map_nil,List.mem_cons,List.not_mem_nil,or_false] at hv;rcases hv with rfl;rfl) rfl) ?_;rintro _ _ ⟨b73,rfl,rfl⟩;refine Zkk ?_;refine oh_x rfl rfl rfl (o_apB underlying57 underlying57 sz5 by5 z5 rfl (by decide) (by decide) rfl rfl rfl ctqz rfl rfl oqz (show _=bys (r_.2++[c0.1]) by rw [←bys_append])) ?_;rintro _ _ ⟨a74,c74,rfl,hc74,rfl⟩;refine ⟨by repeat (first|with_reducible exact dr_refl|apply dr_keep|apply dr_drop), ?_⟩;refine tm 16 rfl kqz rfl (o_ixP (a:=some ⟨bb8,oo8,none⟩) underlying169 sz189 rfl rfl oqz nn_some) ?_;refine tm 17 rfl kqz rfl (o_faP (a:=some ⟨bb8,oo8,none⟩) (m:=0) (o:=1) underlying189 rfl rfl sz57 rfl nn_some) ?_;refine th_one (i:=18) kqz ?_;refine oh_u rfl rfl rfl (o_stP (ys:=kcl (O++[(r_.1,r_.2++[c0.1])]) (V++[.slice a74 (r_.2.length+1) c74])) sz57 rfl rfl rfl ctqz oqz (kcl_set hVl _)) drqz ?_;refine Zba ?_;refine Zi5 ?_;refine Ze9 ?_;have hlo:(O++[(r_.1,r_.2++[c0.1])]).length=(O++[r_]).length:=(by rw [List.length_append,List.length_append];rfl);exact ⟨_,by omega,i+1,O++[(r_.1,r_.2++[c0.1])],V++[(.slice a74 (r_.2.length+1) c74)],(some ⟨bb8,oo8,none⟩),c8,by omega,by rw [runs_next hq1 hi,hrun,hbya],by rw [List.length_append,List.length_append,hVl];rfl,by rw [hlo];exact hq3,by rw [hlo];omega,λ r hr=>(by rcases List.mem_append.1 hr with h9|h9;exact hq5 r (List.mem_append_left _ h9);rw [List.mem_singleton] at h9;subst h9;show r_.1+(r_.2++[c0.1]).length<=n;rw [List.length_append,List.length_singleton];omega),rfl,by rw [hlo];rfl,rfl,rfl,rfl,rfl,by rw [hlo,List.map_append,show Parts (V++[(.slice a74 (r_.2.length+1) c74)]) (O.map (·.2)++[(r_.1,r_.2++[c0.1])].map (·.2))=Parts V (O.map (·.2))*Sl 1 (.slice a74 (r_.2.length+1) c74) (r_.2.length+1) (bys (r_.2++[c0.1])) from (parts_snoc (x:=r_.2++[c0.1]) (by rw [List.length_map];exact hVl)).trans (by rw [List.length_append,List.length_singleton]),←star_assoc];repeat (first|with_reducible exact dr_refl|apply dr_keep|apply dr_drop)⟩
      . skip
        refine oh_x rfl rfl rfl (o_buildSliceL (k:=1) (vs:=bys [c0.1]) (l:=bys [c0.1]) underlying57 sz5 z5 rfl rfl (by decide) (by decide) (by intro v hv;simp only [bys,b8,List.map_cons,List.map_nil,List.mem_cons,List.not_mem_nil,or_false] at hv;rcases hv with rfl;rfl) rfl) ?_;rintro _ _ ⟨b73,rfl,rfl⟩;refine Zdh ?_;refine oh_v rfl rfl rfl (o_ldP (a:=some ⟨bb8,oo8,none⟩) (xs:=kcl (O++[r_]) (V++[(.slice xb r_.2.length xc)])) p57 rfl sq3z (kcl_l1 hVl)) ?_;refine th_one (i:=15) kqz ?_;refine oh_x rfl rfl rfl (o_apB underlying57 underlying57 sz5 by5 z5 rfl (by decide) (by decide) rfl rfl rfl ctqz rfl rfl oqz (show _=bys (r_.2++[c0.1]) by rw [←bys_append])) ?_;rintro _ _ ⟨a74,c74,rfl,hc74,rfl⟩;refine ⟨by repeat (first|with_reducible exact dr_refl|apply dr_keep|apply dr_drop), ?_⟩;refine tm 16 rfl kqz rfl (o_ixP (a:=some ⟨bb8,oo8,none⟩) underlying169 sz189 rfl rfl oqz nn_some) ?_;refine tm 17 rfl kqz rfl (o_faP (a:=some ⟨bb8,oo8,none⟩) (m:=0) (o:=1) underlying189 rfl rfl sz57 rfl nn_some) ?_;refine th_one (i:=18) kqz ?_;refine oh_u rfl rfl rfl (o_stP (ys:=kcl (O++[(r_.1,r_.2++[c0.1])]) (V++[.slice a74 (r_.2.length+1) c74])) sz57 rfl rfl rfl ctqz oqz (kcl_set hVl _)) drqz ?_;refine Zba ?_;refine Zi5 ?_;refine Ze9 ?_;have hlo:(O++[(r_.1,r_.2++[c0.1])]).length=(O++[r_]).length:=(by rw [List.length_append,List.length_append];rfl);exact ⟨_,by omega,i+1,O++[(r_.1,r_.2++[c0.1])],V++[(.slice a74 (r_.2.length+1) c74)],(some ⟨bb8,oo8,none⟩),c8,by omega,by rw [runs_next hq1 hi,hrun,hbya],by rw [List.length_append,List.length_append,hVl];rfl,by rw [hlo];exact hq3,by rw [hlo];omega,λ r hr=>(by rcases List.mem_append.1 hr with h9|h9;exact hq5 r (List.mem_append_left _ h9);rw [List.mem_singleton] at h9;subst h9;show r_.1+(r_.2++[c0.1]).length<=n;rw [List.length_append,List.length_singleton];omega),rfl,by rw [hlo];rfl,rfl,rfl,rfl,rfl,by rw [hlo,List.map_append,show Parts (V++[(.slice a74 (r_.2.length+1) c74)]) (O.map (·.2)++[(r_.1,r_.2++[c0.1])].map (·.2))=Parts V (O.map (·.2))*Sl 1 (.slice a74 (r_.2.length+1) c74) (r_.2.length+1) (bys (r_.2++[c0.1])) from (parts_snoc (x:=r_.2++[c0.1]) (by rw [List.length_map];exact hVl)).trans (by rw [List.length_append,List.length_singleton]),←star_assoc];repeat (first|with_reducible exact dr_refl|apply dr_keep|apply dr_drop)⟩
    have hbf:adjB out ((adrF n kd f)[i]'oqz)=false:=(by rw [←hbb0];exact h);refine Zc ?_;refine Zfn ?_;refine Zw ?_;refine tv (o_fieldAddr (o:=1) underlying113 rfl rfl sz111 rfl) ?_;refine tv (o_load p111 rfl haqz rfl) ?_;refine tlm ?_;refine tv (o_lookup (ik:= .i64) underlying111 underlying3 z185 rfl rfl haqz) ?_;refine tl_env (d:=84) (v:= .agg (cel0 c0).toArray) (by show (M.get ((((adrF n kd f)[i]'oqz):Nat):Int)).getD _=_;rw [hget];rfl) ?_;refine tv (o_field1 underlying185 rfl p5 rfl rfl) ?_;refine tl_x rfl (o_buildSliceL (k:=1) (vs:=bys [c0.1]) (l:=bys [c0.1]) underlying57 sz5 z5 rfl rfl (by decide) (by decide) (by intro v hv;simp only [bys,b8,List.map_cons,List.map_nil,List.mem_cons,List.not_mem_nil,or_false] at hv;rcases hv with rfl;rfl) rfl) ?_;rintro _ _ ⟨b86,rfl,rfl⟩;refine tl_pre (A':=A*Sl 1 (.slice a5 (kys f kd vis).length c5) (kys f kd vis).length (ints ((adrF n kd f).map λ a:Nat=>(a:Int)))*Parts vs (out.map (·.2))*Sl 2 (.slice a8 out.length c8) out.length (kcl out vs)*Sl 1 (.slice (some ⟨b86,0,none⟩) 1 1) 1 (bys [c0.1])) (λ _ _ h=>sl_new (k:=1) (n:=1) (cap:=1) (xs:=bys [c0.1]) h (by decide) (Nat.le_refl _) rfl) ?_;refine tv (o_bS (l:=[_,_]) (pv_cons wqz (pv_cons wqz pv_nil)) underlying189 z189 (pl189 underlying189) rfl) ?_;refine tl_x rfl (o_buildSliceK (k:=2) (l:=[.int .i64 ((((adrF n kd f)[i]'oqz):Nat):Int),.slice (some ⟨b86,0,none⟩) 1 1]) underlying169 sz189 z189 rfl rfl (by decide)) ?_;rintro _ _ ⟨b88,rfl,rfl⟩;refine tl_x rfl (o_apB underlying169 underlying169 sz189 by189 z189 rfl (by decide) (by decide) rfl rfl rfl ctqz rfl rfl oqz (show _=kcl (out++[(((adrF n kd f)[i]'oqz),[(byF f ((adrF n kd f)[i]'oqz))])]) (vs++[.slice (some ⟨b86,0,none⟩) 1 1]) by rw [kcl_snoc hq2])) ?_;rintro _ _ ⟨a89,c89,rfl,hc89,rfl⟩;refine tl_eq (show _=A*Sl 1 (.slice a5 (kys f kd vis).length c5) (kys f kd vis).length (ints ((adrF n kd f).map λ a:Nat=>(a:Int)))*Parts (vs++[.slice (some ⟨b86,0,none⟩) 1 1]) ((out++[(((adrF n kd f)[i]'oqz),[(byF f ((adrF n kd f)[i]'oqz))])]).map (·.2))*Sl 2 (.slice a89 (out.length+1) c89) (out.length+1) (kcl (out++[(((adrF n kd f)[i]'oqz),[(byF f ((adrF n kd f)[i]'oqz))])]) (vs++[.slice (some ⟨b86,0,none⟩) 1 1])) by rw [List.map_append,show Parts (vs++[.slice (some ⟨b86,0,none⟩) 1 1]) (out.map (·.2)++[(((adrF n kd f)[i]'oqz),[(byF f ((adrF n kd f)[i]'oqz))])].map (·.2))=Parts vs (out.map (·.2))*Sl 1 (.slice (some ⟨b86,0,none⟩) 1 1) 1 (bys [c0.1]) by rw [←hbya];exact parts_snoc (by rw [List.length_map];exact hq2)];ac_rfl) ?_;refine Zlf ?_;exact ⟨_,by omega,i+1,out++[(((adrF n kd f)[i]'oqz),[(byF f ((adrF n kd f)[i]'oqz))])],vs++[.slice (some ⟨b86,0,none⟩) 1 1],a89,c89,by omega,by rw [runs_next hq1 hi];exact adj_f hbf,by rw [List.length_append,List.length_append,hq2];rfl,by rw [List.length_append];exact hc89,by rw [List.length_append,List.length_singleton];omega,λ r hr=>by rcases List.mem_append.1 hr with h9|h9;exact hq5 r h9;rw [List.mem_singleton] at h9;subst h9;show _+1<=n;omega,rfl,by rw [List.length_append,List.length_singleton];rfl,rfl,rfl,rfl,rfl,by rw [List.length_append,List.length_singleton];repeat (first|with_reducible exact dr_refl|apply dr_keep|apply dr_drop)⟩
  obtain rfl:i=(adrF n kd f).length:=by simp at h;omega
  rw [List.take_length] at hq1
  refine Zio ?_;have e9:runsF n kd f=out:=hq1;rw [e9]
  exact ⟨_,_,res1 rfl rfl,Dr.sat drqz,a8,c8,vs,rfl,hq3,hq2,rfl⟩
end Go.Vl

namespace Go.Vl
open Go Go.Proofs Go.Proofs.Tryz
def ovK (f:TF)(q i:Nat)(xs:List Nat):List Nat:=xs.mapIdx λ j x=>if j<i then ((f (q+j)).map (·.1)).getD x else x
theorem ovK_len (f:TF)(q i:Nat)(xs:List Nat):(ovK f q i xs).length=xs.length:=by simp [ovK]
theorem ovK_zero (f:TF)(q:Nat)(xs:List Nat):ovK f q 0 xs=xs:=by
  apply List.ext_getElem?;intro j;unfold ovK;rw [List.getElem?_mapIdx]
  cases xs[j]? <;>simp
theorem ovK_all (f:TF)(q:Nat)(xs:List Nat):ovK f q xs.length xs=ovF f q xs:=by
  apply List.ext_getElem?;intro j;unfold ovK ovF;rw [List.getElem?_mapIdx,List.getElem?_mapIdx]
  cases h:xs[j]? with
  |none=>rfl
  |some x=>obtain ⟨hj,_⟩:=List.getElem?_eq_some_iff.1 h;simp only [Option.map_some];rw [if_pos hj]
theorem ovK_none {f:TF}{q i:Nat}{xs:List Nat}(h:f (q+i)=none):ovK f q (i+1) xs=ovK f q i xs:=by
  apply List.ext_getElem?;intro j;unfold ovK;rw [List.getElem?_mapIdx,List.getElem?_mapIdx]
  cases xs[j]? with
  |none=>rfl
  |some x=>
    simp only [Option.map_some]
    by_cases hj:j=i
    . subst hj;rw [if_pos oqz,if_neg oqz,h];rfl
    by_cases h2:j<i
    . rw [if_pos (show j<i+1 by omega),if_pos h2]
    rw [if_neg (show¬j<i+1 by omega),if_neg h2]
theorem ovK_some {f:TF}{q i:Nat}{xs:List Nat}{c:Nat×Bool}(h:f (q+i)=some c)(hi:i<xs.length):(ovK f q i xs).set i c.1=ovK f q (i+1) xs:=by
  apply List.ext_getElem?;intro j
  rw [List.getElem?_set,ovK_len]
  unfold ovK;rw [List.getElem?_mapIdx,List.getElem?_mapIdx]
  by_cases hj:i=j
  . subst hj;rw [if_pos rfl,if_pos hi,List.getElem?_eq_getElem hi]
    simp only [Option.map_some];rw [if_pos oqz,h];rfl
  rw [if_neg hj]
  cases xs[j]? with
  |none=>rfl
  |some x=>
    simp only [Option.map_some]
    by_cases h2:j<i
    . rw [if_pos (show j<i+1 by omega),if_pos h2]
    rw [if_neg (show¬j<i+1 by omega),if_neg h2]
theorem ext_succ {L:List (Nat×List Nat)}{i:Nat}(h:i<L.length):extX (L.take (i+1))=extX (L.take i)++[((((L.getD i (0,[])).1:Nat):Int),(((L.getD i (0,[])).2.length:Nat):Int))]:=by
  have e:L.getD i (0,[])=L[i]:=(by rw [List.getD_eq_getElem?_getD,List.getElem?_eq_getElem h];rfl);rw [List.take_succ_eq_append_getElem h,e];unfold extX;rw [List.map_append];rfl
theorem ext_len (L:List (Nat×List Nat)):(extX L).length=L.length:=by unfold extX;rw [List.length_map]
theorem xcl_sn (l:List (Int×Int))(x:Int×Int):xcl (l++[x])=xcl l++xcs x:=by unfold xcl;rw [List.flatMap_append];simp
theorem runs12_w {A:SP}{p t mb n:Nat}{over:Bool}{M:MS}{f:TF}{kd:Bool}{L:List (Nat×List Nat)}(ht:Has A t (cl (txcs p mb over) 113))(hmb:Has A mb (mpo .i64 M))(hM:MF M n f)(hn:n<=4194304)(hX:runsF n kd f=L):
    Fn Tryz.prog 96 #[pz t,.bool kd] A (λ r B=>∃a c vs,r= .slice a L.length c/\ L.length<=c/\ vs.length=L.length/\ B=A*Parts vs (L.map (·.2))*Sl 2 (.slice a L.length c) L.length (kcl L vs)):=by
  subst hX;exact runs12_c ht hmb hM hn
attribute [local irreducible] crk crL crc Sl pt ro Dev imgS recS readS recsF rdW rdO rkT Parts rvl recordsS runsL adrF kcl xcl kys runA runsF layF
theorem Zgb {p r:Prop}(k:r)(h:Kq r->p:=by intro k;refine fn_enterW func46 rfl ntmps46 (by simp) ?_;refine Zfp ?_;exact k.o):p:=h ⟨k⟩
theorem StoreT_c {A R:SP}{C:SP->SP}{t p lg d mb at_ sz:Nat}{M:MS}{s:DevS}(hc:Ct A (TxA t p lg d mb at_ sz M false s) R C:=by exact cbqz){n:Nat}{f:TF}{a:Option Addr}{c m q:Nat}{xs:List Nat}(hM:MF M n f)(hn:n=s.ls.length*64:=by omega)(ho:s.off=false:=by assumption)(hr:Rs R a (bys xs):=by exact rbqz)(hm:xs.length=m:=by first|assumption|rfl)(hb:∀x∈xs,x<256:=by assumption)(hqm:q+m<=n:=by omega):
    Fn Tryz.prog 46 #[pz t,vn q,.slice a m c] A (λ r B=>∃M2,r= .int .i64 0/\ MF M2 n (layF q xs false f)/\ B=C (TxA t p lg d mb at_ sz M2 false s)):=by
  refine Zgb ?_;refine tl_c rfl (o_call bd113 rfl (lay12_c (hc:=hc) (n:=n) (f:=f) (fr:=false) (xs:=xs) (hM:=hM) (hn:=hn) (ho:=ho) (hr:=hr) (hm:=hm) (hb:=hb) (hqm:=hqm))) ?_;rintro _ _ ⟨M2,rfl,hM2,rfl⟩;refine Zd ?_;exact ⟨.int .i64 0,_,res1 rfl rfl,λ _ _ h=>h,M2,rfl,hM2,rfl⟩
theorem Zgc {p r:Prop}(k:r)(h:Kq r->p:=by intro k;refine fn_enterW func47 rfl ntmps47 (by simp) ?_;refine Zfp ?_;exact k.o):p:=h ⟨k⟩
theorem FreshT_c {A R:SP}{C:SP->SP}{t p lg d mb at_ sz:Nat}{M:MS}{s:DevS}(hc:Ct A (TxA t p lg d mb at_ sz M false s) R C:=by exact cbqz){n:Nat}{f:TF}{a:Option Addr}{c m q:Nat}{xs:List Nat}(hM:MF M n f)(hn:n=s.ls.length*64:=by omega)(ho:s.off=false:=by assumption)(hr:Rs R a (bys xs):=by exact rbqz)(hm:xs.length=m:=by first|assumption|rfl)(hb:∀x∈xs,x<256:=by assumption)(hqm:q+m<=n:=by omega):
    Fn Tryz.prog 47 #[pz t,vn q,.slice a m c] A (λ r B=>∃M2,r= .int .i64 0/\ MF M2 n (layF q xs true f)/\ B=C (TxA t p lg d mb at_ sz M2 false s)):=by
  refine Zgc ?_;refine tl_c rfl (o_call bd113 rfl (lay12_c (hc:=hc) (n:=n) (f:=f) (fr:=true) (xs:=xs) (hM:=hM) (hn:=hn) (ho:=ho) (hr:=hr) (hm:=hm) (hb:=hb) (hqm:=hqm))) ?_;rintro _ _ ⟨M2,rfl,hM2,rfl⟩;refine Zd ?_;exact ⟨.int .i64 0,_,res1 rfl rfl,λ _ _ h=>h,M2,rfl,hM2,rfl⟩
theorem LoadT_c {A R:SP}{C:SP->SP}{t p lg d mb at_ sz:Nat}{M:MS}{s:DevS}(hc:Ct A (TxA t p lg d mb at_ sz M false s) R C:=by exact cbqz){n:Nat}{f:TF}{q m:Nat}(hM:MF M n f)(hn:n=s.ls.length*64:=by omega)(ho:s.off=false:=by assumption)(hqm:q+m<=n:=by omega):
    Fn Tryz.prog 43 #[pz t,vn q,vn m] A (λ r B=>∃a c,r= .tuple #[.slice a m c,.int .i64 0]/\ m<=c/\ B=A*Sl 1 (.slice a m c) m (bys (ovF f q (((imgS s).drop q).take m)))):=by
  refine fn_enterW func43 rfl ntmps43 (by simp) ?_;obtain ⟨rfl,hC⟩:=hc;refine tc_eq (show _=R*pt p (cl (pocs lg d (some t)) 110)*pt lg (cl (lcs11 d at_ sz) 99)*Dev d s*pt t (cl (txcs p mb false) 113)*pt mb (mpo .i64 M) by unfold TxA;rw [if_neg (by decide)];ac_rfl) ?_;refine tc_have (λ _ _ h=>ct_wf2 ctqz h) λ hwf=> ?_
  have htop:=hwf.top;have hil:=imgS_len hwf;obtain ⟨xs,hxs⟩:∃xs,(((imgS s).drop q).take m)=xs:=⟨_,rfl⟩;have hxl:xs.length=m:=(by rw [←hxs,List.length_take,List.length_drop];omega);refine Zc3 ?_;refine tl_c rfl (o_call bd95 rfl (begun12_c (s:=s))) ?_;refine Zdy ?_;refine Zck ?_;intro h;refine Zfx ?_;refine Zbn ?_;refine Zg4 ?_;refine Z2 ?_;refine tl_c rfl (o_call bd110 rfl (Load_c (s:=s) (p:=q) (m:=m))) ?_;rintro _ _ ⟨a29,c29,rfl,hc29,rfl⟩;rw [hxs]
  refine Zhd ?_;refine Zez ?_;refine Zcj ?_;refine tc_loop (λ kk ρ BB=>∃ (i:Nat),(i<=m)/\ kk=m-i/\ ρ 34=(vn i)/\ ρ 0=(pz t)/\ ρ 1=(vn q)/\ ρ 9= .slice a29 m c29/\ ρ 10= .int .i64 0/\ ρ 33=(vn m)/\ Dr BB (R*pt p (cl (pocs lg d (some t)) 110)*pt lg (cl (lcs11 d at_ sz) 99)*Dev d s*pt t (cl (txcs p mb false) 113)*pt mb (mpo .i64 M)*Sl 1 (.slice a29 m c29) m (bys (ovK f q i xs)))) (m:=m-(0)) ?_ ?_
  . exact ⟨0,by omega,rfl,rfl,rfl,rfl,rfl,rfl,rfl,by rw [ovK_zero];exact dr_refl⟩
  intro k ρ B hI;obtain ⟨i,hp0,hkk1,hE34,hE0,hE1,hE9,hE10,hE33,hBA⟩:=hI;refine tc_pre hBA.sat ?_;clear hBA;refine te 34 hE34 ?_;refine te 0 hE0 ?_;refine te 1 hE1 ?_;refine te 9 hE9 ?_;refine te 10 hE10 ?_;refine te 33 hE33 ?_;refine Zei ?_;refine tc_cond rfl (λ h=> ?_) (λ h=> ?_)
  . have hi:i<xs.length:=(by simp at h;omega);have hget:=hM.get (q+i);obtain ⟨o,ho9⟩:∃o,f (q+i)=o:=⟨_,rfl⟩;rw [ho9] at hget
    have hkl:=ovK_len f q i xs;refine Zin ?_;refine Za ?_;refine Zs ?_;refine Zd9 ?_;refine Zlv ?_;refine tl_env (d:=44) (v:=(vn (q+i))) (by first|rfl|(show Value.int .i64 _=_;congr 1;omega)) ?_;refine tv (o_lookupOk (ik:= .i64) underlying111 underlying3 z185 rfl rfl hsqz) ?_;refine tl_env (d:=45) (v:= .tuple #[.agg (cel0 (o.getD (0,false))).toArray,.bool o.isSome]) (by show Value.tuple #[(M.get ((q+i:Nat):Int)).getD _,.bool (M.get ((q+i:Nat):Int)).isSome]=_;rw [hget];cases o<;>rfl) ?_;refine Zb1 ?_;refine tl_x rfl (o_alloc z185 rfl) ?_;rintro _ _ ⟨b12,rfl,rfl⟩;refine tl_u rfl (o_stUN (l':=cel0 (o.getD (0,false))) rfl upqz sz185 rfl rfl rfl (by show 2<=2;decide) rfl) ?_;refine Zep ?_;refine nq ?_;refine tc_cut (λ ρ BB=>ρ 0=(pz t)/\ ρ 1=(vn q)/\ ρ 9= .slice a29 m c29/\ ρ 10= .int .i64 0/\ ρ 33=(vn m)/\ ρ 34=(vn i)/\ Dr BB (R*pt p (cl (pocs lg d (some t)) 110)*pt lg (cl (lcs11 d at_ sz) 99)*Dev d s*pt t (cl (txcs p mb false) 113)*pt mb (mpo .i64 M)*Sl 1 (.slice a29 m c29) m (bys (ovK f q (i+1) xs)))) ?_ ?_
    . skip
      refine tc_cond rfl (λ h=> ?_) (λ h=> ?_)
      . obtain ⟨c0,rfl⟩:∃c0,o=some c0:=by cases o<;>simp at h ⊢
        have hc8:=hM.by_ _ _ ho9;refine Zfn ?_;refine tv (o_fieldAddr (o:=0) underlying185 rfl rfl sz5 rfl) ?_;refine tv (by first|exact o_load p5 rfl hsqz rfl|exact o_loadC p5 rfl (by assumption)) ?_;refine tv (o_ixP1 underlying57 sz5 rfl rfl oqz (nn_rs (xs:=bys (ovK f q i xs)) sq3z (by rw [bys_length];omega))) ?_;refine tl_u rfl (o_stP (ys:=bys ((ovK f q i xs).set i c0.1)) sz5 rfl rfl rfl ctqz oqz (bys_set _ _ _)) ?_;refine tl_nil ?_;exact ⟨rfl,rfl,rfl,rfl,rfl,rfl,by first|(rw [ovK_none ho9];exact dr_drop dr_refl)|(rw [←ovK_some ho9 hi];repeat (first|with_reducible exact dr_refl|apply dr_keep|apply dr_drop))⟩
      obtain rfl:o=none:=by cases o<;>simp at h ⊢
      refine tc_skip ?_;exact ⟨rfl,rfl,rfl,rfl,rfl,rfl,by first|(rw [ovK_none ho9];exact dr_drop dr_refl)|(rw [←ovK_some ho9 hi];repeat (first|with_reducible exact dr_refl|apply dr_keep|apply dr_drop))⟩
    intro ρ B hI;obtain ⟨hE0,hE1,hE9,hE10,hE33,hE34,hBA⟩:=hI;refine q_block_n (q_then_n ?_);refine tc_pre hBA.sat ?_;clear hBA;refine te 0 hE0 ?_;refine te 1 hE1 ?_;refine te 9 hE9 ?_;refine te 10 hE10 ?_;refine te 33 hE33 ?_;refine te 34 hE34 ?_;refine Ze9 ?_;exact ⟨_,by omega,i+1,by omega,rfl,rfl,rfl,rfl,rfl,rfl,rfl,drqz⟩
  obtain rfl:i=m:=by simp at h;omega
  refine Zf ?_;refine Zb7 ?_;refine Zc4 ?_;have e9:ovK f q i xs=ovF f q xs:=(by rw [←hxl];exact ovK_all f q xs);rw [e9]
  exact ⟨_,R*TxA t p lg d mb at_ sz M false s*Sl 1 (.slice a29 i c29) i (bys (ovF f q xs)),res2 rfl rfl rfl,λ g w h=>(Dr.sat (A':=R*pt p (cl (pocs lg d (some t)) 110)*pt lg (cl (lcs11 d at_ sz) 99)*Dev d s*pt t (cl (txcs p mb false) 113)*pt mb (mpo .i64 M)*Sl 1 (.slice a29 i c29) i (bys (ovF f q xs))) drqz g w h).perm (by unfold TxA;rw [if_neg (by decide)];ac_rfl),a29,c29,rfl,hc29,rfl⟩
theorem Zhu {p r:Prop}(k:r)(h:Kq r->p:=by intro k;refine fn_enterW func49 rfl ntmps49 (by simp) ?_;refine Zcl ?_;exact k.o):p:=h ⟨k⟩
theorem Zi6 {p r:Prop}(k:r)(h:Kq r->p:=by intro k;refine tv (o_eqp underlying69 rfl rfl) ?_;refine Z1 ?_;exact k.o):p:=h ⟨k⟩
theorem Zfi {p r:Prop}(k:r)(h:Kq r->p:=by intro k;refine tv (o_fieldAddr (o:=0) underlying189 rfl rfl sz3 rfl) ?_;refine tv (o_load p3 rfl hsqz rfl) ?_;exact k.o):p:=h ⟨k⟩
theorem Zhh {p r:Prop}(k:r)(h:Kq r->p:=by intro k;refine tv (o_fieldAddr (o:=1) underlying189 rfl rfl sz57 rfl) ?_;refine tv (o_load p57 rfl hsqz rfl) ?_;exact k.o):p:=h ⟨k⟩
theorem Extents12_c {A:SP}{p t mb n:Nat}{M:MS}{f:TF}{L:List (Nat×List Nat)}(ht:Has A t (cl (txcs p mb false) 113):=by exact hbqz)(hmb:Has A mb (mpo .i64 M):=by exact hbqz)(hM:MF M n f)(hn:n<=4194304:=by omega)(hX:runsF n false f=L)(hLl:L.length<=4194304):
    Fn Tryz.prog 49 #[pz t] A (λ r B=>∃a c,r= .slice a L.length c/\ L.length<=c/\ B=A*Sl 2 (.slice a L.length c) L.length (xcl (extX L))):=by
  refine Zhu ?_;refine Zcc ?_;refine tl_bool (d:=8) rfl dbq (sbq ?_);intro h;refine Zc8 ?_;refine tv (o_load p69 rfl ht rfl) ?_;refine Zi6 ?_;refine tl_bool (d:=15) rfl dbq (sbq ?_);intro h;refine Zw ?_;refine tv (o_fieldAddr (o:=2) underlying113 rfl rfl sz4 rfl) ?_;refine tv (o_load p4 rfl ht rfl) ?_;refine Zd6 ?_;intro h;refine Zc ?_;refine Zcl ?_;refine tl_c rfl (o_call bd96 rfl (runs12_w ht hmb hM hn hX)) ?_;rintro _ _ ⟨a22,c22,vs,rfl,hc22,hvs,rfl⟩;refine tl_have (λ _ _ h=>parts_getD hvs h.left) λ hps=> ?_
  refine tv (o_len underlying169 rfl) ?_;refine Zid ?_;refine tc_pre (A':=A*Parts vs (L.map (·.2))*Sl 2 (.slice a22 L.length c22) L.length (kcl L vs)*Sl 2 (.slice none 0 0) 0 []) (λ _ _ h=>sl_nil h) ?_;refine tc_loop (λ kk ρ BB=>∃ (i:Nat) (a3:Option Addr) (c3:Nat),(i<=L.length)/\ (i<=c3)/\ kk=L.length-i/\ ρ 3= .slice a3 i c3/\ ρ 24=(vn i)/\ ρ 22= .slice a22 L.length c22/\ ρ 23=(vn L.length)/\ Dr BB (A*Parts vs (L.map (·.2))*Sl 2 (.slice a22 L.length c22) L.length (kcl L vs)*Sl 2 (.slice a3 i c3) i (xcl (extX (L.take i))))) (m:=L.length-(0)) ?_ ?_
  . exact ⟨0,none,0,by omega,by omega,rfl,rfl,rfl,rfl,rfl,by rw [List.take_zero,show extX []=[] from rfl,xcl_nil];exact dr_refl⟩
  intro k ρ B hI;obtain ⟨i,a3,c3,hp0,hp1,hkk1,hE3,hE24,hE22,hE23,hBA⟩:=hI;refine tc_pre hBA.sat ?_;clear hBA;refine te 3 hE3 ?_;refine te 24 hE24 ?_;refine te 22 hE22 ?_;refine te 23 hE23 ?_;refine Zei ?_;refine tc_cond rfl (λ h=> ?_) (λ h=> ?_)
  . have hi:i<L.length:=(by simp at h;omega);obtain ⟨xb,xc,hv,hxc⟩:=hps i hi;have hkat:=kcl_at hvs hi;rw [hv] at hkat
    refine Zg5 ?_;refine tv (o_ixP (a:=a22) underlying169 sz189 rfl rfl oqz (nn_rs (xs:=kcl L vs) sq3z (λ _=>by rw [kcl_len hvs];omega))) ?_;refine tv (o_ldPN (a:=a22) (xs:=kcl L vs) (vs:=[.int .i64 (((L.getD i (0,[])).1:Nat):Int),.slice xb (L.getD i (0,[])).2.length xc]) a189 sz189 rfl sq3z hkat rfl (by decide)) ?_;refine tl_x rfl (o_alloc z189 rfl) ?_;rintro _ _ ⟨b5,rfl,rfl⟩;refine tl_u rfl (o_stUN (l':=[.int .i64 (((L.getD i (0,[])).1:Nat):Int),.slice xb (L.getD i (0,[])).2.length xc]) rfl upqz sz189 rfl rfl rfl (by show 2<=2;decide) rfl) ?_;refine nq ?_;refine Zm ?_;refine Zfi ?_;refine Zhh ?_;refine tv (o_len underlying57 rfl) ?_;refine tv (o_bS (l:=[_,_]) (pv_cons wqz (pv_cons wqz pv_nil)) underlying162 z162 (pl162 underlying162) rfl) ?_;refine tl_x rfl (o_buildSliceK (k:=2) (l:=xcs ((((L.getD i (0,[])).1:Nat):Int),(((L.getD i (0,[])).2.length:Nat):Int))) underlying107 sz162 z162 rfl rfl (by decide)) ?_;rintro _ _ ⟨b35,rfl,rfl⟩;refine tl_x rfl (o_apB underlying107 underlying107 sz162 by162 z162 rfl (by decide) (by decide) rfl rfl rfl ctqz rfl rfl oqz rfl) ?_;rintro _ _ ⟨a36,c36,rfl,hc36,rfl⟩;refine Zlf ?_;exact ⟨_,by omega,i+1,_,_,by omega,hc36,rfl,rfl,rfl,rfl,rfl,by rw [ext_succ hi,xcl_sn];repeat (first|with_reducible exact dr_refl|apply dr_keep|apply dr_drop)⟩
  obtain rfl:i=L.length:=by simp at h;omega
  rw [List.take_length]
  refine Zio ?_;exact ⟨_,_,res1 rfl rfl,Dr.sat drqz,a3,c3,rfl,hp1,rfl⟩
theorem DropT_c {A R:SP}{C:SP->SP}{t p lg d mb at_ sz:Nat}{M:MS}{s:DevS}(hc:Ct A (TxA t p lg d mb at_ sz M false s) R C:=by exact cbqz):
    Fn Tryz.prog 48 #[pz t] A (λ r B=>r= .int .i64 0/\ B=C (TxA t p lg d mb at_ sz M.clr true s)):=by
  refine fn_enterW func48 rfl ntmps48 (by simp) ?_;obtain ⟨rfl,hC⟩:=hc;refine tc_eq (show _=R*pt p (cl (pocs lg d (some t)) 110)*pt lg (cl (lcs11 d at_ sz) 99)*Dev d s*pt t (cl (txcs p mb false) 113)*pt mb (mpo .i64 M) by unfold TxA;rw [if_neg (by decide)];ac_rfl) ?_;refine tc_have (λ _ _ h=>ct_wf2 ctqz h) λ hwf=> ?_
  have htop:=hwf.top;refine Zg8 ?_;refine Zf2 ?_;intro h;refine Zw ?_;refine Zbn ?_;refine Zd8 ?_;refine Ze7 ?_;intro h;refine Zen ?_;refine tv (o_load p4 rfl hsqz rfl) ?_;refine Ze7 ?_;intro h;refine Zbd ?_;refine Zb ?_;refine tl_c rfl (o_call bd101 rfl (end12_c (R:=R*pt lg (cl (lcs11 d at_ sz) 99)*Dev d s) (p:=p) (lg:=lg) (d:=d) (mb:=mb) (M:=M) (over:=false) (hA:=by first|rfl|ac_rfl))) ?_;refine Zet ?_;refine Zd0 ?_;exact ⟨.int .i64 0,_,res1 rfl rfl,λ g w h=>by rw [hC];exact h.perm (by unfold TxA;rw [if_pos rfl];ac_rfl),rfl,rfl⟩
theorem Zkb {p r:Prop}(k:r)(h:Kq r->p:=by intro k;refine fn_enterW func48 rfl ntmps48 (by simp) ?_;refine Zg8 ?_;exact k.o):p:=h ⟨k⟩
theorem DropO_c {A:SP}{p t mb:Nat}(ht:Has A t (cl (txcs p mb true) 113):=by exact hbqz):
    Fn Tryz.prog 48 #[pz t] A (λ r B=>r= .int .i64 3/\ A=B):=by
  refine Zkb ?_;refine Zf2 ?_;intro h;refine Zc8 ?_;refine tv (o_load p69 rfl ht rfl) ?_;refine Zd8 ?_;refine Ze7 ?_;intro h;refine Zen ?_;refine tv (o_load p4 rfl ht rfl) ?_;refine Zif ?_;intro h;refine Zhl ?_;exact ⟨.int .i64 3,_,res1 rfl rfl,Dr.sat drqz,rfl,rfl⟩
end Go.Vl

namespace Go.Vl
open Go Go.Proofs Go.Proofs.Tryz
theorem o_max2 {P:Program}{n:Nat}{ρ:Env}{A:SP}{dst:Option Tmp}{ty t t':TypeId}{pos:String}{after:Array Edge}{gd:Option (Nat×Bool)}{x y:Operand}{a b:Nat}(hu:P.underlying ty=some (.int .i64))(hx:ev n ρ x=(vn a))(hy:ev n ρ y=(vn b)):
    OpV P n ρ A ⟨dst,.call { callee:= .builtin .max,args:= #[x,y],argTypes:= #[t,t'] },ty,pos,after,gd⟩ ((vn (max a b))):=λ g w hs=>by
  simp only [execOp,resolve,List.map_toArray,List.map_cons,List.map_nil,hx,hy]
  rw [run_bind (w':=w) (a:=⟨.builtin .max #[t,t'] ty _,#[vn a,vn b]⟩) (by rfl)]
  simp only [invoke,builtin]
  rw [run_bind (w':=w) (a:=(vn (max a b)))]
  . rfl
  have e:(if (b:Int)>(a:Int) then (b:Int) else (a:Int))=((max a b:Nat):Int):=(by split<;>omega)
  simp [Builtin.max_,Builtin.max2,List.foldlM,Sem.run_bind,←e]
theorem drop_getD {L:List (Nat×List Nat)}{i:Nat}(h:i<L.length):L.drop i=L.getD i (0,[])::L.drop (i+1):=by
  rw [List.drop_eq_getElem_cons h,List.getD_eq_getElem?_getD,List.getElem?_eq_getElem h];rfl
theorem stoL_cons (r:Nat×List Nat)(l:List (Nat×List Nat))(s:DevS):stoL (r::l) s=if (sto (r.1:Nat) r.2 s).1≠0 then sto (r.1:Nat) r.2 s else stoL l (sto (r.1:Nat) r.2 s).2:=rfl
theorem stoL_e {L:List (Nat×List Nat)}{i:Nat}{s s2:DevS}{e:Int}(hi:i<L.length)(h:sto ((L.getD i (0,[])).1:Nat) (L.getD i (0,[])).2 s=(e,s2))(he:e≠0):stoL (L.drop i) s=(e,s2):=by
  rw [drop_getD hi,stoL_cons,h,if_pos he]
theorem stoL_o {L:List (Nat×List Nat)}{i:Nat}{s s2:DevS}(hi:i<L.length)(h:sto ((L.getD i (0,[])).1:Nat) (L.getD i (0,[])).2 s=(0,s2)):stoL (L.drop i) s=stoL (L.drop (i+1)) s2:=by
  rw [drop_getD hi,stoL_cons,h,if_neg (by simp)]
theorem linR_at {L:List (Nat×List Nat)}{j dn:Nat}(h:j<L.length):linR (L.drop j) dn=(List.range ((((L.getD j (0,[])).1+(L.getD j (0,[])).2.length-1)/64)+1-(max ((L.getD j (0,[])).1/64) dn))).map (λ i=>(max ((L.getD j (0,[])).1/64) dn)+i)++linR (L.drop (j+1)) (max dn ((((L.getD j (0,[])).1+(L.getD j (0,[])).2.length-1)/64)+1)):=by
  rw [drop_getD h];rfl
theorem flLs_cons (q:Nat)(l:List Nat)(s:DevS):flLs (q::l) s=if (fl1 ((q*64:Nat):Int) s).1≠0 then fl1 ((q*64:Nat):Int) s else flLs l (fl1 ((q*64:Nat):Int) s).2:=rfl
theorem range_step {k q:Nat}(h:q<k):(List.range (k-q)).map (λ i=>q+i)=q::(List.range (k-(q+1))).map (λ i=>q+1+i):=by
  rw [show k-q=(k-(q+1))+1 by omega,List.range_succ_eq_map,List.map_cons,List.map_map]
  congr 1
  apply List.map_congr_left
  intro i _
  show q+(i+1)=q+1+i
  omega
theorem flLs_e {q:Nat}{l:List Nat}{s s2:DevS}{e:Int}(h:fl1 ((q*64:Nat):Int) s=(e,s2))(he:e≠0):flLs (q::l) s=(e,s2):=by rw [flLs_cons,h,if_pos he]
theorem flLs_o {q:Nat}{l:List Nat}{s s2:DevS}(h:fl1 ((q*64:Nat):Int) s=(0,s2)):flLs (q::l) s=flLs l s2:=by rw [flLs_cons,h,if_neg (by simp)]
theorem writeT_e {L:List (Nat×List Nat)}{s s1:DevS}{e:Int}(h:stoL L s=(e,s1))(he:e≠0):writeT L s=(e,s1):=by unfold writeT;rw [h,if_pos he]
theorem writeT_o {L:List (Nat×List Nat)}{s s1:DevS}{X:Int×DevS}(h:stoL L s=(0,s1))(h2:flLs (linR L 0) s1=X):writeT L s=X:=by unfold writeT;rw [h,if_neg (by simp),h2]
def RunW (n:Nat)(L:List (Nat×List Nat)):Prop:=∀r∈L,1<=r.2.length/\ r.1+r.2.length<=n/\∀b∈r.2,b<256
attribute [local irreducible] crk crL crc Sl pt ro Dev imgS recS readS recsF rdW rdO rkT Parts rvl recordsS runsL adrF kcl xcl kys runA runsF layF linR flLs stoL
theorem write12_c {A R:SP}{C:SP->SP}{d:Nat}{s:DevS}(hc:Ct A (Dev d s) R C:=by exact cbqz){p lg t mb:Nat}{ov:Option Nat}{over:Bool}(ht:Has R t (cl (txcs p mb over) 113):=by exact hbqz)(hp:Has R p (cl (pocs lg d ov) 110):=by exact hbqz){a:Option Addr}{c m n:Nat}{L:List (Nat×List Nat)}{vs:List Value}(hr:Rs R a (kcl L vs):=by exact rbqz)(hvs:vs.length=L.length:=by assumption)(hps:PsR R L vs)(hcp:∀k,k<L.length->∃b c,vs.getD k (.slice none 0 0)= .slice b (L.getD k (0,[])).2.length c/\ (L.getD k (0,[])).2.length<=c)(hW:RunW n L)(hn:n=s.ls.length*64:=by omega)(hm:L.length=m:=by first|assumption|rfl)(hml:m<=4194304:=by omega)(hroom:Room (sumL L) s:=by assumption):
    Fn Tryz.prog 97 #[pz t,.slice a m c] A (λ r B=>∃e s2,writeT L s=(e,s2)/\ r= .int .i64 e/\ B=C (Dev d s2)):=by
  refine fn_enterW func97 rfl ntmps97 (by simp) ?_;obtain ⟨rfl,hC⟩:=hc;refine tc_have (λ _ _ h=>ct_wf2 ctqz h) λ hwf=> ?_
  have htop:=hwf.top;refine Zlc ?_;refine tv (o_fieldAddr (o:=0) underlying113 rfl rfl sz69 rfl) ?_;refine tv (o_load p69 rfl haqz rfl) ?_;refine Zcp ?_;refine tv (o_load p47 rfl haqz rfl) ?_;refine Zd1 ?_;refine tv (o_len underlying169 rfl) ?_;refine Zid ?_;refine tc_loop (λ kk ρ BB=>∃ (i:Nat) (s1:DevS),(i<=m)/\ (stoL (L.drop i) s1=stoL L s)/\ (s1.ls.length=s.ls.length)/\ (Room (sumL (L.drop i)) s1)/\ kk=m-i/\ ρ 23=(vn i)/\ ρ 1= .slice a m c/\ ρ 5=(pz d)/\ ρ 21= .slice a m c/\ ρ 22=(vn m)/\ Dr BB (R*Dev d s1)) (m:=m-(0)) ?_ ?_
  . exact ⟨0,s,by omega,rfl,rfl,by rw [List.drop_zero];exact hroom,rfl,rfl,rfl,rfl,rfl,rfl,drqz⟩
  intro k ρ B hI;obtain ⟨i,s1,hp0,hp1,hp2,hp3,hkk1,hE23,hE1,hE5,hE21,hE22,hBA⟩:=hI;refine tc_pre hBA.sat ?_;clear hBA;refine te 23 hE23 ?_;refine te 1 hE1 ?_;refine te 5 hE5 ?_;refine te 21 hE21 ?_;refine te 22 hE22 ?_;refine Zei ?_;refine tc_cond rfl (λ h=> ?_) (λ h=> ?_)
  . have hi:i<L.length:=(by simp at h;omega);obtain ⟨hw1_,hw2_,hwb⟩:=hW _ (getD_mem hi);obtain ⟨xb,xc,hv,hrb,hrl⟩:=hps i hi;obtain ⟨xb2,xc2,hv2,hxc⟩:=hcp i hi;rw [hv] at hv2
    simp only [Value.slice.injEq] at hv2
    obtain ⟨rfl,_,rfl⟩:=hv2;have hkat:=kcl_at hvs hi;rw [hv] at hkat
    refine tc_have (λ _ _ h=>ct_wf2 ctqz h) λ hw1=> ?_
    refine Zg5 ?_;refine tv (o_ixP (a:=a) underlying169 sz189 rfl rfl oqz (nn_rs (xs:=kcl L vs) (by repeat (first|exact hr|apply Rs.left)) (λ _=>by rw [kcl_len hvs];omega))) ?_;refine tv (o_ldPN (a:=a) (xs:=kcl L vs) (vs:=[.int .i64 (((L.getD i (0,[])).1:Nat):Int),.slice xb (L.getD i (0,[])).2.length xc]) a189 sz189 rfl (by repeat (first|exact hr|apply Rs.left)) hkat rfl (by decide)) ?_;refine tl_x rfl (o_alloc z189 rfl) ?_;rintro _ _ ⟨b7,rfl,rfl⟩;refine tl_u rfl (o_stUN (l':=[.int .i64 (((L.getD i (0,[])).1:Nat):Int),.slice xb (L.getD i (0,[])).2.length xc]) rfl upqz sz189 rfl rfl rfl (by show 2<=2;decide) rfl) ?_;refine nq ?_;refine Zb ?_;refine Zfi ?_;refine Zhh ?_;refine tl_c rfl (o_call bd123 rfl (Store_c (s:=s1) (p:=(((L.getD i (0,[])).1:Nat):Int)) (xs:=(L.getD i (0,[])).2) (hr:=by repeat (first|exact hrb|apply Rs.left)) (hm:=rfl) (hb:=hwb) (hroom:=λ _ l hl=>by have h9:=hp3 l hl;rw [drop_getD hi,sumL_cons] at h9;omega))) ?_;rintro _ _ ⟨e32,s32,hs32,rfl,rfl⟩;refine Zkz ?_;refine tc_cond rfl (λ h=> ?_) (λ h=> ?_)
    . have he0:e32≠0:=(by simpa using h);refine Zb ?_;refine Zbq ?_;exact ⟨.int .i64 (e32),C (Dev d s32),res1 rfl rfl,λ _ _ h=>by rw [hC];exact (Dr.sat (A':=R*Dev d s32) drqz) _ _ h,e32,s32,writeT_e (by rw [←hp1];exact stoL_e hi hs32 he0) he0,rfl,rfl⟩
    obtain rfl:e32=0:=by simpa using h
    refine Zbd ?_;refine Ze9 ?_;exact ⟨_,by omega,i+1,_,by omega,by rw [←hp1];exact (stoL_o hi hs32).symm,by have h9:=sto_len (((L.getD i (0,[])).1:Nat):Int) (L.getD i (0,[])).2 s1;rw [hs32] at h9;exact h9.trans hp2,sto_room hs32 hw1 hwb (by rw [Nat.add_comm,←sumL_cons,←drop_getD hi];exact hp3),rfl,rfl,rfl,rfl,rfl,rfl,drqz⟩
  obtain rfl:i=m:=by simp at h;omega
  have hst:stoL L s=(0,s1):=(by rw [←hp1,List.drop_eq_nil_of_le oqz];unfold stoL;rfl);refine Zf ?_;refine Zcl ?_;refine tv (o_len underlying169 rfl) ?_;refine Zid ?_;refine tc_loop (λ kk ρ BB=>∃ (j:Nat) (dn:Nat) (s2:DevS),(j<=i)/\ (flLs (linR (L.drop j) dn) s2=flLs (linR L 0) s1)/\ (s2.ls.length=s.ls.length)/\ (dn<=4194304)/\ kk=i-j/\ ρ 9= .int .i64 ((dn:Int)-1)/\ ρ 39=(vn j)/\ ρ 5=(pz d)/\ ρ 37= .slice a i c/\ ρ 38=(vn i)/\ Dr BB (R*Dev d s2)) (m:=i-(0)) ?_ ?_
  . exact ⟨0,0,s1,by omega,rfl,hp2,by omega,rfl,rfl,rfl,rfl,rfl,rfl,drqz⟩
  intro k ρ B hI;obtain ⟨j,dn,s2,hq0,hq1,hq2,hq3,hkk2,hE9,hE39,hE5,hE37,hE38,hBA⟩:=hI;refine tc_pre hBA.sat ?_;clear hBA;refine te 9 hE9 ?_;refine te 39 hE39 ?_;refine te 5 hE5 ?_;refine te 37 hE37 ?_;refine te 38 hE38 ?_;refine Zei ?_;refine tc_cond rfl (λ h=> ?_) (λ h=> ?_)
  . have hj:j<L.length:=(by simp at h;omega);obtain ⟨hw1_,hw2_,hwb⟩:=hW _ (getD_mem hj);obtain ⟨xb,xc,hv,hxc⟩:=hcp j hj;have hkat:=kcl_at hvs hj;rw [hv] at hkat
    have hla:=linR_at (dn:=dn) hj;rw [hla] at hq1
    refine Zg5 ?_;refine tv (o_ixP (a:=a) underlying169 sz189 rfl rfl oqz (nn_rs (xs:=kcl L vs) (by repeat (first|exact hr|apply Rs.left)) (λ _=>by rw [kcl_len hvs];omega))) ?_;refine tv (o_ldPN (a:=a) (xs:=kcl L vs) (vs:=[.int .i64 (((L.getD j (0,[])).1:Nat):Int),.slice xb (L.getD j (0,[])).2.length xc]) a189 sz189 rfl (by repeat (first|exact hr|apply Rs.left)) hkat rfl (by decide)) ?_;refine tl_x rfl (o_alloc z189 rfl) ?_;rintro _ _ ⟨b11,rfl,rfl⟩;refine tl_u rfl (o_stUN (l':=[.int .i64 (((L.getD j (0,[])).1:Nat):Int),.slice xb (L.getD j (0,[])).2.length xc]) rfl upqz sz189 rfl rfl rfl (by show 2<=2;decide) rfl) ?_;refine nq ?_;refine sr ?_;refine Zfi ?_;refine tv (o_quoN (b:=64) rfl rfl oqz) ?_;refine Zk5 ?_;refine tl_env (d:=47) (v:=(vn dn)) (by show Value.int .i64 _=_;congr 1;omega) ?_;refine tv (o_max2 underlying3 rfl rfl) ?_;refine Zii ?_;refine tc_loop (λ kk ρ BB=>∃ (q:Nat) (dq:Nat) (s3:DevS),((max ((L.getD j (0,[])).1/64) dn)<=q)/\ (dq=if q=(max ((L.getD j (0,[])).1/64) dn) then dn else q)/\ (q<=max (max ((L.getD j (0,[])).1/64) dn) ((((L.getD j (0,[])).1+(L.getD j (0,[])).2.length-1)/64)+1))/\ (flLs ((List.range ((((L.getD j (0,[])).1+(L.getD j (0,[])).2.length-1)/64)+1-q)).map (λ i=>q+i)++linR (L.drop (j+1)) (max dn ((((L.getD j (0,[])).1+(L.getD j (0,[])).2.length-1)/64)+1))) s3=flLs (linR L 0) s1)/\ (s3.ls.length=s.ls.length)/\ kk=(((L.getD j (0,[])).1+(L.getD j (0,[])).2.length-1)/64)+1-q/\ ρ 9= .int .i64 ((dq:Int)-1)/\ ρ 12=(vn q)/\ ρ 5=(pz d)/\ ρ 11=(pz b11)/\ ρ 37= .slice a i c/\ ρ 38=(vn i)/\ ρ 39=(vn j)/\ Dr BB (R*Dev d s3*pt b11 (cl [.int .i64 (((L.getD j (0,[])).1:Nat):Int),.slice xb (L.getD j (0,[])).2.length xc] 189))) (m:=(((L.getD j (0,[])).1+(L.getD j (0,[])).2.length-1)/64)+1-((max ((L.getD j (0,[])).1/64) dn))) ?_ ?_
    . exact ⟨(max ((L.getD j (0,[])).1/64) dn),dn,s2,by omega,by rw [if_pos rfl],by omega,hq1,hq2,rfl,rfl,rfl,rfl,rfl,rfl,rfl,rfl,drqz⟩
    intro k ρ B hI;obtain ⟨q,dq,s3,ht0,ht1,ht2,ht3,ht4,hkk3,hE9,hE12,hE5,hE11,hE37,hE38,hE39,hBA⟩:=hI;refine tc_pre hBA.sat ?_;clear hBA;refine te 9 hE9 ?_;refine te 12 hE12 ?_;refine te 5 hE5 ?_;refine te 11 hE11 ?_;refine te 37 hE37 ?_;refine te 38 hE38 ?_;refine te 39 hE39 ?_;refine Ze ?_;refine Zfi ?_;refine Zhh ?_;refine tv (o_len underlying57 rfl) ?_;refine tv (o_addI rfl rfl oqz) ?_;refine tv (o_subI rfl rfl oqz) ?_;refine tl_env (d:=56) (v:= .int .i64 (((L.getD j (0,[])).1+(L.getD j (0,[])).2.length-1:Nat):Int)) (by show Value.int .i64 _=_;congr 1;omega) ?_;refine tv (o_quoN (b:=64) rfl rfl oqz) ?_;refine tv (o_leq rfl rfl) ?_;refine nq ?_;refine tc_cond rfl (λ h=> ?_) (λ h=> ?_)
    . have hqh:q<=(((L.getD j (0,[])).1+(L.getD j (0,[])).2.length-1)/64):=(by have h9:=of_decide_eq_true h;omega);refine Zbe ?_;refine Zed ?_;refine tv (by first|exact o_mulI rfl rfl oqz|exact o_mul rfl rfl) ?_;refine tl_env (d:=63) (v:=(vn (q*64))) (by first|(show Value.int .i64 _=_;congr 1;done)|(show Value.int .i64 _=_;congr 1;omega)) ?_;refine tl_c rfl (o_call bd159 rfl (Flush_c (s:=s3) (p:=((q*64:Nat):Int)))) ?_;rintro _ _ ⟨e64,s64,hs64,rfl,rfl⟩;refine Zkz ?_;refine tc_cond rfl (λ h=> ?_) (λ h=> ?_)
      . have he0:e64≠0:=(by simpa using h);refine Zjk ?_;refine q_then_r (q_block_r (q_then_r (q_then_r (q_block_r (q_block_r (q_then_r (q_then_r (q_block_r (q_then_r ?_)))))))));exact ⟨.int .i64 (e64),C (Dev d s64),res1 rfl rfl,λ _ _ h=>by rw [hC];exact (Dr.sat (A':=R*Dev d s64) drqz) _ _ h,e64,s64,writeT_o hst (by rw [←ht3,range_step (show q<(((L.getD j (0,[])).1+(L.getD j (0,[])).2.length-1)/64)+1 by omega),List.cons_append];exact flLs_e hs64 he0),rfl,rfl⟩
      obtain rfl:e64=0:=by simpa using h
      refine Zc ?_;refine Zm ?_;refine Zhr ?_;exact ⟨_,by omega,q+1,q+1,_,by omega,by rw [if_neg oqz],by omega,by rw [←ht3,range_step (show q<(((L.getD j (0,[])).1+(L.getD j (0,[])).2.length-1)/64)+1 by omega),List.cons_append];exact (flLs_o hs64).symm,by have h9:=fl1_len ((q*64:Nat):Int) s3;rw [hs64] at h9;exact h9.trans ht4,rfl,by show Value.int .i64 _=_;congr 1;omega,rfl,rfl,rfl,rfl,rfl,rfl,drqz⟩
    have hqh:¬q<=(((L.getD j (0,[])).1+(L.getD j (0,[])).2.length-1)/64):=(by have h9:=of_decide_eq_false h;omega);have hdq:dq=max dn ((((L.getD j (0,[])).1+(L.getD j (0,[])).2.length-1)/64)+1):=(by rw [ht1];split<;>omega);rw [show (((L.getD j (0,[])).1+(L.getD j (0,[])).2.length-1)/64)+1-q=0 by omega,List.range_zero,List.map_nil,List.nil_append] at ht3
    refine Zdd ?_;refine Ze9 ?_;exact ⟨_,by omega,j+1,dq,s3,by omega,by rw [hdq];exact ht3,ht4,by omega,rfl,rfl,rfl,rfl,rfl,rfl,drqz⟩
  obtain rfl:j=i:=by simp at h;omega
  rw [List.drop_eq_nil_of_le (show L.length<=j by omega)] at hq1
  refine Zgf ?_;exact ⟨.int .i64 (0),C (Dev d s2),res1 rfl rfl,λ _ _ h=>by rw [hC];exact (Dr.sat (A':=R*Dev d s2) drqz) _ _ h,0,s2,writeT_o hst (by rw [←hq1];unfold linR flLs;rfl),rfl,rfl⟩
end Go.Vl

namespace Go.Vl
open Go Go.Proofs Go.Proofs.Tryz
structure RunP (n k:Nat) (out:List (Nat×List Nat)):Prop where
  sum:sumL out=k
  len:out.length<=k
  ok:RunW n out
theorem sumL_app (a b:List (Nat×List Nat)):sumL (a++b)=sumL a+sumL b:=by unfold sumL;rw [List.map_append,List.sum_append]
theorem runP_step {n k a:Nat}{f:TF}{out:List (Nat×List Nat)}(h:RunP n k out)(ha:a<n)(hb:byF f a<256):RunP n (k+1) (runA f out a):=by
  have h1:∀x:Nat,sumL [(x,[byF f a])]=1:=λ x=>rfl
  cases hj:adjB out a with
  |true=>
    obtain ⟨O,r,rfl,hadj,hrun⟩:=adj_t (f:=f) hj;rw [hrun]
    have hs:=h.sum;have hl:=h.len;rw [sumL_app] at hs
    rw [List.length_append,List.length_singleton] at hl
    obtain ⟨g1,g2,g3⟩:=h.ok r (by simp);have e1:∀y:List Nat,sumL [(r.1,y)]=y.length:=λ y=>by unfold sumL;simp
    have e2:sumL [r]=r.2.length:=(by unfold sumL;simp);refine ⟨by rw [sumL_app,e1,List.length_append,List.length_singleton];rw [e2] at hs;omega,by rw [List.length_append,List.length_singleton];omega,λ x hx=> ?_⟩
    rcases List.mem_append.1 hx with h9|h9
    . exact h.ok x (List.mem_append_left _ h9)
    rw [List.mem_singleton] at h9
    subst h9;refine ⟨by simp,by show r.1+(r.2++[byF f a]).length<=n;rw [List.length_append,List.length_singleton];omega,λ b hb'=> ?_⟩
    rcases List.mem_append.1 hb' with h8|h8
    . exact g3 b h8
    rw [List.mem_singleton.1 h8];exact hb
  |false=>
    rw [adj_f hj]
    refine ⟨by rw [sumL_app,h1,h.sum],by rw [List.length_append,List.length_singleton];have:=h.len;omega,λ x hx=> ?_⟩
    rcases List.mem_append.1 hx with h9|h9
    . exact h.ok x h9
    rw [List.mem_singleton] at h9
    subst h9;exact ⟨Nat.le_refl _,by show a+1<=n;omega,λ b hb'=>by rw [List.mem_singleton.1 hb'];exact hb⟩
theorem runP_all {M:MS}{n:Nat}{k:Bool}{f:TF}(hM:MF M n f):∀i,i<=(adrF n k f).length->RunP n i (runsL f ((adrF n k f).take i))
  |0,_=>⟨rfl,Nat.le_refl _,λ r h=>(by cases h)⟩
  |i+1,h=>by
    rw [runs_next (out:=runsL f ((adrF n k f).take i)) rfl oqz]
    obtain ⟨c,hf,_,hn⟩:=adr_at (n:=n) (k:=k) (f:=f) (i:=i) oqz;exact runP_step (runP_all hM i oqz) hn (by rw [byF_some hf];exact hM.by_ _ _ hf)
theorem runP_F {M:MS}{n:Nat}{k:Bool}{f:TF}(hM:MF M n f):RunP n (adrF n k f).length (runsF n k f):=by
  have:=runP_all (k:=k) hM (adrF n k f).length (Nat.le_refl _);rw [List.take_length] at this;exact this
theorem extX_xw {n:Nat}{L:List (Nat×List Nat)}(h:RunW n L)(hn:n<=4194304):∀x∈extX L,XW x:=λ x hx=>by
  obtain ⟨r,hr,rfl⟩:=List.mem_map.1 hx;obtain ⟨_,h2,_⟩:=h r hr;exact ⟨by show-9223372036854775808<=(r.1:Int)/\ (r.1:Int)<=9223372036854775807;omega,by show-9223372036854775808<=(r.2.length:Int)/\ (r.2.length:Int)<=9223372036854775807;omega⟩
theorem gd_stoL {n k m:Nat}:∀{L:List (Nat×List Nat)} {s:DevS},RunW m L->Gd n (k+sumL L) s->Gd n k (stoL L s).2
  |[],s,_,h=>h.le oqz
  |r::l,s,hW,h=>by
    rw [sumL_cons] at h
    obtain ⟨_,_,hb⟩:=hW r (by simp);have h1:Gd n (k+sumL l) (sto (r.1:Nat) r.2 s).2:=gd_sto (h.le oqz) hb;rw [stoL_cons]
    split
    . exact h1.le oqz
    exact gd_stoL (λ x hx=>hW x (List.mem_cons_of_mem _ hx)) h1
theorem gd_fl1 {n k:Nat}{p:Int}{s:DevS}(h:Gd n k s):Gd n k (fl1 p s).2:=⟨(fl1_len _ _).trans h.len,fl1_room (e:=(fl1 p s).1) rfl h.wf h.room,fl1_wf h.wf⟩
theorem gd_flLs {n k:Nat}:∀{l:List Nat} {s:DevS},Gd n k s->Gd n k (flLs l s).2
  |[],s,h=>h
  |q::l,s,h=>by
    rw [flLs_cons]
    split
    . exact gd_fl1 h
    exact gd_flLs (gd_fl1 h)
theorem gd_writeT {n k m:Nat}{L:List (Nat×List Nat)}{s s2:DevS}{e:Int}(hw:writeT L s=(e,s2))(hW:RunW m L)(h:Gd n (k+sumL L) s):Gd n k s2:=by
  have h1:=gd_stoL hW h;have h2:(writeT L s).2=s2:=(by rw [hw]);rw [←h2]
  unfold writeT
  split
  . exact h1
  exact gd_flLs h1
section
variable {at_ sz n:Nat} {f:TF} {s s1 s2 s3 s4 s5:DevS} {e:Int}
theorem com_w1 (h1:writeT (runsF n true f) s=(e,s1))(he:e≠0):comS at_ sz n f s=((e,true),s1):=by unfold comS;rw [h1,if_pos he]
theorem com_00 (h1:writeT (runsF n true f) s=(0,s1))(hl:runsF n false f=[])(hf:runsF n true f=[]):comS at_ sz n f s=((0,true),s1):=by
  unfold comS;rw [h1,if_neg (by simp),if_pos hl,if_pos hf]
theorem com_0f (h1:writeT (runsF n true f) s=(0,s1))(hl:runsF n false f=[])(hf:runsF n true f≠[])(h2:fe s1=(e,s2)):comS at_ sz n f s=((e,true),s2):=by
  unfold comS;rw [h1,if_neg (by simp),if_pos hl,if_neg hf];simp only [];rw [h2]
theorem com_lw (h1:writeT (runsF n true f) s=(0,s1))(hl:runsF n false f≠[])(h2:writeS at_ sz (extX (runsF n false f)) s1=(e,s2))(he:e≠0):comS at_ sz n f s=((e,decide (e=5)),s2):=by
  unfold comS;rw [h1,if_neg (by simp),if_neg hl];simp only [];rw [h2,if_pos he]
theorem com_w2 (h1:writeT (runsF n true f) s=(0,s1))(hl:runsF n false f≠[])(h2:writeS at_ sz (extX (runsF n false f)) s1=(0,s2))(h3:writeT (runsF n false f) s2=(e,s3))(he:e≠0):comS at_ sz n f s=((e,true),s3):=by
  unfold comS;rw [h1,if_neg (by simp),if_neg hl];simp only [];rw [h2,if_neg (by simp)];simp only [];rw [h3,if_pos he]
theorem com_fe (h1:writeT (runsF n true f) s=(0,s1))(hl:runsF n false f≠[])(h2:writeS at_ sz (extX (runsF n false f)) s1=(0,s2))(h3:writeT (runsF n false f) s2=(0,s3))(h4:fe s3=(e,s4))(he:e≠0):comS at_ sz n f s=((e,true),s4):=by
  unfold comS;rw [h1,if_neg (by simp),if_neg hl];simp only [];rw [h2,if_neg (by simp)];simp only [];rw [h3,if_neg (by simp)];simp only [];rw [h4,if_pos he]
theorem com_cl (h1:writeT (runsF n true f) s=(0,s1))(hl:runsF n false f≠[])(h2:writeS at_ sz (extX (runsF n false f)) s1=(0,s2))(h3:writeT (runsF n false f) s2=(0,s3))(h4:fe s3=(0,s4))(h5:clearS at_ s4=(e,s5)):comS at_ sz n f s=((e,true),s5):=by
  unfold comS;rw [h1,if_neg (by simp),if_neg hl];simp only [];rw [h2,if_neg (by simp)];simp only [];rw [h3,if_neg (by simp)];simp only [];rw [h4,if_neg (by simp)];simp only [];rw [h5]
end
theorem del_c (M:MS)(a:Int):(M.del a).c=M.c:=by unfold MS.del;split<;>rfl
theorem del_sub (M:MS)(a:Int):(M.del a).D.Sublist M.D:=by
  unfold MS.del
  split
  . exact List.eraseIdx_sublist _ _
  exact List.Sublist.refl _
theorem wfM_del {M:MS}(h:WfM M)(a:Int):WfM (M.del a):=⟨h.keys.sublist ((del_sub M a).map _),h.born.sublist ((del_sub M a).map _),λ e he=>by rw [del_c];exact h.past e ((del_sub M a).subset he)⟩
theorem del_mem {M:MS}{e:ME}(h:WfM M)(he:e∈M.D):(M.del e.k).D.length<M.D.length/\∀x∈(M.del e.k).D,x.b≠e.b:=by
  obtain ⟨i,hi⟩:=mfind_mem h.keys he;obtain ⟨hil,hk,_⟩:=mfind_some hi;have hD:(M.del e.k).D=M.D.eraseIdx i:=(by unfold MS.del;rw [hi]);rw [hD]
  refine ⟨by rw [List.length_eraseIdx_of_lt hil];omega,λ x hx hxb=> ?_⟩
  have hei:M.D[i]=e:=by
    obtain ⟨j,hj,hje⟩:=List.mem_iff_getElem.1 he
    have hkk:(M.D.map ME.k)[i]? =(M.D.map ME.k)[j]? :=by
      rw [List.getElem?_map,List.getElem?_map,List.getElem?_eq_getElem hil,List.getElem?_eq_getElem hj]
      simp only [Option.map_some];rw [hk,hje]
    have hij:=(List.getElem?_inj (by simpa using hil) h.keys).1 hkk;subst hij;exact hje
  rw [List.mem_eraseIdx_iff_getElem] at hx
  obtain ⟨j,hj,hji,hjx⟩:=hx
  have hbb:(M.D.map ME.b)[i]? =(M.D.map ME.b)[j]? :=by
    rw [List.getElem?_map,List.getElem?_map,List.getElem?_eq_getElem hil,List.getElem?_eq_getElem hj]
    simp only [Option.map_some];rw [hei,hjx,hxb]
  exact hji ((List.getElem?_inj (by simpa using hil) h.born).1 hbb).symm
attribute [local irreducible] crk crL crc Sl pt ro Dev imgS recS readS recsF rdW rdO rkT Parts rvl recordsS runsL adrF kcl xcl kys runA runsF layF linR flLs stoL writeT writeS comS clearS extX
theorem Zf8 {p r:Prop}(k:r)(h:Kq r->p:=by intro k;refine Z4 ?_;refine Ze ?_;exact k.o):p:=h ⟨k⟩
theorem Zln {p r:Prop}(k:r)(h:Kq r->p:=by intro k;refine Zf8 ?_;refine Zck ?_;exact k.o):p:=h ⟨k⟩
theorem Zh9 {p r:Prop}(k:r)(h:Kq r->p:=by intro k;refine tc_goto ?_;refine q_then_g (q_sc_g ?_);exact k.o):p:=h ⟨k⟩
theorem Zl0 {p r:Prop}(k:r)(h:Kq r->p:=by intro k;refine tv (o_fieldAddr (o:=1) underlying110 rfl rfl sz89 rfl) ?_;refine tv (o_load p89 rfl hsqz rfl) ?_;exact k.o):p:=h ⟨k⟩
theorem Commit12_c {A R:SP}{C:SP->SP}{t p lg d mb at_ sz:Nat}{M:MS}{s:DevS}(hc:Ct A (TxA t p lg d mb at_ sz M false s) R C:=by exact cbqz){n:Nat}{f:TF}(hM:MF M n f)(hn:n=s.ls.length*64:=by omega)(hlw:LogW (s.ls.length*64) at_ sz:=by assumption)(ho:s.off=false:=by assumption)(hroom:Room (2*n+sz+8) s:=by assumption):
    Fn Tryz.prog 32 #[pz t] A (λ r B=>∃e b s2 M2,comS at_ sz n f s=((e,b),s2)/\ r= .int .i64 e/\ MF M2 n (if b=true then tf0 else f)/\ B=C (TxA t p lg d mb at_ sz M2 b s2)):=by
  refine fn_enterW func32 rfl ntmps32 (by simp) ?_;obtain ⟨rfl,hC⟩:=hc;refine tc_eq (show _=R*pt p (cl (pocs lg d (some t)) 110)*pt lg (cl (lcs11 d at_ sz) 99)*Dev d s*pt t (cl (txcs p mb false) 113)*pt mb (mpo .i64 M) by unfold TxA;rw [if_neg (by decide)];ac_rfl) ?_;refine tc_have (λ _ _ h=>ct_wf2 ctqz h) λ hwf=> ?_
  have htop:=hwf.top;obtain ⟨LF,hLF⟩:∃L,runsF n true f=L:=⟨_,rfl⟩;obtain ⟨LL,hLL⟩:∃L,runsF n false f=L:=⟨_,rfl⟩;have hPF:=runP_F (k:=true) hM;have hPL:=runP_F (k:=false) hM;rw [hLF] at hPF
  rw [hLL] at hPL
  have haf:=adr_len n true f;have hal:=adr_len n false f;have hg0:Gd s.ls.length (2*n+sz+8) s:=⟨rfl,hroom,hwf⟩;have hfs:=hPF.sum;have hfl:=hPF.len;have hls:=hPL.sum;have hll:=hPL.len;obtain ⟨w1,w2,w3,w4,w5⟩:=id hlw;refine Zj ?_;refine tc_scope (l:=0) (λ ρ BB=>∃ (e_:Int) (sE:DevS),(comS at_ sz n f s=((e_,true),sE))/\ ρ 3= .int .i64 e_/\ ρ 0=(pz t)/\ Dr BB (R*pt p (cl (pocs lg d (some t)) 110)*pt lg (cl (lcs11 d at_ sz) 99)*Dev d sE*pt t (cl (txcs p mb false) 113)*pt mb (mpo .i64 M))) rfl ?_ ?_
  . intro ρ B hI;obtain ⟨e_,sE,hcm0,hE3,hE0,hBA⟩:=hI;refine tc_pre hBA.sat ?_;clear hBA;refine te 3 hE3 ?_;refine te 0 hE0 ?_;refine Zb2 ?_;refine Zd9 ?_;refine tl_x rfl (o_range (ik:= .i64) (M:=M) underlying111 rfl hsqz) ?_;rintro _ _ ⟨r75,rfl,rfl⟩;refine Zcj ?_;refine tc_loop (λ kk ρ BB=>∃ (M1:MS) (seen:List Nat),(WfM M1)/\ (∀x∈M1.D,x.b∉seen)/\ kk=M1.D.length/\ ρ 0=(pz t)/\ ρ 3= .int .i64 e_/\ ρ 75=(pz r75)/\ Dr BB (R*pt p (cl (pocs lg d (some t)) 110)*pt lg (cl (lcs11 d at_ sz) 99)*Dev d sE*pt t (cl (txcs p mb false) 113)*pt mb (mpo .i64 M1)*pt r75 (mit mb M1.c seen M1.c))) (m:=(M).D.length) ?_ ?_
    . exact ⟨M,[],hM.wf,λ x _ h=>(by cases h),rfl,rfl,rfl,rfl,drqz⟩
    intro k ρ B hI;obtain ⟨M1,seen,hp0,hp1,hkk1,hE0,hE3,hE75,hBA⟩:=hI;refine tc_pre hBA.sat ?_;clear hBA;refine te 0 hE0 ?_;refine te 3 hE3 ?_;refine te 75 hE75 ?_;refine sr ?_;refine tl_x rfl (o_next (ik:= .i64) (M:=M1) (b:=mb) (seen:=seen) hp0 rfl ctqz hsqz) ?_;rintro _ _ ⟨o76,hnx,rfl,rfl⟩;refine tv (o_exNx rfl) ?_;refine Zku ?_;refine tc_cond rfl (λ h=> ?_) (λ h=> ?_)
    . obtain ⟨e,rfl⟩:∃e,o76=some e:=Option.isSome_iff_exists.1 (by simpa using h);have hem:=(hnx.yes e rfl).1;refine tc_eq (show _=R*pt p (cl (pocs lg d (some t)) 110)*pt lg (cl (lcs11 d at_ sz) 99)*Dev d sE*pt t (cl (txcs p mb false) 113)*pt mb (mpo .i64 M1)*pt r75 (mit mb M1.c (seen++[e.b]) M1.c) from rfl) ?_;refine Zi4 ?_;refine sr ?_;refine tv (o_entry (ik:= .i64) (M:=M1) (b:=mb) (seen:=seen) hp0 hem rfl hsqz hsqz) ?_;refine tv (o_extract rfl rfl) ?_;refine Za ?_;refine Zfo ?_;refine Zd9 ?_;refine tlm ?_;refine tl_x rfl (o_delete (ik:= .i64) (M:=M1) underlying111 underlying3 rfl rfl upqz rfl) ?_;rintro _ _ ⟨rfl,rfl⟩;refine Zu ?_;exact ⟨_,(by have:=(del_mem hp0 hem).1;omega),M1.del e.k,seen++[e.b],wfM_del hp0 _,λ x hx h=>(by rcases List.mem_append.1 h with h9|h9;exact hp1 x ((del_sub _ _).subset hx) h9;exact (del_mem hp0 hem).2 x hx (List.mem_singleton.1 h9)),rfl,rfl,rfl,rfl,by rw [del_c];repeat (first|with_reducible exact dr_refl|apply dr_keep|apply dr_drop)⟩
    obtain rfl:o76=none:=by cases o76<;>simp at h ⊢
    refine Zdx ?_;refine tl_c rfl (o_call bd101 rfl (end12_c (R:=R*pt lg (cl (lcs11 d at_ sz) 99)*Dev d sE*pt r75 (mit mb M1.c seen M1.c)) (p:=p) (lg:=lg) (d:=d) (mb:=mb) (M:=M1) (over:=false) (hA:=by first|rfl|ac_rfl))) ?_;refine Zet ?_;refine Zjk ?_;refine q_sc_r ?_;exact ⟨.int .i64 e_,C (TxA t p lg d mb at_ sz M1.clr true sE),res1 rfl rfl,(λ g w h=>by rw [hC];exact (Dr.sat (A':=R*pt lg (cl (lcs11 d at_ sz) 99)*Dev d sE*pt p (cl (pocs lg d none) 110)*pt t (cl (txcs p mb true) 113)*pt mb (mpo .i64 M1.clr)) drqz g w h).perm (by unfold TxA;rw [if_pos rfl];ac_rfl)),e_,true,sE,M1.clr,hcm0,rfl,by rw [if_pos rfl];exact mf_nil _ _,rfl⟩
  intro hsc;refine Zb ?_;refine tl_c rfl (o_call bd95 rfl (begun12_c (s:=s))) ?_;refine Zln ?_;intro h;refine Zfx ?_;refine Zbn ?_;refine Zg4 ?_;refine Zep ?_;refine tl_c rfl (o_call bd96 rfl (runs12_w (kd:=true) (M:=M) (over:=false) (p:=p) hsqz hsqz hM oqz hLF)) ?_;rintro _ _ ⟨a22,c22,vf,rfl,hc22,hvf,rfl⟩;refine tl_have (λ _ _ h=>parts_getD hvf h.left) λ hpf=> ?_
  refine tlm ?_;refine tl_c rfl (o_call bd96 rfl (runs12_w (kd:=false) (M:=M) (over:=false) (p:=p) hsqz hsqz hM oqz hLL)) ?_;rintro _ _ ⟨a24,c24,vl,rfl,hc24,hvl,rfl⟩;refine tl_have (λ _ _ h=>parts_getD hvl h.left) λ hpl=> ?_
  refine tlm ?_;refine tl_c rfl (o_call bd49 rfl (Extents12_c (M:=M) (p:=p) (L:=LL) (ht:=(by repeat (first|with_reducible exact has_here|with_reducible exact has_pt|apply has_left))) (hmb:=(by repeat (first|with_reducible exact has_here|with_reducible exact has_pt|apply has_left))) (hM:=hM) (hX:=hLL) (hLl:=by omega))) ?_;rintro _ _ ⟨a26,c26,rfl,hc26,rfl⟩;refine tla ?_;refine Zbx ?_;refine tlm ?_;refine tl_c rfl (o_call bd97 rfl (write12_c (s:=s) (n:=n) (L:=LF) (vs:=vf) (a:=a22) (hr:=(by repeat (first|with_reducible exact rs_sl|apply Rs.left))) (hvs:=hvf) (hps:=by repeat (first|exact psr_of hvf hpf (λ x hx=>by have h9:=(hPF.ok x hx).2.1;omega)|apply PsR.left)) (hcp:=hpf) (hW:=hPF.ok) (hn:=by have h9:=hg0.len;omega) (hm:=rfl) (hml:=by have h9:=hPF.len;omega) (hroom:=(hg0.le oqz).room))) ?_;rintro _ _ ⟨e29,s29,hs29,rfl,rfl⟩;have hg1:Gd s.ls.length (n+sz+8) s29:=gd_writeT hs29 hPF.ok (hg0.le oqz);have hg1l:=hg1.len;refine Zkz ?_;refine tc_cond rfl (λ h=> ?_) (λ h=> ?_)
  . have he29:e29≠0:=(by simpa using h);have hcm9:comS at_ sz n f s=((e29,true),s29):=com_w1 (by rw [hLF];exact hs29) he29;refine Zh9 ?_;exact ⟨_,_,hcm9,rfl,rfl,drqz⟩
  obtain rfl:e29=0:=by simpa using h
  refine Zdf ?_;refine tv (o_len underlying169 rfl) ?_;refine Zca ?_;refine tc_cond rfl (λ h=> ?_) (λ h=> ?_)
  . have hll0:LL=[]:=List.eq_nil_of_length_eq_zero (by first|(have h9:=of_decide_eq_true h;omega)|(simp at h;omega));refine Ze ?_;refine tv (o_len underlying169 rfl) ?_;refine Ze4 ?_;refine tc_cond rfl (λ h=> ?_) (λ h=> ?_)
    . have hlf0:LF≠[]:=λ e=>by subst e;simp at h
      refine Zm ?_;refine tl_c rfl (o_call bd98 rfl (Fence_c (s:=s29))) ?_;rintro _ _ ⟨e39,s39,hs39,rfl,rfl⟩;have hcm9:comS at_ sz n f s=((e39,true),s39):=com_0f (by rw [hLF];exact hs29) (by rw [hLL];exact hll0) (by rw [hLF];exact hlf0) hs39;refine Za ?_;refine Zh9 ?_;exact ⟨_,_,hcm9,rfl,rfl,drqz⟩
    have hlf0:LF=[]:=List.eq_nil_of_length_eq_zero (by first|(have h9:=of_decide_eq_false h;omega)|(simp at h;omega));have hcm9:comS at_ sz n f s=((0,true),s29):=com_00 (by rw [hLF];exact hs29) (by rw [hLL];exact hll0) (by rw [hLF];exact hlf0);refine Zc ?_;refine Zh9 ?_;exact ⟨_,_,hcm9,rfl,rfl,drqz⟩
  have hll0:LL≠[]:=λ e=>by subst e;simp at h
  refine Zc ?_;refine Zb2 ?_;refine Zbn ?_;refine tv (o_nilCheck rfl) ?_;refine Zl0 ?_;refine tlm ?_;refine tl_c rfl (o_call bd99 rfl (Write_c (s:=s29) (xs:=extX LL) (hr:=(by repeat (first|with_reducible exact rs_sl|apply Rs.left))) (hm:=ext_len LL) (hX:=extX_xw hPL.ok oqz) (hlw:=by rw [hg1l];exact hlw) (hml:=by omega) (hroom:=(hg1.le oqz).room))) ?_;rintro _ _ ⟨e48,s48,hs48,rfl,rfl⟩;have hg2:Gd s.ls.length (n+4) s48:=(by have h9:=gd_write (at_:=at_) (sz:=sz) (k:=n+4) (l:=extX LL) (hg1.le oqz) (by rw [ext_len];omega);rw [hs48] at h9;exact h9);have hg2l:=hg2.len;refine Zkz ?_;refine tc_cond rfl (λ h=> ?_) (λ h=> ?_)
  . have he48:e48≠0:=(by simpa using h);refine Ze ?_;refine Zl ?_;refine tc_cond rfl (λ h=> ?_) (λ h=> ?_)
    . have he5:e48≠5:=(by simpa using h);refine Zjk ?_;refine q_then_r (q_then_r (q_sc_r ?_));exact ⟨.int .i64 e48,C (TxA t p lg d mb at_ sz M false s48),res1 rfl rfl,(λ g w h=>by rw [hC];exact (Dr.sat (A':=R*pt p (cl (pocs lg d (some t)) 110)*pt lg (cl (lcs11 d at_ sz) 99)*Dev d s48*pt t (cl (txcs p mb false) 113)*pt mb (mpo .i64 M)) drqz g w h).perm (by unfold TxA;rw [if_neg (by decide)];ac_rfl)),e48,false,s48,M,by rw [com_lw (by rw [hLF];exact hs29) (by rw [hLL];exact hll0) (by rw [hLL];exact hs48) he48,decide_eq_false he5],rfl,hM,rfl⟩
    obtain rfl:e48=5:=by simpa using h
    have hcm9:comS at_ sz n f s=((5,true),s48):=com_lw (by rw [hLF];exact hs29) (by rw [hLL];exact hll0) (by rw [hLL];exact hs48) (by decide);refine Zc ?_;refine Zh9 ?_;exact ⟨_,_,hcm9,rfl,rfl,drqz⟩
  obtain rfl:e48=0:=by simpa using h
  refine Zdf ?_;refine tlm ?_;refine tl_c rfl (o_call bd97 rfl (write12_c (s:=s48) (n:=n) (L:=LL) (vs:=vl) (a:=a24) (hr:=(by repeat (first|with_reducible exact rs_sl|apply Rs.left))) (hvs:=hvl) (hps:=by repeat (first|exact psr_of hvl hpl (λ x hx=>by have h9:=(hPL.ok x hx).2.1;omega)|apply PsR.left)) (hcp:=hpl) (hW:=hPL.ok) (hn:=by have h9:=hg2.len;omega) (hm:=rfl) (hml:=by have h9:=hPL.len;omega) (hroom:=(hg2.le oqz).room))) ?_;rintro _ _ ⟨e56,s56,hs56,rfl,rfl⟩;have hg3:Gd s.ls.length 4 s56:=gd_writeT hs56 hPL.ok (hg2.le oqz);have hg3l:=hg3.len;refine Zkz ?_;refine tc_cond rfl (λ h=> ?_) (λ h=> ?_)
  . have he56:e56≠0:=(by simpa using h);have hcm9:comS at_ sz n f s=((e56,true),s56):=com_w2 (by rw [hLF];exact hs29) (by rw [hLL];exact hll0) (by rw [hLL];exact hs48) (by rw [hLL];exact hs56) he56;refine Zh9 ?_;exact ⟨_,_,hcm9,rfl,rfl,drqz⟩
  obtain rfl:e56=0:=by simpa using h
  refine Zdf ?_;refine tl_c rfl (o_call bd98 rfl (Fence_c (s:=s56))) ?_;rintro _ _ ⟨e60,s60,hs60,rfl,rfl⟩;have hg4:Gd s.ls.length 4 s60:=(by have h9:=gd_fe hg3;rw [hs60] at h9;exact h9);have hg4l:=hg4.len;refine Zkz ?_;refine tc_cond rfl (λ h=> ?_) (λ h=> ?_)
  . have he60:e60≠0:=(by simpa using h);have hcm9:comS at_ sz n f s=((e60,true),s60):=com_fe (by rw [hLF];exact hs29) (by rw [hLL];exact hll0) (by rw [hLL];exact hs48) (by rw [hLL];exact hs56) hs60 he60;refine Zh9 ?_;exact ⟨_,_,hcm9,rfl,rfl,drqz⟩
  obtain rfl:e60=0:=by simpa using h
  refine Zfx ?_;refine Zbn ?_;refine tv (o_nilCheck rfl) ?_;refine Zl0 ?_;refine tl_c rfl (o_call bd100 rfl (Clear_c (s:=s60) (hlw:=by rw [hg4l];exact hlw) (hroom:=(hg4.le oqz).room))) ?_;rintro _ _ ⟨e70,s70,hs70,rfl,rfl⟩;have hcm9:comS at_ sz n f s=((e70,true),s70):=com_cl (by rw [hLF];exact hs29) (by rw [hLL];exact hll0) (by rw [hLL];exact hs48) (by rw [hLL];exact hs56) hs60 hs70;refine Za ?_;refine tc_fall hsc ?_;exact ⟨_,_,hcm9,rfl,rfl,drqz⟩
end Go.Vl

namespace Go.Vl
open Go Go.Proofs Go.Proofs.Tryz
theorem lw12 {s:DevS}(h:s.ls.length=16):LogW (s.ls.length*64) 128 576:=by rw [h];exact ⟨by decide,by decide,by decide,by decide,by decide⟩
def fW1:TF:=layF 64 [1,2,3] false tf0
def fW:TF:=layF 66 [9,9] true fW1
theorem fW_ext:xcl (extX [(64,[1,2,9])])=ints [64,3]:=rfl
theorem fW1_eq:layF 64 [1,2,3] false tf0=fW1:=rfl
theorem fW_eq:layF 66 [9,9] true fW1=fW:=rfl
theorem fW_runs:runsF 1024 false fW=[(64,[1,2,9])]/\ runsF 1024 true fW=[(67,[9])]:=by decide+kernel
theorem fW_com:(comS 128 576 1024 fW (newS 16)).1=(0,true):=by decide+kernel
theorem fW_img:(((imgS (comS 128 576 1024 fW (newS 16)).2).drop 64).take 5)=[1,2,9,9,0]:=by decide+kernel
theorem fW_off:(comS 128 576 1024 fW (newS 16)).2.off=false:=by decide+kernel
theorem fW_len:(comS 128 576 1024 fW (newS 16)).2.ls.length=16:=by decide+kernel
theorem fW_stp:stpS 128 576 (comS 128 576 1024 fW (newS 16)).2=0:=by decide+kernel
theorem new_off (n:Nat):(newS n).off=false:=rfl
theorem new_ops (n:Nat):(newS n).ops=0:=rfl
theorem new_len (n:Nat):(newS n).ls.length=n:=by simp [newS]
theorem new_stp:stpS 128 576 (newS 16)=0:=by decide+kernel
theorem fW_ov:ovF fW 64 (((imgS (newS 16)).drop 64).take 5)=[1,2,9,9,0]:=by decide+kernel
theorem new_room:Room (2*1024+576+8) (newS 16):=λ l hl=>by
  simp only [newS,List.mem_replicate] at hl;rw [hl.2];decide
attribute [local irreducible] crk crL crc Sl pt ro Dev imgS recS readS recsF rdW rdO rkT Parts rvl recordsS runsL adrF kcl xcl kys runA runsF layF linR flLs stoL writeT writeS comS clearS extX
theorem opened12_c {A R:SP}{C:SP->SP}{d:Nat}{s:DevS}(hc:Ct A (Dev d s) R C:=by exact cbqz)(hls:s.ls.length=16:=by assumption):
    Fn Tryz.prog 90 #[pz d] A (λ r B=>∃lg p,r=(pz p)/\ B=A*pt lg (cl (lcs11 d 128 576) 99)*pt p (cl (pocs lg d none) 110)):=by
  refine fn_enterW func90 rfl ntmps90 (by simp) ?_;refine Zbz ?_;refine tl_c rfl (o_call bd38 rfl (Open_ok (hc:=hc) (p:=128) (q:=576) (hok:=by rw [hls];omega))) ?_;rintro _ _ ⟨b8,rfl,rfl⟩;refine Zhd ?_;refine Zck ?_;intro h;refine Zgr ?_;refine tl_c rfl (o_call bd39 rfl (New12_c (hc:=ct_left hc) (at_:=128) (sz:=576) (hl:=has_here) (hlw:=lw12 hls))) ?_;rintro _ _ ⟨p16,rfl,rfl⟩;refine Zhd ?_;refine Zck ?_;intro h;refine Zc6 ?_;refine Zd ?_;exact ⟨_,_,res1 rfl rfl,Dr.sat drqz,b8,p16,rfl,rfl⟩
end Go.Vl

namespace Go.Vl
open Go Go.Proofs Go.Proofs.Tryz
section
variable {A R:SP} {C:SP->SP} {t p lg d mb at_ sz:Nat} {M:MS} {over:Bool} {s:DevS} (hc:Ct A (TxA t p lg d mb at_ sz M over s) R C)
include hc
theorem txa_dev:Ct A (Dev d s) (R*pt p (cl (pocs lg d (if over then none else some t)) 110)*pt lg (cl (lcs11 d at_ sz) 99)*pt t (cl (txcs p mb over) 113)*pt mb (mpo .i64 M)) (λ Y=>R*pt p (cl (pocs lg d (if over then none else some t)) 110)*pt lg (cl (lcs11 d at_ sz) 99)*pt t (cl (txcs p mb over) 113)*pt mb (mpo .i64 M)*Y):=
  ⟨by rw [hc.1];unfold TxA;ac_rfl,λ _=>rfl⟩
theorem txa_t:Has A t (cl (txcs p mb over) 113):=λ g w h=>by
  rw [hc.1] at h;unfold TxA at h;exact has_pt g w (h.right.left.right)
theorem txa_mb:Has A mb (mpo .i64 M):=λ g w h=>by
  rw [hc.1] at h;unfold TxA at h;exact has_pt g w (h.right.right)
end
theorem com_eq {x:(Int×Bool)×DevS}{e:Int}{b:Bool}{s:DevS}(h:x=((e,b),s))(h1:x.1=(0,true)):e=0/\ b=true:=by rw [h] at h1;simpa using h1
attribute [local irreducible] crk crL crc Sl pt ro Dev imgS recS readS recsF rdW rdO rkT Parts rvl recordsS runsL adrF kcl xcl kys runA runsF layF linR flLs stoL writeT writeS comS clearS extX ovF newS fW fW1
theorem Zhw {p r:Prop}(k:r)(h:Kq r->p:=by intro k;refine fn_enterW func32 rfl ntmps32 (by simp) ?_;refine Zj ?_;exact k.o):p:=h ⟨k⟩
theorem Ziv {p r:Prop}(k:r)(h:Kq r->p:=by intro k;refine Zf8 ?_;refine Zcf ?_;exact k.o):p:=h ⟨k⟩
theorem CommitO_c {A:SP}{p t mb:Nat}(ht:Has A t (cl (txcs p mb true) 113):=by exact hbqz):
    Fn Tryz.prog 32 #[pz t] A (λ r B=>r= .int .i64 3/\ A=B):=by
  refine Zhw ?_;refine tc_scope (l:=0) (λ _ _=>False) rfl (λ _ _ h=>h.elim) ?_;intro hsc;refine Zb ?_;refine tl_c rfl (o_call bd95 rfl (begunO_c (ht:=ht))) ?_;refine Ziv ?_;intro h;refine Zjk ?_;refine q_then_r (q_sc_r ?_);exact ⟨.int .i64 3,_,res1 rfl rfl,Dr.sat drqz,rfl,rfl⟩
theorem works_c {A:SP}:
    Fn Tryz.prog 27 #[] A (λ r B=>r= .bool true/\ A=B):=by
  refine fn_enterW func27 rfl ntmps27 (by simp) ?_;have hl0:(newS 16).ls.length=16:=new_len 16;have ho0:(newS 16).off=false:=new_off 16;refine Zj ?_;refine sr ?_;refine tl_c rfl (o_call bd37 rfl (New_c (n:=16))) ?_;rintro _ _ ⟨d1,rfl,rfl⟩;refine Zit ?_;refine tl_c rfl (o_call bd90 rfl (opened12_c (s:=newS 16))) ?_;rintro _ _ ⟨lg1,p1,rfl,rfl⟩;refine Zd1 ?_;refine Zdr ?_;refine tl_bool (d:=17) rfl dbq (sbq ?_);intro h;refine tlm ?_;refine Zi6 ?_;refine tl_bool (d:=21) rfl dbq (sbq ?_);intro h;refine tlm ?_;refine tl_c rfl (o_call bd44 rfl (State12_c (s:=newS 16) (at_:=128) (sz:=576) (hl:=by exact hbqz) (hp:=by exact hbqz) (hlw:=lw12 hl0))) ?_;rintro _ _ ⟨rfl,rfl⟩;refine tl_env (d:=23) (v:= .int .i64 0) (by show Value.int .i64 (stpS _ _ _)=_;rw [new_stp]) ?_;refine Zcz ?_;refine tl_bool (d:=26) rfl dbq (sbq ?_);intro h;refine tlm ?_;refine tl_c rfl (o_call bd45 rfl (Size12_c (s:=newS 16))) ?_;rintro _ _ ⟨rfl,rfl⟩;refine tl_env (d:=28) (v:= .int .i64 1024) (by show Value.int .i64 _=_;rw [hl0];rfl) ?_;refine tv (o_nei rfl rfl) ?_;refine Zd6 ?_;intro h;refine Zc6 ?_;refine tl_c rfl (o_call bd42 rfl (Begin12_ok (C:=λ Y=>Y) (R:=A) (s:=newS 16) (at_:=128) (sz:=576) (p:=p1) (lg:=lg1) (d:=d1) (hA:=by ac_rfl) (hlw:=lw12 hl0) (ho:=ho0) (hst:=new_stp))) ?_;rintro _ _ ⟨t1,mb1,rfl,rfl⟩;refine Zhd ?_;refine Zdr ?_;refine tl_bool (d:=38) rfl dbq (sbq ?_);intro h;refine tlm ?_;refine tv (o_eqp underlying62 rfl rfl) ?_;refine Z1 ?_;refine tl_bool (d:=42) rfl dbq (sbq ?_);intro h;refine tlm ?_;refine tl_x rfl (o_buildSliceL (k:=1) (vs:=bys [1,2,3]) (l:=bys [1,2,3]) underlying57 sz5 z5 rfl rfl (by decide) (by decide) (by intro v hv;simp only [bys,b8,List.map_cons,List.map_nil,List.mem_cons,List.not_mem_nil,or_false] at hv;rcases hv with rfl|rfl|rfl<;>rfl) rfl) ?_;rintro _ _ ⟨b44,rfl,rfl⟩;refine tl_c rfl (o_call bd46 rfl (StoreT_c (s:=newS 16) (n:=1024) (f:=tf0) (q:=64) (xs:=[1,2,3]) (hM:=mf_nil 0 1024) (hr:=(by repeat (first|with_reducible exact rs_sl|with_reducible exact rs_pt0|apply Rs.left))) (hm:=rfl) (hb:=by decide))) ?_;rintro _ _ ⟨M45,rfl,hM45,rfl⟩;rw [fW1_eq] at hM45
  refine Zcz ?_;refine tl_bool (d:=48) rfl dbq (sbq ?_);intro h;refine tlm ?_;refine tl_x rfl (o_buildSliceL (k:=1) (vs:=bys [9,9]) (l:=bys [9,9]) underlying57 sz5 z5 rfl rfl (by decide) (by decide) (by intro v hv;simp only [bys,b8,List.map_cons,List.map_nil,List.mem_cons,List.not_mem_nil,or_false] at hv;rcases hv with rfl|rfl<;>rfl) rfl) ?_;rintro _ _ ⟨b50,rfl,rfl⟩;refine tl_c rfl (o_call bd47 rfl (FreshT_c (s:=newS 16) (n:=1024) (f:=fW1) (q:=66) (xs:=[9,9]) (hM:=hM45) (hr:=(by repeat (first|with_reducible exact rs_sl|with_reducible exact rs_pt0|apply Rs.left))) (hm:=rfl) (hb:=by decide))) ?_;rintro _ _ ⟨M51,rfl,hM51,rfl⟩;rw [fW_eq] at hM51
  refine Zcz ?_;refine tl_bool (d:=54) rfl dbq (sbq ?_);intro h;refine tlm ?_;refine tl_c rfl (o_call bd56 rfl (Ops_c (hc:=txa_dev ctqz))) ?_;rintro _ _ ⟨rfl,rfl⟩;refine tl_env (d:=56) (v:= .int .i64 0) (by show Value.int .i64 _=_;rw [new_ops]) ?_;refine tv (o_nei rfl rfl) ?_;refine Zd6 ?_;intro h;refine Zc6 ?_;refine tl_c rfl (o_call bd49 rfl (Extents12_c (M:=M51) (p:=p1) (L:=[(64,[1,2,9])]) (ht:=txa_t ctqz) (hmb:=txa_mb ctqz) (hM:=hM51) (hX:=fW_runs.1) (hLl:=by decide))) ?_;rintro _ _ ⟨a60,c60,rfl,hc60,rfl⟩;rw [fW_ext]
  refine Zep ?_;refine tl_c rfl (o_call bd43 rfl (LoadT_c (s:=newS 16) (f:=fW) (q:=64) (m:=5) (hM:=hM51))) ?_;rintro _ _ ⟨a63,c63,rfl,hc63,rfl⟩;refine Zhd ?_;refine Zdr ?_;refine tl_bool (d:=68) rfl dbq (sbq ?_);intro h;refine tlm ?_;refine tl_x rfl (o_buildSliceL (k:=1) (vs:=bys [1,2,9,9,0]) (l:=bys [1,2,9,9,0]) underlying57 sz5 z5 rfl rfl (by decide) (by decide) (by intro v hv;simp only [bys,b8,List.map_cons,List.map_nil,List.mem_cons,List.not_mem_nil,or_false] at hv;rcases hv with rfl|rfl|rfl|rfl|rfl<;>rfl) rfl) ?_;rintro _ _ ⟨b70,rfl,rfl⟩;refine tl_c rfl (o_call bd60 rfl (EqBytes_c (xs:=ovF fW 64 (((imgS (newS 16)).drop 64).take 5)) (ys:=[1,2,9,9,0]) (h1:=(by repeat (first|with_reducible exact rs_sl|with_reducible exact rs_pt0|apply Rs.left))) (h2:=show Rs _ _ (bys [1,2,9,9,0]) from by repeat (first|exact rs_pt rfl|apply Rs.left)) (hx:=by rw [fW_ov];rfl) (hy:=rfl))) ?_;rintro _ _ ⟨rfl,rfl⟩;refine tl_env (d:=71) (v:= .bool true) (by show Value.bool (decide _)=_;rw [decide_eq_true fW_ov]) ?_;refine tv (o_not rfl) ?_;refine Z1 ?_;refine tl_bool (d:=74) rfl dbq (sbq ?_);intro h;refine tlm ?_;refine tv (o_len underlying107 rfl) ?_;refine Zcz ?_;refine tl_bool (d:=79) rfl dbq (sbq ?_);intro h;refine tlm ?_;refine tv (o_ixP (j:=0) (a:=a60) underlying107 sz162 rfl rfl (by decide) (nn_rs (xs:=ints [64,3]) (by repeat (first|with_reducible exact rs_sl|with_reducible exact rs_pt0|apply Rs.left)) (λ _=>by decide))) ?_;refine tv (o_ldPN (a:=a60) (xs:=ints [64,3]) (vs:=ints [64,3]) a162 sz162 rfl (by repeat (first|with_reducible exact rs_sl|with_reducible exact rs_pt0|apply Rs.left)) rfl rfl (by decide)) ?_;refine tv (o_bS (l:=[_,_]) (pv_cons wqz (pv_cons wqz pv_nil)) underlying162 z162 (pl162 underlying162) rfl) ?_;refine tl_env (d:=83) (v:= .agg (ints [64,3]).toArray) (rfl) ?_;refine tv (o_nest (k:=2) (l:=[64,3]) (m:=[64,3]) underlying162 kqz kqz kqz rfl rfl rfl rfl) ?_;refine Z1 ?_;refine tl_bool (d:=86) rfl dbq (sbq ?_);intro h;refine tlm ?_;refine tl_c rfl (o_call bd32 rfl (Commit12_c (s:=newS 16) (at_:=128) (sz:=576) (n:=1024) (f:=fW) (hM:=hM51) (hlw:=lw12 hl0) (hroom:=new_room))) ?_;rintro _ _ ⟨e88,b88,s2,M2,hs88,rfl,hM88,rfl⟩;obtain ⟨rfl,rfl⟩:=com_eq hs88 fW_com;have hs2:(comS 128 576 1024 fW (newS 16)).2=s2:=(by rw [hs88]);have hst2:stpS 128 576 s2=0:=hs2▸fW_stp
  have ho2:s2.off=false:=hs2▸fW_off
  have hl2:s2.ls.length=16:=hs2▸fW_len
  have hi2:((imgS s2).drop 64).take 5=[1,2,9,9,0]:=hs2▸fW_img
  clear hs88 hs2;refine tv (o_nei rfl rfl) ?_;refine Zd6 ?_;intro h;refine Zhp ?_;refine tc_pre (A':=A*TxA t1 p1 lg1 d1 mb1 128 576 M2 true s2) (λ _ _ h=>Dr.sat drqz _ _ h) ?_;refine tc_eq (show _=A*pt t1 (cl (txcs p1 mb1 true) 113)*pt mb1 (mpo .i64 M2)*pt p1 (cl (pocs lg1 d1 none) 110)*pt lg1 (cl (lcs11 d1 128 576) 99)*Dev d1 s2 by unfold TxA;rw [if_pos rfl];ac_rfl) ?_;refine Zm ?_;refine tl_c rfl (o_call bd40 rfl (Load12_c (s:=s2) (q:=64) (m:=5))) ?_;rintro _ _ ⟨a93,c93,rfl,hc93,rfl⟩;rw [hi2]
  refine Zit ?_;refine tl_c rfl (o_call bd42 rfl (Begin12_ok (C:=λ Y=>Y) (R:=A*pt t1 (cl (txcs p1 mb1 true) 113)*pt mb1 (mpo .i64 M2)*Sl 1 (.slice a93 5 c93) 5 (bys [1,2,9,9,0])) (s:=s2) (at_:=128) (sz:=576) (p:=p1) (lg:=lg1) (d:=d1) (hA:=by ac_rfl) (hlw:=lw12 hl2) (ho:=ho2) (hst:=hst2))) ?_;rintro _ _ ⟨t2,mb2,rfl,rfl⟩;refine Zit ?_;refine tv (o_eqi rfl rfl) ?_;refine tlm ?_;refine tl_bool (d:=103) rfl (sbq ?_) dbq;intro h;refine tlm ?_;refine tl_x rfl (o_buildSliceL (k:=1) (vs:=bys [1,2,9,9,0]) (l:=bys [1,2,9,9,0]) underlying57 sz5 z5 rfl rfl (by decide) (by decide) (by intro v hv;simp only [bys,b8,List.map_cons,List.map_nil,List.mem_cons,List.not_mem_nil,or_false] at hv;rcases hv with rfl|rfl|rfl|rfl|rfl<;>rfl) rfl) ?_;rintro _ _ ⟨b105,rfl,rfl⟩;refine tl_c rfl (o_call bd60 rfl (EqBytes_c (xs:=[1,2,9,9,0]) (ys:=[1,2,9,9,0]) (h1:=(by repeat (first|with_reducible exact rs_sl|with_reducible exact rs_pt0|apply Rs.left))) (h2:=show Rs _ _ (bys [1,2,9,9,0]) from by repeat (first|exact rs_pt rfl|apply Rs.left)) (hx:=rfl) (hy:=rfl))) ?_;rintro _ _ ⟨rfl,rfl⟩;refine tl_env (d:=106) (v:= .bool true) (rfl) ?_;refine Z7 ?_;refine tl_bool (d:=108) rfl (sbq ?_) dbq;intro h;refine tlm ?_;refine tv (o_eqi rfl rfl) ?_;refine Z7 ?_;refine tl_bool (d:=112) rfl (sbq ?_) dbq;intro h;refine tlm ?_;refine tv (o_nep underlying62 rfl rfl) ?_;refine Z7 ?_;refine tl_bool (d:=116) rfl (sbq ?_) dbq;intro h;refine tlm ?_;refine tl_c rfl (o_call bd32 rfl (CommitO_c (p:=p1) (t:=t1) (mb:=mb1) (ht:=by exact hbqz))) ?_;refine Zh7 ?_;refine Z7 ?_;refine tl_bool (d:=121) rfl (sbq ?_) dbq;intro h;refine tlm ?_;refine tl_c rfl (o_call bd48 rfl (DropT_c)) ?_;refine Zh7 ?_;refine Z7 ?_;refine tl_bool (d:=126) rfl (sbq ?_) dbq;intro h;refine tlm ?_;refine tl_c rfl (o_call bd48 rfl (DropO_c (p:=p1) (t:=t2) (mb:=mb2) (ht:=txa_t ctqz))) ?_;refine Zh7 ?_;refine Ze6 ?_;exact ⟨.bool true,A,res1 rfl rfl,Dr.sat drqz,rfl,rfl⟩
end Go.Vl

namespace Go.Vl
open Go Go.Proofs Go.Proofs.Tryz
structure SF (M:MS) (n:Nat) (g:Nat->Bool):Prop where
  wf:WfM M
  get:∀a:Int,M.get a=if 0<=a/\ g a.toNat=true then some (.bool true) else none
  keys:∀e∈M.D,∃a:Nat,a<n/\ e.k=(a:Int)/\ g a=true
  out:∀a,n<=a->g a=false
def g0:Nat->Bool:=λ _=>false
def updG (g:Nat->Bool)(p:Nat)(b:Bool):Nat->Bool:=λ c=>if c=p then b else g c
def adS (n:Nat)(g:Nat->Bool):List Nat:=(List.range n).filter g
def adZ (n:Nat)(g:Nat->Bool):List Int:=(adS n g).map λ a:Nat=>(a:Int)
structure WkX where
  h:Nat
  w:Nat
  t:Nat
  p:Nat
  lg:Nat
  d:Nat
  mb:Nat
  lv:Nat
  tk:Nat
  gv:Nat
  at_:Nat
  sz:Nat
  ba:Nat
  n:Nat
structure WkY where
  Ml:MS
  Mt:MS
  Mg:MS
  M:MS
  ls:Nat
structure WkT where
  lv:Nat->Bool
  tk:Nat->Bool
  gv:Nat->Bool
  f:TF
structure WkOk (X:WkX) (Y:WkY) (T:WkT) (N:Nat):Prop where
  l:SF Y.Ml X.n T.lv
  t:SF Y.Mt X.n T.tk
  g:SF Y.Mg X.n T.gv
  m:MF Y.M N T.f
  le:Y.ls<=X.n
  lo:∀b,b<Y.ls->T.lv b=true∨T.tk b=true
  dj:∀b,T.tk b=true->T.lv b=false
  gl:∀b,T.gv b=true->T.lv b=true
def usedB (T:WkT)(b:Nat):Bool:=T.tk b||(T.lv b&& !T.gv b)
def usedZ (T:WkT)(b:Int):Bool:=decide (0<=b)&&usedB T b.toNat
def freeB (T:WkT)(b:Nat):Bool:= !T.lv b&& !T.tk b
def leastB (T:WkT)(n:Nat):Option Nat:=(List.range n).find? (freeB T)
def hcs (p ba n lv:Nat)(ov:Option Nat):List Value:=[pz p,vn ba,vn n,.map (some lv),.pointer (ov.map λ w=>(⟨w,0,none⟩:Addr))]
def wcs (h t tk gv ls:Nat)(over:Bool):List Value:=[pz h,pz t,.map (some tk),.map (some gv),vn ls,.bool over]
def WkA (X:WkX)(Y:WkY)(s:DevS):SP:=pt X.h (cl (hcs X.p X.ba X.n X.lv (some X.w)) 210)*pt X.w (cl (wcs X.h X.t X.tk X.gv Y.ls false) 66)*pt X.lv (mpo .i64 Y.Ml)*pt X.tk (mpo .i64 Y.Mt)*pt X.gv (mpo .i64 Y.Mg)*TxA X.t X.p X.lg X.d X.mb X.at_ X.sz Y.M false s
structure WkB (X:WkX) (s:DevS):Prop where
  lo:128<=X.ba
  hi:X.ba+256*X.n<=s.ls.length*64
  top:s.ls.length*64<=4194304
section
variable {A R:SP} {C:SP->SP} {X:WkX} {Y:WkY} {s:DevS} (hc:Ct A (WkA X Y s) R C)
include hc
end
attribute [local irreducible] crk crL crc Sl pt ro Dev imgS recS readS recsF rdW rdO rkT Parts rvl recordsS runsL adrF kcl xcl kys runA runsF layF ovF TxA adZ
end Go.Vl

namespace Go.Vl
open Go Go.Proofs Go.Proofs.Tryz
def WkT.take (T:WkT)(b:Nat):WkT:={ T with tk:=updG T.tk b true }
def WkT.give (T:WkT)(b:Nat):WkT:=if T.tk b then { T with tk:=updG T.tk b false } else { T with gv:=updG T.gv b true }
def WkT.write (T:WkT)(ba b:Nat)(xs:List Nat):WkT:={ T with f:=layF (ba+256*b) xs (T.tk b) T.f }
attribute [local irreducible] crk crL crc Sl pt ro Dev imgS recS readS recsF rdW rdO rkT Parts rvl recordsS runsL adrF kcl xcl kys runA runsF layF ovF TxA adZ WkA
end Go.Vl

namespace Go.Vl
open Go Go.Proofs Go.Proofs.Tryz
def onL (zs:List Nat):Nat->Bool:=λ c=>decide (c∈zs)
def natI (zs:List Nat):List Int:=zs.map λ a:Nat=>(a:Int)
attribute [local irreducible] crk crL crc Sl pt ro Dev imgS recS readS recsF rdW rdO rkT Parts rvl recordsS runsL adrF kcl xcl kys runA runsF layF ovF TxA adZ WkA
end Go.Vl

namespace Go.Vl
open Go Go.Proofs Go.Proofs.Tryz
def nblk (n:Nat):Nat:=if n%248=0 then n/248 else n/248+1
def blkS (next:Nat)(xs:List Nat):List Nat:=le 4 next++le 2 xs.length++le 2 0++xs++List.replicate (248-xs.length) 0
abbrev Lk:=Nat×List Nat×Int
def lnkS (u:Nat->Bool)(c:Nat->List Nat)(ref:Nat):Lk×Nat:=
  if 1<=ref/\ u (ref-1)=true then
    if 1<=nm (((c (ref-1)).drop 4).take 2)/\ nm (((c (ref-1)).drop 4).take 2)<=248/\ (nm ((c (ref-1)).take 4)=0∨nm (((c (ref-1)).drop 4).take 2)=248)∧
        blkS (nm ((c (ref-1)).take 4)) (((c (ref-1)).drop 8).take (nm (((c (ref-1)).drop 4).take 2)))=c (ref-1) then
      ((ref-1,((c (ref-1)).drop 8).take (nm (((c (ref-1)).drop 4).take 2)),0),nm ((c (ref-1)).take 4))
    else ((0,[],140),0)
  else ((0,[],140),0)
def cutL (m:Nat)(l:Lk):Lk:=if 65536<m+l.2.1.length then (0,[],140) else l
def chL (f:Nat->Lk×Nat):Nat->Nat->Nat->List Lk
  |0,_,_=>[]
  |k+1,ref,m=>if ref=0 then [] else if (cutL m (f ref).1).2.2≠0 then [cutL m (f ref).1] else cutL m (f ref).1::chL f k (f ref).2 (m+(f ref).1.2.1.length)
def whL (l:List Lk):List Nat×List Nat×Int:=if l.all (λ x=>decide (x.2.2=0)) then (l.flatMap (·.2.1),l.map (·.1),0) else ([],[],140)
def whS (u:Nat->Bool)(c:Nat->List Nat)(ref:Nat):List Nat×List Nat×Int:=whL (chL (lnkS u c) 65538 ref 0)
inductive Chn (u:Nat->Bool) (c:Nat->List Nat):Nat->List Nat->List Nat->Prop
  |nil:Chn u c 0 [] []
  |cons {b next:Nat} {d t l:List Nat} (hu:u b=true) (hc:c b=blkS next d) (h1:1<=d.length) (h2:d.length<=248) (h3:next=0∨d.length=248) (hn:next<4294967296) (h:Chn u c next t l):Chn u c (b+1) (d++t) (b::l)
def conB (T:WkT)(s:DevS)(ba b:Nat):List Nat:=ovF T.f (ba+256*b) (((imgS s).drop (ba+256*b)).take 256)
theorem ovF_get (f:TF)(p:Nat)(xs:List Nat)(i:Nat):(ovF f p xs)[i]? =(xs[i]?).map λ x=>((f (p+i)).map (·.1)).getD x:=by unfold ovF;rw [List.getElem?_mapIdx]
def takeL (n:Nat):Nat->WkT->List Nat×WkT×Bool
  |0,T=>([],T,true)
  |k+1,T=>match leastB T n with
    |none=>([],T,false)
    |some b=>(b::(takeL n k (T.take b)).1,(takeL n k (T.take b)).2)
def wrL (ba:Nat):List Nat->WkT->List Nat->WkT
  |[],T,_=>T
  |[b],T,s=>T.write ba b (blkS 0 s)
  |b::c::l,T,s=>wrL ba (c::l) (T.write ba b (blkS (c+1) (s.take 248))) (s.drop 248)
def refL:List Nat->Nat
  |[]=>0
  |b::_=>b+1
def putS (ba n:Nat)(T:WkT)(s:List Nat):Nat×Int×WkT:=
  if 65536<s.length then (0,4,T)
  else if (takeL n (nblk s.length) T).2.2=true then (refL (takeL n (nblk s.length) T).1,0,wrL ba (takeL n (nblk s.length) T).1 (takeL n (nblk s.length) T).2.1 s)
  else (0,7,(takeL n (nblk s.length) T).2.1)
def takeS (n:Nat)(T:WkT):Nat×Int×WkT:=match leastB T n with
  |none=>(0,7,T)
  |some b=>(b,0,T.take b)
section
variable {α:Type} {lt:α->α->Bool}
structure SWO (lt:α->α->Bool):Prop where
  asymm:∀a b,lt a b=true->lt b a=false
  ntrans:∀a b c,lt b a=false->lt c b=false->lt c a=false
def leF (lt:α->α->Bool)(a b:α):Bool:= !lt b a
def Sd (lt:α->α->Bool)(l:List α):Prop:=l.Pairwise λ a b=>lt b a=false
def eqv (lt:α->α->Bool)(a b:α):Bool:= !lt a b&& !lt b a
structure SS (lt:α->α->Bool) (l r:List α):Prop where
  sd:Sd lt r
  eq:∀a,r.filter (eqv lt a)=l.filter (eqv lt a)
def mg (lt:α->α->Bool):List α->List α->List α
  |[],ys=>ys
  |xs,[]=>xs
  |x::xs,y::ys=>if lt y x then y::mg lt (x::xs) ys else x::mg lt xs (y::ys)
termination_by xs ys=>xs.length+ys.length
end
section
variable {α:Type} {lt:α->α->Bool}
def sw (l:List α)(p q:Nat):List α:=if h:p<l.length/\ q<l.length then (l.set p (l[q]'h.2)).set q (l[p]'h.1) else l
def swR (l:List α)(a b:Nat):Nat->List α
  |0=>l
  |n+1=>sw (swR l a b n) (a+n) (b+n)
def Blk (lt:α->α->Bool)(bs:Nat)(l d:List α):Prop:=d.length=l.length/\∀k,SS lt ((l.drop (k*bs)).take bs) ((d.drop (k*bs)).take bs)
structure Blm (lt:α->α->Bool) (bs a:Nat) (l d:List α):Prop where
  len:d.length=l.length
  two:∀k,(k+1)*(2*bs)<=a->SS lt ((l.drop (k*(2*bs))).take (2*bs)) ((d.drop (k*(2*bs))).take (2*bs))
  one:∀k,a<=k*bs->SS lt ((l.drop (k*bs)).take bs) ((d.drop (k*bs)).take bs)
def srt (lt:α->α->Bool)(l:List α):List α:=l.foldl (λ acc x=>mg lt acc [x]) []
end
section
variable {α:Type} {lt:α->α->Bool}
structure InsR (lt:α->α->Bool) (p q:Nat) (d d2:List α):Prop where
  len:d2.length=d.length
  pre:d2.take p=d.take p
  post:d2.drop q=d.drop q
  ss:SS lt ((d.drop p).take (q-p)) ((d2.drop p).take (q-p))
def insT (d:List α)(x:α)(i j:Nat):List α:=d.take j++x::((d.drop j).take (i-j)++d.drop (i+1))
def rotT (d:List α)(p m q:Nat):List α:=d.take p++((d.drop m).take (q-m)++((d.drop p).take (m-p)++d.drop q))
def RotI (m i j:Nat)(d T:List α):Prop:=∃P X Y Q:List α,d=P++(X++(Y++Q))/\ P.length+i=m/\ X.length=i/\ Y.length=j/\ P++(Y++(X++Q))=T
def symT (lt:α->α->Bool)(d:List α)(p m q:Nat):List α:=d.take p++(mg lt ((d.drop p).take (m-p)) ((d.drop m).take (q-m))++d.drop q)
end
structure Mk where
  id:Nat
  at_:Int
  gr:Nat
deriving DecidableEq
def Mk.cells (m:Mk):List Value:=[.int .u32 (m.id:Nat),.int .i64 m.at_,.int .u8 (m.gr:Nat)]
def mcs (l:List Mk):List Value:=l.flatMap Mk.cells
structure OrdF (gf:Nat) (cf:Mk->Mk->Int):Prop where
  body:bodyB Tryz.prog gf=true
  run:∀ (A:SP) (x y:Mk),Fn Tryz.prog gf #[.agg x.cells.toArray,.agg y.cells.toArray] A (λ v B=>v= .int .i64 (cf x y)/\ A=B)
def ltc (cf:Mk->Mk->Int)(x y:Mk):Bool:=decide (cf x y<0)
def gA (d:List Mk)(k:Nat):Mk:=d.getD k ⟨0,0,0⟩
section
variable {α:Type} {lt:α->α->Bool}
def fwT (d:List α)(x:α)(p k:Nat):List α:=d.take p++((d.drop (p+1)).take (k-p)++x::d.drop (k+1))
end
section
variable {α:Type} {lt:α->α->Bool}
structure Bl1 (lt:α->α->Bool) (bs a:Nat) (l d:List α):Prop where
  len:d.length=l.length
  done:∀k,(k+1)*bs<=a->SS lt ((l.drop (k*bs)).take bs) ((d.drop (k*bs)).take bs)
  rest:d.drop a=l.drop a
end
def intK (P : Program) (f : Field) (k : IntKind) : Bool := f.name != "_" && plainE P f.type && (match P.underlying f.type with | some (.int j) => j == k | _ => false)
def zk (ks:List IntKind)(l:List Int):List Value:=List.zipWith Value.int ks l
def flatK (P:Program)(fs:Array Field)(ks:List IntKind):Bool:=((fs.toList.map λ f=>f.offset)==List.range ks.length)&&fs.toList.all λ f=>intK P f (ks.getD f.offset .i64)
def Mk.ns (m:Mk):List Int:=[(m.id:Int),m.at_,(m.gr:Int)]
def mkk:List IntKind:=[.u32,.i64,.u8]
section
variable {n:Nat} {ρ:Env} {A:SP} {dst:Option Tmp} {ty:TypeId} {pos:String} {after:Array Edge} {gd:Option (Nat×Bool)}
end
def cId (x y:Mk):Int:=if x.id<y.id then-1 else if y.id<x.id then 1 else 0
def cPl (x y:Mk):Int:=if x.at_<y.at_ then-1 else if y.at_<x.at_ then 1 else cId x y
attribute [local irreducible] Sl pt ro
def okM (m:Mk):Bool:=decide (0<=m.at_)&&decide (m.gr<=1)
end Go.Vl

namespace Go.Vl
open Go Go.Proofs Go.Proofs.Tryz
def SlB (e:TypeId)(v:Value)(n:Nat)(xs:List Value):SP:=λ h=>xs.length=n∧
  ((v = .slice none 0 0 ∧ n = 0 ∧ h = fun _ => none) ∨
   ∃b cap l,v= .slice (some ⟨b,0,none⟩) n cap/\ n<=cap/\ cap<=l.length/\ l.take n=xs/\ pt b (cl l e) h)
section
variable {P:Program} {n:Nat} {ρ:Env} {A:SP} {dst:Option Tmp} {ty:TypeId} {pos:String} {after:Array Edge} {gd:Option (Nat×Bool)}
end
section
variable {P:Program} {n:Nat} {ρ:Env} {A:SP} {dst:Option Tmp} {ty:TypeId} {pos:String} {after:Array Edge} {gd:Option (Nat×Bool)}
end
def bdc (p v:Value):List Value:=[p,v]
attribute [local irreducible] Sl pt ro SlB
end Go.Vl

namespace Go.Vl
open Go Go.Proofs Go.Proofs.Tryz
def lkV (x:Lk):Value:= .agg ([vn x.1,.string (sob x.2.1),.int .i64 x.2.2]:List Value).toArray
attribute [local irreducible] crk crL crc Sl pt ro Dev imgS recS readS recsF rdW rdO rkT Parts rvl recordsS runsL adrF kcl xcl kys runA runsF layF ovF TxA adZ WkA SlB blkS conB
namespace Rg
end Rg
end Go.Vl

namespace Go.Vl
open Go Go.Proofs Go.Proofs.Tryz
theorem nodup_le {l:List Nat}{n:Nat}(h:l.Nodup)(hl:∀b∈l,b<n):l.length<=n:=by
  have:=h.length_le_of_subset λ b hb=>List.mem_range.2 (hl b hb)
  rwa [List.length_range] at this
attribute [local irreducible] crk crL crc Sl pt ro Dev imgS recS readS recsF rdW rdO rkT Parts rvl recordsS runsL adrF kcl xcl kys runA runsF layF ovF TxA adZ WkA SlB blkS conB
end Go.Vl

namespace Go.Vl
open Go Go.Proofs Go.Proofs.Tryz
def nB (bl:Int):Nat:=(1+(IntKind.i64.wrap (bl-1))%60).toNat
def wasL (n:Nat)(live:List Nat):List Bool:=(List.range n).map λ c=>decide (c∈live)
def imS (n:Nat)(fs:List (List Nat))(st:List Nat×List Nat)(z:Int):List Nat×List Nat:=
  if (z%(n:Int)).toNat∈st.2 then st
  else (if st.2.length<fs.length then spl st.1 (16512+256*(z%(n:Int)).toNat) ((fs.getD st.2.length []).take 256) else st.1,st.2++[(z%(n:Int)).toNat])
def imF (n:Nat)(fs:List (List Nat))(ls:List Int):List Nat×List Nat:=ls.foldl (imS n fs) (List.replicate (16512+256*n) 0,[])
structure ImOk (n:Nat) (st:List Nat×List Nat):Prop where
  len:st.1.length=16512+256*n
  lt:∀c∈st.2,c<n
  nd:st.2.Nodup
  by_:∀x∈st.1,x<256
  z:st.1.take 16512=List.replicate 16512 0
def RsRows (A:SP)(a:Option Addr)(fs:List (List Nat)):Prop:=∃vs:List Value,vs.length=fs.length/\ Rs A a vs/\∀i (h:i<fs.length),∃b c,vs[i]? =some (.slice b fs[i].length c)/\ fs[i].length<=c/\ fs[i].length<=140737488351232/\ Rs A b (bys fs[i])
attribute [local irreducible] crk crL crc Sl pt ro Dev imgS recS readS recsF rdW rdO rkT Parts rvl recordsS runsL adrF kcl xcl kys runA runsF layF ovF TxA adZ WkA SlB blkS conB imF
end Go.Vl

namespace Go.Vl
open Go Go.Proofs Go.Proofs.Tryz
theorem rdev_cell {A R:SP}{C:SP->SP}{r:Nat}{s:DevS}(hc:Ct A (RDev r s) R C){i:Nat}{v:Value}(h:∀A lv rls av,RdevR A r lv rls av s->Cell A r i v):Cell A r i v:=λ g w hs=>by
  rw [hc.1] at hs
  obtain ⟨hw,lv,rls,av,kvs,h1,h2,hs'⟩:=rdev_iff.1 hs;exact h _ lv rls av (rdevR_of hw h1 hs') g w hs'
theorem cell_of_rs {A:SP}{b i:Nat}{xs:List Value}{v:Value}(h:Rs A (some ⟨b,0,none⟩) xs)(hv:xs[i]? =some v):Cell A b i v:=λ g w hs=>by
  obtain ⟨b',o,e,hc⟩:=h g w hs i v hv
  simp only [Option.some.injEq,Addr.mk.injEq,and_true] at e
  obtain ⟨rfl,rfl⟩:=e
  simpa using hc
theorem rdev_bytes {A R:SP}{C:SP->SP}{r:Nat}{s:DevS}(hc:Ct A (RDev r s) R C):Cell A r 0 ((vn (s.ls.length*64))):=rdev_cell hc λ A lv rls av hR=>cell_of_rs hR.d rfl
theorem rdev_gone {A R:SP}{C:SP->SP}{r:Nat}{s:DevS}(hc:Ct A (RDev r s) R C):Cell A r 5 (.bool s.off):=rdev_cell hc λ A lv rls av hR=>cell_of_rs hR.d rfl
attribute [local irreducible] crk crL crc Sl pt ro Dev imgS recS readS recsF rdW rdO rkT Parts rvl recordsS runsL adrF kcl xcl kys runA runsF layF ovF TxA adZ WkA SlB blkS conB imF RDev
theorem rNew12_c {A:SP}{r lg:Nat}:
    Fn Tryz.prog 82 #[pz r,pz lg] A (λ v B=>∃q,v= .tuple #[pz q,.int .i64 0]/\ B=A*pt q (cl [pz r,pz lg,.pointer none] 235)):=by
  refine fn_enterW func82 rfl ntmps82 (by simp) ?_;refine Zc3 ?_;refine tv (o_eqp underlying48 rfl rfl) ?_;refine tlm ?_;refine tl_bool (d:=8) rfl dbq (sbq ?_);intro h;refine tlm ?_;refine tv (o_eqp underlying152 rfl rfl) ?_;refine Zd6 ?_;intro h;refine Zgr ?_;refine tv (o_bS (l:=[_,_,_]) (pv_cons wqz (pv_cons wqz pv_nil)) underlying235 z235 (pl235 underlying235) rfl) ?_;refine tl_x rfl (o_box rfl rfl) ?_;rintro _ _ ⟨b15,rfl,rfl⟩;refine Zc4 ?_;exact ⟨_,_,res2 rfl rfl rfl,λ _ _ h=>h,b15,rfl,rfl⟩
theorem rState12_c {A R:SP}{C:SP->SP}{r:Nat}{s:DevS}(hc:Ct A (RDev r s) R C:=by exact cbqz){q lg la lz:Nat}{o:Value}(hq:Has A q (cl [pz r,pz lg,o] 235):=by exact hbqz)(hl:Has R lg (cl [pz r,vn la,vn lz] 233):=by exact hbqz)(hlw:LogW (s.ls.length*64) la lz)(hre:recordsS la lz s=([],0)):
    Fn Tryz.prog 118 #[pz q] A (λ v B=>v= .int .i64 0/\ A=B):=by
  refine fn_enterW func118 rfl ntmps118 (by simp) ?_;refine Zlc ?_;refine tv (o_fieldAddr (o:=1) underlying235 rfl rfl sz152 rfl) ?_;refine tv (o_load p152 rfl hq rfl) ?_;refine tl_c rfl (o_call bd175 rfl (rRecords_c (hc:=hc) (hl:=hl) (hlw:=hlw))) ?_;rintro _ _ ⟨a10,c10,vs10,rfl,hc10,hvs10,rfl⟩;rw [hre] at hc10 hvs10
  rw [hre]
  refine Zhd ?_;refine Zck ?_;intro h;refine Zdf ?_;refine tv (o_len underlying181 rfl) ?_;refine tv (o_gtr rfl rfl) ?_;refine Z3 ?_;intro h;refine Zc ?_;refine Zd0 ?_;exact ⟨.int .i64 0,_,res1 rfl rfl,(λ g w h=>by rw [hc.1];rw [hc.2] at h;exact Dr.sat (A':=R*RDev r s) drqz g w h),rfl,rfl⟩
theorem Z9 {p r:Prop}(k:r)(h:Kq r->p:=by intro k;refine tv (o_nilCheck rfl) ?_;refine tv (o_fieldAddr (o:=0) underlying235 rfl rfl sz48 rfl) ?_;exact k.o):p:=h ⟨k⟩
theorem Zkd {p r:Prop}(k:r)(h:Kq r->p:=by intro k;refine Z9 ?_;refine tv (o_load p48 rfl hsqz rfl) ?_;exact k.o):p:=h ⟨k⟩
theorem Zfa {p r:Prop}(k:r)(h:Kq r->p:=by intro k;refine Zb2 ?_;refine tv (o_fieldAddr (o:=2) underlying235 rfl rfl sz125 rfl) ?_;exact k.o):p:=h ⟨k⟩
theorem Zl1 {p r:Prop}(k:r)(h:Kq r->p:=by intro k;refine tv (o_nep underlying125 rfl rfl) ?_;refine Z3 ?_;exact k.o):p:=h ⟨k⟩
theorem rBegin12_c {A R:SP}{q r lg la lz:Nat}{s:DevS}(hA:A=R*pt q (cl [pz r,pz lg,.pointer none] 235)*pt lg (cl [pz r,vn la,vn lz] 233)*RDev r s)(hlw:LogW (s.ls.length*64) la lz)(hre:recordsS la lz s=([],0))(ho:s.off=false:=by assumption):
    Fn Tryz.prog 116 #[pz q] A (λ v B=>∃t,v= .tuple #[pz t,.int .i64 0]/\ B=R*pt q (cl [pz r,pz lg,pz t] 235)*pt lg (cl [pz r,vn la,vn lz] 233)*RDev r s*pt t (cl [pz q,.slice none 0 0,.bool false] 263)):=by
  refine fn_enterW func116 rfl ntmps116 (by simp) ?_;subst hA;refine Zc3 ?_;refine Zkd ?_;refine Zz ?_;refine tv (o_loadC p4 rfl (rdev_gone ctqz)) ?_;refine tl_env (d:=11) (v:= .bool false) (congrArg Value.bool ho) ?_;refine Z3 ?_;intro h;refine Zc ?_;refine Zfa ?_;refine tv (o_load p125 rfl hsqz rfl) ?_;refine Zl1 ?_;intro h;refine Zc6 ?_;refine tl_c rfl (o_call bd118 rfl (rState12_c (s:=s) (la:=la) (lz:=lz) (r:=r) (lg:=lg) (hlw:=hlw) (hre:=hre))) ?_;refine Zln ?_;intro h;refine Zgr ?_;refine tv (o_bS (l:=[_,_,_]) (pv_cons wqz pv_nil) underlying263 z263 (pl263 underlying263) rfl) ?_;refine tl_x rfl (o_box rfl rfl) ?_;rintro _ _ ⟨b25,rfl,rfl⟩;refine tv (o_nilCheck rfl) ?_;refine tv (o_fieldAddr (o:=2) underlying235 rfl rfl sz125 rfl) ?_;refine tl_u rfl (o_stU (l':=[pz r,pz lg,pz b25]) rfl upqz sz125 rfl rfl (by show 2<3;decide) rfl) ?_;refine Zld ?_;refine tv (o_fieldAddr (o:=2) underlying235 rfl rfl sz125 rfl) ?_;refine tv (o_load p125 rfl hsqz rfl) ?_;refine Zc4 ?_;exact ⟨_,_,res2 rfl rfl rfl,λ _ _ h=>h,b25,rfl,rfl⟩
end Go.Vl

namespace Go.Vl
open Go Go.Proofs Go.Proofs.Tryz
def kdT (f:TF)(a:Nat):Int:=match f a with
  |none=>0
  |some c=>if c.2 then 2 else 1
def lineC (f:TF)(d:Nat):List Value:=Value.int .i64 ((d:Nat):Int)::(bys ((List.range 64).map λ j=>byF f (64*d+j))++ints ((List.range 64).map λ j=>kdT f (64*d+j)))
theorem lineC_len (f:TF)(d:Nat):(lineC f d).length=129:=by unfold lineC;simp [bys_length,ints_length]
theorem lineC_at0 (f:TF)(d:Nat):(lineC f d)[0]? =some ((vn d)):=rfl
theorem rangeM_at {α:Type}(g:Nat->α){n j:Nat}(h:j<n):((List.range n).map g)[j]? =some (g j):=by rw [List.getElem?_map,List.getElem?_range h];rfl
theorem rangeM_set {α:Type}(g:Nat->α){n j:Nat}(x:α):((List.range n).map g).set j x=(List.range n).map λ i=>if i=j then x else g i:=by
  refine List.ext_getElem? λ i=> ?_
  rw [List.getElem?_set,List.length_map,List.length_range]
  by_cases hi:i<n
  . rw [rangeM_at _ hi,rangeM_at _ hi]
    by_cases hj:j=i
    . subst hj;rw [if_pos rfl,if_pos hi,if_pos rfl]
    rw [if_neg hj,if_neg (λ e=>hj e.symm)]
  rw [List.getElem?_eq_none (by simp;omega),List.getElem?_eq_none (by simp;omega)]
  by_cases hj:j=i
  . subst hj;rw [if_pos rfl,if_neg hi]
  rw [if_neg hj]
theorem lineC_B {f:TF}{d j:Nat}(h:j<64):(lineC f d)[1+j]? =some (.int .u8 ((byF f (64*d+j):Nat):Int)):=by
  unfold lineC
  rw [Nat.add_comm,List.getElem?_cons_succ,List.getElem?_append_left (by rw [bys_length];simp;exact h)]
  unfold bys
  rw [List.getElem?_map,rangeM_at _ h];rfl
theorem lineC_K {f:TF}{d j:Nat}(h:j<64):(lineC f d)[65+j]? =some (.int .i64 (kdT f (64*d+j))):=by
  unfold lineC
  rw [show 65+j=(64+j)+1 by omega,List.getElem?_cons_succ,List.getElem?_append_right (by rw [bys_length];simp),bys_length,List.length_map,List.length_range,Nat.add_sub_cancel_left]
  unfold ints
  rw [List.getElem?_map,rangeM_at _ h];rfl
theorem lineC_eq {f g:TF}{d:Nat}(h:∀j,j<64->f (64*d+j)=g (64*d+j)):lineC f d=lineC g d:=by
  unfold lineC
  rw [show ((List.range 64).map λ j=>byF f (64*d+j))=(List.range 64).map λ j=>byF g (64*d+j) from List.map_congr_left λ j hj=>by unfold byF;rw [h j (List.mem_range.1 hj)],
    show ((List.range 64).map λ j=>kdT f (64*d+j))=(List.range 64).map λ j=>kdT g (64*d+j) from List.map_congr_left λ j hj=>by unfold kdT;rw [h j (List.mem_range.1 hj)]]
def putB (f:TF)(a x:Nat)(fr:Bool):TF:=λ c=>if c=a then some (x,((f a).map (·.2)).getD fr) else f c
theorem lineC_put {f:TF}{d j x:Nat}{fr:Bool}(h:j<64):((lineC f d).set (1+j) (.int .u8 ((x:Nat):Int))).set (65+j) (.int .i64 (kdT (putB f (64*d+j) x fr) (64*d+j)))=lineC (putB f (64*d+j) x fr) d:=by
  have e1:((List.range 64).map λ i=>byF (putB f (64*d+j) x fr) (64*d+i))=((List.range 64).map λ i=>byF f (64*d+i)).set j x:=by
    rw [rangeM_set]
    refine List.map_congr_left λ i _=> ?_
    unfold byF putB
    by_cases hi:i=j
    . subst hi;rw [if_pos rfl,if_pos rfl];rfl
    rw [if_neg oqz,if_neg hi]
  have e2:((List.range 64).map λ i=>kdT (putB f (64*d+j) x fr) (64*d+i))=((List.range 64).map λ i=>kdT f (64*d+i)).set j (kdT (putB f (64*d+j) x fr) (64*d+j)):=by
    rw [rangeM_set]
    refine List.map_congr_left λ i _=> ?_
    by_cases hi:i=j
    . subst hi;rw [if_pos rfl]
    rw [if_neg hi]
    unfold kdT putB
    rw [if_neg oqz]
  unfold lineC
  rw [e1,e2,show 1+j=j+1 by omega,List.set_cons_succ,show 65+j=(64+j)+1 by omega,List.set_cons_succ,List.set_append_left _ _ (by rw [bys_length];simp;exact h),List.set_append_right _ _ (by rw [List.length_set,bys_length];simp)]
  congr 2
  . unfold bys;rw [List.map_set];rfl
  rw [List.length_set,bys_length,List.length_map,List.length_range,Nat.add_sub_cancel_left]
  unfold ints;rw [List.map_set];rfl
theorem kdT_put {f:TF}{a x:Nat}{fr:Bool}:kdT (putB f a x fr) a=if kdT f a=0 then (if fr then 2 else 1) else kdT f a:=by
  unfold kdT putB
  rw [if_pos rfl]
  cases hf:f a with
  |none=>rfl
  |some c=>cases hc:c.2<;>simp [hc]
theorem lineC_other {f:TF}{d d2 j x:Nat}{fr:Bool}(h:j<64)(hd:d2≠d):lineC (putB f (64*d+j) x fr) d2=lineC f d2:=lineC_eq λ i hi=>by
  unfold putB;rw [if_neg oqz]
def RLines:List Nat->List Nat->TF->SP
  |v::vs,d::D,f=>RLines vs D f*pt v (cl (lineC f d) 330)
  |_,_,_=>emp
def ptrV (vs:List Nat):List Value:=vs.map λ v=>(pz v)
theorem ptrV_len (vs:List Nat):(ptrV vs).length=vs.length:=by simp [ptrV]
theorem ptrV_at {vs:List Nat}{i:Nat}(h:i<vs.length):(ptrV vs)[i]? =some (.pointer (some ⟨vs[i],0,none⟩)):=by unfold ptrV;rw [List.getElem?_map,List.getElem?_eq_getElem h];rfl
theorem rl_get:∀{vs D:List Nat} {f:TF} {i:Nat} (hl:vs.length=D.length) (hi:i<D.length),
    ∃R,RLines vs D f=R*pt (vs[i]'oqz) (cl (lineC f D[i]) 330)/\∀f',D.Nodup->(∀d∈D,d≠D[i]->lineC f' d=lineC f d)->RLines vs D f'=R*pt (vs[i]'oqz) (cl (lineC f' D[i]) 330)
  |[],[],_,_,_,hi=>by simp at hi
  |v::vs,d::D,f,0,h,_=>by
    refine ⟨RLines vs D f,rfl,λ f' hn hf=> ?_⟩;have hd:=(List.nodup_cons.1 hn).1
    have:∀ (vs D:List Nat),(∀x∈D,lineC f' x=lineC f x)->RLines vs D f'=RLines vs D f:=by
      intro vs
      induction vs with
      |nil=>intro D _;cases D<;>rfl
      |cons v vs ih=>
        intro D h
        cases D with
        |nil=>rfl
        |cons d D=>
          unfold RLines
          rw [ih D (λ x hx=>h x (List.mem_cons_of_mem _ hx)),h d (List.mem_cons_self ..)]
    show RLines vs D f'*pt v (cl (lineC f' d) _)=_
    rw [this vs D λ x hx=>hf x (List.mem_cons_of_mem _ hx) λ e=>hd (by rw [show x=d from e] at hx;exact hx)]
    rfl
  |v::vs,d::D,f,i+1,h,hi=>by
    obtain ⟨R,h1,h2⟩:=rl_get (vs:=vs) (D:=D) (f:=f) (i:=i) (by simpa using h) (by simpa using hi);refine ⟨R*pt v (cl (lineC f d) 330), ?_,λ f' hn hf=> ?_⟩
    . show RLines vs D f*pt v (cl (lineC f d) _)=_
      rw [h1,star_swap];rfl
    have hn2:=(List.nodup_cons.1 hn)
    have hd:lineC f' d=lineC f d:=hf d (List.mem_cons_self ..) λ e=>hn2.1 (by
      have:D[i]'(by simpa using hi)∈D:=List.getElem_mem _
      rw [show d=D[i]'(by simpa using hi) from e];exact this)
    show RLines vs D f'*pt v (cl (lineC f' d) _)=_
    rw [h2 f' hn2.2 (λ x hx hne=>hf x (List.mem_cons_of_mem _ hx) hne),star_swap,hd];rfl
def posL (n:Nat):List Nat->Nat
  |[]=>0
  |d::D=>if d<n then posL n D+1 else 0
theorem posL_le (n:Nat):∀D:List Nat,posL n D<=D.length
  |[]=>Nat.le_refl _
  |d::D=>by unfold posL;split;(have:=posL_le n D;rw [List.length_cons];omega);omega
theorem posL_at {n:Nat}:∀{D:List Nat} (_:D.Pairwise (·<·)) {i:Nat} (hi:i<D.length),(D[i]<n↔i<posL n D)
  |d::D,h,0,_=>by
    unfold posL
    show d<n↔_
    split
    . exact ⟨λ _=>by omega,λ _=>by assumption⟩
    exact ⟨λ h9=>by omega,λ h9=>by omega⟩
  |d::D,h,i+1,hi=>by
    have hp:=List.pairwise_cons.1 h;have ih:=posL_at (n:=n) hp.2 (i:=i) (by simpa using hi);have hlt:d<D[i]'(by simpa using hi):=hp.1 _ (List.getElem_mem _)
    unfold posL
    show D[i]'_<n↔_
    split
    . rw [ih];omega
    exact ⟨λ h9=>by omega,λ h9=>by omega⟩
attribute [local irreducible] crk crL crc Sl pt ro Dev imgS recS readS recsF rdW rdO rkT Parts rvl recordsS runsL adrF kcl xcl kys runA runsF layF ovF TxA adZ WkA SlB blkS conB imF RDev lineC RLines
theorem Zfc {p r:Prop}(k:r)(h:Kq r->p:=by intro k;refine Zs ?_;refine tv (o_fieldAddr (o:=1) underlying263 rfl rfl sz261 rfl) ?_;exact k.o):p:=h ⟨k⟩
theorem place12r_c {A:SP}{t q:Nat}{over:Bool}{a:Option Addr}{m c:Nat}{vs D:List Nat}(ht:Has A t (cl [pz q,.slice a m c,.bool over] 263))(hr:Rs A a (ptrV vs))(hm:vs.length=m)(hD:D.length=m)(hmb:m<=65536)(hs:D.Pairwise (·<·))(hN:∀i (h:i<D.length) (h2:i<vs.length),Cell A vs[i] 0 ((vn (D[i])))){n:Nat}:
    Fn Tryz.prog 270 #[pz t,vn n] A (λ r B=>r=(vn (posL n D))/\ A=B):=by
  refine fn_enterW func270 rfl ntmps270 (by simp) ?_;have hpl:=posL_le n D;refine Zj ?_;refine Zj ?_;refine Zfc ?_;refine tv (o_load p261 rfl ht rfl) ?_;refine tv (o_len underlying261 rfl) ?_;refine Za ?_;refine Zp ?_;refine tc_loop (λ kk ρ BB=>∃ (lo:Nat) (hi:Nat),(lo<=posL n D)/\ (posL n D<=hi)/\ (hi<=m)/\ kk=hi-lo/\ ρ 5=(vn lo)/\ ρ 6=(vn hi)/\ ρ 0=(pz t)/\ ρ 1=(vn n)/\ BB=A) (m:=(m)-(0)) ?_ ?_
  . exact ⟨0,m,by omega,by omega,by omega,rfl,rfl,rfl,rfl,rfl,rfl⟩
  intro k ρ B hI;obtain ⟨lo,hi,hp0,hp1,hp2,hkk1,hE5,hE6,hE0,hE1,hBA⟩:=hI;obtain rfl:=hBA.symm;refine te 5 hE5 ?_;refine te 6 hE6 ?_;refine te 0 hE0 ?_;refine te 1 hE1 ?_;refine Zed ?_;refine Zn ?_;refine tc_cond rfl (λ h=> ?_) (λ h=> ?_)
  . have hlh:lo<hi:=(by first|omega|(simp at h;omega));obtain ⟨k2,hk2⟩:∃k2,(lo+hi)/2=k2:=⟨_,rfl⟩;have hkm:k2<m:=(by omega);obtain ⟨d,hd⟩:∃d,D[k2]=d:=⟨_,rfl⟩;obtain ⟨v,hv⟩:∃v,vs[k2]=v:=⟨_,rfl⟩;have hNk:=hN k2 oqz oqz;rw [hd,hv] at hNk
    have hpa:=posL_at (n:=n) hs (i:=k2) oqz;rw [hd] at hpa
    refine Zi4 ?_;refine Zb7 ?_;refine tv adqz ?_;refine tv (o_quoN (b:=2) rfl rfl oqz) ?_;refine tl_env (d:=19) (v:=(vn k2)) (by show Value.int .i64 (((lo+hi)/2:Nat):Int)=_;rw [hk2]) ?_;refine Za ?_;refine Zfc ?_;refine tv (o_load p261 rfl ht rfl) ?_;refine tlm ?_;refine tv (o_ixP1 (a:=a) (j:=k2) underlying261 sz325 rfl rfl oqz (nn_rs (xs:=ptrV vs) (by repeat (first|exact hr|apply Rs.left)) (by rw [ptrV_len];omega))) ?_;refine tv (o_ldP (a:=a) (xs:=ptrV vs) p325 rfl (by repeat (first|exact hr|apply Rs.left)) (ptrV_at (show k2<vs.length by omega))) ?_;refine tl_env (d:=26) (v:=(pz v)) (by show Value.pointer (some ⟨vs[k2],0,none⟩)=_;rw [hv]) ?_;refine tv (o_nilCheck rfl) ?_;refine tv (o_fieldAddr (o:=0) underlying330 rfl rfl sz3 rfl) ?_;refine tv (o_loadC p3 rfl hNk) ?_;refine tlm ?_;refine Zn ?_;refine tc_cond rfl (sbq ?_) (sbq ?_)
    . intro h;refine Zm ?_;refine tv (o_addI rfl rfl oqz) ?_;refine tl_env (d:=33) (v:=(vn (k2+1))) (rfl) ?_;refine Zdp ?_;exact ⟨_,by omega,_,_,by omega,by omega,by omega,rfl,rfl,rfl,rfl,rfl,rfl⟩
    intro h;refine Zm ?_;refine Zdp ?_;exact ⟨_,by omega,_,_,by omega,by omega,by omega,rfl,rfl,rfl,rfl,rfl,rfl⟩
  obtain rfl:lo=posL n D:=by have h9:¬lo<hi:=(by first|omega|(simp at h;omega));omega
  refine Zio ?_;exact ⟨.int .i64 ((posL n D:Nat):Int),_,res1 rfl rfl,Dr.sat drqz,rfl,rfl⟩
theorem Zdo {p r:Prop}(k:r)(h:Kq r->p:=by intro k;refine Zw ?_;refine tv (o_fieldAddr (o:=1) underlying263 rfl rfl sz261 rfl) ?_;exact k.o):p:=h ⟨k⟩
theorem line12r_c {A:SP}{t q:Nat}{over:Bool}{a:Option Addr}{m c:Nat}{vs D:List Nat}(ht:Has A t (cl [pz q,.slice a m c,.bool over] 263))(hr:Rs A a (ptrV vs))(hm:vs.length=m)(hD:D.length=m)(hmb:m<=65536)(hs:D.Pairwise (·<·))(hN:∀i (h:i<D.length) (h2:i<vs.length),Cell A vs[i] 0 ((vn (D[i])))){n:Nat}:
    Fn Tryz.prog 264 #[pz t,vn n] A (λ r B=>∃o:Option Nat,r= .pointer (o.map λ v=>(⟨v,0,none⟩:Addr))/\ ((o=none/\ n∉D)∨∃ (i v:Nat),o=some v/\ D[i]? =some n/\ vs[i]? =some v)/\ A=B):=by
  refine fn_enterW func264 rfl ntmps264 (by simp) ?_;have hpl:=posL_le n D;obtain ⟨k2,hk2⟩:∃k2,posL n D=k2:=⟨_,rfl⟩;rw [hk2] at hpl
  refine Zbz ?_;refine tlm ?_;refine tl_c rfl (o_call bd270 rfl (place12r_c (n:=n) (ht:=ht) (hr:=hr) (hm:=hm) (hD:=hD) (hmb:=hmb) (hs:=hs) (hN:=hN))) ?_;rintro _ _ ⟨rfl,rfl⟩;refine tl_env (d:=8) (v:=(vn k2)) (by rw [←hk2];rfl) ?_;refine Zd1 ?_;refine Zdo ?_;refine tv (o_load p261 rfl ht rfl) ?_;refine tv (o_len underlying261 rfl) ?_;refine Zdq ?_;refine tl_bool (d:=16) rfl (λ h=> ?_) (λ h=> ?_)
  . have hkm:k2<m:=(by first|omega|(simp at h;omega));obtain ⟨d,hd⟩:∃d,D[k2]=d:=⟨_,rfl⟩;obtain ⟨v,hv⟩:∃v,vs[k2]=v:=⟨_,rfl⟩;have hNk:=hN k2 oqz oqz;rw [hd,hv] at hNk
    refine Zdo ?_;refine tv (o_load p261 rfl ht rfl) ?_;refine tlm ?_;refine tv (o_ixP1 (a:=a) (j:=k2) underlying261 sz325 rfl rfl oqz (nn_rs (xs:=ptrV vs) (by repeat (first|exact hr|apply Rs.left)) (by rw [ptrV_len];omega))) ?_;refine tv (o_ldP (a:=a) (xs:=ptrV vs) p325 rfl (by repeat (first|exact hr|apply Rs.left)) (ptrV_at (show k2<vs.length by omega))) ?_;refine tl_env (d:=23) (v:=(pz v)) (by show Value.pointer (some ⟨vs[k2],0,none⟩)=_;rw [hv]) ?_;refine tv (o_nilCheck rfl) ?_;refine tv (o_fieldAddr (o:=0) underlying330 rfl rfl sz3 rfl) ?_;refine tv (o_loadC p3 rfl hNk) ?_;refine tlm ?_;refine tv (o_eqi rfl rfl) ?_;refine Zdu ?_;refine tc_cond rfl (λ h=> ?_) (λ h=> ?_)
    . have hdn:d=n:=(by first|omega|(have h9:=of_decide_eq_true h;omega)|(simp at h;omega));refine Zfc ?_;refine tv (o_load p261 rfl ht rfl) ?_;refine tlm ?_;refine tv (o_ixP1 (a:=a) (j:=k2) underlying261 sz325 rfl rfl oqz (nn_rs (xs:=ptrV vs) (by repeat (first|exact hr|apply Rs.left)) (by rw [ptrV_len];omega))) ?_;refine tv (o_ldP (a:=a) (xs:=ptrV vs) p325 rfl (by repeat (first|exact hr|apply Rs.left)) (ptrV_at (show k2<vs.length by omega))) ?_;refine tl_env (d:=36) (v:=(pz v)) (by show Value.pointer (some ⟨vs[k2],0,none⟩)=_;rw [hv]) ?_;refine Zr ?_;exact ⟨.pointer (some ⟨v,0,none⟩),A,res1 rfl rfl,λ _ _ h=>h,some v,rfl,.inr ⟨k2,v,rfl,by rw [List.getElem?_eq_getElem oqz,hd,hdn],by rw [List.getElem?_eq_getElem oqz,hv]⟩,rfl⟩
    have hdn:¬d=n:=(by first|omega|(have h9:=of_decide_eq_false h;omega)|(simp at h;omega));refine Zc ?_;refine Zd0 ?_
    exact ⟨.pointer none,A,res1 rfl rfl,λ _ _ h=>h,none,rfl,.inl ⟨rfl,λ hm9=>by
      obtain ⟨i,hi,hin⟩:=List.mem_iff_getElem.1 hm9;have h1:=(posL_at (n:=n) hs hi);rw [hk2,hin] at h1
      have h3:¬i<k2:=λ h4=>Nat.lt_irrefl _ (h1.2 h4)
      first
        |omega
        | (have h2 : ¬ D[k2] < n := fun h5 => by have h6 := (posL_at (n := n) hs (i := k2) oqz).1 h5; omega
           rcases Nat.lt_or_ge k2 i with h7|h7
           . have h8:=List.pairwise_iff_getElem.1 hs k2 i oqz hi h7;omega
           obtain rfl:i=k2:=by omega
           exact hdn oqz)⟩,rfl⟩
  have hkm:¬k2<m:=(by first|omega|(simp at h;omega));refine Zhj ?_;refine Z8 ?_;refine Zft ?_;refine tc_cond_f rfl ?_;refine Zc ?_;refine Zd0 ?_
  exact ⟨.pointer none,A,res1 rfl rfl,λ _ _ h=>h,none,rfl,.inl ⟨rfl,λ hm9=>by
    obtain ⟨i,hi,hin⟩:=List.mem_iff_getElem.1 hm9;have h1:=(posL_at (n:=n) hs hi);rw [hk2,hin] at h1
    have h3:¬i<k2:=λ h4=>Nat.lt_irrefl _ (h1.2 h4)
    first
      |omega
      | (have h2 : ¬ D[k2] < n := fun h5 => by have h6 := (posL_at (n := n) hs (i := k2) oqz).1 h5; omega
         rcases Nat.lt_or_ge k2 i with h7|h7
         . have h8:=List.pairwise_iff_getElem.1 hs k2 i oqz hi h7;omega
         obtain rfl:i=k2:=by omega
         exact hdn oqz)⟩,rfl⟩
end Go.Vl

namespace Go.Vl
open Go Go.Proofs Go.Proofs.Tryz
theorem rl_cell {A R:SP}{C:SP->SP}{vs D:List Nat}{f:TF}(hl:Ct A (RLines vs D f) R C)(hv:vs.length=D.length){i k:Nat}(hi:i<D.length){h2:i<vs.length}{v:Value}(h:(lineC f D[i])[k]? =some v):Cell A vs[i] k v:=λ g w hs=>by
  obtain ⟨S,e,_⟩:=rl_get (f:=f) hv hi;rw [hl.1,e,←star_assoc] at hs
  exact cell_of_has has_here h g w hs
theorem rl_cell2 {A R:SP}{C:SP->SP}{vs D:List Nat}{f:TF}(hl:Ct A (RLines vs D f) R C)(hv:vs.length=D.length){i k d v:Nat}(hD:D[i]? =some d)(hV:vs[i]? =some v){x:Value}(h:(lineC f d)[k]? =some x):Cell A v k x:=by
  obtain ⟨h1,rfl⟩:=List.getElem?_eq_some_iff.1 hD;obtain ⟨h2,rfl⟩:=List.getElem?_eq_some_iff.1 hV;exact rl_cell hl hv h1 h
theorem ovI_next {f:TF}{p:Nat}{X:List Nat}{i y:Nat}(hi:i<X.length)(h:(ovF f p X)[i]? =some y):((ovF f p X).take i++X.drop i).set i y=(ovF f p X).take (i+1)++X.drop (i+1):=by
  have hl:=ovF_len f p X;rw [List.drop_eq_getElem_cons hi,List.set_append_right _ _ (by rw [List.length_take];omega),List.length_take,hl,Nat.min_eq_left oqz,Nat.sub_self,List.set_cons_zero]
  obtain ⟨h1,h2⟩:=List.getElem?_eq_some_iff.1 h;rw [List.take_succ_eq_append_getElem h1,h2,List.append_assoc];rfl
theorem ovI_same {f:TF}{p:Nat}{X:List Nat}{i:Nat}(hi:i<X.length)(h:f (p+i)=none):(ovF f p X).take i++X.drop i=(ovF f p X).take (i+1)++X.drop (i+1):=by
  have hl:=ovF_len f p X;have h1:(ovF f p X)[i]? =some X[i]:=(by rw [ovF_get,List.getElem?_eq_getElem hi,h];rfl);have:=ovI_next hi h1;rw [←this]
  refine List.ext_getElem? λ j=> ?_
  rw [List.getElem?_set]
  by_cases hj:i=j
  . subst hj;rw [if_pos rfl,if_pos (by rw [List.length_append,List.length_take,List.length_drop];omega),List.getElem?_append_right (by rw [List.length_take];omega),List.length_take,hl,Nat.min_eq_left oqz,Nat.sub_self,List.getElem?_drop,Nat.add_zero,List.getElem?_eq_getElem hi]
  rw [if_neg hj]
theorem ovI_len (f:TF)(p:Nat)(X:List Nat)(i:Nat):((ovF f p X).take i++X.drop i).length=X.length:=by
  rw [List.length_append,List.length_take,List.length_drop,ovF_len];omega
theorem kdT_zero {f:TF}{x:Nat}:kdT f x=0↔f x=none:=by
  unfold kdT
  cases h:f x with
  |none=>simp
  |some c=>cases hc:c.2<;>simp [hc]
theorem ovF_had {f:TF}{p i:Nat}{X:List Nat}(hi:i<X.length)(h:f (p+i)≠none):(ovF f p X)[i]? =some (byF f (p+i)):=by
  rw [ovF_get,List.getElem?_eq_getElem hi]
  unfold byF
  cases h9:f (p+i) with
  |none=>exact absurd h9 h
  |some c=>rfl
attribute [local irreducible] crk crL crc Sl pt ro Dev imgS recS readS recsF rdW rdO rkT Parts rvl recordsS runsL adrF kcl xcl kys runA runsF layF ovF TxA adZ WkA SlB blkS conB imF RDev lineC RLines
theorem Zfh {p r:Prop}(k:r)(h:Kq r->p:=by intro k;refine Zb2 ?_;refine tv (o_fieldAddr (o:=2) underlying263 rfl rfl sz4 rfl) ?_;exact k.o):p:=h ⟨k⟩
theorem in12r_ok {A R:SP}{C:SP->SP}{r:Nat}{s:DevS}(hc:Ct A (RDev r s) R C:=by exact cbqz){q lg t m c:Nat}{a:Option Addr}{o:Value}{over:Bool}(hq:Has A q (cl [pz r,pz lg,o] 235):=by exact hbqz)(ht:Has A t (cl [pz q,.slice a m c,.bool over] 263):=by exact hbqz)(hov:over=false:=by rfl)(ho:s.off=false:=by assumption):
    Fn Tryz.prog 231 #[pz t] A (λ r B=>r= .int .i64 0/\ A=B):=by
  refine fn_enterW func231 rfl ntmps231 (by simp) ?_;subst hov;refine Zj ?_;refine Zfh ?_;refine tv (o_load p4 rfl ht rfl) ?_;refine Z3 ?_;intro h;refine Zc ?_;refine Zb2 ?_;refine tv (o_fieldAddr (o:=0) underlying263 rfl rfl sz124 rfl) ?_;refine tv (o_load p124 rfl ht rfl) ?_;refine Z9 ?_;refine tv (o_load p48 rfl hq rfl) ?_;refine Zz ?_;refine tv (o_loadC p4 rfl (rdev_gone hc)) ?_;refine tl_env (d:=16) (v:= .bool false) (congrArg Value.bool ho) ?_;refine Z3 ?_;intro h;refine Zc ?_;refine Zd0 ?_;exact ⟨.int .i64 0,_,res1 rfl rfl,Dr.sat drqz,rfl,rfl⟩
theorem Zhe {p r:Prop}(k:r)(h:Kq r->p:=by intro k;refine tv (o_fieldAddr (o:=0) underlying263 rfl rfl sz124 rfl) ?_;refine tv (o_load p124 rfl hsqz rfl) ?_;exact k.o):p:=h ⟨k⟩
theorem Load12r_c {A R:SP}{q r lg la lz t m c:Nat}{a:Option Addr}{vs D:List Nat}{f:TF}{s:DevS}(hA:A=R*(pt q (cl [pz r,pz lg,((pz t))] 235)*pt lg (cl [pz r,vn la,vn lz] 233)*RDev r s*pt t (cl [pz q,.slice a m c,.bool false] 263)*Sl 1 (.slice a m c) m (ptrV vs)*RLines vs D f))(hvm:vs.length=m)(hDm:D.length=m)(hm9:m<=65536)(hsD:D.Pairwise (·<·))(hfD:∀x,f x≠none->x/64∈D){p n:Nat}(hpn:p+n<=s.ls.length*64)(htop:s.ls.length*64<=4194304)(ho:s.off=false:=by assumption):
    Fn Tryz.prog 226 #[pz t,vn p,vn n] A (λ v B=>∃a c,v= .tuple #[.slice a n c,.int .i64 0]/\ n<=c/\ B=A*Sl 1 (.slice a n c) n (bys (ovF f p (((imgS s).drop p).take n)))):=by
  refine fn_enterW func226 rfl ntmps226 (by simp) ?_;subst hA;refine tc_eq (show _=R*pt q (cl [pz r,pz lg,((pz t))] 235)*pt lg (cl [pz r,vn la,vn lz] 233)*RDev r s*pt t (cl [pz q,.slice a m c,.bool false] 263)*Sl 1 (.slice a m c) m (ptrV vs)*RLines vs D f by ac_rfl) ?_;obtain ⟨X,hX⟩:∃X,((imgS s).drop p).take n=X:=⟨_,rfl⟩;refine Zkx ?_;refine tl_c rfl (o_call bd231 rfl (in12r_ok (s:=s) (r:=r) (q:=q) (lg:=lg) (m:=m) (c:=c) (a:=a))) ?_;refine Zln ?_;intro h;refine Zfx ?_;refine Zhe ?_;refine Zkd ?_;refine Z2 ?_;refine tl_c rfl (o_call bd174 rfl (rLoad_c (s:=s) (r:=r) (p:=p) (m:=n))) ?_;rintro _ _ ⟨a27,c27,rfl,hc27,rfl⟩;rw [hX]
  refine tl_have (λ _ _ h=>sl_len h) λ hXl=> ?_
  rw [bys_length,Nat.mul_one] at hXl
  refine Zb1 ?_;refine Z0 ?_;refine Zce ?_;refine tc_loop (λ kk ρ BB=>∃ (i:Nat),(i<=n)/\ kk=n-i/\ ρ 10=(vn i)/\ ρ 0=(pz t)/\ ρ 1=(vn p)/\ ρ 8= .int .i64 0/\ ρ 9= .slice a27 n c27/\ Dr BB (R*pt q (cl [pz r,pz lg,((pz t))] 235)*pt lg (cl [pz r,vn la,vn lz] 233)*RDev r s*pt t (cl [pz q,.slice a m c,.bool false] 263)*Sl 1 (.slice a m c) m (ptrV vs)*RLines vs D f*Sl 1 (.slice a27 n c27) n (bys ((ovF f p X).take i++X.drop i)))) (m:=n-(0)) ?_ ?_
  . exact ⟨0,by omega,rfl,rfl,rfl,rfl,rfl,rfl,(by rw [List.take_zero,List.drop_zero,List.nil_append];repeat (first|with_reducible exact dr_refl|apply dr_keep|apply dr_drop))⟩
  intro k ρ B hI;obtain ⟨i,hp0,hkk1,hE10,hE0,hE1,hE8,hE9,hBA⟩:=hI;refine tc_pre hBA.sat ?_;clear hBA;refine te 10 hE10 ?_;refine te 0 hE0 ?_;refine te 1 hE1 ?_;refine te 8 hE8 ?_;refine te 9 hE9 ?_;refine Zju ?_;refine tc_cond rfl (λ h=> ?_) (λ h=> ?_)
  . have hi:i<X.length:=(by first|omega|(simp at h;omega));obtain ⟨d,hd⟩:∃d,(p+i)/64=d:=⟨_,rfl⟩;obtain ⟨j,hj⟩:∃j,(p+i)%64=j:=⟨_,rfl⟩;have hj64:j<64:=(by omega);have hpi:64*d+j=p+i:=(by omega);refine Zin ?_;refine Z2 ?_;refine tv (o_addI rfl rfl oqz) ?_;refine tl_env (d:=39) (v:=(vn (p+i))) (rfl) ?_;refine tv (o_quoN (b:=64) rfl rfl oqz) ?_;refine tl_env (d:=40) (v:=(vn d)) (by show Value.int .i64 (((p+i)/64:Nat):Int)=_;rw [hd]) ?_;refine tl_c rfl (o_call bd264 rfl (line12r_c (n:=d) (ht:=(by repeat (first|with_reducible exact has_here|with_reducible exact has_pt|apply has_left))) (hr:=(by repeat (first|with_reducible exact rs_sl|apply Rs.left))) (hm:=hvm) (hD:=hDm) (hmb:=by omega) (hs:=hsD) (hN:=λ i h h2=>rl_cell ctqz oqz h (lineC_at0 f _)))) ?_;rintro _ _ ⟨o41,rfl,ho41,rfl⟩;refine Zep ?_;refine tv (o_nep underlying325 rfl rfl) ?_;refine tlm ?_;refine tl_bool (d:=44) rfl (λ h=> ?_) (λ h=> ?_)
    . obtain ⟨rfl,_⟩|⟨k2,v,rfl,hDk,hvk⟩:=ho41
      . exfalso;simp at h
      refine Z2 ?_;refine Zk5 ?_;refine tl_env (d:=48) (v:=(vn (p+i))) (rfl) ?_;refine tv (o_remN (b:=64) rfl rfl oqz) ?_;refine tl_env (d:=49) (v:=(vn j)) (by show Value.int .i64 (((p+i)%64:Nat):Int)=_;rw [hj]) ?_;refine tv (o_nilCheck rfl) ?_;refine tv (o_fieldAddr (o:=65) underlying330 rfl rfl sz328 rfl) ?_;refine tv (o_indexAddrAN1 (j:=j) underlying328 sz3 rfl rfl oqz) ?_;refine tv (o_loadC p3 rfl (rl_cell2 ctqz oqz hDk hvk (by show (lineC f d)[65+j]? =_;exact lineC_K hj64))) ?_;refine tl_env (d:=53) (v:= .int .i64 (kdT f (p+i))) (by rw [←hpi];rfl) ?_;refine tv (o_nei rfl rfl) ?_;refine Zdu ?_;refine tc_cond rfl (λ h=> ?_) (λ h=> ?_)
      . have hfs:f (p+i)≠none:=λ h9=>by have h8:=kdT_zero.2 h9;first|exact of_decide_eq_true h h8|(simp [h8] at h;done)|exact h h8
        have hov:=ovF_had hi hfs;refine Zh2 ?_;refine Z2 ?_;refine tv (o_addI rfl rfl oqz) ?_;refine tl_env (d:=61) (v:=(vn (p+i))) (rfl) ?_;refine tv (o_remN (b:=64) rfl rfl oqz) ?_;refine tl_env (d:=62) (v:=(vn j)) (by show Value.int .i64 (((p+i)%64:Nat):Int)=_;rw [hj]) ?_;refine tv (o_nilCheck rfl) ?_;refine tv (o_fieldAddr (o:=1) underlying330 rfl rfl sz327 rfl) ?_;refine tv (o_indexAddrAN1 (j:=j) underlying327 sz5 rfl rfl oqz) ?_;refine tv (o_loadC p5 rfl (rl_cell2 ctqz oqz hDk hvk (by show (lineC f d)[1+j]? =_;exact lineC_B hj64))) ?_;refine tl_env (d:=66) (v:= .int .u8 ((byF f (p+i):Nat):Int)) (by rw [←hpi];rfl) ?_;refine tv (o_ixP1 (a:=a27) (j:=i) underlying57 sz5 rfl rfl oqz (nn_rs (xs:=bys ((ovF f p X).take i++X.drop i)) sq3z (by rw [bys_length,ovI_len];omega))) ?_;refine tl_u rfl (o_stP (ys:=bys ((ovF f p X).take (i+1)++X.drop (i+1))) sz5 rfl rfl rfl ctqz oqz (by rw [←ovI_next hi hov];exact bys_set _ _ _)) ?_;refine Zjx ?_;exact ⟨_,by omega,i+1,by omega,rfl,rfl,rfl,rfl,rfl,rfl,drqz⟩
      have hfn:f (p+i)=none:=kdT_zero.1 (by first|exact Classical.not_not.1 (of_decide_eq_false h)|simpa using h);rw [ovI_same hi hfn]
      refine Zfl ?_;exact ⟨_,by omega,i+1,by omega,rfl,rfl,rfl,rfl,rfl,rfl,drqz⟩
    obtain ⟨rfl,hnD⟩|⟨k2,v,rfl,hDk,hvk⟩:=ho41
    rotate_left
    . exfalso;simp at h
    have hfn:f (p+i)=none:=Classical.byContradiction λ h9=>hnD (hd▸hfD _ h9)
    rw [ovI_same hi hfn]
    refine Z8 ?_;refine Zdl ?_;refine Zft ?_;refine tc_cond_f rfl ?_;refine Zfl ?_;exact ⟨_,by omega,i+1,by omega,rfl,rfl,rfl,rfl,rfl,rfl,drqz⟩
  obtain rfl:i=n:=by first|omega|(simp at h;omega)
  rw [List.take_of_length_le (by rw [ovF_len];omega),List.drop_of_length_le (show X.length<=i by omega),List.append_nil]
  refine Zf ?_;refine Zb7 ?_;refine Zc4 ?_;exact ⟨.tuple #[.slice a27 i c27,.int .i64 0],R*(pt q (cl [pz r,pz lg,((pz t))] 235)*pt lg (cl [pz r,vn la,vn lz] 233)*RDev r s*pt t (cl [pz q,.slice a m c,.bool false] 263)*Sl 1 (.slice a m c) m (ptrV vs)*RLines vs D f)*Sl 1 (.slice a27 i c27) i (bys (ovF f p X)),res2 rfl rfl rfl,(λ g w h=>h.perm (by ac_rfl)),a27,c27,rfl,hc27,by first|(rw [←hX];done)|(rw [←hX];ac_rfl)⟩
end Go.Vl

namespace Go.Vl
open Go Go.Proofs Go.Proofs.Tryz
def insD (n:Nat)(D:List Nat):List Nat:=D.take (posL n D)++n::D.drop (posL n D)
theorem insD_len (n:Nat)(D:List Nat):(insD n D).length=D.length+1:=by
  have:=posL_le n D
  unfold insD;rw [List.length_append,List.length_take,List.length_cons,List.length_drop];omega
theorem insD_mem {n d:Nat}{D:List Nat}:d∈insD n D↔d=n∨d∈D:=by
  unfold insD
  rw [List.mem_append,List.mem_cons]
  have h:d∈D↔d∈D.take (posL n D)∨d∈D.drop (posL n D):=(by rw [←List.mem_append,List.take_append_drop]);rw [h]
  constructor
  . rintro (h|h|h)
    . exact .inr (.inl h)
    . exact .inl h
    exact .inr (.inr h)
  rintro (h|h|h)
  . exact .inr (.inl h)
  . exact .inl h
  exact .inr (.inr h)
theorem posL_take {n x:Nat}{D:List Nat}(h:D.Pairwise (·<·))(hx:x∈D.take (posL n D)):x<n:=by
  obtain ⟨i,hi,rfl⟩:=List.mem_iff_getElem.1 hx;rw [List.length_take] at hi
  rw [List.getElem_take]
  exact (posL_at h oqz).2 oqz
theorem posL_drop {n x:Nat}{D:List Nat}(h:D.Pairwise (·<·))(hx:x∈D.drop (posL n D)):n<=x:=by
  obtain ⟨i,hi,rfl⟩:=List.mem_iff_getElem.1 hx;rw [List.length_drop] at hi
  rw [List.getElem_drop]
  exact Nat.le_of_not_lt λ h9=>by have:=(posL_at (n:=n) h (i:=posL n D+i) oqz).1 h9;omega
theorem insD_sorted {n:Nat}{D:List Nat}(h:D.Pairwise (·<·))(hn:n∉D):(insD n D).Pairwise (·<·):=by
  unfold insD
  rw [List.pairwise_append,List.pairwise_cons]
  refine ⟨h.sublist (List.take_sublist ..),⟨λ x hx=> ?_,h.sublist (List.drop_sublist ..)⟩,λ x hx y hy=> ?_⟩
  . exact Nat.lt_of_le_of_ne (posL_drop h hx) λ e=>hn (e▸List.mem_of_mem_drop hx)
  rcases List.mem_cons.1 hy with rfl|hy
  . exact posL_take h hx
  exact Nat.lt_of_lt_of_le (posL_take h hx) (posL_drop h hy)
theorem sorted_nodup {D:List Nat}(h:D.Pairwise (·<·)):D.Nodup:=h.imp λ h9=>Nat.ne_of_lt h9
theorem rl_ins {v d:Nat}{f:TF}:∀{vs D:List Nat} {k:Nat} (_:vs.length=D.length) (_:k<=D.length),RLines (vs.take k++v::vs.drop k) (D.take k++d::D.drop k) f=RLines vs D f*pt v (cl (lineC f d) 330)
  |vs,D,0,_,_=>by simp only [List.take_zero,List.nil_append,List.drop_zero];rfl
  |[],_,k+1,h,hk=>by simp at h;omega
  |w::vs,[],k+1,h,hk=>by simp at h
  |w::vs,e::D,k+1,h,hk=>by
    have ih:=rl_ins (v:=v) (d:=d) (f:=f) (vs:=vs) (D:=D) (k:=k) (by simpa using h) (by simpa using hk)
    simp only [List.take_succ_cons,List.drop_succ_cons,List.cons_append]
    show RLines _ _ f*pt w (cl (lineC f e) _)=RLines vs D f*pt w (cl (lineC f e) _)*pt v (cl (lineC f d) _)
    rw [ih,star_swap]
theorem ptrV_ins (vs:List Nat)(k v:Nat):((ptrV vs).take k++[pz v])++(ptrV vs).drop k=ptrV (vs.take k++v::vs.drop k):=by
  unfold ptrV
  rw [List.map_append,List.map_cons,List.map_take,List.map_drop,List.append_assoc];rfl
def line0 (d:Nat):List Value:=Value.int .i64 ((d:Nat):Int)::(bys (List.replicate 64 0)++ints (List.replicate 64 0))
theorem lineC_none {f:TF}{d:Nat}(h:∀j,j<64->f (64*d+j)=none):lineC f d=line0 d:=by
  unfold lineC line0
  rw [show ((List.range 64).map λ j=>byF f (64*d+j))=List.replicate 64 0 from List.ext_getElem (by simp) λ i h1 h2=>by
      simp at h1;rw [List.getElem_map,List.getElem_range,List.getElem_replicate];unfold byF;rw [h i h1];rfl,
    show ((List.range 64).map λ j=>kdT f (64*d+j))=List.replicate 64 0 from List.ext_getElem (by simp) λ i h1 h2=>by
      simp at h1;rw [List.getElem_map,List.getElem_range,List.getElem_replicate];unfold kdT;rw [h i h1]]
theorem sorted_len {D:List Nat}{k:Nat}(h:D.Pairwise (·<·))(hk:∀d∈D,d<k):D.length<=k:=nodup_le (sorted_nodup h) hk
attribute [local irreducible] crk crL crc Sl pt ro Dev imgS recS readS recsF rdW rdO rkT Parts rvl recordsS runsL adrF kcl xcl kys runA runsF layF ovF TxA adZ WkA SlB blkS conB imF RDev lineC RLines
theorem Zgp {p r:Prop}(k:r)(h:Kq r->p:=by intro k;refine Zw ?_;refine tv (o_fieldAddr (o:=0) underlying263 rfl rfl sz124 rfl) ?_;exact k.o):p:=h ⟨k⟩
theorem inside12r_c {A R:SP}{C:SP->SP}{r:Nat}{s:DevS}(hc:Ct A (RDev r s) R C:=by exact cbqz){q lg t m c:Nat}{a:Option Addr}{o:Value}{over:Bool}(hq:Has A q (cl [pz r,pz lg,o] 235):=by exact hbqz)(ht:Has A t (cl [pz q,.slice a m c,.bool over] 263):=by exact hbqz){p n:Nat}(hpn:p+n<=s.ls.length*64)(htop:s.ls.length*64<=4194304):
    Fn Tryz.prog 269 #[pz t,vn p,vn n] A (λ r B=>r= .bool true/\ A=B):=by
  refine fn_enterW func269 rfl ntmps269 (by simp) ?_;refine Zjv ?_;refine tl_env (d:=8) (v:= .bool true) (congrArg Value.bool (decide_eq_true oqz)) ?_;refine tlm ?_;refine tl_bool (d:=9) rfl (sbq ?_) dbq;intro h;refine tlm ?_;refine tv (o_geq rfl rfl) ?_;refine tl_env (d:=11) (v:= .bool true) (congrArg Value.bool (decide_eq_true oqz)) ?_;refine Z7 ?_;refine tl_bool (d:=13) rfl (sbq ?_) dbq;intro h;refine tlm ?_;refine Zgp ?_;refine tv (o_load p124 rfl ht rfl) ?_;refine Z9 ?_;refine tv (o_load p48 rfl hq rfl) ?_;refine Zdn ?_;refine tv (o_loadC p3 rfl (rdev_bytes hc)) ?_;refine tv (o_leq rfl rfl) ?_;refine tl_env (d:=25) (v:= .bool true) (congrArg Value.bool (decide_eq_true oqz)) ?_;refine Z7 ?_;refine tl_bool (d:=27) rfl (sbq ?_) dbq;intro h;refine tlm ?_;refine Zgp ?_;refine tv (o_load p124 rfl ht rfl) ?_;refine Z9 ?_;refine tv (o_load p48 rfl hq rfl) ?_;refine Zdn ?_;refine tv (o_loadC p3 rfl (rdev_bytes hc)) ?_;refine Zdj ?_;refine tv (o_leq rfl rfl) ?_;refine tl_env (d:=41) (v:= .bool true) (congrArg Value.bool (decide_eq_true oqz)) ?_;refine Ze6 ?_;exact ⟨.bool true,_,res1 rfl rfl,Dr.sat drqz,rfl,rfl⟩
end Go.Vl

namespace Go.Vl
open Go Go.Proofs Go.Proofs.Tryz
theorem rl_congr {f f':TF}:∀{vs D:List Nat} (_:∀x∈D,lineC f' x=lineC f x),RLines vs D f'=RLines vs D f
  |[],[],_=>rfl
  |[],_::_,_=>rfl
  |_::_,[],_=>rfl
  |v::vs,d::D,h=>by
    unfold RLines
    rw [rl_congr (vs:=vs) (D:=D) (λ x hx=>h x (List.mem_cons_of_mem _ hx)),h d (List.mem_cons_self ..)]
theorem rl_foc {vs D:List Nat}{f:TF}{k d v:Nat}(hl:vs.length=D.length)(hs:D.Pairwise (·<·))(hD:D[k]? =some d)(hV:vs[k]? =some v):
    ∃RL,RLines vs D f=RL*pt v (cl (lineC f d) 330)/\∀f',(∀e,e≠d->lineC f' e=lineC f e)->RLines vs D f'=RL*pt v (cl (lineC f' d) 330):=by
  obtain ⟨h1,rfl⟩:=List.getElem?_eq_some_iff.1 hD;obtain ⟨h2,rfl⟩:=List.getElem?_eq_some_iff.1 hV;obtain ⟨RL,e1,e2⟩:=rl_get (f:=f) hl h1;exact ⟨RL,e1,λ f' h=>e2 f' (sorted_nodup hs) λ e _ he=>h e he⟩
theorem rl_new {vs D:List Nat}{f f':TF}{d v:Nat}(hl:vs.length=D.length)(hd:d∉D)(h:∀e,e≠d->lineC f' e=lineC f e):
    RLines (vs.take (posL d D)++v::vs.drop (posL d D)) (insD d D) f'=RLines vs D f*pt v (cl (lineC f' d) 330):=by
  unfold insD
  rw [rl_ins hl (posL_le d D),rl_congr λ x hx=>h x λ e=>hd (e▸hx)]
def putsF (f:TF)(p:Nat)(X:List Nat)(fr:Bool):Nat->TF
  |0=>f
  |i+1=>putB (putsF f p X fr i) (p+i) (X.getD i 0) fr
def LnOk (k:Nat)(D:List Nat)(f:TF):Prop:=D.Pairwise (·<·)/\ (∀x,f x≠none->x/64∈D)/\ (∀d∈D,d<k)/\∀d∈D,∃x,f x≠none/\ x/64=d
theorem putB_none {f:TF}{a x y:Nat}{fr:Bool}:putB f a y fr x≠none↔x=a∨f x≠none:=by
  unfold putB
  by_cases h:x=a
  . rw [if_pos h];exact ⟨λ _=> .inl h,λ _=>nofun⟩
  rw [if_neg h];exact ⟨λ h9=> .inr h9,λ h9=>h9.resolve_left h⟩
theorem lnok_put {k a d y:Nat}{D D1:List Nat}{f:TF}{fr:Bool}(h:LnOk k D f)(hs:D1.Pairwise (·<·))(hm:∀x,x∈D1↔x=d∨x∈D)(hk:d<k)(ha:a/64=d):LnOk k D1 (putB f a y fr):=by
  refine ⟨hs,λ x hx=> ?_,λ x hx=> ?_,λ x hx=> ?_⟩
  . rcases putB_none.1 hx with rfl|hx
    . exact (hm _).2 (.inl ha)
    exact (hm _).2 (.inr (h.2.1 x hx))
  . rcases (hm x).1 hx with rfl|hx
    . exact hk
    exact h.2.2.1 x hx
  rcases (hm x).1 hx with rfl|hx
  . exact ⟨a,putB_none.2 (.inl rfl),ha⟩
  obtain ⟨z,h1,h2⟩:=h.2.2.2 x hx;exact ⟨z,putB_none.2 (.inr h1),h2⟩
theorem lnok_len {k m:Nat}{D:List Nat}{f:TF}(h:LnOk k D f)(hm:D.length=m):m<=k:=hm▸sorted_len h.1 h.2.2.1
theorem lnok_none {k d:Nat}{D:List Nat}{f:TF}(h:LnOk k D f)(hd:d∉D){j:Nat}(hj:j<64):f (64*d+j)=none:=Classical.byContradiction λ h9=>hd (by have:=h.2.1 _ h9;rwa [show (64*d+j)/64=d by omega] at this)
theorem lineC_put0 {f:TF}{d j x:Nat}{fr:Bool}(h:j<64)(hk:kdT f (64*d+j)=0):((lineC f d).set (1+j) (.int .u8 ((x:Nat):Int))).set (65+j) (.int .i64 (if fr then 2 else 1))=lineC (putB f (64*d+j) x fr) d:=by
  rw [←lineC_put h,kdT_put,if_pos hk]
theorem lineC_put1 {f:TF}{d j x:Nat}{fr:Bool}(h:j<64)(hk:kdT f (64*d+j)≠0):(lineC f d).set (1+j) (.int .u8 ((x:Nat):Int))=lineC (putB f (64*d+j) x fr) d:=by
  rw [←lineC_put h,kdT_put,if_neg hk]
  refine List.ext_getElem? λ i=> ?_
  rw [List.getElem?_set (l:=(lineC f d).set _ _)]
  by_cases hi:65+j=i
  . subst hi;rw [if_pos rfl,List.length_set,lineC_len,if_pos oqz,List.getElem?_set_ne oqz,lineC_K h]
  rw [if_neg hi]
theorem line0_z:zeroE Tryz.prog 330=some (.agg (line0 0).toArray):=by kernel_rfl
theorem line0_set (d:Nat):bld [(0,1),(1,64),(65,64)] (line0 0) [(0,(vn d))]=some (line0 d):=by kernel_rfl
theorem line0_c (d:Nat):(Value.agg (line0 d).toArray).cells=(line0 d).toArray:=by kernel_rfl
theorem ptrV_one (xs:List Nat):(ptrV xs).all oneC=true:=by
  rw [List.all_eq_true]
  intro v hv;obtain ⟨x,_,rfl⟩:=List.mem_map.1 hv
  rfl
theorem all_sub {xs ys:List Value}(h:xs.all oneC=true)(hs:∀v∈ys,v∈xs):ys.all oneC=true:=List.all_eq_true.2 λ v hv=>List.all_eq_true.1 h v (hs v hv)
attribute [local irreducible] crk crL crc Sl pt ro Dev imgS recS readS recsF rdW rdO rkT Parts rvl recordsS runsL adrF kcl xcl kys runA runsF layF ovF TxA adZ WkA SlB blkS conB imF RDev lineC RLines
theorem Zgk {p r:Prop}(k:r)(h:Kq r->p:=by intro k;refine Zw ?_;refine tv (o_fieldAddr (o:=65) underlying330 rfl rfl sz328 rfl) ?_;exact k.o):p:=h ⟨k⟩
theorem put12r_ok {A R:SP}{q r lg la lz t m c:Nat}{a:Option Addr}{vs D:List Nat}{f:TF}{s:DevS}(hA:A=R*(pt q (cl [pz r,pz lg,((pz t))] 235)*pt lg (cl [pz r,vn la,vn lz] 233)*RDev r s*pt t (cl [pz q,.slice a m c,.bool false] 263)*Sl 1 (.slice a m c) m (ptrV vs)*RLines vs D f)){p n cb:Nat}{b:Option Addr}{X:List Nat}{fr:Bool}(hvm:vs.length=m)(hDm:D.length=m)(hln:LnOk s.ls.length D f)(hb:Rs R b (bys X))(hXn:X.length=n)(hpn:p+n<=s.ls.length*64)(htop:s.ls.length*64<=4194304)(ho:s.off=false:=by assumption):
    Fn Tryz.prog 237 #[pz t,vn p,.slice b n cb,.int .i64 (if fr then 2 else 1)] A (λ rr B=>∃a2 m2 c2 vs2 D2,rr= .int .i64 0/\ (vs2.length=m2/\ D2.length=m2/\ LnOk s.ls.length D2 (putsF f p X fr n))/\ B=R*(pt q (cl [pz r,pz lg,((pz t))] 235)*pt lg (cl [pz r,vn la,vn lz] 233)*RDev r s*pt t (cl [pz q,.slice a2 m2 c2,.bool false] 263)*Sl 1 (.slice a2 m2 c2) m2 (ptrV vs2)*RLines vs2 D2 (putsF f p X fr n))):=by
  refine fn_enterW func237 rfl ntmps237 (by simp) ?_;subst hA;refine tc_eq (show _=R*pt q (cl [pz r,pz lg,((pz t))] 235)*pt lg (cl [pz r,vn la,vn lz] 233)*RDev r s*pt t (cl [pz q,.slice a m c,.bool false] 263)*Sl 1 (.slice a m c) m (ptrV vs)*RLines vs D f by ac_rfl) ?_;refine Zbz ?_;refine tl_c rfl (o_call bd231 rfl (in12r_ok (s:=s) (r:=r) (q:=q) (lg:=lg) (m:=m) (c:=c) (a:=a))) ?_;refine Zln ?_;intro h;refine Zdf ?_;refine Zgn ?_;refine tl_c rfl (o_call bd269 rfl (inside12r_c (s:=s) (r:=r) (q:=q) (lg:=lg) (m:=m) (c:=c) (a:=a) (p:=p) (n:=n) (hpn:=hpn) (htop:=htop))) ?_;refine Zbi ?_;refine Z3 ?_;intro h;refine Zjy ?_;refine tc_loop (λ kk ρ BB=>∃ (i:Nat) (Di:List Nat) (fi:TF) (vi:List Nat) (ai:Option Addr) (mi:Nat) (ci:Nat),(i<=n)/\ (vi.length=mi)/\ (Di.length=mi)/\ (LnOk s.ls.length Di fi)/\ (fi=putsF f p X fr i)/\ kk=n-i/\ ρ 10=(vn i)/\ ρ 0=(pz t)/\ ρ 1=(vn p)/\ ρ 2= .slice b n cb/\ ρ 3= .int .i64 (if fr then 2 else 1)/\ Dr BB (R*pt q (cl [pz r,pz lg,((pz t))] 235)*pt lg (cl [pz r,vn la,vn lz] 233)*RDev r s*pt t (cl [pz q,.slice ai mi ci,.bool false] 263)*Sl 1 (.slice ai mi ci) mi (ptrV vi)*RLines vi Di fi)) (m:=n-(0)) ?_ ?_
  . exact ⟨0,D,f,vs,a,m,c,by omega,hvm,hDm,hln,rfl,rfl,rfl,rfl,rfl,rfl,rfl,drqz⟩
  intro k ρ B hI;obtain ⟨i,Di,fi,vi,ai,mi,ci,hp0,hp1,hp2,hp3,hp4,hkk1,hE10,hE0,hE1,hE2,hE3,hBA⟩:=hI;refine tc_pre hBA.sat ?_;clear hBA;refine te 10 hE10 ?_;refine te 0 hE0 ?_;refine te 1 hE1 ?_;refine te 2 hE2 ?_;refine te 3 hE3 ?_;refine Zju ?_;refine tc_cond rfl (λ h=> ?_) (λ h=> ?_)
  . have hi:i<n:=(by first|omega|(simp at h;omega));obtain ⟨d,hd⟩:∃d,(p+i)/64=d:=⟨_,rfl⟩;obtain ⟨j,hj⟩:∃j,(p+i)%64=j:=⟨_,rfl⟩;have hj64:j<64:=(by omega);have hpi:64*d+j=p+i:=(by omega);obtain ⟨y,hy⟩:∃y,X[i]=y:=⟨_,rfl⟩;have hy2:X.getD i 0=y:=(by rw [List.getD_eq_getElem?_getD,List.getElem?_eq_getElem oqz];exact hy);have hmk:=lnok_len hp3 hp2;refine Zlg ?_;refine tv (o_addI rfl rfl oqz) ?_;refine tl_env (d:=35) (v:=(vn (p+i))) (rfl) ?_;refine tv (o_quoN (b:=64) rfl rfl oqz) ?_;refine tl_env (d:=36) (v:=(vn d)) (by show Value.int .i64 (((p+i)/64:Nat):Int)=_;rw [hd]) ?_;refine Zjb ?_;refine tl_c rfl (o_call bd264 rfl (line12r_c (n:=d) (vs:=vi) (D:=Di) (ht:=(by repeat (first|with_reducible exact has_here|with_reducible exact has_pt|apply has_left))) (hr:=(by repeat (first|with_reducible exact rs_sl|apply Rs.left))) (hm:=hp1) (hD:=hp2) (hmb:=by omega) (hs:=hp3.1) (hN:=λ i h h2=>rl_cell ctqz oqz h (lineC_at0 fi _)))) ?_;rintro _ _ ⟨o39,rfl,ho39,rfl⟩;refine Zd1 ?_;refine tv (o_eqp underlying325 rfl rfl) ?_;refine nq ?_;refine tc_cut (λ ρ BB=>∃ (D1:List Nat) (vs1:List Nat) (a1:Option Addr) (m1:Nat) (c1:Nat) (v:Nat) (RL:SP),(vs1.length=m1)/\ (D1.length=m1)/\ (D1.Pairwise (·<·))/\ (∀x,x∈D1↔x=d∨x∈Di)/\ (∀f',(∀e,e≠d->lineC f' e=lineC fi e)->RLines vs1 D1 f'=RL*pt v (cl (lineC f' d) 330))/\ ρ 12=(pz v)/\ ρ 0=(pz t)/\ ρ 1=(vn p)/\ ρ 2= .slice b n cb/\ ρ 3= .int .i64 (if fr then 2 else 1)/\ ρ 10=(vn i)/\ Dr BB (R*pt q (cl [pz r,pz lg,((pz t))] 235)*pt lg (cl [pz r,vn la,vn lz] 233)*RDev r s*pt t (cl [pz q,.slice a1 m1 c1,.bool false] 263)*RL*pt v (cl (lineC fi d) 330)*Sl 1 (.slice a1 m1 c1) m1 (ptrV vs1))) ?_ ?_
    . skip
      refine tc_cond rfl (λ h=> ?_) (λ h=> ?_)
      . obtain ⟨rfl,hnD⟩|⟨k2,v,rfl,hDk,hvk⟩:=ho39
        rotate_left
        . exfalso;simp at h
        obtain ⟨k2,hk2⟩:∃k2,posL d Di=k2:=⟨_,rfl⟩;have hkm:k2<=mi:=(by rw [←hk2,←hp2];exact posL_le d Di);refine tc_have (λ _ _ h=>ct_cap (k:=1) (a:=ai) (n:=mi) (c:=ci) (xs:=ptrV vi) ctqz h) λ hmc=> ?_
        refine Zb ?_;refine tv (o_bS (l:=line0 d) (z:=line0 0) (vs:=[(0,(vn d))]) (pv_cons wqz pv_nil) underlying330 line0_z (pl330 underlying330) (line0_set d)) ?_;refine tl_x rfl (o_box rfl (line0_c d)) ?_;rintro _ _ ⟨b44,rfl,rfl⟩;refine Za ?_;refine tc_seq ?_;rw [←lineC_none (f:=fi) (d:=d) λ j hj=>lnok_none hp3 hnD hj]
        refine Zfn ?_;refine tl_c rfl (o_call bd270 rfl (place12r_c (n:=d) (vs:=vi) (D:=Di) (ht:=(by repeat (first|with_reducible exact has_here|with_reducible exact has_pt|apply has_left))) (hr:=(by repeat (first|with_reducible exact rs_sl|apply Rs.left))) (hm:=hp1) (hD:=hp2) (hmb:=by omega) (hs:=hp3.1) (hN:=λ i h h2=>rl_cell ctqz oqz h (lineC_at0 fi _)))) ?_;rintro _ _ ⟨rfl,rfl⟩;refine tl_env (d:=47) (v:=(vn k2)) (by rw [←hk2];rfl) ?_;refine Za ?_;refine Zbz ?_;refine Zdo ?_;refine tv (o_load p261 rfl hsqz rfl) ?_;refine tlm ?_;refine tv (o_slice underlying261 sz325 rfl bnd_none (bnd_nat (r:=k2) rfl) oqz oqz) ?_;refine tl_x rfl (o_apN underlying261 underlying261 sz325 by325 z325 rfl (by decide) (by decide) rfl rfl (ys:=(ptrV vi).take k2) (Rs.sub (rs_cut (l:=0) (k:=1) (cap:=ci) (xs:=ptrV vi) sq3z (by rw [ptrV_len];omega)) k2) (by rw [List.length_take,ptrV_len];omega) (all_sub (ptrV_one vi) λ _ h=>List.mem_of_mem_take h) oqz) ?_;rintro _ _ ⟨a55,c55,rfl,hc55,rfl⟩;refine Zjb ?_;refine tl_x rfl (o_buildSlice1 (v:=(pz b44)) underlying261 sz325 z325 rfl rfl) ?_;rintro _ _ ⟨b58,rfl,rfl⟩;refine tl_x rfl (o_apB underlying261 underlying261 sz325 by325 z325 rfl (by decide) (by decide) rfl rfl rfl ctqz rfl rfl oqz rfl) ?_;rintro _ _ ⟨a59,c59,rfl,hc59,rfl⟩;refine Zep ?_;refine Zdo ?_;refine tv (o_load p261 rfl hsqz rfl) ?_;refine tlm ?_;refine tv (o_slice underlying261 sz325 rfl (bnd_nat (r:=k2) rfl) bnd_none oqz oqz) ?_;refine tl_x rfl (o_apR underlying261 underlying261 sz325 by325 z325 rfl (by decide) (by decide) rfl rfl ctqz (rs_cut (l:=k2) (k:=1) (cap:=ci) (xs:=ptrV vi) sq3z (by rw [ptrV_len];omega)) (by rw [List.length_drop,ptrV_len];omega) (all_sub (ptrV_one vi) λ _ h=>List.mem_of_mem_drop h) oqz (Eq.trans (by rw [Nat.mul_one]) (ptrV_ins vi k2 b44))) ?_;rintro _ _ ⟨a67,c67,rfl,hc67,rfl⟩;refine Za ?_;refine Zm ?_;refine Zdo ?_;refine tl_u rfl (o_stU rfl upqz sz261 rfl rfl (by first|decide|simp|omega) rfl) ?_;refine tl_nil ?_;exact ⟨insD d Di,vi.take k2++b44::vi.drop k2,a67,k2+1+(mi-k2),c67,b44,RLines vi Di fi,by first|exact hp1|(rw [List.length_append,List.length_take,List.length_cons,List.length_drop];omega),by first|exact hp2|(rw [insD_len];omega),by first|exact hp3.1|exact insD_sorted hp3.1 hnD,by first|exact λ x=>insD_mem|exact λ x=>⟨λ h=> .inr h,λ h=>h.elim (λ e=>e▸hdm) id⟩,by first|exact hj4|(rw [←hk2];exact λ f' h=>rl_new oqz hnD h),rfl,rfl,rfl,rfl,rfl,rfl,drqz⟩
      obtain ⟨rfl,_⟩|⟨k2,v,rfl,hDk,hvk⟩:=ho39
      . exfalso;simp at h
      obtain ⟨RL,hRL,hj4⟩:=rl_foc (f:=fi) oqz hp3.1 hDk hvk;have hdm:d∈Di:=List.mem_of_getElem? hDk;refine tc_eq (show _=R*pt q (cl [pz r,pz lg,((pz t))] 235)*pt lg (cl [pz r,vn la,vn lz] 233)*RDev r s*pt t (cl [pz q,.slice ai mi ci,.bool false] 263)*RL*pt v (cl (lineC fi d) 330)*Sl 1 (.slice ai mi ci) mi (ptrV vi) by rw [hRL];ac_rfl) ?_;refine tc_skip ?_;exact ⟨Di,vi,ai,mi,ci,v,RL,by first|exact hp1|(rw [List.length_append,List.length_take,List.length_cons,List.length_drop];omega),by first|exact hp2|(rw [insD_len];omega),by first|exact hp3.1|exact insD_sorted hp3.1 hnD,by first|exact λ x=>insD_mem|exact λ x=>⟨λ h=> .inr h,λ h=>h.elim (λ e=>e▸hdm) id⟩,by first|exact hj4|(rw [←hk2];exact λ f' h=>rl_new oqz hnD h),rfl,rfl,rfl,rfl,rfl,rfl,drqz⟩
    intro ρ B hI;obtain ⟨D1,vs1,a1,m1,c1,v,RL,hj0,hj1,hj2,hj3,hj4,hE12,hE0,hE1,hE2,hE3,hE10,hBA⟩:=hI;refine q_then_n ?_;refine tc_pre hBA.sat ?_;clear hBA;refine te 12 hE12 ?_;refine te 0 hE0 ?_;refine te 1 hE1 ?_;refine te 2 hE2 ?_;refine te 3 hE3 ?_;refine te 10 hE10 ?_;refine Zb7 ?_;refine tv (o_addI rfl rfl oqz) ?_;refine tl_env (d:=74) (v:=(vn (p+i))) (rfl) ?_;refine tv (o_remN (b:=64) rfl rfl oqz) ?_;refine tl_env (d:=75) (v:=(vn j)) (by show Value.int .i64 (((p+i)%64:Nat):Int)=_;rw [hj]) ?_;refine Za ?_;refine tc_seq ?_;refine tc_regh (S:=R) mo drqz ?_
    show TH _ _ _ _ _ 10 (Array.replicate 10 false) _ _
    refine Zib ?_;refine tm 3 rfl kqz rfl (o_move wqz) ?_;refine tm 4 rfl kqz rfl (o_ixP1 (a:=b) (j:=i) underlying57 sz5 rfl rfl oqz (nn_rs (xs:=bys X) (by repeat (first|exact hb|apply Rs.left)) (by rw [bys_length];omega))) ?_;refine tm 5 rfl kqz rfl (o_ldP (a:=b) (xs:=bys X) p5 rfl (by repeat (first|exact hb|apply Rs.left)) (bys_at oqz)) ?_;refine th_env (d:=81) (v:= .int .u8 ((y:Nat):Int)) (by show Value.int .u8 ((X[i]:Nat):Int)=_;rw [hy]) ?_;refine tm 6 rfl kqz rfl (o_nilCheck rfl) ?_;refine tm 7 rfl kqz rfl (o_fieldAddr (o:=1) underlying330 rfl rfl sz327 rfl) ?_;refine tm 8 rfl kqz rfl (o_indexAddrAN1 (j:=j) underlying327 sz5 rfl rfl oqz) ?_;refine th_one (i:=9) kqz ?_;refine oh_u rfl rfl rfl (o_stU (l':=(lineC fi d).set (1+j) (.int .u8 ((y:Nat):Int))) rfl upqz sz5 rfl rfl (by rw [lineC_len];omega) rfl) drqz ?_;refine Zba ?_;refine Zb ?_;refine Zgk ?_;refine tv (o_indexAddrAN1 (j:=j) underlying328 sz3 rfl rfl oqz) ?_;refine tv (o_load p3 rfl hsqz (by rw [List.getElem?_set_ne oqz];exact lineC_K hj64)) ?_;refine tl_env (d:=90) (v:= .int .i64 (kdT fi (64*d+j))) (rfl) ?_;refine Zca ?_;refine tc_cond rfl (λ h=> ?_) (λ h=> ?_)
    . have hk0:kdT fi (64*d+j)=0:=(by first|omega|exact of_decide_eq_true h|(simpa using h));refine Zfn ?_;refine Zgk ?_;refine tv (o_indexAddrAN1 (j:=j) underlying328 sz3 rfl rfl oqz) ?_;refine tl_u rfl (o_stU (l':=((lineC fi d).set (1+j) (.int .u8 ((y:Nat):Int))).set (65+j) (.int .i64 (if fr then 2 else 1))) rfl upqz sz3 rfl rfl (by rw [List.length_set,lineC_len];omega) rfl) ?_;refine Zu ?_;refine tc_eq (show _=R*pt q (cl [pz r,pz lg,((pz t))] 235)*pt lg (cl [pz r,vn la,vn lz] 233)*RDev r s*pt t (cl [pz q,.slice a1 m1 c1,.bool false] 263)*Sl 1 (.slice a1 m1 c1) m1 (ptrV vs1)*RLines vs1 D1 (putB fi (p+i) y fr) by rw [hj4 (putB fi (p+i) y fr) (λ e he=>by rw [←hpi];exact lineC_other hj64 he),←hpi,←lineC_put0 hj64 hk0];ac_rfl) ?_;refine Zbv ?_;exact ⟨_,by omega,i+1,D1,putB fi (p+i) y fr,vs1,a1,m1,c1,by omega,hj0,hj1,lnok_put hp3 hj2 hj3 oqz oqz,by rw [hp4];show _=putB _ _ _ _;rw [hy2],rfl,rfl,rfl,rfl,rfl,rfl,drqz⟩
    have hk0:kdT fi (64*d+j)≠0:=(by first|omega|exact of_decide_eq_false h|(simpa using h));refine tc_eq (show _=R*pt q (cl [pz r,pz lg,((pz t))] 235)*pt lg (cl [pz r,vn la,vn lz] 233)*RDev r s*pt t (cl [pz q,.slice a1 m1 c1,.bool false] 263)*Sl 1 (.slice a1 m1 c1) m1 (ptrV vs1)*RLines vs1 D1 (putB fi (p+i) y fr) by rw [hj4 (putB fi (p+i) y fr) (λ e he=>by rw [←hpi];exact lineC_other hj64 he),←hpi,←lineC_put1 hj64 hk0];ac_rfl) ?_;refine Zfl ?_;exact ⟨_,by omega,i+1,D1,putB fi (p+i) y fr,vs1,a1,m1,c1,by omega,hj0,hj1,lnok_put hp3 hj2 hj3 oqz oqz,by rw [hp4];show _=putB _ _ _ _;rw [hy2],rfl,rfl,rfl,rfl,rfl,rfl,drqz⟩
  obtain rfl:i=n:=by first|omega|(simp at h;omega)
  refine Zgf ?_;exact ⟨.int .i64 0,R*pt q (cl [pz r,pz lg,((pz t))] 235)*pt lg (cl [pz r,vn la,vn lz] 233)*RDev r s*pt t (cl [pz q,.slice ai mi ci,.bool false] 263)*Sl 1 (.slice ai mi ci) mi (ptrV vi)*RLines vi Di fi,res1 rfl rfl,Dr.sat drqz,ai,mi,ci,vi,Di,rfl,⟨hp1,hp2,hp4▸hp3⟩,by rw [←hp4];ac_rfl⟩
end Go.Vl

namespace Go.Vl
open Go Go.Proofs Go.Proofs.Tryz
def lnA (kd:Bool)(f:TF)(d j:Nat):List Nat:=((List.range j).map λ k=>64*d+k).filter (isK f kd)
def adL (kd:Bool)(f:TF)(D:List Nat):List Nat:=D.flatMap λ d=>lnA kd f d 64
theorem lnA_zero (kd:Bool)(f:TF)(d:Nat):lnA kd f d 0=[]:=rfl
theorem lnA_succ (kd:Bool)(f:TF)(d j:Nat):lnA kd f d (j+1)=lnA kd f d j++if isK f kd (64*d+j) then [64*d+j] else []:=by
  unfold lnA
  rw [List.range_succ,List.map_append,List.filter_append]
  congr 1
  show List.filter _ [64*d+j]=_
  rw [List.filter_cons];rfl
theorem adL_snoc {kd:Bool}{f:TF}{D:List Nat}{i d:Nat}(h:i<D.length)(hd:D[i]=d):adL kd f (D.take (i+1))=adL kd f (D.take i)++lnA kd f d 64:=by
  unfold adL
  rw [List.take_succ_eq_append_getElem h,List.flatMap_append,hd]
  simp
theorem kd_isK {f:TF}{a:Nat}{kd:Bool}:kdT f a=(if kd then 2 else 1)↔isK f kd a=true:=by
  unfold kdT isK
  cases f a with
  |none=>cases kd<;>simp
  |some c=>obtain ⟨x,b⟩:=c;cases b<;>cases kd<;>simp
theorem runs_at {kd:Bool}{f:TF}{d j:Nat}{L:List Nat}{out:List (Nat×List Nat)}(h:runsL f (L++lnA kd f d j)=out)(hk:isK f kd (64*d+j)=true):runsL f (L++lnA kd f d (j+1))=runA f out (64*d+j):=by
  rw [lnA_succ,if_pos hk,←List.append_assoc,runsL_snoc,h]
theorem runs_not {kd:Bool}{f:TF}{d j:Nat}{L:List Nat}{out:List (Nat×List Nat)}(h:runsL f (L++lnA kd f d j)=out)(hk:isK f kd (64*d+j)=false):runsL f (L++lnA kd f d (j+1))=out:=by
  rw [lnA_succ,if_neg (by rw [hk];decide),List.append_nil,h]
theorem lnA_mem {kd:Bool}{f:TF}{d j x:Nat}:x∈lnA kd f d j↔(∃k,k<j/\ 64*d+k=x)/\ isK f kd x=true:=by
  unfold lnA;rw [List.mem_filter,List.mem_map];simp [List.mem_range]
theorem sorted_ext:∀{l m:List Nat} (_:l.Pairwise (·<·)) (_:m.Pairwise (·<·)) (_:∀x,x∈l↔x∈m),l=m
  |[],[],_,_,_=>rfl
  |[],y::m,_,_,h=>by have:=(h y).2 (List.mem_cons_self ..);cases this
  |x::l,[],_,_,h=>by have:=(h x).1 (List.mem_cons_self ..);cases this
  |x::l,y::m,hl,hm,h=>by
    have h1:=List.pairwise_cons.1 hl;have h2:=List.pairwise_cons.1 hm
    have e:x=y:=by
      rcases List.mem_cons.1 ((h x).1 (List.mem_cons_self ..)) with e|hx
      . exact e
      rcases List.mem_cons.1 ((h y).2 (List.mem_cons_self ..)) with e|hy
      . exact e.symm
      have:=h1.1 y hy;have:=h2.1 x hx;omega
    subst e;rw [sorted_ext h1.2 h2.2 λ z=> ?_]
    constructor
    . intro hz;exact (List.mem_cons.1 ((h z).1 (List.mem_cons_of_mem _ hz))).resolve_left λ e=>by have:=h1.1 z hz;omega
    intro hz;exact (List.mem_cons.1 ((h z).2 (List.mem_cons_of_mem _ hz))).resolve_left λ e=>by have:=h2.1 z hz;omega
theorem range_sorted (n:Nat):(List.range n).Pairwise (·<·):=List.pairwise_lt_range
theorem lnA_sorted (kd:Bool)(f:TF)(d j:Nat):(lnA kd f d j).Pairwise (·<·):=by
  unfold lnA
  refine List.Pairwise.sublist List.filter_sublist ?_;rw [List.pairwise_map]
  exact (range_sorted j).imp λ h=>by omega
theorem adL_sorted (kd:Bool)(f:TF):∀{D:List Nat} (_:D.Pairwise (·<·)),(adL kd f D).Pairwise (·<·)
  |[],_=>List.Pairwise.nil
  |d::D,h=>by
    have h1:=List.pairwise_cons.1 h
    show (lnA kd f d 64++adL kd f D).Pairwise _
    rw [List.pairwise_append]
    refine ⟨lnA_sorted ..,adL_sorted kd f h1.2,λ x hx y hy=> ?_⟩;obtain ⟨⟨k,hk,rfl⟩,_⟩:=lnA_mem.1 hx;obtain ⟨e,he,hy2⟩:=List.mem_flatMap.1 hy;obtain ⟨⟨k2,hk2,rfl⟩,_⟩:=lnA_mem.1 hy2;have:=h1.1 e he
    omega
theorem adL_eq {N:Nat}{kd:Bool}{D:List Nat}{f:TF}(h:LnOk N D f):adL kd f D=adrF (N*64) kd f:=by
  refine sorted_ext (adL_sorted kd f h.1) ?_ λ x=> ?_
  . unfold adrF;exact List.Pairwise.sublist List.filter_sublist (range_sorted _)
  rw [adr_mem]
  constructor
  . intro hx;obtain ⟨d,hd,hx2⟩:=List.mem_flatMap.1 hx;obtain ⟨⟨k,hk,rfl⟩,h2⟩:=lnA_mem.1 hx2;have:=h.2.2.1 d hd;exact ⟨by omega,h2⟩
  rintro ⟨h1,h2⟩;have h3:f x≠none:=λ e=>by unfold isK at h2;rw [e] at h2;simp at h2
  exact List.mem_flatMap.2 ⟨x/64,h.2.1 x h3,lnA_mem.2 ⟨⟨x%64,by omega,by omega⟩,h2⟩⟩
attribute [local irreducible] crk crL crc Sl pt ro Dev imgS recS readS recsF rdW rdO rkT Parts rvl recordsS runsL adrF kcl xcl kys runA runsF layF ovF TxA adZ WkA SlB blkS conB imF RDev lineC RLines
theorem runs12r_c {A:SP}{t q:Nat}{over:Bool}{a:Option Addr}{m c N:Nat}{vs D:List Nat}{f:TF}{kd:Bool}(ht:Has A t (cl [pz q,.slice a m c,.bool over] 263))(hr:Rs A a (ptrV vs))(hm:vs.length=m)(hD:D.length=m)(hln:LnOk N D f)(hN:N<=65536)(hK:∀i (h:i<D.length) (h2:i<vs.length) k v,(lineC f D[i])[k]? =some v->Cell A vs[i] k v):
    Fn Tryz.prog 230 #[pz t,.int .i64 (if kd then 2 else 1)] A (λ r B=>∃a c vs2,r= .slice a (runsF (N*64) kd f).length c/\ (runsF (N*64) kd f).length<=c/\ vs2.length=(runsF (N*64) kd f).length/\ B=A*Parts vs2 ((runsF (N*64) kd f).map (·.2))*Sl 2 (.slice a (runsF (N*64) kd f).length c) (runsF (N*64) kd f).length (kcl (runsF (N*64) kd f) vs2)):=by
  refine fn_enterW func230 rfl ntmps230 (by simp) ?_;have hmN:=lnok_len hln hD;refine Zj ?_;refine Zky ?_;refine tc_pre (A':=A*Parts [] []*Sl 2 (.slice none 0 0) 0 []) (λ g w h=>sl_nil (show sat g w (A*Parts [] []) by rw [show Parts [] []=emp by unfold Parts;rfl,star_emp];exact Dr.sat drqz g w h)) ?_;refine tc_loop (λ kk ρ BB=>∃ (i:Nat) (oi:List (Nat×List Nat)) (vi:List Value) (ai:Option Addr) (ci:Nat),(i<=m)/\ (runsL f (adL kd f (D.take i))=oi)/\ (vi.length=oi.length)/\ (oi.length<=ci)/\ (oi.length<=64*i)/\ (∀r∈oi,r.1+r.2.length<=4194304)/\ kk=m-i/\ ρ 5= .slice ai oi.length ci/\ ρ 6=(vn i)/\ ρ 0=(pz t)/\ ρ 1= .int .i64 (if kd then 2 else 1)/\ Dr BB (A*Parts vi (oi.map (·.2))*Sl 2 (.slice ai oi.length ci) oi.length (kcl oi vi))) (m:=m-(0)) ?_ ?_
  . exact ⟨0,[],[],none,0,by omega,by rw [List.take_zero];unfold runsL adL;rfl,rfl,Nat.le_refl _,by simp,λ r h=>(by cases h),rfl,rfl,rfl,rfl,rfl,by rw [kcl_nil];exact dr_refl⟩
  intro k ρ B hI;obtain ⟨i,oi,vi,ai,ci,hp0,hp1,hp2,hp3,hp4,hp5,hkk1,hE5,hE6,hE0,hE1,hBA⟩:=hI;refine tc_pre hBA.sat ?_;clear hBA;refine te 5 hE5 ?_;refine te 6 hE6 ?_;refine te 0 hE0 ?_;refine te 1 hE1 ?_;refine Ze ?_;refine Zdo ?_;refine tv (o_load p261 rfl haqz rfl) ?_;refine tv (o_len underlying261 rfl) ?_;refine Zn ?_;refine tc_cond rfl (λ h=> ?_) (λ h=> ?_)
  . have hi:i<m:=(by first|omega|(simp at h;omega));have hiD:i<D.length:=(by omega);obtain ⟨d,hd⟩:∃d,D[i]=d:=⟨_,rfl⟩;obtain ⟨v,hv⟩:∃v,vs[i]'oqz=v:=⟨_,rfl⟩;have hdN:d<N:=hln.2.2.1 d (hd▸List.getElem_mem _);have hKv:=hK i oqz oqz;rw [hd,hv] at hKv
    refine Zbe ?_;refine Zfc ?_;refine tv (o_load p261 rfl haqz rfl) ?_;refine tlm ?_;refine tv (o_ixP1 (a:=a) (j:=i) underlying261 sz325 rfl rfl oqz (nn_rs (xs:=ptrV vs) (by repeat (first|exact hr|apply Rs.left)) (by rw [ptrV_len];omega))) ?_;refine tv (o_ldP (a:=a) (xs:=ptrV vs) p325 rfl (by repeat (first|exact hr|apply Rs.left)) (ptrV_at (show i<vs.length by omega))) ?_;refine tl_env (d:=26) (v:=(pz v)) (by show Value.pointer (some ⟨vs[i],0,none⟩)=_;rw [hv]) ?_;refine Za ?_;refine Zb3 ?_;refine tc_loop (λ kk ρ BB=>∃ (j:Nat) (oj:List (Nat×List Nat)) (vj:List Value) (aj:Option Addr) (cj:Nat),(j<=64)/\ (runsL f (adL kd f (D.take i)++lnA kd f d j)=oj)/\ (vj.length=oj.length)/\ (oj.length<=cj)/\ (oj.length<=64*i+j)/\ (∀r∈oj,r.1+r.2.length<=4194304)/\ kk=64-j/\ ρ 5= .slice aj oj.length cj/\ ρ 8=(vn j)/\ ρ 0=(pz t)/\ ρ 1= .int .i64 (if kd then 2 else 1)/\ ρ 6=(vn i)/\ ρ 7=(pz v)/\ Dr BB (A*Parts vj (oj.map (·.2))*Sl 2 (.slice aj oj.length cj) oj.length (kcl oj vj))) (m:=64-(0)) ?_ ?_
    . exact ⟨0,oi,vi,ai,ci,by omega,by rw [lnA_zero,List.append_nil];exact hp1,hp2,hp3,by omega,hp5,rfl,rfl,rfl,rfl,rfl,rfl,rfl,drqz⟩
    intro k ρ B hI;obtain ⟨j,oj,vj,aj,cj,hq0,hq1,hq2,hq3,hq4,hq5,hkk2,hE5,hE8,hE0,hE1,hE6,hE7,hBA⟩:=hI;refine tc_pre hBA.sat ?_;clear hBA;refine te 5 hE5 ?_;refine te 8 hE8 ?_;refine te 0 hE0 ?_;refine te 1 hE1 ?_;refine te 6 hE6 ?_;refine te 7 hE7 ?_;refine Zlb ?_;refine tc_cond rfl (λ h=> ?_) (λ h=> ?_)
    . have hj:j<64:=(by first|omega|(simp at h;omega));refine tc_have (λ _ _ h=>parts_getD hq2 h.left) λ hps=> ?_
      refine Zbe ?_;refine Ze ?_;refine Zgk ?_;refine tv (o_indexAddrAN1 (j:=j) underlying328 sz3 rfl rfl oqz) ?_;refine tv (o_loadC p3 rfl (by repeat (first|exact (hKv (65+j) _ (lineC_K hj))|apply Cell.left))) ?_;refine tl_env (d:=36) (v:= .int .i64 (kdT f (64*d+j))) (rfl) ?_;refine tlm ?_;refine Zl ?_;refine tc_cond rfl (λ h=> ?_) (λ h=> ?_)
      . have hk0:isK f kd (64*d+j)=false:=Bool.eq_false_iff.2 λ hx=>by have h9:=kd_isK.2 hx;first|exact absurd h9 (of_decide_eq_true h)|(simp [h9] at h;done)|exact absurd h9 h
        refine Zi5 ?_;refine Zbv ?_;exact ⟨_,by omega,j+1,oj,vj,aj,cj,by omega,runs_not hq1 hk0,hq2,hq3,by omega,hq5,rfl,rfl,rfl,rfl,rfl,rfl,rfl,drqz⟩
      have hk0:isK f kd (64*d+j)=true:=kd_isK.1 (by first|exact Classical.not_not.1 (of_decide_eq_false h)|simpa using h);refine Zfx ?_;refine tv (o_fieldAddr (o:=0) underlying330 rfl rfl sz3 rfl) ?_;refine tv (o_loadC p3 rfl (by repeat (first|exact (hKv 0 _ (lineC_at0 f d))|apply Cell.left))) ?_;refine tv (o_mulI (a:=64) (b:=((d:Nat):Int)) rfl rfl oqz) ?_;refine tl_env (d:=43) (v:=(vn (64*d))) (by first|rfl|(show Value.int .i64 (64*((d:Nat):Int))=_;congr 1;omega)) ?_;refine Zk5 ?_;refine tl_env (d:=45) (v:=(vn (64*d+j))) (rfl) ?_;refine Zep ?_;refine tv (o_len underlying295 rfl) ?_;refine Za ?_;refine tc_seq ?_;refine tc_cut (λ ρ BB=>∃ (bb:Bool),(bb=adjB oj (64*d+j))/\ ρ 67= .bool bb/\ ρ 0=(pz t)/\ ρ 1= .int .i64 (if kd then 2 else 1)/\ ρ 5= .slice aj oj.length cj/\ ρ 6=(vn i)/\ ρ 7=(pz v)/\ ρ 8=(vn j)/\ ρ 9= .int .i64 (((64*d+j):Nat):Int)/\ ρ 10=(vn oj.length)/\ Dr BB (A*Parts vj (oj.map (·.2))*Sl 2 (.slice aj oj.length cj) oj.length (kcl oj vj))) ?_ ?_
      . skip
        refine tc_regq mo kqz ?_;refine ql_v rfl (o_move wqz) ?_;refine ql_v rfl (o_gtr rfl rfl) ?_;refine ql_v rfl (o_move wqz) ?_;refine ql_bool (d:=50) rfl (λ h=> ?_) (λ h=> ?_)
        . have hne:0<oj.length:=(by simp at h;omega);obtain ⟨O,r_,hO⟩:=list_snoc hne;obtain ⟨V,xb,xc,hV,hVl,hxc⟩:=parts_last (O:=O) (r:=r_) (by rw [←hO];exact hq2) (by rw [←hO];exact hps);have hOl:oj.length-1=O.length:=(by rw [hO,List.length_append,List.length_singleton];omega);have hrn:=hq5 r_ (by rw [hO];simp);have hc0:(kcl oj vj)[(oj.length-1)*2+0]? =some ((vn r_.1)):=(by rw [hOl,hO,hV];exact kcl_l0 hVl);have hc1:(kcl oj vj)[(oj.length-1)*2+1]? =some (.slice xb r_.2.length xc):=(by rw [hOl,hO,hV];exact kcl_l1 hVl);refine Zbt ?_;refine ql_v rfl (o_subI rfl rfl oqz) ?_;refine ql_env (d:=53) (v:=(vn (oj.length-1))) (by show Value.int .i64 _=_;congr 1;omega) ?_;refine ql_v rfl (o_ixP (a:=aj) underlying295 sz298 rfl rfl oqz (nn_rs (xs:=kcl oj vj) sq3z (λ _=>by rw [kcl_len hq2];omega))) ?_;refine ql_v rfl (o_faP (a:=aj) (m:=0) (o:=0) underlying298 rfl rfl sz3 rfl (nn_rs (xs:=kcl oj vj) sq3z (λ _=>by rw [kcl_len hq2];omega))) ?_;refine ql_v rfl (o_ldP (a:=aj) (xs:=kcl oj vj) p3 rfl sq3z hc0) ?_;refine Zbt ?_;refine ql_v rfl (o_subI rfl rfl oqz) ?_;refine ql_env (d:=59) (v:=(vn (oj.length-1))) (by show Value.int .i64 _=_;congr 1;omega) ?_;refine ql_v rfl (o_ixP (a:=aj) underlying295 sz298 rfl rfl oqz (nn_rs (xs:=kcl oj vj) sq3z (λ _=>by rw [kcl_len hq2];omega))) ?_;refine ql_v rfl (o_faP (a:=aj) (m:=0) (o:=1) underlying298 rfl rfl sz57 rfl (nn_rs (xs:=kcl oj vj) sq3z (λ _=>by rw [kcl_len hq2];omega))) ?_;refine ql_v rfl (o_ldP (a:=aj) (xs:=kcl oj vj) p57 rfl sq3z hc1) ?_;refine ql_v rfl (o_len underlying57 rfl) ?_;refine ql_v rfl (o_addI rfl rfl oqz) ?_;refine ql_v rfl (o_move wqz) ?_;refine ql_v rfl (o_eqi rfl rfl) ?_;refine Zh6 ?_;exact ⟨_,by first|(rw [hO,adjB_snoc,decide_eq_decide];omega)|(rw [hne];rfl),rfl,rfl,rfl,rfl,rfl,rfl,rfl,rfl,rfl,drqz⟩
        have hne:oj=[]:=List.eq_nil_of_length_eq_zero (by first|omega|(simp at h;first|omega|(rw [h];rfl)));refine Zie ?_;refine Zie ?_;refine ql_v rfl (o_pick_f rfl wqz) ?_;refine ql_nil ?_;exact ⟨_,by first|(rw [hO,adjB_snoc,decide_eq_decide];omega)|(rw [hne];rfl),rfl,rfl,rfl,rfl,rfl,rfl,rfl,rfl,rfl,drqz⟩
      intro ρ B hI;obtain ⟨bb,hbb0,hE67,hE0,hE1,hE5,hE6,hE7,hE8,hE9,hE10,hBA⟩:=hI;refine q_then_n ?_;refine tc_pre hBA.sat ?_;clear hBA;refine te 67 hE67 ?_;refine te 0 hE0 ?_;refine te 1 hE1 ?_;refine te 5 hE5 ?_;refine te 6 hE6 ?_;refine te 7 hE7 ?_;refine te 8 hE8 ?_;refine te 9 hE9 ?_;refine te 10 hE10 ?_;refine tc_cond rfl (λ h=> ?_) (λ h=> ?_)
      . obtain ⟨O,r_,hO,hadj,hrun⟩:=adj_t (f:=f) (show adjB oj (64*d+j)=true by rw [←hbb0];exact h);obtain ⟨V,xb,xc,hV,hVl,hxc⟩:=parts_last (O:=O) (r:=r_) (by rw [←hO];exact hq2) (by rw [←hO];exact hps);subst hO hV;have hOl:(O++[r_]).length=O.length+1:=(by rw [List.length_append,List.length_singleton]);have hrn:=hq5 r_ (by simp);refine tc_have (λ _ _ h=>sl_some h oqz) λ ⟨bb8,oo8,ha8⟩=> ?_
        subst ha8;refine tc_eq (show _=A*Parts V (O.map (·.2))*Sl 1 (.slice xb r_.2.length xc) r_.2.length (bys r_.2)*Sl 2 (.slice (some ⟨bb8,oo8,none⟩) (O++[r_]).length cj) (O++[r_]).length (kcl (O++[r_]) (V++[(.slice xb r_.2.length xc)])) by rw [List.map_append];rw [show Parts (V++[(.slice xb r_.2.length xc)]) (O.map (·.2)++[r_].map (·.2))=Parts V (O.map (·.2))*Sl 1 (.slice xb r_.2.length xc) r_.2.length (bys r_.2) from parts_snoc (by rw [List.length_map];exact hVl)];ac_rfl) ?_;refine tc_regh (S:=A*Parts V (O.map (·.2))) mo drqz ?_
        show TH _ _ _ _ _ 20 (Array.replicate 20 false) _ _
        refine Zcd ?_;refine tm 2 rfl kqz rfl (o_subI rfl rfl oqz) ?_;refine th_env (d:=70) (v:=(vn O.length)) (by show Value.int .i64 _=_;rw [hOl];congr 1;omega) ?_;refine tm 3 rfl kqz rfl (o_move wqz) ?_;refine tm 4 rfl kqz rfl (o_move wqz) ?_;refine tm 5 rfl kqz rfl (o_subI rfl rfl oqz) ?_;refine th_env (d:=73) (v:=(vn O.length)) (by show Value.int .i64 _=_;rw [hOl];congr 1;omega) ?_;refine tm 6 rfl kqz rfl (o_ixP (a:=some ⟨bb8,oo8,none⟩) underlying295 sz298 rfl rfl oqz nn_some) ?_;refine tm 7 rfl kqz rfl (o_faP (a:=some ⟨bb8,oo8,none⟩) (m:=0) (o:=1) underlying298 rfl rfl sz57 rfl nn_some) ?_;refine Zjf ?_;refine tm 11 rfl kqz rfl (o_nilCheck rfl) ?_;refine tm 12 rfl kqz rfl (o_fieldAddr (o:=1) underlying330 rfl rfl sz327 rfl) ?_;refine tm 13 rfl kqz rfl (o_indexAddrAN1 (j:=j) underlying327 sz5 rfl rfl oqz) ?_;refine tm 14 rfl kqz rfl (o_loadC p5 rfl (by repeat (first|exact (hKv (1+j) _ (lineC_B hj))|apply Cell.left))) ?_;refine th_env (d:=82) (v:= .int .u8 (((byF f (64*d+j)):Nat):Int)) (rfl) ?_;refine th_two (i:=8) (j:=15) kqz ?_ ?_
        . skip
          refine oh_v rfl rfl rfl (o_ldP (a:=some ⟨bb8,oo8,none⟩) (xs:=kcl (O++[r_]) (V++[(.slice xb r_.2.length xc)])) p57 rfl sq3z (kcl_l1 hVl)) ?_;refine th_one (i:=15) kqz ?_;refine oh_x rfl rfl rfl (o_buildSliceL (k:=1) (vs:=bys [(byF f (64*d+j))]) (l:=bys [(byF f (64*d+j))]) underlying57 sz5 z5 rfl rfl (by decide) (by decide) (by intro v hv;simp only [bys,b8,List.map_cons,List.map_nil,List.mem_cons,List.not_mem_nil,or_false] at hv;rcases hv with rfl;rfl) rfl) ?_;rintro _ _ ⟨b83,rfl,rfl⟩;refine ⟨by repeat (first|with_reducible exact dr_refl|apply dr_keep|apply dr_drop), ?_⟩;refine th_one (i:=16) kqz ?_;refine oh_x rfl rfl rfl (o_apB underlying57 underlying57 sz5 by5 z5 rfl (by decide) (by decide) rfl rfl rfl ctqz rfl rfl oqz (show _=bys (r_.2++[(byF f (64*d+j))]) by rw [←bys_append])) ?_;rintro _ _ ⟨a84,c84,rfl,hc84,rfl⟩;refine ⟨by repeat (first|with_reducible exact dr_refl|apply dr_keep|apply dr_drop), ?_⟩;refine tm 17 rfl kqz rfl (o_ixP (a:=some ⟨bb8,oo8,none⟩) underlying295 sz298 rfl rfl oqz nn_some) ?_;refine tm 18 rfl kqz rfl (o_faP (a:=some ⟨bb8,oo8,none⟩) (m:=0) (o:=1) underlying298 rfl rfl sz57 rfl nn_some) ?_;refine th_one (i:=19) kqz ?_;refine oh_u rfl rfl rfl (o_stP (ys:=kcl (O++[(r_.1,r_.2++[(byF f (64*d+j))])]) (V++[.slice a84 (r_.2.length+1) c84])) sz57 rfl rfl rfl ctqz oqz (kcl_set hVl _)) drqz ?_;refine Zcg ?_;refine Zbv ?_;have hlo:(O++[(r_.1,r_.2++[(byF f (64*d+j))])]).length=(O++[r_]).length:=(by rw [List.length_append,List.length_append];rfl);exact ⟨_,by omega,j+1,O++[(r_.1,r_.2++[(byF f (64*d+j))])],V++[(.slice a84 (r_.2.length+1) c84)],(some ⟨bb8,oo8,none⟩),cj,by omega,by rw [runs_at hq1 hk0,hrun],by rw [List.length_append,List.length_append,hVl];rfl,by rw [hlo];exact hq3,by rw [hlo];omega,λ r hr=>(by rcases List.mem_append.1 hr with h9|h9;exact hq5 r (List.mem_append_left _ h9);rw [List.mem_singleton] at h9;subst h9;show r_.1+(r_.2++[(byF f (64*d+j))]).length<=4194304;rw [List.length_append,List.length_singleton];omega),rfl,by rw [hlo];rfl,rfl,rfl,rfl,rfl,rfl,by rw [hlo,List.map_append,show Parts (V++[(.slice a84 (r_.2.length+1) c84)]) (O.map (·.2)++[(r_.1,r_.2++[(byF f (64*d+j))])].map (·.2))=Parts V (O.map (·.2))*Sl 1 (.slice a84 (r_.2.length+1) c84) (r_.2.length+1) (bys (r_.2++[(byF f (64*d+j))])) from (parts_snoc (x:=r_.2++[(byF f (64*d+j))]) (by rw [List.length_map];exact hVl)).trans (by rw [List.length_append,List.length_singleton]),←star_assoc];repeat (first|with_reducible exact dr_refl|apply dr_keep|apply dr_drop)⟩
        . skip
          refine oh_x rfl rfl rfl (o_buildSliceL (k:=1) (vs:=bys [(byF f (64*d+j))]) (l:=bys [(byF f (64*d+j))]) underlying57 sz5 z5 rfl rfl (by decide) (by decide) (by intro v hv;simp only [bys,b8,List.map_cons,List.map_nil,List.mem_cons,List.not_mem_nil,or_false] at hv;rcases hv with rfl;rfl) rfl) ?_;rintro _ _ ⟨b83,rfl,rfl⟩;refine ⟨by repeat (first|with_reducible exact dr_refl|apply dr_keep|apply dr_drop), ?_⟩;refine th_one (i:=8) kqz ?_;refine oh_v rfl rfl rfl (o_ldP (a:=some ⟨bb8,oo8,none⟩) (xs:=kcl (O++[r_]) (V++[(.slice xb r_.2.length xc)])) p57 rfl sq3z (kcl_l1 hVl)) ?_;refine th_one (i:=16) kqz ?_;refine oh_x rfl rfl rfl (o_apB underlying57 underlying57 sz5 by5 z5 rfl (by decide) (by decide) rfl rfl rfl ctqz rfl rfl oqz (show _=bys (r_.2++[(byF f (64*d+j))]) by rw [←bys_append])) ?_;rintro _ _ ⟨a84,c84,rfl,hc84,rfl⟩;refine ⟨by repeat (first|with_reducible exact dr_refl|apply dr_keep|apply dr_drop), ?_⟩;refine tm 17 rfl kqz rfl (o_ixP (a:=some ⟨bb8,oo8,none⟩) underlying295 sz298 rfl rfl oqz nn_some) ?_;refine tm 18 rfl kqz rfl (o_faP (a:=some ⟨bb8,oo8,none⟩) (m:=0) (o:=1) underlying298 rfl rfl sz57 rfl nn_some) ?_;refine th_one (i:=19) kqz ?_;refine oh_u rfl rfl rfl (o_stP (ys:=kcl (O++[(r_.1,r_.2++[(byF f (64*d+j))])]) (V++[.slice a84 (r_.2.length+1) c84])) sz57 rfl rfl rfl ctqz oqz (kcl_set hVl _)) drqz ?_;refine Zcg ?_;refine Zbv ?_;have hlo:(O++[(r_.1,r_.2++[(byF f (64*d+j))])]).length=(O++[r_]).length:=(by rw [List.length_append,List.length_append];rfl);exact ⟨_,by omega,j+1,O++[(r_.1,r_.2++[(byF f (64*d+j))])],V++[(.slice a84 (r_.2.length+1) c84)],(some ⟨bb8,oo8,none⟩),cj,by omega,by rw [runs_at hq1 hk0,hrun],by rw [List.length_append,List.length_append,hVl];rfl,by rw [hlo];exact hq3,by rw [hlo];omega,λ r hr=>(by rcases List.mem_append.1 hr with h9|h9;exact hq5 r (List.mem_append_left _ h9);rw [List.mem_singleton] at h9;subst h9;show r_.1+(r_.2++[(byF f (64*d+j))]).length<=4194304;rw [List.length_append,List.length_singleton];omega),rfl,by rw [hlo];rfl,rfl,rfl,rfl,rfl,rfl,by rw [hlo,List.map_append,show Parts (V++[(.slice a84 (r_.2.length+1) c84)]) (O.map (·.2)++[(r_.1,r_.2++[(byF f (64*d+j))])].map (·.2))=Parts V (O.map (·.2))*Sl 1 (.slice a84 (r_.2.length+1) c84) (r_.2.length+1) (bys (r_.2++[(byF f (64*d+j))])) from (parts_snoc (x:=r_.2++[(byF f (64*d+j))]) (by rw [List.length_map];exact hVl)).trans (by rw [List.length_append,List.length_singleton]),←star_assoc];repeat (first|with_reducible exact dr_refl|apply dr_keep|apply dr_drop)⟩
      have hbf:adjB oj (64*d+j)=false:=(by rw [←hbb0];exact h);refine Zh2 ?_;refine Zw ?_;refine tv (o_fieldAddr (o:=1) underlying330 rfl rfl sz327 rfl) ?_;refine tv (o_indexAddrAN1 (j:=j) underlying327 sz5 rfl rfl oqz) ?_;refine tv (o_loadC p5 rfl (by repeat (first|exact (hKv (1+j) _ (lineC_B hj))|apply Cell.left))) ?_;refine tl_env (d:=94) (v:= .int .u8 (((byF f (64*d+j)):Nat):Int)) (rfl) ?_;refine tl_x rfl (o_buildSliceL (k:=1) (vs:=bys [(byF f (64*d+j))]) (l:=bys [(byF f (64*d+j))]) underlying57 sz5 z5 rfl rfl (by decide) (by decide) (by intro v hv;simp only [bys,b8,List.map_cons,List.map_nil,List.mem_cons,List.not_mem_nil,or_false] at hv;rcases hv with rfl;rfl) rfl) ?_;rintro _ _ ⟨b95,rfl,rfl⟩;refine tl_pre (A':=A*Parts vj (oj.map (·.2))*Sl 2 (.slice aj oj.length cj) oj.length (kcl oj vj)*Sl 1 (.slice (some ⟨b95,0,none⟩) 1 1) 1 (bys [(byF f (64*d+j))])) (λ _ _ h=>sl_new (k:=1) (n:=1) (cap:=1) (xs:=bys [(byF f (64*d+j))]) h (by decide) (Nat.le_refl _) rfl) ?_;refine tv (o_bS (l:=[_,_]) (pv_cons wqz (pv_cons wqz pv_nil)) underlying298 z298 (pl298 underlying298) rfl) ?_;refine tl_x rfl (o_buildSliceK (k:=2) (l:=[.int .i64 (((64*d+j):Nat):Int),.slice (some ⟨b95,0,none⟩) 1 1]) underlying295 sz298 z298 rfl rfl (by decide)) ?_;rintro _ _ ⟨b97,rfl,rfl⟩;refine tl_x rfl (o_apB underlying295 underlying295 sz298 by298 z298 rfl (by decide) (by decide) rfl rfl rfl ctqz rfl rfl oqz (show _=kcl (oj++[((64*d+j),[(byF f (64*d+j))])]) (vj++[.slice (some ⟨b95,0,none⟩) 1 1]) by rw [kcl_snoc hq2])) ?_;rintro _ _ ⟨a98,c98,rfl,hc98,rfl⟩;refine tl_eq (show _=A*Parts (vj++[.slice (some ⟨b95,0,none⟩) 1 1]) ((oj++[((64*d+j),[(byF f (64*d+j))])]).map (·.2))*Sl 2 (.slice a98 (oj.length+1) c98) (oj.length+1) (kcl (oj++[((64*d+j),[(byF f (64*d+j))])]) (vj++[.slice (some ⟨b95,0,none⟩) 1 1])) by rw [List.map_append,show Parts (vj++[.slice (some ⟨b95,0,none⟩) 1 1]) (oj.map (·.2)++[((64*d+j),[(byF f (64*d+j))])].map (·.2))=Parts vj (oj.map (·.2))*Sl 1 (.slice (some ⟨b95,0,none⟩) 1 1) 1 (bys [(byF f (64*d+j))]) from parts_snoc (by rw [List.length_map];exact hq2)];ac_rfl) ?_;refine Zhr ?_;exact ⟨_,by omega,j+1,oj++[((64*d+j),[(byF f (64*d+j))])],vj++[.slice (some ⟨b95,0,none⟩) 1 1],a98,c98,by omega,by rw [runs_at hq1 hk0];exact adj_f hbf,by rw [List.length_append,List.length_append,hq2];rfl,by rw [List.length_append];exact hc98,by rw [List.length_append,List.length_singleton];omega,λ r hr=>by rcases List.mem_append.1 hr with h9|h9;exact hq5 r h9;rw [List.mem_singleton] at h9;subst h9;show _+1<=4194304;omega,rfl,by rw [List.length_append,List.length_singleton];rfl,rfl,rfl,rfl,rfl,rfl,by rw [List.length_append,List.length_singleton];repeat (first|with_reducible exact dr_refl|apply dr_keep|apply dr_drop)⟩
    have hj64:j=64:=(by first|omega|(simp at h;omega));refine Zdd ?_;refine Zbv ?_;exact ⟨_,by omega,i+1,oj,vj,aj,cj,by omega,by rw [adL_snoc hiD hd,←hj64];exact hq1,hq2,hq3,by omega,hq5,rfl,rfl,rfl,rfl,rfl,drqz⟩
  obtain rfl:i=m:=by first|omega|(simp at h;omega)
  rw [List.take_of_length_le oqz,adL_eq hln] at hp1
  refine Zio ?_;have e9:runsF (N*64) kd f=oi:=(by unfold runsF;exact hp1);rw [e9]
  exact ⟨_,_,res1 rfl rfl,Dr.sat drqz,ai,ci,vi,rfl,hp3,hp2,rfl⟩
end Go.Vl

namespace Go.Vl
open Go Go.Proofs Go.Proofs.Tryz
def hasK (kd:Bool)(f:TF)(d:Nat):Bool:=(List.range 64).any λ k=>isK f kd (64*d+k)
attribute [local irreducible] crk crL crc Sl pt ro Dev imgS recS readS recsF rdW rdO rkT Parts rvl recordsS runsL adrF kcl xcl kys runA runsF layF ovF TxA adZ WkA SlB blkS conB imF RDev lineC RLines
theorem Zhm {p r:Prop}(k:r)(h:Kq r->p:=by intro k;refine fn_enterW func195 rfl ntmps195 (by simp) ?_;refine Zfp ?_;exact k.o):p:=h ⟨k⟩
theorem Store12r_ok {A R:SP}{q r lg la lz t m c:Nat}{a:Option Addr}{vs D:List Nat}{f:TF}{s:DevS}(hA:A=R*(pt q (cl [pz r,pz lg,((pz t))] 235)*pt lg (cl [pz r,vn la,vn lz] 233)*RDev r s*pt t (cl [pz q,.slice a m c,.bool false] 263)*Sl 1 (.slice a m c) m (ptrV vs)*RLines vs D f)){p n cb:Nat}{b:Option Addr}{X:List Nat}(hvm:vs.length=m)(hDm:D.length=m)(hln:LnOk s.ls.length D f)(hb:Rs R b (bys X))(hXn:X.length=n)(hpn:p+n<=s.ls.length*64)(htop:s.ls.length*64<=4194304)(ho:s.off=false:=by assumption):
    Fn Tryz.prog 195 #[pz t,vn p,.slice b n cb] A (λ rr B=>∃a2 m2 c2 vs2 D2,rr= .int .i64 0/\ (vs2.length=m2/\ D2.length=m2/\ LnOk s.ls.length D2 (putsF f p X false n))/\ B=R*(pt q (cl [pz r,pz lg,((pz t))] 235)*pt lg (cl [pz r,vn la,vn lz] 233)*RDev r s*pt t (cl [pz q,.slice a2 m2 c2,.bool false] 263)*Sl 1 (.slice a2 m2 c2) m2 (ptrV vs2)*RLines vs2 D2 (putsF f p X false n))):=by
  refine Zhm ?_;refine tl_c rfl (o_call bd237 rfl (put12r_ok (fr:=false) hA hvm hDm hln hb hXn hpn htop ho)) ?_;rintro _ _ ⟨a10,m10,c10,vs10,D10,rfl,hq10,rfl⟩;refine Zd ?_;exact ⟨.int .i64 0,_,res1 rfl rfl,Dr.sat drqz,a10,m10,c10,vs10,D10,rfl,hq10,rfl⟩
theorem Zhn {p r:Prop}(k:r)(h:Kq r->p:=by intro k;refine fn_enterW func194 rfl ntmps194 (by simp) ?_;refine Zfp ?_;exact k.o):p:=h ⟨k⟩
theorem Fresh12r_ok {A R:SP}{q r lg la lz t m c:Nat}{a:Option Addr}{vs D:List Nat}{f:TF}{s:DevS}(hA:A=R*(pt q (cl [pz r,pz lg,((pz t))] 235)*pt lg (cl [pz r,vn la,vn lz] 233)*RDev r s*pt t (cl [pz q,.slice a m c,.bool false] 263)*Sl 1 (.slice a m c) m (ptrV vs)*RLines vs D f)){p n cb:Nat}{b:Option Addr}{X:List Nat}(hvm:vs.length=m)(hDm:D.length=m)(hln:LnOk s.ls.length D f)(hb:Rs R b (bys X))(hXn:X.length=n)(hpn:p+n<=s.ls.length*64)(htop:s.ls.length*64<=4194304)(ho:s.off=false:=by assumption):
    Fn Tryz.prog 194 #[pz t,vn p,.slice b n cb] A (λ rr B=>∃a2 m2 c2 vs2 D2,rr= .int .i64 0/\ (vs2.length=m2/\ D2.length=m2/\ LnOk s.ls.length D2 (putsF f p X true n))/\ B=R*(pt q (cl [pz r,pz lg,((pz t))] 235)*pt lg (cl [pz r,vn la,vn lz] 233)*RDev r s*pt t (cl [pz q,.slice a2 m2 c2,.bool false] 263)*Sl 1 (.slice a2 m2 c2) m2 (ptrV vs2)*RLines vs2 D2 (putsF f p X true n))):=by
  refine Zhn ?_;refine tl_c rfl (o_call bd237 rfl (put12r_ok (fr:=true) hA hvm hDm hln hb hXn hpn htop ho)) ?_;rintro _ _ ⟨a10,m10,c10,vs10,D10,rfl,hq10,rfl⟩;refine Zd ?_;exact ⟨.int .i64 0,_,res1 rfl rfl,Dr.sat drqz,a10,m10,c10,vs10,D10,rfl,hq10,rfl⟩
theorem has12r_c {A:SP}{v d:Nat}{f:TF}{kd:Bool}(hK:∀k x,(lineC f d)[k]? =some x->Cell A v k x):
    Fn Tryz.prog 280 #[pz v,.int .i64 (if kd then 2 else 1)] A (λ r B=>r= .bool (hasK kd f d)/\ A=B):=by
  refine fn_enterW func280 rfl ntmps280 (by simp) ?_;refine Zky ?_;refine tc_loop (λ kk ρ BB=>∃ (j:Nat),(j<=64)/\ (∀k,k<j->isK f kd (64*d+k)=false)/\ kk=64-j/\ ρ 5=(vn j)/\ ρ 0=(pz v)/\ ρ 1= .int .i64 (if kd then 2 else 1)/\ BB=A) (m:=64-(0)) ?_ ?_
  . exact ⟨0,by omega,λ k hk=>oqz,rfl,rfl,rfl,rfl,rfl⟩
  intro k ρ B hI;obtain ⟨j,hp0,hp1,hkk1,hE5,hE0,hE1,hBA⟩:=hI;obtain rfl:=hBA.symm;refine te 5 hE5 ?_;refine te 0 hE0 ?_;refine te 1 hE1 ?_;refine Zlb ?_;refine tc_cond rfl (λ h=> ?_) (sbq ?_)
  . have hj:j<64:=(by first|omega|(simp at h;omega));refine Zin ?_;refine Zgk ?_;refine tv (o_indexAddrAN1 (j:=j) underlying328 sz3 rfl rfl oqz) ?_;refine tv (o_loadC p3 rfl (hK (65+j) _ (lineC_K hj))) ?_;refine tl_env (d:=15) (v:= .int .i64 (kdT f (64*d+j))) (rfl) ?_;refine tlm ?_;refine Zca ?_;refine tc_cond rfl (λ h=> ?_) (λ h=> ?_)
    . have hk0:isK f kd (64*d+j)=true:=kd_isK.1 (by first|exact of_decide_eq_true h|(simpa using h));refine Zjt ?_;exact ⟨.bool true,A,res1 rfl rfl,Dr.sat drqz,congrArg Value.bool (List.any_eq_true.2 ⟨j,List.mem_range.2 hj,hk0⟩).symm,rfl⟩
    have hk0:isK f kd (64*d+j)=false:=Bool.eq_false_iff.2 λ hx=>by have h9:=kd_isK.2 hx;first|exact absurd h9 (of_decide_eq_false h)|(simp [h9] at h;done)
    refine Zfl ?_;exact ⟨_,by omega,j+1,by omega,λ k hk=>(Nat.lt_or_eq_of_le (Nat.le_of_lt_succ hk)).elim (hp1 k) λ e=>e▸hk0,rfl,rfl,rfl,rfl,rfl⟩
  intro h;refine Zgf ?_
  have e9:hasK kd f d=false:=Bool.eq_false_iff.2 λ hx=>by
    obtain ⟨k,h1,h2⟩:=List.any_eq_true.1 hx;have h3:=hp1 k (by have h4:=List.mem_range.1 h1;first|omega|(simp at h;omega));rw [h3] at h2;cases h2
  exact ⟨.bool false,A,res1 rfl rfl,Dr.sat drqz,congrArg Value.bool e9.symm,rfl⟩
theorem Extents12r_c {A:SP}{t q:Nat}{over:Bool}{a:Option Addr}{m c N:Nat}{vs D:List Nat}{f:TF}{L:List (Nat×List Nat)}(ht:Has A t (cl [pz q,.slice a m c,.bool over] 263))(hr:Rs A a (ptrV vs))(hm:vs.length=m)(hD:D.length=m)(hln:LnOk N D f)(hN:N<=65536)(hK:∀i (h:i<D.length) (h2:i<vs.length) k v,(lineC f D[i])[k]? =some v->Cell A vs[i] k v)(hX:runsF (N*64) false f=L)(hLl:L.length<=4194304):
    Fn Tryz.prog 184 #[pz t] A (λ r B=>∃a c,r= .slice a L.length c/\ L.length<=c/\ B=A*Sl 2 (.slice a L.length c) L.length (xcl (extX L))):=by
  refine fn_enterW func184 rfl ntmps184 (by simp) ?_;refine Zj ?_;refine Zbz ?_;refine tl_c rfl (o_call bd230 rfl (runs12r_c (kd:=false) ht hr hm hD hln hN hK)) ?_;rintro _ _ ⟨a7,c7,vs7,rfl,hc7,hvs7,rfl⟩;rw [hX] at hc7 hvs7
  rw [hX]
  refine tl_have (λ _ _ h=>parts_getD hvs7 h.left) λ hps=> ?_
  refine Zhk ?_;refine tc_pre (A':=A*Parts vs7 (L.map (·.2))*Sl 2 (.slice a7 L.length c7) L.length (kcl L vs7)*Sl 2 (.slice none 0 0) 0 []) (λ _ _ h=>sl_nil h) ?_;refine tc_loop (λ kk ρ BB=>∃ (i:Nat) (a3:Option Addr) (c3:Nat),(i<=L.length)/\ (i<=c3)/\ kk=L.length-i/\ ρ 3= .slice a3 i c3/\ ρ 5=(vn i)/\ ρ 4= .slice a7 L.length c7/\ Dr BB (A*Parts vs7 (L.map (·.2))*Sl 2 (.slice a7 L.length c7) L.length (kcl L vs7)*Sl 2 (.slice a3 i c3) i (xcl (extX (L.take i))))) (m:=L.length-(0)) ?_ ?_
  . exact ⟨0,none,0,by omega,by omega,rfl,rfl,rfl,rfl,by rw [List.take_zero,show extX []=[] from rfl,xcl_nil];exact dr_refl⟩
  intro k ρ B hI;obtain ⟨i,a3,c3,hp0,hp1,hkk1,hE3,hE5,hE4,hBA⟩:=hI;refine tc_pre hBA.sat ?_;clear hBA;refine te 3 hE3 ?_;refine te 5 hE5 ?_;refine te 4 hE4 ?_;refine Zed ?_;refine tv (o_len underlying295 rfl) ?_;refine Zn ?_;refine tc_cond rfl (λ h=> ?_) (λ h=> ?_)
  . have hi:i<L.length:=(by simp at h;omega);obtain ⟨xb,xc,hv,hxc⟩:=hps i hi;have hk0:=kcl_a0 hvs7 hi;have hk1:=kcl_a1 hvs7 hi;rw [hv] at hk1
    refine Zbe ?_;refine tc_regh (S:=A*Parts vs7 (L.map (·.2))*Sl 2 (.slice a7 L.length c7) L.length (kcl L vs7)) mo drqz ?_
    show TH _ _ _ _ _ 16 (Array.replicate 16 false) _ _
    refine Zib ?_;refine tm 3 rfl kqz rfl (o_ixP (a:=a7) underlying295 sz298 rfl rfl oqz (nn_rs (xs:=kcl L vs7) sq3z (λ _=>by rw [kcl_len hvs7];omega))) ?_;refine tm 4 rfl kqz rfl (o_faP (a:=a7) (m:=0) (o:=0) underlying298 rfl rfl sz3 rfl (nn_rs (xs:=kcl L vs7) sq3z (λ _=>by rw [kcl_len hvs7];omega))) ?_;refine tm 5 rfl kqz rfl (o_ldP (a:=a7) (xs:=kcl L vs7) p3 rfl sq3z hk0) ?_;refine Zg9 ?_;refine tm 8 rfl kqz rfl (o_ixP (a:=a7) underlying295 sz298 rfl rfl oqz (nn_rs (xs:=kcl L vs7) sq3z (λ _=>by rw [kcl_len hvs7];omega))) ?_;refine tm 9 rfl kqz rfl (o_faP (a:=a7) (m:=0) (o:=1) underlying298 rfl rfl sz57 rfl (nn_rs (xs:=kcl L vs7) sq3z (λ _=>by rw [kcl_len hvs7];omega))) ?_;refine tm 10 rfl kqz rfl (o_ldP (a:=a7) (xs:=kcl L vs7) p57 rfl sq3z hk1) ?_;refine Zhs ?_;refine th_one (i:=13) kqz ?_;refine oh_x rfl rfl rfl (o_buildSliceK (k:=2) (l:=xcs ((((L.getD i (0,[])).1:Nat):Int),(((L.getD i (0,[])).2.length:Nat):Int))) underlying107 sz162 z162 rfl rfl (by decide)) ?_;rintro _ _ ⟨b27,rfl,rfl⟩;refine Zer ?_;refine oh_x rfl rfl rfl (o_apB underlying107 underlying107 sz162 by162 z162 rfl (by decide) (by decide) rfl rfl rfl ctqz rfl rfl oqz rfl) ?_;rintro _ _ ⟨a28,c28,rfl,hc28,rfl⟩;refine ⟨by repeat (first|with_reducible exact dr_refl|apply dr_keep|apply dr_drop), ?_⟩;refine tm 15 rfl kqz rfl (o_assign wqz) ?_;refine Zcg ?_;refine Zbv ?_;exact ⟨_,by omega,i+1,_,_,by omega,hc28,rfl,rfl,rfl,rfl,by rw [ext_succ hi,xcl_sn];repeat (first|with_reducible exact dr_refl|apply dr_keep|apply dr_drop)⟩
  obtain rfl:i=L.length:=by simp at h;omega
  rw [List.take_length]
  refine Zio ?_;exact ⟨_,_,res1 rfl rfl,Dr.sat drqz,a3,c3,rfl,hp1,rfl⟩
theorem Zgl {p r:Prop}(k:r)(h:Kq r->p:=by intro k;refine Zfo ?_;refine tv (o_fieldAddr (o:=0) underlying263 rfl rfl sz124 rfl) ?_;exact k.o):p:=h ⟨k⟩
theorem end12r_c {A R:SP}{q r lg t m c:Nat}{a:Option Addr}{o:Value}{over:Bool}(hA:A=R*(pt q (cl [pz r,pz lg,o] 235))*(pt t (cl [pz q,.slice a m c,.bool over] 263))):
    Fn Tryz.prog 233 #[pz t] A (λ v B=>v= .tuple #[]/\ B=R*(pt q (cl [pz r,pz lg,.pointer none] 235))*(pt t (cl [pz q,.slice none 0 0,.bool true] 263))):=by
  refine fn_enterW func233 rfl ntmps233 (by simp) ?_;subst hA;refine Zs ?_;refine tv (o_fieldAddr (o:=2) underlying263 rfl rfl sz4 rfl) ?_;refine tl_u rfl (o_stU rfl upqz sz4 rfl rfl (by first|decide|simp|omega) rfl) ?_;refine nq ?_;refine Zfc ?_;refine tl_u rfl (o_stU rfl upqz sz261 rfl rfl (by first|decide|simp|omega) rfl) ?_;refine nq ?_;refine Zgl ?_;refine tv (by first|exact o_load p124 rfl hsqz rfl|exact o_loadC p124 rfl (by assumption)) ?_;refine tv (o_nilCheck rfl) ?_;refine tv (o_fieldAddr (o:=2) underlying235 rfl rfl sz125 rfl) ?_;refine tl_u rfl (o_stU rfl upqz sz125 rfl rfl (by first|decide|simp|omega) rfl) ?_;refine tl_nil ?_;exact ⟨_,_,res0 rfl,Dr.sat drqz,rfl,rfl⟩
end Go.Vl

namespace Go.Vl
open Go Go.Proofs Go.Proofs.Tryz
def stI (xs:List Nat):List Nat:=spl (sizedL 1024 xs) 128 (List.replicate 8 0)
theorem sized_len (n:Nat)(xs:List Nat):(sizedL n xs).length=n:=by unfold sizedL;rw [List.length_append,List.length_take,List.length_replicate];omega
theorem sized_b {n:Nat}{xs:List Nat}(h:∀x∈xs,x<256):∀x∈sizedL n xs,x<256:=λ x hx=>by
  unfold sizedL at hx
  rcases List.mem_append.1 hx with h1|h1
  . exact h x (List.mem_of_mem_take h1)
  rw [(List.mem_replicate.1 h1).2];decide
def stZ (xs:List Nat)(k:Nat):List Nat:=spl (sizedL 1024 xs) 128 (List.replicate k 0)
theorem stZ_zero (xs:List Nat):stZ xs 0=sizedL 1024 xs:=by unfold stZ;rw [List.replicate_zero,spl_nil]
theorem stZ_succ (xs:List Nat){k:Nat}(h:k<8):(stZ xs k).set (128+k) 0=stZ xs (k+1):=spl_zero (by rw [sized_len];omega)
theorem stz_len (xs:List Nat){k:Nat}(h:k<=8):((stZ xs k)).length=1024:=by unfold stZ;rw [spl_length (by rw [List.length_replicate,sized_len];omega),sized_len]
theorem stI_len (xs:List Nat):(stI xs).length=1024:=stz_len xs (Nat.le_refl 8)
theorem stI_b {xs:List Nat}(h:∀x∈xs,x<256):∀x∈stI xs,x<256:=λ x hx=>by
  unfold stI spl at hx
  rcases List.mem_append.1 hx with h1|h1
  . rcases List.mem_append.1 h1 with h2|h2
    . exact sized_b h x (List.mem_of_mem_take h2)
    rw [(List.mem_replicate.1 h2).2];decide
  exact sized_b h x (List.mem_of_mem_drop h1)
def stD (xs:List Nat):DevS:=fromS 16 (stI xs)
theorem stD_len (xs:List Nat):(stD xs).ls.length=16:=by simp [stD,fromS,newS]
def plA (at_:Int):Nat:=if at_%384<64 then (at_%384).toNat+64 else (at_%384).toNat+640
def plN (at_:Int)(m:Nat):Nat:=min (min m 12) ((if at_%384<64 then 128 else 1024)-plA at_)
attribute [local irreducible] crk crL crc Sl pt ro Dev imgS recS readS recsF rdW rdO rkT Parts rvl recordsS runsL adrF kcl xcl kys runA runsF layF linR flLs stoL writeT writeS comS clearS extX ovF newS fW fW1 sizedL
end Go.Vl

namespace Go.Vl
open Go Go.Proofs Go.Proofs.Tryz
structure Pu12 where
  q:Int
  a:Option Addr
  c:Nat
  b:List Nat
  fr:Bool
def Pu12.cells (x:Pu12):List Value:=[.int .i64 x.q,.slice x.a x.b.length x.c,.bool x.fr]
structure PuW (A:SP) (x:Pu12):Prop where
  q: -9223372036854775808<=x.q/\ x.q<=9223372036854775807
  cap:x.b.length<=x.c
  rs:Rs A x.a (bys x.b)
  by_:∀y∈x.b,y<256
theorem PuW.left {A X:SP}{x:Pu12}(h:PuW A x):PuW (A*X) x:=⟨h.q,h.cap,h.rs.left,h.by_⟩
def ptl (l:List Pu12):List Value:=l.flatMap Pu12.cells
def lay12 (f:TF)(x:Pu12):TF:=layF (plA x.q) (x.b.take (plN x.q x.b.length)) x.fr f
def laysK (l:List Pu12)(i:Nat):TF:=(l.take i).foldl lay12 tf0
def kdF (f:TF)(a:Nat):Int:=match f a with|none=>0|some (_,b)=>if b then 2 else 1
def bkK (f:TF):List Int:=(List.range 1024).map (kdF f)
def bkB (f:TF):List Nat:=(List.range 1024).map (byF f)
def bkc (f:TF):List Value:=ints (bkK f)++bys (bkB f)
def put1 (f:TF)(p x:Nat)(b:Bool):TF:=λ c=>if c=p then some (x,b) else f c
attribute [local irreducible] crk crL crc Sl pt ro Dev imgS recS readS recsF rdW rdO rkT Parts rvl recordsS runsL adrF kcl xcl kys runA runsF layF linR flLs stoL writeT writeS comS clearS extX ovF newS fW fW1 sizedL bkc ptl
end Go.Vl

namespace Go.Vl
open Go Go.Proofs Go.Proofs.Tryz
structure RunQ (f:TF) (k:Bool) (l:List Nat) (out:List (Nat×List Nat)):Prop where
  pos:∀r∈out,1<=r.2.length
  top:∀r∈out,∃x∈l,r.1+r.2.length=x+1
  gap:out.Pairwise λ r s=>r.1+r.2.length<s.1
  kind:∀r∈out,∀j,j<r.2.length->isK f k (r.1+j)=true/\ r.2[j]? =some (byF f (r.1+j))
  cov:∀x∈l,∃r∈out,r.1<=x/\ x<r.1+r.2.length
theorem runQ_step {f:TF}{k:Bool}{l:List Nat}{out:List (Nat×List Nat)}{a:Nat}(h:RunQ f k l out)(ha:isK f k a=true)(hl:∀x∈l,x<a):RunQ f k (l++[a]) (runA f out a):=by
  cases hj:adjB out a with
  |true=>
    obtain ⟨O,r,rfl,hadj,hrun⟩:=adj_t (f:=f) hj;rw [hrun]
    have hp:=List.pairwise_append.1 h.gap;refine ⟨λ z hz=> ?_,λ z hz=> ?_,List.pairwise_append.2 ⟨hp.1,List.pairwise_singleton _ _,λ x hx y hy=> ?_⟩,λ z hz j hjl=> ?_,λ x hx=> ?_⟩
    . rcases List.mem_append.1 hz with h1|h1
      . exact h.pos z (List.mem_append_left _ h1)
      rw [List.mem_singleton.1 h1];simp
    . rcases List.mem_append.1 hz with h1|h1
      . obtain ⟨x,hx,e⟩:=h.top z (List.mem_append_left _ h1);exact ⟨x,List.mem_append_left _ hx,e⟩
      rw [List.mem_singleton.1 h1]
      exact ⟨a,by simp,by simp only [List.length_append,List.length_singleton];omega⟩
    . rw [List.mem_singleton.1 hy]
      exact hp.2.2 x hx r (List.mem_singleton.2 rfl)
    . rcases List.mem_append.1 hz with h1|h1
      . exact h.kind z (List.mem_append_left _ h1) j hjl
      rw [List.mem_singleton.1 h1] at hjl ⊢
      simp only [List.length_append,List.length_singleton] at hjl ⊢
      by_cases hjr:j<r.2.length
      . obtain ⟨g1,g2⟩:=h.kind r (by simp) j hjr;exact ⟨g1,by rw [List.getElem?_append_left hjr];exact g2⟩
      obtain rfl:j=r.2.length:=by omega
      rw [hadj]
      exact ⟨ha,by rw [List.getElem?_append_right (Nat.le_refl _),Nat.sub_self];rfl⟩
    rcases List.mem_append.1 hx with h1|h1
    . obtain ⟨z,hz,g1,g2⟩:=h.cov x h1
      rcases List.mem_append.1 hz with h2|h2
      . exact ⟨z,List.mem_append_left _ h2,g1,g2⟩
      rw [List.mem_singleton.1 h2] at g1 g2
      exact ⟨_,List.mem_append_right _ (List.mem_singleton.2 rfl),g1,by simp only [List.length_append,List.length_singleton];omega⟩
    rw [List.mem_singleton.1 h1]
    have:=h.pos r (by simp);exact ⟨_,List.mem_append_right _ (List.mem_singleton.2 rfl),by simp only [];omega,by simp only [List.length_append,List.length_singleton];omega⟩
  |false=>
    rw [adj_f hj]
    have hlt:∀z∈out,z.1+z.2.length<a:=λ z hz=>by
      rcases Nat.eq_zero_or_pos out.length with h0|h0
      . rw [List.eq_nil_of_length_eq_zero h0] at hz;cases hz
      obtain ⟨O,r,rfl⟩:=list_snoc h0;rw [adjB_snoc] at hj
      have hne:=of_decide_eq_false hj;obtain ⟨x,hx,e⟩:=h.top r (by simp);have hxa:=hl x hx
      rcases List.mem_append.1 hz with h1|h1
      . have:=(List.pairwise_append.1 h.gap).2.2 z h1 r (List.mem_singleton.2 rfl)
        omega
      rw [List.mem_singleton.1 h1];omega
    refine ⟨λ z hz=> ?_,λ z hz=> ?_,List.pairwise_append.2 ⟨h.gap,List.pairwise_singleton _ _,λ x hx y hy=> ?_⟩,λ z hz j hjl=> ?_,λ x hx=> ?_⟩
    . rcases List.mem_append.1 hz with h1|h1
      . exact h.pos z h1
      rw [List.mem_singleton.1 h1];simp
    . rcases List.mem_append.1 hz with h1|h1
      . obtain ⟨x,hx,e⟩:=h.top z h1;exact ⟨x,List.mem_append_left _ hx,e⟩
      rw [List.mem_singleton.1 h1];exact ⟨a,by simp,rfl⟩
    . rw [List.mem_singleton.1 hy];exact hlt x hx
    . rcases List.mem_append.1 hz with h1|h1
      . exact h.kind z h1 j hjl
      rw [List.mem_singleton.1 h1] at hjl ⊢
      simp only [List.length_singleton] at hjl
      obtain rfl:j=0:=by omega
      exact ⟨ha,rfl⟩
    rcases List.mem_append.1 hx with h1|h1
    . obtain ⟨z,hz,g1,g2⟩:=h.cov x h1;exact ⟨z,List.mem_append_left _ hz,g1,g2⟩
    rw [List.mem_singleton.1 h1]
    exact ⟨_,List.mem_append_right _ (List.mem_singleton.2 rfl),Nat.le_refl _,by show a<a+1;omega⟩
theorem runQ_all {n:Nat}{k:Bool}{f:TF}:∀i,i<=(adrF n k f).length->RunQ f k ((adrF n k f).take i) (runsL f ((adrF n k f).take i))
  |0,_=>by
    rw [List.take_zero]
    exact ⟨λ r h=>(by cases h),λ r h=>(by cases h),List.Pairwise.nil,λ r h=>(by cases h),λ r h=>(by cases h)⟩
  |i+1,h=>by
    have ih:=runQ_all (n:=n) (k:=k) (f:=f) i oqz;rw [runs_next rfl oqz,List.take_succ_eq_append_getElem oqz]
    refine runQ_step ih ?_ λ x hx=> ?_
    . exact (adr_mem.1 (List.getElem_mem oqz)).2
    obtain ⟨j,hj,rfl⟩:=List.mem_iff_getElem.1 hx;rw [List.length_take] at hj
    rw [List.getElem_take]
    exact List.pairwise_iff_getElem.1 (adr_sorted n k f) j i oqz oqz oqz
theorem runQ_F (n:Nat)(k:Bool)(f:TF):RunQ f k (adrF n k f) (runsF n k f):=by
  have:=runQ_all (n:=n) (k:=k) (f:=f) _ (Nat.le_refl _);rw [List.take_length] at this
  unfold runsF;exact this
def runG (L:List (Nat×List Nat)):Prop:=L.Pairwise (λ r s=>r.1+r.2.length<s.1)/\∀r∈L,1<=r.2.length
theorem rng_mem {lo hi x:Nat}:x∈(List.range (hi+1-lo)).map (λ i=>lo+i)↔lo<=x/\ x<=hi:=by
  rw [List.mem_map]
  constructor
  . rintro ⟨i,hi2,rfl⟩;have:=List.mem_range.1 hi2
    omega
  rintro ⟨h1,h2⟩;exact ⟨x-lo,List.mem_range.2 oqz,by omega⟩
theorem rng_sorted (lo k:Nat):((List.range k).map (λ i=>lo+i)).Pairwise (·<·):=by
  rw [List.pairwise_map]
  exact (range_sorted k).imp λ h=>by omega
theorem linR_mem:∀{L:List (Nat×List Nat)} {d x:Nat} (_:runG L),x∈linR L d↔d<=x/\∃r∈L,r.1/64<=x/\ x<=(r.1+r.2.length-1)/64
  |[],d,x,_=>by unfold linR;simp
  |r::l,d,x,h=>by
    have hp:=List.pairwise_cons.1 h.1;have ih:=linR_mem (L:=l) (d:=max d ((r.1+r.2.length-1)/64+1)) (x:=x) ⟨hp.2,λ r hr=>h.2 r (List.mem_cons_of_mem _ hr)⟩;have hr1:=h.2 r (List.mem_cons_self ..)
    unfold linR
    rw [List.mem_append,rng_mem,ih]
    constructor
    . rintro (⟨h1,h2⟩|⟨h1,r2,h3,h4⟩)
      . exact ⟨by omega,r,List.mem_cons_self ..,by omega,h2⟩
      exact ⟨by omega,r2,List.mem_cons_of_mem _ h3,h4⟩
    rintro ⟨h1,r2,h3,h4,h5⟩
    rcases List.mem_cons.1 h3 with rfl|h3
    . exact .inl ⟨by omega,h5⟩
    have:=hp.1 r2 h3
    by_cases hx:x<=(r.1+r.2.length-1)/64
    . exact .inl ⟨by omega,hx⟩
    exact .inr ⟨by omega,r2,h3,h4,h5⟩
theorem linR_sorted:∀{L:List (Nat×List Nat)} {d:Nat} (_:runG L),(linR L d).Pairwise (·<·)
  |[],d,_=>by unfold linR;exact List.Pairwise.nil
  |r::l,d,h=>by
    have hp:=List.pairwise_cons.1 h.1;have hg:runG l:=⟨hp.2,λ r hr=>h.2 r (List.mem_cons_of_mem _ hr)⟩
    unfold linR
    rw [List.pairwise_append]
    refine ⟨rng_sorted ..,linR_sorted hg,λ x hx y hy=> ?_⟩;have h1:=rng_mem.1 hx;have h2:=(linR_mem hg).1 hy
    omega
theorem hasK_iff {kd:Bool}{f:TF}{d:Nat}:hasK kd f d=true↔∃x,x/64=d/\ isK f kd x=true:=by
  unfold hasK
  rw [List.any_eq_true]
  constructor
  . rintro ⟨k,h1,h2⟩;have:=List.mem_range.1 h1;exact ⟨64*d+k,by omega,h2⟩
  rintro ⟨x,h1,h2⟩;exact ⟨x%64,List.mem_range.2 oqz,by rwa [show 64*d+x%64=x by omega]⟩
theorem linR_runs {N:Nat}{D:List Nat}{f:TF}{kd:Bool}(h:LnOk N D f):linR (runsF (N*64) kd f) 0=D.filter (hasK kd f):=by
  have hQ:=runQ_F (N*64) kd f;have hG:runG (runsF (N*64) kd f):=⟨hQ.gap,hQ.pos⟩;refine sorted_ext (linR_sorted hG) (List.Pairwise.sublist List.filter_sublist h.1) λ x=> ?_
  rw [linR_mem hG,List.mem_filter,hasK_iff]
  constructor
  . rintro ⟨_,r,hr,h1,h2⟩;have hk:=(hQ.kind r hr (max r.1 (64*x)-r.1) (by have:=hQ.pos r hr;omega)).1;rw [show r.1+(max r.1 (64*x)-r.1)=max r.1 (64*x) by omega] at hk
    have hx:max r.1 (64*x)/64=x:=(by omega);have h3:f (max r.1 (64*x))≠none:=λ e=>by unfold isK at hk;rw [e] at hk;simp at hk
    exact ⟨hx▸h.2.1 _ h3,_,hx,hk⟩
  rintro ⟨hx,y,rfl,hk⟩;have h3:f y≠none:=λ e=>by unfold isK at hk;rw [e] at hk;simp at hk
  have h4:=h.2.2.1 _ (h.2.1 y h3);obtain ⟨r,hr,h5,h6⟩:=hQ.cov y (adr_mem.2 ⟨by omega,hk⟩);exact ⟨Nat.zero_le _,r,hr,by omega,by omega⟩
theorem filt_t {D:List Nat}{j:Nat}{p:Nat->Bool}(h:j<D.length)(hp:p D[j]=true):(D.drop j).filter p=D[j]::(D.drop (j+1)).filter p:=by
  rw [List.drop_eq_getElem_cons h,List.filter_cons,if_pos hp]
theorem filt_f {D:List Nat}{j:Nat}{p:Nat->Bool}(h:j<D.length)(hp:p D[j]=false):(D.drop j).filter p=(D.drop (j+1)).filter p:=by
  rw [List.drop_eq_getElem_cons h,List.filter_cons,if_neg (by rw [hp];decide)]
attribute [local irreducible] crk crL crc Sl pt ro Dev imgS recS readS recsF rdW rdO rkT Parts rvl recordsS runsL adrF kcl xcl kys runA runsF layF ovF TxA adZ WkA SlB blkS conB imF RDev lineC RLines
theorem Zki {p r:Prop}(k:r)(h:Kq r->p:=by intro k;refine tm 4 rfl kqz rfl (o_nilCheck rfl) ?_;refine tm 5 rfl kqz rfl (o_fieldAddr (o:=0) underlying235 rfl rfl sz48 rfl) ?_;exact k.o):p:=h ⟨k⟩
theorem write12r_c {A R:SP}{C:SP->SP}{q r lg t m c:Nat}{a:Option Addr}{vs D:List Nat}{f:TF}{s:DevS}{kd over:Bool}{o:Value}{L:List (Nat×List Nat)}(hc:Ct A (RDev r s) R C:=by exact cbqz)(hq:Has R q (cl [pz r,pz lg,o] 235))(ht:Has R t (cl [pz q,.slice a m c,.bool over] 263))(hr:Rs R a (ptrV vs))(hm:vs.length=m)(hD:D.length=m)(hln:LnOk s.ls.length D f)(htop:s.ls.length*64<=4194304)(hK:∀i (h:i<D.length) (h2:i<vs.length) k v,(lineC f D[i])[k]? =some v->Cell R vs[i] k v)(hX:runsF (s.ls.length*64) kd f=L)(hW:RunW (s.ls.length*64) L)(hLl:L.length<=4194304)(hroom:Room (sumL L) s):
    Fn Tryz.prog 266 #[pz t,.int .i64 (if kd then 2 else 1)] A (λ rr B=>∃e s2,writeT L s=(e,s2)/\ rr= .int .i64 e/\ B=C (RDev r s2)):=by
  refine fn_enterW func266 rfl ntmps266 (by simp) ?_;obtain ⟨rfl,hC⟩:=hc;have hmN:=lnok_len hln hD;refine Zbz ?_;refine tlm ?_;refine tl_c rfl (o_call bd230 rfl (runs12r_c (A:=R*RDev r s) (N:=s.ls.length) (kd:=kd) (f:=f) (D:=D) (has_left ht) hr.left hm hD hln oqz (λ i h h2 k v e=>(hK i h h2 k v e).left))) ?_;rintro _ _ ⟨a12,c12,vs12,rfl,hc12,hvs12,rfl⟩;rw [hX] at hc12 hvs12
  rw [hX]
  refine tl_have (λ _ _ h=>parts_getD hvs12 h.left) λ hps=> ?_
  refine Zhk ?_;refine tc_loop (λ kk ρ BB=>∃ (i:Nat) (s1:DevS),(i<=L.length)/\ (stoL (L.drop i) s1=stoL L s)/\ (s1.ls.length=s.ls.length)/\ (Room (sumL (L.drop i)) s1)/\ kk=L.length-i/\ ρ 6=(vn i)/\ ρ 0=(pz t)/\ ρ 1= .int .i64 (if kd then 2 else 1)/\ ρ 5= .slice a12 L.length c12/\ Dr BB (R*RDev r s1*Parts vs12 (L.map (·.2))*Sl 2 (.slice a12 L.length c12) L.length (kcl L vs12))) (m:=L.length-(0)) ?_ ?_
  . exact ⟨0,s,by omega,rfl,rfl,by rw [List.drop_zero];exact hroom,rfl,rfl,rfl,rfl,rfl,drqz⟩
  intro k ρ B hI;obtain ⟨i,s1,hp0,hp1,hp2,hp3,hkk1,hE6,hE0,hE1,hE5,hBA⟩:=hI;refine tc_pre hBA.sat ?_;clear hBA;refine te 6 hE6 ?_;refine te 0 hE0 ?_;refine te 1 hE1 ?_;refine te 5 hE5 ?_;refine Zed ?_;refine tv (o_len underlying295 rfl) ?_;refine Zn ?_;refine tc_cond rfl (λ h=> ?_) (λ h=> ?_)
  . have hi:i<L.length:=(by simp at h;omega);obtain ⟨xb,xc,hv,hxc⟩:=hps i hi;obtain ⟨hw1_,hw2_,hwb⟩:=hW _ (getD_mem hi);have hk0:=kcl_a0 hvs12 hi;have hk1:=kcl_a1 hvs12 hi;rw [hv] at hk1
    refine tc_have (λ _ _ h=>(rdev_iff.1 h.left.left).1) λ hw1=> ?_
    refine tc_have (λ _ _ h=>(psr_of (A:=R) hvs12 hps (λ x hx=>by have h9:=(hW x hx).2.1;omega)) i hi|>λ z=>z) λ hps2=> ?_
    obtain ⟨xb3,xc3,hv3,hrb,_⟩:=hps2;rw [hv] at hv3
    simp only [Value.slice.injEq] at hv3
    obtain ⟨rfl,_,rfl⟩:=hv3;refine Zly ?_;refine tc_regh (S:=R*Parts vs12 (L.map (·.2))*Sl 2 (.slice a12 L.length c12) L.length (kcl L vs12)) mo drqz ?_
    show TH _ _ _ _ _ 19 (Array.replicate 19 false) _ _
    refine Zq ?_;refine tm 2 rfl kqz rfl (o_fieldAddr (o:=0) underlying263 rfl rfl sz124 rfl) ?_;refine tm 3 rfl kqz rfl (o_load p124 rfl (by repeat (first|exact ht|apply has_left)) rfl) ?_;refine Zki ?_;refine tm 6 rfl kqz rfl (o_load p48 rfl (by repeat (first|exact hq|apply has_left)) rfl) ?_;refine tm 7 rfl kqz rfl (o_move wqz) ?_;refine tm 8 rfl kqz rfl (o_move wqz) ?_;refine tm 9 rfl kqz rfl (o_ixP (a:=a12) underlying295 sz298 rfl rfl oqz (nn_rs (xs:=kcl L vs12) sq3z (λ _=>by rw [kcl_len hvs12];omega))) ?_;refine tm 10 rfl kqz rfl (o_faP (a:=a12) (m:=0) (o:=0) underlying298 rfl rfl sz3 rfl (nn_rs (xs:=kcl L vs12) sq3z (λ _=>by rw [kcl_len hvs12];omega))) ?_;refine tm 11 rfl kqz rfl (o_ldP (a:=a12) (xs:=kcl L vs12) p3 rfl sq3z hk0) ?_;refine tm 12 rfl kqz rfl (o_move wqz) ?_;refine tm 13 rfl kqz rfl (o_move wqz) ?_;refine tm 14 rfl kqz rfl (o_ixP (a:=a12) underlying295 sz298 rfl rfl oqz (nn_rs (xs:=kcl L vs12) sq3z (λ _=>by rw [kcl_len hvs12];omega))) ?_;refine tm 15 rfl kqz rfl (o_faP (a:=a12) (m:=0) (o:=1) underlying298 rfl rfl sz57 rfl (nn_rs (xs:=kcl L vs12) sq3z (λ _=>by rw [kcl_len hvs12];omega))) ?_;refine tm 16 rfl kqz rfl (o_ldP (a:=a12) (xs:=kcl L vs12) p57 rfl sq3z hk1) ?_;refine th_one (i:=17) kqz ?_;refine oh_c rfl rfl rfl (o_call bd124 rfl (rStore_c (s:=s1) (p:=(((L.getD i (0,[])).1:Nat):Int)) (xs:=(L.getD i (0,[])).2) (hr:=by repeat (first|exact hrb|apply Rs.left)) (hm:=rfl) (hmc:=hxc) (hb:=hwb) (hroom:=λ _ l hl=>by have h9:=hp3 l hl;rw [drop_getD hi,sumL_cons] at h9;omega))) ?_;rintro _ _ ⟨e36,s36,hs36,rfl,rfl⟩;refine ⟨by repeat (first|with_reducible exact dr_refl|apply dr_keep|apply dr_drop), ?_⟩;refine tm 18 rfl kqz rfl (o_assign wqz) ?_;refine Zba ?_;refine Zb ?_;refine Zl ?_;refine tc_cond rfl (λ h=> ?_) (λ h=> ?_)
    . have he0:e36≠0:=(by simpa using h);refine Zb ?_;refine Zbq ?_;exact ⟨.int .i64 (e36),C (RDev r s36),res1 rfl rfl,λ _ _ h=>by rw [hC];exact (Dr.sat (A':=R*RDev r s36) drqz) _ _ h,e36,s36,writeT_e (by rw [←hp1];exact stoL_e hi hs36 he0) he0,rfl,rfl⟩
    obtain rfl:e36=0:=by simpa using h
    refine Zfl ?_;exact ⟨_,by omega,i+1,s36,by omega,by rw [←hp1];exact (stoL_o hi hs36).symm,by have h9:=sto_len (((L.getD i (0,[])).1:Nat):Int) (L.getD i (0,[])).2 s1;rw [hs36] at h9;exact h9.trans hp2,sto_room hs36 hw1 hwb (by rw [Nat.add_comm,←sumL_cons,←drop_getD hi];exact hp3),rfl,rfl,rfl,rfl,rfl,drqz⟩
  obtain rfl:i=L.length:=by simp at h;omega
  have hst:stoL L s=(0,s1):=(by rw [←hp1,List.drop_eq_nil_of_le oqz];unfold stoL;rfl);have hlr:linR L 0=D.filter (hasK kd f):=(by rw [←hX];exact linR_runs hln);refine Zf ?_;refine Zce ?_;refine tc_loop (λ kk ρ BB=>∃ (j:Nat) (s2:DevS),(j<=m)/\ (flLs ((D.drop j).filter (hasK kd f)) s2=flLs (linR L 0) s1)/\ kk=m-j/\ ρ 8=(vn j)/\ ρ 0=(pz t)/\ ρ 1= .int .i64 (if kd then 2 else 1)/\ Dr BB (R*RDev r s2)) (m:=m-(0)) ?_ ?_
  . exact ⟨0,s1,by omega,by rw [hlr];rfl,rfl,rfl,rfl,rfl,drqz⟩
  intro k ρ B hI;obtain ⟨j,s2,hq0,hq1,hkk2,hE8,hE0,hE1,hBA⟩:=hI;refine tc_pre hBA.sat ?_;clear hBA;refine te 8 hE8 ?_;refine te 0 hE0 ?_;refine te 1 hE1 ?_;refine Ze ?_;refine Zdo ?_;refine tv (o_load p261 rfl (by repeat (first|exact ht|apply has_left)) rfl) ?_;refine tv (o_len underlying261 rfl) ?_;refine Zn ?_;refine tc_cond rfl (λ h=> ?_) (λ h=> ?_)
  . have hj:j<m:=(by first|omega|(simp at h;omega));have hjD:j<D.length:=(by omega);obtain ⟨d,hd⟩:∃d,D[j]=d:=⟨_,rfl⟩;obtain ⟨v,hv⟩:∃v,vs[j]'oqz=v:=⟨_,rfl⟩;have hdN:d<s.ls.length:=hln.2.2.1 d (hd▸List.getElem_mem _);have hKv:=hK j oqz oqz;rw [hd,hv] at hKv
    refine Zbe ?_;refine Zb2 ?_;refine tv (o_fieldAddr (o:=1) underlying263 rfl rfl sz261 rfl) ?_;refine tv (o_load p261 rfl (by repeat (first|exact ht|apply has_left)) rfl) ?_;refine tlm ?_;refine tv (o_ixP1 (a:=a) (j:=j) underlying261 sz325 rfl rfl oqz (nn_rs (xs:=ptrV vs) (by repeat (first|exact hr|apply Rs.left)) (by rw [ptrV_len];omega))) ?_;refine tv (o_ldP (a:=a) (xs:=ptrV vs) p325 rfl (by repeat (first|exact hr|apply Rs.left)) (ptrV_at (show j<vs.length by omega))) ?_;refine tl_env (d:=55) (v:=(pz v)) (by show Value.pointer (some ⟨vs[j],0,none⟩)=_;rw [hv]) ?_;refine tlm ?_;refine tl_c rfl (o_call bd280 rfl (has12r_c (v:=v) (d:=d) (f:=f) (kd:=kd) (λ k x e=>by repeat (first|exact hKv k x e|apply Cell.left)))) ?_;refine Zim ?_;refine tc_cond rfl (λ h=> ?_) (λ h=> ?_)
    . have hh:hasK kd f d=false:=(by simpa using h);refine Zi5 ?_;refine Zbv ?_;exact ⟨_,by omega,j+1,_,by omega,by first|(rw [←hq1,filt_t hjD (hd.symm▸hh),hd];exact (flLs_o hs77).symm)|(rw [←hq1,filt_f hjD (hd.symm▸hh)]),rfl,rfl,rfl,rfl,drqz⟩
    have hh:hasK kd f d=true:=(by simpa using h);refine Zhp ?_;refine tc_regh (S:=R) mo drqz ?_
    show TH _ _ _ _ _ 20 (Array.replicate 20 false) _ _
    refine Zq ?_;refine tm 2 rfl kqz rfl (o_fieldAddr (o:=0) underlying263 rfl rfl sz124 rfl) ?_;refine tm 3 rfl kqz rfl (o_load p124 rfl (by repeat (first|exact ht|apply has_left)) rfl) ?_;refine Zki ?_;refine tm 6 rfl kqz rfl (o_load p48 rfl (by repeat (first|exact hq|apply has_left)) rfl) ?_;refine Zfk ?_;refine tm 9 rfl kqz rfl (o_fieldAddr (o:=1) underlying263 rfl rfl sz261 rfl) ?_;refine tm 10 rfl kqz rfl (o_load p261 rfl (by repeat (first|exact ht|apply has_left)) rfl) ?_;refine tm 11 rfl kqz rfl (o_move wqz) ?_;refine tm 12 rfl kqz rfl (o_ixP1 (a:=a) (j:=j) underlying261 sz325 rfl rfl oqz (nn_rs (xs:=ptrV vs) (by repeat (first|exact hr|apply Rs.left)) (by rw [ptrV_len];omega))) ?_;refine tm 13 rfl kqz rfl (o_ldP (a:=a) (xs:=ptrV vs) p325 rfl (by repeat (first|exact hr|apply Rs.left)) (ptrV_at (show j<vs.length by omega))) ?_;refine th_env (d:=72) (v:=(pz v)) (by show Value.pointer (some ⟨vs[j],0,none⟩)=_;rw [hv]) ?_;refine tm 14 rfl kqz rfl (o_nilCheck rfl) ?_;refine tm 15 rfl kqz rfl (o_fieldAddr (o:=0) underlying330 rfl rfl sz3 rfl) ?_;refine tm 16 rfl kqz rfl (o_loadC p3 rfl (by repeat (first|exact (hKv 0 _ (lineC_at0 f d))|apply Cell.left))) ?_;refine tm 17 rfl kqz rfl (o_mulI (a:=64) (b:=((d:Nat):Int)) rfl rfl oqz) ?_;refine th_env (d:=76) (v:=(vn (d*64))) (by show Value.int .i64 (64*((d:Nat):Int))=_;congr 1;omega) ?_;refine th_one (i:=18) kqz ?_;refine oh_c rfl rfl rfl (o_call bd262 rfl (rFlush_c (s:=s2) (p:=((d*64:Nat):Int)))) ?_;rintro _ _ ⟨e77,s77,hs77,rfl,rfl⟩;refine ⟨by repeat (first|with_reducible exact dr_refl|apply dr_keep|apply dr_drop), ?_⟩;refine tm 19 rfl kqz rfl (o_assign wqz) ?_;refine Zba ?_;refine Zb ?_;refine Zl ?_;refine tc_cond rfl (λ h=> ?_) (λ h=> ?_)
    . have he0:e77≠0:=(by simpa using h);refine Zb ?_;refine Zbq ?_;exact ⟨.int .i64 (e77),C (RDev r s77),res1 rfl rfl,λ _ _ h=>by rw [hC];exact (Dr.sat (A':=R*RDev r s77) drqz) _ _ h,e77,s77,writeT_o hst (by rw [←hq1,filt_t hjD (hd.symm▸hh),hd];exact flLs_e hs77 he0),rfl,rfl⟩
    obtain rfl:e77=0:=by simpa using h
    refine Zfl ?_;exact ⟨_,by omega,j+1,_,by omega,by first|(rw [←hq1,filt_t hjD (hd.symm▸hh),hd];exact (flLs_o hs77).symm)|(rw [←hq1,filt_f hjD (hd.symm▸hh)]),rfl,rfl,rfl,rfl,drqz⟩
  obtain rfl:j=m:=by first|omega|(simp at h;omega)
  rw [List.drop_eq_nil_of_le (show D.length<=j by omega)] at hq1
  refine Zgf ?_;exact ⟨.int .i64 (0),C (RDev r s2),res1 rfl rfl,λ _ _ h=>by rw [hC];exact (Dr.sat (A':=R*RDev r s2) drqz) _ _ h,0,s2,writeT_o hst (by rw [←hq1];rfl),rfl,rfl⟩
end Go.Vl

namespace Go.Vl
open Go Go.Proofs Go.Proofs.Tryz
theorem runP_b {n:Nat}{k:Bool}{f:TF}(hb:∀a c,f a=some c->c.1<256):∀i,i<=(adrF n k f).length->RunP n i (runsL f ((adrF n k f).take i))
  |0,_=>⟨rfl,Nat.le_refl _,λ r h=>(by cases h)⟩
  |i+1,h=>by
    rw [runs_next (out:=runsL f ((adrF n k f).take i)) rfl oqz]
    obtain ⟨c,hf,_,hn⟩:=adr_at (n:=n) (k:=k) (f:=f) (i:=i) oqz;exact runP_step (runP_b hb i oqz) hn (by rw [byF_some hf];exact hb _ _ hf)
theorem runP_Fb {n:Nat}{k:Bool}{f:TF}(hb:∀a c,f a=some c->c.1<256):RunP n (adrF n k f).length (runsF n k f):=by
  have:=runP_b (k:=k) (n:=n) hb (adrF n k f).length (Nat.le_refl _);rw [List.take_length] at this;unfold runsF;exact this
theorem lnok_nil {N:Nat}{f:TF}{D:List Nat}{kd:Bool}(h:LnOk N D f)(hD:D.length=0):runsF (N*64) kd f=[]:=by
  have h1:=adL_eq (kd:=kd) h;rw [List.eq_nil_of_length_eq_zero hD] at h1
  unfold runsF
  rw [←h1];unfold runsL adL;rfl
theorem lnok_some {N:Nat}{f:TF}{D:List Nat}(h:LnOk N D f)(hD:0<D.length)(hl:runsF (N*64) false f=[]):runsF (N*64) true f≠[]:=λ h2=>by
  have hd:=List.getElem_mem (l:=D) hD;obtain ⟨x,hx,e⟩:=h.2.2.2 _ hd;have hlt:=h.2.2.1 _ hd
  cases hk:isK f true x with
  |true=>
    obtain ⟨r,hr,_⟩:=(runQ_F (N*64) true f).cov x (adr_mem.2 ⟨by omega,hk⟩);rw [h2] at hr;cases hr
  |false=>
    have hk2:isK f false x=true:=by
      unfold isK at hk ⊢
      cases hf:f x with
      |none=>exact absurd hf hx
      |some c=>rw [hf] at hk;obtain ⟨z,b⟩:=c;cases b<;>simp at hk ⊢
    obtain ⟨r,hr,_⟩:=(runQ_F (N*64) false f).cov x (adr_mem.2 ⟨by omega,hk2⟩);rw [hl] at hr;cases hr
attribute [local irreducible] crk crL crc Sl pt ro Dev imgS recS readS recsF rdW rdO rkT Parts rvl recordsS runsL adrF kcl xcl kys runA runsF layF ovF TxA adZ WkA SlB blkS conB imF RDev lineC RLines
theorem commit12r_c {A R:SP}{C:SP->SP}{q r lg la lz t m c:Nat}{a:Option Addr}{vs D:List Nat}{f:TF}{s:DevS}{over:Bool}{o:Value}(hc:Ct A (RDev r s) R C:=by exact cbqz)(hq:Has R q (cl [pz r,pz lg,o] 235))(ht:Has R t (cl [pz q,.slice a m c,.bool over] 263))(hl:Has R lg (cl [pz r,vn la,vn lz] 233))(hr:Rs R a (ptrV vs))(hm:vs.length=m)(hD:D.length=m)(hln:LnOk s.ls.length D f)(htop:s.ls.length*64<=4194304)(hK:∀i (h:i<D.length) (h2:i<vs.length) k v,(lineC f D[i])[k]? =some v->Cell R vs[i] k v)(hby:∀a c,f a=some c->c.1<256)(hlw:LogW (s.ls.length*64) la lz)(hroom:Room (2*(s.ls.length*64)+lz+8) s):
    Fn Tryz.prog 232 #[pz t] A (λ rr B=>∃e b s2,comS la lz (s.ls.length*64) f s=((e,b),s2)/\ rr= .tuple #[.int .i64 e,.bool b]/\ B=C (RDev r s2)):=by
  refine fn_enterW func232 rfl ntmps232 (by simp) ?_;obtain ⟨rfl,hC⟩:=hc;have hmN:=lnok_len hln hD;refine tc_have (λ _ _ h=>(rdev_iff.1 h).1) λ hwf=> ?_
  obtain ⟨LF,hLF⟩:∃L,runsF (s.ls.length*64) true f=L:=⟨_,rfl⟩;obtain ⟨LL,hLL⟩:∃L,runsF (s.ls.length*64) false f=L:=⟨_,rfl⟩;have hPF:=runP_Fb (n:=s.ls.length*64) (k:=true) hby;have hPL:=runP_Fb (n:=s.ls.length*64) (k:=false) hby;rw [hLF] at hPF
  rw [hLL] at hPL
  have haf:=adr_len (s.ls.length*64) true f;have hal:=adr_len (s.ls.length*64) false f;have hg0:Gd s.ls.length (2*(s.ls.length*64)+lz+8) s:=⟨rfl,hroom,hwf⟩;have hfs:=hPF.sum;have hfl:=hPF.len;have hls:=hPL.sum;have hll:=hPL.len;obtain ⟨w1,w2,w3,w4,w5⟩:=id hlw;refine Zkx ?_;refine tl_c rfl (o_call bd266 rfl (write12r_c (r:=r) (q:=q) (lg:=lg) (o:=o) (over:=over) (t:=t) (a:=a) (m:=m) (c:=c) (vs:=vs) (D:=D) (f:=f) (s:=s) (kd:=true) (L:=LF) (hq:=(by repeat (first|exact hq|apply has_left))) (ht:=(by repeat (first|exact ht|apply has_left))) (hr:=by repeat (first|exact hr|apply Rs.left)) (hm:=hm) (hD:=hD) (hln:=hln) (htop:=htop) (hK:=λ i h h2 k v e=>by repeat (first|exact hK i h h2 k v e|apply Cell.left)) (hX:=hLF) (hW:=hPF.ok) (hLl:=by omega) (hroom:=(hg0.le oqz).room))) ?_;rintro _ _ ⟨e7,s7,hs7,rfl,rfl⟩;have hg1:Gd s.ls.length (s.ls.length*64+lz+8) s7:=gd_writeT hs7 hPF.ok (hg0.le oqz);have hg1l:=hg1.len;refine Zd1 ?_;refine Zl ?_;refine tc_cond rfl (λ h=> ?_) (λ h=> ?_)
  . have he7:e7≠0:=(by simpa using h);refine Ze1 ?_;exact ⟨.tuple #[.int .i64 (e7),.bool (true)],C (RDev r s7),res2 rfl rfl rfl,λ _ _ h=>by rw [hC];exact (Dr.sat (A':=R*RDev r s7) drqz) _ _ h,e7,true,s7,com_w1 (by rw [hLF];exact hs7) he7,rfl,rfl⟩
  obtain rfl:e7=0:=by simpa using h
  refine Zc6 ?_;refine tl_c rfl (o_call bd184 rfl (Extents12r_c (A:=R*RDev r s7) (N:=s.ls.length) (L:=LL) (has_left ht) hr.left hm hD hln oqz (λ i h h2 k v e=>(hK i h h2 k v e).left) hLL oqz)) ?_;rintro _ _ ⟨a12,c12,rfl,hc12,rfl⟩;refine Zd1 ?_;refine tv (o_len underlying107 rfl) ?_;refine Zca ?_;refine tc_cond rfl (λ h=> ?_) (λ h=> ?_)
  . have hll0:LL=[]:=List.eq_nil_of_length_eq_zero (by first|(have h9:=of_decide_eq_true h;omega)|(simp at h;first|omega|(rw [h];rfl)));refine Zb2 ?_;refine tv (o_fieldAddr (o:=1) underlying263 rfl rfl sz261 rfl) ?_;refine tv (o_load p261 rfl (by repeat (first|exact ht|apply has_left)) rfl) ?_;refine tv (o_len underlying261 rfl) ?_;refine Ze4 ?_;refine tc_cond rfl (λ h=> ?_) (λ h=> ?_)
    . have hlf0:runsF (s.ls.length*64) true f≠[]:=lnok_some hln (by rw [hD];first|omega|(simp at h;omega)) (by rw [hLL];exact hll0);refine Zgl ?_;refine tv (o_load p124 rfl (by repeat (first|exact ht|apply has_left)) rfl) ?_;refine Z9 ?_;refine tv (o_load p48 rfl (by repeat (first|exact hq|apply has_left)) rfl) ?_;refine tl_c rfl (o_call bd223 rfl (rFence_c (s:=s7))) ?_;rintro _ _ ⟨e29,s29,hs29,rfl,rfl⟩;refine Zep ?_;refine Zb8 ?_;exact ⟨.tuple #[.int .i64 (e29),.bool (true)],C (RDev r s29),res2 rfl rfl rfl,λ _ _ h=>by rw [hC];exact (Dr.sat (A':=R*RDev r s29) drqz) _ _ h,e29,true,s29,com_0f (by rw [hLF];exact hs7) (by rw [hLL];exact hll0) hlf0 hs29,rfl,rfl⟩
    have hlf0:runsF (s.ls.length*64) true f=[]:=lnok_nil hln (by rw [hD];first|omega|(simp at h;omega));refine Zc6 ?_;refine Zb8 ?_;exact ⟨.tuple #[.int .i64 (0),.bool (true)],C (RDev r s7),res2 rfl rfl rfl,λ _ _ h=>by rw [hC];exact (Dr.sat (A':=R*RDev r s7) drqz) _ _ h,0,true,s7,com_00 (by rw [hLF];exact hs7) (by rw [hLL];exact hll0) hlf0,rfl,rfl⟩
  have hll0:LL≠[]:=λ e=>by subst e;simp at h
  refine Zfx ?_;refine tv (o_fieldAddr (o:=0) underlying263 rfl rfl sz124 rfl) ?_;refine tv (o_load p124 rfl (by repeat (first|exact ht|apply has_left)) rfl) ?_;refine tv (o_nilCheck rfl) ?_;refine tv (o_fieldAddr (o:=1) underlying235 rfl rfl sz152 rfl) ?_;refine tv (o_load p152 rfl (by repeat (first|exact hq|apply has_left)) rfl) ?_;refine tlm ?_;refine tl_c rfl (o_call bd267 rfl (rWrite_c (s:=s7) (r:=r) (bk:=lg) (at_:=la) (sz:=lz) (xs:=extX LL) (hl:=(by repeat (first|exact hl|apply has_left))) (hr:=(by repeat (first|with_reducible exact rs_sl|apply Rs.left))) (hm:=ext_len LL) (hX:=extX_xw hPL.ok oqz) (hlw:=by rw [hg1l];exact hlw) (hml:=by omega) (hroom:=(hg1.le oqz).room))) ?_;rintro _ _ ⟨e39,s39,hs39,rfl,rfl⟩;have hg2:Gd s.ls.length (s.ls.length*64+4) s39:=(by have h9:=gd_write (at_:=la) (sz:=lz) (k:=s.ls.length*64+4) (l:=extX LL) (hg1.le oqz) (by rw [ext_len];omega);rw [hs39] at h9;exact h9);have hg2l:=hg2.len;refine Zd1 ?_;refine Zl ?_;refine tc_cond rfl (λ h=> ?_) (λ h=> ?_)
  . have he39:e39≠0:=(by simpa using h);refine Zb7 ?_;refine tv (o_eqi rfl rfl) ?_;refine tl_env (d:=44) (v:= .bool (decide (e39=5))) (by first|rfl|(show Value.bool (decide _)=_;congr)) ?_;refine Zb8 ?_;exact ⟨.tuple #[.int .i64 (e39),.bool (decide (e39=5))],C (RDev r s39),res2 rfl rfl rfl,λ _ _ h=>by rw [hC];exact (Dr.sat (A':=R*RDev r s39) drqz) _ _ h,e39,decide (e39=5),s39,com_lw (by rw [hLF];exact hs7) (by rw [hLL];exact hll0) (by rw [hLL];exact hs39) he39,rfl,rfl⟩
  obtain rfl:e39=0:=by simpa using h
  refine Zc6 ?_;refine tl_c rfl (o_call bd266 rfl (write12r_c (r:=r) (q:=q) (lg:=lg) (o:=o) (over:=over) (t:=t) (a:=a) (m:=m) (c:=c) (vs:=vs) (D:=D) (f:=f) (s:=s39) (kd:=false) (L:=LL) (hq:=(by repeat (first|exact hq|apply has_left))) (ht:=(by repeat (first|exact ht|apply has_left))) (hr:=by repeat (first|exact hr|apply Rs.left)) (hm:=hm) (hD:=hD) (hln:=(by rw [hg2l];exact hln)) (htop:=(by rw [hg2l];exact htop)) (hK:=λ i h h2 k v e=>by repeat (first|exact hK i h h2 k v e|apply Cell.left)) (hX:=(by rw [hg2l];exact hLL)) (hW:=(by rw [hg2l];exact hPL.ok)) (hLl:=by omega) (hroom:=(hg2.le oqz).room))) ?_;rintro _ _ ⟨e46,s46,hs46,rfl,rfl⟩;have hg3:Gd s.ls.length 4 s46:=gd_writeT hs46 hPL.ok (hg2.le oqz);have hg3l:=hg3.len;refine Zd1 ?_;refine Zca ?_;refine tc_cond rfl (λ h=> ?_) (λ h=> ?_)
  . obtain rfl:e46=0:=by simpa using h
    refine Zgl ?_;refine tv (o_load p124 rfl (by repeat (first|exact ht|apply has_left)) rfl) ?_;refine Z9 ?_;refine tv (o_load p48 rfl (by repeat (first|exact hq|apply has_left)) rfl) ?_;refine tl_c rfl (o_call bd223 rfl (rFence_c (s:=s46))) ?_;rintro _ _ ⟨e56,s56,hs56,rfl,rfl⟩;have hg4:Gd s.ls.length 4 s56:=(by have h9:=gd_fe hg3;rw [hs56] at h9;exact h9);have hg4l:=hg4.len;refine Zd1 ?_;refine Zca ?_;refine tc_cond rfl (λ h=> ?_) (λ h=> ?_)
    . obtain rfl:e56=0:=by simpa using h
      refine Zgl ?_;refine tv (o_load p124 rfl (by repeat (first|exact ht|apply has_left)) rfl) ?_;refine tv (o_nilCheck rfl) ?_;refine tv (o_fieldAddr (o:=1) underlying235 rfl rfl sz152 rfl) ?_;refine tv (o_load p152 rfl (by repeat (first|exact hq|apply has_left)) rfl) ?_;refine tl_c rfl (o_call bd268 rfl (rClear_c (s:=s56) (r:=r) (bk:=lg) (at_:=la) (sz:=lz) (hl:=(by repeat (first|exact hl|apply has_left))) (hlw:=by rw [hg4l];exact hlw) (hroom:=(hg4.le oqz).room))) ?_;rintro _ _ ⟨e66,s66,hs66,rfl,rfl⟩;refine Zep ?_;refine Zc4 ?_;exact ⟨.tuple #[.int .i64 (e66),.bool (true)],C (RDev r s66),res2 rfl rfl rfl,λ _ _ h=>by rw [hC];exact (Dr.sat (A':=R*RDev r s66) drqz) _ _ h,e66,true,s66,com_cl (by rw [hLF];exact hs7) (by rw [hLL];exact hll0) (by rw [hLL];exact hs39) (by rw [hLL];exact hs46) hs56 hs66,rfl,rfl⟩
    have he56:e56≠0:=(by simpa using h);refine Zc6 ?_;refine Zc4 ?_;exact ⟨.tuple #[.int .i64 (e56),.bool (true)],C (RDev r s56),res2 rfl rfl rfl,λ _ _ h=>by rw [hC];exact (Dr.sat (A':=R*RDev r s56) drqz) _ _ h,e56,true,s56,com_fe (by rw [hLF];exact hs7) (by rw [hLL];exact hll0) (by rw [hLL];exact hs39) (by rw [hLL];exact hs46) hs56 he56,rfl,rfl⟩
  have he46:e46≠0:=(by simpa using h);refine Zdf ?_;refine Zca ?_;refine tc_cond rfl (λ h=> ?_) (sbq ?_)
  . exfalso;first|exact he46 (of_decide_eq_true h)|exact he46 (by simpa using h)
  intro h;refine Zc6 ?_;refine Zc4 ?_;exact ⟨.tuple #[.int .i64 (e46),.bool (true)],C (RDev r s46),res2 rfl rfl rfl,λ _ _ h=>by rw [hC];exact (Dr.sat (A':=R*RDev r s46) drqz) _ _ h,e46,true,s46,com_w2 (by rw [hLF];exact hs7) (by rw [hLL];exact hll0) (by rw [hLL];exact hs39) (by rw [hLL];exact hs46) he46,rfl,rfl⟩
theorem Commit12r_c {A R:SP}{q r lg la lz t m c:Nat}{a:Option Addr}{vs D:List Nat}{f:TF}{s:DevS}(hA:A=R*(pt q (cl [pz r,pz lg,((pz t))] 235)*pt lg (cl [pz r,vn la,vn lz] 233)*RDev r s*pt t (cl [pz q,.slice a m c,.bool false] 263)*Sl 1 (.slice a m c) m (ptrV vs)*RLines vs D f))(hvm:vs.length=m)(hDm:D.length=m)(hln:LnOk s.ls.length D f)(htop:s.ls.length*64<=4194304)(hby:∀a c,f a=some c->c.1<256)(hlw:LogW (s.ls.length*64) la lz)(hroom:Room (2*(s.ls.length*64)+lz+8) s)(ho:s.off=false:=by assumption):
    Fn Tryz.prog 186 #[pz t] A (λ rr B=>∃e b s2,comS la lz (s.ls.length*64) f s=((e,b),s2)/\ rr= .int .i64 e/\ ((b=true/\ B=R*((pt q (cl [pz r,pz lg,.pointer none] 235))*(pt lg (cl [pz r,vn la,vn lz] 233))*RDev r s2*(pt t (cl [pz q,.slice none 0 0,.bool true] 263))))∨(b=false/\ B=R*(pt q (cl [pz r,pz lg,((pz t))] 235)*pt lg (cl [pz r,vn la,vn lz] 233)*RDev r s2*pt t (cl [pz q,.slice a m c,.bool false] 263)*Sl 1 (.slice a m c) m (ptrV vs)*RLines vs D f)))):=by
  refine fn_enterW func186 rfl ntmps186 (by simp) ?_;subst hA;refine tc_eq (show _=R*pt q (cl [pz r,pz lg,((pz t))] 235)*pt lg (cl [pz r,vn la,vn lz] 233)*RDev r s*pt t (cl [pz q,.slice a m c,.bool false] 263)*Sl 1 (.slice a m c) m (ptrV vs)*RLines vs D f by ac_rfl) ?_;refine Zbz ?_;refine tl_c rfl (o_call bd231 rfl (in12r_ok (s:=s) (r:=r) (q:=q) (lg:=lg) (m:=m) (c:=c) (a:=a))) ?_;refine Zln ?_;intro h;refine Zc6 ?_;refine tl_c rfl (o_call bd232 rfl (commit12r_c (r:=r) (q:=q) (lg:=lg) (la:=la) (lz:=lz) (t:=t) (a:=a) (m:=m) (c:=c) (vs:=vs) (D:=D) (f:=f) (s:=s) (over:=false) (o:=(pz t)) (hq:=(by repeat (first|with_reducible exact has_here|with_reducible exact has_pt|apply has_left))) (ht:=(by repeat (first|with_reducible exact has_here|with_reducible exact has_pt|apply has_left))) (hl:=(by repeat (first|with_reducible exact has_here|with_reducible exact has_pt|apply has_left))) (hr:=by repeat (first|with_reducible exact rs_sl|apply Rs.left)) (hm:=hvm) (hD:=hDm) (hln:=hln) (htop:=htop) (hK:=λ i h h2 k v e=>rl_cell ctqz oqz h e) (hby:=hby) (hlw:=hlw) (hroom:=hroom))) ?_;rintro _ _ ⟨e12,b12,s12,hs12,rfl,rfl⟩;refine Zhd ?_;refine nq ?_;refine tc_cond rfl (λ h=> ?_) (λ h=> ?_)
  . obtain rfl:b12=true:=by first|exact h|simpa using h
    refine Zm ?_;refine tl_c rfl (o_call bd233 rfl (Fn.pre (end12r_c (R:=R*(pt lg (cl [pz r,vn la,vn lz] 233))*RDev r s12) (q:=q) (r:=r) (lg:=lg) (t:=t) (a:=a) (m:=m) (c:=c) (over:=false) (o:=(pz t)) rfl) (λ g w h=>(show sat g w (R*(pt q (cl [pz r,pz lg,((pz t))] 235))*(pt lg (cl [pz r,vn la,vn lz] 233))*RDev r s12*(pt t (cl [pz q,.slice a m c,.bool false] 263))) from Dr.sat drqz g w h).perm (by ac_rfl)))) ?_;refine Zet ?_;refine Zjk ?_;exact ⟨.int .i64 e12,R*((pt q (cl [pz r,pz lg,.pointer none] 235))*(pt lg (cl [pz r,vn la,vn lz] 233))*RDev r s12*(pt t (cl [pz q,.slice none 0 0,.bool true] 263))),res1 rfl rfl,(λ g w h=>h.perm (by ac_rfl)),e12,true,s12,hs12,rfl,.inl ⟨rfl,rfl⟩⟩
  obtain rfl:b12=false:=by first|exact h|simpa using h
  refine Zc6 ?_;refine Zd ?_;exact ⟨.int .i64 e12,R*(pt q (cl [pz r,pz lg,((pz t))] 235)*pt lg (cl [pz r,vn la,vn lz] 233)*RDev r s12*pt t (cl [pz q,.slice a m c,.bool false] 263)*Sl 1 (.slice a m c) m (ptrV vs)*RLines vs D f),res1 rfl rfl,(λ g w h=>h.perm (by ac_rfl)),e12,false,s12,hs12,rfl,.inr ⟨rfl,rfl⟩⟩
theorem Drop12r_c {A R:SP}{q r lg la lz t m c:Nat}{a:Option Addr}{vs D:List Nat}{f:TF}{s:DevS}(hA:A=R*(pt q (cl [pz r,pz lg,((pz t))] 235)*pt lg (cl [pz r,vn la,vn lz] 233)*RDev r s*pt t (cl [pz q,.slice a m c,.bool false] 263)*Sl 1 (.slice a m c) m (ptrV vs)*RLines vs D f)):
    Fn Tryz.prog 187 #[pz t] A (λ rr B=>rr= .int .i64 0/\ B=R*((pt q (cl [pz r,pz lg,.pointer none] 235))*(pt lg (cl [pz r,vn la,vn lz] 233))*RDev r s*(pt t (cl [pz q,.slice none 0 0,.bool true] 263)))):=by
  refine fn_enterW func187 rfl ntmps187 (by simp) ?_;subst hA;refine tc_eq (show _=R*pt q (cl [pz r,pz lg,((pz t))] 235)*pt lg (cl [pz r,vn la,vn lz] 233)*RDev r s*pt t (cl [pz q,.slice a m c,.bool false] 263)*Sl 1 (.slice a m c) m (ptrV vs)*RLines vs D f by ac_rfl) ?_;refine Zj ?_;refine Zfh ?_;refine tv (o_load p4 rfl hsqz rfl) ?_;refine Z3 ?_;intro h;refine Zc6 ?_;refine tl_c rfl (o_call bd233 rfl (Fn.pre (end12r_c (R:=R*(pt lg (cl [pz r,vn la,vn lz] 233))*RDev r s) (q:=q) (r:=r) (lg:=lg) (t:=t) (a:=a) (m:=m) (c:=c) (over:=false) (o:=(pz t)) rfl) (λ g w h=>(show sat g w (R*(pt q (cl [pz r,pz lg,((pz t))] 235))*(pt lg (cl [pz r,vn la,vn lz] 233))*RDev r s*(pt t (cl [pz q,.slice a m c,.bool false] 263))) from Dr.sat drqz g w h).perm (by ac_rfl)))) ?_;refine Zet ?_;refine Zd0 ?_;exact ⟨.int .i64 0,R*((pt q (cl [pz r,pz lg,.pointer none] 235))*(pt lg (cl [pz r,vn la,vn lz] 233))*RDev r s*(pt t (cl [pz q,.slice none 0 0,.bool true] 263))),res1 rfl rfl,(λ g w h=>h.perm (by ac_rfl)),rfl,rfl⟩
end Go.Vl

namespace Go.Vl
open Go Go.Proofs Go.Proofs.Tryz
theorem putsF_lay {f:TF}{p:Nat}{X:List Nat}{fr:Bool}:∀{i:Nat} (_:i<=X.length),putsF f p X fr i=layF p (X.take i) fr f
  |0,_=>by rw [List.take_zero,layF_nil];rfl
  |i+1,h=>by
    rw [List.take_succ_eq_append_getElem oqz,layF_snoc,List.length_take,Nat.min_eq_left oqz,←putsF_lay (f:=f) (p:=p) (fr:=fr) (i:=i) oqz]
    show putB _ _ _ _=_
    have e:X.getD i 0=X[i]:=(by rw [List.getD_eq_getElem?_getD,List.getElem?_eq_getElem oqz];rfl);rw [e]
    funext c
    unfold putB
    by_cases hc:c=p+i
    . subst hc;first|(rw [if_pos rfl];done)|(rw [if_pos rfl,if_pos rfl];done)|simp
    rw [if_neg hc,if_neg hc]
theorem putsF_all {f:TF}{p n:Nat}{X:List Nat}{fr:Bool}(h:X.length=n):putsF f p X fr n=layF p X fr f:=by
  rw [putsF_lay oqz,List.take_of_length_le oqz]
attribute [local irreducible] crk crL crc Sl pt ro Dev imgS recS readS recsF rdW rdO rkT Parts rvl recordsS runsL adrF kcl xcl kys runA runsF layF ovF TxA adZ WkA SlB blkS conB imF RDev lineC RLines
theorem in12r_over {A:SP}{t q m c:Nat}{a:Option Addr}(ht:Has A t (cl [pz q,.slice a m c,.bool true] 263)):
    Fn Tryz.prog 231 #[pz t] A (λ rr B=>rr= .int .i64 3/\ A=B):=by
  refine fn_enterW func231 rfl ntmps231 (by simp) ?_;refine Zj ?_;refine Zfh ?_;refine tv (o_load p4 rfl ht rfl) ?_;refine Zdt ?_;intro h;refine Zb6 ?_;exact ⟨.int .i64 3,A,res1 rfl rfl,Dr.sat drqz,rfl,rfl⟩
theorem in12r_off {A R:SP}{q r lg la lz t m c:Nat}{a:Option Addr}{vs D:List Nat}{f:TF}{s:DevS}(hA:A=R*(pt q (cl [pz r,pz lg,((pz t))] 235)*pt lg (cl [pz r,vn la,vn lz] 233)*RDev r s*pt t (cl [pz q,.slice a m c,.bool false] 263)*Sl 1 (.slice a m c) m (ptrV vs)*RLines vs D f))(ho:s.off=true):
    Fn Tryz.prog 231 #[pz t] A (λ rr B=>rr= .int .i64 5/\ B=R*((pt q (cl [pz r,pz lg,.pointer none] 235))*(pt lg (cl [pz r,vn la,vn lz] 233))*RDev r s*(pt t (cl [pz q,.slice none 0 0,.bool true] 263)))):=by
  refine fn_enterW func231 rfl ntmps231 (by simp) ?_;subst hA;refine tc_eq (show _=R*pt q (cl [pz r,pz lg,((pz t))] 235)*pt lg (cl [pz r,vn la,vn lz] 233)*RDev r s*pt t (cl [pz q,.slice a m c,.bool false] 263)*Sl 1 (.slice a m c) m (ptrV vs)*RLines vs D f by ac_rfl) ?_;refine Zj ?_;refine Zfh ?_;refine tv (o_load p4 rfl hsqz rfl) ?_;refine Z3 ?_;intro h;refine Zc ?_;refine Zb2 ?_;refine Zhe ?_;refine Zkd ?_;refine Zz ?_;refine tv (o_loadC p4 rfl (rdev_gone ctqz)) ?_;refine tl_env (d:=16) (v:= .bool true) (congrArg Value.bool ho) ?_;refine Zdt ?_;intro h;refine Zb ?_;refine tl_c rfl (o_call bd233 rfl (Fn.pre (end12r_c (R:=R*(pt lg (cl [pz r,vn la,vn lz] 233))*RDev r s) (q:=q) (r:=r) (lg:=lg) (t:=t) (a:=a) (m:=m) (c:=c) (over:=false) (o:=(pz t)) rfl) (λ g w h=>(show sat g w (R*(pt q (cl [pz r,pz lg,((pz t))] 235))*(pt lg (cl [pz r,vn la,vn lz] 233))*RDev r s*(pt t (cl [pz q,.slice a m c,.bool false] 263))) from Dr.sat drqz g w h).perm (by ac_rfl)))) ?_;refine Zet ?_;refine Zb6 ?_;exact ⟨.int .i64 5,R*((pt q (cl [pz r,pz lg,.pointer none] 235))*(pt lg (cl [pz r,vn la,vn lz] 233))*RDev r s*(pt t (cl [pz q,.slice none 0 0,.bool true] 263))),res1 rfl rfl,(λ g w h=>h.perm (by ac_rfl)),rfl,rfl⟩
theorem Load12r_over {A:SP}{t q m c:Nat}{a:Option Addr}(ht:Has A t (cl [pz q,.slice a m c,.bool true] 263)){p n:Int}:
    Fn Tryz.prog 226 #[pz t,.int .i64 p,.int .i64 n] A (λ rr B=>rr= .tuple #[.slice none 0 0,.int .i64 3]/\ A=B):=by
  refine fn_enterW func226 rfl ntmps226 (by simp) ?_;refine Zkx ?_;refine tl_c rfl (o_call bd231 rfl (in12r_over ht)) ?_;refine Ziv ?_;intro h;refine Ze1 ?_;exact ⟨.tuple #[.slice none 0 0,.int .i64 3],A,res2 rfl rfl rfl,Dr.sat drqz,rfl,rfl⟩
theorem put12r_over {A:SP}{t q m c:Nat}{a:Option Addr}(ht:Has A t (cl [pz q,.slice a m c,.bool true] 263)){p z:Int}{b:Option Addr}{n cb:Nat}:
    Fn Tryz.prog 237 #[pz t,.int .i64 p,.slice b n cb,.int .i64 z] A (λ rr B=>rr= .int .i64 3/\ A=B):=by
  refine fn_enterW func237 rfl ntmps237 (by simp) ?_;refine Zbz ?_;refine tl_c rfl (o_call bd231 rfl (in12r_over ht)) ?_;refine Ziv ?_;intro h;refine Zge ?_;exact ⟨.int .i64 3,A,res1 rfl rfl,Dr.sat drqz,rfl,rfl⟩
theorem Commit12r_over {A:SP}{t q m c:Nat}{a:Option Addr}(ht:Has A t (cl [pz q,.slice a m c,.bool true] 263)):
    Fn Tryz.prog 186 #[pz t] A (λ rr B=>rr= .int .i64 3/\ A=B):=by
  refine fn_enterW func186 rfl ntmps186 (by simp) ?_;refine Zbz ?_;refine tl_c rfl (o_call bd231 rfl (in12r_over ht)) ?_;refine Ziv ?_;intro h;refine Zge ?_;exact ⟨.int .i64 3,A,res1 rfl rfl,Dr.sat drqz,rfl,rfl⟩
theorem Drop12r_over {A:SP}{t q m c:Nat}{a:Option Addr}(ht:Has A t (cl [pz q,.slice a m c,.bool true] 263)):
    Fn Tryz.prog 187 #[pz t] A (λ rr B=>rr= .int .i64 3/\ A=B):=by
  refine fn_enterW func187 rfl ntmps187 (by simp) ?_;refine Zj ?_;refine Zfh ?_;refine tv (o_load p4 rfl ht rfl) ?_;refine Zdt ?_;intro h;refine Zb6 ?_;exact ⟨.int .i64 3,A,res1 rfl rfl,Dr.sat drqz,rfl,rfl⟩
theorem Load12r_off {A R:SP}{q r lg la lz t m c:Nat}{a:Option Addr}{vs D:List Nat}{f:TF}{s:DevS}(hA:A=R*(pt q (cl [pz r,pz lg,((pz t))] 235)*pt lg (cl [pz r,vn la,vn lz] 233)*RDev r s*pt t (cl [pz q,.slice a m c,.bool false] 263)*Sl 1 (.slice a m c) m (ptrV vs)*RLines vs D f))(ho:s.off=true){p n:Int}:
    Fn Tryz.prog 226 #[pz t,.int .i64 p,.int .i64 n] A (λ rr B=>rr= .tuple #[.slice none 0 0,.int .i64 5]/\ B=R*((pt q (cl [pz r,pz lg,.pointer none] 235))*(pt lg (cl [pz r,vn la,vn lz] 233))*RDev r s*(pt t (cl [pz q,.slice none 0 0,.bool true] 263)))):=by
  refine fn_enterW func226 rfl ntmps226 (by simp) ?_;refine Zkx ?_;refine tl_c rfl (o_call bd231 rfl (in12r_off hA ho)) ?_;refine Ziv ?_;intro h;refine Ze1 ?_;exact ⟨.tuple #[.slice none 0 0,.int .i64 5],R*((pt q (cl [pz r,pz lg,.pointer none] 235))*(pt lg (cl [pz r,vn la,vn lz] 233))*RDev r s*(pt t (cl [pz q,.slice none 0 0,.bool true] 263))),res2 rfl rfl rfl,(λ g w h=>h.perm (by ac_rfl)),rfl,rfl⟩
theorem put12r_off {A R:SP}{q r lg la lz t m c:Nat}{a:Option Addr}{vs D:List Nat}{f:TF}{s:DevS}(hA:A=R*(pt q (cl [pz r,pz lg,((pz t))] 235)*pt lg (cl [pz r,vn la,vn lz] 233)*RDev r s*pt t (cl [pz q,.slice a m c,.bool false] 263)*Sl 1 (.slice a m c) m (ptrV vs)*RLines vs D f))(ho:s.off=true){p z:Int}{b:Option Addr}{n cb:Nat}:
    Fn Tryz.prog 237 #[pz t,.int .i64 p,.slice b n cb,.int .i64 z] A (λ rr B=>rr= .int .i64 5/\ B=R*((pt q (cl [pz r,pz lg,.pointer none] 235))*(pt lg (cl [pz r,vn la,vn lz] 233))*RDev r s*(pt t (cl [pz q,.slice none 0 0,.bool true] 263)))):=by
  refine fn_enterW func237 rfl ntmps237 (by simp) ?_;refine Zbz ?_;refine tl_c rfl (o_call bd231 rfl (in12r_off hA ho)) ?_;refine Ziv ?_;intro h;refine Zge ?_;exact ⟨.int .i64 5,R*((pt q (cl [pz r,pz lg,.pointer none] 235))*(pt lg (cl [pz r,vn la,vn lz] 233))*RDev r s*(pt t (cl [pz q,.slice none 0 0,.bool true] 263))),res1 rfl rfl,(λ g w h=>h.perm (by ac_rfl)),rfl,rfl⟩
theorem Commit12r_off {A R:SP}{q r lg la lz t m c:Nat}{a:Option Addr}{vs D:List Nat}{f:TF}{s:DevS}(hA:A=R*(pt q (cl [pz r,pz lg,((pz t))] 235)*pt lg (cl [pz r,vn la,vn lz] 233)*RDev r s*pt t (cl [pz q,.slice a m c,.bool false] 263)*Sl 1 (.slice a m c) m (ptrV vs)*RLines vs D f))(ho:s.off=true):
    Fn Tryz.prog 186 #[pz t] A (λ rr B=>rr= .int .i64 5/\ B=R*((pt q (cl [pz r,pz lg,.pointer none] 235))*(pt lg (cl [pz r,vn la,vn lz] 233))*RDev r s*(pt t (cl [pz q,.slice none 0 0,.bool true] 263)))):=by
  refine fn_enterW func186 rfl ntmps186 (by simp) ?_;refine Zbz ?_;refine tl_c rfl (o_call bd231 rfl (in12r_off hA ho)) ?_;refine Ziv ?_;intro h;refine Zge ?_;exact ⟨.int .i64 5,R*((pt q (cl [pz r,pz lg,.pointer none] 235))*(pt lg (cl [pz r,vn la,vn lz] 233))*RDev r s*(pt t (cl [pz q,.slice none 0 0,.bool true] 263))),res1 rfl rfl,(λ g w h=>h.perm (by ac_rfl)),rfl,rfl⟩
end Go.Vl

namespace Go.Vl
open Go Go.Proofs Go.Proofs.Tryz
theorem rdy_no9 {k:Nat}{b:Bool}{p m:Int}(hb:b=false)(h:p<0∨m<0∨(k:Int)*64<p∨(k:Int)*64-p<m):rdy k b p m=6:=by
  unfold rdy;rw [hb,if_neg (by decide),if_pos h]
attribute [local irreducible] crk crL crc Sl pt ro Dev imgS recS readS recsF rdW rdO rkT Parts rvl recordsS runsL adrF kcl xcl kys runA runsF layF ovF TxA adZ WkA SlB blkS conB imF RDev lineC RLines
theorem inside12r_no {A R:SP}{C:SP->SP}{r:Nat}{s:DevS}(hc:Ct A (RDev r s) R C:=by exact cbqz){q lg t m c:Nat}{a:Option Addr}{o:Value}{over:Bool}(hq:Has A q (cl [pz r,pz lg,o] 235):=by exact hbqz)(ht:Has A t (cl [pz q,.slice a m c,.bool over] 263):=by exact hbqz){p n:Int}(hp1: -9223372036854775808<=p/\ p<=9223372036854775807)(hn1: -9223372036854775808<=n/\ n<=9223372036854775807)(hno:p<0∨n<0∨(s.ls.length:Int)*64<p∨(s.ls.length:Int)*64-p<n)(htop:s.ls.length*64<=4194304):
    Fn Tryz.prog 269 #[pz t,.int .i64 p,.int .i64 n] A (λ r B=>r= .bool false/\ A=B):=by
  refine fn_enterW func269 rfl ntmps269 (by simp) ?_;refine Zjv ?_;refine tlm ?_;refine tl_bool (d:=9) rfl (sbq ?_) (sbq ?_)
  . intro h;refine tlm ?_;refine tv (o_geq rfl rfl) ?_;refine Z7 ?_;refine tl_bool (d:=13) rfl (sbq ?_) (sbq ?_)
    . intro h;refine tlm ?_;refine Zgp ?_;refine tv (o_load p124 rfl ht rfl) ?_;refine Z9 ?_;refine tv (o_load p48 rfl hq rfl) ?_;refine Zdn ?_;refine tv (o_loadC p3 rfl (rdev_bytes hc)) ?_;refine tv (o_leq rfl rfl) ?_;refine Z7 ?_;refine tl_bool (d:=27) rfl (sbq ?_) (sbq ?_)
      . intro h;refine tlm ?_;refine Zgp ?_;refine tv (o_load p124 rfl ht rfl) ?_;refine Z9 ?_;refine tv (o_load p48 rfl hq rfl) ?_;refine Zdn ?_;refine tv (o_loadC p3 rfl (rdev_bytes hc)) ?_;refine tlm ?_;refine tv (o_subI (a:=((s.ls.length*64:Nat):Int)) (b:=p) rfl rfl (by simp at*;omega)) ?_;refine tv (o_leq rfl rfl) ?_;refine tl_env (d:=41) (v:= .bool false) (congrArg Value.bool (decide_eq_false (by simp at*;omega))) ?_;refine Ze6 ?_;exact ⟨.bool false,_,res1 rfl rfl,Dr.sat drqz,rfl,rfl⟩
      intro h;refine Zhj ?_;refine Zdl ?_;refine Zd5 ?_;exact ⟨.bool false,_,res1 rfl rfl,Dr.sat drqz,rfl,rfl⟩
    intro h;refine Zhj ?_;refine Z8 ?_;refine Z1 ?_;refine Zhj ?_;refine Zdl ?_;refine Zd5 ?_;exact ⟨.bool false,_,res1 rfl rfl,Dr.sat drqz,rfl,rfl⟩
  intro h;refine Zh ?_;refine Z1 ?_;refine Zhj ?_;refine Z8 ?_;refine Z1 ?_;refine Zhj ?_;refine Zdl ?_;refine Zd5 ?_;exact ⟨.bool false,_,res1 rfl rfl,Dr.sat drqz,rfl,rfl⟩
theorem put12r_no {A R:SP}{q r lg la lz t m c:Nat}{a:Option Addr}{vs D:List Nat}{f:TF}{s:DevS}(hA:A=R*(pt q (cl [pz r,pz lg,((pz t))] 235)*pt lg (cl [pz r,vn la,vn lz] 233)*RDev r s*pt t (cl [pz q,.slice a m c,.bool false] 263)*Sl 1 (.slice a m c) m (ptrV vs)*RLines vs D f)){p:Int}{n cb:Nat}{b:Option Addr}{z:Int}(hp1: -9223372036854775808<=p/\ p<=9223372036854775807)(hn1:n<=9223372036854775807)(hno:p<0∨(s.ls.length:Int)*64<p∨(s.ls.length:Int)*64-p<n)(htop:s.ls.length*64<=4194304)(ho:s.off=false:=by assumption):
    Fn Tryz.prog 237 #[pz t,.int .i64 p,.slice b n cb,.int .i64 z] A (λ rr B=>rr= .int .i64 6/\ A=B):=by
  refine fn_enterW func237 rfl ntmps237 (by simp) ?_;refine tc_eq (show _=R*pt q (cl [pz r,pz lg,((pz t))] 235)*pt lg (cl [pz r,vn la,vn lz] 233)*RDev r s*pt t (cl [pz q,.slice a m c,.bool false] 263)*Sl 1 (.slice a m c) m (ptrV vs)*RLines vs D f by rw [hA];ac_rfl) ?_;refine Zbz ?_;refine tl_c rfl (o_call bd231 rfl (in12r_ok (s:=s) (r:=r) (q:=q) (lg:=lg) (m:=m) (c:=c) (a:=a))) ?_;refine Zln ?_;intro h;refine Zdf ?_;refine Zgn ?_;refine tl_c rfl (o_call bd269 rfl (inside12r_no (s:=s) (r:=r) (q:=q) (lg:=lg) (m:=m) (c:=c) (a:=a) (p:=p) (n:=((n:Nat):Int)) (hp1:=hp1) (hn1:=by omega) (hno:=by omega) (htop:=htop))) ?_;refine Zbi ?_;refine Zdt ?_;intro h;refine Zb6 ?_;exact ⟨.int .i64 6,A,res1 rfl rfl,(λ g w h=>by rw [hA];exact h.perm (by ac_rfl)),rfl,rfl⟩
theorem Load12r_no {A R:SP}{q r lg la lz t m c:Nat}{a:Option Addr}{vs D:List Nat}{f:TF}{s:DevS}(hA:A=R*(pt q (cl [pz r,pz lg,((pz t))] 235)*pt lg (cl [pz r,vn la,vn lz] 233)*RDev r s*pt t (cl [pz q,.slice a m c,.bool false] 263)*Sl 1 (.slice a m c) m (ptrV vs)*RLines vs D f)){p n:Int}(hp1: -9223372036854775808<=p/\ p<=9223372036854775807)(hn1: -9223372036854775808<=n/\ n<=9223372036854775807)(hno:p<0∨n<0∨(s.ls.length:Int)*64<p∨(s.ls.length:Int)*64-p<n)(ho:s.off=false:=by assumption):
    Fn Tryz.prog 226 #[pz t,.int .i64 p,.int .i64 n] A (λ rr B=>rr= .tuple #[.slice none 0 0,.int .i64 6]/\ A=B):=by
  refine fn_enterW func226 rfl ntmps226 (by simp) ?_;have hr6:=rdy_no9 ho hno;refine tc_eq (show _=R*pt q (cl [pz r,pz lg,((pz t))] 235)*pt lg (cl [pz r,vn la,vn lz] 233)*RDev r s*pt t (cl [pz q,.slice a m c,.bool false] 263)*Sl 1 (.slice a m c) m (ptrV vs)*RLines vs D f by rw [hA];ac_rfl) ?_;refine Zkx ?_;refine tl_c rfl (o_call bd231 rfl (in12r_ok (s:=s) (r:=r) (q:=q) (lg:=lg) (m:=m) (c:=c) (a:=a))) ?_;refine Zln ?_;intro h;refine Zfx ?_;refine Zhe ?_;refine Zkd ?_;refine Z2 ?_;refine tl_c rfl (o_call bd174 rfl (rLoadNo_c (s:=s) (r:=r) (p:=p) (m:=n) (hp:=hp1) (hm:=hn1) (hno:=by rw [hr6];decide))) ?_;rintro _ _ ⟨rfl,rfl⟩;refine tl_env (d:=27) (v:= .tuple #[.slice none 0 0,.int .i64 6]) (by show Value.tuple #[.slice none 0 0,.int .i64 (rdy _ _ _ _)]=_;rw [hr6]) ?_;refine Zb1 ?_;refine Z0 ?_;refine Zce ?_;refine tc_loop (λ kk ρ BB=>∃ (i:Nat),(i=0)/\ kk=0/\ ρ 10=(vn i)/\ ρ 0=(pz t)/\ ρ 1= .int .i64 p/\ ρ 8= .int .i64 6/\ ρ 9= .slice none 0 0/\ BB=R*pt q (cl [pz r,pz lg,((pz t))] 235)*pt lg (cl [pz r,vn la,vn lz] 233)*RDev r s*pt t (cl [pz q,.slice a m c,.bool false] 263)*Sl 1 (.slice a m c) m (ptrV vs)*RLines vs D f) (m:=0) ?_ ?_
  . exact ⟨0,rfl,rfl,rfl,rfl,rfl,rfl,rfl,rfl⟩
  intro k ρ B hI;obtain ⟨i,hp0,hkk1,hE10,hE0,hE1,hE8,hE9,rfl⟩:=hI;refine te 10 hE10 ?_;refine te 0 hE0 ?_;refine te 1 hE1 ?_;refine te 8 hE8 ?_;refine te 9 hE9 ?_;refine Zju ?_;refine tc_cond rfl (λ h=> ?_) (sbq ?_)
  . exfalso;subst hp0;simp at h
  intro h;refine Zf ?_;refine Zb7 ?_;refine Zc4 ?_;exact ⟨.tuple #[.slice none 0 0,.int .i64 6],A,res2 rfl rfl rfl,(λ g w h=>by rw [hA];exact h.perm (by ac_rfl)),rfl,rfl⟩
theorem State12r_c {A R:SP}{C:SP->SP}{r:Nat}{s:DevS}(hc:Ct A (RDev r s) R C:=by exact cbqz){q lg:Nat}{o:Value}(hq:Has A q (cl [pz r,pz lg,o] 235):=by exact hbqz){la lz:Nat}(hl:Has R lg (cl [pz r,vn la,vn lz] 233):=by exact hbqz)(hlw:LogW (s.ls.length*64) la lz:=by assumption):
    Fn Tryz.prog 118 #[pz q] A (λ v B=>v= .int .i64 (stpS la lz s)/\ A=B):=by
  refine fn_enterW func118 rfl ntmps118 (by simp) ?_;refine Zlc ?_;refine tv (o_fieldAddr (o:=1) underlying235 rfl rfl sz152 rfl) ?_;refine tv (o_load p152 rfl hq rfl) ?_;refine tl_c rfl (o_call bd175 rfl (rRecords_c (hc:=hc) (hl:=hl) (hlw:=hlw))) ?_;rintro _ _ ⟨a10,c10,vs10,rfl,hc10,hvs10,rfl⟩;refine Zhd ?_;refine Zl ?_;refine tc_cond rfl (λ h=> ?_) (λ h=> ?_)
  . have he:(recordsS la lz s).2≠0:=(by first|exact of_decide_eq_true h|(simpa using h));refine Zge ?_;exact ⟨.int .i64 (stpS la lz s),_,res1 rfl (by rw [show stpS la lz s=(recordsS la lz s).2 from by unfold stpS;rw [if_neg (λ h9=>he h9.1)]];rfl),(λ g w h=>by rw [hc.1];rw [hc.2] at h;exact Dr.sat (A':=R*RDev r s) drqz g w h),rfl,rfl⟩
  have he:(recordsS la lz s).2=0:=(by first|exact Classical.not_not.1 (of_decide_eq_false h)|(simpa using h));refine Zdf ?_;refine tv (o_len underlying181 rfl) ?_;refine Ze4 ?_;refine tc_cond rfl (λ h=> ?_) (λ h=> ?_)
  . have hn:(recordsS la lz s).1≠[]:=λ e=>by rw [e] at h;simp at h
    refine Zb6 ?_;exact ⟨.int .i64 (stpS la lz s),_,res1 rfl (by rw [show stpS la lz s=3 from by unfold stpS;rw [if_pos ⟨he,hn⟩]];rfl),(λ g w h=>by rw [hc.1];rw [hc.2] at h;exact Dr.sat (A':=R*RDev r s) drqz g w h),rfl,rfl⟩
  have hn:(recordsS la lz s).1=[]:=List.eq_nil_of_length_eq_zero (by first|(have h9:=of_decide_eq_false h;omega)|(simp at h;first|omega|(rw [h];rfl)));refine Zc ?_;refine Zd0 ?_;exact ⟨.int .i64 (stpS la lz s),_,res1 rfl (by rw [show stpS la lz s=0 from by unfold stpS;rw [if_neg (λ h9=>h9.2 hn),he]];rfl),(λ g w h=>by rw [hc.1];rw [hc.2] at h;exact Dr.sat (A':=R*RDev r s) drqz g w h),rfl,rfl⟩
theorem Load12p_c {A R:SP}{C:SP->SP}{r:Nat}{s:DevS}(hc:Ct A (RDev r s) R C:=by exact cbqz){q lg:Nat}{o:Value}(hq:Has A q (cl [pz r,pz lg,o] 235):=by exact hbqz){p m:Nat}(hoff:s.off=false:=by assumption)(hpm:p+m<=s.ls.length*64:=by omega):
    Fn Tryz.prog 117 #[pz q,vn p,vn m] A (λ v B=>∃a c,v= .tuple #[.slice a m c,.int .i64 0]/\ m<=c/\ B=A*Sl 1 (.slice a m c) m (bys (((imgS s).drop p).take m))):=by
  refine fn_enterW func117 rfl ntmps117 (by simp) ?_;refine sr ?_;refine Z0 ?_;refine Zs ?_;refine tv (o_fieldAddr (o:=0) underlying235 rfl rfl sz48 rfl) ?_;refine tv (o_load p48 rfl hq rfl) ?_;refine Z2 ?_;refine tl_c rfl (o_call bd174 rfl (rLoad_c (hc:=hc) (p:=p) (m:=m))) ?_;rintro _ _ ⟨a14,c14,rfl,hc14,rfl⟩;refine Zk0 ?_;exact ⟨.tuple #[.slice a14 m c14,.int .i64 0],_,res2 rfl rfl rfl,Dr.sat drqz,a14,c14,rfl,hc14,rfl⟩
theorem Load12p_no {A R:SP}{C:SP->SP}{r:Nat}{s:DevS}(hc:Ct A (RDev r s) R C:=by exact cbqz){q lg:Nat}{o:Value}(hq:Has A q (cl [pz r,pz lg,o] 235):=by exact hbqz){p m:Int}(hp: -9223372036854775808<=p/\ p<=9223372036854775807)(hm: -9223372036854775808<=m/\ m<=9223372036854775807)(hno:rdy s.ls.length s.off p m≠0):
    Fn Tryz.prog 117 #[pz q,.int .i64 p,.int .i64 m] A (λ v B=>v= .tuple #[.slice none 0 0,.int .i64 (rdy s.ls.length s.off p m)]/\ A=B):=by
  refine fn_enterW func117 rfl ntmps117 (by simp) ?_;refine sr ?_;refine Z0 ?_;refine Zs ?_;refine tv (o_fieldAddr (o:=0) underlying235 rfl rfl sz48 rfl) ?_;refine tv (o_load p48 rfl hq rfl) ?_;refine Z2 ?_;refine tl_c rfl (o_call bd174 rfl (rLoadNo_c (hc:=hc) (p:=p) (m:=m) (hp:=hp) (hm:=hm) (hno:=hno))) ?_;rintro _ _ ⟨rfl,rfl⟩;refine Zk0 ?_;exact ⟨.tuple #[.slice none 0 0,.int .i64 (rdy s.ls.length s.off p m)],A,res2 rfl rfl rfl,Dr.sat drqz,rfl,rfl⟩
theorem Recover12r_no {A R:SP}{C:SP->SP}{r:Nat}{s:DevS}(hc:Ct A (RDev r s) R C:=by exact cbqz){q lg:Nat}{ov:Option Nat}(hq:Has A q (cl [pz r,pz lg,.pointer (ov.map λ t=>(⟨t,0,none⟩:Addr))] 235):=by exact hbqz)(hno:idlS s ov≠0):
    Fn Tryz.prog 119 #[pz q] A (λ v B=>v= .tuple #[.int .i64 0,.int .i64 (idlS s ov)]/\ A=B):=by
  refine fn_enterW func119 rfl ntmps119 (by simp) ?_;refine Zc3 ?_;refine Z9 ?_;refine tv (o_load p48 rfl hq rfl) ?_;refine Zz ?_;refine tv (o_loadC p4 rfl (rdev_gone hc)) ?_;refine tl_env (d:=10) (v:= .bool s.off) (rfl) ?_;refine nq ?_;refine tc_cond rfl (λ h=> ?_) (λ h=> ?_)
  . have hi5:idlS s ov=5:=(by unfold idlS;rw [if_pos (by first|exact h|simpa using h)]);refine Zgs ?_;rw [hi5]
    exact ⟨.tuple #[.int .i64 0,.int .i64 5],A,res2 rfl rfl rfl,Dr.sat drqz,rfl,rfl⟩
  have hof:s.off=false:=(by first|exact h|simpa using h);refine Zc ?_;refine Zfa ?_;refine tv (o_load p125 rfl hq rfl) ?_;refine tv (o_nep underlying125 rfl rfl) ?_;refine nq ?_;refine tc_cond rfl (sbq ?_) (λ h=> ?_)
  . intro h;refine Zgs ?_;have hi5:idlS s ov=3:=(by unfold idlS at hno ⊢;cases ov<;>simp [hof] at hno ⊢);rw [hi5]
    exact ⟨.tuple #[.int .i64 0,.int .i64 3],A,res2 rfl rfl rfl,Dr.sat drqz,rfl,rfl⟩
  exfalso;apply hno;unfold idlS;cases ov with|none=>(rw [hof];simp)|some t=>(simp at h)
theorem Recover12r_ok {A R:SP}{C:SP->SP}{r:Nat}{s:DevS}(hc:Ct A (RDev r s) R C:=by exact cbqz){q lg:Nat}(hq:Has A q (cl [pz r,pz lg,.pointer none] 235) ){la lz:Nat}(hl:Has R lg (cl [pz r,vn la,vn lz] 233):=by exact hbqz)(hlw:LogW (s.ls.length*64) la lz:=by assumption)(ho:s.off=false:=by assumption)(hroom:Room (lz+1) s:=by assumption):
    Fn Tryz.prog 119 #[pz q] A (λ v B=>∃e k s2,rollS la lz s=((k,e),s2)/\ v= .tuple #[.int .i64 k,.int .i64 e]/\ B=C (RDev r s2)):=by
  refine fn_enterW func119 rfl ntmps119 (by simp) ?_;refine Zc3 ?_;refine Z9 ?_;refine tv (o_load p48 rfl hq rfl) ?_;refine Zz ?_;refine tv (o_loadC p4 rfl (rdev_gone hc)) ?_;refine tl_env (d:=10) (v:= .bool false) (congrArg Value.bool ho) ?_;refine Z3 ?_;intro h;refine Zc ?_;refine Zfa ?_;refine tv (o_load p125 rfl hq rfl) ?_;refine Zl1 ?_;intro h;refine Zfx ?_;refine tv (o_fieldAddr (o:=1) underlying235 rfl rfl sz152 rfl) ?_;refine tv (o_load p152 rfl hq rfl) ?_;refine tl_c rfl (o_call bd176 rfl (rRollback_c (hc:=hc) (hl:=hl) (hlw:=hlw) (hroom:=hroom))) ?_;rintro _ _ ⟨e20,k20,s20,hs20,rfl,rfl⟩;refine Zk0 ?_;exact ⟨.tuple #[.int .i64 k20,.int .i64 e20],_,res2 rfl rfl rfl,Dr.sat drqz,e20,k20,s20,hs20,rfl,rfl⟩
theorem Begin12r_no {A R:SP}{C:SP->SP}{r:Nat}{s:DevS}(hc:Ct A (RDev r s) R C:=by exact cbqz){q lg:Nat}{ov:Option Nat}(hq:Has A q (cl [pz r,pz lg,.pointer (ov.map λ t=>(⟨t,0,none⟩:Addr))] 235):=by exact hbqz)(hno:idlS s ov≠0):
    Fn Tryz.prog 116 #[pz q] A (λ v B=>v= .tuple #[.pointer none,.int .i64 (idlS s ov)]/\ A=B):=by
  refine fn_enterW func116 rfl ntmps116 (by simp) ?_;refine Zc3 ?_;refine Z9 ?_;refine tv (o_load p48 rfl hq rfl) ?_;refine Zz ?_;refine tv (o_loadC p4 rfl (rdev_gone hc)) ?_;refine tl_env (d:=11) (v:= .bool s.off) (rfl) ?_;refine nq ?_;refine tc_cond rfl (λ h=> ?_) (λ h=> ?_)
  . have hi5:idlS s ov=5:=(by unfold idlS;rw [if_pos (by first|exact h|simpa using h)]);refine Zgs ?_;rw [hi5]
    exact ⟨.tuple #[.pointer none,.int .i64 (5)],A,res2 rfl rfl rfl,Dr.sat drqz,rfl,rfl⟩
  have hof:s.off=false:=(by first|exact h|simpa using h);refine Zc ?_;refine Zfa ?_;refine tv (o_load p125 rfl hq rfl) ?_;refine tv (o_nep underlying125 rfl rfl) ?_;refine nq ?_;refine tc_cond rfl (sbq ?_) (λ h=> ?_)
  . intro h;refine Zgs ?_;have hi5:idlS s ov=3:=(by unfold idlS at hno ⊢;cases ov<;>simp [hof] at hno ⊢);rw [hi5]
    exact ⟨.tuple #[.pointer none,.int .i64 (3)],A,res2 rfl rfl rfl,Dr.sat drqz,rfl,rfl⟩
  exfalso;apply hno;unfold idlS;cases ov with|none=>(rw [hof];simp)|some t=>(simp at h)
theorem Begin12r_st {A R:SP}{C:SP->SP}{r:Nat}{s:DevS}(hc:Ct A (RDev r s) R C:=by exact cbqz){q lg:Nat}(hq:Has A q (cl [pz r,pz lg,.pointer none] 235) ){la lz:Nat}(hl:Has R lg (cl [pz r,vn la,vn lz] 233):=by exact hbqz)(hlw:LogW (s.ls.length*64) la lz:=by assumption)(ho:s.off=false:=by assumption)(hst:stpS la lz s≠0):
    Fn Tryz.prog 116 #[pz q] A (λ v B=>v= .tuple #[.pointer none,.int .i64 (stpS la lz s)]/\ A=B):=by
  refine fn_enterW func116 rfl ntmps116 (by simp) ?_;refine Zc3 ?_;refine Z9 ?_;refine tv (o_load p48 rfl hq rfl) ?_;refine Zz ?_;refine tv (o_loadC p4 rfl (rdev_gone hc)) ?_;refine tl_env (d:=11) (v:= .bool false) (congrArg Value.bool ho) ?_;refine Z3 ?_;intro h;refine Zc ?_;refine Zfa ?_;refine tv (o_load p125 rfl hq rfl) ?_;refine Zl1 ?_;intro h;refine Zc6 ?_;refine tl_c rfl (o_call bd118 rfl (State12r_c (hc:=hc) (q:=q) (lg:=lg) (o:= .pointer none) (hq:=hq) (hl:=hl) (hlw:=hlw))) ?_;refine Zf8 ?_;refine Zl ?_;refine tc_cond rfl (sbq ?_) (λ h=> ?_)
  . intro h;refine Ze1 ?_;exact ⟨.tuple #[.pointer none,.int .i64 (stpS la lz s)],A,res2 rfl rfl rfl,Dr.sat drqz,rfl,rfl⟩
  exfalso;exact hst (by first|exact Classical.not_not.1 (of_decide_eq_false h)|(simpa using h))
end Go.Vl

namespace Go.Vl
open Go Go.Proofs Go.Proofs.Tryz
theorem take_eq_next {α:Type}{l k:List α}{i:Nat}(h1:i<l.length)(h2:i<k.length)(he:l.take i=k.take i)(hx:l[i]=k[i]):l.take (i+1)=k.take (i+1):=by
  rw [List.take_succ_eq_append_getElem h1,List.take_succ_eq_append_getElem h2,he,hx]
attribute [local irreducible] crk crL crc Sl pt ro Dev imgS recS readS recsF rdW rdO rkT Parts rvl recordsS runsL adrF kcl xcl kys runA runsF layF ovF TxA adZ WkA SlB blkS conB imF RDev lineC RLines
theorem eq12_c {A:SP}{a b:Option Addr}{n m c e:Nat}{l zz:List (Int×Int)}(hr:Rs A a (xcl l):=by exact rbqz)(hs:Rs A b (xcl zz):=by exact rbqz)(hl:l.length=n:=by first|assumption|rfl)(hk:zz.length=m:=by first|assumption|rfl)(hn:n<=1099511627776:=by omega)(hm:m<=1099511627776:=by omega):
    Fn Tryz.prog 185 #[.slice a n c,.slice b m e] A (λ r B=>r= .bool (decide (l=zz))/\ A=B):=by
  refine fn_enterW func185 rfl ntmps185 (by simp) ?_;refine Zcl ?_;refine tv (o_len underlying107 rfl) ?_;refine tlm ?_;refine tv (o_len underlying107 rfl) ?_;refine Zl ?_;refine tc_cond rfl (λ h=> ?_) (λ h=> ?_)
  . have hnm:n≠m:=(by first|(have h9:=of_decide_eq_true h;omega)|(simp at h;omega));refine Zb6 ?_;have e9:decide (l=zz)=false:=decide_eq_false λ h9=>hnm (by rw [←hl,←hk,h9])
    exact ⟨.bool false,A,res1 rfl rfl,Dr.sat drqz,congrArg Value.bool e9.symm,rfl⟩
  obtain rfl:n=m:=by first|(have h9:=of_decide_eq_false h;omega)|(simp at h;omega)
  refine Zjy ?_;refine tc_loop (λ kk ρ BB=>∃ (i:Nat),(i<=n)/\ (l.take i=zz.take i)/\ kk=n-i/\ ρ 5=(vn i)/\ ρ 0= .slice a n c/\ ρ 1= .slice b n e/\ BB=A) (m:=n-(0)) ?_ ?_
  . exact ⟨0,by omega,rfl,rfl,rfl,rfl,rfl,rfl⟩
  intro k ρ B hI;obtain ⟨i,hp0,hp1,hkk1,hE5,hE0,hE1,hBA⟩:=hI;obtain rfl:=hBA.symm;refine te 5 hE5 ?_;refine te 0 hE0 ?_;refine te 1 hE1 ?_;refine Zje ?_;refine Zn ?_;refine tc_cond rfl (λ h=> ?_) (sbq ?_)
  . have hi:i<l.length:=(by first|omega|(simp at h;omega));have hi2:i<zz.length:=(by omega);refine Zbe ?_;refine Zfr ?_;refine Zbt ?_;refine ql_v rfl (o_ixP (a:=a) underlying107 sz162 rfl rfl oqz (nn_rs (by repeat (first|exact hr|apply Rs.left)) (λ _=>by rw [xcl_len];omega))) ?_;refine ql_v rfl (o_ldPN (a:=a) (xs:=xcl l) (vs:=xcs l[i]) a162 sz162 rfl (by repeat (first|exact hr|apply Rs.left)) (xcl_at hi) rfl (by decide)) ?_;refine Zbt ?_;refine ql_v rfl (o_ixP (a:=b) underlying107 sz162 rfl rfl oqz (nn_rs (by repeat (first|exact hs|apply Rs.left)) (λ _=>by rw [xcl_len];omega))) ?_;refine ql_v rfl (o_ldPN (a:=b) (xs:=xcl zz) (vs:=xcs zz[i]) a162 sz162 rfl (by repeat (first|exact hs|apply Rs.left)) (xcl_at hi2) rfl (by decide)) ?_;refine ql_v rfl (o_nest (k:=2) (l:=[l[i].1,l[i].2]) (m:=[zz[i].1,zz[i].2]) underlying162 kqz kqz kqz rfl rfl rfl rfl) ?_;refine ql_env (d:=25) (v:= .bool (!decide ([l[i].1,l[i].2]=[zz[i].1,zz[i].2]))) (rfl) ?_;refine Zec ?_;refine tc_cond rfl (λ h=> ?_) (λ h=> ?_)
    . have hxn:l[i]≠zz[i]:=λ h9=>by rw [h9] at h;simp at h
      refine Zjt ?_;have e9:decide (l=zz)=false:=decide_eq_false λ h9=>hxn (by subst h9;rfl)
      exact ⟨.bool false,A,res1 rfl rfl,Dr.sat drqz,congrArg Value.bool e9.symm,rfl⟩
    have hxe:l[i]=zz[i]:=(by simp at h;exact Prod.ext h.1 h.2);refine Zfl ?_;exact ⟨_,by omega,i+1,by omega,take_eq_next oqz oqz hp1 hxe,rfl,rfl,rfl,rfl,rfl⟩
  intro h;refine Zgf ?_;have hin:i=n:=(by first|omega|(simp at h;omega));have e9:decide (l=zz)=true:=decide_eq_true (by rw [List.take_of_length_le oqz,List.take_of_length_le oqz] at hp1;exact hp1);exact ⟨.bool true,A,res1 rfl rfl,Dr.sat drqz,congrArg Value.bool e9.symm,rfl⟩
end Go.Vl

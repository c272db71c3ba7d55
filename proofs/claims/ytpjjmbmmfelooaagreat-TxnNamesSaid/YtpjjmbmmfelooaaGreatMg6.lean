/- What the row rests on, part 6: a calculus of assertions, walks of functions over it, and plain laws. Conditions: none. -/
import Derived.Deep.QuietTactic
import Derived.BigQuiet
import Derived.WalkKit
import Derived.Test.YtpjjmbmmfelooaaGreatProg
import Derived.OrdersHeld
import Derived.Shelf.SortM.SortNone
import Derived.Shelf.SortM.Plain
import Derived.Ground.SlgmProg
import Derived.Shelf.SlIterI.Nil
import Derived.Ground.GgzProg
import Derived.Maps.RangeRun
import Derived.Laws.BytesArg
import Derived.RangeFuncRecord
import Derived.TacticsIn
import Derived.Deep.Slices
import Derived.OpenShut
import Derived.ChangeArms
import Derived.SizedLaws
import Derived.ChangeSame
import Derived.Test.YtpjjmbmmfelooaaGreatRows
import Derived.Sort.QuietThIn
import Derived.ScopeJumps
import Derived.LaidEqlPtr
import Derived.Lib.Builder
import Derived.Lib.UnsafeStr
import Derived.Laws.Strings
import Derived.Test.YtpjjmbmmfelooaaGreatMg5
set_option linter.unusedVariables false
set_option linter.unusedSimpArgs false
set_option maxRecDepth 100000
set_option maxHeartbeats 4000000
namespace Go.Vl
open Go Go.Proofs Go.Proofs.Tryz
theorem Fn.weak {P:Program}{f:FuncId}{args:Array Value}{A:SP}{Q Q':Value->SP->Prop}(h:Fn P f args A Q)(k:∀v B,Q v B->∃B',(∀g w,sat g w B->sat g w B')/\ Q' v B'):Fn P f args A Q':=λ g w hs=>(h g w hs).mono λ _ _ ⟨v,B,e,q,s⟩=>
  let ⟨B',k1,k2⟩:=k v B q
  ⟨v,B',e,k2,k1 _ _ s⟩
def TxR (t q r lg la lz:Nat)(f:TF)(s:DevS):SP:=λ h=>∃a m c vs D,vs.length=m/\ D.length=m/\ LnOk s.ls.length D f/\ (pt q (cl [pz r,pz lg,((pz t))] 235)*pt lg (cl [pz r,vn la,vn lz] 233)*RDev r s*pt t (cl [pz q,.slice a m c,.bool false] 263)*Sl 1 (.slice a m c) m (ptrV vs)*RLines vs D f) h
def TxE (t q r lg la lz:Nat)(s:DevS):SP:=(pt q (cl [pz r,pz lg,.pointer none] 235))*(pt lg (cl [pz r,vn la,vn lz] 233))*RDev r s*(pt t (cl [pz q,.slice none 0 0,.bool true] 263))
theorem txr_iff {t q r lg la lz:Nat}{f:TF}{s:DevS}{R:SP}{g:Gh}{w:World}:sat g w (R*TxR t q r lg la lz f s)↔∃a m c vs D,vs.length=m/\ D.length=m/\ LnOk s.ls.length D f/\ sat g w (R*(pt q (cl [pz r,pz lg,((pz t))] 235)*pt lg (cl [pz r,vn la,vn lz] 233)*RDev r s*pt t (cl [pz q,.slice a m c,.bool false] 263)*Sl 1 (.slice a m c) m (ptrV vs)*RLines vs D f)):=by
  constructor
  . intro hs;obtain ⟨_,⟨x,y,hd,rfl,ha,a,m,c,vs,D,h1,h2,h3,h4⟩,hx⟩:=hs.hp;exact ⟨a,m,c,vs,D,h1,h2,h3,hs.os,hs.tape,hs.out,_,⟨x,y,hd,rfl,ha,h4⟩,hx⟩
  rintro ⟨a,m,c,vs,D,h1,h2,h3,hs⟩;exact hs.mono λ h ⟨x,y,hd,e,ha,hb⟩=>⟨x,y,hd,e,ha,a,m,c,vs,D,h1,h2,h3,hb⟩
theorem fn_txr {P:Program}{fn:FuncId}{args:Array Value}{Q:Value->SP->Prop}{t q r lg la lz:Nat}{f:TF}{s:DevS}{R:SP}(h:∀a m c vs D,vs.length=m->D.length=m->LnOk s.ls.length D f->Fn P fn args (R*(pt q (cl [pz r,pz lg,((pz t))] 235)*pt lg (cl [pz r,vn la,vn lz] 233)*RDev r s*pt t (cl [pz q,.slice a m c,.bool false] 263)*Sl 1 (.slice a m c) m (ptrV vs)*RLines vs D f)) Q):Fn P fn args (R*TxR t q r lg la lz f s) Q:=λ g w hs=>by
  obtain ⟨a,m,c,vs,D,h1,h2,h3,hs'⟩:=txr_iff.1 hs;exact h a m c vs D h1 h2 h3 g w hs'
theorem txr_back {t q r lg la lz m c:Nat}{a:Option Addr}{vs D:List Nat}{f:TF}{s:DevS}{R:SP}(h1:vs.length=m)(h2:D.length=m)(h3:LnOk s.ls.length D f):∀g w,sat g w (R*(pt q (cl [pz r,pz lg,((pz t))] 235)*pt lg (cl [pz r,vn la,vn lz] 233)*RDev r s*pt t (cl [pz q,.slice a m c,.bool false] 263)*Sl 1 (.slice a m c) m (ptrV vs)*RLines vs D f))->sat g w (R*TxR t q r lg la lz f s):=λ g w hs=>txr_iff.2 ⟨a,m,c,vs,D,h1,h2,h3,hs⟩
theorem com_gd {la lz k:Nat}{f:TF}{s s2:DevS}{e:Int}{b:Bool}(hg:Gd s.ls.length (2*(s.ls.length*64)+lz+8+k) s)(hby:∀a c,f a=some c->c.1<256)(htop:s.ls.length*64<=4194304)(hc:comS la lz (s.ls.length*64) f s=((e,b),s2)):Gd s.ls.length k s2:=by
  have hPF:=runP_Fb (n:=s.ls.length*64) (k:=true) hby;have hPL:=runP_Fb (n:=s.ls.length*64) (k:=false) hby;have haf:=adr_len (s.ls.length*64) true f;have hal:=adr_len (s.ls.length*64) false f;have hfs:=hPF.sum;have hls:=hPL.sum;have hll:=hPL.len;obtain ⟨LF,hLF⟩:∃L,runsF (s.ls.length*64) true f=L:=⟨_,rfl⟩;obtain ⟨LL,hLL⟩:∃L,runsF (s.ls.length*64) false f=L:=⟨_,rfl⟩;rw [hLF] at hPF hfs
  rw [hLL] at hPL hls hll
  have g1:Gd s.ls.length (s.ls.length*64+lz+8+k) (writeT LF s).2:=gd_writeT (e:=(writeT LF s).1) rfl hPF.ok (hg.le oqz);have g2:Gd s.ls.length (s.ls.length*64+4+k) (writeS la lz (extX LL) (writeT LF s).2).2:=gd_write (g1.le oqz) (by rw [ext_len];omega);have g3:Gd s.ls.length (4+k) (writeT LL (writeS la lz (extX LL) (writeT LF s).2).2).2:=gd_writeT (e:=(writeT LL (writeS la lz (extX LL) (writeT LF s).2).2).1) rfl hPL.ok (g2.le oqz);have g4:=gd_fe g3;have g5:Gd s.ls.length k (clearS la (fe (writeT LL (writeS la lz (extX LL) (writeT LF s).2).2).2).2).2:=gd_clear (g4.le oqz);have g1f:=gd_fe g1
  unfold comS at hc
  rw [hLF,hLL] at hc
  split at hc
  . obtain rfl:=(Prod.mk.inj hc).2;exact g1.le oqz
  split at hc
  . split at hc
    . obtain rfl:=(Prod.mk.inj hc).2;exact g1.le oqz
    obtain rfl:=(Prod.mk.inj hc).2;exact g1f.le oqz
  split at hc
  . obtain rfl:=(Prod.mk.inj hc).2;exact g2.le oqz
  split at hc
  . obtain rfl:=(Prod.mk.inj hc).2;exact g3.le oqz
  split at hc
  . obtain rfl:=(Prod.mk.inj hc).2;exact g4.le oqz
  obtain rfl:=(Prod.mk.inj hc).2;exact g5
theorem StoreR_c {A R:SP}{C:SP->SP}{t q r lg la lz:Nat}{f:TF}{s:DevS}(hc:Ct A (TxR t q r lg la lz f s) R C:=by exact cbqz)(htop:s.ls.length*64<=4194304:=by omega){p n cb:Nat}{b:Option Addr}{X:List Nat}(hb:Rs R b (bys X):=by exact rbqz)(hXn:X.length=n:=by first|assumption|rfl)(hpn:p+n<=s.ls.length*64:=by omega)(ho:s.off=false:=by assumption):Fn Tryz.prog 195 #[pz t,vn p,.slice b n cb] A (λ rr B=>rr= .int .i64 0/\ B=C (TxR t q r lg la lz (layF p X false f) s)):=by
  obtain ⟨rfl,hC⟩:=hc;refine fn_txr λ a m c vs D h1 h2 h3=>Fn.weak (Store12r_ok (r:=r) (q:=q) (lg:=lg) (la:=la) (lz:=lz) (f:=f) (s:=s) (R:=R) rfl h1 h2 h3 hb hXn hpn htop ho) ?_
  rintro v B ⟨a2,m2,c2,vs2,D2,rfl,⟨g1,g2,g3⟩,rfl⟩;rw [putsF_all hXn] at g3 ⊢
  exact ⟨_,λ g w h=>by rw [hC];exact txr_back g1 g2 g3 g w h,rfl,rfl⟩
theorem FreshR_c {A R:SP}{C:SP->SP}{t q r lg la lz:Nat}{f:TF}{s:DevS}(hc:Ct A (TxR t q r lg la lz f s) R C:=by exact cbqz)(htop:s.ls.length*64<=4194304:=by omega){p n cb:Nat}{b:Option Addr}{X:List Nat}(hb:Rs R b (bys X):=by exact rbqz)(hXn:X.length=n:=by first|assumption|rfl)(hpn:p+n<=s.ls.length*64:=by omega)(ho:s.off=false:=by assumption):Fn Tryz.prog 194 #[pz t,vn p,.slice b n cb] A (λ rr B=>rr= .int .i64 0/\ B=C (TxR t q r lg la lz (layF p X true f) s)):=by
  obtain ⟨rfl,hC⟩:=hc;refine fn_txr λ a m c vs D h1 h2 h3=>Fn.weak (Fresh12r_ok (r:=r) (q:=q) (lg:=lg) (la:=la) (lz:=lz) (f:=f) (s:=s) (R:=R) rfl h1 h2 h3 hb hXn hpn htop ho) ?_
  rintro v B ⟨a2,m2,c2,vs2,D2,rfl,⟨g1,g2,g3⟩,rfl⟩;rw [putsF_all hXn] at g3 ⊢
  exact ⟨_,λ g w h=>by rw [hC];exact txr_back g1 g2 g3 g w h,rfl,rfl⟩
theorem LoadR12_c {A R:SP}{C:SP->SP}{t q r lg la lz:Nat}{f:TF}{s:DevS}(hc:Ct A (TxR t q r lg la lz f s) R C:=by exact cbqz)(htop:s.ls.length*64<=4194304:=by omega){p n:Nat}(hpn:p+n<=s.ls.length*64:=by omega)(ho:s.off=false:=by assumption):Fn Tryz.prog 226 #[pz t,vn p,vn n] A (λ v B=>∃a c,v= .tuple #[.slice a n c,.int .i64 0]/\ n<=c/\ B=C (TxR t q r lg la lz f s)*Sl 1 (.slice a n c) n (bys (ovF f p (((imgS s).drop p).take n)))):=by
  obtain ⟨rfl,hC⟩:=hc;refine fn_txr λ a m c vs D h1 h2 h3=>Fn.weak (Load12r_c (r:=r) (q:=q) (lg:=lg) (la:=la) (lz:=lz) (f:=f) (s:=s) (R:=R) rfl h1 h2 (by have:=lnok_len h3 h2;omega) h3.1 h3.2.1 hpn htop ho) ?_
  rintro v B ⟨a2,c2,rfl,g1,rfl⟩;refine ⟨_,λ g w h=> ?_,a2,c2,rfl,g1,rfl⟩;rw [hC]
  have h9:sat g w (R*Sl 1 (.slice a2 n c2) n (bys (ovF f p (((imgS s).drop p).take n)))*(pt q (cl [pz r,pz lg,((pz t))] 235)*pt lg (cl [pz r,vn la,vn lz] 233)*RDev r s*pt t (cl [pz q,.slice a m c,.bool false] 263)*Sl 1 (.slice a m c) m (ptrV vs)*RLines vs D f)):=h.perm (by ac_rfl);exact (txr_back h1 h2 h3 g w h9).perm (by ac_rfl)
theorem CommitR_c {A R:SP}{C:SP->SP}{t q r lg la lz:Nat}{f:TF}{s:DevS}(hc:Ct A (TxR t q r lg la lz f s) R C:=by exact cbqz)(htop:s.ls.length*64<=4194304:=by omega)(hby:∀a c,f a=some c->c.1<256)(hlw:LogW (s.ls.length*64) la lz:=by assumption)(hroom:Room (2*(s.ls.length*64)+lz+8) s:=by assumption)(ho:s.off=false:=by assumption):Fn Tryz.prog 186 #[pz t] A (λ rr B=>∃e b s2,comS la lz (s.ls.length*64) f s=((e,b),s2)/\ rr= .int .i64 e/\ B=R*(if b=true then TxE t q r lg la lz s2 else TxR t q r lg la lz f s2)):=by
  obtain ⟨rfl,hC⟩:=hc;refine fn_txr λ a m c vs D h1 h2 h3=>fn_have (λ g w h=>(rdev_iff.1 (show sat g w (R*(pt q (cl [pz r,pz lg,((pz t))] 235)*pt lg (cl [pz r,vn la,vn lz] 233)*pt t (cl [pz q,.slice a m c,.bool false] 263)*Sl 1 (.slice a m c) m (ptrV vs)*RLines vs D f)*RDev r s) from h.perm (by ac_rfl))).1) λ hwf=>Fn.weak (Commit12r_c (r:=r) (q:=q) (lg:=lg) (la:=la) (lz:=lz) (f:=f) (s:=s) (R:=R) rfl h1 h2 h3 htop hby hlw hroom ho) ?_
  rintro v B ⟨e,b,s2,g1,rfl,⟨rfl,rfl⟩|⟨rfl,rfl⟩⟩
  . exact ⟨_,λ g w h=>by rw [if_pos rfl];exact h,e,true,s2,g1,rfl,rfl⟩
  exact ⟨_,λ g w h=>by rw [if_neg (by decide)];exact txr_back h1 h2 (by rw [(com_gd (k:=0) ⟨rfl,hroom,hwf⟩ hby htop g1).len];exact h3) g w h,e,false,s2,g1,rfl,rfl⟩
theorem DropR_c {A R:SP}{C:SP->SP}{t q r lg la lz:Nat}{f:TF}{s:DevS}(hc:Ct A (TxR t q r lg la lz f s) R C:=by exact cbqz)(htop:s.ls.length*64<=4194304:=by omega)  :Fn Tryz.prog 187 #[pz t] A (λ rr B=>rr= .int .i64 0/\ B=R*TxE t q r lg la lz s):=by
  obtain ⟨rfl,hC⟩:=hc;exact fn_txr λ a m c vs D h1 h2 h3=>(Drop12r_c (r:=r) (q:=q) (lg:=lg) (la:=la) (lz:=lz) (f:=f) (s:=s) (R:=R) rfl).mono λ v B h=>h
attribute [local irreducible] crk crL crc Sl pt ro Dev imgS recS readS recsF rdW rdO rkT Parts rvl recordsS runsL adrF kcl xcl kys runA runsF layF linR flLs stoL writeT writeS comS clearS extX
theorem begunF12_c {A R:SP}{C:SP->SP}{t p lg d mb at_ sz:Nat}{M:MS}{s:DevS}(hc:Ct A (TxA t p lg d mb at_ sz M false s) R C:=by exact cbqz)(ho:s.off=true):
    Fn Tryz.prog 95 #[pz t] A (λ r B=>r= .int .i64 5/\ B=C (TxA t p lg d mb at_ sz M.clr true s)):=by
  refine fn_enterW func95 rfl ntmps95 (by simp) ?_;obtain ⟨rfl,hC⟩:=hc;refine tc_eq (show _=R*pt p (cl (pocs lg d (some t)) 110)*pt lg (cl (lcs11 d at_ sz) 99)*Dev d s*pt t (cl (txcs p mb false) 113)*pt mb (mpo .i64 M) by unfold TxA;rw [if_neg (by decide)];ac_rfl) ?_;refine tc_have (λ _ _ h=>ct_wf2 ctqz h) λ hwf=> ?_
  have htop:=hwf.top;refine Zg8 ?_;refine Zf2 ?_;intro h;refine Zw ?_;refine Zbn ?_;refine Zd8 ?_;refine Ze7 ?_;intro h;refine Zen ?_;refine tv (o_load p4 rfl hsqz rfl) ?_;refine Ze7 ?_;intro h;refine Zs ?_;refine Zbn ?_;refine Zg4 ?_;refine tl_c rfl (o_call bd58 rfl (Off_c (s:=s))) ?_;refine Z4 ?_;refine tc_cond rfl (sbq ?_) (λ h=> ?_)
  . intro h;refine Zb ?_;refine tl_c rfl (o_call bd101 rfl (end12_c (R:=R*pt lg (cl (lcs11 d at_ sz) 99)*Dev d s) (p:=p) (lg:=lg) (d:=d) (mb:=mb) (M:=M) (over:=false) (hA:=by first|rfl|ac_rfl))) ?_;refine Zet ?_;refine Zhl ?_;exact ⟨.int .i64 5,_,res1 rfl rfl,λ g w h=>by rw [hC];exact h.perm (by unfold TxA;rw [if_pos rfl];ac_rfl),rfl,rfl⟩
  exfalso;rw [ho] at h;simp at h
theorem Zkc {p r:Prop}(k:r)(h:Kq r->p:=by intro k;refine fn_enterW func43 rfl ntmps43 (by simp) ?_;refine Zc3 ?_;exact k.o):p:=h ⟨k⟩
theorem Zkj {p r:Prop}(k:r)(h:Kq r->p:=by intro k;refine Zdy ?_;refine Zcf ?_;exact k.o):p:=h ⟨k⟩
theorem LoadOv_c {A:SP}{p t mb:Nat}(ht:Has A t (cl (txcs p mb true) 113):=by exact hbqz){q n:Int}:
    Fn Tryz.prog 43 #[pz t,.int .i64 q,.int .i64 n] A (λ r B=>r= .tuple #[.slice none 0 0,.int .i64 3]/\ A=B):=by
  refine Zkc ?_;refine tl_c rfl (o_call bd95 rfl (begunO_c (p:=p) (mb:=mb) ht)) ?_;refine Zkj ?_;intro h;refine Ze1 ?_;exact ⟨.tuple #[.slice none 0 0,.int .i64 3],A,res2 rfl rfl rfl,Dr.sat drqz,rfl,rfl⟩
theorem Zj3 {p r:Prop}(k:r)(h:Kq r->p:=by intro k;refine fn_enterW func113 rfl ntmps113 (by simp) ?_;refine Zcl ?_;exact k.o):p:=h ⟨k⟩
theorem LayOv_c {A:SP}{p t mb:Nat}(ht:Has A t (cl (txcs p mb true) 113):=by exact hbqz){q:Int}{a:Option Addr}{n c:Nat}{fr:Bool}:
    Fn Tryz.prog 113 #[pz t,.int .i64 q,.slice a n c,.bool fr] A (λ r B=>r= .int .i64 3/\ A=B):=by
  refine Zj3 ?_;refine tl_c rfl (o_call bd95 rfl (begunO_c (p:=p) (mb:=mb) ht)) ?_;refine Zkj ?_;intro h;refine Zge ?_;exact ⟨.int .i64 3,A,res1 rfl rfl,Dr.sat drqz,rfl,rfl⟩
theorem CommitOv_c {A:SP}{p t mb:Nat}(ht:Has A t (cl (txcs p mb true) 113):=by exact hbqz):
    Fn Tryz.prog 32 #[pz t] A (λ r B=>r= .int .i64 3/\ A=B):=by
  refine Zhw ?_;refine tc_scope (l:=0) (λ _ _=>False) rfl (λ _ _ h=>h.elim) ?_;intro hsc;refine Zb ?_;refine tl_c rfl (o_call bd95 rfl (begunO_c (p:=p) (mb:=mb) ht)) ?_;refine Ziv ?_;intro h;refine Zjk ?_;refine q_then_r (q_sc_r ?_);exact ⟨.int .i64 3,A,res1 rfl rfl,Dr.sat drqz,rfl,rfl⟩
theorem LoadF_c {A R:SP}{C:SP->SP}{t p lg d mb at_ sz:Nat}{M:MS}{s:DevS}(hc:Ct A (TxA t p lg d mb at_ sz M false s) R C:=by exact cbqz)(ho:s.off=true){q n:Int}:
    Fn Tryz.prog 43 #[pz t,.int .i64 q,.int .i64 n] A (λ r B=>r= .tuple #[.slice none 0 0,.int .i64 5]/\ B=C (TxA t p lg d mb at_ sz M.clr true s)):=by
  refine Zkc ?_;refine tl_c rfl (o_call bd95 rfl (begunF12_c hc ho)) ?_;refine Zkj ?_;intro h;refine Ze1 ?_;exact ⟨.tuple #[.slice none 0 0,.int .i64 5],C (TxA t p lg d mb at_ sz M.clr true s),res2 rfl rfl rfl,λ g w h=>h,rfl,rfl⟩
theorem LayF_c {A R:SP}{C:SP->SP}{t p lg d mb at_ sz:Nat}{M:MS}{s:DevS}(hc:Ct A (TxA t p lg d mb at_ sz M false s) R C:=by exact cbqz)(ho:s.off=true){q:Int}{a:Option Addr}{n c:Nat}{fr:Bool}:
    Fn Tryz.prog 113 #[pz t,.int .i64 q,.slice a n c,.bool fr] A (λ r B=>r= .int .i64 5/\ B=C (TxA t p lg d mb at_ sz M.clr true s)):=by
  refine Zj3 ?_;refine tl_c rfl (o_call bd95 rfl (begunF12_c hc ho)) ?_;refine Zkj ?_;intro h;refine Zge ?_;exact ⟨.int .i64 5,C (TxA t p lg d mb at_ sz M.clr true s),res1 rfl rfl,λ g w h=>h,rfl,rfl⟩
theorem CommitF_c {A R:SP}{C:SP->SP}{t p lg d mb at_ sz:Nat}{M:MS}{s:DevS}(hc:Ct A (TxA t p lg d mb at_ sz M false s) R C:=by exact cbqz)(ho:s.off=true):
    Fn Tryz.prog 32 #[pz t] A (λ r B=>r= .int .i64 5/\ B=C (TxA t p lg d mb at_ sz M.clr true s)):=by
  refine Zhw ?_;refine tc_scope (l:=0) (λ _ _=>False) rfl (λ _ _ h=>h.elim) ?_;intro hsc;refine Zb ?_;refine tl_c rfl (o_call bd95 rfl (begunF12_c hc ho)) ?_;refine Ziv ?_;intro h;refine Zjk ?_;refine q_then_r (q_sc_r ?_);exact ⟨.int .i64 5,C (TxA t p lg d mb at_ sz M.clr true s),res1 rfl rfl,λ g w h=>h,rfl,rfl⟩
theorem ExtentsOv_c {A:SP}{p t mb:Nat}(ht:Has A t (cl (txcs p mb true) 113):=by exact hbqz):
    Fn Tryz.prog 49 #[pz t] A (λ r B=>r= .slice none 0 0/\ A=B):=by
  refine Zhu ?_;refine Zcc ?_;refine tl_bool (d:=8) rfl dbq (sbq ?_);intro h;refine Zc8 ?_;refine tv (o_load p69 rfl ht rfl) ?_;refine Zi6 ?_;refine tl_bool (d:=15) rfl dbq (sbq ?_);intro h;refine Zw ?_;refine tv (o_fieldAddr (o:=2) underlying113 rfl rfl sz4 rfl) ?_;refine tv (o_load p4 rfl ht rfl) ?_;refine tv (o_pick_f rfl wqz) ?_;refine Zdt ?_;intro h;refine Zb6 ?_;exact ⟨.slice none 0 0,A,res1 rfl rfl,Dr.sat drqz,rfl,rfl⟩
end Go.Vl

namespace Go.Vl
open Go Go.Proofs Go.Proofs.Tryz
theorem rdy_no {k:Nat}{b:Bool}{p m:Int}(hb:b=false)(h:p<0∨m<0∨(k:Int)*64<p∨(k:Int)*64-p<m):rdy k b p m=6:=by
  unfold rdy;rw [hb,if_neg (by decide),if_pos h]
attribute [local irreducible] crk crL crc Sl pt ro Dev imgS recS readS recsF rdW rdO rkT Parts rvl recordsS runsL adrF kcl xcl kys runA runsF layF linR flLs stoL writeT writeS comS clearS extX
theorem LoadR_c {A R:SP}{C:SP->SP}{t p lg d mb at_ sz:Nat}{M:MS}{s:DevS}(hc:Ct A (TxA t p lg d mb at_ sz M false s) R C:=by exact cbqz)(ho:s.off=false){q:Int}(hq1: -9223372036854775808<=q/\ q<=9223372036854775807){n:Int}(hn1: -9223372036854775808<=n/\ n<=9223372036854775807)(hno:q<0∨n<0∨(s.ls.length:Int)*64<q∨(s.ls.length:Int)*64-q<n):
    Fn Tryz.prog 43 #[pz t,.int .i64 q,.int .i64 n] A (λ r B=>r= .tuple #[.slice none 0 0,.int .i64 6]/\ B=C (TxA t p lg d mb at_ sz M false s)):=by
  refine fn_enterW func43 rfl ntmps43 (by simp) ?_;obtain ⟨rfl,hC⟩:=hc;refine tc_eq (show _=R*pt p (cl (pocs lg d (some t)) 110)*pt lg (cl (lcs11 d at_ sz) 99)*Dev d s*pt t (cl (txcs p mb false) 113)*pt mb (mpo .i64 M) by unfold TxA;rw [if_neg (by decide)];ac_rfl) ?_;refine tc_have (λ _ _ h=>ct_wf2 ctqz h) λ hwf=> ?_
  have htop:=hwf.top;have hr6:=rdy_no ho hno;refine Zc3 ?_;refine tl_c rfl (o_call bd95 rfl (begun12_c (s:=s))) ?_;refine Zdy ?_;refine Zck ?_;intro h;refine Zfx ?_;refine Zbn ?_;refine Zg4 ?_;refine Z2 ?_;refine tl_c rfl (o_call bd110 rfl (LoadNo_c (s:=s) (p:=q) (m:=n) (hp:=hq1) (hm:=hn1) (hno:=by rw [hr6];decide))) ?_;rintro _ _ ⟨rfl,rfl⟩;refine tl_env (d:=29) (v:= .tuple #[.slice none 0 0,.int .i64 6]) (by show Value.tuple #[.slice none 0 0,.int .i64 (rdy _ _ _ _)]=_;rw [hr6]) ?_;refine Zhd ?_;refine Zez ?_;refine Zcj ?_;refine tc_loop (λ kk ρ BB=>∃ (i:Nat),(i=0)/\ kk=0/\ ρ 34=(vn i)/\ ρ 0=(pz t)/\ ρ 1= .int .i64 q/\ ρ 9= .slice none 0 0/\ ρ 10= .int .i64 6/\ ρ 33= .int .i64 0/\ BB=R*pt p (cl (pocs lg d (some t)) 110)*pt lg (cl (lcs11 d at_ sz) 99)*Dev d s*pt t (cl (txcs p mb false) 113)*pt mb (mpo .i64 M)) (m:=0) ?_ ?_
  . exact ⟨0,rfl,rfl,rfl,rfl,rfl,rfl,rfl,rfl,rfl⟩
  intro k ρ B hI;obtain ⟨i,hp0,hkk1,hE34,hE0,hE1,hE9,hE10,hE33,rfl⟩:=hI;refine te 34 hE34 ?_;refine te 0 hE0 ?_;refine te 1 hE1 ?_;refine te 9 hE9 ?_;refine te 10 hE10 ?_;refine te 33 hE33 ?_;refine Zei ?_;refine tc_cond rfl (λ h=> ?_) (sbq ?_)
  . exfalso;subst hp0;simp at h
  intro h;refine Zf ?_;refine Zb7 ?_;refine Zc4 ?_;exact ⟨.tuple #[.slice none 0 0,.int .i64 6],C (TxA t p lg d mb at_ sz M false s),res2 rfl rfl rfl,(λ g w h=>by rw [hC];exact (Dr.sat (A':=R*pt p (cl (pocs lg d (some t)) 110)*pt lg (cl (lcs11 d at_ sz) 99)*Dev d s*pt t (cl (txcs p mb false) 113)*pt mb (mpo .i64 M)) drqz g w h).perm (by unfold TxA;rw [if_neg (by decide)];ac_rfl)),rfl,rfl⟩
theorem LayR_c {A R:SP}{C:SP->SP}{t p lg d mb at_ sz:Nat}{M:MS}{s:DevS}(hc:Ct A (TxA t p lg d mb at_ sz M false s) R C:=by exact cbqz)(ho:s.off=false){q:Int}(hq1: -9223372036854775808<=q/\ q<=9223372036854775807){a:Option Addr}{m c:Nat}{fr:Bool}(hm1:m<=9223372036854775807)(hno:q<0∨(s.ls.length:Int)*64<q∨(s.ls.length:Int)*64-q<m):
    Fn Tryz.prog 113 #[pz t,.int .i64 q,.slice a m c,.bool fr] A (λ r B=>r= .int .i64 6/\ B=C (TxA t p lg d mb at_ sz M false s)):=by
  refine fn_enterW func113 rfl ntmps113 (by simp) ?_;obtain ⟨rfl,hC⟩:=hc;refine tc_eq (show _=R*pt p (cl (pocs lg d (some t)) 110)*pt lg (cl (lcs11 d at_ sz) 99)*Dev d s*pt t (cl (txcs p mb false) 113)*pt mb (mpo .i64 M) by unfold TxA;rw [if_neg (by decide)];ac_rfl) ?_;refine tc_have (λ _ _ h=>ct_wf2 ctqz h) λ hwf=> ?_
  have htop:=hwf.top;refine Zcl ?_;refine tl_c rfl (o_call bd95 rfl (begun12_c (s:=s))) ?_;refine Zdy ?_;refine Zck ?_;intro h;refine Zc ?_;refine Zb2 ?_;refine Zbn ?_;refine Zg4 ?_;refine tl_c rfl (o_call bd104 rfl (Size_c (s:=s))) ?_;refine Zdy ?_;refine Zdq ?_;refine tl_bool (d:=30) rfl (sbq ?_) (sbq ?_)
  . intro h;refine Zg7 ?_;refine Zdl ?_;refine Zlj ?_;exact ⟨.int .i64 6,C (TxA t p lg d mb at_ sz M false s),res1 rfl rfl,(λ g w h=>by rw [hC];exact (Dr.sat (A':=R*pt p (cl (pocs lg d (some t)) 110)*pt lg (cl (lcs11 d at_ sz) 99)*Dev d s*pt t (cl (txcs p mb false) 113)*pt mb (mpo .i64 M)) drqz g w h).perm (by unfold TxA;rw [if_neg (by decide)];ac_rfl)),rfl,rfl⟩
  intro h;refine Z2 ?_;refine Zir ?_;refine tl_bool (d:=35) rfl (sbq ?_) (sbq ?_)
  . intro h;refine Zdl ?_;refine Zlj ?_;exact ⟨.int .i64 6,C (TxA t p lg d mb at_ sz M false s),res1 rfl rfl,(λ g w h=>by rw [hC];exact (Dr.sat (A':=R*pt p (cl (pocs lg d (some t)) 110)*pt lg (cl (lcs11 d at_ sz) 99)*Dev d s*pt t (cl (txcs p mb false) 113)*pt mb (mpo .i64 M)) drqz g w h).perm (by unfold TxA;rw [if_neg (by decide)];ac_rfl)),rfl,rfl⟩
  intro h;refine Zbp ?_;refine Z2 ?_;refine tv (by first|exact o_subI rfl rfl oqz|exact o_sub rfl rfl) ?_;refine Zc2 ?_;refine nq ?_;refine tc_cond rfl (sbq ?_) (λ h=> ?_)
  . intro h;refine Zb6 ?_;exact ⟨.int .i64 6,C (TxA t p lg d mb at_ sz M false s),res1 rfl rfl,(λ g w h=>by rw [hC];exact (Dr.sat (A':=R*pt p (cl (pocs lg d (some t)) 110)*pt lg (cl (lcs11 d at_ sz) 99)*Dev d s*pt t (cl (txcs p mb false) 113)*pt mb (mpo .i64 M)) drqz g w h).perm (by unfold TxA;rw [if_neg (by decide)];ac_rfl)),rfl,rfl⟩
  exfalso;simp at*;omega
theorem Recover12_no {A R:SP}{C:SP->SP}{d:Nat}{s:DevS}(hc:Ct A (Dev d s) R C:=by exact cbqz){p lg:Nat}{ov:Option Nat}(hp:Has A p (cl (pocs lg d ov) 110):=by exact hbqz)(hno:idlS s ov≠0):
    Fn Tryz.prog 41 #[pz p] A (λ r B=>r= .tuple #[.int .i64 0,.int .i64 (idlS s ov)]/\ A=B):=by
  refine fn_enterW func41 rfl ntmps41 (by simp) ?_;refine Zc3 ?_;refine tl_c rfl (o_call bd111 rfl (idle12_c (hc:=hc) (hp:=hp))) ?_;refine Zgd ?_;refine tc_cond rfl (sbq ?_) (λ h=> ?_)
  . intro h;refine Ze1 ?_;exact ⟨.tuple #[.int .i64 0,.int .i64 (idlS s ov)],A,res2 rfl rfl rfl,Dr.sat drqz,rfl,rfl⟩
  exfalso;exact hno (by first|exact Classical.not_not.1 (of_decide_eq_false h)|(simpa using h))
theorem Recover12_ok {A R:SP}{C:SP->SP}{d:Nat}{s:DevS}(hc:Ct A (Dev d s) R C:=by exact cbqz){p lg:Nat}(hp:Has A p (cl (pocs lg d none) 110):=by exact hbqz){at_ sz:Nat}(hl:Has R lg (cl (lcs11 d at_ sz) 99):=by exact hbqz)(hlw:LogW (s.ls.length*64) at_ sz:=by assumption)(ho:s.off=false:=by assumption)(hroom:Room (sz+1) s:=by assumption):
    Fn Tryz.prog 41 #[pz p] A (λ r B=>∃e k s2,rollS at_ sz s=((k,e),s2)/\ r= .tuple #[.int .i64 k,.int .i64 e]/\ B=C (Dev d s2)):=by
  refine fn_enterW func41 rfl ntmps41 (by simp) ?_;have hi0:idlS s none=0:=(by unfold idlS;rw [ho];rfl);refine Zc3 ?_;refine tl_c rfl (o_call bd111 rfl (idle12_c (hc:=hc) (ov:=none) (hp:=hp))) ?_;refine Zgd ?_;refine tc_cond rfl (λ h=> ?_) (sbq ?_)
  . exfalso;rw [hi0] at h;simp at h
  intro h;refine Zfx ?_;refine tv (o_fieldAddr (o:=1) underlying110 rfl rfl sz89 rfl) ?_;refine tv (o_load p89 rfl hp rfl) ?_;refine tl_c rfl (o_call bd112 rfl (Rg.Rollback_c (hc:=hc) (hl:=hl) (hroom:=hroom) (hlw:=by assumption))) ?_;rintro _ _ ⟨e14,k14,s14,hs14,rfl,rfl⟩;refine Zk0 ?_;exact ⟨.tuple #[.int .i64 k14,.int .i64 e14],_,res2 rfl rfl rfl,Dr.sat drqz,e14,k14,s14,hs14,rfl,rfl⟩
theorem Load12_no {A R:SP}{C:SP->SP}{d:Nat}{s:DevS}(hc:Ct A (Dev d s) R C:=by exact cbqz){p lg:Nat}{ov:Option Nat}(hp:Has A p (cl (pocs lg d ov) 110):=by exact hbqz){q m:Int}(hq: -9223372036854775808<=q/\ q<=9223372036854775807)(hm: -9223372036854775808<=m/\ m<=9223372036854775807)(hno:rdy s.ls.length s.off q m≠0):
    Fn Tryz.prog 40 #[pz p,.int .i64 q,.int .i64 m] A (λ r B=>r= .tuple #[.slice none 0 0,.int .i64 (rdy s.ls.length s.off q m)]/\ A=B):=by
  refine Zka ?_;refine tl_c rfl (o_call bd109 rfl (made12_c (hp:=hp))) ?_;refine Zbi ?_;refine Z3 ?_;intro h;refine Ziz ?_;refine tv (o_load p47 rfl hp rfl) ?_;refine Z2 ?_;refine tl_c rfl (o_call bd110 rfl (LoadNo_c (hc:=hc) (p:=q) (m:=m) (hp:=hq) (hm:=hm) (hno:=hno))) ?_;rintro _ _ ⟨rfl,rfl⟩;refine Zk0 ?_;exact ⟨.tuple #[.slice none 0 0,.int .i64 (rdy s.ls.length s.off q m)],A,res2 rfl rfl rfl,Dr.sat drqz,rfl,rfl⟩
theorem Begin12_st {A R:SP}{C:SP->SP}{d:Nat}{s:DevS}(hc:Ct A (Dev d s) R C:=by exact cbqz){p lg:Nat}(hp:Has A p (cl (pocs lg d none) 110):=by exact hbqz){at_ sz:Nat}(hl:Has R lg (cl (lcs11 d at_ sz) 99):=by exact hbqz)(hlw:LogW (s.ls.length*64) at_ sz:=by assumption)(ho:s.off=false:=by assumption)(hst:stpS at_ sz s≠0):
    Fn Tryz.prog 42 #[pz p] A (λ r B=>r= .tuple #[.pointer none,.int .i64 (stpS at_ sz s)]/\ A=B):=by
  refine fn_enterW func42 rfl ntmps42 (by simp) ?_;have hi0:idlS s none=0:=(by unfold idlS;rw [ho];rfl);refine Zc3 ?_;refine tl_c rfl (o_call bd111 rfl (idle12_c (hc:=hc) (ov:=none) (hp:=hp))) ?_;refine Zgd ?_;refine tc_cond rfl (λ h=> ?_) (sbq ?_)
  . exfalso;rw [hi0] at h;simp at h
  intro h;refine Zdf ?_;refine tl_c rfl (o_call bd44 rfl (State12_c (hc:=hc) (hp:=hp) (hl:=hl) (ov:=none))) ?_;refine Zgd ?_;refine tc_cond rfl (sbq ?_) (λ h=> ?_)
  . intro h;refine Ze1 ?_;exact ⟨.tuple #[.pointer none,.int .i64 (stpS at_ sz s)],A,res2 rfl rfl rfl,Dr.sat drqz,rfl,rfl⟩
  exfalso;exact hst (by first|exact Classical.not_not.1 (of_decide_eq_false h)|(simpa using h))
end Go.Vl

namespace Go.Vl
open Go Go.Proofs Go.Proofs.Tryz
def ldT (f:TF)(p m:Int)(s:DevS):List Nat:=if rdy s.ls.length s.off p m=0 then ovF f p.toNat (((imgS s).drop p.toNat).take m.toNat) else []
theorem Load12R_no {A R:SP}{C:SP->SP}{t q r lg la lz:Nat}{f:TF}{s:DevS}(hc:Ct A (TxR t q r lg la lz f s) R C){p n:Int}(hp1: -9223372036854775808<=p/\ p<=9223372036854775807)(hn1: -9223372036854775808<=n/\ n<=9223372036854775807)(hno:p<0∨n<0∨(s.ls.length:Int)*64<p∨(s.ls.length:Int)*64-p<n)(ho:s.off=false):
    Fn Tryz.prog 226 #[pz t,.int .i64 p,.int .i64 n] A (λ rr B=>rr= .tuple #[.slice none 0 0,.int .i64 6]/\ A=B):=by
  obtain ⟨rfl,hC⟩:=hc;refine fn_txr λ a m c vs D h1 h2 h3=>Fn.weak (Load12r_no (r:=r) (q:=q) (lg:=lg) (la:=la) (lz:=lz) (f:=f) (s:=s) (R:=R) rfl hp1 hn1 hno ho) ?_
  rintro v B ⟨rfl,rfl⟩;exact ⟨_,txr_back h1 h2 h3,rfl,rfl⟩
theorem ldR_any {A R:SP}{C:SP->SP}{t q r lg la lz:Nat}{f:TF}{s:DevS}(hc:Ct A (TxR t q r lg la lz f s) R C:=by exact cbqz)(htop:s.ls.length*64<=4194304:=by omega){p m:Int}(hp: -9223372036854775808<=p/\ p<=9223372036854775807:=by omega)(hm: -9223372036854775808<=m/\ m<=9223372036854775807:=by omega)(ho:s.off=false:=by assumption)(hil:(imgS s).length=s.ls.length*64:=by assumption):
    Fn Tryz.prog 226 #[pz t,.int .i64 p,.int .i64 m] A (λ r9 B=>∃a c,r9= .tuple #[.slice a (ldT f p m s).length c,.int .i64 (rdy s.ls.length s.off p m)]/\ (ldT f p m s).length<=c/\ B=A*Sl 1 (.slice a (ldT f p m s).length c) (ldT f p m s).length (bys (ldT f p m s))):=by
  by_cases h:rdy s.ls.length s.off p m=0
  . obtain ⟨_,h0,h1,h2⟩:=rdy0 h;obtain ⟨q9,rfl⟩:=Int.eq_ofNat_of_zero_le h0;obtain ⟨k9,rfl⟩:=Int.eq_ofNat_of_zero_le h1;have e:ldT f (q9:Int) (k9:Int) s=ovF f q9 (((imgS s).drop q9).take k9):=(by unfold ldT;rw [if_pos h];rfl);have el:(ovF f q9 (((imgS s).drop q9).take k9)).length=k9:=(by rw [ovF_len,List.length_take,List.length_drop,hil];omega);rw [e,el,h]
    exact (LoadR12_c hc htop oqz ho).mono λ v B ⟨a,c,h3,h4,h5⟩=>⟨a,c,h3,h4,by rw [h5,hc.2,←hc.1]⟩
  have e:ldT f p m s=[]:=(by unfold ldT;rw [if_neg h])
  have h6:rdy s.ls.length s.off p m=6:=by
    unfold rdy at h ⊢
    rw [ho,if_neg (by decide)] at h ⊢
    split at h
    . rw [if_pos (by assumption)]
    exact absurd rfl h
  have hno:p<0∨m<0∨(s.ls.length:Int)*64<p∨(s.ls.length:Int)*64-p<m:=Classical.byContradiction λ h9=>h (by unfold rdy;rw [ho,if_neg (by decide),if_neg h9])
  rw [e,h6]
  exact (Fn.weak (Load12R_no hc hp hm hno ho) λ v B ⟨h3,h4⟩=>⟨A*Sl 1 (.slice none 0 0) 0 [],λ g w h9=>sl_nil (h4▸h9),none,0,h3,Nat.le_refl _,rfl⟩)
theorem ldP_any {A R:SP}{C:SP->SP}{t p9 lg d mb at_ sz n:Nat}{M:MS}{f:TF}{s:DevS}(hc:Ct A (TxA t p9 lg d mb at_ sz M false s) R C:=by exact cbqz)(hM:MF M n f)(hn:n=s.ls.length*64:=by omega){p m:Int}(hp: -9223372036854775808<=p/\ p<=9223372036854775807:=by omega)(hm: -9223372036854775808<=m/\ m<=9223372036854775807:=by omega)(ho:s.off=false:=by assumption)(hil:(imgS s).length=s.ls.length*64:=by assumption):
    Fn Tryz.prog 43 #[pz t,.int .i64 p,.int .i64 m] A (λ r9 B=>∃a c,r9= .tuple #[.slice a (ldT f p m s).length c,.int .i64 (rdy s.ls.length s.off p m)]/\ (ldT f p m s).length<=c/\ B=A*Sl 1 (.slice a (ldT f p m s).length c) (ldT f p m s).length (bys (ldT f p m s))):=by
  by_cases h:rdy s.ls.length s.off p m=0
  . obtain ⟨_,h0,h1,h2⟩:=rdy0 h;obtain ⟨q9,rfl⟩:=Int.eq_ofNat_of_zero_le h0;obtain ⟨k9,rfl⟩:=Int.eq_ofNat_of_zero_le h1;have e:ldT f (q9:Int) (k9:Int) s=ovF f q9 (((imgS s).drop q9).take k9):=(by unfold ldT;rw [if_pos h];rfl);have el:(ovF f q9 (((imgS s).drop q9).take k9)).length=k9:=(by rw [ovF_len,List.length_take,List.length_drop,hil];omega);rw [e,el,h]
    exact LoadT_c hc hM hn ho oqz
  have e:ldT f p m s=[]:=(by unfold ldT;rw [if_neg h])
  have h6:rdy s.ls.length s.off p m=6:=by
    unfold rdy at h ⊢
    rw [ho,if_neg (by decide)] at h ⊢
    split at h
    . rw [if_pos (by assumption)]
    exact absurd rfl h
  have hno:p<0∨m<0∨(s.ls.length:Int)*64<p∨(s.ls.length:Int)*64-p<m:=Classical.byContradiction λ h9=>h (by unfold rdy;rw [ho,if_neg (by decide),if_neg h9])
  rw [e,h6]
  exact (Fn.weak (LoadR_c hc ho hp hm hno) λ v B ⟨h3,h4⟩=>⟨A*Sl 1 (.slice none 0 0) 0 [],λ g w h9=>sl_nil (by rw [h4] at h9;rw [hc.1,←hc.2];exact h9),none,0,h3,Nat.le_refl _,rfl⟩)
def layT (f:TF)(p:Int)(X:List Nat)(fr:Bool)(s:DevS):TF:=if rdy s.ls.length s.off p X.length=0 then layF p.toNat X fr f else f
attribute [local irreducible] crk crL crc Sl pt ro Dev imgS recS readS recsF rdW rdO rkT Parts rvl recordsS runsL adrF kcl xcl kys runA runsF layF ovF TxA adZ WkA SlB blkS conB imF RDev lineC RLines
theorem Store12r_no {A R:SP}{q r lg la lz t m c:Nat}{a:Option Addr}{vs D:List Nat}{f:TF}{s:DevS}(hA:A=R*(pt q (cl [pz r,pz lg,((pz t))] 235)*pt lg (cl [pz r,vn la,vn lz] 233)*RDev r s*pt t (cl [pz q,.slice a m c,.bool false] 263)*Sl 1 (.slice a m c) m (ptrV vs)*RLines vs D f)){p:Int}{n cb:Nat}{b:Option Addr}(hp1: -9223372036854775808<=p/\ p<=9223372036854775807)(hn1:n<=9223372036854775807)(hno:p<0∨(s.ls.length:Int)*64<p∨(s.ls.length:Int)*64-p<n)(htop:s.ls.length*64<=4194304)(ho:s.off=false:=by assumption):
    Fn Tryz.prog 195 #[pz t,.int .i64 p,.slice b n cb] A (λ rr B=>rr= .int .i64 6/\ A=B):=by
  refine Zhm ?_;refine tl_c rfl (o_call bd237 rfl (put12r_no (z:=1) hA hp1 hn1 hno htop ho)) ?_;refine Zct ?_;exact ⟨.int .i64 6,A,res1 rfl rfl,Dr.sat drqz,rfl,rfl⟩
theorem Fresh12r_no {A R:SP}{q r lg la lz t m c:Nat}{a:Option Addr}{vs D:List Nat}{f:TF}{s:DevS}(hA:A=R*(pt q (cl [pz r,pz lg,((pz t))] 235)*pt lg (cl [pz r,vn la,vn lz] 233)*RDev r s*pt t (cl [pz q,.slice a m c,.bool false] 263)*Sl 1 (.slice a m c) m (ptrV vs)*RLines vs D f)){p:Int}{n cb:Nat}{b:Option Addr}(hp1: -9223372036854775808<=p/\ p<=9223372036854775807)(hn1:n<=9223372036854775807)(hno:p<0∨(s.ls.length:Int)*64<p∨(s.ls.length:Int)*64-p<n)(htop:s.ls.length*64<=4194304)(ho:s.off=false:=by assumption):
    Fn Tryz.prog 194 #[pz t,.int .i64 p,.slice b n cb] A (λ rr B=>rr= .int .i64 6/\ A=B):=by
  refine Zhn ?_;refine tl_c rfl (o_call bd237 rfl (put12r_no (z:=2) hA hp1 hn1 hno htop ho)) ?_;refine Zct ?_;exact ⟨.int .i64 6,A,res1 rfl rfl,Dr.sat drqz,rfl,rfl⟩
theorem Store12T_no {A R:SP}{C:SP->SP}{t p lg d mb at_ sz:Nat}{M:MS}{s:DevS}(hc:Ct A (TxA t p lg d mb at_ sz M false s) R C:=by exact cbqz)(ho:s.off=false){q:Int}(hq1: -9223372036854775808<=q/\ q<=9223372036854775807){a:Option Addr}{m c:Nat}(hm1:m<=9223372036854775807)(hno:q<0∨(s.ls.length:Int)*64<q∨(s.ls.length:Int)*64-q<m):
    Fn Tryz.prog 46 #[pz t,.int .i64 q,.slice a m c] A (λ r B=>r= .int .i64 6/\ B=C (TxA t p lg d mb at_ sz M false s)):=by
  refine Zgb ?_;refine tl_c rfl (o_call bd113 rfl (LayR_c (fr:=false) hc ho hq1 hm1 hno)) ?_;refine Zct ?_;exact ⟨.int .i64 6,C (TxA t p lg d mb at_ sz M false s),res1 rfl rfl,λ g w h=>h,rfl,rfl⟩
theorem Fresh12T_no {A R:SP}{C:SP->SP}{t p lg d mb at_ sz:Nat}{M:MS}{s:DevS}(hc:Ct A (TxA t p lg d mb at_ sz M false s) R C:=by exact cbqz)(ho:s.off=false){q:Int}(hq1: -9223372036854775808<=q/\ q<=9223372036854775807){a:Option Addr}{m c:Nat}(hm1:m<=9223372036854775807)(hno:q<0∨(s.ls.length:Int)*64<q∨(s.ls.length:Int)*64-q<m):
    Fn Tryz.prog 47 #[pz t,.int .i64 q,.slice a m c] A (λ r B=>r= .int .i64 6/\ B=C (TxA t p lg d mb at_ sz M false s)):=by
  refine Zgc ?_;refine tl_c rfl (o_call bd113 rfl (LayR_c (fr:=true) hc ho hq1 hm1 hno)) ?_;refine Zct ?_;exact ⟨.int .i64 6,C (TxA t p lg d mb at_ sz M false s),res1 rfl rfl,λ g w h=>h,rfl,rfl⟩
theorem StoreR_any {A R:SP}{C:SP->SP}{t q r lg la lz:Nat}{f:TF}{s:DevS}(hc:Ct A (TxR t q r lg la lz f s) R C:=by exact cbqz)(htop:s.ls.length*64<=4194304:=by omega){p:Int}{m cb:Nat}{b:Option Addr}{X:List Nat}(hp: -9223372036854775808<=p/\ p<=9223372036854775807:=by omega)(hb:Rs R b (bys X):=by exact rbqz)(hXm:X.length=m:=by first|assumption|rfl)(hm:m<=9223372036854775807:=by omega)(ho:s.off=false:=by assumption):
    Fn Tryz.prog 195 #[pz t,.int .i64 p,.slice b m cb] A (λ rr B=>rr= .int .i64 (rdy s.ls.length s.off p m)/\ B=C (TxR t q r lg la lz (layT f p X false s) s)):=by
  by_cases h:rdy s.ls.length s.off p m=0
  . obtain ⟨_,h0,h1,h2⟩:=rdy0 h;obtain ⟨q9,rfl⟩:=Int.eq_ofNat_of_zero_le h0;have e:layT f (q9:Int) X false s=layF q9 X false f:=(by unfold layT;rw [hXm,if_pos h];rfl);rw [e,h]
    exact StoreR_c hc htop hb hXm oqz ho
  have e:layT f p X false s=f:=(by unfold layT;rw [hXm,if_neg h])
  have h6:rdy s.ls.length s.off p m=6:=by
    unfold rdy at h ⊢
    rw [ho,if_neg (by decide)] at h ⊢
    split at h
    . rw [if_pos (by assumption)]
    exact absurd rfl h
  have hno:p<0∨(s.ls.length:Int)*64<p∨(s.ls.length:Int)*64-p<m:=Classical.byContradiction λ h9=>h (by unfold rdy;rw [ho,if_neg (by decide),if_neg oqz])
  rw [e,h6]
  obtain ⟨rfl,hC⟩:=hc;refine fn_txr λ a m9 c vs D h1 h2 h3=>Fn.weak (Store12r_no (r:=r) (q:=q) (lg:=lg) (la:=la) (lz:=lz) (f:=f) (s:=s) (R:=R) rfl hp hm hno htop ho) ?_
  rintro v B ⟨rfl,rfl⟩;exact ⟨_,λ g w h=>by rw [hC];exact txr_back h1 h2 h3 g w h,rfl,rfl⟩
theorem FreshR_any {A R:SP}{C:SP->SP}{t q r lg la lz:Nat}{f:TF}{s:DevS}(hc:Ct A (TxR t q r lg la lz f s) R C:=by exact cbqz)(htop:s.ls.length*64<=4194304:=by omega){p:Int}{m cb:Nat}{b:Option Addr}{X:List Nat}(hp: -9223372036854775808<=p/\ p<=9223372036854775807:=by omega)(hb:Rs R b (bys X):=by exact rbqz)(hXm:X.length=m:=by first|assumption|rfl)(hm:m<=9223372036854775807:=by omega)(ho:s.off=false:=by assumption):
    Fn Tryz.prog 194 #[pz t,.int .i64 p,.slice b m cb] A (λ rr B=>rr= .int .i64 (rdy s.ls.length s.off p m)/\ B=C (TxR t q r lg la lz (layT f p X true s) s)):=by
  by_cases h:rdy s.ls.length s.off p m=0
  . obtain ⟨_,h0,h1,h2⟩:=rdy0 h;obtain ⟨q9,rfl⟩:=Int.eq_ofNat_of_zero_le h0;have e:layT f (q9:Int) X true s=layF q9 X true f:=(by unfold layT;rw [hXm,if_pos h];rfl);rw [e,h]
    exact FreshR_c hc htop hb hXm oqz ho
  have e:layT f p X true s=f:=(by unfold layT;rw [hXm,if_neg h])
  have h6:rdy s.ls.length s.off p m=6:=by
    unfold rdy at h ⊢
    rw [ho,if_neg (by decide)] at h ⊢
    split at h
    . rw [if_pos (by assumption)]
    exact absurd rfl h
  have hno:p<0∨(s.ls.length:Int)*64<p∨(s.ls.length:Int)*64-p<m:=Classical.byContradiction λ h9=>h (by unfold rdy;rw [ho,if_neg (by decide),if_neg oqz])
  rw [e,h6]
  obtain ⟨rfl,hC⟩:=hc;refine fn_txr λ a m9 c vs D h1 h2 h3=>Fn.weak (Fresh12r_no (r:=r) (q:=q) (lg:=lg) (la:=la) (lz:=lz) (f:=f) (s:=s) (R:=R) rfl hp hm hno htop ho) ?_
  rintro v B ⟨rfl,rfl⟩;exact ⟨_,λ g w h=>by rw [hC];exact txr_back h1 h2 h3 g w h,rfl,rfl⟩
theorem StoreP_any {A R:SP}{C:SP->SP}{t p9 lg d mb at_ sz n:Nat}{M:MS}{f:TF}{s:DevS}(hc:Ct A (TxA t p9 lg d mb at_ sz M false s) R C:=by exact cbqz)(hM:MF M n f)(hn:n=s.ls.length*64:=by omega){p:Int}{m cb:Nat}{b:Option Addr}{X:List Nat}(hp: -9223372036854775808<=p/\ p<=9223372036854775807:=by omega)(hb:Rs R b (bys X):=by exact rbqz)(hXm:X.length=m:=by first|assumption|rfl)(hX8:∀x∈X,x<256:=by assumption)(hm:m<=9223372036854775807:=by omega)(ho:s.off=false:=by assumption):
    Fn Tryz.prog 46 #[pz t,.int .i64 p,.slice b m cb] A (λ rr B=>∃M2,rr= .int .i64 (rdy s.ls.length s.off p m)/\ MF M2 n (layT f p X false s)/\ B=C (TxA t p9 lg d mb at_ sz M2 false s)):=by
  by_cases h:rdy s.ls.length s.off p m=0
  . obtain ⟨_,h0,h1,h2⟩:=rdy0 h;obtain ⟨q9,rfl⟩:=Int.eq_ofNat_of_zero_le h0;have e:layT f (q9:Int) X false s=layF q9 X false f:=(by unfold layT;rw [hXm,if_pos h];rfl);rw [e,h]
    exact StoreT_c (hc:=hc) (hM:=hM) (hn:=hn) (ho:=ho) (hr:=hb) (hm:=hXm) (hb:=hX8) (hqm:=by omega)
  have e:layT f p X false s=f:=(by unfold layT;rw [hXm,if_neg h])
  have h6:rdy s.ls.length s.off p m=6:=by
    unfold rdy at h ⊢
    rw [ho,if_neg (by decide)] at h ⊢
    split at h
    . rw [if_pos (by assumption)]
    exact absurd rfl h
  have hno:p<0∨(s.ls.length:Int)*64<p∨(s.ls.length:Int)*64-p<m:=Classical.byContradiction λ h9=>h (by unfold rdy;rw [ho,if_neg (by decide),if_neg oqz])
  rw [e,h6]
  exact (Store12T_no hc ho hp hm hno).mono λ v B ⟨h3,h4⟩=>⟨M,h3,hM,h4⟩
theorem FreshP_any {A R:SP}{C:SP->SP}{t p9 lg d mb at_ sz n:Nat}{M:MS}{f:TF}{s:DevS}(hc:Ct A (TxA t p9 lg d mb at_ sz M false s) R C:=by exact cbqz)(hM:MF M n f)(hn:n=s.ls.length*64:=by omega){p:Int}{m cb:Nat}{b:Option Addr}{X:List Nat}(hp: -9223372036854775808<=p/\ p<=9223372036854775807:=by omega)(hb:Rs R b (bys X):=by exact rbqz)(hXm:X.length=m:=by first|assumption|rfl)(hX8:∀x∈X,x<256:=by assumption)(hm:m<=9223372036854775807:=by omega)(ho:s.off=false:=by assumption):
    Fn Tryz.prog 47 #[pz t,.int .i64 p,.slice b m cb] A (λ rr B=>∃M2,rr= .int .i64 (rdy s.ls.length s.off p m)/\ MF M2 n (layT f p X true s)/\ B=C (TxA t p9 lg d mb at_ sz M2 false s)):=by
  by_cases h:rdy s.ls.length s.off p m=0
  . obtain ⟨_,h0,h1,h2⟩:=rdy0 h;obtain ⟨q9,rfl⟩:=Int.eq_ofNat_of_zero_le h0;have e:layT f (q9:Int) X true s=layF q9 X true f:=(by unfold layT;rw [hXm,if_pos h];rfl);rw [e,h]
    exact FreshT_c (hc:=hc) (hM:=hM) (hn:=hn) (ho:=ho) (hr:=hb) (hm:=hXm) (hb:=hX8) (hqm:=by omega)
  have e:layT f p X true s=f:=(by unfold layT;rw [hXm,if_neg h])
  have h6:rdy s.ls.length s.off p m=6:=by
    unfold rdy at h ⊢
    rw [ho,if_neg (by decide)] at h ⊢
    split at h
    . rw [if_pos (by assumption)]
    exact absurd rfl h
  have hno:p<0∨(s.ls.length:Int)*64<p∨(s.ls.length:Int)*64-p<m:=Classical.byContradiction λ h9=>h (by unfold rdy;rw [ho,if_neg (by decide),if_neg oqz])
  rw [e,h6]
  exact (Fresh12T_no hc ho hp hm hno).mono λ v B ⟨h3,h4⟩=>⟨M,h3,hM,h4⟩
theorem Store12r_over {A:SP}{t q m c:Nat}{a:Option Addr}(ht:Has A t (cl [pz q,.slice a m c,.bool true] 263)){p:Int}{n cb:Nat}{b:Option Addr}:
    Fn Tryz.prog 195 #[pz t,.int .i64 p,.slice b n cb] A (λ rr B=>rr= .int .i64 3/\ A=B):=by
  refine Zhm ?_;refine tl_c rfl (o_call bd237 rfl (put12r_over (z:=1) ht)) ?_;refine Zct ?_;exact ⟨.int .i64 3,A,res1 rfl rfl,Dr.sat drqz,rfl,rfl⟩
theorem Fresh12r_over {A:SP}{t q m c:Nat}{a:Option Addr}(ht:Has A t (cl [pz q,.slice a m c,.bool true] 263)){p:Int}{n cb:Nat}{b:Option Addr}:
    Fn Tryz.prog 194 #[pz t,.int .i64 p,.slice b n cb] A (λ rr B=>rr= .int .i64 3/\ A=B):=by
  refine Zhn ?_;refine tl_c rfl (o_call bd237 rfl (put12r_over (z:=2) ht)) ?_;refine Zct ?_;exact ⟨.int .i64 3,A,res1 rfl rfl,Dr.sat drqz,rfl,rfl⟩
theorem Store12r_off {A R:SP}{q r lg la lz t m c:Nat}{a:Option Addr}{vs D:List Nat}{f:TF}{s:DevS}(hA:A=R*(pt q (cl [pz r,pz lg,((pz t))] 235)*pt lg (cl [pz r,vn la,vn lz] 233)*RDev r s*pt t (cl [pz q,.slice a m c,.bool false] 263)*Sl 1 (.slice a m c) m (ptrV vs)*RLines vs D f))(ho:s.off=true){p:Int}{n cb:Nat}{b:Option Addr}:
    Fn Tryz.prog 195 #[pz t,.int .i64 p,.slice b n cb] A (λ rr B=>rr= .int .i64 5/\ B=R*((pt q (cl [pz r,pz lg,.pointer none] 235))*(pt lg (cl [pz r,vn la,vn lz] 233))*RDev r s*(pt t (cl [pz q,.slice none 0 0,.bool true] 263)))):=by
  refine Zhm ?_;refine tl_c rfl (o_call bd237 rfl (put12r_off (z:=1) hA ho)) ?_;refine Zct ?_;exact ⟨.int .i64 5,R*((pt q (cl [pz r,pz lg,.pointer none] 235))*(pt lg (cl [pz r,vn la,vn lz] 233))*RDev r s*(pt t (cl [pz q,.slice none 0 0,.bool true] 263))),res1 rfl rfl,(λ g w h=>h.perm (by ac_rfl)),rfl,rfl⟩
theorem Fresh12r_off {A R:SP}{q r lg la lz t m c:Nat}{a:Option Addr}{vs D:List Nat}{f:TF}{s:DevS}(hA:A=R*(pt q (cl [pz r,pz lg,((pz t))] 235)*pt lg (cl [pz r,vn la,vn lz] 233)*RDev r s*pt t (cl [pz q,.slice a m c,.bool false] 263)*Sl 1 (.slice a m c) m (ptrV vs)*RLines vs D f))(ho:s.off=true){p:Int}{n cb:Nat}{b:Option Addr}:
    Fn Tryz.prog 194 #[pz t,.int .i64 p,.slice b n cb] A (λ rr B=>rr= .int .i64 5/\ B=R*((pt q (cl [pz r,pz lg,.pointer none] 235))*(pt lg (cl [pz r,vn la,vn lz] 233))*RDev r s*(pt t (cl [pz q,.slice none 0 0,.bool true] 263)))):=by
  refine Zhn ?_;refine tl_c rfl (o_call bd237 rfl (put12r_off (z:=2) hA ho)) ?_;refine Zct ?_;exact ⟨.int .i64 5,R*((pt q (cl [pz r,pz lg,.pointer none] 235))*(pt lg (cl [pz r,vn la,vn lz] 233))*RDev r s*(pt t (cl [pz q,.slice none 0 0,.bool true] 263))),res1 rfl rfl,(λ g w h=>h.perm (by ac_rfl)),rfl,rfl⟩
theorem StoreOv_c {A:SP}{p t mb:Nat}(ht:Has A t (cl [pz p,.map (some mb),.bool true] 113)){q:Int}{a:Option Addr}{n c:Nat}:
    Fn Tryz.prog 46 #[pz t,.int .i64 q,.slice a n c] A (λ r B=>r= .int .i64 3/\ A=B):=by
  refine Zgb ?_;refine tl_c rfl (o_call bd113 rfl (LayOv_c (fr:=false) (p:=p) (mb:=mb) ht)) ?_;refine Zct ?_;exact ⟨.int .i64 3,A,res1 rfl rfl,Dr.sat drqz,rfl,rfl⟩
theorem FreshOv_c {A:SP}{p t mb:Nat}(ht:Has A t (cl [pz p,.map (some mb),.bool true] 113)){q:Int}{a:Option Addr}{n c:Nat}:
    Fn Tryz.prog 47 #[pz t,.int .i64 q,.slice a n c] A (λ r B=>r= .int .i64 3/\ A=B):=by
  refine Zgc ?_;refine tl_c rfl (o_call bd113 rfl (LayOv_c (fr:=true) (p:=p) (mb:=mb) ht)) ?_;refine Zct ?_;exact ⟨.int .i64 3,A,res1 rfl rfl,Dr.sat drqz,rfl,rfl⟩
theorem StoreF_c {A R:SP}{C:SP->SP}{t p lg d mb at_ sz:Nat}{M:MS}{s:DevS}(hc:Ct A (TxA t p lg d mb at_ sz M false s) R C:=by exact cbqz)(ho:s.off=true){q:Int}{a:Option Addr}{n c:Nat}:
    Fn Tryz.prog 46 #[pz t,.int .i64 q,.slice a n c] A (λ r B=>r= .int .i64 5/\ B=C (TxA t p lg d mb at_ sz M.clr true s)):=by
  refine Zgb ?_;refine tl_c rfl (o_call bd113 rfl (LayF_c (fr:=false) hc ho)) ?_;refine Zct ?_;exact ⟨.int .i64 5,C (TxA t p lg d mb at_ sz M.clr true s),res1 rfl rfl,λ g w h=>h,rfl,rfl⟩
theorem FreshF_c {A R:SP}{C:SP->SP}{t p lg d mb at_ sz:Nat}{M:MS}{s:DevS}(hc:Ct A (TxA t p lg d mb at_ sz M false s) R C:=by exact cbqz)(ho:s.off=true){q:Int}{a:Option Addr}{n c:Nat}:
    Fn Tryz.prog 47 #[pz t,.int .i64 q,.slice a n c] A (λ r B=>r= .int .i64 5/\ B=C (TxA t p lg d mb at_ sz M.clr true s)):=by
  refine Zgc ?_;refine tl_c rfl (o_call bd113 rfl (LayF_c (fr:=true) hc ho)) ?_;refine Zct ?_;exact ⟨.int .i64 5,C (TxA t p lg d mb at_ sz M.clr true s),res1 rfl rfl,λ g w h=>h,rfl,rfl⟩
theorem LoadR_off {A R:SP}{C:SP->SP}{t q r lg la lz:Nat}{f:TF}{s:DevS}(hc:Ct A (TxR t q r lg la lz f s) R C:=by exact cbqz)(ho:s.off=true){p n:Int}:Fn Tryz.prog 226 #[pz t,.int .i64 p,.int .i64 n] A (λ rr B=>rr= .tuple #[.slice none 0 0,.int .i64 5]/\ B=C (TxE t q r lg la lz s)):=by
  obtain ⟨rfl,hC⟩:=hc;exact fn_txr λ a9 m c vs D h1 h2 h3=>(Load12r_off (r:=r) (q:=q) (lg:=lg) (la:=la) (lz:=lz) (f:=f) (s:=s) (R:=R) rfl ho).mono λ v B ⟨h4,h5⟩=>⟨h4,by rw [h5,hC];rfl⟩
theorem StoreR_off {A R:SP}{C:SP->SP}{t q r lg la lz:Nat}{f:TF}{s:DevS}(hc:Ct A (TxR t q r lg la lz f s) R C:=by exact cbqz)(ho:s.off=true){p:Int}{n cb:Nat}{b:Option Addr}:Fn Tryz.prog 195 #[pz t,.int .i64 p,.slice b n cb] A (λ rr B=>rr= .int .i64 5/\ B=C (TxE t q r lg la lz s)):=by
  obtain ⟨rfl,hC⟩:=hc;exact fn_txr λ a9 m c vs D h1 h2 h3=>(Store12r_off (r:=r) (q:=q) (lg:=lg) (la:=la) (lz:=lz) (f:=f) (s:=s) (R:=R) rfl ho).mono λ v B ⟨h4,h5⟩=>⟨h4,by rw [h5,hC];rfl⟩
theorem FreshR_off {A R:SP}{C:SP->SP}{t q r lg la lz:Nat}{f:TF}{s:DevS}(hc:Ct A (TxR t q r lg la lz f s) R C:=by exact cbqz)(ho:s.off=true){p:Int}{n cb:Nat}{b:Option Addr}:Fn Tryz.prog 194 #[pz t,.int .i64 p,.slice b n cb] A (λ rr B=>rr= .int .i64 5/\ B=C (TxE t q r lg la lz s)):=by
  obtain ⟨rfl,hC⟩:=hc;exact fn_txr λ a9 m c vs D h1 h2 h3=>(Fresh12r_off (r:=r) (q:=q) (lg:=lg) (la:=la) (lz:=lz) (f:=f) (s:=s) (R:=R) rfl ho).mono λ v B ⟨h4,h5⟩=>⟨h4,by rw [h5,hC];rfl⟩
theorem CommitR_off {A R:SP}{C:SP->SP}{t q r lg la lz:Nat}{f:TF}{s:DevS}(hc:Ct A (TxR t q r lg la lz f s) R C:=by exact cbqz)(ho:s.off=true):Fn Tryz.prog 186 #[pz t] A (λ rr B=>rr= .int .i64 5/\ B=C (TxE t q r lg la lz s)):=by
  obtain ⟨rfl,hC⟩:=hc;exact fn_txr λ a9 m c vs D h1 h2 h3=>(Commit12r_off (r:=r) (q:=q) (lg:=lg) (la:=la) (lz:=lz) (f:=f) (s:=s) (R:=R) rfl ho).mono λ v B ⟨h4,h5⟩=>⟨h4,by rw [h5,hC];rfl⟩
end Go.Vl

namespace Go.Vl
open Go Go.Proofs Go.Proofs.Tryz
theorem txe_t {A R:SP}{C:SP->SP}{t q r lg la lz:Nat}{s:DevS}(hc:Ct A (TxE t q r lg la lz s) R C):Has A t (cl [pz q,.slice none 0 0,.bool true] 263):=by
  rw [hc.1];unfold TxE
  simp only [←star_assoc]
  exact has_here
theorem lnok_tf0 (N:Nat):LnOk N [] tf0:=⟨List.Pairwise.nil,λ x h=>absurd rfl h,λ d h=>(by cases h),λ d h=>(by cases h)⟩
theorem ExtentsR_c {A R:SP}{C:SP->SP}{t q r lg la lz:Nat}{f:TF}{s:DevS}(hc:Ct A (TxR t q r lg la lz f s) R C:=by exact cbqz)(htop:s.ls.length*64<=4194304:=by omega)(hby:∀a c,f a=some c->c.1<256):
    Fn Tryz.prog 184 #[pz t] A (λ v B=>∃a c,v= .slice a (runsF (s.ls.length*64) false f).length c/\ (runsF (s.ls.length*64) false f).length<=c/\ B=C (TxR t q r lg la lz f s)*Sl 2 (.slice a (runsF (s.ls.length*64) false f).length c) (runsF (s.ls.length*64) false f).length (xcl (extX (runsF (s.ls.length*64) false f)))):=by
  obtain ⟨rfl,hC⟩:=hc;have hPL:=(runP_Fb (n:=s.ls.length*64) (k:=false) hby).len;have hal:=adr_len (s.ls.length*64) false f;refine fn_txr λ a m c vs D h1 h2 h3=> ?_
  rw [show R*(pt q (cl [pz r,pz lg,((pz t))] 235)*pt lg (cl [pz r,vn la,vn lz] 233)*RDev r s*pt t (cl [pz q,.slice a m c,.bool false] 263)*Sl 1 (.slice a m c) m (ptrV vs)*RLines vs D f)=R*pt q (cl [pz r,pz lg,((pz t))] 235)*pt lg (cl [pz r,vn la,vn lz] 233)*RDev r s*pt t (cl [pz q,.slice a m c,.bool false] 263)*Sl 1 (.slice a m c) m (ptrV vs)*RLines vs D f by ac_rfl]
  refine Fn.weak (Extents12r_c (q:=q) (t:=t) (over:=false) (a:=a) (m:=m) (c:=c) (N:=s.ls.length) (vs:=vs) (D:=D) (f:=f) (L:=runsF (s.ls.length*64) false f) hsqz sq3z h1 h2 h3 oqz (λ i h h2' k v e=>rl_cell ctqz oqz h e) rfl oqz) ?_;rintro v B ⟨a2,c2,rfl,g1,rfl⟩;refine ⟨_,λ g w h=> ?_,a2,c2,rfl,g1,rfl⟩;rw [hC]
  have h9:sat g w (R*Sl 2 (.slice a2 (runsF (s.ls.length*64) false f).length c2) (runsF (s.ls.length*64) false f).length (xcl (extX (runsF (s.ls.length*64) false f)))*(pt q (cl [pz r,pz lg,((pz t))] 235)*pt lg (cl [pz r,vn la,vn lz] 233)*RDev r s*pt t (cl [pz q,.slice a m c,.bool false] 263)*Sl 1 (.slice a m c) m (ptrV vs)*RLines vs D f)):=h.perm (by ac_rfl);exact (txr_back h1 h2 h3 g w h9).perm (by ac_rfl)
theorem runs_tf0 (n:Nat)(k:Bool):runsF n k tf0=[]:=by
  unfold runsF
  have:adrF n k tf0=[]:=by
    rw [List.eq_nil_iff_forall_not_mem]
    intro x hx;have h:=(adr_mem.1 hx).2
    unfold isK tf0 at h;simp at h
  rw [this];unfold runsL;rfl
theorem ExtentsE_c {A R:SP}{C:SP->SP}{t q r lg la lz:Nat}{s:DevS}(hc:Ct A (TxE t q r lg la lz s) R C:=by exact cbqz):
    Fn Tryz.prog 184 #[pz t] A (λ v B=>∃a c,v= .slice a 0 c/\ B=A*Sl 2 (.slice a 0 c) 0 []):=by
  have h0:=runs_tf0 (1*64) false;refine (Extents12r_c (q:=q) (t:=t) (over:=true) (a:=none) (m:=0) (c:=0) (N:=1) (vs:=[]) (D:=[]) (f:=tf0) (L:=[]) (txe_t hc) rs_none rfl rfl (lnok_tf0 1) oqz (λ i h=>(by cases h)) h0 (by decide)).mono ?_;rintro v B ⟨a,c,rfl,_,rfl⟩;exact ⟨a,c,rfl,rfl⟩
theorem txr_over {A R:SP}{C:SP->SP}{t q r lg la lz:Nat}{f:TF}{s:DevS}(hc:Ct A (TxR t q r lg la lz f s) R C):Cell A t 2 (.bool false):=λ g w hs=>by
  rw [hc.1] at hs
  obtain ⟨a,m,c,vs,D,_,_,_,h4⟩:=txr_iff.1 hs;have ht:Has (R*pt q (cl [pz r,pz lg,((pz t))] 235)*pt lg (cl [pz r,vn la,vn lz] 233)*RDev r s*pt t (cl [pz q,.slice a m c,.bool false] 263)*Sl 1 (.slice a m c) m (ptrV vs)*RLines vs D f) t (cl [pz q,.slice a m c,.bool false] 263):=(by repeat (first|with_reducible exact has_here|with_reducible exact has_pt|apply has_left));exact cell_of_has ht rfl g w (h4.perm (by ac_rfl))
theorem txe_over {A R:SP}{C:SP->SP}{t q r lg la lz:Nat}{s:DevS}(hc:Ct A (TxE t q r lg la lz s) R C):Cell A t 2 (.bool true):=cell_of_has (txe_t hc) rfl
def TxX (t q r lg la lz:Nat)(x:Option TF)(s:DevS):SP:=match x with
  |none=>TxE t q r lg la lz s
  |some f=>TxR t q r lg la lz f s
def TxP (t p lg d mb at_ sz n:Nat)(x:Option TF)(s:DevS):SP:=λ h=>∃M,(∀f,x=some f->MF M n f)/\ TxA t p lg d mb at_ sz M x.isNone s h
theorem fn_txp {P:Program}{fn:FuncId}{args:Array Value}{Q:Value->SP->Prop}{t p lg d mb at_ sz n:Nat}{x:Option TF}{s:DevS}{R:SP}(h:∀M,(∀f,x=some f->MF M n f)->Fn P fn args (R*TxA t p lg d mb at_ sz M x.isNone s) Q):Fn P fn args (R*TxP t p lg d mb at_ sz n x s) Q:=λ g w hs=>by
  obtain ⟨_,⟨a,b,hd,rfl,ha,M,hM,hb⟩,hx⟩:=hs.hp;exact h M hM g w ⟨hs.os,hs.tape,hs.out,_,⟨a,b,hd,rfl,ha,hb⟩,hx⟩
theorem txp_back {t p lg d mb at_ sz n:Nat}{M:MS}{x:Option TF}{s:DevS}{R:SP}{g:Gh}{w:World}(hM:∀f,x=some f->MF M n f)(hs:sat g w (R*TxA t p lg d mb at_ sz M x.isNone s)):sat g w (R*TxP t p lg d mb at_ sz n x s):=
  hs.mono λ h ⟨a,b,hd,e,ha,hb⟩=>⟨a,b,hd,e,ha,M,hM,hb⟩
theorem nof {M:MS}{n:Nat}:∀f,(none:Option TF)=some f->MF M n f:=λ f h=>by cases h
theorem sof {M:MS}{n:Nat}{f:TF}(h:MF M n f):∀f2,some f=some f2->MF M n f2:=λ f2 h9=>by cases h9;exact h
def eX (x:Option TF)(s:DevS)(z m:Int):Int:=match x with
  |none=>3
  |some _=>if s.off=true then 5 else rdy s.ls.length s.off z m
def oX (x:Option TF)(z:Int)(X:List Nat)(fr:Bool)(s:DevS):Option TF:=match x with
  |none=>none
  |some f=>if s.off=true then none else some (layT f z X fr s)
def lX (x:Option TF)(z m:Int)(s:DevS):List Nat:=match x with
  |none=>[]
  |some f=>if s.off=true then [] else ldT f z m s
def dX (x:Option TF)(s:DevS):Option TF:=if s.off=true then none else x
def rX (n:Nat)(x:Option TF):List (Nat×List Nat):=match x with
  |none=>[]
  |some f=>runsF n false f
def cX (la lz n:Nat)(x:Option TF)(s:DevS):(Int×Option TF)×DevS:=match x with
  |none=>((3,none),s)
  |some f=>if s.off=true then ((5,none),s) else (((comS la lz n f s).1.1,if (comS la lz n f s).1.2=true then none else some f),(comS la lz n f s).2)
section
variable {f:TF} {s:DevS} {z m:Int} {X:List Nat} {fr:Bool} {la lz n:Nat}
theorem eX_off (h:s.off=true):eX (some f) s z m=5:=by unfold eX;simp only [if_pos h]
theorem eX_on (h:s.off=false):eX (some f) s z m=rdy s.ls.length s.off z m:=by unfold eX;simp only [h];rfl
theorem oX_off (h:s.off=true):oX (some f) z X fr s=none:=by unfold oX;simp only [if_pos h]
theorem oX_on (h:s.off=false):oX (some f) z X fr s=some (layT f z X fr s):=by unfold oX;simp only [h];rfl
theorem lX_off (h:s.off=true):lX (some f) z m s=[]:=by unfold lX;simp only [if_pos h]
theorem lX_on (h:s.off=false):lX (some f) z m s=ldT f z m s:=by unfold lX;simp only [h];rfl
theorem dX_off {x:Option TF}(h:s.off=true):dX x s=none:=by unfold dX;rw [if_pos h]
theorem dX_on {x:Option TF}(h:s.off=false):dX x s=x:=by unfold dX;rw [h];rfl
theorem dX_no:dX none s=none:=by unfold dX;split<;>rfl
theorem lX_len {x:Option TF}(hil:(imgS s).length=s.ls.length*64):(lX x z m s).length<=s.ls.length*64:=by
  cases x with
  |none=>exact Nat.zero_le _
  |some f=>cases h:s.off with
    |true=>rw [lX_off h];exact Nat.zero_le _
    |false=>
      rw [lX_on h];unfold ldT;split
      . rw [ovF_len,List.length_take,List.length_drop];omega
      exact Nat.zero_le _
theorem isn_ofX (b:Bool):(if b=true then none else some f).isNone=b:=by cases b<;>rfl
end
theorem mfb_ofX {M:MS}{n:Nat}{f:TF}{b:Bool}(h:MF M n (if b=true then tf0 else f)):∀f2,(if b=true then none else some f)=some f2->MF M n f2:=λ f2 h9=>by
  cases b with
  |true=>simp at h9
  |false=>simp only [Bool.false_eq_true,if_false,Option.some.injEq] at h9 h;subst h9;exact h
theorem txx_ofX {t q r lg la lz:Nat}{f:TF}{s:DevS}(b:Bool):(if b=true then TxE t q r lg la lz s else TxR t q r lg la lz f s)=TxX t q r lg la lz (if b=true then none else some f) s:=by cases b<;>rfl
theorem txx_over {A R:SP}{C:SP->SP}{t q r lg la lz:Nat}{x:Option TF}{s:DevS}(hc:Ct A (TxX t q r lg la lz x s) R C):Cell A t 2 (.bool x.isNone):=by
  cases x with
  |none=>exact txe_over hc
  |some f=>exact txr_over hc
theorem StoreX_p {A R:SP}{C:SP->SP}{t p lg d mb at_ sz n:Nat}{x:Option TF}{s:DevS}(hc:Ct A (TxP t p lg d mb at_ sz n x s) R C:=by exact cbqz)(hn:n=s.ls.length*64:=by omega){z:Int}{m cb:Nat}{b:Option Addr}{X:List Nat}(hz: -9223372036854775808<=z/\ z<=9223372036854775807:=by omega)(hb:Rs R b (bys X):=by exact rbqz)(hXm:X.length=m:=by first|assumption|rfl)(hX8:∀x∈X,x<256:=by assumption)(hm:m<=9223372036854775807:=by omega):
    Fn Tryz.prog 46 #[pz t,.int .i64 z,.slice b m cb] A (λ rr B=>rr= .int .i64 (eX x s z m)/\ B=C (TxP t p lg d mb at_ sz n (oX x z X false s) s)):=by
  obtain ⟨rfl,hC⟩:=hc;refine fn_txp λ M hM=> ?_
  cases x with
  |none=>
    refine Fn.weak (StoreOv_c (p:=p) (mb:=mb) (txa_t ct_here)) ?_;rintro v B ⟨rfl,rfl⟩;exact ⟨_,λ g w h=>by rw [hC];exact txp_back hM h,rfl,rfl⟩
  |some f=>
    cases ho:s.off with
    |true=>
      refine Fn.weak (StoreF_c (hc:=ct_here) ho) ?_;rintro v B ⟨rfl,rfl⟩;rw [eX_off ho,oX_off ho]
      exact ⟨_,λ g w h=>by rw [hC];exact txp_back nof h,rfl,rfl⟩
    |false=>
      refine Fn.weak (StoreP_any (hc:=ct_here) (hM f rfl) hn hz hb hXm hX8 hm ho) ?_;rintro v B ⟨M2,rfl,hM2,rfl⟩;rw [eX_on ho,oX_on ho]
      exact ⟨_,λ g w h=>by rw [hC];exact txp_back (sof hM2) h,rfl,rfl⟩
theorem FreshX_p {A R:SP}{C:SP->SP}{t p lg d mb at_ sz n:Nat}{x:Option TF}{s:DevS}(hc:Ct A (TxP t p lg d mb at_ sz n x s) R C:=by exact cbqz)(hn:n=s.ls.length*64:=by omega){z:Int}{m cb:Nat}{b:Option Addr}{X:List Nat}(hz: -9223372036854775808<=z/\ z<=9223372036854775807:=by omega)(hb:Rs R b (bys X):=by exact rbqz)(hXm:X.length=m:=by first|assumption|rfl)(hX8:∀x∈X,x<256:=by assumption)(hm:m<=9223372036854775807:=by omega):
    Fn Tryz.prog 47 #[pz t,.int .i64 z,.slice b m cb] A (λ rr B=>rr= .int .i64 (eX x s z m)/\ B=C (TxP t p lg d mb at_ sz n (oX x z X true s) s)):=by
  obtain ⟨rfl,hC⟩:=hc;refine fn_txp λ M hM=> ?_
  cases x with
  |none=>
    refine Fn.weak (FreshOv_c (p:=p) (mb:=mb) (txa_t ct_here)) ?_;rintro v B ⟨rfl,rfl⟩;exact ⟨_,λ g w h=>by rw [hC];exact txp_back hM h,rfl,rfl⟩
  |some f=>
    cases ho:s.off with
    |true=>
      refine Fn.weak (FreshF_c (hc:=ct_here) ho) ?_;rintro v B ⟨rfl,rfl⟩;rw [eX_off ho,oX_off ho]
      exact ⟨_,λ g w h=>by rw [hC];exact txp_back nof h,rfl,rfl⟩
    |false=>
      refine Fn.weak (FreshP_any (hc:=ct_here) (hM f rfl) hn hz hb hXm hX8 hm ho) ?_;rintro v B ⟨M2,rfl,hM2,rfl⟩;rw [eX_on ho,oX_on ho]
      exact ⟨_,λ g w h=>by rw [hC];exact txp_back (sof hM2) h,rfl,rfl⟩
theorem StoreX_r {A R:SP}{C:SP->SP}{t q r lg la lz:Nat}{x:Option TF}{s:DevS}(hc:Ct A (TxX t q r lg la lz x s) R C:=by exact cbqz)(htop:s.ls.length*64<=4194304:=by omega){z:Int}{m cb:Nat}{b:Option Addr}{X:List Nat}(hz: -9223372036854775808<=z/\ z<=9223372036854775807:=by omega)(hb:Rs R b (bys X):=by exact rbqz)(hXm:X.length=m:=by first|assumption|rfl)(hm:m<=9223372036854775807:=by omega):
    Fn Tryz.prog 195 #[pz t,.int .i64 z,.slice b m cb] A (λ rr B=>rr= .int .i64 (eX x s z m)/\ B=C (TxX t q r lg la lz (oX x z X false s) s)):=by
  obtain ⟨rfl,hC⟩:=hc
  cases x with
  |none=>
    exact (Store12r_over (txe_t (R:=R) ct_here)).mono λ v B ⟨h1,h2⟩=>⟨h1,by rw [←h2,hC];rfl⟩
  |some f=>
    cases ho:s.off with
    |true=>
      rw [eX_off ho,oX_off ho,hC]
      exact StoreR_off (hc:=ct_here) ho
    |false=>
      rw [eX_on ho,oX_on ho,hC]
      exact StoreR_any (hc:=ct_here) htop hz hb hXm hm ho
theorem FreshX_r {A R:SP}{C:SP->SP}{t q r lg la lz:Nat}{x:Option TF}{s:DevS}(hc:Ct A (TxX t q r lg la lz x s) R C:=by exact cbqz)(htop:s.ls.length*64<=4194304:=by omega){z:Int}{m cb:Nat}{b:Option Addr}{X:List Nat}(hz: -9223372036854775808<=z/\ z<=9223372036854775807:=by omega)(hb:Rs R b (bys X):=by exact rbqz)(hXm:X.length=m:=by first|assumption|rfl)(hm:m<=9223372036854775807:=by omega):
    Fn Tryz.prog 194 #[pz t,.int .i64 z,.slice b m cb] A (λ rr B=>rr= .int .i64 (eX x s z m)/\ B=C (TxX t q r lg la lz (oX x z X true s) s)):=by
  obtain ⟨rfl,hC⟩:=hc
  cases x with
  |none=>
    exact (Fresh12r_over (txe_t (R:=R) ct_here)).mono λ v B ⟨h1,h2⟩=>⟨h1,by rw [←h2,hC];rfl⟩
  |some f=>
    cases ho:s.off with
    |true=>
      rw [eX_off ho,oX_off ho,hC]
      exact FreshR_off (hc:=ct_here) ho
    |false=>
      rw [eX_on ho,oX_on ho,hC]
      exact FreshR_any (hc:=ct_here) htop hz hb hXm hm ho
theorem LoadX_p {A R:SP}{C:SP->SP}{t p lg d mb at_ sz n:Nat}{x:Option TF}{s:DevS}(hc:Ct A (TxP t p lg d mb at_ sz n x s) R C:=by exact cbqz)(hn:n=s.ls.length*64:=by omega){z m:Int}(hz: -9223372036854775808<=z/\ z<=9223372036854775807:=by omega)(hm: -9223372036854775808<=m/\ m<=9223372036854775807:=by omega)(hil:(imgS s).length=s.ls.length*64:=by assumption):
    Fn Tryz.prog 43 #[pz t,.int .i64 z,.int .i64 m] A (λ rr B=>∃a c,rr= .tuple #[.slice a (lX x z m s).length c,.int .i64 (eX x s z m)]/\ (lX x z m s).length<=c/\ B=C (TxP t p lg d mb at_ sz n (dX x s) s)*Sl 1 (.slice a (lX x z m s).length c) (lX x z m s).length (bys (lX x z m s))):=by
  obtain ⟨rfl,hC⟩:=hc;refine fn_txp λ M hM=> ?_
  cases x with
  |none=>
    rw [dX_no]
    refine Fn.weak (LoadOv_c (p:=p) (mb:=mb) (txa_t ct_here)) ?_;rintro v B ⟨rfl,rfl⟩;exact ⟨_,λ g w h=>sl_nil (by rw [hC];exact txp_back hM h),none,0,rfl,Nat.le_refl _,rfl⟩
  |some f=>
    cases ho:s.off with
    |true=>
      rw [dX_off ho,eX_off ho,lX_off ho]
      refine Fn.weak (LoadF_c (hc:=ct_here) ho) ?_;rintro v B ⟨rfl,rfl⟩;exact ⟨_,λ g w h=>sl_nil (by rw [hC];exact txp_back nof h),none,0,rfl,Nat.le_refl _,rfl⟩
    |false=>
      rw [dX_on ho,eX_on ho,lX_on ho]
      refine Fn.weak (ldP_any (hc:=ct_here) (hM f rfl) hn hz hm ho hil) ?_;rintro v B ⟨a,c,rfl,h1,rfl⟩;exact ⟨_,λ g w h=>((txp_back (R:=R*Sl 1 (.slice a (ldT f z m s).length c) (ldT f z m s).length (bys (ldT f z m s))) hM (h.perm (by ac_rfl))).perm (by rw [hC];ac_rfl)),a,c,rfl,h1,rfl⟩
theorem LoadX_r {A R:SP}{C:SP->SP}{t q r lg la lz:Nat}{x:Option TF}{s:DevS}(hc:Ct A (TxX t q r lg la lz x s) R C:=by exact cbqz)(htop:s.ls.length*64<=4194304:=by omega){z m:Int}(hz: -9223372036854775808<=z/\ z<=9223372036854775807:=by omega)(hm: -9223372036854775808<=m/\ m<=9223372036854775807:=by omega)(hil:(imgS s).length=s.ls.length*64:=by assumption):
    Fn Tryz.prog 226 #[pz t,.int .i64 z,.int .i64 m] A (λ rr B=>∃a c,rr= .tuple #[.slice a (lX x z m s).length c,.int .i64 (eX x s z m)]/\ (lX x z m s).length<=c/\ B=C (TxX t q r lg la lz (dX x s) s)*Sl 1 (.slice a (lX x z m s).length c) (lX x z m s).length (bys (lX x z m s))):=by
  obtain ⟨rfl,hC⟩:=hc
  cases x with
  |none=>
    rw [dX_no]
    refine Fn.weak (Load12r_over (txe_t (R:=R) ct_here)) ?_;rintro v B ⟨rfl,rfl⟩;exact ⟨_,λ g w h=>sl_nil (by rw [hC];exact h),none,0,rfl,Nat.le_refl _,rfl⟩
  |some f=>
    cases ho:s.off with
    |true=>
      rw [dX_off ho,eX_off ho,lX_off ho]
      refine Fn.weak (LoadR_off (hc:=ct_here) ho) ?_;rintro v B ⟨rfl,rfl⟩;exact ⟨_,λ g w h=>sl_nil (by rw [hC];exact h),none,0,rfl,Nat.le_refl _,rfl⟩
    |false=>
      rw [dX_on ho,eX_on ho,lX_on ho,hC]
      exact ldR_any (hc:=ct_here) htop hz hm ho hil
theorem CommitX_p {A R:SP}{C:SP->SP}{t p lg d mb at_ sz n:Nat}{x:Option TF}{s:DevS}(hc:Ct A (TxP t p lg d mb at_ sz n x s) R C:=by exact cbqz)(hn:n=s.ls.length*64:=by omega)(hlw:LogW (s.ls.length*64) at_ sz:=by assumption)(hroom:Room (2*n+sz+8) s:=by assumption):
    Fn Tryz.prog 32 #[pz t] A (λ rr B=>∃e x2 s2,cX at_ sz n x s=((e,x2),s2)/\ rr= .int .i64 e/\ B=C (TxP t p lg d mb at_ sz n x2 s2)):=by
  obtain ⟨rfl,hC⟩:=hc;refine fn_txp λ M hM=> ?_
  cases x with
  |none=>
    refine Fn.weak (CommitOv_c (p:=p) (mb:=mb) (txa_t ct_here)) ?_;rintro v B ⟨rfl,rfl⟩;exact ⟨_,λ g w h=>by rw [hC];exact txp_back hM h,3,none,s,rfl,rfl,rfl⟩
  |some f=>
    cases ho:s.off with
    |true=>
      refine Fn.weak (CommitF_c (hc:=ct_here) ho) ?_;rintro v B ⟨rfl,rfl⟩;exact ⟨_,λ g w h=>by rw [hC];exact txp_back nof h,5,none,s,(by unfold cX;simp only [if_pos ho]),rfl,rfl⟩
    |false=>
      refine Fn.weak (Commit12_c (hc:=ct_here) (hM f rfl) hn hlw ho hroom) ?_;rintro v B ⟨e,b,s2,M2,h1,rfl,h2,rfl⟩;exact ⟨_,λ g w h=>by rw [hC];exact txp_back (mfb_ofX h2) (by rw [isn_ofX];exact h),e,_,s2,(by unfold cX;simp only [ho,h1];rfl),rfl,rfl⟩
theorem CommitX_r {A R:SP}{C:SP->SP}{t q r lg la lz:Nat}{x:Option TF}{s:DevS}(hc:Ct A (TxX t q r lg la lz x s) R C:=by exact cbqz)(htop:s.ls.length*64<=4194304:=by omega)(hby:∀f,x=some f->∀a c,f a=some c->c.1<256)(hlw:LogW (s.ls.length*64) la lz:=by assumption)(hroom:Room (2*(s.ls.length*64)+lz+8) s:=by assumption):
    Fn Tryz.prog 186 #[pz t] A (λ rr B=>∃e x2 s2,cX la lz (s.ls.length*64) x s=((e,x2),s2)/\ rr= .int .i64 e/\ B=C (TxX t q r lg la lz x2 s2)):=by
  obtain ⟨rfl,hC⟩:=hc
  cases x with
  |none=>
    exact (Commit12r_over (txe_t (R:=R) ct_here)).mono λ v B ⟨h1,h2⟩=>⟨3,none,s,rfl,h1,by rw [←h2,hC];rfl⟩
  |some f=>
    cases ho:s.off with
    |true=>
      exact (CommitR_off (hc:=ct_here) ho).mono λ v B ⟨h1,h2⟩=>⟨5,none,s,(by unfold cX;simp only [if_pos ho]),h1,by rw [h2,hC];rfl⟩
    |false=>
      refine (CommitR_c (hc:=ct_here) htop (hby f rfl) hlw hroom ho).mono ?_;rintro v B ⟨e,b,s2,h1,rfl,rfl⟩;exact ⟨e,_,s2,(by unfold cX;simp only [ho,h1];rfl),rfl,by rw [hC,txx_ofX]⟩
theorem DropX_p {A R:SP}{C:SP->SP}{t p lg d mb at_ sz n:Nat}{x:Option TF}{s:DevS}(hc:Ct A (TxP t p lg d mb at_ sz n x s) R C:=by exact cbqz):
    Fn Tryz.prog 48 #[pz t] A (λ rr B=>rr= .int .i64 (if x.isNone=true then 3 else 0)/\ B=C (TxP t p lg d mb at_ sz n none s)):=by
  obtain ⟨rfl,hC⟩:=hc;refine fn_txp λ M hM=> ?_
  cases x with
  |none=>
    refine Fn.weak (DropO_c (p:=p) (mb:=mb) (txa_t ct_here)) ?_;rintro v B ⟨rfl,rfl⟩;exact ⟨_,λ g w h=>by rw [hC];exact txp_back hM h,rfl,rfl⟩
  |some f=>
    cases ho:s.off with
    |true=>
      refine Fn.weak (DropT_c (hc:=ct_here)) ?_;rintro v B ⟨rfl,rfl⟩;exact ⟨_,λ g w h=>by rw [hC];exact txp_back nof h,rfl,rfl⟩
    |false=>
      refine Fn.weak (DropT_c (hc:=ct_here)) ?_;rintro v B ⟨rfl,rfl⟩;exact ⟨_,λ g w h=>by rw [hC];exact txp_back nof h,rfl,rfl⟩
theorem DropX_r {A R:SP}{C:SP->SP}{t q r lg la lz:Nat}{x:Option TF}{s:DevS}(hc:Ct A (TxX t q r lg la lz x s) R C:=by exact cbqz)(htop:s.ls.length*64<=4194304:=by omega):
    Fn Tryz.prog 187 #[pz t] A (λ rr B=>rr= .int .i64 (if x.isNone=true then 3 else 0)/\ B=C (TxX t q r lg la lz none s)):=by
  obtain ⟨rfl,hC⟩:=hc
  cases x with
  |none=>
    exact (Drop12r_over (txe_t (R:=R) ct_here)).mono λ v B ⟨h1,h2⟩=>⟨h1,by rw [←h2,hC];rfl⟩
  |some f=>
    cases ho:s.off with
    |true=>
      rw [hC]
      exact DropR_c (hc:=ct_here) htop
    |false=>
      rw [hC]
      exact DropR_c (hc:=ct_here) htop
theorem ExtentsX_p {A R:SP}{C:SP->SP}{t p lg d mb at_ sz n:Nat}{x:Option TF}{s:DevS}(hc:Ct A (TxP t p lg d mb at_ sz n x s) R C:=by exact cbqz)(hn:n<=4194304:=by omega)(hLl:(rX n x).length<=4194304):
    Fn Tryz.prog 49 #[pz t] A (λ rr B=>∃a c,rr= .slice a (rX n x).length c/\ (rX n x).length<=c/\ B=R*TxP t p lg d mb at_ sz n x s*Sl 2 (.slice a (rX n x).length c) (rX n x).length (xcl (extX (rX n x)))):=by
  obtain ⟨rfl,hC⟩:=hc;refine fn_txp λ M hM=> ?_
  cases x with
  |none=>
    refine Fn.weak (ExtentsOv_c (p:=p) (mb:=mb) (txa_t ct_here)) ?_;rintro v B ⟨rfl,rfl⟩;exact ⟨_,λ g w h=>sl_nil (txp_back hM h),none,0,rfl,Nat.le_refl _,by show _=_*Sl 2 (.slice none 0 0) 0 (xcl []);rw [xcl_nil]⟩
  |some f=>
    cases ho:s.off with
    |true=>
      refine Fn.weak (Extents12_c (txa_t ct_here) (txa_mb ct_here) (hM f rfl) hn rfl hLl) ?_;rintro v B ⟨a,c,rfl,h1,rfl⟩;exact ⟨_,λ g w h=>(txp_back (R:=R*Sl 2 (.slice a (runsF n false f).length c) (runsF n false f).length (xcl (extX (runsF n false f)))) hM (h.perm (by ac_rfl))).perm (by ac_rfl),a,c,rfl,h1,rfl⟩
    |false=>
      refine Fn.weak (Extents12_c (txa_t ct_here) (txa_mb ct_here) (hM f rfl) hn rfl hLl) ?_;rintro v B ⟨a,c,rfl,h1,rfl⟩;exact ⟨_,λ g w h=>(txp_back (R:=R*Sl 2 (.slice a (runsF n false f).length c) (runsF n false f).length (xcl (extX (runsF n false f)))) hM (h.perm (by ac_rfl))).perm (by ac_rfl),a,c,rfl,h1,rfl⟩
theorem ExtentsX_r {A R:SP}{C:SP->SP}{t q r lg la lz:Nat}{x:Option TF}{s:DevS}(hc:Ct A (TxX t q r lg la lz x s) R C:=by exact cbqz)(htop:s.ls.length*64<=4194304:=by omega)(hby:∀f,x=some f->∀a c,f a=some c->c.1<256):
    Fn Tryz.prog 184 #[pz t] A (λ rr B=>∃a c,rr= .slice a (rX (s.ls.length*64) x).length c/\ (rX (s.ls.length*64) x).length<=c/\ B=R*TxX t q r lg la lz x s*Sl 2 (.slice a (rX (s.ls.length*64) x).length c) (rX (s.ls.length*64) x).length (xcl (extX (rX (s.ls.length*64) x)))):=by
  obtain ⟨rfl,hC⟩:=hc
  cases x with
  |none=>
    refine (ExtentsE_c (hc:=ct_here)).mono ?_;rintro v B ⟨a,c,rfl,rfl⟩;exact ⟨a,c,rfl,Nat.zero_le _,by show _=_*Sl 2 (.slice a 0 c) 0 (xcl []);rw [xcl_nil];rfl⟩
  |some f=>
    cases ho:s.off with
    |true=>
      exact ExtentsR_c (hc:=ct_here) htop (hby f rfl)
    |false=>
      exact ExtentsR_c (hc:=ct_here) htop (hby f rfl)
def op12 (kn p n:Int)(ba:Option Addr)(bn bc:Nat)(ka:Option Addr)(kl kc:Nat):List Value:=[.int .i64 kn,.int .i64 p,.int .i64 n,.slice ba bn bc,.slice ka kl kc]
theorem parts_p2 {v w:Value}{x y:List Nat}:Parts [v,w] [x,y]=Sl 1 v x.length (bys x)*Sl 1 w y.length (bys y):=by
  show Parts ([v]++[w]) ([x]++[y])=_
  rw [parts_snoc rfl]
  show Parts ([]++[v]) ([]++[x])*_=_
  rw [parts_snoc rfl,show Parts [] []=emp by unfold Parts;rfl,star_comm emp,star_emp]
section
variable {kn p n:Int} {ba ka:Option Addr} {bn bc kl kc:Nat}
theorem op12_c:(Value.agg (op12 kn p n ba bn bc ka kl kc).toArray).cells=(op12 kn p n ba bn bc ka kl kc).toArray:=by unfold op12;rfl
theorem op12_0:(op12 kn p n ba bn bc ka kl kc)[0]? =some (.int .i64 kn):=by unfold op12;rfl
theorem op12_1:(op12 kn p n ba bn bc ka kl kc)[1]? =some (.int .i64 p):=by unfold op12;rfl
theorem op12_2:(op12 kn p n ba bn bc ka kl kc)[2]? =some (.int .i64 n):=by unfold op12;rfl
theorem op12_3:(op12 kn p n ba bn bc ka kl kc)[3]? =some (.slice ba bn bc):=by unfold op12;rfl
theorem op12_4:(op12 kn p n ba bn bc ka kl kc)[4]? =some (.slice ka kl kc):=by unfold op12;rfl
theorem op12_len:(op12 kn p n ba bn bc ka kl kc).length=5:=by unfold op12;rfl
end
theorem dX_live {x:Option TF}{s:DevS}(h:(dX x s).isNone=false):dX x s=x:=by
  cases ho:s.off with
  |true=>rw [dX_off ho] at h;simp at h
  |false=>exact dX_on ho
def x5a (x:Nat):Nat:=(IntKind.u8.wrap ((BitVec.ofInt IntKind.u8.bits (x:Int)^^^BitVec.ofInt IntKind.u8.bits 90).toNat:Int)).toNat
attribute [local irreducible] crk crL crc Sl pt ro Dev imgS recS readS recsF rdW rdO rkT Parts rvl recordsS runsL adrF kcl xcl kys runA runsF layF ovF TxA adZ WkA SlB blkS conB imF RDev lineC RLines TxR TxE ldT TxP TxX op12 eX oX lX dX rX cX
theorem Zfq {p r:Prop}(k:r)(h:Kq r->p:=by intro k;refine sr ?_;refine tl_x rfl (o_box rfl op12_c) ?_;exact k.o):p:=h ⟨k⟩
theorem Zcn {p r:Prop}(k:r)(h:Kq r->p:=by intro k;refine tm 2 rfl kqz rfl (o_fieldAddr (o:=2) underlying127 rfl rfl sz62 rfl) ?_;refine tm 3 rfl kqz rfl (o_load p62 rfl hsqz rfl) ?_;exact k.o):p:=h ⟨k⟩
theorem Zbf {p r:Prop}(k:r)(h:Kq r->p:=by intro k;refine tm 4 rfl kqz rfl (o_fieldAddr (o:=1) underlying116 rfl rfl sz3 rfl) ?_;refine tm 5 rfl kqz rfl (o_load p3 rfl hsqz op12_1) ?_;exact k.o):p:=h ⟨k⟩
theorem Zjn {p r:Prop}(k:r)(h:Kq r->p:=by intro k;refine tm 6 rfl kqz rfl (o_fieldAddr (o:=2) underlying116 rfl rfl sz3 rfl) ?_;refine tm 7 rfl kqz rfl (o_load p3 rfl hsqz op12_2) ?_;refine th_one (i:=8) kqz ?_;exact k.o):p:=h ⟨k⟩
theorem Zf4 {p r:Prop}(k:r)(h:Kq r->p:=by intro k;refine tm 2 rfl kqz rfl (o_fieldAddr (o:=5) underlying127 rfl rfl sz125 rfl) ?_;refine tm 3 rfl kqz rfl (o_load p125 rfl hsqz rfl) ?_;exact k.o):p:=h ⟨k⟩
theorem Zlo {p r:Prop}(k:r)(h:Kq r->p:=by intro k;refine tv (o_fieldAddr (o:=5) underlying127 rfl rfl sz125 rfl) ?_;refine tv (o_load p125 rfl hsqz rfl) ?_;exact k.o):p:=h ⟨k⟩
theorem lload_c {A F:SP}{lf d pp tp r q tr lg rl mb:Nat}{x:Option TF}{s:DevS}(hA:A=F*pt lf (cl [pz d,pz pp,pz tp,pz r,pz q,pz tr] 127)*TxP tp pp lg d mb 128 576 1024 x s*TxX tr q r rl 128 576 x s)(hls:s.ls.length=16)(hwf:WfD s){kn p n:Int}{ba ka:Option Addr}{bn bc kl kc:Nat}(hp: -9223372036854775808<=p/\ p<=9223372036854775807)(hn: -9223372036854775808<=n/\ n<=9223372036854775807):
    Fn Tryz.prog 182 #[pz lf,.agg (op12 kn p n ba bn bc ka kl kc).toArray] A (λ rr B=>rr= .bool true/\ B=F*pt lf (cl [pz d,pz pp,pz tp,pz r,pz q,pz tr] 127)*TxP tp pp lg d mb 128 576 1024 (dX x s) s*TxX tr q r rl 128 576 (dX x s) s):=by
  refine fn_enterW func182 rfl ntmps182 (by simp) ?_;subst hA;have hil:=imgS_len hwf;have hll:=lX_len (x:=x) (z:=p) (m:=n) hil;refine Zfq ?_;rintro _ _ ⟨b3,rfl,rfl⟩;refine Zes ?_
  -- path 
  refine q_then_n ?_;refine tc_seq ?_;refine tc_regh (S:=F*pt lf (cl [pz d,pz pp,pz tp,pz r,pz q,pz tr] 127)*pt b3 (cl (op12 kn p n ba bn bc ka kl kc) 116)) mo drqz ?_
  show TH _ _ _ _ _ 14 (Array.replicate 14 false) _ _
  refine Zq ?_;refine Zcn ?_;refine Zbf ?_;refine Zjn ?_;refine oh_c rfl rfl rfl (o_call bd43 rfl (LoadX_p (x:=x) (z:=p) (m:=n) (s:=s))) ?_;rintro _ _ ⟨a20,c20,rfl,hc20,rfl⟩;refine Zdb ?_;refine Zlk ?_;refine th_done kqz ?_
  -- path 
  refine q_then_n ?_;refine tc_seq ?_;refine tc_regh (S:=F*pt lf (cl [pz d,pz pp,pz tp,pz r,pz q,pz tr] 127)*pt b3 (cl (op12 kn p n ba bn bc ka kl kc) 116)) mo drqz ?_
  show TH _ _ _ _ _ 14 (Array.replicate 14 false) _ _
  refine Zq ?_;refine Zf4 ?_;refine Zbf ?_;refine Zjn ?_;refine oh_c rfl rfl rfl (o_call bd226 rfl (LoadX_r (x:=x) (z:=p) (m:=n) (s:=s))) ?_;rintro _ _ ⟨a32,c32,rfl,hc32,rfl⟩;refine Zdb ?_;refine Zlk ?_;refine th_done kqz ?_
  -- path 
  refine q_then_n ?_;refine Zed ?_;refine tv (o_nei rfl rfl) ?_;refine tl_env (d:=37) (v:= .bool false) (by show Value.bool (decide (_≠_))=_;simp) ?_;refine tlm ?_;refine tl_bool (d:=38) rfl dbq (sbq ?_);intro h;refine Z2 ?_;refine tl_c rfl (o_call bd60 rfl (EqBytes_c (xs:=(lX x p n s)) (ys:=(lX x p n s)))) ?_;refine Zbi ?_;refine tv (o_pick_f rfl wqz) ?_;refine tl_nil ?_
  -- path f
  refine q_then_n ?_;refine tc_cond rfl dbq (sbq ?_);intro h;refine tc_skip ?_
  -- path ff
  refine q_then_n ?_;refine Zb2 ?_;refine Zlo ?_;refine tv (o_nilCheck rfl) ?_;refine tv (o_fieldAddr (o:=2) underlying263 rfl rfl sz4 rfl) ?_;refine tv (o_loadC p4 rfl (by repeat (first|exact txx_over ct_here|exact txx_over (ct_left ct_here)|exact txx_over (ct_left (ct_left ct_here))|apply Cell.left))) ?_;refine tl_nil ?_
  -- path ff
  refine q_then_n ?_;refine tc_cond rfl (sbq ?_) (λ h=> ?_)
  . intro h;refine sr ?_;refine Zes ?_
    -- path fft
    refine q_then_n ?_;refine tc_ret ?_
    -- path fft
    refine q_then_r ?_;exact ⟨.bool true,F*pt lf (cl [pz d,pz pp,pz tp,pz r,pz q,pz tr] 127)*TxP tp pp lg d mb 128 576 1024 (dX x s) s*TxX tr q r rl 128 576 (dX x s) s,res1 rfl rfl,Dr.sat drqz,rfl,rfl⟩
  have hdx:=dX_live (x:=x) (s:=s) (by first|exact h|simpa using h);rw [hdx]
  refine tc_skip ?_
  -- path fff
  refine q_then_n ?_;refine tc_seq ?_;refine tc_regh (S:=F*pt lf (cl [pz d,pz pp,pz tp,pz r,pz q,pz tr] 127)*pt b3 (cl (op12 kn p n ba bn bc ka kl kc) 116)) mo drqz ?_
  show TH _ _ _ _ _ 14 (Array.replicate 14 false) _ _
  refine Zq ?_;refine Zcn ?_;refine Zbf ?_;refine Zjn ?_;refine oh_c rfl rfl rfl (o_call bd43 rfl (LoadX_p (x:=x) (z:=p) (m:=n) (s:=s))) ?_;rintro _ _ ⟨a60,c60,rfl,hc60,rfl⟩;refine ⟨by repeat (first|with_reducible exact dr_refl|apply dr_keep|apply dr_drop), ?_⟩;rw [hdx]
  refine tm 9 rfl kqz rfl (o_move wqz) ?_;refine Zlk ?_;refine th_done kqz ?_
  -- path fff
  refine q_then_n ?_;refine Zb7 ?_;refine tv (o_eqi rfl rfl) ?_;refine tl_env (d:=65) (v:= .bool true) (congrArg Value.bool (decide_eq_true oqz)) ?_;refine tlm ?_;refine tl_bool (d:=66) rfl (sbq ?_) dbq;intro h;refine Z2 ?_;refine tl_c rfl (o_call bd60 rfl (EqBytes_c (xs:=(lX x p n s)) (ys:=(lX x p n s)))) ?_;rintro _ _ ⟨rfl,rfl⟩;refine Z7 ?_;refine tl_bool (d:=71) rfl (sbq ?_) dbq;intro h;refine Z2 ?_;refine tl_x rfl (o_buildSliceL (vs:=[.slice a20 (lX x p n s).length c20,.slice a60 (lX x p n s).length c60]) (l:=[.slice a20 (lX x p n s).length c20,.slice a60 (lX x p n s).length c60]) underlying41 sz57 z57 rfl rfl (by decide) (by decide) (by simp [Value.cells]) rfl) ?_;rintro _ _ ⟨b74,rfl,rfl⟩;refine tl_pre (A':=F*pt lf (cl [pz d,pz pp,pz tp,pz r,pz q,pz tr] 127)*TxP tp pp lg d mb 128 576 1024 x s*TxX tr q r rl 128 576 x s*pt b3 (cl (op12 kn p n ba bn bc ka kl kc) 116)*Sl 1 (.slice a32 (lX x p n s).length c32) (lX x p n s).length (bys (lX x p n s))*Parts [.slice a20 (lX x p n s).length c20,.slice a60 (lX x p n s).length c60] [(lX x p n s),(lX x p n s)]*Sl 1 (.slice (some ⟨b74,0,none⟩) 2 2) 2 [.slice a20 (lX x p n s).length c20,.slice a60 (lX x p n s).length c60]) (λ g w h=>(sl_new (k:=1) (n:=2) (cap:=2) (xs:=[.slice a20 (lX x p n s).length c20,.slice a60 (lX x p n s).length c60]) h (by decide) (Nat.le_refl _) rfl).perm (by rw [parts_p2];ac_rfl)) ?_;refine tl_c rfl (o_call bd227 rfl (Apart_c [(lX x p n s),(lX x p n s)] rfl (by decide) (λ l hl=>by simp only [List.mem_cons,List.not_mem_nil,or_false] at hl;rcases hl with rfl|rfl<;>omega))) ?_;rintro _ _ ⟨rfl,rfl⟩;refine tv (o_pick_t rfl wqz) ?_;refine Zes ?_
  -- path ffftt
  refine q_then_n ?_;refine tc_ret ?_
  -- path ffftt
  exact ⟨.bool true,F*pt lf (cl [pz d,pz pp,pz tp,pz r,pz q,pz tr] 127)*TxP tp pp lg d mb 128 576 1024 x s*TxX tr q r rl 128 576 x s,res1 rfl rfl,Dr.sat drqz,rfl,rfl⟩
theorem Zle {p r:Prop}(k:r)(h:Kq r->p:=by intro k;refine tv (o_fieldAddr (o:=3) underlying116 rfl rfl sz57 rfl) ?_;refine tv (o_load p57 rfl hsqz op12_3) ?_;exact k.o):p:=h ⟨k⟩
theorem Zdc {p r:Prop}(k:r)(h:Kq r->p:=by intro k;refine tv (o_fieldAddr (o:=0) underlying116 rfl rfl sz3 rfl) ?_;refine tv (o_load p3 rfl hsqz op12_0) ?_;exact k.o):p:=h ⟨k⟩
theorem Zf3 {p r:Prop}(k:r)(h:Kq r->p:=by intro k;refine tm 6 rfl kqz rfl (o_fieldAddr (o:=3) underlying116 rfl rfl sz57 rfl) ?_;refine tm 7 rfl kqz rfl (o_load p57 rfl hsqz op12_3) ?_;exact k.o):p:=h ⟨k⟩
theorem lput_c {A F:SP}{lf d pp tp r q tr lg rl mb:Nat}{x:Option TF}{s:DevS}(hA:A=F*pt lf (cl [pz d,pz pp,pz tp,pz r,pz q,pz tr] 127)*TxP tp pp lg d mb 128 576 1024 x s*TxX tr q r rl 128 576 x s)(hls:s.ls.length=16)(hwf:WfD s){kn p n:Int}{ba ka:Option Addr}{bn bc kl kc:Nat}(hp: -9223372036854775808<=p/\ p<=9223372036854775807)(hn: -9223372036854775808<=n/\ n<=9223372036854775807){X:List Nat}(hbx:Rs F ba (bys X))(hXn:X.length=bn)(hX8:∀x∈X,x<256)(hbn:bn<=1048576):
    Fn Tryz.prog 183 #[pz lf,.agg (op12 kn p n ba bn bc ka kl kc).toArray] A (λ rr B=>∃fr,rr= .bool true/\ B=F*pt lf (cl [pz d,pz pp,pz tp,pz r,pz q,pz tr] 127)*TxP tp pp lg d mb 128 576 1024 (oX x p X fr s) s*TxX tr q r rl 128 576 (oX x p X fr s) s):=by
  refine fn_enterW func183 rfl ntmps183 (by simp) ?_;subst hA;have hil:=imgS_len hwf;have hll:=lX_len (x:=x) (z:=p) (m:=n) hil;refine Zfq ?_;rintro _ _ ⟨b3,rfl,rfl⟩;refine Zes ?_
  -- path 
  refine q_then_n ?_;refine sr ?_;refine Zle ?_;refine tl_c rfl (o_call bd228 rfl (Spare_c (xs:=X) (hr:=(by repeat (first|exact hbx|apply Rs.left))) (hm:=hXn))) ?_;rintro _ _ ⟨a11,rfl,rfl⟩;refine Zes ?_
  -- path 
  refine q_then_n ?_;refine Zk1 ?_;refine Zes ?_
  -- path 
  refine q_then_n ?_;refine Ze8 ?_;refine Zdc ?_;refine tv (o_eqi rfl rfl) ?_;refine tl_nil ?_
  -- path 
  refine q_then_n ?_;refine tc_cut (λ ρ BB=>∃ (fr:Bool),ρ 6= .int .i64 (eX x s p bn)/\ ρ 7= .int .i64 (eX x s p bn)/\ ρ 3=(pz b3)/\ ρ 5= .slice a11 bn (bn+80)/\ Dr BB (F*pt lf (cl [pz d,pz pp,pz tp,pz r,pz q,pz tr] 127)*TxP tp pp lg d mb 128 576 1024 (oX x p X fr s) s*TxX tr q r rl 128 576 (oX x p X fr s) s*pt b3 (cl (op12 kn p n ba bn bc ka kl kc) 116)*Sl 1 (.slice a11 (bn+80) (bn+80)) (bn+80) (bys (X++spm bn)))) ?_ ?_
  . skip
    refine tc_cond rfl (sbq ?_) (sbq ?_)
    . intro h;refine tc_seq ?_;refine tc_regh (S:=F*pt lf (cl [pz d,pz pp,pz tp,pz r,pz q,pz tr] 127)*pt b3 (cl (op12 kn p n ba bn bc ka kl kc) 116)*Sl 1 (.slice a11 (bn+80) (bn+80)) (bn+80) (bys (X++spm bn))) mo drqz ?_
      show TH _ _ _ _ _ 9 (Array.replicate 9 false) _ _
      refine Zq ?_;refine Zcn ?_;refine Zbf ?_;refine Zkm ?_;refine oh_c rfl rfl rfl (o_call bd46 rfl (StoreX_p (x:=x) (z:=p) (X:=X) (m:=bn) (s:=s) (hb:=(rs_pre (ys:=spm bn) sq3z)))) ?_;refine Zt ?_;refine tm 8 rfl kqz rfl (o_assign wqz) ?_;refine th_done kqz ?_
      -- path t
      refine q_then_n ?_;refine tc_regh (S:=F*pt lf (cl [pz d,pz pp,pz tp,pz r,pz q,pz tr] 127)*pt b3 (cl (op12 kn p n ba bn bc ka kl kc) 116)*Sl 1 (.slice a11 (bn+80) (bn+80)) (bn+80) (bys (X++spm bn))) mo drqz ?_
      show TH _ _ _ _ _ 10 (Array.replicate 10 false) _ _
      refine Zq ?_;refine Zf4 ?_;refine Zbf ?_;refine Zf3 ?_;refine th_one (i:=8) kqz ?_;refine oh_c rfl rfl rfl (o_call bd195 rfl (StoreX_r (x:=x) (z:=p) (X:=X) (m:=bn) (s:=s) (hb:=(by repeat (first|exact hbx|apply Rs.left))))) ?_;refine Zt ?_;refine tm 9 rfl kqz rfl (o_assign wqz) ?_;refine th_done kqz ?_
      -- path t
      exact ⟨false,rfl,rfl,rfl,rfl,drqz⟩
    intro h;refine tc_seq ?_;refine tc_regh (S:=F*pt lf (cl [pz d,pz pp,pz tp,pz r,pz q,pz tr] 127)*pt b3 (cl (op12 kn p n ba bn bc ka kl kc) 116)*Sl 1 (.slice a11 (bn+80) (bn+80)) (bn+80) (bys (X++spm bn))) mo drqz ?_
    show TH _ _ _ _ _ 9 (Array.replicate 9 false) _ _
    refine Zq ?_;refine Zcn ?_;refine Zbf ?_;refine Zkm ?_;refine oh_c rfl rfl rfl (o_call bd47 rfl (FreshX_p (x:=x) (z:=p) (X:=X) (m:=bn) (s:=s) (hb:=(rs_pre (ys:=spm bn) sq3z)))) ?_;refine Zt ?_;refine tm 8 rfl kqz rfl (o_assign wqz) ?_;refine th_done kqz ?_
    -- path f
    refine q_then_n ?_;refine tc_regh (S:=F*pt lf (cl [pz d,pz pp,pz tp,pz r,pz q,pz tr] 127)*pt b3 (cl (op12 kn p n ba bn bc ka kl kc) 116)*Sl 1 (.slice a11 (bn+80) (bn+80)) (bn+80) (bys (X++spm bn))) mo drqz ?_
    show TH _ _ _ _ _ 10 (Array.replicate 10 false) _ _
    refine Zq ?_;refine Zf4 ?_;refine Zbf ?_;refine Zf3 ?_;refine th_one (i:=8) kqz ?_;refine oh_c rfl rfl rfl (o_call bd194 rfl (FreshX_r (x:=x) (z:=p) (X:=X) (m:=bn) (s:=s) (hb:=(by repeat (first|exact hbx|apply Rs.left))))) ?_;refine Zt ?_;refine tm 9 rfl kqz rfl (o_assign wqz) ?_;refine th_done kqz ?_
    -- path f
    exact ⟨true,rfl,rfl,rfl,rfl,drqz⟩
  intro ρ B hI;obtain ⟨fr,hE6,hE7,hE3,hE5,hBA⟩:=hI
  -- path j
  refine q_then_n ?_;refine tc_pre hBA.sat ?_;clear hBA;refine te 6 hE6 ?_;refine te 7 hE7 ?_;refine te 3 hE3 ?_;refine te 5 hE5 ?_;refine Zed ?_;refine tv (o_nei rfl rfl) ?_;refine tl_env (d:=51) (v:= .bool false) (by show Value.bool (decide (_≠_))=_;simp) ?_;refine tlm ?_;refine tl_bool (d:=52) rfl dbq (sbq ?_);intro h;refine tlm ?_;refine Zle ?_;refine tl_c rfl (o_call bd229 rfl (Kept_c (xs:=X) (hr:=by repeat (first|with_reducible exact rs_sl|apply Rs.left)) (hr2:=(by repeat (first|exact hbx|apply Rs.left))) (hm:=hXn))) ?_;refine Zbi ?_;refine tv (o_pick_f rfl wqz) ?_;refine tl_nil ?_
  -- path jf
  refine q_then_n ?_;refine tc_cond rfl dbq (sbq ?_);intro h;refine tc_skip ?_
  -- path jff
  refine q_then_n ?_;refine Ze8 ?_;refine Zes ?_
  -- path jff
  refine q_then_n ?_;refine tc_block ?_;refine tc_loop (λ kk ρ BB=>∃ (i:Nat) (ys:List Nat),(i<=bn)/\ (ys.length=bn+80)/\ kk=bn-i/\ ρ 8=(vn i)/\ ρ 5= .slice a11 bn (bn+80)/\ Dr BB (F*pt lf (cl [pz d,pz pp,pz tp,pz r,pz q,pz tr] 127)*TxP tp pp lg d mb 128 576 1024 (oX x p X fr s) s*TxX tr q r rl 128 576 (oX x p X fr s) s*pt b3 (cl (op12 kn p n ba bn bc ka kl kc) 116)*Sl 1 (.slice a11 (bn+80) (bn+80)) (bn+80) (bys ys))) (m:=bn-(0)) ?_ ?_
  . exact ⟨0,X++spm bn,by omega,by rw [List.length_append,spm_len,hXn],rfl,rfl,rfl,drqz⟩
  intro k ρ B hI;obtain ⟨i,ys,hp0,hp1,hkk1,hE8,hE5,hBA⟩:=hI;refine tc_pre hBA.sat ?_;clear hBA;refine te 8 hE8 ?_;refine te 5 hE5 ?_;refine Zjc ?_;refine tv (o_lss rfl rfl) ?_;refine tl_nil ?_
  -- path jff
  refine q_then_n ?_;refine tc_cond rfl (λ h=> ?_) (sbq ?_)
  . have hib:i<bn:=(by first|(have h9:=of_decide_eq_true h;omega)|(simp at h;omega));have hi:i<ys.length:=(by omega);refine tc_skip ?_
    -- path jfft
    refine q_then_n ?_;refine Zp ?_;refine Zh2 ?_;refine tlm ?_;refine tv (o_ixP1 (a:=a11) underlying57 sz5 rfl rfl oqz (nn_rs (xs:=bys ys) sq3z (by rw [bys_length];omega))) ?_;refine tv (o_ldP (a:=a11) (xs:=bys ys) p5 rfl sq3z (bys_at hi)) ?_;refine tv (o_xor rfl rfl) ?_;refine tv (o_ixP1 (a:=a11) underlying57 sz5 rfl rfl oqz (nn_rs (xs:=bys ys) sq3z (by rw [bys_length];omega))) ?_;refine tl_u rfl (o_stP sz5 rfl rfl rfl ctqz oqz (by first|exact bys_set _ _ _|exact ints_set _ _ _|exact wds_set' _ _ _|exact bos_set _ _ _|rfl)) ?_;refine tl_nil ?_
    -- path jfft
    refine q_block_n (q_then_n ?_);refine Zbc ?_;refine Zes ?_
    -- path jfft
    refine q_then_n ?_;exact ⟨_,by omega,i+1,ys.set i (x5a ys[i]),by omega,by rw [List.length_set];exact hp1,rfl,rfl,rfl,drqz⟩
  intro h;refine tc_exit ?_
  -- path jfff
  refine q_then_e (q_then_e (q_block_x (q_then_n ?_)));refine sr ?_;refine Zes ?_
  -- path jfff
  refine q_then_n ?_;refine tc_ret ?_
  -- path jfff
  exact ⟨.bool true,F*pt lf (cl [pz d,pz pp,pz tp,pz r,pz q,pz tr] 127)*TxP tp pp lg d mb 128 576 1024 (oX x p X fr s) s*TxX tr q r rl 128 576 (oX x p X fr s) s,res1 rfl rfl,Dr.sat drqz,fr,rfl,rfl⟩
end Go.Vl

namespace Go.Vl
open Go Go.Proofs Go.Proofs.Tryz
theorem byX {M:MS}{n:Nat}{x:Option TF}(hM:∀f,x=some f->MF M n f):∀f,x=some f->∀a c,f a=some c->c.1<256:=λ f h a c h2=>(hM f h).by_ a c h2
theorem txp_by {t p lg d mb at_ sz n:Nat}{x:Option TF}{s:DevS}{A R:SP}{C:SP->SP}(hc:Ct A (TxP t p lg d mb at_ sz n x s) R C){g:Gh}{w:World}(hs:sat g w A):∀f,x=some f->∀a c,f a=some c->c.1<256:=by
  rw [hc.1] at hs
  obtain ⟨_,⟨a,b,hd,rfl,ha,M,hM,hb⟩,hx⟩:=hs.hp;exact byX hM
theorem rX_len {n:Nat}{x:Option TF}(h:∀f,x=some f->∀a c,f a=some c->c.1<256):(rX n x).length<=n:=by
  cases x with
  |none=>exact Nat.zero_le _
  |some f=>
    have h1:=(runP_Fb (n:=n) (k:=false) (h f rfl)).len;have h2:=adr_len n false f
    show (runsF n false f).length<=n
    omega
theorem cX_gd {k:Nat}{x x2:Option TF}{s s2:DevS}{e:Int}(hg:Gd s.ls.length (2*(s.ls.length*64)+584+k) s)(hby:∀f,x=some f->∀a c,f a=some c->c.1<256)(htop:s.ls.length*64<=4194304)(h:cX 128 576 (s.ls.length*64) x s=((e,x2),s2)):Gd s.ls.length k s2:=by
  cases x with
  |none=>unfold cX at h;simp only [Prod.mk.injEq] at h;obtain ⟨_,rfl⟩:=h;exact hg.le oqz
  |some f=>
    unfold cX at h
    cases ho:s.off with
    |true=>simp only [ho,if_true,Prod.mk.injEq] at h;obtain ⟨_,rfl⟩:=h;exact hg.le oqz
    |false=>
      simp only [ho,Bool.false_eq_true,if_false,Prod.mk.injEq] at h
      obtain ⟨_,rfl⟩:=h;exact com_gd (e:=(comS 128 576 (s.ls.length*64) f s).1.1) (b:=(comS 128 576 (s.ls.length*64) f s).1.2) hg (hby f rfl) htop rfl
attribute [local irreducible] crk crL crc Sl pt ro Dev imgS recS readS recsF rdW rdO rkT Parts rvl recordsS runsL adrF kcl xcl kys runA runsF layF ovF TxA adZ WkA SlB blkS conB imF RDev lineC RLines TxR TxE ldT TxP TxX op12 eX oX lX dX rX cX
theorem Zfd {p r:Prop}(k:r)(h:Kq r->p:=by intro k;refine tv (o_fieldAddr (o:=2) underlying127 rfl rfl sz62 rfl) ?_;refine tv (o_load p62 rfl hsqz rfl) ?_;exact k.o):p:=h ⟨k⟩
theorem lin_nil {A F:SP}{lf:Nat}{dv pv rv qv u:Value}(hA:A=F*pt lf (cl [dv,pv,.pointer none,rv,qv,u] 127)){kn p n:Int}{ba ka:Option Addr}{bn bc kl kc:Nat}:
    Fn Tryz.prog 125 #[pz lf,.agg (op12 kn p n ba bn bc ka kl kc).toArray] A (λ rr B=>rr= .bool true/\ B=A):=by
  refine fn_enterW func125 rfl ntmps125 (by simp) ?_;subst hA;refine Zfq ?_;rintro _ _ ⟨b3,rfl,rfl⟩;refine Za ?_;refine Zb2 ?_;refine Zfd ?_;refine tv (o_eqp underlying62 rfl rfl) ?_;refine Zdt ?_;intro h;refine Zb6 ?_;exact ⟨.bool true,_,res1 rfl rfl,Dr.sat (A':=F*pt lf (cl [dv,pv,.pointer none,rv,qv,u] 127)) drqz,rfl,rfl⟩
theorem Zho {p r:Prop}(k:r)(h:Kq r->p:=by intro k;refine sr ?_;refine Zb0 ?_;exact k.o):p:=h ⟨k⟩
theorem Zi7 {p r:Prop}(k:r)(h:Kq r->p:=by intro k;refine tm 5 rfl kqz rfl (o_move wqz) ?_;refine tm 6 rfl kqz rfl (o_nilCheck rfl) ?_;exact k.o):p:=h ⟨k⟩
theorem Zjr {p r:Prop}(k:r)(h:Kq r->p:=by intro k;refine tm 7 rfl kqz rfl (o_fieldAddr (o:=5) underlying127 rfl rfl sz125 rfl) ?_;refine tm 8 rfl kqz rfl (o_load p125 rfl hsqz rfl) ?_;exact k.o):p:=h ⟨k⟩
theorem Zkn {p r:Prop}(k:r)(h:Kq r->p:=by intro k;refine ⟨by repeat (first|with_reducible exact dr_refl|apply dr_keep|apply dr_drop), ?_⟩;refine th_one (i:=9) kqz ?_;exact k.o):p:=h ⟨k⟩
theorem Zea {p r:Prop}(k:r)(h:Kq r->p:=by intro k;refine tc_ret ?_;refine q_block_r (q_then_r ?_);exact k.o):p:=h ⟨k⟩
theorem lin_c {A F:SP}{lf d pp tp r q tr lg rl mb k:Nat}{x:Option TF}{s:DevS}(hA:A=F*pt lf (cl [pz d,pz pp,pz tp,pz r,pz q,pz tr] 127)*TxP tp pp lg d mb 128 576 1024 x s*TxX tr q r rl 128 576 x s)(hls:s.ls.length=16)(hg:Gd s.ls.length (2*(s.ls.length*64)+584+k) s){kn p n:Int}{ba ka:Option Addr}{bn bc kl kc:Nat}(hp: -9223372036854775808<=p/\ p<=9223372036854775807)(hn: -9223372036854775808<=n/\ n<=9223372036854775807){X:List Nat}(hbx:Rs F ba (bys X))(hXn:X.length=bn)(hX8:∀x∈X,x<256)(hbn:bn<=1048576):
    Fn Tryz.prog 125 #[pz lf,.agg (op12 kn p n ba bn bc ka kl kc).toArray] A (λ rr B=>∃ (x2:Option TF) (s2:DevS),rr= .bool true/\ Gd s.ls.length k s2/\ B=F*pt lf (cl [pz d,pz pp,pz tp,pz r,pz q,pz tr] 127)*TxP tp pp lg d mb 128 576 1024 x2 s2*TxX tr q r rl 128 576 x2 s2):=by
  refine fn_enterW func125 rfl ntmps125 (by simp) ?_;subst hA;refine tc_have (λ _ _ h=>txp_by ctqz h) λ hby=> ?_
  have hwf:=hg.wf;have hn4:s.ls.length*64=1024:=(by rw [hls]);have htop:s.ls.length*64<=4194304:=(by omega);have hlw:LogW (s.ls.length*64) 128 576:=lw12 hls;have hPL:(rX 1024 x).length<=1024:=rX_len hby;have hgk:Gd s.ls.length k s:=hg.le oqz;refine Zfq ?_;rintro _ _ ⟨b3,rfl,rfl⟩;refine Za ?_;refine Zb2 ?_;refine Zfd ?_;refine tv (o_eqp underlying62 rfl rfl) ?_;refine Z3 ?_;intro h;refine Zc ?_;refine Ze8 ?_;refine Zdc ?_;refine Zcj ?_;refine Zho ?_;refine tc_cond rfl (sbq ?_) (sbq ?_)
  . intro h;refine Zb ?_;refine tv (o_loadN (vs:=(op12 kn p n ba bn bc ka kl kc)) a116 sz116 rfl hsqz (Nat.le_of_eq (by rw [op12_len])) (List.take_of_length_le (Nat.le_of_eq (by rw [List.drop_zero,op12_len])))) ?_;refine tl_c rfl (o_call bd182 rfl (lload_c (F:=F*pt b3 (cl (op12 kn p n ba bn bc ka kl kc) 116)) (x:=x) (s:=s) (hA:=by ac_rfl) (hls:=hls) (hwf:=hwf) (hp:=hp) (hn:=hn))) ?_;rintro _ _ ⟨rfl,rfl⟩;refine Zci ?_;exact ⟨.bool true,F*pt lf (cl [pz d,pz pp,pz tp,pz r,pz q,pz tr] 127)*TxP tp pp lg d mb 128 576 1024 (dX x s) s*TxX tr q r rl 128 576 (dX x s) s,res1 rfl rfl,Dr.sat drqz,(dX x s),s,rfl,hgk,rfl⟩
  intro h;refine Ze8 ?_;refine Zb0 ?_;refine tc_cond rfl (λ h=> ?_) (sbq ?_)
  . have hk3:kn=3:=(by first|exact of_decide_eq_true h|(simp at h;omega));refine tc_env (d:=20) (v:= .bool true) (congrArg Value.bool (decide_eq_true hk3)) ?_;refine Zc ?_;refine tc_cond_t rfl ?_;refine Zb ?_;refine tv (o_loadN (vs:=(op12 kn p n ba bn bc ka kl kc)) a116 sz116 rfl hsqz (Nat.le_of_eq (by rw [op12_len])) (List.take_of_length_le (Nat.le_of_eq (by rw [List.drop_zero,op12_len])))) ?_;refine tl_c rfl (o_call bd183 rfl (lput_c (F:=F*pt b3 (cl (op12 kn p n ba bn bc ka kl kc) 116)) (x:=x) (s:=s) (hA:=by ac_rfl) (hls:=hls) (hwf:=hwf) (hp:=hp) (hn:=hn) (hbx:=hbx.left) (hXn:=hXn) (hX8:=hX8) (hbn:=hbn))) ?_;rintro _ _ ⟨fr25,rfl,rfl⟩;refine Zci ?_;exact ⟨.bool true,F*pt lf (cl [pz d,pz pp,pz tp,pz r,pz q,pz tr] 127)*TxP tp pp lg d mb 128 576 1024 (oX x p X fr25 s) s*TxX tr q r rl 128 576 (oX x p X fr25 s) s,res1 rfl rfl,Dr.sat drqz,(oX x p X fr25 s),s,rfl,hgk,rfl⟩
  intro h;refine tc_reg ?_;refine Zb0 ?_;refine tc_cond rfl (sbq ?_) (sbq ?_)
  . intro h;refine Zb ?_;refine tv (o_loadN (vs:=(op12 kn p n ba bn bc ka kl kc)) a116 sz116 rfl hsqz (Nat.le_of_eq (by rw [op12_len])) (List.take_of_length_le (Nat.le_of_eq (by rw [List.drop_zero,op12_len])))) ?_;refine tl_c rfl (o_call bd183 rfl (lput_c (F:=F*pt b3 (cl (op12 kn p n ba bn bc ka kl kc) 116)) (x:=x) (s:=s) (hA:=by ac_rfl) (hls:=hls) (hwf:=hwf) (hp:=hp) (hn:=hn) (hbx:=hbx.left) (hXn:=hXn) (hX8:=hX8) (hbn:=hbn))) ?_;rintro _ _ ⟨fr25,rfl,rfl⟩;refine Zci ?_;exact ⟨.bool true,F*pt lf (cl [pz d,pz pp,pz tp,pz r,pz q,pz tr] 127)*TxP tp pp lg d mb 128 576 1024 (oX x p X fr25 s) s*TxX tr q r rl 128 576 (oX x p X fr25 s) s,res1 rfl rfl,Dr.sat drqz,(oX x p X fr25 s),s,rfl,hgk,rfl⟩
  intro h;refine Zho ?_;refine tc_cond rfl (sbq ?_) (sbq ?_)
  . intro h;refine Zs ?_;refine Zfd ?_;refine tl_c rfl (o_call bd49 rfl (ExtentsX_p (x:=x) (n:=1024) (s:=s) (hLl:=by omega))) ?_;rintro _ _ ⟨a32,c32,rfl,hc32,rfl⟩;refine Za ?_;refine Zs ?_;refine Zlo ?_;refine tl_c rfl (o_call bd184 rfl (ExtentsX_r (x:=x) (s:=s) (hby:=hby))) ?_;rintro _ _ ⟨a37,c37,rfl,hc37,rfl⟩;rw [hn4]
    refine Zd1 ?_;refine tlm ?_;refine tl_c rfl (o_call bd185 rfl (eq12_c (l:=extX (rX 1024 x)) (zz:=extX (rX 1024 x)) (hr:=(by repeat (first|with_reducible exact rs_sl|apply Rs.left))) (hs:=(by repeat (first|with_reducible exact rs_sl|apply Rs.left))) (hl:=by unfold extX;rw [List.length_map]) (hk:=by unfold extX;rw [List.length_map]) (hn:=by omega) (hm:=by omega))) ?_;rintro _ _ ⟨rfl,rfl⟩;refine tl_env (d:=40) (v:= .bool true) (congrArg Value.bool (decide_eq_true rfl)) ?_;refine tv (o_not rfl) ?_;refine Z3 ?_;intro h;refine Zjy ?_;refine tc_pre (A':=F*pt lf (cl [pz d,pz pp,pz tp,pz r,pz q,pz tr] 127)*TxP tp pp lg d mb 128 576 1024 x s*TxX tr q r rl 128 576 x s*pt b3 (cl (op12 kn p n ba bn bc ka kl kc) 116)*Sl 2 (.slice a32 (rX 1024 x).length c32) (rX 1024 x).length (xcl (extX (rX 1024 x)))*Sl 2 (.slice a37 (rX 1024 x).length c37) (rX 1024 x).length (xcl (extX (rX 1024 x)))) (λ g w h=>h.perm (by ac_rfl)) ?_;refine tc_loop (λ kk ρ BB=>∃ (i:Nat) (zs:List (Int×Int)),(i<=(rX 1024 x).length)/\ (zs.length=(rX 1024 x).length)/\ kk=(rX 1024 x).length-i/\ ρ 7=(vn i)/\ ρ 0=(pz lf)/\ ρ 5= .slice a32 (rX 1024 x).length c32/\ ρ 6= .slice a37 (rX 1024 x).length c37/\ Dr BB (F*pt lf (cl [pz d,pz pp,pz tp,pz r,pz q,pz tr] 127)*TxP tp pp lg d mb 128 576 1024 x s*TxX tr q r rl 128 576 x s*pt b3 (cl (op12 kn p n ba bn bc ka kl kc) 116)*Sl 2 (.slice a32 (rX 1024 x).length c32) (rX 1024 x).length (xcl zs)*Sl 2 (.slice a37 (rX 1024 x).length c37) (rX 1024 x).length (xcl (extX (rX 1024 x))))) (m:=(rX 1024 x).length-(0)) ?_ ?_
    . exact ⟨0,extX (rX 1024 x),by omega,by unfold extX;rw [List.length_map],rfl,rfl,rfl,rfl,rfl,drqz⟩
    intro k ρ B hI;obtain ⟨i,zs,hp0,hp1,hkk1,hE7,hE0,hE5,hE6,hBA⟩:=hI;refine tc_pre hBA.sat ?_;clear hBA;refine te 7 hE7 ?_;refine te 0 hE0 ?_;refine te 5 hE5 ?_;refine te 6 hE6 ?_;refine Zje ?_;refine Zn ?_;refine tc_cond rfl (λ h=> ?_) (sbq ?_)
    . have hib:i<(rX 1024 x).length:=(by first|(have h9:=of_decide_eq_true h;omega)|(simp at h;omega));have hiz:i<zs.length:=(by omega);refine Zbe ?_;refine Zfn ?_;refine tv (o_bS (l:=[_,_]) (pv_cons wqz pv_nil) underlying162 z162 (pl162 underlying162) rfl) ?_;refine tv (o_ixP (a:=a32) underlying107 sz162 rfl rfl oqz (nn_rs (xs:=xcl zs) sq3z (λ _=>by rw [xcl_len];omega))) ?_;refine tl_u rfl (o_stPN (vs:=[.int .i64 (-1),.int .i64 0]) (ys:=xcl (zs.set i ((-1:Int),(0:Int)))) sz162 rfl rfl rfl rfl (by decide) ctqz oqz (by unfold xcl;exact fm_spl (k:=2) (f:=xcs) (y:=((-1:Int),(0:Int))) (λ _ _=>rfl) hiz rfl)) ?_;refine Zjx ?_;exact ⟨_,by omega,i+1,zs.set i ((-1:Int),(0:Int)),by omega,by rw [List.length_set];exact hp1,rfl,rfl,rfl,rfl,rfl,drqz⟩
    intro h;refine Zf ?_;refine Zs ?_;refine Zfd ?_;refine tl_c rfl (o_call bd49 rfl (ExtentsX_p (x:=x) (n:=1024) (s:=s) (hLl:=by omega))) ?_;rintro _ _ ⟨a56,c56,rfl,hc56,rfl⟩;refine tlm ?_;refine tl_c rfl (o_call bd185 rfl (eq12_c (l:=extX (rX 1024 x)) (zz:=extX (rX 1024 x)) (hr:=(by repeat (first|with_reducible exact rs_sl|apply Rs.left))) (hs:=(by repeat (first|with_reducible exact rs_sl|apply Rs.left))) (hl:=by unfold extX;rw [List.length_map]) (hk:=by unfold extX;rw [List.length_map]) (hn:=by omega) (hm:=by omega))) ?_;rintro _ _ ⟨rfl,rfl⟩;refine tl_env (d:=58) (v:= .bool true) (congrArg Value.bool (decide_eq_true rfl)) ?_;refine Zci ?_;exact ⟨.bool true,F*pt lf (cl [pz d,pz pp,pz tp,pz r,pz q,pz tr] 127)*TxP tp pp lg d mb 128 576 1024 x s*TxX tr q r rl 128 576 x s,res1 rfl rfl,(λ g w h=>(Dr.sat (A':=F*pt lf (cl [pz d,pz pp,pz tp,pz r,pz q,pz tr] 127)*TxX tr q r rl 128 576 x s*TxP tp pp lg d mb 128 576 1024 x s) drqz g w h).perm (by ac_rfl)),x,s,rfl,hgk,rfl⟩
  intro h;refine Zho ?_;refine tc_cond rfl (sbq ?_) (sbq ?_)
  . intro h;refine tc_seq ?_;refine tc_regh (S:=F*pt lf (cl [pz d,pz pp,pz tp,pz r,pz q,pz tr] 127)*pt b3 (cl (op12 kn p n ba bn bc ka kl kc) 116)) mo drqz ?_
    show TH _ _ _ _ _ 12 (Array.replicate 12 false) _ _
    refine Zq ?_;refine Zcn ?_;refine Zi7 ?_;refine Zjr ?_;refine th_one (i:=4) kqz ?_;refine oh_c rfl rfl rfl (o_call bd32 rfl (CommitX_p (x:=x) (n:=1024) (s:=s) (at_:=128) (sz:=576) (hlw:=hlw) (hroom:=room_le hg.room oqz))) ?_;rintro _ _ ⟨e65,x65,s65,hs65,rfl,rfl⟩;refine Zkn ?_;refine oh_c rfl rfl rfl (o_call bd186 rfl (CommitX_r (x:=x) (s:=s) (hby:=hby) (hlw:=hlw) (hroom:=room_le hg.room oqz))) ?_;rintro _ _ ⟨e70,x70,s70,hs70,rfl,rfl⟩;refine ⟨by repeat (first|with_reducible exact dr_refl|apply dr_keep|apply dr_drop), ?_⟩;rw [←hn4] at hs65
    obtain ⟨hq9,rfl⟩:=pair_eq hs65 hs70
    simp only [Prod.mk.injEq] at hq9
    obtain ⟨rfl,rfl⟩:=hq9;have hgc:=cX_gd (k:=k) hg hby htop hs65;refine tm 10 rfl kqz rfl (o_eqi rfl rfl) ?_;refine th_env (d:=71) (v:= .bool true) (congrArg Value.bool (decide_eq_true oqz)) ?_;refine Zfs ?_;refine Zea ?_;exact ⟨.bool true,F*pt lf (cl [pz d,pz pp,pz tp,pz r,pz q,pz tr] 127)*TxP tp pp lg d mb 128 576 1024 x65 s65*TxX tr q r rl 128 576 x65 s65,res1 rfl rfl,Dr.sat drqz,x65,s65,rfl,hgc,rfl⟩
  intro h;refine Zho ?_;refine tc_cond rfl (sbq ?_) (sbq ?_)
  . intro h;refine tc_seq ?_;refine tc_regh (S:=F*pt lf (cl [pz d,pz pp,pz tp,pz r,pz q,pz tr] 127)*pt b3 (cl (op12 kn p n ba bn bc ka kl kc) 116)) mo drqz ?_
    show TH _ _ _ _ _ 12 (Array.replicate 12 false) _ _
    refine Zq ?_;refine Zcn ?_;refine Zi7 ?_;refine Zjr ?_;refine th_one (i:=4) kqz ?_;refine oh_c rfl rfl rfl (o_call bd48 rfl (DropX_p (x:=x) (s:=s))) ?_;refine Zt ?_;refine th_one (i:=9) kqz ?_;refine oh_c rfl rfl rfl (o_call bd187 rfl (DropX_r (x:=x) (s:=s))) ?_;refine Zt ?_;refine tm 10 rfl kqz rfl (o_eqi rfl rfl) ?_;refine th_env (d:=84) (v:= .bool true) (congrArg Value.bool (decide_eq_true oqz)) ?_;refine Zfs ?_;refine Zea ?_;exact ⟨.bool true,F*pt lf (cl [pz d,pz pp,pz tp,pz r,pz q,pz tr] 127)*TxP tp pp lg d mb 128 576 1024 none s*TxX tr q r rl 128 576 none s,res1 rfl rfl,Dr.sat drqz,none,s,rfl,hgk,rfl⟩
  intro h;refine Zbd ?_;refine Zd0 ?_;exact ⟨.bool true,F*pt lf (cl [pz d,pz pp,pz tp,pz r,pz q,pz tr] 127)*TxP tp pp lg d mb 128 576 1024 x s*TxX tr q r rl 128 576 x s,res1 rfl rfl,Dr.sat drqz,x,s,rfl,hgk,rfl⟩
end Go.Vl

namespace Go.Vl
open Go Go.Proofs Go.Proofs.Tryz
def ldD (z m:Int)(s:DevS):List Nat:=if rdy s.ls.length s.off z m=0 then ((imgS s).drop z.toNat).take m.toNat else []
def idlB (s:DevS)(b:Bool):Int:=if s.off=true then 5 else if b=true then 3 else 0
theorem idl_b (s:DevS)(ov:Option Nat):idlS s ov=idlB s ov.isSome:=rfl
theorem idl_ok {s:DevS}{ov:Option Nat}(h:idlB s ov.isSome=0):s.off=false/\ ov=none:=by
  unfold idlB at h
  cases ho:s.off<;>cases ov<;>simp [ho] at h ⊢
def recB (at_ sz:Nat)(b:Bool)(s:DevS):(Int×Int)×DevS:=if idlB s b≠0 then ((0,idlB s b),s) else rollS at_ sz s
def bgnB (at_ sz:Nat)(b:Bool)(s:DevS):Int:=if idlB s b≠0 then idlB s b else stpS at_ sz s
theorem bgn_ok {at_ sz:Nat}{b:Bool}{s:DevS}(h:bgnB at_ sz b s=0):s.off=false/\ b=false/\ stpS at_ sz s=0:=by
  unfold bgnB at h
  split at h
  . rename_i h1;exact absurd h h1
  rename_i h1
  unfold idlB at h1
  cases ho:s.off<;>cases b<;>simp [ho] at h1 ⊢
  exact h
theorem stp_rec {at_ sz:Nat}{s:DevS}(h:stpS at_ sz s=0):recordsS at_ sz s=([],0):=by
  unfold stpS at h
  split at h
  . exact absurd h (by decide)
  rename_i h1
  obtain ⟨L,e,hL⟩:∃L e,recordsS at_ sz s=(L,e):=⟨_,_,rfl⟩;rw [hL] at h h1 ⊢
  simp only [] at h h1
  subst h;rw [Classical.not_not.1 λ h2=>h1 ⟨rfl,h2⟩]
theorem gd_rec {n k at_ sz:Nat}{b:Bool}{s:DevS}(h:Gd n (sz+1+k) s)(hlw:LogW (s.ls.length*64) at_ sz):Gd n k (recB at_ sz b s).2:=by
  unfold recB
  split
  . exact h.le oqz
  exact gd_roll h hlw
theorem ldP12_any {A R:SP}{C:SP->SP}{d:Nat}{s:DevS}(hc:Ct A (Dev d s) R C:=by exact cbqz){p lg:Nat}{ov:Option Nat}(hp:Has A p (cl (pocs lg d ov) 110):=by exact hbqz){z m:Int}(hz: -9223372036854775808<=z/\ z<=9223372036854775807:=by omega)(hm: -9223372036854775808<=m/\ m<=9223372036854775807:=by omega)(hil:(imgS s).length=s.ls.length*64:=by assumption):Fn Tryz.prog 40 #[pz p,.int .i64 z,.int .i64 m] A (λ r9 B=>∃a c,r9= .tuple #[.slice a (ldD z m s).length c,.int .i64 (rdy s.ls.length s.off z m)]/\ (ldD z m s).length<=c/\ B=A*Sl 1 (.slice a (ldD z m s).length c) (ldD z m s).length (bys (ldD z m s))):=by
  by_cases h:rdy s.ls.length s.off z m=0
  . obtain ⟨ho,h0,h1,h2⟩:=rdy0 h;obtain ⟨q9,rfl⟩:=Int.eq_ofNat_of_zero_le h0;obtain ⟨k9,rfl⟩:=Int.eq_ofNat_of_zero_le h1;have e:ldD (q9:Int) (k9:Int) s=((imgS s).drop q9).take k9:=(by unfold ldD;rw [if_pos h];rfl);have el:(((imgS s).drop q9).take k9).length=k9:=(by rw [List.length_take,List.length_drop,hil];omega);rw [e,el,h]
    exact Load12_c hc hp ho oqz
  have e:ldD z m s=[]:=(by unfold ldD;rw [if_neg h]);rw [e]
  refine Fn.weak (Load12_no hc hp hz hm h) ?_;rintro v B ⟨rfl,rfl⟩;exact ⟨A*Sl 1 (.slice none 0 0) 0 [],λ g w h9=>sl_nil h9,none,0,rfl,Nat.le_refl _,rfl⟩
theorem ldR12_any {A R:SP}{C:SP->SP}{r:Nat}{s:DevS}(hc:Ct A (RDev r s) R C:=by exact cbqz){q lg:Nat}{ov:Option Nat}(hq:Has A q (cl [pz r,pz lg,.pointer (ov.map λ t=>(⟨t,0,none⟩:Addr))] 235):=by exact hbqz){z m:Int}(hz: -9223372036854775808<=z/\ z<=9223372036854775807:=by omega)(hm: -9223372036854775808<=m/\ m<=9223372036854775807:=by omega)(hil:(imgS s).length=s.ls.length*64:=by assumption):Fn Tryz.prog 117 #[pz q,.int .i64 z,.int .i64 m] A (λ r9 B=>∃a c,r9= .tuple #[.slice a (ldD z m s).length c,.int .i64 (rdy s.ls.length s.off z m)]/\ (ldD z m s).length<=c/\ B=A*Sl 1 (.slice a (ldD z m s).length c) (ldD z m s).length (bys (ldD z m s))):=by
  by_cases h:rdy s.ls.length s.off z m=0
  . obtain ⟨ho,h0,h1,h2⟩:=rdy0 h;obtain ⟨q9,rfl⟩:=Int.eq_ofNat_of_zero_le h0;obtain ⟨k9,rfl⟩:=Int.eq_ofNat_of_zero_le h1;have e:ldD (q9:Int) (k9:Int) s=((imgS s).drop q9).take k9:=(by unfold ldD;rw [if_pos h];rfl);have el:(((imgS s).drop q9).take k9).length=k9:=(by rw [List.length_take,List.length_drop,hil];omega);rw [e,el,h]
    exact Load12p_c hc hq ho oqz
  have e:ldD z m s=[]:=(by unfold ldD;rw [if_neg h]);rw [e]
  refine Fn.weak (Load12p_no hc hq hz hm h) ?_;rintro v B ⟨rfl,rfl⟩;exact ⟨A*Sl 1 (.slice none 0 0) 0 [],λ g w h9=>sl_nil h9,none,0,rfl,Nat.le_refl _,rfl⟩
theorem RecoverP_any {A R:SP}{C:SP->SP}{d:Nat}{s:DevS}(hc:Ct A (Dev d s) R C:=by exact cbqz){p lg:Nat}{ov:Option Nat}  (hp:Has A p (cl (pocs lg d ov) 110):=by exact hbqz){b:Bool}(hb:ov.isSome=b:=by first|assumption|rfl){at_ sz:Nat}(hl:Has R lg (cl (lcs11 d at_ sz) 99):=by exact hbqz)(hlw:LogW (s.ls.length*64) at_ sz:=by assumption)(hroom:Room (sz+1) s:=by assumption):
    Fn Tryz.prog 41 #[pz p] A (λ v B=>∃e k s2,recB at_ sz b s=((k,e),s2)/\ v= .tuple #[.int .i64 k,.int .i64 e]/\ B=C (Dev d s2)):=by
  subst hb
  by_cases h:idlB s ov.isSome=0
  . obtain ⟨ho,rfl⟩:=idl_ok h;have e9:recB at_ sz (Option.isSome (none:Option Nat)) s=rollS at_ sz s:=(by unfold recB;rw [if_neg (by simpa using h)]);rw [e9]
    exact Recover12_ok hc hp hl hlw ho hroom
  have e9:recB at_ sz ov.isSome s=((0,idlB s ov.isSome),s):=(by unfold recB;rw [if_pos h]);rw [e9]
  refine (Recover12_no hc hp (by rw [idl_b];exact h)).mono ?_;rintro v B ⟨rfl,rfl⟩;exact ⟨_,_,_,rfl,by rw [idl_b],by rw [hc.2];exact hc.1⟩
theorem RecoverR_any {A R:SP}{C:SP->SP}{r:Nat}{s:DevS}(hc:Ct A (RDev r s) R C:=by exact cbqz){q lg:Nat}{ov:Option Nat}  (hp:Has A q (cl [pz r,pz lg,.pointer (ov.map λ t=>(⟨t,0,none⟩:Addr))] 235):=by exact hbqz){b:Bool}(hb:ov.isSome=b:=by first|assumption|rfl){at_ sz:Nat}(hl:Has R lg (cl [pz r,vn at_,vn sz] 233):=by exact hbqz)(hlw:LogW (s.ls.length*64) at_ sz:=by assumption)(hroom:Room (sz+1) s:=by assumption):
    Fn Tryz.prog 119 #[pz q] A (λ v B=>∃e k s2,recB at_ sz b s=((k,e),s2)/\ v= .tuple #[.int .i64 k,.int .i64 e]/\ B=C (RDev r s2)):=by
  subst hb
  by_cases h:idlB s ov.isSome=0
  . obtain ⟨ho,rfl⟩:=idl_ok h;have e9:recB at_ sz (Option.isSome (none:Option Nat)) s=rollS at_ sz s:=(by unfold recB;rw [if_neg (by simpa using h)]);rw [e9]
    exact Recover12r_ok hc hp hl hlw ho hroom
  have e9:recB at_ sz ov.isSome s=((0,idlB s ov.isSome),s):=(by unfold recB;rw [if_pos h]);rw [e9]
  refine (Recover12r_no hc hp (by rw [idl_b];exact h)).mono ?_;rintro v B ⟨rfl,rfl⟩;exact ⟨_,_,_,rfl,by rw [idl_b],by rw [hc.2];exact hc.1⟩
theorem BeginP_no {A R:SP}{C:SP->SP}{d:Nat}{s:DevS}(hc:Ct A (Dev d s) R C:=by exact cbqz){p lg:Nat}{ov:Option Nat}  (hp:Has A p (cl (pocs lg d ov) 110):=by exact hbqz){b:Bool}(hb:ov.isSome=b:=by first|assumption|rfl){at_ sz:Nat}(hl:Has R lg (cl (lcs11 d at_ sz) 99):=by exact hbqz)(hlw:LogW (s.ls.length*64) at_ sz:=by assumption)(hne:bgnB at_ sz b s≠0):
    Fn Tryz.prog 42 #[pz p] A (λ v B=>v= .tuple #[.pointer none,.int .i64 (bgnB at_ sz b s)]/\ A=B):=by
  subst hb
  by_cases h:idlB s ov.isSome=0
  . obtain ⟨ho,rfl⟩:=idl_ok h;have e9:bgnB at_ sz (Option.isSome (none:Option Nat)) s=stpS at_ sz s:=(by unfold bgnB;rw [if_neg (by simpa using h)]);rw [e9] at hne ⊢
    exact Begin12_st hc hp hl hlw ho hne
  have e9:bgnB at_ sz ov.isSome s=idlB s ov.isSome:=(by unfold bgnB;rw [if_pos h]);rw [e9,←idl_b]
  exact Begin12_no hc hp (by rw [idl_b];exact h)
theorem BeginR_no {A R:SP}{C:SP->SP}{r:Nat}{s:DevS}(hc:Ct A (RDev r s) R C:=by exact cbqz){q lg:Nat}{ov:Option Nat}  (hp:Has A q (cl [pz r,pz lg,.pointer (ov.map λ t=>(⟨t,0,none⟩:Addr))] 235):=by exact hbqz){b:Bool}(hb:ov.isSome=b:=by first|assumption|rfl){at_ sz:Nat}(hl:Has R lg (cl [pz r,vn at_,vn sz] 233):=by exact hbqz)(hlw:LogW (s.ls.length*64) at_ sz:=by assumption)(hne:bgnB at_ sz b s≠0):
    Fn Tryz.prog 116 #[pz q] A (λ v B=>v= .tuple #[.pointer none,.int .i64 (bgnB at_ sz b s)]/\ A=B):=by
  subst hb
  by_cases h:idlB s ov.isSome=0
  . obtain ⟨ho,rfl⟩:=idl_ok h;have e9:bgnB at_ sz (Option.isSome (none:Option Nat)) s=stpS at_ sz s:=(by unfold bgnB;rw [if_neg (by simpa using h)]);rw [e9] at hne ⊢
    exact Begin12r_st hc hp hl hlw ho hne
  have e9:bgnB at_ sz ov.isSome s=idlB s ov.isSome:=(by unfold bgnB;rw [if_pos h]);rw [e9,←idl_b]
  exact Begin12r_no hc hp (by rw [idl_b];exact h)
attribute [local irreducible] crk crL crc Sl pt ro Dev imgS recS readS recsF rdW rdO rkT Parts rvl recordsS runsL adrF kcl xcl kys runA runsF layF ovF TxA adZ WkA SlB blkS conB imF RDev lineC RLines TxR TxE ldT TxP TxX op12 eX oX lX dX rX cX
theorem Zl2 {p r:Prop}(k:r)(h:Kq r->p:=by intro k;refine tv (o_fieldAddr (o:=3) underlying127 rfl rfl sz48 rfl) ?_;refine tv (o_load p48 rfl hsqz rfl) ?_;exact k.o):p:=h ⟨k⟩
theorem Zi3 {p r:Prop}(k:r)(h:Kq r->p:=by intro k;refine tv (o_fieldAddr (o:=2) underlying127 rfl rfl sz62 rfl) ?_;refine tl_u rfl (o_stU rfl upqz sz62 rfl rfl (by first|decide|simp|omega) rfl) ?_;exact k.o):p:=h ⟨k⟩
theorem Ziy {p r:Prop}(k:r)(h:Kq r->p:=by intro k;refine tv (o_fieldAddr (o:=5) underlying127 rfl rfl sz125 rfl) ?_;refine tl_u rfl (o_stU rfl upqz sz125 rfl rfl (by first|decide|simp|omega) rfl) ?_;exact k.o):p:=h ⟨k⟩
theorem Zfe {p r:Prop}(k:r)(h:Kq r->p:=by intro k;refine tv (o_fieldAddr (o:=1) underlying127 rfl rfl sz69 rfl) ?_;refine tv (o_load p69 rfl hsqz rfl) ?_;exact k.o):p:=h ⟨k⟩
theorem lopen_c {A F:SP}{lf d r:Nat}{pv tw qv uv:Value}{s:DevS}(hA:A=F*pt lf (cl [pz d,pv,tw,pz r,qv,uv] 127)*Dev d s*RDev r s)(hls:s.ls.length=16):
    Fn Tryz.prog 54 #[pz lf] A (λ rr B=>∃pp lg q rl,rr= .bool true/\ B=F*pt lf (cl [pz d,pz pp,.pointer none,pz r,pz q,.pointer none] 127)*Dev d s*RDev r s*pt lg (cl (lcs11 d 128 576) 99)*pt pp (cl (pocs lg d none) 110)*pt rl (cl [pz r,vn 128,vn 576] 233)*pt q (cl [pz r,pz rl,.pointer none] 235)):=by
  refine fn_enterW func54 rfl ntmps54 (by simp) ?_;subst hA;refine Zbz ?_;refine Zw ?_;refine tv (o_fieldAddr (o:=0) underlying127 rfl rfl sz47 rfl) ?_;refine tv (o_load p47 rfl hsqz rfl) ?_;refine tl_c rfl (o_call bd90 rfl (opened12_c (s:=s) (hls:=hls))) ?_;rintro _ _ ⟨lg10,p10,rfl,rfl⟩;refine tv (o_nilCheck rfl) ?_;refine tv (o_fieldAddr (o:=1) underlying127 rfl rfl sz69 rfl) ?_;refine tl_u rfl (o_stU rfl upqz sz69 rfl rfl (by first|decide|simp|omega) rfl) ?_;refine Zld ?_;refine Zl2 ?_;refine tl_c rfl (o_call bd81 rfl (rOpen_ok (s:=s) (r:=r) (p:=128) (q:=576) (hp:=by decide) (hq:=by decide) (hok:=by rw [hls];decide))) ?_;rintro _ _ ⟨b18,rfl,rfl⟩;refine Zit ?_;refine Zw ?_;refine Zl2 ?_;refine tlm ?_;refine tl_c rfl (o_call bd82 rfl (rNew12_c (r:=r) (lg:=b18))) ?_;rintro _ _ ⟨q28,rfl,rfl⟩;refine Zb1 ?_;refine tv (o_nilCheck rfl) ?_;refine tv (o_fieldAddr (o:=4) underlying127 rfl rfl sz124 rfl) ?_;refine tl_u rfl (o_stU rfl upqz sz124 rfl rfl (by first|decide|simp|omega) rfl) ?_;refine Zld ?_;refine Zi3 ?_;refine Zld ?_;refine Ziy ?_;refine Zld ?_;refine Zfe ?_;refine tv (o_nep underlying69 rfl rfl) ?_;refine Zd ?_;exact ⟨.bool true,_,res1 rfl rfl,λ _ _ h=>h,p10,lg10,q28,b18,rfl,rfl⟩
end Go.Vl

namespace Go.Vl
open Go Go.Proofs Go.Proofs.Tryz
structure StU where
  k:Int
  q:Int
  n:Int
  ea:Option Addr
  ec:Nat
  es:List (Int×Int)
  da:Option Addr
  dc:Nat
  d:List Nat
  ka:Option Addr
  kc:Nat
  kp:List Int
def StU.cells (t:StU):List Value:=[.int .i64 t.k,.int .i64 t.q,.int .i64 t.n,.slice t.ea t.es.length t.ec,.slice t.da t.d.length t.dc,.slice t.ka t.kp.length t.kc]
structure StUW (A:SP) (t:StU):Prop where
  k: -9223372036854775808<=t.k/\ t.k<=9223372036854775807
  q: -9223372036854775808<=t.q/\ t.q<=9223372036854775807
  n: -9223372036854775808<=t.n/\ t.n<=9223372036854775807
  ers:Rs A t.ea (xcl t.es)
  ex:∀x∈t.es,XW x
  dcap:t.d.length<=t.dc
  drs:Rs A t.da (bys t.d)
  dby:∀x∈t.d,x<256
  kcap:t.kp.length<=t.kc
  krs:Rs A t.ka (ints t.kp)
  kb:∀x∈t.kp,-9223372036854775808<=x/\ x<=9223372036854775807
def StU.sz (t:StU):Nat:=t.es.length+t.d.length+t.kp.length+1
theorem StUW.left {A X:SP}{t:StU}(h:StUW A t):StUW (A*X) t:=⟨h.k,h.q,h.n,h.ers.left,h.ex,h.dcap,h.drs.left,h.dby,h.kcap,h.krs.left,h.kb⟩
def xf11 (x:Nat):Nat:=(IntKind.u8.wrap ((BitVec.ofInt IntKind.u8.bits (x:Int)^^^BitVec.ofInt IntKind.u8.bits 255).toNat:Int)).toNat
theorem cr_len (kp:List Int)(s:DevS):(crS kp s).2.ls.length=s.ls.length:=by
  unfold crS
  split
  . rfl
  split
  . rfl
  simp only [goesS,goPart_length]
theorem arm_len (ars:List (Int×List Int))(s:DevS):(armS ars s).2.ls.length=s.ls.length:=by
  unfold armS
  split
  . rfl
  split
  . rfl
  split<;>rfl
theorem arm12_p {A R:SP}{C:SP->SP}{d:Nat}{s:DevS}(hc:Ct A (Dev d s) R C:=by exact cbqz){a ka:Option Addr}{c kl kc:Nat}{n:Int}{kp:List Int}(hr0:Rs R a [.int .i64 (1+n%40),.slice ka kl kc]:=by repeat (first|with_reducible exact rs_pt0|apply Rs.left))(hkr:Rs R ka (ints kp):=by repeat (first|assumption|apply Rs.left))(hkl:kp.length=kl:=by assumption)(hkc:kl<=kc:=by assumption)(hkb:∀x∈kp,x<=9223372036854775807:=by assumption)(hks:kl<=1048576:=by assumption):
    Fn Tryz.prog 29 #[pz d,.slice a 1 c] A (λ rr B=>∃e s2,armS [(1+n%40,kp)] s=(e,s2)/\ rr= .int .i64 e/\ B=C (Dev d s2)):=by
  have hn40:0<=n%40/\ n%40<40:=⟨Int.emod_nonneg _ (by decide),Int.emod_lt_of_pos _ (by decide)⟩;have hrd:RdA R a [.slice ka kl kc] [(1+n%40,kp)]:=⟨hr0,rfl,λ i h=>by have h0:i=0:=(by simpa using h);subst h0;exact ⟨ka,kc,by rw [←hkl];rfl,by show kp.length<=kc;omega,hkr⟩⟩;exact Arm_c hc hrd rfl (by show 1<=17592186044416;decide) (hk:=(λ x hx=>by rw [List.mem_singleton] at hx;subst hx;exact ⟨by show-9223372036854775808<=1+n%40/\ 1+n%40<=9223372036854775807;omega,by show kp.length<=_;omega,hkb⟩))
theorem arm12_r {A R:SP}{C:SP->SP}{r:Nat}{s:DevS}(hc:Ct A (RDev r s) R C:=by exact cbqz){a ka:Option Addr}{c kl kc:Nat}{n:Int}{kp:List Int}(hr0:Rs R a [.int .i64 (1+n%40),.slice ka kl kc]:=by repeat (first|with_reducible exact rs_pt0|apply Rs.left))(hkr:Rs R ka (ints kp):=by repeat (first|assumption|apply Rs.left))(hkl:kp.length=kl:=by assumption)(hkc:kl<=kc:=by assumption)(hkb:∀x∈kp,x<=9223372036854775807:=by assumption)(hks:kl<=1048576:=by assumption):
    Fn Tryz.prog 120 #[pz r,.slice a 1 c] A (λ rr B=>∃e s2,armS [(1+n%40,kp)] s=(e,s2)/\ rr= .int .i64 e/\ B=C (RDev r s2)):=by
  have hn40:0<=n%40/\ n%40<40:=⟨Int.emod_nonneg _ (by decide),Int.emod_lt_of_pos _ (by decide)⟩;have hrd:RdA R a [.slice ka kl kc] [(1+n%40,kp)]:=⟨hr0,rfl,λ i h=>by have h0:i=0:=(by simpa using h);subst h0;exact ⟨ka,kc,by rw [←hkl];rfl,by show kp.length<=kc;omega,hkr⟩⟩;exact rArm_c hc hrd rfl (by show 1<=17592186044416;decide) (λ x hx=>by rw [List.mem_singleton] at hx;subst hx;exact ⟨by show-9223372036854775808<=1+n%40/\ 1+n%40<=9223372036854775807;omega,by show kp.length<=_;omega,hkb⟩)
abbrev pavS (F:SP)(lf d pp r q lg rl:Nat)(ov ov2:Option Nat)(tw uv:Value)(s:DevS):SP:=F*pt lf (cl [pz d,pz pp,tw,pz r,pz q,uv] 127)*pt pp (cl (pocs lg d ov) 110)*pt lg (cl (lcs11 d 128 576) 99)*Dev d s*pt q (cl [pz r,pz rl,.pointer (ov2.map λ t=>(⟨t,0,none⟩:Addr))] 235)*pt rl (cl [pz r,vn 128,vn 576] 233)*RDev r s
attribute [local irreducible] crk crL crc Sl pt ro Dev imgS recS readS recsF rdW rdO rkT Parts rvl recordsS runsL adrF kcl xcl kys runA runsF layF ovF TxA adZ WkA SlB blkS conB imF RDev lineC RLines TxR TxE ldT TxP TxX op12 eX oX lX dX rX cX
theorem Zhf {p r:Prop}(k:r)(h:Kq r->p:=by intro k;refine tv (o_fieldAddr (o:=4) underlying127 rfl rfl sz124 rfl) ?_;refine tv (o_load p124 rfl hsqz rfl) ?_;exact k.o):p:=h ⟨k⟩
theorem Zh8 {p r:Prop}(k:r)(h:Kq r->p:=by intro k;refine sr ?_;refine Zd2 ?_;exact k.o):p:=h ⟨k⟩
theorem Zjo {p r:Prop}(k:r)(h:Kq r->p:=by intro k;refine tm 4 rfl kqz rfl (o_fieldAddr (o:=4) underlying116 rfl rfl sz26 rfl) ?_;refine tm 5 rfl kqz rfl (o_load p26 rfl hsqz op12_4) ?_;exact k.o):p:=h ⟨k⟩
theorem Zis {p r:Prop}(k:r)(h:Kq r->p:=by intro k;refine tm 3 rfl kqz rfl adqz ?_;refine tm 6 rfl kqz rfl (o_bS (l:=[_,_]) (pv_cons wqz (pv_cons wqz pv_nil)) underlying82 z82 (pl82 underlying82) rfl) ?_;exact k.o):p:=h ⟨k⟩
theorem Zj8 {p r:Prop}(k:r)(h:Kq r->p:=by intro k;refine th_one (i:=8) kqz ?_;refine oh_u rfl rfl rfl (o_stUN rfl upqz sz82 rfl rfl rfl (by first|decide|simp|omega) rfl) drqz ?_;exact k.o):p:=h ⟨k⟩
theorem Zco {p r:Prop}(k:r)(h:Kq r->p:=by intro k;refine tm 2 rfl kqz rfl (o_fieldAddr (o:=0) underlying127 rfl rfl sz47 rfl) ?_;refine tm 3 rfl kqz rfl (o_load p47 rfl hsqz rfl) ?_;exact k.o):p:=h ⟨k⟩
theorem Zf6 {p r:Prop}(k:r)(h:Kq r->p:=by intro k;refine tm 9 rfl kqz rfl (o_fieldAddr (o:=3) underlying127 rfl rfl sz48 rfl) ?_;refine tm 10 rfl kqz rfl (o_load p48 rfl hsqz rfl) ?_;exact k.o):p:=h ⟨k⟩
theorem Zcb {p r:Prop}(k:r)(h:Kq r->p:=by intro k;refine ⟨by repeat (first|with_reducible exact dr_refl|apply dr_keep|apply dr_drop), ?_⟩;refine th_one (i:=13) kqz ?_;exact k.o):p:=h ⟨k⟩
theorem Zlp {p r:Prop}(k:r)(h:Kq r->p:=by intro k;refine Ze0 ?_;refine Zea ?_;exact k.o):p:=h ⟨k⟩
theorem Zko {p r:Prop}(k:r)(h:Kq r->p:=by intro k;refine ⟨by repeat (first|with_reducible exact dr_refl|apply dr_keep|apply dr_drop), ?_⟩;refine th_one (i:=5) kqz ?_;exact k.o):p:=h ⟨k⟩
theorem stepP_c {A F:SP}{lf d pp r q lg rl k:Nat}{ov ov2:Option Nat}{tw uv:Value}{s:DevS}(hA:A=F*pt lf (cl [pz d,pz pp,tw,pz r,pz q,uv] 127)*pt pp (cl (pocs lg d ov) 110)*pt lg (cl (lcs11 d 128 576) 99)*Dev d s*pt q (cl [pz r,pz rl,.pointer (ov2.map λ t=>(⟨t,0,none⟩:Addr))] 235)*pt rl (cl [pz r,vn 128,vn 576] 233)*RDev r s)(hov:ov2.isSome=ov.isSome)(hls:s.ls.length=16){kn p n:Int}{ba ka:Option Addr}{bn bc kl kc:Nat}(hp: -9223372036854775808<=p/\ p<=9223372036854775807)(hn: -9223372036854775808<=n/\ n<=9223372036854775807){X:List Nat}(hbx:Rs F ba (bys X))(hXn:X.length=bn)(hX8:∀x∈X,x<256)(hbn:bn<=1048576)(hbc:bn<=bc){kp:List Int}(hkr:Rs F ka (ints kp))(hkl:kp.length=kl)(hkc:kl<=kc)(hkb:∀x∈kp,x<=9223372036854775807)(hks:kl<=1048576)(hg:Gd s.ls.length (577+bn+k) s)(hkd:(kn=1/\ bgnB 128 576 ov.isSome s≠0)∨kn=8∨kn=9∨kn=11∨kn=12∨kn=13∨kn=14):
    Fn Tryz.prog 55 #[pz lf,.agg (op12 kn p n ba bn bc ka kl kc).toArray] A (λ rr B=>∃s2,rr= .bool true/\ Gd s.ls.length k s2/\ B=pavS F lf d pp r q lg rl ov ov2 tw uv s2):=by
  refine fn_enterW func55 rfl ntmps55 (by simp) ?_;subst hA;have hwf:=hg.wf;have hil:=imgS_len hwf;have hlw:LogW (s.ls.length*64) 128 576:=lw12 hls;have hgk:Gd s.ls.length k s:=hg.le oqz;have hn40:0<=n%40/\ n%40<40:=⟨Int.emod_nonneg _ (by decide),Int.emod_lt_of_pos _ (by decide)⟩;have hldl:(ldD p n s).length<=4194304:=(by unfold ldD;split;(rw [List.length_take,List.length_drop];omega);exact Nat.zero_le _);refine Zfq ?_;rintro _ _ ⟨b3,rfl,rfl⟩;refine Za ?_;refine Ze8 ?_;refine Zdc ?_;refine Zcj ?_;refine Zho ?_;refine tc_cond rfl (λ h=> ?_) (sbq ?_)
  . have hne:bgnB 128 576 ov.isSome s≠0:=(by simp at h;omega);refine Zs ?_;refine Zfe ?_;refine tl_c rfl (o_call bd42 rfl (BeginP_no (s:=s) (ov:=ov) (at_:=128) (sz:=576) (hlw:=hlw) (hne:=hne))) ?_;refine Zdz ?_;refine Z0 ?_;refine Zs ?_;refine Zhf ?_;refine tl_c rfl (o_call bd116 rfl (BeginR_no (s:=s) (ov:=ov2) (at_:=128) (sz:=576) (hb:=hov) (hlw:=hlw) (hne:=hne))) ?_;refine Zdz ?_;refine Zbx ?_;refine Zca ?_;refine tc_cond rfl (λ h=> ?_) (sbq ?_)
    . exfalso;simp at h;exact hne h
    intro h;refine Zgr ?_;refine tv (o_eqi rfl rfl) ?_;refine tl_env (d:=50) (v:= .bool true) (congrArg Value.bool (decide_eq_true oqz)) ?_;refine tlm ?_;refine tl_bool (d:=51) rfl (sbq ?_) dbq;intro h;refine tlm ?_;refine Zcc ?_;refine tv (o_eqp underlying125 rfl rfl) ?_;refine tv (o_eqb underlying4 rfl rfl) ?_;refine tv (o_pick_t rfl wqz) ?_;refine Zci ?_;exact ⟨.bool true,pavS F lf d pp r q lg rl ov ov2 tw uv s,res1 rfl rfl,Dr.sat (by unfold pavS;repeat (first|with_reducible exact dr_refl|apply dr_keep|apply dr_drop)),s,rfl,hgk,rfl⟩
  intro h;refine Zho ?_;refine tc_cond rfl (sbq ?_) (sbq ?_)
  . intro h;refine tc_seq ?_;refine tc_regh (S:=F*pt lf (cl [pz d,pz pp,tw,pz r,pz q,uv] 127)*pt pp (cl (pocs lg d ov) 110)*pt lg (cl (lcs11 d 128 576) 99)*Dev d s*pt q (cl [pz r,pz rl,.pointer (ov2.map λ t=>(⟨t,0,none⟩:Addr))] 235)*pt rl (cl [pz r,vn 128,vn 576] 233)*RDev r s*pt b3 (cl (op12 kn p n ba bn bc ka kl kc) 116)) mo drqz ?_
    show TH _ _ _ _ _ 14 (Array.replicate 14 false) _ _
    refine Zq ?_;refine tm 2 rfl kqz rfl (o_fieldAddr (o:=1) underlying127 rfl rfl sz69 rfl) ?_;refine tm 3 rfl kqz rfl (o_load p69 rfl hsqz rfl) ?_;refine Zbf ?_;refine Zjn ?_;refine oh_c rfl rfl rfl (o_call bd40 rfl (ldP12_any (s:=s) (ov:=ov) (z:=p) (m:=n) (hil:=hil))) ?_;rintro _ _ ⟨a69,c69,rfl,hc69,rfl⟩;refine Zdb ?_;refine Zlk ?_;refine Zlu ?_;refine tc_regh (S:=F*pt lf (cl [pz d,pz pp,tw,pz r,pz q,uv] 127)*pt pp (cl (pocs lg d ov) 110)*pt lg (cl (lcs11 d 128 576) 99)*Dev d s*pt q (cl [pz r,pz rl,.pointer (ov2.map λ t=>(⟨t,0,none⟩:Addr))] 235)*pt rl (cl [pz r,vn 128,vn 576] 233)*RDev r s*pt b3 (cl (op12 kn p n ba bn bc ka kl kc) 116)) mo drqz ?_
    show TH _ _ _ _ _ 14 (Array.replicate 14 false) _ _
    refine Zq ?_;refine tm 2 rfl kqz rfl (o_fieldAddr (o:=4) underlying127 rfl rfl sz124 rfl) ?_;refine tm 3 rfl kqz rfl (o_load p124 rfl hsqz rfl) ?_;refine Zbf ?_;refine Zjn ?_;refine oh_c rfl rfl rfl (o_call bd117 rfl (ldR12_any (s:=s) (ov:=ov2) (z:=p) (m:=n) (hil:=hil))) ?_;rintro _ _ ⟨a81,c81,rfl,hc81,rfl⟩;refine Zdb ?_;refine Zlk ?_;refine Zba ?_;refine Zfr ?_;refine Zbt ?_;refine ql_v rfl (o_eqi rfl rfl) ?_;refine ql_env (d:=86) (v:= .bool true) (congrArg Value.bool (decide_eq_true oqz)) ?_;refine ql_v rfl (o_move wqz) ?_;refine ql_bool (d:=87) rfl (sbq ?_) dbq;intro h;refine Zbt ?_;refine ql_c rfl (λ w=>exec_call bd60 rfl) (EqBytes_c (xs:=(ldD p n s)) (ys:=(ldD p n s))) ?_;refine ql_env (d:=90) (v:= .bool true) (congrArg Value.bool (decide_eq_true rfl)) ?_;refine Zh5 ?_;refine ql_bool (d:=92) rfl (sbq ?_) dbq;intro h;refine Zbk ?_;refine ql_v rfl (o_fieldAddr (o:=1) underlying127 rfl rfl sz69 rfl) ?_;refine ql_v rfl (o_load p69 rfl hsqz rfl) ?_;refine ql_c rfl (λ w=>exec_call bd44 rfl) (State12_c (s:=s) (ov:=ov) (at_:=128) (sz:=576) (hlw:=hlw)) ?_;refine Zbk ?_;refine ql_v rfl (o_fieldAddr (o:=4) underlying127 rfl rfl sz124 rfl) ?_;refine ql_v rfl (o_load p124 rfl hsqz rfl) ?_;refine ql_c rfl (λ w=>exec_call bd118 rfl) (State12r_c (s:=s) (la:=128) (lz:=576) (hlw:=hlw)) ?_;refine ql_v rfl (o_eqi rfl rfl) ?_;refine ql_env (d:=103) (v:= .bool true) (congrArg Value.bool (decide_eq_true oqz)) ?_;refine ql_v rfl (o_pick_t rfl wqz) ?_;refine Zf5 ?_;refine Zea ?_;exact ⟨.bool true,pavS F lf d pp r q lg rl ov ov2 tw uv s,res1 rfl rfl,Dr.sat (by unfold pavS;repeat (first|with_reducible exact dr_refl|apply dr_keep|apply dr_drop)),s,rfl,hgk,rfl⟩
  intro h;refine Zho ?_;refine tc_cond rfl (sbq ?_) (sbq ?_)
  . intro h;refine Zs ?_;refine Zfe ?_;refine tl_c rfl (o_call bd41 rfl (RecoverP_any (s:=s) (ov:=ov) (at_:=128) (sz:=576) (hlw:=hlw) (hroom:=room_le hg.room oqz))) ?_;rintro _ _ ⟨e112,k112,s112,hs112,rfl,rfl⟩;refine Zb1 ?_;refine Z0 ?_;refine Zs ?_;refine Zhf ?_;refine tl_c rfl (o_call bd119 rfl (RecoverR_any (s:=s) (ov:=ov2) (at_:=128) (sz:=576) (hb:=hov) (hlw:=hlw) (hroom:=room_le hg.room oqz))) ?_;rintro _ _ ⟨e120,k120,s120,hs120,rfl,rfl⟩;obtain ⟨hq9,rfl⟩:=pair_eq hs112 hs120
    simp only [Prod.mk.injEq] at hq9
    obtain ⟨rfl,rfl⟩:=hq9;have hgr:=gd_rec (b:=ov.isSome) (at_:=128) (sz:=576) (k:=k) (hg.le oqz) hlw;rw [hs112] at hgr
    refine Zb1 ?_;refine Z0 ?_;refine Zb7 ?_;refine tv (o_eqi rfl rfl) ?_;refine tl_env (d:=125) (v:= .bool true) (congrArg Value.bool (decide_eq_true oqz)) ?_;refine tlm ?_;refine tl_bool (d:=126) rfl (sbq ?_) dbq;intro h;refine Z2 ?_;refine tv (o_eqi rfl rfl) ?_;refine tl_env (d:=129) (v:= .bool true) (congrArg Value.bool (decide_eq_true oqz)) ?_;refine tv (o_pick_t rfl wqz) ?_;refine Zci ?_;exact ⟨.bool true,pavS F lf d pp r q lg rl ov ov2 tw uv s112,res1 rfl rfl,Dr.sat (by unfold pavS;repeat (first|with_reducible exact dr_refl|apply dr_keep|apply dr_drop)),s112,rfl,hgr,rfl⟩
  intro h;refine Zh8 ?_;intro h;refine Zho ?_;refine tc_cond rfl (sbq ?_) (sbq ?_)
  . intro h;refine tc_seq ?_;refine tc_regh mo dr_refl ?_
    show TH _ _ _ _ _ 9 (Array.replicate 9 false) _ _
    refine tm 0 rfl kqz rfl (o_fieldAddr (o:=2) underlying116 rfl rfl sz3 rfl) ?_;refine tm 1 rfl kqz rfl (o_load p3 rfl hsqz op12_2) ?_;refine Zjo ?_;refine th_two (i:=2) (j:=7) kqz ?_ ?_
    . skip
      refine oh_c rfl rfl rfl (o_call bd30 rfl (Within_c (i:=n) (n:=40))) ?_;refine Zt ?_;refine Zis ?_;refine th_one (i:=7) kqz ?_;refine oh_x rfl rfl rfl (o_alloc z82 rfl) ?_;rintro _ _ ⟨b17,rfl,rfl⟩;refine ⟨by repeat (first|with_reducible exact dr_refl|apply dr_keep|apply dr_drop), ?_⟩;refine Zj8 ?_;refine Zlu ?_;refine tc_regh (S:=F*pt lf (cl [pz d,pz pp,tw,pz r,pz q,uv] 127)*pt pp (cl (pocs lg d ov) 110)*pt lg (cl (lcs11 d 128 576) 99)*pt q (cl [pz r,pz rl,.pointer (ov2.map λ t=>(⟨t,0,none⟩:Addr))] 235)*pt rl (cl [pz r,vn 128,vn 576] 233)*pt b3 (cl (op12 kn p n ba bn bc ka kl kc) 116)*pt b17 (cl [.int .i64 (1+n%40),.slice ka kl kc] 82)) mo drqz ?_
      show TH _ _ _ _ _ 16 (Array.replicate 16 false) _ _
      refine Zq ?_;refine Zco ?_;refine tm 4 rfl kqz rfl (o_loadN (vs:=[.int .i64 (1+n%40),.slice ka kl kc]) a82 sz82 rfl hsqz (by show 2<=2;decide) rfl) ?_;refine Zfk ?_;refine Zf6 ?_;refine tm 11 rfl kqz rfl (o_loadN (vs:=[.int .i64 (1+n%40),.slice ka kl kc]) a82 sz82 rfl hsqz (by show 2<=2;decide) rfl) ?_;refine th_two (i:=5) (j:=12) kqz ?_ ?_
      . skip
        refine oh_x rfl rfl rfl (o_buildSliceK (k:=2) (l:=[.int .i64 (1+n%40),.slice ka kl kc]) underlying95 sz82 z82 rfl rfl (by decide)) ?_;rintro _ _ ⟨b149,rfl,rfl⟩;refine ⟨by repeat (first|with_reducible exact dr_refl|apply dr_keep|apply dr_drop), ?_⟩;refine th_two (i:=6) (j:=12) kqz ?_ ?_
        . skip
          refine oh_c rfl rfl rfl (o_call bd29 rfl (arm12_p (n:=n) (kp:=kp))) ?_;rintro _ _ ⟨e150,s150,hs150,rfl,rfl⟩;refine Zdg ?_;refine oh_x rfl rfl rfl (o_buildSliceK (k:=2) (l:=[.int .i64 (1+n%40),.slice ka kl kc]) underlying95 sz82 z82 rfl rfl (by decide)) ?_;rintro _ _ ⟨b156,rfl,rfl⟩;refine Zcb ?_;refine oh_c rfl rfl rfl (o_call bd120 rfl (arm12_r (n:=n) (kp:=kp))) ?_;rintro _ _ ⟨e157,s157,hs157,rfl,rfl⟩;refine ⟨by repeat (first|with_reducible exact dr_refl|apply dr_keep|apply dr_drop), ?_⟩;obtain ⟨rfl,rfl⟩:=pair_eq hs150 hs157;refine th_have (λ _ _ h=>wfR_ct ctqz h) λ hw9=> ?_
          refine tm 14 rfl kqz rfl (o_eqi rfl rfl) ?_;refine th_env (d:=158) (v:= .bool true) (congrArg Value.bool (decide_eq_true oqz)) ?_;refine Zlp ?_;exact ⟨.bool true,pavS F lf d pp r q lg rl ov ov2 tw uv s150,res1 rfl rfl,Dr.sat (by unfold pavS;repeat (first|with_reducible exact dr_refl|apply dr_keep|apply dr_drop)),s150,rfl,⟨by have h9:=arm_len [((1+n%40),kp)] s;rw [hs150] at h9;exact h9,armS_room hs150 hgk.room,hw9⟩,rfl⟩
        . skip
          refine oh_x rfl rfl rfl (o_buildSliceK (k:=2) (l:=[.int .i64 (1+n%40),.slice ka kl kc]) underlying95 sz82 z82 rfl rfl (by decide)) ?_;rintro _ _ ⟨b156,rfl,rfl⟩;refine Zdh ?_;refine oh_c rfl rfl rfl (o_call bd29 rfl (arm12_p (n:=n) (kp:=kp))) ?_;rintro _ _ ⟨e150,s150,hs150,rfl,rfl⟩;refine Zcb ?_;refine oh_c rfl rfl rfl (o_call bd120 rfl (arm12_r (n:=n) (kp:=kp))) ?_;rintro _ _ ⟨e157,s157,hs157,rfl,rfl⟩;refine ⟨by repeat (first|with_reducible exact dr_refl|apply dr_keep|apply dr_drop), ?_⟩;obtain ⟨rfl,rfl⟩:=pair_eq hs150 hs157;refine th_have (λ _ _ h=>wfR_ct ctqz h) λ hw9=> ?_
          refine tm 14 rfl kqz rfl (o_eqi rfl rfl) ?_;refine th_env (d:=158) (v:= .bool true) (congrArg Value.bool (decide_eq_true oqz)) ?_;refine Zlp ?_;exact ⟨.bool true,pavS F lf d pp r q lg rl ov ov2 tw uv s150,res1 rfl rfl,Dr.sat (by unfold pavS;repeat (first|with_reducible exact dr_refl|apply dr_keep|apply dr_drop)),s150,rfl,⟨by have h9:=arm_len [((1+n%40),kp)] s;rw [hs150] at h9;exact h9,armS_room hs150 hgk.room,hw9⟩,rfl⟩
      . skip
        refine oh_x rfl rfl rfl (o_buildSliceK (k:=2) (l:=[.int .i64 (1+n%40),.slice ka kl kc]) underlying95 sz82 z82 rfl rfl (by decide)) ?_;rintro _ _ ⟨b156,rfl,rfl⟩;refine Zko ?_;refine oh_x rfl rfl rfl (o_buildSliceK (k:=2) (l:=[.int .i64 (1+n%40),.slice ka kl kc]) underlying95 sz82 z82 rfl rfl (by decide)) ?_;rintro _ _ ⟨b149,rfl,rfl⟩;refine Zdh ?_;refine oh_c rfl rfl rfl (o_call bd29 rfl (arm12_p (n:=n) (kp:=kp))) ?_;rintro _ _ ⟨e150,s150,hs150,rfl,rfl⟩;refine Zcb ?_;refine oh_c rfl rfl rfl (o_call bd120 rfl (arm12_r (n:=n) (kp:=kp))) ?_;rintro _ _ ⟨e157,s157,hs157,rfl,rfl⟩;refine ⟨by repeat (first|with_reducible exact dr_refl|apply dr_keep|apply dr_drop), ?_⟩;obtain ⟨rfl,rfl⟩:=pair_eq hs150 hs157;refine th_have (λ _ _ h=>wfR_ct ctqz h) λ hw9=> ?_
        refine tm 14 rfl kqz rfl (o_eqi rfl rfl) ?_;refine th_env (d:=158) (v:= .bool true) (congrArg Value.bool (decide_eq_true oqz)) ?_;refine Zlp ?_;exact ⟨.bool true,pavS F lf d pp r q lg rl ov ov2 tw uv s150,res1 rfl rfl,Dr.sat (by unfold pavS;repeat (first|with_reducible exact dr_refl|apply dr_keep|apply dr_drop)),s150,rfl,⟨by have h9:=arm_len [((1+n%40),kp)] s;rw [hs150] at h9;exact h9,armS_room hs150 hgk.room,hw9⟩,rfl⟩
    . skip
      refine oh_x rfl rfl rfl (o_alloc z82 rfl) ?_;rintro _ _ ⟨b17,rfl,rfl⟩;refine ⟨by repeat (first|with_reducible exact dr_refl|apply dr_keep|apply dr_drop), ?_⟩;refine th_one (i:=2) kqz ?_;refine oh_c rfl rfl rfl (o_call bd30 rfl (Within_c (i:=n) (n:=40))) ?_;refine Zt ?_;refine Zis ?_;refine Zj8 ?_;refine Zlu ?_;refine tc_regh (S:=F*pt lf (cl [pz d,pz pp,tw,pz r,pz q,uv] 127)*pt pp (cl (pocs lg d ov) 110)*pt lg (cl (lcs11 d 128 576) 99)*pt q (cl [pz r,pz rl,.pointer (ov2.map λ t=>(⟨t,0,none⟩:Addr))] 235)*pt rl (cl [pz r,vn 128,vn 576] 233)*pt b3 (cl (op12 kn p n ba bn bc ka kl kc) 116)*pt b17 (cl [.int .i64 (1+n%40),.slice ka kl kc] 82)) mo drqz ?_
      show TH _ _ _ _ _ 16 (Array.replicate 16 false) _ _
      refine Zq ?_;refine Zco ?_;refine tm 4 rfl kqz rfl (o_loadN (vs:=[.int .i64 (1+n%40),.slice ka kl kc]) a82 sz82 rfl hsqz (by show 2<=2;decide) rfl) ?_;refine Zfk ?_;refine Zf6 ?_;refine tm 11 rfl kqz rfl (o_loadN (vs:=[.int .i64 (1+n%40),.slice ka kl kc]) a82 sz82 rfl hsqz (by show 2<=2;decide) rfl) ?_;refine th_two (i:=5) (j:=12) kqz ?_ ?_
      . skip
        refine oh_x rfl rfl rfl (o_buildSliceK (k:=2) (l:=[.int .i64 (1+n%40),.slice ka kl kc]) underlying95 sz82 z82 rfl rfl (by decide)) ?_;rintro _ _ ⟨b149,rfl,rfl⟩;refine ⟨by repeat (first|with_reducible exact dr_refl|apply dr_keep|apply dr_drop), ?_⟩;refine th_two (i:=6) (j:=12) kqz ?_ ?_
        . skip
          refine oh_c rfl rfl rfl (o_call bd29 rfl (arm12_p (n:=n) (kp:=kp))) ?_;rintro _ _ ⟨e150,s150,hs150,rfl,rfl⟩;refine Zdg ?_;refine oh_x rfl rfl rfl (o_buildSliceK (k:=2) (l:=[.int .i64 (1+n%40),.slice ka kl kc]) underlying95 sz82 z82 rfl rfl (by decide)) ?_;rintro _ _ ⟨b156,rfl,rfl⟩;refine Zcb ?_;refine oh_c rfl rfl rfl (o_call bd120 rfl (arm12_r (n:=n) (kp:=kp))) ?_;rintro _ _ ⟨e157,s157,hs157,rfl,rfl⟩;refine ⟨by repeat (first|with_reducible exact dr_refl|apply dr_keep|apply dr_drop), ?_⟩;obtain ⟨rfl,rfl⟩:=pair_eq hs150 hs157;refine th_have (λ _ _ h=>wfR_ct ctqz h) λ hw9=> ?_
          refine tm 14 rfl kqz rfl (o_eqi rfl rfl) ?_;refine th_env (d:=158) (v:= .bool true) (congrArg Value.bool (decide_eq_true oqz)) ?_;refine Zlp ?_;exact ⟨.bool true,pavS F lf d pp r q lg rl ov ov2 tw uv s150,res1 rfl rfl,Dr.sat (by unfold pavS;repeat (first|with_reducible exact dr_refl|apply dr_keep|apply dr_drop)),s150,rfl,⟨by have h9:=arm_len [((1+n%40),kp)] s;rw [hs150] at h9;exact h9,armS_room hs150 hgk.room,hw9⟩,rfl⟩
        . skip
          refine oh_x rfl rfl rfl (o_buildSliceK (k:=2) (l:=[.int .i64 (1+n%40),.slice ka kl kc]) underlying95 sz82 z82 rfl rfl (by decide)) ?_;rintro _ _ ⟨b156,rfl,rfl⟩;refine Zdh ?_;refine oh_c rfl rfl rfl (o_call bd29 rfl (arm12_p (n:=n) (kp:=kp))) ?_;rintro _ _ ⟨e150,s150,hs150,rfl,rfl⟩;refine Zcb ?_;refine oh_c rfl rfl rfl (o_call bd120 rfl (arm12_r (n:=n) (kp:=kp))) ?_;rintro _ _ ⟨e157,s157,hs157,rfl,rfl⟩;refine ⟨by repeat (first|with_reducible exact dr_refl|apply dr_keep|apply dr_drop), ?_⟩;obtain ⟨rfl,rfl⟩:=pair_eq hs150 hs157;refine th_have (λ _ _ h=>wfR_ct ctqz h) λ hw9=> ?_
          refine tm 14 rfl kqz rfl (o_eqi rfl rfl) ?_;refine th_env (d:=158) (v:= .bool true) (congrArg Value.bool (decide_eq_true oqz)) ?_;refine Zlp ?_;exact ⟨.bool true,pavS F lf d pp r q lg rl ov ov2 tw uv s150,res1 rfl rfl,Dr.sat (by unfold pavS;repeat (first|with_reducible exact dr_refl|apply dr_keep|apply dr_drop)),s150,rfl,⟨by have h9:=arm_len [((1+n%40),kp)] s;rw [hs150] at h9;exact h9,armS_room hs150 hgk.room,hw9⟩,rfl⟩
      . skip
        refine oh_x rfl rfl rfl (o_buildSliceK (k:=2) (l:=[.int .i64 (1+n%40),.slice ka kl kc]) underlying95 sz82 z82 rfl rfl (by decide)) ?_;rintro _ _ ⟨b156,rfl,rfl⟩;refine Zko ?_;refine oh_x rfl rfl rfl (o_buildSliceK (k:=2) (l:=[.int .i64 (1+n%40),.slice ka kl kc]) underlying95 sz82 z82 rfl rfl (by decide)) ?_;rintro _ _ ⟨b149,rfl,rfl⟩;refine Zdh ?_;refine oh_c rfl rfl rfl (o_call bd29 rfl (arm12_p (n:=n) (kp:=kp))) ?_;rintro _ _ ⟨e150,s150,hs150,rfl,rfl⟩;refine Zcb ?_;refine oh_c rfl rfl rfl (o_call bd120 rfl (arm12_r (n:=n) (kp:=kp))) ?_;rintro _ _ ⟨e157,s157,hs157,rfl,rfl⟩;refine ⟨by repeat (first|with_reducible exact dr_refl|apply dr_keep|apply dr_drop), ?_⟩;obtain ⟨rfl,rfl⟩:=pair_eq hs150 hs157;refine th_have (λ _ _ h=>wfR_ct ctqz h) λ hw9=> ?_
        refine tm 14 rfl kqz rfl (o_eqi rfl rfl) ?_;refine th_env (d:=158) (v:= .bool true) (congrArg Value.bool (decide_eq_true oqz)) ?_;refine Zlp ?_;exact ⟨.bool true,pavS F lf d pp r q lg rl ov ov2 tw uv s150,res1 rfl rfl,Dr.sat (by unfold pavS;repeat (first|with_reducible exact dr_refl|apply dr_keep|apply dr_drop)),s150,rfl,⟨by have h9:=arm_len [((1+n%40),kp)] s;rw [hs150] at h9;exact h9,armS_room hs150 hgk.room,hw9⟩,rfl⟩
  intro h;refine Zho ?_;refine tc_cond rfl (sbq ?_) (sbq ?_)
  . intro h;refine tc_seq ?_;refine tc_regh (S:=F*pt lf (cl [pz d,pz pp,tw,pz r,pz q,uv] 127)*pt pp (cl (pocs lg d ov) 110)*pt lg (cl (lcs11 d 128 576) 99)*pt q (cl [pz r,pz rl,.pointer (ov2.map λ t=>(⟨t,0,none⟩:Addr))] 235)*pt rl (cl [pz r,vn 128,vn 576] 233)*pt b3 (cl (op12 kn p n ba bn bc ka kl kc) 116)) mo drqz ?_
    show TH _ _ _ _ _ 16 (Array.replicate 16 false) _ _
    refine Zq ?_;refine Zco ?_;refine Zjo ?_;refine Zfk ?_;refine Zf6 ?_;refine tm 11 rfl kqz rfl (o_fieldAddr (o:=4) underlying116 rfl rfl sz26 rfl) ?_;refine tm 12 rfl kqz rfl (o_load p26 rfl hsqz op12_4) ?_;refine th_one (i:=6) kqz ?_;refine oh_c rfl rfl rfl (o_call bd33 rfl (Crash_c (s:=s) (keep:=kp) (hr:=(by repeat (first|exact hkr|apply Rs.left))) (hm:=hkl))) ?_;rintro _ _ ⟨e167,s167,hs167,rfl,rfl⟩;refine Zcb ?_;refine oh_c rfl rfl rfl (o_call bd121 rfl (rCrash_c (s:=s) (keep:=kp) (hr:=(by repeat (first|exact hkr|apply Rs.left))) (hm:=hkl))) ?_;rintro _ _ ⟨e174,s174,hs174,rfl,rfl⟩;refine ⟨by repeat (first|with_reducible exact dr_refl|apply dr_keep|apply dr_drop), ?_⟩;obtain ⟨rfl,rfl⟩:=pair_eq hs167 hs174;refine th_have (λ _ _ h=>wfR_ct ctqz h) λ hw9=> ?_
    refine tm 14 rfl kqz rfl (o_eqi rfl rfl) ?_;refine th_env (d:=175) (v:= .bool true) (congrArg Value.bool (decide_eq_true oqz)) ?_;refine Zlp ?_;exact ⟨.bool true,pavS F lf d pp r q lg rl ov ov2 tw uv s167,res1 rfl rfl,Dr.sat (by unfold pavS;repeat (first|with_reducible exact dr_refl|apply dr_keep|apply dr_drop)),s167,rfl,⟨by have h9:=cr_len kp s;rw [hs167] at h9;exact h9,crS_room hs167 hwf hgk.room,hw9⟩,rfl⟩
  intro h;refine Zho ?_;refine tc_cond rfl (sbq ?_) (sbq ?_)
  . intro h;refine tc_seq ?_;refine tc_regh (S:=F*pt lf (cl [pz d,pz pp,tw,pz r,pz q,uv] 127)*pt pp (cl (pocs lg d ov) 110)*pt lg (cl (lcs11 d 128 576) 99)*pt q (cl [pz r,pz rl,.pointer (ov2.map λ t=>(⟨t,0,none⟩:Addr))] 235)*pt rl (cl [pz r,vn 128,vn 576] 233)*pt b3 (cl (op12 kn p n ba bn bc ka kl kc) 116)) mo drqz ?_
    show TH _ _ _ _ _ 12 (Array.replicate 12 false) _ _
    refine Zq ?_;refine Zco ?_;refine Zi7 ?_;refine tm 7 rfl kqz rfl (o_fieldAddr (o:=3) underlying127 rfl rfl sz48 rfl) ?_;refine tm 8 rfl kqz rfl (o_load p48 rfl hsqz rfl) ?_;refine th_one (i:=4) kqz ?_;refine oh_c rfl rfl rfl (o_call bd34 rfl (Wake_c (s:=s))) ?_;refine Zt ?_;refine th_one (i:=9) kqz ?_;refine oh_c rfl rfl rfl (o_call bd122 rfl (rWake_c (s:=s))) ?_;refine Zt ?_;refine tm 10 rfl kqz rfl (o_eqi rfl rfl) ?_;refine th_env (d:=188) (v:= .bool true) (congrArg Value.bool (decide_eq_true oqz)) ?_;refine Zfs ?_;refine Zea ?_;exact ⟨.bool true,pavS F lf d pp r q lg rl ov ov2 tw uv ({ s with off:=false }),res1 rfl rfl,Dr.sat (by unfold pavS;repeat (first|with_reducible exact dr_refl|apply dr_keep|apply dr_drop)),{ s with off:=false },rfl,⟨rfl,hgk.room,wfd_on hwf⟩,rfl⟩
  intro h;refine Zho ?_;refine tc_cond rfl (sbq ?_) dbq;intro h;refine tc_seq ?_;refine tc_regh (S:=F*pt lf (cl [pz d,pz pp,tw,pz r,pz q,uv] 127)*pt pp (cl (pocs lg d ov) 110)*pt lg (cl (lcs11 d 128 576) 99)*pt q (cl [pz r,pz rl,.pointer (ov2.map λ t=>(⟨t,0,none⟩:Addr))] 235)*pt rl (cl [pz r,vn 128,vn 576] 233)*pt b3 (cl (op12 kn p n ba bn bc ka kl kc) 116)) mo drqz ?_
  show TH _ _ _ _ _ 21 (Array.replicate 21 false) _ _
  refine Zq ?_;refine Zco ?_;refine Zbf ?_;refine Zf3 ?_;refine tm 10 rfl kqz rfl (o_move wqz) ?_;refine tm 11 rfl kqz rfl (o_nilCheck rfl) ?_;refine tm 12 rfl kqz rfl (o_fieldAddr (o:=3) underlying127 rfl rfl sz48 rfl) ?_;refine tm 13 rfl kqz rfl (o_load p48 rfl hsqz rfl) ?_;refine tm 14 rfl kqz rfl (o_fieldAddr (o:=1) underlying116 rfl rfl sz3 rfl) ?_;refine tm 15 rfl kqz rfl (o_load p3 rfl hsqz op12_1) ?_;refine tm 16 rfl kqz rfl (o_fieldAddr (o:=3) underlying116 rfl rfl sz57 rfl) ?_;refine tm 17 rfl kqz rfl (o_load p57 rfl hsqz op12_3) ?_;refine th_one (i:=8) kqz ?_;refine oh_c rfl rfl rfl (o_call bd52 rfl (CopyBytes_c (xs:=X) (hr:=(by repeat (first|exact hbx|apply Rs.left))) (hm:=hXn))) ?_;rintro _ _ ⟨a199,c199,rfl,hc199,rfl⟩;refine Zkn ?_;refine oh_c rfl rfl rfl (o_call bd123 rfl (Store_c (s:=s) (p:=p) (xs:=X) (hr:=(by repeat (first|with_reducible exact rs_sl|apply Rs.left))) (hm:=hXn) (hb:=hX8) (hroom:=λ _=>room_le hg.room oqz))) ?_;rintro _ _ ⟨e200,s200,hs200,rfl,rfl⟩;refine Zgh ?_;refine oh_c rfl rfl rfl (o_call bd124 rfl (rStore_c (s:=s) (p:=p) (xs:=X) (hr:=(by repeat (first|exact hbx|apply Rs.left))) (hm:=hXn) (hb:=hX8) (hroom:=λ _=>room_le hg.room oqz))) ?_;rintro _ _ ⟨e209,s209,hs209,rfl,rfl⟩;refine ⟨by repeat (first|with_reducible exact dr_refl|apply dr_keep|apply dr_drop), ?_⟩;obtain ⟨rfl,rfl⟩:=pair_eq hs200 hs209;refine th_have (λ _ _ h=>wfR_ct ctqz h) λ hw9=> ?_
  refine tm 19 rfl kqz rfl (o_eqi rfl rfl) ?_;refine th_env (d:=210) (v:= .bool true) (congrArg Value.bool (decide_eq_true oqz)) ?_;refine tm 20 rfl kqz rfl (o_assign wqz) ?_;refine Zba ?_;refine Zea ?_;exact ⟨.bool true,pavS F lf d pp r q lg rl ov ov2 tw uv s200,res1 rfl rfl,Dr.sat (by unfold pavS;repeat (first|with_reducible exact dr_refl|apply dr_keep|apply dr_drop)),s200,rfl,⟨by have h9:=sto_len p X s;rw [hs200] at h9;exact h9,sto_room (r:=k) hs200 hwf hX8 (room_le hg.room oqz),hw9⟩,rfl⟩
theorem stepO_c {A F:SP}{lf d r:Nat}{pv tw qv uv:Value}{s:DevS}(hA:A=F*pt lf (cl [pz d,pv,tw,pz r,qv,uv] 127)*Dev d s*RDev r s)(hls:s.ls.length=16){kn p n:Int}{ba ka:Option Addr}{bn bc kl kc:Nat}(hkd:kn=10):
    Fn Tryz.prog 55 #[pz lf,.agg (op12 kn p n ba bn bc ka kl kc).toArray] A (λ rr B=>∃pp lg q rl,rr= .bool true/\ B=F*pt lf (cl [pz d,pz pp,.pointer none,pz r,pz q,.pointer none] 127)*Dev d s*RDev r s*pt lg (cl (lcs11 d 128 576) 99)*pt pp (cl (pocs lg d none) 110)*pt rl (cl [pz r,vn 128,vn 576] 233)*pt q (cl [pz r,pz rl,.pointer none] 235)):=by
  refine fn_enterW func55 rfl ntmps55 (by simp) ?_;subst hA;refine Zfq ?_;rintro _ _ ⟨b3,rfl,rfl⟩;refine Za ?_;refine Ze8 ?_;refine Zdc ?_;refine Zcj ?_;refine Zh8 ?_;intro h;refine Zh8 ?_;intro h;refine Zh8 ?_;intro h;refine Zho ?_;refine tc_cond rfl (sbq ?_) dbq;intro h;refine Zb ?_;refine tl_c rfl (o_call bd54 rfl (lopen_c (F:=F*pt b3 (cl (op12 kn p n ba bn bc ka kl kc) 116)) (d:=d) (r:=r) (pv:=pv) (tw:=tw) (qv:=qv) (uv:=uv) (s:=s) (hA:=by ac_rfl) (hls:=hls))) ?_;rintro _ _ ⟨p134,l134,q134,k134,rfl,rfl⟩;refine Zci ?_;exact ⟨.bool true,_,res1 rfl rfl,Dr.sat (A':=F*pt lf (cl [pz d,pz p134,.pointer none,pz r,pz q134,.pointer none] 127)*Dev d s*RDev r s*pt l134 (cl (lcs11 d 128 576) 99)*pt p134 (cl (pocs l134 d none) 110)*pt k134 (cl [pz r,vn 128,vn 576] 233)*pt q134 (cl [pz r,pz k134,.pointer none] 235)) drqz,p134,l134,q134,k134,rfl,rfl⟩
theorem stepB_c {A F:SP}{lf d pp r q lg rl:Nat}{tw uv:Value}{s:DevS}(hA:A=F*pt lf (cl [pz d,pz pp,tw,pz r,pz q,uv] 127)*pt pp (cl (pocs lg d none) 110)*pt lg (cl (lcs11 d 128 576) 99)*Dev d s*pt q (cl [pz r,pz rl,.pointer none] 235)*pt rl (cl [pz r,vn 128,vn 576] 233)*RDev r s)(hls:s.ls.length=16)(hbg:bgnB 128 576 false s=0){kn p n:Int}{ba ka:Option Addr}{bn bc kl kc:Nat}(hkd:kn=1):
    Fn Tryz.prog 55 #[pz lf,.agg (op12 kn p n ba bn bc ka kl kc).toArray] A (λ rr B=>∃tp mb tr,rr= .bool true/\ B=F*pt lf (cl [pz d,pz pp,pz tp,pz r,pz q,pz tr] 127)*TxA tp pp lg d mb 128 576 ⟨[],0⟩ false s*pt q (cl [pz r,pz rl,pz tr] 235)*pt rl (cl [pz r,vn 128,vn 576] 233)*RDev r s*pt tr (cl [pz q,.slice none 0 0,.bool false] 263)):=by
  refine fn_enterW func55 rfl ntmps55 (by simp) ?_;subst hA;obtain ⟨ho,_,hst⟩:=bgn_ok hbg;have hre:=stp_rec hst;have hlw:LogW (s.ls.length*64) 128 576:=lw12 hls;refine Zfq ?_;rintro _ _ ⟨b3,rfl,rfl⟩;refine Za ?_;refine Ze8 ?_;refine Zdc ?_;refine Zcj ?_;refine Zho ?_;refine tc_cond rfl (sbq ?_) dbq;intro h;refine Zs ?_;refine Zfe ?_;refine tl_c rfl (o_call bd42 rfl (Begin12_ok (C:=λ Y=>Y) (R:=F*pt lf (cl [pz d,pz pp,tw,pz r,pz q,uv] 127)*pt q (cl [pz r,pz rl,.pointer none] 235)*pt rl (cl [pz r,vn 128,vn 576] 233)*RDev r s*pt b3 (cl (op12 kn p n ba bn bc ka kl kc) 116)) (s:=s) (at_:=128) (sz:=576) (p:=pp) (lg:=lg) (d:=d) (hA:=by ac_rfl) (hlw:=hlw) (ho:=ho) (hst:=hst))) ?_;rintro _ _ ⟨t27,m27,rfl,rfl⟩;refine Zb1 ?_;refine Z0 ?_;refine Zs ?_;refine Zhf ?_;refine tl_c rfl (o_call bd116 rfl (rBegin12_c (R:=F*pt lf (cl [pz d,pz pp,tw,pz r,pz q,uv] 127)*pt b3 (cl (op12 kn p n ba bn bc ka kl kc) 116)*TxA t27 pp lg d m27 128 576 ⟨[],0⟩ false s) (q:=q) (r:=r) (lg:=rl) (la:=128) (lz:=576) (s:=s) (hA:=by ac_rfl) (hlw:=hlw) (hre:=hre) (ho:=ho))) ?_;rintro _ _ ⟨t35,rfl,rfl⟩;refine Zhd ?_;refine Zca ?_;refine tc_cond rfl (sbq ?_) dbq;intro h;refine Zb ?_;refine Zw ?_;refine Zi3 ?_;refine nq ?_;refine Zm ?_;refine Zw ?_;refine Ziy ?_;refine nq ?_;refine Zb7 ?_;refine tv (o_eqi rfl rfl) ?_;refine tl_env (d:=50) (v:= .bool true) (congrArg Value.bool (decide_eq_true oqz)) ?_;refine tlm ?_;refine tl_bool (d:=51) rfl (sbq ?_) dbq;intro h;refine tlm ?_;refine Zcc ?_;refine tv (o_eqp underlying125 rfl rfl) ?_;refine tv (o_eqb underlying4 rfl rfl) ?_;refine tv (o_pick_t rfl wqz) ?_;refine Zci ?_;exact ⟨.bool true,_,res1 rfl rfl,Dr.sat (A':=F*pt lf (cl [pz d,pz pp,pz t27,pz r,pz q,pz t35] 127)*TxA t27 pp lg d m27 128 576 ⟨[],0⟩ false s*pt q (cl [pz r,pz rl,pz t35] 235)*pt rl (cl [pz r,vn 128,vn 576] 233)*RDev r s*pt t35 (cl [pz q,.slice none 0 0,.bool false] 263)) drqz,t27,m27,t35,rfl,rfl⟩
theorem stepT_c {A:SP}{lf:Nat}{Q:Value->SP->Prop}{kn p n:Int}{ba ka:Option Addr}{bn bc kl kc:Nat}(hkd:kn≠1/\ kn≠8/\ kn≠9/\ kn≠10/\ kn≠11/\ kn≠12/\ kn≠13/\ kn≠14)(hI:∀b3,Fn Tryz.prog 125 #[pz lf,.agg (op12 kn p n ba bn bc ka kl kc).toArray] (A*pt b3 (cl (op12 kn p n ba bn bc ka kl kc) 116)) Q):
    Fn Tryz.prog 55 #[pz lf,.agg (op12 kn p n ba bn bc ka kl kc).toArray] (A) (Q):=by
  refine fn_enterW func55 rfl ntmps55 (by simp) ?_;refine Zfq ?_;rintro _ _ ⟨b3,rfl,rfl⟩;refine Za ?_;refine Ze8 ?_;refine Zdc ?_;refine Zcj ?_;refine Zh8 ?_;intro h;refine Zh8 ?_;intro h;refine Zh8 ?_;intro h;refine Zh8 ?_;intro h;refine Zh8 ?_;intro h;refine Zh8 ?_;intro h;refine Zh8 ?_;intro h;refine Zh8 ?_;intro h;refine Zbd ?_;refine Zb ?_;refine tv (o_loadN (vs:=(op12 kn p n ba bn bc ka kl kc)) a116 sz116 rfl hsqz (Nat.le_of_eq (by rw [op12_len])) (List.take_of_length_le (Nat.le_of_eq (by rw [List.drop_zero,op12_len])))) ?_;refine tl_c rfl (o_call bd125 rfl (hI b3)) ?_;rintro _ _ hQ213;refine Zd ?_;exact ⟨_,_,res1 rfl rfl,λ _ _ h=>h,hQ213⟩
end Go.Vl

namespace Go.Vl
open Go Go.Proofs Go.Proofs.Tryz
structure Op12U where
  k:Int
  p:Int
  n:Int
  ba:Option Addr
  bc:Nat
  X:List Nat
  ka:Option Addr
  kc:Nat
  kp:List Int
def Op12U.cells (t:Op12U):List Value:=op12 t.k t.p t.n t.ba t.X.length t.bc t.ka t.kp.length t.kc
structure Op12W (A:SP) (t:Op12U):Prop where
  k: -9223372036854775808<=t.k/\ t.k<=9223372036854775807
  p: -9223372036854775808<=t.p/\ t.p<=9223372036854775807
  n: -9223372036854775808<=t.n/\ t.n<=9223372036854775807
  bcap:t.X.length<=t.bc
  brs:Rs A t.ba (bys t.X)
  bby:∀x∈t.X,x<256
  kcap:t.kp.length<=t.kc
  krs:Rs A t.ka (ints t.kp)
  kb:∀x∈t.kp,-9223372036854775808<=x/\ x<=9223372036854775807
def Op12U.sz (t:Op12U):Nat:=t.X.length+t.kp.length+1
theorem Op12W.left {A X:SP}{t:Op12U}(h:Op12W A t):Op12W (A*X) t:=⟨h.k,h.p,h.n,h.bcap,h.brs.left,h.bby,h.kcap,h.krs.left,h.kb⟩
def LifA (lf d r:Nat)(st:Option (Option TF))(s:DevS):SP:=λ h=>match st with
  |none=>∃pp lg q rl,(pt lf (cl [pz d,pz pp,.pointer none,pz r,pz q,.pointer none] 127)*pt pp (cl (pocs lg d none) 110)*pt lg (cl (lcs11 d 128 576) 99)*Dev d s*pt q (cl [pz r,pz rl,.pointer none] 235)*pt rl (cl [pz r,vn 128,vn 576] 233)*RDev r s) h
  |some x=>∃pp lg q rl tp mb tr,(pt lf (cl [pz d,pz pp,pz tp,pz r,pz q,pz tr] 127)*TxP tp pp lg d mb 128 576 1024 x s*TxX tr q r rl 128 576 x s) h
theorem fn_lif_nil {P:Program}{fn:FuncId}{args:Array Value}{Q:Value->SP->Prop}{lf d r:Nat}{s:DevS}{R:SP}(h:∀pp lg q rl,Fn P fn args (R*(pt lf (cl [pz d,pz pp,.pointer none,pz r,pz q,.pointer none] 127)*pt pp (cl (pocs lg d none) 110)*pt lg (cl (lcs11 d 128 576) 99)*Dev d s*pt q (cl [pz r,pz rl,.pointer none] 235)*pt rl (cl [pz r,vn 128,vn 576] 233)*RDev r s)) Q):Fn P fn args (R*LifA lf d r none s) Q:=λ g w hs=>by
  obtain ⟨_,⟨a,b,hd,rfl,ha,pp,lg,q,rl,hb⟩,hx⟩:=hs.hp;exact h pp lg q rl g w ⟨hs.os,hs.tape,hs.out,_,⟨a,b,hd,rfl,ha,hb⟩,hx⟩
theorem lif_nil {lf d r pp lg q rl:Nat}{s:DevS}{R:SP}{g:Gh}{w:World}(hs:sat g w (R*(pt lf (cl [pz d,pz pp,.pointer none,pz r,pz q,.pointer none] 127)*pt pp (cl (pocs lg d none) 110)*pt lg (cl (lcs11 d 128 576) 99)*Dev d s*pt q (cl [pz r,pz rl,.pointer none] 235)*pt rl (cl [pz r,vn 128,vn 576] 233)*RDev r s))):sat g w (R*LifA lf d r none s):=
  hs.mono λ h ⟨a,b,hd,e,ha,hb⟩=>⟨a,b,hd,e,ha,pp,lg,q,rl,hb⟩
theorem fn_lif_t {P:Program}{fn:FuncId}{args:Array Value}{Q:Value->SP->Prop}{lf d r:Nat}{s:DevS}{x:Option TF}{R:SP}(h:∀pp lg q rl tp mb tr,Fn P fn args (R*(pt lf (cl [pz d,pz pp,pz tp,pz r,pz q,pz tr] 127)*TxP tp pp lg d mb 128 576 1024 x s*TxX tr q r rl 128 576 x s)) Q):Fn P fn args (R*LifA lf d r (some x) s) Q:=λ g w hs=>by
  obtain ⟨_,⟨a,b,hd,rfl,ha,pp,lg,q,rl,tp,mb,tr,hb⟩,hx⟩:=hs.hp;exact h pp lg q rl tp mb tr g w ⟨hs.os,hs.tape,hs.out,_,⟨a,b,hd,rfl,ha,hb⟩,hx⟩
theorem lif_t {lf d r pp lg q rl tp mb tr:Nat}{x:Option TF}{s:DevS}{R:SP}{g:Gh}{w:World}(hs:sat g w (R*(pt lf (cl [pz d,pz pp,pz tp,pz r,pz q,pz tr] 127)*TxP tp pp lg d mb 128 576 1024 x s*TxX tr q r rl 128 576 x s))):sat g w (R*LifA lf d r (some x) s):=
  hs.mono λ h ⟨a,b,hd,e,ha,hb⟩=>⟨a,b,hd,e,ha,pp,lg,q,rl,tp,mb,tr,hb⟩
theorem tx_open {R:SP}{tp pp lg d mb tr q r rl:Nat}{x:Option TF}{s:DevS}{g:Gh}{w:World}(hs:sat g w (R*TxP tp pp lg d mb 128 576 1024 x s*TxX tr q r rl 128 576 x s)):
    ∃Z:SP,sat g w (R*Z*pt pp (cl (pocs lg d (if x.isNone=true then none else some tp)) 110)*pt lg (cl (lcs11 d 128 576) 99)*Dev d s*pt q (cl [pz r,pz rl,.pointer ((if x.isNone=true then none else some tr:Option Nat).map λ t=>(⟨t,0,none⟩:Addr))] 235)*pt rl (cl [pz r,vn 128,vn 576] 233)*RDev r s)/\∀ (R':SP) (s2:DevS),s2.ls.length=s.ls.length->∀g w,sat g w (R'*Z*pt pp (cl (pocs lg d (if x.isNone=true then none else some tp)) 110)*pt lg (cl (lcs11 d 128 576) 99)*Dev d s2*pt q (cl [pz r,pz rl,.pointer ((if x.isNone=true then none else some tr:Option Nat).map λ t=>(⟨t,0,none⟩:Addr))] 235)*pt rl (cl [pz r,vn 128,vn 576] 233)*RDev r s2)->sat g w (R'*TxP tp pp lg d mb 128 576 1024 x s2*TxX tr q r rl 128 576 x s2):=by
  obtain ⟨M,hM,hs⟩:∃M,(∀f,x=some f->MF M 1024 f)/\ sat g w (R*TxX tr q r rl 128 576 x s*TxA tp pp lg d mb 128 576 M x.isNone s):=by
    obtain ⟨_,⟨a,b,hd,rfl,ha,M,hM,hb⟩,hx⟩:=(show sat g w (R*TxX tr q r rl 128 576 x s*TxP tp pp lg d mb 128 576 1024 x s) from hs.perm (by ac_rfl)).hp;exact ⟨M,hM,hs.os,hs.tape,hs.out,_,⟨a,b,hd,rfl,ha,hb⟩,hx⟩
  have back:∀ (R':SP) (s2:DevS) g w,sat g w (R'*TxX tr q r rl 128 576 x s2*TxA tp pp lg d mb 128 576 M x.isNone s2)->sat g w (R'*TxP tp pp lg d mb 128 576 1024 x s2*TxX tr q r rl 128 576 x s2):=λ R' s2 g w h=>(txp_back hM h).perm (by ac_rfl)
  cases x with
  |none=>
    refine ⟨pt tp (cl (txcs pp mb true) 113)*pt mb (mpo .i64 M)*pt tr (cl [pz q,.slice none 0 0,.bool true] 263),hs.perm ?_,λ R' s2 h2 g w h=>back R' s2 g w (h.perm ?_)⟩
    . unfold TxX TxA TxE;simp only [Option.isNone_none,if_true];show _=R*_*_*_*Dev d s*_*_*RDev r s;ac_rfl
    unfold TxX TxA TxE;simp only [Option.isNone_none,if_true];show R'*_*_*_*Dev d s2*_*_*RDev r s2=_;ac_rfl
  |some f=>
    obtain ⟨a,m,c,vs,D,h1,h2,h3,h4⟩:=txr_iff.1 (show sat g w ((R*TxA tp pp lg d mb 128 576 M false s)*TxR tr q r rl 128 576 f s) from hs.perm (by simp only [TxX,Option.isNone_some];ac_rfl));refine ⟨pt tp (cl (txcs pp mb false) 113)*pt mb (mpo .i64 M)*pt tr (cl [pz q,.slice a m c,.bool false] 263)*Sl 1 (.slice a m c) m (ptrV vs)*RLines vs D f,h4.perm ?_,λ R' s2 e2 g w h=> ?_⟩
    . unfold TxA;simp only [Option.isNone_some,Bool.false_eq_true,if_false];show _=R*_*_*_*Dev d s*_*_*RDev r s;ac_rfl
    refine back R' s2 g w ((txr_back (R:=R'*TxA tp pp lg d mb 128 576 M false s2) (a:=a) (c:=c) (vs:=vs) (D:=D) h1 h2 (by rw [e2];exact h3) g w (h.perm ?_)).perm (by simp only [TxX,Option.isNone_some];ac_rfl))
    unfold TxA;simp only [Option.isNone_some,Bool.false_eq_true,if_false];show R'*_*_*_*Dev d s2*_*_*RDev r s2=_;ac_rfl
theorem txp_new {R:SP}{lf d r pp lg q rl tp mb tr:Nat}{s:DevS}{g:Gh}{w:World}(hs:sat g w (R*pt lf (cl [pz d,pz pp,pz tp,pz r,pz q,pz tr] 127)*TxA tp pp lg d mb 128 576 ⟨[],0⟩ false s*TxR tr q r rl 128 576 tf0 s)):sat g w (R*(pt lf (cl [pz d,pz pp,pz tp,pz r,pz q,pz tr] 127)*TxP tp pp lg d mb 128 576 1024 (some tf0) s*TxX tr q r rl 128 576 (some tf0) s)):=(txp_back (R:=R*pt lf (cl [pz d,pz pp,pz tp,pz r,pz q,pz tr] 127)*TxR tr q r rl 128 576 tf0 s) (M:=⟨[],0⟩) (x:=some tf0) (sof (mf_nil 0 1024)) (hs.perm (by simp only [Option.isNone_some];ac_rfl))).perm (by simp only [TxX];ac_rfl)
theorem txr_new {R:SP}{tr q r rl:Nat}{s:DevS}{g:Gh}{w:World}(hs:sat g w (R*pt q (cl [pz r,pz rl,pz tr] 235)*pt rl (cl [pz r,vn 128,vn 576] 233)*RDev r s*pt tr (cl [pz q,.slice none 0 0,.bool false] 263))):sat g w (R*TxR tr q r rl 128 576 tf0 s):=
  txr_back (a:=none) (c:=0) (vs:=[]) (D:=[]) rfl rfl (lnok_tf0 _) g w ((sl_nil hs).perm (by unfold RLines ptrV;simp only [List.map_nil];rw [←star_emp (R*pt q (cl [pz r,pz rl,pz tr] 235)*pt rl (cl [pz r,vn 128,vn 576] 233)*RDev r s*pt tr (cl [pz q,.slice none 0 0,.bool false] 263)*Sl 1 (.slice none 0 0) 0 [])];ac_rfl))
theorem step12_c {A F:SP}{lf d r k:Nat}{st:Option (Option TF)}{s:DevS}{t:Op12U}(hA:A=F*LifA lf d r st s)(hw:Op12W F t)(hsz:t.sz<=1048576)(hls:s.ls.length=16)(hg:Gd s.ls.length (3300+t.X.length+k) s):
    Fn Tryz.prog 55 #[pz lf,.agg t.cells.toArray] A (λ v B=>∃st2 s2,v= .bool true/\ Gd s.ls.length k s2/\ B=F*LifA lf d r st2 s2):=by
  subst hA;have hkb:∀x∈t.kp,x<=9223372036854775807:=λ x hx=>(hw.kb x hx).2
  have hs2:=hsz
  unfold Op12U.sz at hs2
  have hgk:Gd s.ls.length k s:=hg.le oqz
  by_cases h10:t.k=10
  · -- a new log and pool
    have key:∀{R:SP} {pv tw qv uv:Value},Fn Tryz.prog 55 #[pz lf,.agg t.cells.toArray] (R*pt lf (cl [pz d,pv,tw,pz r,qv,uv] 127)*Dev d s*RDev r s) (λ v B=>v= .bool true/\ B=R*LifA lf d r none s):=λ {R pv tw qv uv}=>by
      refine Fn.weak (stepO_c (F:=R) rfl hls h10) ?_;rintro v B ⟨pp,lg,q,rl,rfl,rfl⟩;exact ⟨_,λ g w h=>lif_nil (pp:=pp) (lg:=lg) (q:=q) (rl:=rl) (h.perm (by ac_rfl)),rfl,rfl⟩
    cases st with
    |none=>
      refine fn_lif_nil λ pp lg q rl=> ?_
      rw [show F*(pt lf (cl [pz d,pz pp,.pointer none,pz r,pz q,.pointer none] 127)*pt pp (cl (pocs lg d none) 110)*pt lg (cl (lcs11 d 128 576) 99)*Dev d s*pt q (cl [pz r,pz rl,.pointer none] 235)*pt rl (cl [pz r,vn 128,vn 576] 233)*RDev r s)=F*pt pp (cl (pocs lg d none) 110)*pt lg (cl (lcs11 d 128 576) 99)*pt q (cl [pz r,pz rl,.pointer none] 235)*pt rl (cl [pz r,vn 128,vn 576] 233)*pt lf (cl [pz d,pz pp,.pointer none,pz r,pz q,.pointer none] 127)*Dev d s*RDev r s by ac_rfl]
      refine Fn.weak key ?_;rintro v B ⟨rfl,rfl⟩;exact ⟨F*LifA lf d r none s,λ g w h=>Dr.sat drqz g w h,none,s,rfl,hgk,rfl⟩
    |some x=>
      refine fn_lif_t λ pp lg q rl tp mb tr g w hs=> ?_
      obtain ⟨Z,h1,h2⟩:=tx_open (R:=F*pt lf (cl [pz d,pz pp,pz tp,pz r,pz q,pz tr] 127)) (hs.perm (by ac_rfl));refine Fn.weak (key (R:=F*Z*pt pp (cl (pocs lg d (if x.isNone=true then none else some tp)) 110)*pt lg (cl (lcs11 d 128 576) 99)*pt q (cl [pz r,pz rl,.pointer ((if x.isNone=true then none else some tr:Option Nat).map λ t=>(⟨t,0,none⟩:Addr))] 235)*pt rl (cl [pz r,vn 128,vn 576] 233)) (pv:=(pz pp)) (tw:=(pz tp)) (qv:=(pz q)) (uv:=(pz tr))) ?_ g w (h1.perm (by ac_rfl));rintro v B ⟨rfl,rfl⟩;exact ⟨F*LifA lf d r none s,λ g w h=>Dr.sat drqz g w h,none,s,rfl,hgk,rfl⟩
  by_cases hT:t.k≠1/\ t.k≠8/\ t.k≠9/\ t.k≠10/\ t.k≠11/\ t.k≠12/\ t.k≠13/\ t.k≠14
  · -- a transaction's step
    refine stepT_c hT λ b3=> ?_
    cases st with
    |none=>
      rw [show F*LifA lf d r none s*pt b3 (cl (op12 t.k t.p t.n t.ba t.X.length t.bc t.ka t.kp.length t.kc) 116)=F*pt b3 (cl (op12 t.k t.p t.n t.ba t.X.length t.bc t.ka t.kp.length t.kc) 116)*LifA lf d r none s by ac_rfl]
      refine fn_lif_nil λ pp lg q rl=> ?_
      rw [show F*pt b3 (cl (op12 t.k t.p t.n t.ba t.X.length t.bc t.ka t.kp.length t.kc) 116)*(pt lf (cl [pz d,pz pp,.pointer none,pz r,pz q,.pointer none] 127)*pt pp (cl (pocs lg d none) 110)*pt lg (cl (lcs11 d 128 576) 99)*Dev d s*pt q (cl [pz r,pz rl,.pointer none] 235)*pt rl (cl [pz r,vn 128,vn 576] 233)*RDev r s)=F*pt b3 (cl (op12 t.k t.p t.n t.ba t.X.length t.bc t.ka t.kp.length t.kc) 116)*pt pp (cl (pocs lg d none) 110)*pt lg (cl (lcs11 d 128 576) 99)*Dev d s*pt q (cl [pz r,pz rl,.pointer none] 235)*pt rl (cl [pz r,vn 128,vn 576] 233)*RDev r s*pt lf (cl [pz d,pz pp,.pointer none,pz r,pz q,.pointer none] 127) by ac_rfl]
      refine Fn.weak (lin_nil rfl) ?_;rintro v B ⟨rfl,rfl⟩;refine ⟨F*LifA lf d r none s,λ g w h=> ?_,none,s,rfl,hgk,rfl⟩;exact Dr.sat (A':=F*LifA lf d r none s) drqz g w ((lif_nil (R:=F*pt b3 (cl (op12 t.k t.p t.n t.ba t.X.length t.bc t.ka t.kp.length t.kc) 116)) (h.perm (by ac_rfl))))
    |some x=>
      rw [show F*LifA lf d r (some x) s*pt b3 (cl (op12 t.k t.p t.n t.ba t.X.length t.bc t.ka t.kp.length t.kc) 116)=F*pt b3 (cl (op12 t.k t.p t.n t.ba t.X.length t.bc t.ka t.kp.length t.kc) 116)*LifA lf d r (some x) s by ac_rfl]
      refine fn_lif_t λ pp lg q rl tp mb tr=> ?_
      refine Fn.weak (lin_c (F:=F*pt b3 (cl (op12 t.k t.p t.n t.ba t.X.length t.bc t.ka t.kp.length t.kc) 116)) (tp:=tp) (pp:=pp) (tr:=tr) (q:=q) (lg:=lg) (rl:=rl) (mb:=mb) (x:=x) (k:=k) (X:=t.X) (by ac_rfl) hls (hg.le oqz) hw.p hw.n hw.brs.left rfl hw.bby oqz) ?_;rintro v B ⟨y,s2,rfl,hg2,rfl⟩;refine ⟨F*LifA lf d r (some y) s2,λ g w h=> ?_,some y,s2,rfl,hg2,rfl⟩;exact Dr.sat (A':=F*LifA lf d r (some y) s2) drqz g w (lif_t (R:=F*pt b3 (cl (op12 t.k t.p t.n t.ba t.X.length t.bc t.ka t.kp.length t.kc) 116)) (h.perm (by ac_rfl)))
  cases st with
  |none=>
    refine fn_lif_nil λ pp lg q rl=> ?_
    by_cases hb:t.k=1/\ bgnB 128 576 false s=0
    . rw [show F*(pt lf (cl [pz d,pz pp,.pointer none,pz r,pz q,.pointer none] 127)*pt pp (cl (pocs lg d none) 110)*pt lg (cl (lcs11 d 128 576) 99)*Dev d s*pt q (cl [pz r,pz rl,.pointer none] 235)*pt rl (cl [pz r,vn 128,vn 576] 233)*RDev r s)=F*pt lf (cl [pz d,pz pp,.pointer none,pz r,pz q,.pointer none] 127)*pt pp (cl (pocs lg d none) 110)*pt lg (cl (lcs11 d 128 576) 99)*Dev d s*pt q (cl [pz r,pz rl,.pointer none] 235)*pt rl (cl [pz r,vn 128,vn 576] 233)*RDev r s by ac_rfl]
      refine Fn.weak (stepB_c (F:=F) rfl hls hb.2 hb.1) ?_;rintro v B ⟨tp,mb,tr,rfl,rfl⟩;refine ⟨F*LifA lf d r (some (some tf0)) s,λ g w h=> ?_,some (some tf0),s,rfl,hgk,rfl⟩;exact lif_t (x:=some tf0) (pp:=pp) (lg:=lg) (q:=q) (rl:=rl) (tp:=tp) (mb:=mb) (tr:=tr) (txp_new (txr_new (tr:=tr) (q:=q) (r:=r) (rl:=rl) (s:=s) (R:=F*pt lf (cl [pz d,pz pp,pz tp,pz r,pz q,pz tr] 127)*TxA tp pp lg d mb 128 576 ⟨[],0⟩ false s) (h.perm (by ac_rfl))))
    rw [show F*(pt lf (cl [pz d,pz pp,.pointer none,pz r,pz q,.pointer none] 127)*pt pp (cl (pocs lg d none) 110)*pt lg (cl (lcs11 d 128 576) 99)*Dev d s*pt q (cl [pz r,pz rl,.pointer none] 235)*pt rl (cl [pz r,vn 128,vn 576] 233)*RDev r s)=F*pt lf (cl [pz d,pz pp,.pointer none,pz r,pz q,.pointer none] 127)*pt pp (cl (pocs lg d none) 110)*pt lg (cl (lcs11 d 128 576) 99)*Dev d s*pt q (cl [pz r,pz rl,.pointer none] 235)*pt rl (cl [pz r,vn 128,vn 576] 233)*RDev r s by ac_rfl]
    refine Fn.weak (stepP_c (F:=F) (ov:=none) (ov2:=none) (k:=k) (X:=t.X) (kp:=t.kp) rfl rfl hls hw.p hw.n hw.brs rfl hw.bby oqz hw.bcap hw.krs rfl hw.kcap hkb oqz (hg.le oqz) (by simp only [Option.isSome_none];omega)) ?_;rintro v B ⟨s2,rfl,hg2,rfl⟩;exact ⟨F*LifA lf d r none s2,λ g w h=>lif_nil (h.perm (by unfold pavS;simp only [Option.map_none];ac_rfl)),none,s2,rfl,hg2,rfl⟩
  |some x=>
    refine fn_lif_t λ pp lg q rl tp mb tr g w hs=> ?_
    obtain ⟨Z,h1,h2⟩:=tx_open (R:=F*pt lf (cl [pz d,pz pp,pz tp,pz r,pz q,pz tr] 127)) (hs.perm (by ac_rfl))
    by_cases hb:t.k=1/\ bgnB 128 576 (if x.isNone=true then none else some tp:Option Nat).isSome s=0
    . obtain ⟨_,hx,_⟩:=bgn_ok hb.2
      have hxn:(if x.isNone=true then none else some tp:Option Nat)=none:=by cases hq:(if x.isNone=true then none else some tp:Option Nat) with
        |none=>rfl
        |some _=>rw [hq] at hx;simp at hx
      have hxn2:(if x.isNone=true then none else some tr:Option Nat)=none:=by cases x with
        |none=>rfl
        |some _=>simp at hxn
      have hb2:=hb.2;rw [hxn] at hb2
      rw [hxn,hxn2] at h1
      simp only [Option.map_none] at h1
      refine Fn.weak (stepB_c (lf:=lf) (d:=d) (r:=r) (pp:=pp) (q:=q) (lg:=lg) (rl:=rl) (s:=s) (F:=F*Z) (tw:=(pz tp)) (uv:=(pz tr)) rfl hls hb2 hb.1) ?_ g w (h1.perm (by ac_rfl));rintro v B ⟨tp,mb,tr,rfl,rfl⟩;refine ⟨F*LifA lf d r (some (some tf0)) s,λ g w h=> ?_,some (some tf0),s,rfl,hgk,rfl⟩;exact Dr.sat (A':=F*LifA lf d r (some (some tf0)) s) drqz g w (lif_t (R:=F*Z) (x:=some tf0) (pp:=pp) (lg:=lg) (q:=q) (rl:=rl) (tp:=tp) (mb:=mb) (tr:=tr) (txp_new (txr_new (tr:=tr) (q:=q) (r:=r) (rl:=rl) (s:=s) (R:=F*Z*pt lf (cl [pz d,pz pp,pz tp,pz r,pz q,pz tr] 127)*TxA tp pp lg d mb 128 576 ⟨[],0⟩ false s) (h.perm (by ac_rfl)))))
    refine Fn.weak (stepP_c (lf:=lf) (d:=d) (r:=r) (pp:=pp) (q:=q) (lg:=lg) (rl:=rl) (s:=s) (F:=F*Z) (ov:=if x.isNone=true then none else some tp) (ov2:=if x.isNone=true then none else some tr) (tw:=(pz tp)) (uv:=(pz tr)) (k:=k) (X:=t.X) (kp:=t.kp) rfl (by cases x<;>rfl) hls hw.p hw.n hw.brs.left rfl hw.bby oqz hw.bcap hw.krs.left rfl hw.kcap hkb oqz (hg.le oqz) oqz) ?_ g w (h1.perm (by ac_rfl));rintro v B ⟨s2,rfl,hg2,rfl⟩;refine ⟨F*LifA lf d r (some x) s2,λ g w h=> ?_,some x,s2,rfl,hg2,rfl⟩;exact lif_t ((h2 (F*pt lf (cl [pz d,pz pp,pz tp,pz r,pz q,pz tr] 127)) s2 hg2.len g w (h.perm (by unfold pavS;ac_rfl))).perm (by ac_rfl))
theorem wpAnyH_hold {P:Program}{ops:Array Oper}{Q:Exit->Act->World->Prop}{S1 S2:World->Prop}(h12:∀w,S2 w->S1 w):∀ (fuel:Nat) (listed:Array Bool) (a:Act) (w:World),wpAnyH P .any ops Q S2 fuel listed a w->wpAnyH P .any ops Q S1 fuel listed a w
  |0,_,_,_,h=>h
  |fuel+1,_,_,_,h=>⟨h.1,λ i hi=>wpOp_mono (λ a' w' h'=>⟨h12 _ h'.1,wpAnyH_hold h12 fuel _ a' w' h'.2⟩) (h.2 i hi)⟩
theorem th_hold {P:Program}{n:Nat}{ops:Array Oper}{Q:Post}{S:SP}(S2:SP){fuel:Nat}{listed:Array Bool}{ρ:Env}{A:SP}(hd:Dr A S2)(h2:Dr S2 S)(h:TH P n ops Q S2 fuel listed ρ A):TH P n ops Q S fuel listed ρ A:=λ g a w ha hs _=>
  wpAnyH_hold (λ w' h'=>h2.sat _ _ h') fuel listed a w (h g a w ha hs (hd.sat _ _ hs))
theorem lif_open {R:SP}{lf d r:Nat}{st:Option (Option TF)}{s:DevS}{g:Gh}{w:World}(hs:sat g w (R*LifA lf d r st s)):
    ∃ (v1 v2 v3 v4:Value) (Y:SP),sat g w (R*pt lf (cl [pz d,v1,v2,pz r,v3,v4] 127)*Dev d s*RDev r s*Y)/\∀ (R:SP) g w,sat g w (R*pt lf (cl [pz d,v1,v2,pz r,v3,v4] 127)*Dev d s*RDev r s*Y)->sat g w (R*LifA lf d r st s):=by
  cases st with
  |none=>
    obtain ⟨_,⟨a,b,hd,rfl,ha,pp,lg,q,rl,hb⟩,hx⟩:=hs.hp;have h1:sat g w (R*(pt lf (cl [pz d,pz pp,.pointer none,pz r,pz q,.pointer none] 127)*pt pp (cl (pocs lg d none) 110)*pt lg (cl (lcs11 d 128 576) 99)*Dev d s*pt q (cl [pz r,pz rl,.pointer none] 235)*pt rl (cl [pz r,vn 128,vn 576] 233)*RDev r s)):=⟨hs.os,hs.tape,hs.out,_,⟨a,b,hd,rfl,ha,hb⟩,hx⟩;refine ⟨.pointer (some ⟨pp,0,none⟩),.pointer none,pz q,.pointer none,pt pp (cl (pocs lg d none) 110)*pt lg (cl (lcs11 d 128 576) 99)*pt q (cl [pz r,pz rl,.pointer none] 235)*pt rl (cl [pz r,vn 128,vn 576] 233),h1.perm (by ac_rfl),λ R g w h=>lif_nil (pp:=pp) (lg:=lg) (q:=q) (rl:=rl) (h.perm (by ac_rfl))⟩
  |some x=>
    obtain ⟨_,⟨a,b,hd,rfl,ha,pp,lg,q,rl,tp,mb,tr,hb⟩,hx⟩:=hs.hp;have h1:sat g w (R*(pt lf (cl [pz d,pz pp,pz tp,pz r,pz q,pz tr] 127)*TxP tp pp lg d mb 128 576 1024 x s*TxX tr q r rl 128 576 x s)):=⟨hs.os,hs.tape,hs.out,_,⟨a,b,hd,rfl,ha,hb⟩,hx⟩;obtain ⟨Z,h2,h3⟩:=tx_open (R:=R*pt lf (cl [pz d,pz pp,pz tp,pz r,pz q,pz tr] 127)) (h1.perm (by ac_rfl));refine ⟨.pointer (some ⟨pp,0,none⟩),pz tp,pz q,pz tr,Z*pt pp (cl (pocs lg d (if x.isNone=true then none else some tp)) 110)*pt lg (cl (lcs11 d 128 576) 99)*pt q (cl [pz r,pz rl,.pointer ((if x.isNone=true then none else some tr:Option Nat).map λ t=>(⟨t,0,none⟩:Addr))] 235)*pt rl (cl [pz r,vn 128,vn 576] 233),h2.perm (by ac_rfl),λ R g w h=>lif_t (pp:=pp) (lg:=lg) (q:=q) (rl:=rl) (tp:=tp) (mb:=mb) (tr:=tr) ((h3 (R*pt lf (cl [pz d,pz pp,pz tp,pz r,pz q,pz tr] 127)) s rfl g w (h.perm (by ac_rfl))).perm (by ac_rfl))⟩
theorem step12_o {F:SP}{lf d r k:Nat}{st:Option (Option TF)}{s:DevS}{t:Op12U}(hw:Op12W F t)(hsz:t.sz<=1048576)(hls:s.ls.length=16)(hg:Gd s.ls.length (3300+t.X.length+k) s):
    Fn Tryz.prog 55 #[pz lf,.agg t.cells.toArray] (F*LifA lf d r st s) (λ v B=>∃ (st2:Option (Option TF)) (s2:DevS) (v1 v2 v3 v4:Value) (Y:SP),v= .bool true/\ Gd s.ls.length k s2/\ (∀ (R:SP) g w,sat g w (R*pt lf (cl [pz d,v1,v2,pz r,v3,v4] 127)*Dev d s2*RDev r s2*Y)->sat g w (R*LifA lf d r st2 s2))/\ B=F*pt lf (cl [pz d,v1,v2,pz r,v3,v4] 127)*Dev d s2*RDev r s2*Y):=λ g w hs=>
  (step12_c rfl hw hsz hls hg g w hs).mono λ _ _ ⟨v,B,e,⟨st2,s2,h1,h2,h3⟩,hB⟩=>by
    subst h3;obtain ⟨v1,v2,v3,v4,Y,h4,h5⟩:=lif_open hB;exact ⟨v,_,e,⟨st2,s2,v1,v2,v3,v4,Y,h1,h2,h5,rfl⟩,h4⟩
def w12 (l:List Op12U)(i:Nat):Nat:=((l.drop i).map λ t=>3300+t.X.length).sum
theorem w12_at {l:List Op12U}{i:Nat}(h:i<l.length):w12 l i=3300+l[i].X.length+w12 l (i+1):=by unfold w12;rw [List.drop_eq_getElem_cons h,List.map_cons,List.sum_cons]
theorem w12_le:∀ (l:List Op12U),(l.map λ t=>3300+t.X.length).sum<=3301*(l.map Op12U.sz).sum
  |[]=>by simp
  |t::l=>by
    have:=w12_le l
    simp only [List.map_cons,List.sum_cons]
    have h2:t.X.length+1<=t.sz:=(by unfold Op12U.sz;omega)
    omega
theorem w12_sz {l:List Op12U}{t:Op12U}(h:t∈l):t.sz<=(l.map Op12U.sz).sum:=by
  induction l with
  |nil=>simp at h
  |cons y l ih=>
    simp only [List.map_cons,List.sum_cons]
    rcases List.mem_cons.1 h with rfl|h
    . omega
    have:=ih h;omega
theorem w12_len:∀{l:List Op12U},l.length<=(l.map Op12U.sz).sum
  |[]=>by simp
  |t::l=>by
    have:=w12_len (l:=l)
    simp only [List.map_cons,List.sum_cons,List.length_cons]
    have:1<=t.sz:=(by unfold Op12U.sz;omega)
    omega
def o12s (l:List Op12U):List Value:=l.flatMap Op12U.cells
theorem o12s_n (t:Op12U):t.cells.length=5:=op12_len
theorem o12s_len (l:List Op12U):(o12s l).length=l.length*5:=fm_length (f:=Op12U.cells) (λ t _=>o12s_n t)
theorem o12s_at {l:List Op12U}{i:Nat}(h:i<l.length):((o12s l).drop (i*5)).take 5=l[i].cells:=fm_at (f:=Op12U.cells) (λ t _=>o12s_n t) h
theorem stD_room {xs:List Nat}{m:Nat}(h:m<=2199023255551):Room m (stD xs):=by
  unfold stD
  intro l hl;obtain ⟨j,hj,rfl⟩:=List.mem_iff_getElem.1 hl
  simp only [fromS,List.getElem_mapIdx,lineF,List.length_singleton];omega
attribute [local irreducible] crk crL crc Sl pt ro Dev imgS recS readS recsF rdW rdO rkT Parts rvl recordsS runsL adrF kcl xcl kys runA runsF layF ovF TxA adZ WkA SlB blkS conB imF RDev lineC RLines TxR TxE ldT TxP TxX op12 eX oX lX dX rX cX LifA fromS stD stI
theorem TxnPlays_f {F:SP}{a sa:Option Addr}{m c sc:Nat}{xs:List Nat}{ts:List Op12U}(hir:Rs F a (bys xs))(hm:xs.length=m)(hib:∀x∈xs,x<256)(hml:m<=1048576)(hsr:Rs F sa (o12s ts))(hst:∀t∈ts,Op12W F t)(hsz:(ts.map Op12U.sz).sum<=1048576):
    Fn Tryz.prog 9 #[.slice a m c,.slice sa ts.length sc] (F) (λ v B=>v= .bool true/\ B=F):=by
  refine fn_enterW func9 rfl ntmps9 (by simp) ?_;have hw0:w12 ts 0<=3301*(ts.map Op12U.sz).sum:=w12_le ts;have htl:=w12_len (l:=ts);have hdl:=stD_len xs;have hrm:Room (w12 ts 0) (stD xs):=stD_room oqz;have hwf0:WfD (stD xs):=(by unfold stD;exact fromS_wf (by decide) (by decide) (stI_b hib));refine Zbz ?_;refine tl_c rfl (o_call bd50 rfl (Sized_c (n:=1024) (xs:=xs))) ?_;rintro _ _ ⟨a15,c15,rfl,hc15,rfl⟩;refine Zhk ?_;refine tc_loop (λ kk ρ BB=>∃ (k:Nat),(k<=8)/\ kk=8-k/\ ρ 6=(vn (128+k))/\ ρ 1= .slice sa ts.length sc/\ ρ 5= .slice a15 1024 c15/\ Dr BB (F*Sl 1 (.slice a15 1024 c15) 1024 (bys (stZ xs k)))) (m:=8-(0)) ?_ ?_
  . exact ⟨0,by omega,rfl,rfl,rfl,rfl,by rw [stZ_zero];repeat (first|with_reducible exact dr_refl|apply dr_keep|apply dr_drop)⟩
  intro k ρ B hI;obtain ⟨k,hq0,hkk1,hE6,hE1,hE5,hBA⟩:=hI;refine tc_pre hBA.sat ?_;clear hBA;refine te 6 hE6 ?_;refine te 1 hE1 ?_;refine te 5 hE5 ?_;refine Zlb ?_;refine tc_cond rfl (λ h=> ?_) (λ h=> ?_)
  . have hk:k<8:=(by first|omega|(simp at h;omega));have hkl:=stz_len xs (show k<=8 by omega);refine Zbe ?_;refine Zfn ?_;refine tv (o_ixP1 underlying57 sz5 rfl rfl oqz (nn_rs rs_sl (by rw [bys_length];omega))) ?_;refine tl_u rfl (o_stP (ys:=bys (stZ xs (k+1))) sz5 rfl rfl rfl ctqz oqz (by rw [←stZ_succ xs hk];exact bys_set _ _ 0)) ?_;refine Zjx ?_;exact ⟨_,by omega,k+1,by omega,rfl,rfl,rfl,rfl,drqz⟩
  obtain rfl:k=8:=by first|omega|(simp at h;omega)
  rw [show (stZ xs 8)=stI xs by unfold stI;rfl]
  refine Zdx ?_;refine tl_c rfl (o_call bd52 rfl (CopyBytes_c (xs:=stI xs) (hm:=stI_len xs))) ?_;rintro _ _ ⟨a25,c25,rfl,hc25,rfl⟩;refine tl_c rfl (o_call bd51 rfl (From_c (n:=16) (xs:=stI xs) (hr:=rs_sl) (hx:=stI_len xs) (hb:=stI_b hib))) ?_;rintro _ _ ⟨d26,rfl,rfl⟩;rw [show fromS 16 (stI xs)=stD xs by unfold stD;rfl]
  refine Zit ?_;refine tl_c rfl (o_call bd53 rfl (rFrom_c (n:=16) (xs:=stI xs) (hr:=by repeat (first|with_reducible exact rs_sl|apply Rs.left)) (hx:=stI_len xs) (hb:=stI_b hib))) ?_;rintro _ _ ⟨d31,rfl,rfl⟩;rw [show fromS 16 (stI xs)=stD xs by unfold stD;rfl]
  refine Zb1 ?_;refine Z0 ?_;refine Zb7 ?_;refine tv (o_bS (l:=[pz d26,.pointer none,.pointer none,pz d31,.pointer none,.pointer none]) (pv_cons wqz (pv_cons wqz pv_nil)) underlying127 z127 (pl127 underlying127) rfl) ?_;refine tl_x rfl (o_box rfl (l:=[pz d26,.pointer none,.pointer none,pz d31,.pointer none,.pointer none]) rfl) ?_;rintro _ _ ⟨b37,rfl,rfl⟩;refine Zd1 ?_;refine Zdr ?_;refine tl_bool (d:=40) rfl dbq (sbq ?_);intro h;refine tlm ?_;refine tl_c rfl (o_call bd54 rfl (lopen_c (F:=F*Sl 1 (.slice a15 1024 c15) 1024 (bys (stI xs))*Sl 1 (.slice a25 1024 c25) 1024 (bys (stI xs))) (d:=d26) (r:=d31) (s:=stD xs) (hA:=by ac_rfl) (hls:=hdl))) ?_;rintro _ _ ⟨p42,l42,q42,k42,rfl,rfl⟩;refine tv (o_not rfl) ?_;refine Zd6 ?_;intro h;refine Zjy ?_;refine tc_pre (A':=F*pt b37 (cl [pz d26,pz p42,.pointer none,pz d31,pz q42,.pointer none] 127)*Dev d26 (stD xs)*RDev d31 (stD xs)*(pt l42 (cl (lcs11 d26 128 576) 99)*pt p42 (cl (pocs l42 d26 none) 110)*pt k42 (cl [pz d31,vn 128,vn 576] 233)*pt q42 (cl [pz d31,pz k42,.pointer none] 235))) (λ g w h=>(Dr.sat (A':=F*pt b37 (cl [pz d26,pz p42,.pointer none,pz d31,pz q42,.pointer none] 127)*Dev d26 (stD xs)*RDev d31 (stD xs)*pt l42 (cl (lcs11 d26 128 576) 99)*pt p42 (cl (pocs l42 d26 none) 110)*pt k42 (cl [pz d31,vn 128,vn 576] 233)*pt q42 (cl [pz d31,pz k42,.pointer none] 235)) drqz g w h).perm (by ac_rfl)) ?_;refine tc_loop (λ kk ρ BB=>∃ (i:Nat) (s1:DevS) (st:Option (Option TF)) (v1:Value) (v2:Value) (v3:Value) (v4:Value) (Y:SP),(i<=ts.length)/\ (s1.ls.length=16)/\ (Gd s1.ls.length (w12 ts i) s1)/\ (∀ (R:SP) g w,sat g w (R*pt b37 (cl [pz d26,v1,v2,pz d31,v3,v4] 127)*Dev d26 s1*RDev d31 s1*Y)->sat g w (R*LifA b37 d26 d31 st s1))/\ kk=ts.length-i/\ ρ 12=(vn i)/\ ρ 1= .slice sa ts.length sc/\ ρ 11=(pz b37)/\ Dr BB (F*pt b37 (cl [pz d26,v1,v2,pz d31,v3,v4] 127)*Dev d26 s1*RDev d31 s1*Y)) (m:=ts.length-(0)) ?_ ?_
  . exact ⟨0,stD xs,none,pz p42,.pointer none,pz q42,.pointer none,pt l42 (cl (lcs11 d26 128 576) 99)*pt p42 (cl (pocs l42 d26 none) 110)*pt k42 (cl [pz d31,vn 128,vn 576] 233)*pt q42 (cl [pz d31,pz k42,.pointer none] 235),by omega,hdl,⟨rfl,hrm,hwf0⟩,λ R g w h=>lif_nil (pp:=p42) (lg:=l42) (q:=q42) (rl:=k42) (h.perm (by ac_rfl)),rfl,rfl,rfl,rfl,drqz⟩
  intro k ρ B hI;obtain ⟨i,s1,st,v1,v2,v3,v4,Y,hp0,hp1,hp2,hp3,hkk2,hE12,hE1,hE11,hBA⟩:=hI;refine tc_pre hBA.sat ?_;clear hBA;refine te 12 hE12 ?_;refine te 1 hE1 ?_;refine te 11 hE11 ?_;refine Zed ?_;refine tv (o_len underlying117 rfl) ?_;refine Zn ?_;refine tc_cond rfl (λ h=> ?_) (λ h=> ?_)
  . have hi:i<ts.length:=(by first|(have h9:=of_decide_eq_true h;omega)|(simp at h;omega));have hwa:=w12_at hi;have hts:=w12_sz (List.getElem_mem hi);refine tc_pre (A':=F*LifA b37 d26 d31 st s1) (λ g w h=>hp3 F g w h) ?_;refine Zly ?_;refine tc_regh (S:=F) mo drqz ?_
    show TH _ _ _ _ _ 47 (Array.replicate 47 false) _ _
    refine Zib ?_;refine tm 3 rfl kqz rfl (o_ixP underlying117 sz116 rfl rfl oqz (by repeat (first|exact nn_rs hsr (λ _=>by rw [o12s_len];omega)|apply Nn.left))) ?_;refine tm 4 rfl kqz rfl (o_ldPN (vs:=ts[i].cells) a116 sz116 rfl (by repeat (first|exact hsr|apply Rs.left)) (o12s_at hi) (o12s_n _) (by decide)) ?_;refine th_one (i:=5) kqz ?_;refine oh_c rfl rfl rfl (o_call bd55 rfl (step12_o (F:=F) (k:=w12 ts (i+1)) (t:=ts[i]) (st:=st) (hst _ (List.getElem_mem hi)) oqz hp1 (hp2.le oqz))) ?_;rintro _ _ ⟨t56,s56,y1,y2,y3,y4,Y56,rfl,hg56,hcl56,rfl⟩;refine ⟨by repeat (first|with_reducible exact dr_refl|apply dr_keep|apply dr_drop), ?_⟩;refine th_hold (F*pt b37 (cl [pz d26,y1,y2,pz d31,y3,y4] 127)*Dev d26 s56*RDev d31 s56*Y56) drqz drqz ?_;refine tm 6 rfl kqz rfl (o_not rfl) ?_;refine tm 7 rfl kqz rfl (o_move wqz) ?_;refine th_bool (d:=58) rfl dbq (sbq ?_);intro h;refine tm 8 rfl kqz rfl (o_move wqz) ?_;refine tm 9 rfl kqz rfl (o_nilCheck rfl) ?_;refine tm 10 rfl kqz rfl (o_fieldAddr (o:=0) underlying127 rfl rfl sz47 rfl) ?_;refine tm 11 rfl kqz rfl (o_load p47 rfl hsqz rfl) ?_;refine tm 13 rfl kqz rfl (o_move wqz) ?_;refine tm 14 rfl kqz rfl (o_nilCheck rfl) ?_;refine tm 15 rfl kqz rfl (o_fieldAddr (o:=3) underlying127 rfl rfl sz48 rfl) ?_;refine tm 16 rfl kqz rfl (o_load p48 rfl hsqz rfl) ?_;refine th_one (i:=12) kqz ?_;refine oh_c rfl rfl rfl (o_call bd56 rfl (Ops_c (s:=s56))) ?_;refine Zt ?_;refine th_one (i:=17) kqz ?_;refine oh_c rfl rfl rfl (o_call bd57 rfl (rOps_c (s:=s56))) ?_;refine Zt ?_;refine tm 18 rfl kqz rfl (o_nei rfl rfl) ?_;refine th_env (d:=69) (v:= .bool false) (by first|(show Value.bool (decide (_≠_))=_;simp)|(show Value.bool (!decide (_=_))=_;simp)) ?_;refine tm 19 rfl kqz rfl (o_pick_f rfl wqz) ?_;refine tm 20 rfl kqz rfl (o_move wqz) ?_;refine th_bool (d:=71) rfl dbq (sbq ?_);intro h;refine tm 21 rfl kqz rfl (o_move wqz) ?_;refine tm 22 rfl kqz rfl (o_nilCheck rfl) ?_;refine tm 23 rfl kqz rfl (o_fieldAddr (o:=0) underlying127 rfl rfl sz47 rfl) ?_;refine tm 24 rfl kqz rfl (o_load p47 rfl hsqz rfl) ?_;refine tm 26 rfl kqz rfl (o_move wqz) ?_;refine tm 27 rfl kqz rfl (o_nilCheck rfl) ?_;refine tm 28 rfl kqz rfl (o_fieldAddr (o:=3) underlying127 rfl rfl sz48 rfl) ?_;refine tm 29 rfl kqz rfl (o_load p48 rfl hsqz rfl) ?_;refine th_one (i:=25) kqz ?_;refine oh_c rfl rfl rfl (o_call bd58 rfl (Off_c (s:=s56))) ?_;refine Zt ?_;refine th_one (i:=30) kqz ?_;refine oh_c rfl rfl rfl (o_call bd59 rfl (rOff_c (s:=s56))) ?_;refine Zt ?_;refine tm 31 rfl kqz rfl (o_neb underlying4 rfl rfl) ?_;refine th_env (d:=82) (v:= .bool false) (by first|(show Value.bool (_ !=_)=_;simp)|(show Value.bool (!decide (_=_))=_;simp)) ?_;refine tm 32 rfl kqz rfl (o_pick_f rfl wqz) ?_;refine tm 33 rfl kqz rfl (o_move wqz) ?_;refine th_bool (d:=84) rfl dbq (sbq ?_);intro h;refine tm 34 rfl kqz rfl (o_move wqz) ?_;refine tm 35 rfl kqz rfl (o_nilCheck rfl) ?_;refine tm 36 rfl kqz rfl (o_fieldAddr (o:=0) underlying127 rfl rfl sz47 rfl) ?_;refine tm 37 rfl kqz rfl (o_load p47 rfl hsqz rfl) ?_;refine tm 39 rfl kqz rfl (o_move wqz) ?_;refine tm 40 rfl kqz rfl (o_nilCheck rfl) ?_;refine tm 41 rfl kqz rfl (o_fieldAddr (o:=3) underlying127 rfl rfl sz48 rfl) ?_;refine tm 42 rfl kqz rfl (o_load p48 rfl hsqz rfl) ?_;refine th_one (i:=38) kqz ?_;refine oh_c rfl rfl rfl (o_call bd36 rfl (Image_c (s:=s56))) ?_;rintro _ _ ⟨a89,c89,rfl,hc89,rfl⟩;refine ⟨by repeat (first|with_reducible exact dr_refl|apply dr_keep|apply dr_drop), ?_⟩;refine th_one (i:=43) kqz ?_;refine oh_c rfl rfl rfl (o_call bd61 rfl (rImage_c (s:=s56))) ?_;rintro _ _ ⟨a94,c94,rfl,hc94,rfl⟩;refine ⟨by repeat (first|with_reducible exact dr_refl|apply dr_keep|apply dr_drop), ?_⟩;refine th_one (i:=44) kqz ?_;refine oh_c rfl rfl rfl (o_call bd60 rfl (EqBytes_c (xs:=imgS s56) (ys:=imgS s56) (hx:=imgS_len hg56.wf) (hy:=imgS_len hg56.wf) (hn:=by rw [hg56.len,hp1];decide) (hm:=by rw [hg56.len,hp1];decide))) ?_;refine Zt ?_;refine th_env (d:=95) (v:= .bool true) (congrArg Value.bool (decide_eq_true rfl)) ?_;refine tm 45 rfl kqz rfl (o_not rfl) ?_;refine tm 46 rfl kqz rfl (o_pick_f rfl wqz) ?_;refine Zba ?_;refine tc_cond rfl dbq (sbq ?_);intro h;refine Zfl ?_;exact ⟨_,by omega,i+1,_,_,_,_,_,_,_,by omega,by rw [hg56.len];exact hp1,⟨rfl,hg56.room,hg56.wf⟩,hcl56,rfl,rfl,rfl,rfl,drqz⟩
  obtain rfl:i=ts.length:=by first|omega|(simp at h;omega)
  refine Zf ?_;refine Zce ?_;refine tc_loop (λ kk ρ BB=>∃ (i:Nat),(i<=16)/\ kk=16-i/\ ρ 13=(vn i)/\ ρ 11=(pz b37)/\ Dr BB (F*pt b37 (cl [pz d26,v1,v2,pz d31,v3,v4] 127)*Dev d26 s1*RDev d31 s1*Y)) (m:=16-(0)) ?_ ?_
  . exact ⟨0,by omega,rfl,rfl,rfl,drqz⟩
  intro k ρ B hI;obtain ⟨i,hq0,hkk3,hE13,hE11,hBA⟩:=hI;refine tc_pre hBA.sat ?_;clear hBA;refine te 13 hE13 ?_;refine te 11 hE11 ?_;refine Zlb ?_;refine tc_cond rfl (λ h=> ?_) (sbq ?_)
  . have hi:i<16:=(by first|(have h9:=of_decide_eq_true h;omega)|(simp at h;omega));obtain ⟨hrn,hrr⟩:=ctS_rows hp2.wf i;refine Zly ?_;refine tc_regh (S:=F*pt b37 (cl [pz d26,v1,v2,pz d31,v3,v4] 127)*Dev d26 s1*RDev d31 s1*Y) mo drqz ?_
    show TH _ _ _ _ _ 14 (Array.replicate 14 false) _ _
    refine Zq ?_;refine Zco ?_;refine tm 4 rfl kqz rfl (o_move wqz) ?_;refine tm 6 rfl kqz rfl (o_move wqz) ?_;refine tm 7 rfl kqz rfl (o_nilCheck rfl) ?_;refine tm 8 rfl kqz rfl (o_fieldAddr (o:=3) underlying127 rfl rfl sz48 rfl) ?_;refine tm 9 rfl kqz rfl (o_load p48 rfl hsqz rfl) ?_;refine tm 10 rfl kqz rfl (o_move wqz) ?_;refine th_one (i:=5) kqz ?_;refine oh_c rfl rfl rfl (o_call bd63 rfl (Contents_any (s:=s1) (q:=i))) ?_;rintro _ _ ⟨a107,c107,vs107,rfl,hc107,rfl⟩;refine Zkl ?_;refine oh_c rfl rfl rfl (o_call bd64 rfl (rContents_any (s:=s1) (q:=i))) ?_;rintro _ _ ⟨a113,c113,vs113,rfl,hc113,rfl⟩;refine ⟨by repeat (first|with_reducible exact dr_refl|apply dr_keep|apply dr_drop), ?_⟩;refine th_have (λ _ _ h=>rwF_parts (F:=F*pt b37 (cl [pz d26,v1,v2,pz d31,v3,v4] 127)*Dev d26 s1*RDev d31 s1*Y*Parts vs107 (ctS i s1)*Sl 1 (.slice a107 (ctS i s1).length c107) (ctS i s1).length vs107) h) λ hw2=> ?_
    refine th_have (λ _ _ h=>rwF_parts (F:=F*pt b37 (cl [pz d26,v1,v2,pz d31,v3,v4] 127)*Dev d26 s1*RDev d31 s1*Y) h.left.left) λ hw1=> ?_
    refine th_one (i:=12) kqz ?_;refine oh_c rfl rfl rfl (o_call bd62 rfl (EqRows_c hw1.left.left hw2 rfl rfl oqz oqz (λ l hl=>by rw [hrr l hl];decide) (λ l hl=>by rw [hrr l hl];decide))) ?_;refine Zt ?_;refine tm 13 rfl kqz rfl (o_not rfl) ?_;refine Zba ?_;refine tc_cond rfl dbq (sbq ?_);intro h;refine Zfl ?_;exact ⟨_,by omega,i+1,by omega,rfl,rfl,rfl,drqz⟩
  intro h;refine Zf ?_;refine sr ?_;refine tl_c rfl (o_call bd27 rfl (works_c)) ?_;refine Zct ?_;exact ⟨.bool true,F,res1 rfl rfl,Dr.sat drqz,rfl,rfl⟩
def POp12 (A:SP)(cs:List Value)(ts:List Op12U):Prop:=∃a cap,cs=[.slice a ts.length cap]/\ ts.length<=cap/\ Rs A a (o12s ts)/\∀t∈ts,Op12W A t
end Go.Vl

namespace Go.Vl
open Go Go.Proofs Go.Proofs.Tryz
def NoP (A:SP)(v:Value):Prop:=v= .pointer none∨∃b,v=(pz b)/\ Has A b (cl [.pointer none,.pointer none,.pointer none] 110)
def NoT (A:SP)(v:Value):Prop:=v= .pointer none∨∃b,v=(pz b)/\ Has A b (cl [.pointer none,.map none,.bool false] 113)
attribute [local irreducible] crk crL crc Sl pt ro Dev imgS recS readS recsF rdW rdO rkT Parts rvl recordsS runsL adrF kcl xcl kys runA runsF layF ovF TxA adZ WkA SlB blkS conB imF RDev lineC RLines TxR TxE ldT TxP TxX op12 eX oX lX dX rX cX
theorem madeZ_cN {A:SP}:
    Fn Tryz.prog 109 #[.pointer none] A (λ r B=>r= .bool false/\ A=B):=by
  refine Zlz ?_;refine tlm ?_;refine tl_bool (d:=5) rfl dbq (sbq ?_);intro h;refine Z8 ?_;refine tk ?_;refine Zd5 ?_;exact ⟨.bool false,A,res1 rfl rfl,Dr.sat drqz,rfl,rfl⟩
theorem madeZ_cB {A:SP}{b:Nat}(hc:Has A b (cl [.pointer none,.pointer none,.pointer none] 110)):
    Fn Tryz.prog 109 #[pz b] A (λ r B=>r= .bool false/\ A=B):=by
  refine Zlz ?_;refine tlm ?_;refine tl_bool (d:=5) rfl (sbq ?_) dbq;intro h;refine Zw ?_;refine tv (o_fieldAddr (o:=0) underlying110 rfl rfl sz47 rfl) ?_;refine tv (o_load p47 rfl hc rfl) ?_;refine tv (o_nep underlying47 rfl rfl) ?_;refine Ze6 ?_;exact ⟨.bool false,A,res1 rfl rfl,Dr.sat drqz,rfl,rfl⟩
theorem madeZ_c {A:SP}{v:Value}(h0:NoP A v:=by assumption):Fn Tryz.prog 109 #[v] A (λ r B=>r= .bool false/\ A=B):=by
  rcases h0 with rfl|⟨b,rfl,hc⟩
  . exact madeZ_cN
  exact madeZ_cB hc
theorem Ziw {p r:Prop}(k:r)(h:Kq r->p:=by intro k;refine tl_c rfl (o_call bd109 rfl (madeZ_c)) ?_;refine Zbi ?_;exact k.o):p:=h ⟨k⟩
theorem SizeP0_c {A:SP}{v:Value}(h0:NoP A v:=by assumption):
    Fn Tryz.prog 45 #[v] A (λ r B=>r= .int .i64 0/\ A=B):=by
  refine fn_enterW func45 rfl ntmps45 (by simp) ?_;refine Zcl ?_;refine Ziw ?_;refine Zdt ?_;intro h;refine Zb6 ?_;exact ⟨.int .i64 0,A,res1 rfl rfl,Dr.sat drqz,rfl,rfl⟩
theorem LoadP0_c {A:SP}{v:Value}(h0:NoP A v:=by assumption):
    Fn Tryz.prog 40 #[v,.int .i64 0,.int .i64 0] A (λ r B=>r= .tuple #[.slice none 0 0,.int .i64 1]/\ A=B):=by
  refine Zka ?_;refine Ziw ?_;refine Zdt ?_;intro h;refine Zgs ?_;exact ⟨.tuple #[.slice none 0 0,.int .i64 1],A,res2 rfl rfl rfl,Dr.sat drqz,rfl,rfl⟩
theorem StateP0_c {A:SP}{v:Value}(h0:NoP A v:=by assumption):
    Fn Tryz.prog 44 #[v] A (λ r B=>r= .int .i64 1/\ A=B):=by
  refine fn_enterW func44 rfl ntmps44 (by simp) ?_;refine Zcl ?_;refine Ziw ?_;refine Zdt ?_;intro h;refine Zb6 ?_;exact ⟨.int .i64 1,A,res1 rfl rfl,Dr.sat drqz,rfl,rfl⟩
theorem idleP0_c {A:SP}{v:Value}(h0:NoP A v:=by assumption):
    Fn Tryz.prog 111 #[v] A (λ r B=>r= .int .i64 1/\ A=B):=by
  refine fn_enterW func111 rfl ntmps111 (by simp) ?_;refine Zg8 ?_;refine Ziw ?_;refine Zif ?_;intro h;refine Zhl ?_;exact ⟨.int .i64 1,A,res1 rfl rfl,Dr.sat drqz,rfl,rfl⟩
theorem RecoverP0_c {A:SP}{v:Value}(h0:NoP A v:=by assumption):
    Fn Tryz.prog 41 #[v] A (λ r B=>r= .tuple #[.int .i64 0,.int .i64 1]/\ A=B):=by
  refine fn_enterW func41 rfl ntmps41 (by simp) ?_;refine Zc3 ?_;refine tl_c rfl (o_call bd111 rfl (idleP0_c)) ?_;refine Zkj ?_;intro h;refine Ze1 ?_;exact ⟨.tuple #[.int .i64 0,.int .i64 1],A,res2 rfl rfl rfl,Dr.sat drqz,rfl,rfl⟩
theorem BeginP0_c {A:SP}{v:Value}(h0:NoP A v:=by assumption):
    Fn Tryz.prog 42 #[v] A (λ r B=>r= .tuple #[.pointer none,.int .i64 1]/\ A=B):=by
  refine fn_enterW func42 rfl ntmps42 (by simp) ?_;refine Zc3 ?_;refine tl_c rfl (o_call bd111 rfl (idleP0_c)) ?_;refine Zkj ?_;intro h;refine Ze1 ?_;exact ⟨.tuple #[.pointer none,.int .i64 1],A,res2 rfl rfl rfl,Dr.sat drqz,rfl,rfl⟩
theorem begunZ_cN {A:SP}:
    Fn Tryz.prog 95 #[.pointer none] A (λ r B=>r= .int .i64 1/\ A=B):=by
  refine Zht ?_;refine Zcc ?_;refine tl_bool (d:=6) rfl (sbq ?_) dbq;intro h;refine Zk2 ?_;refine Za ?_;refine tc_cond_t rfl ?_;refine Zhl ?_;exact ⟨.int .i64 1,A,res1 rfl rfl,Dr.sat drqz,rfl,rfl⟩
theorem begunZ_cB {A:SP}{b:Nat}(hc:Has A b (cl [.pointer none,.map none,.bool false] 113)):
    Fn Tryz.prog 95 #[pz b] A (λ r B=>r= .int .i64 1/\ A=B):=by
  refine Zht ?_;refine Zf2 ?_;intro h;refine Zc8 ?_;refine tv (o_load p69 rfl hc rfl) ?_;refine Zd8 ?_;refine Zif ?_;intro h;refine Zhl ?_;exact ⟨.int .i64 1,A,res1 rfl rfl,Dr.sat drqz,rfl,rfl⟩
theorem begunZ_c {A:SP}{v:Value}(h0:NoT A v:=by assumption):Fn Tryz.prog 95 #[v] A (λ r B=>r= .int .i64 1/\ A=B):=by
  rcases h0 with rfl|⟨b,rfl,hc⟩
  . exact begunZ_cN
  exact begunZ_cB hc
theorem LoadT0_c {A:SP}{v:Value}(h0:NoT A v:=by assumption):
    Fn Tryz.prog 43 #[v,.int .i64 0,.int .i64 0] A (λ r B=>r= .tuple #[.slice none 0 0,.int .i64 1]/\ A=B):=by
  refine Zkc ?_;refine tl_c rfl (o_call bd95 rfl (begunZ_c)) ?_;refine Zkj ?_;intro h;refine Ze1 ?_;exact ⟨.tuple #[.slice none 0 0,.int .i64 1],A,res2 rfl rfl rfl,Dr.sat drqz,rfl,rfl⟩
theorem layZ_c {A:SP}{v:Value}(h0:NoT A v:=by assumption){fr:Bool}:
    Fn Tryz.prog 113 #[v,.int .i64 0,.slice none 0 0,.bool fr] A (λ r B=>r= .int .i64 1/\ A=B):=by
  refine Zj3 ?_;refine tl_c rfl (o_call bd95 rfl (begunZ_c)) ?_;refine Zkj ?_;intro h;refine Zge ?_;exact ⟨.int .i64 1,A,res1 rfl rfl,Dr.sat drqz,rfl,rfl⟩
theorem StoreT0_c {A:SP}{v:Value}(h0:NoT A v:=by assumption):
    Fn Tryz.prog 46 #[v,.int .i64 0,.slice none 0 0] A (λ r B=>r= .int .i64 1/\ A=B):=by
  refine Zgb ?_;refine tl_c rfl (o_call bd113 rfl (layZ_c)) ?_;refine Zct ?_;exact ⟨.int .i64 1,A,res1 rfl rfl,Dr.sat drqz,rfl,rfl⟩
theorem FreshT0_c {A:SP}{v:Value}(h0:NoT A v:=by assumption):
    Fn Tryz.prog 47 #[v,.int .i64 0,.slice none 0 0] A (λ r B=>r= .int .i64 1/\ A=B):=by
  refine Zgc ?_;refine tl_c rfl (o_call bd113 rfl (layZ_c)) ?_;refine Zct ?_;exact ⟨.int .i64 1,A,res1 rfl rfl,Dr.sat drqz,rfl,rfl⟩
theorem CommitT0_c {A:SP}{v:Value}(h0:NoT A v:=by assumption):
    Fn Tryz.prog 32 #[v] A (λ r B=>r= .int .i64 1/\ A=B):=by
  refine Zhw ?_;refine tc_scope (l:=0) (λ _ _=>False) rfl (λ _ _ h=>h.elim) ?_;intro hsc;refine Zb ?_;refine tl_c rfl (o_call bd95 rfl (begunZ_c)) ?_;refine Ziv ?_;intro h;refine Zjk ?_;refine q_then_r (q_sc_r ?_);exact ⟨.int .i64 1,A,res1 rfl rfl,Dr.sat drqz,rfl,rfl⟩
theorem DropZ_cN {A:SP}:
    Fn Tryz.prog 48 #[.pointer none] A (λ r B=>r= .int .i64 1/\ A=B):=by
  refine Zkb ?_;refine Zcc ?_;refine tl_bool (d:=6) rfl (sbq ?_) dbq;intro h;refine Zk2 ?_;refine Za ?_;refine tc_cond_t rfl ?_;refine Zhl ?_;exact ⟨.int .i64 1,A,res1 rfl rfl,Dr.sat drqz,rfl,rfl⟩
theorem DropZ_cB {A:SP}{b:Nat}(hc:Has A b (cl [.pointer none,.map none,.bool false] 113)):
    Fn Tryz.prog 48 #[pz b] A (λ r B=>r= .int .i64 1/\ A=B):=by
  refine Zkb ?_;refine Zf2 ?_;intro h;refine Zc8 ?_;refine tv (o_load p69 rfl hc rfl) ?_;refine Zd8 ?_;refine Zif ?_;intro h;refine Zhl ?_;exact ⟨.int .i64 1,A,res1 rfl rfl,Dr.sat drqz,rfl,rfl⟩
theorem DropZ_c {A:SP}{v:Value}(h0:NoT A v:=by assumption):Fn Tryz.prog 48 #[v] A (λ r B=>r= .int .i64 1/\ A=B):=by
  rcases h0 with rfl|⟨b,rfl,hc⟩
  . exact DropZ_cN
  exact DropZ_cB hc
theorem ExtZ_cN {A:SP}:
    Fn Tryz.prog 49 #[.pointer none] A (λ r B=>r= .slice none 0 0/\ A=B):=by
  refine Zhu ?_;refine Zcc ?_;refine tl_bool (d:=8) rfl (sbq ?_) dbq;intro h;refine Z8 ?_;refine tk ?_;refine Z7 ?_;refine Z8 ?_;refine Zlj ?_;exact ⟨.slice none 0 0,A,res1 rfl rfl,Dr.sat drqz,rfl,rfl⟩
theorem ExtZ_cB {A:SP}{b:Nat}(hc:Has A b (cl [.pointer none,.map none,.bool false] 113)):
    Fn Tryz.prog 49 #[pz b] A (λ r B=>r= .slice none 0 0/\ A=B):=by
  refine Zhu ?_;refine Zcc ?_;refine tl_bool (d:=8) rfl dbq (sbq ?_);intro h;refine Zc8 ?_;refine tv (o_load p69 rfl hc rfl) ?_;refine Zi6 ?_;refine tl_bool (d:=15) rfl (sbq ?_) dbq;intro h;refine Z8 ?_;refine Zlj ?_;exact ⟨.slice none 0 0,A,res1 rfl rfl,Dr.sat drqz,rfl,rfl⟩
theorem ExtZ_c {A:SP}{v:Value}(h0:NoT A v:=by assumption):Fn Tryz.prog 49 #[v] A (λ r B=>r= .slice none 0 0/\ A=B):=by
  rcases h0 with rfl|⟨b,rfl,hc⟩
  . exact ExtZ_cN
  exact ExtZ_cB hc
theorem NewZ1_c {A:SP}{v l:Value}(h0:NoD A v:=by assumption):
    Fn Tryz.prog 39 #[v,l] A (λ r B=>r= .tuple #[.pointer none,.int .i64 1]/\ A=B):=by
  refine fn_enterW func39 rfl ntmps39 (by simp) ?_;refine Zc3 ?_;refine tl_c rfl (o_call bd104 rfl (SizeZ_c)) ?_;rintro _ _ ⟨rfl,rfl⟩;refine Zca ?_;refine tc_cond rfl (sbq ?_) dbq;intro h;refine Zgs ?_;exact ⟨.tuple #[.pointer none,.int .i64 1],A,res2 rfl rfl rfl,Dr.sat drqz,rfl,rfl⟩
theorem NewZ2_c {A R:SP}{C:SP->SP}{d:Nat}{v:Value}{s:DevS}(hc:Ct A (Dev d s) R C:=by exact cbqz)(h0:NoL A v:=by assumption):
    Fn Tryz.prog 39 #[pz d,v] A (λ r B=>r= .tuple #[.pointer none,.int .i64 1]/\ A=B):=by
  refine fn_enterW func39 rfl ntmps39 (by simp) ?_;refine tc_have (λ _ _ h=>ct_wf2 hc h) λ hwf=> ?_
  have htop:=hwf.top;have hpos:=hwf.pos;refine Zc3 ?_;refine tl_c rfl (o_call bd104 rfl (Size_c (hc:=hc))) ?_;refine Zh7 ?_;refine Z3 ?_;intro h;refine Zdf ?_;refine tl_c rfl (o_call bd108 rfl (RecordsZ11_c)) ?_;refine Zkh ?_;refine Zca ?_;refine tc_cond rfl (sbq ?_) dbq;intro h;refine Zgs ?_;exact ⟨.tuple #[.pointer none,.int .i64 1],A,res2 rfl rfl rfl,Dr.sat drqz,rfl,rfl⟩
end Go.Vl

namespace Go.Vl
open Go Go.Proofs Go.Proofs.Tryz
theorem z64_ok: -9223372036854775808<=(0:Int)/\ (0:Int)<=9223372036854775807:=by decide
theorem op12w_p {A:SP}{k n:Int}(hk: -9223372036854775808<=k/\ k<=9223372036854775807)(hn: -9223372036854775808<=n/\ n<=9223372036854775807):Op12W A ⟨k,0,n,none,0,[],none,0,[]⟩:=
  ⟨hk,z64_ok,hn,Nat.le_refl _,rs_none,λ x h=>(by cases h),Nat.le_refl _,rs_none,λ x h=>(by cases h)⟩
theorem op12w_b {A:SP}{k p:Int}{a:Option Addr}{X:List Nat}(hk: -9223372036854775808<=k/\ k<=9223372036854775807)(hp: -9223372036854775808<=p/\ p<=9223372036854775807)(hX:∀x∈X,x<256)(hr:Rs A a (bys X)):Op12W A ⟨k,p,0,a,X.length,X,none,0,[]⟩:=
  ⟨hk,hp,z64_ok,Nat.le_refl _,hr,hX,Nat.le_refl _,rs_none,λ x h=>(by cases h)⟩
theorem op12w_k {A:SP}{k n:Int}{a:Option Addr}{K:List Int}(hk: -9223372036854775808<=k/\ k<=9223372036854775807)(hn: -9223372036854775808<=n/\ n<=9223372036854775807)(hK:∀x∈K,-9223372036854775808<=x/\ x<=9223372036854775807)(hr:Rs A a (ints K)):Op12W A ⟨k,0,n,none,0,[],a,K.length,K⟩:=
  ⟨hk,z64_ok,hn,Nat.le_refl _,rs_none,λ x h=>(by cases h),Nat.le_refl _,hr,hK⟩
attribute [local irreducible] crk crL crc Sl pt ro Dev imgS recS readS recsF rdW rdO rkT Parts rvl recordsS runsL adrF kcl xcl kys runA runsF layF ovF TxA adZ WkA SlB blkS conB imF RDev lineC RLines TxR TxE ldT TxP TxX eX oX lX dX rX cX LifA
theorem Zi0 {p r:Prop}(k:r)(h:Kq r->p:=by intro k;refine tlm ?_;refine tv (o_nep underlying69 rfl rfl) ?_;exact k.o):p:=h ⟨k⟩
theorem Zja {p r:Prop}(k:r)(h:Kq r->p:=by intro k;rintro _ _ ⟨rfl,rfl⟩;refine Zcz ?_;exact k.o):p:=h ⟨k⟩
theorem Zbg {p r:Prop}(k:r)(h:Kq r->p:=by intro k;refine tv (o_bS (l:=[_,_,_,_,_]) (pv_cons wqz pv_nil) underlying116 z116 (pl116 underlying116) rfl) ?_;refine tv (o_bS (l:=[_,_,_,_,_]) (pv_cons wqz pv_nil) underlying116 z116 (pl116 underlying116) rfl) ?_;exact k.o):p:=h ⟨k⟩
theorem Zi1 {p r:Prop}(k:r)(h:Kq r->p:=by intro k;refine tv (o_bS (l:=[_,_,_,_,_]) (pv_cons wqz (pv_cons wqz (pv_cons wqz pv_nil))) underlying116 z116 (pl116 underlying116) rfl) ?_;refine Zbg ?_;exact k.o):p:=h ⟨k⟩
theorem TxnNames_f {F:SP}:
    Fn Tryz.prog 8 #[] (F) (λ v B=>v= .bool true/\ B=F):=by
  refine fn_enterW func8 rfl ntmps8 (by simp) ?_;have hl0:(newS 16).ls.length=16:=new_len 16;refine Zj ?_;refine sr ?_;refine tl_c rfl (o_call bd37 rfl (New_c (n:=16))) ?_;rintro _ _ ⟨d21,rfl,rfl⟩;refine Zit ?_;refine tl_c rfl (o_call bd38 rfl (Open_ok (s:=newS 16) (p:=128) (q:=576) (hok:=by rw [hl0];decide))) ?_;rintro _ _ ⟨b26,rfl,rfl⟩;refine Zit ?_;refine tl_c rfl (o_call bd39 rfl (NewZ1_c (h0:= .inl rfl))) ?_;refine Zkh ?_;refine tl_c rfl (o_call bd39 rfl (NewZ2_c (s:=newS 16) (h0:= .inl rfl))) ?_;refine Zdz ?_;refine Zbx ?_;refine Zdr ?_;refine tl_bool (d:=41) rfl dbq (sbq ?_);intro h;refine tlm ?_;refine Zcz ?_;refine tl_bool (d:=45) rfl dbq (sbq ?_);intro h;refine Zi0 ?_;refine Z1 ?_;refine tl_bool (d:=49) rfl dbq (sbq ?_);intro h;refine Zi0 ?_;refine Zd6 ?_;intro h;refine Zk9 ?_;refine tv (o_bS (l:=[_,_,_,_,_]) pv_nil underlying97 z97 (pl97 underlying97) rfl) ?_;refine tl_x rfl (o_box rfl rfl) ?_;rintro _ _ ⟨b55,rfl,rfl⟩;refine tlm ?_;refine tl_c rfl (o_call bd39 rfl (NewZ1_c (h0:= .inr ⟨b55,rfl,cell_of_has has_here rfl⟩))) ?_;refine Zkh ?_;refine tv (o_bS (l:=[_,_,_]) pv_nil underlying99 z99 (pl99 underlying99) rfl) ?_;refine tl_x rfl (o_box rfl rfl) ?_;rintro _ _ ⟨b63,rfl,rfl⟩;refine tl_c rfl (o_call bd39 rfl (NewZ2_c (s:=newS 16) (h0:= .inr ⟨b63,rfl,has_here⟩))) ?_;refine Zdz ?_;refine Zbx ?_;refine Zdr ?_;refine tl_bool (d:=69) rfl dbq (sbq ?_);intro h;refine tlm ?_;refine Zcz ?_;refine tl_bool (d:=73) rfl dbq (sbq ?_);intro h;refine Zi0 ?_;refine Z1 ?_;refine tl_bool (d:=77) rfl dbq (sbq ?_);intro h;refine Zi0 ?_;refine Zd6 ?_;intro h;refine Zc ?_;refine Zky ?_;refine tc_loop (λ kk ρ BB=>∃ (i:Nat) (v:Value) (w:Value) (Z:SP),(i<=2)/\ (NoP (F*Z) v)/\ (NoT (F*Z) w)/\ kk=2-i/\ ρ 10=(vn i)/\ ρ 5=v/\ ρ 9=w/\ Dr BB (F*Z)) (m:=2-(0)) ?_ ?_
  . exact ⟨0,.pointer none,.pointer none,pt b55 _,by omega,.inl rfl,.inl rfl,rfl,rfl,rfl,rfl,drqz⟩
  intro k ρ B hI;obtain ⟨i,v,w,Z,hp0,hp1,hp2,hkk1,hE10,hE5,hE9,hBA⟩:=hI;refine tc_pre hBA.sat ?_;clear hBA;refine te 10 hE10 ?_;refine te 5 hE5 ?_;refine te 9 hE9 ?_;refine Zlb ?_;refine tc_cond rfl (sbq ?_) (sbq ?_)
  . intro h;refine Zin ?_;refine tl_c rfl (o_call bd40 rfl (LoadP0_c (h0:=hp1))) ?_;refine Zkh ?_;refine tl_c rfl (o_call bd41 rfl (RecoverP0_c (h0:=hp1))) ?_;refine Zkh ?_;refine tl_c rfl (o_call bd42 rfl (BeginP0_c (h0:=hp1))) ?_;refine Zkh ?_;refine tl_c rfl (o_call bd43 rfl (LoadT0_c (h0:=hp2))) ?_;refine Zdz ?_;refine Zbx ?_;refine Zdr ?_;refine tl_bool (d:=107) rfl dbq (sbq ?_);intro h;refine tlm ?_;refine Zcz ?_;refine tl_bool (d:=111) rfl dbq (sbq ?_);intro h;refine tlm ?_;refine Zcz ?_;refine tl_bool (d:=115) rfl dbq (sbq ?_);intro h;refine tlm ?_;refine Zcz ?_;refine tl_bool (d:=119) rfl dbq (sbq ?_);intro h;refine tlm ?_;refine tl_c rfl (o_call bd44 rfl (StateP0_c (h0:=hp1))) ?_;refine Zja ?_;refine tl_bool (d:=124) rfl dbq (sbq ?_);intro h;refine tlm ?_;refine tl_c rfl (o_call bd45 rfl (SizeP0_c (h0:=hp1))) ?_;refine Zja ?_;refine tl_bool (d:=129) rfl dbq (sbq ?_);intro h;refine tlm ?_;refine tl_c rfl (o_call bd46 rfl (StoreT0_c (h0:=hp2))) ?_;refine Zja ?_;refine tl_bool (d:=134) rfl dbq (sbq ?_);intro h;refine tlm ?_;refine tl_c rfl (o_call bd47 rfl (FreshT0_c (h0:=hp2))) ?_;refine Zja ?_;refine tl_bool (d:=139) rfl dbq (sbq ?_);intro h;refine tlm ?_;refine tl_c rfl (o_call bd32 rfl (CommitT0_c (h0:=hp2))) ?_;refine Zja ?_;refine tl_bool (d:=144) rfl dbq (sbq ?_);intro h;refine tlm ?_;refine tl_c rfl (o_call bd48 rfl (DropZ_c (h0:=hp2))) ?_;refine Zja ?_;refine tl_bool (d:=149) rfl dbq (sbq ?_);intro h;refine tlm ?_;refine tl_c rfl (o_call bd49 rfl (ExtZ_c (h0:=hp2))) ?_;rintro _ _ ⟨rfl,rfl⟩;refine tv (o_len underlying107 rfl) ?_;refine tv (o_nei rfl rfl) ?_;refine Zd6 ?_;intro h;refine Zk9 ?_;refine tv (o_bS (l:=[_,_,_]) pv_nil underlying110 z110 (pl110 underlying110) rfl) ?_;refine tl_x rfl (o_box rfl rfl) ?_;rintro _ _ ⟨b156,rfl,rfl⟩;refine Za ?_;refine tc_reg ?_;refine tv (o_bS (l:=[_,_,_]) pv_nil underlying113 z113 (pl113 underlying113) rfl) ?_;refine tl_x rfl (o_box rfl rfl) ?_;rintro _ _ ⟨b158,rfl,rfl⟩;refine Zhr ?_;exact ⟨_,by omega,i+1,pz b156,pz b158,Z*pt b156 (cl [.pointer none,.pointer none,.pointer none] 110)*pt b158 (cl [.pointer none,.map none,.bool false] 113),by omega,.inr ⟨b156,rfl,by rw [show F*(Z*pt b156 (cl [.pointer none,.pointer none,.pointer none] 110)*pt b158 (cl [.pointer none,.map none,.bool false] 113))=F*Z*pt b156 (cl [.pointer none,.pointer none,.pointer none] 110)*pt b158 (cl [.pointer none,.map none,.bool false] 113) by ac_rfl];exact has_left has_here⟩,.inr ⟨b158,rfl,by rw [show F*(Z*pt b156 (cl [.pointer none,.pointer none,.pointer none] 110)*pt b158 (cl [.pointer none,.map none,.bool false] 113))=F*Z*pt b156 (cl [.pointer none,.pointer none,.pointer none] 110)*pt b158 (cl [.pointer none,.map none,.bool false] 113) by ac_rfl];exact has_here⟩,rfl,rfl,rfl,rfl,(by rw [show F*(Z*pt b156 (cl [.pointer none,.pointer none,.pointer none] 110)*pt b158 (cl [.pointer none,.map none,.bool false] 113))=F*Z*pt b156 (cl [.pointer none,.pointer none,.pointer none] 110)*pt b158 (cl [.pointer none,.map none,.bool false] 113) by ac_rfl];exact dr_refl)⟩
  intro h;refine Zf ?_;refine Ze8 ?_;refine tv (o_bS (l:=[_,_,_,_,_]) (pv_cons wqz pv_nil) underlying116 z116 (pl116 underlying116) rfl) ?_;refine tl_x rfl (o_buildSliceL (k:=1) (vs:=bys [1,2,3,4,5,6,7,8,9,10,11]) (l:=bys [1,2,3,4,5,6,7,8,9,10,11]) underlying57 sz5 z5 rfl rfl (by decide) (by decide) (by intro v hv;have h9:=List.all_eq_true.1 (bys_all [1,2,3,4,5,6,7,8,9,10,11]) v hv;cases v<;>first|(simp [oneC] at h9;done)|rfl) rfl) ?_;rintro _ _ ⟨b160,rfl,rfl⟩;refine tv (o_bS (l:=[_,_,_,_,_]) (pv_cons wqz (pv_cons wqz (pv_cons wqz pv_nil))) underlying116 z116 (pl116 underlying116) rfl) ?_;refine tl_x rfl (o_buildSliceL (k:=1) (vs:=bys [5]) (l:=bys [5]) underlying57 sz5 z5 rfl rfl (by decide) (by decide) (by intro v hv;have h9:=List.all_eq_true.1 (bys_all [5]) v hv;cases v<;>first|(simp [oneC] at h9;done)|rfl) rfl) ?_;rintro _ _ ⟨b162,rfl,rfl⟩;refine tv (o_bS (l:=[_,_,_,_,_]) (pv_cons wqz (pv_cons wqz (pv_cons wqz pv_nil))) underlying116 z116 (pl116 underlying116) rfl) ?_;refine tl_x rfl (o_buildSliceL (k:=1) (vs:=bys [7,8]) (l:=bys [7,8]) underlying57 sz5 z5 rfl rfl (by decide) (by decide) (by intro v hv;have h9:=List.all_eq_true.1 (bys_all [7,8]) v hv;cases v<;>first|(simp [oneC] at h9;done)|rfl) rfl) ?_;rintro _ _ ⟨b164,rfl,rfl⟩;refine Zi1 ?_;refine Zbg ?_;refine tl_x rfl (o_buildSliceL (k:=5) (len:=8) (vs:=([(⟨1,0,0,none,0,[],none,0,[]⟩:Op12U),(⟨3,760,0,(some ⟨b160,0,none⟩),11,[1,2,3,4,5,6,7,8,9,10,11],none,0,[]⟩:Op12U),(⟨4,771,0,(some ⟨b162,0,none⟩),1,[5],none,0,[]⟩:Op12U),(⟨3,771,0,(some ⟨b164,0,none⟩),2,[7,8],none,0,[]⟩:Op12U),(⟨5,0,0,none,0,[],none,0,[]⟩:Op12U),(⟨6,0,0,none,0,[],none,0,[]⟩:Op12U),(⟨1,0,0,none,0,[],none,0,[]⟩:Op12U),(⟨1,0,0,none,0,[],none,0,[]⟩:Op12U)]).map λ t=> .agg t.cells.toArray) (l:=o12s [(⟨1,0,0,none,0,[],none,0,[]⟩:Op12U),(⟨3,760,0,(some ⟨b160,0,none⟩),11,[1,2,3,4,5,6,7,8,9,10,11],none,0,[]⟩:Op12U),(⟨4,771,0,(some ⟨b162,0,none⟩),1,[5],none,0,[]⟩:Op12U),(⟨3,771,0,(some ⟨b164,0,none⟩),2,[7,8],none,0,[]⟩:Op12U),(⟨5,0,0,none,0,[],none,0,[]⟩:Op12U),(⟨6,0,0,none,0,[],none,0,[]⟩:Op12U),(⟨1,0,0,none,0,[],none,0,[]⟩:Op12U),(⟨1,0,0,none,0,[],none,0,[]⟩:Op12U)]) underlying117 sz116 z116 rfl rfl (by decide) (by decide) (by intro v hv;obtain ⟨t,_,rfl⟩:=List.mem_map.1 hv;rfl) rfl) ?_;rintro _ _ ⟨b170,rfl,rfl⟩;refine tl_c rfl (o_call bd9 rfl (TxnPlays_f (xs:=[]) (ts:=[(⟨1,0,0,none,0,[],none,0,[]⟩:Op12U),(⟨3,760,0,(some ⟨b160,0,none⟩),11,[1,2,3,4,5,6,7,8,9,10,11],none,0,[]⟩:Op12U),(⟨4,771,0,(some ⟨b162,0,none⟩),1,[5],none,0,[]⟩:Op12U),(⟨3,771,0,(some ⟨b164,0,none⟩),2,[7,8],none,0,[]⟩:Op12U),(⟨5,0,0,none,0,[],none,0,[]⟩:Op12U),(⟨6,0,0,none,0,[],none,0,[]⟩:Op12U),(⟨1,0,0,none,0,[],none,0,[]⟩:Op12U),(⟨1,0,0,none,0,[],none,0,[]⟩:Op12U)]) (sa:=(some ⟨b170,0,none⟩)) (hir:=rs_none) (hm:=rfl) (hib:=λ x h=>by cases h) (hml:=by decide) (hsr:=show Rs _ _ (o12s [(⟨1,0,0,none,0,[],none,0,[]⟩:Op12U),(⟨3,760,0,(some ⟨b160,0,none⟩),11,[1,2,3,4,5,6,7,8,9,10,11],none,0,[]⟩:Op12U),(⟨4,771,0,(some ⟨b162,0,none⟩),1,[5],none,0,[]⟩:Op12U),(⟨3,771,0,(some ⟨b164,0,none⟩),2,[7,8],none,0,[]⟩:Op12U),(⟨5,0,0,none,0,[],none,0,[]⟩:Op12U),(⟨6,0,0,none,0,[],none,0,[]⟩:Op12U),(⟨1,0,0,none,0,[],none,0,[]⟩:Op12U),(⟨1,0,0,none,0,[],none,0,[]⟩:Op12U)]) from by repeat (first|exact rs_pt rfl|apply Rs.left)) (hst:=(List.forall_mem_cons.2 ⟨(op12w_p (by decide) (by decide)),(List.forall_mem_cons.2 ⟨(op12w_b (by decide) (by decide) (by decide) (show Rs _ _ (bys [1,2,3,4,5,6,7,8,9,10,11]) from by repeat (first|exact rs_pt rfl|apply Rs.left))),(List.forall_mem_cons.2 ⟨(op12w_b (by decide) (by decide) (by decide) (show Rs _ _ (bys [5]) from by repeat (first|exact rs_pt rfl|apply Rs.left))),(List.forall_mem_cons.2 ⟨(op12w_b (by decide) (by decide) (by decide) (show Rs _ _ (bys [7,8]) from by repeat (first|exact rs_pt rfl|apply Rs.left))),(List.forall_mem_cons.2 ⟨(op12w_p (by decide) (by decide)),(List.forall_mem_cons.2 ⟨(op12w_p (by decide) (by decide)),(List.forall_mem_cons.2 ⟨(op12w_p (by decide) (by decide)),(List.forall_mem_cons.2 ⟨(op12w_p (by decide) (by decide)),List.forall_mem_nil _⟩)⟩)⟩)⟩)⟩)⟩)⟩)⟩)) (hsz:=by first|decide|(show _<=_;simp [Op12U.sz])))) ?_;refine Zbi ?_;refine Z3 ?_;intro h;refine Zjy ?_;refine tc_loop (λ kk ρ BB=>∃ (i:Nat) (Z:SP),(i<=30)/\ kk=30-i/\ ρ 19=(vn i)/\ Dr BB (F*Z)) (m:=30-(0)) ?_ ?_
  . exact ⟨0,Z,by omega,rfl,rfl,drqz⟩
  intro k ρ B hI;obtain ⟨i,Z,hq0,hkk2,hE19,hBA⟩:=hI;refine tc_pre hBA.sat ?_;clear hBA;refine te 19 hE19 ?_;refine Zlb ?_;refine tc_cond rfl (λ h=> ?_) (sbq ?_)
  . have hi:i<30:=(by first|(have h9:=of_decide_eq_true h;omega)|(simp at h;omega));refine Zg5 ?_;refine tv (o_bS (l:=[_,_,_,_,_]) (pv_cons wqz pv_nil) underlying116 z116 (pl116 underlying116) rfl) ?_;refine tl_x rfl (o_buildSliceL (k:=1) (vs:=bys [1,2]) (l:=bys [1,2]) underlying57 sz5 z5 rfl rfl (by decide) (by decide) (by intro v hv;have h9:=List.all_eq_true.1 (bys_all [1,2]) v hv;cases v<;>first|(simp [oneC] at h9;done)|rfl) rfl) ?_;rintro _ _ ⟨b178,rfl,rfl⟩;refine tv (o_bS (l:=[_,_,_,_,_]) (pv_cons wqz (pv_cons wqz (pv_cons wqz pv_nil))) underlying116 z116 (pl116 underlying116) rfl) ?_;refine tl_x rfl (o_buildSliceL (k:=1) (vs:=bys [3]) (l:=bys [3]) underlying57 sz5 z5 rfl rfl (by decide) (by decide) (by intro v hv;have h9:=List.all_eq_true.1 (bys_all [3]) v hv;cases v<;>first|(simp [oneC] at h9;done)|rfl) rfl) ?_;rintro _ _ ⟨b180,rfl,rfl⟩;refine tv (o_bS (l:=[_,_,_,_,_]) (pv_cons wqz (pv_cons wqz (pv_cons wqz pv_nil))) underlying116 z116 (pl116 underlying116) rfl) ?_;refine Z2 ?_;refine tv (by first|exact o_remI rfl rfl oqz|exact o_rem rfl rfl oqz) ?_;refine Zee ?_;refine tl_x rfl (o_buildSliceL (k:=1) (vs:=ints [((i%3:Nat):Int),((i%2:Nat):Int),1,1,2]) (l:=ints [((i%3:Nat):Int),((i%2:Nat):Int),1,1,2]) underlying26 sz3 z3 rfl rfl (by decide) (by decide) (by intro v hv;have h9:=List.all_eq_true.1 (ints_all [((i%3:Nat):Int),((i%2:Nat):Int),1,1,2]) v hv;cases v<;>first|(simp [oneC] at h9;done)|rfl) rfl) ?_;rintro _ _ ⟨b187,rfl,rfl⟩;refine Zi1 ?_;refine tv (o_bS (l:=[_,_,_,_,_]) (pv_cons wqz (pv_cons wqz pv_nil)) underlying116 z116 (pl116 underlying116) rfl) ?_;refine tv (o_bS (l:=[_,_,_,_,_]) (pv_cons wqz pv_nil) underlying116 z116 (pl116 underlying116) rfl) ?_;refine tv (o_bS (l:=[_,_,_,_,_]) (pv_cons wqz (pv_cons wqz pv_nil)) underlying116 z116 (pl116 underlying116) rfl) ?_;refine Zbg ?_;refine Zbg ?_;refine Zbg ?_;refine tv (o_bS (l:=[_,_,_,_,_]) (pv_cons wqz pv_nil) underlying116 z116 (pl116 underlying116) rfl) ?_;refine tl_x rfl (o_buildSliceL (k:=5) (len:=16) (vs:=([(⟨1,0,0,none,0,[],none,0,[]⟩:Op12U),(⟨3,70,0,(some ⟨b178,0,none⟩),2,[1,2],none,0,[]⟩:Op12U),(⟨4,900,0,(some ⟨b180,0,none⟩),1,[3],none,0,[]⟩:Op12U),(⟨11,0,((i:Nat):Int),none,0,[],(some ⟨b187,0,none⟩),5,[((i%3:Nat):Int),((i%2:Nat):Int),1,1,2]⟩:Op12U),(⟨6,0,0,none,0,[],none,0,[]⟩:Op12U),(⟨8,0,0,none,0,[],none,0,[]⟩:Op12U),(⟨2,0,2,none,0,[],none,0,[]⟩:Op12U),(⟨13,0,0,none,0,[],none,0,[]⟩:Op12U),(⟨2,0,2,none,0,[],none,0,[]⟩:Op12U),(⟨1,0,0,none,0,[],none,0,[]⟩:Op12U),(⟨10,0,0,none,0,[],none,0,[]⟩:Op12U),(⟨8,0,0,none,0,[],none,0,[]⟩:Op12U),(⟨1,0,0,none,0,[],none,0,[]⟩:Op12U),(⟨9,0,0,none,0,[],none,0,[]⟩:Op12U),(⟨1,0,0,none,0,[],none,0,[]⟩:Op12U),(⟨6,0,0,none,0,[],none,0,[]⟩:Op12U)]).map λ t=> .agg t.cells.toArray) (l:=o12s [(⟨1,0,0,none,0,[],none,0,[]⟩:Op12U),(⟨3,70,0,(some ⟨b178,0,none⟩),2,[1,2],none,0,[]⟩:Op12U),(⟨4,900,0,(some ⟨b180,0,none⟩),1,[3],none,0,[]⟩:Op12U),(⟨11,0,((i:Nat):Int),none,0,[],(some ⟨b187,0,none⟩),5,[((i%3:Nat):Int),((i%2:Nat):Int),1,1,2]⟩:Op12U),(⟨6,0,0,none,0,[],none,0,[]⟩:Op12U),(⟨8,0,0,none,0,[],none,0,[]⟩:Op12U),(⟨2,0,2,none,0,[],none,0,[]⟩:Op12U),(⟨13,0,0,none,0,[],none,0,[]⟩:Op12U),(⟨2,0,2,none,0,[],none,0,[]⟩:Op12U),(⟨1,0,0,none,0,[],none,0,[]⟩:Op12U),(⟨10,0,0,none,0,[],none,0,[]⟩:Op12U),(⟨8,0,0,none,0,[],none,0,[]⟩:Op12U),(⟨1,0,0,none,0,[],none,0,[]⟩:Op12U),(⟨9,0,0,none,0,[],none,0,[]⟩:Op12U),(⟨1,0,0,none,0,[],none,0,[]⟩:Op12U),(⟨6,0,0,none,0,[],none,0,[]⟩:Op12U)]) underlying117 sz116 z116 rfl rfl (by decide) (by decide) (by intro v hv;obtain ⟨t,_,rfl⟩:=List.mem_map.1 hv;rfl) rfl) ?_;rintro _ _ ⟨b201,rfl,rfl⟩;refine tl_c rfl (o_call bd9 rfl (TxnPlays_f (xs:=[]) (ts:=[(⟨1,0,0,none,0,[],none,0,[]⟩:Op12U),(⟨3,70,0,(some ⟨b178,0,none⟩),2,[1,2],none,0,[]⟩:Op12U),(⟨4,900,0,(some ⟨b180,0,none⟩),1,[3],none,0,[]⟩:Op12U),(⟨11,0,((i:Nat):Int),none,0,[],(some ⟨b187,0,none⟩),5,[((i%3:Nat):Int),((i%2:Nat):Int),1,1,2]⟩:Op12U),(⟨6,0,0,none,0,[],none,0,[]⟩:Op12U),(⟨8,0,0,none,0,[],none,0,[]⟩:Op12U),(⟨2,0,2,none,0,[],none,0,[]⟩:Op12U),(⟨13,0,0,none,0,[],none,0,[]⟩:Op12U),(⟨2,0,2,none,0,[],none,0,[]⟩:Op12U),(⟨1,0,0,none,0,[],none,0,[]⟩:Op12U),(⟨10,0,0,none,0,[],none,0,[]⟩:Op12U),(⟨8,0,0,none,0,[],none,0,[]⟩:Op12U),(⟨1,0,0,none,0,[],none,0,[]⟩:Op12U),(⟨9,0,0,none,0,[],none,0,[]⟩:Op12U),(⟨1,0,0,none,0,[],none,0,[]⟩:Op12U),(⟨6,0,0,none,0,[],none,0,[]⟩:Op12U)]) (sa:=(some ⟨b201,0,none⟩)) (hir:=rs_none) (hm:=rfl) (hib:=λ x h=>by cases h) (hml:=by decide) (hsr:=show Rs _ _ (o12s [(⟨1,0,0,none,0,[],none,0,[]⟩:Op12U),(⟨3,70,0,(some ⟨b178,0,none⟩),2,[1,2],none,0,[]⟩:Op12U),(⟨4,900,0,(some ⟨b180,0,none⟩),1,[3],none,0,[]⟩:Op12U),(⟨11,0,((i:Nat):Int),none,0,[],(some ⟨b187,0,none⟩),5,[((i%3:Nat):Int),((i%2:Nat):Int),1,1,2]⟩:Op12U),(⟨6,0,0,none,0,[],none,0,[]⟩:Op12U),(⟨8,0,0,none,0,[],none,0,[]⟩:Op12U),(⟨2,0,2,none,0,[],none,0,[]⟩:Op12U),(⟨13,0,0,none,0,[],none,0,[]⟩:Op12U),(⟨2,0,2,none,0,[],none,0,[]⟩:Op12U),(⟨1,0,0,none,0,[],none,0,[]⟩:Op12U),(⟨10,0,0,none,0,[],none,0,[]⟩:Op12U),(⟨8,0,0,none,0,[],none,0,[]⟩:Op12U),(⟨1,0,0,none,0,[],none,0,[]⟩:Op12U),(⟨9,0,0,none,0,[],none,0,[]⟩:Op12U),(⟨1,0,0,none,0,[],none,0,[]⟩:Op12U),(⟨6,0,0,none,0,[],none,0,[]⟩:Op12U)]) from by repeat (first|exact rs_pt rfl|apply Rs.left)) (hst:=(List.forall_mem_cons.2 ⟨(op12w_p (by decide) (by decide)),(List.forall_mem_cons.2 ⟨(op12w_b (by decide) (by decide) (by decide) (show Rs _ _ (bys [1,2]) from by repeat (first|exact rs_pt rfl|apply Rs.left))),(List.forall_mem_cons.2 ⟨(op12w_b (by decide) (by decide) (by decide) (show Rs _ _ (bys [3]) from by repeat (first|exact rs_pt rfl|apply Rs.left))),(List.forall_mem_cons.2 ⟨(op12w_k (by decide) oqz (by intro y hy;simp only [List.mem_cons,List.not_mem_nil,or_false] at hy;rcases hy with rfl|rfl|rfl|rfl|rfl<;>omega) (show Rs _ _ (ints [((i%3:Nat):Int),((i%2:Nat):Int),1,1,2]) from by repeat (first|exact rs_pt rfl|apply Rs.left))),(List.forall_mem_cons.2 ⟨(op12w_p (by decide) (by decide)),(List.forall_mem_cons.2 ⟨(op12w_p (by decide) (by decide)),(List.forall_mem_cons.2 ⟨(op12w_p (by decide) (by decide)),(List.forall_mem_cons.2 ⟨(op12w_p (by decide) (by decide)),(List.forall_mem_cons.2 ⟨(op12w_p (by decide) (by decide)),(List.forall_mem_cons.2 ⟨(op12w_p (by decide) (by decide)),(List.forall_mem_cons.2 ⟨(op12w_p (by decide) (by decide)),(List.forall_mem_cons.2 ⟨(op12w_p (by decide) (by decide)),(List.forall_mem_cons.2 ⟨(op12w_p (by decide) (by decide)),(List.forall_mem_cons.2 ⟨(op12w_p (by decide) (by decide)),(List.forall_mem_cons.2 ⟨(op12w_p (by decide) (by decide)),(List.forall_mem_cons.2 ⟨(op12w_p (by decide) (by decide)),List.forall_mem_nil _⟩)⟩)⟩)⟩)⟩)⟩)⟩)⟩)⟩)⟩)⟩)⟩)⟩)⟩)⟩)⟩)) (hsz:=by first|decide|(show _<=_;simp [Op12U.sz])))) ?_
    refine Zbi ?_;refine Z3 ?_;intro h;refine Zfl ?_;exact ⟨_,by omega,i+1,Z,by omega,rfl,rfl,drqz⟩
  intro h;refine Zdx ?_;refine tl_c rfl (o_call bd27 rfl (works_c)) ?_;rintro _ _ ⟨rfl,rfl⟩;refine Ze6 ?_;exact ⟨.bool true,F,res1 rfl rfl,Dr.sat drqz,rfl,rfl⟩
theorem TxnNames_L (F:SP):Fn Tryz.prog 8 #[] F (λ r B=>r= .bool true/\ B=F):=TxnNames_f
end Go.Vl

/- What the row rests on, part 5: a calculus of assertions, walks of functions over it, and plain laws. Conditions: none. -/
import Derived.Deep.QuietTactic
import Derived.BigQuiet
import Derived.WalkKit
import Derived.Test.YtjmfhpoeaimidaaGreatProg
import Derived.OrdersHeld
import Derived.Shelf.SortM.SortNone
import Derived.Shelf.SortM.Plain
import Derived.Ground.SlgmProg
import Derived.Shelf.SlIterI.Nil
import Derived.Ground.GgzProg
import Derived.Maps.RangeRun
import Derived.Laws.BytesArg
import Derived.RangeFuncRecord
import Derived.TacticsIn
import Derived.Deep.Slices
import Derived.OpenShut
import Derived.ChangeArms
import Derived.SizedLaws
import Derived.ChangeSame
import Derived.Test.YtjmfhpoeaimidaaGreatRows
import Derived.Sort.QuietThIn
import Derived.ScopeJumps
import Derived.LaidEqlPtr
import Derived.MapKept
import Derived.Laws.Externs
import Derived.Lib.Builder
import Derived.Lib.UnsafeStr
import Derived.Laws.Strings
import Derived.Test.YtjmfhpoeaimidaaGreatMg4
set_option linter.unusedVariables false
set_option linter.unusedSimpArgs false
set_option maxRecDepth 100000
set_option maxHeartbeats 4000000
namespace Go.Vl
open Go Go.Proofs Go.Proofs.Tryz
theorem wk_lv {X:WkX}{Y:WkY}{T:WkT}{N lv:Nat}(h:WkOk X Y T N):WkOk { X with lv:=lv } Y T N:=⟨h.l,h.t,h.g,h.m,h.le,h.lo,h.dj,h.gl⟩
theorem wk_vl {X:WkX}{Y:WkY}{T:WkT}{N lv:Nat}(h:WkOk { X with lv:=lv } Y T N):WkOk X Y T N:=⟨h.l,h.t,h.g,h.m,h.le,h.lo,h.dj,h.gl⟩
def PbO (X:WkX)(s:DevS)(lv:Nat)(Y:WkY):SP:=RsA X.h X.p X.lg X.d X.at_ X.sz X.ba X.n lv Y.Ml s*pt X.w (cl (wcs X.h X.t X.tk X.gv Y.ls true) 101)
def PbA (X:WkX)(T:WkT)(ov:Bool)(s:DevS):SP:=match ov with
  |true=>λ h=>∃lv Y,SF Y.Ml X.n T.lv/\ PbO X s lv Y h
  |false=>λ h=>∃lv Y,WkOk X Y T (s.ls.length*64)/\ WkA { X with lv:=lv } Y s h
section
variable {P:Program} {fn:FuncId} {args:Array Value} {Q:Value->SP->Prop} {X:WkX} {T:WkT} {s:DevS} {R:SP}
theorem fn_pbo (h:∀lv Y,SF Y.Ml X.n T.lv->Fn P fn args (R*PbO X s lv Y) Q):Fn P fn args (R*PbA X T true s) Q:=λ g w hs=>by
  obtain ⟨_,⟨a,b,hd,rfl,ha,lv,Y,hM,hb⟩,hx⟩:=hs.hp;exact h lv Y hM g w ⟨hs.os,hs.tape,hs.out,_,⟨a,b,hd,rfl,ha,hb⟩,hx⟩
theorem fn_pba (h:∀lv Y,WkOk X Y T (s.ls.length*64)->Fn P fn args (R*WkA { X with lv:=lv } Y s) Q):Fn P fn args (R*PbA X T false s) Q:=λ g w hs=>by
  obtain ⟨_,⟨a,b,hd,rfl,ha,lv,Y,hM,hb⟩,hx⟩:=hs.hp;exact h lv Y hM g w ⟨hs.os,hs.tape,hs.out,_,⟨a,b,hd,rfl,ha,hb⟩,hx⟩
theorem pbo_back {lv:Nat}{Y:WkY}(hM:SF Y.Ml X.n T.lv){g:Gh}{w:World}(hs:sat g w (R*PbO X s lv Y)):sat g w (R*PbA X T true s):=
  hs.mono λ h ⟨a,b,hd,e,ha,hb⟩=>⟨a,b,hd,e,ha,lv,Y,hM,hb⟩
theorem pba_back {lv:Nat}{Y:WkY}(hM:WkOk X Y T (s.ls.length*64)){g:Gh}{w:World}(hs:sat g w (R*WkA { X with lv:=lv } Y s)):sat g w (R*PbA X T false s):=
  hs.mono λ h ⟨a,b,hd,e,ha,hb⟩=>⟨a,b,hd,e,ha,lv,Y,hM,hb⟩
end
attribute [local irreducible] crk crL crc Sl pt ro Dev imgS recS readS recsF rdW rdO rkT Parts rvl recordsS runsL adrF kcl xcl kys runA runsF layF ovF TxA adZ WkA comS conB rootV
theorem seen5_c {A R:SP}{w hd p ba n lv t tk gv ls:Nat}(hA:A=R*pt hd (cl (hcs p ba n lv (some w)) 99)*pt w (cl (wcs hd t tk gv ls false) 101)):
    Fn Tryz.prog 53 #[pz w,.int .i64 5] A (λ r B=>r= .int .i64 5/\ B=R*pt hd (cl (hcs p ba n lv none) 99)*pt w (cl (wcs hd t tk gv ls true) 101)):=by
  refine fn_enterW func53 rfl ntmps53 (by simp) ?_;refine Zbo ?_;refine tv (o_eqi rfl rfl) ?_;refine Zed ?_;intro h;refine Zu ?_;refine tl_c rfl (o_call bd60 rfl (end13_c (R:=R) (hA:=hA))) ?_;refine Zdq ?_;refine Zb ?_;refine Zf ?_;exact ⟨.int .i64 5,_,res1 rfl rfl,λ _ _ h=>h,rfl,rfl⟩
theorem begin13_off {A R:SP}{C:SP->SP}{X:WkX}{Y:WkY}{s:DevS}(hc:Ct A (WkA X Y s) R C:=by exact cbqz)(ho:s.off=true):
    Fn Tryz.prog 49 #[.pointer (some ⟨X.w,0,none⟩)] A (λ r B=>r= .int .i64 5/\ B=R*PbO X s X.lv Y):=by
  refine fn_enterW func49 rfl ntmps49 (by simp) ?_;have hw9:=wka_w hc;have hct:=wka_txa hc;refine Zbo ?_;refine tl_c rfl (o_call bd61 rfl (there13_c (hw:=hw9))) ?_;refine Ze6 ?_;intro h;refine Zcc ?_;refine Zct ?_;refine tv (o_load p4 rfl hw9 rfl) ?_;refine Zv ?_;intro h;refine Zfr ?_;refine tv (o_load p76 rfl hw9 rfl) ?_;refine tl_c rfl (o_call bd51 rfl (LoadF_c (hc:=hct) ho)) ?_;rintro _ _ ⟨rfl,rfl⟩;refine Zer ?_;refine tlm ?_;refine tl_c rfl (o_call bd53 rfl (seen5_c (R:=R*pt X.lv (mpo .i64 Y.Ml)*pt X.tk (mpo .i64 Y.Mt)*pt X.gv (mpo .i64 Y.Mg)*TxA X.t X.p X.lg X.d X.mb X.at_ X.sz Y.M.clr true s) (w:=X.w) (hd:=X.h) (p:=X.p) (ba:=X.ba) (n:=X.n) (lv:=X.lv) (t:=X.t) (tk:=X.tk) (gv:=X.gv) (ls:=Y.ls) (hA:=by ac_rfl))) ?_;rintro _ _ ⟨rfl,rfl⟩;refine Zf ?_;exact ⟨.int .i64 5,_,res1 rfl rfl,(λ g w h=>(Dr.sat (A':=R*pt X.lv (mpo .i64 Y.Ml)*(pt X.p (cl (pocs X.lg X.d none) 78)*pt X.lg (cl (lcs11 X.d X.at_ X.sz) 183))*Dev X.d s*pt X.h (cl (hcs X.p X.ba X.n X.lv none) 99)*pt X.w (cl (wcs X.h X.t X.tk X.gv Y.ls true) 101)) ⟨pt X.tk (mpo .i64 Y.Mt)*pt X.gv (mpo .i64 Y.Mg)*pt X.t (cl (txcs X.p X.mb true) 155)*pt X.mb (mpo .i64 Y.M.clr),by unfold TxA;rw [if_pos rfl];ac_rfl⟩ g w h).perm (by unfold PbO RsA;ac_rfl)),rfl,rfl⟩
theorem pbo_w {A R:SP}{C:SP->SP}{X:WkX}{Y:WkY}{s:DevS}{lv:Nat}(hc:Ct A (PbO X s lv Y) R C):Has A X.w (cl (wcs X.h X.t X.tk X.gv Y.ls true) 101):=λ g w h=>by
  rw [hc.1] at h;unfold PbO at h;exact has_pt g w h.right.right
theorem begX_p {A R:SP}{C:SP->SP}{X:WkX}{T:WkT}{ov:Bool}{s:DevS}(hc:Ct A (PbA X T ov s) R C:=by exact cbqz)(hb:WkB X s)(he:e13 ov s≠0):Fn Tryz.prog 49 #[.pointer (some ⟨X.w,0,none⟩)] A (λ r B=>r= .int .i64 (e13 ov s)/\ B=C (PbA X T true s)):=by
  obtain ⟨rfl,hC⟩:=hc
  cases ov with
  |true=>
    refine fn_pbo λ lv Y hM=>Fn.weak (beginO_c (pbo_w ct_here)) ?_
    rintro v B ⟨rfl,rfl⟩;exact ⟨_,λ g w h=>by rw [hC];exact pbo_back hM h,rfl,rfl⟩
  |false=>
    have ho:s.off=true:=by
      cases h:s.off with
      |true=>rfl
      |false=>exact absurd (e13_on h) he
    refine fn_pba λ lv Y hok=>Fn.weak (begin13_off (X:={ X with lv:=lv }) (hc:=ct_here) ho) ?_
    rintro v B ⟨rfl,rfl⟩;exact ⟨_,λ g w h=>by rw [hC];exact pbo_back hok.l h,by rw [e13_off ho],rfl⟩
theorem use_e {b:Int}{A B0:SP}{v:Value}{e:Int}(hI:Fn Tryz.prog 49 #[v] A (λ r B=>r= .int .i64 e/\ B=B0))(he:e≠0):
    Fn Tryz.prog 50 #[v,.int .i64 b] A (λ r B=>r= .int .i64 e/\ B=B0):=by
  refine fn_enterW func50 rfl ntmps50 (by simp) ?_;refine Zbo ?_;refine tl_c rfl (o_call bd49 rfl (hI)) ?_;rintro _ _ ⟨rfl,hB9⟩;subst hB9;refine Zdz ?_;refine tc_cond rfl (sbq ?_) (λ h=> ?_)
  . intro h;refine Zfp ?_;exact ⟨.int .i64 e,_,res1 rfl rfl,λ _ _ h=>h,rfl,rfl⟩
  exfalso;simp at h;exact he h
theorem Take_e {A B0:SP}{v:Value}{e:Int}(hI:Fn Tryz.prog 49 #[v] A (λ r B=>r= .int .i64 e/\ B=B0))(he:e≠0):
    Fn Tryz.prog 14 #[v] A (λ r B=>r= .tuple #[.int .i64 0,.int .i64 e]/\ B=B0):=by
  refine fn_enterW func14 rfl ntmps14 (by simp) ?_;refine Zc2 ?_;refine tl_c rfl (o_call bd49 rfl (hI)) ?_;rintro _ _ ⟨rfl,hB9⟩;subst hB9;refine Zdz ?_;refine tc_cond rfl (sbq ?_) (λ h=> ?_)
  . intro h;refine Zfw ?_;exact ⟨.tuple #[.int .i64 0,.int .i64 e],_,res2 rfl rfl rfl,λ _ _ h=>h,rfl,rfl⟩
  exfalso;simp at h;exact he h
theorem Give_e {b:Int}{A B0:SP}{v:Value}{e:Int}(hI:Fn Tryz.prog 50 #[v,.int .i64 b] A (λ r B=>r= .int .i64 e/\ B=B0))(he:e≠0):
    Fn Tryz.prog 15 #[v,.int .i64 b] A (λ r B=>r= .int .i64 e/\ B=B0):=by
  refine fn_enterW func15 rfl ntmps15 (by simp) ?_;refine Zbo ?_;refine tlm ?_;refine tl_c rfl (o_call bd50 rfl (hI)) ?_;rintro _ _ ⟨rfl,hB9⟩;subst hB9;refine Zdz ?_;refine tc_cond rfl (sbq ?_) (λ h=> ?_)
  . intro h;refine Zfp ?_;exact ⟨.int .i64 e,_,res1 rfl rfl,λ _ _ h=>h,rfl,rfl⟩
  exfalso;simp at h;exact he h
theorem Read_e {b:Int}{A B0:SP}{v:Value}{e:Int}(hI:Fn Tryz.prog 50 #[v,.int .i64 b] A (λ r B=>r= .int .i64 e/\ B=B0))(he:e≠0):
    Fn Tryz.prog 16 #[v,.int .i64 b] A (λ r B=>r= .tuple #[.slice none 0 0,.int .i64 e]/\ B=B0):=by
  refine fn_enterW func16 rfl ntmps16 (by simp) ?_;refine Zc2 ?_;refine tlm ?_;refine tl_c rfl (o_call bd50 rfl (hI)) ?_;rintro _ _ ⟨rfl,hB9⟩;subst hB9;refine Zdz ?_;refine tc_cond rfl (sbq ?_) (λ h=> ?_)
  . intro h;refine Zfw ?_;exact ⟨.tuple #[.slice none 0 0,.int .i64 e],_,res2 rfl rfl rfl,λ _ _ h=>h,rfl,rfl⟩
  exfalso;simp at h;exact he h
theorem Write_e {b:Int}{a:Option Addr}{m c:Nat}{A B0:SP}{v:Value}{e:Int}(hI:Fn Tryz.prog 50 #[v,.int .i64 b] A (λ r B=>r= .int .i64 e/\ B=B0))(he:e≠0):
    Fn Tryz.prog 18 #[v,.int .i64 b,.slice a m c] A (λ r B=>r= .int .i64 e/\ B=B0):=by
  refine fn_enterW func18 rfl ntmps18 (by simp) ?_;refine Zbo ?_;refine tlm ?_;refine tl_c rfl (o_call bd50 rfl (hI)) ?_;rintro _ _ ⟨rfl,hB9⟩;subst hB9;refine Zdz ?_;refine tc_cond rfl (sbq ?_) (λ h=> ?_)
  . intro h;refine Zfp ?_;exact ⟨.int .i64 e,_,res1 rfl rfl,λ _ _ h=>h,rfl,rfl⟩
  exfalso;simp at h;exact he h
theorem Root_e {A B0:SP}{v:Value}{e:Int}(hI:Fn Tryz.prog 49 #[v] A (λ r B=>r= .int .i64 e/\ B=B0))(he:e≠0):
    Fn Tryz.prog 20 #[v] A (λ r B=>r= .tuple #[.int .u64 0,.int .i64 e]/\ B=B0):=by
  refine fn_enterW func20 rfl ntmps20 (by simp) ?_;refine Zc2 ?_;refine tl_c rfl (o_call bd49 rfl (hI)) ?_;rintro _ _ ⟨rfl,hB9⟩;subst hB9;refine Zdz ?_;refine tc_cond rfl (sbq ?_) (λ h=> ?_)
  . intro h;refine Zfw ?_;exact ⟨.tuple #[.int .u64 0,.int .i64 e],_,res2 rfl rfl rfl,λ _ _ h=>h,rfl,rfl⟩
  exfalso;simp at h;exact he h
theorem SetRoot_e {z:Int}{A B0:SP}{v:Value}{e:Int}(hI:Fn Tryz.prog 49 #[v] A (λ r B=>r= .int .i64 e/\ B=B0))(he:e≠0):
    Fn Tryz.prog 21 #[v,.int .u64 z] A (λ r B=>r= .int .i64 e/\ B=B0):=by
  refine fn_enterW func21 rfl ntmps21 (by simp) ?_;refine Zbo ?_;refine tl_c rfl (o_call bd49 rfl (hI)) ?_;rintro _ _ ⟨rfl,hB9⟩;subst hB9;refine Zdz ?_;refine tc_cond rfl (sbq ?_) (λ h=> ?_)
  . intro h;refine Zfp ?_;exact ⟨.int .i64 e,_,res1 rfl rfl,λ _ _ h=>h,rfl,rfl⟩
  exfalso;simp at h;exact he h
theorem Commit_e {A B0:SP}{v:Value}{e:Int}(hI:Fn Tryz.prog 49 #[v] A (λ r B=>r= .int .i64 e/\ B=B0))(he:e≠0):
    Fn Tryz.prog 22 #[v] A (λ r B=>r= .int .i64 e/\ B=B0):=by
  refine fn_enterW func22 rfl ntmps22 (by simp) ?_;refine Zbo ?_;refine tl_c rfl (o_call bd49 rfl (hI)) ?_;rintro _ _ ⟨rfl,hB9⟩;subst hB9;refine Zdz ?_;refine tc_cond rfl (sbq ?_) (λ h=> ?_)
  . intro h;refine Zfp ?_;exact ⟨.int .i64 e,_,res1 rfl rfl,λ _ _ h=>h,rfl,rfl⟩
  exfalso;simp at h;exact he h
theorem Write_len {A B0:SP}{v:Value}{b:Int}{a:Option Addr}{m c:Nat}(hI:Fn Tryz.prog 50 #[v,.int .i64 b] A (λ r B=>r= .int .i64 0/\ B=B0))(hm:m≠256):
    Fn Tryz.prog 18 #[v,.int .i64 b,.slice a m c] A (λ r B=>r= .int .i64 2/\ B=B0):=by
  refine fn_enterW func18 rfl ntmps18 (by simp) ?_;refine Zbo ?_;refine tlm ?_;refine tl_c rfl (o_call bd50 rfl (hI)) ?_;rintro _ _ ⟨rfl,hB9⟩;subst hB9;refine Zt ?_;refine Zy ?_;intro h;refine Zcc ?_;refine tv (o_len underlying32 rfl) ?_;refine Zj ?_;refine tc_cond rfl (sbq ?_) (λ h=> ?_)
  . intro h;refine Zdp ?_;exact ⟨.int .i64 2,_,res1 rfl rfl,λ _ _ h=>h,rfl,rfl⟩
  exfalso;first|(have h9:=of_decide_eq_false h;omega)|(simp at h;omega)
theorem TakeX_p {A R:SP}{C:SP->SP}{X:WkX}{T:WkT}{ov:Bool}{s:DevS}(hc:Ct A (PbA X T ov s) R C:=by exact cbqz)(hb:WkB X s):Fn Tryz.prog 14 #[.pointer (some ⟨X.w,0,none⟩)] A (λ r B=>∃b e T2,takeZ X.n T ov s=(b,e,T2)/\ r= .tuple #[.int .i64 b,.int .i64 e]/\ B=C (PbA X T2 (o13 ov s) s)):=by
  by_cases h:e13 ov s=0
  . obtain ⟨rfl,ho⟩:=e13_0.1 h;obtain ⟨rfl,hC⟩:=hc;refine fn_pba λ lv Y hok=> ?_
    have hb9:WkB { X with lv:=lv } s:=⟨hb.lo,hb.hi,hb.top⟩;have hok9:WkOk { X with lv:=lv } Y T (s.ls.length*64):=wk_lv hok;refine Fn.weak (Take13_c (X:={ X with lv:=lv }) (hc:=ct_here) (hok:=hok9) (hb:=hb9) (ho:=ho)) ?_;rintro v B ⟨b,e,T2,Y2,h1,rfl,h2,rfl⟩;exact ⟨C (PbA X T2 false s),λ g w h9=>by rw [hC];exact pba_back (wk_vl h2) h9,b,e,T2,by unfold takeZ;rw [if_pos h,show takeS X.n T=(b,e,T2) from h1],rfl,by rw [o13_on ho]⟩
  exact (Take_e (begX_p (hc:=hc) (hb:=hb) h) h).mono λ v B ⟨h1,h2⟩=>⟨0,_,T,by unfold takeZ;rw [if_neg h],h1,by rw [h2,o13_no h]⟩
theorem GiveX_p {A R:SP}{C:SP->SP}{X:WkX}{T:WkT}{ov:Bool}{s:DevS}(hc:Ct A (PbA X T ov s) R C:=by exact cbqz)(hb:WkB X s){b:Int}:Fn Tryz.prog 15 #[.pointer (some ⟨X.w,0,none⟩),.int .i64 b] A (λ r B=>∃e T2,giveZ T ov s b=(e,T2)/\ r= .int .i64 e/\ B=C (PbA X T2 (o13 ov s) s)):=by
  by_cases h:e13 ov s=0
  . obtain ⟨rfl,ho⟩:=e13_0.1 h;obtain ⟨rfl,hC⟩:=hc;refine fn_pba λ lv Y hok=> ?_
    have hb9:WkB { X with lv:=lv } s:=⟨hb.lo,hb.hi,hb.top⟩;have hok9:WkOk { X with lv:=lv } Y T (s.ls.length*64):=wk_lv hok
    cases hu:usedZ T b with
    |true=>
      obtain ⟨q,rfl⟩:=Int.eq_ofNat_of_zero_le ((tok_wk hok).lt hu).1;refine Fn.weak (Give13_ok (X:={ X with lv:=lv }) (hc:=ct_here) (hok:=hok9) (hb:=hb9) (ho:=ho) (hu:=by rw [←usedZ_nat];exact hu)) ?_;rintro v B ⟨Y2,rfl,h2,rfl⟩;exact ⟨C (PbA X (T.give q) false s),λ g w h9=>by rw [hC];exact pba_back (wk_vl h2) h9,0,_,by unfold giveZ giveS;rw [if_pos h,if_pos hu,Int.toNat_natCast],rfl,by rw [o13_on ho]⟩
    |false=>
      refine Fn.weak (Give_e (e:=130) (b:=b) (B0:=R*WkA { X with lv:=lv } Y s) ((use13_c (X:={ X with lv:=lv }) (hc:=ct_here) (hok:=hok9) (hb:=hb9) (ho:=ho)).mono λ v B ⟨h1,h2⟩=>⟨by rw [h1,hu];rfl,h2.symm⟩) (by decide)) ?_;rintro v B ⟨rfl,rfl⟩;exact ⟨C (PbA X T false s),λ g w h9=>by rw [hC];exact pba_back hok h9,130,T,by unfold giveZ giveS;rw [if_pos h,if_neg (by rw [hu];decide)],rfl,by rw [o13_on ho]⟩
  exact (Give_e (use_e (begX_p (hc:=hc) (hb:=hb) h) h) h).mono λ v B ⟨h1,h2⟩=>⟨_,T,by unfold giveZ;rw [if_neg h],h1,by rw [h2,o13_no h]⟩
theorem ReadX_p {A R:SP}{C:SP->SP}{X:WkX}{T:WkT}{ov:Bool}{s:DevS}(hc:Ct A (PbA X T ov s) R C:=by exact cbqz)(hb:WkB X s){b:Int}:Fn Tryz.prog 16 #[.pointer (some ⟨X.w,0,none⟩),.int .i64 b] A (λ r B=>∃a c xs e,readZ T ov s X.ba b=(xs,e)/\ r= .tuple #[.slice a xs.length c,.int .i64 e]/\ xs.length<=c/\ B=C (PbA X T (o13 ov s) s)*Sl 1 (.slice a xs.length c) xs.length (bys xs)):=by
  by_cases h:e13 ov s=0
  . obtain ⟨rfl,ho⟩:=e13_0.1 h;obtain ⟨rfl,hC⟩:=hc;refine fn_pba λ lv Y hok=> ?_
    have hb9:WkB { X with lv:=lv } s:=⟨hb.lo,hb.hi,hb.top⟩;have hok9:WkOk { X with lv:=lv } Y T (s.ls.length*64):=wk_lv hok
    cases hu:usedZ T b with
    |true=>
      obtain ⟨q,rfl⟩:=Int.eq_ofNat_of_zero_le ((tok_wk hok).lt hu).1;refine fn_have (λ g w h9=>txa_wf (wka_txa (R:=R) (X:={ X with lv:=lv }) (Y:=Y) (s:=s) ct_here) g w h9) λ hwf=> ?_
      have hq:q<X.n:=(by have:=((tok_wk hok).lt hu).2;omega);have hcl:(conB T s X.ba q).length=256:=con_len (by rw [imgS_len hwf];have:=hb.hi;omega);refine Fn.weak (Read13_ok (X:={ X with lv:=lv }) (hc:=ct_here) (hok:=hok9) (hb:=hb9) (ho:=ho) (hu:=by rw [←usedZ_nat];exact hu)) ?_;rintro v B ⟨a,c,rfl,h2,rfl⟩;exact ⟨C (PbA X T false s)*Sl 1 (.slice a 256 c) 256 (bys (conB T s X.ba q)),(λ g w h9=>by rw [hC];exact (pba_back (R:=R*Sl 1 (.slice a 256 c) 256 (bys (conB T s X.ba q))) hok (h9.perm (by unfold conB;ac_rfl))).perm (by ac_rfl)),a,c,conB T s X.ba q,0,by unfold readZ readW;rw [if_pos h,if_pos hu,Int.toNat_natCast],by rw [hcl],by rw [hcl];exact h2,by rw [o13_on ho,hcl]⟩
    |false=>
      refine Fn.weak (Read_e (e:=130) (b:=b) (B0:=R*WkA { X with lv:=lv } Y s) ((use13_c (X:={ X with lv:=lv }) (hc:=ct_here) (hok:=hok9) (hb:=hb9) (ho:=ho)).mono λ v B ⟨h1,h2⟩=>⟨by rw [h1,hu];rfl,h2.symm⟩) (by decide)) ?_;rintro v B ⟨rfl,rfl⟩;exact ⟨C (PbA X T false s)*Sl 1 (.slice none 0 0) 0 [],λ g w h9=>sl_nil (k:=1) (by rw [hC];exact pba_back hok h9),none,0,[],130,by unfold readZ readW;rw [if_pos h,if_neg (by rw [hu];decide)],rfl,Nat.le_refl _,by rw [o13_on ho];rfl⟩
  refine Fn.weak (Read_e (use_e (begX_p (hc:=hc) (hb:=hb) h) h) h) ?_;rintro v B ⟨rfl,rfl⟩;exact ⟨C (PbA X T true s)*Sl 1 (.slice none 0 0) 0 [],λ g w h9=>sl_nil (k:=1) h9,none,0,[],_,by unfold readZ;rw [if_neg h],rfl,Nat.le_refl _,by rw [o13_no h];rfl⟩
theorem WriteX_p {A R:SP}{C:SP->SP}{X:WkX}{T:WkT}{ov:Bool}{s:DevS}(hc:Ct A (PbA X T ov s) R C:=by exact cbqz)(hb:WkB X s){b:Int}{a:Option Addr}{m c:Nat}{xs:List Nat}(hr:Rs R a (bys xs):=by exact rbqz)(hxl:xs.length=m)(hxb:∀x∈xs,x<256):Fn Tryz.prog 18 #[.pointer (some ⟨X.w,0,none⟩),.int .i64 b,.slice a m c] A (λ r B=>∃e T2,writeZ T ov s X.ba b xs=(e,T2)/\ r= .int .i64 e/\ B=C (PbA X T2 (o13 ov s) s)):=by
  by_cases h:e13 ov s=0
  . obtain ⟨rfl,ho⟩:=e13_0.1 h;obtain ⟨rfl,hC⟩:=hc;refine fn_pba λ lv Y hok=> ?_
    have hb9:WkB { X with lv:=lv } s:=⟨hb.lo,hb.hi,hb.top⟩;have hok9:WkOk { X with lv:=lv } Y T (s.ls.length*64):=wk_lv hok
    cases hu:usedZ T b with
    |true=>
      obtain ⟨q,rfl⟩:=Int.eq_ofNat_of_zero_le ((tok_wk hok).lt hu).1
      by_cases h256:m=256
      . subst h256;refine Fn.weak (Write13_ok (X:={ X with lv:=lv }) (hc:=ct_here) (hok:=hok9) (hb:=hb9) (ho:=ho) (hu:=by rw [←usedZ_nat];exact hu) (hr:=hr) (hxl:=hxl) (hxb:=hxb)) ?_;rintro v B ⟨Y2,rfl,h2,rfl⟩;exact ⟨C (PbA X (T.write X.ba q xs) false s),λ g w h9=>by rw [hC];exact pba_back (wk_vl h2) h9,0,_,by unfold writeZ writeW;rw [if_pos h,if_pos hu,if_pos hxl,Int.toNat_natCast],rfl,by rw [o13_on ho]⟩
      refine Fn.weak (Write_len (b:=((q:Nat):Int)) (a:=a) (c:=c) (B0:=R*WkA { X with lv:=lv } Y s) ((use13_c (X:={ X with lv:=lv }) (hc:=ct_here) (hok:=hok9) (hb:=hb9) (ho:=ho)).mono λ v B ⟨h1,h2⟩=>⟨by rw [h1,hu];rfl,h2.symm⟩) h256) ?_;rintro v B ⟨rfl,rfl⟩;exact ⟨C (PbA X T false s),λ g w h9=>by rw [hC];exact pba_back hok h9,2,T,by unfold writeZ writeW;rw [if_pos h,if_pos hu,if_neg (by rw [hxl];exact h256)],rfl,by rw [o13_on ho]⟩
    |false=>
      refine Fn.weak (Write_e (e:=130) (b:=b) (a:=a) (m:=m) (c:=c) (B0:=R*WkA { X with lv:=lv } Y s) ((use13_c (X:={ X with lv:=lv }) (hc:=ct_here) (hok:=hok9) (hb:=hb9) (ho:=ho)).mono λ v B ⟨h1,h2⟩=>⟨by rw [h1,hu];rfl,h2.symm⟩) (by decide)) ?_;rintro v B ⟨rfl,rfl⟩;exact ⟨C (PbA X T false s),λ g w h9=>by rw [hC];exact pba_back hok h9,130,T,by unfold writeZ writeW;rw [if_pos h,if_neg (by rw [hu];decide)],rfl,by rw [o13_on ho]⟩
  exact (Write_e (use_e (begX_p (hc:=hc) (hb:=hb) h) h) h).mono λ v B ⟨h1,h2⟩=>⟨_,T,by unfold writeZ;rw [if_neg h],h1,by rw [h2,o13_no h]⟩
theorem RootX_p {A R:SP}{C:SP->SP}{X:WkX}{T:WkT}{ov:Bool}{s:DevS}(hc:Ct A (PbA X T ov s) R C:=by exact cbqz)(hb:WkB X s):Fn Tryz.prog 20 #[.pointer (some ⟨X.w,0,none⟩)] A (λ r B=>∃z e,rootZ T ov s=(z,e)/\ r= .tuple #[.int .u64 ((z:Nat):Int),.int .i64 e]/\ B=C (PbA X T (o13 ov s) s)):=by
  by_cases h:e13 ov s=0
  . obtain ⟨rfl,ho⟩:=e13_0.1 h;obtain ⟨rfl,hC⟩:=hc;refine fn_pba λ lv Y hok=> ?_
    have hb9:WkB { X with lv:=lv } s:=⟨hb.lo,hb.hi,hb.top⟩;have hok9:WkOk { X with lv:=lv } Y T (s.ls.length*64):=wk_lv hok;refine Fn.weak (Root13_v (X:={ X with lv:=lv }) (hc:=ct_here) (hok:=hok9) (hb:=hb9) (ho:=ho)) ?_;rintro v B ⟨rfl,rfl⟩;exact ⟨C (PbA X T false s),λ g w h9=>by rw [hC];exact pba_back hok h9,_,_,by unfold rootZ;rw [if_pos h],rfl,by rw [o13_on ho]⟩
  exact (Root_e (begX_p (hc:=hc) (hb:=hb) h) h).mono λ v B ⟨h1,h2⟩=>⟨0,_,by unfold rootZ;rw [if_neg h],h1,by rw [h2,o13_no h]⟩
theorem SetRootX_p {A R:SP}{C:SP->SP}{X:WkX}{T:WkT}{ov:Bool}{s:DevS}(hc:Ct A (PbA X T ov s) R C:=by exact cbqz)(hb:WkB X s){z:Nat}(hv:z<18446744073709551616):Fn Tryz.prog 21 #[.pointer (some ⟨X.w,0,none⟩),.int .u64 ((z:Nat):Int)] A (λ r B=>∃e T2,setZ T ov s z=(e,T2)/\ r= .int .i64 e/\ B=C (PbA X T2 (o13 ov s) s)):=by
  by_cases h:e13 ov s=0
  . obtain ⟨rfl,ho⟩:=e13_0.1 h;obtain ⟨rfl,hC⟩:=hc;refine fn_pba λ lv Y hok=> ?_
    have hb9:WkB { X with lv:=lv } s:=⟨hb.lo,hb.hi,hb.top⟩;have hok9:WkOk { X with lv:=lv } Y T (s.ls.length*64):=wk_lv hok;refine Fn.weak (SetRoot13_ok (X:={ X with lv:=lv }) (hc:=ct_here) (hok:=hok9) (hb:=hb9) (ho:=ho) (hv:=hv)) ?_;rintro v B ⟨Y2,rfl,h2,rfl⟩;exact ⟨C (PbA X (T.root z) false s),λ g w h9=>by rw [hC];exact pba_back (wk_vl h2) h9,_,_,by unfold setZ;rw [if_pos h],rfl,by rw [o13_on ho]⟩
  exact (SetRoot_e (begX_p (hc:=hc) (hb:=hb) h) h).mono λ v B ⟨h1,h2⟩=>⟨_,T,by unfold setZ;rw [if_neg h],h1,by rw [h2,o13_no h]⟩
theorem CommitX13_p {A R:SP}{C:SP->SP}{X:WkX}{T:WkT}{ov:Bool}{s:DevS}(hc:Ct A (PbA X T ov s) R C:=by exact cbqz)(hb:WkB X s)(hlw:LogW (s.ls.length*64) X.at_ X.sz)(hroom:Room (2*(s.ls.length*64)+X.sz+8) s):Fn Tryz.prog 22 #[.pointer (some ⟨X.w,0,none⟩)] A (λ r B=>∃e T2 s2,comZ X.at_ X.sz (s.ls.length*64) T ov s=((e,T2),s2)/\ r= .int .i64 e/\ B=C (PbA X T2 true s2)):=by
  by_cases h:e13 ov s=0
  . obtain ⟨rfl,ho⟩:=e13_0.1 h;obtain ⟨rfl,hC⟩:=hc;refine fn_pba λ lv Y hok=> ?_
    have hb9:WkB { X with lv:=lv } s:=⟨hb.lo,hb.hi,hb.top⟩;have hok9:WkOk { X with lv:=lv } Y T (s.ls.length*64):=wk_lv hok;refine Fn.weak (Commit13_c (X:={ X with lv:=lv }) (hc:=ct_here) (hok:=hok9) (hb:=hb9) (ho:=ho) (hlw:=hlw) (hroom:=hroom)) ?_;rintro v B ⟨e,b,s2,lv2,M2,h1,rfl,h2,rfl⟩;have h1:comS X.at_ X.sz (s.ls.length*64) T.f s=((e,b),s2):=h1;refine ⟨C (PbA X { T with lv:=if e=0 then usedB T else T.lv } true s2),λ g w h9=> ?_,e,_,s2,by unfold comZ;rw [if_pos h,h1],rfl,rfl⟩;rw [hC]
    exact pbo_back (Y:={ Y with Ml:=M2 }) (lv:=lv2) h2 (h9.perm (by unfold PbO;ac_rfl))
  exact (Commit_e (begX_p (hc:=hc) (hb:=hb) h) h).mono λ v B ⟨h1,h2⟩=>⟨_,T,s,by unfold comZ;rw [if_neg h],h1,h2⟩
end Go.Vl

namespace Go.Vl
open Go Go.Proofs Go.Proofs.Tryz
def op12 (kn p n:Int)(ba:Option Addr)(bn bc:Nat)(ka:Option Addr)(kl kc:Nat):List Value:=[.int .i64 kn,.int .i64 p,.int .i64 n,.slice ba bn bc,.slice ka kl kc]
section
variable {kn p n:Int} {ba ka:Option Addr} {bn bc kl kc:Nat}
end
def x5a (x:Nat):Nat:=(IntKind.u8.wrap ((BitVec.ofInt IntKind.u8.bits (x:Int)^^^BitVec.ofInt IntKind.u8.bits 90).toNat:Int)).toNat
def ldD (z m:Int)(s:DevS):List Nat:=if rdy s.ls.length s.off z m=0 then ((imgS s).drop z.toNat).take m.toNat else []
def idlB (s:DevS)(b:Bool):Int:=if s.off=true then 5 else if b=true then 3 else 0
theorem idl_b (s:DevS)(ov:Option Nat):idlS s ov=idlB s ov.isSome:=rfl
theorem idl_ok {s:DevS}{ov:Option Nat}(h:idlB s ov.isSome=0):s.off=false/\ ov=none:=by
  unfold idlB at h
  cases ho:s.off<;>cases ov<;>simp [ho] at h ⊢
def recB (at_ sz:Nat)(b:Bool)(s:DevS):(Int×Int)×DevS:=if idlB s b≠0 then ((0,idlB s b),s) else rollS at_ sz s
def bgnB (at_ sz:Nat)(b:Bool)(s:DevS):Int:=if idlB s b≠0 then idlB s b else stpS at_ sz s
theorem bgn_ok {at_ sz:Nat}{b:Bool}{s:DevS}(h:bgnB at_ sz b s=0):s.off=false/\ b=false/\ stpS at_ sz s=0:=by
  unfold bgnB at h
  split at h
  . rename_i h1;exact absurd h h1
  rename_i h1
  unfold idlB at h1
  cases ho:s.off<;>cases b<;>simp [ho] at h1 ⊢
  exact h
theorem BeginP_no {A R:SP}{C:SP->SP}{d:Nat}{s:DevS}(hc:Ct A (Dev d s) R C:=by exact cbqz){p lg:Nat}{ov:Option Nat}  (hp:Has A p (cl (pocs lg d ov) 78):=by exact hbqz){b:Bool}(hb:ov.isSome=b:=by first|assumption|rfl){at_ sz:Nat}(hl:Has R lg (cl (lcs11 d at_ sz) 183):=by exact hbqz)(hlw:LogW (s.ls.length*64) at_ sz:=by assumption)(hne:bgnB at_ sz b s≠0):
    Fn Tryz.prog 48 #[pz p] A (λ v B=>v= .tuple #[.pointer none,.int .i64 (bgnB at_ sz b s)]/\ A=B):=by
  subst hb
  by_cases h:idlB s ov.isSome=0
  . obtain ⟨ho,rfl⟩:=idl_ok h;have e9:bgnB at_ sz (Option.isSome (none:Option Nat)) s=stpS at_ sz s:=(by unfold bgnB;rw [if_neg (by simpa using h)]);rw [e9] at hne ⊢
    exact Begin12_st hc hp hl hlw ho hne
  have e9:bgnB at_ sz ov.isSome s=idlB s ov.isSome:=(by unfold bgnB;rw [if_pos h]);rw [e9,←idl_b]
  exact Begin12_no hc hp (by rw [idl_b];exact h)
def eY (o:Option Bool)(s:DevS):Int:=match o with
  |none=>1
  |some ov=>e13 ov s
def oY (o:Option Bool)(s:DevS):Option Bool:=o.map λ ov=>o13 ov s
def takeY (n:Nat)(T:WkT)(o:Option Bool)(s:DevS):Int×Int×WkT:=if eY o s=0 then (((takeS n T).1:Int),(takeS n T).2.1,(takeS n T).2.2) else (0,eY o s,T)
def giveY (T:WkT)(o:Option Bool)(s:DevS)(b:Int):Int×WkT:=if eY o s=0 then giveS T b else (eY o s,T)
def readY (T:WkT)(o:Option Bool)(s:DevS)(ba:Nat)(b:Int):List Nat×Int:=if eY o s=0 then readW T s ba b else ([],eY o s)
def writeY (T:WkT)(o:Option Bool)(s:DevS)(ba:Nat)(b:Int)(xs:List Nat):Int×WkT:=if eY o s=0 then writeW T ba b xs else (eY o s,T)
def rootY (T:WkT)(o:Option Bool)(s:DevS):Nat×Int:=if eY o s=0 then (rootV T s,0) else (0,eY o s)
def setY (T:WkT)(o:Option Bool)(s:DevS)(v:Nat):Int×WkT:=if eY o s=0 then (0,T.root v) else (eY o s,T)
def comY (at_ sz N:Nat)(T:WkT)(o:Option Bool)(s:DevS):(Int×WkT)×DevS:=if eY o s=0 then (((comS at_ sz N T.f s).1.1,{ T with lv:=if (comS at_ sz N T.f s).1.1=0 then usedB T else T.lv }),(comS at_ sz N T.f s).2) else ((eY o s,T),s)
def dropY (o:Option Bool):Int:=match o with
  |none=>1
  |some ov=>dropZ ov
def endY (o:Option Bool):Option Bool:=o.map λ _=>true
def takenY (n:Nat)(g:Nat->Bool)(o:Option Bool):List Int:=match o with
  |none=>[]
  |some ov=>takenL n g ov
def blocksY (n:Nat)(o:Option Bool):Int:=match o with
  |none=>0
  |some _=>(n:Int)
def liveY (o:Option Bool):Bool:=match o with
  |some false=>true
  |_=>false
def loadY (n:Nat)(T:WkT)(o:Option Bool)(zs:List Int):Int×WkT:=if liveY o=true then (3,T) else if okZ n zs=true then (0,{ T with lv:=onZ zs }) else (2,T)
def bgnY (at_ sz:Nat)(T:WkT)(o:Option Bool)(s:DevS):Int×WkT×Option Bool:=if bgnB at_ sz (liveY o) s=0 then (0,T0 T.lv,some false) else (bgnB at_ sz (liveY o) s,T,o)
structure HkB (at_ sz ba n:Nat) (s:DevS):Prop where
  lo:128<=ba
  hi:ba+256*n<=s.ls.length*64
  top:s.ls.length*64<=4194304
  wf:WfD s
  lw:LogW (s.ls.length*64) at_ sz
theorem HkB.wk {h w t p lg d mb lv tk gv at_ sz ba n:Nat}{s:DevS}(hb:HkB at_ sz ba n s):WkB ⟨h,w,t,p,lg,d,mb,lv,tk,gv,at_,sz,ba,n⟩ s:=⟨hb.lo,hb.hi,hb.top⟩
theorem HkB.nb {at_ sz ba n:Nat}{s:DevS}(hb:HkB at_ sz ba n s):n<=4194304:=by have:=hb.hi;have:=hb.top;omega
def PLf (h p lg d at_ sz ba n:Nat)(wv:Value)(T:WkT)(o:Option Bool)(s:DevS):SP:=match o with
  |none=>λ hh=>∃lv M,wv= .pointer none/\ SF M n T.lv/\ RsA h p lg d at_ sz ba n lv M s hh
  |some ov=>λ hh=>∃w t mb lv tk gv,wv=(pz w)/\ PbA ⟨h,w,t,p,lg,d,mb,lv,tk,gv,at_,sz,ba,n⟩ T ov s hh
section
variable {P:Program} {fn:FuncId} {Q:Value->SP->Prop} {h p lg d at_ sz ba n:Nat} {wv:Value} {T:WkT} {s:DevS} {R:SP}
theorem fn_pln {args:Array Value}(k:∀lv M,wv= .pointer none->SF M n T.lv->Fn P fn args (R*RsA h p lg d at_ sz ba n lv M s) Q):Fn P fn args (R*PLf h p lg d at_ sz ba n wv T none s) Q:=λ g w hs=>by
  obtain ⟨_,⟨a,b,hd,rfl,ha,lv,M,hw,hM,hb⟩,hx⟩:=hs.hp;exact k lv M hw hM g w ⟨hs.os,hs.tape,hs.out,_,⟨a,b,hd,rfl,ha,hb⟩,hx⟩
theorem fn_pls {args:Array Value}{ov:Bool}(k:∀w t mb lv tk gv,wv=(pz w)->Fn P fn args (R*PbA ⟨h,w,t,p,lg,d,mb,lv,tk,gv,at_,sz,ba,n⟩ T ov s) Q):Fn P fn args (R*PLf h p lg d at_ sz ba n wv T (some ov) s) Q:=λ g w hs=>by
  obtain ⟨_,⟨a,b,hd,rfl,ha,w9,t,mb,lv,tk,gv,hw,hb⟩,hx⟩:=hs.hp;exact k w9 t mb lv tk gv hw g w ⟨hs.os,hs.tape,hs.out,_,⟨a,b,hd,rfl,ha,hb⟩,hx⟩
theorem pln_back {lv:Nat}{M:MS}(hM:SF M n T.lv){g:Gh}{w:World}(hs:sat g w (R*RsA h p lg d at_ sz ba n lv M s)):sat g w (R*PLf h p lg d at_ sz ba n (.pointer none) T none s):=
  hs.mono λ x ⟨a,b,hd,e,ha,hb⟩=>⟨a,b,hd,e,ha,lv,M,rfl,hM,hb⟩
theorem pls_back {w9 t mb lv tk gv:Nat}{ov:Bool}{g:Gh}{w:World}(hs:sat g w (R*PbA ⟨h,w9,t,p,lg,d,mb,lv,tk,gv,at_,sz,ba,n⟩ T ov s)):sat g w (R*PLf h p lg d at_ sz ba n ((pz w9)) T (some ov) s):=
  hs.mono λ x ⟨a,b,hd,e,ha,hb⟩=>⟨a,b,hd,e,ha,w9,t,mb,lv,tk,gv,rfl,hb⟩
end
attribute [local irreducible] crk crL crc Sl pt ro Dev imgS recS readS recsF rdW rdO rkT Parts rvl recordsS runsL adrF kcl xcl kys runA runsF layF ovF TxA adZ WkA comS conB rootV
theorem DropO13 {A:SP}{w h t tk gv ls:Nat}(hw:Has A w (cl (wcs h t tk gv ls true) 101)):
    Fn Tryz.prog 23 #[pz w] A (λ r B=>r= .int .i64 3/\ A=B):=by
  refine fn_enterW func23 rfl ntmps23 (by simp) ?_;refine Zbo ?_;refine tl_c rfl (o_call bd61 rfl (thereO_c hw)) ?_;refine Ze6 ?_;intro h;refine Zcc ?_;refine Zct ?_;refine tv (o_load p4 rfl hw rfl) ?_;refine Zed ?_;intro h;refine Zdp ?_;exact ⟨.int .i64 3,_,res1 rfl rfl,Dr.sat drqz,rfl,rfl⟩
theorem DropS13 {A R:SP}{C:SP->SP}{X:WkX}{Y:WkY}{s:DevS}(hc:Ct A (WkA X Y s) R C:=by exact cbqz):
    Fn Tryz.prog 23 #[.pointer (some ⟨X.w,0,none⟩)] A (λ r B=>r= .int .i64 0/\ B=R*PbO X s X.lv Y):=by
  refine fn_enterW func23 rfl ntmps23 (by simp) ?_;obtain ⟨rfl,hC⟩:=hc;refine tc_eq (show _=R*pt X.h (cl (hcs X.p X.ba X.n X.lv (some X.w)) 99)*pt X.w (cl (wcs X.h X.t X.tk X.gv Y.ls false) 101)*pt X.lv (mpo .i64 Y.Ml)*pt X.tk (mpo .i64 Y.Mt)*pt X.gv (mpo .i64 Y.Mg)*TxA X.t X.p X.lg X.d X.mb X.at_ X.sz Y.M false s by unfold WkA;ac_rfl) ?_;refine Zbo ?_;refine tl_c rfl (o_call bd61 rfl (there13_c)) ?_;refine Ze6 ?_;intro h;refine Zcc ?_;refine Zct ?_;refine tv (o_load p4 rfl hsqz rfl) ?_;refine Zv ?_;intro h;refine Zdu ?_;refine Zch ?_;refine tl_c rfl (o_call bd59 rfl (DropT_c)) ?_;refine Zdq ?_;refine Zb ?_;refine tl_c rfl (o_call bd60 rfl (end13_c (R:=R*pt X.lv (mpo .i64 Y.Ml)*pt X.tk (mpo .i64 Y.Mt)*pt X.gv (mpo .i64 Y.Mg)*TxA X.t X.p X.lg X.d X.mb X.at_ X.sz Y.M.clr true s) (w:=X.w) (hd:=X.h) (p:=X.p) (ba:=X.ba) (n:=X.n) (lv:=X.lv) (t:=X.t) (tk:=X.tk) (gv:=X.gv) (ls:=Y.ls) (hA:=by ac_rfl))) ?_;refine Zdq ?_;refine Zdb ?_;exact ⟨.int .i64 0,_,res1 rfl rfl,(λ g w h=>(Dr.sat (A':=R*pt X.lv (mpo .i64 Y.Ml)*(pt X.p (cl (pocs X.lg X.d none) 78)*pt X.lg (cl (lcs11 X.d X.at_ X.sz) 183))*Dev X.d s*pt X.h (cl (hcs X.p X.ba X.n X.lv none) 99)*pt X.w (cl (wcs X.h X.t X.tk X.gv Y.ls true) 101)) ⟨pt X.tk (mpo .i64 Y.Mt)*pt X.gv (mpo .i64 Y.Mg)*pt X.t (cl (txcs X.p X.mb true) 155)*pt X.mb (mpo .i64 Y.M.clr),by unfold TxA;rw [if_pos rfl];ac_rfl⟩ g w h).perm (by unfold PbO RsA;ac_rfl)),rfl,rfl⟩
theorem DropN13 {A:SP}:
    Fn Tryz.prog 23 #[.pointer none] A (λ r B=>r= .int .i64 1/\ A=B):=by
  refine fn_enterW func23 rfl ntmps23 (by simp) ?_;refine Zbo ?_;refine tl_c rfl (o_call bd61 rfl (thereN_c)) ?_;refine Zbg ?_;refine Zed ?_;intro h;refine Zdp ?_;exact ⟨.int .i64 1,_,res1 rfl rfl,Dr.sat drqz,rfl,rfl⟩
end Go.Vl

namespace Go.Vl
open Go Go.Proofs Go.Proofs.Tryz
section
variable {n:Nat} {T:WkT} {s:DevS} {ba at_ sz N:Nat} {b:Int} {xs:List Nat} {v:Nat}
theorem takeY_n:takeY n T none s=(0,1,T):=if_neg (show¬(1:Int)=0 by decide)
theorem giveY_n:giveY T none s b=(1,T):=if_neg (show¬(1:Int)=0 by decide)
theorem readY_n:readY T none s ba b=([],1):=if_neg (show¬(1:Int)=0 by decide)
theorem writeY_n:writeY T none s ba b xs=(1,T):=if_neg (show¬(1:Int)=0 by decide)
theorem rootY_n:rootY T none s=(0,1):=if_neg (show¬(1:Int)=0 by decide)
theorem setY_n:setY T none s v=(1,T):=if_neg (show¬(1:Int)=0 by decide)
theorem comY_n:comY at_ sz N T none s=((1,T),s):=if_neg (show¬(1:Int)=0 by decide)
end
theorem TakeP {R:SP}{h p lg d at_ sz ba n:Nat}{wv:Value}{T:WkT}{o:Option Bool}{s:DevS}(hb:HkB at_ sz ba n s):Fn Tryz.prog 14 #[wv] (R*PLf h p lg d at_ sz ba n wv T o s) (λ r B=>r= .tuple #[.int .i64 (takeY n T o s).1,.int .i64 (takeY n T o s).2.1]/\ B=R*PLf h p lg d at_ sz ba n wv (takeY n T o s).2.2 (oY o s) s):=by
  cases o with
  |none=>
    refine fn_pln λ lv M hwv hM=> ?_
    subst hwv;refine Fn.weak (Take_e (beginN_c.mono λ v B ⟨h1,h2⟩=>⟨h1,h2.symm⟩) (by decide)) ?_;rintro v B ⟨rfl,rfl⟩;rw [takeY_n]
    exact ⟨_,λ g9 w9 h9=>pln_back hM h9,rfl,rfl⟩
  |some ov=>
    refine fn_pls λ w t mb lv tk gv hwv=> ?_
    subst hwv;refine Fn.weak (TakeX_p (X:=⟨h,w,t,p,lg,d,mb,lv,tk,gv,at_,sz,ba,n⟩) (T:=T) (ov:=ov) (s:=s) (hc:=ct_here) (hb:=hb.wk)) ?_;rintro v B ⟨b,e,T2,h1,rfl,rfl⟩;have h1:takeY n T (some ov) s=(b,e,T2):=h1;rw [h1]
    exact ⟨_,λ g9 w9 h9=>pls_back h9,rfl,rfl⟩
theorem GiveP {R:SP}{h p lg d at_ sz ba n:Nat}{wv:Value}{T:WkT}{o:Option Bool}{s:DevS}(hb:HkB at_ sz ba n s){b:Int}:Fn Tryz.prog 15 #[wv,.int .i64 b] (R*PLf h p lg d at_ sz ba n wv T o s) (λ r B=>r= .int .i64 (giveY T o s b).1/\ B=R*PLf h p lg d at_ sz ba n wv (giveY T o s b).2 (oY o s) s):=by
  cases o with
  |none=>
    refine fn_pln λ lv M hwv hM=> ?_
    subst hwv;refine Fn.weak (Give_e (b:=b) (use_e (beginN_c.mono λ v B ⟨h1,h2⟩=>⟨h1,h2.symm⟩) (by decide)) (by decide)) ?_;rintro v B ⟨rfl,rfl⟩;rw [giveY_n]
    exact ⟨_,λ g9 w9 h9=>pln_back hM h9,rfl,rfl⟩
  |some ov=>
    refine fn_pls λ w t mb lv tk gv hwv=> ?_
    subst hwv;refine Fn.weak (GiveX_p (X:=⟨h,w,t,p,lg,d,mb,lv,tk,gv,at_,sz,ba,n⟩) (T:=T) (ov:=ov) (s:=s) (hc:=ct_here) (hb:=hb.wk)) ?_;rintro v B ⟨e,T2,h1,rfl,rfl⟩;have h1:giveY T (some ov) s b=(e,T2):=h1;rw [h1]
    exact ⟨_,λ g9 w9 h9=>pls_back h9,rfl,rfl⟩
theorem ReadP {R:SP}{h p lg d at_ sz ba n:Nat}{wv:Value}{T:WkT}{o:Option Bool}{s:DevS}(hb:HkB at_ sz ba n s){b:Int}:Fn Tryz.prog 16 #[wv,.int .i64 b] (R*PLf h p lg d at_ sz ba n wv T o s) (λ r B=>∃a c,r= .tuple #[.slice a (readY T o s ba b).1.length c,.int .i64 (readY T o s ba b).2]/\ (readY T o s ba b).1.length<=c/\ B=R*PLf h p lg d at_ sz ba n wv T (oY o s) s*Sl 1 (.slice a (readY T o s ba b).1.length c) (readY T o s ba b).1.length (bys (readY T o s ba b).1)):=by
  cases o with
  |none=>
    refine fn_pln λ lv M hwv hM=> ?_
    subst hwv;refine Fn.weak (Read_e (b:=b) (use_e (beginN_c.mono λ v B ⟨h1,h2⟩=>⟨h1,h2.symm⟩) (by decide)) (by decide)) ?_;rintro v B ⟨rfl,rfl⟩;rw [readY_n]
    exact ⟨_,λ g9 w9 h9=>sl_nil (k:=1) (pln_back hM h9),none,0,rfl,Nat.le_refl _,rfl⟩
  |some ov=>
    refine fn_pls λ w t mb lv tk gv hwv=> ?_
    subst hwv;refine Fn.weak (ReadX_p (X:=⟨h,w,t,p,lg,d,mb,lv,tk,gv,at_,sz,ba,n⟩) (T:=T) (ov:=ov) (s:=s) (hc:=ct_here) (hb:=hb.wk)) ?_;rintro v B ⟨a,c,xs,e,h1,rfl,h2,rfl⟩;have h1:readY T (some ov) s ba b=(xs,e):=h1;rw [h1]
    exact ⟨R*PLf h p lg d at_ sz ba n ((pz w)) T (oY (some ov) s) s*Sl 1 (.slice a xs.length c) xs.length (bys xs),λ g9 w9 h9=>(pls_back (R:=R*Sl 1 (.slice a xs.length c) xs.length (bys xs)) (h9.perm (by ac_rfl))).perm (by show _=R*PLf h p lg d at_ sz ba n _ T (some (o13 ov s)) s*_;ac_rfl),a,c,rfl,h2,rfl⟩
theorem WriteP {R:SP}{h p lg d at_ sz ba n:Nat}{wv:Value}{T:WkT}{o:Option Bool}{s:DevS}(hb:HkB at_ sz ba n s){b:Int}{a:Option Addr}{m c:Nat}{xs:List Nat}(hr:Rs R a (bys xs):=by exact rbqz)(hxl:xs.length=m)(hxb:∀x∈xs,x<256):Fn Tryz.prog 18 #[wv,.int .i64 b,.slice a m c] (R*PLf h p lg d at_ sz ba n wv T o s) (λ r B=>r= .int .i64 (writeY T o s ba b xs).1/\ B=R*PLf h p lg d at_ sz ba n wv (writeY T o s ba b xs).2 (oY o s) s):=by
  cases o with
  |none=>
    refine fn_pln λ lv M hwv hM=> ?_
    subst hwv;refine Fn.weak (Write_e (b:=b) (use_e (beginN_c.mono λ v B ⟨h1,h2⟩=>⟨h1,h2.symm⟩) (by decide)) (by decide)) ?_;rintro v B ⟨rfl,rfl⟩;rw [writeY_n]
    exact ⟨_,λ g9 w9 h9=>pln_back hM h9,rfl,rfl⟩
  |some ov=>
    refine fn_pls λ w t mb lv tk gv hwv=> ?_
    subst hwv;refine Fn.weak (WriteX_p (X:=⟨h,w,t,p,lg,d,mb,lv,tk,gv,at_,sz,ba,n⟩) (T:=T) (ov:=ov) (s:=s) (hc:=ct_here) (hb:=hb.wk) (hr:=hr) (hxl:=hxl) (hxb:=hxb)) ?_;rintro v B ⟨e,T2,h1,rfl,rfl⟩;have h1:writeY T (some ov) s ba b xs=(e,T2):=h1;rw [h1]
    exact ⟨_,λ g9 w9 h9=>pls_back h9,rfl,rfl⟩
theorem RootP {R:SP}{h p lg d at_ sz ba n:Nat}{wv:Value}{T:WkT}{o:Option Bool}{s:DevS}(hb:HkB at_ sz ba n s):Fn Tryz.prog 20 #[wv] (R*PLf h p lg d at_ sz ba n wv T o s) (λ r B=>r= .tuple #[.int .u64 (((rootY T o s).1:Nat):Int),.int .i64 (rootY T o s).2]/\ B=R*PLf h p lg d at_ sz ba n wv T (oY o s) s):=by
  cases o with
  |none=>
    refine fn_pln λ lv M hwv hM=> ?_
    subst hwv;refine Fn.weak (Root_e (beginN_c.mono λ v B ⟨h1,h2⟩=>⟨h1,h2.symm⟩) (by decide)) ?_;rintro v B ⟨rfl,rfl⟩;rw [rootY_n]
    exact ⟨_,λ g9 w9 h9=>pln_back hM h9,rfl,rfl⟩
  |some ov=>
    refine fn_pls λ w t mb lv tk gv hwv=> ?_
    subst hwv;refine Fn.weak (RootX_p (X:=⟨h,w,t,p,lg,d,mb,lv,tk,gv,at_,sz,ba,n⟩) (T:=T) (ov:=ov) (s:=s) (hc:=ct_here) (hb:=hb.wk)) ?_;rintro v B ⟨z,e,h1,rfl,rfl⟩;have h1:rootY T (some ov) s=(z,e):=h1;rw [h1]
    exact ⟨_,λ g9 w9 h9=>pls_back h9,rfl,rfl⟩
theorem SetRootP {R:SP}{h p lg d at_ sz ba n:Nat}{wv:Value}{T:WkT}{o:Option Bool}{s:DevS}(hb:HkB at_ sz ba n s){z:Nat}(hv:z<18446744073709551616):Fn Tryz.prog 21 #[wv,.int .u64 ((z:Nat):Int)] (R*PLf h p lg d at_ sz ba n wv T o s) (λ r B=>r= .int .i64 (setY T o s z).1/\ B=R*PLf h p lg d at_ sz ba n wv (setY T o s z).2 (oY o s) s):=by
  cases o with
  |none=>
    refine fn_pln λ lv M hwv hM=> ?_
    subst hwv;refine Fn.weak (SetRoot_e (beginN_c.mono λ v B ⟨h1,h2⟩=>⟨h1,h2.symm⟩) (by decide)) ?_;rintro v B ⟨rfl,rfl⟩;rw [setY_n]
    exact ⟨_,λ g9 w9 h9=>pln_back hM h9,rfl,rfl⟩
  |some ov=>
    refine fn_pls λ w t mb lv tk gv hwv=> ?_
    subst hwv;refine Fn.weak (SetRootX_p (X:=⟨h,w,t,p,lg,d,mb,lv,tk,gv,at_,sz,ba,n⟩) (T:=T) (ov:=ov) (s:=s) (hc:=ct_here) (hb:=hb.wk) (hv:=hv)) ?_;rintro v B ⟨e,T2,h1,rfl,rfl⟩;have h1:setY T (some ov) s z=(e,T2):=h1;rw [h1]
    exact ⟨_,λ g9 w9 h9=>pls_back h9,rfl,rfl⟩
theorem CommitP {R:SP}{h p lg d at_ sz ba n:Nat}{wv:Value}{T:WkT}{o:Option Bool}{s:DevS}(hb:HkB at_ sz ba n s)(hroom:Room (2*(s.ls.length*64)+sz+8) s):Fn Tryz.prog 22 #[wv] (R*PLf h p lg d at_ sz ba n wv T o s) (λ r B=>r= .int .i64 (comY at_ sz (s.ls.length*64) T o s).1.1/\ B=R*PLf h p lg d at_ sz ba n wv (comY at_ sz (s.ls.length*64) T o s).1.2 (endY o) (comY at_ sz (s.ls.length*64) T o s).2):=by
  cases o with
  |none=>
    refine fn_pln λ lv M hwv hM=> ?_
    subst hwv;refine Fn.weak (Commit_e (beginN_c.mono λ v B ⟨h1,h2⟩=>⟨h1,h2.symm⟩) (by decide)) ?_;rintro v B ⟨rfl,rfl⟩;rw [comY_n]
    exact ⟨_,λ g9 w9 h9=>pln_back hM h9,rfl,rfl⟩
  |some ov=>
    refine fn_pls λ w t mb lv tk gv hwv=> ?_
    subst hwv;refine Fn.weak (CommitX13_p (X:=⟨h,w,t,p,lg,d,mb,lv,tk,gv,at_,sz,ba,n⟩) (T:=T) (ov:=ov) (s:=s) (hc:=ct_here) (hb:=hb.wk) (hlw:=hb.lw) (hroom:=hroom)) ?_;rintro v B ⟨e,T2,s2,h1,rfl,rfl⟩;have h1:comY at_ sz (s.ls.length*64) T (some ov) s=((e,T2),s2):=h1;rw [h1]
    exact ⟨_,λ g9 w9 h9=>pls_back h9,rfl,rfl⟩
theorem DropP {R:SP}{h p lg d at_ sz ba n:Nat}{wv:Value}{T:WkT}{o:Option Bool}{s:DevS}(hb:HkB at_ sz ba n s):Fn Tryz.prog 23 #[wv] (R*PLf h p lg d at_ sz ba n wv T o s) (λ r B=>r= .int .i64 (dropY o)/\ B=R*PLf h p lg d at_ sz ba n wv T (endY o) s):=by
  cases o with
  |none=>
    refine fn_pln λ lv M hwv hM=> ?_
    subst hwv;refine Fn.weak DropN13 ?_;rintro v B ⟨rfl,rfl⟩;exact ⟨_,λ g9 w9 h9=>pln_back hM h9,rfl,rfl⟩
  |some ov=>
    refine fn_pls λ w t mb lv tk gv hwv=> ?_
    subst hwv
    cases ov with
    |true=>
      refine fn_pbo λ lv2 Y hM=>Fn.weak (DropO13 (pbo_w ct_here)) ?_
      rintro v B ⟨rfl,rfl⟩;exact ⟨_,λ g9 w9 h9=>pls_back (pbo_back hM h9),rfl,rfl⟩
    |false=>
      refine fn_pba λ lv2 Y hok=>Fn.weak (DropS13 (X:={ (⟨h,w,t,p,lg,d,mb,lv,tk,gv,at_,sz,ba,n⟩:WkX) with lv:=lv2 }) (hc:=ct_here)) ?_
      rintro v B ⟨rfl,rfl⟩;exact ⟨_,λ g9 w9 h9=>pls_back (pbo_back (X:=⟨h,w,t,p,lg,d,mb,lv,tk,gv,at_,sz,ba,n⟩) hok.l h9),rfl,rfl⟩
def RLf (hd q r lg at_ sz ba n:Nat)(wv:Value)(T:WkT)(o:Option Bool)(s:DevS):SP:=match o with
  |none=>λ hh=>∃l,wv= .pointer none/\ (pt hd (cl [pz q,vn ba,vn n,.slice (some ⟨l,0,none⟩) n n,.pointer none] 122)*Sl 1 (.slice (some ⟨l,0,none⟩) n n) n (bos (wasF n T.lv))*pt q (cl [pz r,pz lg,.pointer none] 177)*pt lg (cl [pz r,vn at_,vn sz] 208)*RDev r s) hh
  |some ov=>λ hh=>∃w t l k1 k2,wv=(pz w)/\ RbA ⟨hd,w,t,q,r,lg,at_,sz,ba,n,l,k1,k2⟩ T ov s hh
section
variable {P:Program} {fn:FuncId} {Q:Value->SP->Prop} {hd q r lg at_ sz ba n:Nat} {wv:Value} {T:WkT} {s:DevS} {R:SP}
end
section
variable {A R:SP} {C:SP->SP} {h p lg d at_ sz ba n lv:Nat} {M:MS} {s:DevS} (hc:Ct A (RsA h p lg d at_ sz ba n lv M s) R C)
include hc
theorem rsa_h:Has A h (cl (hcs p ba n lv none) 99):=λ g w h=>by
  rw [hc.1] at h;unfold RsA at h;exact has_pt g w (h.right.left.left.left.left)
theorem rsa_lv:Has A lv (mpo .i64 M):=λ g w h=>by
  rw [hc.1] at h;unfold RsA at h;exact has_pt g w (h.right.left.left.left.right)
theorem rsa_p:Has A p (cl (pocs lg d none) 78):=λ g w h=>by
  rw [hc.1] at h;unfold RsA at h;exact has_pt g w (h.right.left.left.right)
theorem rsa_dev:Ct A (Dev d s) (R*pt h (cl (hcs p ba n lv none) 99)*pt lv (mpo .i64 M)*pt p (cl (pocs lg d none) 78)*pt lg (cl (lcs11 d at_ sz) 183)) (λ Z=>R*pt h (cl (hcs p ba n lv none) 99)*pt lv (mpo .i64 M)*pt p (cl (pocs lg d none) 78)*pt lg (cl (lcs11 d at_ sz) 183)*Z):=
  ⟨by rw [hc.1];unfold RsA;ac_rfl,λ _=>rfl⟩
end
theorem pbo_rs {A R:SP}{C:SP->SP}{X:WkX}{Y:WkY}{s:DevS}{lv:Nat}(hc:Ct A (PbO X s lv Y) R C):Ct A (RsA X.h X.p X.lg X.d X.at_ X.sz X.ba X.n lv Y.Ml s) (R*pt X.w (cl (wcs X.h X.t X.tk X.gv Y.ls true) 101)) (λ Z=>R*pt X.w (cl (wcs X.h X.t X.tk X.gv Y.ls true) 101)*Z):=⟨by rw [hc.1];unfold PbO;ac_rfl,λ _=>rfl⟩
attribute [local irreducible] crk crL crc Sl pt ro Dev imgS recS readS recsF rdW rdO rkT Parts rvl recordsS runsL adrF kcl xcl kys runA runsF layF ovF TxA adZ WkA comS conB rootV
theorem LivesP {R:SP}{h p lg d at_ sz ba n:Nat}{wv:Value}{T:WkT}{o:Option Bool}{s:DevS}(hb:HkB at_ sz ba n s):Fn Tryz.prog 63 #[pz h] (R*PLf h p lg d at_ sz ba n wv T o s) (λ r B=>∃a c,r= .slice a (adZ n T.lv).length c/\ (adZ n T.lv).length<=c/\ B=R*PLf h p lg d at_ sz ba n wv T o s*Sl 1 (.slice a (adZ n T.lv).length c) (adZ n T.lv).length (ints (adZ n T.lv))):=by
  cases o with
  |none=>
    refine fn_pln λ lv M hwv hM=> ?_
    subst hwv;refine Fn.weak (Lives13_c (rsa_h ct_here) (rsa_lv ct_here) hM hb.nb) ?_;rintro v B ⟨a,c,rfl,h2,rfl⟩;exact ⟨R*PLf h p lg d at_ sz ba n (.pointer none) T none s*Sl 1 (.slice a (adZ n T.lv).length c) (adZ n T.lv).length (ints (adZ n T.lv)),λ g9 w9 h9=>(pln_back (R:=R*Sl 1 (.slice a (adZ n T.lv).length c) (adZ n T.lv).length (ints (adZ n T.lv))) hM (h9.perm (by ac_rfl))).perm (by ac_rfl),a,c,rfl,h2,rfl⟩
  |some ov=>
    refine fn_pls λ w t mb lv tk gv hwv=> ?_
    subst hwv
    cases ov with
    |true=>
      refine fn_pbo λ lv2 Y hM=>Fn.weak (Lives13_c (rsa_h (pbo_rs (X:=⟨h,w,t,p,lg,d,mb,lv,tk,gv,at_,sz,ba,n⟩) ct_here)) (rsa_lv (pbo_rs (X:=⟨h,w,t,p,lg,d,mb,lv,tk,gv,at_,sz,ba,n⟩) ct_here)) hM hb.nb) ?_
      rintro v B ⟨a,c,rfl,h2,rfl⟩;exact ⟨R*PLf h p lg d at_ sz ba n ((pz w)) T (some true) s*Sl 1 (.slice a (adZ n T.lv).length c) (adZ n T.lv).length (ints (adZ n T.lv)),λ g9 w9 h9=>(pls_back (R:=R*Sl 1 (.slice a (adZ n T.lv).length c) (adZ n T.lv).length (ints (adZ n T.lv))) (pbo_back (X:=⟨h,w,t,p,lg,d,mb,lv,tk,gv,at_,sz,ba,n⟩) hM (h9.perm (by dsimp only;ac_rfl)))).perm (by ac_rfl),a,c,rfl,h2,rfl⟩
    |false=>
      refine fn_pba λ lv2 Y hok=>Fn.weak (Lives13_c (wka_h (X:={ (⟨h,w,t,p,lg,d,mb,lv,tk,gv,at_,sz,ba,n⟩:WkX) with lv:=lv2 }) ct_here) (wka_lv (X:={ (⟨h,w,t,p,lg,d,mb,lv,tk,gv,at_,sz,ba,n⟩:WkX) with lv:=lv2 }) ct_here) hok.l hb.nb) ?_
      rintro v B ⟨a,c,rfl,h2,rfl⟩;exact ⟨R*PLf h p lg d at_ sz ba n ((pz w)) T (some false) s*Sl 1 (.slice a (adZ n T.lv).length c) (adZ n T.lv).length (ints (adZ n T.lv)),λ g9 w9 h9=>(pls_back (R:=R*Sl 1 (.slice a (adZ n T.lv).length c) (adZ n T.lv).length (ints (adZ n T.lv))) (pba_back (X:=⟨h,w,t,p,lg,d,mb,lv,tk,gv,at_,sz,ba,n⟩) hok (h9.perm (by dsimp only;ac_rfl)))).perm (by ac_rfl),a,c,rfl,h2,rfl⟩
theorem BeginH_e {A:SP}{h p ba n lv:Nat}{ow:Option Nat}{e:Int}(hh:Has A h (cl (hcs p ba n lv ow) 99))(hP:Fn Tryz.prog 48 #[pz p] A (λ v B=>v= .tuple #[.pointer none,.int .i64 e]/\ A=B))(he:e≠0):
    Fn Tryz.prog 12 #[pz h] A (λ r B=>r= .tuple #[.pointer none,.int .i64 e]/\ A=B):=by
  refine fn_enterW func12 rfl ntmps12 (by simp) ?_;refine Zc2 ?_;refine tl_c rfl (o_call bd47 rfl (thereH_c (hh:=hh))) ?_;refine Ze6 ?_;intro h;refine Zdu ?_;refine tv (o_fieldAddr (o:=0) underlying99 rfl rfl sz66 rfl) ?_;refine tv (o_load p66 rfl hh rfl) ?_;refine tl_c rfl (o_call bd48 rfl (hP)) ?_;rintro _ _ ⟨rfl,rfl⟩;refine Zds ?_;refine Zj ?_;refine tc_cond rfl (sbq ?_) (λ h=> ?_)
  . intro h;refine Zfw ?_;exact ⟨_,A,res2 rfl rfl rfl,λ _ _ h=>h,rfl,rfl⟩
  exfalso;simp at h;exact he h
end Go.Vl

namespace Go.Vl
open Go Go.Proofs Go.Proofs.Tryz
theorem bgnY_no {at_ sz:Nat}{T:WkT}{o:Option Bool}{s:DevS}(h:bgnB at_ sz (liveY o) s≠0):bgnY at_ sz T o s=(bgnB at_ sz (liveY o) s,T,o):=if_neg h
theorem bgnY_ok {at_ sz:Nat}{T:WkT}{o:Option Bool}{s:DevS}(h:bgnB at_ sz (liveY o) s=0):bgnY at_ sz T o s=(0,T0 T.lv,some false):=if_pos h
theorem BeginP {R:SP}{h p lg d at_ sz ba n:Nat}{wv:Value}{T:WkT}{o:Option Bool}{s:DevS}(hb:HkB at_ sz ba n s):Fn Tryz.prog 12 #[pz h] (R*PLf h p lg d at_ sz ba n wv T o s) (λ r B=>∃wv2,r= .tuple #[wv2,.int .i64 (bgnY at_ sz T o s).1]/\ ((((bgnY at_ sz T o s).1≠0/\ wv2= .pointer none)/\ B=R*PLf h p lg d at_ sz ba n wv T o s)∨(((bgnY at_ sz T o s).1=0/\∃w2,wv2=(pz w2))/\ B=R*PLf h p lg d at_ sz ba n wv2 (T0 T.lv) (some false) s))):=by
  by_cases hz:bgnB at_ sz (liveY o) s=0
  . rw [bgnY_ok hz]
    cases o with
    |none=>
      refine fn_pln λ lv M hwv hM=> ?_
      subst hwv;obtain ⟨ho,_,hst⟩:=bgn_ok hz;refine Fn.weak (BeginH_c (R:=R*pt lv (mpo .i64 M)) (hd:=h) (p:=p) (ba:=ba) (n:=n) (lv:=lv) (lg:=lg) (d:=d) (at_:=at_) (sz:=sz) (s:=s) (by unfold RsA;ac_rfl) hb.lw ho hst) ?_;rintro v B ⟨w2,t2,mb2,tk2,gv2,rfl,rfl⟩;exact ⟨R*PLf h p lg d at_ sz ba n ((pz w2)) (T0 T.lv) (some false) s,λ g9 w9 h9=>pls_back (pba_back (X:=⟨h,w2,t2,p,lg,d,mb2,lv,tk2,gv2,at_,sz,ba,n⟩) (lv:=lv) (Y:=⟨M,⟨[],0⟩,⟨[],0⟩,⟨[],0⟩,0⟩) (wk_new (X:=⟨h,w2,t2,p,lg,d,mb2,lv,tk2,gv2,at_,sz,ba,n⟩) hM) (h9.perm (by unfold WkA;dsimp only;ac_rfl))),_,rfl,.inr ⟨⟨rfl,w2,rfl⟩,rfl⟩⟩
    |some ov=>
      refine fn_pls λ w t mb lv tk gv hwv=> ?_
      subst hwv
      cases ov with
      |true=>
        refine fn_pbo λ lv2 Y hM=> ?_
        obtain ⟨ho,_,hst⟩:=bgn_ok hz;refine Fn.weak (BeginH_c (R:=R*pt lv2 (mpo .i64 Y.Ml)*pt w (cl (wcs h t tk gv Y.ls true) 101)) (hd:=h) (p:=p) (ba:=ba) (n:=n) (lv:=lv2) (lg:=lg) (d:=d) (at_:=at_) (sz:=sz) (s:=s) (by unfold PbO RsA;dsimp only;ac_rfl) hb.lw ho hst) ?_;rintro v B ⟨w2,t2,mb2,tk2,gv2,rfl,rfl⟩;exact ⟨R*PLf h p lg d at_ sz ba n ((pz w2)) (T0 T.lv) (some false) s,λ g9 w9 h9=>pls_back (pba_back (X:=⟨h,w2,t2,p,lg,d,mb2,lv2,tk2,gv2,at_,sz,ba,n⟩) (lv:=lv2) (Y:=⟨Y.Ml,⟨[],0⟩,⟨[],0⟩,⟨[],0⟩,0⟩) (wk_new (X:=⟨h,w2,t2,p,lg,d,mb2,lv2,tk2,gv2,at_,sz,ba,n⟩) hM) (Dr.sat ⟨pt w (cl (wcs h t tk gv Y.ls true) 101),by unfold WkA;dsimp only;ac_rfl⟩ _ _ h9)),_,rfl,.inr ⟨⟨rfl,w2,rfl⟩,rfl⟩⟩
      |false=>obtain ⟨_,h9,_⟩:=bgn_ok hz;cases h9
  rw [bgnY_no hz]
  cases o with
  |none=>
    refine fn_pln λ lv M hwv hM=> ?_
    subst hwv;have hne:bgnB at_ sz (liveY none) s≠0:=hz;refine Fn.weak (BeginH_e (rsa_h ct_here) (BeginP_no (s:=s) (at_:=at_) (sz:=sz) (d:=d) (lg:=lg) (p:=p) (b:=liveY none) (rsa_dev ct_here) (rsa_p ct_here) rfl hsqz hb.lw hne) hne) ?_;rintro v B ⟨rfl,rfl⟩;exact ⟨_,λ g9 w9 h9=>pln_back hM h9,_,rfl,.inl ⟨⟨by first|exact hne|skip,rfl⟩,rfl⟩⟩
  |some ov=>
    refine fn_pls λ w t mb lv tk gv hwv=> ?_
    subst hwv
    cases ov with
    |true=>
      refine fn_pbo λ lv2 Y hM=> ?_
      have hne:bgnB at_ sz (liveY (some true)) s≠0:=hz;refine Fn.weak (BeginH_e (rsa_h (pbo_rs (X:=⟨h,w,t,p,lg,d,mb,lv,tk,gv,at_,sz,ba,n⟩) ct_here)) (BeginP_no (s:=s) (at_:=at_) (sz:=sz) (d:=d) (lg:=lg) (p:=p) (b:=liveY (some true)) (rsa_dev (pbo_rs (X:=⟨h,w,t,p,lg,d,mb,lv,tk,gv,at_,sz,ba,n⟩) ct_here)) (rsa_p (pbo_rs (X:=⟨h,w,t,p,lg,d,mb,lv,tk,gv,at_,sz,ba,n⟩) ct_here)) rfl hsqz hb.lw hne) hne) ?_;rintro v B ⟨rfl,rfl⟩;exact ⟨_,λ g9 w9 h9=>pls_back (pbo_back (X:=⟨h,w,t,p,lg,d,mb,lv,tk,gv,at_,sz,ba,n⟩) hM h9),_,rfl,.inl ⟨⟨by first|exact hne|skip,rfl⟩,rfl⟩⟩
    |false=>
      refine fn_pba λ lv2 Y hok=> ?_
      have hne:bgnB at_ sz (liveY (some false)) s≠0:=hz;refine Fn.weak (BeginH_e (wka_h (X:={ (⟨h,w,t,p,lg,d,mb,lv,tk,gv,at_,sz,ba,n⟩:WkX) with lv:=lv2 }) ct_here) (BeginP_no (s:=s) (at_:=at_) (sz:=sz) (d:=d) (lg:=lg) (p:=p) (b:=liveY (some false)) (txa_dev (wka_txa (X:={ (⟨h,w,t,p,lg,d,mb,lv,tk,gv,at_,sz,ba,n⟩:WkX) with lv:=lv2 }) ct_here)) (txa_p (wka_txa (X:={ (⟨h,w,t,p,lg,d,mb,lv,tk,gv,at_,sz,ba,n⟩:WkX) with lv:=lv2 }) ct_here)) rfl hsqz hb.lw hne) hne) ?_;rintro v B ⟨rfl,rfl⟩;exact ⟨_,λ g9 w9 h9=>pls_back (pba_back (X:=⟨h,w,t,p,lg,d,mb,lv,tk,gv,at_,sz,ba,n⟩) hok h9),_,rfl,.inl ⟨⟨by first|exact hne|skip,rfl⟩,rfl⟩⟩
structure StU where
  k:Int
  q:Int
  n:Int
  ea:Option Addr
  ec:Nat
  es:List (Int×Int)
  da:Option Addr
  dc:Nat
  d:List Nat
  ka:Option Addr
  kc:Nat
  kp:List Int
def StU.cells (t:StU):List Value:=[.int .i64 t.k,.int .i64 t.q,.int .i64 t.n,.slice t.ea t.es.length t.ec,.slice t.da t.d.length t.dc,.slice t.ka t.kp.length t.kc]
structure StUW (A:SP) (t:StU):Prop where
  k: -9223372036854775808<=t.k/\ t.k<=9223372036854775807
  q: -9223372036854775808<=t.q/\ t.q<=9223372036854775807
  n: -9223372036854775808<=t.n/\ t.n<=9223372036854775807
  ers:Rs A t.ea (xcl t.es)
  ex:∀x∈t.es,XW x
  dcap:t.d.length<=t.dc
  drs:Rs A t.da (bys t.d)
  dby:∀x∈t.d,x<256
  kcap:t.kp.length<=t.kc
  krs:Rs A t.ka (ints t.kp)
  kb:∀x∈t.kp,-9223372036854775808<=x/\ x<=9223372036854775807
def StU.sz (t:StU):Nat:=t.es.length+t.d.length+t.kp.length+1
theorem StUW.left {A X:SP}{t:StU}(h:StUW A t):StUW (A*X) t:=⟨h.k,h.q,h.n,h.ers.left,h.ex,h.dcap,h.drs.left,h.dby,h.kcap,h.krs.left,h.kb⟩
def xf11 (x:Nat):Nat:=(IntKind.u8.wrap ((BitVec.ofInt IntKind.u8.bits (x:Int)^^^BitVec.ofInt IntKind.u8.bits 255).toNat:Int)).toNat
structure Op12U where
  k:Int
  p:Int
  n:Int
  ba:Option Addr
  bc:Nat
  X:List Nat
  ka:Option Addr
  kc:Nat
  kp:List Int
def Op12U.cells (t:Op12U):List Value:=op12 t.k t.p t.n t.ba t.X.length t.bc t.ka t.kp.length t.kc
structure Op12W (A:SP) (t:Op12U):Prop where
  k: -9223372036854775808<=t.k/\ t.k<=9223372036854775807
  p: -9223372036854775808<=t.p/\ t.p<=9223372036854775807
  n: -9223372036854775808<=t.n/\ t.n<=9223372036854775807
  bcap:t.X.length<=t.bc
  brs:Rs A t.ba (bys t.X)
  bby:∀x∈t.X,x<256
  kcap:t.kp.length<=t.kc
  krs:Rs A t.ka (ints t.kp)
  kb:∀x∈t.kp,-9223372036854775808<=x/\ x<=9223372036854775807
def Op12U.sz (t:Op12U):Nat:=t.X.length+t.kp.length+1
theorem Op12W.left {A X:SP}{t:Op12U}(h:Op12W A t):Op12W (A*X) t:=⟨h.k,h.p,h.n,h.bcap,h.brs.left,h.bby,h.kcap,h.krs.left,h.kb⟩
theorem TakePC {A R:SP}{C:SP->SP}{h p lg d at_ sz ba n:Nat}{wv:Value}{T:WkT}{o:Option Bool}{s:DevS}(hc:Ct A (PLf h p lg d at_ sz ba n wv T o s) R C:=by exact cbqz)(hb:HkB at_ sz ba n s):Fn Tryz.prog 14 #[wv] A (λ r B=>r= .tuple #[.int .i64 (takeY n T o s).1,.int .i64 (takeY n T o s).2.1]/\ B=C (PLf h p lg d at_ sz ba n wv (takeY n T o s).2.2 (oY o s) s)):=by
  obtain ⟨rfl,hC⟩:=hc
  simp only [hC]
  exact TakeP (hb:=hb)
theorem GivePC {A R:SP}{C:SP->SP}{h p lg d at_ sz ba n:Nat}{wv:Value}{T:WkT}{o:Option Bool}{s:DevS}(hc:Ct A (PLf h p lg d at_ sz ba n wv T o s) R C:=by exact cbqz)(hb:HkB at_ sz ba n s){b:Int}:Fn Tryz.prog 15 #[wv,.int .i64 b] A (λ r B=>r= .int .i64 (giveY T o s b).1/\ B=C (PLf h p lg d at_ sz ba n wv (giveY T o s b).2 (oY o s) s)):=by
  obtain ⟨rfl,hC⟩:=hc
  simp only [hC]
  exact GiveP (hb:=hb)
theorem ReadPC {A R:SP}{C:SP->SP}{h p lg d at_ sz ba n:Nat}{wv:Value}{T:WkT}{o:Option Bool}{s:DevS}(hc:Ct A (PLf h p lg d at_ sz ba n wv T o s) R C:=by exact cbqz)(hb:HkB at_ sz ba n s){b:Int}:Fn Tryz.prog 16 #[wv,.int .i64 b] A (λ r B=>∃a c,r= .tuple #[.slice a (readY T o s ba b).1.length c,.int .i64 (readY T o s ba b).2]/\ (readY T o s ba b).1.length<=c/\ B=C (PLf h p lg d at_ sz ba n wv T (oY o s) s)*Sl 1 (.slice a (readY T o s ba b).1.length c) (readY T o s ba b).1.length (bys (readY T o s ba b).1)):=by
  obtain ⟨rfl,hC⟩:=hc
  simp only [hC]
  exact ReadP (hb:=hb)
theorem WritePC {A R:SP}{C:SP->SP}{h p lg d at_ sz ba n:Nat}{wv:Value}{T:WkT}{o:Option Bool}{s:DevS}(hc:Ct A (PLf h p lg d at_ sz ba n wv T o s) R C:=by exact cbqz)(hb:HkB at_ sz ba n s){b:Int}{a:Option Addr}{m c:Nat}{xs:List Nat}(hr:Rs R a (bys xs):=by exact rbqz)(hxl:xs.length=m)(hxb:∀x∈xs,x<256):Fn Tryz.prog 18 #[wv,.int .i64 b,.slice a m c] A (λ r B=>r= .int .i64 (writeY T o s ba b xs).1/\ B=C (PLf h p lg d at_ sz ba n wv (writeY T o s ba b xs).2 (oY o s) s)):=by
  obtain ⟨rfl,hC⟩:=hc
  simp only [hC]
  exact WriteP (hb:=hb) (hr:=hr) (hxl:=hxl) (hxb:=hxb)
theorem RootPC {A R:SP}{C:SP->SP}{h p lg d at_ sz ba n:Nat}{wv:Value}{T:WkT}{o:Option Bool}{s:DevS}(hc:Ct A (PLf h p lg d at_ sz ba n wv T o s) R C:=by exact cbqz)(hb:HkB at_ sz ba n s):Fn Tryz.prog 20 #[wv] A (λ r B=>r= .tuple #[.int .u64 (((rootY T o s).1:Nat):Int),.int .i64 (rootY T o s).2]/\ B=C (PLf h p lg d at_ sz ba n wv T (oY o s) s)):=by
  obtain ⟨rfl,hC⟩:=hc
  simp only [hC]
  exact RootP (hb:=hb)
theorem SetRootPC {A R:SP}{C:SP->SP}{h p lg d at_ sz ba n:Nat}{wv:Value}{T:WkT}{o:Option Bool}{s:DevS}(hc:Ct A (PLf h p lg d at_ sz ba n wv T o s) R C:=by exact cbqz)(hb:HkB at_ sz ba n s){z:Nat}(hv:z<18446744073709551616):Fn Tryz.prog 21 #[wv,.int .u64 ((z:Nat):Int)] A (λ r B=>r= .int .i64 (setY T o s z).1/\ B=C (PLf h p lg d at_ sz ba n wv (setY T o s z).2 (oY o s) s)):=by
  obtain ⟨rfl,hC⟩:=hc
  simp only [hC]
  exact SetRootP (hb:=hb) (hv:=hv)
theorem CommitPC {A R:SP}{C:SP->SP}{h p lg d at_ sz ba n:Nat}{wv:Value}{T:WkT}{o:Option Bool}{s:DevS}(hc:Ct A (PLf h p lg d at_ sz ba n wv T o s) R C:=by exact cbqz)(hb:HkB at_ sz ba n s)(hroom:Room (2*(s.ls.length*64)+sz+8) s):Fn Tryz.prog 22 #[wv] A (λ r B=>r= .int .i64 (comY at_ sz (s.ls.length*64) T o s).1.1/\ B=C (PLf h p lg d at_ sz ba n wv (comY at_ sz (s.ls.length*64) T o s).1.2 (endY o) (comY at_ sz (s.ls.length*64) T o s).2)):=by
  obtain ⟨rfl,hC⟩:=hc
  simp only [hC]
  exact CommitP (hb:=hb) (hroom:=hroom)
theorem DropPC {A R:SP}{C:SP->SP}{h p lg d at_ sz ba n:Nat}{wv:Value}{T:WkT}{o:Option Bool}{s:DevS}(hc:Ct A (PLf h p lg d at_ sz ba n wv T o s) R C:=by exact cbqz)(hb:HkB at_ sz ba n s):Fn Tryz.prog 23 #[wv] A (λ r B=>r= .int .i64 (dropY o)/\ B=C (PLf h p lg d at_ sz ba n wv T (endY o) s)):=by
  obtain ⟨rfl,hC⟩:=hc
  simp only [hC]
  exact DropP (hb:=hb)
theorem LivesPC {A R:SP}{C:SP->SP}{h p lg d at_ sz ba n:Nat}{wv:Value}{T:WkT}{o:Option Bool}{s:DevS}(hc:Ct A (PLf h p lg d at_ sz ba n wv T o s) R C:=by exact cbqz)(hb:HkB at_ sz ba n s):Fn Tryz.prog 63 #[pz h] A (λ r B=>∃a c,r= .slice a (adZ n T.lv).length c/\ (adZ n T.lv).length<=c/\ B=C (PLf h p lg d at_ sz ba n wv T o s)*Sl 1 (.slice a (adZ n T.lv).length c) (adZ n T.lv).length (ints (adZ n T.lv))):=by
  obtain ⟨rfl,hC⟩:=hc
  simp only [hC]
  exact LivesP (hb:=hb)
theorem BeginPC {A R:SP}{C:SP->SP}{h p lg d at_ sz ba n:Nat}{wv:Value}{T:WkT}{o:Option Bool}{s:DevS}(hc:Ct A (PLf h p lg d at_ sz ba n wv T o s) R C:=by exact cbqz)(hb:HkB at_ sz ba n s):Fn Tryz.prog 12 #[pz h] A (λ r B=>∃wv2,r= .tuple #[wv2,.int .i64 (bgnY at_ sz T o s).1]/\ ((((bgnY at_ sz T o s).1≠0/\ wv2= .pointer none)/\ B=C (PLf h p lg d at_ sz ba n wv T o s))∨(((bgnY at_ sz T o s).1=0/\∃w2,wv2=(pz w2))/\ B=C (PLf h p lg d at_ sz ba n wv2 (T0 T.lv) (some false) s)))):=by
  obtain ⟨rfl,hC⟩:=hc
  simp only [hC]
  exact BeginP (hb:=hb)
attribute [local irreducible] crk crL crc Sl pt ro Dev imgS recS readS recsF rdW rdO rkT Parts rvl recordsS runsL adrF kcl xcl kys runA runsF layF ovF TxA adZ WkA comS rollS fromS im13 s13 rootV
theorem Zgi {p r:Prop}(k:r)(h:Kq r->p:=by intro k;refine tv (o_eqi rfl rfl) ?_;refine Z6 ?_;exact k.o):p:=h ⟨k⟩
theorem works13_c {A:SP}:
    Fn Tryz.prog 25 #[] A (λ r B=>r= .bool true/\ A=B):=by
  refine fn_enterW func25 rfl ntmps25 (by simp) ?_;refine Zb5 ?_;refine sr ?_;refine tl_x rfl (o_buildSliceL (k:=1) (vs:=ints [0]) (l:=ints [0]) underlying22 sz3 z3 rfl rfl (by decide) (by decide) (by intro v hv;simp only [ints,i64,List.map_cons,List.map_nil,List.mem_cons,List.not_mem_nil,or_false] at hv;first|(subst hv;rfl)|(rcases hv with rfl|rfl|rfl<;>rfl)) rfl) ?_;rintro _ _ ⟨b13,rfl,rfl⟩;refine tv (o_bS (l:=su5 192 4 0 (.slice (some ⟨b13,0,none⟩) 1 1) (.slice none 0 0)) (pv_cons wqz (pv_cons wqz (pv_cons wqz pv_nil))) underlying25 z25 (pl25 underlying25) rfl) ?_;refine tl_c rfl (o_call bd9 rfl (plain13_c (lg:=192) (n:=4) (fi:=0) (m:=1) (c:=1) (zs:=[0]) (h1:=by decide) (h2:=by decide) (h3:=by decide) (h4:=by decide) (hfi:=by decide) (hr:=show Rs _ _ (ints [0]) from by repeat (first|exact rs_pt rfl|apply Rs.left)) (hm:=rfl) (hnd:=by decide) (hz:=by decide))) ?_;rintro _ _ ⟨d15,h15,p15,l15,lv15,M15,rfl,hM15,rfl⟩;have hcal:=s13_calm (lg:=192) (n:=4) (fi:=0) (by decide) (by decide) (by decide) (by decide);obtain ⟨sd,hsd⟩:∃sd,s13 192 4 0=sd:=⟨_,rfl⟩;rw [hsd] at hcal ⊢
  refine Zds ?_;refine tv (o_eqp underlying28 rfl rfl) ?_;refine Zv ?_;intro h;refine Zb4 ?_;refine tl_c rfl (o_call bd12 rfl (Begin13_rest (R:=A*pt b13 (cl (ints [0]) 3)) (h:=h15) (p:=p15) (lg:=l15) (d:=d15) (at_:=128) (sz:=192) (ba:=128+192) (n:=4) (lv:=lv15) (M:=M15) (s:=sd) (hA:=rfl) (hc:=hcal))) ?_;rintro _ _ ⟨w22,t22,mb22,tk22,gv22,rfl,rfl⟩;have hbk:WkB (⟨h15,w22,t22,p15,l15,d15,mb22,lv15,tk22,gv22,128,192,(128+192),4⟩:WkX) sd:=calm_wkb hcal (by show 128<=128+192;decide) (by show 128+192+256*4<=nl13 192 4*64;decide);have hon:=hcal.on;refine Zer ?_;refine tl_c rfl (o_call bd14 rfl (Take13_ok (X:=(⟨h15,w22,t22,p15,l15,d15,mb22,lv15,tk22,gv22,128,192,(128+192),4⟩:WkX)) (Y:=(⟨M15,⟨[],0⟩,⟨[],0⟩,⟨[],0⟩,0⟩:WkY)) (T:=T0 (onL [0])) (s:=sd) (hok:=wk_new hM15) (hb:=hbk) (b:=1) (hf:=show leastB _ 4=some 1 from by decide) (ho:=hon))) ?_;rintro _ _ ⟨Y27,rfl,hok27,rfl⟩;refine Zer ?_;refine tl_c rfl (o_call bd14 rfl (Take13_ok (X:=(⟨h15,w22,t22,p15,l15,d15,mb22,lv15,tk22,gv22,128,192,(128+192),4⟩:WkX)) (Y:=Y27) (T:=(T0 (onL [0])).take 1) (s:=sd) (hok:=hok27) (hb:=hbk) (b:=2) (hf:=show leastB _ 4=some 2 from by decide) (ho:=hon))) ?_;rintro _ _ ⟨Y32,rfl,hok32,rfl⟩;refine Zbs ?_;refine Zg3 ?_;refine tl_x rfl (o_makeSlice (len:=256) (cap:=256) underlying32 sz5 by5 z5 rfl rfl rfl oqz oqz oqz) ?_;rintro _ _ ⟨b35,rfl,rfl⟩;refine tl_pre (λ _ _ h=>sl_new (k:=1) (n:=256) (cap:=256) (xs:=bys (List.replicate (256) 0)) h oqz (by simp) (by rw [Nat.mul_one,List.take_of_length_le (by simp)];unfold bys;rw [List.map_replicate];rfl)) ?_;refine Zt ?_;refine tv (o_ixP1 underlying32 sz5 rfl rfl sq1z sq3z) ?_;refine tl_u rfl (o_stP (i:=9) (ys:=bys wkX) sz5 rfl rfl rfl ctqz (by decide) (by exact bys_set _ _ _)) ?_;refine nq ?_;refine Zd ?_;refine Zc7 ?_;refine tl_bool (d:=40) rfl dbq (sbq ?_);intro h;refine tlm ?_;refine Zd0 ?_;refine tl_bool (d:=44) rfl dbq (sbq ?_);intro h;refine tlm ?_;refine Zd0 ?_;refine tl_bool (d:=48) rfl dbq (sbq ?_);intro h;refine tlm ?_;refine Zd0 ?_;refine tl_bool (d:=52) rfl dbq (sbq ?_);intro h;refine tlm ?_;refine Zd0 ?_;refine tl_bool (d:=56) rfl dbq (sbq ?_);intro h;refine Zbe ?_;refine tl_c rfl (o_call bd18 rfl (Write13_ok (X:=(⟨h15,w22,t22,p15,l15,d15,mb22,lv15,tk22,gv22,128,192,(128+192),4⟩:WkX)) (Y:=Y32) (T:=((T0 (onL [0])).take 1).take 2) (s:=sd) (hok:=hok32) (hb:=hbk) (b:=1) (xs:=wkX) (hu:=by decide) (hr:=rs_sl) (hxl:=by unfold wkX;rw [List.length_set,List.length_replicate]) (hxb:=by decide) (ho:=hon))) ?_;rintro _ _ ⟨Y59,rfl,hok59,rfl⟩;refine Zd0 ?_;refine tl_bool (d:=62) rfl dbq (sbq ?_);intro h;refine tlm ?_;refine tl_c rfl (o_call bd21 rfl (SetRoot13_ok (X:=(⟨h15,w22,t22,p15,l15,d15,mb22,lv15,tk22,gv22,128,192,(128+192),4⟩:WkX)) (Y:=Y59) (T:=(((T0 (onL [0])).take 1).take 2).write (128+192) 1 wkX) (s:=sd) (hok:=hok59) (hb:=hbk) (v:=258) (hv:=by decide) (ho:=hon))) ?_;rintro _ _ ⟨Y64,rfl,hok64,rfl⟩;refine Zd0 ?_;refine tl_bool (d:=67) rfl dbq (sbq ?_);intro h;refine tlm ?_;refine tl_c rfl (o_call bd22 rfl (Commit13_c (X:=(⟨h15,w22,t22,p15,l15,d15,mb22,lv15,tk22,gv22,128,192,(128+192),4⟩:WkX)) (Y:=Y64) (T:=(((((T0 (onL [0])).take 1).take 2).write (128+192) 1 wkX).root 258)) (s:=sd) (hok:=hok64) (hb:=hbk) (ho:=hon) (hlw:=hcal.lw) (hroom:=hcal.room (by rw [hcal.len];show 2*(nl13 192 4*64)+192+8<=_;decide)))) ?_;rintro _ _ ⟨e69,b69,s69,lv69,M69,hs69,rfl,hM69,rfl⟩;rw [hcal.len] at hs69
  have e64:nl13 192 4*64=1344:=(by decide);obtain ⟨s70,g1,g2,g3⟩:=calm_com (f:=wkF) hcal (by have h9:=hok64.m.out;rw [hcal.len] at h9;exact h9) (λ a c h9=>hok64.m.by_ a c h9) (λ a h9=>by have:=wkF_out a h9;omega) (wkF_need (λ a c h9=>hok64.m.by_ a c h9));obtain ⟨hq9,rfl⟩:=pair_eq g1 hs69
  simp only [Prod.mk.injEq] at hq9
  obtain ⟨rfl,rfl⟩:=hq9;rw [if_pos rfl] at hM69
  refine tv (o_nei rfl rfl) ?_;refine Zc0 ?_;intro h;refine Zb4 ?_;refine tl_c rfl (o_call bd12 rfl (Begin13_rest (R:=A*pt b13 (cl (ints [0]) 3)*Sl 1 (.slice (some ⟨b35,0,none⟩) 256 256) 256 (bys wkX)*pt w22 (cl (wcs h15 t22 tk22 gv22 Y64.ls true) 101)) (h:=h15) (p:=p15) (lg:=l15) (d:=d15) (at_:=128) (sz:=192) (ba:=128+192) (n:=4) (lv:=lv69) (M:=M69) (s:=s70) (hA:=by ac_rfl) (hc:=g2))) ?_;rintro _ _ ⟨w74,t74,mb74,tk74,gv74,rfl,rfl⟩;have hbk1:WkB (⟨h15,w74,t74,p15,l15,d15,mb74,lv69,tk74,gv74,128,192,(128+192),4⟩:WkX) s70:=calm_wkb g2 (by show 128<=128+192;decide) (by show 128+192+256*4<=nl13 192 4*64;decide)
  have hrd:ovF (T0 (usedB (((((T0 (onL [0])).take 1).take 2).write (128+192) 1 wkX).root 258))).f (128+192+256*1) (((imgS s70).drop (128+192+256*1)).take 256)=wkX:=by
    rw [show (T0 (usedB (((((T0 (onL [0])).take 1).take 2).write (128+192) 1 wkX).root 258))).f=tf0 from rfl,ovF_tf0,calm_sub hcal g2 g3 (.inr (by decide)) (by decide)]
    have hl:(((imgS sd).drop (128+192+256*1)).take 256).length=256:=(by rw [List.length_take,List.length_drop,hcal.il];decide)
    unfold wkF
    rw [layF_ou (m:=256) (.inr (by rw [le_length];decide)) (by rw [hl];exact Nat.le_refl _)]
    exact layF_ov (by rw [hl];unfold wkX;rw [List.length_set,List.length_replicate])
  have hro:rootV (T0 (usedB (((((T0 (onL [0])).take 1).take 2).write (128+192) 1 wkX).root 258))) s70=258:=by
    unfold rootV
    rw [show (T0 (usedB (((((T0 (onL [0])).take 1).take 2).write (128+192) 1 wkX).root 258))).f=tf0 from rfl,ovF_tf0,calm_sub hcal g2 g3 (.inl (by decide)) (by decide)]
    unfold wkF
    rw [layF_ov (by rw [List.length_take,List.length_drop,hcal.il,le_length];decide)];decide
  refine Zer ?_;refine tl_c rfl (o_call bd16 rfl (Read13_ok (X:=(⟨h15,w74,t74,p15,l15,d15,mb74,lv69,tk74,gv74,128,192,(128+192),4⟩:WkX)) (Y:=(⟨M69,⟨[],0⟩,⟨[],0⟩,⟨[],0⟩,0⟩:WkY)) (T:=T0 (usedB (((((T0 (onL [0])).take 1).take 2).write (128+192) 1 wkX).root 258))) (s:=s70) (hok:=wk_new hM69) (hb:=hbk1) (b:=1) (hu:=by decide) (ho:=g2.on))) ?_;rintro _ _ ⟨a79,c79,rfl,hc79,rfl⟩;have hrd9:ovF (T0 (usedB (((((T0 (onL [0])).take 1).take 2).write (128+192) 1 wkX).root 258))).f (((⟨h15,w74,t74,p15,l15,d15,mb74,lv69,tk74,gv74,128,192,(128+192),4⟩:WkX)).ba+256*1) (((imgS s70).drop (((⟨h15,w74,t74,p15,l15,d15,mb74,lv69,tk74,gv74,128,192,(128+192),4⟩:WkX)).ba+256*1)).take 256)=wkX:=hrd;rw [hrd9]
  refine Zer ?_;refine tl_c rfl (o_call bd20 rfl (Root13_v (X:=(⟨h15,w74,t74,p15,l15,d15,mb74,lv69,tk74,gv74,128,192,(128+192),4⟩:WkX)) (Y:=(⟨M69,⟨[],0⟩,⟨[],0⟩,⟨[],0⟩,0⟩:WkY)) (T:=T0 (usedB (((((T0 (onL [0])).take 1).take 2).write (128+192) 1 wkX).root 258))) (s:=s70) (hok:=wk_new hM69) (hb:=hbk1) (ho:=g2.on))) ?_;rintro _ _ ⟨rfl,rfl⟩;refine tl_env (d:=84) (v:= .tuple #[.int .u64 258,.int .i64 0]) (by show Value.tuple #[.int .u64 ((rootV _ _:Nat):Int),_]=_;rw [hro];rfl) ?_;refine Zer ?_;refine tv (o_eqi rfl rfl) ?_;refine tlm ?_;refine tl_bool (d:=89) rfl (sbq ?_) dbq;intro h;refine tlm ?_;refine Zgi ?_;refine tl_bool (d:=93) rfl (sbq ?_) dbq;intro h;refine tlm ?_;refine Zgi ?_;refine tl_bool (d:=97) rfl (sbq ?_) dbq;intro h;refine Zcr ?_;refine Zgi ?_;refine tl_bool (d:=102) rfl (sbq ?_) dbq;intro h;refine tlm ?_;refine tv (o_ixP1 (a:=a79) (j:=9) underlying32 sz5 rfl rfl (by decide) (nn_rs (xs:=bys wkX) sq0z (by decide))) ?_;refine tv (o_ldP (a:=a79) (xs:=bys wkX) p5 rfl sq0z (show (bys wkX)[9]? =some (.int .u8 7) from rfl)) ?_;refine Zgi ?_;refine tl_bool (d:=108) rfl (sbq ?_) dbq;intro h;refine tlm ?_;refine Zgi ?_;refine tl_bool (d:=112) rfl (sbq ?_) dbq;intro h;refine tlm ?_;refine tl_c rfl (o_call bd63 rfl (Lives13_c (h:=h15) (lv:=lv69) (M:=M69) (n:=4) (g:=usedB (((((T0 (onL [0])).take 1).take 2).write (128+192) 1 wkX).root 258)) (hh:=by exact wka_h (X:=(⟨h15,w74,t74,p15,l15,d15,mb74,lv69,tk74,gv74,128,192,(128+192),4⟩:WkX)) (Y:=(⟨M69,⟨[],0⟩,⟨[],0⟩,⟨[],0⟩,0⟩:WkY)) (s:=s70) ctqz) (hm:=by exact wka_lv (X:=(⟨h15,w74,t74,p15,l15,d15,mb74,lv69,tk74,gv74,128,192,(128+192),4⟩:WkX)) (Y:=(⟨M69,⟨[],0⟩,⟨[],0⟩,⟨[],0⟩,0⟩:WkY)) (s:=s70) ctqz) (hs:=hM69) (hn:=by decide))) ?_;rintro _ _ ⟨a114,c114,rfl,hc114,rfl⟩;refine tl_x rfl (o_buildSliceL (k:=1) (vs:=ints [0,1,2]) (l:=ints [0,1,2]) underlying22 sz3 z3 rfl rfl (by decide) (by decide) (by intro v hv;simp only [ints,i64,List.map_cons,List.map_nil,List.mem_cons,List.not_mem_nil,or_false] at hv;first|(subst hv;rfl)|(rcases hv with rfl|rfl|rfl<;>rfl)) rfl) ?_;rintro _ _ ⟨b115,rfl,rfl⟩;refine tl_c rfl (o_call bd62 rfl (EqInts_c (xs:=adZ 4 (usedB (((((T0 (onL [0])).take 1).take 2).write (128+192) 1 wkX).root 258))) (ys:=[0,1,2]) (h1:=by repeat (first|with_reducible exact rs_sl|apply Rs.left)) (h2:=by repeat (first|exact rs_pt rfl|apply Rs.left)) (hn:=by rw [wk_adZ];decide) (hx:=rfl) (hy:=rfl))) ?_;rintro _ _ ⟨rfl,rfl⟩;refine tl_env (d:=116) (v:= .bool true) (by show Value.bool (decide _)=_;rw [decide_eq_true wk_adZ]) ?_;refine Z6 ?_;refine tl_bool (d:=118) rfl (sbq ?_) dbq;intro h;refine tlm ?_;refine tl_c rfl (o_call bd30 rfl (Room13_c (h:=h15) (lv:=lv69) (M:=M69) (n:=4) (g:=usedB (((((T0 (onL [0])).take 1).take 2).write (128+192) 1 wkX).root 258)) (hh:=by exact wka_h (X:=(⟨h15,w74,t74,p15,l15,d15,mb74,lv69,tk74,gv74,128,192,(128+192),4⟩:WkX)) (Y:=(⟨M69,⟨[],0⟩,⟨[],0⟩,⟨[],0⟩,0⟩:WkY)) (s:=s70) ctqz) (hm:=by exact wka_lv (X:=(⟨h15,w74,t74,p15,l15,d15,mb74,lv69,tk74,gv74,128,192,(128+192),4⟩:WkX)) (Y:=(⟨M69,⟨[],0⟩,⟨[],0⟩,⟨[],0⟩,0⟩:WkY)) (s:=s70) ctqz) (hs:=hM69) (hn:=by decide))) ?_;rintro _ _ ⟨rfl,rfl⟩;refine tv (o_bS (l:=[_,_,_]) (pv_cons wqz (pv_cons wqz (pv_cons wqz pv_nil))) underlying80 z80 (pl80 underlying80) rfl) ?_;refine tv (o_eqst (k:=3) (l:=[((4:Nat):Int),((adS 4 (usedB (((((T0 (onL [0])).take 1).take 2).write (128+192) 1 wkX).root 258))).length:Nat),((4-(adS 4 (usedB (((((T0 (onL [0])).take 1).take 2).write (128+192) 1 wkX).root 258))).length:Nat):Int)]) (m:=[4,3,1]) underlying80 kqz kqz kqz rfl rfl rfl rfl) ?_;refine tl_env (d:=122) (v:= .bool true) (by show Value.bool (decide _)=_;rw [wk_adS];rfl) ?_;refine Zdg ?_;exact ⟨.bool true,A,res1 rfl rfl,Dr.sat drqz,rfl,rfl⟩
end Go.Vl

namespace Go.Vl
open Go Go.Proofs Go.Proofs.Tryz
def bcs (su:List Value)(d p h w e q g v:Value):List Value:=su++[d,p,h,w,e,q,g,v]
theorem hk13 {lg n:Nat}{s:DevS}(h1:128<=lg)(h2:lg<=32768)(h3:lg%64=0)(h4:n<=64)(hwf:WfD s)(hls:s.ls.length=nl13 lg n):HkB 128 lg (128+lg) n s:=by
  have h64:=nl13_64 (n:=n) h3;refine ⟨by omega,by rw [hls,h64];omega,by rw [hls,h64];omega,hwf,⟨by decide,by decide,h1,h3,by rw [hls,h64];omega⟩⟩
attribute [local irreducible] crk crL crc Sl pt ro Dev imgS recS readS recsF rdW rdO rkT Parts rvl recordsS runsL adrF kcl xcl kys runA runsF layF ovF TxA adZ WkA SlB blkS conB imF RDev lineC RLines TxR TxE ldT TxX wasF
end Go.Vl

namespace Go.Vl
open Go Go.Proofs Go.Proofs.Tryz
def w12 (l:List Op12U)(i:Nat):Nat:=((l.drop i).map λ t=>3300+t.X.length).sum
def o12s (l:List Op12U):List Value:=l.flatMap Op12U.cells
def POp12 (A:SP)(cs:List Value)(ts:List Op12U):Prop:=∃a cap,cs=[.slice a ts.length cap]/\ ts.length<=cap/\ Rs A a (o12s ts)/\∀t∈ts,Op12W A t
def PartsI:List Value->List (List Int)->SP
  |v::vs,x::xs=>PartsI vs xs*Sl 1 v x.length (ints x)
  |[],[]=>emp
  |_,_=>pure_ False
def mkI (i k:Nat):Int:=((i*100003+k:Nat):Int)
def mksI (i n:Nat):List Int:=(List.range n).map (mkI i)
def mkLI (j:Nat)(l:List Int):List Int:=mksI j l.length
def PMI:Nat->List Value->List Nat->SP
  |j,v::vs,n::ns=>PMI (j+1) vs ns*Sl 1 v n (ints (mksI j n))
  |_,[],[]=>emp
  |_,_,_=>pure_ False
def GPI:Nat->List Value->List Value->List Nat->SP
  |j,v::vs,g::gs,n::ns=>GPI (j+1) vs gs ns*Gr v n (ints (mksI j n)) g (n+70) (ints (mksI j (n+70)))
  |_,[],[],[]=>emp
  |_,_,_,_=>pure_ False
attribute [local irreducible] Sl SlR pt ro PartsI Gr
end Go.Vl

namespace Go.Vl
open Go Go.Proofs Go.Proofs.Tryz
def st13c (kn bk ln:Int)(vl:Nat)(la:Option Addr)(ll lc:Nat):List Value:=[.int .i64 kn,.int .i64 bk,.int .i64 ln,.int .u64 ((vl:Nat):Int),.slice la ll lc]
def dataS (ln:Int)(vl:Nat):List Nat:=if ln<0∨600<ln then [] else (List.range ln.toNat).map λ i=>(i*7+vl)%256
theorem dataS_lt (ln:Int)(vl:Nat):∀x∈dataS ln vl,x<256:=λ x hx=>by
  unfold dataS at hx
  split at hx
  . cases hx
  obtain ⟨i,_,rfl⟩:=List.mem_map.1 hx;omega
def dataP (m k vl:Nat):List Nat:=(List.range m).map λ i=>if i<k then (i*7+vl)%256 else 0
theorem dataP_len (m k vl:Nat):(dataP m k vl).length=m:=by unfold dataP;simp
theorem dataP_0 (m vl:Nat):dataP m 0 vl=List.replicate m 0:=by
  unfold dataP
  refine List.ext_getElem (by simp) λ i h1 h2=> ?_
  simp only [List.getElem_map,List.getElem_range,List.getElem_replicate]
  rw [if_neg oqz]
theorem dataP_s {m k vl:Nat}(h:k<m):(dataP m k vl).set k ((k*7+vl)%256)=dataP m (k+1) vl:=by
  unfold dataP
  refine List.ext_getElem (by simp) λ i h1 h2=> ?_
  rw [List.getElem_set]
  simp only [List.getElem_map,List.getElem_range]
  by_cases e:k=i
  . subst e;rw [if_pos rfl,if_pos oqz]
  rw [if_neg e]
  by_cases hc:i<k
  . rw [if_pos hc,if_pos oqz]
  rw [if_neg hc,if_neg oqz]
theorem dataP_all {m vl:Nat}{ln:Int}(h:ln=(m:Int))(hm:m<=600):dataP m m vl=dataS ln vl:=by
  unfold dataP dataS
  rw [if_neg oqz,h,Int.toNat_natCast]
  exact List.map_congr_left λ i hi=>by rw [if_pos (List.mem_range.1 hi)]
theorem dataS_out {ln:Int}{vl:Nat}(h:ln<0∨600<ln):dataS ln vl=[]:=by unfold dataS;rw [if_pos h]
attribute [local irreducible] crk crL crc Sl pt ro Dev imgS recS readS recsF rdW rdO rkT Parts rvl recordsS runsL adrF kcl xcl kys runA runsF layF ovF TxA adZ WkA SlB blkS conB imF RDev lineC RLines TxR TxE ldT TxX wasF
theorem Zep {p r:Prop}(k:r)(h:Kq r->p:=by intro k;refine tv (o_fieldAddr (o:=2) underlying42 rfl rfl sz3 rfl) ?_;refine tv (o_load p3 rfl hsqz rfl) ?_;exact k.o):p:=h ⟨k⟩
theorem Zel {p r:Prop}(k:r)(h:Kq r->p:=by intro k;refine tv (o_fieldAddr (o:=3) underlying42 rfl rfl sz36 rfl) ?_;refine tv (o_load p36 rfl hsqz rfl) ?_;exact k.o):p:=h ⟨k⟩
theorem data13_c {A:SP}{kn bk ln:Int}{vl ll lc:Nat}{la:Option Addr}:
    Fn Tryz.prog 19 #[.agg (st13c kn bk ln vl la ll lc).toArray] A (λ rr B=>∃a c,rr= .slice a (dataS ln vl).length c/\ (dataS ln vl).length<=c/\ B=A*Sl 1 (.slice a (dataS ln vl).length c) (dataS ln vl).length (bys (dataS ln vl))):=by
  refine fn_enterW func19 rfl ntmps19 (by simp) ?_;refine sr ?_;refine tl_x rfl (o_box rfl (l:=(st13c kn bk ln vl la ll lc)) rfl) ?_;rintro _ _ ⟨b1,rfl,rfl⟩;refine Zcy ?_;refine sr ?_;refine Zep ?_;refine Zes ?_;refine tl_bool (d:=8) rfl (λ h=> ?_) (λ h=> ?_)
  . have g8:(ln<0):=(by first|exact of_decide_eq_true h|(have h2:=h;simp at h2;omega)|simpa using h);refine Zcv ?_;refine Zg8 ?_;refine tc_cond_t rfl ?_;refine Zdp ?_;have hout:ln<0∨600<ln:=(by first|exact .inl g8|(right;first|omega|(have h9:=of_decide_eq_true h;omega)|(simp at h;omega)));rw [dataS_out hout]
    exact ⟨_,A*Sl 1 (.slice none 0 0) 0 (bys []),res1 rfl rfl,(λ g w h=>sl_nil (k:=1) (Dr.sat (A':=A) drqz g w h)),none,0,rfl,Nat.le_refl _,rfl⟩
  have g8:¬(ln<0):=(by first|exact of_decide_eq_false h|(have h2:=h;simp at h2;omega)|simpa using h);refine Zep ?_;refine tv (o_gtr rfl rfl) ?_;refine Zf3 ?_;refine tc_cond rfl (sbq ?_) (λ h=> ?_)
  . intro h;refine Zdp ?_;have hout:ln<0∨600<ln:=(by first|exact .inl g8|(right;first|omega|(have h9:=of_decide_eq_true h;omega)|(simp at h;omega)));rw [dataS_out hout]
    exact ⟨_,A*Sl 1 (.slice none 0 0) 0 (bys []),res1 rfl rfl,(λ g w h=>sl_nil (k:=1) (Dr.sat (A':=A) drqz g w h)),none,0,rfl,Nat.le_refl _,rfl⟩
  have hin:0<=ln/\ ln<=600:=(by first|(simp at h;omega)|(have h9:=of_decide_eq_false h;omega));obtain ⟨m,rfl⟩:=Int.eq_ofNat_of_zero_le hin.1;have hm6:m<=600:=(by omega);rw [←dataP_all (vl:=vl) rfl hm6,dataP_len]
  refine Zg2 ?_;refine Zep ?_;refine tl_x rfl (o_makeSlice (len:=m) (cap:=m) underlying32 sz5 by5 z5 rfl rfl rfl oqz oqz oqz) ?_;rintro _ _ ⟨b15,rfl,rfl⟩;rw [bys_rep]
  refine tl_pre (A':=A*pt b1 (cl (st13c kn bk ((m:Nat):Int) vl la ll lc) 42)*Sl 1 (.slice (some ⟨b15,0,none⟩) m m) m (bys (List.replicate m 0))) (λ _ _ h=>sl_new (k:=1) (n:=m) (cap:=m) (xs:=bys (List.replicate m 0)) h (Nat.le_refl _) (by rw [bys_length,List.length_replicate];omega) (by rw [List.take_of_length_le (by rw [bys_length,List.length_replicate];omega)])) ?_;refine Zcy ?_;refine Zej ?_;refine tc_loop (λ kk ρ BB=>∃ (k:Nat),(k<=m)/\ kk=m-k/\ ρ 4=(vn k)/\ ρ 1=(pz b1)/\ ρ 3= .slice (some ⟨b15,0,none⟩) m m/\ Dr BB (A*pt b1 (cl (st13c kn bk ((m:Nat):Int) vl la ll lc) 42)*Sl 1 (.slice (some ⟨b15,0,none⟩) m m) m (bys (dataP m k vl)))) (m:=m-(0)) ?_ ?_
  . exact ⟨0,Nat.zero_le _,rfl,rfl,rfl,rfl,by rw [dataP_0];repeat (first|with_reducible exact dr_refl|apply dr_keep|apply dr_drop)⟩
  intro k ρ B hI;obtain ⟨k,hp0,hkk1,hE4,hE1,hE3,hBA⟩:=hI;refine tc_pre hBA.sat ?_;clear hBA;refine te 4 hE4 ?_;refine te 1 hE1 ?_;refine te 3 hE3 ?_;refine Zd ?_;refine Zcr ?_;refine Zr ?_;refine tc_cond rfl (λ h=> ?_) (λ h=> ?_)
  . have hk:k<m:=(by first|omega|(simp at h;omega));refine Zbn ?_;refine Zu ?_;refine Zfn ?_;refine tl_env (d:=25) (v:=(vn (k*7))) (by first|rfl|exact congrArg (Value.int .i64) oqz) ?_;refine tv (by first|exact o_conv8 underlying3 underlying5 rfl|exact o_conv underlying3 underlying5 rfl) ?_;refine Zel ?_;refine tv (by first|exact o_conv8 underlying36 underlying5 rfl|exact o_conv underlying36 underlying5 rfl) ?_;refine tv (o_addm8 (a:=k*7%256) (b:=vl%256) rfl rfl) ?_;refine tl_env (d:=30) (v:= .int .u8 (((k*7+vl)%256:Nat):Int)) (congrArg (λ z:Nat=>Value.int .u8 (z:Int)) oqz) ?_;refine tv (o_ixP1 underlying32 sz5 rfl rfl hk (nn_rs rs_sl (by rw [bys_length,dataP_len];omega))) ?_;refine tl_u rfl (o_stP (ys:=bys (dataP m (k+1) vl)) sz5 rfl rfl rfl ctqz oqz (by rw [←dataP_s hk];exact bys_set _ _ _)) ?_;refine Zc9 ?_;refine Zdh ?_;exact ⟨_,by omega,k+1,by omega,rfl,rfl,rfl,rfl,drqz⟩
  obtain rfl:k=m:=by first|omega|(simp at h;omega)
  refine Zda ?_;refine Zf ?_;exact ⟨_,_,res1 rfl rfl,Dr.sat drqz,some ⟨b15,0,none⟩,k,rfl,Nat.le_refl _,rfl⟩
end Go.Vl

namespace Go.Vl
open Go Go.Proofs Go.Proofs.Tryz
def lastW (f:Nat->Bool)(n:Nat):Nat->Int
  |0=> -1
  |k+1=>if f (n-(k+1))=true then ((n-(k+1):Nat):Int) else lastW f n k
theorem lastW_no {f:Nat->Bool}{n:Nat}:∀k,k<=n->(∀c,n-k<=c->c<n->f c=false)->lastW f n k= -1
  |0,_,_=>rfl
  |k+1,hk,h=>by
    unfold lastW
    rw [if_neg (by rw [h _ (Nat.le_refl _) oqz];decide)]
    exact lastW_no k oqz λ c h1 h2=>h c oqz h2
theorem lastW_at {f:Nat->Bool}{n b:Nat}(hb:b<n)(hf:f b=true)(hl:∀c,c<b->f c=false):∀k,k<=n->n-k<=b->lastW f n k=(b:Int)
  |0,_,h=>by omega
  |k+1,hk,h=>by
    unfold lastW
    by_cases e:n-(k+1)=b
    . rw [if_pos (by rw [e];exact hf),e]
    rw [if_neg (by rw [hl _ oqz];decide)]
    exact lastW_at hb hf hl k oqz oqz
theorem want_cases (n:Nat)(T:WkT):(lastW (freeB T) n n= -1/\ takeS n T=(0,7,T))∨∃b,b<n/\ freeB T b=true/\ lastW (freeB T) n n=(b:Int)/\ takeS n T=(b,0,T.take b):=by
  unfold takeS
  cases h:leastB T n with
  |none=>exact .inl ⟨lastW_no n (Nat.le_refl _) λ c _ hc=>leastB_none.1 h c hc,rfl⟩
  |some b=>
    obtain ⟨h1,h2,h3⟩:=leastB_some.1 h;exact .inr ⟨b,h1,h2,lastW_at h1 h2 h3 n (Nat.le_refl _) oqz,rfl⟩
def RowHas (Z:SP)(v:Value)(X:List Nat):Prop:=∃a m c,v= .slice a m c/\ (a=none∨(m=256/\ Rs Z a (bys X)))
theorem RowHas.nil {Z:SP}{X:List Nat}:RowHas Z (.slice none 0 0) X:=⟨none,0,0,rfl,.inl rfl⟩
theorem RowHas.right {Z Y:SP}{v:Value}{X:List Nat}(h:RowHas Z v X):RowHas (Y*Z) v X:=by
  obtain ⟨a,m,c,h1,h2⟩:=h;exact ⟨a,m,c,h1,h2.imp id λ ⟨h3,h4⟩=>⟨h3,h4.right⟩⟩
theorem RowHas.left {Z Y:SP}{v:Value}{X:List Nat}(h:RowHas Z v X):RowHas (Z*Y) v X:=by
  obtain ⟨a,m,c,h1,h2⟩:=h;exact ⟨a,m,c,h1,h2.imp id λ ⟨h3,h4⟩=>⟨h3,h4.left⟩⟩
theorem all_put {vs:List Value}{b:Nat}{v:Value}(h:vs.all oneC=true)(hv:oneC v=true):(vs.set b v).all oneC=true:=List.all_eq_true.2 λ x hx=>by
  rcases List.mem_or_eq_of_mem_set hx with h1|rfl
  . exact List.all_eq_true.1 h x h1
  exact hv
structure KM (ba n:Nat) (Z:SP) (T:WkT) (s:DevS) (g:Nat->Bool) (vs:List Value) (rt:Nat):Prop where
  vl:vs.length=n
  on:vs.all oneC=true
  da:∀b,b<n->g b=true->∃v,vs[b]? =some v/\ RowHas Z v (conB T s ba b)
  ro:rt=rootV T s
section
variable {ba n:Nat} {Z Y:SP} {T:WkT} {s:DevS} {g:Nat->Bool} {vs:List Value} {rt:Nat}
theorem KM.left (h:KM ba n Z T s g vs rt):KM ba n (Z*Y) T s g vs rt:=⟨h.vl,h.on,λ b hb hg=>let ⟨v,h1,h2⟩:=h.da b hb hg;⟨v,h1,h2.left⟩,h.ro⟩
theorem KM.right (h:KM ba n Z T s g vs rt):KM ba n (Y*Z) T s g vs rt:=⟨h.vl,h.on,λ b hb hg=>let ⟨v,h1,h2⟩:=h.da b hb hg;⟨v,h1,h2.right⟩,h.ro⟩
theorem KM.sub {g':Nat->Bool}(h:KM ba n Z T s g vs rt)(hs:∀b,g' b=true->g b=true):KM ba n Z T s g' vs rt:=⟨h.vl,h.on,λ b hb hg=>h.da b hb (hs b hg),h.ro⟩
theorem KM.cong {T2:WkT}(h:KM ba n Z T s g vs rt)(hf:T2.f=T.f):KM ba n Z T2 s g vs rt:=⟨h.vl,h.on,λ b hb hg=>by have:=h.da b hb hg;unfold conB at this ⊢;rw [hf];exact this,by rw [h.ro];unfold rootV;rw [hf]⟩
theorem KM.put {T2:WkT}{b:Nat}{v:Value}{g':Nat->Bool}(h:KM ba n Z T s g vs rt)(hb:b<n)(hv:oneC v=true)(hr:RowHas Z v (conB T2 s ba b))(hc:∀c,c≠b->conB T2 s ba c=conB T s ba c)(hg:∀c,c≠b->g' c=true->g c=true)(hro:rootV T2 s=rootV T s):KM ba n Z T2 s g' (vs.set b v) rt:=by
  refine ⟨by rw [List.length_set];exact h.vl,all_put h.on hv,λ c hcn hgc=> ?_,by rw [h.ro,hro]⟩
  by_cases e:c=b
  . subst e;exact ⟨v,by rw [List.getElem?_set_self (by rw [h.vl];exact hb)],hr⟩
  obtain ⟨v2,h1,h2⟩:=h.da c hcn (hg c e hgc);exact ⟨v2,by rw [List.getElem?_set_ne (Ne.symm e)];exact h1,by rw [hc c e];exact h2⟩
theorem KM.agree {ws:List Value}(h:KM ba n Z T s g vs rt)(hl:ws.length=n)(hw:ws.all oneC=true)(ha:∀b,b<n->g b=true->ws[b]? =vs[b]?):KM ba n Z T s g ws rt:=⟨hl,hw,λ b hb hg=>by rw [ha b hb hg];exact h.da b hb hg,h.ro⟩
theorem KM.to {T2:WkT}{s2:DevS}(h:KM ba n Z T s g vs rt)(hc:∀b,b<n->conB T2 s2 ba b=conB T s ba b)(hr:rootV T2 s2=rootV T s):KM ba n Z T2 s2 g vs rt:=⟨h.vl,h.on,λ b hb hg=>by rw [hc b hb];exact h.da b hb hg,by rw [h.ro,hr]⟩
end
theorem give_f {T:WkT}{b:Nat}:(T.give b).f=T.f:=by unfold WkT.give;split<;>rfl
theorem give_lv {T:WkT}{b:Nat}:(T.give b).lv=T.lv:=by unfold WkT.give;split<;>rfl
section
variable {T:WkT} {b:Int} {u:Bool} {s:DevS} {ba:Nat} {xs:List Nat}
theorem giveS_c {e:Int}{T2:WkT}(h:u=usedZ T b)(hg:giveS T b=(e,T2)):(u=true/\ e=0/\ T2=T.give b.toNat)∨(u=false/\ e=130/\ T=T2):=by
  unfold giveS at hg
  rw [h]
  cases hz:usedZ T b<;>rw [hz] at hg<;>simp at hg<;>obtain ⟨rfl,rfl⟩:=hg
  . exact .inr ⟨rfl,rfl,rfl⟩
  exact .inl ⟨rfl,rfl,rfl⟩
theorem readW_c {e:Int}{ys:List Nat}(h:u=usedZ T b)(hg:readW T s ba b=(ys,e)):(u=true/\ e=0/\ ys=conB T s ba b.toNat)∨(u=false/\ e=130/\ ys=[]):=by
  unfold readW at hg
  rw [h]
  cases hz:usedZ T b<;>rw [hz] at hg<;>simp at hg<;>obtain ⟨rfl,rfl⟩:=hg
  . exact .inr ⟨rfl,rfl,rfl⟩
  exact .inl ⟨rfl,rfl,rfl⟩
theorem writeW_c {e:Int}{T2:WkT}(h:u=usedZ T b)(hx:xs.length=256)(hg:writeW T ba b xs=(e,T2)):(u=true/\ e=0/\ T2=T.write ba b.toNat xs)∨(u=false/\ e=130/\ T=T2):=by
  unfold writeW at hg
  rw [if_pos hx] at hg
  rw [h]
  cases hz:usedZ T b<;>rw [hz] at hg<;>simp at hg<;>obtain ⟨rfl,rfl⟩:=hg
  . exact .inr ⟨rfl,rfl,rfl⟩
  exact .inl ⟨rfl,rfl,rfl⟩
end
theorem data256 (vl:Nat):(dataS 256 vl).length=256:=by unfold dataS;simp
theorem calm_bgn {nl at_ sz:Nat}{s:DevS}(h:Calm nl at_ sz s):bgnB at_ sz false s=0:=by
  unfold bgnB
  have:idlB s false=0:=(by unfold idlB;rw [h.on];rfl);rw [if_neg (by rw [this];decide)];exact h.stp
theorem com_keep {lg n k:Nat}{X:WkX}{Y:WkY}{T:WkT}{s:DevS}(h1:lg=32768)(h2:n<=23)(hc:Calm (nl13 lg n) 128 lg s)(hok:WkOk X Y T (s.ls.length*64))(hg:GoodF (128+lg) n k T.f)(hk:k<=400):
    ∃s2,comY 128 lg (s.ls.length*64) T (some false) s=((0,{ T with lv:=usedB T }),s2)/\ Calm (nl13 lg n) 128 lg s2/\ (∀g b,b<n->conB (T0 g) s2 (128+lg) b=conB T s (128+lg) b)/\ (∀g,rootV (T0 g) s2=rootV T s):=by
  have h64:=nl13_64 (lg:=lg) (n:=n) oqz;have hls:=hc.len;have hout:∀a,nl13 lg n*64<=a->T.f a=none:=(by have h9:=hok.m.out;rw [hls] at h9;exact h9);have hby:=hok.m.by_;have hneed:=good_need hg hout hby;obtain ⟨s2,g1,g2,g3⟩:=calm_com (f:=T.f) hc hout hby (λ a ha=>by have:=hg.inn a ha;omega) oqz;refine ⟨s2, ?_,g2,λ g b hb=> ?_,λ g=> ?_⟩
  . unfold comY
    rw [if_pos (show eY (some false) s=0 from e13_on hc.on),hls,g1];rfl
  . rw [con_T0];unfold conB
    exact calm_sub hc g2 g3 (.inr oqz) oqz
  rw [root_T0];unfold rootV
  rw [calm_sub hc g2 g3 (.inl oqz) oqz]
theorem CommitK {A R:SP}{C:SP->SP}{h p lg d n l9 k:Nat}{wv:Value}{T:WkT}{s:DevS}{X:WkX}{Y:WkY}(hc:Ct A (PLf h p l9 d 128 lg (128+lg) n wv T (some false) s) R C:=by exact cbqz)(hb:HkB 128 lg (128+lg) n s)(h1:lg=32768)(h2:n<=23)(hcal:Calm (nl13 lg n) 128 lg s)(hok:WkOk X Y T (s.ls.length*64))(hg:GoodF (128+lg) n k T.f)(hk:k<=400):Fn Tryz.prog 22 #[wv] A (λ r B=>∃s2,(Calm (nl13 lg n) 128 lg s2/\ (∀g b,b<n->conB (T0 g) s2 (128+lg) b=conB T s (128+lg) b)/\ (∀g,rootV (T0 g) s2=rootV T s))/\ r= .int .i64 0/\ B=C (PLf h p l9 d 128 lg (128+lg) n wv { T with lv:=usedB T } (some true) s2)):=by
  obtain ⟨s2,g1,g2⟩:=com_keep h1 h2 hcal hok hg hk;have h64:=nl13_64 (lg:=lg) (n:=n) oqz;have hls:=hcal.len;refine (CommitPC (hc:=hc) (hb:=hb) (hroom:=hcal.room (by rw [hls];omega))).mono ?_;rw [g1]
  rintro v B ⟨rfl,rfl⟩;exact ⟨s2,g2,rfl,rfl⟩
theorem plf_ok {R:SP}{h p lg d at_ sz ba n:Nat}{wv:Value}{T:WkT}{o:Option Bool}{s:DevS}{g:Gh}{w:World}(hs:sat g w (R*PLf h p lg d at_ sz ba n wv T o s))(ho:o=some false):∃X Y,X.n=n/\ WkOk X Y T (s.ls.length*64):=by
  subst ho;obtain ⟨_,⟨a,b,hd,rfl,ha,w9,t,mb,lv,tk,gv,hw,lv9,Y,hok,hb⟩,hx⟩:=hs.hp;exact ⟨_,Y,rfl,hok⟩
theorem takeY_on {n:Nat}{T:WkT}{s:DevS}(ho:s.off=false):takeY n T (some false) s=(((takeS n T).1:Int),(takeS n T).2.1,(takeS n T).2.2):=if_pos (e13_on ho)
theorem giveY_on {T:WkT}{s:DevS}{b:Int}(ho:s.off=false):giveY T (some false) s b=giveS T b:=if_pos (e13_on ho)
theorem readY_on {T:WkT}{s:DevS}{ba:Nat}{b:Int}(ho:s.off=false):readY T (some false) s ba b=readW T s ba b:=if_pos (e13_on ho)
theorem writeY_on {T:WkT}{s:DevS}{ba:Nat}{b:Int}{xs:List Nat}(ho:s.off=false):writeY T (some false) s ba b xs=writeW T ba b xs:=if_pos (e13_on ho)
theorem rootY_on {T:WkT}{s:DevS}(ho:s.off=false):rootY T (some false) s=(rootV T s,0):=if_pos (e13_on ho)
theorem setY_on {T:WkT}{s:DevS}{v:Nat}(ho:s.off=false):setY T (some false) s v=(0,T.root v):=if_pos (e13_on ho)
theorem oY_on {s:DevS}(ho:s.off=false):oY (some false) s=some false:=congrArg some (o13_on ho)
theorem TakeK {A R:SP}{C:SP->SP}{h p lg d at_ sz ba n:Nat}{wv:Value}{T:WkT}{s:DevS}(hc:Ct A (PLf h p lg d at_ sz ba n wv T (some false) s) R C:=by exact cbqz)(hb:HkB at_ sz ba n s)(ho:s.off=false):Fn Tryz.prog 14 #[wv] A (λ r B=>∃b e T2,takeS n T=(b,e,T2)/\ r= .tuple #[vn b,.int .i64 e]/\ B=C (PLf h p lg d at_ sz ba n wv T2 (some false) s)):=
  (TakePC (hc:=hc) (hb:=hb)).mono λ v B ⟨h1,h2⟩=>⟨(takeS n T).1,(takeS n T).2.1,(takeS n T).2.2,rfl,by rw [h1,takeY_on ho],by rw [h2,takeY_on ho,oY_on ho]⟩
theorem GiveK {A R:SP}{C:SP->SP}{h p lg d at_ sz ba n:Nat}{wv:Value}{T:WkT}{s:DevS}(hc:Ct A (PLf h p lg d at_ sz ba n wv T (some false) s) R C:=by exact cbqz)(hb:HkB at_ sz ba n s)(ho:s.off=false){b:Int}:Fn Tryz.prog 15 #[wv,.int .i64 b] A (λ r B=>∃e T2,giveS T b=(e,T2)/\ r= .int .i64 e/\ B=C (PLf h p lg d at_ sz ba n wv T2 (some false) s)):=
  (GivePC (b:=b) (hc:=hc) (hb:=hb)).mono λ v B ⟨h1,h2⟩=>⟨(giveS T b).1,(giveS T b).2,rfl,by rw [h1,giveY_on ho],by rw [h2,giveY_on ho,oY_on ho]⟩
theorem ReadK {A R:SP}{C:SP->SP}{h p lg d at_ sz ba n:Nat}{wv:Value}{T:WkT}{s:DevS}(hc:Ct A (PLf h p lg d at_ sz ba n wv T (some false) s) R C:=by exact cbqz)(hb:HkB at_ sz ba n s)(ho:s.off=false){b:Int}:Fn Tryz.prog 16 #[wv,.int .i64 b] A (λ r B=>∃xs e a c,readW T s ba b=(xs,e)/\ r= .tuple #[.slice a xs.length c,.int .i64 e]/\ xs.length<=c/\ B=C (PLf h p lg d at_ sz ba n wv T (some false) s)*Sl 1 (.slice a xs.length c) xs.length (bys xs)):=
  (ReadPC (b:=b) (hc:=hc) (hb:=hb)).mono λ v B ⟨a,c,h1,h2,h3⟩=>by rw [readY_on ho] at h1 h2 h3;rw [oY_on ho] at h3;exact ⟨_,_,a,c,rfl,h1,h2,h3⟩
theorem WriteK {A R:SP}{C:SP->SP}{h p lg d at_ sz ba n:Nat}{wv:Value}{T:WkT}{s:DevS}(hc:Ct A (PLf h p lg d at_ sz ba n wv T (some false) s) R C:=by exact cbqz)(hb:HkB at_ sz ba n s)(ho:s.off=false){b:Int}{a:Option Addr}{m c:Nat}{xs:List Nat}(hr:Rs R a (bys xs):=by exact rbqz)(hxl:xs.length=m)(hxb:∀x∈xs,x<256):Fn Tryz.prog 18 #[wv,.int .i64 b,.slice a m c] A (λ r B=>∃e T2,writeW T ba b xs=(e,T2)/\ r= .int .i64 e/\ B=C (PLf h p lg d at_ sz ba n wv T2 (some false) s)):=
  (WritePC (b:=b) (hc:=hc) (hb:=hb) (hr:=hr) (hxl:=hxl) (hxb:=hxb)).mono λ v B ⟨h1,h2⟩=>⟨(writeW T ba b xs).1,(writeW T ba b xs).2,rfl,by rw [h1,writeY_on ho],by rw [h2,writeY_on ho,oY_on ho]⟩
theorem RootK {A R:SP}{C:SP->SP}{h p lg d at_ sz ba n:Nat}{wv:Value}{T:WkT}{s:DevS}(hc:Ct A (PLf h p lg d at_ sz ba n wv T (some false) s) R C:=by exact cbqz)(hb:HkB at_ sz ba n s)(ho:s.off=false):Fn Tryz.prog 20 #[wv] A (λ r B=>r= .tuple #[.int .u64 ((rootV T s:Nat):Int),.int .i64 0]/\ B=C (PLf h p lg d at_ sz ba n wv T (some false) s)):=
  (RootPC (hc:=hc) (hb:=hb)).mono λ v B ⟨h1,h2⟩=>⟨by rw [h1,rootY_on ho],by rw [h2,oY_on ho]⟩
theorem SetRootK {A R:SP}{C:SP->SP}{h p lg d at_ sz ba n:Nat}{wv:Value}{T:WkT}{s:DevS}(hc:Ct A (PLf h p lg d at_ sz ba n wv T (some false) s) R C:=by exact cbqz)(hb:HkB at_ sz ba n s)(ho:s.off=false){z:Nat}(hv:z<18446744073709551616):Fn Tryz.prog 21 #[wv,.int .u64 ((z:Nat):Int)] A (λ r B=>r= .int .i64 0/\ B=C (PLf h p lg d at_ sz ba n wv (T.root z) (some false) s)):=
  (SetRootPC (hc:=hc) (hb:=hb) (hv:=hv)).mono λ v B ⟨h1,h2⟩=>⟨by rw [h1,setY_on ho],by rw [h2,setY_on ho,oY_on ho]⟩
theorem DropK {A R:SP}{C:SP->SP}{h p lg d at_ sz ba n:Nat}{wv:Value}{T:WkT}{s:DevS}(hc:Ct A (PLf h p lg d at_ sz ba n wv T (some false) s) R C:=by exact cbqz)(hb:HkB at_ sz ba n s)(ho:s.off=false):Fn Tryz.prog 23 #[wv] A (λ r B=>r= .int .i64 0/\ B=C (PLf h p lg d at_ sz ba n wv T (some true) s)):=
  (DropPC (hc:=hc) (hb:=hb)).mono λ v B ⟨h1,h2⟩=>⟨by rw [h1];rfl,h2⟩
theorem BeginK {A R:SP}{C:SP->SP}{h p lg d at_ sz ba n nl:Nat}{wv:Value}{T:WkT}{o:Option Bool}{s:DevS}(hc:Ct A (PLf h p lg d at_ sz ba n wv T o s) R C:=by exact cbqz)(hb:HkB at_ sz ba n s)(hcal:Calm nl at_ sz s)(hl:liveY o=false):Fn Tryz.prog 12 #[pz h] A (λ r B=>∃w2,r= .tuple #[pz w2,.int .i64 0]/\ B=C (PLf h p lg d at_ sz ba n ((pz w2)) (T0 T.lv) (some false) s)):=by
  have hz:bgnB at_ sz (liveY o) s=0:=(by rw [hl];exact calm_bgn hcal);refine (BeginPC (hc:=hc) (hb:=hb)).mono ?_;rw [bgnY_ok hz]
  rintro v B ⟨wv2,rfl,h⟩
  rcases h with ⟨⟨h1,_⟩,_⟩|⟨⟨_,w2,rfl⟩,rfl⟩
  . exact absurd rfl h1
  exact ⟨w2,rfl,rfl⟩
theorem tmod24 (n:Int): -24<n.tmod 24/\ n.tmod 24<24:=by
  have h1:=Int.lt_tmod_of_pos n (b:=24) (by decide);have h2:=Int.tmod_lt_of_pos n (b:=24) (by decide)
  omega
theorem wrap64n {a:Nat}(h:a<=9223372036854775807):IntKind.i64.wrap (a:Int)=a:=by
  unfold IntKind.wrap
  simp only [IntKind.bits,IntKind.signed]
  simp
  omega
theorem natI_adS (n:Nat)(g:Nat->Bool):natI (adS n g)=adZ n g:=rfl
theorem adS_nodup (n:Nat)(g:Nat->Bool):(adS n g).Nodup:=(adS_sorted n g).imp λ h=>Nat.ne_of_lt h
attribute [local irreducible] crk crL crc Sl pt ro Dev imgS recS readS recsF rdW rdO rkT Parts rvl recordsS runsL adrF kcl xcl kys runA runsF layF ovF TxA adZ WkA SlB blkS conB imF RDev lineC RLines TxR TxE ldT TxX wasF
theorem once13_c {A:SP}{la:Option Addr}{ml cl_ n:Nat}{zs:List Int}(hr:Rs A la (ints zs))(hm:zs.length=ml)(hmb:ml<=9223372036854775807)(hn:n<=4194304:=by omega):
    Fn Tryz.prog 44 #[.slice la ml cl_,vn n] A (λ r B=>∃g a c,r= .slice a (adZ n g).length c/\ (adZ n g).length<=c/\ B=A*Sl 1 (.slice a (adZ n g).length c) (adZ n g).length (ints (adZ n g))):=by
  refine fn_enterW func44 rfl ntmps44 (by simp) ?_;refine Zd4 ?_;refine tl_x rfl (o_makeSlice (len:=n) (cap:=n) underlying34 sz4 by4 z4 rfl rfl rfl oqz oqz oqz) ?_;rintro _ _ ⟨b10,rfl,rfl⟩;refine tl_pre (λ _ _ h=>pt_wasF h) ?_;refine Zcy ?_;refine Zej ?_;refine tc_loop (λ kk ρ BB=>∃ (i:Nat) (g:Nat->Bool),(i<=ml)/\ kk=ml-i/\ ρ 6=(vn i)/\ ρ 0= .slice la ml cl_/\ ρ 1=(vn n)/\ ρ 5= .slice (some ⟨b10,0,none⟩) n n/\ Dr BB (A*Sl 1 (.slice (some ⟨b10,0,none⟩) n n) n (bos (wasF n g)))) (m:=ml-(0)) ?_ ?_
  . exact ⟨0,g0,by omega,rfl,rfl,rfl,rfl,rfl,drqz⟩
  intro k ρ B hI;obtain ⟨i,g,hp0,hkk1,hE6,hE0,hE1,hE5,hBA⟩:=hI;refine tc_pre hBA.sat ?_;clear hBA;refine te 6 hE6 ?_;refine te 0 hE0 ?_;refine te 1 hE1 ?_;refine te 5 hE5 ?_;refine Zd ?_;refine tlm ?_;refine Zf6 ?_;refine tc_cond rfl (λ h=> ?_) (sbq ?_)
  . have hi:i<zs.length:=(by first|omega|(simp at h;omega));obtain ⟨x,hx1⟩:∃x,zs[i]=x:=⟨_,rfl⟩;have hat:(ints zs)[i]? =some (.int .i64 x):=(by rw [ints_at oqz,hx1]);refine Ze4 ?_;refine tlm ?_;refine tv (o_ixP1 (a:=la) underlying22 sz3 rfl rfl oqz (nn_rs (xs:=ints zs) (by repeat (first|exact hr|apply Rs.left)) (by rw [ints_length];omega))) ?_;refine tv (o_ldP (a:=la) (xs:=ints zs) p3 rfl (by repeat (first|exact hr|apply Rs.left)) hat) ?_;refine tv (o_geq rfl rfl) ?_;refine tlm ?_;refine tl_bool (d:=22) rfl (sbq ?_) (sbq ?_)
    . intro h;refine Zbe ?_;refine tv (o_ixP1 (a:=la) underlying22 sz3 rfl rfl oqz (nn_rs (xs:=ints zs) (by repeat (first|exact hr|apply Rs.left)) (by rw [ints_length];omega))) ?_;refine tv (o_ldP (a:=la) (xs:=ints zs) p3 rfl (by repeat (first|exact hr|apply Rs.left)) hat) ?_;refine Zfh ?_;refine Zg8 ?_;refine tc_cond rfl (λ h=> ?_) (sbq ?_)
      . have g29:0<=x/\ x<(n:Int):=(by first|(simp at h;omega)|(have h9:=of_decide_eq_true h;omega));obtain ⟨q,rfl⟩:=Int.eq_ofNat_of_zero_le g29.1;have hq:q<n:=(by omega);refine Zu ?_;refine Zbe ?_;refine tv (o_ixP1 (a:=la) underlying22 sz3 rfl rfl oqz (nn_rs (xs:=ints zs) (by repeat (first|exact hr|apply Rs.left)) (by rw [ints_length];omega))) ?_;refine tv (o_ldP (a:=la) (xs:=ints zs) p3 rfl (by repeat (first|exact hr|apply Rs.left)) hat) ?_;refine tv (o_ixP1 (j:=q) underlying34 sz4 rfl rfl hq (nn_rs (xs:=bos (wasF n g)) sq0z (by rw [bos_length,wasF_len];omega))) ?_;refine tl_u rfl (o_stP (ys:=bos (wasF n (updG g q true))) sz4 rfl rfl rfl ctqz oqz (wasF_set hq)) ?_;refine Zc9 ?_;refine Zdh ?_;exact ⟨_,by omega,i+1,updG g q true,by omega,rfl,rfl,rfl,rfl,rfl,drqz⟩
      intro h;refine Zf4 ?_;exact ⟨_,by omega,i+1,g,by omega,rfl,rfl,rfl,rfl,rfl,drqz⟩
    intro h;refine Zg7 ?_;refine nq ?_;refine tc_cond_f rfl ?_;refine Zf4 ?_;exact ⟨_,by omega,i+1,g,by omega,rfl,rfl,rfl,rfl,rfl,drqz⟩
  intro h;refine Zh ?_;refine Zgj ?_;refine Zej ?_;refine tc_pre (A':=A*Sl 1 (.slice (some ⟨b10,0,none⟩) n n) n (bos (wasF n g))*Sl 1 (.slice none (adZ 0 g).length 0) (adZ 0 g).length (ints (adZ 0 g))) (λ _ _ h=>by rw [adZ_zero];exact sl_nil h) ?_;refine tc_loop (λ kk ρ BB=>∃ (i:Nat) (a:Option Addr) (c:Nat),(i<=n)/\ ((adZ i g).length<=c)/\ kk=n-i/\ ρ 7= .slice a (adZ i g).length c/\ ρ 8=(vn i)/\ ρ 1=(vn n)/\ ρ 5= .slice (some ⟨b10,0,none⟩) n n/\ Dr BB (A*Sl 1 (.slice (some ⟨b10,0,none⟩) n n) n (bos (wasF n g))*Sl 1 (.slice a (adZ i g).length c) (adZ i g).length (ints (adZ i g)))) (m:=n-(0)) ?_ ?_
  . exact ⟨0,none,0,by omega,by rw [adZ_zero];exact Nat.le_refl _,rfl,by rw [adZ_zero];rfl,rfl,rfl,rfl,drqz⟩
  intro k ρ B hI;obtain ⟨i,a,c,hp0,hp1,hkk2,hE7,hE8,hE1,hE5,hBA⟩:=hI;refine tc_pre hBA.sat ?_;clear hBA;refine te 7 hE7 ?_;refine te 8 hE8 ?_;refine te 1 hE1 ?_;refine te 5 hE5 ?_;refine Zd ?_;refine tlm ?_;refine Zr ?_;refine tc_cond rfl (λ h=> ?_) (λ h=> ?_)
  . have hi:i<n:=(by first|omega|(simp at h;omega));have hz:=adZ_le i g;refine Ze4 ?_;refine tlm ?_;refine tv (o_ixP1 (j:=i) underlying34 sz4 rfl rfl hi (nn_rs (xs:=bos (wasF n g)) sq0z (by rw [bos_length,wasF_len];omega))) ?_;refine tv (o_ldP (xs:=bos (wasF n g)) p4 rfl sq0z (wasF_at hi)) ?_;refine nq ?_;refine tc_cut (λ ρ BB=>∃ (b2:Option Addr) (k2:Nat),((adZ (i+1) g).length<=k2)/\ ρ 7= .slice b2 (adZ (i+1) g).length k2/\ ρ 1=(vn n)/\ ρ 5= .slice (some ⟨b10,0,none⟩) n n/\ ρ 8=(vn i)/\ Dr BB (A*Sl 1 (.slice (some ⟨b10,0,none⟩) n n) n (bos (wasF n g))*Sl 1 (.slice b2 (adZ (i+1) g).length k2) (adZ (i+1) g).length (ints (adZ (i+1) g)))) ?_ ?_
    . skip
      refine tc_cond rfl (λ h=> ?_) (λ h=> ?_)
      . have hgi:g i=true:=(by first|exact h|simpa using h);have hs1:=adZ_succ i g;rw [if_pos hgi] at hs1
        refine Zdt ?_;refine tl_x rfl (o_buildSlice1 underlying22 sz3 z3 wqz rfl) ?_;rintro _ _ ⟨b47,rfl,rfl⟩;refine tl_x rfl (o_apB underlying22 underlying22 sz3 by3 z3 rfl (by decide) (by decide) rfl rfl rfl ctqz rfl (by exact ints_all [(i:Int)]) sq1z (ints_sn (adZ i g) _)) ?_;rintro _ _ ⟨a48,c48,rfl,hc48,rfl⟩;refine Zb1 ?_;exact ⟨_,_,by rw [hs1];first|exact hp1|(rw [List.length_append];exact hc48),by rw [hs1];first|rfl|(rw [List.length_append];rfl),rfl,rfl,rfl,by rw [hs1];first|exact dr_refl|(rw [List.length_append];exact dr_refl)⟩
      have hgi:¬g i=true:=(by first|(rw [h];decide)|simpa using h);have hs1:=adZ_succ i g;rw [if_neg hgi,List.append_nil] at hs1
      refine tc_skip ?_;exact ⟨_,_,by rw [hs1];first|exact hp1|(rw [List.length_append];exact hc48),by rw [hs1];first|rfl|(rw [List.length_append];rfl),rfl,rfl,rfl,by rw [hs1];first|exact dr_refl|(rw [List.length_append];exact dr_refl)⟩
    intro ρ B hI;obtain ⟨b2,k2,hj0,hE7,hE1,hE5,hE8,hBA⟩:=hI;refine q_block_n (q_then_n ?_);refine tc_pre hBA.sat ?_;clear hBA;refine te 7 hE7 ?_;refine te 1 hE1 ?_;refine te 5 hE5 ?_;refine te 8 hE8 ?_;refine Zu ?_;refine Zbm ?_;exact ⟨_,by omega,i+1,_,_,by omega,hj0,rfl,rfl,rfl,rfl,rfl,drqz⟩
  obtain rfl:i=n:=by first|omega|(simp at h;omega)
  refine Zda ?_;refine Zf ?_;exact ⟨_,_,res1 rfl rfl,Dr.sat drqz,g,a,c,rfl,hp1,rfl⟩
theorem Z5 {p r:Prop}(k:r)(h:Kq r->p:=by intro k;refine tv (o_fieldAddr (o:=0) underlying38 rfl rfl sz34 rfl) ?_;refine tv (o_load p34 rfl hsqz rfl) ?_;exact k.o):p:=h ⟨k⟩
theorem Z1 {p r:Prop}(k:r)(h:Kq r->p:=by intro k;refine tv (o_fieldAddr (o:=1) underlying38 rfl rfl sz35 rfl) ?_;refine tv (o_load p35 rfl hsqz rfl) ?_;exact k.o):p:=h ⟨k⟩
theorem Zem {p r:Prop}(k:r)(h:Kq r->p:=by intro k;refine tv (o_fieldAddr (o:=2) underlying38 rfl rfl sz36 rfl) ?_;refine tv (o_load p36 rfl hsqz rfl) ?_;exact k.o):p:=h ⟨k⟩
theorem copy13_c {A:SP}{la da:Option Addr}{n lc dc rt:Nat}{gl:List Value}{vs:List Value}(hl:Rs A la gl)(ho:gl.all oneC=true)(hvo:vs.all oneC=true)(hll:gl.length=n)(hd:Rs A da vs)(hvl:vs.length=n)(hn:n<=4194304):
    Fn Tryz.prog 13 #[.agg (#[.slice la n lc,.slice da n dc,.int .u64 ((rt:Nat):Int)])] A (λ r B=>∃a c x y,r= .agg (#[.slice a n c,.slice x n y,.int .u64 ((rt:Nat):Int)])/\ B=A*Sl 1 (.slice a n c) n gl*Sl 1 (.slice x n y) n vs):=by
  refine fn_enterW func13 rfl ntmps13 (by simp) ?_;refine sr ?_;refine tl_x rfl (o_box rfl (l:=[.slice la n lc,.slice da n dc,.int .u64 ((rt:Nat):Int)]) rfl) ?_;rintro _ _ ⟨b1,rfl,rfl⟩;refine tl_x rfl (o_alloc (l:=[.slice none 0 0,.slice none 0 0,.int .u64 0]) z38 rfl) ?_;rintro _ _ ⟨b2,rfl,rfl⟩;refine Ze2 ?_;refine tl_x rfl (o_alloc (l:=[.slice none 0 0,.slice none 0 0,.int .u64 0]) z38 rfl) ?_;rintro _ _ ⟨b3,rfl,rfl⟩;refine Ze2 ?_;refine Z5 ?_;refine Z5 ?_;refine tl_x rfl (o_apN underlying34 underlying34 sz4 by4 z4 rfl (by decide) (by decide) rfl rfl (ys:=gl) (by repeat (first|exact hl|apply Rs.left)) oqz ho oqz) ?_;rintro _ _ ⟨a8,c8,rfl,hc8,rfl⟩;refine tv (o_fieldAddr (o:=0) underlying38 rfl rfl sz34 rfl) ?_;refine tl_u rfl (o_stU rfl upqz sz34 rfl rfl (by first|decide|simp|omega) rfl) ?_;refine Ze2 ?_;refine Z1 ?_;refine Z1 ?_;refine tl_x rfl (o_apN underlying35 underlying35 sz32 by32 z32 rfl (by decide) (by decide) rfl rfl (ys:=vs) (by repeat (first|exact hd|apply Rs.left)) oqz hvo oqz) ?_;rintro _ _ ⟨a14,c14,rfl,hc14,rfl⟩;refine tv (o_fieldAddr (o:=1) underlying38 rfl rfl sz35 rfl) ?_;refine tl_u rfl (o_stU rfl upqz sz35 rfl rfl (by first|decide|simp|omega) rfl) ?_;refine Ze2 ?_;refine Zem ?_;refine tv (o_fieldAddr (o:=2) underlying38 rfl rfl sz36 rfl) ?_;refine tl_u rfl (o_stU rfl upqz sz36 rfl rfl (by first|decide|simp|omega) rfl) ?_;refine Ze2 ?_;refine tv (o_loadN (vs:=[.slice a8 n c8,.slice a14 n c14,.int .u64 ((rt:Nat):Int)]) a38 sz38 rfl hsqz (by exact Nat.le_refl 3) rfl) ?_;refine tl_u rfl (o_stUN rfl upqz sz38 rfl rfl rfl (by first|decide|simp|omega) rfl) ?_;refine nq ?_;refine tc_ret ?_;exact ⟨_,A*Sl 1 (.slice a8 n c8) n gl*Sl 1 (.slice a14 n c14) n vs,resA1 rfl (rv_cell a38 sz38 rfl hsqz (by show 0+3<=3;decide) rfl),Dr.sat drqz,a8,c8,a14,c14,rfl,rfl⟩
theorem Zbi {p r:Prop}(k:r)(h:Kq r->p:=by intro k;refine tv (o_fieldAddr (o:=1) underlying25 rfl rfl sz3 rfl) ?_;refine tv (o_load p3 rfl hsqz rfl) ?_;exact k.o):p:=h ⟨k⟩
theorem clean13_c {A:SP}{lg n0:Int}{fi ml cl_:Nat}{la:Option Addr}{zs:List Int}{ar:Value}(hr:Rs A la (ints zs))(hm:zs.length=ml)(hmb:ml<=9223372036854775807):
    Fn Tryz.prog 8 #[.agg ((su5 lg n0 (fi:Nat) (.slice la ml cl_) ar)).toArray] A (λ r B=>∃n g a c,n<=23/\ r= .agg ((su5 ((32768:Nat):Int) ((n:Nat):Int) (fi:Nat) (.slice a (adZ n g).length c) (.slice none 0 0))).toArray/\ (adZ n g).length<=c/\ B=A*Sl 1 (.slice a (adZ n g).length c) (adZ n g).length (ints (adZ n g))):=by
  refine fn_enterW func8 rfl ntmps8 (by simp) ?_;refine sr ?_;refine tl_x rfl (o_box rfl (l:=(su5 lg n0 (fi:Nat) (.slice la ml cl_) ar)) rfl) ?_;rintro _ _ ⟨b1,rfl,rfl⟩;refine tl_x rfl (o_alloc (l:=[.int .i64 0,.int .i64 0,.int .u8 0,.slice none 0 0,.slice none 0 0]) z25 rfl) ?_;rintro _ _ ⟨b2,rfl,rfl⟩;refine Ze2 ?_;refine tv (o_fieldAddr (o:=0) underlying25 rfl rfl sz3 rfl) ?_;refine tl_u rfl (o_stU (l':=(su5 32768 n0 (fi:Nat) (.slice la ml cl_) ar)) rfl upqz sz3 rfl rfl (by show 0<5;decide) rfl) ?_;refine Ze2 ?_;refine tv (o_fieldAddr (o:=4) underlying25 rfl rfl sz23 rfl) ?_;refine tl_u rfl (o_stU (l':=(su5 32768 n0 (fi:Nat) (.slice la ml cl_) (.slice none 0 0))) rfl upqz sz23 rfl rfl (by show 4<5;decide) rfl) ?_;refine Ze2 ?_;refine Zbi ?_;have ht1:=tmod24 n0;refine tv (o_rem rfl rfl (by decide)) ?_;refine tv (o_fieldAddr (o:=1) underlying25 rfl rfl sz3 rfl) ?_;refine tl_u rfl (o_stU (l':=(su5 32768 (n0.tmod 24) (fi:Nat) (.slice la ml cl_) (.slice none 0 0))) rfl upqz sz3 rfl rfl (by show 1<5;decide) rfl) ?_;refine Zdx ?_;refine sr ?_;refine Zbi ?_;refine Zr ?_;refine tc_cut (λ ρ BB=>ρ 1=(pz b1)/\ ρ 2=(pz b2)/\ Dr BB (A*pt b1 (cl (su5 32768 (((n0.tmod 24).natAbs:Nat):Int) (fi:Nat) (.slice la ml cl_) (.slice none 0 0)) 25)*pt b2 (cl [.int .i64 0,.int .i64 0,.int .u8 0,.slice none 0 0,.slice none 0 0] 25))) ?_ ?_
  . skip
    refine tc_cond rfl (λ h=> ?_) (λ h=> ?_)
    . have g11:n0.tmod 24<0:=(by first|exact of_decide_eq_true h|simpa using h);refine tc_reg ?_;refine Zbi ?_;refine tv (o_neg rfl) ?_;refine tl_env (d:=14) (v:= .int .i64 (((n0.tmod 24).natAbs:Nat):Int)) (congrArg (Value.int .i64) (by rw [show (0:Int)-n0.tmod 24=(((n0.tmod 24).natAbs:Nat):Int) by omega];exact wrap64n oqz)) ?_;refine tv (o_fieldAddr (o:=1) underlying25 rfl rfl sz3 rfl) ?_;refine tl_u rfl (o_stU (l':=(su5 32768 (((n0.tmod 24).natAbs:Nat):Int) (fi:Nat) (.slice la ml cl_) (.slice none 0 0))) rfl upqz sz3 rfl rfl (by show 1<5;decide) rfl) ?_;refine tl_nil ?_;exact ⟨rfl,rfl,by apply dr_keep;first|with_reducible exact dr_refl|(rw [Int.natAbs_of_nonneg oqz];exact dr_refl)⟩
    have g11:¬n0.tmod 24<0:=(by first|exact of_decide_eq_false h|simpa using h);refine tc_skip ?_;exact ⟨rfl,rfl,by apply dr_keep;first|with_reducible exact dr_refl|(rw [Int.natAbs_of_nonneg oqz];exact dr_refl)⟩
  intro ρ B hI;obtain ⟨hE1,hE2,hBA⟩:=hI;refine q_then_n ?_;refine tc_pre hBA.sat ?_;clear hBA;refine te 1 hE1 ?_;refine te 2 hE2 ?_;refine sr ?_;refine Zek ?_;refine Zbi ?_;refine tl_c rfl (o_call bd44 rfl (once13_c (n:=(n0.tmod 24).natAbs) (hr:=by repeat (first|exact hr|apply Rs.left)) (hm:=hm) (hmb:=hmb))) ?_;rintro _ _ ⟨g20,a20,c20,rfl,hc20,rfl⟩;refine tv (o_fieldAddr (o:=3) underlying25 rfl rfl sz22 rfl) ?_;refine tl_u rfl (o_stU (l':=(su5 32768 (((n0.tmod 24).natAbs:Nat):Int) (fi:Nat) (.slice a20 (adZ (n0.tmod 24).natAbs g20).length c20) (.slice none 0 0))) rfl upqz sz22 rfl rfl (by show 3<5;decide) rfl) ?_;refine Ze2 ?_;refine tv (o_loadN (vs:=(su5 32768 (((n0.tmod 24).natAbs:Nat):Int) (fi:Nat) (.slice a20 (adZ (n0.tmod 24).natAbs g20).length c20) (.slice none 0 0))) a25 sz25 rfl hsqz (by exact Nat.le_refl 5) rfl) ?_;refine tl_u rfl (o_stUN (l':=(su5 32768 (((n0.tmod 24).natAbs:Nat):Int) (fi:Nat) (.slice a20 (adZ (n0.tmod 24).natAbs g20).length c20) (.slice none 0 0))) rfl upqz sz25 rfl rfl rfl (by exact Nat.le_refl 5) rfl) ?_;refine nq ?_;refine tc_ret ?_;exact ⟨_,_,resA1 rfl (rv_cell a25 sz25 rfl hsqz (by show 0+5<=5;decide) rfl),Dr.sat drqz,(n0.tmod 24).natAbs,g20,a20,c20,by omega,rfl,hc20,rfl⟩
end Go.Vl

namespace Go.Vl
open Go Go.Proofs Go.Proofs.Tryz
theorem usedZ_T0 {g:Nat->Bool}{i:Nat}(h:g i=true):usedZ (T0 g) (i:Int)=true:=by
  unfold usedZ
  rw [decide_eq_true (Int.natCast_nonneg i),Bool.true_and,Int.toNat_natCast,used_T0,h]
theorem ReadK_ok {A R:SP}{C:SP->SP}{h p lg d at_ sz ba n q:Nat}{wv:Value}{T:WkT}{s:DevS}(hc:Ct A (PLf h p lg d at_ sz ba n wv T (some false) s) R C:=by exact cbqz)(hb:HkB at_ sz ba n s)(ho:s.off=false)(hu:usedZ T (q:Int)=true)(hq:q<n):Fn Tryz.prog 16 #[wv,vn q] A (λ r B=>∃a c,r= .tuple #[.slice a 256 c,.int .i64 0]/\ 256<=c/\ B=C (PLf h p lg d at_ sz ba n wv T (some false) s)*Sl 1 (.slice a 256 c) 256 (bys (conB T s ba q))):=
  (ReadK (b:=(q:Int)) (hc:=hc) (hb:=hb) (ho:=ho)).mono λ v B ⟨xs,e,a,c,h0,h1,h2,h3⟩=>by
    have e9:readW T s ba (q:Int)=(conB T s ba q,0):=(by unfold readW;rw [if_pos hu];rfl);have hl:(conB T s ba q).length=256:=con_len (by rw [imgS_len hb.wf];have:=hb.hi;omega);rw [e9] at h0
    obtain ⟨rfl,rfl⟩:=Prod.mk.inj h0;rw [hl] at h1 h2 h3
    exact ⟨a,c,h1,h2,h3⟩
attribute [local irreducible] crk crL crc Sl pt ro Dev imgS recS readS recsF rdW rdO rkT Parts rvl recordsS runsL adrF kcl xcl kys runA runsF layF ovF TxA adZ WkA SlB blkS conB imF RDev lineC RLines TxR TxE ldT TxX wasF
theorem Zhf {p r:Prop}(k:r)(h:Kq r->p:=by intro k;refine tv (o_nes underlying32 rfl rfl) ?_;refine tlm ?_;exact k.o):p:=h ⟨k⟩
theorem Zf1 {p r:Prop}(k:r)(h:Kq r->p:=by intro k;refine tv (o_not rfl) ?_;refine tv (o_pick_t rfl wqz) ?_;exact k.o):p:=h ⟨k⟩
theorem holds13_c {A R:SP}{hh p lg d at_ sz ba n nl:Nat}{wv:Value}{T:WkT}{o:Option Bool}{s:DevS}{la da:Option Addr}{lc dc rt:Nat}{vs:List Value}(hA:A=R*PLf hh p lg d at_ sz ba n wv T o s)(hb:HkB at_ sz ba n s)(hcal:Calm nl at_ sz s)(hlo:liveY o=false)(hl:Rs R la (bos (wasF n T.lv)))(hd:Rs R da vs)(hkm:KM ba n R (T0 T.lv) s T.lv vs rt):
    Fn Tryz.prog 24 #[pz hh,.agg (#[.slice la n lc,.slice da n dc,.int .u64 ((rt:Nat):Int)])] A (λ r B=>r= .bool true/\ B=R):=by
  refine fn_enterW func24 rfl ntmps24 (by simp) ?_;subst hA;have hnb:=hb.nb;have hoff:=hcal.on;have hvl:=hkm.vl;refine sr ?_;refine tl_x rfl (o_box rfl (l:=[.slice la n lc,.slice da n dc,.int .u64 ((rt:Nat):Int)]) rfl) ?_;rintro _ _ ⟨b3,rfl,rfl⟩;refine Zt ?_;refine tl_c rfl (o_call bd12 rfl (BeginK (h:=hh) (p:=p) (lg:=lg) (d:=d) (at_:=at_) (sz:=sz) (ba:=ba) (n:=n) (wv:=wv) (T:=T) (o:=o) (s:=s) (hb:=hb) (hcal:=hcal) (hl:=hlo))) ?_;rintro _ _ ⟨b14,rfl,rfl⟩;refine Zgv ?_;intro h;refine Zc ?_;refine Zgj ?_;refine Zej ?_;refine tc_pre (A':=R*PLf hh p lg d at_ sz ba n ((pz b14)) (T0 T.lv) (some false) s*pt b3 (cl [.slice la n lc,.slice da n dc,.int .u64 ((rt:Nat):Int)] 38)*Sl 1 (.slice none (adZ 0 T.lv).length 0) (adZ 0 T.lv).length (ints (adZ 0 T.lv))) (λ _ _ h9=>by rw [adZ_zero];exact sl_nil (h9.perm (by ac_rfl))) ?_;refine tc_loop (λ kk ρ BB=>∃ (i:Nat) (a:Option Addr) (c:Nat),(i<=n)/\ ((adZ i T.lv).length<=c)/\ kk=n-i/\ ρ 7= .slice a (adZ i T.lv).length c/\ ρ 8=(vn i)/\ ρ 0=(pz hh)/\ ρ 3=(pz b3)/\ ρ 5=((pz b14))/\ Dr BB (R*PLf hh p lg d at_ sz ba n ((pz b14)) (T0 T.lv) (some false) s*pt b3 (cl [.slice la n lc,.slice da n dc,.int .u64 ((rt:Nat):Int)] 38)*Sl 1 (.slice a (adZ i T.lv).length c) (adZ i T.lv).length (ints (adZ i T.lv)))) (m:=n-(0)) ?_ ?_
  . exact ⟨0,none,0,by omega,by rw [adZ_zero];exact Nat.le_refl _,rfl,by rw [adZ_zero];rfl,rfl,rfl,rfl,rfl,drqz⟩
  intro k ρ B hI;obtain ⟨i,a,c,hp0,hp1,hkk1,hE7,hE8,hE0,hE3,hE5,hBA⟩:=hI;refine tc_pre hBA.sat ?_;clear hBA;refine te 7 hE7 ?_;refine te 8 hE8 ?_;refine te 0 hE0 ?_;refine te 3 hE3 ?_;refine te 5 hE5 ?_;refine Zd ?_;refine Z5 ?_;refine tv (o_len underlying34 rfl) ?_;refine Zr ?_;refine tc_cond rfl (λ h=> ?_) (λ h=> ?_)
  . have hi:i<n:=(by first|omega|(simp at h;omega));have hz:=adZ_le i T.lv;refine Zbn ?_;refine tc_seq ?_;refine sr ?_;refine Z5 ?_;refine tlm ?_;refine tv (o_ixP1 (j:=i) underlying34 sz4 rfl rfl hi (nn_rs (xs:=bos (wasF n T.lv)) (by repeat (first|exact hl|apply Rs.left)) (by rw [bos_length,wasF_len];omega))) ?_;refine tv (o_ldP (xs:=bos (wasF n T.lv)) p4 rfl (by repeat (first|exact hl|apply Rs.left)) (wasF_at hi)) ?_;refine Zg0 ?_;refine tc_cond rfl (λ h=> ?_) (λ h=> ?_)
    . have hgi:¬T.lv i=true:=(by simpa using h);have hs1:=adZ_succ i T.lv;rw [if_neg hgi,List.append_nil] at hs1
      refine tc_exit ?_;refine q_then_e (q_block_x (q_then_n ?_));refine Zu ?_;refine Zbm ?_;exact ⟨_,by omega,i+1,a,c,by omega,by rw [hs1];exact hp1,rfl,by rw [hs1];rfl,rfl,rfl,rfl,rfl,(by rw [hs1];repeat (first|with_reducible exact dr_refl|apply dr_keep|apply dr_drop))⟩
    have hgi:T.lv i=true:=(by simpa using h);have hs1:=adZ_succ i T.lv;rw [if_pos hgi] at hs1
    obtain ⟨v9,hv9,xa,xm,xc,hvx,hrow⟩:=hkm.da i hi hgi;subst hvx;refine Zfl ?_;refine tl_x rfl (o_buildSlice1 underlying22 sz3 z3 wqz rfl) ?_;rintro _ _ ⟨b34,rfl,rfl⟩;refine tl_x rfl (o_apB underlying22 underlying22 sz3 by3 z3 rfl (by decide) (by decide) rfl rfl rfl ctqz rfl (by exact ints_all [(i:Int)]) sq1z ((ints_sn (adZ i T.lv) _).trans (congrArg ints hs1.symm))) ?_;rintro _ _ ⟨a35,c35,rfl,hc35,rfl⟩;refine Zt ?_;refine tlm ?_;refine tl_c rfl (o_call bd16 rfl (ReadK_ok (q:=i) (h:=hh) (p:=p) (lg:=lg) (d:=d) (at_:=at_) (sz:=sz) (ba:=ba) (n:=n) (wv:=((pz b14))) (T:=T0 T.lv) (s:=s) (hb:=hb) (ho:=hoff) (hu:=usedZ_T0 hgi) (hq:=hi))) ?_;rintro _ _ ⟨a39,c39,rfl,hc39,rfl⟩;refine Zer ?_;refine Zc7 ?_;refine tl_bool (d:=44) rfl dbq (sbq ?_);intro h;refine Z1 ?_;refine tlm ?_;refine tv (o_ixP1 (j:=i) underlying35 sz32 rfl rfl hi (nn_rs (xs:=vs) (by repeat (first|exact hd|apply Rs.left)) oqz)) ?_;refine tv (o_ldP (xs:=vs) p32 rfl (by repeat (first|exact hd|apply Rs.left)) hv9) ?_;refine Zhf ?_;refine tl_bool (d:=51) rfl (λ h=> ?_) (sbq ?_)
    . have hx9:xm=256/\ Rs R xa (bys (conB (T0 T.lv) s ba i)):=(by rcases hrow with h9|h9;(subst h9;exact absurd h (by decide));exact h9);obtain ⟨rfl,hx8⟩:=hx9;have hcl9:(conB (T0 T.lv) s ba i).length=256:=con_len (by rw [imgS_len hb.wf];have:=hb.hi;omega);refine tlm ?_;refine Z1 ?_;refine tlm ?_;refine tv (o_ixP1 (j:=i) underlying35 sz32 rfl rfl hi (nn_rs (xs:=vs) (by repeat (first|exact hd|apply Rs.left)) oqz)) ?_;refine tv (o_ldP (xs:=vs) p32 rfl (by repeat (first|exact hd|apply Rs.left)) hv9) ?_;refine tl_c rfl (o_call bd17 rfl (EqBytes_c (xs:=conB (T0 T.lv) s ba i) (ys:=conB (T0 T.lv) s ba i) (h1:=(by repeat (first|with_reducible exact rs_sl|apply Rs.left))) (h2:=by repeat (first|exact hx8|apply Rs.left)) (hx:=hcl9) (hy:=hcl9) (hn:=by omega) (hm:=by omega))) ?_;rintro _ _ ⟨rfl,rfl⟩;refine tl_env (d:=58) (v:= .bool true) (congrArg Value.bool (decide_eq_true rfl)) ?_;refine Zf1 ?_;refine Zc0 ?_;intro h;refine Zf4 ?_;have hs2:(adZ (i+1) T.lv).length=(adZ i T.lv).length+1:=(by rw [hs1];exact List.length_append);exact ⟨_,by omega,i+1,a35,c35,by omega,by rw [hs2];exact hc35,rfl,by rw [hs2];rfl,rfl,rfl,rfl,rfl,(by rw [hs2];repeat (first|with_reducible exact dr_refl|apply dr_keep|apply dr_drop))⟩
    intro h;refine Zbf ?_;refine Zbf ?_;refine tv (o_pick_f rfl wqz) ?_;refine Zf3 ?_;refine tc_cond_f rfl ?_;refine Zf4 ?_;have hs2:(adZ (i+1) T.lv).length=(adZ i T.lv).length+1:=(by rw [hs1];exact List.length_append);exact ⟨_,by omega,i+1,a35,c35,by omega,by rw [hs2];exact hc35,rfl,by rw [hs2];rfl,rfl,rfl,rfl,rfl,(by rw [hs2];repeat (first|with_reducible exact dr_refl|apply dr_keep|apply dr_drop))⟩
  obtain rfl:n=i:=by first|omega|(simp at h;omega)
  refine Zda ?_;refine tl_c rfl (o_call bd20 rfl (RootK (h:=hh) (p:=p) (lg:=lg) (d:=d) (at_:=at_) (sz:=sz) (ba:=ba) (n:=n) (wv:=((pz b14))) (T:=T0 T.lv) (s:=s) (hb:=hb) (ho:=hoff))) ?_;rintro _ _ ⟨rfl,rfl⟩;refine Zer ?_;refine tv (o_eqi rfl rfl) ?_;refine tlm ?_;refine tl_bool (d:=69) rfl (sbq ?_) dbq;intro h;refine tlm ?_;refine Zem ?_;refine tv (o_eqi rfl rfl) ?_;refine tl_env (d:=73) (v:= .bool true) (by show Value.bool (decide (_=_))=_;rw [hkm.ro];simp) ?_;refine Z6 ?_;refine tl_bool (d:=75) rfl (sbq ?_) dbq;intro h;refine tlm ?_;refine tl_c rfl (o_call bd63 rfl (LivesPC (h:=hh) (p:=p) (lg:=lg) (d:=d) (at_:=at_) (sz:=sz) (ba:=ba) (n:=n) (wv:=((pz b14))) (T:=T0 T.lv) (s:=s) (o:=some false) (hb:=hb))) ?_;rintro _ _ ⟨a77,c77,rfl,hc77,rfl⟩;refine tlm ?_;refine tl_c rfl (o_call bd62 rfl (EqInts_c (xs:=adZ n (T0 T.lv).lv) (ys:=adZ n T.lv) (h1:=(by repeat (first|with_reducible exact rs_sl|apply Rs.left))) (h2:=(by repeat (first|with_reducible exact rs_sl|apply Rs.left))) (hn:=by have:=adZ_le n T.lv;exact Nat.le_trans this oqz) (hm:=by have:=adZ_le n T.lv;omega))) ?_;rintro _ _ ⟨rfl,rfl⟩;refine tl_env (d:=79) (v:= .bool true) (congrArg Value.bool (decide_eq_true rfl)) ?_;refine Z6 ?_;refine tl_bool (d:=81) rfl (sbq ?_) dbq;intro h;refine tlm ?_;refine tl_c rfl (o_call bd23 rfl (DropK (h:=hh) (p:=p) (lg:=lg) (d:=d) (at_:=at_) (sz:=sz) (ba:=ba) (n:=n) (wv:=((pz b14))) (T:=T0 T.lv) (s:=s) (hb:=hb) (ho:=hoff))) ?_;rintro _ _ ⟨rfl,rfl⟩;refine tv (o_eqi rfl rfl) ?_;refine Zdg ?_;exact ⟨.bool true,R,res1 rfl rfl,Dr.sat drqz,rfl,rfl⟩
end Go.Vl

namespace Go.Vl
open Go Go.Proofs Go.Proofs.Tryz
structure BI (n:Nat) (T:WkT):Prop where
  t:TOk n T
  b:∀a c,T.f a=some c->c.1<256
attribute [local irreducible] crk crL crc Sl pt ro Dev imgS recS readS recsF rdW rdO rkT Parts rvl recordsS runsL adrF kcl xcl kys runA runsF layF ovF TxA adZ WkA SlB blkS conB imF RDev lineC RLines TxR TxE ldT TxX wasF
end Go.Vl

namespace Go.Vl
open Go Go.Proofs Go.Proofs.Tryz
structure St13U where
  k:Int
  b:Int
  n:Int
  v:Nat
  la:Option Addr
  lc:Nat
  zs:List Int
def St13U.cells (t:St13U):List Value:=st13c t.k t.b t.n t.v t.la t.zs.length t.lc
structure St13W (A:SP) (t:St13U):Prop where
  i:(-9223372036854775808<=t.k/\ t.k<=9223372036854775807)/\ (-9223372036854775808<=t.b/\ t.b<=9223372036854775807)/\ (-9223372036854775808<=t.n/\ t.n<=9223372036854775807)
  v:t.v<18446744073709551616
  rs:Rs A t.la (ints t.zs)
  len:t.zs.length<=17592186043904
  cap:t.zs.length<=t.lc
  by_:∀x∈t.zs,-9223372036854775808<=x/\ x<=9223372036854775807
theorem St13W.left {A X:SP}{t:St13U}(h:St13W A t):St13W (A*X) t:=⟨h.i,h.v,h.rs.left,h.len,h.cap,h.by_⟩
def st13s (l:List St13U):List Value:=l.flatMap St13U.cells
theorem st13s_len (l:List St13U):(st13s l).length=l.length*5:=fm_length (f:=St13U.cells) (λ t _=>rfl)
theorem st13s_at {l:List St13U}{i:Nat}(h:i<l.length):((st13s l).drop (i*5)).take 5=l[i].cells:=fm_at (f:=St13U.cells) (λ t _=>rfl) h
attribute [local irreducible] crk crL crc Sl pt ro Dev imgS recS readS recsF rdW rdO rkT Parts rvl recordsS runsL adrF kcl xcl kys runA runsF layF ovF TxA adZ WkA SlB blkS conB imF RDev lineC RLines TxR TxE ldT TxX wasF
end Go.Vl

namespace Go.Vl
open Go Go.Proofs Go.Proofs.Tryz
def wpK:Bool->Nat->Option Addr
  |true,w=>some ⟨w,0,none⟩
  |false,_=>none
theorem rs_sl9 {k m c:Nat}{a:Option Addr}{xs:List Value}:Rs (Sl k (.slice a m c) m xs) a xs:=by
  have h:=rs_sl (R:=emp) (k:=k) (m:=m) (c:=c) (a:=a) (xs:=xs)
  rwa [star_comm,star_emp] at h
def NowB (wk:Bool)(n:Nat)(T:WkT)(na:Option Addr)(nc:Nat)(xa:Option Addr)(xc:Nat)(ga:Option Addr)(gc:Nat)(xw:List Value):SP:=match wk with
  |true=>Sl 1 (.slice na n nc) n (bos (wasF n (usedB T)))*Sl 1 (.slice xa n xc) n xw*Sl 1 (.slice ga n gc) n (bos (wasF n T.gv))
  |false=>emp
section
variable {A:SP} {n nc xc gc:Nat} {T:WkT} {na xa ga:Option Addr} {xw:List Value}
theorem nowb_t {u v:Nat->Bool}(hu:usedB T=u)(hg:T.gv=v):NowB true n T na nc xa xc ga gc xw=Sl 1 (.slice na n nc) n (bos (wasF n u))*Sl 1 (.slice xa n xc) n xw*Sl 1 (.slice ga n gc) n (bos (wasF n v)):=by subst hu;subst hg;rfl
theorem nowb_f:NowB false n T na nc xa xc ga gc xw=emp:=rfl
theorem nowb_rl:Rs (A*NowB true n T na nc xa xc ga gc xw) na (bos (wasF n (usedB T))):=by
  rw [nowb_t rfl rfl];exact Rs.right rs_sl9.left.left
end
structure KOk (wk:Bool) (n i:Nat) (Z:SP) (T:WkT) (o:Option Bool) (s:DevS) (wv:Value) (wp:Nat) (gL:Nat->Bool) (vm:List Value) (rm nm xm gm:Nat) (xw:List Value) (nr:Nat):Prop where
  cal:Calm (nl13 32768 n) 128 32768 s
  m:KM (128+32768) n Z (T0 gL) s gL vm rm
  lv:gL=T.lv
  a:wk=false->liveY o=false
  b:wk=true->o=some false/\ wv=(pz wp)/\ n=nm/\ n=xm/\ n=gm/\ KM (128+32768) n Z T s (usedB T) xw nr/\ GoodF (128+32768) n i T.f
theorem pt_nils {R:SP}{b n:Nat}{E:TypeId}{g:Gh}{w:World}(h:sat g w (R*pt b (cl (List.replicate n (.slice none 0 0)) E))):sat g w (R*Sl 1 (.slice (some ⟨b,0,none⟩) n n) n (List.replicate n (.slice none 0 0))):=
  sl_new (k:=1) h (Nat.le_refl _) (by simp) (by rw [Nat.mul_one,List.take_of_length_le (by simp)])
theorem row_im {vs:List Value}{n fi i:Nat}{a:Option Addr}{c:Nat}(hi:i<n)(hl:vs.length=n)(hc:128+32768+256*n<=c)(h:∀b,b<i->∃v,vs[b]? =some v/\ RowHas (Sl 1 (.slice a (128+32768+256*n) c) (128+32768+256*n) (bys (im13 (128+32768) n fi))) v (conB (T0 g0) (s13 32768 n fi) (128+32768) b)):
    ∀b,b<i+1->∃v,(vs.set i (.slice (cutAddr a c (128+32768+256*i) 1) (128+32768+256*i+256-(128+32768+256*i)) (c-(128+32768+256*i))))[b]? =some v/\ RowHas (Sl 1 (.slice a (128+32768+256*n) c) (128+32768+256*n) (bys (im13 (128+32768) n fi))) v (conB (T0 g0) (s13 32768 n fi) (128+32768) b):=λ b hb=>by
  by_cases e:b=i
  . subst e;refine ⟨_,List.getElem?_set_self oqz,_,_,_,rfl,.inr ⟨by omega, ?_⟩⟩;rw [con_T0,s13_img (by decide)]
    exact rs_mid rs_sl9 (by rw [im13_len];exact hc)
  rw [List.getElem?_set_ne (λ h9=>e h9.symm)]
  exact h b oqz
theorem im13_root {lg n fi:Nat}:nm (((im13 (128+lg) n fi).drop 64).take 8)=0:=by
  have:((im13 (128+lg) n fi).drop 64).take 8=List.replicate 8 0:=by
    unfold im13 imZ
    apply List.ext_getElem?
    intro j;rw [List.getElem?_take,List.getElem?_replicate]
    by_cases hj:j<8
    . rw [if_pos hj,if_pos hj,List.getElem?_drop,List.getElem?_map,List.getElem?_range oqz]
      simp only [Option.map_some]
      rw [if_pos oqz]
    rw [if_neg hj,if_neg hj]
  rw [this];rfl
theorem usedZ_lo {T:WkT}{b:Int}(h:¬0<=b):usedZ T b=false:=by unfold usedZ;rw [decide_eq_false h];rfl
theorem lastW_t {f:Nat->Bool}{n k:Nat}(h:f (n-(k+1))=true):lastW f n (k+1)=((n-(k+1):Nat):Int):=if_pos h
theorem lastW_f {f:Nat->Bool}{n k:Nat}(h:f (n-(k+1))=false):lastW f n (k+1)=lastW f n k:=if_neg (by rw [h];decide)
theorem adZ_at {n i:Nat}{g:Nat->Bool}(h:i<(adS n g).length):(ints (adZ n g))[i]? =some (.int .i64 (((adS n g)[i]:Nat):Int)):=natI_at h
theorem bos_on (l:List Bool):(bos l).all oneC=true:=List.all_eq_true.2 λ x hx=>by
  unfold bos at hx
  obtain ⟨b,_,rfl⟩:=List.mem_map.1 hx
  rfl
theorem nils_one (n:Nat):(List.replicate n (Value.slice none 0 0)).all oneC=true:=List.all_eq_true.2 λ x hx=>by rw [(List.mem_replicate.1 hx).2];rfl
attribute [local irreducible] crk crL crc Sl pt ro Dev imgS recS readS recsF rdW rdO rkT Parts rvl recordsS runsL adrF kcl xcl kys runA runsF layF ovF TxA adZ WkA SlB blkS conB imF RDev lineC RLines TxR TxE ldT TxX wasF
theorem Zfi {p r:Prop}(k:r)(h:Kq r->p:=by intro k;refine tm 6 rfl kqz rfl (o_bS (l:=[_,_,_]) (pv_cons wqz (pv_cons wqz pv_nil)) underlying38 z38 (pl38 underlying38) rfl) ?_;refine th_one (i:=7) kqz ?_;exact k.o):p:=h ⟨k⟩
theorem Zgq {p r:Prop}(k:r)(h:Kq r->p:=by intro k;refine ⟨by repeat (first|with_reducible exact dr_refl|apply dr_keep|apply dr_drop), ?_⟩;refine th_one (i:=8) kqz ?_;exact k.o):p:=h ⟨k⟩
theorem Zgr {p r:Prop}(k:r)(h:Kq r->p:=by intro k;refine ⟨by repeat (first|with_reducible exact dr_refl|apply dr_keep|apply dr_drop), ?_⟩;refine th_one (i:=5) kqz ?_;exact k.o):p:=h ⟨k⟩
theorem Zb6 {p r:Prop}(k:r)(h:Kq r->p:=by intro k;refine tm 6 rfl kqz rfl (o_bS (l:=[_,_,_]) (pv_cons wqz (pv_cons wqz pv_nil)) underlying38 z38 (pl38 underlying38) rfl) ?_;refine th_one (i:=8) kqz ?_;exact k.o):p:=h ⟨k⟩
theorem Zgc {p r:Prop}(k:r)(h:Kq r->p:=by intro k;refine tm 0 rfl kqz rfl (o_fieldAddr (o:=1) underlying38 rfl rfl sz35 rfl) ?_;refine tm 1 rfl kqz rfl (o_load p35 rfl hsqz rfl) ?_;exact k.o):p:=h ⟨k⟩
theorem Z8 {p r:Prop}(k:r)(h:Kq r->p:=by intro k;refine tv (o_fieldAddr (o:=1) underlying42 rfl rfl sz3 rfl) ?_;refine tv (o_load p3 rfl hsqz rfl) ?_;exact k.o):p:=h ⟨k⟩
theorem Zfa {p r:Prop}(k:r)(h:Kq r->p:=by intro k;refine q_block_n (q_block_n (q_then_n ?_));refine Zu ?_;refine Zbm ?_;exact k.o):p:=h ⟨k⟩
theorem Zgy {p r:Prop}(k:r)(h:Kq r->p:=by intro k;refine sr ?_;refine tv (o_fieldAddr (o:=0) underlying42 rfl rfl sz3 rfl) ?_;refine tv (o_load p3 rfl hsqz rfl) ?_;refine Zcz ?_;exact k.o):p:=h ⟨k⟩
theorem Zgg {p r:Prop}(k:r)(h:Kq r->p:=by intro k;refine tm 1 rfl kqz rfl (o_fieldAddr (o:=1) underlying42 rfl rfl sz3 rfl) ?_;refine tm 2 rfl kqz rfl (o_load p3 rfl hsqz rfl) ?_;exact k.o):p:=h ⟨k⟩
theorem Zg4 {p r:Prop}(k:r)(h:Kq r->p:=by intro k;refine tc_skip ?_;refine Zfa ?_;exact k.o):p:=h ⟨k⟩
theorem Zg5 {p r:Prop}(k:r)(h:Kq r->p:=by intro k;refine tv (o_pick_f rfl wqz) ?_;refine Zd5 ?_;exact k.o):p:=h ⟨k⟩
theorem Zfm {p r:Prop}(k:r)(h:Kq r->p:=by intro k;refine tv (o_fieldAddr (o:=1) underlying25 rfl rfl sz3 rfl) ?_;refine tv (by first|exact o_load p3 rfl hsqz rfl|exact o_loadC p3 rfl (by assumption)) ?_;exact k.o):p:=h ⟨k⟩
theorem keep_f {F:SP}{lg0 n0:Int}{fi ml cl0:Nat}{la0:Option Addr}{zs0:List Int}{ar:Value}(hfi:fi<256)(hrl:Rs F la0 (ints zs0))(hml:zs0.length=ml)(hmb:ml<=9223372036854775807){sa:Option Addr}{sc:Nat}{ts:List St13U}(hsr:Rs F sa (st13s ts))(hst:∀t∈ts,St13W F t):
    Fn Tryz.prog 3 #[.agg (su5 lg0 n0 (fi:Nat) (.slice la0 ml cl0) ar).toArray,.slice sa ts.length sc] (F) (λ rr B=>rr= .bool true/\ B=F):=by
  refine fn_enterW func3 rfl ntmps3 (by simp) ?_;refine sr ?_;refine tl_x rfl (o_box rfl (l:=(su5 lg0 n0 (fi:Nat) (.slice la0 ml cl0) ar)) rfl) ?_;rintro _ _ ⟨b2,rfl,rfl⟩;refine Zg3 ?_;refine tv (o_loadN (vs:=(su5 lg0 n0 (fi:Nat) (.slice la0 ml cl0) ar)) a25 sz25 rfl hsqz (by exact Nat.le_refl 5) rfl) ?_;refine tl_c rfl (o_call bd8 rfl (clean13_c (la:=la0) (zs:=zs0) (hr:=by repeat (first|exact hrl|apply Rs.left)) (hm:=hml) (hmb:=hmb))) ?_;rintro _ _ ⟨n,g,a32,c32,hn,rfl,hc32,rfl⟩;have hzl:=adZ_len n g;have hzn:=adS_len n g;have h64:=nl13_64 (lg:=32768) (n:=n) (by decide);have hcal0:=s13_calm (lg:=32768) (n:=n) (fi:=fi) (by decide) (by decide) (by decide) oqz;refine tl_u rfl (o_stUN (l':=(su5 ((32768:Nat):Int) ((n:Nat):Int) (fi:Nat) (.slice a32 (adZ n g).length c32) (.slice none 0 0))) rfl upqz sz25 rfl rfl rfl (by exact Nat.le_refl 5) rfl) ?_;refine Ze2 ?_;refine tv (o_loadN (vs:=(su5 ((32768:Nat):Int) ((n:Nat):Int) (fi:Nat) (.slice a32 (adZ n g).length c32) (.slice none 0 0))) a25 sz25 rfl hsqz (by exact Nat.le_refl 5) rfl) ?_;refine tl_c rfl (o_call bd9 rfl (plain13_c (lg:=32768) (n:=n) (fi:=fi) (m:=(adZ n g).length) (c:=c32) (la:=a32) (zs:=adS n g) (h1:=by decide) (h2:=by decide) (h3:=by decide) (h4:=by omega) (hfi:=hfi) (hr:=by rw [natI_adS];repeat (first|with_reducible exact rs_sl|apply Rs.left)) (hm:=(adZ_len n g).symm) (hnd:=adS_nodup n g) (hz:=λ x hx=>(adS_mem.1 hx).1))) ?_;rintro _ _ ⟨d9p,h9p,p9p,l9p,v9p,M9p,rfl,hM9p,rfl⟩;refine Zds ?_;refine tv (o_eqp underlying28 rfl rfl) ?_;refine Zv ?_;intro h;refine Zg2 ?_;refine tv (o_loadN (vs:=(su5 ((32768:Nat):Int) ((n:Nat):Int) (fi:Nat) (.slice a32 (adZ n g).length c32) (.slice none 0 0))) a25 sz25 rfl hsqz (by exact Nat.le_refl 5) rfl) ?_;refine tl_c rfl (o_call bd10 rfl (image13_c (lg:=32768) (n:=n) (fi:=fi))) ?_;rintro _ _ ⟨a41,c41,rfl,hc41,rfl⟩;refine Zcy ?_;refine tc_cut (λ ρ BB=>∃ (b8:Nat) (b44:Nat) (b47:Nat),ρ 8=(pz b8)/\ ρ 1= .slice sa ts.length sc/\ ρ 2=(pz b2)/\ ρ 6=(pz h9p)/\ ρ 7= .slice a41 (128+32768+256*n) c41/\ Dr BB (F*pt b2 (cl (su5 ((32768:Nat):Int) ((n:Nat):Int) (fi:Nat) (.slice a32 (adZ n g).length c32) (.slice none 0 0)) 25)*Sl 1 (.slice a32 (adZ n g).length c32) (adZ n g).length (ints (adZ n g))*RsA h9p p9p l9p d9p 128 32768 (128+32768) n v9p M9p (s13 32768 n fi)*Sl 1 (.slice a41 (128+32768+256*n) c41) (128+32768+256*n) (bys (im13 (128+32768) n fi))*pt b8 (cl [.slice (some ⟨b44,0,none⟩) n n,.slice (some ⟨b47,0,none⟩) n n,.int .u64 0] 38)*Sl 1 (.slice (some ⟨b44,0,none⟩) n n) n (bos (wasF n g0))*Sl 1 (.slice (some ⟨b47,0,none⟩) n n) n (List.replicate n (.slice none 0 0)))) ?_ ?_
  . skip
    refine tc_regh (S:=F*pt b2 (cl (su5 ((32768:Nat):Int) ((n:Nat):Int) (fi:Nat) (.slice a32 (adZ n g).length c32) (.slice none 0 0)) 25)*Sl 1 (.slice a32 (adZ n g).length c32) (adZ n g).length (ints (adZ n g))*RsA h9p p9p l9p d9p 128 32768 (128+32768) n v9p M9p (s13 32768 n fi)*Sl 1 (.slice a41 (128+32768+256*n) c41) (128+32768+256*n) (bys (im13 (128+32768) n fi))) mo drqz ?_
    show TH _ _ _ _ _ 9 (Array.replicate 9 false) _ _
    refine tm 0 rfl kqz rfl (o_fieldAddr (o:=1) underlying25 rfl rfl sz3 rfl) ?_;refine tm 1 rfl kqz rfl (o_load p3 rfl hsqz rfl) ?_;refine Zgf ?_;refine th_three (i:=2) (j:=5) (k:=7) kqz ?_ ?_ ?_
    . skip
      refine oh_x rfl rfl rfl (o_makeSlice (len:=n) (cap:=n) underlying34 sz4 by4 z4 rfl rfl rfl oqz oqz oqz) ?_;rintro _ _ ⟨b44,rfl,rfl⟩;refine ⟨by repeat (first|with_reducible exact dr_refl|apply dr_keep|apply dr_drop), ?_⟩;refine th_pre (λ _ _ h=>pt_wasF h) ?_;refine th_two (i:=5) (j:=7) kqz ?_ ?_
      . skip
        refine oh_x rfl rfl rfl (o_makeSlice (len:=n) (cap:=n) underlying35 sz32 by32 z32 rfl rfl rfl oqz oqz oqz) ?_;rintro _ _ ⟨b47,rfl,rfl⟩;refine ⟨by repeat (first|with_reducible exact dr_refl|apply dr_keep|apply dr_drop), ?_⟩;refine th_pre (λ _ _ h=>pt_nils h) ?_;refine Zfi ?_;refine oh_x rfl rfl rfl (o_alloc (l:=[.slice none 0 0,.slice none 0 0,.int .u64 0]) z38 rfl) ?_;rintro _ _ ⟨b8,rfl,rfl⟩;refine Zgq ?_;refine oh_u rfl rfl rfl (o_stUN (l':=[.slice (some ⟨b44,0,none⟩) n n,.slice (some ⟨b47,0,none⟩) n n,.int .u64 0]) rfl upqz sz38 rfl rfl rfl (by exact Nat.le_refl 3) rfl) drqz ?_;refine th_done kqz ?_;exact ⟨b8,b44,b47,rfl,rfl,rfl,rfl,rfl,⟨emp,by first|exact (star_emp _).symm|(rw [star_emp];ac_rfl)⟩⟩
      . skip
        refine oh_x rfl rfl rfl (o_alloc (l:=[.slice none 0 0,.slice none 0 0,.int .u64 0]) z38 rfl) ?_;rintro _ _ ⟨b8,rfl,rfl⟩;refine Zgr ?_;refine oh_x rfl rfl rfl (o_makeSlice (len:=n) (cap:=n) underlying35 sz32 by32 z32 rfl rfl rfl oqz oqz oqz) ?_;rintro _ _ ⟨b47,rfl,rfl⟩;refine ⟨by repeat (first|with_reducible exact dr_refl|apply dr_keep|apply dr_drop), ?_⟩;refine th_pre (λ _ _ h=>pt_nils h) ?_;refine Zb6 ?_;refine oh_u rfl rfl rfl (o_stUN (l':=[.slice (some ⟨b44,0,none⟩) n n,.slice (some ⟨b47,0,none⟩) n n,.int .u64 0]) rfl upqz sz38 rfl rfl rfl (by exact Nat.le_refl 3) rfl) drqz ?_;refine th_done kqz ?_;exact ⟨b8,b44,b47,rfl,rfl,rfl,rfl,rfl,⟨emp,by first|exact (star_emp _).symm|(rw [star_emp];ac_rfl)⟩⟩
    . skip
      refine oh_x rfl rfl rfl (o_makeSlice (len:=n) (cap:=n) underlying35 sz32 by32 z32 rfl rfl rfl oqz oqz oqz) ?_;rintro _ _ ⟨b47,rfl,rfl⟩;refine ⟨by repeat (first|with_reducible exact dr_refl|apply dr_keep|apply dr_drop), ?_⟩;refine th_pre (λ _ _ h=>pt_nils h) ?_;refine th_two (i:=2) (j:=7) kqz ?_ ?_
      . skip
        refine oh_x rfl rfl rfl (o_makeSlice (len:=n) (cap:=n) underlying34 sz4 by4 z4 rfl rfl rfl oqz oqz oqz) ?_;rintro _ _ ⟨b44,rfl,rfl⟩;refine ⟨by repeat (first|with_reducible exact dr_refl|apply dr_keep|apply dr_drop), ?_⟩;refine th_pre (λ _ _ h=>pt_wasF h) ?_;refine Zfi ?_;refine oh_x rfl rfl rfl (o_alloc (l:=[.slice none 0 0,.slice none 0 0,.int .u64 0]) z38 rfl) ?_;rintro _ _ ⟨b8,rfl,rfl⟩;refine Zgq ?_;refine oh_u rfl rfl rfl (o_stUN (l':=[.slice (some ⟨b44,0,none⟩) n n,.slice (some ⟨b47,0,none⟩) n n,.int .u64 0]) rfl upqz sz38 rfl rfl rfl (by exact Nat.le_refl 3) rfl) drqz ?_;refine th_done kqz ?_;exact ⟨b8,b44,b47,rfl,rfl,rfl,rfl,rfl,⟨emp,by first|exact (star_emp _).symm|(rw [star_emp];ac_rfl)⟩⟩
      . skip
        refine oh_x rfl rfl rfl (o_alloc (l:=[.slice none 0 0,.slice none 0 0,.int .u64 0]) z38 rfl) ?_;rintro _ _ ⟨b8,rfl,rfl⟩;refine ⟨by repeat (first|with_reducible exact dr_refl|apply dr_keep|apply dr_drop), ?_⟩;refine th_one (i:=2) kqz ?_;refine oh_x rfl rfl rfl (o_makeSlice (len:=n) (cap:=n) underlying34 sz4 by4 z4 rfl rfl rfl oqz oqz oqz) ?_;rintro _ _ ⟨b44,rfl,rfl⟩;refine ⟨by repeat (first|with_reducible exact dr_refl|apply dr_keep|apply dr_drop), ?_⟩;refine th_pre (λ _ _ h=>pt_wasF h) ?_;refine Zb6 ?_;refine oh_u rfl rfl rfl (o_stUN (l':=[.slice (some ⟨b44,0,none⟩) n n,.slice (some ⟨b47,0,none⟩) n n,.int .u64 0]) rfl upqz sz38 rfl rfl rfl (by exact Nat.le_refl 3) rfl) drqz ?_;refine th_done kqz ?_;exact ⟨b8,b44,b47,rfl,rfl,rfl,rfl,rfl,⟨emp,by first|exact (star_emp _).symm|(rw [star_emp];ac_rfl)⟩⟩
    . skip
      refine oh_x rfl rfl rfl (o_alloc (l:=[.slice none 0 0,.slice none 0 0,.int .u64 0]) z38 rfl) ?_;rintro _ _ ⟨b8,rfl,rfl⟩;refine ⟨by repeat (first|with_reducible exact dr_refl|apply dr_keep|apply dr_drop), ?_⟩;refine th_two (i:=2) (j:=5) kqz ?_ ?_
      . skip
        refine oh_x rfl rfl rfl (o_makeSlice (len:=n) (cap:=n) underlying34 sz4 by4 z4 rfl rfl rfl oqz oqz oqz) ?_;rintro _ _ ⟨b44,rfl,rfl⟩;refine ⟨by repeat (first|with_reducible exact dr_refl|apply dr_keep|apply dr_drop), ?_⟩;refine th_pre (λ _ _ h=>pt_wasF h) ?_;refine th_one (i:=5) kqz ?_;refine oh_x rfl rfl rfl (o_makeSlice (len:=n) (cap:=n) underlying35 sz32 by32 z32 rfl rfl rfl oqz oqz oqz) ?_;rintro _ _ ⟨b47,rfl,rfl⟩;refine ⟨by repeat (first|with_reducible exact dr_refl|apply dr_keep|apply dr_drop), ?_⟩;refine th_pre (λ _ _ h=>pt_nils h) ?_;refine Zb6 ?_;refine oh_u rfl rfl rfl (o_stUN (l':=[.slice (some ⟨b44,0,none⟩) n n,.slice (some ⟨b47,0,none⟩) n n,.int .u64 0]) rfl upqz sz38 rfl rfl rfl (by exact Nat.le_refl 3) rfl) drqz ?_;refine th_done kqz ?_;exact ⟨b8,b44,b47,rfl,rfl,rfl,rfl,rfl,⟨emp,by first|exact (star_emp _).symm|(rw [star_emp];ac_rfl)⟩⟩
      . skip
        refine oh_x rfl rfl rfl (o_makeSlice (len:=n) (cap:=n) underlying35 sz32 by32 z32 rfl rfl rfl oqz oqz oqz) ?_;rintro _ _ ⟨b47,rfl,rfl⟩;refine ⟨by repeat (first|with_reducible exact dr_refl|apply dr_keep|apply dr_drop), ?_⟩;refine th_pre (λ _ _ h=>pt_nils h) ?_;refine th_one (i:=2) kqz ?_;refine oh_x rfl rfl rfl (o_makeSlice (len:=n) (cap:=n) underlying34 sz4 by4 z4 rfl rfl rfl oqz oqz oqz) ?_;rintro _ _ ⟨b44,rfl,rfl⟩;refine ⟨by repeat (first|with_reducible exact dr_refl|apply dr_keep|apply dr_drop), ?_⟩;refine th_pre (λ _ _ h=>pt_wasF h) ?_;refine Zb6 ?_;refine oh_u rfl rfl rfl (o_stUN (l':=[.slice (some ⟨b44,0,none⟩) n n,.slice (some ⟨b47,0,none⟩) n n,.int .u64 0]) rfl upqz sz38 rfl rfl rfl (by exact Nat.le_refl 3) rfl) drqz ?_;refine th_done kqz ?_;exact ⟨b8,b44,b47,rfl,rfl,rfl,rfl,rfl,⟨emp,by first|exact (star_emp _).symm|(rw [star_emp];ac_rfl)⟩⟩
  intro ρ B hI;obtain ⟨b8,b44,b47,hE8,hE1,hE2,hE6,hE7,hBA⟩:=hI;refine q_then_n ?_;refine tc_pre hBA.sat ?_;clear hBA;refine te 8 hE8 ?_;refine te 1 hE1 ?_;refine te 2 hE2 ?_;refine te 6 hE6 ?_;refine te 7 hE7 ?_;refine tc_seq ?_;refine Zej ?_;refine tc_loop (λ kk ρ BB=>∃ (i:Nat) (vs:List Value),(i<=n)/\ (vs.length=n)/\ (vs.all oneC=true)/\ (∀b,b<i->∃v,vs[b]? =some v/\ RowHas (Sl 1 (.slice a41 (128+32768+256*n) c41) (128+32768+256*n) (bys (im13 (128+32768) n fi))) v (conB (T0 g0) (s13 32768 n fi) (128+32768) b))/\ kk=n-i/\ ρ 9=(vn i)/\ ρ 1= .slice sa ts.length sc/\ ρ 2=(pz b2)/\ ρ 6=(pz h9p)/\ ρ 7= .slice a41 (128+32768+256*n) c41/\ ρ 8=(pz b8)/\ Dr BB (F*pt b2 (cl (su5 ((32768:Nat):Int) ((n:Nat):Int) (fi:Nat) (.slice a32 (adZ n g).length c32) (.slice none 0 0)) 25)*Sl 1 (.slice a32 (adZ n g).length c32) (adZ n g).length (ints (adZ n g))*RsA h9p p9p l9p d9p 128 32768 (128+32768) n v9p M9p (s13 32768 n fi)*Sl 1 (.slice a41 (128+32768+256*n) c41) (128+32768+256*n) (bys (im13 (128+32768) n fi))*pt b8 (cl [.slice (some ⟨b44,0,none⟩) n n,.slice (some ⟨b47,0,none⟩) n n,.int .u64 0] 38)*Sl 1 (.slice (some ⟨b44,0,none⟩) n n) n (bos (wasF n g0))*Sl 1 (.slice (some ⟨b47,0,none⟩) n n) n vs)) (m:=n-(0)) ?_ ?_
  . exact ⟨0,(List.replicate n (.slice none 0 0)),Nat.zero_le _,List.length_replicate,nils_one n,λ b hb=>absurd hb (Nat.not_lt_zero b),rfl,rfl,rfl,rfl,rfl,rfl,rfl,drqz⟩
  intro k ρ B hI;obtain ⟨i,vs,hp0,hp1,hp2,hp3,hkk1,hE9,hE1,hE2,hE6,hE7,hE8,hBA⟩:=hI;refine tc_pre hBA.sat ?_;clear hBA;refine te 9 hE9 ?_;refine te 1 hE1 ?_;refine te 2 hE2 ?_;refine te 6 hE6 ?_;refine te 7 hE7 ?_;refine te 8 hE8 ?_;refine Zd ?_;refine Zbi ?_;refine Zr ?_;refine tc_cond rfl (λ h=> ?_) (λ h=> ?_)
  . have hi:i<n:=(by first|omega|(simp at h;omega));refine Zbn ?_;refine tc_regh (S:=F*pt b2 (cl (su5 ((32768:Nat):Int) ((n:Nat):Int) (fi:Nat) (.slice a32 (adZ n g).length c32) (.slice none 0 0)) 25)*Sl 1 (.slice a32 (adZ n g).length c32) (adZ n g).length (ints (adZ n g))*RsA h9p p9p l9p d9p 128 32768 (128+32768) n v9p M9p (s13 32768 n fi)*Sl 1 (.slice a41 (128+32768+256*n) c41) (128+32768+256*n) (bys (im13 (128+32768) n fi))*pt b8 (cl [.slice (some ⟨b44,0,none⟩) n n,.slice (some ⟨b47,0,none⟩) n n,.int .u64 0] 38)*Sl 1 (.slice (some ⟨b44,0,none⟩) n n) n (bos (wasF n g0))) mo drqz ?_
    show TH _ _ _ _ _ 18 (Array.replicate 18 false) _ _
    refine Zgc ?_;refine Zf0 ?_;refine tm 4 rfl kqz rfl (o_loadN (vs:=(su5 ((32768:Nat):Int) ((n:Nat):Int) (fi:Nat) (.slice a32 (adZ n g).length c32) (.slice none 0 0))) a25 sz25 rfl hsqz (by exact Nat.le_refl 5) rfl) ?_;refine tm 6 rfl kqz rfl (o_move wqz) ?_;refine tm 7 rfl kqz rfl (by first|exact o_mulI rfl rfl oqz|exact o_mul rfl rfl) ?_;refine tm 9 rfl kqz rfl (o_loadN (vs:=(su5 ((32768:Nat):Int) ((n:Nat):Int) (fi:Nat) (.slice a32 (adZ n g).length c32) (.slice none 0 0))) a25 sz25 rfl hsqz (by exact Nat.le_refl 5) rfl) ?_;refine tm 11 rfl kqz rfl (o_move wqz) ?_;refine tm 12 rfl kqz rfl (by first|exact o_mulI rfl rfl oqz|exact o_mul rfl rfl) ?_;refine th_one (i:=5) kqz ?_;refine oh_c rfl rfl rfl (o_call bd11 rfl (heap13_c (lg:=32768))) ?_;refine Zz ?_;refine tm 8 rfl kqz rfl adqz ?_;refine th_env (d:=63) (v:=(vn (128+32768+256*i))) (by first|rfl|exact congrArg (Value.int .i64) oqz) ?_;refine th_one (i:=10) kqz ?_;refine oh_c rfl rfl rfl (o_call bd11 rfl (heap13_c (lg:=32768))) ?_;refine Zz ?_;refine tm 13 rfl kqz rfl adqz ?_;refine tm 14 rfl kqz rfl adqz ?_;refine th_env (d:=69) (v:=(vn (128+32768+256*i+256))) (by first|rfl|exact congrArg (Value.int .i64) oqz) ?_;refine tm 15 rfl kqz rfl (o_slice underlying32 sz5 rfl (bnd_some rfl oqz) (bnd_some rfl oqz) oqz oqz) ?_;refine tm 16 rfl kqz rfl (o_ixP1 (j:=i) underlying35 sz32 rfl rfl hi nn_some) ?_;refine th_one (i:=17) kqz ?_;refine oh_u rfl rfl rfl (o_stP (ys:=vs.set i (.slice (cutAddr a41 c41 (128+32768+256*i) 1) (128+32768+256*i+256-(128+32768+256*i)) (c41-(128+32768+256*i)))) sz32 rfl rfl rfl ctqz oqz rfl) drqz ?_;refine th_done kqz ?_;refine Zo ?_;refine Zdh ?_;exact ⟨_,by omega,i+1,vs.set i (.slice (cutAddr a41 c41 (128+32768+256*i) 1) (128+32768+256*i+256-(128+32768+256*i)) (c41-(128+32768+256*i))),by omega,by rw [List.length_set];exact hp1,all_put hp2 rfl,row_im hi hp1 hc41 hp3,rfl,rfl,rfl,rfl,rfl,rfl,rfl,drqz⟩
  obtain rfl:n=i:=by first|omega|(simp at h;omega)
  refine Zh ?_;refine tc_seq ?_;refine Zej ?_;rw [show g0=onL ((adS n g).take 0) by rw [List.take_zero,onL_nil]]
  refine tc_loop (λ kk ρ BB=>∃ (i:Nat),(i<=(adZ n g).length)/\ kk=(adZ n g).length-i/\ ρ 10=(vn i)/\ ρ 1= .slice sa ts.length sc/\ ρ 2=(pz b2)/\ ρ 6=(pz h9p)/\ ρ 8=(pz b8)/\ Dr BB (F*pt b2 (cl (su5 ((32768:Nat):Int) ((n:Nat):Int) (fi:Nat) (.slice a32 (adZ n g).length c32) (.slice none 0 0)) 25)*Sl 1 (.slice a32 (adZ n g).length c32) (adZ n g).length (ints (adZ n g))*RsA h9p p9p l9p d9p 128 32768 (128+32768) n v9p M9p (s13 32768 n fi)*Sl 1 (.slice a41 (128+32768+256*n) c41) (128+32768+256*n) (bys (im13 (128+32768) n fi))*pt b8 (cl [.slice (some ⟨b44,0,none⟩) n n,.slice (some ⟨b47,0,none⟩) n n,.int .u64 0] 38)*Sl 1 (.slice (some ⟨b44,0,none⟩) n n) n (bos (wasF n (onL ((adS n g).take i))))*Sl 1 (.slice (some ⟨b47,0,none⟩) n n) n vs)) (m:=(adZ n g).length-(0)) ?_ ?_
  . exact ⟨0,Nat.zero_le _,rfl,rfl,rfl,rfl,rfl,rfl,drqz⟩
  intro k ρ B hI;obtain ⟨i,hp0,hkk2,hE10,hE1,hE2,hE6,hE8,hBA⟩:=hI;refine tc_pre hBA.sat ?_;clear hBA;refine te 10 hE10 ?_;refine te 1 hE1 ?_;refine te 2 hE2 ?_;refine te 6 hE6 ?_;refine te 8 hE8 ?_;refine Zd ?_;refine Zek ?_;refine Zf6 ?_;refine tc_cond rfl (λ h=> ?_) (λ h=> ?_)
  . have hi:i<(adS n g).length:=(by rw [←adZ_len];first|omega|(simp at h;omega));have hx9:(adS n g)[i]<n:=(adS_mem.1 (List.getElem_mem hi)).1;refine Zbn ?_;refine tc_regh (S:=F*pt b2 (cl (su5 ((32768:Nat):Int) ((n:Nat):Int) (fi:Nat) (.slice a32 (adZ n g).length c32) (.slice none 0 0)) 25)*Sl 1 (.slice a32 (adZ n g).length c32) (adZ n g).length (ints (adZ n g))*RsA h9p p9p l9p d9p 128 32768 (128+32768) n v9p M9p (s13 32768 n fi)*Sl 1 (.slice a41 (128+32768+256*n) c41) (128+32768+256*n) (bys (im13 (128+32768) n fi))*pt b8 (cl [.slice (some ⟨b44,0,none⟩) n n,.slice (some ⟨b47,0,none⟩) n n,.int .u64 0] 38)*Sl 1 (.slice (some ⟨b47,0,none⟩) n n) n vs) mo drqz ?_
    show TH _ _ _ _ _ 9 (Array.replicate 9 false) _ _
    refine tm 0 rfl kqz rfl (o_fieldAddr (o:=0) underlying38 rfl rfl sz34 rfl) ?_;refine tm 1 rfl kqz rfl (o_load p34 rfl hsqz rfl) ?_;refine tm 2 rfl kqz rfl (o_fieldAddr (o:=3) underlying25 rfl rfl sz22 rfl) ?_;refine tm 3 rfl kqz rfl (o_load p22 rfl hsqz rfl) ?_;refine tm 4 rfl kqz rfl (o_move wqz) ?_;refine tm 5 rfl kqz rfl (o_ixP1 (j:=i) underlying22 sz3 rfl rfl (by rw [adZ_len];exact hi) (nn_rs (xs:=ints (adZ n g)) sq0z (by rw [ints_length,adZ_len];omega))) ?_;refine tm 6 rfl kqz rfl (o_ldP (xs:=ints (adZ n g)) p3 rfl sq0z (adZ_at hi)) ?_;refine tm 7 rfl kqz rfl (o_ixP1 (j:=(adS n g)[i]) underlying34 sz4 rfl rfl hx9 nn_some) ?_;refine th_one (i:=8) kqz ?_;refine oh_u rfl rfl rfl (o_stP (ys:=bos (wasF n (onL ((adS n g).take (i+1))))) sz4 rfl rfl rfl ctqz oqz (by rw [List.take_succ_eq_append_getElem hi,onL_snoc];exact wasF_set hx9)) drqz ?_;refine th_done kqz ?_;refine Zo ?_;refine Zdh ?_;exact ⟨_,by omega,i+1,by omega,rfl,rfl,rfl,rfl,rfl,rfl,drqz⟩
  obtain rfl:i=(adZ n g).length:=by first|omega|(simp at h;omega)
  rw [List.take_of_length_le (by rw [adZ_len];exact Nat.le_refl _)]
  refine Zh ?_;refine Zb5 ?_;refine sr ?_;refine tl_x rfl (o_alloc (l:=[.slice none 0 0,.slice none 0 0,.int .u64 0]) z38 rfl) ?_;rintro _ _ ⟨b12,rfl,rfl⟩;refine nq ?_;refine Zgj ?_;refine Zej ?_;refine tc_pre (A':=F*pt b2 (cl (su5 ((32768:Nat):Int) ((n:Nat):Int) (fi:Nat) (.slice a32 (adZ n g).length c32) (.slice none 0 0)) 25)*pt b8 (cl [.slice (some ⟨b44,0,none⟩) n n,.slice (some ⟨b47,0,none⟩) n n,.int .u64 0] 38)*Sl 1 (.slice (some ⟨b44,0,none⟩) n n) n (bos (wasF n (onL (adS n g))))*Sl 1 (.slice (some ⟨b47,0,none⟩) n n) n vs*pt b12 (cl [.slice none 0 0,.slice none 0 0,.int .u64 0] 38)*NowB false n (T0 (onL (adS n g))) none 0 none 0 none 0 []*PLf h9p p9p l9p d9p 128 32768 (128+32768) n (.pointer none) (T0 (onL (adS n g))) none (s13 32768 n fi)*Sl 1 (.slice a41 (128+32768+256*n) c41) (128+32768+256*n) (bys (im13 (128+32768) n fi))) (λ g9 w9 h9=>(pln_back (R:=F*pt b2 (cl (su5 ((32768:Nat):Int) ((n:Nat):Int) (fi:Nat) (.slice a32 (adZ n g).length c32) (.slice none 0 0)) 25)*Sl 1 (.slice a41 (128+32768+256*n) c41) (128+32768+256*n) (bys (im13 (128+32768) n fi))*pt b8 (cl [.slice (some ⟨b44,0,none⟩) n n,.slice (some ⟨b47,0,none⟩) n n,.int .u64 0] 38)*Sl 1 (.slice (some ⟨b44,0,none⟩) n n) n (bos (wasF n (onL (adS n g))))*Sl 1 (.slice (some ⟨b47,0,none⟩) n n) n vs*pt b12 (cl [.slice none 0 0,.slice none 0 0,.int .u64 0] 38)) (T:=T0 (onL (adS n g))) hM9p (Dr.sat (A':=F*pt b2 (cl (su5 ((32768:Nat):Int) ((n:Nat):Int) (fi:Nat) (.slice a32 (adZ n g).length c32) (.slice none 0 0)) 25)*Sl 1 (.slice a41 (128+32768+256*n) c41) (128+32768+256*n) (bys (im13 (128+32768) n fi))*pt b8 (cl [.slice (some ⟨b44,0,none⟩) n n,.slice (some ⟨b47,0,none⟩) n n,.int .u64 0] 38)*Sl 1 (.slice (some ⟨b44,0,none⟩) n n) n (bos (wasF n (onL (adS n g))))*Sl 1 (.slice (some ⟨b47,0,none⟩) n n) n vs*pt b12 (cl [.slice none 0 0,.slice none 0 0,.int .u64 0] 38)*RsA h9p p9p l9p d9p 128 32768 (128+32768) n v9p M9p (s13 32768 n fi)) ⟨Sl 1 (.slice a32 (adZ n g).length c32) (adZ n g).length (ints (adZ n g)),by ac_rfl⟩ g9 w9 h9)).perm (by rw [nowb_f,star_emp];ac_rfl)) ?_;refine tc_loop (λ kk ρ BB=>∃ (i:Nat) (wk:Bool) (wp:Nat) (wv:Value) (T:WkT) (o:Option Bool) (s:DevS) (Z:SP) (gL:Nat->Bool) (la:Option Addr) (lc:Nat) (da:Option Addr) (dc:Nat) (vm:List Value) (rm:Nat) (na:Option Addr) (nm:Nat) (nc:Nat) (xa:Option Addr) (xm:Nat) (xc:Nat) (xw:List Value) (nr:Nat) (ga:Option Addr) (gm:Nat) (gc:Nat),(i<=400)/\ (KOk wk n i Z T o s wv wp gL vm rm nm xm gm xw nr)/\ kk=400-i/\ ρ 11= .pointer (wpK wk wp)/\ ρ 13= .slice ga gm gc/\ ρ 14=(vn i)/\ ρ 1= .slice sa ts.length sc/\ ρ 2=(pz b2)/\ ρ 6=(pz h9p)/\ ρ 8=(pz b8)/\ ρ 12=(pz b12)/\ Dr BB (F*pt b2 (cl (su5 ((32768:Nat):Int) ((n:Nat):Int) (fi:Nat) (.slice a32 (adZ n g).length c32) (.slice none 0 0)) 25)*pt b8 (cl [.slice la n lc,.slice da n dc,.int .u64 ((rm:Nat):Int)] 38)*Sl 1 (.slice la n lc) n (bos (wasF n gL))*Sl 1 (.slice da n dc) n vm*pt b12 (cl [.slice na nm nc,.slice xa xm xc,.int .u64 ((nr:Nat):Int)] 38)*NowB wk n T na nc xa xc ga gc xw*PLf h9p p9p l9p d9p 128 32768 (128+32768) n wv T o s*Z)) (m:=400-(0)) ?_ ?_
  . exact ⟨0,false,0,.pointer none,(T0 (onL (adS n g))),none,(s13 32768 n fi),Sl 1 (.slice a41 (128+32768+256*n) c41) (128+32768+256*n) (bys (im13 (128+32768) n fi)),(onL (adS n g)),(some ⟨b44,0,none⟩),n,(some ⟨b47,0,none⟩),n,vs,0,none,0,0,none,0,0,[],0,none,0,0,Nat.zero_le _,⟨hcal0,⟨hp1,hp2,λ b hb _=>by have h9:=hp3 b hb;simp only [con_T0] at h9 ⊢;exact h9,by rw [root_T0,s13_img (by decide)];exact im13_root.symm⟩,rfl,λ _=>rfl,λ h9=>(by cases h9)⟩,rfl,rfl,rfl,rfl,rfl,rfl,rfl,rfl,rfl,dr_refl⟩
  intro k ρ B hI;obtain ⟨i,wk,wp,wv,T,o,s,Z,gL,la,lc,da,dc,vm,rm,na,nm,nc,xa,xm,xc,xw,nr,ga,gm,gc,hp0,hp1,hkk3,hE11,hE13,hE14,hE1,hE2,hE6,hE8,hE12,hBA⟩:=hI;refine tc_pre hBA.sat ?_;clear hBA;refine te 11 hE11 ?_;refine te 13 hE13 ?_;refine te 14 hE14 ?_;refine te 1 hE1 ?_;refine te 2 hE2 ?_;refine te 6 hE6 ?_;refine te 8 hE8 ?_;refine te 12 hE12 ?_;refine Zd ?_;refine tlm ?_;refine tv (o_len underlying26 rfl) ?_;refine Zes ?_;refine tl_bool (d:=91) rfl (λ h=> ?_) (λ h=> ?_)
  . have hi0:i<ts.length:=(by first|omega|(simp at h;omega));refine Zfh ?_;refine Zg8 ?_;refine tc_cond rfl (λ h=> ?_) (λ h=> ?_)
    . have hi:i<ts.length:=(by first|omega|(simp at h;omega));have hi4:i<400:=(by first|omega|(simp at h;omega));obtain ⟨t9,ht9⟩:∃t9,ts[i]=t9:=⟨_,rfl⟩;have hw9:=hst t9 (ht9▸List.getElem_mem hi);obtain ⟨hcal,hkm,rfl,hA9,hB9⟩:=hp1;have hkb:HkB 128 32768 (128+32768) n s:=hk13 (by decide) (by decide) (by decide) oqz hcal.wf hcal.len;have hoff:=hcal.on;have hls:=hcal.len;refine tc_have (λ _ _ h9=>λ (ho9:o=some false)=>plf_ok h9.left ho9) λ hpk=> ?_
      refine Ze4 ?_;refine tlm ?_;refine tv (o_ixP underlying26 sz42 rfl rfl oqz (by repeat (first|exact nn_rs hsr (λ _=>by rw [st13s_len];omega)|apply Nn.left))) ?_;refine tv (o_ldPN (vs:=(st13c t9.k t9.b t9.n t9.v t9.la t9.zs.length t9.lc)) a42 sz42 rfl (by repeat (first|exact hsr|apply Rs.left)) (by rw [←ht9];exact st13s_at hi) rfl (by decide)) ?_;refine tl_x rfl (o_alloc (l:=[.int .i64 0,.int .i64 0,.int .i64 0,.int .u64 0,.slice none 0 0]) z42 rfl) ?_;rintro _ _ ⟨b15,rfl,rfl⟩;refine tl_u rfl (o_stUN (l':=(st13c t9.k t9.b t9.n t9.v t9.la t9.zs.length t9.lc)) rfl upqz sz42 rfl rfl rfl (by exact Nat.le_refl 5) rfl) ?_;refine Zdx ?_;refine tc_cut (λ ρ BB=>∃ (u:Bool),(wk=true->u=usedZ T t9.b)/\ ρ 16= .bool u/\ ρ 1= .slice sa ts.length sc/\ ρ 2=(pz b2)/\ ρ 6=(pz h9p)/\ ρ 8=(pz b8)/\ ρ 11= .pointer (wpK wk wp)/\ ρ 12=(pz b12)/\ ρ 13= .slice ga gm gc/\ ρ 14=(vn i)/\ ρ 15=(pz b15)/\ BB=F*pt b2 (cl (su5 ((32768:Nat):Int) ((n:Nat):Int) (fi:Nat) (.slice a32 (adZ n g).length c32) (.slice none 0 0)) 25)*pt b8 (cl [.slice la n lc,.slice da n dc,.int .u64 ((rm:Nat):Int)] 38)*Sl 1 (.slice la n lc) n (bos (wasF n T.lv))*Sl 1 (.slice da n dc) n vm*pt b12 (cl [.slice na nm nc,.slice xa xm xc,.int .u64 ((nr:Nat):Int)] 38)*NowB wk n T na nc xa xc ga gc xw*PLf h9p p9p l9p d9p 128 32768 (128+32768) n wv T o s*Z*pt b15 (cl (st13c t9.k t9.b t9.n t9.v t9.la t9.zs.length t9.lc) 42)) ?_ ?_
      . skip
        refine Zu ?_;refine tv (o_nep underlying40 rfl rfl) ?_;refine tl_env (d:=102) (v:= .bool wk) (by cases wk<;>rfl) ?_;refine tlm ?_;refine tl_bool (d:=103) rfl (λ h=> ?_) (λ h=> ?_)
        . obtain rfl:wk=true:=by simpa using h
          obtain ⟨rfl,rfl,rfl,rfl,rfl,hkn,hgf⟩:=hB9 rfl;obtain ⟨X9,Y9,hXn,hok9⟩:=hpk rfl;refine Z8 ?_;refine tv (o_geq rfl rfl) ?_;refine Z6 ?_;refine tl_bool (d:=108) rfl (λ h=> ?_) (λ h=> ?_)
          . have g8:0<=t9.b:=(by first|exact of_decide_eq_true h|simpa using h);refine Z8 ?_;refine Zbi ?_;refine tv (o_lss rfl rfl) ?_;refine Z6 ?_;refine tl_bool (d:=115) rfl (λ h=> ?_) (λ h=> ?_)
            . have g15:t9.b<(n:Int):=(by first|exact of_decide_eq_true h|simpa using h);obtain ⟨q,hq⟩:=Int.eq_ofNat_of_zero_le g8;have hqn:q<n:=(by omega);refine Z5 ?_;refine Z8 ?_;refine tv (o_ixP1 (a:=na) (j:=q) underlying34 sz4 rfl (congrArg (Value.int .i64) hq) hqn (nn_rs (xs:=bos (wasF n (usedB T))) (by repeat (first|exact nowb_rl|apply Rs.left)) (by rw [bos_length,wasF_len];omega))) ?_;refine tv (o_ldP (xs:=bos (wasF n (usedB T))) p4 rfl (by repeat (first|exact nowb_rl|apply Rs.left)) (wasF_at hqn)) ?_;refine Ze7 ?_;exact ⟨_,λ h9=>by first|(rw [hwf] at h9;cases h9)|(rw [usedZ_lo g8])|(rw [(tok_wk hok9).no (by rw [hXn];exact λ h8=>g15 h8.2)])|(rw [hq,usedZ_nat]),rfl,rfl,rfl,rfl,rfl,rfl,rfl,rfl,rfl,rfl,rfl⟩
            have g15:¬t9.b<(n:Int):=(by first|exact of_decide_eq_false h|simpa using h);refine Zg7 ?_;refine Zb1 ?_;exact ⟨_,λ h9=>by first|(rw [hwf] at h9;cases h9)|(rw [usedZ_lo g8])|(rw [(tok_wk hok9).no (by rw [hXn];exact λ h8=>g15 h8.2)])|(rw [hq,usedZ_nat]),rfl,rfl,rfl,rfl,rfl,rfl,rfl,rfl,rfl,rfl,rfl⟩
          have g8:¬0<=t9.b:=(by first|exact of_decide_eq_false h|simpa using h);refine Ze5 ?_;refine Zba ?_;refine Zg7 ?_;refine Zb1 ?_;exact ⟨_,λ h9=>by first|(rw [hwf] at h9;cases h9)|(rw [usedZ_lo g8])|(rw [(tok_wk hok9).no (by rw [hXn];exact λ h8=>g15 h8.2)])|(rw [hq,usedZ_nat]),rfl,rfl,rfl,rfl,rfl,rfl,rfl,rfl,rfl,rfl,rfl⟩
        have hwf:wk=false:=(by simpa using h);refine Zcv ?_;refine Zba ?_;refine Ze5 ?_;refine Zba ?_;refine Zg7 ?_;refine Zb1 ?_;exact ⟨_,λ h9=>by first|(rw [hwf] at h9;cases h9)|(rw [usedZ_lo g8])|(rw [(tok_wk hok9).no (by rw [hXn];exact λ h8=>g15 h8.2)])|(rw [hq,usedZ_nat]),rfl,rfl,rfl,rfl,rfl,rfl,rfl,rfl,rfl,rfl,rfl⟩
      intro ρ B hI;obtain ⟨u,hj0,hE16,hE1,hE2,hE6,hE8,hE11,hE12,hE13,hE14,hE15,rfl⟩:=hI;refine q_then_n ?_;refine te 16 hE16 ?_;refine te 1 hE1 ?_;refine te 2 hE2 ?_;refine te 6 hE6 ?_;refine te 8 hE8 ?_;refine te 11 hE11 ?_;refine te 12 hE12 ?_;refine te 13 hE13 ?_;refine te 14 hE14 ?_;refine te 15 hE15 ?_;refine tc_block ?_;refine Zb ?_;refine tv (o_eqp underlying40 rfl rfl) ?_;refine tl_env (d:=125) (v:= .bool (!wk)) (by cases wk<;>rfl) ?_;refine Za ?_;refine tc_cond rfl (λ h=> ?_) (λ h=> ?_)
      . obtain rfl:wk=false:=by simpa using h
        have hlo:=hA9 rfl;refine Zb ?_;refine tl_c rfl (o_call bd12 rfl (BeginK (h:=h9p) (p:=p9p) (lg:=l9p) (d:=d9p) (at_:=128) (sz:=32768) (ba:=128+32768) (n:=n) (wv:=wv) (T:=T) (o:=o) (s:=s) (hb:=hkb) (hcal:=hcal) (hl:=hlo))) ?_;rintro _ _ ⟨w128,rfl,rfl⟩;refine Zgv ?_;intro h;refine Zb4 ?_;refine Zg3 ?_;refine tv (o_loadN (vs:=[.slice la n lc,.slice da n dc,.int .u64 ((rm:Nat):Int)]) a38 sz38 rfl hsqz (by exact Nat.le_refl 3) rfl) ?_;refine tl_c rfl (o_call bd13 rfl (copy13_c (gl:=bos (wasF n T.lv)) (vs:=vm) (hl:=(by repeat (first|with_reducible exact rs_sl|apply Rs.left))) (ho:=bos_on _) (hvo:=hkm.on) (hll:=by rw [bos_length,wasF_len]) (hd:=(by repeat (first|with_reducible exact rs_sl|apply Rs.left))) (hvl:=hkm.vl) (hn:=by omega))) ?_;rintro _ _ ⟨a135,c135,x135,y135,rfl,rfl⟩;refine tl_u rfl (o_stUN (l':=[.slice a135 n c135,.slice x135 n y135,.int .u64 ((rm:Nat):Int)]) rfl upqz sz38 rfl rfl rfl (by exact Nat.le_refl 3) rfl) ?_;refine nq ?_;refine tc_reg ?_;refine Zbi ?_;refine tl_x rfl (o_makeSlice (len:=n) (cap:=n) underlying34 sz4 by4 z4 rfl rfl rfl oqz oqz oqz) ?_;rintro _ _ ⟨b138,rfl,rfl⟩;refine tl_pre (λ _ _ h=>pt_wasF h) ?_;refine Zb1 ?_;refine Zfa ?_;have hck:KOk true n (i+1) Z (T0 T.lv) (some false) s ((pz w128)) w128 T.lv vm rm n n n vm rm:=⟨hcal,hkm,rfl,λ h9=>(by cases h9),λ _=>⟨rfl,rfl,rfl,rfl,rfl,(by rw [used_T0];exact hkm),(good0 _ _).le (Nat.zero_le _)⟩⟩;exact ⟨_,by omega,i+1,true,w128,((pz w128)),(T0 T.lv),(some false),s,Z,T.lv,la,lc,da,dc,vm,rm,a135,n,c135,x135,n,y135,vm,rm,(some ⟨b138,0,none⟩),n,n,by omega,hck,rfl,rfl,rfl,rfl,rfl,rfl,rfl,rfl,rfl,⟨pt b15 (cl (st13c t9.k t9.b t9.n t9.v t9.la t9.zs.length t9.lc) 42),by rw [nowb_t (u:=T.lv) (v:=g0) (used_T0 _) rfl,nowb_f,star_emp];ac_rfl⟩⟩
      obtain rfl:wk=true:=by simpa using h
      obtain ⟨rfl,rfl,rfl,rfl,rfl,hkn,hgf⟩:=hB9 rfl;obtain ⟨X9,Y9,hXn,hok9⟩:=hpk rfl;have hu:=hj0 rfl;refine tc_pre (A':=F*pt b2 (cl (su5 ((32768:Nat):Int) ((n:Nat):Int) (fi:Nat) (.slice a32 (adZ n g).length c32) (.slice none 0 0)) 25)*pt b8 (cl [.slice la n lc,.slice da n dc,.int .u64 ((rm:Nat):Int)] 38)*Sl 1 (.slice la n lc) n (bos (wasF n T.lv))*Sl 1 (.slice da n dc) n vm*pt b12 (cl [.slice na n nc,.slice xa n xc,.int .u64 ((nr:Nat):Int)] 38)*Sl 1 (.slice na n nc) n (bos (wasF n (usedB T)))*Sl 1 (.slice xa n xc) n xw*Sl 1 (.slice ga n gc) n (bos (wasF n T.gv))*PLf h9p p9p l9p d9p 128 32768 (128+32768) n ((pz wp)) T (some false) s*Z*pt b15 (cl (st13c t9.k t9.b t9.n t9.v t9.la t9.zs.length t9.lc) 42)) (λ g9 w9 h9=>h9.perm (by rw [nowb_t rfl rfl];ac_rfl)) ?_;refine Zgy ?_;refine tc_cond rfl (sbq ?_) (sbq ?_)
      . intro h;refine Zgj ?_;refine sr ?_;refine Zbi ?_;refine tv (o_subI rfl rfl oqz) ?_;refine Za ?_;refine tc_block ?_;refine tc_loop (λ kk ρ BB=>∃ (c9:Nat),(c9<=n)/\ kk=n-c9/\ ρ 19= .int .i64 (lastW (freeB T) n c9)/\ ρ 20= .int .i64 ((n:Int)-1-(c9:Nat))/\ ρ 1= .slice sa ts.length sc/\ ρ 2=(pz b2)/\ ρ 6=(pz h9p)/\ ρ 8=(pz b8)/\ ρ 11=(pz wp)/\ ρ 12=(pz b12)/\ ρ 13= .slice ga n gc/\ ρ 14=(vn i)/\ Dr BB (F*pt b2 (cl (su5 ((32768:Nat):Int) ((n:Nat):Int) (fi:Nat) (.slice a32 (adZ n g).length c32) (.slice none 0 0)) 25)*pt b8 (cl [.slice la n lc,.slice da n dc,.int .u64 ((rm:Nat):Int)] 38)*Sl 1 (.slice la n lc) n (bos (wasF n T.lv))*Sl 1 (.slice da n dc) n vm*pt b12 (cl [.slice na n nc,.slice xa n xc,.int .u64 ((nr:Nat):Int)] 38)*Sl 1 (.slice na n nc) n (bos (wasF n (usedB T)))*Sl 1 (.slice xa n xc) n xw*Sl 1 (.slice ga n gc) n (bos (wasF n T.gv))*PLf h9p p9p l9p d9p 128 32768 (128+32768) n ((pz wp)) T (some false) s*Z*pt b15 (cl (st13c t9.k t9.b t9.n t9.v t9.la t9.zs.length t9.lc) 42))) (m:=n-(0)) ?_ ?_
        . exact ⟨0,Nat.zero_le _,rfl,rfl,congrArg (Value.int .i64) oqz,rfl,rfl,rfl,rfl,rfl,rfl,rfl,rfl,drqz⟩
        intro k ρ B hI;obtain ⟨c9,hp0,hkk4,hE19,hE20,hE1,hE2,hE6,hE8,hE11,hE12,hE13,hE14,hBA⟩:=hI;refine tc_pre hBA.sat ?_;clear hBA;refine te 19 hE19 ?_;refine te 20 hE20 ?_;refine te 1 hE1 ?_;refine te 2 hE2 ?_;refine te 6 hE6 ?_;refine te 8 hE8 ?_;refine te 11 hE11 ?_;refine te 12 hE12 ?_;refine te 13 hE13 ?_;refine te 14 hE14 ?_;refine Zd ?_;refine tv (o_geq rfl rfl) ?_;refine nq ?_;refine tc_cond rfl (λ h=> ?_) (λ h=> ?_)
        . have hk9:c9<n:=(by first|omega|(simp at h;omega));refine tc_env (d:=20) (v:= .int .i64 ((n-(c9+1):Nat):Int)) (by show Value.int .i64 _=_;congr 1;omega) ?_;refine Zd6 ?_;refine Z5 ?_;refine tlm ?_;refine tv (o_ixP1 (a:=na) (j:=n-(c9+1)) underlying34 sz4 rfl rfl oqz (nn_rs (xs:=bos (wasF n (usedB T))) sq0z (by rw [bos_length,wasF_len];omega))) ?_;refine tv (o_ldP (xs:=bos (wasF n (usedB T))) p4 rfl sq0z (wasF_at oqz)) ?_;refine Zfy ?_;refine tl_bool (d:=156) rfl (λ h=> ?_) (λ h=> ?_)
          . have hu7:usedB T (n-(c9+1))=false:=(by simpa using h);refine Zbe ?_;refine tv (o_ixP1 (a:=ga) (j:=n-(c9+1)) underlying34 sz4 rfl rfl oqz (nn_rs (xs:=bos (wasF n T.gv)) sq0z (by rw [bos_length,wasF_len];omega))) ?_;refine tv (o_ldP (xs:=bos (wasF n T.gv)) p4 rfl sq0z (wasF_at oqz)) ?_;refine Zf1 ?_;refine nq ?_;refine tc_cond rfl (λ h=> ?_) (λ h=> ?_)
            . have hfj:freeB T (n-(c9+1))=true:=(by rw [free_iff hok9,hu7,(by simpa using h:T.gv (n-(c9+1))=false)];rfl);refine Zu ?_;refine Zff ?_;refine Zcn ?_;refine Za ?_;exact ⟨_,by omega,c9+1,by omega,rfl,by first|(rw [lastW_t hfj];rfl)|(rw [lastW_f hfj];rfl),congrArg (Value.int .i64) oqz,rfl,rfl,rfl,rfl,rfl,rfl,rfl,rfl,drqz⟩
            have hfj:freeB T (n-(c9+1))=false:=(by first|(rw [free_iff hok9,hu7];rfl)|(rw [free_iff hok9,hu7,(by simpa using h:T.gv (n-(c9+1))=true)];rfl));refine Zdc ?_;refine Zcn ?_;refine Za ?_;exact ⟨_,by omega,c9+1,by omega,rfl,by first|(rw [lastW_t hfj];rfl)|(rw [lastW_f hfj];rfl),congrArg (Value.int .i64) oqz,rfl,rfl,rfl,rfl,rfl,rfl,rfl,rfl,drqz⟩
          have hu7:usedB T (n-(c9+1))=true:=(by simpa using h);have hfj:freeB T (n-(c9+1))=false:=(by rw [free_iff hok9,hu7];rfl);refine Ze5 ?_;refine Zf3 ?_;refine tc_cond_f rfl ?_;refine Zdc ?_;refine Zcn ?_;refine Za ?_;exact ⟨_,by omega,c9+1,by omega,rfl,by first|(rw [lastW_t hfj];rfl)|(rw [lastW_f hfj];rfl),congrArg (Value.int .i64) oqz,rfl,rfl,rfl,rfl,rfl,rfl,rfl,rfl,drqz⟩
        obtain rfl:n=c9:=by first|omega|(simp at h;omega)
        refine Zda ?_;refine tl_c rfl (o_call bd14 rfl (TakeK (h:=h9p) (p:=p9p) (lg:=l9p) (d:=d9p) (at_:=128) (sz:=32768) (ba:=128+32768) (n:=n) (wv:=((pz wp))) (T:=T) (s:=s) (hb:=hkb) (ho:=hoff))) ?_;rintro _ _ ⟨v166,e166,T166,ht166,rfl,rfl⟩;have hwc:=want_cases n T;rw [ht166] at hwc
        refine Zds ?_;refine Zr ?_;refine tc_cond rfl (λ h=> ?_) (λ h=> ?_)
        . obtain ⟨rfl,rfl,rfl⟩:0=v166/\ 7=e166/\ T=T166:=by rcases hwc with ⟨_,h9⟩|⟨b9,_,_,h9,_⟩;(simp only [Prod.mk.injEq] at h9;obtain ⟨r1,r2,r3⟩:=h9;exact ⟨r1.symm,r2.symm,r3.symm⟩);(exfalso;rw [h9] at h;simp at h;omega)
          refine Zd ?_;refine Zy ?_;intro h;refine Zc ?_;refine tc_exit ?_;refine q_then_e (q_block_e rfl (q_block_x (q_then_n ?_)));refine Zu ?_;refine Zbm ?_;have hck:KOk true n (i+1) Z T (some false) s ((pz wp)) wp T.lv vm rm n n n xw nr:=⟨hcal,hkm,rfl,λ h9=>(by cases h9),λ _=>⟨rfl,rfl,rfl,rfl,rfl,hkn,hgf.le (Nat.le_succ _)⟩⟩;exact ⟨_,by omega,i+1,true,wp,((pz wp)),T,(some false),s,Z,T.lv,la,lc,da,dc,vm,rm,na,n,nc,xa,n,xc,xw,nr,ga,n,gc,by omega,hck,rfl,rfl,rfl,rfl,rfl,rfl,rfl,rfl,rfl,(by rw [nowb_t (u:=(usedB T)) (v:=T.gv) rfl rfl];simp only [←star_assoc];repeat (first|with_reducible exact dr_refl|apply dr_keep|apply dr_drop))⟩
        obtain ⟨b9,hb9,hf9,hw8,hv8,he8,hT8⟩:∃b9,b9<n/\ freeB T b9=true/\ lastW (freeB T) n n=((b9:Nat):Int)/\ b9=v166/\ 0=e166/\ T.take b9=T166:=by rcases hwc with ⟨h9,_⟩|⟨b9,h1,h2,h3,h4⟩;(exfalso;rw [h9] at h;simp at h);(simp only [Prod.mk.injEq] at h4;exact ⟨b9,h1,h2,h3,h4.1.symm,h4.2.1.symm,h4.2.2.symm⟩)
        subst hv8 he8 hT8;refine Zcc ?_;refine Zc7 ?_;refine tl_bool (d:=175) rfl dbq (sbq ?_);intro h;refine Zbe ?_;refine tv (o_nei rfl rfl) ?_;refine tl_env (d:=178) (v:= .bool false) (by show Value.bool (decide (_≠_))=_;rw [hw8];simp) ?_;refine Zc0 ?_;intro h;refine Zg2 ?_;refine Z5 ?_;refine tlm ?_;refine tv (o_ixP1 (a:=na) (j:=b9) underlying34 sz4 rfl rfl hb9 (nn_rs (xs:=bos (wasF n (usedB T))) sq0z (by rw [bos_length,wasF_len];omega))) ?_;refine tl_u rfl (o_stP (ys:=bos (wasF n (updG (usedB T) b9 true))) sz4 rfl rfl rfl ctqz oqz (wasF_set hb9)) ?_;refine nq ?_;refine tc_reg ?_;refine Z1 ?_;refine tlm ?_;refine tv (o_ixP1 (a:=xa) (j:=b9) underlying35 sz32 rfl rfl hb9 (nn_rs (xs:=xw) sq0z (by rw [hkn.vl];omega))) ?_;refine tl_u rfl (o_stP (ys:=xw.set b9 (.slice none 0 0)) sz32 rfl rfl rfl ctqz oqz rfl) ?_;refine tl_nil ?_;refine Zfa ?_;have hck:KOk true n (i+1) Z (T.take b9) (some false) s ((pz wp)) wp T.lv vm rm n n n (xw.set b9 (.slice none 0 0)) nr:=⟨hcal,hkm,rfl,λ h9=>(by cases h9),λ _=>⟨rfl,rfl,rfl,rfl,rfl,hkn.put hb9 rfl RowHas.nil (λ c _=>congrFun (con_take T s _ b9) c) (λ c hc hg=>by rw [used_take] at hg;simpa [hc] using hg) root_take,hgf.le (Nat.le_succ _)⟩⟩;exact ⟨_,by omega,i+1,true,wp,((pz wp)),(T.take b9),(some false),s,Z,T.lv,la,lc,da,dc,vm,rm,na,n,nc,xa,n,xc,(xw.set b9 (.slice none 0 0)),nr,ga,n,gc,by omega,hck,rfl,rfl,rfl,rfl,rfl,rfl,rfl,rfl,rfl,(by rw [nowb_t (u:=(updG (usedB T) b9 true)) (v:=T.gv) used_take rfl];simp only [←star_assoc];repeat (first|with_reducible exact dr_refl|apply dr_keep|apply dr_drop))⟩
      intro h;refine Zgy ?_;refine tc_cond rfl (sbq ?_) (sbq ?_)
      . intro h;refine Zb ?_;refine Z8 ?_;refine tl_c rfl (o_call bd15 rfl (GiveK (b:=t9.b) (h:=h9p) (p:=p9p) (lg:=l9p) (d:=d9p) (at_:=128) (sz:=32768) (ba:=128+32768) (n:=n) (wv:=((pz wp))) (T:=T) (s:=s) (hb:=hkb) (ho:=hoff))) ?_;rintro _ _ ⟨e195,T195,hg195,rfl,rfl⟩;have hgc:=giveS_c hu hg195;refine Zgk ?_;refine tc_cut (λ ρ BB=>ρ 207= .bool false/\ ρ 1= .slice sa ts.length sc/\ ρ 2=(pz b2)/\ ρ 6=(pz h9p)/\ ρ 8=(pz b8)/\ ρ 11=(pz wp)/\ ρ 12=(pz b12)/\ ρ 13= .slice ga n gc/\ ρ 14=(vn i)/\ ρ 15=(pz b15)/\ ρ 16= .bool u/\ BB=F*pt b2 (cl (su5 ((32768:Nat):Int) ((n:Nat):Int) (fi:Nat) (.slice a32 (adZ n g).length c32) (.slice none 0 0)) 25)*pt b8 (cl [.slice la n lc,.slice da n dc,.int .u64 ((rm:Nat):Int)] 38)*Sl 1 (.slice la n lc) n (bos (wasF n T.lv))*Sl 1 (.slice da n dc) n vm*pt b12 (cl [.slice na n nc,.slice xa n xc,.int .u64 ((nr:Nat):Int)] 38)*Sl 1 (.slice na n nc) n (bos (wasF n (usedB T)))*Sl 1 (.slice xa n xc) n xw*Sl 1 (.slice ga n gc) n (bos (wasF n T.gv))*PLf h9p p9p l9p d9p 128 32768 (128+32768) n ((pz wp)) T195 (some false) s*Z*pt b15 (cl (st13c t9.k t9.b t9.n t9.v t9.la t9.zs.length t9.lc) 42)) ?_ ?_
        . skip
          refine Zdt ?_;refine tv (o_eqi rfl rfl) ?_;refine tl_env (d:=198) (v:= .bool u) (by rcases hgc with ⟨rfl,rfl,_⟩|⟨rfl,rfl,_⟩<;>rfl) ?_;refine tv (o_neb underlying4 rfl rfl) ?_;refine tl_env (d:=199) (v:= .bool false) (by cases u<;>rfl) ?_;refine tlm ?_;refine tl_bool (d:=200) rfl dbq (sbq ?_);intro h;refine tlm ?_;refine Zfy ?_;refine tl_bool (d:=203) rfl (sbq ?_) (sbq ?_)
          . intro h;refine tlm ?_;refine tv (o_nei rfl rfl) ?_;refine tl_env (d:=205) (v:= .bool u) (by rcases hgc with ⟨rfl,rfl,_⟩|⟨rfl,rfl,_⟩<;>rfl) ?_;refine Zd5 ?_;exact ⟨by first|rfl|(rw [show u=false by simpa using h];rfl),rfl,rfl,rfl,rfl,rfl,rfl,rfl,rfl,rfl,rfl,rfl⟩
          intro h;refine Zcp ?_;refine Zbh ?_;exact ⟨by first|rfl|(rw [show u=false by simpa using h];rfl),rfl,rfl,rfl,rfl,rfl,rfl,rfl,rfl,rfl,rfl,rfl⟩
        intro ρ B hI;obtain ⟨hE207,hE1,hE2,hE6,hE8,hE11,hE12,hE13,hE14,hE15,hE16,rfl⟩:=hI;refine q_then_n ?_;refine te 207 hE207 ?_;refine te 1 hE1 ?_;refine te 2 hE2 ?_;refine te 6 hE6 ?_;refine te 8 hE8 ?_;refine te 11 hE11 ?_;refine te 12 hE12 ?_;refine te 13 hE13 ?_;refine te 14 hE14 ?_;refine te 15 hE15 ?_;refine te 16 hE16 ?_;refine tc_cond rfl dbq (sbq ?_);intro h;refine Zb4 ?_;refine nq ?_;refine tc_cond rfl (λ h=> ?_) (λ h=> ?_)
        . have hut9:u=true:=(by simpa using h);have hut:usedZ T t9.b=true:=(by rw [←hu];exact hut9);obtain ⟨hq0,hq1⟩:=(tok_wk hok9).lt hut;obtain ⟨q,hq⟩:=Int.eq_ofNat_of_zero_le hq0;have hqn:q<n:=(by rw [hXn] at hq1;omega);have hqt:t9.b.toNat=q:=(by omega);have hub:usedB T q=true:=(by rw [hq,usedZ_nat] at hut;exact hut);obtain rfl:T.give q=T195:=by rcases hgc with ⟨_,_,h3⟩|⟨h1,_,_⟩;(rw [hqt] at h3;exact h3.symm);(rw [hut9] at h1;cases h1)
          refine sr ?_;refine Z5 ?_;refine Z8 ?_;refine tv (o_ixP1 (a:=na) (j:=q) underlying34 sz4 rfl (congrArg (Value.int .i64) hq) hqn (nn_rs (xs:=bos (wasF n (usedB T))) sq0z (by rw [bos_length,wasF_len];omega))) ?_;refine tl_u rfl (o_stP (ys:=bos (wasF n (updG (usedB T) q false))) sz4 rfl rfl rfl ctqz oqz (wasF_set hqn)) ?_;refine nq ?_;refine tc_have (λ g9 w9 h9=>nn_rs (A:=F*pt b2 (cl (su5 ((32768:Nat):Int) ((n:Nat):Int) (fi:Nat) (.slice a32 (adZ n g).length c32) (.slice none 0 0)) 25)*pt b8 (cl [.slice la n lc,.slice da n dc,.int .u64 ((rm:Nat):Int)] 38)*Sl 1 (.slice la n lc) n (bos (wasF n T.lv))*Sl 1 (.slice da n dc) n vm*pt b12 (cl [.slice na n nc,.slice xa n xc,.int .u64 ((nr:Nat):Int)] 38)*Sl 1 (.slice na n nc) n (bos (wasF n (updG (usedB T) q false)))*Sl 1 (.slice xa n xc) n xw*Sl 1 (.slice ga n gc) n (bos (wasF n T.gv))*PLf h9p p9p l9p d9p 128 32768 (128+32768) n ((pz wp)) (T.give q) (some false) s*Z*pt b15 (cl (st13c t9.k t9.b t9.n t9.v t9.la t9.zs.length t9.lc) 42)) (a:=ga) (m:=n) (xs:=bos (wasF n T.gv)) sq0z (by rw [bos_length,wasF_len];omega) g9 w9 h9) λ hnn8=> ?_
          refine tc_regh (S:=F*pt b2 (cl (su5 ((32768:Nat):Int) ((n:Nat):Int) (fi:Nat) (.slice a32 (adZ n g).length c32) (.slice none 0 0)) 25)*pt b8 (cl [.slice la n lc,.slice da n dc,.int .u64 ((rm:Nat):Int)] 38)*Sl 1 (.slice la n lc) n (bos (wasF n T.lv))*Sl 1 (.slice da n dc) n vm*pt b12 (cl [.slice na n nc,.slice xa n xc,.int .u64 ((nr:Nat):Int)] 38)*Sl 1 (.slice na n nc) n (bos (wasF n (updG (usedB T) q false)))*Sl 1 (.slice xa n xc) n xw*PLf h9p p9p l9p d9p 128 32768 (128+32768) n ((pz wp)) (T.give q) (some false) s*Z*pt b15 (cl (st13c t9.k t9.b t9.n t9.v t9.la t9.zs.length t9.lc) 42)) mo drqz ?_
          show TH _ _ _ _ _ 11 (Array.replicate 11 false) _ _
          refine tm 0 rfl kqz rfl (o_move wqz) ?_;refine Zgg ?_;refine tm 3 rfl kqz rfl (o_fieldAddr (o:=0) underlying38 rfl rfl sz34 rfl) ?_;refine tm 4 rfl kqz rfl (o_load p34 rfl hsqz rfl) ?_;refine tm 5 rfl kqz rfl (o_fieldAddr (o:=1) underlying42 rfl rfl sz3 rfl) ?_;refine tm 6 rfl kqz rfl (o_load p3 rfl hsqz rfl) ?_;refine tm 7 rfl kqz rfl (o_ixP1 (a:=la) (j:=q) underlying34 sz4 rfl (congrArg (Value.int .i64) hq) hqn (nn_rs (xs:=bos (wasF n T.lv)) sq0z (by rw [bos_length,wasF_len];omega))) ?_;refine tm 8 rfl kqz rfl (o_ldP (xs:=bos (wasF n T.lv)) p4 rfl sq0z (wasF_at hqn)) ?_;refine tm 9 rfl kqz rfl (o_ixP1 (a:=ga) (j:=q) underlying34 sz4 rfl (congrArg (Value.int .i64) hq) hqn (λ _ _ _=>hnn8)) ?_;refine th_one (i:=10) kqz ?_;refine oh_u rfl rfl rfl (o_stP (ys:=bos (wasF n (updG T.gv q (T.lv q)))) sz4 rfl rfl rfl ctqz oqz (wasF_set hqn)) drqz ?_;refine th_done kqz ?_;refine Zfa ?_;have hck:KOk true n (i+1) Z (T.give q) (some false) s ((pz wp)) wp T.lv vm rm n n n xw nr:=⟨hcal,hkm,give_lv.symm,λ h9=>(by cases h9),λ _=>⟨rfl,rfl,rfl,rfl,rfl,(hkn.cong give_f).sub (λ c hc=>by rw [used_give hok9] at hc;by_cases e:c=q;(simp [e] at hc);simpa [e] using hc),(good_give hgf).le (Nat.le_succ _)⟩⟩;exact ⟨_,by omega,i+1,true,wp,((pz wp)),(T.give q),(some false),s,Z,T.lv,la,lc,da,dc,vm,rm,na,n,nc,xa,n,xc,xw,nr,ga,n,gc,by omega,hck,rfl,rfl,rfl,rfl,rfl,rfl,rfl,rfl,rfl,(by rw [nowb_t (u:=(updG (usedB T) q false)) (v:=(updG T.gv q (T.lv q))) (used_give hok9) (gv_give hok9 hub)];simp only [←star_assoc];repeat (first|with_reducible exact dr_refl|apply dr_keep|apply dr_drop))⟩
        have huf9:u=false:=(by simpa using h);obtain rfl:T=T195:=by rcases hgc with ⟨h1,_,_⟩|⟨_,_,h3⟩;(rw [huf9] at h1;cases h1);exact h3
        refine Zg4 ?_;have hck:KOk true n (i+1) Z T (some false) s ((pz wp)) wp T.lv vm rm n n n xw nr:=⟨hcal,hkm,rfl,λ h9=>(by cases h9),λ _=>⟨rfl,rfl,rfl,rfl,rfl,hkn,hgf.le (Nat.le_succ _)⟩⟩;exact ⟨_,by omega,i+1,true,wp,((pz wp)),T,(some false),s,Z,T.lv,la,lc,da,dc,vm,rm,na,n,nc,xa,n,xc,xw,nr,ga,n,gc,by omega,hck,rfl,rfl,rfl,rfl,rfl,rfl,rfl,rfl,rfl,(by rw [nowb_t (u:=(usedB T)) (v:=T.gv) rfl rfl];simp only [←star_assoc];repeat (first|with_reducible exact dr_refl|apply dr_keep|apply dr_drop))⟩
      intro h;refine Zgy ?_;refine tc_cond rfl (sbq ?_) (sbq ?_)
      . intro h;refine Zb ?_;refine Z8 ?_;refine tl_c rfl (o_call bd16 rfl (ReadK (b:=t9.b) (h:=h9p) (p:=p9p) (lg:=l9p) (d:=d9p) (at_:=128) (sz:=32768) (ba:=128+32768) (n:=n) (wv:=((pz wp))) (T:=T) (s:=s) (hb:=hkb) (ho:=hoff))) ?_;rintro _ _ ⟨xs232,e232,a232,c232,hr232,rfl,hc232,rfl⟩;have hrc:=readW_c hu hr232;refine Zbs ?_;refine Zcy ?_;refine tc_cut (λ ρ BB=>ρ 274= .bool false/\ ρ 1= .slice sa ts.length sc/\ ρ 2=(pz b2)/\ ρ 6=(pz h9p)/\ ρ 8=(pz b8)/\ ρ 11=(pz wp)/\ ρ 12=(pz b12)/\ ρ 13= .slice ga n gc/\ ρ 14=(vn i)/\ Dr BB (F*pt b2 (cl (su5 ((32768:Nat):Int) ((n:Nat):Int) (fi:Nat) (.slice a32 (adZ n g).length c32) (.slice none 0 0)) 25)*pt b8 (cl [.slice la n lc,.slice da n dc,.int .u64 ((rm:Nat):Int)] 38)*Sl 1 (.slice la n lc) n (bos (wasF n T.lv))*Sl 1 (.slice da n dc) n vm*pt b12 (cl [.slice na n nc,.slice xa n xc,.int .u64 ((nr:Nat):Int)] 38)*Sl 1 (.slice na n nc) n (bos (wasF n (usedB T)))*Sl 1 (.slice xa n xc) n xw*Sl 1 (.slice ga n gc) n (bos (wasF n T.gv))*PLf h9p p9p l9p d9p 128 32768 (128+32768) n ((pz wp)) T (some false) s*Z*pt b15 (cl (st13c t9.k t9.b t9.n t9.v t9.la t9.zs.length t9.lc) 42))) ?_ ?_
        . skip
          refine Zdt ?_;refine tv (o_eqi rfl rfl) ?_;refine tl_env (d:=237) (v:= .bool u) (by rcases hrc with ⟨rfl,rfl,_⟩|⟨rfl,rfl,_⟩<;>rfl) ?_;refine tv (o_neb underlying4 rfl rfl) ?_;refine tl_env (d:=238) (v:= .bool false) (by cases u<;>rfl) ?_;refine tlm ?_;refine tl_bool (d:=239) rfl dbq (sbq ?_);intro h;refine tlm ?_;refine Zfy ?_;refine tl_bool (d:=242) rfl (λ h=> ?_) (sbq ?_)
          . have hu0:u=false:=(by simpa using h);refine tlm ?_;refine tv (o_nei rfl rfl) ?_;refine tl_env (d:=244) (v:= .bool u) (by rcases hrc with ⟨rfl,rfl,_⟩|⟨rfl,rfl,_⟩<;>rfl) ?_;refine tv (o_pick_t rfl wqz) ?_;refine tv (o_pick_f rfl wqz) ?_;refine tl_env (d:=246) (v:= .bool false) (by first|rfl|(rw [hu0];rfl)) ?_;refine tlm ?_;refine tl_bool (d:=247) rfl dbq (sbq ?_);intro h;refine Zbe ?_;refine tl_bool (d:=249) rfl (λ h=> ?_) (sbq ?_)
            . have hut9:u=true:=(by simpa using h);have hut:usedZ T t9.b=true:=(by rw [←hu];exact hut9);obtain ⟨hq0,hq1⟩:=(tok_wk hok9).lt hut;obtain ⟨q,hq⟩:=Int.eq_ofNat_of_zero_le hq0;have hqn:q<n:=(by rw [hXn] at hq1;omega);have hqt:t9.b.toNat=q:=(by omega);have hub:usedB T q=true:=(by rw [hq,usedZ_nat] at hut;exact hut);obtain rfl:conB T s (128+32768) q=xs232:=by rcases hrc with ⟨_,_,h3⟩|⟨h1,_,_⟩;(rw [hqt] at h3;exact h3.symm);(rw [hut9] at h1;cases h1)
              have hcl9:(conB T s (128+32768) q).length=256:=con_len (by rw [imgS_len hcal.wf,hls];omega);obtain ⟨v9,hv9,ra,rm9,rc9,rfl,hrow⟩:=hkn.da q hqn hub;refine Zcr ?_;refine tv (o_nei rfl rfl) ?_;refine tl_env (d:=252) (v:= .bool false) (by show Value.bool (decide (_≠_))=_;rw [hcl9];rfl) ?_;refine tlm ?_;refine tl_bool (d:=253) rfl dbq (sbq ?_);intro h;refine Z1 ?_;refine Z8 ?_;refine tv (o_ixP1 (a:=xa) (j:=q) underlying35 sz32 rfl (congrArg (Value.int .i64) hq) hqn (nn_rs (xs:=xw) sq0z (by rw [hkn.vl];omega))) ?_;refine tv (o_ldP (xs:=xw) p32 rfl sq0z hv9) ?_;refine Zhf ?_;refine tl_bool (d:=261) rfl (λ h=> ?_) (sbq ?_)
              . obtain ⟨rfl,hx8⟩:rm9=256/\ Rs Z ra (bys (conB T s (128+32768) q)):=by rcases hrow with h9|h9;(subst h9;exact absurd h (by decide));exact h9
                refine tlm ?_;refine Z1 ?_;refine Z8 ?_;refine tv (o_ixP1 (a:=xa) (j:=q) underlying35 sz32 rfl (congrArg (Value.int .i64) hq) hqn (nn_rs (xs:=xw) sq0z (by rw [hkn.vl];omega))) ?_;refine tv (o_ldP (xs:=xw) p32 rfl sq0z hv9) ?_;refine tl_c rfl (o_call bd17 rfl (EqBytes_c (xs:=conB T s (128+32768) q) (ys:=conB T s (128+32768) q) (h1:=(by repeat (first|with_reducible exact rs_sl|apply Rs.left))) (h2:=by repeat (first|exact hx8.right|apply Rs.left)) (hx:=rfl) (hy:=hcl9) (hn:=by omega) (hm:=by omega))) ?_;rintro _ _ ⟨rfl,rfl⟩;refine tl_env (d:=269) (v:= .bool true) (congrArg Value.bool (decide_eq_true rfl)) ?_;refine Zf1 ?_;refine Zg5 ?_;exact ⟨by first|rfl|(rw [show u=false by simpa using h];rfl),rfl,rfl,rfl,rfl,rfl,rfl,rfl,rfl,drqz⟩
              intro h;refine Zbf ?_;refine Ze5 ?_;refine tv (o_pick_f rfl wqz) ?_;refine Zg5 ?_;exact ⟨by first|rfl|(rw [show u=false by simpa using h];rfl),rfl,rfl,rfl,rfl,rfl,rfl,rfl,rfl,drqz⟩
            intro h;refine Zbf ?_;refine Zbf ?_;refine Zbf ?_;refine Zbf ?_;refine Zgn ?_;refine tv (o_pick_f rfl wqz) ?_;refine Zbh ?_;exact ⟨by first|rfl|(rw [show u=false by simpa using h];rfl),rfl,rfl,rfl,rfl,rfl,rfl,rfl,rfl,drqz⟩
          intro h;refine Zcp ?_;refine tv (o_pick_f rfl wqz) ?_;refine tl_env (d:=246) (v:= .bool false) (by first|rfl|(rw [hu0];rfl)) ?_;refine Zbe ?_;refine tlm ?_;refine tl_bool (d:=249) rfl (λ h=> ?_) (sbq ?_)
          . have hut9:u=true:=(by simpa using h);have hut:usedZ T t9.b=true:=(by rw [←hu];exact hut9);obtain ⟨hq0,hq1⟩:=(tok_wk hok9).lt hut;obtain ⟨q,hq⟩:=Int.eq_ofNat_of_zero_le hq0;have hqn:q<n:=(by rw [hXn] at hq1;omega);have hqt:t9.b.toNat=q:=(by omega);have hub:usedB T q=true:=(by rw [hq,usedZ_nat] at hut;exact hut);obtain rfl:conB T s (128+32768) q=xs232:=by rcases hrc with ⟨_,_,h3⟩|⟨h1,_,_⟩;(rw [hqt] at h3;exact h3.symm);(rw [hut9] at h1;cases h1)
            have hcl9:(conB T s (128+32768) q).length=256:=con_len (by rw [imgS_len hcal.wf,hls];omega);obtain ⟨v9,hv9,ra,rm9,rc9,rfl,hrow⟩:=hkn.da q hqn hub;refine Zcr ?_;refine tv (o_nei rfl rfl) ?_;refine tl_env (d:=252) (v:= .bool false) (by show Value.bool (decide (_≠_))=_;rw [hcl9];rfl) ?_;refine tlm ?_;refine tl_bool (d:=253) rfl dbq (sbq ?_);intro h;refine Z1 ?_;refine Z8 ?_;refine tv (o_ixP1 (a:=xa) (j:=q) underlying35 sz32 rfl (congrArg (Value.int .i64) hq) hqn (nn_rs (xs:=xw) sq0z (by rw [hkn.vl];omega))) ?_;refine tv (o_ldP (xs:=xw) p32 rfl sq0z hv9) ?_;refine Zhf ?_;refine tl_bool (d:=261) rfl (λ h=> ?_) (sbq ?_)
            . obtain ⟨rfl,hx8⟩:rm9=256/\ Rs Z ra (bys (conB T s (128+32768) q)):=by rcases hrow with h9|h9;(subst h9;exact absurd h (by decide));exact h9
              refine tlm ?_;refine Z1 ?_;refine Z8 ?_;refine tv (o_ixP1 (a:=xa) (j:=q) underlying35 sz32 rfl (congrArg (Value.int .i64) hq) hqn (nn_rs (xs:=xw) sq0z (by rw [hkn.vl];omega))) ?_;refine tv (o_ldP (xs:=xw) p32 rfl sq0z hv9) ?_;refine tl_c rfl (o_call bd17 rfl (EqBytes_c (xs:=conB T s (128+32768) q) (ys:=conB T s (128+32768) q) (h1:=(by repeat (first|with_reducible exact rs_sl|apply Rs.left))) (h2:=by repeat (first|exact hx8.right|apply Rs.left)) (hx:=rfl) (hy:=hcl9) (hn:=by omega) (hm:=by omega))) ?_;rintro _ _ ⟨rfl,rfl⟩;refine tl_env (d:=269) (v:= .bool true) (congrArg Value.bool (decide_eq_true rfl)) ?_;refine Zf1 ?_;refine Zg5 ?_;exact ⟨by first|rfl|(rw [show u=false by simpa using h];rfl),rfl,rfl,rfl,rfl,rfl,rfl,rfl,rfl,drqz⟩
            intro h;refine Zbf ?_;refine Ze5 ?_;refine tv (o_pick_f rfl wqz) ?_;refine Zg5 ?_;exact ⟨by first|rfl|(rw [show u=false by simpa using h];rfl),rfl,rfl,rfl,rfl,rfl,rfl,rfl,rfl,drqz⟩
          intro h;refine Zbf ?_;refine Zbf ?_;refine Zbf ?_;refine Zbf ?_;refine Zgn ?_;refine tv (o_pick_f rfl wqz) ?_;refine Zbh ?_;exact ⟨by first|rfl|(rw [show u=false by simpa using h];rfl),rfl,rfl,rfl,rfl,rfl,rfl,rfl,rfl,drqz⟩
        intro ρ B hI;obtain ⟨hE274,hE1,hE2,hE6,hE8,hE11,hE12,hE13,hE14,hBA⟩:=hI;refine q_then_n ?_;refine tc_pre hBA.sat ?_;clear hBA;refine te 274 hE274 ?_;refine te 1 hE1 ?_;refine te 2 hE2 ?_;refine te 6 hE6 ?_;refine te 8 hE8 ?_;refine te 11 hE11 ?_;refine te 12 hE12 ?_;refine te 13 hE13 ?_;refine te 14 hE14 ?_;refine tc_cond rfl dbq (sbq ?_);intro h;refine Zg4 ?_;have hck:KOk true n (i+1) Z T (some false) s ((pz wp)) wp T.lv vm rm n n n xw nr:=⟨hcal,hkm,rfl,λ h9=>(by cases h9),λ _=>⟨rfl,rfl,rfl,rfl,rfl,hkn,hgf.le (Nat.le_succ _)⟩⟩;exact ⟨_,by omega,i+1,true,wp,((pz wp)),T,(some false),s,Z,T.lv,la,lc,da,dc,vm,rm,na,n,nc,xa,n,xc,xw,nr,ga,n,gc,by omega,hck,rfl,rfl,rfl,rfl,rfl,rfl,rfl,rfl,rfl,(by rw [nowb_t (u:=(usedB T)) (v:=T.gv) rfl rfl];simp only [←star_assoc];repeat (first|with_reducible exact dr_refl|apply dr_keep|apply dr_drop))⟩
      intro h;refine Zgy ?_;refine tc_cond rfl (sbq ?_) (sbq ?_)
      . intro h;refine sr ?_;refine tv (o_fieldAddr (o:=2) underlying42 rfl rfl sz3 rfl) ?_;refine tl_u rfl (o_stU (l':=(st13c t9.k t9.b 256 t9.v t9.la t9.zs.length t9.lc)) rfl upqz sz3 rfl rfl (by show 2<5;decide) rfl) ?_;refine Zdx ?_;refine tc_regh (S:=F*pt b2 (cl (su5 ((32768:Nat):Int) ((n:Nat):Int) (fi:Nat) (.slice a32 (adZ n g).length c32) (.slice none 0 0)) 25)*pt b8 (cl [.slice la n lc,.slice da n dc,.int .u64 ((rm:Nat):Int)] 38)*Sl 1 (.slice la n lc) n (bos (wasF n T.lv))*Sl 1 (.slice da n dc) n vm*pt b12 (cl [.slice na n nc,.slice xa n xc,.int .u64 ((nr:Nat):Int)] 38)*Sl 1 (.slice na n nc) n (bos (wasF n (usedB T)))*Sl 1 (.slice xa n xc) n xw*Sl 1 (.slice ga n gc) n (bos (wasF n T.gv))*Z*pt b15 (cl (st13c t9.k t9.b 256 t9.v t9.la t9.zs.length t9.lc) 42)) mo drqz ?_
        show TH _ _ _ _ _ 7 (Array.replicate 7 false) _ _
        refine tm 0 rfl kqz rfl (o_move wqz) ?_;refine Zgg ?_;refine tm 3 rfl kqz rfl (o_loadN (vs:=(st13c t9.k t9.b 256 t9.v t9.la t9.zs.length t9.lc)) a42 sz42 rfl hsqz (by exact Nat.le_refl 5) rfl) ?_;refine th_one (i:=4) kqz ?_;refine oh_c rfl rfl rfl (o_call bd19 rfl (data13_c)) ?_;rintro _ _ ⟨a284,c284,rfl,hc284,rfl⟩;refine Zgr ?_;refine oh_c rfl rfl rfl (o_call bd18 rfl (WriteK (b:=t9.b) (xs:=dataS 256 t9.v) (h:=h9p) (p:=p9p) (lg:=l9p) (d:=d9p) (at_:=128) (sz:=32768) (ba:=128+32768) (n:=n) (wv:=((pz wp))) (T:=T) (s:=s) (hb:=hkb) (ho:=hoff) (hr:=by repeat (first|with_reducible exact rs_sl|apply Rs.left)) (hxl:=rfl) (hxb:=dataS_lt 256 t9.v))) ?_;rintro _ _ ⟨e285,T285,hg285,rfl,rfl⟩;refine ⟨by repeat (first|with_reducible exact dr_refl|apply dr_keep|apply dr_drop), ?_⟩;have hwc2:=writeW_c hu (data256 t9.v) hg285;refine tm 6 rfl kqz rfl (o_assign wqz) ?_;refine Zb3 ?_;refine tc_seq ?_;refine tc_seq ?_;refine tc_cut (λ ρ BB=>ρ 297= .bool false/\ ρ 1= .slice sa ts.length sc/\ ρ 2=(pz b2)/\ ρ 6=(pz h9p)/\ ρ 8=(pz b8)/\ ρ 11=(pz wp)/\ ρ 12=(pz b12)/\ ρ 13= .slice ga n gc/\ ρ 14=(vn i)/\ ρ 15=(pz b15)/\ ρ 16= .bool u/\ Dr BB (F*pt b2 (cl (su5 ((32768:Nat):Int) ((n:Nat):Int) (fi:Nat) (.slice a32 (adZ n g).length c32) (.slice none 0 0)) 25)*pt b8 (cl [.slice la n lc,.slice da n dc,.int .u64 ((rm:Nat):Int)] 38)*Sl 1 (.slice la n lc) n (bos (wasF n T.lv))*Sl 1 (.slice da n dc) n vm*pt b12 (cl [.slice na n nc,.slice xa n xc,.int .u64 ((nr:Nat):Int)] 38)*Sl 1 (.slice na n nc) n (bos (wasF n (usedB T)))*Sl 1 (.slice xa n xc) n xw*Sl 1 (.slice ga n gc) n (bos (wasF n T.gv))*PLf h9p p9p l9p d9p 128 32768 (128+32768) n ((pz wp)) T285 (some false) s*Z*pt b15 (cl (st13c t9.k t9.b 256 t9.v t9.la t9.zs.length t9.lc) 42))) ?_ ?_
        . skip
          refine Zdt ?_;refine tv (o_eqi rfl rfl) ?_;refine tl_env (d:=288) (v:= .bool u) (by rcases hwc2 with ⟨rfl,rfl,_⟩|⟨rfl,rfl,_⟩<;>rfl) ?_;refine tv (o_neb underlying4 rfl rfl) ?_;refine tl_env (d:=289) (v:= .bool false) (by cases u<;>rfl) ?_;refine tlm ?_;refine tl_bool (d:=290) rfl dbq (sbq ?_);intro h;refine tlm ?_;refine Zfy ?_;refine tl_bool (d:=293) rfl (sbq ?_) (sbq ?_)
          . intro h;refine tlm ?_;refine tv (o_nei rfl rfl) ?_;refine tl_env (d:=295) (v:= .bool u) (by rcases hwc2 with ⟨rfl,rfl,_⟩|⟨rfl,rfl,_⟩<;>rfl) ?_;refine Zd5 ?_;exact ⟨by first|rfl|(rw [show u=false by simpa using h];rfl),rfl,rfl,rfl,rfl,rfl,rfl,rfl,rfl,rfl,rfl,drqz⟩
          intro h;refine Zcp ?_;refine Zbh ?_;exact ⟨by first|rfl|(rw [show u=false by simpa using h];rfl),rfl,rfl,rfl,rfl,rfl,rfl,rfl,rfl,rfl,rfl,drqz⟩
        intro ρ B hI;obtain ⟨hE297,hE1,hE2,hE6,hE8,hE11,hE12,hE13,hE14,hE15,hE16,hBA⟩:=hI;refine q_then_n ?_;refine tc_pre hBA.sat ?_;clear hBA;refine te 297 hE297 ?_;refine te 1 hE1 ?_;refine te 2 hE2 ?_;refine te 6 hE6 ?_;refine te 8 hE8 ?_;refine te 11 hE11 ?_;refine te 12 hE12 ?_;refine te 13 hE13 ?_;refine te 14 hE14 ?_;refine te 15 hE15 ?_;refine te 16 hE16 ?_;refine tc_cond rfl dbq (sbq ?_);intro h;refine Zb4 ?_;refine nq ?_;refine tc_cond rfl (λ h=> ?_) (λ h=> ?_)
        . have hut9:u=true:=(by simpa using h);have hut:usedZ T t9.b=true:=(by rw [←hu];exact hut9);obtain ⟨hq0,hq1⟩:=(tok_wk hok9).lt hut;obtain ⟨q,hq⟩:=Int.eq_ofNat_of_zero_le hq0;have hqn:q<n:=(by rw [hXn] at hq1;omega);have hqt:t9.b.toNat=q:=(by omega);have hub:usedB T q=true:=(by rw [hq,usedZ_nat] at hut;exact hut);obtain rfl:T.write (128+32768) q (dataS 256 t9.v)=T285:=by rcases hwc2 with ⟨_,_,h3⟩|⟨h1,_,_⟩;(rw [hqt] at h3;exact h3.symm);(rw [hut9] at h1;cases h1)
          have hin9:128+32768+256*q+256<=(imgS s).length:=(by rw [imgS_len hcal.wf,hls];omega);refine tc_have (λ g9 w9 h9=>nn_rs (A:=F*pt b2 (cl (su5 ((32768:Nat):Int) ((n:Nat):Int) (fi:Nat) (.slice a32 (adZ n g).length c32) (.slice none 0 0)) 25)*pt b8 (cl [.slice la n lc,.slice da n dc,.int .u64 ((rm:Nat):Int)] 38)*Sl 1 (.slice la n lc) n (bos (wasF n T.lv))*Sl 1 (.slice da n dc) n vm*pt b12 (cl [.slice na n nc,.slice xa n xc,.int .u64 ((nr:Nat):Int)] 38)*Sl 1 (.slice na n nc) n (bos (wasF n (usedB T)))*Sl 1 (.slice xa n xc) n xw*Sl 1 (.slice ga n gc) n (bos (wasF n T.gv))*PLf h9p p9p l9p d9p 128 32768 (128+32768) n ((pz wp)) (T.write (128+32768) q (dataS 256 t9.v)) (some false) s*Z*pt b15 (cl (st13c t9.k t9.b 256 t9.v t9.la t9.zs.length t9.lc) 42)) (a:=xa) (m:=n) (xs:=xw) sq0z (by rw [hkn.vl];omega) g9 w9 h9) λ hnn8=> ?_
          refine tc_regh (S:=F*pt b2 (cl (su5 ((32768:Nat):Int) ((n:Nat):Int) (fi:Nat) (.slice a32 (adZ n g).length c32) (.slice none 0 0)) 25)*pt b8 (cl [.slice la n lc,.slice da n dc,.int .u64 ((rm:Nat):Int)] 38)*Sl 1 (.slice la n lc) n (bos (wasF n T.lv))*Sl 1 (.slice da n dc) n vm*pt b12 (cl [.slice na n nc,.slice xa n xc,.int .u64 ((nr:Nat):Int)] 38)*Sl 1 (.slice na n nc) n (bos (wasF n (usedB T)))*Sl 1 (.slice ga n gc) n (bos (wasF n T.gv))*PLf h9p p9p l9p d9p 128 32768 (128+32768) n ((pz wp)) (T.write (128+32768) q (dataS 256 t9.v)) (some false) s*Z*pt b15 (cl (st13c t9.k t9.b 256 t9.v t9.la t9.zs.length t9.lc) 42)) mo drqz ?_
          show TH _ _ _ _ _ 8 (Array.replicate 8 false) _ _
          refine Zgc ?_;refine tm 2 rfl kqz rfl (o_fieldAddr (o:=1) underlying42 rfl rfl sz3 rfl) ?_;refine tm 3 rfl kqz rfl (o_load p3 rfl hsqz rfl) ?_;refine tm 4 rfl kqz rfl (o_loadN (vs:=(st13c t9.k t9.b 256 t9.v t9.la t9.zs.length t9.lc)) a42 sz42 rfl hsqz (by exact Nat.le_refl 5) rfl) ?_;refine th_one (i:=5) kqz ?_;refine oh_c rfl rfl rfl (o_call bd19 rfl (data13_c)) ?_;rintro _ _ ⟨a304,c304,rfl,hc304,rfl⟩;refine ⟨by repeat (first|with_reducible exact dr_refl|apply dr_keep|apply dr_drop), ?_⟩;refine tm 6 rfl kqz rfl (o_ixP1 (a:=xa) (j:=q) underlying35 sz32 rfl (congrArg (Value.int .i64) hq) hqn (λ _ _ _=>hnn8)) ?_;refine th_one (i:=7) kqz ?_;refine oh_u rfl rfl rfl (o_stP (ys:=xw.set q (.slice a304 (dataS 256 t9.v).length c304)) sz32 rfl rfl rfl ctqz oqz rfl) drqz ?_;refine th_done kqz ?_;refine Zfa ?_;have hck:KOk true n (i+1) (Z*Sl 1 (.slice a304 (dataS 256 t9.v).length c304) (dataS 256 t9.v).length (bys (dataS 256 t9.v))) (T.write (128+32768) q (dataS 256 t9.v)) (some false) s ((pz wp)) wp T.lv vm rm n n n (xw.set q (.slice a304 (dataS 256 t9.v).length c304)) nr:=⟨hcal,hkm.left,rfl,λ h9=>(by cases h9),λ _=>⟨rfl,rfl,rfl,rfl,rfl,hkn.left.put hqn rfl ⟨a304,_,c304,rfl,.inr ⟨data256 _,by rw [con_write (data256 _) hin9,if_pos rfl];exact rs_sl⟩⟩ (λ c hc=>by rw [con_write (data256 _) hin9,if_neg hc]) (λ c _ hg=>hg) (root_write (by decide)),good_write hgf hqn (data256 _)⟩⟩;exact ⟨_,by omega,i+1,true,wp,((pz wp)),(T.write (128+32768) q (dataS 256 t9.v)),(some false),s,(Z*Sl 1 (.slice a304 (dataS 256 t9.v).length c304) (dataS 256 t9.v).length (bys (dataS 256 t9.v))),T.lv,la,lc,da,dc,vm,rm,na,n,nc,xa,n,xc,(xw.set q (.slice a304 (dataS 256 t9.v).length c304)),nr,ga,n,gc,by omega,hck,rfl,rfl,rfl,rfl,rfl,rfl,rfl,rfl,rfl,(by rw [nowb_t (u:=(usedB T)) (v:=T.gv) used_write rfl];simp only [←star_assoc];repeat (first|with_reducible exact dr_refl|apply dr_keep|apply dr_drop))⟩
        have huf9:u=false:=(by simpa using h);obtain rfl:T=T285:=by rcases hwc2 with ⟨h1,_,_⟩|⟨_,_,h3⟩;(rw [huf9] at h1;cases h1);exact h3
        refine Zg4 ?_;have hck:KOk true n (i+1) Z T (some false) s ((pz wp)) wp T.lv vm rm n n n xw nr:=⟨hcal,hkm,rfl,λ h9=>(by cases h9),λ _=>⟨rfl,rfl,rfl,rfl,rfl,hkn,hgf.le (Nat.le_succ _)⟩⟩;exact ⟨_,by omega,i+1,true,wp,((pz wp)),T,(some false),s,Z,T.lv,la,lc,da,dc,vm,rm,na,n,nc,xa,n,xc,xw,nr,ga,n,gc,by omega,hck,rfl,rfl,rfl,rfl,rfl,rfl,rfl,rfl,rfl,(by rw [nowb_t (u:=(usedB T)) (v:=T.gv) rfl rfl];simp only [←star_assoc];repeat (first|with_reducible exact dr_refl|apply dr_keep|apply dr_drop))⟩
      intro h;refine Zgy ?_;refine tc_cond rfl (sbq ?_) (sbq ?_)
      . intro h;refine Zb ?_;refine tl_c rfl (o_call bd20 rfl (RootK (h:=h9p) (p:=p9p) (lg:=l9p) (d:=d9p) (at_:=128) (sz:=32768) (ba:=128+32768) (n:=n) (wv:=((pz wp))) (T:=T) (s:=s) (hb:=hkb) (ho:=hoff))) ?_;rintro _ _ ⟨rfl,rfl⟩;refine Zer ?_;refine Zc7 ?_;refine tl_bool (d:=317) rfl dbq (sbq ?_);intro h;refine tlm ?_;refine Zem ?_;refine tv (o_nei rfl rfl) ?_;refine tl_env (d:=321) (v:= .bool false) (by show Value.bool (decide (_≠_))=_;rw [hkn.ro];simp) ?_;refine Zc0 ?_;intro h;refine Zg4 ?_;have hck:KOk true n (i+1) Z T (some false) s ((pz wp)) wp T.lv vm rm n n n xw nr:=⟨hcal,hkm,rfl,λ h9=>(by cases h9),λ _=>⟨rfl,rfl,rfl,rfl,rfl,hkn,hgf.le (Nat.le_succ _)⟩⟩;exact ⟨_,by omega,i+1,true,wp,((pz wp)),T,(some false),s,Z,T.lv,la,lc,da,dc,vm,rm,na,n,nc,xa,n,xc,xw,nr,ga,n,gc,by omega,hck,rfl,rfl,rfl,rfl,rfl,rfl,rfl,rfl,rfl,(by rw [nowb_t (u:=(usedB T)) (v:=T.gv) rfl rfl];simp only [←star_assoc];repeat (first|with_reducible exact dr_refl|apply dr_keep|apply dr_drop))⟩
      intro h;refine Zgy ?_;refine tc_cond rfl (sbq ?_) (sbq ?_)
      . intro h;refine sr ?_;refine Zel ?_;refine tv (o_fieldAddr (o:=2) underlying38 rfl rfl sz36 rfl) ?_;refine tl_u rfl (o_stU (l':=[.slice na n nc,.slice xa n xc,.int .u64 ((t9.v:Nat):Int)]) rfl upqz sz36 rfl rfl (by show 2<3;decide) rfl) ?_;refine nq ?_;refine Zb ?_;refine Zel ?_;refine tl_c rfl (o_call bd21 rfl (SetRootK (z:=t9.v) (h:=h9p) (p:=p9p) (lg:=l9p) (d:=d9p) (at_:=128) (sz:=32768) (ba:=128+32768) (n:=n) (wv:=((pz wp))) (T:=T) (s:=s) (hb:=hkb) (ho:=hoff) (hv:=hw9.v))) ?_;rintro _ _ ⟨rfl,rfl⟩;refine Zy ?_;intro h;refine Zg4 ?_;have hck:KOk true n (i+1) Z (T.root t9.v) (some false) s ((pz wp)) wp T.lv vm rm n n n xw t9.v:=⟨hcal,hkm,rfl,λ h9=>(by cases h9),λ _=>⟨rfl,rfl,rfl,rfl,rfl,⟨hkn.vl,hkn.on,λ b hb hg=>(by rw [con_root (by decide)];exact hkn.da b hb hg),(root_root (by rw [imgS_len hcal.wf,hls];omega) hw9.v).symm⟩,good_root hgf⟩⟩;exact ⟨_,by omega,i+1,true,wp,((pz wp)),(T.root t9.v),(some false),s,Z,T.lv,la,lc,da,dc,vm,rm,na,n,nc,xa,n,xc,xw,t9.v,ga,n,gc,by omega,hck,rfl,rfl,rfl,rfl,rfl,rfl,rfl,rfl,rfl,(by rw [nowb_t (u:=(usedB T)) (v:=T.gv) used_root rfl];simp only [←star_assoc];repeat (first|with_reducible exact dr_refl|apply dr_keep|apply dr_drop))⟩
      intro h;refine Zgy ?_;refine tc_cond rfl (sbq ?_) (sbq ?_)
      . intro h;refine Zd ?_;refine tl_c rfl (o_call bd22 rfl (CommitK (h:=h9p) (p:=p9p) (l9:=l9p) (d:=d9p) (lg:=32768) (n:=n) (wv:=((pz wp))) (T:=T) (s:=s) (hb:=hkb) (h1:=rfl) (h2:=hn) (hcal:=hcal) (hok:=hok9) (hg:=hgf) (hk:=by omega))) ?_;rintro _ _ ⟨s340,⟨hcal2,hcon2,hro2⟩,rfl,rfl⟩;refine Zy ?_;intro h;refine Zc ?_;refine Zgj ?_;refine Zej ?_;refine tc_loop (λ kk ρ BB=>∃ (c9:Nat) (ws:List Value),(c9<=n)/\ (ws.length=n)/\ (ws.all oneC=true)/\ (∀b,b<n->usedB T b=true->ws[b]? =xw[b]?)/\ kk=n-c9/\ ρ 29=(vn c9)/\ ρ 1= .slice sa ts.length sc/\ ρ 2=(pz b2)/\ ρ 6=(pz h9p)/\ ρ 8=(pz b8)/\ ρ 11= .pointer none/\ ρ 12=(pz b12)/\ ρ 13= .slice ga n gc/\ ρ 14=(vn i)/\ Dr BB (F*pt b2 (cl (su5 ((32768:Nat):Int) ((n:Nat):Int) (fi:Nat) (.slice a32 (adZ n g).length c32) (.slice none 0 0)) 25)*pt b8 (cl [.slice la n lc,.slice da n dc,.int .u64 ((rm:Nat):Int)] 38)*Sl 1 (.slice la n lc) n (bos (wasF n T.lv))*Sl 1 (.slice da n dc) n vm*pt b12 (cl [.slice na n nc,.slice xa n xc,.int .u64 ((nr:Nat):Int)] 38)*Sl 1 (.slice na n nc) n (bos (wasF n (usedB T)))*Sl 1 (.slice xa n xc) n ws*Sl 1 (.slice ga n gc) n (bos (wasF n T.gv))*PLf h9p p9p l9p d9p 128 32768 (128+32768) n ((pz wp)) { T with lv:=usedB T } (some true) s340*Z*pt b15 (cl (st13c t9.k t9.b t9.n t9.v t9.la t9.zs.length t9.lc) 42))) (m:=n-(0)) ?_ ?_
        . exact ⟨0,xw,Nat.zero_le _,hkn.vl,hkn.on,λ b _ _=>rfl,rfl,rfl,rfl,rfl,rfl,rfl,rfl,rfl,rfl,rfl,drqz⟩
        intro k ρ B hI;obtain ⟨c9,ws,hp0,hp1,hp2,hp3,hkk5,hE29,hE1,hE2,hE6,hE8,hE11,hE12,hE13,hE14,hBA⟩:=hI;refine tc_pre hBA.sat ?_;clear hBA;refine te 29 hE29 ?_;refine te 1 hE1 ?_;refine te 2 hE2 ?_;refine te 6 hE6 ?_;refine te 8 hE8 ?_;refine te 11 hE11 ?_;refine te 12 hE12 ?_;refine te 13 hE13 ?_;refine te 14 hE14 ?_;refine Zd ?_;refine Zfm ?_;refine Zr ?_;refine tc_cond rfl (λ h=> ?_) (λ h=> ?_)
        . have hk9:c9<n:=(by first|omega|(simp at h;omega));refine Zd6 ?_;refine Z5 ?_;refine tlm ?_;refine tv (o_ixP1 (a:=na) (j:=c9) underlying34 sz4 rfl rfl oqz (nn_rs (xs:=bos (wasF n (usedB T))) sq0z (by rw [bos_length,wasF_len];omega))) ?_;refine tv (o_ldP (xs:=bos (wasF n (usedB T))) p4 rfl sq0z (wasF_at hk9)) ?_;refine Zg0 ?_;refine tc_cond rfl (λ h=> ?_) (sbq ?_)
          . have hu7:usedB T c9=false:=(by simpa using h);refine tc_reg ?_;refine Z1 ?_;refine tlm ?_;refine tv (o_ixP1 (a:=xa) (j:=c9) underlying35 sz32 rfl rfl oqz (nn_rs (xs:=ws) sq0z (by rw [hp1];omega))) ?_;refine tl_u rfl (o_stP (ys:=ws.set c9 (.slice none 0 0)) sz32 rfl rfl rfl ctqz oqz rfl) ?_;refine Zc9 ?_;refine Zdh ?_;exact ⟨_,by omega,c9+1,ws.set c9 (.slice none 0 0),by omega,by rw [List.length_set];exact hp1,all_put hp2 rfl,λ b hb hg=>(by rw [List.getElem?_set_ne (by rintro rfl;rw [hu7] at hg;cases hg)];exact hp3 b hb hg),rfl,rfl,rfl,rfl,rfl,rfl,rfl,rfl,rfl,rfl,drqz⟩
          intro h;refine Zf4 ?_;exact ⟨_,by omega,c9+1,ws,by omega,hp1,hp2,hp3,rfl,rfl,rfl,rfl,rfl,rfl,rfl,rfl,rfl,rfl,drqz⟩
        obtain rfl:n=c9:=by first|omega|(simp at h;omega)
        refine Zh ?_;refine tc_reg ?_;refine tv (o_loadN (vs:=[.slice na n nc,.slice xa n xc,.int .u64 ((nr:Nat):Int)]) a38 sz38 rfl hsqz (by exact Nat.le_refl 3) rfl) ?_;refine tl_u rfl (o_stUN (l':=[.slice na n nc,.slice xa n xc,.int .u64 ((nr:Nat):Int)]) rfl upqz sz38 rfl rfl rfl (by exact Nat.le_refl 3) rfl) ?_;refine tl_nil ?_;refine Zfa ?_;have hck:KOk false n (i+1) Z { T with lv:=usedB T } (some true) s340 ((pz wp)) 0 (usedB T) ws nr n n n xw nr:=⟨hcal2,(hkn.agree hp1 hp2 hp3).to (λ b hb=>hcon2 _ b hb) (hro2 _),rfl,λ _=>rfl,λ h9=>(by cases h9)⟩;exact ⟨_,by omega,i+1,false,0,((pz wp)),{ T with lv:=usedB T },(some true),s340,Z,(usedB T),na,nc,xa,xc,ws,nr,na,n,nc,xa,n,xc,xw,nr,ga,n,gc,by omega,hck,rfl,rfl,rfl,rfl,rfl,rfl,rfl,rfl,rfl,⟨Sl 1 (.slice la n lc) n (bos (wasF n T.lv))*Sl 1 (.slice da n dc) n vm*Sl 1 (.slice ga n gc) n (bos (wasF n T.gv))*pt b15 (cl (st13c t9.k t9.b t9.n t9.v t9.la t9.zs.length t9.lc) 42),by rw [nowb_f,star_emp];ac_rfl⟩⟩
      intro h;refine Zgy ?_;refine tc_cond rfl (sbq ?_) (sbq ?_)
      . intro h;refine Zd ?_;refine tl_c rfl (o_call bd23 rfl (DropK (h:=h9p) (p:=p9p) (lg:=l9p) (d:=d9p) (at_:=128) (sz:=32768) (ba:=128+32768) (n:=n) (wv:=((pz wp))) (T:=T) (s:=s) (hb:=hkb) (ho:=hoff))) ?_;rintro _ _ ⟨rfl,rfl⟩;refine Zy ?_;intro h;refine Zc ?_;refine Zb5 ?_;refine Zej ?_;refine tc_loop (λ kk ρ BB=>∃ (c9:Nat) (ws:List Value),(c9<=n)/\ (ws.length=n)/\ (ws.all oneC=true)/\ (∀b,b<n->T.lv b=true->ws[b]? =vm[b]?)/\ kk=n-c9/\ ρ 30=(vn c9)/\ ρ 1= .slice sa ts.length sc/\ ρ 2=(pz b2)/\ ρ 6=(pz h9p)/\ ρ 8=(pz b8)/\ ρ 11= .pointer none/\ ρ 12=(pz b12)/\ ρ 13= .slice ga n gc/\ ρ 14=(vn i)/\ Dr BB (F*pt b2 (cl (su5 ((32768:Nat):Int) ((n:Nat):Int) (fi:Nat) (.slice a32 (adZ n g).length c32) (.slice none 0 0)) 25)*pt b8 (cl [.slice la n lc,.slice da n dc,.int .u64 ((rm:Nat):Int)] 38)*Sl 1 (.slice la n lc) n (bos (wasF n T.lv))*Sl 1 (.slice da n dc) n ws*pt b12 (cl [.slice na n nc,.slice xa n xc,.int .u64 ((nr:Nat):Int)] 38)*Sl 1 (.slice na n nc) n (bos (wasF n (usedB T)))*Sl 1 (.slice xa n xc) n xw*Sl 1 (.slice ga n gc) n (bos (wasF n T.gv))*PLf h9p p9p l9p d9p 128 32768 (128+32768) n ((pz wp)) T (some true) s*Z*pt b15 (cl (st13c t9.k t9.b t9.n t9.v t9.la t9.zs.length t9.lc) 42))) (m:=n-(0)) ?_ ?_
        . exact ⟨0,vm,Nat.zero_le _,hkm.vl,hkm.on,λ b _ _=>rfl,rfl,rfl,rfl,rfl,rfl,rfl,rfl,rfl,rfl,rfl,drqz⟩
        intro k ρ B hI;obtain ⟨c9,ws,hp0,hp1,hp2,hp3,hkk6,hE30,hE1,hE2,hE6,hE8,hE11,hE12,hE13,hE14,hBA⟩:=hI;refine tc_pre hBA.sat ?_;clear hBA;refine te 30 hE30 ?_;refine te 1 hE1 ?_;refine te 2 hE2 ?_;refine te 6 hE6 ?_;refine te 8 hE8 ?_;refine te 11 hE11 ?_;refine te 12 hE12 ?_;refine te 13 hE13 ?_;refine te 14 hE14 ?_;refine Zd ?_;refine Zfm ?_;refine Zr ?_;refine tc_cond rfl (λ h=> ?_) (λ h=> ?_)
        . have hk9:c9<n:=(by first|omega|(simp at h;omega));refine Zd6 ?_;refine Z5 ?_;refine tlm ?_;refine tv (o_ixP1 (a:=la) (j:=c9) underlying34 sz4 rfl rfl oqz (nn_rs (xs:=bos (wasF n T.lv)) sq0z (by rw [bos_length,wasF_len];omega))) ?_;refine tv (o_ldP (xs:=bos (wasF n T.lv)) p4 rfl sq0z (wasF_at hk9)) ?_;refine Zg0 ?_;refine tc_cond rfl (λ h=> ?_) (sbq ?_)
          . have hu7:T.lv c9=false:=(by simpa using h);refine tc_reg ?_;refine Z1 ?_;refine tlm ?_;refine tv (o_ixP1 (a:=da) (j:=c9) underlying35 sz32 rfl rfl oqz (nn_rs (xs:=ws) sq0z (by rw [hp1];omega))) ?_;refine tl_u rfl (o_stP (ys:=ws.set c9 (.slice none 0 0)) sz32 rfl rfl rfl ctqz oqz rfl) ?_;refine Zc9 ?_;refine Zdh ?_;exact ⟨_,by omega,c9+1,ws.set c9 (.slice none 0 0),by omega,by rw [List.length_set];exact hp1,all_put hp2 rfl,λ b hb hg=>(by rw [List.getElem?_set_ne (by rintro rfl;rw [hu7] at hg;cases hg)];exact hp3 b hb hg),rfl,rfl,rfl,rfl,rfl,rfl,rfl,rfl,rfl,rfl,drqz⟩
          intro h;refine Zf4 ?_;exact ⟨_,by omega,c9+1,ws,by omega,hp1,hp2,hp3,rfl,rfl,rfl,rfl,rfl,rfl,rfl,rfl,rfl,rfl,drqz⟩
        obtain rfl:n=c9:=by first|omega|(simp at h;omega)
        refine tc_exit ?_;refine q_then_e (q_then_e (q_block_x (q_block_n (q_block_n (q_then_n ?_)))));refine Zu ?_;refine Zbm ?_;have hck:KOk false n (i+1) Z T (some true) s ((pz wp)) 0 T.lv ws rm n n n xw nr:=⟨hcal,hkm.agree hp1 hp2 hp3,rfl,λ _=>rfl,λ h9=>(by cases h9)⟩;exact ⟨_,by omega,i+1,false,0,((pz wp)),T,(some true),s,Z,T.lv,la,lc,da,dc,ws,rm,na,n,nc,xa,n,xc,xw,nr,ga,n,gc,by omega,hck,rfl,rfl,rfl,rfl,rfl,rfl,rfl,rfl,rfl,(by rw [nowb_f,star_emp];repeat (first|with_reducible exact dr_refl|apply dr_keep|apply dr_drop))⟩
      intro h;refine Zg4 ?_;have hck:KOk true n (i+1) Z T (some false) s ((pz wp)) wp T.lv vm rm n n n xw nr:=⟨hcal,hkm,rfl,λ h9=>(by cases h9),λ _=>⟨rfl,rfl,rfl,rfl,rfl,hkn,hgf.le (Nat.le_succ _)⟩⟩;exact ⟨_,by omega,i+1,true,wp,((pz wp)),T,(some false),s,Z,T.lv,la,lc,da,dc,vm,rm,na,n,nc,xa,n,xc,xw,nr,ga,n,gc,by omega,hck,rfl,rfl,rfl,rfl,rfl,rfl,rfl,rfl,rfl,(by rw [nowb_t (u:=(usedB T)) (v:=T.gv) rfl rfl];simp only [←star_assoc];repeat (first|with_reducible exact dr_refl|apply dr_keep|apply dr_drop))⟩
    obtain ⟨hcal,hkm,rfl,hA9,hB9⟩:=hp1;have hkb:HkB 128 32768 (128+32768) n s:=hk13 (by decide) (by decide) (by decide) oqz hcal.wf hcal.len;have hoff:=hcal.on;have hls:=hcal.len;refine Zh ?_;refine tc_seq ?_;refine tc_seq ?_;refine tc_cut (λ ρ BB=>∃ (w2:Value) (o2:Option Bool),(liveY o2=false)/\ ρ 388= .bool false/\ ρ 6=(pz h9p)/\ ρ 8=(pz b8)/\ Dr BB (F*pt b2 (cl (su5 ((32768:Nat):Int) ((n:Nat):Int) (fi:Nat) (.slice a32 (adZ n g).length c32) (.slice none 0 0)) 25)*pt b8 (cl [.slice la n lc,.slice da n dc,.int .u64 ((rm:Nat):Int)] 38)*Sl 1 (.slice la n lc) n (bos (wasF n T.lv))*Sl 1 (.slice da n dc) n vm*PLf h9p p9p l9p d9p 128 32768 (128+32768) n w2 T o2 s*Z)) ?_ ?_
    . skip
      refine Zu ?_;refine tv (o_nep underlying40 rfl rfl) ?_;refine tl_env (d:=383) (v:= .bool wk) (by cases wk<;>rfl) ?_;refine tlm ?_;refine tl_bool (d:=384) rfl (λ h=> ?_) (sbq ?_)
      . obtain rfl:wk=true:=by simpa using h
        obtain ⟨rfl,rfl,rfl,rfl,rfl,hkn,hgf⟩:=hB9 rfl;refine tlm ?_;refine tl_c rfl (o_call bd23 rfl (DropK (h:=h9p) (p:=p9p) (lg:=l9p) (d:=d9p) (at_:=128) (sz:=32768) (ba:=128+32768) (n:=n) (wv:=((pz wp))) (T:=T) (s:=s) (hb:=hkb) (ho:=hoff))) ?_;rintro _ _ ⟨rfl,rfl⟩;refine tv (o_nei rfl rfl) ?_;refine Zb7 ?_;exact ⟨((pz wp)),(some true),by first|rfl|exact hA9 (by simpa using h),rfl,rfl,rfl,drqz⟩
      intro h;refine Zcv ?_;refine Zbh ?_;exact ⟨wv,o,by first|rfl|exact hA9 (by simpa using h),rfl,rfl,rfl,drqz⟩
    intro ρ B hI;obtain ⟨w2,o2,hj0,hE388,hE6,hE8,hBA⟩:=hI;refine q_then_n ?_;refine tc_pre hBA.sat ?_;clear hBA;refine te 388 hE388 ?_;refine te 6 hE6 ?_;refine te 8 hE8 ?_;refine tc_cond rfl dbq (sbq ?_);intro h;refine Zb4 ?_;refine tv (o_loadN (vs:=[.slice la n lc,.slice da n dc,.int .u64 ((rm:Nat):Int)]) a38 sz38 rfl hsqz (by exact Nat.le_refl 3) rfl) ?_;refine tl_c rfl (o_call bd24 rfl (holds13_c (R:=F*pt b2 (cl (su5 ((32768:Nat):Int) ((n:Nat):Int) (fi:Nat) (.slice a32 (adZ n g).length c32) (.slice none 0 0)) 25)*pt b8 (cl [.slice la n lc,.slice da n dc,.int .u64 ((rm:Nat):Int)] 38)*Sl 1 (.slice la n lc) n (bos (wasF n T.lv))*Sl 1 (.slice da n dc) n vm*Z) (hh:=h9p) (p:=p9p) (lg:=l9p) (d:=d9p) (at_:=128) (sz:=32768) (ba:=128+32768) (n:=n) (wv:=w2) (T:=T) (o:=o2) (s:=s) (la:=la) (da:=da) (lc:=lc) (dc:=dc) (rt:=rm) (vs:=vm) (hA:=by ac_rfl) (hb:=hkb) (hcal:=hcal) (hlo:=hj0) (hl:=(by repeat (first|with_reducible exact rs_sl|apply Rs.left))) (hd:=(by repeat (first|with_reducible exact rs_sl|apply Rs.left))) (hkm:=hkm.right))) ?_;refine Ze9 ?_;refine tl_bool (d:=392) rfl (sbq ?_) dbq;intro h;refine tl_c rfl (o_call bd25 rfl (works13_c)) ?_;rintro _ _ ⟨rfl,rfl⟩;refine Zdg ?_;exact ⟨.bool true,F,res1 rfl rfl,Dr.sat drqz,rfl,rfl⟩
  obtain ⟨hcal,hkm,rfl,hA9,hB9⟩:=hp1;have hkb:HkB 128 32768 (128+32768) n s:=hk13 (by decide) (by decide) (by decide) oqz hcal.wf hcal.len;have hoff:=hcal.on;have hls:=hcal.len;refine Zcp ?_;refine nq ?_;refine tc_cond_f rfl ?_;refine Zh ?_;refine tc_seq ?_;refine tc_seq ?_;refine tc_cut (λ ρ BB=>∃ (w2:Value) (o2:Option Bool),(liveY o2=false)/\ ρ 388= .bool false/\ ρ 6=(pz h9p)/\ ρ 8=(pz b8)/\ Dr BB (F*pt b2 (cl (su5 ((32768:Nat):Int) ((n:Nat):Int) (fi:Nat) (.slice a32 (adZ n g).length c32) (.slice none 0 0)) 25)*pt b8 (cl [.slice la n lc,.slice da n dc,.int .u64 ((rm:Nat):Int)] 38)*Sl 1 (.slice la n lc) n (bos (wasF n T.lv))*Sl 1 (.slice da n dc) n vm*PLf h9p p9p l9p d9p 128 32768 (128+32768) n w2 T o2 s*Z)) ?_ ?_
  . skip
    refine Zu ?_;refine tv (o_nep underlying40 rfl rfl) ?_;refine tl_env (d:=383) (v:= .bool wk) (by cases wk<;>rfl) ?_;refine tlm ?_;refine tl_bool (d:=384) rfl (λ h=> ?_) (sbq ?_)
    . obtain rfl:wk=true:=by simpa using h
      obtain ⟨rfl,rfl,rfl,rfl,rfl,hkn,hgf⟩:=hB9 rfl;refine tlm ?_;refine tl_c rfl (o_call bd23 rfl (DropK (h:=h9p) (p:=p9p) (lg:=l9p) (d:=d9p) (at_:=128) (sz:=32768) (ba:=128+32768) (n:=n) (wv:=((pz wp))) (T:=T) (s:=s) (hb:=hkb) (ho:=hoff))) ?_;rintro _ _ ⟨rfl,rfl⟩;refine tv (o_nei rfl rfl) ?_;refine Zb7 ?_;exact ⟨((pz wp)),(some true),by first|rfl|exact hA9 (by simpa using h),rfl,rfl,rfl,drqz⟩
    intro h;refine Zcv ?_;refine Zbh ?_;exact ⟨wv,o,by first|rfl|exact hA9 (by simpa using h),rfl,rfl,rfl,drqz⟩
  intro ρ B hI;obtain ⟨w2,o2,hj0,hE388,hE6,hE8,hBA⟩:=hI;refine q_then_n ?_;refine tc_pre hBA.sat ?_;clear hBA;refine te 388 hE388 ?_;refine te 6 hE6 ?_;refine te 8 hE8 ?_;refine tc_cond rfl dbq (sbq ?_);intro h;refine Zb4 ?_;refine tv (o_loadN (vs:=[.slice la n lc,.slice da n dc,.int .u64 ((rm:Nat):Int)]) a38 sz38 rfl hsqz (by exact Nat.le_refl 3) rfl) ?_;refine tl_c rfl (o_call bd24 rfl (holds13_c (R:=F*pt b2 (cl (su5 ((32768:Nat):Int) ((n:Nat):Int) (fi:Nat) (.slice a32 (adZ n g).length c32) (.slice none 0 0)) 25)*pt b8 (cl [.slice la n lc,.slice da n dc,.int .u64 ((rm:Nat):Int)] 38)*Sl 1 (.slice la n lc) n (bos (wasF n T.lv))*Sl 1 (.slice da n dc) n vm*Z) (hh:=h9p) (p:=p9p) (lg:=l9p) (d:=d9p) (at_:=128) (sz:=32768) (ba:=128+32768) (n:=n) (wv:=w2) (T:=T) (o:=o2) (s:=s) (la:=la) (da:=da) (lc:=lc) (dc:=dc) (rt:=rm) (vs:=vm) (hA:=by ac_rfl) (hb:=hkb) (hcal:=hcal) (hlo:=hj0) (hl:=(by repeat (first|with_reducible exact rs_sl|apply Rs.left))) (hd:=(by repeat (first|with_reducible exact rs_sl|apply Rs.left))) (hkm:=hkm.right))) ?_;refine Ze9 ?_;refine tl_bool (d:=392) rfl (sbq ?_) dbq;intro h;refine tl_c rfl (o_call bd25 rfl (works13_c)) ?_;rintro _ _ ⟨rfl,rfl⟩;refine Zdg ?_;exact ⟨.bool true,F,res1 rfl rfl,Dr.sat drqz,rfl,rfl⟩
end Go.Vl

namespace Go.Vl
open Go Go.Proofs Go.Proofs.Tryz
theorem u8_wf {x:Int}(h:(Lit.int .u8 x).wf=true):∃m:Nat,x=m/\ m<256:=by
  have hb:=Go.bounds_u8 h;obtain ⟨m,rfl⟩:=Int.eq_ofNat_of_zero_le hb.1;exact ⟨m,rfl,by omega⟩
theorem five_of13 {α:Type}:∀{l:List α},l.length=5->∃a b c d e,l=[a,b,c,d,e]
  |[a,b,c,d,e],_=>⟨a,b,c,d,e,rfl⟩
structure Set13U where
  lg:Int
  n:Int
  fi:Nat
  zs:List Int
  kvs:List Value
  ars:List (Int×List Int)
def PSet13 (A:SP)(cs:List Value)(t:Set13U):Prop:=∃v1 v2,cs=su5 t.lg t.n (t.fi:Nat) v1 v2/\ t.fi<256/\ PInts A [v1] t.zs/\ PArs A [v2] (t.kvs,t.ars)
theorem rdb_set13 (W:World):Rdb Tryz.prog W 25 (PSet13 (old W)):=λ H enc sp hd fu cs d pl h hw=>by
  obtain ⟨hl,hf⟩:=rdb_fields underlying25 h hw;have hc:Tryz.prog.cellsOf 25=5:=(by kernel_rfl);have hci:Tryz.prog.cellsOf 3=1:=(by kernel_rfl);have hcb:Tryz.prog.cellsOf 5=1:=(by kernel_rfl);have hcl:Tryz.prog.cellsOf 22=1:=(by kernel_rfl);have hca:Tryz.prog.cellsOf 23=1:=(by kernel_rfl);rw [hc] at hl
  obtain ⟨lg,e0,w0⟩:=hf 0 _ rfl (rdb_int underlying3);obtain ⟨n,e1,w1⟩:=hf 1 _ rfl (rdb_int underlying3);obtain ⟨fi,e2,w2⟩:=hf 2 _ rfl (rdb_int underlying5);obtain ⟨zs,e3⟩:=hf 3 _ rfl (rdb_ints underlying22 underlying3 kqz kqz);obtain ⟨ka,e4⟩:=hf 4 _ rfl (rdb_ars W);obtain ⟨c0,c1,c2,c3,c4,rfl⟩:=five_of13 hl;obtain ⟨f,rfl,hfi⟩:=u8_wf w2
  simp [hci] at e0 e1
  simp [hci,hcb] at e2
  simp [hci,hcb,hcl] at e3
  simp [hci,hcb,hcl,hca] at e4
  subst e0 e1 e2;exact ⟨⟨lg,n,f,zs,ka.1,ka.2⟩,c3,c4,rfl,hfi,e3,e4⟩
theorem rdb_st13 (W:World):Rdb Tryz.prog W 42 (λ cs (x:St13U)=>cs=x.cells/\ St13W (old W) x):=λ H enc sp hd fu cs d pl h hw=>by
  obtain ⟨hl,hf⟩:=rdb_fields underlying42 h hw;have hc:Tryz.prog.cellsOf 42=5:=(by kernel_rfl);have hci:Tryz.prog.cellsOf 3=1:=(by kernel_rfl);have hcb:Tryz.prog.cellsOf 36=1:=(by kernel_rfl);have hcl:Tryz.prog.cellsOf 22=1:=(by kernel_rfl);rw [hc] at hl
  obtain ⟨k,e0,w0⟩:=hf 0 _ rfl (rdb_int underlying3);obtain ⟨b,e1,w1⟩:=hf 1 _ rfl (rdb_int underlying3);obtain ⟨n,e2,w2⟩:=hf 2 _ rfl (rdb_int underlying3);obtain ⟨v,e3,w3⟩:=hf 3 _ rfl (rdb_int underlying36);obtain ⟨zs,a,c,e4,g1,g2,g3,g4⟩:=hf 4 _ rfl (rdb_ints underlying22 underlying3 kqz kqz);obtain ⟨c0,c1,c2,c3,c4,rfl⟩:=five_of13 hl;obtain ⟨v,rfl,hv⟩:=u64_wf w3
  simp [hci] at e0 e1 e2
  simp [hci,hcb] at e3
  simp [hci,hcb,hcl] at e4
  subst e0 e1 e2 e3 e4;exact ⟨⟨k,b,n,v,a,c,zs⟩,rfl,⟨i64_wf w0,i64_wf w1,i64_wf w2⟩,hv,g3,g2,g1,g4⟩
def PSt13 (A:SP)(cs:List Value)(l:List St13U):Prop:=∃a c,cs=[.slice a l.length c]/\ l.length<=c/\ Rs A a (st13s l)/\∀x∈l,St13W A x
theorem rdb_st13s (W:World):Rdb Tryz.prog W 26 (PSt13 (old W)):=
  (rdb_slice (k:=5) (b:=56) underlying26 kqz kqz (by decide) (rdb_st13 W)).mono λ cs xs ⟨a,cap,Cs,e1,hc,hs,hl,hx,hr⟩=>by
    refine ⟨xs,⟨a,cap,e1,hc, ?_,λ x hx'=> ?_⟩⟩
    . rw [show st13s xs=Cs.flatten from (flatG hl (λ i h h'=>(hx i h h').2.1)).symm];exact hr
    obtain ⟨i,hi,rfl⟩:=List.mem_iff_getElem.1 hx';exact (hx i hi oqz).2.2
theorem BlocksKeep_L (F:SP)(cs:Array Value)(t:Set13U)(h:PSet13 F cs.toList t)(v:Value)(l:List St13U)(h2:PSt13 F [v] l):Fn Tryz.prog 3 #[.agg cs,v] F (λ r B=>r= .bool true/\ B=F):=by
  obtain ⟨v1,v2,e,hfi,⟨a1,c1,e1,_,l1,r1,b1⟩,⟨a2,c2,e2,_,l2,r2,b2⟩⟩:=h;obtain ⟨a3,c3,e3,_,r3,w3⟩:=h2
  simp only [List.cons.injEq,and_true] at e1 e2 e3
  subst e1 e2 e3;obtain rfl:cs=(su5 t.lg t.n (t.fi:Nat) (.slice a1 t.zs.length c1) (.slice a2 t.ars.length c2)).toArray:=by rw [←e]
  exact keep_f hfi r1 rfl oqz r3 w3
end Go.Vl

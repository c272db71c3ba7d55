/- What the row rests on, part 5: a calculus of assertions, walks of functions over it, and plain laws. Conditions: none. -/
import Derived.Deep.QuietTactic
import Derived.BigQuiet
import Derived.WalkKit
import Derived.Test.YtjmfhpoeaimidaaGreatProg
import Derived.OrdersHeld
import Derived.Shelf.SortM.SortNone
import Derived.Shelf.SortM.Plain
import Derived.Ground.SlgmProg
import Derived.Shelf.SlIterI.Nil
import Derived.Ground.GgzProg
import Derived.Maps.RangeRun
import Derived.Laws.BytesArg
import Derived.RangeFuncRecord
import Derived.TacticsIn
import Derived.Deep.Slices
import Derived.OpenShut
import Derived.ChangeArms
import Derived.SizedLaws
import Derived.ChangeSame
import Derived.Test.YtjmfhpoeaimidaaGreatRows
import Derived.Sort.QuietThIn
import Derived.ScopeJumps
import Derived.LaidEqlPtr
import Derived.MapKept
import Derived.Laws.Externs
import Derived.Lib.Builder
import Derived.Lib.UnsafeStr
import Derived.Laws.Strings
import Derived.Test.YtjmfhpoeaimidaaGreatMg4
set_option linter.unusedVariables false
set_option linter.unusedSimpArgs false
set_option maxRecDepth 100000
set_option maxHeartbeats 4000000
namespace Go.Vl
open Go Go.Proofs Go.Proofs.Tryz
variable {nl at_ sz:Nat}
def comK (nl at_ sz:Nat)(f:TF)(I:List Nat):ComK:=⟨nl,at_,sz,runsF (nl*64) true f,runsF (nl*64) false f,I⟩
theorem inX_runs {f:TF}{k:Bool}(hout:∀a,(nl*64)<=a->f a=none){i:Nat}:InX (runsF (nl*64) k f) i↔kdO f i=some k:=by
  have hQ:=runQ_F (nl*64) k f
  constructor
  . rintro ⟨r,hr,h1,h2⟩;obtain ⟨g,_⟩:=hQ.kind r hr (i-r.1) oqz;rw [show r.1+(i-r.1)=i by omega] at g
    exact isK_iff.1 g
  intro h
  have hi:i<(nl*64):=by
    rcases Nat.lt_or_ge i (nl*64) with h9|h9
    . exact h9
    rw [kdO_none.1 (hout i h9)] at h;cases h
  obtain ⟨r,hr,h1,h2⟩:=hQ.cov i (adr_mem.2 ⟨hi,isK_iff.2 h⟩);exact ⟨r,hr,h1,h2⟩
theorem rnOk_runs (hlw:LogW (nl*64) at_ sz){f:TF}{k:Bool}(hout:∀a,(nl*64)<=a->f a=none)(hby:∀a c,f a=some c->c.1<256)(hin:∀a,f a≠none->(64<=a/\ a<at_)∨((at_+sz)<=a/\ a<(nl*64))):RnOk nl at_ sz (runsF (nl*64) k f):=by
  have ⟨w1,w2,w3,w4,w5⟩:=hlw;have hQ:=runQ_F (nl*64) k f;have hP:=runP_Fb (n:=(nl*64)) (k:=k) hby;refine ⟨hQ.gap,λ r hr=> ?_⟩;obtain ⟨p1,p2,p3⟩:=hP.ok r hr;refine ⟨p1,p3, ?_⟩
  have hne:∀j,j<r.2.length->(64<=r.1+j/\ r.1+j<at_)∨((at_+sz)<=r.1+j/\ r.1+j<(nl*64)):=λ j hj=>by
    refine hin _ λ h9=> ?_
    have:=(isK_iff.1 (hQ.kind r hr j hj).1);rw [kdO_none.1 h9] at this;cases this
  have h0:=hne 0 oqz;have h1:=hne (r.2.length-1) oqz
  by_cases hc:r.1<at_/\ at_<=r.1+r.2.length-1
  . have:=hne (at_-r.1) oqz;omega
  omega
attribute [local irreducible] runsF adrF runsL sumL
theorem comK_ok (hlw:LogW (nl*64) at_ sz)(htop:nl*64<=4194304){f:TF}{I:List Nat}(hout:∀a,nl*64<=a->f a=none)(hby:∀a c,f a=some c->c.1<256)(hin:∀a,f a≠none->(64<=a/\ a<at_)∨(at_+sz<=a/\ a<nl*64))(hneed:needN (extX (runsF (nl*64) false f))<=sz-64)(hI:ByM nl I)(hh:(I.drop at_).take 8=List.replicate 8 0):ComOk (comK nl at_ sz f I):=
  ⟨hlw,htop,rnOk_runs hlw hout hby hin,rnOk_runs hlw hout hby hin,hI,(λ a h1 h2=>by
    have g1:=(inX_runs (k:=true) hout).1 h1;have g2:=(inX_runs (k:=false) hout).1 h2
    rw [g1] at g2;cases g2),hneed,hh⟩
theorem com_sum {f:TF}{I:List Nat}(htop:nl*64<=4194304)(hby:∀a c,f a=some c->c.1<256):sumL (comK nl at_ sz f I).F<=4194304/\ sumL (comK nl at_ sz f I).L<=4194304:=by
  have h1:=(runP_Fb (n:=(nl*64)) (k:=true) hby).sum;have h2:=(runP_Fb (n:=(nl*64)) (k:=false) hby).sum;have h3:=adr_len (nl*64) true f;have h4:=adr_len (nl*64) false f
  show sumL (runsF (nl*64) true f)<=_/\ sumL (runsF (nl*64) false f)<=_
  omega
theorem comK_J {f:TF}{I:List Nat}:(comK nl at_ sz f I).J=wrI at_ (comK nl at_ sz f I).M (extX (comK nl at_ sz f I).L):=rfl
theorem comK_E {f:TF}{I:List Nat}:(comK nl at_ sz f I).E=if (comK nl at_ sz f I).L=[] then (comK nl at_ sz f I).M else spl (comK nl at_ sz f I).K at_ (le 8 0):=rfl
theorem fin_law {f:TF}{I:List Nat}{s:DevS}(hc:ComOk (comK nl at_ sz f I))(hout:∀a,(nl*64)<=a->f a=none)(hin:∀a,f a≠none->(64<=a/\ a<at_)∨((at_+sz)<=a/\ a<(nl*64)))(hs:Set9 (comK nl at_ sz f I) s):
    ∃nw:Bool,(New0 (comK nl at_ sz f I) s->nw=true)/\∀i,i<(nl*64)→
      (kdO f i=none->(i<at_∨(at_+sz)<=i)->(imgS s)[i]? =I[i]?)/\ (kdO f i=some false->(imgS s)[i]? =if nw=true then some (byF f i) else I[i]?)/\ (nw=true->kdO f i≠none->(imgS s)[i]? =some (byF f i)):=by
  have hw9:LogW (nl*64) at_ sz:=hc.w;have ⟨w1,w2,w3,w4,w5⟩:=hw9;have hIl:I.length=nl*64:=hc.i.len;have hMl:(comK nl at_ sz f I).M.length=nl*64:=hc.mlen
  have hU:∀i,kdO f i≠none->(i<at_∨(at_+sz)<=i):=λ i h=>by
    have:=hin i λ h9=>h (kdO_none.1 h9)
    omega
  have hMo:∀i,kdO f i≠some true->(comK nl at_ sz f I).M[i]? =I[i]? :=λ i h=>stoI_out hIl hc.f.top λ h9=>h ((inX_runs hout).1 h9)
  have hMi:∀i,kdO f i=some true->(comK nl at_ sz f I).M[i]? =some (byF f i):=λ i h=>stoI_in hIl (λ r hr=>⟨hc.f.top r hr,λ j hj=>((runQ_F (nl*64) true f).kind r hr j hj).2⟩) ((inX_runs hout).2 h)
  by_cases hN:New0 (comK nl at_ sz f I) s
  . refine ⟨true,λ _=>rfl,λ i hi=> ?_⟩;obtain ⟨y1,y2,y3,y4⟩:=id hN
    have hE:(i<at_∨(at_+sz)<=i)->(imgS s)[i]? =if kdO f i=some false then some (byF f i) else (comK nl at_ sz f I).M[i]? :=λ hlog=>by
      rw [y4]
      rw [comK_E]
      split
      . rename_i hl0
        rw [if_neg λ h=>by
          have h9:=(inX_runs (k:=false) hout).2 h;have e:runsF (nl*64) false f=[]:=hl0;rw [e] at h9
          obtain ⟨x,hx,_⟩:=h9;cases hx]
      have hrl:=recsB_len hMl hc.l.may;have hnd:needN (extX (comK nl at_ sz f I).L)<=sz-64:=hc.need
      have hJl:(comK nl at_ sz f I).J.length=(nl*64):=by
        rw [comK_J];unfold wrI wrI1
        have h1:(spl (comK nl at_ sz f I).M (at_+64) (recsB (comK nl at_ sz f I).M (extX (comK nl at_ sz f I).L))).length=(nl*64):=(by rw [spl_length oqz,hMl]);rw [spl_length (by rw [le_length];omega),h1]
      have hKl:(comK nl at_ sz f I).K.length=(nl*64):=stoI_len hJl hc.l.top;rw [spl_at (by rw [le_length];omega),le_length,if_neg oqz]
      split
      . rename_i h
        exact stoI_in hJl (λ r hr=>⟨hc.l.top r hr,λ j hj=>((runQ_F (nl*64) false f).kind r hr j hj).2⟩) ((inX_runs hout).2 h)
      rename_i h
      rw [show (comK nl at_ sz f I).K=stoI (comK nl at_ sz f I).L (comK nl at_ sz f I).J from rfl,stoI_out hJl hc.l.top λ h9=>h ((inX_runs hout).1 h9)]
      rw [comK_J];unfold wrI wrI1
      have h1:(spl (comK nl at_ sz f I).M (at_+64) (recsB (comK nl at_ sz f I).M (extX (comK nl at_ sz f I).L))).length=(nl*64):=(by rw [spl_length oqz,hMl]);rw [spl_at (by rw [le_length];omega),le_length,if_neg oqz,spl_at oqz,if_neg oqz]
    refine ⟨λ h hlog=> ?_,λ h=> ?_,λ _ h=> ?_⟩
    . rw [hE hlog,if_neg (by rw [h];simp),hMo i (by rw [h];simp)]
    . rw [hE (hU i (by rw [h];simp)),if_pos h,if_pos rfl]
    rw [hE (hU i h)]
    split
    . rfl
    rename_i h9
    refine hMi i ?_
    cases hk:kdO f i with
    |none=>exact absurd hk h
    |some b=>cases b with
      |true=>rfl
      |false=>exact absurd hk h9
  refine ⟨false,λ h=>absurd h hN,λ i hi=> ?_⟩
  have hold:(i<at_∨(at_+sz)<=i)->kdO f i≠some true->(imgS s)[i]? =I[i]? :=λ hlog hk=>by
    rcases hs with ⟨h1,h2⟩|h|⟨h1,h2,h3,h4,h5,h6⟩
    . exact h1.img λ h9=>by
        rcases (inX_body (at_:=at_) (sz:=sz) oqz).1 h9 with h9|h9
        . exact hk ((inX_runs hout).1 h9)
        omega
    . exact absurd h hN
    have hJ:LogM nl at_ (comK nl at_ sz f I).M sz (extX (comK nl at_ sz f I).L) (comK nl at_ sz f I).J:=hc.jlen h2;have h7:imgS s=spl (comK nl at_ sz f I).J at_ (le 8 0):=h6;rw [h7,spl_at (by rw [le_length];have:=hJ.2.2.1;omega),le_length,if_neg oqz,hJ.2.2.2 i oqz,hMo i hk]
  refine ⟨λ h hlog=>hold hlog (by rw [h];simp),λ h=> ?_,λ h=>by cases h⟩;rw [if_neg (by decide)]
  exact hold (hU i (by rw [h];simp)) (by rw [h];simp)
theorem stoL_phi:∀ (l:List (Nat×List Nat)) (s:DevS),phi (stoL l s).2<=phi s
  |[],s=>Nat.le_refl _
  |r::l,s=>by
    have h1:=sto_phi (r.1:Nat) r.2 s
    unfold stoL
    split
    . exact h1
    exact Nat.le_trans (stoL_phi l _) h1
theorem flLs_phi:∀ (l:List Nat) (s:DevS),phi (flLs l s).2<=phi s
  |[],s=>Nat.le_refl _
  |q::l,s=>by
    have h1:=fl1_phi ((q*64:Nat):Int) s
    unfold flLs
    split
    . exact h1
    exact Nat.le_trans (flLs_phi l _) h1
theorem writeT_phi (l:List (Nat×List Nat))(s:DevS):phi (writeT l s).2<=phi s:=by
  unfold writeT
  split
  . exact stoL_phi l s
  exact Nat.le_trans (flLs_phi _ _) (stoL_phi l s)
theorem clear_phi (at_:Nat)(s:DevS):phi (clearS at_ s).2<=phi s:=by
  unfold clearS
  split
  . exact Nat.le_refl _
  exact pubP_phi _ _ _
theorem com_phi {at_ sz n:Nat}{f:TF}{s:DevS}:phi (comS at_ sz n f s).2<=phi s:=by
  have h1:=writeT_phi (runsF n true f) s;have h2:=writeS_phi at_ sz (extX (runsF n false f)) (writeT (runsF n true f) s).2;have h3:=writeT_phi (runsF n false f) (writeS at_ sz (extX (runsF n false f)) (writeT (runsF n true f) s).2).2;have h4:=fe_phi (writeT (runsF n false f) (writeS at_ sz (extX (runsF n false f)) (writeT (runsF n true f) s).2).2).2;have h5:=clear_phi at_ (fe (writeT (runsF n false f) (writeS at_ sz (extX (runsF n false f)) (writeT (runsF n true f) s).2).2).2).2;have h6:=fe_phi (writeT (runsF n true f) s).2
  unfold comS
  repeat' split
  all_goals (dsimp only;omega)
theorem whole_com (htop:nl*64<=4194304)(hsz:sz<=4194304){f:TF}{I:List Nat}{s:DevS}{k:Nat}(hc:ComOk (comK nl at_ sz f I))(hby:∀a c,f a=some c->c.1<256)(hw:WfD s)(hO:s.off=false)(hcl:Cln s)(hlen:s.ls.length=nl)(hi:imgS s=I)(ha:s.arms.length<=1)(hk:k<=1099511627776):
    ∃e s2,comS at_ sz (nl*64) f s=((e,true),s2)/\ s2.arms.length<=1/\ Gd nl k s2/\ ((e=0/\ s2.off=false/\ New0 (comK nl at_ sz f I) s2)∨(e=5/\ s2.off=true/\ s.arms≠[]/\ Rec9 (comK nl at_ sz f I) s2)):=by
  obtain ⟨h1,h2⟩:=com_sum (nl:=nl) (at_:=at_) (sz:=sz) (I:=I) htop hby;have e1:runsF (nl*64) true f=(comK nl at_ sz f I).F:=rfl;have e2:runsF (nl*64) false f=(comK nl at_ sz f I).L:=rfl;obtain ⟨e,s2,g1,g2⟩:=com_law hc (f:=f) e1 e2 hw hO hcl hlen hi h1 h2;have g1:comS at_ sz (nl*64) f s=((e,true),s2):=g1;have hn:s.ls.length*64=nl*64:=(by rw [hlen]);have hph:=com_phi (at_:=at_) (sz:=sz) (n:=nl*64) (f:=f) (s:=s);rw [g1] at hph
  have hp0:phi s=s.arms.length:=(by unfold phi;rw [hO];simp)
  have hgd:Gd nl k s2:=by
    have h0:Gd s.ls.length (2*(s.ls.length*64)+sz+8+k) s:=⟨rfl,room_cln hcl oqz,hw⟩;have:=com_gd h0 hby oqz (la:=at_) (lz:=sz) (e:=e) (b:=true) (s2:=s2) (by rw [hn];exact g1);rw [hlen] at this;exact this
  refine ⟨e,s2,g1, ?_,hgd, ?_⟩
  . have:s2.arms.length<=phi s2:=phi_arms s2;have h9:phi s2<=phi s:=hph
    omega
  rcases g2 with ⟨rfl,a2,a3⟩|⟨rfl,a2,a3⟩
  . exact .inl ⟨rfl,a2,a3⟩
  refine .inr ⟨rfl,a2,λ e9=> ?_, ?_⟩
  . have h9:phi s2<=phi s:=hph;rw [hp0,e9] at h9
    have:phi s2=1+s2.arms.length:=(by unfold phi;rw [a2];simp;omega)
    simp at h9;omega
  rcases a3 with a3|a3|a3
  . exact .inr (.inl a3)
  . exact .inl a3
  exact .inr (.inr (.inl a3))
theorem fin_at {f:TF}{I:List Nat}{s:DevS}(hc:ComOk (comK nl at_ sz f I))(hout:∀a,nl*64<=a->f a=none)(hin:∀a,f a≠none->(64<=a/\ a<at_)∨(at_+sz<=a/\ a<nl*64))(hs:Set9 (comK nl at_ sz f I) s)(hI:(imgS s).length=nl*64):
    ∃nw:Bool,(New0 (comK nl at_ sz f I) s->nw=true)/\∀i,i<nl*64->∃v u,(imgS s)[i]? =some v/\ I[i]? =some u/\ (kdF f i=0->(i<at_∨at_+sz<=i)->v=u)/\ (kdF f i=1->v=if nw=true then byF f i else u)/\ (nw=true->0<kdF f i->v=byF f i):=by
  obtain ⟨nw,h1,h2⟩:=fin_law hc hout hin hs;refine ⟨nw,h1,λ i hi=> ?_⟩;have hIl:=hc.i.len;obtain ⟨v,hv⟩:∃v,(imgS s)[i]? =some v:=⟨_,List.getElem?_eq_getElem oqz⟩;obtain ⟨u,hu⟩:∃u,I[i]? =some u:=⟨_,List.getElem?_eq_getElem (show i<I.length from hIl▸hi)⟩;obtain ⟨g1,g2,g3⟩:=h2 i hi;rw [hv,hu] at g1 g2
  rw [hv] at g3
  refine ⟨v,u,hv,hu,λ hk hl=> ?_,λ hk=> ?_,λ hn hk=> ?_⟩
  . exact Option.some.inj (g1 (kdO_none.1 (kd_zero.1 hk)) hl)
  . have:=g2 (isK_iff.1 (kd_one.1 hk))
    split at this
    . rw [if_pos (by assumption)];exact Option.some.inj this
    rw [if_neg (by assumption)];exact Option.some.inj this
  refine Option.some.inj (g3 hn λ h9=> ?_);have:=kd_zero.2 (kdO_none.2 h9)
  omega
end Go.Vl

namespace Go.Vl
open Go Go.Proofs Go.Proofs.Tryz
structure Calm (nl at_ sz:Nat) (s:DevS):Prop where
  w:LogW (nl*64) at_ sz
  wf:WfD s
  on:s.off=false
  arms:s.arms=[]
  cln:Cln s
  len:s.ls.length=nl
  top:nl*64<=4194304
  hd:((imgS s).drop at_).take 8=List.replicate 8 0
theorem Calm.lw {nl at_ sz:Nat}{s:DevS}(h:Calm nl at_ sz s):LogW (s.ls.length*64) at_ sz:=by rw [h.len];exact h.w
theorem Calm.il {nl at_ sz:Nat}{s:DevS}(h:Calm nl at_ sz s):(imgS s).length=nl*64:=by rw [imgS_len h.wf,h.len]
theorem Calm.stp {nl at_ sz:Nat}{s:DevS}(h:Calm nl at_ sz s):stpS at_ sz s=0:=by
  unfold stpS
  rw [records_none h.on h.lw (by rw [h.hd];decide)];rfl
theorem Calm.szl {nl at_ sz:Nat}{s:DevS}(h:Calm nl at_ sz s):sz<=4194304:=by have:=h.w.top;have:=h.top;omega
theorem Calm.room {nl at_ sz k:Nat}{s:DevS}(h:Calm nl at_ sz s)(hk:k<=2199023255551):Room k s:=room_cln h.cln hk
theorem nm_zero:∀{l:List Nat},nm l=0->l=List.replicate l.length 0
  |[],_=>rfl
  |x::l,h=>by
    have h1:x+256*nm l=0:=h;have h2:nm l=0:=(by omega);rw [List.length_cons,List.replicate_succ,←nm_zero h2,show x=0 by omega]
theorem calm_com {nl at_ sz:Nat}{f:TF}{s:DevS}(h:Calm nl at_ sz s)(hout:∀a,nl*64<=a->f a=none)(hby:∀a c,f a=some c->c.1<256)(hin:∀a,f a≠none->(64<=a/\ a<at_)∨(at_+sz<=a/\ a<nl*64))(hneed:needN (extX (runsF (nl*64) false f))<=sz-64):
    ∃s2,comS at_ sz (nl*64) f s=((0,true),s2)/\ Calm nl at_ sz s2/\∀i,i<nl*64->(i<at_∨at_+sz<=i)->(imgS s2)[i]? =if kdF f i=0 then (imgS s)[i]? else some (byF f i):=by
  have hI:ByM nl (imgS s):=img_byM h.wf h.len;have hc:=comK_ok h.w h.top hout hby hin hneed hI h.hd;obtain ⟨e,s2,g1,g2,g3,g4⟩:=whole_com (k:=0) h.top h.szl hc hby h.wf h.on h.cln h.len rfl (by rw [h.arms];exact Nat.zero_le 1) (by decide);have hph:=com_phi (at_:=at_) (sz:=sz) (n:=nl*64) (f:=f) (s:=s);rw [g1] at hph
  have hp0:phi s=0:=(by unfold phi;rw [h.on,h.arms];rfl)
  rcases g4 with ⟨rfl,a2,a3⟩|⟨_,_,a3,_⟩
  . have hset:Set9 (comK nl at_ sz f (imgS s)) s2:= .inr (.inl a3);have hl2:(imgS s2).length=nl*64:=(by rw [imgS_len g3.wf,g3.len]);obtain ⟨nw,q1,q2⟩:=fin_at hc hout hin hset hl2;have hnw:=q1 a3;refine ⟨s2,g1,⟨h.w,g3.wf,a2, ?_,a3.2.1,g3.len,h.top, ?_⟩,λ i hi hl=> ?_⟩
    . have h9:phi s2<=phi s:=hph;have h8:=phi_arms s2;exact List.eq_nil_of_length_eq_zero oqz
    . have h9:nm (((imgS s2).drop at_).take 8)=0:=new_hd hc a3;have h8:=nm_zero h9;have hw:=h.w;rw [h8]
      congr 1
      show (((imgS s2).drop at_).take 8).length=8
      rw [List.length_take,List.length_drop,hl2]
      have:=hw.s;have:=hw.top;omega
    obtain ⟨v,u,k1,k2,k3,k4,k5⟩:=q2 i hi;rw [k1,k2]
    have hkn:=kd_nn f i
    by_cases h0:kdF f i=0
    . rw [if_pos h0,k3 h0 hl]
    rw [if_neg h0,k5 hnw oqz]
  exact absurd h.arms a3
theorem calm_sub {nl at_ sz p m:Nat}{f:TF}{s s2:DevS}(h:Calm nl at_ sz s)(h2:Calm nl at_ sz s2)(hi:∀i,i<nl*64->(i<at_∨at_+sz<=i)->(imgS s2)[i]? =if kdF f i=0 then (imgS s)[i]? else some (byF f i))(hp:p+m<=at_∨at_+sz<=p)(hm:p+m<=nl*64):((imgS s2).drop p).take m=ovF f p (((imgS s).drop p).take m):=by
  apply List.ext_getElem?
  intro j;rw [ovF_get,List.getElem?_take,List.getElem?_take]
  by_cases hj:j<m
  . rw [if_pos hj,if_pos hj,List.getElem?_drop,List.getElem?_drop,hi (p+j) oqz oqz]
    obtain ⟨u,hu⟩:∃u,(imgS s)[p+j]? =some u:=⟨_,List.getElem?_eq_getElem (by rw [h.il];omega)⟩;rw [hu]
    unfold kdF byF
    cases f (p+j) with
    |none=>rfl
    |some c=>obtain ⟨x,b⟩:=c;cases b<;>rfl
  rw [if_neg hj,if_neg hj];rfl
attribute [local irreducible] crk crL crc Sl pt ro Dev imgS recS readS recsF rdW rdO rkT Parts rvl recordsS runsL adrF kcl xcl kys runA runsF layF linR flLs stoL writeT writeS comS clearS extX
theorem begunF12_c {A R:SP}{C:SP->SP}{t p lg d mb at_ sz:Nat}{M:MS}{s:DevS}(hc:Ct A (TxA t p lg d mb at_ sz M false s) R C:=by exact cbqz)(ho:s.off=true):
    Fn Tryz.prog 114 #[pz t] A (λ r B=>r= .int .i64 5/\ B=C (TxA t p lg d mb at_ sz M.clr true s)):=by
  refine fn_enterW func114 rfl ntmps114 (by simp) ?_;obtain ⟨rfl,hC⟩:=hc;refine tc_eq (show _=R*pt p (cl (pocs lg d (some t)) 78)*pt lg (cl (lcs11 d at_ sz) 183)*Dev d s*pt t (cl (txcs p mb false) 155)*pt mb (mpo .i64 M) by unfold TxA;rw [if_neg (by decide)];ac_rfl) ?_;refine tc_have (λ _ _ h=>ct_wf2 ctqz h) λ hwf=> ?_
  have htop:=hwf.top;refine Zb9 ?_;refine Zr ?_;refine Zb ?_;refine Zf9 ?_;intro h;refine tlm ?_;refine Zcx ?_;refine Zei ?_;refine Zcz ?_;intro h;refine Zc6 ?_;refine tv (o_load p4 rfl hsqz rfl) ?_;refine Zcz ?_;intro h;refine Zb ?_;refine Zcx ?_;refine Zgh ?_;refine tl_c rfl (o_call bd34 rfl (Off_c (s:=s))) ?_;refine Zfb ?_;refine tc_cond rfl (sbq ?_) (λ h=> ?_)
  . intro h;refine Zb ?_;refine tl_c rfl (o_call bd123 rfl (end12_c (R:=R*pt lg (cl (lcs11 d at_ sz) 183)*Dev d s) (p:=p) (lg:=lg) (d:=d) (mb:=mb) (M:=M) (over:=false) (hA:=by first|rfl|ac_rfl))) ?_;refine Zdo ?_;refine Zf3 ?_;exact ⟨.int .i64 5,_,res1 rfl rfl,λ g w h=>by rw [hC];exact h.perm (by unfold TxA;rw [if_pos rfl];ac_rfl),rfl,rfl⟩
  exfalso;rw [ho] at h;simp at h
theorem LoadF_c {A R:SP}{C:SP->SP}{t p lg d mb at_ sz:Nat}{M:MS}{s:DevS}(hc:Ct A (TxA t p lg d mb at_ sz M false s) R C:=by exact cbqz)(ho:s.off=true){q n:Int}:
    Fn Tryz.prog 51 #[pz t,.int .i64 q,.int .i64 n] A (λ r B=>r= .tuple #[.slice none 0 0,.int .i64 5]/\ B=C (TxA t p lg d mb at_ sz M.clr true s)):=by
  refine fn_enterW func51 rfl ntmps51 (by simp) ?_;refine Zc0 ?_;refine tl_c rfl (o_call bd114 rfl (begunF12_c hc ho)) ?_;refine Zd2 ?_;refine tc_cond rfl (sbq ?_) dbq;intro h;refine Zfj ?_;exact ⟨.tuple #[.slice none 0 0,.int .i64 5],C (TxA t p lg d mb at_ sz M.clr true s),res2 rfl rfl rfl,λ g w h=>h,rfl,rfl⟩
theorem Recover12_ok {A R:SP}{C:SP->SP}{d:Nat}{s:DevS}(hc:Ct A (Dev d s) R C:=by exact cbqz){p lg:Nat}(hp:Has A p (cl (pocs lg d none) 78):=by exact hbqz){at_ sz:Nat}(hl:Has R lg (cl (lcs11 d at_ sz) 183):=by exact hbqz)(hlw:LogW (s.ls.length*64) at_ sz:=by assumption)(ho:s.off=false:=by assumption)(hroom:Room (sz+1) s:=by assumption):
    Fn Tryz.prog 81 #[pz p] A (λ r B=>∃e k s2,rollS at_ sz s=((k,e),s2)/\ r= .tuple #[.int .i64 k,.int .i64 e]/\ B=C (Dev d s2)):=by
  refine fn_enterW func81 rfl ntmps81 (by simp) ?_;have hi0:idlS s none=0:=(by unfold idlS;rw [ho];rfl);refine Zc0 ?_;refine tl_c rfl (o_call bd112 rfl (idle12_c (hc:=hc) (ov:=none) (hp:=hp))) ?_;refine Zd2 ?_;refine tc_cond rfl (λ h=> ?_) (sbq ?_)
  . exfalso;rw [hi0] at h;simp at h
  intro h;refine Ze3 ?_;refine tv (o_fieldAddr (o:=1) underlying78 rfl rfl sz75 rfl) ?_;refine tv (o_load p75 rfl hp rfl) ?_;refine tl_c rfl (o_call bd139 rfl (Rg.Rollback_c (hc:=hc) (hl:=hl) (hroom:=hroom) (hlw:=by assumption))) ?_;rintro _ _ ⟨e14,k14,s14,hs14,rfl,rfl⟩;refine Zj ?_;refine Zdd ?_;exact ⟨.tuple #[.int .i64 k14,.int .i64 e14],_,res2 rfl rfl rfl,Dr.sat drqz,e14,k14,s14,hs14,rfl,rfl⟩
theorem Begin12_st {A R:SP}{C:SP->SP}{d:Nat}{s:DevS}(hc:Ct A (Dev d s) R C:=by exact cbqz){p lg:Nat}(hp:Has A p (cl (pocs lg d none) 78):=by exact hbqz){at_ sz:Nat}(hl:Has R lg (cl (lcs11 d at_ sz) 183):=by exact hbqz)(hlw:LogW (s.ls.length*64) at_ sz:=by assumption)(ho:s.off=false:=by assumption)(hst:stpS at_ sz s≠0):
    Fn Tryz.prog 48 #[pz p] A (λ r B=>r= .tuple #[.pointer none,.int .i64 (stpS at_ sz s)]/\ A=B):=by
  refine fn_enterW func48 rfl ntmps48 (by simp) ?_;have hi0:idlS s none=0:=(by unfold idlS;rw [ho];rfl);refine Zc0 ?_;refine tl_c rfl (o_call bd112 rfl (idle12_c (hc:=hc) (ov:=none) (hp:=hp))) ?_;refine Zd2 ?_;refine tc_cond rfl (λ h=> ?_) (sbq ?_)
  . exfalso;rw [hi0] at h;simp at h
  intro h;refine Zcd ?_;refine tl_c rfl (o_call bd113 rfl (State12_c (hc:=hc) (hp:=hp) (hl:=hl) (ov:=none))) ?_;refine Zd2 ?_;refine tc_cond rfl (sbq ?_) (λ h=> ?_)
  . intro h;refine Zfj ?_;exact ⟨.tuple #[.pointer none,.int .i64 (stpS at_ sz s)],A,res2 rfl rfl rfl,Dr.sat drqz,rfl,rfl⟩
  exfalso;exact hst (by first|exact Classical.not_not.1 (of_decide_eq_false h)|(simpa using h))
end Go.Vl

namespace Go.Vl
open Go Go.Proofs Go.Proofs.Tryz
def nl13 (lg n:Nat):Nat:=2+lg/64+4*n
def s13 (lg n fi:Nat):DevS:=fromS (nl13 lg n) (im13 (128+lg) n fi)
theorem nl13_64 {lg n:Nat}(h:lg%64=0):nl13 lg n*64=128+lg+256*n:=by unfold nl13;omega
theorem im13_len (lg n fi:Nat):(im13 (128+lg) n fi).length=128+lg+256*n:=imZ_len _ _ _ _
theorem im13_lt (lg n fi:Nat):∀x∈im13 (128+lg) n fi,x<256:=imZ_lt _ _ _ _
theorem s13_img {lg n fi:Nat}(h:lg%64=0):imgS (s13 lg n fi)=im13 (128+lg) n fi:=img_from (im13_lt _ _ _) (by rw [im13_len,nl13_64 h])
theorem s13_len {lg n fi:Nat}:(s13 lg n fi).ls.length=nl13 lg n:=by simp [s13,fromS,newS]
theorem s13_calm {lg n fi:Nat}(h1:128<=lg)(h2:lg<=32768)(h3:lg%64=0)(h4:n<=64):Calm (nl13 lg n) 128 lg (s13 lg n fi):=by
  have h64:=nl13_64 (n:=n) h3;refine ⟨⟨by decide,by decide,h1,h3,by rw [h64];omega⟩,fromS_wf (by unfold nl13;omega) (by unfold nl13;omega) (im13_lt _ _ _),rfl,rfl,cln_from _ _,s13_len,by rw [h64];omega, ?_⟩;rw [s13_img h3];exact im13_hd oqz
theorem Calm.roll {nl at_ sz:Nat}{s:DevS}(h:Calm nl at_ sz s):rollS at_ sz s=((0,0),s):=roll_no (records_none h.on h.lw (by rw [h.hd];decide)) (.inr rfl)
attribute [local irreducible] crk crL crc Sl pt ro Dev imgS recS readS recsF rdW rdO rkT Parts rvl recordsS runsL adrF kcl xcl kys runA runsF layF ovF TxA adZ WkA comS rollS fromS im13
theorem Zgi {p r:Prop}(k:r)(h:Kq r->p:=by intro k;refine tm 3 rfl kqz rfl (o_fieldAddr (o:=1) underlying25 rfl rfl sz3 rfl) ?_;refine tm 4 rfl kqz rfl (o_load p3 rfl hsqz rfl) ?_;exact k.o):p:=h ⟨k⟩
theorem Zf5 {p r:Prop}(k:r)(h:Kq r->p:=by intro k;refine ⟨by repeat (first|with_reducible exact dr_refl|apply dr_keep|apply dr_drop), ?_⟩;refine tm 6 rfl kqz rfl (o_extract rfl rfl) ?_;exact k.o):p:=h ⟨k⟩
theorem brought13_c {A R:SP}{d lg n:Nat}{fi:Int}{lv ar:Value}{s:DevS}(hA:A=R*Dev d s)(hc:Calm (nl13 lg n) 128 lg s)(h2:lg<=32768)(h3:lg%64=0)(h4:n<=64):
    Fn Tryz.prog 37 #[pz d,.agg (su5 (lg:Nat) (n:Nat) fi lv ar).toArray] A (λ r B=>∃h p l lvb,r= .tuple #[pz h,.int .i64 0]/\ B=R*RsA h p l d 128 lg (128+lg) n lvb ⟨[],0⟩ s):=by
  refine fn_enterW func37 rfl ntmps37 (by simp) ?_;subst hA;have h64:=nl13_64 (n:=n) h3;have hlen:=hc.len;have htp:=hc.top;have hlg:=hc.w.s;have hlw:=hc.lw;refine Zcc ?_;rintro _ _ ⟨b3,rfl,rfl⟩;refine tla ?_;refine Zs ?_;refine Zeo ?_;refine tl_c rfl (o_call bd79 rfl (Open_ok (s:=s) (p:=128) (q:=((lg:Nat):Int)) (hok:=by rw [hlen];omega))) ?_;rintro _ _ ⟨b13,rfl,rfl⟩;refine Zfv ?_;intro h;refine Zgr ?_;refine tl_c rfl (o_call bd80 rfl (New12_c (s:=s) (at_:=128) (sz:=lg) (hlw:=hlw) (hl:=by first|exact has_here|exact has_left has_here))) ?_;rintro _ _ ⟨p22,rfl,rfl⟩;refine Zfv ?_;intro h;refine Zbq ?_;refine tl_c rfl (o_call bd81 rfl (Recover12_ok (s:=s) (at_:=128) (sz:=lg) (hlw:=hlw) (hl:=by first|exact has_here|exact has_left has_here) (ho:=hc.on) (hroom:=hc.room oqz))) ?_;rintro _ _ ⟨e30,k30,s30,hs30,rfl,rfl⟩;obtain ⟨hq9,rfl⟩:=pair_eq hc.roll hs30
  simp only [Prod.mk.injEq] at hq9
  obtain ⟨rfl,rfl⟩:=hq9;refine Zbj ?_;refine Zp ?_;refine Z3 ?_;intro h;refine Zcu ?_;refine tc_regh mo dr_refl ?_
  show TH _ _ _ _ _ 10 (Array.replicate 10 false) _ _
  refine tm 0 rfl kqz rfl (o_move wqz) ?_;refine tm 1 rfl kqz rfl (o_loadN (vs:=(su5 (lg:Nat) (n:Nat) fi lv ar)) a25 sz25 rfl hsqz (by exact Nat.le_refl 5) rfl) ?_;refine Zgi ?_;refine th_one (i:=2) kqz ?_;refine oh_c rfl rfl rfl (o_call bd11 rfl (heap13_c (lg:=lg))) ?_;refine Z1 ?_;refine th_one (i:=5) kqz ?_;refine oh_c rfl rfl rfl (o_call bd28 rfl (NewH_c (s:=s) (ba:=128+lg) (n:=n) (h64:=by omega) (h1:=by omega) (h2:=by rw [hlen,h64];omega) (htop:=by rw [hlen];exact htp) (hpos:=by rw [hlen];unfold nl13;omega))) ?_;rintro _ _ ⟨lv41,h41,rfl,rfl⟩;refine Zf5 ?_;refine tm 7 rfl kqz rfl (o_extract rfl rfl) ?_;refine tm 8 rfl kqz rfl (o_assign wqz) ?_;refine tm 9 rfl kqz rfl (o_assign wqz) ?_;refine Zha ?_;exact ⟨_,R*RsA h41 p22 b13 d 128 lg (128+lg) n lv41 ⟨[],0⟩ s,res2 rfl rfl rfl,(λ g w h=>(Dr.sat (A':=R*Dev d s*pt b13 (cl (lcs11 d 128 lg) 183)*pt p22 (cl (pocs b13 d none) 78)*pt lv41 (mpo .i64 ⟨[],0⟩)*pt h41 (cl (hcs p22 (128+lg) n lv41 none) 99)) drqz g w h).perm (by unfold RsA;ac_rfl)),h41,p22,b13,lv41,rfl,rfl⟩
theorem Zem {p r:Prop}(k:r)(h:Kq r->p:=by intro k;refine tv (o_fieldAddr (o:=3) underlying25 rfl rfl sz22 rfl) ?_;refine tv (o_load p22 rfl hsqz rfl) ?_;exact k.o):p:=h ⟨k⟩
theorem plain13_c {A:SP}{lg n fi m c:Nat}{la:Option Addr}{ar:Value}{zs:List Nat}(h1:128<=lg)(h2:lg<=32768)(h3:lg%64=0)(h4:n<=64)(hfi:fi<256)(hr:Rs A la (ints (natI zs)))(hm:zs.length=m)(hnd:zs.Nodup)(hz:∀x∈zs,x<n):
    Fn Tryz.prog 9 #[.agg (su5 (lg:Nat) (n:Nat) (fi:Nat) (.slice la m c) ar).toArray] A (λ r B=>∃d h p l lvb M,r= .tuple #[pz d,pz h]/\ SF M n (onL zs)/\ B=A*RsA h p l d 128 lg (128+lg) n lvb M (s13 lg n fi)):=by
  refine fn_enterW func9 rfl ntmps9 (by simp) ?_;have h64:=nl13_64 (n:=n) h3;have hcal:=s13_calm (fi:=fi) h1 h2 h3 h4;have hll:zs.length<=n:=nodup_le hnd hz;refine Zcc ?_;rintro _ _ ⟨b1,rfl,rfl⟩;refine tla ?_;refine Za ?_;refine sr ?_;refine tv (o_loadN (vs:=su5 (lg:Nat) (n:Nat) (fi:Nat) (.slice la m c) ar) a25 sz25 rfl hsqz (by exact Nat.le_refl 5) rfl) ?_;refine tl_c rfl (o_call bd10 rfl (image13_c (lg:=lg) (n:=n) (fi:=fi))) ?_;rintro _ _ ⟨a9,c9,rfl,hc9,rfl⟩;refine tl_c rfl (o_call bd45 rfl (From_c (n:=nl13 lg n) (xs:=im13 (128+lg) n fi) (hr:=rs_sl) (hx:=by first|exact im13_len _ _ _|rw [im13_len,h64]) (hb:=im13_lt _ _ _))) ?_;rintro _ _ ⟨d10,rfl,rfl⟩;rw [show fromS (nl13 lg n) (im13 (128+lg) n fi)=s13 lg n fi from rfl]
  refine Zfv ?_;intro h;refine Zbq ?_;refine tv (o_loadN (vs:=su5 (lg:Nat) (n:Nat) (fi:Nat) (.slice la m c) ar) a25 sz25 rfl hsqz (by exact Nat.le_refl 5) rfl) ?_;refine tl_c rfl (o_call bd37 rfl (brought13_c (R:=A*pt b1 (cl (su5 (lg:Nat) (n:Nat) (fi:Nat) (.slice la m c) ar) 25)*Sl 1 (.slice a9 (128+lg+256*n) c9) (128+lg+256*n) (bys (im13 (128+lg) n fi))) (d:=d10) (lg:=lg) (n:=n) (s:=s13 lg n fi) (hA:=rfl) (hc:=hcal) (h2:=h2) (h3:=h3) (h4:=h4))) ?_;rintro _ _ ⟨h18,p18,l18,lv18,rfl,rfl⟩;refine Zdc ?_;refine Zc9 ?_;refine tl_bool (d:=23) rfl dbq (sbq ?_);intro h;refine tlm ?_;refine Zem ?_;refine tl_c rfl (o_call bd46 rfl (LoadH_c (R:=A*pt b1 (cl (su5 (lg:Nat) (n:Nat) (fi:Nat) (.slice la m c) ar) 25)*Sl 1 (.slice a9 (128+lg+256*n) c9) (128+lg+256*n) (bys (im13 (128+lg) n fi))*pt lv18 (mpo .i64 ⟨[],0⟩)*pt p18 (cl (pocs l18 d10 none) 78)*pt l18 (cl (lcs11 d10 128 lg) 183)*Dev d10 (s13 lg n fi)) (hd:=h18) (p:=p18) (ba:=128+lg) (n:=n) (lv:=lv18) (zs:=zs) (hA:=by unfold RsA;ac_rfl) (hr:=by repeat (first|exact hr|apply Rs.left)) (hm:=hm) (hnd:=hnd) (hz:=hz) (hn:=by omega) (hml:=by omega))) ?_;rintro _ _ ⟨l27,M27,rfl,hM27,rfl⟩;refine tv (o_nei rfl rfl) ?_;refine Zeh ?_;intro h;refine Zgr ?_;refine Zdd ?_;exact ⟨_,A*RsA h18 p18 l18 d10 128 lg (128+lg) n l27 M27 (s13 lg n fi),res2 rfl rfl rfl,(λ g w h=>(Dr.sat (A':=A*pt p18 (cl (pocs l18 d10 none) 78)*pt l18 (cl (lcs11 d10 128 lg) 183)*Dev d10 (s13 lg n fi)*pt h18 (cl (hcs p18 (128+lg) n l27 none) 99)*pt l27 (mpo .i64 M27)) drqz g w h).perm (by unfold RsA;ac_rfl)),d10,h18,p18,l18,l27,M27,rfl,hM27,rfl⟩
end Go.Vl

namespace Go.Vl
open Go Go.Proofs Go.Proofs.Tryz
theorem Begin13_rest {A R:SP}{h p lg d at_ sz ba n lv nl:Nat}{M:MS}{s:DevS}(hA:A=R*RsA h p lg d at_ sz ba n lv M s)(hc:Calm nl at_ sz s):
    Fn Tryz.prog 12 #[pz h] A (λ v B=>∃w t mb tk gv,v= .tuple #[pz w,.int .i64 0]/\ B=R*WkA ⟨h,w,t,p,lg,d,mb,lv,tk,gv,at_,sz,ba,n⟩ ⟨M,⟨[],0⟩,⟨[],0⟩,⟨[],0⟩,0⟩ s):=by
  refine Fn.weak (BeginH_c (R:=R*pt lv (mpo .i64 M)) (hd:=h) (p:=p) (ba:=ba) (n:=n) (lv:=lv) (lg:=lg) (d:=d) (at_:=at_) (sz:=sz) (s:=s) (by rw [hA];unfold RsA;ac_rfl) hc.lw hc.on hc.stp) ?_;rintro v B ⟨w,t,mb,tk,gv,rfl,rfl⟩;exact ⟨_,λ g w' hs=>hs.perm (show _=R*WkA ⟨h,w,t,p,lg,d,mb,lv,tk,gv,at_,sz,ba,n⟩ ⟨M,⟨[],0⟩,⟨[],0⟩,⟨[],0⟩,0⟩ s by unfold WkA;dsimp only;ac_rfl),w,t,mb,tk,gv,rfl,rfl⟩
def T0 (g:Nat->Bool):WkT:=⟨g,g0,g0,tf0⟩
theorem wk_new {X:WkX}{M:MS}{N:Nat}{g:Nat->Bool}(h:SF M X.n g):WkOk X ⟨M,⟨[],0⟩,⟨[],0⟩,⟨[],0⟩,0⟩ (T0 g) N:=
  ⟨h,sf_nil 0 _,sf_nil 0 _,mf_nil 0 N,Nat.zero_le _,λ b hb=>absurd hb (Nat.not_lt_zero b),λ b h9=>(by cases h9),λ b h9=>(by cases h9)⟩
theorem calm_wkb {nl:Nat}{X:WkX}{s:DevS}(h:Calm nl X.at_ X.sz s)(h1:128<=X.ba)(h2:X.ba+256*X.n<=nl*64):WkB X s:=⟨h1,by rw [h.len];exact h2,by rw [h.len];exact h.top⟩
theorem kdO_layT {p:Nat}{X:List Nat}{f:TF}{a:Nat}:kdO (layF p X true f) a=some false↔kdO f a=some false:=by
  rw [kdO_lay]
  split
  . cases kdO f a with
    |none=>simp
    |some b=>simp
  exact Iff.rfl
theorem adr_layT {n p:Nat}{X:List Nat}{f:TF}:adrF n false (layF p X true f)=adrF n false f:=by
  unfold adrF
  refine List.filter_congr λ a _=> ?_
  have:=kdO_layT (p:=p) (X:=X) (f:=f) (a:=a);rw [←isK_iff,←isK_iff] at this
  cases h1:isK (layF p X true f) false a<;>cases h2:isK f false a<;>simp [h1,h2] at this ⊢
def wkX:List Nat:=(List.replicate 256 0).set 9 7
def wkF:TF:=layF 64 (le 8 258) false (layF 576 wkX true tf0)
theorem wkF_out (a:Nat)(h:wkF a≠none):(64<=a/\ a<72)∨(576<=a/\ a<832):=by
  unfold wkF layF at h
  split at h
  . rename_i h1;rw [le_length] at h1;omega
  split at h
  . rename_i h1
    have:wkX.length=256:=(by unfold wkX;rw [List.length_set,List.length_replicate])
    omega
  exact absurd rfl h
theorem wkF_need (hby:∀a c,wkF a=some c->c.1<256):needN (extX (runsF (nl13 192 4*64) false wkF))<=192-64:=by
  have hG:PutG [64,832] wkF:=by
    have e:wkX.length=256:=(by unfold wkX;rw [List.length_set,List.length_replicate]);have h1:=putG_lay (p:=576) (X:=wkX) (fr:=true) putG_nil;rw [if_pos rfl,e] at h1
    have h2:=putG_lay (p:=64) (X:=le 8 258) (fr:=false) h1;rw [if_neg (by decide)] at h2
    unfold wkF;exact h2
  have hout:∀a,nl13 192 4*64<=a->wkF a=none:=λ a ha=>by
    apply Classical.byContradiction
    intro h9;have:=wkF_out a h9;have e:nl13 192 4*64=1344:=(by decide)
    omega
  have h4:=runs_len hG hout;have h5:=(runP_Fb (n:=nl13 192 4*64) (k:=false) hby).sum;have h6:=need_runs (runsF (nl13 192 4*64) false wkF)
  have h7:(adrF (nl13 192 4*64) false wkF).length<=8:=by
    unfold wkF
    have h8:=adr_lay (n:=nl13 192 4*64) (p:=64) (X:=le 8 258) (fr:=false) (k:=false) (f:=layF 576 wkX true tf0);rw [adr_layT,le_length] at h8
    have h9:(adrF (nl13 192 4*64) false tf0).length=0:=(by unfold adrF;rw [List.filter_eq_nil_iff.2 (λ a _ h=>by have:=isK_iff.1 h;simp [kdO,tf0] at this)];rfl)
    omega
  simp only [List.length_cons,List.length_nil] at h4
  omega
theorem ovF_tf0 (p:Nat)(xs:List Nat):ovF tf0 p xs=xs:=by
  apply List.ext_getElem?
  intro i;rw [ovF_get]
  cases xs[i]? <;>rfl
theorem layF_ov {p:Nat}{X xs:List Nat}{fr:Bool}{f:TF}(h:xs.length=X.length):ovF (layF p X fr f) p xs=X:=by
  apply List.ext_getElem?
  intro i;rw [ovF_get]
  by_cases hi:i<X.length
  . rw [List.getElem?_eq_getElem (show i<xs.length by omega),List.getElem?_eq_getElem hi,Option.map_some,layF_in hi];rfl
  rw [List.getElem?_eq_none oqz,List.getElem?_eq_none oqz];rfl
theorem layF_ou {p q m:Nat}{X xs:List Nat}{fr:Bool}{f:TF}(h:q+m<=p∨p+X.length<=q)(hx:xs.length<=m):ovF (layF p X fr f) q xs=ovF f q xs:=by
  apply List.ext_getElem?
  intro i;rw [ovF_get,ovF_get]
  by_cases hi:i<xs.length
  . unfold layF
    rw [if_neg oqz]
  rw [List.getElem?_eq_none oqz];rfl
theorem wk_adZ:adZ 4 (usedB (((((T0 (onL [0])).take 1).take 2).write (128+192) 1 wkX).root 258))=[0,1,2]:=by decide
theorem wk_adS:(adS 4 (usedB (((((T0 (onL [0])).take 1).take 2).write (128+192) 1 wkX).root 258))).length=3:=by decide
structure GoodF (ba n k:Nat) (f:TF):Prop where
  inn:∀a,f a≠none->(64<=a/\ a<72)∨(ba<=a/\ a<ba+256*n)
  put:∃G:List Nat,G.length<=k/\ PutG G f
theorem good0 (ba n:Nat):GoodF ba n 0 tf0:=⟨λ a h=>absurd rfl h,[],Nat.le_refl _,putG_nil⟩
theorem GoodF.le {ba n k k':Nat}{f:TF}(h:GoodF ba n k f)(hk:k<=k'):GoodF ba n k' f:=⟨h.inn,let ⟨G,h1,h2⟩:=h.put;⟨G,Nat.le_trans h1 hk,h2⟩⟩
theorem good_lay {ba n k p:Nat}{X:List Nat}{fr:Bool}{f:TF}(h:GoodF ba n k f)(hp:(p=64/\ X.length=8)∨(ba<=p/\ p+X.length<=ba+256*n)):GoodF ba n (k+1) (layF p X fr f):=by
  obtain ⟨G,h1,h2⟩:=h.put;refine ⟨λ a ha=> ?_,_, ?_,putG_lay h2⟩
  . by_cases hin:p<=a/\ a<p+X.length
    . rcases hp with ⟨e1,e2⟩|⟨e1,e2⟩<;>omega
    rw [layF_out oqz] at ha;exact h.inn a ha
  rw [List.length_cons];omega
theorem good_adr {ba n k N:Nat}{b:Bool}{f:TF}(h:GoodF ba n k f):(adrF N b f).length<=8+256*n:=by
  have:=nodup_sub (l:=adrF N b f) (G:=List.range' 64 8++List.range' ba (256*n)) (by unfold adrF;exact List.nodup_range.filter _) (λ x hx=>by
    have hk:=isK_iff.1 (adr_mem.1 hx).2;have hne:f x≠none:=λ e=>by rw [kdO_none.1 e] at hk;cases hk
    rw [List.mem_append,List.mem_range'_1,List.mem_range'_1]
    rcases h.inn x hne with h9|h9<;>omega)
  rwa [List.length_append,List.length_range',List.length_range'] at this
theorem good_need {ba n k N:Nat}{f:TF}(h:GoodF ba n k f)(hout:∀a,N<=a->f a=none)(hby:∀a c,f a=some c->c.1<256):needN (extX (runsF N false f))<=31*k+8+256*n:=by
  obtain ⟨G,h1,h2⟩:=h.put;have h4:=runs_len h2 hout;have h5:=(runP_Fb (n:=N) (k:=false) hby).sum;have h6:=need_runs (runsF N false f);have h7:=good_adr (N:=N) (b:=false) h
  omega
theorem good_write {ba n k b:Nat}{xs:List Nat}{T:WkT}(h:GoodF ba n k T.f)(hb:b<n)(hx:xs.length=256):GoodF ba n (k+1) (T.write ba b xs).f:=good_lay h (.inr ⟨by omega,by rw [hx];omega⟩)
theorem good_root {ba n k v:Nat}{T:WkT}(h:GoodF ba n k T.f):GoodF ba n (k+1) (T.root v).f:=good_lay h (.inl ⟨rfl,le_length 8 v⟩)
def ldT (f:TF)(p m:Int)(s:DevS):List Nat:=if rdy s.ls.length s.off p m=0 then ovF f p.toNat (((imgS s).drop p.toNat).take m.toNat) else []
def layT (f:TF)(p:Int)(X:List Nat)(fr:Bool)(s:DevS):TF:=if rdy s.ls.length s.off p X.length=0 then layF p.toNat X fr f else f
attribute [local irreducible] crk crL crc Sl pt ro Dev imgS recS readS recsF rdW rdO rkT Parts rvl recordsS runsL adrF kcl xcl kys runA runsF layF ovF TxA adZ WkA SlB blkS conB imF RDev lineC RLines
end Go.Vl

namespace Go.Vl
open Go Go.Proofs Go.Proofs.Tryz
def TxX (t q r lg la lz:Nat)(x:Option TF)(s:DevS):SP:=match x with
  |none=>TxE t q r lg la lz s
  |some f=>TxR t q r lg la lz f s
def TxP (t p lg d mb at_ sz n:Nat)(x:Option TF)(s:DevS):SP:=λ h=>∃M,(∀f,x=some f->MF M n f)/\ TxA t p lg d mb at_ sz M x.isNone s h
def eX (x:Option TF)(s:DevS)(z m:Int):Int:=match x with
  |none=>3
  |some _=>if s.off=true then 5 else rdy s.ls.length s.off z m
def oX (x:Option TF)(z:Int)(X:List Nat)(fr:Bool)(s:DevS):Option TF:=match x with
  |none=>none
  |some f=>if s.off=true then none else some (layT f z X fr s)
def lX (x:Option TF)(z m:Int)(s:DevS):List Nat:=match x with
  |none=>[]
  |some f=>if s.off=true then [] else ldT f z m s
def dX (x:Option TF)(s:DevS):Option TF:=if s.off=true then none else x
def rX (n:Nat)(x:Option TF):List (Nat×List Nat):=match x with
  |none=>[]
  |some f=>runsF n false f
def cX (la lz n:Nat)(x:Option TF)(s:DevS):(Int×Option TF)×DevS:=match x with
  |none=>((3,none),s)
  |some f=>if s.off=true then ((5,none),s) else (((comS la lz n f s).1.1,if (comS la lz n f s).1.2=true then none else some f),(comS la lz n f s).2)
section
variable {f:TF} {s:DevS} {z m:Int} {X:List Nat} {fr:Bool} {la lz n:Nat}
end
def wasF (n:Nat)(g:Nat->Bool):List Bool:=(List.range n).map g
theorem wasF_len (n:Nat)(g:Nat->Bool):(wasF n g).length=n:=by unfold wasF;simp
theorem wasF_at {n k:Nat}{g:Nat->Bool}(h:k<n):(bos (wasF n g))[k]? =some (.bool (g k)):=by
  unfold bos wasF
  rw [List.getElem?_map,List.getElem?_map,List.getElem?_range h];rfl
theorem wasF_set {n k:Nat}{g:Nat->Bool}{b:Bool}(_:k<n):(bos (wasF n g)).set k (.bool b)=bos (wasF n (updG g k b)):=by
  rw [bos_set]
  congr 1
  unfold wasF
  refine List.ext_getElem (by simp) λ i h1 h2=> ?_
  rw [List.getElem_set]
  simp only [List.getElem_map,List.getElem_range]
  unfold updG
  by_cases hi:k=i
  . rw [if_pos hi,if_pos hi.symm]
  rw [if_neg hi,if_neg (λ e=>hi e.symm)]
theorem wasF_g0 (n:Nat):wasF n g0=List.replicate n false:=by
  unfold wasF
  refine List.ext_getElem (by simp) λ i h1 h2=> ?_
  simp [g0]
theorem adZ_succ (i:Nat)(g:Nat->Bool):adZ (i+1) g=adZ i g++(if g i=true then [(i:Int)] else []):=by
  unfold adZ adS
  rw [List.range_succ,List.filter_append,List.map_append]
  congr 1
  simp only [List.filter_cons,List.filter_nil]
  split<;>simp
theorem adZ_zero (g:Nat->Bool):adZ 0 g=[]:=rfl
theorem adZ_le (n:Nat)(g:Nat->Bool):(adZ n g).length<=n:=by rw [adZ_len];exact adS_len n g
def oF (ov:Bool)(f:TF):Option TF:=if ov=true then none else some f
def e13 (ov:Bool)(s:DevS):Int:=if ov=true then 3 else if s.off=true then 5 else 0
def o13 (ov:Bool)(s:DevS):Bool:=ov||s.off
theorem e13_0 {ov:Bool}{s:DevS}:e13 ov s=0↔ov=false/\ s.off=false:=by
  unfold e13
  cases ov<;>cases s.off<;>simp
theorem e13_off {s:DevS}(h:s.off=true):e13 false s=5:=by unfold e13;rw [h];rfl
theorem e13_on {s:DevS}(h:s.off=false):e13 false s=0:=by unfold e13;rw [h];rfl
theorem o13_no {ov:Bool}{s:DevS}(h:e13 ov s≠0):o13 ov s=true:=by
  unfold e13 at h;unfold o13
  cases ov<;>cases ho:s.off<;>simp [ho] at h ⊢
theorem o13_on {s:DevS}(h:s.off=false):o13 false s=false:=by unfold o13;rw [h];rfl
def giveS (T:WkT)(b:Int):Int×WkT:=if usedZ T b=true then (0,T.give b.toNat) else (130,T)
def readW (T:WkT)(s:DevS)(ba:Nat)(b:Int):List Nat×Int:=if usedZ T b=true then (conB T s ba b.toNat,0) else ([],130)
def writeW (T:WkT)(ba:Nat)(b:Int)(xs:List Nat):Int×WkT:=if usedZ T b=true then (if xs.length=256 then (0,T.write ba b.toNat xs) else (2,T)) else (130,T)
def takeZ (n:Nat)(T:WkT)(ov:Bool)(s:DevS):Int×Int×WkT:=if e13 ov s=0 then (((takeS n T).1:Int),(takeS n T).2.1,(takeS n T).2.2) else (0,e13 ov s,T)
def giveZ (T:WkT)(ov:Bool)(s:DevS)(b:Int):Int×WkT:=if e13 ov s=0 then giveS T b else (e13 ov s,T)
def readZ (T:WkT)(ov:Bool)(s:DevS)(ba:Nat)(b:Int):List Nat×Int:=if e13 ov s=0 then readW T s ba b else ([],e13 ov s)
def writeZ (T:WkT)(ov:Bool)(s:DevS)(ba:Nat)(b:Int)(xs:List Nat):Int×WkT:=if e13 ov s=0 then writeW T ba b xs else (e13 ov s,T)
def rootZ (T:WkT)(ov:Bool)(s:DevS):Nat×Int:=if e13 ov s=0 then (rootV T s,0) else (0,e13 ov s)
def setZ (T:WkT)(ov:Bool)(s:DevS)(v:Nat):Int×WkT:=if e13 ov s=0 then (0,T.root v) else (e13 ov s,T)
def comZ (at_ sz N:Nat)(T:WkT)(ov:Bool)(s:DevS):(Int×WkT)×DevS:=if e13 ov s=0 then (((comS at_ sz N T.f s).1.1,{ T with lv:=if (comS at_ sz N T.f s).1.1=0 then usedB T else T.lv }),(comS at_ sz N T.f s).2) else ((e13 ov s,T),s)
def dropZ (ov:Bool):Int:=if ov=true then 3 else 0
def okZ (n:Nat)(zs:List Int):Bool:=decide ((∀z∈zs,0<=z/\ z<(n:Int))/\ zs.Nodup)
def onZ (zs:List Int):Nat->Bool:=λ c=>decide ((c:Int)∈zs)
structure TOk (n:Nat) (T:WkT):Prop where
  l:∀b,n<=b->T.lv b=false
  t:∀b,n<=b->T.tk b=false
  g:∀b,n<=b->T.gv b=false
theorem TOk.no {n:Nat}{T:WkT}(h:TOk n T){b:Int}(hb:¬(0<=b/\ b<(n:Int))):usedZ T b=false:=by
  unfold usedZ usedB
  by_cases h0:0<=b
  . rw [h.l b.toNat oqz,h.t b.toNat oqz];simp
  rw [decide_eq_false h0];rfl
theorem TOk.lt {n:Nat}{T:WkT}(h:TOk n T){b:Int}(hb:usedZ T b=true):0<=b/\ b<(n:Int):=by
  apply Classical.byContradiction
  intro h9;rw [h.no h9] at hb;cases hb
theorem tok_wk {X:WkX}{Y:WkY}{T:WkT}{N:Nat}(h:WkOk X Y T N):TOk X.n T:=⟨h.l.out,h.t.out,h.g.out⟩
theorem ovF_by {f:TF}(h:∀a c,f a=some c->c.1<256){p:Nat}{xs:List Nat}(hx:∀x∈xs,x<256):∀x∈ovF f p xs,x<256:=λ x hm=>by
  obtain ⟨i,hi⟩:=List.mem_iff_getElem?.1 hm;rw [ovF_get] at hi
  cases hxi:xs[i]? with
  |none=>rw [hxi] at hi;cases hi
  |some y=>
    rw [hxi] at hi
    simp only [Option.map_some,Option.some.injEq] at hi
    cases hf:f (p+i) with
    |none=>rw [hf] at hi;simp at hi;rw [←hi];exact hx y (List.mem_of_getElem? hxi)
    |some c=>rw [hf] at hi;simp at hi;rw [←hi];exact h _ _ hf
structure RkX where
  hd:Nat
  w:Nat
  t:Nat
  q:Nat
  r:Nat
  lg:Nat
  la:Nat
  lz:Nat
  ba:Nat
  n:Nat
  l:Nat
  k1:Nat
  k2:Nat
structure RkB (X:RkX) (s:DevS):Prop where
  lo:128<=X.ba
  hi:X.ba+256*X.n<=s.ls.length*64
  top:s.ls.length*64<=4194304
  wf:WfD s
theorem RkB.il {X:RkX}{s:DevS}(h:RkB X s):(imgS s).length=s.ls.length*64:=imgS_len h.wf
def RbA (X:RkX)(T:WkT)(ov:Bool)(s:DevS):SP:=pt X.hd (cl [.pointer (some ⟨X.q,0,none⟩),vn X.ba,vn X.n,.slice (some ⟨X.l,0,none⟩) X.n X.n,.pointer (some ⟨X.w,0,none⟩)] 122)*pt X.w (cl [.pointer (some ⟨X.hd,0,none⟩),.pointer (some ⟨X.t,0,none⟩),.slice (some ⟨X.k1,0,none⟩) X.n X.n,.slice (some ⟨X.k2,0,none⟩) X.n X.n,.bool ov] 190)*Sl 1 (.slice (some ⟨X.l,0,none⟩) X.n X.n) X.n (bos (wasF X.n T.lv))*Sl 1 (.slice (some ⟨X.k1,0,none⟩) X.n X.n) X.n (bos (wasF X.n T.tk))*Sl 1 (.slice (some ⟨X.k2,0,none⟩) X.n X.n) X.n (bos (wasF X.n T.gv))*TxX X.t X.q X.r X.lg X.la X.lz (oF ov T.f) s
section
variable {A R:SP} {C:SP->SP} {X:RkX} {T:WkT} {ov:Bool} {s:DevS} (hc:Ct A (RbA X T ov s) R C)
include hc
end
attribute [local irreducible] crk crL crc Sl pt ro Dev imgS recS readS recsF rdW rdO rkT Parts rvl recordsS runsL adrF kcl xcl kys runA runsF layF ovF TxA adZ WkA SlB blkS conB imF RDev lineC RLines TxR TxE ldT TxX wasF
def prefG (i:Nat)(g:Nat->Bool):Nat->Bool:=λ c=>decide (c<i)&&g c
theorem pt_wasF {R:SP}{b n:Nat}{E:TypeId}{g:Gh}{w:World}(h:sat g w (R*pt b (cl (List.replicate n (.bool false)) E))):sat g w (R*Sl 1 (.slice (some ⟨b,0,none⟩) n n) n (bos (wasF n g0))):=
  sl_new (k:=1) h (Nat.le_refl _) (by simp) (by rw [Nat.mul_one,List.take_of_length_le (by simp),wasF_g0];unfold bos;rw [List.map_replicate])
end Go.Vl

namespace Go.Vl
open Go Go.Proofs Go.Proofs.Tryz
def takenL (n:Nat)(g:Nat->Bool)(ov:Bool):List Int:=if ov=true then [] else adZ n g
attribute [local irreducible] crk crL crc Sl pt ro Dev imgS recS readS recsF rdW rdO rkT Parts rvl recordsS runsL adrF kcl xcl kys runA runsF layF ovF TxA adZ WkA SlB blkS conB imF RDev lineC RLines TxR TxE ldT TxX wasF
end Go.Vl

namespace Go.Vl
open Go Go.Proofs Go.Proofs.Tryz
theorem wk_lv {X:WkX}{Y:WkY}{T:WkT}{N lv:Nat}(h:WkOk X Y T N):WkOk { X with lv:=lv } Y T N:=⟨h.l,h.t,h.g,h.m,h.le,h.lo,h.dj,h.gl⟩
theorem wk_vl {X:WkX}{Y:WkY}{T:WkT}{N lv:Nat}(h:WkOk { X with lv:=lv } Y T N):WkOk X Y T N:=⟨h.l,h.t,h.g,h.m,h.le,h.lo,h.dj,h.gl⟩
def PbO (X:WkX)(s:DevS)(lv:Nat)(Y:WkY):SP:=RsA X.h X.p X.lg X.d X.at_ X.sz X.ba X.n lv Y.Ml s*pt X.w (cl (wcs X.h X.t X.tk X.gv Y.ls true) 101)
def PbA (X:WkX)(T:WkT)(ov:Bool)(s:DevS):SP:=match ov with
  |true=>λ h=>∃lv Y,SF Y.Ml X.n T.lv/\ PbO X s lv Y h
  |false=>λ h=>∃lv Y,WkOk X Y T (s.ls.length*64)/\ WkA { X with lv:=lv } Y s h
section
variable {P:Program} {fn:FuncId} {args:Array Value} {Q:Value->SP->Prop} {X:WkX} {T:WkT} {s:DevS} {R:SP}
theorem fn_pbo (h:∀lv Y,SF Y.Ml X.n T.lv->Fn P fn args (R*PbO X s lv Y) Q):Fn P fn args (R*PbA X T true s) Q:=λ g w hs=>by
  obtain ⟨_,⟨a,b,hd,rfl,ha,lv,Y,hM,hb⟩,hx⟩:=hs.hp;exact h lv Y hM g w ⟨hs.os,hs.tape,hs.out,_,⟨a,b,hd,rfl,ha,hb⟩,hx⟩
theorem fn_pba (h:∀lv Y,WkOk X Y T (s.ls.length*64)->Fn P fn args (R*WkA { X with lv:=lv } Y s) Q):Fn P fn args (R*PbA X T false s) Q:=λ g w hs=>by
  obtain ⟨_,⟨a,b,hd,rfl,ha,lv,Y,hM,hb⟩,hx⟩:=hs.hp;exact h lv Y hM g w ⟨hs.os,hs.tape,hs.out,_,⟨a,b,hd,rfl,ha,hb⟩,hx⟩
theorem pbo_back {lv:Nat}{Y:WkY}(hM:SF Y.Ml X.n T.lv){g:Gh}{w:World}(hs:sat g w (R*PbO X s lv Y)):sat g w (R*PbA X T true s):=
  hs.mono λ h ⟨a,b,hd,e,ha,hb⟩=>⟨a,b,hd,e,ha,lv,Y,hM,hb⟩
theorem pba_back {lv:Nat}{Y:WkY}(hM:WkOk X Y T (s.ls.length*64)){g:Gh}{w:World}(hs:sat g w (R*WkA { X with lv:=lv } Y s)):sat g w (R*PbA X T false s):=
  hs.mono λ h ⟨a,b,hd,e,ha,hb⟩=>⟨a,b,hd,e,ha,lv,Y,hM,hb⟩
theorem pbo_open {g:Gh}{w:World}(hs:sat g w (R*PbA X T true s)):∃lv Y,SF Y.Ml X.n T.lv/\ sat g w (R*PbO X s lv Y):=by
  obtain ⟨_,⟨a,b,hd,rfl,ha,lv,Y,hM,hb⟩,hx⟩:=hs.hp;exact ⟨lv,Y,hM,hs.os,hs.tape,hs.out,_,⟨a,b,hd,rfl,ha,hb⟩,hx⟩
theorem pba_open {g:Gh}{w:World}(hs:sat g w (R*PbA X T false s)):∃lv Y,WkOk X Y T (s.ls.length*64)/\ sat g w (R*WkA { X with lv:=lv } Y s):=by
  obtain ⟨_,⟨a,b,hd,rfl,ha,lv,Y,hM,hb⟩,hx⟩:=hs.hp;exact ⟨lv,Y,hM,hs.os,hs.tape,hs.out,_,⟨a,b,hd,rfl,ha,hb⟩,hx⟩
end
attribute [local irreducible] crk crL crc Sl pt ro Dev imgS recS readS recsF rdW rdO rkT Parts rvl recordsS runsL adrF kcl xcl kys runA runsF layF ovF TxA adZ WkA comS conB rootV
theorem seen5_c {A R:SP}{w hd p ba n lv t tk gv ls:Nat}(hA:A=R*pt hd (cl (hcs p ba n lv (some w)) 99)*pt w (cl (wcs hd t tk gv ls false) 101)):
    Fn Tryz.prog 53 #[pz w,.int .i64 5] A (λ r B=>r= .int .i64 5/\ B=R*pt hd (cl (hcs p ba n lv none) 99)*pt w (cl (wcs hd t tk gv ls true) 101)):=by
  refine fn_enterW func53 rfl ntmps53 (by simp) ?_;refine Zbl ?_;refine Zdq ?_;refine tc_cond rfl (sbq ?_) dbq;intro h;refine Zw ?_;refine tl_c rfl (o_call bd60 rfl (end13_c (R:=R) (hA:=hA))) ?_;refine Zdo ?_;refine Zb ?_;refine Zf ?_;exact ⟨.int .i64 5,_,res1 rfl rfl,λ _ _ h=>h,rfl,rfl⟩
theorem begin13_off {A R:SP}{C:SP->SP}{X:WkX}{Y:WkY}{s:DevS}(hc:Ct A (WkA X Y s) R C:=by exact cbqz)(ho:s.off=true):
    Fn Tryz.prog 49 #[.pointer (some ⟨X.w,0,none⟩)] A (λ r B=>r= .int .i64 5/\ B=R*PbO X s X.lv Y):=by
  refine fn_enterW func49 rfl ntmps49 (by simp) ?_;have hw9:=wka_w hc;have hct:=wka_txa hc;refine Zbl ?_;refine tl_c rfl (o_call bd61 rfl (there13_c (hw:=hw9))) ?_;refine Zfz ?_;intro h;refine Zcd ?_;refine Ze4 ?_;refine tv (o_load p4 rfl hw9 rfl) ?_;refine Zz ?_;intro h;refine Zfr ?_;refine tv (o_load p76 rfl hw9 rfl) ?_;refine tl_c rfl (o_call bd51 rfl (LoadF_c (hc:=hct) ho)) ?_;rintro _ _ ⟨rfl,rfl⟩;refine Ze7 ?_;refine tlm ?_;refine tl_c rfl (o_call bd53 rfl (seen5_c (R:=R*pt X.lv (mpo .i64 Y.Ml)*pt X.tk (mpo .i64 Y.Mt)*pt X.gv (mpo .i64 Y.Mg)*TxA X.t X.p X.lg X.d X.mb X.at_ X.sz Y.M.clr true s) (w:=X.w) (hd:=X.h) (p:=X.p) (ba:=X.ba) (n:=X.n) (lv:=X.lv) (t:=X.t) (tk:=X.tk) (gv:=X.gv) (ls:=Y.ls) (hA:=by ac_rfl))) ?_;rintro _ _ ⟨rfl,rfl⟩;refine Zf ?_;exact ⟨.int .i64 5,_,res1 rfl rfl,(λ g w h=>(Dr.sat (A':=R*pt X.lv (mpo .i64 Y.Ml)*(pt X.p (cl (pocs X.lg X.d none) 78)*pt X.lg (cl (lcs11 X.d X.at_ X.sz) 183))*Dev X.d s*pt X.h (cl (hcs X.p X.ba X.n X.lv none) 99)*pt X.w (cl (wcs X.h X.t X.tk X.gv Y.ls true) 101)) ⟨pt X.tk (mpo .i64 Y.Mt)*pt X.gv (mpo .i64 Y.Mg)*pt X.t (cl (txcs X.p X.mb true) 155)*pt X.mb (mpo .i64 Y.M.clr),by unfold TxA;rw [if_pos rfl];ac_rfl⟩ g w h).perm (by unfold PbO RsA;ac_rfl)),rfl,rfl⟩
theorem pbo_w {A R:SP}{C:SP->SP}{X:WkX}{Y:WkY}{s:DevS}{lv:Nat}(hc:Ct A (PbO X s lv Y) R C):Has A X.w (cl (wcs X.h X.t X.tk X.gv Y.ls true) 101):=λ g w h=>by
  rw [hc.1] at h;unfold PbO at h;exact has_pt g w h.right.right
theorem begX_p {A R:SP}{C:SP->SP}{X:WkX}{T:WkT}{ov:Bool}{s:DevS}(hc:Ct A (PbA X T ov s) R C:=by exact cbqz)(hb:WkB X s)(he:e13 ov s≠0):Fn Tryz.prog 49 #[.pointer (some ⟨X.w,0,none⟩)] A (λ r B=>r= .int .i64 (e13 ov s)/\ B=C (PbA X T true s)):=by
  obtain ⟨rfl,hC⟩:=hc
  cases ov with
  |true=>
    refine fn_pbo λ lv Y hM=>Fn.weak (beginO_c (pbo_w ct_here)) ?_
    rintro v B ⟨rfl,rfl⟩;exact ⟨_,λ g w h=>by rw [hC];exact pbo_back hM h,rfl,rfl⟩
  |false=>
    have ho:s.off=true:=by
      cases h:s.off with
      |true=>rfl
      |false=>exact absurd (e13_on h) he
    refine fn_pba λ lv Y hok=>Fn.weak (begin13_off (X:={ X with lv:=lv }) (hc:=ct_here) ho) ?_
    rintro v B ⟨rfl,rfl⟩;exact ⟨_,λ g w h=>by rw [hC];exact pbo_back hok.l h,by rw [e13_off ho],rfl⟩
theorem use_e {b:Int}{A B0:SP}{v:Value}{e:Int}(hI:Fn Tryz.prog 49 #[v] A (λ r B=>r= .int .i64 e/\ B=B0))(he:e≠0):
    Fn Tryz.prog 50 #[v,.int .i64 b] A (λ r B=>r= .int .i64 e/\ B=B0):=by
  refine fn_enterW func50 rfl ntmps50 (by simp) ?_;refine Zbl ?_;refine tl_c rfl (o_call bd49 rfl (hI)) ?_;rintro _ _ ⟨rfl,hB9⟩;subst hB9;refine Zdy ?_;refine tc_cond rfl (sbq ?_) (λ h=> ?_)
  . intro h;refine Zfe ?_;exact ⟨.int .i64 e,_,res1 rfl rfl,λ _ _ h=>h,rfl,rfl⟩
  exfalso;simp at h;exact he h
theorem Take_e {A B0:SP}{v:Value}{e:Int}(hI:Fn Tryz.prog 49 #[v] A (λ r B=>r= .int .i64 e/\ B=B0))(he:e≠0):
    Fn Tryz.prog 14 #[v] A (λ r B=>r= .tuple #[.int .i64 0,.int .i64 e]/\ B=B0):=by
  refine fn_enterW func14 rfl ntmps14 (by simp) ?_;refine Zc0 ?_;refine tl_c rfl (o_call bd49 rfl (hI)) ?_;rintro _ _ ⟨rfl,hB9⟩;subst hB9;refine Zdy ?_;refine tc_cond rfl (sbq ?_) (λ h=> ?_)
  . intro h;refine Zfj ?_;exact ⟨.tuple #[.int .i64 0,.int .i64 e],_,res2 rfl rfl rfl,λ _ _ h=>h,rfl,rfl⟩
  exfalso;simp at h;exact he h
theorem Give_e {b:Int}{A B0:SP}{v:Value}{e:Int}(hI:Fn Tryz.prog 50 #[v,.int .i64 b] A (λ r B=>r= .int .i64 e/\ B=B0))(he:e≠0):
    Fn Tryz.prog 15 #[v,.int .i64 b] A (λ r B=>r= .int .i64 e/\ B=B0):=by
  refine fn_enterW func15 rfl ntmps15 (by simp) ?_;refine Zbl ?_;refine tlm ?_;refine tl_c rfl (o_call bd50 rfl (hI)) ?_;rintro _ _ ⟨rfl,hB9⟩;subst hB9;refine Zdy ?_;refine tc_cond rfl (sbq ?_) (λ h=> ?_)
  . intro h;refine Zfe ?_;exact ⟨.int .i64 e,_,res1 rfl rfl,λ _ _ h=>h,rfl,rfl⟩
  exfalso;simp at h;exact he h
theorem Read_e {b:Int}{A B0:SP}{v:Value}{e:Int}(hI:Fn Tryz.prog 50 #[v,.int .i64 b] A (λ r B=>r= .int .i64 e/\ B=B0))(he:e≠0):
    Fn Tryz.prog 16 #[v,.int .i64 b] A (λ r B=>r= .tuple #[.slice none 0 0,.int .i64 e]/\ B=B0):=by
  refine fn_enterW func16 rfl ntmps16 (by simp) ?_;refine Zc0 ?_;refine tlm ?_;refine tl_c rfl (o_call bd50 rfl (hI)) ?_;rintro _ _ ⟨rfl,hB9⟩;subst hB9;refine Zdy ?_;refine tc_cond rfl (sbq ?_) (λ h=> ?_)
  . intro h;refine Zfj ?_;exact ⟨.tuple #[.slice none 0 0,.int .i64 e],_,res2 rfl rfl rfl,λ _ _ h=>h,rfl,rfl⟩
  exfalso;simp at h;exact he h
theorem Write_e {b:Int}{a:Option Addr}{m c:Nat}{A B0:SP}{v:Value}{e:Int}(hI:Fn Tryz.prog 50 #[v,.int .i64 b] A (λ r B=>r= .int .i64 e/\ B=B0))(he:e≠0):
    Fn Tryz.prog 18 #[v,.int .i64 b,.slice a m c] A (λ r B=>r= .int .i64 e/\ B=B0):=by
  refine fn_enterW func18 rfl ntmps18 (by simp) ?_;refine Zbl ?_;refine tlm ?_;refine tl_c rfl (o_call bd50 rfl (hI)) ?_;rintro _ _ ⟨rfl,hB9⟩;subst hB9;refine Zdy ?_;refine tc_cond rfl (sbq ?_) (λ h=> ?_)
  . intro h;refine Zfe ?_;exact ⟨.int .i64 e,_,res1 rfl rfl,λ _ _ h=>h,rfl,rfl⟩
  exfalso;simp at h;exact he h
theorem Root_e {A B0:SP}{v:Value}{e:Int}(hI:Fn Tryz.prog 49 #[v] A (λ r B=>r= .int .i64 e/\ B=B0))(he:e≠0):
    Fn Tryz.prog 20 #[v] A (λ r B=>r= .tuple #[.int .u64 0,.int .i64 e]/\ B=B0):=by
  refine fn_enterW func20 rfl ntmps20 (by simp) ?_;refine Zc0 ?_;refine tl_c rfl (o_call bd49 rfl (hI)) ?_;rintro _ _ ⟨rfl,hB9⟩;subst hB9;refine Zdy ?_;refine tc_cond rfl (sbq ?_) (λ h=> ?_)
  . intro h;refine Zfj ?_;exact ⟨.tuple #[.int .u64 0,.int .i64 e],_,res2 rfl rfl rfl,λ _ _ h=>h,rfl,rfl⟩
  exfalso;simp at h;exact he h
theorem SetRoot_e {z:Int}{A B0:SP}{v:Value}{e:Int}(hI:Fn Tryz.prog 49 #[v] A (λ r B=>r= .int .i64 e/\ B=B0))(he:e≠0):
    Fn Tryz.prog 21 #[v,.int .u64 z] A (λ r B=>r= .int .i64 e/\ B=B0):=by
  refine fn_enterW func21 rfl ntmps21 (by simp) ?_;refine Zbl ?_;refine tl_c rfl (o_call bd49 rfl (hI)) ?_;rintro _ _ ⟨rfl,hB9⟩;subst hB9;refine Zdy ?_;refine tc_cond rfl (sbq ?_) (λ h=> ?_)
  . intro h;refine Zfe ?_;exact ⟨.int .i64 e,_,res1 rfl rfl,λ _ _ h=>h,rfl,rfl⟩
  exfalso;simp at h;exact he h
theorem Commit_e {A B0:SP}{v:Value}{e:Int}(hI:Fn Tryz.prog 49 #[v] A (λ r B=>r= .int .i64 e/\ B=B0))(he:e≠0):
    Fn Tryz.prog 22 #[v] A (λ r B=>r= .int .i64 e/\ B=B0):=by
  refine fn_enterW func22 rfl ntmps22 (by simp) ?_;refine Zbl ?_;refine tl_c rfl (o_call bd49 rfl (hI)) ?_;rintro _ _ ⟨rfl,hB9⟩;subst hB9;refine Zdy ?_;refine tc_cond rfl (sbq ?_) (λ h=> ?_)
  . intro h;refine Zfe ?_;exact ⟨.int .i64 e,_,res1 rfl rfl,λ _ _ h=>h,rfl,rfl⟩
  exfalso;simp at h;exact he h
theorem Write_len {A B0:SP}{v:Value}{b:Int}{a:Option Addr}{m c:Nat}(hI:Fn Tryz.prog 50 #[v,.int .i64 b] A (λ r B=>r= .int .i64 0/\ B=B0))(hm:m≠256):
    Fn Tryz.prog 18 #[v,.int .i64 b,.slice a m c] A (λ r B=>r= .int .i64 2/\ B=B0):=by
  refine fn_enterW func18 rfl ntmps18 (by simp) ?_;refine Zbl ?_;refine tlm ?_;refine tl_c rfl (o_call bd50 rfl (hI)) ?_;rintro _ _ ⟨rfl,hB9⟩;subst hB9;refine Zs ?_;refine Z3 ?_;intro h;refine Zcd ?_;refine tv (o_len underlying32 rfl) ?_;refine Zk ?_;refine tc_cond rfl (sbq ?_) (λ h=> ?_)
  . intro h;refine Zdb ?_;exact ⟨.int .i64 2,_,res1 rfl rfl,λ _ _ h=>h,rfl,rfl⟩
  exfalso;first|(have h9:=of_decide_eq_false h;omega)|(simp at h;omega)
theorem TakeX_p {A R:SP}{C:SP->SP}{X:WkX}{T:WkT}{ov:Bool}{s:DevS}(hc:Ct A (PbA X T ov s) R C:=by exact cbqz)(hb:WkB X s):Fn Tryz.prog 14 #[.pointer (some ⟨X.w,0,none⟩)] A (λ r B=>∃b e T2,takeZ X.n T ov s=(b,e,T2)/\ r= .tuple #[.int .i64 b,.int .i64 e]/\ B=C (PbA X T2 (o13 ov s) s)):=by
  by_cases h:e13 ov s=0
  . obtain ⟨rfl,ho⟩:=e13_0.1 h;obtain ⟨rfl,hC⟩:=hc;refine fn_pba λ lv Y hok=> ?_
    have hb9:WkB { X with lv:=lv } s:=⟨hb.lo,hb.hi,hb.top⟩;have hok9:WkOk { X with lv:=lv } Y T (s.ls.length*64):=wk_lv hok;refine Fn.weak (Take13_c (X:={ X with lv:=lv }) (hc:=ct_here) (hok:=hok9) (hb:=hb9) (ho:=ho)) ?_;rintro v B ⟨b,e,T2,Y2,h1,rfl,h2,rfl⟩;exact ⟨C (PbA X T2 false s),λ g w h9=>by rw [hC];exact pba_back (wk_vl h2) h9,b,e,T2,by unfold takeZ;rw [if_pos h,show takeS X.n T=(b,e,T2) from h1],rfl,by rw [o13_on ho]⟩
  exact (Take_e (begX_p (hc:=hc) (hb:=hb) h) h).mono λ v B ⟨h1,h2⟩=>⟨0,_,T,by unfold takeZ;rw [if_neg h],h1,by rw [h2,o13_no h]⟩
theorem GiveX_p {A R:SP}{C:SP->SP}{X:WkX}{T:WkT}{ov:Bool}{s:DevS}(hc:Ct A (PbA X T ov s) R C:=by exact cbqz)(hb:WkB X s){b:Int}:Fn Tryz.prog 15 #[.pointer (some ⟨X.w,0,none⟩),.int .i64 b] A (λ r B=>∃e T2,giveZ T ov s b=(e,T2)/\ r= .int .i64 e/\ B=C (PbA X T2 (o13 ov s) s)):=by
  by_cases h:e13 ov s=0
  . obtain ⟨rfl,ho⟩:=e13_0.1 h;obtain ⟨rfl,hC⟩:=hc;refine fn_pba λ lv Y hok=> ?_
    have hb9:WkB { X with lv:=lv } s:=⟨hb.lo,hb.hi,hb.top⟩;have hok9:WkOk { X with lv:=lv } Y T (s.ls.length*64):=wk_lv hok
    cases hu:usedZ T b with
    |true=>
      obtain ⟨q,rfl⟩:=Int.eq_ofNat_of_zero_le ((tok_wk hok).lt hu).1;refine Fn.weak (Give13_ok (X:={ X with lv:=lv }) (hc:=ct_here) (hok:=hok9) (hb:=hb9) (ho:=ho) (hu:=by rw [←usedZ_nat];exact hu)) ?_;rintro v B ⟨Y2,rfl,h2,rfl⟩;exact ⟨C (PbA X (T.give q) false s),λ g w h9=>by rw [hC];exact pba_back (wk_vl h2) h9,0,_,by unfold giveZ giveS;rw [if_pos h,if_pos hu,Int.toNat_natCast],rfl,by rw [o13_on ho]⟩
    |false=>
      refine Fn.weak (Give_e (e:=130) (b:=b) (B0:=R*WkA { X with lv:=lv } Y s) ((use13_c (X:={ X with lv:=lv }) (hc:=ct_here) (hok:=hok9) (hb:=hb9) (ho:=ho)).mono λ v B ⟨h1,h2⟩=>⟨by rw [h1,hu];rfl,h2.symm⟩) (by decide)) ?_;rintro v B ⟨rfl,rfl⟩;exact ⟨C (PbA X T false s),λ g w h9=>by rw [hC];exact pba_back hok h9,130,T,by unfold giveZ giveS;rw [if_pos h,if_neg (by rw [hu];decide)],rfl,by rw [o13_on ho]⟩
  exact (Give_e (use_e (begX_p (hc:=hc) (hb:=hb) h) h) h).mono λ v B ⟨h1,h2⟩=>⟨_,T,by unfold giveZ;rw [if_neg h],h1,by rw [h2,o13_no h]⟩
theorem ReadX_p {A R:SP}{C:SP->SP}{X:WkX}{T:WkT}{ov:Bool}{s:DevS}(hc:Ct A (PbA X T ov s) R C:=by exact cbqz)(hb:WkB X s){b:Int}:Fn Tryz.prog 16 #[.pointer (some ⟨X.w,0,none⟩),.int .i64 b] A (λ r B=>∃a c xs e,readZ T ov s X.ba b=(xs,e)/\ r= .tuple #[.slice a xs.length c,.int .i64 e]/\ xs.length<=c/\ B=C (PbA X T (o13 ov s) s)*Sl 1 (.slice a xs.length c) xs.length (bys xs)):=by
  by_cases h:e13 ov s=0
  . obtain ⟨rfl,ho⟩:=e13_0.1 h;obtain ⟨rfl,hC⟩:=hc;refine fn_pba λ lv Y hok=> ?_
    have hb9:WkB { X with lv:=lv } s:=⟨hb.lo,hb.hi,hb.top⟩;have hok9:WkOk { X with lv:=lv } Y T (s.ls.length*64):=wk_lv hok
    cases hu:usedZ T b with
    |true=>
      obtain ⟨q,rfl⟩:=Int.eq_ofNat_of_zero_le ((tok_wk hok).lt hu).1;refine fn_have (λ g w h9=>txa_wf (wka_txa (R:=R) (X:={ X with lv:=lv }) (Y:=Y) (s:=s) ct_here) g w h9) λ hwf=> ?_
      have hq:q<X.n:=(by have:=((tok_wk hok).lt hu).2;omega);have hcl:(conB T s X.ba q).length=256:=con_len (by rw [imgS_len hwf];have:=hb.hi;omega);refine Fn.weak (Read13_ok (X:={ X with lv:=lv }) (hc:=ct_here) (hok:=hok9) (hb:=hb9) (ho:=ho) (hu:=by rw [←usedZ_nat];exact hu)) ?_;rintro v B ⟨a,c,rfl,h2,rfl⟩;exact ⟨C (PbA X T false s)*Sl 1 (.slice a 256 c) 256 (bys (conB T s X.ba q)),(λ g w h9=>by rw [hC];exact (pba_back (R:=R*Sl 1 (.slice a 256 c) 256 (bys (conB T s X.ba q))) hok (h9.perm (by unfold conB;ac_rfl))).perm (by ac_rfl)),a,c,conB T s X.ba q,0,by unfold readZ readW;rw [if_pos h,if_pos hu,Int.toNat_natCast],by rw [hcl],by rw [hcl];exact h2,by rw [o13_on ho,hcl]⟩
    |false=>
      refine Fn.weak (Read_e (e:=130) (b:=b) (B0:=R*WkA { X with lv:=lv } Y s) ((use13_c (X:={ X with lv:=lv }) (hc:=ct_here) (hok:=hok9) (hb:=hb9) (ho:=ho)).mono λ v B ⟨h1,h2⟩=>⟨by rw [h1,hu];rfl,h2.symm⟩) (by decide)) ?_;rintro v B ⟨rfl,rfl⟩;exact ⟨C (PbA X T false s)*Sl 1 (.slice none 0 0) 0 [],λ g w h9=>sl_nil (k:=1) (by rw [hC];exact pba_back hok h9),none,0,[],130,by unfold readZ readW;rw [if_pos h,if_neg (by rw [hu];decide)],rfl,Nat.le_refl _,by rw [o13_on ho];rfl⟩
  refine Fn.weak (Read_e (use_e (begX_p (hc:=hc) (hb:=hb) h) h) h) ?_;rintro v B ⟨rfl,rfl⟩;exact ⟨C (PbA X T true s)*Sl 1 (.slice none 0 0) 0 [],λ g w h9=>sl_nil (k:=1) h9,none,0,[],_,by unfold readZ;rw [if_neg h],rfl,Nat.le_refl _,by rw [o13_no h];rfl⟩
theorem WriteX_p {A R:SP}{C:SP->SP}{X:WkX}{T:WkT}{ov:Bool}{s:DevS}(hc:Ct A (PbA X T ov s) R C:=by exact cbqz)(hb:WkB X s){b:Int}{a:Option Addr}{m c:Nat}{xs:List Nat}(hr:Rs R a (bys xs):=by exact rbqz)(hxl:xs.length=m)(hxb:∀x∈xs,x<256):Fn Tryz.prog 18 #[.pointer (some ⟨X.w,0,none⟩),.int .i64 b,.slice a m c] A (λ r B=>∃e T2,writeZ T ov s X.ba b xs=(e,T2)/\ r= .int .i64 e/\ B=C (PbA X T2 (o13 ov s) s)):=by
  by_cases h:e13 ov s=0
  . obtain ⟨rfl,ho⟩:=e13_0.1 h;obtain ⟨rfl,hC⟩:=hc;refine fn_pba λ lv Y hok=> ?_
    have hb9:WkB { X with lv:=lv } s:=⟨hb.lo,hb.hi,hb.top⟩;have hok9:WkOk { X with lv:=lv } Y T (s.ls.length*64):=wk_lv hok
    cases hu:usedZ T b with
    |true=>
      obtain ⟨q,rfl⟩:=Int.eq_ofNat_of_zero_le ((tok_wk hok).lt hu).1
      by_cases h256:m=256
      . subst h256;refine Fn.weak (Write13_ok (X:={ X with lv:=lv }) (hc:=ct_here) (hok:=hok9) (hb:=hb9) (ho:=ho) (hu:=by rw [←usedZ_nat];exact hu) (hr:=hr) (hxl:=hxl) (hxb:=hxb)) ?_;rintro v B ⟨Y2,rfl,h2,rfl⟩;exact ⟨C (PbA X (T.write X.ba q xs) false s),λ g w h9=>by rw [hC];exact pba_back (wk_vl h2) h9,0,_,by unfold writeZ writeW;rw [if_pos h,if_pos hu,if_pos hxl,Int.toNat_natCast],rfl,by rw [o13_on ho]⟩
      refine Fn.weak (Write_len (b:=((q:Nat):Int)) (a:=a) (c:=c) (B0:=R*WkA { X with lv:=lv } Y s) ((use13_c (X:={ X with lv:=lv }) (hc:=ct_here) (hok:=hok9) (hb:=hb9) (ho:=ho)).mono λ v B ⟨h1,h2⟩=>⟨by rw [h1,hu];rfl,h2.symm⟩) h256) ?_;rintro v B ⟨rfl,rfl⟩;exact ⟨C (PbA X T false s),λ g w h9=>by rw [hC];exact pba_back hok h9,2,T,by unfold writeZ writeW;rw [if_pos h,if_pos hu,if_neg (by rw [hxl];exact h256)],rfl,by rw [o13_on ho]⟩
    |false=>
      refine Fn.weak (Write_e (e:=130) (b:=b) (a:=a) (m:=m) (c:=c) (B0:=R*WkA { X with lv:=lv } Y s) ((use13_c (X:={ X with lv:=lv }) (hc:=ct_here) (hok:=hok9) (hb:=hb9) (ho:=ho)).mono λ v B ⟨h1,h2⟩=>⟨by rw [h1,hu];rfl,h2.symm⟩) (by decide)) ?_;rintro v B ⟨rfl,rfl⟩;exact ⟨C (PbA X T false s),λ g w h9=>by rw [hC];exact pba_back hok h9,130,T,by unfold writeZ writeW;rw [if_pos h,if_neg (by rw [hu];decide)],rfl,by rw [o13_on ho]⟩
  exact (Write_e (use_e (begX_p (hc:=hc) (hb:=hb) h) h) h).mono λ v B ⟨h1,h2⟩=>⟨_,T,by unfold writeZ;rw [if_neg h],h1,by rw [h2,o13_no h]⟩
theorem RootX_p {A R:SP}{C:SP->SP}{X:WkX}{T:WkT}{ov:Bool}{s:DevS}(hc:Ct A (PbA X T ov s) R C:=by exact cbqz)(hb:WkB X s):Fn Tryz.prog 20 #[.pointer (some ⟨X.w,0,none⟩)] A (λ r B=>∃z e,rootZ T ov s=(z,e)/\ r= .tuple #[.int .u64 ((z:Nat):Int),.int .i64 e]/\ B=C (PbA X T (o13 ov s) s)):=by
  by_cases h:e13 ov s=0
  . obtain ⟨rfl,ho⟩:=e13_0.1 h;obtain ⟨rfl,hC⟩:=hc;refine fn_pba λ lv Y hok=> ?_
    have hb9:WkB { X with lv:=lv } s:=⟨hb.lo,hb.hi,hb.top⟩;have hok9:WkOk { X with lv:=lv } Y T (s.ls.length*64):=wk_lv hok;refine Fn.weak (Root13_v (X:={ X with lv:=lv }) (hc:=ct_here) (hok:=hok9) (hb:=hb9) (ho:=ho)) ?_;rintro v B ⟨rfl,rfl⟩;exact ⟨C (PbA X T false s),λ g w h9=>by rw [hC];exact pba_back hok h9,_,_,by unfold rootZ;rw [if_pos h],rfl,by rw [o13_on ho]⟩
  exact (Root_e (begX_p (hc:=hc) (hb:=hb) h) h).mono λ v B ⟨h1,h2⟩=>⟨0,_,by unfold rootZ;rw [if_neg h],h1,by rw [h2,o13_no h]⟩
theorem SetRootX_p {A R:SP}{C:SP->SP}{X:WkX}{T:WkT}{ov:Bool}{s:DevS}(hc:Ct A (PbA X T ov s) R C:=by exact cbqz)(hb:WkB X s){z:Nat}(hv:z<18446744073709551616):Fn Tryz.prog 21 #[.pointer (some ⟨X.w,0,none⟩),.int .u64 ((z:Nat):Int)] A (λ r B=>∃e T2,setZ T ov s z=(e,T2)/\ r= .int .i64 e/\ B=C (PbA X T2 (o13 ov s) s)):=by
  by_cases h:e13 ov s=0
  . obtain ⟨rfl,ho⟩:=e13_0.1 h;obtain ⟨rfl,hC⟩:=hc;refine fn_pba λ lv Y hok=> ?_
    have hb9:WkB { X with lv:=lv } s:=⟨hb.lo,hb.hi,hb.top⟩;have hok9:WkOk { X with lv:=lv } Y T (s.ls.length*64):=wk_lv hok;refine Fn.weak (SetRoot13_ok (X:={ X with lv:=lv }) (hc:=ct_here) (hok:=hok9) (hb:=hb9) (ho:=ho) (hv:=hv)) ?_;rintro v B ⟨Y2,rfl,h2,rfl⟩;exact ⟨C (PbA X (T.root z) false s),λ g w h9=>by rw [hC];exact pba_back (wk_vl h2) h9,_,_,by unfold setZ;rw [if_pos h],rfl,by rw [o13_on ho]⟩
  exact (SetRoot_e (begX_p (hc:=hc) (hb:=hb) h) h).mono λ v B ⟨h1,h2⟩=>⟨_,T,by unfold setZ;rw [if_neg h],h1,by rw [h2,o13_no h]⟩
theorem CommitX13_p {A R:SP}{C:SP->SP}{X:WkX}{T:WkT}{ov:Bool}{s:DevS}(hc:Ct A (PbA X T ov s) R C:=by exact cbqz)(hb:WkB X s)(hlw:LogW (s.ls.length*64) X.at_ X.sz)(hroom:Room (2*(s.ls.length*64)+X.sz+8) s):Fn Tryz.prog 22 #[.pointer (some ⟨X.w,0,none⟩)] A (λ r B=>∃e T2 s2,comZ X.at_ X.sz (s.ls.length*64) T ov s=((e,T2),s2)/\ r= .int .i64 e/\ B=C (PbA X T2 true s2)):=by
  by_cases h:e13 ov s=0
  . obtain ⟨rfl,ho⟩:=e13_0.1 h;obtain ⟨rfl,hC⟩:=hc;refine fn_pba λ lv Y hok=> ?_
    have hb9:WkB { X with lv:=lv } s:=⟨hb.lo,hb.hi,hb.top⟩;have hok9:WkOk { X with lv:=lv } Y T (s.ls.length*64):=wk_lv hok;refine Fn.weak (Commit13_c (X:={ X with lv:=lv }) (hc:=ct_here) (hok:=hok9) (hb:=hb9) (ho:=ho) (hlw:=hlw) (hroom:=hroom)) ?_;rintro v B ⟨e,b,s2,lv2,M2,h1,rfl,h2,rfl⟩;have h1:comS X.at_ X.sz (s.ls.length*64) T.f s=((e,b),s2):=h1;refine ⟨C (PbA X { T with lv:=if e=0 then usedB T else T.lv } true s2),λ g w h9=> ?_,e,_,s2,by unfold comZ;rw [if_pos h,h1],rfl,rfl⟩;rw [hC]
    exact pbo_back (Y:={ Y with Ml:=M2 }) (lv:=lv2) h2 (h9.perm (by unfold PbO;ac_rfl))
  exact (Commit_e (begX_p (hc:=hc) (hb:=hb) h) h).mono λ v B ⟨h1,h2⟩=>⟨_,T,s,by unfold comZ;rw [if_neg h],h1,h2⟩
end Go.Vl

namespace Go.Vl
open Go Go.Proofs Go.Proofs.Tryz
def op12 (kn p n:Int)(ba:Option Addr)(bn bc:Nat)(ka:Option Addr)(kl kc:Nat):List Value:=[.int .i64 kn,.int .i64 p,.int .i64 n,.slice ba bn bc,.slice ka kl kc]
section
variable {kn p n:Int} {ba ka:Option Addr} {bn bc kl kc:Nat}
end
def x5a (x:Nat):Nat:=(IntKind.u8.wrap ((BitVec.ofInt IntKind.u8.bits (x:Int)^^^BitVec.ofInt IntKind.u8.bits 90).toNat:Int)).toNat
def ldD (z m:Int)(s:DevS):List Nat:=if rdy s.ls.length s.off z m=0 then ((imgS s).drop z.toNat).take m.toNat else []
def idlB (s:DevS)(b:Bool):Int:=if s.off=true then 5 else if b=true then 3 else 0
theorem idl_b (s:DevS)(ov:Option Nat):idlS s ov=idlB s ov.isSome:=rfl
theorem idl_ok {s:DevS}{ov:Option Nat}(h:idlB s ov.isSome=0):s.off=false/\ ov=none:=by
  unfold idlB at h
  cases ho:s.off<;>cases ov<;>simp [ho] at h ⊢
def recB (at_ sz:Nat)(b:Bool)(s:DevS):(Int×Int)×DevS:=if idlB s b≠0 then ((0,idlB s b),s) else rollS at_ sz s
def bgnB (at_ sz:Nat)(b:Bool)(s:DevS):Int:=if idlB s b≠0 then idlB s b else stpS at_ sz s
theorem bgn_ok {at_ sz:Nat}{b:Bool}{s:DevS}(h:bgnB at_ sz b s=0):s.off=false/\ b=false/\ stpS at_ sz s=0:=by
  unfold bgnB at h
  split at h
  . rename_i h1;exact absurd h h1
  rename_i h1
  unfold idlB at h1
  cases ho:s.off<;>cases b<;>simp [ho] at h1 ⊢
  exact h
theorem BeginP_no {A R:SP}{C:SP->SP}{d:Nat}{s:DevS}(hc:Ct A (Dev d s) R C:=by exact cbqz){p lg:Nat}{ov:Option Nat}  (hp:Has A p (cl (pocs lg d ov) 78):=by exact hbqz){b:Bool}(hb:ov.isSome=b:=by first|assumption|rfl){at_ sz:Nat}(hl:Has R lg (cl (lcs11 d at_ sz) 183):=by exact hbqz)(hlw:LogW (s.ls.length*64) at_ sz:=by assumption)(hne:bgnB at_ sz b s≠0):
    Fn Tryz.prog 48 #[pz p] A (λ v B=>v= .tuple #[.pointer none,.int .i64 (bgnB at_ sz b s)]/\ A=B):=by
  subst hb
  by_cases h:idlB s ov.isSome=0
  . obtain ⟨ho,rfl⟩:=idl_ok h;have e9:bgnB at_ sz (Option.isSome (none:Option Nat)) s=stpS at_ sz s:=(by unfold bgnB;rw [if_neg (by simpa using h)]);rw [e9] at hne ⊢
    exact Begin12_st hc hp hl hlw ho hne
  have e9:bgnB at_ sz ov.isSome s=idlB s ov.isSome:=(by unfold bgnB;rw [if_pos h]);rw [e9,←idl_b]
  exact Begin12_no hc hp (by rw [idl_b];exact h)
def eY (o:Option Bool)(s:DevS):Int:=match o with
  |none=>1
  |some ov=>e13 ov s
def oY (o:Option Bool)(s:DevS):Option Bool:=o.map λ ov=>o13 ov s
def takeY (n:Nat)(T:WkT)(o:Option Bool)(s:DevS):Int×Int×WkT:=if eY o s=0 then (((takeS n T).1:Int),(takeS n T).2.1,(takeS n T).2.2) else (0,eY o s,T)
def giveY (T:WkT)(o:Option Bool)(s:DevS)(b:Int):Int×WkT:=if eY o s=0 then giveS T b else (eY o s,T)
def readY (T:WkT)(o:Option Bool)(s:DevS)(ba:Nat)(b:Int):List Nat×Int:=if eY o s=0 then readW T s ba b else ([],eY o s)
def writeY (T:WkT)(o:Option Bool)(s:DevS)(ba:Nat)(b:Int)(xs:List Nat):Int×WkT:=if eY o s=0 then writeW T ba b xs else (eY o s,T)
def rootY (T:WkT)(o:Option Bool)(s:DevS):Nat×Int:=if eY o s=0 then (rootV T s,0) else (0,eY o s)
def setY (T:WkT)(o:Option Bool)(s:DevS)(v:Nat):Int×WkT:=if eY o s=0 then (0,T.root v) else (eY o s,T)
def comY (at_ sz N:Nat)(T:WkT)(o:Option Bool)(s:DevS):(Int×WkT)×DevS:=if eY o s=0 then (((comS at_ sz N T.f s).1.1,{ T with lv:=if (comS at_ sz N T.f s).1.1=0 then usedB T else T.lv }),(comS at_ sz N T.f s).2) else ((eY o s,T),s)
def dropY (o:Option Bool):Int:=match o with
  |none=>1
  |some ov=>dropZ ov
def endY (o:Option Bool):Option Bool:=o.map λ _=>true
def takenY (n:Nat)(g:Nat->Bool)(o:Option Bool):List Int:=match o with
  |none=>[]
  |some ov=>takenL n g ov
def blocksY (n:Nat)(o:Option Bool):Int:=match o with
  |none=>0
  |some _=>(n:Int)
def liveY (o:Option Bool):Bool:=match o with
  |some false=>true
  |_=>false
def loadY (n:Nat)(T:WkT)(o:Option Bool)(zs:List Int):Int×WkT:=if liveY o=true then (3,T) else if okZ n zs=true then (0,{ T with lv:=onZ zs }) else (2,T)
def bgnY (at_ sz:Nat)(T:WkT)(o:Option Bool)(s:DevS):Int×WkT×Option Bool:=if bgnB at_ sz (liveY o) s=0 then (0,T0 T.lv,some false) else (bgnB at_ sz (liveY o) s,T,o)
structure HkB (at_ sz ba n:Nat) (s:DevS):Prop where
  lo:128<=ba
  hi:ba+256*n<=s.ls.length*64
  top:s.ls.length*64<=4194304
  wf:WfD s
  lw:LogW (s.ls.length*64) at_ sz
theorem HkB.wk {h w t p lg d mb lv tk gv at_ sz ba n:Nat}{s:DevS}(hb:HkB at_ sz ba n s):WkB ⟨h,w,t,p,lg,d,mb,lv,tk,gv,at_,sz,ba,n⟩ s:=⟨hb.lo,hb.hi,hb.top⟩
def PLf (h p lg d at_ sz ba n:Nat)(wv:Value)(T:WkT)(o:Option Bool)(s:DevS):SP:=match o with
  |none=>λ hh=>∃lv M,wv= .pointer none/\ SF M n T.lv/\ RsA h p lg d at_ sz ba n lv M s hh
  |some ov=>λ hh=>∃w t mb lv tk gv,wv=(pz w)/\ PbA ⟨h,w,t,p,lg,d,mb,lv,tk,gv,at_,sz,ba,n⟩ T ov s hh
section
variable {P:Program} {fn:FuncId} {Q:Value->SP->Prop} {h p lg d at_ sz ba n:Nat} {wv:Value} {T:WkT} {s:DevS} {R:SP}
theorem fn_pln {args:Array Value}(k:∀lv M,wv= .pointer none->SF M n T.lv->Fn P fn args (R*RsA h p lg d at_ sz ba n lv M s) Q):Fn P fn args (R*PLf h p lg d at_ sz ba n wv T none s) Q:=λ g w hs=>by
  obtain ⟨_,⟨a,b,hd,rfl,ha,lv,M,hw,hM,hb⟩,hx⟩:=hs.hp;exact k lv M hw hM g w ⟨hs.os,hs.tape,hs.out,_,⟨a,b,hd,rfl,ha,hb⟩,hx⟩
theorem fn_pls {args:Array Value}{ov:Bool}(k:∀w t mb lv tk gv,wv=(pz w)->Fn P fn args (R*PbA ⟨h,w,t,p,lg,d,mb,lv,tk,gv,at_,sz,ba,n⟩ T ov s) Q):Fn P fn args (R*PLf h p lg d at_ sz ba n wv T (some ov) s) Q:=λ g w hs=>by
  obtain ⟨_,⟨a,b,hd,rfl,ha,w9,t,mb,lv,tk,gv,hw,hb⟩,hx⟩:=hs.hp;exact k w9 t mb lv tk gv hw g w ⟨hs.os,hs.tape,hs.out,_,⟨a,b,hd,rfl,ha,hb⟩,hx⟩
theorem pln_back {lv:Nat}{M:MS}(hM:SF M n T.lv){g:Gh}{w:World}(hs:sat g w (R*RsA h p lg d at_ sz ba n lv M s)):sat g w (R*PLf h p lg d at_ sz ba n (.pointer none) T none s):=
  hs.mono λ x ⟨a,b,hd,e,ha,hb⟩=>⟨a,b,hd,e,ha,lv,M,rfl,hM,hb⟩
theorem pls_back {w9 t mb lv tk gv:Nat}{ov:Bool}{g:Gh}{w:World}(hs:sat g w (R*PbA ⟨h,w9,t,p,lg,d,mb,lv,tk,gv,at_,sz,ba,n⟩ T ov s)):sat g w (R*PLf h p lg d at_ sz ba n ((pz w9)) T (some ov) s):=
  hs.mono λ x ⟨a,b,hd,e,ha,hb⟩=>⟨a,b,hd,e,ha,w9,t,mb,lv,tk,gv,rfl,hb⟩
end
attribute [local irreducible] crk crL crc Sl pt ro Dev imgS recS readS recsF rdW rdO rkT Parts rvl recordsS runsL adrF kcl xcl kys runA runsF layF ovF TxA adZ WkA comS conB rootV
end Go.Vl

namespace Go.Vl
open Go Go.Proofs Go.Proofs.Tryz
section
variable {n:Nat} {T:WkT} {s:DevS} {ba at_ sz N:Nat} {b:Int} {xs:List Nat} {v:Nat}
theorem takeY_n:takeY n T none s=(0,1,T):=if_neg (show¬(1:Int)=0 by decide)
theorem giveY_n:giveY T none s b=(1,T):=if_neg (show¬(1:Int)=0 by decide)
theorem readY_n:readY T none s ba b=([],1):=if_neg (show¬(1:Int)=0 by decide)
theorem writeY_n:writeY T none s ba b xs=(1,T):=if_neg (show¬(1:Int)=0 by decide)
theorem rootY_n:rootY T none s=(0,1):=if_neg (show¬(1:Int)=0 by decide)
theorem setY_n:setY T none s v=(1,T):=if_neg (show¬(1:Int)=0 by decide)
theorem comY_n:comY at_ sz N T none s=((1,T),s):=if_neg (show¬(1:Int)=0 by decide)
end
theorem TakeP {R:SP}{h p lg d at_ sz ba n:Nat}{wv:Value}{T:WkT}{o:Option Bool}{s:DevS}(hb:HkB at_ sz ba n s):Fn Tryz.prog 14 #[wv] (R*PLf h p lg d at_ sz ba n wv T o s) (λ r B=>r= .tuple #[.int .i64 (takeY n T o s).1,.int .i64 (takeY n T o s).2.1]/\ B=R*PLf h p lg d at_ sz ba n wv (takeY n T o s).2.2 (oY o s) s):=by
  cases o with
  |none=>
    refine fn_pln λ lv M hwv hM=> ?_
    subst hwv;refine Fn.weak (Take_e (beginN_c.mono λ v B ⟨h1,h2⟩=>⟨h1,h2.symm⟩) (by decide)) ?_;rintro v B ⟨rfl,rfl⟩;rw [takeY_n]
    exact ⟨_,λ g9 w9 h9=>pln_back hM h9,rfl,rfl⟩
  |some ov=>
    refine fn_pls λ w t mb lv tk gv hwv=> ?_
    subst hwv;refine Fn.weak (TakeX_p (X:=⟨h,w,t,p,lg,d,mb,lv,tk,gv,at_,sz,ba,n⟩) (T:=T) (ov:=ov) (s:=s) (hc:=ct_here) (hb:=hb.wk)) ?_;rintro v B ⟨b,e,T2,h1,rfl,rfl⟩;have h1:takeY n T (some ov) s=(b,e,T2):=h1;rw [h1]
    exact ⟨_,λ g9 w9 h9=>pls_back h9,rfl,rfl⟩
theorem GiveP {R:SP}{h p lg d at_ sz ba n:Nat}{wv:Value}{T:WkT}{o:Option Bool}{s:DevS}(hb:HkB at_ sz ba n s){b:Int}:Fn Tryz.prog 15 #[wv,.int .i64 b] (R*PLf h p lg d at_ sz ba n wv T o s) (λ r B=>r= .int .i64 (giveY T o s b).1/\ B=R*PLf h p lg d at_ sz ba n wv (giveY T o s b).2 (oY o s) s):=by
  cases o with
  |none=>
    refine fn_pln λ lv M hwv hM=> ?_
    subst hwv;refine Fn.weak (Give_e (b:=b) (use_e (beginN_c.mono λ v B ⟨h1,h2⟩=>⟨h1,h2.symm⟩) (by decide)) (by decide)) ?_;rintro v B ⟨rfl,rfl⟩;rw [giveY_n]
    exact ⟨_,λ g9 w9 h9=>pln_back hM h9,rfl,rfl⟩
  |some ov=>
    refine fn_pls λ w t mb lv tk gv hwv=> ?_
    subst hwv;refine Fn.weak (GiveX_p (X:=⟨h,w,t,p,lg,d,mb,lv,tk,gv,at_,sz,ba,n⟩) (T:=T) (ov:=ov) (s:=s) (hc:=ct_here) (hb:=hb.wk)) ?_;rintro v B ⟨e,T2,h1,rfl,rfl⟩;have h1:giveY T (some ov) s b=(e,T2):=h1;rw [h1]
    exact ⟨_,λ g9 w9 h9=>pls_back h9,rfl,rfl⟩
theorem ReadP {R:SP}{h p lg d at_ sz ba n:Nat}{wv:Value}{T:WkT}{o:Option Bool}{s:DevS}(hb:HkB at_ sz ba n s){b:Int}:Fn Tryz.prog 16 #[wv,.int .i64 b] (R*PLf h p lg d at_ sz ba n wv T o s) (λ r B=>∃a c,r= .tuple #[.slice a (readY T o s ba b).1.length c,.int .i64 (readY T o s ba b).2]/\ (readY T o s ba b).1.length<=c/\ B=R*PLf h p lg d at_ sz ba n wv T (oY o s) s*Sl 1 (.slice a (readY T o s ba b).1.length c) (readY T o s ba b).1.length (bys (readY T o s ba b).1)):=by
  cases o with
  |none=>
    refine fn_pln λ lv M hwv hM=> ?_
    subst hwv;refine Fn.weak (Read_e (b:=b) (use_e (beginN_c.mono λ v B ⟨h1,h2⟩=>⟨h1,h2.symm⟩) (by decide)) (by decide)) ?_;rintro v B ⟨rfl,rfl⟩;rw [readY_n]
    exact ⟨_,λ g9 w9 h9=>sl_nil (k:=1) (pln_back hM h9),none,0,rfl,Nat.le_refl _,rfl⟩
  |some ov=>
    refine fn_pls λ w t mb lv tk gv hwv=> ?_
    subst hwv;refine Fn.weak (ReadX_p (X:=⟨h,w,t,p,lg,d,mb,lv,tk,gv,at_,sz,ba,n⟩) (T:=T) (ov:=ov) (s:=s) (hc:=ct_here) (hb:=hb.wk)) ?_;rintro v B ⟨a,c,xs,e,h1,rfl,h2,rfl⟩;have h1:readY T (some ov) s ba b=(xs,e):=h1;rw [h1]
    exact ⟨R*PLf h p lg d at_ sz ba n ((pz w)) T (oY (some ov) s) s*Sl 1 (.slice a xs.length c) xs.length (bys xs),λ g9 w9 h9=>(pls_back (R:=R*Sl 1 (.slice a xs.length c) xs.length (bys xs)) (h9.perm (by ac_rfl))).perm (by show _=R*PLf h p lg d at_ sz ba n _ T (some (o13 ov s)) s*_;ac_rfl),a,c,rfl,h2,rfl⟩
theorem WriteP {R:SP}{h p lg d at_ sz ba n:Nat}{wv:Value}{T:WkT}{o:Option Bool}{s:DevS}(hb:HkB at_ sz ba n s){b:Int}{a:Option Addr}{m c:Nat}{xs:List Nat}(hr:Rs R a (bys xs):=by exact rbqz)(hxl:xs.length=m)(hxb:∀x∈xs,x<256):Fn Tryz.prog 18 #[wv,.int .i64 b,.slice a m c] (R*PLf h p lg d at_ sz ba n wv T o s) (λ r B=>r= .int .i64 (writeY T o s ba b xs).1/\ B=R*PLf h p lg d at_ sz ba n wv (writeY T o s ba b xs).2 (oY o s) s):=by
  cases o with
  |none=>
    refine fn_pln λ lv M hwv hM=> ?_
    subst hwv;refine Fn.weak (Write_e (b:=b) (use_e (beginN_c.mono λ v B ⟨h1,h2⟩=>⟨h1,h2.symm⟩) (by decide)) (by decide)) ?_;rintro v B ⟨rfl,rfl⟩;rw [writeY_n]
    exact ⟨_,λ g9 w9 h9=>pln_back hM h9,rfl,rfl⟩
  |some ov=>
    refine fn_pls λ w t mb lv tk gv hwv=> ?_
    subst hwv;refine Fn.weak (WriteX_p (X:=⟨h,w,t,p,lg,d,mb,lv,tk,gv,at_,sz,ba,n⟩) (T:=T) (ov:=ov) (s:=s) (hc:=ct_here) (hb:=hb.wk) (hr:=hr) (hxl:=hxl) (hxb:=hxb)) ?_;rintro v B ⟨e,T2,h1,rfl,rfl⟩;have h1:writeY T (some ov) s ba b xs=(e,T2):=h1;rw [h1]
    exact ⟨_,λ g9 w9 h9=>pls_back h9,rfl,rfl⟩
theorem RootP {R:SP}{h p lg d at_ sz ba n:Nat}{wv:Value}{T:WkT}{o:Option Bool}{s:DevS}(hb:HkB at_ sz ba n s):Fn Tryz.prog 20 #[wv] (R*PLf h p lg d at_ sz ba n wv T o s) (λ r B=>r= .tuple #[.int .u64 (((rootY T o s).1:Nat):Int),.int .i64 (rootY T o s).2]/\ B=R*PLf h p lg d at_ sz ba n wv T (oY o s) s):=by
  cases o with
  |none=>
    refine fn_pln λ lv M hwv hM=> ?_
    subst hwv;refine Fn.weak (Root_e (beginN_c.mono λ v B ⟨h1,h2⟩=>⟨h1,h2.symm⟩) (by decide)) ?_;rintro v B ⟨rfl,rfl⟩;rw [rootY_n]
    exact ⟨_,λ g9 w9 h9=>pln_back hM h9,rfl,rfl⟩
  |some ov=>
    refine fn_pls λ w t mb lv tk gv hwv=> ?_
    subst hwv;refine Fn.weak (RootX_p (X:=⟨h,w,t,p,lg,d,mb,lv,tk,gv,at_,sz,ba,n⟩) (T:=T) (ov:=ov) (s:=s) (hc:=ct_here) (hb:=hb.wk)) ?_;rintro v B ⟨z,e,h1,rfl,rfl⟩;have h1:rootY T (some ov) s=(z,e):=h1;rw [h1]
    exact ⟨_,λ g9 w9 h9=>pls_back h9,rfl,rfl⟩
theorem SetRootP {R:SP}{h p lg d at_ sz ba n:Nat}{wv:Value}{T:WkT}{o:Option Bool}{s:DevS}(hb:HkB at_ sz ba n s){z:Nat}(hv:z<18446744073709551616):Fn Tryz.prog 21 #[wv,.int .u64 ((z:Nat):Int)] (R*PLf h p lg d at_ sz ba n wv T o s) (λ r B=>r= .int .i64 (setY T o s z).1/\ B=R*PLf h p lg d at_ sz ba n wv (setY T o s z).2 (oY o s) s):=by
  cases o with
  |none=>
    refine fn_pln λ lv M hwv hM=> ?_
    subst hwv;refine Fn.weak (SetRoot_e (beginN_c.mono λ v B ⟨h1,h2⟩=>⟨h1,h2.symm⟩) (by decide)) ?_;rintro v B ⟨rfl,rfl⟩;rw [setY_n]
    exact ⟨_,λ g9 w9 h9=>pln_back hM h9,rfl,rfl⟩
  |some ov=>
    refine fn_pls λ w t mb lv tk gv hwv=> ?_
    subst hwv;refine Fn.weak (SetRootX_p (X:=⟨h,w,t,p,lg,d,mb,lv,tk,gv,at_,sz,ba,n⟩) (T:=T) (ov:=ov) (s:=s) (hc:=ct_here) (hb:=hb.wk) (hv:=hv)) ?_;rintro v B ⟨e,T2,h1,rfl,rfl⟩;have h1:setY T (some ov) s z=(e,T2):=h1;rw [h1]
    exact ⟨_,λ g9 w9 h9=>pls_back h9,rfl,rfl⟩
theorem CommitP {R:SP}{h p lg d at_ sz ba n:Nat}{wv:Value}{T:WkT}{o:Option Bool}{s:DevS}(hb:HkB at_ sz ba n s)(hroom:Room (2*(s.ls.length*64)+sz+8) s):Fn Tryz.prog 22 #[wv] (R*PLf h p lg d at_ sz ba n wv T o s) (λ r B=>r= .int .i64 (comY at_ sz (s.ls.length*64) T o s).1.1/\ B=R*PLf h p lg d at_ sz ba n wv (comY at_ sz (s.ls.length*64) T o s).1.2 (endY o) (comY at_ sz (s.ls.length*64) T o s).2):=by
  cases o with
  |none=>
    refine fn_pln λ lv M hwv hM=> ?_
    subst hwv;refine Fn.weak (Commit_e (beginN_c.mono λ v B ⟨h1,h2⟩=>⟨h1,h2.symm⟩) (by decide)) ?_;rintro v B ⟨rfl,rfl⟩;rw [comY_n]
    exact ⟨_,λ g9 w9 h9=>pln_back hM h9,rfl,rfl⟩
  |some ov=>
    refine fn_pls λ w t mb lv tk gv hwv=> ?_
    subst hwv;refine Fn.weak (CommitX13_p (X:=⟨h,w,t,p,lg,d,mb,lv,tk,gv,at_,sz,ba,n⟩) (T:=T) (ov:=ov) (s:=s) (hc:=ct_here) (hb:=hb.wk) (hlw:=hb.lw) (hroom:=hroom)) ?_;rintro v B ⟨e,T2,s2,h1,rfl,rfl⟩;have h1:comY at_ sz (s.ls.length*64) T (some ov) s=((e,T2),s2):=h1;rw [h1]
    exact ⟨_,λ g9 w9 h9=>pls_back h9,rfl,rfl⟩
def RLf (hd q r lg at_ sz ba n:Nat)(wv:Value)(T:WkT)(o:Option Bool)(s:DevS):SP:=match o with
  |none=>λ hh=>∃l,wv= .pointer none/\ (pt hd (cl [pz q,vn ba,vn n,.slice (some ⟨l,0,none⟩) n n,.pointer none] 122)*Sl 1 (.slice (some ⟨l,0,none⟩) n n) n (bos (wasF n T.lv))*pt q (cl [pz r,pz lg,.pointer none] 177)*pt lg (cl [pz r,vn at_,vn sz] 208)*RDev r s) hh
  |some ov=>λ hh=>∃w t l k1 k2,wv=(pz w)/\ RbA ⟨hd,w,t,q,r,lg,at_,sz,ba,n,l,k1,k2⟩ T ov s hh
section
variable {P:Program} {fn:FuncId} {Q:Value->SP->Prop} {hd q r lg at_ sz ba n:Nat} {wv:Value} {T:WkT} {s:DevS} {R:SP}
end
section
variable {A R:SP} {C:SP->SP} {h p lg d at_ sz ba n lv:Nat} {M:MS} {s:DevS} (hc:Ct A (RsA h p lg d at_ sz ba n lv M s) R C)
include hc
theorem rsa_h:Has A h (cl (hcs p ba n lv none) 99):=λ g w h=>by
  rw [hc.1] at h;unfold RsA at h;exact has_pt g w (h.right.left.left.left.left)
theorem rsa_p:Has A p (cl (pocs lg d none) 78):=λ g w h=>by
  rw [hc.1] at h;unfold RsA at h;exact has_pt g w (h.right.left.left.right)
theorem rsa_dev:Ct A (Dev d s) (R*pt h (cl (hcs p ba n lv none) 99)*pt lv (mpo .i64 M)*pt p (cl (pocs lg d none) 78)*pt lg (cl (lcs11 d at_ sz) 183)) (λ Z=>R*pt h (cl (hcs p ba n lv none) 99)*pt lv (mpo .i64 M)*pt p (cl (pocs lg d none) 78)*pt lg (cl (lcs11 d at_ sz) 183)*Z):=
  ⟨by rw [hc.1];unfold RsA;ac_rfl,λ _=>rfl⟩
end
theorem pbo_rs {A R:SP}{C:SP->SP}{X:WkX}{Y:WkY}{s:DevS}{lv:Nat}(hc:Ct A (PbO X s lv Y) R C):Ct A (RsA X.h X.p X.lg X.d X.at_ X.sz X.ba X.n lv Y.Ml s) (R*pt X.w (cl (wcs X.h X.t X.tk X.gv Y.ls true) 101)) (λ Z=>R*pt X.w (cl (wcs X.h X.t X.tk X.gv Y.ls true) 101)*Z):=⟨by rw [hc.1];unfold PbO;ac_rfl,λ _=>rfl⟩
attribute [local irreducible] crk crL crc Sl pt ro Dev imgS recS readS recsF rdW rdO rkT Parts rvl recordsS runsL adrF kcl xcl kys runA runsF layF ovF TxA adZ WkA comS conB rootV
theorem BeginH_e {A:SP}{h p ba n lv:Nat}{ow:Option Nat}{e:Int}(hh:Has A h (cl (hcs p ba n lv ow) 99))(hP:Fn Tryz.prog 48 #[pz p] A (λ v B=>v= .tuple #[.pointer none,.int .i64 e]/\ A=B))(he:e≠0):
    Fn Tryz.prog 12 #[pz h] A (λ r B=>r= .tuple #[.pointer none,.int .i64 e]/\ A=B):=by
  refine fn_enterW func12 rfl ntmps12 (by simp) ?_;refine Zc0 ?_;refine tl_c rfl (o_call bd47 rfl (thereH_c (hh:=hh))) ?_;refine Zfz ?_;intro h;refine Ze3 ?_;refine tv (o_fieldAddr (o:=0) underlying99 rfl rfl sz66 rfl) ?_;refine tv (o_load p66 rfl hh rfl) ?_;refine tl_c rfl (o_call bd48 rfl (hP)) ?_;rintro _ _ ⟨rfl,rfl⟩;refine Zdc ?_;refine Zk ?_;refine tc_cond rfl (sbq ?_) (λ h=> ?_)
  . intro h;refine Zfj ?_;exact ⟨_,A,res2 rfl rfl rfl,λ _ _ h=>h,rfl,rfl⟩
  exfalso;simp at h;exact he h
end Go.Vl

namespace Go.Vl
open Go Go.Proofs Go.Proofs.Tryz
theorem bgnY_no {at_ sz:Nat}{T:WkT}{o:Option Bool}{s:DevS}(h:bgnB at_ sz (liveY o) s≠0):bgnY at_ sz T o s=(bgnB at_ sz (liveY o) s,T,o):=if_neg h
theorem bgnY_ok {at_ sz:Nat}{T:WkT}{o:Option Bool}{s:DevS}(h:bgnB at_ sz (liveY o) s=0):bgnY at_ sz T o s=(0,T0 T.lv,some false):=if_pos h
theorem BeginP {R:SP}{h p lg d at_ sz ba n:Nat}{wv:Value}{T:WkT}{o:Option Bool}{s:DevS}(hb:HkB at_ sz ba n s):Fn Tryz.prog 12 #[pz h] (R*PLf h p lg d at_ sz ba n wv T o s) (λ r B=>∃wv2,r= .tuple #[wv2,.int .i64 (bgnY at_ sz T o s).1]/\ ((((bgnY at_ sz T o s).1≠0/\ wv2= .pointer none)/\ B=R*PLf h p lg d at_ sz ba n wv T o s)∨(((bgnY at_ sz T o s).1=0/\∃w2,wv2=(pz w2))/\ B=R*PLf h p lg d at_ sz ba n wv2 (T0 T.lv) (some false) s))):=by
  by_cases hz:bgnB at_ sz (liveY o) s=0
  . rw [bgnY_ok hz]
    cases o with
    |none=>
      refine fn_pln λ lv M hwv hM=> ?_
      subst hwv;obtain ⟨ho,_,hst⟩:=bgn_ok hz;refine Fn.weak (BeginH_c (R:=R*pt lv (mpo .i64 M)) (hd:=h) (p:=p) (ba:=ba) (n:=n) (lv:=lv) (lg:=lg) (d:=d) (at_:=at_) (sz:=sz) (s:=s) (by unfold RsA;ac_rfl) hb.lw ho hst) ?_;rintro v B ⟨w2,t2,mb2,tk2,gv2,rfl,rfl⟩;exact ⟨R*PLf h p lg d at_ sz ba n ((pz w2)) (T0 T.lv) (some false) s,λ g9 w9 h9=>pls_back (pba_back (X:=⟨h,w2,t2,p,lg,d,mb2,lv,tk2,gv2,at_,sz,ba,n⟩) (lv:=lv) (Y:=⟨M,⟨[],0⟩,⟨[],0⟩,⟨[],0⟩,0⟩) (wk_new (X:=⟨h,w2,t2,p,lg,d,mb2,lv,tk2,gv2,at_,sz,ba,n⟩) hM) (h9.perm (by unfold WkA;dsimp only;ac_rfl))),_,rfl,.inr ⟨⟨rfl,w2,rfl⟩,rfl⟩⟩
    |some ov=>
      refine fn_pls λ w t mb lv tk gv hwv=> ?_
      subst hwv
      cases ov with
      |true=>
        refine fn_pbo λ lv2 Y hM=> ?_
        obtain ⟨ho,_,hst⟩:=bgn_ok hz;refine Fn.weak (BeginH_c (R:=R*pt lv2 (mpo .i64 Y.Ml)*pt w (cl (wcs h t tk gv Y.ls true) 101)) (hd:=h) (p:=p) (ba:=ba) (n:=n) (lv:=lv2) (lg:=lg) (d:=d) (at_:=at_) (sz:=sz) (s:=s) (by unfold PbO RsA;dsimp only;ac_rfl) hb.lw ho hst) ?_;rintro v B ⟨w2,t2,mb2,tk2,gv2,rfl,rfl⟩;exact ⟨R*PLf h p lg d at_ sz ba n ((pz w2)) (T0 T.lv) (some false) s,λ g9 w9 h9=>pls_back (pba_back (X:=⟨h,w2,t2,p,lg,d,mb2,lv2,tk2,gv2,at_,sz,ba,n⟩) (lv:=lv2) (Y:=⟨Y.Ml,⟨[],0⟩,⟨[],0⟩,⟨[],0⟩,0⟩) (wk_new (X:=⟨h,w2,t2,p,lg,d,mb2,lv2,tk2,gv2,at_,sz,ba,n⟩) hM) (Dr.sat ⟨pt w (cl (wcs h t tk gv Y.ls true) 101),by unfold WkA;dsimp only;ac_rfl⟩ _ _ h9)),_,rfl,.inr ⟨⟨rfl,w2,rfl⟩,rfl⟩⟩
      |false=>obtain ⟨_,h9,_⟩:=bgn_ok hz;cases h9
  rw [bgnY_no hz]
  cases o with
  |none=>
    refine fn_pln λ lv M hwv hM=> ?_
    subst hwv;have hne:bgnB at_ sz (liveY none) s≠0:=hz;refine Fn.weak (BeginH_e (rsa_h ct_here) (BeginP_no (s:=s) (at_:=at_) (sz:=sz) (d:=d) (lg:=lg) (p:=p) (b:=liveY none) (rsa_dev ct_here) (rsa_p ct_here) rfl hsqz hb.lw hne) hne) ?_;rintro v B ⟨rfl,rfl⟩;exact ⟨_,λ g9 w9 h9=>pln_back hM h9,_,rfl,.inl ⟨⟨by first|exact hne|skip,rfl⟩,rfl⟩⟩
  |some ov=>
    refine fn_pls λ w t mb lv tk gv hwv=> ?_
    subst hwv
    cases ov with
    |true=>
      refine fn_pbo λ lv2 Y hM=> ?_
      have hne:bgnB at_ sz (liveY (some true)) s≠0:=hz;refine Fn.weak (BeginH_e (rsa_h (pbo_rs (X:=⟨h,w,t,p,lg,d,mb,lv,tk,gv,at_,sz,ba,n⟩) ct_here)) (BeginP_no (s:=s) (at_:=at_) (sz:=sz) (d:=d) (lg:=lg) (p:=p) (b:=liveY (some true)) (rsa_dev (pbo_rs (X:=⟨h,w,t,p,lg,d,mb,lv,tk,gv,at_,sz,ba,n⟩) ct_here)) (rsa_p (pbo_rs (X:=⟨h,w,t,p,lg,d,mb,lv,tk,gv,at_,sz,ba,n⟩) ct_here)) rfl hsqz hb.lw hne) hne) ?_;rintro v B ⟨rfl,rfl⟩;exact ⟨_,λ g9 w9 h9=>pls_back (pbo_back (X:=⟨h,w,t,p,lg,d,mb,lv,tk,gv,at_,sz,ba,n⟩) hM h9),_,rfl,.inl ⟨⟨by first|exact hne|skip,rfl⟩,rfl⟩⟩
    |false=>
      refine fn_pba λ lv2 Y hok=> ?_
      have hne:bgnB at_ sz (liveY (some false)) s≠0:=hz;refine Fn.weak (BeginH_e (wka_h (X:={ (⟨h,w,t,p,lg,d,mb,lv,tk,gv,at_,sz,ba,n⟩:WkX) with lv:=lv2 }) ct_here) (BeginP_no (s:=s) (at_:=at_) (sz:=sz) (d:=d) (lg:=lg) (p:=p) (b:=liveY (some false)) (txa_dev (wka_txa (X:={ (⟨h,w,t,p,lg,d,mb,lv,tk,gv,at_,sz,ba,n⟩:WkX) with lv:=lv2 }) ct_here)) (txa_p (wka_txa (X:={ (⟨h,w,t,p,lg,d,mb,lv,tk,gv,at_,sz,ba,n⟩:WkX) with lv:=lv2 }) ct_here)) rfl hsqz hb.lw hne) hne) ?_;rintro v B ⟨rfl,rfl⟩;exact ⟨_,λ g9 w9 h9=>pls_back (pba_back (X:=⟨h,w,t,p,lg,d,mb,lv,tk,gv,at_,sz,ba,n⟩) hok h9),_,rfl,.inl ⟨⟨by first|exact hne|skip,rfl⟩,rfl⟩⟩
structure StU where
  k:Int
  q:Int
  n:Int
  ea:Option Addr
  ec:Nat
  es:List (Int×Int)
  da:Option Addr
  dc:Nat
  d:List Nat
  ka:Option Addr
  kc:Nat
  kp:List Int
def StU.cells (t:StU):List Value:=[.int .i64 t.k,.int .i64 t.q,.int .i64 t.n,.slice t.ea t.es.length t.ec,.slice t.da t.d.length t.dc,.slice t.ka t.kp.length t.kc]
structure StUW (A:SP) (t:StU):Prop where
  k: -9223372036854775808<=t.k/\ t.k<=9223372036854775807
  q: -9223372036854775808<=t.q/\ t.q<=9223372036854775807
  n: -9223372036854775808<=t.n/\ t.n<=9223372036854775807
  ers:Rs A t.ea (xcl t.es)
  ex:∀x∈t.es,XW x
  dcap:t.d.length<=t.dc
  drs:Rs A t.da (bys t.d)
  dby:∀x∈t.d,x<256
  kcap:t.kp.length<=t.kc
  krs:Rs A t.ka (ints t.kp)
  kb:∀x∈t.kp,-9223372036854775808<=x/\ x<=9223372036854775807
def StU.sz (t:StU):Nat:=t.es.length+t.d.length+t.kp.length+1
theorem StUW.left {A X:SP}{t:StU}(h:StUW A t):StUW (A*X) t:=⟨h.k,h.q,h.n,h.ers.left,h.ex,h.dcap,h.drs.left,h.dby,h.kcap,h.krs.left,h.kb⟩
def xf11 (x:Nat):Nat:=(IntKind.u8.wrap ((BitVec.ofInt IntKind.u8.bits (x:Int)^^^BitVec.ofInt IntKind.u8.bits 255).toNat:Int)).toNat
structure Op12U where
  k:Int
  p:Int
  n:Int
  ba:Option Addr
  bc:Nat
  X:List Nat
  ka:Option Addr
  kc:Nat
  kp:List Int
def Op12U.cells (t:Op12U):List Value:=op12 t.k t.p t.n t.ba t.X.length t.bc t.ka t.kp.length t.kc
structure Op12W (A:SP) (t:Op12U):Prop where
  k: -9223372036854775808<=t.k/\ t.k<=9223372036854775807
  p: -9223372036854775808<=t.p/\ t.p<=9223372036854775807
  n: -9223372036854775808<=t.n/\ t.n<=9223372036854775807
  bcap:t.X.length<=t.bc
  brs:Rs A t.ba (bys t.X)
  bby:∀x∈t.X,x<256
  kcap:t.kp.length<=t.kc
  krs:Rs A t.ka (ints t.kp)
  kb:∀x∈t.kp,-9223372036854775808<=x/\ x<=9223372036854775807
def Op12U.sz (t:Op12U):Nat:=t.X.length+t.kp.length+1
theorem Op12W.left {A X:SP}{t:Op12U}(h:Op12W A t):Op12W (A*X) t:=⟨h.k,h.p,h.n,h.bcap,h.brs.left,h.bby,h.kcap,h.krs.left,h.kb⟩
theorem pl_open {R:SP}{h p lg d at_ sz ba n:Nat}{wv:Value}{T:WkT}{o:Option Bool}{s:DevS}{g:Gh}{w:World}(hs:sat g w (R*PLf h p lg d at_ sz ba n wv T o s)):∃Z,sat g w (R*Dev d s*Z)/\∀ (R':SP) (s2:DevS),s2.ls.length=s.ls.length->∀g w,sat g w (R'*Dev d s2*Z)->sat g w (R'*PLf h p lg d at_ sz ba n wv T o s2):=by
  cases o with
  |none=>
    obtain ⟨_,⟨a,b,hdis,rfl,ha,lv,M,rfl,hM,hb⟩,hx⟩:=hs.hp;have h1:sat g w (R*RsA h p lg d at_ sz ba n lv M s):=⟨hs.os,hs.tape,hs.out,_,⟨a,b,hdis,rfl,ha,hb⟩,hx⟩;exact ⟨pt h (cl (hcs p ba n lv none) 99)*pt lv (mpo .i64 M)*pt p (cl (pocs lg d none) 78)*pt lg (cl (lcs11 d at_ sz) 183),h1.perm (by unfold RsA;ac_rfl),λ R' s2 _ g w h=>pln_back hM (h.perm (by unfold RsA;ac_rfl))⟩
  |some ov=>
    obtain ⟨_,⟨a,b,hdis,rfl,ha,w0,t,mb,lv,tk,gv,rfl,hb⟩,hx⟩:=hs.hp;have h1:sat g w (R*PbA ⟨h,w0,t,p,lg,d,mb,lv,tk,gv,at_,sz,ba,n⟩ T ov s):=⟨hs.os,hs.tape,hs.out,_,⟨a,b,hdis,rfl,ha,hb⟩,hx⟩
    cases ov with
    |true=>
      obtain ⟨lv2,Y,hM,h2⟩:=pbo_open h1;exact ⟨pt h (cl (hcs p ba n lv2 none) 99)*pt lv2 (mpo .i64 Y.Ml)*pt p (cl (pocs lg d none) 78)*pt lg (cl (lcs11 d at_ sz) 183)*pt w0 (cl (wcs h t tk gv Y.ls true) 101),h2.perm (by unfold PbO RsA;dsimp only;ac_rfl),λ R' s2 _ g w h=>pls_back (pbo_back (X:=⟨_,w0,t,_,_,_,mb,lv,tk,gv,_,_,_,_⟩) (lv:=lv2) (Y:=Y) hM (h.perm (by unfold PbO RsA;dsimp only;ac_rfl)))⟩
    |false=>
      obtain ⟨lv2,Y,hok,h2⟩:=pba_open h1;exact ⟨pt h (cl (hcs p ba n lv2 (some w0)) 99)*pt w0 (cl (wcs h t tk gv Y.ls false) 101)*pt lv2 (mpo .i64 Y.Ml)*pt tk (mpo .i64 Y.Mt)*pt gv (mpo .i64 Y.Mg)*pt p (cl (pocs lg d (some t)) 78)*pt lg (cl (lcs11 d at_ sz) 183)*pt t (cl (txcs p mb false) 155)*pt mb (mpo .i64 Y.M),h2.perm (by unfold WkA TxA;dsimp only;simp only [Bool.false_eq_true,if_false];ac_rfl),λ R' s2 e g w h=>pls_back (pba_back (X:=⟨_,w0,t,_,_,_,mb,lv,tk,gv,_,_,_,_⟩) (lv:=lv2) (Y:=Y) (by rw [e];exact hok) (h.perm (by unfold WkA TxA;dsimp only;simp only [Bool.false_eq_true,if_false];ac_rfl)))⟩
section
variable {P:Program} {fn:FuncId} {args:Array Value} {Q:Value->SP->Prop}
theorem fn_pl_dev {R:SP}{h p lg d at_ sz ba n:Nat}{wv:Value}{T:WkT}{o:Option Bool}{s:DevS}(k:∀Z,(∀ (R':SP) (s2:DevS),s2.ls.length=s.ls.length->∀g w,sat g w (R'*Dev d s2*Z)->sat g w (R'*PLf h p lg d at_ sz ba n wv T o s2))->Fn P fn args (R*Dev d s*Z) Q):Fn P fn args (R*PLf h p lg d at_ sz ba n wv T o s) Q:=λ g w hs=>by
  obtain ⟨Z,h1,h2⟩:=pl_open hs;exact k Z h2 g w h1
end
theorem ImageP {R:SP}{h p lg d at_ sz ba n:Nat}{wv:Value}{T:WkT}{o:Option Bool}{s:DevS}:Fn Tryz.prog 32 #[pz d] (R*PLf h p lg d at_ sz ba n wv T o s) (λ rr B=>∃a c,rr= .slice a (s.ls.length*64) c/\ s.ls.length*64<=c/\ B=R*PLf h p lg d at_ sz ba n wv T o s*Sl 1 (.slice a (s.ls.length*64) c) (s.ls.length*64) (bys (imgS s))):=by
  refine fn_pl_dev λ Z hZ=>Fn.weak (Image_c (hc:=ct_left ct_here)) ?_
  rintro v B ⟨a,c,rfl,h1,rfl⟩;exact ⟨R*PLf h p lg d at_ sz ba n wv T o s*Sl 1 (.slice a (s.ls.length*64) c) (s.ls.length*64) (bys (imgS s)),λ g9 w9 h9=>(hZ (R*Sl 1 (.slice a (s.ls.length*64) c) (s.ls.length*64) (bys (imgS s))) s rfl g9 w9 (h9.perm (by ac_rfl))).perm (by ac_rfl),a,c,rfl,h1,rfl⟩
theorem TakePC {A R:SP}{C:SP->SP}{h p lg d at_ sz ba n:Nat}{wv:Value}{T:WkT}{o:Option Bool}{s:DevS}(hc:Ct A (PLf h p lg d at_ sz ba n wv T o s) R C:=by exact cbqz)(hb:HkB at_ sz ba n s):Fn Tryz.prog 14 #[wv] A (λ r B=>r= .tuple #[.int .i64 (takeY n T o s).1,.int .i64 (takeY n T o s).2.1]/\ B=C (PLf h p lg d at_ sz ba n wv (takeY n T o s).2.2 (oY o s) s)):=by
  obtain ⟨rfl,hC⟩:=hc
  simp only [hC]
  exact TakeP (hb:=hb)
theorem GivePC {A R:SP}{C:SP->SP}{h p lg d at_ sz ba n:Nat}{wv:Value}{T:WkT}{o:Option Bool}{s:DevS}(hc:Ct A (PLf h p lg d at_ sz ba n wv T o s) R C:=by exact cbqz)(hb:HkB at_ sz ba n s){b:Int}:Fn Tryz.prog 15 #[wv,.int .i64 b] A (λ r B=>r= .int .i64 (giveY T o s b).1/\ B=C (PLf h p lg d at_ sz ba n wv (giveY T o s b).2 (oY o s) s)):=by
  obtain ⟨rfl,hC⟩:=hc
  simp only [hC]
  exact GiveP (hb:=hb)
theorem ReadPC {A R:SP}{C:SP->SP}{h p lg d at_ sz ba n:Nat}{wv:Value}{T:WkT}{o:Option Bool}{s:DevS}(hc:Ct A (PLf h p lg d at_ sz ba n wv T o s) R C:=by exact cbqz)(hb:HkB at_ sz ba n s){b:Int}:Fn Tryz.prog 16 #[wv,.int .i64 b] A (λ r B=>∃a c,r= .tuple #[.slice a (readY T o s ba b).1.length c,.int .i64 (readY T o s ba b).2]/\ (readY T o s ba b).1.length<=c/\ B=C (PLf h p lg d at_ sz ba n wv T (oY o s) s)*Sl 1 (.slice a (readY T o s ba b).1.length c) (readY T o s ba b).1.length (bys (readY T o s ba b).1)):=by
  obtain ⟨rfl,hC⟩:=hc
  simp only [hC]
  exact ReadP (hb:=hb)
theorem WritePC {A R:SP}{C:SP->SP}{h p lg d at_ sz ba n:Nat}{wv:Value}{T:WkT}{o:Option Bool}{s:DevS}(hc:Ct A (PLf h p lg d at_ sz ba n wv T o s) R C:=by exact cbqz)(hb:HkB at_ sz ba n s){b:Int}{a:Option Addr}{m c:Nat}{xs:List Nat}(hr:Rs R a (bys xs):=by exact rbqz)(hxl:xs.length=m)(hxb:∀x∈xs,x<256):Fn Tryz.prog 18 #[wv,.int .i64 b,.slice a m c] A (λ r B=>r= .int .i64 (writeY T o s ba b xs).1/\ B=C (PLf h p lg d at_ sz ba n wv (writeY T o s ba b xs).2 (oY o s) s)):=by
  obtain ⟨rfl,hC⟩:=hc
  simp only [hC]
  exact WriteP (hb:=hb) (hr:=hr) (hxl:=hxl) (hxb:=hxb)
theorem RootPC {A R:SP}{C:SP->SP}{h p lg d at_ sz ba n:Nat}{wv:Value}{T:WkT}{o:Option Bool}{s:DevS}(hc:Ct A (PLf h p lg d at_ sz ba n wv T o s) R C:=by exact cbqz)(hb:HkB at_ sz ba n s):Fn Tryz.prog 20 #[wv] A (λ r B=>r= .tuple #[.int .u64 (((rootY T o s).1:Nat):Int),.int .i64 (rootY T o s).2]/\ B=C (PLf h p lg d at_ sz ba n wv T (oY o s) s)):=by
  obtain ⟨rfl,hC⟩:=hc
  simp only [hC]
  exact RootP (hb:=hb)
theorem SetRootPC {A R:SP}{C:SP->SP}{h p lg d at_ sz ba n:Nat}{wv:Value}{T:WkT}{o:Option Bool}{s:DevS}(hc:Ct A (PLf h p lg d at_ sz ba n wv T o s) R C:=by exact cbqz)(hb:HkB at_ sz ba n s){z:Nat}(hv:z<18446744073709551616):Fn Tryz.prog 21 #[wv,.int .u64 ((z:Nat):Int)] A (λ r B=>r= .int .i64 (setY T o s z).1/\ B=C (PLf h p lg d at_ sz ba n wv (setY T o s z).2 (oY o s) s)):=by
  obtain ⟨rfl,hC⟩:=hc
  simp only [hC]
  exact SetRootP (hb:=hb) (hv:=hv)
theorem CommitPC {A R:SP}{C:SP->SP}{h p lg d at_ sz ba n:Nat}{wv:Value}{T:WkT}{o:Option Bool}{s:DevS}(hc:Ct A (PLf h p lg d at_ sz ba n wv T o s) R C:=by exact cbqz)(hb:HkB at_ sz ba n s)(hroom:Room (2*(s.ls.length*64)+sz+8) s):Fn Tryz.prog 22 #[wv] A (λ r B=>r= .int .i64 (comY at_ sz (s.ls.length*64) T o s).1.1/\ B=C (PLf h p lg d at_ sz ba n wv (comY at_ sz (s.ls.length*64) T o s).1.2 (endY o) (comY at_ sz (s.ls.length*64) T o s).2)):=by
  obtain ⟨rfl,hC⟩:=hc
  simp only [hC]
  exact CommitP (hb:=hb) (hroom:=hroom)
theorem BeginPC {A R:SP}{C:SP->SP}{h p lg d at_ sz ba n:Nat}{wv:Value}{T:WkT}{o:Option Bool}{s:DevS}(hc:Ct A (PLf h p lg d at_ sz ba n wv T o s) R C:=by exact cbqz)(hb:HkB at_ sz ba n s):Fn Tryz.prog 12 #[pz h] A (λ r B=>∃wv2,r= .tuple #[wv2,.int .i64 (bgnY at_ sz T o s).1]/\ ((((bgnY at_ sz T o s).1≠0/\ wv2= .pointer none)/\ B=C (PLf h p lg d at_ sz ba n wv T o s))∨(((bgnY at_ sz T o s).1=0/\∃w2,wv2=(pz w2))/\ B=C (PLf h p lg d at_ sz ba n wv2 (T0 T.lv) (some false) s)))):=by
  obtain ⟨rfl,hC⟩:=hc
  simp only [hC]
  exact BeginP (hb:=hb)
theorem ImagePC {A R:SP}{C:SP->SP}{h p lg d at_ sz ba n:Nat}{wv:Value}{T:WkT}{o:Option Bool}{s:DevS}(hc:Ct A (PLf h p lg d at_ sz ba n wv T o s) R C:=by exact cbqz):Fn Tryz.prog 32 #[pz d] A (λ rr B=>∃a c,rr= .slice a (s.ls.length*64) c/\ s.ls.length*64<=c/\ B=C (PLf h p lg d at_ sz ba n wv T o s)*Sl 1 (.slice a (s.ls.length*64) c) (s.ls.length*64) (bys (imgS s))):=by
  obtain ⟨rfl,hC⟩:=hc
  simp only [hC]
  exact ImageP
attribute [local irreducible] crk crL crc Sl pt ro Dev imgS recS readS recsF rdW rdO rkT Parts rvl recordsS runsL adrF kcl xcl kys runA runsF layF ovF TxA adZ WkA comS rollS fromS im13 s13 rootV
theorem Zgd {p r:Prop}(k:r)(h:Kq r->p:=by intro k;refine tv (o_eqi rfl rfl) ?_;refine Zca ?_;exact k.o):p:=h ⟨k⟩
theorem works13_c {A:SP}:
    Fn Tryz.prog 25 #[] A (λ r B=>r= .bool true/\ A=B):=by
  refine fn_enterW func25 rfl ntmps25 (by simp) ?_;refine Zb9 ?_;refine sr ?_;refine tl_x rfl (o_buildSliceL (k:=1) (vs:=ints [0]) (l:=ints [0]) underlying22 sz3 z3 rfl rfl (by decide) (by decide) (by intro v hv;simp only [ints,i64,List.map_cons,List.map_nil,List.mem_cons,List.not_mem_nil,or_false] at hv;first|(subst hv;rfl)|(rcases hv with rfl|rfl|rfl<;>rfl)) rfl) ?_;rintro _ _ ⟨b13,rfl,rfl⟩;refine tv (o_bS (l:=su5 192 4 0 (.slice (some ⟨b13,0,none⟩) 1 1) (.slice none 0 0)) (pv_cons wqz (pv_cons wqz (pv_cons wqz pv_nil))) underlying25 z25 (pl25 underlying25) rfl) ?_;refine tl_c rfl (o_call bd9 rfl (plain13_c (lg:=192) (n:=4) (fi:=0) (m:=1) (c:=1) (zs:=[0]) (h1:=by decide) (h2:=by decide) (h3:=by decide) (h4:=by decide) (hfi:=by decide) (hr:=show Rs _ _ (ints [0]) from by repeat (first|exact rs_pt rfl|apply Rs.left)) (hm:=rfl) (hnd:=by decide) (hz:=by decide))) ?_;rintro _ _ ⟨d15,h15,p15,l15,lv15,M15,rfl,hM15,rfl⟩;have hcal:=s13_calm (lg:=192) (n:=4) (fi:=0) (by decide) (by decide) (by decide) (by decide);obtain ⟨sd,hsd⟩:∃sd,s13 192 4 0=sd:=⟨_,rfl⟩;rw [hsd] at hcal ⊢
  refine Zdc ?_;refine tv (o_eqp underlying28 rfl rfl) ?_;refine Zz ?_;intro h;refine Zbq ?_;refine tl_c rfl (o_call bd12 rfl (Begin13_rest (R:=A*pt b13 (cl (ints [0]) 3)) (h:=h15) (p:=p15) (lg:=l15) (d:=d15) (at_:=128) (sz:=192) (ba:=128+192) (n:=4) (lv:=lv15) (M:=M15) (s:=sd) (hA:=rfl) (hc:=hcal))) ?_;rintro _ _ ⟨w22,t22,mb22,tk22,gv22,rfl,rfl⟩;have hbk:WkB (⟨h15,w22,t22,p15,l15,d15,mb22,lv15,tk22,gv22,128,192,(128+192),4⟩:WkX) sd:=calm_wkb hcal (by show 128<=128+192;decide) (by show 128+192+256*4<=nl13 192 4*64;decide);have hon:=hcal.on;refine Ze7 ?_;refine tl_c rfl (o_call bd14 rfl (Take13_ok (X:=(⟨h15,w22,t22,p15,l15,d15,mb22,lv15,tk22,gv22,128,192,(128+192),4⟩:WkX)) (Y:=(⟨M15,⟨[],0⟩,⟨[],0⟩,⟨[],0⟩,0⟩:WkY)) (T:=T0 (onL [0])) (s:=sd) (hok:=wk_new hM15) (hb:=hbk) (b:=1) (hf:=show leastB _ 4=some 1 from by decide) (ho:=hon))) ?_;rintro _ _ ⟨Y27,rfl,hok27,rfl⟩;refine Ze7 ?_;refine tl_c rfl (o_call bd14 rfl (Take13_ok (X:=(⟨h15,w22,t22,p15,l15,d15,mb22,lv15,tk22,gv22,128,192,(128+192),4⟩:WkX)) (Y:=Y27) (T:=(T0 (onL [0])).take 1) (s:=sd) (hok:=hok27) (hb:=hbk) (b:=2) (hf:=show leastB _ 4=some 2 from by decide) (ho:=hon))) ?_;rintro _ _ ⟨Y32,rfl,hok32,rfl⟩;refine Zc7 ?_;refine Za ?_;refine sr ?_;refine tl_x rfl (o_makeSlice (len:=256) (cap:=256) underlying32 sz5 by5 z5 rfl rfl rfl oqz oqz oqz) ?_;rintro _ _ ⟨b35,rfl,rfl⟩;refine tl_pre (λ _ _ h=>sl_new (k:=1) (n:=256) (cap:=256) (xs:=bys (List.replicate (256) 0)) h oqz (by simp) (by rw [Nat.mul_one,List.take_of_length_le (by simp)];unfold bys;rw [List.map_replicate];rfl)) ?_;refine Zs ?_;refine tv (o_ixP1 underlying32 sz5 rfl rfl sq0z sq2z) ?_;refine tl_u rfl (o_stP (i:=9) (ys:=bys wkX) sz5 rfl rfl rfl ctqz (by decide) (by exact bys_set _ _ _)) ?_;refine nq ?_;refine Ze ?_;refine Zc9 ?_;refine tl_bool (d:=40) rfl dbq (sbq ?_);intro h;refine tlm ?_;refine Zd4 ?_;refine tl_bool (d:=44) rfl dbq (sbq ?_);intro h;refine tlm ?_;refine Zd4 ?_;refine tl_bool (d:=48) rfl dbq (sbq ?_);intro h;refine tlm ?_;refine Zd4 ?_;refine tl_bool (d:=52) rfl dbq (sbq ?_);intro h;refine tlm ?_;refine Zd4 ?_;refine tl_bool (d:=56) rfl dbq (sbq ?_);intro h;refine Zbc ?_;refine tl_c rfl (o_call bd18 rfl (Write13_ok (X:=(⟨h15,w22,t22,p15,l15,d15,mb22,lv15,tk22,gv22,128,192,(128+192),4⟩:WkX)) (Y:=Y32) (T:=((T0 (onL [0])).take 1).take 2) (s:=sd) (hok:=hok32) (hb:=hbk) (b:=1) (xs:=wkX) (hu:=by decide) (hr:=rs_sl) (hxl:=by unfold wkX;rw [List.length_set,List.length_replicate]) (hxb:=by decide) (ho:=hon))) ?_;rintro _ _ ⟨Y59,rfl,hok59,rfl⟩;refine Zd4 ?_;refine tl_bool (d:=62) rfl dbq (sbq ?_);intro h;refine tlm ?_;refine tl_c rfl (o_call bd21 rfl (SetRoot13_ok (X:=(⟨h15,w22,t22,p15,l15,d15,mb22,lv15,tk22,gv22,128,192,(128+192),4⟩:WkX)) (Y:=Y59) (T:=(((T0 (onL [0])).take 1).take 2).write (128+192) 1 wkX) (s:=sd) (hok:=hok59) (hb:=hbk) (v:=258) (hv:=by decide) (ho:=hon))) ?_;rintro _ _ ⟨Y64,rfl,hok64,rfl⟩;refine Zd4 ?_;refine tl_bool (d:=67) rfl dbq (sbq ?_);intro h;refine tlm ?_;refine tl_c rfl (o_call bd22 rfl (Commit13_c (X:=(⟨h15,w22,t22,p15,l15,d15,mb22,lv15,tk22,gv22,128,192,(128+192),4⟩:WkX)) (Y:=Y64) (T:=(((((T0 (onL [0])).take 1).take 2).write (128+192) 1 wkX).root 258)) (s:=sd) (hok:=hok64) (hb:=hbk) (ho:=hon) (hlw:=hcal.lw) (hroom:=hcal.room (by rw [hcal.len];show 2*(nl13 192 4*64)+192+8<=_;decide)))) ?_;rintro _ _ ⟨e69,b69,s69,lv69,M69,hs69,rfl,hM69,rfl⟩;rw [hcal.len] at hs69
  have e64:nl13 192 4*64=1344:=(by decide);obtain ⟨s70,g1,g2,g3⟩:=calm_com (f:=wkF) hcal (by have h9:=hok64.m.out;rw [hcal.len] at h9;exact h9) (λ a c h9=>hok64.m.by_ a c h9) (λ a h9=>by have:=wkF_out a h9;omega) (wkF_need (λ a c h9=>hok64.m.by_ a c h9));obtain ⟨hq9,rfl⟩:=pair_eq g1 hs69
  simp only [Prod.mk.injEq] at hq9
  obtain ⟨rfl,rfl⟩:=hq9;rw [if_pos rfl] at hM69
  refine tv (o_nei rfl rfl) ?_;refine Zeh ?_;intro h;refine Zbq ?_;refine tl_c rfl (o_call bd12 rfl (Begin13_rest (R:=A*pt b13 (cl (ints [0]) 3)*Sl 1 (.slice (some ⟨b35,0,none⟩) 256 256) 256 (bys wkX)*pt w22 (cl (wcs h15 t22 tk22 gv22 Y64.ls true) 101)) (h:=h15) (p:=p15) (lg:=l15) (d:=d15) (at_:=128) (sz:=192) (ba:=128+192) (n:=4) (lv:=lv69) (M:=M69) (s:=s70) (hA:=by ac_rfl) (hc:=g2))) ?_;rintro _ _ ⟨w74,t74,mb74,tk74,gv74,rfl,rfl⟩;have hbk1:WkB (⟨h15,w74,t74,p15,l15,d15,mb74,lv69,tk74,gv74,128,192,(128+192),4⟩:WkX) s70:=calm_wkb g2 (by show 128<=128+192;decide) (by show 128+192+256*4<=nl13 192 4*64;decide)
  have hrd:ovF (T0 (usedB (((((T0 (onL [0])).take 1).take 2).write (128+192) 1 wkX).root 258))).f (128+192+256*1) (((imgS s70).drop (128+192+256*1)).take 256)=wkX:=by
    rw [show (T0 (usedB (((((T0 (onL [0])).take 1).take 2).write (128+192) 1 wkX).root 258))).f=tf0 from rfl,ovF_tf0,calm_sub hcal g2 g3 (.inr (by decide)) (by decide)]
    have hl:(((imgS sd).drop (128+192+256*1)).take 256).length=256:=(by rw [List.length_take,List.length_drop,hcal.il];decide)
    unfold wkF
    rw [layF_ou (m:=256) (.inr (by rw [le_length];decide)) (by rw [hl];exact Nat.le_refl _)]
    exact layF_ov (by rw [hl];unfold wkX;rw [List.length_set,List.length_replicate])
  have hro:rootV (T0 (usedB (((((T0 (onL [0])).take 1).take 2).write (128+192) 1 wkX).root 258))) s70=258:=by
    unfold rootV
    rw [show (T0 (usedB (((((T0 (onL [0])).take 1).take 2).write (128+192) 1 wkX).root 258))).f=tf0 from rfl,ovF_tf0,calm_sub hcal g2 g3 (.inl (by decide)) (by decide)]
    unfold wkF
    rw [layF_ov (by rw [List.length_take,List.length_drop,hcal.il,le_length];decide)];decide
  refine Ze7 ?_;refine tl_c rfl (o_call bd16 rfl (Read13_ok (X:=(⟨h15,w74,t74,p15,l15,d15,mb74,lv69,tk74,gv74,128,192,(128+192),4⟩:WkX)) (Y:=(⟨M69,⟨[],0⟩,⟨[],0⟩,⟨[],0⟩,0⟩:WkY)) (T:=T0 (usedB (((((T0 (onL [0])).take 1).take 2).write (128+192) 1 wkX).root 258))) (s:=s70) (hok:=wk_new hM69) (hb:=hbk1) (b:=1) (hu:=by decide) (ho:=g2.on))) ?_;rintro _ _ ⟨a79,c79,rfl,hc79,rfl⟩;have hrd9:ovF (T0 (usedB (((((T0 (onL [0])).take 1).take 2).write (128+192) 1 wkX).root 258))).f (((⟨h15,w74,t74,p15,l15,d15,mb74,lv69,tk74,gv74,128,192,(128+192),4⟩:WkX)).ba+256*1) (((imgS s70).drop (((⟨h15,w74,t74,p15,l15,d15,mb74,lv69,tk74,gv74,128,192,(128+192),4⟩:WkX)).ba+256*1)).take 256)=wkX:=hrd;rw [hrd9]
  refine Ze7 ?_;refine tl_c rfl (o_call bd20 rfl (Root13_v (X:=(⟨h15,w74,t74,p15,l15,d15,mb74,lv69,tk74,gv74,128,192,(128+192),4⟩:WkX)) (Y:=(⟨M69,⟨[],0⟩,⟨[],0⟩,⟨[],0⟩,0⟩:WkY)) (T:=T0 (usedB (((((T0 (onL [0])).take 1).take 2).write (128+192) 1 wkX).root 258))) (s:=s70) (hok:=wk_new hM69) (hb:=hbk1) (ho:=g2.on))) ?_;rintro _ _ ⟨rfl,rfl⟩;refine tl_env (d:=84) (v:= .tuple #[.int .u64 258,.int .i64 0]) (by show Value.tuple #[.int .u64 ((rootV _ _:Nat):Int),_]=_;rw [hro];rfl) ?_;refine Ze7 ?_;refine tv (o_eqi rfl rfl) ?_;refine tlm ?_;refine tl_bool (d:=89) rfl (sbq ?_) dbq;intro h;refine tlm ?_;refine Zgd ?_;refine tl_bool (d:=93) rfl (sbq ?_) dbq;intro h;refine tlm ?_;refine Zgd ?_;refine tl_bool (d:=97) rfl (sbq ?_) dbq;intro h;refine Zex ?_;refine Zgd ?_;refine tl_bool (d:=102) rfl (sbq ?_) dbq;intro h;refine tlm ?_;refine tv (o_ixP1 (a:=a79) (j:=9) underlying32 sz5 rfl rfl (by decide) (nn_rs (xs:=bys wkX) sq1z (by decide))) ?_;refine tv (o_ldP (a:=a79) (xs:=bys wkX) p5 rfl sq1z (show (bys wkX)[9]? =some (.int .u8 7) from rfl)) ?_;refine Zgd ?_;refine tl_bool (d:=108) rfl (sbq ?_) dbq;intro h;refine tlm ?_;refine Zgd ?_;refine tl_bool (d:=112) rfl (sbq ?_) dbq;intro h;refine tlm ?_;refine tl_c rfl (o_call bd63 rfl (Lives13_c (h:=h15) (lv:=lv69) (M:=M69) (n:=4) (g:=usedB (((((T0 (onL [0])).take 1).take 2).write (128+192) 1 wkX).root 258)) (hh:=by exact wka_h (X:=(⟨h15,w74,t74,p15,l15,d15,mb74,lv69,tk74,gv74,128,192,(128+192),4⟩:WkX)) (Y:=(⟨M69,⟨[],0⟩,⟨[],0⟩,⟨[],0⟩,0⟩:WkY)) (s:=s70) ctqz) (hm:=by exact wka_lv (X:=(⟨h15,w74,t74,p15,l15,d15,mb74,lv69,tk74,gv74,128,192,(128+192),4⟩:WkX)) (Y:=(⟨M69,⟨[],0⟩,⟨[],0⟩,⟨[],0⟩,0⟩:WkY)) (s:=s70) ctqz) (hs:=hM69) (hn:=by decide))) ?_;rintro _ _ ⟨a114,c114,rfl,hc114,rfl⟩;refine tl_x rfl (o_buildSliceL (k:=1) (vs:=ints [0,1,2]) (l:=ints [0,1,2]) underlying22 sz3 z3 rfl rfl (by decide) (by decide) (by intro v hv;simp only [ints,i64,List.map_cons,List.map_nil,List.mem_cons,List.not_mem_nil,or_false] at hv;first|(subst hv;rfl)|(rcases hv with rfl|rfl|rfl<;>rfl)) rfl) ?_;rintro _ _ ⟨b115,rfl,rfl⟩;refine tl_c rfl (o_call bd62 rfl (EqInts_c (xs:=adZ 4 (usedB (((((T0 (onL [0])).take 1).take 2).write (128+192) 1 wkX).root 258))) (ys:=[0,1,2]) (h1:=by repeat (first|with_reducible exact rs_sl|apply Rs.left)) (h2:=by repeat (first|exact rs_pt rfl|apply Rs.left)) (hn:=by rw [wk_adZ];decide) (hx:=rfl) (hy:=rfl))) ?_;rintro _ _ ⟨rfl,rfl⟩;refine tl_env (d:=116) (v:= .bool true) (by show Value.bool (decide _)=_;rw [decide_eq_true wk_adZ]) ?_;refine Zca ?_;refine tl_bool (d:=118) rfl (sbq ?_) dbq;intro h;refine tlm ?_;refine tl_c rfl (o_call bd30 rfl (Room13_c (h:=h15) (lv:=lv69) (M:=M69) (n:=4) (g:=usedB (((((T0 (onL [0])).take 1).take 2).write (128+192) 1 wkX).root 258)) (hh:=by exact wka_h (X:=(⟨h15,w74,t74,p15,l15,d15,mb74,lv69,tk74,gv74,128,192,(128+192),4⟩:WkX)) (Y:=(⟨M69,⟨[],0⟩,⟨[],0⟩,⟨[],0⟩,0⟩:WkY)) (s:=s70) ctqz) (hm:=by exact wka_lv (X:=(⟨h15,w74,t74,p15,l15,d15,mb74,lv69,tk74,gv74,128,192,(128+192),4⟩:WkX)) (Y:=(⟨M69,⟨[],0⟩,⟨[],0⟩,⟨[],0⟩,0⟩:WkY)) (s:=s70) ctqz) (hs:=hM69) (hn:=by decide))) ?_;rintro _ _ ⟨rfl,rfl⟩;refine tv (o_bS (l:=[_,_,_]) (pv_cons wqz (pv_cons wqz (pv_cons wqz pv_nil))) underlying80 z80 (pl80 underlying80) rfl) ?_;refine tv (o_eqst (k:=3) (l:=[((4:Nat):Int),((adS 4 (usedB (((((T0 (onL [0])).take 1).take 2).write (128+192) 1 wkX).root 258))).length:Nat),((4-(adS 4 (usedB (((((T0 (onL [0])).take 1).take 2).write (128+192) 1 wkX).root 258))).length:Nat):Int)]) (m:=[4,3,1]) underlying80 kqz kqz kqz rfl rfl rfl rfl) ?_;refine tl_env (d:=122) (v:= .bool true) (by show Value.bool (decide _)=_;rw [wk_adS];rfl) ?_;refine Zdt ?_;exact ⟨.bool true,A,res1 rfl rfl,Dr.sat drqz,rfl,rfl⟩
end Go.Vl

namespace Go.Vl
open Go Go.Proofs Go.Proofs.Tryz
def bcs (su:List Value)(d p h w e q g v:Value):List Value:=su++[d,p,h,w,e,q,g,v]
theorem hk13 {lg n:Nat}{s:DevS}(h1:128<=lg)(h2:lg<=32768)(h3:lg%64=0)(h4:n<=64)(hwf:WfD s)(hls:s.ls.length=nl13 lg n):HkB 128 lg (128+lg) n s:=by
  have h64:=nl13_64 (n:=n) h3;refine ⟨by omega,by rw [hls,h64];omega,by rw [hls,h64];omega,hwf,⟨by decide,by decide,h1,h3,by rw [hls,h64];omega⟩⟩
attribute [local irreducible] crk crL crc Sl pt ro Dev imgS recS readS recsF rdW rdO rkT Parts rvl recordsS runsL adrF kcl xcl kys runA runsF layF ovF TxA adZ WkA SlB blkS conB imF RDev lineC RLines TxR TxE ldT TxX wasF
end Go.Vl

namespace Go.Vl
open Go Go.Proofs Go.Proofs.Tryz
def w12 (l:List Op12U)(i:Nat):Nat:=((l.drop i).map λ t=>3300+t.X.length).sum
def o12s (l:List Op12U):List Value:=l.flatMap Op12U.cells
def POp12 (A:SP)(cs:List Value)(ts:List Op12U):Prop:=∃a cap,cs=[.slice a ts.length cap]/\ ts.length<=cap/\ Rs A a (o12s ts)/\∀t∈ts,Op12W A t
def PartsI:List Value->List (List Int)->SP
  |v::vs,x::xs=>PartsI vs xs*Sl 1 v x.length (ints x)
  |[],[]=>emp
  |_,_=>pure_ False
def mkI (i k:Nat):Int:=((i*100003+k:Nat):Int)
def mksI (i n:Nat):List Int:=(List.range n).map (mkI i)
def mkLI (j:Nat)(l:List Int):List Int:=mksI j l.length
def PMI:Nat->List Value->List Nat->SP
  |j,v::vs,n::ns=>PMI (j+1) vs ns*Sl 1 v n (ints (mksI j n))
  |_,[],[]=>emp
  |_,_,_=>pure_ False
def GPI:Nat->List Value->List Value->List Nat->SP
  |j,v::vs,g::gs,n::ns=>GPI (j+1) vs gs ns*Gr v n (ints (mksI j n)) g (n+70) (ints (mksI j (n+70)))
  |_,[],[],[]=>emp
  |_,_,_,_=>pure_ False
attribute [local irreducible] Sl SlR pt ro PartsI Gr
end Go.Vl

namespace Go.Vl
open Go Go.Proofs Go.Proofs.Tryz
def st13c (kn bk ln:Int)(vl:Nat)(la:Option Addr)(ll lc:Nat):List Value:=[.int .i64 kn,.int .i64 bk,.int .i64 ln,.int .u64 ((vl:Nat):Int),.slice la ll lc]
def dataS (ln:Int)(vl:Nat):List Nat:=if ln<0∨600<ln then [] else (List.range ln.toNat).map λ i=>(i*7+vl)%256
theorem dataS_lt (ln:Int)(vl:Nat):∀x∈dataS ln vl,x<256:=λ x hx=>by
  unfold dataS at hx
  split at hx
  . cases hx
  obtain ⟨i,_,rfl⟩:=List.mem_map.1 hx;omega
def dataP (m k vl:Nat):List Nat:=(List.range m).map λ i=>if i<k then (i*7+vl)%256 else 0
theorem dataP_len (m k vl:Nat):(dataP m k vl).length=m:=by unfold dataP;simp
theorem dataP_0 (m vl:Nat):dataP m 0 vl=List.replicate m 0:=by
  unfold dataP
  refine List.ext_getElem (by simp) λ i h1 h2=> ?_
  simp only [List.getElem_map,List.getElem_range,List.getElem_replicate]
  rw [if_neg oqz]
theorem dataP_s {m k vl:Nat}(h:k<m):(dataP m k vl).set k ((k*7+vl)%256)=dataP m (k+1) vl:=by
  unfold dataP
  refine List.ext_getElem (by simp) λ i h1 h2=> ?_
  rw [List.getElem_set]
  simp only [List.getElem_map,List.getElem_range]
  by_cases e:k=i
  . subst e;rw [if_pos rfl,if_pos oqz]
  rw [if_neg e]
  by_cases hc:i<k
  . rw [if_pos hc,if_pos oqz]
  rw [if_neg hc,if_neg oqz]
theorem dataP_all {m vl:Nat}{ln:Int}(h:ln=(m:Int))(hm:m<=600):dataP m m vl=dataS ln vl:=by
  unfold dataP dataS
  rw [if_neg oqz,h,Int.toNat_natCast]
  exact List.map_congr_left λ i hi=>by rw [if_pos (List.mem_range.1 hi)]
theorem dataS_out {ln:Int}{vl:Nat}(h:ln<0∨600<ln):dataS ln vl=[]:=by unfold dataS;rw [if_pos h]
attribute [local irreducible] crk crL crc Sl pt ro Dev imgS recS readS recsF rdW rdO rkT Parts rvl recordsS runsL adrF kcl xcl kys runA runsF layF ovF TxA adZ WkA SlB blkS conB imF RDev lineC RLines TxR TxE ldT TxX wasF
theorem Zep {p r:Prop}(k:r)(h:Kq r->p:=by intro k;refine tv (o_fieldAddr (o:=2) underlying42 rfl rfl sz3 rfl) ?_;refine tv (o_load p3 rfl hsqz rfl) ?_;exact k.o):p:=h ⟨k⟩
theorem data13_c {A:SP}{kn bk ln:Int}{vl ll lc:Nat}{la:Option Addr}:
    Fn Tryz.prog 19 #[.agg (st13c kn bk ln vl la ll lc).toArray] A (λ rr B=>∃a c,rr= .slice a (dataS ln vl).length c/\ (dataS ln vl).length<=c/\ B=A*Sl 1 (.slice a (dataS ln vl).length c) (dataS ln vl).length (bys (dataS ln vl))):=by
  refine fn_enterW func19 rfl ntmps19 (by simp) ?_;refine sr ?_;refine tl_x rfl (o_box rfl (l:=(st13c kn bk ln vl la ll lc)) rfl) ?_;rintro _ _ ⟨b1,rfl,rfl⟩;refine Zc1 ?_;refine sr ?_;refine Zep ?_;refine Zd3 ?_;refine tl_bool (d:=8) rfl (λ h=> ?_) (λ h=> ?_)
  . have g8:(ln<0):=(by first|exact of_decide_eq_true h|(have h2:=h;simp at h2;omega)|simpa using h);refine Zdx ?_;refine nq ?_;refine tc_cond_t rfl ?_;refine Zdb ?_;have hout:ln<0∨600<ln:=(by first|exact .inl g8|(right;first|omega|(have h9:=of_decide_eq_true h;omega)|(simp at h;omega)));rw [dataS_out hout]
    exact ⟨_,A*Sl 1 (.slice none 0 0) 0 (bys []),res1 rfl rfl,(λ g w h=>sl_nil (k:=1) (Dr.sat (A':=A) drqz g w h)),none,0,rfl,Nat.le_refl _,rfl⟩
  have g8:¬(ln<0):=(by first|exact of_decide_eq_false h|(have h2:=h;simp at h2;omega)|simpa using h);refine Zep ?_;refine Zb5 ?_;refine nq ?_;refine tc_cond rfl (sbq ?_) (λ h=> ?_)
  . intro h;refine Zdb ?_;have hout:ln<0∨600<ln:=(by first|exact .inl g8|(right;first|omega|(have h9:=of_decide_eq_true h;omega)|(simp at h;omega)));rw [dataS_out hout]
    exact ⟨_,A*Sl 1 (.slice none 0 0) 0 (bys []),res1 rfl rfl,(λ g w h=>sl_nil (k:=1) (Dr.sat (A':=A) drqz g w h)),none,0,rfl,Nat.le_refl _,rfl⟩
  have hin:0<=ln/\ ln<=600:=(by first|(simp at h;omega)|(have h9:=of_decide_eq_false h;omega));obtain ⟨m,rfl⟩:=Int.eq_ofNat_of_zero_le hin.1;have hm6:m<=600:=(by omega);rw [←dataP_all (vl:=vl) rfl hm6,dataP_len]
  refine Zc ?_;refine sr ?_;refine Zep ?_;refine tl_x rfl (o_makeSlice (len:=m) (cap:=m) underlying32 sz5 by5 z5 rfl rfl rfl oqz oqz oqz) ?_;rintro _ _ ⟨b15,rfl,rfl⟩;rw [bys_rep]
  refine tl_pre (A':=A*pt b1 (cl (st13c kn bk ((m:Nat):Int) vl la ll lc) 42)*Sl 1 (.slice (some ⟨b15,0,none⟩) m m) m (bys (List.replicate m 0))) (λ _ _ h=>sl_new (k:=1) (n:=m) (cap:=m) (xs:=bys (List.replicate m 0)) h (Nat.le_refl _) (by rw [bys_length,List.length_replicate];omega) (by rw [List.take_of_length_le (by rw [bys_length,List.length_replicate];omega)])) ?_;refine Zc1 ?_;refine Zd9 ?_;refine tc_loop (λ kk ρ BB=>∃ (k:Nat),(k<=m)/\ kk=m-k/\ ρ 4=(vn k)/\ ρ 1=(pz b1)/\ ρ 3= .slice (some ⟨b15,0,none⟩) m m/\ Dr BB (A*pt b1 (cl (st13c kn bk ((m:Nat):Int) vl la ll lc) 42)*Sl 1 (.slice (some ⟨b15,0,none⟩) m m) m (bys (dataP m k vl)))) (m:=m-(0)) ?_ ?_
  . exact ⟨0,Nat.zero_le _,rfl,rfl,rfl,rfl,by rw [dataP_0];repeat (first|with_reducible exact dr_refl|apply dr_keep|apply dr_drop)⟩
  intro k ρ B hI;obtain ⟨k,hp0,hkk1,hE4,hE1,hE3,hBA⟩:=hI;refine tc_pre hBA.sat ?_;clear hBA;refine te 4 hE4 ?_;refine te 1 hE1 ?_;refine te 3 hE3 ?_;refine Ze ?_;refine Zex ?_;refine Zq ?_;refine tc_cond rfl (λ h=> ?_) (λ h=> ?_)
  . have hk:k<m:=(by first|omega|(simp at h;omega));refine Zbe ?_;refine Zw ?_;refine Zdv ?_;refine tl_env (d:=25) (v:=(vn (k*7))) (by first|rfl|exact congrArg (Value.int .i64) oqz) ?_;refine tv (by first|exact o_conv8 underlying3 underlying5 rfl|exact o_conv underlying3 underlying5 rfl) ?_;refine tv (o_fieldAddr (o:=3) underlying42 rfl rfl sz36 rfl) ?_;refine tv (o_load p36 rfl hsqz rfl) ?_;refine tv (by first|exact o_conv8 underlying36 underlying5 rfl|exact o_conv underlying36 underlying5 rfl) ?_;refine tv (o_addm8 (a:=k*7%256) (b:=vl%256) rfl rfl) ?_;refine tl_env (d:=30) (v:= .int .u8 (((k*7+vl)%256:Nat):Int)) (congrArg (λ z:Nat=>Value.int .u8 (z:Int)) oqz) ?_;refine tv (o_ixP1 underlying32 sz5 rfl rfl hk (nn_rs rs_sl (by rw [bys_length,dataP_len];omega))) ?_;refine tl_u rfl (o_stP (ys:=bys (dataP m (k+1) vl)) sz5 rfl rfl rfl ctqz oqz (by rw [←dataP_s hk];exact bys_set _ _ _)) ?_;refine Zbv ?_;refine Zde ?_;exact ⟨_,by omega,k+1,by omega,rfl,rfl,rfl,rfl,drqz⟩
  obtain rfl:k=m:=by first|omega|(simp at h;omega)
  refine Zda ?_;refine Zf ?_;exact ⟨_,_,res1 rfl rfl,Dr.sat drqz,some ⟨b15,0,none⟩,k,rfl,Nat.le_refl _,rfl⟩
end Go.Vl

namespace Go.Vl
open Go Go.Proofs Go.Proofs.Tryz
def lastW (f:Nat->Bool)(n:Nat):Nat->Int
  |0=> -1
  |k+1=>if f (n-(k+1))=true then ((n-(k+1):Nat):Int) else lastW f n k
def RowHas (Z:SP)(v:Value)(X:List Nat):Prop:=∃a m c,v= .slice a m c/\ (a=none∨(m=256/\ Rs Z a (bys X)))
theorem RowHas.nil {Z:SP}{X:List Nat}:RowHas Z (.slice none 0 0) X:=⟨none,0,0,rfl,.inl rfl⟩
theorem RowHas.right {Z Y:SP}{v:Value}{X:List Nat}(h:RowHas Z v X):RowHas (Y*Z) v X:=by
  obtain ⟨a,m,c,h1,h2⟩:=h;exact ⟨a,m,c,h1,h2.imp id λ ⟨h3,h4⟩=>⟨h3,h4.right⟩⟩
theorem RowHas.left {Z Y:SP}{v:Value}{X:List Nat}(h:RowHas Z v X):RowHas (Z*Y) v X:=by
  obtain ⟨a,m,c,h1,h2⟩:=h;exact ⟨a,m,c,h1,h2.imp id λ ⟨h3,h4⟩=>⟨h3,h4.left⟩⟩
theorem all_put {vs:List Value}{b:Nat}{v:Value}(h:vs.all oneC=true)(hv:oneC v=true):(vs.set b v).all oneC=true:=List.all_eq_true.2 λ x hx=>by
  rcases List.mem_or_eq_of_mem_set hx with h1|rfl
  . exact List.all_eq_true.1 h x h1
  exact hv
structure KM (ba n:Nat) (Z:SP) (T:WkT) (s:DevS) (g:Nat->Bool) (vs:List Value) (rt:Nat):Prop where
  vl:vs.length=n
  on:vs.all oneC=true
  da:∀b,b<n->g b=true->∃v,vs[b]? =some v/\ RowHas Z v (conB T s ba b)
  ro:rt=rootV T s
section
variable {ba n:Nat} {Z Y:SP} {T:WkT} {s:DevS} {g:Nat->Bool} {vs:List Value} {rt:Nat}
theorem KM.left (h:KM ba n Z T s g vs rt):KM ba n (Z*Y) T s g vs rt:=⟨h.vl,h.on,λ b hb hg=>let ⟨v,h1,h2⟩:=h.da b hb hg;⟨v,h1,h2.left⟩,h.ro⟩
theorem KM.right (h:KM ba n Z T s g vs rt):KM ba n (Y*Z) T s g vs rt:=⟨h.vl,h.on,λ b hb hg=>let ⟨v,h1,h2⟩:=h.da b hb hg;⟨v,h1,h2.right⟩,h.ro⟩
theorem KM.sub {g':Nat->Bool}(h:KM ba n Z T s g vs rt)(hs:∀b,g' b=true->g b=true):KM ba n Z T s g' vs rt:=⟨h.vl,h.on,λ b hb hg=>h.da b hb (hs b hg),h.ro⟩
theorem KM.put {T2:WkT}{b:Nat}{v:Value}{g':Nat->Bool}(h:KM ba n Z T s g vs rt)(hb:b<n)(hv:oneC v=true)(hr:RowHas Z v (conB T2 s ba b))(hc:∀c,c≠b->conB T2 s ba c=conB T s ba c)(hg:∀c,c≠b->g' c=true->g c=true)(hro:rootV T2 s=rootV T s):KM ba n Z T2 s g' (vs.set b v) rt:=by
  refine ⟨by rw [List.length_set];exact h.vl,all_put h.on hv,λ c hcn hgc=> ?_,by rw [h.ro,hro]⟩
  by_cases e:c=b
  . subst e;exact ⟨v,by rw [List.getElem?_set_self (by rw [h.vl];exact hb)],hr⟩
  obtain ⟨v2,h1,h2⟩:=h.da c hcn (hg c e hgc);exact ⟨v2,by rw [List.getElem?_set_ne (Ne.symm e)];exact h1,by rw [hc c e];exact h2⟩
end
theorem give_f {T:WkT}{b:Nat}:(T.give b).f=T.f:=by unfold WkT.give;split<;>rfl
theorem give_lv {T:WkT}{b:Nat}:(T.give b).lv=T.lv:=by unfold WkT.give;split<;>rfl
section
variable {T:WkT} {b:Int} {u:Bool} {s:DevS} {ba:Nat} {xs:List Nat}
theorem giveS_c {e:Int}{T2:WkT}(h:u=usedZ T b)(hg:giveS T b=(e,T2)):(u=true/\ e=0/\ T2=T.give b.toNat)∨(u=false/\ e=130/\ T=T2):=by
  unfold giveS at hg
  rw [h]
  cases hz:usedZ T b<;>rw [hz] at hg<;>simp at hg<;>obtain ⟨rfl,rfl⟩:=hg
  . exact .inr ⟨rfl,rfl,rfl⟩
  exact .inl ⟨rfl,rfl,rfl⟩
theorem readW_c {e:Int}{ys:List Nat}(h:u=usedZ T b)(hg:readW T s ba b=(ys,e)):(u=true/\ e=0/\ ys=conB T s ba b.toNat)∨(u=false/\ e=130/\ ys=[]):=by
  unfold readW at hg
  rw [h]
  cases hz:usedZ T b<;>rw [hz] at hg<;>simp at hg<;>obtain ⟨rfl,rfl⟩:=hg
  . exact .inr ⟨rfl,rfl,rfl⟩
  exact .inl ⟨rfl,rfl,rfl⟩
theorem writeW_c {e:Int}{T2:WkT}(h:u=usedZ T b)(hx:xs.length=256)(hg:writeW T ba b xs=(e,T2)):(u=true/\ e=0/\ T2=T.write ba b.toNat xs)∨(u=false/\ e=130/\ T=T2):=by
  unfold writeW at hg
  rw [if_pos hx] at hg
  rw [h]
  cases hz:usedZ T b<;>rw [hz] at hg<;>simp at hg<;>obtain ⟨rfl,rfl⟩:=hg
  . exact .inr ⟨rfl,rfl,rfl⟩
  exact .inl ⟨rfl,rfl,rfl⟩
end
theorem data256 (vl:Nat):(dataS 256 vl).length=256:=by unfold dataS;simp
theorem calm_bgn {nl at_ sz:Nat}{s:DevS}(h:Calm nl at_ sz s):bgnB at_ sz false s=0:=by
  unfold bgnB
  have:idlB s false=0:=(by unfold idlB;rw [h.on];rfl);rw [if_neg (by rw [this];decide)];exact h.stp
theorem plf_ok {R:SP}{h p lg d at_ sz ba n:Nat}{wv:Value}{T:WkT}{o:Option Bool}{s:DevS}{g:Gh}{w:World}(hs:sat g w (R*PLf h p lg d at_ sz ba n wv T o s))(ho:o=some false):∃X Y,X.n=n/\ WkOk X Y T (s.ls.length*64):=by
  subst ho;obtain ⟨_,⟨a,b,hd,rfl,ha,w9,t,mb,lv,tk,gv,hw,lv9,Y,hok,hb⟩,hx⟩:=hs.hp;exact ⟨_,Y,rfl,hok⟩
theorem takeY_on {n:Nat}{T:WkT}{s:DevS}(ho:s.off=false):takeY n T (some false) s=(((takeS n T).1:Int),(takeS n T).2.1,(takeS n T).2.2):=if_pos (e13_on ho)
theorem giveY_on {T:WkT}{s:DevS}{b:Int}(ho:s.off=false):giveY T (some false) s b=giveS T b:=if_pos (e13_on ho)
theorem readY_on {T:WkT}{s:DevS}{ba:Nat}{b:Int}(ho:s.off=false):readY T (some false) s ba b=readW T s ba b:=if_pos (e13_on ho)
theorem writeY_on {T:WkT}{s:DevS}{ba:Nat}{b:Int}{xs:List Nat}(ho:s.off=false):writeY T (some false) s ba b xs=writeW T ba b xs:=if_pos (e13_on ho)
theorem rootY_on {T:WkT}{s:DevS}(ho:s.off=false):rootY T (some false) s=(rootV T s,0):=if_pos (e13_on ho)
theorem setY_on {T:WkT}{s:DevS}{v:Nat}(ho:s.off=false):setY T (some false) s v=(0,T.root v):=if_pos (e13_on ho)
theorem oY_on {s:DevS}(ho:s.off=false):oY (some false) s=some false:=congrArg some (o13_on ho)
theorem TakeK {A R:SP}{C:SP->SP}{h p lg d at_ sz ba n:Nat}{wv:Value}{T:WkT}{s:DevS}(hc:Ct A (PLf h p lg d at_ sz ba n wv T (some false) s) R C:=by exact cbqz)(hb:HkB at_ sz ba n s)(ho:s.off=false):Fn Tryz.prog 14 #[wv] A (λ r B=>∃b e T2,takeS n T=(b,e,T2)/\ r= .tuple #[vn b,.int .i64 e]/\ B=C (PLf h p lg d at_ sz ba n wv T2 (some false) s)):=
  (TakePC (hc:=hc) (hb:=hb)).mono λ v B ⟨h1,h2⟩=>⟨(takeS n T).1,(takeS n T).2.1,(takeS n T).2.2,rfl,by rw [h1,takeY_on ho],by rw [h2,takeY_on ho,oY_on ho]⟩
theorem GiveK {A R:SP}{C:SP->SP}{h p lg d at_ sz ba n:Nat}{wv:Value}{T:WkT}{s:DevS}(hc:Ct A (PLf h p lg d at_ sz ba n wv T (some false) s) R C:=by exact cbqz)(hb:HkB at_ sz ba n s)(ho:s.off=false){b:Int}:Fn Tryz.prog 15 #[wv,.int .i64 b] A (λ r B=>∃e T2,giveS T b=(e,T2)/\ r= .int .i64 e/\ B=C (PLf h p lg d at_ sz ba n wv T2 (some false) s)):=
  (GivePC (b:=b) (hc:=hc) (hb:=hb)).mono λ v B ⟨h1,h2⟩=>⟨(giveS T b).1,(giveS T b).2,rfl,by rw [h1,giveY_on ho],by rw [h2,giveY_on ho,oY_on ho]⟩
theorem ReadK {A R:SP}{C:SP->SP}{h p lg d at_ sz ba n:Nat}{wv:Value}{T:WkT}{s:DevS}(hc:Ct A (PLf h p lg d at_ sz ba n wv T (some false) s) R C:=by exact cbqz)(hb:HkB at_ sz ba n s)(ho:s.off=false){b:Int}:Fn Tryz.prog 16 #[wv,.int .i64 b] A (λ r B=>∃xs e a c,readW T s ba b=(xs,e)/\ r= .tuple #[.slice a xs.length c,.int .i64 e]/\ xs.length<=c/\ B=C (PLf h p lg d at_ sz ba n wv T (some false) s)*Sl 1 (.slice a xs.length c) xs.length (bys xs)):=
  (ReadPC (b:=b) (hc:=hc) (hb:=hb)).mono λ v B ⟨a,c,h1,h2,h3⟩=>by rw [readY_on ho] at h1 h2 h3;rw [oY_on ho] at h3;exact ⟨_,_,a,c,rfl,h1,h2,h3⟩
theorem WriteK {A R:SP}{C:SP->SP}{h p lg d at_ sz ba n:Nat}{wv:Value}{T:WkT}{s:DevS}(hc:Ct A (PLf h p lg d at_ sz ba n wv T (some false) s) R C:=by exact cbqz)(hb:HkB at_ sz ba n s)(ho:s.off=false){b:Int}{a:Option Addr}{m c:Nat}{xs:List Nat}(hr:Rs R a (bys xs):=by exact rbqz)(hxl:xs.length=m)(hxb:∀x∈xs,x<256):Fn Tryz.prog 18 #[wv,.int .i64 b,.slice a m c] A (λ r B=>∃e T2,writeW T ba b xs=(e,T2)/\ r= .int .i64 e/\ B=C (PLf h p lg d at_ sz ba n wv T2 (some false) s)):=
  (WritePC (b:=b) (hc:=hc) (hb:=hb) (hr:=hr) (hxl:=hxl) (hxb:=hxb)).mono λ v B ⟨h1,h2⟩=>⟨(writeW T ba b xs).1,(writeW T ba b xs).2,rfl,by rw [h1,writeY_on ho],by rw [h2,writeY_on ho,oY_on ho]⟩
theorem RootK {A R:SP}{C:SP->SP}{h p lg d at_ sz ba n:Nat}{wv:Value}{T:WkT}{s:DevS}(hc:Ct A (PLf h p lg d at_ sz ba n wv T (some false) s) R C:=by exact cbqz)(hb:HkB at_ sz ba n s)(ho:s.off=false):Fn Tryz.prog 20 #[wv] A (λ r B=>r= .tuple #[.int .u64 ((rootV T s:Nat):Int),.int .i64 0]/\ B=C (PLf h p lg d at_ sz ba n wv T (some false) s)):=
  (RootPC (hc:=hc) (hb:=hb)).mono λ v B ⟨h1,h2⟩=>⟨by rw [h1,rootY_on ho],by rw [h2,oY_on ho]⟩
theorem SetRootK {A R:SP}{C:SP->SP}{h p lg d at_ sz ba n:Nat}{wv:Value}{T:WkT}{s:DevS}(hc:Ct A (PLf h p lg d at_ sz ba n wv T (some false) s) R C:=by exact cbqz)(hb:HkB at_ sz ba n s)(ho:s.off=false){z:Nat}(hv:z<18446744073709551616):Fn Tryz.prog 21 #[wv,.int .u64 ((z:Nat):Int)] A (λ r B=>r= .int .i64 0/\ B=C (PLf h p lg d at_ sz ba n wv (T.root z) (some false) s)):=
  (SetRootPC (hc:=hc) (hb:=hb) (hv:=hv)).mono λ v B ⟨h1,h2⟩=>⟨by rw [h1,setY_on ho],by rw [h2,setY_on ho,oY_on ho]⟩
theorem BeginK {A R:SP}{C:SP->SP}{h p lg d at_ sz ba n nl:Nat}{wv:Value}{T:WkT}{o:Option Bool}{s:DevS}(hc:Ct A (PLf h p lg d at_ sz ba n wv T o s) R C:=by exact cbqz)(hb:HkB at_ sz ba n s)(hcal:Calm nl at_ sz s)(hl:liveY o=false):Fn Tryz.prog 12 #[pz h] A (λ r B=>∃w2,r= .tuple #[pz w2,.int .i64 0]/\ B=C (PLf h p lg d at_ sz ba n ((pz w2)) (T0 T.lv) (some false) s)):=by
  have hz:bgnB at_ sz (liveY o) s=0:=(by rw [hl];exact calm_bgn hcal);refine (BeginPC (hc:=hc) (hb:=hb)).mono ?_;rw [bgnY_ok hz]
  rintro v B ⟨wv2,rfl,h⟩
  rcases h with ⟨⟨h1,_⟩,_⟩|⟨⟨_,w2,rfl⟩,rfl⟩
  . exact absurd rfl h1
  exact ⟨w2,rfl,rfl⟩
theorem cr_lawW {k:List Int}{s:DevS}(hO:s.off=false)(hk:∀x∈k,0<=x):crS k s=(0,goesS k s):=by
  have hlow:lowB k=false:=(by unfold lowB;rw [List.any_eq_false];intro x hx;have:=hk x hx;simp;omega)
  unfold crS
  rw [if_neg (by rw [hO];decide),if_neg (by rw [hlow];decide)]
theorem arm_lawW {af:Int}{k:List Int}{s:DevS}(hw:WfD s)(hO:s.off=false)(ha:s.arms.length<=60)(h1:1<=af/\ af<=9223372036854775807)(hk:∀x∈k,0<=x/\ x<=9223372036854775807)(hkl:k.length<=17592186044416):armS [(af,k)] s=(0,{ s with arms:=s.arms++[(af,k)] })/\ WfD { s with arms:=s.arms++[(af,k)] }:=by
  have hlow:lowB k=false:=(by unfold lowB;rw [List.any_eq_false];intro x hx;have:=hk x hx;simp;omega);have hbad:([(af,k)]:List (Int×List Int)).any badA=false:=(by simp [badA,hlow];omega);refine ⟨?_,arm_wf hw (by simp;omega) hbad λ x hx=>by rw [List.mem_singleton.1 hx];exact ⟨h1.2,hkl,λ y hy=>by have:=hk y hy;omega⟩⟩
  unfold armS
  rw [if_neg (by rw [hO];decide),if_neg (by rw [hbad];decide),if_neg (by simp;omega)]
theorem lose_lawW {c:ComK}{nl:Nat}{s:DevS}{kp:List Int}{k:Nat}(hO:s.off=false)(hkp:∀x∈kp,0<=x)(hg:Gd nl k s):Gd nl k (goesS kp s)/\ (Set9 c s->Set9 c (goesS kp s))/\ (New0 c s->New0 c (goesS kp s))/\ (goesS kp s).arms=s.arms/\ (goesS kp s).off=true:=by
  have hwG:WfD (goesS kp s):=goesS_wf hg.wf;exact ⟨⟨(goes_len _ _).trans hg.len,λ l hl=>(crS_room (cr_lawW (k:=kp) hO hkp) hg.wf hg.room:Room _ (goesS kp s)) l hl,hwG⟩,set_goes,new_goes,rfl,rfl⟩
def FrOk (ba n:Nat)(g:Nat->Bool)(f:TF):Prop:=∀a,kdO f a=some true->∃b,b<n/\ g b=false/\ ba+256*b<=a/\ a<ba+256*b+256
theorem fr0 (ba n:Nat)(g:Nat->Bool):FrOk ba n g tf0:=λ a h=>by cases h
theorem fr_write {ba n b:Nat}{T:WkT}{xs:List Nat}(h:FrOk ba n T.lv T.f)(hb:b<n)(hd:T.tk b=true->T.lv b=false)(hx:xs.length=256):FrOk ba n (T.write ba b xs).lv (T.write ba b xs).f:=λ a ha=>by
  unfold WkT.write at ha
  rw [kdO_lay] at ha
  split at ha
  . rename_i hin
    cases hk:kdO T.f a with
    |some k=>
      rw [hk] at ha
      simp only [Option.getD_some,Option.some.injEq] at ha
      subst ha;exact h a hk
    |none=>
      rw [hk] at ha
      simp only [Option.getD_none,Option.some.injEq] at ha
      exact ⟨b,hb,hd ha,by omega,by omega⟩
  exact h a ha
theorem fr_root {ba n v:Nat}{T:WkT}(h:FrOk ba n T.lv T.f):FrOk ba n (T.root v).lv (T.root v).f:=λ a ha=>by
  unfold WkT.root at ha
  rw [kdO_lay] at ha
  split at ha
  . cases hk:kdO T.f a with
    |some k=>
      rw [hk] at ha
      simp only [Option.getD_some,Option.some.injEq] at ha
      subst ha;exact h a hk
    |none=>rw [hk] at ha;cases ha
  exact h a ha
structure KLs (ba n i:Nat) (g:Nat->Bool) (T:WkT):Prop where
  lv:T.lv=g
  good:GoodF ba n i T.f
  fr:FrOk ba n g T.f
section
variable {ba n i:Nat} {g:Nat->Bool} {T:WkT}
theorem kl_same (h:KLs ba n i g T):KLs ba n (i+1) g T:=⟨h.lv,h.good.le (Nat.le_succ _),h.fr⟩
theorem kl_take {v:Nat}{e:Int}{T2:WkT}(h:KLs ba n i g T)(ht:takeS n T=(v,e,T2)):KLs ba n (i+1) g T2:=by
  unfold takeS at ht
  split at ht
  . simp only [Prod.mk.injEq] at ht;obtain ⟨_,_,rfl⟩:=ht;exact kl_same h
  simp only [Prod.mk.injEq] at ht;obtain ⟨_,_,rfl⟩:=ht;exact kl_same ⟨h.lv,h.good,h.fr⟩
theorem kl_give {b e:Int}{T2:WkT}(h:KLs ba n i g T)(hg:giveS T b=(e,T2)):KLs ba n (i+1) g T2:=by
  rcases giveS_c rfl hg with ⟨_,_,rfl⟩|⟨_,_,rfl⟩
  . exact kl_same ⟨by rw [give_lv];exact h.lv,by rw [give_f];exact h.good,by rw [give_f];exact h.fr⟩
  exact kl_same h
theorem kl_write {X:WkX}{Y:WkY}{N:Nat}{b e:Int}{xs:List Nat}{T2:WkT}(h:KLs ba n i g T)(hok:WkOk X Y T N)(hn:X.n=n)(hx:xs.length=256)(hg:writeW T ba b xs=(e,T2)):KLs ba n (i+1) g T2:=by
  rcases writeW_c rfl hx hg with ⟨hu,_,rfl⟩|⟨_,_,rfl⟩
  . obtain ⟨h0,h1⟩:=(tok_wk hok).lt hu;have hb:b.toNat<n:=(by omega);exact ⟨h.lv,good_write h.good hb hx,by have:=fr_write (b:=b.toNat) (xs:=xs) (h.lv▸h.fr) hb (hok.dj b.toNat) hx;rw [←h.lv];exact this⟩
  exact kl_same h
theorem kl_root {v:Nat}(h:KLs ba n i g T):KLs ba n (i+1) g (T.root v):=⟨h.lv,good_root h.good,by have:=fr_root (v:=v) (h.lv▸h.fr:FrOk ba n T.lv T.f);rw [←h.lv];exact this⟩
end
theorem lost_at {nl at_ sz p m:Nat}{f:TF}{I I2:List Nat}{nw:Bool}(hI:I.length=nl*64)(hI2:I2.length=nl*64)(h:∀i,i<nl*64->∃v u,I2[i]? =some v/\ I[i]? =some u/\ (kdF f i=0->(i<at_∨at_+sz<=i)->v=u)/\ (kdF f i=1->v=if nw=true then byF f i else u)/\ (nw=true->0<kdF f i->v=byF f i))(hp:p+m<=at_∨at_+sz<=p)(hm:p+m<=nl*64):
    (nw=true->(I2.drop p).take m=ovF f p ((I.drop p).take m))/\ (nw=false->(∀a,p<=a->a<p+m->kdO f a≠some true)->(I2.drop p).take m=(I.drop p).take m):=by
  constructor
  . intro hn
    apply List.ext_getElem?
    intro j;rw [ovF_get,List.getElem?_take,List.getElem?_take]
    by_cases hj:j<m
    . rw [if_pos hj,if_pos hj,List.getElem?_drop,List.getElem?_drop]
      obtain ⟨v,u,h1,h2,h3,_,h5⟩:=h (p+j) oqz;rw [h1,h2]
      have hk0:kdF f (p+j)=0->v=u:=λ e=>h3 e oqz
      have hk1:0<kdF f (p+j)->v=byF f (p+j):=h5 hn
      unfold kdF at hk0 hk1
      unfold byF at hk1
      cases hf:f (p+j) with
      |none=>rw [hf] at hk0;rw [hk0 rfl];rfl
      |some c=>
        obtain ⟨x,b⟩:=c;rw [hf] at hk1
        cases b
        . rw [hk1 (show (0:Int)<1 by decide)];rfl
        rw [hk1 (show (0:Int)<2 by decide)];rfl
    rw [if_neg hj,if_neg hj];rfl
  intro hn hfr
  apply List.ext_getElem?
  intro j;rw [List.getElem?_take,List.getElem?_take]
  by_cases hj:j<m
  . rw [if_pos hj,if_pos hj,List.getElem?_drop,List.getElem?_drop]
    obtain ⟨v,u,h1,h2,h3,h4,_⟩:=h (p+j) oqz;rw [h1,h2]
    have hk0:kdF f (p+j)=0->v=u:=λ e=>h3 e oqz
    have hk1:kdF f (p+j)=1->v=u:=λ e=>by have:=h4 e;rw [hn] at this;simpa using this
    have hfr9:=hfr (p+j) oqz oqz
    have:v=u:=by
      by_cases e0:kdF f (p+j)=0
      . exact hk0 e0
      by_cases e1:kdF f (p+j)=1
      . exact hk1 e1
      exfalso
      unfold kdF at e0 e1
      unfold kdO at hfr9
      cases hf:f (p+j) with
      |none=>rw [hf] at e0;exact e0 rfl
      |some c=>
        obtain ⟨x,b⟩:=c;rw [hf] at e1 hfr9
        cases b
        . exact e1 rfl
        exact hfr9 rfl
    rw [this]
  rw [if_neg hj,if_neg hj]
theorem tmod24 (n:Int): -24<n.tmod 24/\ n.tmod 24<24:=by
  have h1:=Int.lt_tmod_of_pos n (b:=24) (by decide);have h2:=Int.tmod_lt_of_pos n (b:=24) (by decide)
  omega
theorem wrap64n {a:Nat}(h:a<=9223372036854775807):IntKind.i64.wrap (a:Int)=a:=by
  unfold IntKind.wrap
  simp only [IntKind.bits,IntKind.signed]
  simp
  omega
theorem natI_adS (n:Nat)(g:Nat->Bool):natI (adS n g)=adZ n g:=rfl
theorem adS_nodup (n:Nat)(g:Nat->Bool):(adS n g).Nodup:=(adS_sorted n g).imp λ h=>Nat.ne_of_lt h
attribute [local irreducible] crk crL crc Sl pt ro Dev imgS recS readS recsF rdW rdO rkT Parts rvl recordsS runsL adrF kcl xcl kys runA runsF layF ovF TxA adZ WkA SlB blkS conB imF RDev lineC RLines TxR TxE ldT TxX wasF
theorem once13_c {A:SP}{la:Option Addr}{ml cl_ n:Nat}{zs:List Int}(hr:Rs A la (ints zs))(hm:zs.length=ml)(hmb:ml<=9223372036854775807)(hn:n<=4194304:=by omega):
    Fn Tryz.prog 44 #[.slice la ml cl_,vn n] A (λ r B=>∃g a c,r= .slice a (adZ n g).length c/\ (adZ n g).length<=c/\ B=A*Sl 1 (.slice a (adZ n g).length c) (adZ n g).length (ints (adZ n g))):=by
  refine fn_enterW func44 rfl ntmps44 (by simp) ?_;refine Zds ?_;refine tl_x rfl (o_makeSlice (len:=n) (cap:=n) underlying34 sz4 by4 z4 rfl rfl rfl oqz oqz oqz) ?_;rintro _ _ ⟨b10,rfl,rfl⟩;refine tl_pre (λ _ _ h=>pt_wasF h) ?_;refine Zc1 ?_;refine Zd9 ?_;refine tc_loop (λ kk ρ BB=>∃ (i:Nat) (g:Nat->Bool),(i<=ml)/\ kk=ml-i/\ ρ 6=(vn i)/\ ρ 0= .slice la ml cl_/\ ρ 1=(vn n)/\ ρ 5= .slice (some ⟨b10,0,none⟩) n n/\ Dr BB (A*Sl 1 (.slice (some ⟨b10,0,none⟩) n n) n (bos (wasF n g)))) (m:=ml-(0)) ?_ ?_
  . exact ⟨0,g0,by omega,rfl,rfl,rfl,rfl,rfl,drqz⟩
  intro k ρ B hI;obtain ⟨i,g,hp0,hkk1,hE6,hE0,hE1,hE5,hBA⟩:=hI;refine tc_pre hBA.sat ?_;clear hBA;refine te 6 hE6 ?_;refine te 0 hE0 ?_;refine te 1 hE1 ?_;refine te 5 hE5 ?_;refine Ze ?_;refine tlm ?_;refine Zcy ?_;refine tc_cond rfl (λ h=> ?_) (sbq ?_)
  . have hi:i<zs.length:=(by first|omega|(simp at h;omega));obtain ⟨x,hx1⟩:∃x,zs[i]=x:=⟨_,rfl⟩;have hat:(ints zs)[i]? =some (.int .i64 x):=(by rw [ints_at oqz,hx1]);refine Zd1 ?_;refine tlm ?_;refine tv (o_ixP1 (a:=la) underlying22 sz3 rfl rfl oqz (nn_rs (xs:=ints zs) (by repeat (first|exact hr|apply Rs.left)) (by rw [ints_length];omega))) ?_;refine tv (o_ldP (a:=la) (xs:=ints zs) p3 rfl (by repeat (first|exact hr|apply Rs.left)) hat) ?_;refine tv (o_geq rfl rfl) ?_;refine tlm ?_;refine tl_bool (d:=22) rfl (sbq ?_) (sbq ?_)
    . intro h;refine Zbc ?_;refine tv (o_ixP1 (a:=la) underlying22 sz3 rfl rfl oqz (nn_rs (xs:=ints zs) (by repeat (first|exact hr|apply Rs.left)) (by rw [ints_length];omega))) ?_;refine tv (o_ldP (a:=la) (xs:=ints zs) p3 rfl (by repeat (first|exact hr|apply Rs.left)) hat) ?_;refine Zfk ?_;refine tv (o_pick_t rfl wqz) ?_;refine nq ?_;refine tc_cond rfl (λ h=> ?_) (sbq ?_)
      . have g29:0<=x/\ x<(n:Int):=(by first|(simp at h;omega)|(have h9:=of_decide_eq_true h;omega));obtain ⟨q,rfl⟩:=Int.eq_ofNat_of_zero_le g29.1;have hq:q<n:=(by omega);refine Zw ?_;refine Zbc ?_;refine tv (o_ixP1 (a:=la) underlying22 sz3 rfl rfl oqz (nn_rs (xs:=ints zs) (by repeat (first|exact hr|apply Rs.left)) (by rw [ints_length];omega))) ?_;refine tv (o_ldP (a:=la) (xs:=ints zs) p3 rfl (by repeat (first|exact hr|apply Rs.left)) hat) ?_;refine tv (o_ixP1 (j:=q) underlying34 sz4 rfl rfl hq (nn_rs (xs:=bos (wasF n g)) sq1z (by rw [bos_length,wasF_len];omega))) ?_;refine tl_u rfl (o_stP (ys:=bos (wasF n (updG g q true))) sz4 rfl rfl rfl ctqz oqz (wasF_set hq)) ?_;refine Zbv ?_;refine Zde ?_;exact ⟨_,by omega,i+1,updG g q true,by omega,rfl,rfl,rfl,rfl,rfl,drqz⟩
      intro h;refine Zgs ?_;exact ⟨_,by omega,i+1,g,by omega,rfl,rfl,rfl,rfl,rfl,drqz⟩
    intro h;refine Zg3 ?_;refine nq ?_;refine tc_cond_f rfl ?_;refine Zgs ?_;exact ⟨_,by omega,i+1,g,by omega,rfl,rfl,rfl,rfl,rfl,drqz⟩
  intro h;refine Zg ?_;refine Zb9 ?_;refine tc_seq ?_;refine Zd9 ?_;refine tc_pre (A':=A*Sl 1 (.slice (some ⟨b10,0,none⟩) n n) n (bos (wasF n g))*Sl 1 (.slice none (adZ 0 g).length 0) (adZ 0 g).length (ints (adZ 0 g))) (λ _ _ h=>by rw [adZ_zero];exact sl_nil h) ?_;refine tc_loop (λ kk ρ BB=>∃ (i:Nat) (a:Option Addr) (c:Nat),(i<=n)/\ ((adZ i g).length<=c)/\ kk=n-i/\ ρ 7= .slice a (adZ i g).length c/\ ρ 8=(vn i)/\ ρ 1=(vn n)/\ ρ 5= .slice (some ⟨b10,0,none⟩) n n/\ Dr BB (A*Sl 1 (.slice (some ⟨b10,0,none⟩) n n) n (bos (wasF n g))*Sl 1 (.slice a (adZ i g).length c) (adZ i g).length (ints (adZ i g)))) (m:=n-(0)) ?_ ?_
  . exact ⟨0,none,0,by omega,by rw [adZ_zero];exact Nat.le_refl _,rfl,by rw [adZ_zero];rfl,rfl,rfl,rfl,drqz⟩
  intro k ρ B hI;obtain ⟨i,a,c,hp0,hp1,hkk2,hE7,hE8,hE1,hE5,hBA⟩:=hI;refine tc_pre hBA.sat ?_;clear hBA;refine te 7 hE7 ?_;refine te 8 hE8 ?_;refine te 1 hE1 ?_;refine te 5 hE5 ?_;refine Ze ?_;refine tlm ?_;refine Zq ?_;refine tc_cond rfl (λ h=> ?_) (λ h=> ?_)
  . have hi:i<n:=(by first|omega|(simp at h;omega));have hz:=adZ_le i g;refine Zd1 ?_;refine tlm ?_;refine tv (o_ixP1 (j:=i) underlying34 sz4 rfl rfl hi (nn_rs (xs:=bos (wasF n g)) sq1z (by rw [bos_length,wasF_len];omega))) ?_;refine tv (o_ldP (xs:=bos (wasF n g)) p4 rfl sq1z (wasF_at hi)) ?_;refine nq ?_;refine tc_cut (λ ρ BB=>∃ (b2:Option Addr) (k2:Nat),((adZ (i+1) g).length<=k2)/\ ρ 7= .slice b2 (adZ (i+1) g).length k2/\ ρ 1=(vn n)/\ ρ 5= .slice (some ⟨b10,0,none⟩) n n/\ ρ 8=(vn i)/\ Dr BB (A*Sl 1 (.slice (some ⟨b10,0,none⟩) n n) n (bos (wasF n g))*Sl 1 (.slice b2 (adZ (i+1) g).length k2) (adZ (i+1) g).length (ints (adZ (i+1) g)))) ?_ ?_
    . skip
      refine tc_cond rfl (λ h=> ?_) (λ h=> ?_)
      . have hgi:g i=true:=(by first|exact h|simpa using h);have hs1:=adZ_succ i g;rw [if_pos hgi] at hs1
        refine Zdr ?_;refine tl_x rfl (o_buildSlice1 underlying22 sz3 z3 wqz rfl) ?_;rintro _ _ ⟨b47,rfl,rfl⟩;refine tl_x rfl (o_apB underlying22 underlying22 sz3 by3 z3 rfl (by decide) (by decide) rfl rfl rfl ctqz rfl (by exact ints_all [(i:Int)]) sq0z (ints_sn (adZ i g) _)) ?_;rintro _ _ ⟨a48,c48,rfl,hc48,rfl⟩;refine Ze2 ?_;exact ⟨_,_,by rw [hs1];first|exact hp1|(rw [List.length_append];exact hc48),by rw [hs1];first|rfl|(rw [List.length_append];rfl),rfl,rfl,rfl,by rw [hs1];first|exact dr_refl|(rw [List.length_append];exact dr_refl)⟩
      have hgi:¬g i=true:=(by first|(rw [h];decide)|simpa using h);have hs1:=adZ_succ i g;rw [if_neg hgi,List.append_nil] at hs1
      refine tc_skip ?_;exact ⟨_,_,by rw [hs1];first|exact hp1|(rw [List.length_append];exact hc48),by rw [hs1];first|rfl|(rw [List.length_append];rfl),rfl,rfl,rfl,by rw [hs1];first|exact dr_refl|(rw [List.length_append];exact dr_refl)⟩
    intro ρ B hI;obtain ⟨b2,k2,hj0,hE7,hE1,hE5,hE8,hBA⟩:=hI;refine q_block_n (q_then_n ?_);refine tc_pre hBA.sat ?_;clear hBA;refine te 7 hE7 ?_;refine te 1 hE1 ?_;refine te 5 hE5 ?_;refine te 8 hE8 ?_;refine Zw ?_;refine Zgo ?_;exact ⟨_,by omega,i+1,_,_,by omega,hj0,rfl,rfl,rfl,rfl,rfl,drqz⟩
  obtain rfl:i=n:=by first|omega|(simp at h;omega)
  refine Zda ?_;refine Zf ?_;exact ⟨_,_,res1 rfl rfl,Dr.sat drqz,g,a,c,rfl,hp1,rfl⟩
theorem Zcl {p r:Prop}(k:r)(h:Kq r->p:=by intro k;refine tv (o_fieldAddr (o:=1) underlying25 rfl rfl sz3 rfl) ?_;refine tv (o_load p3 rfl hsqz rfl) ?_;exact k.o):p:=h ⟨k⟩
theorem clean13_c {A:SP}{lg n0:Int}{fi ml cl_:Nat}{la:Option Addr}{zs:List Int}{ar:Value}(hr:Rs A la (ints zs))(hm:zs.length=ml)(hmb:ml<=9223372036854775807):
    Fn Tryz.prog 8 #[.agg ((su5 lg n0 (fi:Nat) (.slice la ml cl_) ar)).toArray] A (λ r B=>∃n g a c,n<=23/\ r= .agg ((su5 ((32768:Nat):Int) ((n:Nat):Int) (fi:Nat) (.slice a (adZ n g).length c) (.slice none 0 0))).toArray/\ (adZ n g).length<=c/\ B=A*Sl 1 (.slice a (adZ n g).length c) (adZ n g).length (ints (adZ n g))):=by
  refine fn_enterW func8 rfl ntmps8 (by simp) ?_;refine sr ?_;refine tl_x rfl (o_box rfl (l:=(su5 lg n0 (fi:Nat) (.slice la ml cl_) ar)) rfl) ?_;rintro _ _ ⟨b1,rfl,rfl⟩;refine tl_x rfl (o_alloc (l:=[.int .i64 0,.int .i64 0,.int .u8 0,.slice none 0 0,.slice none 0 0]) z25 rfl) ?_;rintro _ _ ⟨b2,rfl,rfl⟩;refine Zf4 ?_;refine tv (o_fieldAddr (o:=0) underlying25 rfl rfl sz3 rfl) ?_;refine tl_u rfl (o_stU (l':=(su5 32768 n0 (fi:Nat) (.slice la ml cl_) ar)) rfl upqz sz3 rfl rfl (by show 0<5;decide) rfl) ?_;refine Zf4 ?_;refine tv (o_fieldAddr (o:=4) underlying25 rfl rfl sz23 rfl) ?_;refine tl_u rfl (o_stU (l':=(su5 32768 n0 (fi:Nat) (.slice la ml cl_) (.slice none 0 0))) rfl upqz sz23 rfl rfl (by show 4<5;decide) rfl) ?_;refine Zf4 ?_;refine Zcl ?_;have ht1:=tmod24 n0;refine tv (o_rem rfl rfl (by decide)) ?_;refine tv (o_fieldAddr (o:=1) underlying25 rfl rfl sz3 rfl) ?_;refine tl_u rfl (o_stU (l':=(su5 32768 (n0.tmod 24) (fi:Nat) (.slice la ml cl_) (.slice none 0 0))) rfl upqz sz3 rfl rfl (by show 1<5;decide) rfl) ?_;refine Zeq ?_;refine sr ?_;refine Zcl ?_;refine Zq ?_;refine tc_cut (λ ρ BB=>ρ 1=(pz b1)/\ ρ 2=(pz b2)/\ Dr BB (A*pt b1 (cl (su5 32768 (((n0.tmod 24).natAbs:Nat):Int) (fi:Nat) (.slice la ml cl_) (.slice none 0 0)) 25)*pt b2 (cl [.int .i64 0,.int .i64 0,.int .u8 0,.slice none 0 0,.slice none 0 0] 25))) ?_ ?_
  . skip
    refine tc_cond rfl (λ h=> ?_) (λ h=> ?_)
    . have g11:n0.tmod 24<0:=(by first|exact of_decide_eq_true h|simpa using h);refine tc_reg ?_;refine Zcl ?_;refine tv (o_neg rfl) ?_;refine tl_env (d:=14) (v:= .int .i64 (((n0.tmod 24).natAbs:Nat):Int)) (congrArg (Value.int .i64) (by rw [show (0:Int)-n0.tmod 24=(((n0.tmod 24).natAbs:Nat):Int) by omega];exact wrap64n oqz)) ?_;refine tv (o_fieldAddr (o:=1) underlying25 rfl rfl sz3 rfl) ?_;refine tl_u rfl (o_stU (l':=(su5 32768 (((n0.tmod 24).natAbs:Nat):Int) (fi:Nat) (.slice la ml cl_) (.slice none 0 0))) rfl upqz sz3 rfl rfl (by show 1<5;decide) rfl) ?_;refine tl_nil ?_;exact ⟨rfl,rfl,by apply dr_keep;first|with_reducible exact dr_refl|(rw [Int.natAbs_of_nonneg oqz];exact dr_refl)⟩
    have g11:¬n0.tmod 24<0:=(by first|exact of_decide_eq_false h|simpa using h);refine tc_skip ?_;exact ⟨rfl,rfl,by apply dr_keep;first|with_reducible exact dr_refl|(rw [Int.natAbs_of_nonneg oqz];exact dr_refl)⟩
  intro ρ B hI;obtain ⟨hE1,hE2,hBA⟩:=hI;refine q_then_n ?_;refine tc_pre hBA.sat ?_;clear hBA;refine te 1 hE1 ?_;refine te 2 hE2 ?_;refine sr ?_;refine Zem ?_;refine Zcl ?_;refine tl_c rfl (o_call bd44 rfl (once13_c (n:=(n0.tmod 24).natAbs) (hr:=by repeat (first|exact hr|apply Rs.left)) (hm:=hm) (hmb:=hmb))) ?_;rintro _ _ ⟨g20,a20,c20,rfl,hc20,rfl⟩;refine tv (o_fieldAddr (o:=3) underlying25 rfl rfl sz22 rfl) ?_;refine tl_u rfl (o_stU (l':=(su5 32768 (((n0.tmod 24).natAbs:Nat):Int) (fi:Nat) (.slice a20 (adZ (n0.tmod 24).natAbs g20).length c20) (.slice none 0 0))) rfl upqz sz22 rfl rfl (by show 3<5;decide) rfl) ?_;refine Zf4 ?_;refine tv (o_loadN (vs:=(su5 32768 (((n0.tmod 24).natAbs:Nat):Int) (fi:Nat) (.slice a20 (adZ (n0.tmod 24).natAbs g20).length c20) (.slice none 0 0))) a25 sz25 rfl hsqz (by exact Nat.le_refl 5) rfl) ?_;refine tl_u rfl (o_stUN (l':=(su5 32768 (((n0.tmod 24).natAbs:Nat):Int) (fi:Nat) (.slice a20 (adZ (n0.tmod 24).natAbs g20).length c20) (.slice none 0 0))) rfl upqz sz25 rfl rfl rfl (by exact Nat.le_refl 5) rfl) ?_;refine nq ?_;refine tc_ret ?_;exact ⟨_,_,resA1 rfl (rv_cell a25 sz25 rfl hsqz (by show 0+5<=5;decide) rfl),Dr.sat drqz,(n0.tmod 24).natAbs,g20,a20,c20,by omega,rfl,hc20,rfl⟩
end Go.Vl

namespace Go.Vl
open Go Go.Proofs Go.Proofs.Tryz
def armR (af:List Int):List Int:=if af.length=0∨5<af.length then [] else af.drop 1
def armD (af kp:List Int)(s:DevS):DevS:=if af.length=0∨5<af.length then s else if 0<af.headD 0 then { s with arms:=s.arms++[(af.headD 0,kp)] } else s
theorem armR_mem {af:List Int}{x:Int}(h:x∈armR af):x∈af:=by
  unfold armR at h
  split at h
  . cases h
  exact List.mem_of_mem_drop h
theorem armD_ls {af kp:List Int}{s:DevS}:(armD af kp s).ls=s.ls:=by unfold armD;split;rfl;split<;>rfl
theorem armD_off {af kp:List Int}{s:DevS}:(armD af kp s).off=s.off:=by unfold armD;split;rfl;split<;>rfl
theorem armD_sum {af kp:List Int}{s:DevS}(h:af.length<=5):(armD af kp s).arms.length+(armR af).length<=s.arms.length+af.length:=by
  unfold armD armR
  split
  . simp
  split<;>simp<;>omega
theorem armD_5 {af kp:List Int}{s:DevS}(h0:s.arms=[]):(armD af kp s).arms.length+(armR af).length<=5:=by
  by_cases h:af.length<=5
  . have:=armD_sum (kp:=kp) (s:=s) h;rw [h0] at this;simp at this;omega
  unfold armD armR
  rw [if_pos (.inr oqz),if_pos (.inr oqz),h0];decide
theorem armD_one {af kp:List Int}{s:DevS}:(armD af kp s).arms.length<=s.arms.length+1:=by unfold armD;split;omega;split<;>simp
theorem armD_wf {af kp:List Int}{s:DevS}(hw:WfD s)(hO:s.off=false)(ha:s.arms.length<=60)(hb:∀x∈af,x<=9223372036854775807)(hk:∀x∈kp,0<=x/\ x<=9223372036854775807)(hkl:kp.length<=17592186044416):WfD (armD af kp s):=by
  unfold armD
  split
  . exact hw
  split
  . rename_i h1 h2
    cases af with
    |nil=>exact absurd (.inl rfl) h1
    |cons x l=>exact (arm_lawW hw hO ha ⟨h2,hb x (List.mem_cons_self ..)⟩ hk hkl).2
  exact hw
theorem rs_cutI {R:SP}{a:Option Addr}{c:Nat}{x:Int}{l:List Int}(h:Rs R a (ints (x::l)))(hc:(x::l).length<=c):Rs R (cutAddr a c 1 1) (ints l):=by
  have h9:=rs_cut (l:=1) (k:=1) h (cap:=c) (by rw [ints_length];omega);exact h9
attribute [local irreducible] crk crL crc Sl pt ro Dev imgS recS readS recsF rdW rdO rkT Parts rvl recordsS runsL adrF kcl xcl kys runA runsF layF ovF TxA adZ WkA SlB blkS conB imF RDev lineC RLines TxR TxE ldT TxX wasF
theorem armed13_c {A R:SP}{C:SP->SP}{d:Nat}{s:DevS}(hc:Ct A (Dev d s) R C:=by exact cbqz){aa ka:Option Addr}{ac kc:Nat}{af kp:List Int}(hra:Rs R aa (ints af))(hrk:Rs R ka (ints kp))(hac:af.length<=ac)(hkc:kp.length<=kc)(hw:WfD s)(hO:s.off=false)(ha:s.arms.length<=60)(hal:af.length<=17592186044416)(hb:∀x∈af,x<=9223372036854775807)(hk:∀x∈kp,0<=x/\ x<=9223372036854775807)(hkl:kp.length<=17592186044416):
    Fn Tryz.prog 33 #[pz d,.slice aa af.length ac,.slice ka kp.length kc] A (λ r B=>∃a c,r= .slice a (armR af).length c/\ (armR af).length<=c/\ (∀R9,Rs R9 aa (ints af)->Rs R9 a (ints (armR af)))/\ B=C (Dev d (armD af kp s))):=by
  refine fn_enterW func33 rfl ntmps33 (by simp) ?_;obtain ⟨rfl,hC⟩:=hc;refine Zf0 ?_;refine tv (o_eqi rfl rfl) ?_;refine tlm ?_;refine tl_bool (d:=10) rfl (λ h=> ?_) (λ h=> ?_)
  . have hbad:af.length=0∨5<af.length:=(by left;first|(have h9:=of_decide_eq_true h;omega)|(simp at h;omega));have hR:armR af=[]:=if_pos hbad;have hD:armD af kp s=s:=if_pos hbad;refine Zdx ?_;refine nq ?_;refine tc_cond_t rfl ?_;refine Zdb ?_;exact ⟨.slice none 0 0,R*Dev d s,res1 rfl rfl,λ _ _ h=>h,none,0,by rw [hR];rfl,by rw [hR];exact Nat.le_refl _,λ R9 _=>by rw [hR];exact rs_none,by rw [hC,hD]⟩
  have h10:¬af.length=0:=(by first|(have h9:=of_decide_eq_false h;omega)|(simp at h;omega));refine tlm ?_;refine tv (o_len underlying22 rfl) ?_;refine Zb5 ?_;refine nq ?_;refine tc_cond rfl (λ h=> ?_) (λ h=> ?_)
  . have hbad:af.length=0∨5<af.length:=(by first|(left;have h9:=of_decide_eq_true h;omega)|(right;have h9:=of_decide_eq_true h;omega)|(left;simp at h;omega)|(right;simp at h;omega)|omega);have hR:armR af=[]:=if_pos hbad;have hD:armD af kp s=s:=if_pos hbad;refine Zdb ?_;exact ⟨.slice none 0 0,R*Dev d s,res1 rfl rfl,λ _ _ h=>h,none,0,by rw [hR];rfl,by rw [hR];exact Nat.le_refl _,λ R9 _=>by rw [hR];exact rs_none,by rw [hC,hD]⟩
  have h14:¬5<af.length:=(by first|(have h9:=of_decide_eq_false h;omega)|(simp at h;omega));have hne:¬(af.length=0∨5<af.length):=(by omega);obtain ⟨x0,l0,rfl⟩:∃x l,af=x::l:=by cases af with|nil=>exact absurd rfl h10|cons x l=>exact ⟨x,l,rfl⟩
  have hR:armR (x0::l0)=l0:=if_neg hne;refine Zcd ?_;refine tv (o_ixP1 (a:=aa) (j:=0) underlying22 sz3 rfl rfl oqz (nn_rs (xs:=ints (x0::l0)) (by repeat (first|exact hra|apply Rs.left)) (by rw [ints_length];omega))) ?_;refine tv (o_ldP (a:=aa) (xs:=ints (x0::l0)) (v:= .int .i64 x0) p3 rfl (by repeat (first|exact hra|apply Rs.left)) rfl) ?_;refine Zgj ?_;refine tc_cond rfl (λ h=> ?_) (λ h=> ?_)
  . have h18:0<x0:=(by first|exact of_decide_eq_true h|(simp at h;omega));have hD:armD (x0::l0) kp s={ s with arms:=s.arms++[(x0,kp)] }:=(if_neg hne).trans (if_pos h18);obtain ⟨hA1,hA2⟩:=arm_lawW (af:=x0) hw hO ha ⟨h18,hb x0 (List.mem_cons_self ..)⟩ hk hkl;refine Zdr ?_;refine tv (o_ixP1 (a:=aa) (j:=0) underlying22 sz3 rfl rfl oqz (nn_rs (xs:=ints (x0::l0)) (by repeat (first|exact hra|apply Rs.left)) (by rw [ints_length];omega))) ?_;refine tv (o_ldP (a:=aa) (xs:=ints (x0::l0)) (v:= .int .i64 x0) p3 rfl (by repeat (first|exact hra|apply Rs.left)) rfl) ?_;refine tlm ?_;refine tv (o_bS (l:=[_,_]) (pv_cons wqz (pv_cons wqz pv_nil)) underlying94 z94 (pl94 underlying94) rfl) ?_;refine tl_x rfl (o_buildSliceK (k:=2) (l:=[.int .i64 x0,.slice ka kp.length kc]) underlying23 sz94 z94 rfl rfl (by decide)) ?_;rintro _ _ ⟨b25,rfl,rfl⟩;refine tl_c rfl (o_call bd67 rfl (Arm_c (s:=s) (kvs:=[.slice ka kp.length kc]) (ars:=[(x0,kp)]) (hr:=rda_one (by repeat (first|exact rs_pt rfl|apply Rs.left)) (by repeat (first|exact hrk|apply Rs.left)) rfl hkc) (hm:=rfl) (hl:=by decide) (hk:=by intro z hz;rw [List.mem_singleton.1 hz];exact ⟨by show _/\ x0<=_;have:=hb x0 (List.mem_cons_self ..);omega,hkl,λ k hk9=>(hk k hk9).2⟩))) ?_;rintro _ _ ⟨e26,s26,hs26,rfl,rfl⟩;obtain ⟨rfl,rfl⟩:=pair_eq hA1 hs26;refine nq ?_;refine Zb ?_;refine tv (o_slice (l:=1) (h:=(x0::l0).length) underlying22 sz3 rfl (bnd_nat (r:=1) rfl) bnd_none oqz oqz) ?_;refine tl_env (d:=28) (v:= .slice (cutAddr aa ac 1 1) l0.length (ac-1)) (by show Value.slice _ _ _=_;rw [List.length_cons,Nat.add_sub_cancel]) ?_;refine Zf ?_;exact ⟨_,R*Dev d (armD (x0::l0) kp s),res1 rfl rfl,(by rw [hD];exact Dr.sat drqz),cutAddr aa ac 1 1,ac-1,by rw [hR];rfl,by rw [hR];have:l0.length+1<=ac:=hac;omega,λ R9 h9=>by rw [hR];exact rs_cutI h9 hac,by rw [hC]⟩
  have h18:¬0<x0:=(by first|exact of_decide_eq_false h|(simp at h;omega));have hD:armD (x0::l0) kp s=s:=(if_neg hne).trans (if_neg h18);refine Zbq ?_;refine tv (o_slice (l:=1) (h:=(x0::l0).length) underlying22 sz3 rfl (bnd_nat (r:=1) rfl) bnd_none oqz oqz) ?_;refine tl_env (d:=28) (v:= .slice (cutAddr aa ac 1 1) l0.length (ac-1)) (by show Value.slice _ _ _=_;rw [List.length_cons,Nat.add_sub_cancel]) ?_;refine Zf ?_;exact ⟨_,R*Dev d (armD (x0::l0) kp s),res1 rfl rfl,(by rw [hD];exact Dr.sat drqz),cutAddr aa ac 1 1,ac-1,by rw [hR];rfl,by rw [hR];have:l0.length+1<=ac:=hac;omega,λ R9 h9=>by rw [hR];exact rs_cutI h9 hac,by rw [hC]⟩
theorem brought_any {A R:SP}{d lg n:Nat}{fi:Int}{lv ar:Value}{s:DevS}(hA:A=R*Dev d s)(ho:s.off=false)(hls:s.ls.length=nl13 lg n)(hroom:Room (lg+1) s)(hlw:LogW (s.ls.length*64) 128 lg)(h2:lg<=32768)(h3:lg%64=0)(h4:n<=64)(hr9:∀q e s2,rollS 128 lg s=((q,e),s2)->s2.ls.length=nl13 lg n):
    Fn Tryz.prog 37 #[pz d,.agg (su5 (lg:Nat) (n:Nat) fi lv ar).toArray] A (λ r B=>∃hv e q s2,rollS 128 lg s=((q,e),s2)/\ r= .tuple #[hv,.int .i64 e]/\ B=R*Dev d s2):=by
  refine fn_enterW func37 rfl ntmps37 (by simp) ?_;subst hA;have h64:=nl13_64 (n:=n) h3;have hlg:=hlw.s;refine Zcc ?_;rintro _ _ ⟨b3,rfl,rfl⟩;refine tla ?_;refine Zs ?_;refine Zeo ?_;refine tl_c rfl (o_call bd79 rfl (Open_ok (s:=s) (p:=128) (q:=((lg:Nat):Int)) (hok:=by rw [hls];omega))) ?_;rintro _ _ ⟨b13,rfl,rfl⟩;refine Zfv ?_;intro h;refine Zgr ?_;refine tl_c rfl (o_call bd80 rfl (New12_c (s:=s) (at_:=128) (sz:=lg) (hlw:=hlw) (hl:=by first|exact has_here|exact has_left has_here))) ?_;rintro _ _ ⟨p22,rfl,rfl⟩;refine Zfv ?_;intro h;refine Zbq ?_;refine tl_c rfl (o_call bd81 rfl (Recover12_ok (s:=s) (at_:=128) (sz:=lg) (hlw:=hlw) (hl:=by first|exact has_here|exact has_left has_here) (ho:=ho) (hroom:=hroom))) ?_;rintro _ _ ⟨e30,k30,s30,hs30,rfl,rfl⟩;have hl2:=hr9 _ _ _ hs30;refine Zbj ?_;refine Zp ?_;refine Zk ?_;refine tc_cond rfl (sbq ?_) (λ h=> ?_)
  . intro h;refine Zfj ?_;exact ⟨_,R*Dev d s30,res2 rfl rfl rfl,Dr.sat drqz,_,e30,k30,s30,hs30,rfl,rfl⟩
  obtain rfl:e30=0:=by simpa using h
  refine Zcu ?_;refine tc_regh mo dr_refl ?_
  show TH _ _ _ _ _ 10 (Array.replicate 10 false) _ _
  refine tm 0 rfl kqz rfl (o_move wqz) ?_;refine tm 1 rfl kqz rfl (o_loadN (vs:=(su5 (lg:Nat) (n:Nat) fi lv ar)) a25 sz25 rfl hsqz (by exact Nat.le_refl 5) rfl) ?_;refine Zgi ?_;refine th_one (i:=2) kqz ?_;refine oh_c rfl rfl rfl (o_call bd11 rfl (heap13_c (lg:=lg))) ?_;refine Z1 ?_;refine th_one (i:=5) kqz ?_;refine oh_c rfl rfl rfl (o_call bd28 rfl (NewH_c (s:=s30) (ba:=128+lg) (n:=n) (h64:=by omega) (h1:=by omega) (h2:=by rw [hl2,h64];omega) (htop:=by rw [hl2,h64];omega) (hpos:=by rw [hl2];unfold nl13;omega))) ?_;rintro _ _ ⟨lv41,h41,rfl,rfl⟩;refine Zf5 ?_;refine tm 7 rfl kqz rfl (o_extract rfl rfl) ?_;refine tm 8 rfl kqz rfl (o_assign wqz) ?_;refine tm 9 rfl kqz rfl (o_assign wqz) ?_;refine Zha ?_;exact ⟨_,R*Dev d s30,res2 rfl rfl rfl,Dr.sat drqz,_,0,k30,s30,hs30,rfl,rfl⟩
theorem plf_dev {R:SP}{h p lg d at_ sz ba n:Nat}{wv:Value}{T:WkT}{o:Option Bool}{s:DevS}{g:Gh}{w:World}(hs:sat g w (R*PLf h p lg d at_ sz ba n wv T o s)):sat g w (R*Dev d s):=by
  obtain ⟨Z,h1,_⟩:=pl_open hs;exact h1.left
theorem armedP {A R:SP}{C:SP->SP}{h p lg d at_ sz ba n:Nat}{wv:Value}{T:WkT}{o:Option Bool}{s:DevS}(hc:Ct A (PLf h p lg d at_ sz ba n wv T o s) R C:=by exact cbqz){aa ka:Option Addr}{ac kc:Nat}{af kp:List Int}(hra:Rs R aa (ints af))(hrk:Rs R ka (ints kp))(hac:af.length<=ac)(hkc:kp.length<=kc)(hw:WfD s)(hO:s.off=false)(ha:s.arms.length<=60)(hal:af.length<=17592186044416)(hb:∀x∈af,x<=9223372036854775807)(hk:∀x∈kp,0<=x/\ x<=9223372036854775807)(hkl:kp.length<=17592186044416):
    Fn Tryz.prog 33 #[pz d,.slice aa af.length ac,.slice ka kp.length kc] A (λ r B=>∃a c,r= .slice a (armR af).length c/\ (armR af).length<=c/\ (∀R9,Rs R9 aa (ints af)->Rs R9 a (ints (armR af)))/\ B=C (PLf h p lg d at_ sz ba n wv T o (armD af kp s))):=by
  obtain ⟨rfl,hC⟩:=hc;refine fn_pl_dev λ Z hZ=>Fn.weak (armed13_c (hc:=ct_left ct_here) (hra:=hra.left) (hrk:=hrk.left) hac hkc hw hO ha hal hb hk hkl) ?_
  rintro v B ⟨a,c,rfl,h1,h2,rfl⟩;exact ⟨_,λ g9 w9 h9=>by rw [hC];exact hZ R _ (by rw [armD_ls]) g9 w9 h9,a,c,rfl,h1,h2,rfl⟩
theorem CommitL {A R:SP}{C:SP->SP}{h p d n l9 k:Nat}{wv:Value}{T:WkT}{s0 s:DevS}{X:WkX}{Y:WkY}(hc:Ct A (PLf h p l9 d 128 32768 (128+32768) n wv T (some false) s) R C:=by exact cbqz)(h2:n<=23)(hcal:Calm (nl13 32768 n) 128 32768 s0)(hls:s.ls=s0.ls)(hon:s.off=false)(hw:WfD s)(ha:s.arms.length<=1)(hok:WkOk X Y T (s.ls.length*64))(hg:GoodF (128+32768) n k T.f)(hk:k<=400):
    Fn Tryz.prog 22 #[wv] A (λ r B=>∃e s2 T2,(ComOk (comK (nl13 32768 n) 128 32768 T.f (imgS s0))/\ Gd (nl13 32768 n) (32769*8) s2/\ ((e=0/\ s2.off=false/\ New0 (comK (nl13 32768 n) 128 32768 T.f (imgS s0)) s2/\ s2.arms.length<=s.arms.length)∨(e=5/\ s2.off=true/\ Rec9 (comK (nl13 32768 n) 128 32768 T.f (imgS s0)) s2/\ s2.arms.length<s.arms.length)))/\ r= .int .i64 e/\ B=C (PLf h p l9 d 128 32768 (128+32768) n wv T2 (some true) s2)):=by
  have h64:=nl13_64 (lg:=32768) (n:=n) (by decide);have hl:=hcal.len;have hl2:s.ls.length=nl13 32768 n:=(by rw [hls];exact hl);have hout:∀a,nl13 32768 n*64<=a->T.f a=none:=(by have h9:=hok.m.out;rw [hl2] at h9;exact h9);have hby:=hok.m.by_;have hneed:=good_need hg hout hby;have hcln:Cln s:=λ l h9=>hcal.cln l (by rw [←hls];exact h9)
  have him:imgS s=imgS s0:=(by unfold imgS;rw [hls]);have hco:ComOk (comK (nl13 32768 n) 128 32768 T.f (imgS s0)):=comK_ok hcal.w hcal.top hout hby (λ a h9=>by have:=hg.inn a h9;omega) oqz (img_byM hcal.wf hcal.len) hcal.hd;obtain ⟨e,s2,g1,g2,g3,g4⟩:=whole_com (k:=32769*8) hcal.top hcal.szl hco hby hw hon hcln hl2 him ha (by decide);have hph:=com_phi (at_:=128) (sz:=32768) (n:=nl13 32768 n*64) (f:=T.f) (s:=s);rw [g1] at hph
  have hp0:phi s=s.arms.length:=(by unfold phi;rw [hon];simp);have h9:phi s2<=phi s:=hph;have hk5:HkB 128 32768 (128+32768) n s:=hk13 (by decide) (by decide) (by decide) oqz hw hl2;refine (CommitPC (hc:=hc) (hb:=hk5) (hroom:=room_cln hcln (by rw [hl2];omega))).mono ?_
  have hcy:comY 128 32768 (s.ls.length*64) T (some false) s=((e,{ T with lv:=if e=0 then usedB T else T.lv }),s2):=by
    unfold comY
    rw [if_pos (show eY (some false) s=0 from e13_on hon),hl2,g1]
  rw [hcy]
  rintro v B ⟨rfl,rfl⟩;refine ⟨e,s2,_,⟨hco,g3, ?_⟩,rfl,rfl⟩;have hp2:=phi_arms s2
  rcases g4 with ⟨a1,a2,a3⟩|⟨a1,a2,_,a4⟩
  . exact .inl ⟨a1,a2,a3,by omega⟩
  refine .inr ⟨a1,a2,a4, ?_⟩;have:phi s2=1+s2.arms.length:=(by unfold phi;rw [a2];simp;omega)
  omega
end Go.Vl

namespace Go.Vl
open Go Go.Proofs Go.Proofs.Tryz
structure BI (n:Nat) (T:WkT):Prop where
  t:TOk n T
  b:∀a c,T.f a=some c->c.1<256
attribute [local irreducible] crk crL crc Sl pt ro Dev imgS recS readS recsF rdW rdO rkT Parts rvl recordsS runsL adrF kcl xcl kys runA runsF layF ovF TxA adZ WkA SlB blkS conB imF RDev lineC RLines TxR TxE ldT TxX wasF
end Go.Vl

namespace Go.Vl
open Go Go.Proofs Go.Proofs.Tryz
structure St13U where
  k:Int
  b:Int
  n:Int
  v:Nat
  la:Option Addr
  lc:Nat
  zs:List Int
def St13U.cells (t:St13U):List Value:=st13c t.k t.b t.n t.v t.la t.zs.length t.lc
structure St13W (A:SP) (t:St13U):Prop where
  i:(-9223372036854775808<=t.k/\ t.k<=9223372036854775807)/\ (-9223372036854775808<=t.b/\ t.b<=9223372036854775807)/\ (-9223372036854775808<=t.n/\ t.n<=9223372036854775807)
  v:t.v<18446744073709551616
  rs:Rs A t.la (ints t.zs)
  len:t.zs.length<=17592186043904
  cap:t.zs.length<=t.lc
  by_:∀x∈t.zs,-9223372036854775808<=x/\ x<=9223372036854775807
theorem St13W.left {A X:SP}{t:St13U}(h:St13W A t):St13W (A*X) t:=⟨h.i,h.v,h.rs.left,h.len,h.cap,h.by_⟩
def st13s (l:List St13U):List Value:=l.flatMap St13U.cells
theorem st13s_len (l:List St13U):(st13s l).length=l.length*5:=fm_length (f:=St13U.cells) (λ t _=>rfl)
theorem st13s_at {l:List St13U}{i:Nat}(h:i<l.length):((st13s l).drop (i*5)).take 5=l[i].cells:=fm_at (f:=St13U.cells) (λ t _=>rfl) h
attribute [local irreducible] crk crL crc Sl pt ro Dev imgS recS readS recsF rdW rdO rkT Parts rvl recordsS runsL adrF kcl xcl kys runA runsF layF ovF TxA adZ WkA SlB blkS conB imF RDev lineC RLines TxR TxE ldT TxX wasF
end Go.Vl

namespace Go.Vl
open Go Go.Proofs Go.Proofs.Tryz
def wpK:Bool->Nat->Option Addr
  |true,w=>some ⟨w,0,none⟩
  |false,_=>none
def NowB (wk:Bool)(n:Nat)(T:WkT)(na:Option Addr)(nc:Nat)(xa:Option Addr)(xc:Nat)(ga:Option Addr)(gc:Nat)(xw:List Value):SP:=match wk with
  |true=>Sl 1 (.slice na n nc) n (bos (wasF n (usedB T)))*Sl 1 (.slice xa n xc) n xw*Sl 1 (.slice ga n gc) n (bos (wasF n T.gv))
  |false=>emp
section
variable {A:SP} {n nc xc gc:Nat} {T:WkT} {na xa ga:Option Addr} {xw:List Value}
end
structure KOk (wk:Bool) (n i:Nat) (Z:SP) (T:WkT) (o:Option Bool) (s:DevS) (wv:Value) (wp:Nat) (gL:Nat->Bool) (vm:List Value) (rm nm xm gm:Nat) (xw:List Value) (nr:Nat):Prop where
  cal:Calm (nl13 32768 n) 128 32768 s
  m:KM (128+32768) n Z (T0 gL) s gL vm rm
  lv:gL=T.lv
  a:wk=false->liveY o=false
  b:wk=true->o=some false/\ wv=(pz wp)/\ n=nm/\ n=xm/\ n=gm/\ KM (128+32768) n Z T s (usedB T) xw nr/\ GoodF (128+32768) n i T.f
theorem adZ_at {n i:Nat}{g:Nat->Bool}(h:i<(adS n g).length):(ints (adZ n g))[i]? =some (.int .i64 (((adS n g)[i]:Nat):Int)):=natI_at h
attribute [local irreducible] crk crL crc Sl pt ro Dev imgS recS readS recsF rdW rdO rkT Parts rvl recordsS runsL adrF kcl xcl kys runA runsF layF ovF TxA adZ WkA SlB blkS conB imF RDev lineC RLines TxR TxE ldT TxX wasF
end Go.Vl

namespace Go.Vl
open Go Go.Proofs Go.Proofs.Tryz
def WantOk (Z:SP)(C:Nat->List Nat)(us:List Nat)(vs:List Value):Prop:=vs.length=us.length/\∀j,j<us.length->∃a c,vs[j]? =some (.slice a 256 c)/\ Rs Z a (bys (C (us[j]?.getD 0)))
theorem want_nil (Z:SP)(C:Nat->List Nat):WantOk Z C [] []:=⟨rfl,λ j h=>absurd h (Nat.not_lt_zero j)⟩
theorem want_snoc {Z:SP}{C:Nat->List Nat}{us:List Nat}{vs:List Value}{b c:Nat}{a:Option Addr}(h:WantOk Z C us vs):WantOk (Z*Sl 1 (.slice a 256 c) 256 (bys (C b))) C (us++[b]) (vs++[.slice a 256 c]):=by
  refine ⟨by rw [List.length_append,List.length_append,h.1];rfl,λ j hj=> ?_⟩;rw [List.length_append] at hj
  by_cases e:j<us.length
  . obtain ⟨a2,c2,h1,h2⟩:=h.2 j e;exact ⟨a2,c2,by rw [List.getElem?_append_left (by rw [h.1];exact e)];exact h1,by rw [List.getElem?_append_left e];exact h2.left⟩
  have e2:j=us.length:=(by simp at hj;omega);subst e2;refine ⟨a,c,by rw [←h.1,List.getElem?_append_right (Nat.le_refl _),Nat.sub_self];rfl, ?_⟩;rw [List.getElem?_append_right (Nat.le_refl _),Nat.sub_self]
  exact rs_sl
theorem imgS_lt9 {s:DevS}(h:WfD s):∀x∈imgS s,x<256:=img_lt
theorem con_eq9 {T:WkT}{s:DevS}{ba b:Nat}:conB T s ba b=ovF T.f (ba+256*b) (((imgS s).drop (ba+256*b)).take 256):=rfl
theorem adS_succ (i:Nat)(g:Nat->Bool):adS (i+1) g=adS i g++(if g i=true then [i] else []):=by
  unfold adS
  rw [List.range_succ,List.filter_append]
  congr 1
  simp only [List.filter_cons,List.filter_nil]
attribute [local irreducible] crk crL crc Sl pt ro Dev imgS recS readS recsF rdW rdO rkT Parts rvl recordsS runsL adrF kcl xcl kys runA runsF layF ovF TxA adZ WkA SlB blkS conB imF RDev lineC RLines TxR TxE ldT TxX wasF
theorem Ze5 {p r:Prop}(k:r)(h:Kq r->p:=by intro k;refine q_block_n (q_block_n (q_then_n ?_));refine Zw ?_;exact k.o):p:=h ⟨k⟩
theorem Zci {p r:Prop}(k:r)(h:Kq r->p:=by intro k;refine tv (o_fieldAddr (o:=1) underlying84 rfl rfl sz22 rfl) ?_;refine tv (o_load p22 rfl hsqz rfl) ?_;exact k.o):p:=h ⟨k⟩
theorem Zge {p r:Prop}(k:r)(h:Kq r->p:=by intro k;refine tl_c rfl (o_call bd25 rfl (works13_c)) ?_;rintro _ _ ⟨rfl,rfl⟩;exact k.o):p:=h ⟨k⟩
theorem Zgl {p r:Prop}(k:r)(h:Kq r->p:=by intro k;refine ql_v rfl (o_move wqz) ?_;refine ql_v rfl (o_slice underlying32 sz5 rfl (bnd_some rfl oqz) (bnd_some rfl oqz) oqz oqz) ?_;exact k.o):p:=h ⟨k⟩
theorem Zg4 {p r:Prop}(k:r)(h:Kq r->p:=by intro k;refine ql_v rfl (o_slice underlying32 sz5 rfl (bnd_some rfl oqz) (bnd_some rfl oqz) oqz oqz) ?_;refine Zbk ?_;exact k.o):p:=h ⟨k⟩
theorem lost_f {F:SP}{lg0 n0:Int}{fi ml cl0:Nat}{la0:Option Addr}{zs0:List Int}{ar:Value}(hfi:fi<256)(hrl:Rs F la0 (ints zs0))(hml:zs0.length=ml)(hmb:ml<=9223372036854775807){sa:Option Addr}{sc:Nat}{ts:List St13U}(hsr:Rs F sa (st13s ts))(hst:∀t∈ts,St13W F t){aa ka:Option Addr}{ac kc:Nat}{af kp:List Int}(hra:Rs F aa (ints af))(hrk:Rs F ka (ints kp))(hac:af.length<=ac)(hkc:kp.length<=kc)(hal:af.length<=17592186044416)(hab:∀x∈af,x<=9223372036854775807)(hkl:kp.length<=17592186044416)(hkb:∀x∈kp,x<=9223372036854775807):
    Fn Tryz.prog 5 #[.agg (su5 lg0 n0 (fi:Nat) (.slice la0 ml cl0) ar).toArray,.slice sa ts.length sc,.agg (#[.slice aa af.length ac,.slice ka kp.length kc])] (F) (λ rr B=>rr= .bool true/\ B=F):=by
  refine fn_enterW func5 rfl ntmps5 (by simp) ?_;refine sr ?_;refine tl_x rfl (o_box rfl (l:=(su5 lg0 n0 (fi:Nat) (.slice la0 ml cl0) ar)) rfl) ?_;rintro _ _ ⟨b3,rfl,rfl⟩;refine tl_x rfl (o_box rfl (l:=[.slice aa af.length ac,.slice ka kp.length kc]) rfl) ?_;rintro _ _ ⟨b5,rfl,rfl⟩;refine Za ?_;refine sr ?_;refine tv (o_loadN (vs:=(su5 lg0 n0 (fi:Nat) (.slice la0 ml cl0) ar)) a25 sz25 rfl hsqz (by exact Nat.le_refl 5) rfl) ?_;refine tl_c rfl (o_call bd8 rfl (clean13_c (la:=la0) (zs:=zs0) (hr:=by repeat (first|exact hrl|apply Rs.left)) (hm:=hml) (hmb:=hmb))) ?_;rintro _ _ ⟨n,g,a32,c32,hn,rfl,hc32,rfl⟩;have hzl:=adZ_len n g;have hzn:=adS_len n g;have h64:=nl13_64 (lg:=32768) (n:=n) (by decide);have hcal:=s13_calm (lg:=32768) (n:=n) (fi:=fi) (by decide) (by decide) (by decide) oqz;refine tl_u rfl (o_stUN (l':=(su5 ((32768:Nat):Int) ((n:Nat):Int) (fi:Nat) (.slice a32 (adZ n g).length c32) (.slice none 0 0))) rfl upqz sz25 rfl rfl rfl (by exact Nat.le_refl 5) rfl) ?_;refine Zf4 ?_;refine tv (o_loadN (vs:=(su5 ((32768:Nat):Int) ((n:Nat):Int) (fi:Nat) (.slice a32 (adZ n g).length c32) (.slice none 0 0))) a25 sz25 rfl hsqz (by exact Nat.le_refl 5) rfl) ?_;refine tl_c rfl (o_call bd9 rfl (plain13_c (lg:=32768) (n:=n) (fi:=fi) (m:=(adZ n g).length) (c:=c32) (la:=a32) (zs:=adS n g) (h1:=by decide) (h2:=by decide) (h3:=by decide) (h4:=by omega) (hfi:=hfi) (hr:=by rw [natI_adS];repeat (first|with_reducible exact rs_sl|apply Rs.left)) (hm:=(adZ_len n g).symm) (hnd:=adS_nodup n g) (hz:=λ x hx=>(adS_mem.1 hx).1))) ?_;rintro _ _ ⟨d9p,h9p,p9p,l9p,v9p,M9p,rfl,hM9p,rfl⟩;obtain ⟨s0,hs0⟩:∃s0,s13 32768 n fi=s0:=⟨_,rfl⟩;rw [hs0] at hcal ⊢
  obtain ⟨G,hG⟩:∃G,onL (adS n g)=G:=⟨_,rfl⟩;rw [hG] at hM9p
  refine tl_pre (A':=F*pt b3 (cl (su5 ((32768:Nat):Int) ((n:Nat):Int) (fi:Nat) (.slice a32 (adZ n g).length c32) (.slice none 0 0)) 25)*pt b5 (cl [.slice aa af.length ac,.slice ka kp.length kc] 84)*Sl 1 (.slice a32 (adZ n g).length c32) (adZ n g).length (ints (adZ n g))*PLf h9p p9p l9p d9p 128 32768 (128+32768) n (.pointer none) (T0 G) none s0) (λ g9 w9 h9=>pln_back (R:=F*pt b3 (cl (su5 ((32768:Nat):Int) ((n:Nat):Int) (fi:Nat) (.slice a32 (adZ n g).length c32) (.slice none 0 0)) 25)*pt b5 (cl [.slice aa af.length ac,.slice ka kp.length kc] 84)*Sl 1 (.slice a32 (adZ n g).length c32) (adZ n g).length (ints (adZ n g))) (T:=T0 G) hM9p h9) ?_;have hkb5:HkB 128 32768 (128+32768) n s0:=hk13 (by decide) (by decide) (by decide) oqz hcal.wf hcal.len;have hoff:=hcal.on;have hls:=hcal.len;have hnl:s0.ls.length*64=(128+32768+256*n):=(by rw [hls];exact h64);have hil:(imgS s0).length=(128+32768+256*n):=(by rw [imgS_len hcal.wf];exact hnl);refine Zdc ?_;refine tv (o_eqp underlying28 rfl rfl) ?_;refine Zz ?_;intro h;refine Zbq ?_;refine tl_c rfl (o_call bd12 rfl (BeginK (h:=h9p) (p:=p9p) (lg:=l9p) (d:=d9p) (at_:=128) (sz:=32768) (ba:=128+32768) (n:=n) (wv:= .pointer none) (T:=T0 G) (o:=none) (s:=s0) (hb:=hkb5) (hcal:=hcal) (hl:=rfl))) ?_;rintro _ _ ⟨w42,rfl,rfl⟩;refine Zfv ?_;intro h;refine Zbq ?_;refine tl_c rfl (o_call bd32 rfl (ImagePC (h:=h9p) (p:=p9p) (lg:=l9p) (d:=d9p) (at_:=128) (sz:=32768) (ba:=128+32768) (n:=n) (wv:=((pz w42))) (T:=T0 (T0 G).lv) (o:=some false) (s:=s0))) ?_;rintro _ _ ⟨a48,c48,rfl,hc48,rfl⟩;rw [hnl] at hc48 ⊢
  refine Zc1 ?_;refine Zd9 ?_;refine tc_loop (λ kk ρ BB=>∃ (i:Nat) (T:WkT),(i<=400)/\ (KLs (128+32768) n i G T)/\ kk=400-i/\ ρ 12=(vn i)/\ ρ 1= .slice sa ts.length sc/\ ρ 3=(pz b3)/\ ρ 5=(pz b5)/\ ρ 7=(pz d9p)/\ ρ 9=(pz w42)/\ ρ 11= .slice a48 (128+32768+256*n) c48/\ Dr BB (F*pt b3 (cl (su5 ((32768:Nat):Int) ((n:Nat):Int) (fi:Nat) (.slice a32 (adZ n g).length c32) (.slice none 0 0)) 25)*pt b5 (cl [.slice aa af.length ac,.slice ka kp.length kc] 84)*Sl 1 (.slice a32 (adZ n g).length c32) (adZ n g).length (ints (adZ n g))*PLf h9p p9p l9p d9p 128 32768 (128+32768) n ((pz w42)) T (some false) s0*Sl 1 (.slice a48 (128+32768+256*n) c48) (128+32768+256*n) (bys (imgS s0)))) (m:=400-(0)) ?_ ?_
  . exact ⟨0,(T0 (T0 G).lv),Nat.zero_le _,⟨rfl,good0 _ _,fr0 _ _ _⟩,rfl,rfl,rfl,rfl,rfl,rfl,rfl,rfl,drqz⟩
  intro k ρ B hI;obtain ⟨i,T,hp0,hp1,hkk1,hE12,hE1,hE3,hE5,hE7,hE9,hE11,hBA⟩:=hI;refine tc_pre hBA.sat ?_;clear hBA;refine te 12 hE12 ?_;refine te 1 hE1 ?_;refine te 3 hE3 ?_;refine te 5 hE5 ?_;refine te 7 hE7 ?_;refine te 9 hE9 ?_;refine te 11 hE11 ?_;refine tc_seq ?_;refine tc_seq ?_;refine tc_cut (λ ρ BB=>∃ (q56:Bool),(q56=true->i<ts.length/\ i<400)/\ ρ 56= .bool q56/\ ρ 1= .slice sa ts.length sc/\ ρ 3=(pz b3)/\ ρ 5=(pz b5)/\ ρ 7=(pz d9p)/\ ρ 9=(pz w42)/\ ρ 11= .slice a48 (128+32768+256*n) c48/\ ρ 12=(vn i)/\ BB=F*pt b3 (cl (su5 ((32768:Nat):Int) ((n:Nat):Int) (fi:Nat) (.slice a32 (adZ n g).length c32) (.slice none 0 0)) 25)*pt b5 (cl [.slice aa af.length ac,.slice ka kp.length kc] 84)*Sl 1 (.slice a32 (adZ n g).length c32) (adZ n g).length (ints (adZ n g))*PLf h9p p9p l9p d9p 128 32768 (128+32768) n ((pz w42)) T (some false) s0*Sl 1 (.slice a48 (128+32768+256*n) c48) (128+32768+256*n) (bys (imgS s0))) ?_ ?_
  . skip
    refine Zdr ?_;refine tv (o_len underlying26 rfl) ?_;refine Zd3 ?_;refine tl_bool (d:=53) rfl (λ h=> ?_) (sbq ?_)
    . have hi0:i<ts.length:=(by first|omega|(simp at h;omega));refine Zfk ?_;refine Zc2 ?_;exact ⟨_,(λ h9=>by first|exact ⟨hi0,by first|exact of_decide_eq_true h9|(simp at h9;omega)⟩|(cases h9)),rfl,rfl,rfl,rfl,rfl,rfl,rfl,rfl,rfl⟩
    intro h;refine Zo ?_;refine Zdj ?_;exact ⟨_,(λ h9=>by first|exact ⟨hi0,by first|exact of_decide_eq_true h9|(simp at h9;omega)⟩|(cases h9)),rfl,rfl,rfl,rfl,rfl,rfl,rfl,rfl,rfl⟩
  intro ρ B hI;obtain ⟨q56,hj0,hE56,hE1,hE3,hE5,hE7,hE9,hE11,hE12,rfl⟩:=hI;refine q_then_n ?_;refine te 56 hE56 ?_;refine te 1 hE1 ?_;refine te 3 hE3 ?_;refine te 5 hE5 ?_;refine te 7 hE7 ?_;refine te 9 hE9 ?_;refine te 11 hE11 ?_;refine te 12 hE12 ?_;refine tc_cond rfl (λ h=> ?_) (λ h=> ?_)
  . obtain ⟨hi,hi4⟩:=hj0 (by simpa using h);obtain ⟨t9,ht9⟩:∃t9,ts[i]=t9:=⟨_,rfl⟩;have hw9:=hst t9 (ht9▸List.getElem_mem hi);refine tc_have (λ _ _ h9=>plf_ok h9.left rfl) λ hpk=> ?_
    obtain ⟨X9,Y9,hXn,hok9⟩:=hpk;refine Zd1 ?_;refine tlm ?_;refine tv (o_ixP underlying26 sz42 rfl rfl oqz (by repeat (first|exact nn_rs hsr (λ _=>by rw [st13s_len];omega)|apply Nn.left))) ?_;refine tv (o_ldPN (vs:=(st13c t9.k t9.b t9.n t9.v t9.la t9.zs.length t9.lc)) a42 sz42 rfl (by repeat (first|exact hsr|apply Rs.left)) (by rw [←ht9];exact st13s_at hi) rfl (by decide)) ?_;refine tl_x rfl (o_alloc (l:=[.int .i64 0,.int .i64 0,.int .i64 0,.int .u64 0,.slice none 0 0]) z42 rfl) ?_;rintro _ _ ⟨b13,rfl,rfl⟩;refine tl_u rfl (o_stUN (l':=(st13c t9.k t9.b t9.n t9.v t9.la t9.zs.length t9.lc)) rfl upqz sz42 rfl rfl rfl (by exact Nat.le_refl 5) rfl) ?_;refine Zf4 ?_;refine tv (o_fieldAddr (o:=0) underlying42 rfl rfl sz3 rfl) ?_;refine tv (o_load p3 rfl hsqz rfl) ?_;refine Zbh ?_;refine Zfn ?_;refine Za ?_;refine tc_cond rfl (sbq ?_) (sbq ?_)
    . intro h;refine Zw ?_;refine tl_c rfl (o_call bd14 rfl (TakeK (h:=h9p) (p:=p9p) (lg:=l9p) (d:=d9p) (at_:=128) (sz:=32768) (ba:=128+32768) (n:=n) (wv:=((pz w42))) (T:=T) (s:=s0) (hb:=hkb5) (ho:=hoff))) ?_;rintro _ _ ⟨v68,e68,T68,ht68,rfl,rfl⟩;refine tl_nil ?_;refine Ze5 ?_;refine Zgo ?_;exact ⟨_,by omega,i+1,T68,by omega,kl_take hp1 ht68,rfl,rfl,rfl,rfl,rfl,rfl,rfl,rfl,drqz⟩
    intro h;refine Zfn ?_;refine Za ?_;refine tc_cond rfl (sbq ?_) (sbq ?_)
    . intro h;refine Zw ?_;refine tv (o_fieldAddr (o:=1) underlying42 rfl rfl sz3 rfl) ?_;refine tv (o_load p3 rfl hsqz rfl) ?_;refine tl_c rfl (o_call bd15 rfl (GiveK (b:=t9.b) (h:=h9p) (p:=p9p) (lg:=l9p) (d:=d9p) (at_:=128) (sz:=32768) (ba:=128+32768) (n:=n) (wv:=((pz w42))) (T:=T) (s:=s0) (hb:=hkb5) (ho:=hoff))) ?_;rintro _ _ ⟨e74,T74,hg74,rfl,rfl⟩;refine tl_nil ?_;refine Ze5 ?_;refine Zgo ?_;exact ⟨_,by omega,i+1,T74,by omega,kl_give hp1 hg74,rfl,rfl,rfl,rfl,rfl,rfl,rfl,rfl,drqz⟩
    intro h;refine Zfn ?_;refine Za ?_;refine tc_cond rfl (sbq ?_) (sbq ?_)
    . intro h;refine sr ?_;refine tv (o_fieldAddr (o:=2) underlying42 rfl rfl sz3 rfl) ?_;refine tl_u rfl (o_stU (l':=(st13c t9.k t9.b 256 t9.v t9.la t9.zs.length t9.lc)) rfl upqz sz3 rfl rfl (by show 2<5;decide) rfl) ?_;refine nq ?_;refine tc_regh (S:=F*pt b3 (cl (su5 ((32768:Nat):Int) ((n:Nat):Int) (fi:Nat) (.slice a32 (adZ n g).length c32) (.slice none 0 0)) 25)*pt b5 (cl [.slice aa af.length ac,.slice ka kp.length kc] 84)*Sl 1 (.slice a32 (adZ n g).length c32) (adZ n g).length (ints (adZ n g))*Sl 1 (.slice a48 (128+32768+256*n) c48) (128+32768+256*n) (bys (imgS s0))*pt b13 (cl (st13c t9.k t9.b 256 t9.v t9.la t9.zs.length t9.lc) 42)) mo drqz ?_
      show TH _ _ _ _ _ 6 (Array.replicate 6 false) _ _
      refine tm 0 rfl kqz rfl (o_move wqz) ?_;refine tm 1 rfl kqz rfl (o_fieldAddr (o:=1) underlying42 rfl rfl sz3 rfl) ?_;refine tm 2 rfl kqz rfl (o_load p3 rfl hsqz rfl) ?_;refine tm 3 rfl kqz rfl (o_loadN (vs:=(st13c t9.k t9.b 256 t9.v t9.la t9.zs.length t9.lc)) a42 sz42 rfl hsqz (by exact Nat.le_refl 5) rfl) ?_;refine th_one (i:=4) kqz ?_;refine oh_c rfl rfl rfl (o_call bd19 rfl (data13_c)) ?_;rintro _ _ ⟨a82,c82,rfl,hc82,rfl⟩;refine ⟨by repeat (first|with_reducible exact dr_refl|apply dr_keep|apply dr_drop), ?_⟩;refine th_one (i:=5) kqz ?_;refine oh_c rfl rfl rfl (o_call bd18 rfl (WriteK (b:=t9.b) (xs:=dataS 256 t9.v) (h:=h9p) (p:=p9p) (lg:=l9p) (d:=d9p) (at_:=128) (sz:=32768) (ba:=128+32768) (n:=n) (wv:=((pz w42))) (T:=T) (s:=s0) (hb:=hkb5) (ho:=hoff) (hr:=by repeat (first|with_reducible exact rs_sl|apply Rs.left)) (hxl:=rfl) (hxb:=dataS_lt 256 t9.v))) ?_;rintro _ _ ⟨e83,T83,hg83,rfl,rfl⟩;refine ⟨by repeat (first|with_reducible exact dr_refl|apply dr_keep|apply dr_drop), ?_⟩;refine th_done kqz ?_;refine Ze5 ?_;refine Zgo ?_;exact ⟨_,by omega,i+1,T83,by omega,kl_write hp1 hok9 hXn (data256 _) hg83,rfl,rfl,rfl,rfl,rfl,rfl,rfl,rfl,drqz⟩
    intro h;refine Zfn ?_;refine Za ?_;refine tc_cond rfl (sbq ?_) (sbq ?_)
    . intro h;refine Zw ?_;refine tv (o_fieldAddr (o:=3) underlying42 rfl rfl sz36 rfl) ?_;refine tv (o_load p36 rfl hsqz rfl) ?_;refine tl_c rfl (o_call bd21 rfl (SetRootK (z:=t9.v) (h:=h9p) (p:=p9p) (lg:=l9p) (d:=d9p) (at_:=128) (sz:=32768) (ba:=128+32768) (n:=n) (wv:=((pz w42))) (T:=T) (s:=s0) (hb:=hkb5) (ho:=hoff) (hv:=hw9.v))) ?_;rintro _ _ ⟨rfl,rfl⟩;refine tl_nil ?_;refine Ze5 ?_;refine Zgo ?_;exact ⟨_,by omega,i+1,(T.root t9.v),by omega,kl_root hp1,rfl,rfl,rfl,rfl,rfl,rfl,rfl,rfl,drqz⟩
    intro h;refine tc_skip ?_;refine Ze5 ?_;refine Zgo ?_;exact ⟨_,by omega,i+1,T,by omega,kl_same hp1,rfl,rfl,rfl,rfl,rfl,rfl,rfl,rfl,drqz⟩
  have hp1k:=hp1;have hp0k:=hp0;refine Zg ?_;refine Zb9 ?_;refine Zb9 ?_;refine tc_seq ?_;refine Zd9 ?_;refine tc_pre (A':=F*pt b3 (cl (su5 ((32768:Nat):Int) ((n:Nat):Int) (fi:Nat) (.slice a32 (adZ n g).length c32) (.slice none 0 0)) 25)*pt b5 (cl [.slice aa af.length ac,.slice ka kp.length kc] 84)*Sl 1 (.slice a32 (adZ n g).length c32) (adZ n g).length (ints (adZ n g))*PLf h9p p9p l9p d9p 128 32768 (128+32768) n ((pz w42)) T (some false) s0*Sl 1 (.slice a48 (128+32768+256*n) c48) (128+32768+256*n) (bys (imgS s0))*Sl 1 (.slice none (adZ 0 (usedB T)).length 0) (adZ 0 (usedB T)).length (ints (adZ 0 (usedB T)))*Sl 1 (.slice none 0 0) 0 []*emp) (λ _ _ h9=>by rw [star_emp,adZ_zero];exact sl_nil (sl_nil h9)) ?_;refine tc_loop (λ kk ρ BB=>∃ (i:Nat) (ua:Option Addr) (uc:Nat) (wa:Option Addr) (wc:Nat) (ws:List Value) (Z:SP),(i<=n)/\ ((adZ i (usedB T)).length<=uc)/\ (ws.length<=wc)/\ (WantOk Z (conB T s0 (128+32768)) (adS i (usedB T)) ws)/\ (ws.length<=i)/\ kk=n-i/\ ρ 14= .slice ua (adZ i (usedB T)).length uc/\ ρ 15= .slice wa ws.length wc/\ ρ 16=(vn i)/\ ρ 3=(pz b3)/\ ρ 5=(pz b5)/\ ρ 7=(pz d9p)/\ ρ 9=(pz w42)/\ ρ 11= .slice a48 (128+32768+256*n) c48/\ Dr BB (F*pt b3 (cl (su5 ((32768:Nat):Int) ((n:Nat):Int) (fi:Nat) (.slice a32 (adZ n g).length c32) (.slice none 0 0)) 25)*pt b5 (cl [.slice aa af.length ac,.slice ka kp.length kc] 84)*Sl 1 (.slice a32 (adZ n g).length c32) (adZ n g).length (ints (adZ n g))*PLf h9p p9p l9p d9p 128 32768 (128+32768) n ((pz w42)) T (some false) s0*Sl 1 (.slice a48 (128+32768+256*n) c48) (128+32768+256*n) (bys (imgS s0))*Sl 1 (.slice ua (adZ i (usedB T)).length uc) (adZ i (usedB T)).length (ints (adZ i (usedB T)))*Sl 1 (.slice wa ws.length wc) ws.length ws*Z)) (m:=n-(0)) ?_ ?_
  . exact ⟨0,none,0,none,0,[],emp,Nat.zero_le _,by rw [adZ_zero];exact Nat.le_refl _,Nat.le_refl _,want_nil _ _,Nat.le_refl _,rfl,by rw [adZ_zero];rfl,rfl,rfl,rfl,rfl,rfl,rfl,rfl,drqz⟩
  intro k ρ B hI;obtain ⟨i,ua,uc,wa,wc,ws,Z,hp0,hp1,hp2,hp3,hp4,hkk2,hE14,hE15,hE16,hE3,hE5,hE7,hE9,hE11,hBA⟩:=hI;refine tc_pre hBA.sat ?_;clear hBA;refine te 14 hE14 ?_;refine te 15 hE15 ?_;refine te 16 hE16 ?_;refine te 3 hE3 ?_;refine te 5 hE5 ?_;refine te 7 hE7 ?_;refine te 9 hE9 ?_;refine te 11 hE11 ?_;refine Ze ?_;refine Zcl ?_;refine Zq ?_;refine tc_cond rfl (λ h=> ?_) (λ h=> ?_)
  . have hi:i<n:=(by first|omega|(simp at h;omega));have hz:=adZ_le i (usedB T);refine Zd1 ?_;refine tlm ?_;refine tl_c rfl (o_call bd16 rfl (ReadK (b:=((i:Nat):Int)) (h:=h9p) (p:=p9p) (lg:=l9p) (d:=d9p) (at_:=128) (sz:=32768) (ba:=128+32768) (n:=n) (wv:=((pz w42))) (T:=T) (s:=s0) (hb:=hkb5) (ho:=hoff))) ?_;rintro _ _ ⟨x99,e99,a99,c99,hr99,rfl,hc99,rfl⟩;have hrc:=readW_c rfl hr99;refine Ze7 ?_;refine Zdq ?_;refine tc_cond rfl (λ h=> ?_) (λ h=> ?_)
    . obtain ⟨hu7,hx7⟩:usedB T i=true/\ conB T s0 (128+32768) i=x99:=by rcases hrc with ⟨h1,_,h3⟩|⟨_,h2,_⟩;(exact ⟨by rw [usedZ_nat] at h1;exact h1,by rw [h3,Int.toNat_natCast]⟩);(rw [h2] at h;exact absurd h (by decide))
      subst hx7;have hs1:=adZ_succ i (usedB T);rw [if_pos hu7] at hs1
      have hs3:=adS_succ i (usedB T);rw [if_pos hu7] at hs3
      have hcl9:(conB T s0 (128+32768) i).length=256:=con_len (by rw [hil];omega);rw [hcl9]
      refine Zb ?_;refine tlm ?_;refine tl_x rfl (o_buildSlice1 underlying22 sz3 z3 wqz rfl) ?_;rintro _ _ ⟨b106,rfl,rfl⟩;refine tl_x rfl (o_apB underlying22 underlying22 sz3 by3 z3 rfl (by decide) (by decide) rfl rfl rfl ctqz rfl (by exact ints_all [(i:Int)]) oqz ((ints_sn (adZ i (usedB T)) _).trans (congrArg ints hs1.symm))) ?_;rintro _ _ ⟨a107,c107,rfl,hc107,rfl⟩;refine Za ?_;refine Zdr ?_;refine tl_x rfl (o_buildSlice1 underlying35 sz32 z32 wqz rfl) ?_;rintro _ _ ⟨b110,rfl,rfl⟩;refine tl_x rfl (o_apB underlying35 underlying35 sz32 by32 z32 rfl (by decide) (by decide) rfl rfl rfl ctqz rfl rfl oqz rfl) ?_;rintro _ _ ⟨a111,c111,rfl,hc111,rfl⟩;refine Zeu ?_;refine Zde ?_;exact ⟨_,by omega,i+1,a107,c107,a111,c111,ws++[.slice a99 256 c99],Z*Sl 1 (.slice a99 256 c99) 256 (bys (conB T s0 (128+32768) i)),by omega,by rw [hs1,List.length_append];exact hc107,by rw [List.length_append];exact hc111,by rw [hs3];exact want_snoc hp3,by rw [List.length_append];show ws.length+1<=i+1;omega,rfl,by rw [hs1,List.length_append];rfl,by rw [List.length_append];rfl,rfl,rfl,rfl,rfl,rfl,rfl,(by rw [hs1,List.length_append,List.length_append];simp only [←star_assoc];repeat (first|with_reducible exact dr_refl|apply dr_keep|apply dr_drop))⟩
    have hu7:¬usedB T i=true:=(by rcases hrc with ⟨_,h2,_⟩|⟨h1,_,_⟩;(rw [h2] at h;exact absurd h (by decide));(rw [usedZ_nat] at h1;rw [h1];decide));have hs1:=adZ_succ i (usedB T);rw [if_neg hu7,List.append_nil] at hs1
    have hs3:=adS_succ i (usedB T);rw [if_neg hu7,List.append_nil] at hs3
    refine Zgs ?_;exact ⟨_,by omega,i+1,ua,uc,wa,wc,ws,Z,by omega,by rw [hs1];exact hp1,hp2,by rw [hs3];exact hp3,by omega,rfl,by rw [hs1];rfl,rfl,rfl,rfl,rfl,rfl,rfl,rfl,by rw [hs1];repeat (first|with_reducible exact dr_refl|apply dr_keep|apply dr_drop)⟩
  obtain rfl:n=i:=by first|omega|(simp at h;omega)
  have hul:=hp1;have hwl:=hp2;have hwant:=hp3;have hwn:=hp4;refine Zda ?_;refine tl_c rfl (o_call bd20 rfl (RootK (h:=h9p) (p:=p9p) (lg:=l9p) (d:=d9p) (at_:=128) (sz:=32768) (ba:=128+32768) (n:=n) (wv:=((pz w42))) (T:=T) (s:=s0) (hb:=hkb5) (ho:=hoff))) ?_;rintro _ _ ⟨rfl,rfl⟩;refine Zfv ?_;intro h;refine Zcu ?_;refine Zd9 ?_;refine tc_loop (λ kk ρ BB=>∃ (i:Nat),(i<=kp.length)/\ (∀j (h:j<kp.length),j<i->0<=kp[j])/\ kk=kp.length-i/\ ρ 20=(vn i)/\ ρ 3=(pz b3)/\ ρ 5=(pz b5)/\ ρ 7=(pz d9p)/\ ρ 9=(pz w42)/\ ρ 10= .int .i64 0/\ ρ 11= .slice a48 (128+32768+256*n) c48/\ ρ 14= .slice ua (adZ n (usedB T)).length uc/\ ρ 15= .slice wa ws.length wc/\ ρ 19= .int .u64 ((rootV T s0:Nat):Int)/\ Dr BB (F*pt b3 (cl (su5 ((32768:Nat):Int) ((n:Nat):Int) (fi:Nat) (.slice a32 (adZ n g).length c32) (.slice none 0 0)) 25)*pt b5 (cl [.slice aa af.length ac,.slice ka kp.length kc] 84)*Sl 1 (.slice a32 (adZ n g).length c32) (adZ n g).length (ints (adZ n g))*PLf h9p p9p l9p d9p 128 32768 (128+32768) n ((pz w42)) T (some false) s0*Sl 1 (.slice a48 (128+32768+256*n) c48) (128+32768+256*n) (bys (imgS s0))*Sl 1 (.slice ua (adZ n (usedB T)).length uc) (adZ n (usedB T)).length (ints (adZ n (usedB T)))*Sl 1 (.slice wa ws.length wc) ws.length ws*Z)) (m:=kp.length-(0)) ?_ ?_
  . exact ⟨0,Nat.zero_le _,λ j h h9=>absurd h9 (Nat.not_lt_zero j),rfl,rfl,rfl,rfl,rfl,rfl,rfl,rfl,rfl,rfl,rfl,drqz⟩
  intro k ρ B hI;obtain ⟨i,hp0,hp1,hkk3,hE20,hE3,hE5,hE7,hE9,hE10,hE11,hE14,hE15,hE19,hBA⟩:=hI;refine tc_pre hBA.sat ?_;clear hBA;refine te 20 hE20 ?_;refine te 3 hE3 ?_;refine te 5 hE5 ?_;refine te 7 hE7 ?_;refine te 9 hE9 ?_;refine te 10 hE10 ?_;refine te 11 hE11 ?_;refine te 14 hE14 ?_;refine te 15 hE15 ?_;refine te 19 hE19 ?_;refine Ze ?_;refine Zci ?_;refine Zcy ?_;refine tc_cond rfl (λ h=> ?_) (λ h=> ?_)
  . have hi:i<kp.length:=(by first|omega|(simp at h;omega));obtain ⟨x,hx1⟩:∃x,kp[i]=x:=⟨_,rfl⟩;have hat:(ints kp)[i]? =some (.int .i64 x):=(by rw [ints_at oqz,hx1]);refine Zec ?_;refine Zci ?_;refine tlm ?_;refine tv (o_ixP1 (a:=ka) underlying22 sz3 rfl rfl oqz (nn_rs (xs:=ints kp) (by repeat (first|exact hrk|apply Rs.left)) (by rw [ints_length];omega))) ?_;refine tv (o_ldP (a:=ka) (xs:=ints kp) p3 rfl (by repeat (first|exact hrk|apply Rs.left)) hat) ?_;refine Zq ?_;refine tc_cond rfl (sbq ?_) (λ h=> ?_)
    . intro h;refine sr ?_;refine Zge ?_;refine Zce ?_;exact ⟨.bool true,F,res1 rfl rfl,Dr.sat drqz,rfl,rfl⟩
    have g131:0<=x:=(by first|(have h9:=of_decide_eq_false h;omega)|(simp at h;omega));refine Zgs ?_;exact ⟨_,by omega,i+1,by omega,λ j hj h9=>by by_cases e:j=i;(subst e;rw [hx1];exact g131);exact hp1 j hj oqz,rfl,rfl,rfl,rfl,rfl,rfl,rfl,rfl,rfl,rfl,rfl,drqz⟩
  obtain rfl:i=kp.length:=by first|omega|(simp at h;omega)
  have hkp:∀x∈kp,0<=x/\ x<=9223372036854775807:=λ x hx=>by obtain ⟨j,hj,rfl⟩:=List.mem_iff_getElem.1 hx;exact ⟨hp1 j hj hj,hkb _ (List.getElem_mem hj)⟩
  refine tc_have (λ _ _ h9=>plf_ok h9.left.left.left.left rfl) λ hpk=> ?_
  obtain ⟨X9,Y9,hXn,hok9⟩:=hpk;obtain ⟨hlvG,hgood,hfr⟩:=hp1k;refine Zg ?_;refine sr ?_;refine tv (o_fieldAddr (o:=0) underlying84 rfl rfl sz22 rfl) ?_;refine tv (o_load p22 rfl hsqz rfl) ?_;refine Zs ?_;refine tlm ?_;refine Zci ?_;refine tl_c rfl (o_call bd33 rfl (armedP (h:=h9p) (p:=p9p) (lg:=l9p) (d:=d9p) (at_:=128) (sz:=32768) (ba:=128+32768) (n:=n) (wv:=((pz w42))) (T:=T) (o:=some false) (s:=s0) (hra:=by repeat (first|exact hra|apply Rs.left)) (hrk:=by repeat (first|exact hrk|apply Rs.left)) (hac:=hac) (hkc:=hkc) (hw:=hcal.wf) (hO:=hoff) (ha:=by rw [hcal.arms];decide) (hal:=hal) (hb:=hab) (hk:=hkp) (hkl:=hkl))) ?_;rintro _ _ ⟨a139,c139,rfl,hc139,hr139,rfl⟩;have hra2:Rs F a139 (ints (armR af)):=hr139 F hra;have hls4:(armD af kp s0).ls=s0.ls:=armD_ls;have hof4:(armD af kp s0).off=false:=(by rw [armD_off];exact hoff);have hw4:WfD (armD af kp s0):=armD_wf hcal.wf hoff (by rw [hcal.arms];decide) hab hkp hkl;have ha5:(armD af kp s0).arms.length+(armR af).length<=5:=armD_5 hcal.arms;have ha1:(armD af kp s0).arms.length<=1:=(by have:=armD_one (af:=af) (kp:=kp) (s:=s0);rw [hcal.arms] at this;exact this);obtain ⟨s4,hs4⟩:∃s4,armD af kp s0=s4:=⟨_,rfl⟩;rw [hs4] at hls4 hof4 hw4 ha5 ha1 ⊢
  refine Zs ?_;refine tl_c rfl (o_call bd22 rfl (CommitL (h:=h9p) (p:=p9p) (l9:=l9p) (d:=d9p) (n:=n) (wv:=((pz w42))) (T:=T) (s0:=s0) (s:=s4) (h2:=hn) (hcal:=hcal) (hls:=hls4) (hon:=hof4) (hw:=hw4) (ha:=ha1) (hok:=by rw [hls4];exact hok9) (hg:=hgood) (hk:=hp0k))) ?_;rintro _ _ ⟨e141,s141,T141,⟨hco,hgd,hcs⟩,rfl,rfl⟩;refine Zgp ?_;refine tc_cut (λ ρ BB=>ρ 147= .bool false/\ ρ 3=(pz b3)/\ ρ 5=(pz b5)/\ ρ 7=(pz d9p)/\ ρ 10= .int .i64 0/\ ρ 11= .slice a48 (128+32768+256*n) c48/\ ρ 14= .slice ua (adZ n (usedB T)).length uc/\ ρ 15= .slice wa ws.length wc/\ ρ 19= .int .u64 ((rootV T s0:Nat):Int)/\ ρ 21= .slice a139 (armR af).length c139/\ ρ 22= .int .i64 e141/\ BB=F*pt b3 (cl (su5 ((32768:Nat):Int) ((n:Nat):Int) (fi:Nat) (.slice a32 (adZ n g).length c32) (.slice none 0 0)) 25)*pt b5 (cl [.slice aa af.length ac,.slice ka kp.length kc] 84)*Sl 1 (.slice a32 (adZ n g).length c32) (adZ n g).length (ints (adZ n g))*PLf h9p p9p l9p d9p 128 32768 (128+32768) n ((pz w42)) T141 (some true) s141*Sl 1 (.slice a48 (128+32768+256*n) c48) (128+32768+256*n) (bys (imgS s0))*Sl 1 (.slice ua (adZ n (usedB T)).length uc) (adZ n (usedB T)).length (ints (adZ n (usedB T)))*Sl 1 (.slice wa ws.length wc) ws.length ws*Z) ?_ ?_
  . skip
    refine Zw ?_;refine Zc9 ?_;refine tl_bool (d:=144) rfl (sbq ?_) (sbq ?_)
    . intro h;refine tlm ?_;refine tv (o_nei rfl rfl) ?_;refine Zc2 ?_;exact ⟨by first|rfl|(rcases hcs with ⟨h1,_⟩|⟨h1,_⟩;(subst h1;simp at h);(subst h1;rfl)),rfl,rfl,rfl,rfl,rfl,rfl,rfl,rfl,rfl,rfl,rfl⟩
    intro h;refine Zo ?_;refine Zdj ?_;exact ⟨by first|rfl|(rcases hcs with ⟨h1,_⟩|⟨h1,_⟩;(subst h1;simp at h);(subst h1;rfl)),rfl,rfl,rfl,rfl,rfl,rfl,rfl,rfl,rfl,rfl,rfl⟩
  intro ρ B hI;obtain ⟨hE147,hE3,hE5,hE7,hE10,hE11,hE14,hE15,hE19,hE21,hE22,rfl⟩:=hI;refine q_then_n ?_;refine te 147 hE147 ?_;refine te 3 hE3 ?_;refine te 5 hE5 ?_;refine te 7 hE7 ?_;refine te 10 hE10 ?_;refine te 11 hE11 ?_;refine te 14 hE14 ?_;refine te 15 hE15 ?_;refine te 19 hE19 ?_;refine te 21 hE21 ?_;refine te 22 hE22 ?_;refine tc_cond rfl dbq (sbq ?_);intro h;refine Zcu ?_;refine tc_seq ?_;refine tc_cut (λ ρ BB=>∃ (s7:DevS),(s7.off=true)/\ (Rec9 (comK (nl13 32768 n) 128 32768 T.f (imgS s0)) s7)/\ (Gd (nl13 32768 n) (32769*8) s7)/\ (s7.arms.length+(armR af).length<=5)/\ (e141=0->New0 (comK (nl13 32768 n) 128 32768 T.f (imgS s0)) s7)/\ ρ 157= .bool false/\ ρ 3=(pz b3)/\ ρ 5=(pz b5)/\ ρ 7=(pz d9p)/\ ρ 10= .int .i64 0/\ ρ 11= .slice a48 (128+32768+256*n) c48/\ ρ 14= .slice ua (adZ n (usedB T)).length uc/\ ρ 15= .slice wa ws.length wc/\ ρ 19= .int .u64 ((rootV T s0:Nat):Int)/\ ρ 21= .slice a139 (armR af).length c139/\ ρ 22= .int .i64 e141/\ BB=F*pt b3 (cl (su5 ((32768:Nat):Int) ((n:Nat):Int) (fi:Nat) (.slice a32 (adZ n g).length c32) (.slice none 0 0)) 25)*pt b5 (cl [.slice aa af.length ac,.slice ka kp.length kc] 84)*Sl 1 (.slice a32 (adZ n g).length c32) (adZ n g).length (ints (adZ n g))*Sl 1 (.slice a48 (128+32768+256*n) c48) (128+32768+256*n) (bys (imgS s0))*Sl 1 (.slice ua (adZ n (usedB T)).length uc) (adZ n (usedB T)).length (ints (adZ n (usedB T)))*Sl 1 (.slice wa ws.length wc) ws.length ws*Z*Dev d9p s7) ?_ ?_
  . skip
    refine tc_pre (A':=F*pt b3 (cl (su5 ((32768:Nat):Int) ((n:Nat):Int) (fi:Nat) (.slice a32 (adZ n g).length c32) (.slice none 0 0)) 25)*pt b5 (cl [.slice aa af.length ac,.slice ka kp.length kc] 84)*Sl 1 (.slice a32 (adZ n g).length c32) (adZ n g).length (ints (adZ n g))*Sl 1 (.slice a48 (128+32768+256*n) c48) (128+32768+256*n) (bys (imgS s0))*Sl 1 (.slice ua (adZ n (usedB T)).length uc) (adZ n (usedB T)).length (ints (adZ n (usedB T)))*Sl 1 (.slice wa ws.length wc) ws.length ws*Z*Dev d9p s141) (λ g9 w9 h9=>plf_dev (R:=F*pt b3 (cl (su5 ((32768:Nat):Int) ((n:Nat):Int) (fi:Nat) (.slice a32 (adZ n g).length c32) (.slice none 0 0)) 25)*pt b5 (cl [.slice aa af.length ac,.slice ka kp.length kc] 84)*Sl 1 (.slice a32 (adZ n g).length c32) (adZ n g).length (ints (adZ n g))*Sl 1 (.slice a48 (128+32768+256*n) c48) (128+32768+256*n) (bys (imgS s0))*Sl 1 (.slice ua (adZ n (usedB T)).length uc) (adZ n (usedB T)).length (ints (adZ n (usedB T)))*Sl 1 (.slice wa ws.length wc) ws.length ws*Z) (h9.perm (by ac_rfl))) ?_;refine Zw ?_;refine tl_c rfl (o_call bd34 rfl (Off_c (s:=s141))) ?_;refine Zbf ?_;refine tlm ?_;refine tl_bool (d:=151) rfl (λ h=> ?_) (λ h=> ?_)
    . have hoff9:s141.off=false:=(by simpa using h);obtain ⟨he9,hnew9,harm9⟩:e141=0/\ New0 (comK (nl13 32768 n) 128 32768 T.f (imgS s0)) s141/\ s141.arms.length<=s4.arms.length:=by rcases hcs with h1|h1;exact ⟨h1.1,h1.2.2.1,h1.2.2.2⟩;(have h2:=h1.2.1;rw [hoff9] at h2;cases h2)
      obtain ⟨q1,q2,q3,q4,q5⟩:=lose_lawW (c:=(comK (nl13 32768 n) 128 32768 T.f (imgS s0))) (kp:=kp) hoff9 (λ x hx=>(hkp x hx).1) hgd;have w1:=q5;have w2:Rec9 (comK (nl13 32768 n) 128 32768 T.f (imgS s0)) (goesS kp s141):= .inr (q2 (.inr (.inl hnew9)));have w3:=q1;have w4:(goesS kp s141).arms.length+(armR af).length<=5:=(by rw [q4];omega);have w5:e141=0->New0 (comK (nl13 32768 n) 128 32768 T.f (imgS s0)) (goesS kp s141):=λ _=>q3 hnew9
      refine tlm ?_;refine Zci ?_;refine tl_c rfl (o_call bd35 rfl (Crash_c (s:=s141) (keep:=kp) (hr:=by repeat (first|exact hrk|apply Rs.left)) (hk:=λ k hk=>(hkp k hk).2) (hm:=rfl) (hkl:=hkl))) ?_;rintro _ _ ⟨e155,s155,hs155,rfl,rfl⟩;obtain ⟨rfl,rfl⟩:=pair_eq (cr_lawW (k:=kp) hoff9 (λ x hx=>(hkp x hx).1)) hs155;refine tv (o_nei rfl rfl) ?_;refine Zc2 ?_;exact ⟨(goesS kp s141),w1,w2,w3,w4,w5,rfl,rfl,rfl,rfl,rfl,rfl,rfl,rfl,rfl,rfl,rfl,rfl⟩
    have w1:s141.off=true:=(by simpa using h);obtain ⟨he9,w2,harm9⟩:e141=5/\ Rec9 (comK (nl13 32768 n) 128 32768 T.f (imgS s0)) s141/\ s141.arms.length<s4.arms.length:=by rcases hcs with h1|h1;(have h2:=h1.2.1;rw [w1] at h2;cases h2);exact ⟨h1.1,h1.2.2.1,h1.2.2.2⟩
    have w3:=hgd;have w4:s141.arms.length+(armR af).length<=5:=(by omega);have w5:e141=0->New0 (comK (nl13 32768 n) 128 32768 T.f (imgS s0)) s141:=λ h9=>by rw [he9] at h9;cases h9
    refine Zb3 ?_;refine tk ?_;refine Zdj ?_;exact ⟨s141,w1,w2,w3,w4,w5,rfl,rfl,rfl,rfl,rfl,rfl,rfl,rfl,rfl,rfl,rfl,rfl⟩
  intro ρ B hI;obtain ⟨s7,hk0,hk1,hk2,hk3,hk4,hE157,hE3,hE5,hE7,hE10,hE11,hE14,hE15,hE19,hE21,hE22,rfl⟩:=hI;refine q_then_n ?_;refine te 157 hE157 ?_;refine te 3 hE3 ?_;refine te 5 hE5 ?_;refine te 7 hE7 ?_;refine te 10 hE10 ?_;refine te 11 hE11 ?_;refine te 14 hE14 ?_;refine te 15 hE15 ?_;refine te 19 hE19 ?_;refine te 21 hE21 ?_;refine te 22 hE22 ?_;refine tc_cond rfl dbq (sbq ?_);intro h;refine Zcu ?_;refine Zd9 ?_;refine tc_loop (λ kk ρ BB=>∃ (i:Nat) (s:DevS) (rem:List Int) (ra:Option Addr) (rc:Nat) (e:Int),(s.off=true)/\ (Rec9 (comK (nl13 32768 n) 128 32768 T.f (imgS s0)) s)/\ (Gd (nl13 32768 n) (32769*(7-i)) s)/\ (s.arms.length+rem.length+i<=5)/\ (e141=0->New0 (comK (nl13 32768 n) 128 32768 T.f (imgS s0)) s)/\ (Rs F ra (ints rem))/\ (rem.length<=rc)/\ (∀x∈rem,x<=9223372036854775807)/\ kk=6-i/\ ρ 10= .int .i64 e/\ ρ 21= .slice ra rem.length rc/\ ρ 23=(vn i)/\ ρ 3=(pz b3)/\ ρ 5=(pz b5)/\ ρ 7=(pz d9p)/\ ρ 11= .slice a48 (128+32768+256*n) c48/\ ρ 14= .slice ua (adZ n (usedB T)).length uc/\ ρ 15= .slice wa ws.length wc/\ ρ 19= .int .u64 ((rootV T s0:Nat):Int)/\ ρ 22= .int .i64 e141/\ Dr BB (F*pt b3 (cl (su5 ((32768:Nat):Int) ((n:Nat):Int) (fi:Nat) (.slice a32 (adZ n g).length c32) (.slice none 0 0)) 25)*pt b5 (cl [.slice aa af.length ac,.slice ka kp.length kc] 84)*Sl 1 (.slice a32 (adZ n g).length c32) (adZ n g).length (ints (adZ n g))*Sl 1 (.slice a48 (128+32768+256*n) c48) (128+32768+256*n) (bys (imgS s0))*Sl 1 (.slice ua (adZ n (usedB T)).length uc) (adZ n (usedB T)).length (ints (adZ n (usedB T)))*Sl 1 (.slice wa ws.length wc) ws.length ws*Z*Dev d9p s)) (m:=6-(0)) ?_ ?_
  . exact ⟨0,s7,(armR af),a139,c139,0,hk0,hk1,hk2.le (by decide),hk3,hk4,hra2,hc139,λ x hx=>hab x (armR_mem hx),rfl,rfl,rfl,rfl,rfl,rfl,rfl,rfl,rfl,rfl,rfl,rfl,drqz⟩
  intro k ρ B hI;obtain ⟨i,s,rem,ra,rc,e,hp0,hp1,hp2,hp3,hp4,hp5,hp6,hp7,hkk4,hE10,hE21,hE23,hE3,hE5,hE7,hE11,hE14,hE15,hE19,hE22,hBA⟩:=hI;refine tc_pre hBA.sat ?_;clear hBA;refine te 10 hE10 ?_;refine te 21 hE21 ?_;refine te 23 hE23 ?_;refine te 3 hE3 ?_;refine te 5 hE5 ?_;refine te 7 hE7 ?_;refine te 11 hE11 ?_;refine te 14 hE14 ?_;refine te 15 hE15 ?_;refine te 19 hE19 ?_;refine te 22 hE22 ?_;refine Ze ?_;refine Zq ?_;refine tc_cond rfl (sbq ?_) dbq;intro h;refine Zbe ?_;refine Ze ?_;refine tl_c rfl (o_call bd36 rfl (Wake_c (s:=s))) ?_;rintro _ _ ⟨rfl,rfl⟩;refine tl_env (d:=163) (v:= .int .i64 0) (by show Value.int .i64 (if s.off=true then 0 else 3)=_;rw [hp0];rfl) ?_;refine Z3 ?_;intro h;refine Zgr ?_;refine Zci ?_;refine tl_c rfl (o_call bd33 rfl (armed13_c (s:={ s with off:=false }) (af:=rem) (kp:=kp) (hra:=by repeat (first|exact hp5|apply Rs.left)) (hrk:=by repeat (first|exact hrk|apply Rs.left)) (hac:=hp6) (hkc:=hkc) (hw:=wfd_on hp2.wf) (hO:=rfl) (ha:=by show s.arms.length<=60;omega) (hal:=by omega) (hb:=hp7) (hk:=hkp) (hkl:=hkl))) ?_;rintro _ _ ⟨a169,c169,rfl,hc169,hr169,rfl⟩;have hls8:(armD rem kp { s with off:=false }).ls=s.ls:=armD_ls;have hof8:(armD rem kp { s with off:=false }).off=false:=armD_off;have hw8:WfD (armD rem kp { s with off:=false }):=armD_wf (wfd_on hp2.wf) rfl (by show s.arms.length<=60;omega) hp7 hkp hkl;have hsum8:(armD rem kp { s with off:=false }).arms.length+(armR rem).length<=s.arms.length+rem.length:=armD_sum oqz;obtain ⟨s8,hs8⟩:∃s8,armD rem kp { s with off:=false }=s8:=⟨_,rfl⟩;rw [hs8] at hls8 hof8 hw8 hsum8 ⊢
  have hrec8:=rec_eqv hp1 hw8 hls8;have hnew8:New0 (comK (nl13 32768 n) 128 32768 T.f (imgS s0)) s->New0 (comK (nl13 32768 n) 128 32768 T.f (imgS s0)) s8:=λ h=>new_eqv h hw8 hls8
  have hgd8:Gd (nl13 32768 n) (32768+1+32769*(7-(i+1))) s8:=⟨by rw [hls8];exact hp2.len,λ l hl=>by have:=hp2.room l (by rw [←hls8];exact hl);omega,hw8⟩;obtain ⟨q9,e9,s9,r1,r2,r3,r4,r5⟩:=roll_law hco hrec8 hof8 hgd8;have r1:rollS 128 32768 s8=((q9,e9),s9):=r1;have hl8:s8.ls.length=nl13 32768 n:=hgd8.len;refine Zs ?_;refine tv (o_loadN (vs:=(su5 ((32768:Nat):Int) ((n:Nat):Int) (fi:Nat) (.slice a32 (adZ n g).length c32) (.slice none 0 0))) a25 sz25 rfl hsqz (by exact Nat.le_refl 5) rfl) ?_;refine tl_c rfl (o_call bd37 rfl (brought_any (R:=F*pt b3 (cl (su5 ((32768:Nat):Int) ((n:Nat):Int) (fi:Nat) (.slice a32 (adZ n g).length c32) (.slice none 0 0)) 25)*pt b5 (cl [.slice aa af.length ac,.slice ka kp.length kc] 84)*Sl 1 (.slice a32 (adZ n g).length c32) (adZ n g).length (ints (adZ n g))*Sl 1 (.slice a48 (128+32768+256*n) c48) (128+32768+256*n) (bys (imgS s0))*Sl 1 (.slice ua (adZ n (usedB T)).length uc) (adZ n (usedB T)).length (ints (adZ n (usedB T)))*Sl 1 (.slice wa ws.length wc) ws.length ws*Z) (d:=d9p) (lg:=32768) (n:=n) (s:=s8) (hA:=rfl) (ho:=hof8) (hls:=hl8) (hroom:=room_le hgd8.room oqz) (hlw:=by rw [hl8];exact hcal.w) (h2:=by decide) (h3:=by decide) (h4:=by omega) (hr9:=λ q e s2 h9=>by rw [r1] at h9;simp only [Prod.mk.injEq] at h9;rw [←h9.2];exact r2.len))) ?_;rintro _ _ ⟨hv173,e173,q173,s173,hs173,rfl,rfl⟩;obtain ⟨hq9,rfl⟩:=pair_eq r1 hs173
  simp only [Prod.mk.injEq] at hq9
  obtain ⟨rfl,rfl⟩:=hq9;refine Zbj ?_;refine Zp ?_;refine Zdq ?_;refine tc_cond rfl (λ h=> ?_) (λ h=> ?_)
  . obtain ⟨he9,hof9,hset9⟩:e9=0/\ s9.off=false/\ Set9 (comK (nl13 32768 n) 128 32768 T.f (imgS s0)) s9:=by rcases r5 with h1|h1;exact h1;(rw [h1.1] at h;exact absurd h (by decide))
    subst he9;refine tc_exit ?_;refine q_then_e (q_block_e rfl (q_then_e (q_then_e (q_block_x (q_then_n ?_)))));refine Zb ?_;refine tl_c rfl (o_call bd32 rfl (Image_c (s:=s9))) ?_;rintro _ _ ⟨a186,c186,rfl,hc186,rfl⟩;have hl9:s9.ls.length*64=(128+32768+256*n):=(by rw [r2.len];exact h64);rw [hl9] at hc186 ⊢
    have hil9:(imgS s9).length=(128+32768+256*n):=(by rw [imgS_len r2.wf];exact hl9);have hout9:∀a,nl13 32768 n*64<=a->T.f a=none:=(by have h9:=hok9.m.out;rw [hls] at h9;exact h9);obtain ⟨nw,hnw,hfin⟩:=fin_at hco hout9 (λ a h9=>by have:=hgood.inn a h9;omega) hset9 (by rw [hil9];exact h64.symm);have hL:∀p m,(p+m<=128∨128+32768<=p)->p+m<=(128+32768+256*n)->_:=λ p m h1 h2=>lost_at (p:=p) (m:=m) (by rw [hil];exact h64.symm) (by rw [hil9];exact h64.symm) hfin h1 oqz
    have hnw0:e141=0->nw=true:=λ h9=>hnw (r4 (hnew8 (hp4 h9)))
    obtain ⟨I9,hI9⟩:∃I9,imgS s9=I9:=⟨_,rfl⟩;rw [hI9] at hL hil9 ⊢
    obtain ⟨I0,hI0⟩:∃I0,imgS s0=I0:=⟨_,rfl⟩;rw [hI0] at hL hil ⊢
    have hf64:∀a,64<=a->a<64+8->kdO T.f a≠some true:=λ a h1 h2 h3=>by obtain ⟨b,_,_,h4,_⟩:=hfr a h3;omega
    have hfbl:∀b,G b=true->∀a,128+32768+256*b<=a->a<128+32768+256*b+256->kdO T.f a≠some true:=λ b hb a h1 h2 h3=>by obtain ⟨b2,_,h5,h4,h6⟩:=hfr a h3;obtain rfl:b2=b:=(by omega);rw [hb] at h5;cases h5
    refine Zp ?_;refine Zc9 ?_;refine tl_bool (d:=189) rfl dbq (sbq ?_);intro h;refine tlm ?_;refine Zcp ?_;refine tv (o_len underlying32 rfl) ?_;refine tv (o_nei rfl rfl) ?_;refine tl_env (d:=194) (v:= .bool false) (by show Value.bool (decide (_≠_))=_;simp) ?_;refine Zeh ?_;intro h;refine Zcu ?_;refine tc_regq mo kqz ?_;refine Zgl ?_;refine Zgl ?_;refine ql_c rfl (λ w=>exec_call bd17 rfl) (EqBytes_c (xs:=(I9.drop 64).take 8) (ys:=(I0.drop 64).take 8) (h1:=rs_mid (X:=I9) (l:=64) (m:=8) sq1z (by rw [hil9];exact hc186)) (h2:=rs_mid (X:=I0) (l:=64) (m:=8) sq1z (by rw [hil];exact hc48)) (hx:=by rw [List.length_take,List.length_drop,hil9];omega) (hy:=by rw [List.length_take,List.length_drop,hil];omega) (hn:=by omega) (hm:=by omega)) ?_;refine Zf7 ?_;refine tc_seq ?_;refine Zd9 ?_;refine tc_loop (λ kk ρ BB=>∃ (i:Nat) (o:Bool),(i<=(adZ n g).length)/\ (nw=false->o=true)/\ kk=(adZ n g).length-i/\ ρ 25= .bool o/\ ρ 26=(vn i)/\ ρ 3=(pz b3)/\ ρ 11= .slice a48 (128+32768+256*n) c48/\ ρ 14= .slice ua (adZ n (usedB T)).length uc/\ ρ 15= .slice wa ws.length wc/\ ρ 19= .int .u64 ((rootV T s0:Nat):Int)/\ ρ 22= .int .i64 e141/\ ρ 24= .slice a186 (128+32768+256*n) c186/\ Dr BB (F*pt b3 (cl (su5 ((32768:Nat):Int) ((n:Nat):Int) (fi:Nat) (.slice a32 (adZ n g).length c32) (.slice none 0 0)) 25)*pt b5 (cl [.slice aa af.length ac,.slice ka kp.length kc] 84)*Sl 1 (.slice a32 (adZ n g).length c32) (adZ n g).length (ints (adZ n g))*Sl 1 (.slice a48 (128+32768+256*n) c48) (128+32768+256*n) (bys I0)*Sl 1 (.slice ua (adZ n (usedB T)).length uc) (adZ n (usedB T)).length (ints (adZ n (usedB T)))*Sl 1 (.slice wa ws.length wc) ws.length ws*Z*Sl 1 (.slice a186 (128+32768+256*n) c186) (128+32768+256*n) (bys I9))) (m:=(adZ n g).length-(0)) ?_ ?_
    . exact ⟨0,(decide ((I9.drop 64).take 8=(I0.drop 64).take 8)),Nat.zero_le _,(λ h9=>decide_eq_true ((hL 64 8 oqz oqz).2 h9 hf64)),rfl,rfl,rfl,rfl,rfl,rfl,rfl,rfl,rfl,rfl,drqz⟩
    intro k ρ B hI;obtain ⟨i,o,hp0,hp1,hkk5,hE25,hE26,hE3,hE11,hE14,hE15,hE19,hE22,hE24,hBA⟩:=hI;refine tc_pre hBA.sat ?_;clear hBA;refine te 25 hE25 ?_;refine te 26 hE26 ?_;refine te 3 hE3 ?_;refine te 11 hE11 ?_;refine te 14 hE14 ?_;refine te 15 hE15 ?_;refine te 19 hE19 ?_;refine te 22 hE22 ?_;refine te 24 hE24 ?_;refine Ze ?_;refine Zem ?_;refine Zcy ?_;refine tc_cond rfl (λ h=> ?_) (λ h=> ?_)
    . have hi:i<(adS n g).length:=(by rw [←adZ_len];first|omega|(simp at h;omega));have hmb9:=adS_mem.1 (List.getElem_mem hi);obtain ⟨b9,hb9⟩:∃b9,(adS n g)[i]=b9:=⟨_,rfl⟩;rw [hb9] at hmb9
      have hbn:=hmb9.1;have hGb:G b9=true:=(by rw [←hG,←hb9];exact decide_eq_true (List.getElem_mem hi));refine Zbe ?_;refine Zfl ?_;refine ql_v rfl (o_loadN (vs:=(su5 ((32768:Nat):Int) ((n:Nat):Int) (fi:Nat) (.slice a32 (adZ n g).length c32) (.slice none 0 0))) a25 sz25 rfl hsqz (by exact Nat.le_refl 5) rfl) ?_;refine ql_c rfl (λ w=>exec_call bd11 rfl) (heap13_c (lg:=32768)) ?_;refine ql_v rfl (o_fieldAddr (o:=3) underlying25 rfl rfl sz22 rfl) ?_;refine ql_v rfl (o_load p22 rfl hsqz rfl) ?_;refine ql_v rfl (o_move wqz) ?_;refine ql_v rfl (o_ixP1 (j:=i) underlying22 sz3 rfl rfl (by rw [adZ_len];exact hi) (nn_rs (xs:=ints (adZ n g)) sq1z (by rw [ints_length,adZ_len];omega))) ?_;refine ql_v rfl (o_ldP (xs:=ints (adZ n g)) (v:=(vn b9)) p3 rfl sq1z (by rw [←hb9];exact adZ_at hi)) ?_;refine ql_v rfl (by first|exact o_mulI rfl rfl oqz|exact o_mul rfl rfl) ?_;refine ql_v rfl adqz ?_;refine ql_env (d:=216) (v:=(vn (128+32768+256*b9))) (by first|rfl|exact congrArg (Value.int .i64) oqz) ?_;refine Zf7 ?_;refine tc_regq mo kqz ?_;refine Zbk ?_;refine ql_bool (d:=218) rfl (sbq ?_) (λ h=> ?_)
      . intro h;refine Zbk ?_;refine ql_v rfl (o_move wqz) ?_;refine ql_v rfl adqz ?_;refine ql_env (d:=222) (v:=(vn (128+32768+256*b9+256))) (by first|rfl|exact congrArg (Value.int .i64) oqz) ?_;refine Zg4 ?_;refine ql_v rfl (o_move wqz) ?_;refine ql_v rfl adqz ?_;refine ql_env (d:=227) (v:=(vn (128+32768+256*b9+256))) (by first|rfl|exact congrArg (Value.int .i64) oqz) ?_;refine ql_v rfl (o_slice underlying32 sz5 rfl (bnd_some rfl oqz) (bnd_some rfl oqz) oqz oqz) ?_;refine ql_c rfl (λ w=>exec_call bd17 rfl) (EqBytes_c (xs:=(I9.drop (128+32768+256*b9)).take 256) (ys:=(I0.drop (128+32768+256*b9)).take 256) (h1:=rs_mid (X:=I9) (l:=(128+32768+256*b9)) (m:=256) sq1z (by rw [hil9];exact hc186)) (h2:=rs_mid (X:=I0) (l:=(128+32768+256*b9)) (m:=256) sq1z (by rw [hil];exact hc48)) (hx:=by rw [List.length_take,List.length_drop,hil9];omega) (hy:=by rw [List.length_take,List.length_drop,hil];omega) (hn:=by omega) (hm:=by omega)) ?_;refine ql_v rfl (o_pick_t rfl wqz) ?_;refine Zcg ?_;refine Zn ?_;refine Zde ?_;exact ⟨_,by omega,i+1,_,by omega,(λ h9=>by first|exact decide_eq_true ((hL _ 256 (.inr oqz) oqz).2 h9 (hfbl _ hGb))|(have h8:=hp1 h9;rw [ho9] at h8;cases h8)),rfl,rfl,rfl,rfl,rfl,rfl,rfl,rfl,rfl,rfl,drqz⟩
      have ho9:o=false:=(by simpa using h);refine Zfo ?_;refine Zfo ?_;refine Zbd ?_;refine ql_skip rfl ?_;refine ql_v rfl (o_pick_f rfl wqz) ?_;refine Zcg ?_;refine Zn ?_;refine Zde ?_;exact ⟨_,by omega,i+1,_,by omega,(λ h9=>by first|exact decide_eq_true ((hL _ 256 (.inr oqz) oqz).2 h9 (hfbl _ hGb))|(have h8:=hp1 h9;rw [ho9] at h8;cases h8)),rfl,rfl,rfl,rfl,rfl,rfl,rfl,rfl,rfl,rfl,drqz⟩
    have hoo9:=hp1;refine Zg ?_;refine tc_seq ?_
    have hrt9:nw=true->(I9.drop 64).take 8=le 8 (rootV T s0):=λ h9=>by
      have h8:=(hL 64 8 oqz oqz).1 h9;rw [h8]
      unfold rootV
      rw [hI0]
      have h7:=le_nm (ovF T.f 64 ((I0.drop 64).take 8)) (ovF_by hok9.m.by_ λ x hx=>imgS_lt9 hcal.wf x (by rw [hI0];exact List.mem_of_mem_drop (List.mem_of_mem_take hx)));rw [ovF_len,List.length_take,List.length_drop,hil,show min 8 (128+32768+256*n-64)=8 by omega] at h7
      exact h7.symm
    have hcon9:∀b,b<n->nw=true->(I9.drop (128+32768+256*b)).take 256=conB T s0 (128+32768) b:=λ b hb h9=>by
      rw [(hL (128+32768+256*b) 256 (.inr oqz) oqz).1 h9]
      rw [con_eq9,hI0]
    refine tc_regh (S:=F*pt b3 (cl (su5 ((32768:Nat):Int) ((n:Nat):Int) (fi:Nat) (.slice a32 (adZ n g).length c32) (.slice none 0 0)) 25)*pt b5 (cl [.slice aa af.length ac,.slice ka kp.length kc] 84)*Sl 1 (.slice a32 (adZ n g).length c32) (adZ n g).length (ints (adZ n g))*Sl 1 (.slice a48 (128+32768+256*n) c48) (128+32768+256*n) (bys I0)*Sl 1 (.slice ua (adZ n (usedB T)).length uc) (adZ n (usedB T)).length (ints (adZ n (usedB T)))*Sl 1 (.slice wa ws.length wc) ws.length ws*Z*Sl 1 (.slice a186 (128+32768+256*n) c186) (128+32768+256*n) (bys I9)) mo drqz ?_
    show TH _ _ _ _ _ 6 (Array.replicate 6 false) _ _
    refine tm 0 rfl kqz rfl (o_move wqz) ?_;refine tm 1 rfl kqz rfl (o_slice underlying32 sz5 rfl (bnd_some rfl oqz) (bnd_some rfl oqz) oqz oqz) ?_;refine tm 2 rfl kqz rfl (o_move wqz) ?_;refine th_one (i:=3) kqz ?_;refine oh_c rfl rfl rfl (o_call bd38 rfl (Little_c (v:=rootV T s0) (n:=8))) ?_;rintro _ _ ⟨a234,c234,rfl,hc234,rfl⟩;refine Zgv ?_;refine oh_c rfl rfl rfl (o_call bd17 rfl (EqBytes_c (xs:=(I9.drop 64).take 8) (ys:=le 8 (rootV T s0)) (h1:=rs_mid (X:=I9) (l:=64) (m:=8) sq1z (by rw [hil9];exact hc186)) (h2:=(by repeat (first|with_reducible exact rs_sl|apply Rs.left))) (hx:=by rw [List.length_take,List.length_drop,hil9];omega) (hy:=le_length 8 _) (hn:=by omega) (hm:=by omega))) ?_;refine Z1 ?_;refine tm 5 rfl kqz rfl (o_assign wqz) ?_;refine Zby ?_;refine tc_seq ?_;refine Zd9 ?_;refine tc_loop (λ kk ρ BB=>∃ (i:Nat) (o2:Bool),(i<=(adZ n (usedB T)).length)/\ (nw=true->o2=true)/\ kk=(adZ n (usedB T)).length-i/\ ρ 28= .bool o2/\ ρ 29=(vn i)/\ ρ 3=(pz b3)/\ ρ 14= .slice ua (adZ n (usedB T)).length uc/\ ρ 15= .slice wa ws.length wc/\ ρ 22= .int .i64 e141/\ ρ 24= .slice a186 (128+32768+256*n) c186/\ ρ 25= .bool o/\ Dr BB (F*pt b3 (cl (su5 ((32768:Nat):Int) ((n:Nat):Int) (fi:Nat) (.slice a32 (adZ n g).length c32) (.slice none 0 0)) 25)*pt b5 (cl [.slice aa af.length ac,.slice ka kp.length kc] 84)*Sl 1 (.slice a32 (adZ n g).length c32) (adZ n g).length (ints (adZ n g))*Sl 1 (.slice a48 (128+32768+256*n) c48) (128+32768+256*n) (bys I0)*Sl 1 (.slice ua (adZ n (usedB T)).length uc) (adZ n (usedB T)).length (ints (adZ n (usedB T)))*Sl 1 (.slice wa ws.length wc) ws.length ws*Z*Sl 1 (.slice a186 (128+32768+256*n) c186) (128+32768+256*n) (bys I9))) (m:=(adZ n (usedB T)).length-(0)) ?_ ?_
    . exact ⟨0,(decide ((I9.drop 64).take 8=le 8 (rootV T s0))),Nat.zero_le _,(λ h9=>decide_eq_true (hrt9 h9)),rfl,rfl,rfl,rfl,rfl,rfl,rfl,rfl,rfl,drqz⟩
    intro k ρ B hI;obtain ⟨i,o2,hp0,hp1,hkk6,hE28,hE29,hE3,hE14,hE15,hE22,hE24,hE25,hBA⟩:=hI;refine tc_pre hBA.sat ?_;clear hBA;refine te 28 hE28 ?_;refine te 29 hE29 ?_;refine te 3 hE3 ?_;refine te 14 hE14 ?_;refine te 15 hE15 ?_;refine te 22 hE22 ?_;refine te 24 hE24 ?_;refine te 25 hE25 ?_;refine Ze ?_;refine tlm ?_;refine Zcy ?_;refine tc_cond rfl (λ h=> ?_) (sbq ?_)
    . have hi:i<(adS n (usedB T)).length:=(by rw [←adZ_len];first|omega|(simp at h;omega));have hmb9:=adS_mem.1 (List.getElem_mem hi);obtain ⟨b9,hb9⟩:∃b9,(adS n (usedB T))[i]=b9:=⟨_,rfl⟩;rw [hb9] at hmb9
      have hbn:=hmb9.1;obtain ⟨wa9,wc9,hwv9,hwr9⟩:=hwant.2 i hi;rw [List.getElem?_eq_getElem hi,hb9] at hwr9
      have hwl9:=hwant.1;have hzu:=adZ_len n (usedB T);refine Zbe ?_;refine Zfl ?_;refine ql_v rfl (o_loadN (vs:=(su5 ((32768:Nat):Int) ((n:Nat):Int) (fi:Nat) (.slice a32 (adZ n g).length c32) (.slice none 0 0))) a25 sz25 rfl hsqz (by exact Nat.le_refl 5) rfl) ?_;refine ql_c rfl (λ w=>exec_call bd11 rfl) (heap13_c (lg:=32768)) ?_;refine Zbk ?_;refine ql_v rfl (o_ixP1 (a:=ua) (j:=i) underlying22 sz3 rfl rfl (by rw [adZ_len];exact hi) (nn_rs (xs:=ints (adZ n (usedB T))) sq1z (by rw [ints_length,adZ_len];omega))) ?_;refine ql_v rfl (o_ldP (a:=ua) (xs:=ints (adZ n (usedB T))) (v:=(vn b9)) p3 rfl sq1z (by rw [←hb9];exact adZ_at hi)) ?_;refine ql_v rfl (by first|exact o_mulI rfl rfl oqz|exact o_mul rfl rfl) ?_;refine ql_v rfl adqz ?_;refine ql_env (d:=249) (v:=(vn (128+32768+256*b9))) (by first|rfl|exact congrArg (Value.int .i64) oqz) ?_;refine Zf7 ?_;refine tc_regq mo kqz ?_;refine Zbk ?_;refine ql_bool (d:=251) rfl (sbq ?_) (λ h=> ?_)
      . intro h;refine Zbk ?_;refine ql_v rfl (o_move wqz) ?_;refine ql_v rfl adqz ?_;refine ql_env (d:=255) (v:=(vn (128+32768+256*b9+256))) (by first|rfl|exact congrArg (Value.int .i64) oqz) ?_;refine Zg4 ?_;refine ql_v rfl (o_ixP1 (a:=wa) (j:=i) underlying35 sz32 rfl rfl (by rw [hwl9];exact hi) (nn_rs (xs:=ws) sq1z oqz)) ?_;refine ql_v rfl (o_ldP (a:=wa) (xs:=ws) p32 rfl sq1z hwv9) ?_;refine ql_c rfl (λ w=>exec_call bd17 rfl) (EqBytes_c (xs:=(I9.drop (128+32768+256*b9)).take 256) (ys:=conB T s0 (128+32768) b9) (h1:=rs_mid (X:=I9) (l:=128+32768+256*b9) (m:=256) sq1z (by rw [hil9];exact hc186)) (h2:=by repeat (first|exact Rs.right hwr9|apply Rs.left)) (hx:=by rw [List.length_take,List.length_drop,hil9];omega) (hy:=con_len (by rw [hI0,hil];omega)) (hn:=by omega) (hm:=by omega)) ?_;refine ql_v rfl (o_pick_t rfl wqz) ?_;refine Zcg ?_;refine Zn ?_;refine Zde ?_;exact ⟨_,by omega,i+1,_,by omega,(λ h9=>by first|exact decide_eq_true (hcon9 _ hbn h9)|(have h8:=hp1 h9;rw [ho9] at h8;cases h8)),rfl,rfl,rfl,rfl,rfl,rfl,rfl,rfl,rfl,drqz⟩
      have ho9:o2=false:=(by simpa using h);refine Zfo ?_;refine Zfo ?_;refine Zbd ?_;refine ql_v rfl (o_pick_f rfl wqz) ?_;refine Zcg ?_;refine Zn ?_;refine Zde ?_;exact ⟨_,by omega,i+1,_,by omega,(λ h9=>by first|exact decide_eq_true (hcon9 _ hbn h9)|(have h8:=hp1 h9;rw [ho9] at h8;cases h8)),rfl,rfl,rfl,rfl,rfl,rfl,rfl,rfl,rfl,drqz⟩
    intro h;refine Zda ?_;refine tlm ?_;refine tl_bool (d:=264) rfl (sbq ?_) (λ h=> ?_)
    . intro h;refine Zb3 ?_;refine Z9 ?_;refine tl_env (d:=270) (v:= .bool true) (by first|rfl|(rw [show o2=true by simpa using h];rfl)) ?_;refine tlm ?_;refine Zge ?_;refine Zdt ?_;exact ⟨.bool true,F,res1 rfl rfl,Dr.sat drqz,rfl,rfl⟩
    have ho9:o2=false:=(by simpa using h);have hnw9:nw=false:=(by cases h9:nw with|true=>(have h8:=hp1 h9;rw [ho9] at h8;cases h8)|false=>rfl);have hoo:=hoo9 hnw9;have he0:e141≠0:=λ h9=>by rw [hnw0 h9] at hnw9;cases hnw9
    refine tlm ?_;refine tv (o_nei rfl rfl) ?_;refine tl_env (d:=266) (v:= .bool true) (by show Value.bool (decide (_≠_))=_;rw [decide_eq_true he0]) ?_;refine tlm ?_;refine tl_bool (d:=267) rfl (sbq ?_) dbq;intro h;refine tlm ?_;refine tv (o_pick_t rfl wqz) ?_;refine tl_env (d:=269) (v:= .bool true) (by first|rfl|(rw [hoo];rfl)|(rw [hoo])) ?_;refine tv (o_pick_f rfl wqz) ?_;refine tl_env (d:=270) (v:= .bool true) (by first|rfl|(rw [show o2=true by simpa using h];rfl)) ?_;refine tlm ?_;refine tl_bool (d:=271) rfl (sbq ?_) dbq;intro h;refine Zge ?_;refine Zdt ?_;exact ⟨.bool true,F,res1 rfl rfl,Dr.sat drqz,rfl,rfl⟩
  obtain ⟨he9,hof9,hrec9,harm9⟩:e9=5/\ s9.off=true/\ Rec9 (comK (nl13 32768 n) 128 32768 T.f (imgS s0)) s9/\ s9.arms.length<s8.arms.length:=by rcases r5 with h1|h1;(rw [h1.1] at h;exact absurd h (by decide));exact h1
  subst he9;refine Zbq ?_;refine Zc9 ?_;refine tl_bool (d:=180) rfl dbq (sbq ?_);intro h;refine tlm ?_;refine tl_c rfl (o_call bd34 rfl (Off_c (s:=s9))) ?_;rintro _ _ ⟨rfl,rfl⟩;refine tl_env (d:=182) (v:= .bool true) (by show Value.bool s9.off=_;rw [hof9]) ?_;refine tv (o_not rfl) ?_;refine Zeh ?_;intro h;refine Zgs ?_;exact ⟨_,by omega,i+1,s9,(armR rem),a169,c169,5,hof9,hrec9,r2,by omega,λ h9=>r4 (hnew8 (hp4 h9)),hr169 F hp5,hc169,λ x hx=>hp7 x (armR_mem hx),rfl,rfl,rfl,rfl,rfl,rfl,rfl,rfl,rfl,rfl,rfl,rfl,drqz⟩
end Go.Vl

namespace Go.Vl
open Go Go.Proofs Go.Proofs.Tryz
theorem u8_wf {x:Int}(h:(Lit.int .u8 x).wf=true):∃m:Nat,x=m/\ m<256:=by
  have hb:=Go.bounds_u8 h;obtain ⟨m,rfl⟩:=Int.eq_ofNat_of_zero_le hb.1;exact ⟨m,rfl,by omega⟩
theorem five_of13 {α:Type}:∀{l:List α},l.length=5->∃a b c d e,l=[a,b,c,d,e]
  |[a,b,c,d,e],_=>⟨a,b,c,d,e,rfl⟩
structure Set13U where
  lg:Int
  n:Int
  fi:Nat
  zs:List Int
  kvs:List Value
  ars:List (Int×List Int)
def PSet13 (A:SP)(cs:List Value)(t:Set13U):Prop:=∃v1 v2,cs=su5 t.lg t.n (t.fi:Nat) v1 v2/\ t.fi<256/\ PInts A [v1] t.zs/\ PArs A [v2] (t.kvs,t.ars)
theorem rdb_set13 (W:World):Rdb Tryz.prog W 25 (PSet13 (old W)):=λ H enc sp hd fu cs d pl h hw=>by
  obtain ⟨hl,hf⟩:=rdb_fields underlying25 h hw;have hc:Tryz.prog.cellsOf 25=5:=(by kernel_rfl);have hci:Tryz.prog.cellsOf 3=1:=(by kernel_rfl);have hcb:Tryz.prog.cellsOf 5=1:=(by kernel_rfl);have hcl:Tryz.prog.cellsOf 22=1:=(by kernel_rfl);have hca:Tryz.prog.cellsOf 23=1:=(by kernel_rfl);rw [hc] at hl
  obtain ⟨lg,e0,w0⟩:=hf 0 _ rfl (rdb_int underlying3);obtain ⟨n,e1,w1⟩:=hf 1 _ rfl (rdb_int underlying3);obtain ⟨fi,e2,w2⟩:=hf 2 _ rfl (rdb_int underlying5);obtain ⟨zs,e3⟩:=hf 3 _ rfl (rdb_ints underlying22 underlying3 kqz kqz);obtain ⟨ka,e4⟩:=hf 4 _ rfl (rdb_ars W);obtain ⟨c0,c1,c2,c3,c4,rfl⟩:=five_of13 hl;obtain ⟨f,rfl,hfi⟩:=u8_wf w2
  simp [hci] at e0 e1
  simp [hci,hcb] at e2
  simp [hci,hcb,hcl] at e3
  simp [hci,hcb,hcl,hca] at e4
  subst e0 e1 e2;exact ⟨⟨lg,n,f,zs,ka.1,ka.2⟩,c3,c4,rfl,hfi,e3,e4⟩
theorem rdb_st13 (W:World):Rdb Tryz.prog W 42 (λ cs (x:St13U)=>cs=x.cells/\ St13W (old W) x):=λ H enc sp hd fu cs d pl h hw=>by
  obtain ⟨hl,hf⟩:=rdb_fields underlying42 h hw;have hc:Tryz.prog.cellsOf 42=5:=(by kernel_rfl);have hci:Tryz.prog.cellsOf 3=1:=(by kernel_rfl);have hcb:Tryz.prog.cellsOf 36=1:=(by kernel_rfl);have hcl:Tryz.prog.cellsOf 22=1:=(by kernel_rfl);rw [hc] at hl
  obtain ⟨k,e0,w0⟩:=hf 0 _ rfl (rdb_int underlying3);obtain ⟨b,e1,w1⟩:=hf 1 _ rfl (rdb_int underlying3);obtain ⟨n,e2,w2⟩:=hf 2 _ rfl (rdb_int underlying3);obtain ⟨v,e3,w3⟩:=hf 3 _ rfl (rdb_int underlying36);obtain ⟨zs,a,c,e4,g1,g2,g3,g4⟩:=hf 4 _ rfl (rdb_ints underlying22 underlying3 kqz kqz);obtain ⟨c0,c1,c2,c3,c4,rfl⟩:=five_of13 hl;obtain ⟨v,rfl,hv⟩:=u64_wf w3
  simp [hci] at e0 e1 e2
  simp [hci,hcb] at e3
  simp [hci,hcb,hcl] at e4
  subst e0 e1 e2 e3 e4;exact ⟨⟨k,b,n,v,a,c,zs⟩,rfl,⟨i64_wf w0,i64_wf w1,i64_wf w2⟩,hv,g3,g2,g1,g4⟩
def PSt13 (A:SP)(cs:List Value)(l:List St13U):Prop:=∃a c,cs=[.slice a l.length c]/\ l.length<=c/\ Rs A a (st13s l)/\∀x∈l,St13W A x
theorem rdb_st13s (W:World):Rdb Tryz.prog W 26 (PSt13 (old W)):=
  (rdb_slice (k:=5) (b:=56) underlying26 kqz kqz (by decide) (rdb_st13 W)).mono λ cs xs ⟨a,cap,Cs,e1,hc,hs,hl,hx,hr⟩=>by
    refine ⟨xs,⟨a,cap,e1,hc, ?_,λ x hx'=> ?_⟩⟩
    . rw [show st13s xs=Cs.flatten from (flatG hl (λ i h h'=>(hx i h h').2.1)).symm];exact hr
    obtain ⟨i,hi,rfl⟩:=List.mem_iff_getElem.1 hx';exact (hx i hi oqz).2.2
theorem two_of13 {α:Type}:∀{l:List α},l.length=2->∃a b,l=[a,b]
  |[a,b],_=>⟨a,b,rfl⟩
structure LossU where
  af:List Int
  kp:List Int
def PLoss (A:SP)(cs:List Value)(t:LossU):Prop:=∃v1 v2,cs=[v1,v2]/\ PInts A [v1] t.af/\ PInts A [v2] t.kp
theorem rdb_loss (W:World):Rdb Tryz.prog W 84 (PLoss (old W)):=λ H enc sp hd fu cs d pl h hw=>by
  obtain ⟨hl,hf⟩:=rdb_fields underlying84 h hw;have hc:Tryz.prog.cellsOf 84=2:=(by kernel_rfl);have hcl:Tryz.prog.cellsOf 22=1:=(by kernel_rfl);rw [hc] at hl
  obtain ⟨af,e0⟩:=hf 0 _ rfl (rdb_ints underlying22 underlying3 kqz kqz);obtain ⟨kp,e1⟩:=hf 1 _ rfl (rdb_ints underlying22 underlying3 kqz kqz);obtain ⟨c0,c1,rfl⟩:=two_of13 hl
  simp [hcl] at e0 e1
  exact ⟨⟨af,kp⟩,c0,c1,rfl,e0,e1⟩
theorem BlocksLost_L (F:SP)(cs:Array Value)(t:Set13U)(h:PSet13 F cs.toList t)(v:Value)(l:List St13U)(h2:PSt13 F [v] l)(ds:Array Value)(q:LossU)(h3:PLoss F ds.toList q):Fn Tryz.prog 5 #[.agg cs,v,.agg ds] F (λ r B=>r= .bool true/\ B=F):=by
  obtain ⟨v1,v2,e,hfi,⟨a1,c1,e1,_,l1,r1,b1⟩,⟨a2,c2,e2,_,l2,r2,b2⟩⟩:=h;obtain ⟨a3,c3,e3,_,r3,w3⟩:=h2;obtain ⟨u1,u2,e9,⟨a4,c4,e4,k4,l4,r4,b4⟩,⟨a5,c5,e5,k5,l5,r5,b5⟩⟩:=h3
  simp only [List.cons.injEq,and_true] at e1 e2 e3 e4 e5
  subst e1 e2 e3 e4 e5;obtain rfl:cs=(su5 t.lg t.n (t.fi:Nat) (.slice a1 t.zs.length c1) (.slice a2 t.ars.length c2)).toArray:=by rw [←e]
  obtain rfl:ds= #[.slice a4 q.af.length c4,.slice a5 q.kp.length c5]:=by
    have:=congrArg List.toArray e9
    simpa using this
  exact lost_f hfi r1 rfl oqz r3 w3 r4 r5 k4 k5 oqz (λ x hx=>(b4 x hx).2) oqz (λ x hx=>(b5 x hx).2)
end Go.Vl

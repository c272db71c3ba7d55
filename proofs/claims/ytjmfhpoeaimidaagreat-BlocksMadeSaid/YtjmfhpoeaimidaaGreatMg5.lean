/- What the row rests on, part 5: a calculus of assertions, walks of functions over it, and plain laws. Conditions: none. -/
import Derived.Deep.QuietTactic
import Derived.BigQuiet
import Derived.WalkKit
import Derived.Test.YtjmfhpoeaimidaaGreatProg
import Derived.OrdersHeld
import Derived.Shelf.SortM.SortNone
import Derived.Shelf.SortM.Plain
import Derived.Ground.SlgmProg
import Derived.Shelf.SlIterI.Nil
import Derived.Ground.GgzProg
import Derived.Maps.RangeRun
import Derived.Laws.BytesArg
import Derived.RangeFuncRecord
import Derived.TacticsIn
import Derived.Deep.Slices
import Derived.OpenShut
import Derived.ChangeArms
import Derived.SizedLaws
import Derived.ChangeSame
import Derived.Test.YtjmfhpoeaimidaaGreatRows
import Derived.Sort.QuietThIn
import Derived.ScopeJumps
import Derived.LaidEqlPtr
import Derived.MapKept
import Derived.Laws.Externs
import Derived.Lib.Builder
import Derived.Lib.UnsafeStr
import Derived.Laws.Strings
import Derived.Test.YtjmfhpoeaimidaaGreatMg4
set_option linter.unusedVariables false
set_option linter.unusedSimpArgs false
set_option maxRecDepth 100000
set_option maxHeartbeats 4000000
namespace Go.Vl
open Go Go.Proofs Go.Proofs.Tryz
variable {nl at_ sz:Nat}
def comK (nl at_ sz:Nat)(f:TF)(I:List Nat):ComK:=⟨nl,at_,sz,runsF (nl*64) true f,runsF (nl*64) false f,I⟩
theorem inX_runs {f:TF}{k:Bool}(hout:∀a,(nl*64)<=a->f a=none){i:Nat}:InX (runsF (nl*64) k f) i↔kdO f i=some k:=by
  have hQ:=runQ_F (nl*64) k f
  constructor
  . rintro ⟨r,hr,h1,h2⟩;obtain ⟨g,_⟩:=hQ.kind r hr (i-r.1) oqz;rw [show r.1+(i-r.1)=i by omega] at g
    exact isK_iff.1 g
  intro h
  have hi:i<(nl*64):=by
    rcases Nat.lt_or_ge i (nl*64) with h9|h9
    . exact h9
    rw [kdO_none.1 (hout i h9)] at h;cases h
  obtain ⟨r,hr,h1,h2⟩:=hQ.cov i (adr_mem.2 ⟨hi,isK_iff.2 h⟩);exact ⟨r,hr,h1,h2⟩
theorem rnOk_runs (hlw:LogW (nl*64) at_ sz){f:TF}{k:Bool}(hout:∀a,(nl*64)<=a->f a=none)(hby:∀a c,f a=some c->c.1<256)(hin:∀a,f a≠none->(64<=a/\ a<at_)∨((at_+sz)<=a/\ a<(nl*64))):RnOk nl at_ sz (runsF (nl*64) k f):=by
  have ⟨w1,w2,w3,w4,w5⟩:=hlw;have hQ:=runQ_F (nl*64) k f;have hP:=runP_Fb (n:=(nl*64)) (k:=k) hby;refine ⟨hQ.gap,λ r hr=> ?_⟩;obtain ⟨p1,p2,p3⟩:=hP.ok r hr;refine ⟨p1,p3, ?_⟩
  have hne:∀j,j<r.2.length->(64<=r.1+j/\ r.1+j<at_)∨((at_+sz)<=r.1+j/\ r.1+j<(nl*64)):=λ j hj=>by
    refine hin _ λ h9=> ?_
    have:=(isK_iff.1 (hQ.kind r hr j hj).1);rw [kdO_none.1 h9] at this;cases this
  have h0:=hne 0 oqz;have h1:=hne (r.2.length-1) oqz
  by_cases hc:r.1<at_/\ at_<=r.1+r.2.length-1
  . have:=hne (at_-r.1) oqz;omega
  omega
attribute [local irreducible] runsF adrF runsL sumL
theorem comK_ok (hlw:LogW (nl*64) at_ sz)(htop:nl*64<=4194304){f:TF}{I:List Nat}(hout:∀a,nl*64<=a->f a=none)(hby:∀a c,f a=some c->c.1<256)(hin:∀a,f a≠none->(64<=a/\ a<at_)∨(at_+sz<=a/\ a<nl*64))(hneed:needN (extX (runsF (nl*64) false f))<=sz-64)(hI:ByM nl I)(hh:(I.drop at_).take 8=List.replicate 8 0):ComOk (comK nl at_ sz f I):=
  ⟨hlw,htop,rnOk_runs hlw hout hby hin,rnOk_runs hlw hout hby hin,hI,(λ a h1 h2=>by
    have g1:=(inX_runs (k:=true) hout).1 h1;have g2:=(inX_runs (k:=false) hout).1 h2
    rw [g1] at g2;cases g2),hneed,hh⟩
theorem com_sum {f:TF}{I:List Nat}(htop:nl*64<=4194304)(hby:∀a c,f a=some c->c.1<256):sumL (comK nl at_ sz f I).F<=4194304/\ sumL (comK nl at_ sz f I).L<=4194304:=by
  have h1:=(runP_Fb (n:=(nl*64)) (k:=true) hby).sum;have h2:=(runP_Fb (n:=(nl*64)) (k:=false) hby).sum;have h3:=adr_len (nl*64) true f;have h4:=adr_len (nl*64) false f
  show sumL (runsF (nl*64) true f)<=_/\ sumL (runsF (nl*64) false f)<=_
  omega
theorem comK_J {f:TF}{I:List Nat}:(comK nl at_ sz f I).J=wrI at_ (comK nl at_ sz f I).M (extX (comK nl at_ sz f I).L):=rfl
theorem comK_E {f:TF}{I:List Nat}:(comK nl at_ sz f I).E=if (comK nl at_ sz f I).L=[] then (comK nl at_ sz f I).M else spl (comK nl at_ sz f I).K at_ (le 8 0):=rfl
theorem fin_law {f:TF}{I:List Nat}{s:DevS}(hc:ComOk (comK nl at_ sz f I))(hout:∀a,(nl*64)<=a->f a=none)(hin:∀a,f a≠none->(64<=a/\ a<at_)∨((at_+sz)<=a/\ a<(nl*64)))(hs:Set9 (comK nl at_ sz f I) s):
    ∃nw:Bool,(New0 (comK nl at_ sz f I) s->nw=true)/\∀i,i<(nl*64)→
      (kdO f i=none->(i<at_∨(at_+sz)<=i)->(imgS s)[i]? =I[i]?)/\ (kdO f i=some false->(imgS s)[i]? =if nw=true then some (byF f i) else I[i]?)/\ (nw=true->kdO f i≠none->(imgS s)[i]? =some (byF f i)):=by
  have hw9:LogW (nl*64) at_ sz:=hc.w;have ⟨w1,w2,w3,w4,w5⟩:=hw9;have hIl:I.length=nl*64:=hc.i.len;have hMl:(comK nl at_ sz f I).M.length=nl*64:=hc.mlen
  have hU:∀i,kdO f i≠none->(i<at_∨(at_+sz)<=i):=λ i h=>by
    have:=hin i λ h9=>h (kdO_none.1 h9)
    omega
  have hMo:∀i,kdO f i≠some true->(comK nl at_ sz f I).M[i]? =I[i]? :=λ i h=>stoI_out hIl hc.f.top λ h9=>h ((inX_runs hout).1 h9)
  have hMi:∀i,kdO f i=some true->(comK nl at_ sz f I).M[i]? =some (byF f i):=λ i h=>stoI_in hIl (λ r hr=>⟨hc.f.top r hr,λ j hj=>((runQ_F (nl*64) true f).kind r hr j hj).2⟩) ((inX_runs hout).2 h)
  by_cases hN:New0 (comK nl at_ sz f I) s
  . refine ⟨true,λ _=>rfl,λ i hi=> ?_⟩;obtain ⟨y1,y2,y3,y4⟩:=id hN
    have hE:(i<at_∨(at_+sz)<=i)->(imgS s)[i]? =if kdO f i=some false then some (byF f i) else (comK nl at_ sz f I).M[i]? :=λ hlog=>by
      rw [y4]
      rw [comK_E]
      split
      . rename_i hl0
        rw [if_neg λ h=>by
          have h9:=(inX_runs (k:=false) hout).2 h;have e:runsF (nl*64) false f=[]:=hl0;rw [e] at h9
          obtain ⟨x,hx,_⟩:=h9;cases hx]
      have hrl:=recsB_len hMl hc.l.may;have hnd:needN (extX (comK nl at_ sz f I).L)<=sz-64:=hc.need
      have hJl:(comK nl at_ sz f I).J.length=(nl*64):=by
        rw [comK_J];unfold wrI wrI1
        have h1:(spl (comK nl at_ sz f I).M (at_+64) (recsB (comK nl at_ sz f I).M (extX (comK nl at_ sz f I).L))).length=(nl*64):=(by rw [spl_length oqz,hMl]);rw [spl_length (by rw [le_length];omega),h1]
      have hKl:(comK nl at_ sz f I).K.length=(nl*64):=stoI_len hJl hc.l.top;rw [spl_at (by rw [le_length];omega),le_length,if_neg oqz]
      split
      . rename_i h
        exact stoI_in hJl (λ r hr=>⟨hc.l.top r hr,λ j hj=>((runQ_F (nl*64) false f).kind r hr j hj).2⟩) ((inX_runs hout).2 h)
      rename_i h
      rw [show (comK nl at_ sz f I).K=stoI (comK nl at_ sz f I).L (comK nl at_ sz f I).J from rfl,stoI_out hJl hc.l.top λ h9=>h ((inX_runs hout).1 h9)]
      rw [comK_J];unfold wrI wrI1
      have h1:(spl (comK nl at_ sz f I).M (at_+64) (recsB (comK nl at_ sz f I).M (extX (comK nl at_ sz f I).L))).length=(nl*64):=(by rw [spl_length oqz,hMl]);rw [spl_at (by rw [le_length];omega),le_length,if_neg oqz,spl_at oqz,if_neg oqz]
    refine ⟨λ h hlog=> ?_,λ h=> ?_,λ _ h=> ?_⟩
    . rw [hE hlog,if_neg (by rw [h];simp),hMo i (by rw [h];simp)]
    . rw [hE (hU i (by rw [h];simp)),if_pos h,if_pos rfl]
    rw [hE (hU i h)]
    split
    . rfl
    rename_i h9
    refine hMi i ?_
    cases hk:kdO f i with
    |none=>exact absurd hk h
    |some b=>cases b with
      |true=>rfl
      |false=>exact absurd hk h9
  refine ⟨false,λ h=>absurd h hN,λ i hi=> ?_⟩
  have hold:(i<at_∨(at_+sz)<=i)->kdO f i≠some true->(imgS s)[i]? =I[i]? :=λ hlog hk=>by
    rcases hs with ⟨h1,h2⟩|h|⟨h1,h2,h3,h4,h5,h6⟩
    . exact h1.img λ h9=>by
        rcases (inX_body (at_:=at_) (sz:=sz) oqz).1 h9 with h9|h9
        . exact hk ((inX_runs hout).1 h9)
        omega
    . exact absurd h hN
    have hJ:LogM nl at_ (comK nl at_ sz f I).M sz (extX (comK nl at_ sz f I).L) (comK nl at_ sz f I).J:=hc.jlen h2;have h7:imgS s=spl (comK nl at_ sz f I).J at_ (le 8 0):=h6;rw [h7,spl_at (by rw [le_length];have:=hJ.2.2.1;omega),le_length,if_neg oqz,hJ.2.2.2 i oqz,hMo i hk]
  refine ⟨λ h hlog=>hold hlog (by rw [h];simp),λ h=> ?_,λ h=>by cases h⟩;rw [if_neg (by decide)]
  exact hold (hU i (by rw [h];simp)) (by rw [h];simp)
theorem stoL_phi:∀ (l:List (Nat×List Nat)) (s:DevS),phi (stoL l s).2<=phi s
  |[],s=>Nat.le_refl _
  |r::l,s=>by
    have h1:=sto_phi (r.1:Nat) r.2 s
    unfold stoL
    split
    . exact h1
    exact Nat.le_trans (stoL_phi l _) h1
theorem flLs_phi:∀ (l:List Nat) (s:DevS),phi (flLs l s).2<=phi s
  |[],s=>Nat.le_refl _
  |q::l,s=>by
    have h1:=fl1_phi ((q*64:Nat):Int) s
    unfold flLs
    split
    . exact h1
    exact Nat.le_trans (flLs_phi l _) h1
theorem writeT_phi (l:List (Nat×List Nat))(s:DevS):phi (writeT l s).2<=phi s:=by
  unfold writeT
  split
  . exact stoL_phi l s
  exact Nat.le_trans (flLs_phi _ _) (stoL_phi l s)
theorem clear_phi (at_:Nat)(s:DevS):phi (clearS at_ s).2<=phi s:=by
  unfold clearS
  split
  . exact Nat.le_refl _
  exact pubP_phi _ _ _
theorem com_phi {at_ sz n:Nat}{f:TF}{s:DevS}:phi (comS at_ sz n f s).2<=phi s:=by
  have h1:=writeT_phi (runsF n true f) s;have h2:=writeS_phi at_ sz (extX (runsF n false f)) (writeT (runsF n true f) s).2;have h3:=writeT_phi (runsF n false f) (writeS at_ sz (extX (runsF n false f)) (writeT (runsF n true f) s).2).2;have h4:=fe_phi (writeT (runsF n false f) (writeS at_ sz (extX (runsF n false f)) (writeT (runsF n true f) s).2).2).2;have h5:=clear_phi at_ (fe (writeT (runsF n false f) (writeS at_ sz (extX (runsF n false f)) (writeT (runsF n true f) s).2).2).2).2;have h6:=fe_phi (writeT (runsF n true f) s).2
  unfold comS
  repeat' split
  all_goals (dsimp only;omega)
theorem whole_com (htop:nl*64<=4194304)(hsz:sz<=4194304){f:TF}{I:List Nat}{s:DevS}{k:Nat}(hc:ComOk (comK nl at_ sz f I))(hby:∀a c,f a=some c->c.1<256)(hw:WfD s)(hO:s.off=false)(hcl:Cln s)(hlen:s.ls.length=nl)(hi:imgS s=I)(ha:s.arms.length<=1)(hk:k<=1099511627776):
    ∃e s2,comS at_ sz (nl*64) f s=((e,true),s2)/\ s2.arms.length<=1/\ Gd nl k s2/\ ((e=0/\ s2.off=false/\ New0 (comK nl at_ sz f I) s2)∨(e=5/\ s2.off=true/\ s.arms≠[]/\ Rec9 (comK nl at_ sz f I) s2)):=by
  obtain ⟨h1,h2⟩:=com_sum (nl:=nl) (at_:=at_) (sz:=sz) (I:=I) htop hby;have e1:runsF (nl*64) true f=(comK nl at_ sz f I).F:=rfl;have e2:runsF (nl*64) false f=(comK nl at_ sz f I).L:=rfl;obtain ⟨e,s2,g1,g2⟩:=com_law hc (f:=f) e1 e2 hw hO hcl hlen hi h1 h2;have g1:comS at_ sz (nl*64) f s=((e,true),s2):=g1;have hn:s.ls.length*64=nl*64:=(by rw [hlen]);have hph:=com_phi (at_:=at_) (sz:=sz) (n:=nl*64) (f:=f) (s:=s);rw [g1] at hph
  have hp0:phi s=s.arms.length:=(by unfold phi;rw [hO];simp)
  have hgd:Gd nl k s2:=by
    have h0:Gd s.ls.length (2*(s.ls.length*64)+sz+8+k) s:=⟨rfl,room_cln hcl oqz,hw⟩;have:=com_gd h0 hby oqz (la:=at_) (lz:=sz) (e:=e) (b:=true) (s2:=s2) (by rw [hn];exact g1);rw [hlen] at this;exact this
  refine ⟨e,s2,g1, ?_,hgd, ?_⟩
  . have:s2.arms.length<=phi s2:=phi_arms s2;have h9:phi s2<=phi s:=hph
    omega
  rcases g2 with ⟨rfl,a2,a3⟩|⟨rfl,a2,a3⟩
  . exact .inl ⟨rfl,a2,a3⟩
  refine .inr ⟨rfl,a2,λ e9=> ?_, ?_⟩
  . have h9:phi s2<=phi s:=hph;rw [hp0,e9] at h9
    have:phi s2=1+s2.arms.length:=(by unfold phi;rw [a2];simp;omega)
    simp at h9;omega
  rcases a3 with a3|a3|a3
  . exact .inr (.inl a3)
  . exact .inl a3
  exact .inr (.inr (.inl a3))
theorem fin_at {f:TF}{I:List Nat}{s:DevS}(hc:ComOk (comK nl at_ sz f I))(hout:∀a,nl*64<=a->f a=none)(hin:∀a,f a≠none->(64<=a/\ a<at_)∨(at_+sz<=a/\ a<nl*64))(hs:Set9 (comK nl at_ sz f I) s)(hI:(imgS s).length=nl*64):
    ∃nw:Bool,(New0 (comK nl at_ sz f I) s->nw=true)/\∀i,i<nl*64->∃v u,(imgS s)[i]? =some v/\ I[i]? =some u/\ (kdF f i=0->(i<at_∨at_+sz<=i)->v=u)/\ (kdF f i=1->v=if nw=true then byF f i else u)/\ (nw=true->0<kdF f i->v=byF f i):=by
  obtain ⟨nw,h1,h2⟩:=fin_law hc hout hin hs;refine ⟨nw,h1,λ i hi=> ?_⟩;have hIl:=hc.i.len;obtain ⟨v,hv⟩:∃v,(imgS s)[i]? =some v:=⟨_,List.getElem?_eq_getElem oqz⟩;obtain ⟨u,hu⟩:∃u,I[i]? =some u:=⟨_,List.getElem?_eq_getElem (show i<I.length from hIl▸hi)⟩;obtain ⟨g1,g2,g3⟩:=h2 i hi;rw [hv,hu] at g1 g2
  rw [hv] at g3
  refine ⟨v,u,hv,hu,λ hk hl=> ?_,λ hk=> ?_,λ hn hk=> ?_⟩
  . exact Option.some.inj (g1 (kdO_none.1 (kd_zero.1 hk)) hl)
  . have:=g2 (isK_iff.1 (kd_one.1 hk))
    split at this
    . rw [if_pos (by assumption)];exact Option.some.inj this
    rw [if_neg (by assumption)];exact Option.some.inj this
  refine Option.some.inj (g3 hn λ h9=> ?_);have:=kd_zero.2 (kdO_none.2 h9)
  omega
end Go.Vl

namespace Go.Vl
open Go Go.Proofs Go.Proofs.Tryz
structure Calm (nl at_ sz:Nat) (s:DevS):Prop where
  w:LogW (nl*64) at_ sz
  wf:WfD s
  on:s.off=false
  arms:s.arms=[]
  cln:Cln s
  len:s.ls.length=nl
  top:nl*64<=4194304
  hd:((imgS s).drop at_).take 8=List.replicate 8 0
theorem Calm.lw {nl at_ sz:Nat}{s:DevS}(h:Calm nl at_ sz s):LogW (s.ls.length*64) at_ sz:=by rw [h.len];exact h.w
theorem Calm.il {nl at_ sz:Nat}{s:DevS}(h:Calm nl at_ sz s):(imgS s).length=nl*64:=by rw [imgS_len h.wf,h.len]
theorem Calm.stp {nl at_ sz:Nat}{s:DevS}(h:Calm nl at_ sz s):stpS at_ sz s=0:=by
  unfold stpS
  rw [records_none h.on h.lw (by rw [h.hd];decide)];rfl
theorem Calm.szl {nl at_ sz:Nat}{s:DevS}(h:Calm nl at_ sz s):sz<=4194304:=by have:=h.w.top;have:=h.top;omega
theorem Calm.room {nl at_ sz k:Nat}{s:DevS}(h:Calm nl at_ sz s)(hk:k<=2199023255551):Room k s:=room_cln h.cln hk
theorem nm_zero:∀{l:List Nat},nm l=0->l=List.replicate l.length 0
  |[],_=>rfl
  |x::l,h=>by
    have h1:x+256*nm l=0:=h;have h2:nm l=0:=(by omega);rw [List.length_cons,List.replicate_succ,←nm_zero h2,show x=0 by omega]
theorem calm_com {nl at_ sz:Nat}{f:TF}{s:DevS}(h:Calm nl at_ sz s)(hout:∀a,nl*64<=a->f a=none)(hby:∀a c,f a=some c->c.1<256)(hin:∀a,f a≠none->(64<=a/\ a<at_)∨(at_+sz<=a/\ a<nl*64))(hneed:needN (extX (runsF (nl*64) false f))<=sz-64):
    ∃s2,comS at_ sz (nl*64) f s=((0,true),s2)/\ Calm nl at_ sz s2/\∀i,i<nl*64->(i<at_∨at_+sz<=i)->(imgS s2)[i]? =if kdF f i=0 then (imgS s)[i]? else some (byF f i):=by
  have hI:ByM nl (imgS s):=img_byM h.wf h.len;have hc:=comK_ok h.w h.top hout hby hin hneed hI h.hd;obtain ⟨e,s2,g1,g2,g3,g4⟩:=whole_com (k:=0) h.top h.szl hc hby h.wf h.on h.cln h.len rfl (by rw [h.arms];exact Nat.zero_le 1) (by decide);have hph:=com_phi (at_:=at_) (sz:=sz) (n:=nl*64) (f:=f) (s:=s);rw [g1] at hph
  have hp0:phi s=0:=(by unfold phi;rw [h.on,h.arms];rfl)
  rcases g4 with ⟨rfl,a2,a3⟩|⟨_,_,a3,_⟩
  . have hset:Set9 (comK nl at_ sz f (imgS s)) s2:= .inr (.inl a3);have hl2:(imgS s2).length=nl*64:=(by rw [imgS_len g3.wf,g3.len]);obtain ⟨nw,q1,q2⟩:=fin_at hc hout hin hset hl2;have hnw:=q1 a3;refine ⟨s2,g1,⟨h.w,g3.wf,a2, ?_,a3.2.1,g3.len,h.top, ?_⟩,λ i hi hl=> ?_⟩
    . have h9:phi s2<=phi s:=hph;have h8:=phi_arms s2;exact List.eq_nil_of_length_eq_zero oqz
    . have h9:nm (((imgS s2).drop at_).take 8)=0:=new_hd hc a3;have h8:=nm_zero h9;have hw:=h.w;rw [h8]
      congr 1
      show (((imgS s2).drop at_).take 8).length=8
      rw [List.length_take,List.length_drop,hl2]
      have:=hw.s;have:=hw.top;omega
    obtain ⟨v,u,k1,k2,k3,k4,k5⟩:=q2 i hi;rw [k1,k2]
    have hkn:=kd_nn f i
    by_cases h0:kdF f i=0
    . rw [if_pos h0,k3 h0 hl]
    rw [if_neg h0,k5 hnw oqz]
  exact absurd h.arms a3
theorem calm_sub {nl at_ sz p m:Nat}{f:TF}{s s2:DevS}(h:Calm nl at_ sz s)(h2:Calm nl at_ sz s2)(hi:∀i,i<nl*64->(i<at_∨at_+sz<=i)->(imgS s2)[i]? =if kdF f i=0 then (imgS s)[i]? else some (byF f i))(hp:p+m<=at_∨at_+sz<=p)(hm:p+m<=nl*64):((imgS s2).drop p).take m=ovF f p (((imgS s).drop p).take m):=by
  apply List.ext_getElem?
  intro j;rw [ovF_get,List.getElem?_take,List.getElem?_take]
  by_cases hj:j<m
  . rw [if_pos hj,if_pos hj,List.getElem?_drop,List.getElem?_drop,hi (p+j) oqz oqz]
    obtain ⟨u,hu⟩:∃u,(imgS s)[p+j]? =some u:=⟨_,List.getElem?_eq_getElem (by rw [h.il];omega)⟩;rw [hu]
    unfold kdF byF
    cases f (p+j) with
    |none=>rfl
    |some c=>obtain ⟨x,b⟩:=c;cases b<;>rfl
  rw [if_neg hj,if_neg hj];rfl
attribute [local irreducible] crk crL crc Sl pt ro Dev imgS recS readS recsF rdW rdO rkT Parts rvl recordsS runsL adrF kcl xcl kys runA runsF layF linR flLs stoL writeT writeS comS clearS extX
theorem Recover12_ok {A R:SP}{C:SP->SP}{d:Nat}{s:DevS}(hc:Ct A (Dev d s) R C:=by exact cbqz){p lg:Nat}(hp:Has A p (cl (pocs lg d none) 78):=by exact hbqz){at_ sz:Nat}(hl:Has R lg (cl (lcs11 d at_ sz) 183):=by exact hbqz)(hlw:LogW (s.ls.length*64) at_ sz:=by assumption)(ho:s.off=false:=by assumption)(hroom:Room (sz+1) s:=by assumption):
    Fn Tryz.prog 81 #[pz p] A (λ r B=>∃e k s2,rollS at_ sz s=((k,e),s2)/\ r= .tuple #[.int .i64 k,.int .i64 e]/\ B=C (Dev d s2)):=by
  refine fn_enterW func81 rfl ntmps81 (by simp) ?_;have hi0:idlS s none=0:=(by unfold idlS;rw [ho];rfl);refine Zdn ?_;refine tl_c rfl (o_call bd112 rfl (idle12_c (hc:=hc) (ov:=none) (hp:=hp))) ?_;refine Zfr ?_;refine tc_cond rfl (λ h=> ?_) (sbq ?_)
  . exfalso;rw [hi0] at h;simp at h
  intro h;refine Zd4 ?_;refine tv (o_fieldAddr (o:=1) underlying78 rfl rfl sz75 rfl) ?_;refine tv (o_load p75 rfl hp rfl) ?_;refine tl_c rfl (o_call bd139 rfl (Rg.Rollback_c (hc:=hc) (hl:=hl) (hroom:=hroom) (hlw:=by assumption))) ?_;rintro _ _ ⟨e14,k14,s14,hs14,rfl,rfl⟩;refine Zi ?_;refine Zdd ?_;exact ⟨.tuple #[.int .i64 k14,.int .i64 e14],_,res2 rfl rfl rfl,Dr.sat drqz,e14,k14,s14,hs14,rfl,rfl⟩
end Go.Vl

namespace Go.Vl
open Go Go.Proofs Go.Proofs.Tryz
def nl13 (lg n:Nat):Nat:=2+lg/64+4*n
def s13 (lg n fi:Nat):DevS:=fromS (nl13 lg n) (im13 (128+lg) n fi)
theorem nl13_64 {lg n:Nat}(h:lg%64=0):nl13 lg n*64=128+lg+256*n:=by unfold nl13;omega
theorem im13_len (lg n fi:Nat):(im13 (128+lg) n fi).length=128+lg+256*n:=imZ_len _ _ _ _
theorem im13_lt (lg n fi:Nat):∀x∈im13 (128+lg) n fi,x<256:=imZ_lt _ _ _ _
theorem s13_img {lg n fi:Nat}(h:lg%64=0):imgS (s13 lg n fi)=im13 (128+lg) n fi:=img_from (im13_lt _ _ _) (by rw [im13_len,nl13_64 h])
theorem s13_len {lg n fi:Nat}:(s13 lg n fi).ls.length=nl13 lg n:=by simp [s13,fromS,newS]
theorem s13_calm {lg n fi:Nat}(h1:128<=lg)(h2:lg<=32768)(h3:lg%64=0)(h4:n<=64):Calm (nl13 lg n) 128 lg (s13 lg n fi):=by
  have h64:=nl13_64 (n:=n) h3;refine ⟨⟨by decide,by decide,h1,h3,by rw [h64];omega⟩,fromS_wf (by unfold nl13;omega) (by unfold nl13;omega) (im13_lt _ _ _),rfl,rfl,cln_from _ _,s13_len,by rw [h64];omega, ?_⟩;rw [s13_img h3];exact im13_hd oqz
theorem Calm.roll {nl at_ sz:Nat}{s:DevS}(h:Calm nl at_ sz s):rollS at_ sz s=((0,0),s):=roll_no (records_none h.on h.lw (by rw [h.hd];decide)) (.inr rfl)
attribute [local irreducible] crk crL crc Sl pt ro Dev imgS recS readS recsF rdW rdO rkT Parts rvl recordsS runsL adrF kcl xcl kys runA runsF layF ovF TxA adZ WkA comS rollS fromS im13
theorem brought13_c {A R:SP}{d lg n:Nat}{fi:Int}{lv ar:Value}{s:DevS}(hA:A=R*Dev d s)(hc:Calm (nl13 lg n) 128 lg s)(h2:lg<=32768)(h3:lg%64=0)(h4:n<=64):
    Fn Tryz.prog 37 #[pz d,.agg (su5 (lg:Nat) (n:Nat) fi lv ar).toArray] A (λ r B=>∃h p l lvb,r= .tuple #[pz h,.int .i64 0]/\ B=R*RsA h p l d 128 lg (128+lg) n lvb ⟨[],0⟩ s):=by
  refine fn_enterW func37 rfl ntmps37 (by simp) ?_;subst hA;have h64:=nl13_64 (n:=n) h3;have hlen:=hc.len;have htp:=hc.top;have hlg:=hc.w.s;have hlw:=hc.lw;refine Zcf ?_;rintro _ _ ⟨b3,rfl,rfl⟩;refine tla ?_;refine Z4 ?_;refine Zct ?_;refine tl_c rfl (o_call bd79 rfl (Open_ok (s:=s) (p:=128) (q:=((lg:Nat):Int)) (hok:=by rw [hlen];omega))) ?_;rintro _ _ ⟨b13,rfl,rfl⟩;refine Zd3 ?_;refine Zbn ?_;intro h;refine Zgk ?_;refine tl_c rfl (o_call bd80 rfl (New12_c (s:=s) (at_:=128) (sz:=lg) (hlw:=hlw) (hl:=by first|exact has_here|exact has_left has_here))) ?_;rintro _ _ ⟨p22,rfl,rfl⟩;refine Zd3 ?_;refine Zbn ?_;intro h;refine Zb8 ?_;refine tl_c rfl (o_call bd81 rfl (Recover12_ok (s:=s) (at_:=128) (sz:=lg) (hlw:=hlw) (hl:=by first|exact has_here|exact has_left has_here) (ho:=hc.on) (hroom:=hc.room oqz))) ?_;rintro _ _ ⟨e30,k30,s30,hs30,rfl,rfl⟩;obtain ⟨hq9,rfl⟩:=pair_eq hc.roll hs30
  simp only [Prod.mk.injEq] at hq9
  obtain ⟨rfl,rfl⟩:=hq9;refine Zbk ?_;refine Zt ?_;refine Zbn ?_;intro h;refine Zdc ?_;refine tc_regh mo dr_refl ?_
  show TH _ _ _ _ _ 10 (Array.replicate 10 false) _ _
  refine tm 0 rfl kqz rfl (o_move wqz) ?_;refine tm 1 rfl kqz rfl (o_loadN (vs:=(su5 (lg:Nat) (n:Nat) fi lv ar)) a25 sz25 rfl hsqz (by exact Nat.le_refl 5) rfl) ?_;refine tm 3 rfl kqz rfl (o_fieldAddr (o:=1) underlying25 rfl rfl sz3 rfl) ?_;refine tm 4 rfl kqz rfl (o_load p3 rfl hsqz rfl) ?_;refine th_one (i:=2) kqz ?_;refine oh_c rfl rfl rfl (o_call bd11 rfl (heap13_c (lg:=lg))) ?_;refine Zd ?_;refine th_one (i:=5) kqz ?_;refine oh_c rfl rfl rfl (o_call bd28 rfl (NewH_c (s:=s) (ba:=128+lg) (n:=n) (h64:=by omega) (h1:=by omega) (h2:=by rw [hlen,h64];omega) (htop:=by rw [hlen];exact htp) (hpos:=by rw [hlen];unfold nl13;omega))) ?_;rintro _ _ ⟨lv41,h41,rfl,rfl⟩;refine ⟨by repeat (first|with_reducible exact dr_refl|apply dr_keep|apply dr_drop), ?_⟩;refine tm 6 rfl kqz rfl (o_extract rfl rfl) ?_;refine tm 7 rfl kqz rfl (o_extract rfl rfl) ?_;refine tm 8 rfl kqz rfl (o_assign wqz) ?_;refine tm 9 rfl kqz rfl (o_assign wqz) ?_;refine Zg6 ?_;exact ⟨_,R*RsA h41 p22 b13 d 128 lg (128+lg) n lv41 ⟨[],0⟩ s,res2 rfl rfl rfl,(λ g w h=>(Dr.sat (A':=R*Dev d s*pt b13 (cl (lcs11 d 128 lg) 183)*pt p22 (cl (pocs b13 d none) 78)*pt lv41 (mpo .i64 ⟨[],0⟩)*pt h41 (cl (hcs p22 (128+lg) n lv41 none) 99)) drqz g w h).perm (by unfold RsA;ac_rfl)),h41,p22,b13,lv41,rfl,rfl⟩
theorem plain13_c {A:SP}{lg n fi m c:Nat}{la:Option Addr}{ar:Value}{zs:List Nat}(h1:128<=lg)(h2:lg<=32768)(h3:lg%64=0)(h4:n<=64)(hfi:fi<256)(hr:Rs A la (ints (natI zs)))(hm:zs.length=m)(hnd:zs.Nodup)(hz:∀x∈zs,x<n):
    Fn Tryz.prog 9 #[.agg (su5 (lg:Nat) (n:Nat) (fi:Nat) (.slice la m c) ar).toArray] A (λ r B=>∃d h p l lvb M,r= .tuple #[pz d,pz h]/\ SF M n (onL zs)/\ B=A*RsA h p l d 128 lg (128+lg) n lvb M (s13 lg n fi)):=by
  refine fn_enterW func9 rfl ntmps9 (by simp) ?_;have h64:=nl13_64 (n:=n) h3;have hcal:=s13_calm (fi:=fi) h1 h2 h3 h4;have hll:zs.length<=n:=nodup_le hnd hz;refine Zcf ?_;rintro _ _ ⟨b1,rfl,rfl⟩;refine tla ?_;refine Zfe ?_;refine tv (o_loadN (vs:=su5 (lg:Nat) (n:Nat) (fi:Nat) (.slice la m c) ar) a25 sz25 rfl hsqz (by exact Nat.le_refl 5) rfl) ?_;refine tl_c rfl (o_call bd10 rfl (image13_c (lg:=lg) (n:=n) (fi:=fi))) ?_;rintro _ _ ⟨a9,c9,rfl,hc9,rfl⟩;refine tl_c rfl (o_call bd45 rfl (From_c (n:=nl13 lg n) (xs:=im13 (128+lg) n fi) (hr:=rs_sl) (hx:=by first|exact im13_len _ _ _|rw [im13_len,h64]) (hb:=im13_lt _ _ _))) ?_;rintro _ _ ⟨d10,rfl,rfl⟩;rw [show fromS (nl13 lg n) (im13 (128+lg) n fi)=s13 lg n fi from rfl]
  refine Zd3 ?_;refine Zbn ?_;intro h;refine Zb8 ?_;refine tv (o_loadN (vs:=su5 (lg:Nat) (n:Nat) (fi:Nat) (.slice la m c) ar) a25 sz25 rfl hsqz (by exact Nat.le_refl 5) rfl) ?_;refine tl_c rfl (o_call bd37 rfl (brought13_c (R:=A*pt b1 (cl (su5 (lg:Nat) (n:Nat) (fi:Nat) (.slice la m c) ar) 25)*Sl 1 (.slice a9 (128+lg+256*n) c9) (128+lg+256*n) (bys (im13 (128+lg) n fi))) (d:=d10) (lg:=lg) (n:=n) (s:=s13 lg n fi) (hA:=rfl) (hc:=hcal) (h2:=h2) (h3:=h3) (h4:=h4))) ?_;rintro _ _ ⟨h18,p18,l18,lv18,rfl,rfl⟩;refine Zd3 ?_;refine Zdf ?_;refine tl_bool (d:=23) rfl dbq (sbq ?_);intro h;refine tlm ?_;refine tv (o_fieldAddr (o:=3) underlying25 rfl rfl sz22 rfl) ?_;refine tv (o_load p22 rfl hsqz rfl) ?_;refine tl_c rfl (o_call bd46 rfl (LoadH_c (R:=A*pt b1 (cl (su5 (lg:Nat) (n:Nat) (fi:Nat) (.slice la m c) ar) 25)*Sl 1 (.slice a9 (128+lg+256*n) c9) (128+lg+256*n) (bys (im13 (128+lg) n fi))*pt lv18 (mpo .i64 ⟨[],0⟩)*pt p18 (cl (pocs l18 d10 none) 78)*pt l18 (cl (lcs11 d10 128 lg) 183)*Dev d10 (s13 lg n fi)) (hd:=h18) (p:=p18) (ba:=128+lg) (n:=n) (lv:=lv18) (zs:=zs) (hA:=by unfold RsA;ac_rfl) (hr:=by repeat (first|exact hr|apply Rs.left)) (hm:=hm) (hnd:=hnd) (hz:=hz) (hn:=by omega) (hml:=by omega))) ?_;rintro _ _ ⟨l27,M27,rfl,hM27,rfl⟩;refine tv (o_nei rfl rfl) ?_;refine Zc8 ?_;intro h;refine Zgk ?_;refine Zdd ?_;exact ⟨_,A*RsA h18 p18 l18 d10 128 lg (128+lg) n l27 M27 (s13 lg n fi),res2 rfl rfl rfl,(λ g w h=>(Dr.sat (A':=A*pt p18 (cl (pocs l18 d10 none) 78)*pt l18 (cl (lcs11 d10 128 lg) 183)*Dev d10 (s13 lg n fi)*pt h18 (cl (hcs p18 (128+lg) n l27 none) 99)*pt l27 (mpo .i64 M27)) drqz g w h).perm (by unfold RsA;ac_rfl)),d10,h18,p18,l18,l27,M27,rfl,hM27,rfl⟩
end Go.Vl

namespace Go.Vl
open Go Go.Proofs Go.Proofs.Tryz
theorem Begin13_rest {A R:SP}{h p lg d at_ sz ba n lv nl:Nat}{M:MS}{s:DevS}(hA:A=R*RsA h p lg d at_ sz ba n lv M s)(hc:Calm nl at_ sz s):
    Fn Tryz.prog 12 #[pz h] A (λ v B=>∃w t mb tk gv,v= .tuple #[pz w,.int .i64 0]/\ B=R*WkA ⟨h,w,t,p,lg,d,mb,lv,tk,gv,at_,sz,ba,n⟩ ⟨M,⟨[],0⟩,⟨[],0⟩,⟨[],0⟩,0⟩ s):=by
  refine Fn.weak (BeginH_c (R:=R*pt lv (mpo .i64 M)) (hd:=h) (p:=p) (ba:=ba) (n:=n) (lv:=lv) (lg:=lg) (d:=d) (at_:=at_) (sz:=sz) (s:=s) (by rw [hA];unfold RsA;ac_rfl) hc.lw hc.on hc.stp) ?_;rintro v B ⟨w,t,mb,tk,gv,rfl,rfl⟩;exact ⟨_,λ g w' hs=>hs.perm (show _=R*WkA ⟨h,w,t,p,lg,d,mb,lv,tk,gv,at_,sz,ba,n⟩ ⟨M,⟨[],0⟩,⟨[],0⟩,⟨[],0⟩,0⟩ s by unfold WkA;dsimp only;ac_rfl),w,t,mb,tk,gv,rfl,rfl⟩
def T0 (g:Nat->Bool):WkT:=⟨g,g0,g0,tf0⟩
theorem wk_new {X:WkX}{M:MS}{N:Nat}{g:Nat->Bool}(h:SF M X.n g):WkOk X ⟨M,⟨[],0⟩,⟨[],0⟩,⟨[],0⟩,0⟩ (T0 g) N:=
  ⟨h,sf_nil 0 _,sf_nil 0 _,mf_nil 0 N,Nat.zero_le _,λ b hb=>absurd hb (Nat.not_lt_zero b),λ b h9=>(by cases h9),λ b h9=>(by cases h9)⟩
theorem calm_wkb {nl:Nat}{X:WkX}{s:DevS}(h:Calm nl X.at_ X.sz s)(h1:128<=X.ba)(h2:X.ba+256*X.n<=nl*64):WkB X s:=⟨h1,by rw [h.len];exact h2,by rw [h.len];exact h.top⟩
theorem kdO_layT {p:Nat}{X:List Nat}{f:TF}{a:Nat}:kdO (layF p X true f) a=some false↔kdO f a=some false:=by
  rw [kdO_lay]
  split
  . cases kdO f a with
    |none=>simp
    |some b=>simp
  exact Iff.rfl
theorem adr_layT {n p:Nat}{X:List Nat}{f:TF}:adrF n false (layF p X true f)=adrF n false f:=by
  unfold adrF
  refine List.filter_congr λ a _=> ?_
  have:=kdO_layT (p:=p) (X:=X) (f:=f) (a:=a);rw [←isK_iff,←isK_iff] at this
  cases h1:isK (layF p X true f) false a<;>cases h2:isK f false a<;>simp [h1,h2] at this ⊢
def wkX:List Nat:=(List.replicate 256 0).set 9 7
def wkF:TF:=layF 64 (le 8 258) false (layF 576 wkX true tf0)
theorem wkF_out (a:Nat)(h:wkF a≠none):(64<=a/\ a<72)∨(576<=a/\ a<832):=by
  unfold wkF layF at h
  split at h
  . rename_i h1;rw [le_length] at h1;omega
  split at h
  . rename_i h1
    have:wkX.length=256:=(by unfold wkX;rw [List.length_set,List.length_replicate])
    omega
  exact absurd rfl h
theorem wkF_need (hby:∀a c,wkF a=some c->c.1<256):needN (extX (runsF (nl13 192 4*64) false wkF))<=192-64:=by
  have hG:PutG [64,832] wkF:=by
    have e:wkX.length=256:=(by unfold wkX;rw [List.length_set,List.length_replicate]);have h1:=putG_lay (p:=576) (X:=wkX) (fr:=true) putG_nil;rw [if_pos rfl,e] at h1
    have h2:=putG_lay (p:=64) (X:=le 8 258) (fr:=false) h1;rw [if_neg (by decide)] at h2
    unfold wkF;exact h2
  have hout:∀a,nl13 192 4*64<=a->wkF a=none:=λ a ha=>by
    apply Classical.byContradiction
    intro h9;have:=wkF_out a h9;have e:nl13 192 4*64=1344:=(by decide)
    omega
  have h4:=runs_len hG hout;have h5:=(runP_Fb (n:=nl13 192 4*64) (k:=false) hby).sum;have h6:=need_runs (runsF (nl13 192 4*64) false wkF)
  have h7:(adrF (nl13 192 4*64) false wkF).length<=8:=by
    unfold wkF
    have h8:=adr_lay (n:=nl13 192 4*64) (p:=64) (X:=le 8 258) (fr:=false) (k:=false) (f:=layF 576 wkX true tf0);rw [adr_layT,le_length] at h8
    have h9:(adrF (nl13 192 4*64) false tf0).length=0:=(by unfold adrF;rw [List.filter_eq_nil_iff.2 (λ a _ h=>by have:=isK_iff.1 h;simp [kdO,tf0] at this)];rfl)
    omega
  simp only [List.length_cons,List.length_nil] at h4
  omega
theorem ovF_tf0 (p:Nat)(xs:List Nat):ovF tf0 p xs=xs:=by
  apply List.ext_getElem?
  intro i;rw [ovF_get]
  cases xs[i]? <;>rfl
theorem layF_ov {p:Nat}{X xs:List Nat}{fr:Bool}{f:TF}(h:xs.length=X.length):ovF (layF p X fr f) p xs=X:=by
  apply List.ext_getElem?
  intro i;rw [ovF_get]
  by_cases hi:i<X.length
  . rw [List.getElem?_eq_getElem (show i<xs.length by omega),List.getElem?_eq_getElem hi,Option.map_some,layF_in hi];rfl
  rw [List.getElem?_eq_none oqz,List.getElem?_eq_none oqz];rfl
theorem layF_ou {p q m:Nat}{X xs:List Nat}{fr:Bool}{f:TF}(h:q+m<=p∨p+X.length<=q)(hx:xs.length<=m):ovF (layF p X fr f) q xs=ovF f q xs:=by
  apply List.ext_getElem?
  intro i;rw [ovF_get,ovF_get]
  by_cases hi:i<xs.length
  . unfold layF
    rw [if_neg oqz]
  rw [List.getElem?_eq_none oqz];rfl
theorem wk_adZ:adZ 4 (usedB (((((T0 (onL [0])).take 1).take 2).write (128+192) 1 wkX).root 258))=[0,1,2]:=by decide
theorem wk_adS:(adS 4 (usedB (((((T0 (onL [0])).take 1).take 2).write (128+192) 1 wkX).root 258))).length=3:=by decide
structure GoodF (ba n k:Nat) (f:TF):Prop where
  inn:∀a,f a≠none->(64<=a/\ a<72)∨(ba<=a/\ a<ba+256*n)
  put:∃G:List Nat,G.length<=k/\ PutG G f
theorem GoodF.le {ba n k k':Nat}{f:TF}(h:GoodF ba n k f)(hk:k<=k'):GoodF ba n k' f:=⟨h.inn,let ⟨G,h1,h2⟩:=h.put;⟨G,Nat.le_trans h1 hk,h2⟩⟩
def ldT (f:TF)(p m:Int)(s:DevS):List Nat:=if rdy s.ls.length s.off p m=0 then ovF f p.toNat (((imgS s).drop p.toNat).take m.toNat) else []
def layT (f:TF)(p:Int)(X:List Nat)(fr:Bool)(s:DevS):TF:=if rdy s.ls.length s.off p X.length=0 then layF p.toNat X fr f else f
attribute [local irreducible] crk crL crc Sl pt ro Dev imgS recS readS recsF rdW rdO rkT Parts rvl recordsS runsL adrF kcl xcl kys runA runsF layF ovF TxA adZ WkA SlB blkS conB imF RDev lineC RLines
end Go.Vl

namespace Go.Vl
open Go Go.Proofs Go.Proofs.Tryz
def TxX (t q r lg la lz:Nat)(x:Option TF)(s:DevS):SP:=match x with
  |none=>TxE t q r lg la lz s
  |some f=>TxR t q r lg la lz f s
def TxP (t p lg d mb at_ sz n:Nat)(x:Option TF)(s:DevS):SP:=λ h=>∃M,(∀f,x=some f->MF M n f)/\ TxA t p lg d mb at_ sz M x.isNone s h
def eX (x:Option TF)(s:DevS)(z m:Int):Int:=match x with
  |none=>3
  |some _=>if s.off=true then 5 else rdy s.ls.length s.off z m
def oX (x:Option TF)(z:Int)(X:List Nat)(fr:Bool)(s:DevS):Option TF:=match x with
  |none=>none
  |some f=>if s.off=true then none else some (layT f z X fr s)
def lX (x:Option TF)(z m:Int)(s:DevS):List Nat:=match x with
  |none=>[]
  |some f=>if s.off=true then [] else ldT f z m s
def dX (x:Option TF)(s:DevS):Option TF:=if s.off=true then none else x
def rX (n:Nat)(x:Option TF):List (Nat×List Nat):=match x with
  |none=>[]
  |some f=>runsF n false f
def cX (la lz n:Nat)(x:Option TF)(s:DevS):(Int×Option TF)×DevS:=match x with
  |none=>((3,none),s)
  |some f=>if s.off=true then ((5,none),s) else (((comS la lz n f s).1.1,if (comS la lz n f s).1.2=true then none else some f),(comS la lz n f s).2)
section
variable {f:TF} {s:DevS} {z m:Int} {X:List Nat} {fr:Bool} {la lz n:Nat}
end
def wasF (n:Nat)(g:Nat->Bool):List Bool:=(List.range n).map g
theorem wasF_len (n:Nat)(g:Nat->Bool):(wasF n g).length=n:=by unfold wasF;simp
theorem wasF_at {n k:Nat}{g:Nat->Bool}(h:k<n):(bos (wasF n g))[k]? =some (.bool (g k)):=by
  unfold bos wasF
  rw [List.getElem?_map,List.getElem?_map,List.getElem?_range h];rfl
theorem wasF_set {n k:Nat}{g:Nat->Bool}{b:Bool}(_:k<n):(bos (wasF n g)).set k (.bool b)=bos (wasF n (updG g k b)):=by
  rw [bos_set]
  congr 1
  unfold wasF
  refine List.ext_getElem (by simp) λ i h1 h2=> ?_
  rw [List.getElem_set]
  simp only [List.getElem_map,List.getElem_range]
  unfold updG
  by_cases hi:k=i
  . rw [if_pos hi,if_pos hi.symm]
  rw [if_neg hi,if_neg (λ e=>hi e.symm)]
theorem wasF_g0 (n:Nat):wasF n g0=List.replicate n false:=by
  unfold wasF
  refine List.ext_getElem (by simp) λ i h1 h2=> ?_
  simp [g0]
theorem wasL_F (n:Nat)(zs:List Nat):wasL n zs=wasF n (onL zs):=rfl
theorem adZ_succ (i:Nat)(g:Nat->Bool):adZ (i+1) g=adZ i g++(if g i=true then [(i:Int)] else []):=by
  unfold adZ adS
  rw [List.range_succ,List.filter_append,List.map_append]
  congr 1
  simp only [List.filter_cons,List.filter_nil]
  split<;>simp
theorem adZ_zero (g:Nat->Bool):adZ 0 g=[]:=rfl
theorem adZ_le (n:Nat)(g:Nat->Bool):(adZ n g).length<=n:=by rw [adZ_len];exact adS_len n g
def oF (ov:Bool)(f:TF):Option TF:=if ov=true then none else some f
def e13 (ov:Bool)(s:DevS):Int:=if ov=true then 3 else if s.off=true then 5 else 0
def o13 (ov:Bool)(s:DevS):Bool:=ov||s.off
def giveS (T:WkT)(b:Int):Int×WkT:=if usedZ T b=true then (0,T.give b.toNat) else (130,T)
def readW (T:WkT)(s:DevS)(ba:Nat)(b:Int):List Nat×Int:=if usedZ T b=true then (conB T s ba b.toNat,0) else ([],130)
def writeW (T:WkT)(ba:Nat)(b:Int)(xs:List Nat):Int×WkT:=if usedZ T b=true then (if xs.length=256 then (0,T.write ba b.toNat xs) else (2,T)) else (130,T)
def takeZ (n:Nat)(T:WkT)(ov:Bool)(s:DevS):Int×Int×WkT:=if e13 ov s=0 then (((takeS n T).1:Int),(takeS n T).2.1,(takeS n T).2.2) else (0,e13 ov s,T)
def giveZ (T:WkT)(ov:Bool)(s:DevS)(b:Int):Int×WkT:=if e13 ov s=0 then giveS T b else (e13 ov s,T)
def readZ (T:WkT)(ov:Bool)(s:DevS)(ba:Nat)(b:Int):List Nat×Int:=if e13 ov s=0 then readW T s ba b else ([],e13 ov s)
def writeZ (T:WkT)(ov:Bool)(s:DevS)(ba:Nat)(b:Int)(xs:List Nat):Int×WkT:=if e13 ov s=0 then writeW T ba b xs else (e13 ov s,T)
def rootZ (T:WkT)(ov:Bool)(s:DevS):Nat×Int:=if e13 ov s=0 then (rootV T s,0) else (0,e13 ov s)
def setZ (T:WkT)(ov:Bool)(s:DevS)(v:Nat):Int×WkT:=if e13 ov s=0 then (0,T.root v) else (e13 ov s,T)
def comZ (at_ sz N:Nat)(T:WkT)(ov:Bool)(s:DevS):(Int×WkT)×DevS:=if e13 ov s=0 then (((comS at_ sz N T.f s).1.1,{ T with lv:=if (comS at_ sz N T.f s).1.1=0 then usedB T else T.lv }),(comS at_ sz N T.f s).2) else ((e13 ov s,T),s)
def dropZ (ov:Bool):Int:=if ov=true then 3 else 0
def okZ (n:Nat)(zs:List Int):Bool:=decide ((∀z∈zs,0<=z/\ z<(n:Int))/\ zs.Nodup)
def onZ (zs:List Int):Nat->Bool:=λ c=>decide ((c:Int)∈zs)
theorem okZ_nil (n:Nat):okZ n []=true:=by simp [okZ]
theorem onZ_nil:onZ []=g0:=by funext c;simp [onZ,g0]
theorem onZ_snoc (zs:List Int)(x:Nat):onZ (zs++[(x:Int)])=updG (onZ zs) x true:=by
  funext c;unfold onZ updG
  by_cases h:c=x
  . rw [if_pos h,h];simp
  rw [if_neg h]
  have:¬(c:Int)=(x:Int):=(by omega)
  simp [this]
theorem okZ_snoc {n i:Nat}{zs:List Int}(hi:i<zs.length)(h:okZ n (zs.take i)=true)(h1:0<=zs[i]/\ zs[i]<(n:Int))(h2:zs[i]∉zs.take i):okZ n (zs.take (i+1))=true:=by
  obtain ⟨h3,h4⟩:=of_decide_eq_true h;refine decide_eq_true ⟨λ z hz=> ?_, ?_⟩
  . rw [List.take_succ_eq_append_getElem hi,List.mem_append,List.mem_singleton] at hz
    rcases hz with hz|rfl
    . exact h3 z hz
    exact h1
  rw [List.take_succ_eq_append_getElem hi,List.nodup_append]
  refine ⟨h4,by simp,λ a ha b hb=> ?_⟩;rw [List.mem_singleton] at hb
  subst hb;intro e;subst e;exact h2 ha
theorem okZ_bad {n i:Nat}{zs:List Int}(hi:i<zs.length)(h:¬(0<=zs[i]/\ zs[i]<(n:Int))∨zs[i]∈zs.take i):okZ n zs=false:=by
  refine decide_eq_false λ ⟨h1,h2⟩=> ?_
  rcases h with h|h
  . exact h (h1 _ (List.getElem_mem hi))
  obtain ⟨j,hj,e⟩:=List.mem_iff_getElem.1 h;rw [List.length_take] at hj
  rw [List.getElem_take] at e
  exact List.pairwise_iff_getElem.1 h2 j i oqz hi oqz e
structure TOk (n:Nat) (T:WkT):Prop where
  l:∀b,n<=b->T.lv b=false
  t:∀b,n<=b->T.tk b=false
  g:∀b,n<=b->T.gv b=false
theorem TOk.no {n:Nat}{T:WkT}(h:TOk n T){b:Int}(hb:¬(0<=b/\ b<(n:Int))):usedZ T b=false:=by
  unfold usedZ usedB
  by_cases h0:0<=b
  . rw [h.l b.toNat oqz,h.t b.toNat oqz];simp
  rw [decide_eq_false h0];rfl
theorem TOk.lt {n:Nat}{T:WkT}(h:TOk n T){b:Int}(hb:usedZ T b=true):0<=b/\ b<(n:Int):=by
  apply Classical.byContradiction
  intro h9;rw [h.no h9] at hb;cases hb
structure RkX where
  hd:Nat
  w:Nat
  t:Nat
  q:Nat
  r:Nat
  lg:Nat
  la:Nat
  lz:Nat
  ba:Nat
  n:Nat
  l:Nat
  k1:Nat
  k2:Nat
structure RkB (X:RkX) (s:DevS):Prop where
  lo:128<=X.ba
  hi:X.ba+256*X.n<=s.ls.length*64
  top:s.ls.length*64<=4194304
  wf:WfD s
theorem RkB.il {X:RkX}{s:DevS}(h:RkB X s):(imgS s).length=s.ls.length*64:=imgS_len h.wf
def RbA (X:RkX)(T:WkT)(ov:Bool)(s:DevS):SP:=pt X.hd (cl [.pointer (some ⟨X.q,0,none⟩),vn X.ba,vn X.n,.slice (some ⟨X.l,0,none⟩) X.n X.n,.pointer (some ⟨X.w,0,none⟩)] 122)*pt X.w (cl [.pointer (some ⟨X.hd,0,none⟩),.pointer (some ⟨X.t,0,none⟩),.slice (some ⟨X.k1,0,none⟩) X.n X.n,.slice (some ⟨X.k2,0,none⟩) X.n X.n,.bool ov] 190)*Sl 1 (.slice (some ⟨X.l,0,none⟩) X.n X.n) X.n (bos (wasF X.n T.lv))*Sl 1 (.slice (some ⟨X.k1,0,none⟩) X.n X.n) X.n (bos (wasF X.n T.tk))*Sl 1 (.slice (some ⟨X.k2,0,none⟩) X.n X.n) X.n (bos (wasF X.n T.gv))*TxX X.t X.q X.r X.lg X.la X.lz (oF ov T.f) s
section
variable {A R:SP} {C:SP->SP} {X:RkX} {T:WkT} {ov:Bool} {s:DevS} (hc:Ct A (RbA X T ov s) R C)
include hc
theorem rba_hd:Has A X.hd (cl [.pointer (some ⟨X.q,0,none⟩),vn X.ba,vn X.n,.slice (some ⟨X.l,0,none⟩) X.n X.n,.pointer (some ⟨X.w,0,none⟩)] 122):=λ g w h=>by
  rw [hc.1] at h;unfold RbA at h;exact has_pt g w (h.right.left.left.left.left.left)
theorem rba_w:Has A X.w (cl [.pointer (some ⟨X.hd,0,none⟩),.pointer (some ⟨X.t,0,none⟩),.slice (some ⟨X.k1,0,none⟩) X.n X.n,.slice (some ⟨X.k2,0,none⟩) X.n X.n,.bool ov] 190):=λ g w h=>by
  rw [hc.1] at h;unfold RbA at h;exact has_pt g w (h.right.left.left.left.left.right)
end
attribute [local irreducible] crk crL crc Sl pt ro Dev imgS recS readS recsF rdW rdO rkT Parts rvl recordsS runsL adrF kcl xcl kys runA runsF layF ovF TxA adZ WkA SlB blkS conB imF RDev lineC RLines TxR TxE ldT TxX wasF
theorem rList13 {A:SP}{a:Option Addr}{n c:Nat}{g:Nat->Bool}(hr:Rs A a (bos (wasF n g)))(hn:n<=4194304:=by omega):
    Fn Tryz.prog 135 #[.slice a n c] A (λ r B=>∃b k,r= .slice b (adZ n g).length k/\ (adZ n g).length<=k/\ B=A*Sl 1 (.slice b (adZ n g).length k) (adZ n g).length (ints (adZ n g))):=by
  refine fn_enterW func135 rfl ntmps135 (by simp) ?_;refine Zci ?_;refine Zci ?_;refine tc_seq ?_;refine Zgp ?_;refine tc_pre (A':=A*Sl 1 (.slice none (adZ 0 g).length 0) (adZ 0 g).length (ints (adZ 0 g))) (λ _ _ h=>by rw [adZ_zero];exact sl_nil h) ?_;refine tc_loop (λ kk ρ BB=>∃ (i:Nat) (b:Option Addr) (k:Nat),(i<=n)/\ ((adZ i g).length<=k)/\ kk=n-i/\ ρ 3= .slice b (adZ i g).length k/\ ρ 4=(vn i)/\ ρ 0= .slice a n c/\ Dr BB (A*Sl 1 (.slice b (adZ i g).length k) (adZ i g).length (ints (adZ i g)))) (m:=n-(0)) ?_ ?_
  . exact ⟨0,none,0,by omega,by rw [adZ_zero];exact Nat.le_refl _,rfl,by rw [adZ_zero];rfl,rfl,rfl,drqz⟩
  intro k ρ B hI;obtain ⟨i,b,k,hp0,hp1,hkk1,hE3,hE4,hE0,hBA⟩:=hI;refine tc_pre hBA.sat ?_;clear hBA;refine te 3 hE3 ?_;refine te 4 hE4 ?_;refine te 0 hE0 ?_;refine Zh ?_;refine tlm ?_;refine tv (o_len underlying34 rfl) ?_;refine Zv ?_;refine tc_cond rfl (λ h=> ?_) (λ h=> ?_)
  . have hi:i<n:=(by first|omega|(simp at h;omega));have hz:=adZ_le i g;refine Zfi ?_;refine tlm ?_;refine tv (o_ixP1 (j:=i) underlying34 sz4 rfl rfl hi (nn_rs (xs:=bos (wasF n g)) (by repeat (first|exact hr|apply Rs.left)) (by rw [bos_length,wasF_len];omega))) ?_;refine tv (o_ldP (xs:=bos (wasF n g)) p4 rfl (by repeat (first|exact hr|apply Rs.left)) (wasF_at hi)) ?_;refine nq ?_;refine tc_cut (λ ρ BB=>∃ (b2:Option Addr) (k2:Nat),((adZ (i+1) g).length<=k2)/\ ρ 3= .slice b2 (adZ (i+1) g).length k2/\ ρ 0= .slice a n c/\ ρ 4=(vn i)/\ Dr BB (A*Sl 1 (.slice b2 (adZ (i+1) g).length k2) (adZ (i+1) g).length (ints (adZ (i+1) g)))) ?_ ?_
    . skip
      refine tc_cond rfl (λ h=> ?_) (λ h=> ?_)
      . have hgi:g i=true:=(by first|exact h|simpa using h);have hs1:=adZ_succ i g;rw [if_pos hgi] at hs1
        refine Zc3 ?_;refine tl_x rfl (o_buildSlice1 underlying22 sz3 z3 wqz rfl) ?_;rintro _ _ ⟨b17,rfl,rfl⟩;refine tl_x rfl (o_apB underlying22 underlying22 sz3 by3 z3 rfl (by decide) (by decide) rfl rfl rfl ctqz rfl (by exact ints_all [(i:Int)]) sq1z (ints_sn (adZ i g) _)) ?_;rintro _ _ ⟨a18,c18,rfl,hc18,rfl⟩;refine Zff ?_;exact ⟨_,_,by rw [hs1];first|exact hp1|(rw [List.length_append];exact hc18),by rw [hs1];first|rfl|(rw [List.length_append];rfl),rfl,rfl,by rw [hs1];first|exact dr_refl|(rw [List.length_append];exact dr_refl)⟩
      have hgi:¬g i=true:=(by first|(rw [h];decide)|simpa using h);have hs1:=adZ_succ i g;rw [if_neg hgi,List.append_nil] at hs1
      refine tc_skip ?_;exact ⟨_,_,by rw [hs1];first|exact hp1|(rw [List.length_append];exact hc18),by rw [hs1];first|rfl|(rw [List.length_append];rfl),rfl,rfl,by rw [hs1];first|exact dr_refl|(rw [List.length_append];exact dr_refl)⟩
    intro ρ B hI;obtain ⟨b2,k2,hj0,hE3,hE0,hE4,hBA⟩:=hI;refine q_block_n (q_then_n ?_);refine tc_pre hBA.sat ?_;clear hBA;refine te 3 hE3 ?_;refine te 0 hE0 ?_;refine te 4 hE4 ?_;refine Zf7 ?_;refine Za ?_;exact ⟨_,by omega,i+1,_,_,by omega,hj0,rfl,rfl,rfl,rfl,drqz⟩
  obtain rfl:i=n:=by first|omega|(simp at h;omega)
  refine Zdp ?_;refine Zf ?_;exact ⟨_,_,res1 rfl rfl,Dr.sat drqz,b,k,rfl,hp1,rfl⟩
def prefG (i:Nat)(g:Nat->Bool):Nat->Bool:=λ c=>decide (c<i)&&g c
theorem pt_wasF {R:SP}{b n:Nat}{E:TypeId}{g:Gh}{w:World}(h:sat g w (R*pt b (cl (List.replicate n (.bool false)) E))):sat g w (R*Sl 1 (.slice (some ⟨b,0,none⟩) n n) n (bos (wasF n g0))):=
  sl_new (k:=1) h (Nat.le_refl _) (by simp) (by rw [Nat.mul_one,List.take_of_length_le (by simp),wasF_g0];unfold bos;rw [List.map_replicate])
end Go.Vl

namespace Go.Vl
open Go Go.Proofs Go.Proofs.Tryz
def takenL (n:Nat)(g:Nat->Bool)(ov:Bool):List Int:=if ov=true then [] else adZ n g
attribute [local irreducible] crk crL crc Sl pt ro Dev imgS recS readS recsF rdW rdO rkT Parts rvl recordsS runsL adrF kcl xcl kys runA runsF layF ovF TxA adZ WkA SlB blkS conB imF RDev lineC RLines TxR TxE ldT TxX wasF
theorem rLives13 {A:SP}{hd q ba n l:Nat}{o:Value}{g:Nat->Bool}(hh:Has A hd (cl [pz q,vn ba,vn n,.slice (some ⟨l,0,none⟩) n n,o] 122):=by exact hbqz)(hr:Rs A (some ⟨l,0,none⟩) (bos (wasF n g)):=by repeat (first|assumption|with_reducible exact rs_sl|apply Rs.left))(hn:n<=4194304:=by omega):
    Fn Tryz.prog 71 #[pz hd] A (λ r B=>∃a c,r= .slice a (adZ n g).length c/\ (adZ n g).length<=c/\ B=A*Sl 1 (.slice a (adZ n g).length c) (adZ n g).length (ints (adZ n g))):=by
  refine fn_enterW func71 rfl ntmps71 (by simp) ?_;refine Zci ?_;refine Zr ?_;refine tv (o_fieldAddr (o:=3) underlying122 rfl rfl sz34 rfl) ?_;refine tv (o_load p34 rfl hh rfl) ?_;refine tl_c rfl (o_call bd135 rfl (rList13 (g:=g) (hr:=hr))) ?_;rintro _ _ ⟨a7,c7,rfl,hc7,rfl⟩;refine Zf ?_;exact ⟨_,_,res1 rfl rfl,Dr.sat drqz,a7,c7,rfl,hc7,rfl⟩
theorem Zf8 {p r:Prop}(k:r)(h:Kq r->p:=by intro k;refine tm 5 rfl kqz rfl (o_move wqz) ?_;refine tm 6 rfl kqz rfl (o_nilCheck rfl) ?_;exact k.o):p:=h ⟨k⟩
theorem rRoom13 {A:SP}{hd q ba n l:Nat}{o:Value}{g:Nat->Bool}(hh:Has A hd (cl [pz q,vn ba,vn n,.slice (some ⟨l,0,none⟩) n n,o] 122):=by exact hbqz)(hr:Rs A (some ⟨l,0,none⟩) (bos (wasF n g)):=by repeat (first|assumption|with_reducible exact rs_sl|apply Rs.left))(hn:n<=4194304:=by omega):
    Fn Tryz.prog 31 #[pz hd] A (λ r B=>r= .agg (ints [(n:Int),((adS n g).length:Nat),((n-(adS n g).length:Nat):Int)]).toArray/\ A=B):=by
  refine fn_enterW func31 rfl ntmps31 (by simp) ?_;have hal:=adS_len n g;have hzl:=adZ_len n g;refine sr ?_;refine tl_x rfl (o_alloc (l:=ints [0,0,0]) z80 rfl) ?_;rintro _ _ ⟨b2,rfl,rfl⟩;refine nq ?_;refine Zb ?_;refine tl_c rfl (o_call bd71 rfl (rLives13 (hd:=hd) (q:=q) (ba:=ba) (n:=n) (l:=l) (o:=o) (g:=g) (hh:=has_left hh) (hr:=Rs.left hr) (hn:=hn))) ?_;rintro _ _ ⟨a5,c5,rfl,hc5,rfl⟩;refine tv (o_len underlying22 rfl) ?_;refine tla ?_;refine tl_env (d:=3) (v:= .int .i64 (((adS n g).length:Nat):Int)) (by show Value.int .i64 (((adZ n g).length:Nat):Int)=_;rw [hzl]) ?_;refine Zds ?_;refine tc_regh (S:=A) mo drqz ?_
  show TH _ _ _ _ _ 13 (Array.replicate 13 false) _ _
  refine Zbg ?_;refine tm 2 rfl kqz rfl (o_fieldAddr (o:=2) underlying122 rfl rfl sz3 rfl) ?_;refine tm 3 rfl kqz rfl (o_load p3 rfl (by first|exact hh|exact has_left hh|exact has_left (has_left hh)) rfl) ?_;refine tm 4 rfl kqz rfl (o_move wqz) ?_;refine Zf8 ?_;refine tm 7 rfl kqz rfl (o_fieldAddr (o:=2) underlying122 rfl rfl sz3 rfl) ?_;refine tm 8 rfl kqz rfl (o_load p3 rfl (by first|exact hh|exact has_left hh|exact has_left (has_left hh)) rfl) ?_;refine tm 9 rfl kqz rfl (o_move wqz) ?_;refine tm 10 rfl kqz rfl (by first|exact o_subI rfl rfl oqz|exact o_sub rfl rfl) ?_;refine th_env (d:=17) (v:= .int .i64 ((n-(adS n g).length:Nat):Int)) (congrArg (Value.int .i64) oqz) ?_;refine tm 11 rfl kqz rfl (o_bS (l:=[_,_,_]) (pv_cons wqz (pv_cons wqz (pv_cons wqz pv_nil))) underlying80 z80 (pl80 underlying80) rfl) ?_;refine th_one (i:=12) kqz ?_;refine oh_u rfl rfl rfl (o_stUN (l':=ints [(n:Int),((adS n g).length:Nat),((n-(adS n g).length:Nat):Int)]) rfl upqz sz80 rfl rfl rfl (by exact Nat.le_refl 3) rfl) drqz ?_;refine Zg6 ?_;exact ⟨_,A,resA1 rfl (rv_cell a80 sz80 rfl hsqz (by show 0+3<=3;decide) rfl),Dr.sat drqz,rfl,rfl⟩
theorem rOpen_0 {A:SP}{hd q ba n l:Nat}(hh:Has A hd (cl [pz q,vn ba,vn n,.slice (some ⟨l,0,none⟩) n n,.pointer none] 122)):
    Fn Tryz.prog 130 #[pz hd] A (λ v B=>v= .bool false/\ A=B):=by
  refine fn_enterW func130 rfl ntmps130 (by simp) ?_;refine Zci ?_;refine Zr ?_;refine tv (o_fieldAddr (o:=4) underlying122 rfl rfl sz70 rfl) ?_;refine tv (o_load p70 rfl hh rfl) ?_;refine tv (o_nep underlying70 rfl rfl) ?_;refine tlm ?_;refine tl_bool (d:=8) rfl dbq (sbq ?_);intro h;refine Zba ?_;refine Zba ?_;refine Zgj ?_;exact ⟨.bool false,_,res1 rfl rfl,Dr.sat drqz,rfl,rfl⟩
theorem rOpen_w {A R:SP}{C:SP->SP}{X:RkX}{T:WkT}{ov:Bool}{s:DevS}(hc:Ct A (RbA X T ov s) R C:=by exact cbqz):
    Fn Tryz.prog 130 #[.pointer (some ⟨X.hd,0,none⟩)] A (λ v B=>v= .bool (!ov)/\ A=B):=by
  refine fn_enterW func130 rfl ntmps130 (by simp) ?_;have hw9:=rba_w hc;have hh9:=rba_hd hc;refine Zci ?_;refine Zr ?_;refine tv (o_fieldAddr (o:=4) underlying122 rfl rfl sz70 rfl) ?_;refine tv (o_load p70 rfl hh9 rfl) ?_;refine tv (o_nep underlying70 rfl rfl) ?_;refine tlm ?_;refine tl_bool (d:=8) rfl (sbq ?_) dbq;intro h;refine Zbb ?_;refine tv (o_fieldAddr (o:=4) underlying122 rfl rfl sz70 rfl) ?_;refine tv (o_load p70 rfl hh9 rfl) ?_;refine tv (o_nilCheck rfl) ?_;refine tv (o_fieldAddr (o:=4) underlying190 rfl rfl sz4 rfl) ?_;refine tv (o_load p4 rfl hw9 rfl) ?_;refine tv (o_not rfl) ?_;refine Zc7 ?_;exact ⟨.bool (!ov),_,res1 rfl rfl,Dr.sat drqz,rfl,rfl⟩
theorem rLoad_st {A:SP}{hd:Nat}{a:Option Addr}{m c:Nat}(hO:Fn Tryz.prog 130 #[pz hd] A (λ v B=>v= .bool true/\ A=B)):
    Fn Tryz.prog 66 #[pz hd,.slice a m c] A (λ v B=>v= .int .i64 3/\ A=B):=by
  refine fn_enterW func66 rfl ntmps66 (by simp) ?_;refine Zb0 ?_;refine tl_c rfl (o_call bd130 rfl (hO)) ?_;rintro _ _ ⟨rfl,rfl⟩;refine Zd5 ?_;intro h;refine Zdy ?_;exact ⟨.int .i64 3,_,res1 rfl rfl,Dr.sat drqz,rfl,rfl⟩
theorem rLoadH_any {A R:SP}{hd q ba n l m c:Nat}{o:Value}{g:Nat->Bool}{a:Option Addr}{zs:List Int}(hA:A=R*pt hd (cl [pz q,vn ba,vn n,.slice (some ⟨l,0,none⟩) n n,o] 122)*Sl 1 (.slice (some ⟨l,0,none⟩) n n) n (bos (wasF n g)))(hO:Fn Tryz.prog 130 #[pz hd] A (λ v B=>v= .bool false/\ A=B))(hr:Rs R a (ints zs))(hm:zs.length=m)(hn:n<=4194304)(hml:m<=9223372036854775807):
    Fn Tryz.prog 66 #[pz hd,.slice a m c] A (λ v B=>∃l2,v= .int .i64 (if okZ n zs=true then 0 else 2)/\ B=R*pt hd (cl [pz q,vn ba,vn n,.slice (some ⟨l2,0,none⟩) n n,o] 122)*Sl 1 (.slice (some ⟨l2,0,none⟩) n n) n (bos (wasF n (if okZ n zs=true then onZ zs else g)))):=by
  refine fn_enterW func66 rfl ntmps66 (by simp) ?_;subst hA;refine Zb0 ?_;refine tl_c rfl (o_call bd130 rfl (hO)) ?_;rintro _ _ ⟨rfl,rfl⟩;refine Zm ?_;intro h;refine Zd4 ?_;refine tv (o_fieldAddr (o:=2) underlying122 rfl rfl sz3 rfl) ?_;refine tv (o_load p3 rfl hsqz rfl) ?_;refine tl_x rfl (o_makeSlice (len:=n) (cap:=n) underlying34 sz4 by4 z4 rfl rfl rfl oqz oqz oqz) ?_;rintro _ _ ⟨b13,rfl,rfl⟩;refine tl_pre (λ _ _ h=>pt_wasF h) ?_;refine Zd2 ?_;refine Zgp ?_;refine tc_loop (λ kk ρ BB=>∃ (i:Nat),(i<=m)/\ (okZ n (zs.take i)=true)/\ kk=m-i/\ ρ 6=(vn i)/\ ρ 0=(pz hd)/\ ρ 1= .slice a m c/\ ρ 5= .slice (some ⟨b13,0,none⟩) n n/\ Dr BB (R*pt hd (cl [pz q,vn ba,vn n,.slice (some ⟨l,0,none⟩) n n,o] 122)*Sl 1 (.slice (some ⟨l,0,none⟩) n n) n (bos (wasF n g))*Sl 1 (.slice (some ⟨b13,0,none⟩) n n) n (bos (wasF n (onZ (zs.take i)))))) (m:=m-(0)) ?_ ?_
  . exact ⟨0,Nat.zero_le _,by rw [List.take_zero];exact okZ_nil n,rfl,rfl,rfl,rfl,rfl,(by rw [List.take_zero,onZ_nil];repeat (first|with_reducible exact dr_refl|apply dr_keep|apply dr_drop))⟩
  intro k ρ B hI;obtain ⟨i,hp0,hp1,hkk1,hE6,hE0,hE1,hE5,hBA⟩:=hI;refine tc_pre hBA.sat ?_;clear hBA;refine te 6 hE6 ?_;refine te 0 hE0 ?_;refine te 1 hE1 ?_;refine te 5 hE5 ?_;refine Zh ?_;refine tlm ?_;refine Zef ?_;refine tc_cond rfl (λ h=> ?_) (λ h=> ?_)
  . have hi:i<zs.length:=(by first|omega|(simp at h;omega));obtain ⟨x,hx1⟩:∃x,zs[i]=x:=⟨_,rfl⟩;have hat:(ints zs)[i]? =some (.int .i64 x):=(by rw [ints_at oqz,hx1]);refine Zbp ?_;refine tc_seq ?_;refine tc_seq ?_;refine tc_regq mo kqz ?_;refine Zcj ?_;refine ql_v rfl (o_ixP1 (a:=a) (j:=i) underlying22 sz3 rfl rfl oqz (nn_rs (xs:=ints zs) (by repeat (first|exact hr|apply Rs.left)) (by rw [ints_length];omega))) ?_;refine ql_v rfl (o_ldP (a:=a) (xs:=ints zs) p3 rfl (by repeat (first|exact hr|apply Rs.left)) hat) ?_;refine ql_v rfl (o_lss rfl rfl) ?_;refine ql_v rfl (o_move wqz) ?_;refine ql_bool (d:=25) rfl (λ h=> ?_) (λ h=> ?_)
    . have hbad:okZ n zs=false:=okZ_bad hi (.inl (by rw [hx1];first|omega|(simp at h;omega)));refine Zf0 ?_;refine Zf0 ?_;refine ql_skip rfl ?_;refine ql_v rfl (o_pick_t rfl wqz) ?_;refine ql_v rfl (o_move wqz) ?_;refine Zf0 ?_;refine Zbh ?_;refine ql_skip rfl ?_;refine ql_v rfl (o_pick_t rfl wqz) ?_;refine Zd0 ?_;refine Zht ?_;refine Zbd ?_;exact ⟨.int .i64 2,R*pt hd (cl [pz q,vn ba,vn n,.slice (some ⟨l,0,none⟩) n n,o] 122)*Sl 1 (.slice (some ⟨l,0,none⟩) n n) n (bos (wasF n g)),res1 rfl rfl,Dr.sat drqz,l,by rw [hbad];rfl,by rw [hbad];rfl⟩
    have g25:¬(x<0):=(by first|exact of_decide_eq_false h|(have h2:=h;simp at h2;omega)|simpa using h);refine Zcj ?_;refine ql_v rfl (o_ixP1 (a:=a) (j:=i) underlying22 sz3 rfl rfl oqz (nn_rs (xs:=ints zs) (by repeat (first|exact hr|apply Rs.left)) (by rw [ints_length];omega))) ?_;refine ql_v rfl (o_ldP (a:=a) (xs:=ints zs) p3 rfl (by repeat (first|exact hr|apply Rs.left)) hat) ?_;refine Zcp ?_;refine ql_v rfl (o_fieldAddr (o:=2) underlying122 rfl rfl sz3 rfl) ?_;refine ql_v rfl (o_load p3 rfl hsqz rfl) ?_;refine ql_v rfl (o_geq rfl rfl) ?_;refine ql_v rfl (o_pick_f rfl wqz) ?_;refine ql_v rfl (o_move wqz) ?_;refine ql_bool (d:=36) rfl (λ h=> ?_) (λ h=> ?_)
    . have hbad:okZ n zs=false:=okZ_bad hi (.inl (by rw [hx1];first|omega|(simp at h;omega)));refine Zf0 ?_;refine Zbh ?_;refine ql_skip rfl ?_;refine ql_v rfl (o_pick_t rfl wqz) ?_;refine Zd0 ?_;refine Zht ?_;refine Zbd ?_;exact ⟨.int .i64 2,R*pt hd (cl [pz q,vn ba,vn n,.slice (some ⟨l,0,none⟩) n n,o] 122)*Sl 1 (.slice (some ⟨l,0,none⟩) n n) n (bos (wasF n g)),res1 rfl rfl,Dr.sat drqz,l,by rw [hbad];rfl,by rw [hbad];rfl⟩
    have g36:0<=x/\ x<(n:Int):=(by first|(simp at h;omega)|(have h9:=of_decide_eq_false h;omega));obtain ⟨p,rfl⟩:=Int.eq_ofNat_of_zero_le g36.1;have hxn:p<n:=(by omega);refine Zcj ?_;refine ql_v rfl (o_move wqz) ?_;refine ql_v rfl (o_ixP1 (a:=a) (j:=i) underlying22 sz3 rfl rfl oqz (nn_rs (xs:=ints zs) (by repeat (first|exact hr|apply Rs.left)) (by rw [ints_length];omega))) ?_;refine ql_v rfl (o_ldP (a:=a) (xs:=ints zs) p3 rfl (by repeat (first|exact hr|apply Rs.left)) hat) ?_;refine ql_v rfl (o_ixP1 (j:=p) underlying34 sz4 rfl rfl hxn (nn_rs (xs:=bos (wasF n (onZ (zs.take i)))) sq2z (by rw [bos_length,wasF_len];omega))) ?_;refine ql_v rfl (o_ldP (xs:=bos (wasF n (onZ (zs.take i)))) p4 rfl sq2z (wasF_at hxn)) ?_;refine ql_v rfl (o_pick_f rfl wqz) ?_;refine Zd0 ?_;refine tc_cond rfl (λ h=> ?_) (λ h=> ?_)
    . have hbad:okZ n zs=false:=(by first|assumption|(refine okZ_bad hi (.inr ?_);rw [hx1];have h9:=h;unfold onZ at h9;exact of_decide_eq_true h9));refine sr ?_;refine Zbd ?_;exact ⟨.int .i64 2,R*pt hd (cl [pz q,vn ba,vn n,.slice (some ⟨l,0,none⟩) n n,o] 122)*Sl 1 (.slice (some ⟨l,0,none⟩) n n) n (bos (wasF n g)),res1 rfl rfl,Dr.sat drqz,l,by rw [hbad];rfl,by rw [hbad];rfl⟩
    have hnt:¬((p:Int)∈zs.take i):=(by have h9:=h;unfold onZ at h9;first|exact of_decide_eq_false h9|simpa using h9);have hok1:okZ n (zs.take (i+1))=true:=okZ_snoc hi hp1 (by rw [hx1];omega) (by rw [hx1];exact hnt);have htk:zs.take (i+1)=zs.take i++[(p:Int)]:=(by rw [List.take_succ_eq_append_getElem hi,hx1]);refine Zc ?_;refine Zc3 ?_;refine tlm ?_;refine tv (o_ixP1 (a:=a) (j:=i) underlying22 sz3 rfl rfl oqz (nn_rs (xs:=ints zs) (by repeat (first|exact hr|apply Rs.left)) (by rw [ints_length];omega))) ?_;refine tv (o_ldP (a:=a) (xs:=ints zs) p3 rfl (by repeat (first|exact hr|apply Rs.left)) hat) ?_;refine tv (o_ixP1 (j:=p) underlying34 sz4 rfl rfl hxn (nn_rs (xs:=bos (wasF n (onZ (zs.take i)))) sq2z (by rw [bos_length,wasF_len];omega))) ?_;refine tl_u rfl (o_stP (ys:=bos (wasF n (onZ (zs.take (i+1))))) sz4 rfl rfl rfl ctqz oqz (by rw [htk,onZ_snoc];exact wasF_set hxn)) ?_;refine Zb9 ?_;refine Zeb ?_;refine Za ?_;exact ⟨_,by omega,i+1,by omega,hok1,rfl,rfl,rfl,rfl,rfl,drqz⟩
  obtain rfl:i=m:=by first|omega|(simp at h;omega)
  rw [List.take_of_length_le oqz] at hp1 ⊢
  refine Zdp ?_;refine Zbb ?_;refine tv (o_fieldAddr (o:=3) underlying122 rfl rfl sz34 rfl) ?_;refine tl_u rfl (o_stU (l':=[pz q,vn ba,vn n,.slice (some ⟨b13,0,none⟩) n n,o]) rfl upqz sz34 rfl rfl (by show 3<5;decide) rfl) ?_;refine nq ?_;refine Zdq ?_;exact ⟨.int .i64 0,R*pt hd (cl [pz q,vn ba,vn n,.slice (some ⟨b13,0,none⟩) n n,o] 122)*Sl 1 (.slice (some ⟨b13,0,none⟩) n n) n (bos (wasF n (onZ zs))),res1 rfl rfl,(λ g9 w9 h9=>Dr.sat ⟨Sl 1 (.slice (some ⟨l,0,none⟩) n n) n (bos (wasF n g)),by ac_rfl⟩ g9 w9 h9),b13,by rw [hp1];rfl,by rw [hp1];rfl⟩
end Go.Vl

namespace Go.Vl
open Go Go.Proofs Go.Proofs.Tryz
attribute [local irreducible] crk crL crc Sl pt ro Dev imgS recS readS recsF rdW rdO rkT Parts rvl recordsS runsL adrF kcl xcl kys runA runsF layF ovF TxA adZ WkA comS
theorem Zg9 {p r:Prop}(k:r)(h:Kq r->p:=by intro k;refine Zdh ?_;refine Zev ?_;exact k.o):p:=h ⟨k⟩
theorem NewH_no {A R:SP}{C:SP->SP}{d:Nat}{s:DevS}(hc:Ct A (Dev d s) R C:=by exact cbqz){p lg:Nat}{ov:Option Nat}(hp:Has A p (cl (pocs lg d ov) 78):=by exact hbqz){z n:Int}(hz: -9223372036854775808<=z/\ z<=9223372036854775807)(hn: -9223372036854775808<=n/\ n<=9223372036854775807)(htop:s.ls.length*64<=4194304)(hpos:0<s.ls.length)(hne:nwE (s.ls.length*64) z n≠0):
    Fn Tryz.prog 28 #[pz p,.int .i64 z,.int .i64 n] A (λ r B=>r= .tuple #[.pointer none,.int .i64 2]/\ A=B):=by
  refine fn_enterW func28 rfl ntmps28 (by simp) ?_;have hnw:=nw_no hne;refine Zdn ?_;refine tl_c rfl (o_call bd69 rfl (Size12_c (hc:=hc) (hp:=hp))) ?_;rintro _ _ ⟨rfl,rfl⟩;refine tl_env (d:=9) (v:=(vn (s.ls.length*64))) (congrArg (Value.int .i64) oqz) ?_;refine tv (o_eqi rfl rfl) ?_;refine Zm ?_;intro h;refine Zcx ?_;refine tv (o_rem rfl rfl (by decide)) ?_;refine tv (o_nei rfl rfl) ?_;refine tl_env (d:=13) (v:= .bool (decide (z%64≠0))) (congrArg Value.bool (decide_eq_decide.2 tm64)) ?_;refine tlm ?_;refine tl_bool (d:=14) rfl (λ h=> ?_) (λ h=> ?_)
  . have g14:(z%64≠0):=(by first|exact of_decide_eq_true h|(have h2:=h;simp at h2;omega)|simpa using h);refine Zgn ?_;refine Zgn ?_;refine Zg8 ?_;refine Zg9 ?_;exact ⟨_,_,res2 rfl rfl rfl,Dr.sat drqz,rfl,rfl⟩
  have g14:¬(z%64≠0):=(by first|exact of_decide_eq_false h|(have h2:=h;simp at h2;omega)|simpa using h);refine Zge ?_;refine tl_bool (d:=18) rfl (λ h=> ?_) (λ h=> ?_)
  . have g18:(z<128):=(by first|exact of_decide_eq_true h|(have h2:=h;simp at h2;omega)|simpa using h);refine Zgn ?_;refine Zg8 ?_;refine Zg9 ?_;exact ⟨_,_,res2 rfl rfl rfl,Dr.sat drqz,rfl,rfl⟩
  have g18:¬(z<128):=(by first|exact of_decide_eq_false h|(have h2:=h;simp at h2;omega)|simpa using h);refine Zge ?_;refine tl_bool (d:=22) rfl (λ h=> ?_) (λ h=> ?_)
  . have g22:(n<0):=(by first|exact of_decide_eq_true h|(have h2:=h;simp at h2;omega)|simpa using h);refine Zg8 ?_;refine Zg9 ?_;exact ⟨_,_,res2 rfl rfl rfl,Dr.sat drqz,rfl,rfl⟩
  have g22:¬(n<0):=(by first|exact of_decide_eq_false h|(have h2:=h;simp at h2;omega)|simpa using h);refine Z0 ?_;refine tl_c rfl (o_call bd69 rfl (Size12_c (hc:=hc) (hp:=hp))) ?_;rintro _ _ ⟨rfl,rfl⟩;refine tl_env (d:=25) (v:=(vn (s.ls.length*64))) (congrArg (Value.int .i64) oqz) ?_;refine Zen ?_;refine tl_bool (d:=28) rfl (λ h=> ?_) (λ h=> ?_)
  . have g28:((((s.ls.length*64:Nat):Int)<z)):=(by first|exact of_decide_eq_true h|(have h2:=h;simp at h2;omega)|simpa using h);refine Ze4 ?_;refine Zg9 ?_;exact ⟨_,_,res2 rfl rfl rfl,Dr.sat drqz,rfl,rfl⟩
  have g28:¬((((s.ls.length*64:Nat):Int)<z)):=(by first|exact of_decide_eq_false h|(have h2:=h;simp at h2;omega)|simpa using h);refine Z0 ?_;refine tl_c rfl (o_call bd69 rfl (Size12_c (hc:=hc) (hp:=hp))) ?_;rintro _ _ ⟨rfl,rfl⟩;refine tl_env (d:=31) (v:=(vn (s.ls.length*64))) (congrArg (Value.int .i64) oqz) ?_;refine Zhn ?_;refine Zbz ?_;refine nq ?_;refine tc_cond rfl (sbq ?_) (λ h=> ?_)
  . intro h;refine Zev ?_;exact ⟨_,_,res2 rfl rfl rfl,Dr.sat drqz,rfl,rfl⟩
  exfalso;have h9:=of_decide_eq_false h;omega
theorem rNew13_no {A R:SP}{C:SP->SP}{r:Nat}{s:DevS}(hc:Ct A (RDev r s) R C:=by exact cbqz){q lg:Nat}{o:Value}(hq:Has A q (cl [pz r,pz lg,o] 177):=by exact hbqz){z n:Int}(hz: -9223372036854775808<=z/\ z<=9223372036854775807)(hn: -9223372036854775808<=n/\ n<=9223372036854775807)(htop:s.ls.length*64<=4194304)(hpos:0<s.ls.length)(hne:nwE (s.ls.length*64) z n≠0):
    Fn Tryz.prog 29 #[pz q,.int .i64 z,.int .i64 n] A (λ r B=>r= .tuple #[.pointer none,.int .i64 2]/\ A=B):=by
  refine fn_enterW func29 rfl ntmps29 (by simp) ?_;have hnw:=nw_no hne;refine Zdn ?_;refine tv (o_eqp underlying68 rfl rfl) ?_;refine Zm ?_;intro h;refine Zcx ?_;refine tv (o_rem rfl rfl (by decide)) ?_;refine tv (o_nei rfl rfl) ?_;refine tl_env (d:=12) (v:= .bool (decide (z%64≠0))) (congrArg Value.bool (decide_eq_decide.2 tm64)) ?_;refine tlm ?_;refine tl_bool (d:=13) rfl (λ h=> ?_) (λ h=> ?_)
  . have g13:(z%64≠0):=(by first|exact of_decide_eq_true h|(have h2:=h;simp at h2;omega)|simpa using h);refine Zgn ?_;refine Zgn ?_;refine Zg8 ?_;refine Zg9 ?_;exact ⟨_,_,res2 rfl rfl rfl,Dr.sat drqz,rfl,rfl⟩
  have g13:¬(z%64≠0):=(by first|exact of_decide_eq_false h|(have h2:=h;simp at h2;omega)|simpa using h);refine Zge ?_;refine tl_bool (d:=17) rfl (λ h=> ?_) (λ h=> ?_)
  . have g17:(z<128):=(by first|exact of_decide_eq_true h|(have h2:=h;simp at h2;omega)|simpa using h);refine Zgn ?_;refine Zg8 ?_;refine Zg9 ?_;exact ⟨_,_,res2 rfl rfl rfl,Dr.sat drqz,rfl,rfl⟩
  have g17:¬(z<128):=(by first|exact of_decide_eq_false h|(have h2:=h;simp at h2;omega)|simpa using h);refine Zge ?_;refine tl_bool (d:=21) rfl (λ h=> ?_) (λ h=> ?_)
  . have g21:(n<0):=(by first|exact of_decide_eq_true h|(have h2:=h;simp at h2;omega)|simpa using h);refine Zg8 ?_;refine Zg9 ?_;exact ⟨_,_,res2 rfl rfl rfl,Dr.sat drqz,rfl,rfl⟩
  have g21:¬(n<0):=(by first|exact of_decide_eq_false h|(have h2:=h;simp at h2;omega)|simpa using h);refine Z0 ?_;refine tl_c rfl (o_call bd70 rfl (rSize12_c (hc:=hc) (hq:=hq))) ?_;rintro _ _ ⟨rfl,rfl⟩;refine Zen ?_;refine tl_bool (d:=27) rfl (λ h=> ?_) (λ h=> ?_)
  . have g27:((((s.ls.length*64:Nat):Int)<z)):=(by first|exact of_decide_eq_true h|(have h2:=h;simp at h2;omega)|simpa using h);refine Ze4 ?_;refine Zg9 ?_;exact ⟨_,_,res2 rfl rfl rfl,Dr.sat drqz,rfl,rfl⟩
  have g27:¬((((s.ls.length*64:Nat):Int)<z)):=(by first|exact of_decide_eq_false h|(have h2:=h;simp at h2;omega)|simpa using h);refine Z0 ?_;refine tl_c rfl (o_call bd70 rfl (rSize12_c (hc:=hc) (hq:=hq))) ?_;rintro _ _ ⟨rfl,rfl⟩;refine Zhn ?_;refine Zbz ?_;refine nq ?_;refine tc_cond rfl (sbq ?_) (λ h=> ?_)
  . intro h;refine Zev ?_;exact ⟨_,_,res2 rfl rfl rfl,Dr.sat drqz,rfl,rfl⟩
  exfalso;have h9:=of_decide_eq_false h;omega
end Go.Vl

namespace Go.Vl
open Go Go.Proofs Go.Proofs.Tryz
def PbO (X:WkX)(s:DevS)(lv:Nat)(Y:WkY):SP:=RsA X.h X.p X.lg X.d X.at_ X.sz X.ba X.n lv Y.Ml s*pt X.w (cl (wcs X.h X.t X.tk X.gv Y.ls true) 101)
def PbA (X:WkX)(T:WkT)(ov:Bool)(s:DevS):SP:=match ov with
  |true=>λ h=>∃lv Y,SF Y.Ml X.n T.lv/\ PbO X s lv Y h
  |false=>λ h=>∃lv Y,WkOk X Y T (s.ls.length*64)/\ WkA { X with lv:=lv } Y s h
section
variable {P:Program} {fn:FuncId} {args:Array Value} {Q:Value->SP->Prop} {X:WkX} {T:WkT} {s:DevS} {R:SP}
theorem fn_pbo (h:∀lv Y,SF Y.Ml X.n T.lv->Fn P fn args (R*PbO X s lv Y) Q):Fn P fn args (R*PbA X T true s) Q:=λ g w hs=>by
  obtain ⟨_,⟨a,b,hd,rfl,ha,lv,Y,hM,hb⟩,hx⟩:=hs.hp;exact h lv Y hM g w ⟨hs.os,hs.tape,hs.out,_,⟨a,b,hd,rfl,ha,hb⟩,hx⟩
theorem fn_pba (h:∀lv Y,WkOk X Y T (s.ls.length*64)->Fn P fn args (R*WkA { X with lv:=lv } Y s) Q):Fn P fn args (R*PbA X T false s) Q:=λ g w hs=>by
  obtain ⟨_,⟨a,b,hd,rfl,ha,lv,Y,hM,hb⟩,hx⟩:=hs.hp;exact h lv Y hM g w ⟨hs.os,hs.tape,hs.out,_,⟨a,b,hd,rfl,ha,hb⟩,hx⟩
theorem pbo_back {lv:Nat}{Y:WkY}(hM:SF Y.Ml X.n T.lv){g:Gh}{w:World}(hs:sat g w (R*PbO X s lv Y)):sat g w (R*PbA X T true s):=
  hs.mono λ h ⟨a,b,hd,e,ha,hb⟩=>⟨a,b,hd,e,ha,lv,Y,hM,hb⟩
theorem pba_back {lv:Nat}{Y:WkY}(hM:WkOk X Y T (s.ls.length*64)){g:Gh}{w:World}(hs:sat g w (R*WkA { X with lv:=lv } Y s)):sat g w (R*PbA X T false s):=
  hs.mono λ h ⟨a,b,hd,e,ha,hb⟩=>⟨a,b,hd,e,ha,lv,Y,hM,hb⟩
theorem pbo_open {g:Gh}{w:World}(hs:sat g w (R*PbA X T true s)):∃lv Y,SF Y.Ml X.n T.lv/\ sat g w (R*PbO X s lv Y):=by
  obtain ⟨_,⟨a,b,hd,rfl,ha,lv,Y,hM,hb⟩,hx⟩:=hs.hp;exact ⟨lv,Y,hM,hs.os,hs.tape,hs.out,_,⟨a,b,hd,rfl,ha,hb⟩,hx⟩
theorem pba_open {g:Gh}{w:World}(hs:sat g w (R*PbA X T false s)):∃lv Y,WkOk X Y T (s.ls.length*64)/\ sat g w (R*WkA { X with lv:=lv } Y s):=by
  obtain ⟨_,⟨a,b,hd,rfl,ha,lv,Y,hM,hb⟩,hx⟩:=hs.hp;exact ⟨lv,Y,hM,hs.os,hs.tape,hs.out,_,⟨a,b,hd,rfl,ha,hb⟩,hx⟩
end
attribute [local irreducible] crk crL crc Sl pt ro Dev imgS recS readS recsF rdW rdO rkT Parts rvl recordsS runsL adrF kcl xcl kys runA runsF layF ovF TxA adZ WkA comS conB rootV
end Go.Vl

namespace Go.Vl
open Go Go.Proofs Go.Proofs.Tryz
def op12 (kn p n:Int)(ba:Option Addr)(bn bc:Nat)(ka:Option Addr)(kl kc:Nat):List Value:=[.int .i64 kn,.int .i64 p,.int .i64 n,.slice ba bn bc,.slice ka kl kc]
section
variable {kn p n:Int} {ba ka:Option Addr} {bn bc kl kc:Nat}
end
def x5a (x:Nat):Nat:=(IntKind.u8.wrap ((BitVec.ofInt IntKind.u8.bits (x:Int)^^^BitVec.ofInt IntKind.u8.bits 90).toNat:Int)).toNat
def ldD (z m:Int)(s:DevS):List Nat:=if rdy s.ls.length s.off z m=0 then ((imgS s).drop z.toNat).take m.toNat else []
def idlB (s:DevS)(b:Bool):Int:=if s.off=true then 5 else if b=true then 3 else 0
def recB (at_ sz:Nat)(b:Bool)(s:DevS):(Int×Int)×DevS:=if idlB s b≠0 then ((0,idlB s b),s) else rollS at_ sz s
def bgnB (at_ sz:Nat)(b:Bool)(s:DevS):Int:=if idlB s b≠0 then idlB s b else stpS at_ sz s
def eY (o:Option Bool)(s:DevS):Int:=match o with
  |none=>1
  |some ov=>e13 ov s
def oY (o:Option Bool)(s:DevS):Option Bool:=o.map λ ov=>o13 ov s
def takeY (n:Nat)(T:WkT)(o:Option Bool)(s:DevS):Int×Int×WkT:=if eY o s=0 then (((takeS n T).1:Int),(takeS n T).2.1,(takeS n T).2.2) else (0,eY o s,T)
def giveY (T:WkT)(o:Option Bool)(s:DevS)(b:Int):Int×WkT:=if eY o s=0 then giveS T b else (eY o s,T)
def readY (T:WkT)(o:Option Bool)(s:DevS)(ba:Nat)(b:Int):List Nat×Int:=if eY o s=0 then readW T s ba b else ([],eY o s)
def writeY (T:WkT)(o:Option Bool)(s:DevS)(ba:Nat)(b:Int)(xs:List Nat):Int×WkT:=if eY o s=0 then writeW T ba b xs else (eY o s,T)
def rootY (T:WkT)(o:Option Bool)(s:DevS):Nat×Int:=if eY o s=0 then (rootV T s,0) else (0,eY o s)
def setY (T:WkT)(o:Option Bool)(s:DevS)(v:Nat):Int×WkT:=if eY o s=0 then (0,T.root v) else (eY o s,T)
def comY (at_ sz N:Nat)(T:WkT)(o:Option Bool)(s:DevS):(Int×WkT)×DevS:=if eY o s=0 then (((comS at_ sz N T.f s).1.1,{ T with lv:=if (comS at_ sz N T.f s).1.1=0 then usedB T else T.lv }),(comS at_ sz N T.f s).2) else ((eY o s,T),s)
def dropY (o:Option Bool):Int:=match o with
  |none=>1
  |some ov=>dropZ ov
def endY (o:Option Bool):Option Bool:=o.map λ _=>true
def takenY (n:Nat)(g:Nat->Bool)(o:Option Bool):List Int:=match o with
  |none=>[]
  |some ov=>takenL n g ov
def blocksY (n:Nat)(o:Option Bool):Int:=match o with
  |none=>0
  |some _=>(n:Int)
def liveY (o:Option Bool):Bool:=match o with
  |some false=>true
  |_=>false
def loadY (n:Nat)(T:WkT)(o:Option Bool)(zs:List Int):Int×WkT:=if liveY o=true then (3,T) else if okZ n zs=true then (0,{ T with lv:=onZ zs }) else (2,T)
def bgnY (at_ sz:Nat)(T:WkT)(o:Option Bool)(s:DevS):Int×WkT×Option Bool:=if bgnB at_ sz (liveY o) s=0 then (0,T0 T.lv,some false) else (bgnB at_ sz (liveY o) s,T,o)
structure HkB (at_ sz ba n:Nat) (s:DevS):Prop where
  lo:128<=ba
  hi:ba+256*n<=s.ls.length*64
  top:s.ls.length*64<=4194304
  wf:WfD s
  lw:LogW (s.ls.length*64) at_ sz
theorem HkB.nb {at_ sz ba n:Nat}{s:DevS}(hb:HkB at_ sz ba n s):n<=4194304:=by have:=hb.hi;have:=hb.top;omega
def PLf (h p lg d at_ sz ba n:Nat)(wv:Value)(T:WkT)(o:Option Bool)(s:DevS):SP:=match o with
  |none=>λ hh=>∃lv M,wv= .pointer none/\ SF M n T.lv/\ RsA h p lg d at_ sz ba n lv M s hh
  |some ov=>λ hh=>∃w t mb lv tk gv,wv=(pz w)/\ PbA ⟨h,w,t,p,lg,d,mb,lv,tk,gv,at_,sz,ba,n⟩ T ov s hh
section
variable {P:Program} {fn:FuncId} {Q:Value->SP->Prop} {h p lg d at_ sz ba n:Nat} {wv:Value} {T:WkT} {s:DevS} {R:SP}
theorem fn_pln {args:Array Value}(k:∀lv M,wv= .pointer none->SF M n T.lv->Fn P fn args (R*RsA h p lg d at_ sz ba n lv M s) Q):Fn P fn args (R*PLf h p lg d at_ sz ba n wv T none s) Q:=λ g w hs=>by
  obtain ⟨_,⟨a,b,hd,rfl,ha,lv,M,hw,hM,hb⟩,hx⟩:=hs.hp;exact k lv M hw hM g w ⟨hs.os,hs.tape,hs.out,_,⟨a,b,hd,rfl,ha,hb⟩,hx⟩
theorem fn_pls {args:Array Value}{ov:Bool}(k:∀w t mb lv tk gv,wv=(pz w)->Fn P fn args (R*PbA ⟨h,w,t,p,lg,d,mb,lv,tk,gv,at_,sz,ba,n⟩ T ov s) Q):Fn P fn args (R*PLf h p lg d at_ sz ba n wv T (some ov) s) Q:=λ g w hs=>by
  obtain ⟨_,⟨a,b,hd,rfl,ha,w9,t,mb,lv,tk,gv,hw,hb⟩,hx⟩:=hs.hp;exact k w9 t mb lv tk gv hw g w ⟨hs.os,hs.tape,hs.out,_,⟨a,b,hd,rfl,ha,hb⟩,hx⟩
theorem pln_back {lv:Nat}{M:MS}(hM:SF M n T.lv){g:Gh}{w:World}(hs:sat g w (R*RsA h p lg d at_ sz ba n lv M s)):sat g w (R*PLf h p lg d at_ sz ba n (.pointer none) T none s):=
  hs.mono λ x ⟨a,b,hd,e,ha,hb⟩=>⟨a,b,hd,e,ha,lv,M,rfl,hM,hb⟩
theorem pls_back {w9 t mb lv tk gv:Nat}{ov:Bool}{g:Gh}{w:World}(hs:sat g w (R*PbA ⟨h,w9,t,p,lg,d,mb,lv,tk,gv,at_,sz,ba,n⟩ T ov s)):sat g w (R*PLf h p lg d at_ sz ba n ((pz w9)) T (some ov) s):=
  hs.mono λ x ⟨a,b,hd,e,ha,hb⟩=>⟨a,b,hd,e,ha,w9,t,mb,lv,tk,gv,rfl,hb⟩
end
attribute [local irreducible] crk crL crc Sl pt ro Dev imgS recS readS recsF rdW rdO rkT Parts rvl recordsS runsL adrF kcl xcl kys runA runsF layF ovF TxA adZ WkA comS conB rootV
end Go.Vl

namespace Go.Vl
open Go Go.Proofs Go.Proofs.Tryz
def RLf (hd q r lg at_ sz ba n:Nat)(wv:Value)(T:WkT)(o:Option Bool)(s:DevS):SP:=match o with
  |none=>λ hh=>∃l,wv= .pointer none/\ (pt hd (cl [pz q,vn ba,vn n,.slice (some ⟨l,0,none⟩) n n,.pointer none] 122)*Sl 1 (.slice (some ⟨l,0,none⟩) n n) n (bos (wasF n T.lv))*pt q (cl [pz r,pz lg,.pointer none] 177)*pt lg (cl [pz r,vn at_,vn sz] 208)*RDev r s) hh
  |some ov=>λ hh=>∃w t l k1 k2,wv=(pz w)/\ RbA ⟨hd,w,t,q,r,lg,at_,sz,ba,n,l,k1,k2⟩ T ov s hh
section
variable {P:Program} {fn:FuncId} {Q:Value->SP->Prop} {hd q r lg at_ sz ba n:Nat} {wv:Value} {T:WkT} {s:DevS} {R:SP}
theorem fn_rln {args:Array Value}(k:∀l,wv= .pointer none->Fn P fn args (R*(pt hd (cl [pz q,vn ba,vn n,.slice (some ⟨l,0,none⟩) n n,.pointer none] 122)*Sl 1 (.slice (some ⟨l,0,none⟩) n n) n (bos (wasF n T.lv))*pt q (cl [pz r,pz lg,.pointer none] 177)*pt lg (cl [pz r,vn at_,vn sz] 208)*RDev r s)) Q):Fn P fn args (R*RLf hd q r lg at_ sz ba n wv T none s) Q:=λ g w hs=>by
  obtain ⟨_,⟨a,b,hd,rfl,ha,l,hw,hb⟩,hx⟩:=hs.hp;exact k l hw g w ⟨hs.os,hs.tape,hs.out,_,⟨a,b,hd,rfl,ha,hb⟩,hx⟩
theorem fn_rls {args:Array Value}{ov:Bool}(k:∀w t l k1 k2,wv=(pz w)->Fn P fn args (R*RbA ⟨hd,w,t,q,r,lg,at_,sz,ba,n,l,k1,k2⟩ T ov s) Q):Fn P fn args (R*RLf hd q r lg at_ sz ba n wv T (some ov) s) Q:=λ g w hs=>by
  obtain ⟨_,⟨a,b,hd,rfl,ha,w9,t,l,k1,k2,hw,hb⟩,hx⟩:=hs.hp;exact k w9 t l k1 k2 hw g w ⟨hs.os,hs.tape,hs.out,_,⟨a,b,hd,rfl,ha,hb⟩,hx⟩
theorem rln_back {l:Nat}{g:Gh}{w:World}(hs:sat g w (R*(pt hd (cl [pz q,vn ba,vn n,.slice (some ⟨l,0,none⟩) n n,.pointer none] 122)*Sl 1 (.slice (some ⟨l,0,none⟩) n n) n (bos (wasF n T.lv))*pt q (cl [pz r,pz lg,.pointer none] 177)*pt lg (cl [pz r,vn at_,vn sz] 208)*RDev r s))):sat g w (R*RLf hd q r lg at_ sz ba n (.pointer none) T none s):=
  hs.mono λ x ⟨a,b,hd,e,ha,hb⟩=>⟨a,b,hd,e,ha,l,rfl,hb⟩
theorem rls_back {w9 t l k1 k2:Nat}{ov:Bool}{g:Gh}{w:World}(hs:sat g w (R*RbA ⟨hd,w9,t,q,r,lg,at_,sz,ba,n,l,k1,k2⟩ T ov s)):sat g w (R*RLf hd q r lg at_ sz ba n ((pz w9)) T (some ov) s):=
  hs.mono λ x ⟨a,b,hd,e,ha,hb⟩=>⟨a,b,hd,e,ha,w9,t,l,k1,k2,rfl,hb⟩
end
section
variable {A R:SP} {C:SP->SP} {h p lg d at_ sz ba n lv:Nat} {M:MS} {s:DevS} (hc:Ct A (RsA h p lg d at_ sz ba n lv M s) R C)
include hc
theorem rsa_p:Has A p (cl (pocs lg d none) 78):=λ g w h=>by
  rw [hc.1] at h;unfold RsA at h;exact has_pt g w (h.right.left.left.right)
theorem rsa_dev:Ct A (Dev d s) (R*pt h (cl (hcs p ba n lv none) 99)*pt lv (mpo .i64 M)*pt p (cl (pocs lg d none) 78)*pt lg (cl (lcs11 d at_ sz) 183)) (λ Z=>R*pt h (cl (hcs p ba n lv none) 99)*pt lv (mpo .i64 M)*pt p (cl (pocs lg d none) 78)*pt lg (cl (lcs11 d at_ sz) 183)*Z):=
  ⟨by rw [hc.1];unfold RsA;ac_rfl,λ _=>rfl⟩
end
attribute [local irreducible] crk crL crc Sl pt ro Dev imgS recS readS recsF rdW rdO rkT Parts rvl recordsS runsL adrF kcl xcl kys runA runsF layF ovF TxA adZ WkA comS conB rootV
theorem LoadH_st {A:SP}{h p ba n lv w m c:Nat}{a:Option Addr}(hh:Has A h (cl (hcs p ba n lv (some w)) 99)):
    Fn Tryz.prog 46 #[pz h,.slice a m c] A (λ r B=>r= .int .i64 3/\ A=B):=by
  refine fn_enterW func46 rfl ntmps46 (by simp) ?_;refine Zb0 ?_;refine tl_c rfl (o_call bd47 rfl (thereH_c (hh:=hh))) ?_;refine Zgy ?_;intro h;refine Zcx ?_;refine Zcd ?_;refine tv (o_load p40 rfl hh rfl) ?_;refine tv (o_nep underlying40 rfl rfl) ?_;refine Zd5 ?_;intro h;refine Zdy ?_;exact ⟨.int .i64 3,_,res1 rfl rfl,Dr.sat drqz,rfl,rfl⟩
theorem LoadH_any {A R:SP}{hd p ba n lv m c:Nat}{M:MS}{g:Nat->Bool}{a:Option Addr}{zs:List Int}(hA:A=R*pt hd (cl (hcs p ba n lv none) 99)*pt lv (mpo .i64 M))(hs:SF M n g)(hr:Rs R a (ints zs))(hm:zs.length=m)(hn:n<=4194304)(hml:m<=9223372036854775807):
    Fn Tryz.prog 46 #[pz hd,.slice a m c] A (λ r B=>∃l2 M2,r= .int .i64 (if okZ n zs=true then 0 else 2)/\ SF M2 n (if okZ n zs=true then onZ zs else g)/\ B=R*pt hd (cl (hcs p ba n l2 none) 99)*pt l2 (mpo .i64 M2)):=by
  refine fn_enterW func46 rfl ntmps46 (by simp) ?_;subst hA;refine Zb0 ?_;refine Zhz ?_;intro h;refine Zcx ?_;refine Zcd ?_;refine tv (o_load p40 rfl hsqz rfl) ?_;refine tv (o_nep underlying40 rfl rfl) ?_;refine Zm ?_;intro h;refine Zg4 ?_;refine tl_x rfl (o_makeMap (ik:= .i64) underlying97) ?_;rintro _ _ ⟨l2,rfl,rfl⟩;refine Zt ?_;refine Zgg ?_;refine tc_loop (λ kk ρ BB=>∃ (i:Nat) (M2:MS),(i<=m)/\ (SF M2 n (onZ (zs.take i)))/\ (okZ n (zs.take i)=true)/\ kk=m-i/\ ρ 19=(vn i)/\ ρ 0=(pz hd)/\ ρ 5= .map (some l2)/\ ρ 17= .slice a m c/\ ρ 18=(vn m)/\ Dr BB (R*pt hd (cl (hcs p ba n lv none) 99)*pt lv (mpo .i64 M)*pt l2 (mpo .i64 M2))) (m:=m-(0)) ?_ ?_
  . exact ⟨0,⟨[],0⟩,by omega,by rw [List.take_zero,onZ_nil];exact sf_nil 0 n,by rw [List.take_zero];exact okZ_nil n,rfl,rfl,rfl,rfl,rfl,rfl,drqz⟩
  intro k ρ B hI;obtain ⟨i,M2,hp0,hp1,hp2,hkk1,hE19,hE0,hE5,hE17,hE18,hBA⟩:=hI;refine tc_pre hBA.sat ?_;clear hBA;refine te 19 hE19 ?_;refine te 0 hE0 ?_;refine te 5 hE5 ?_;refine te 17 hE17 ?_;refine te 18 hE18 ?_;refine Zco ?_;refine tc_cond rfl (λ h=> ?_) (λ h=> ?_)
  . have hi:i<zs.length:=(by first|omega|(simp at h;omega));obtain ⟨x,hx1⟩:∃x,zs[i]=x:=⟨_,rfl⟩;have hat:(ints zs)[i]? =some (.int .i64 x):=(by rw [ints_at oqz,hx1]);refine Zet ?_;refine tv (o_ixP1 (a:=a) underlying22 sz3 rfl rfl oqz (nn_rs (xs:=ints zs) (by repeat (first|exact hr|apply Rs.left)) (by rw [ints_length];omega))) ?_;refine tv (o_ldP (a:=a) (xs:=ints zs) p3 rfl (by repeat (first|exact hr|apply Rs.left)) hat) ?_;refine Zt ?_;refine Zdw ?_;refine tl_bool (d:=25) rfl (λ h=> ?_) (λ h=> ?_)
    . have hbad:okZ n zs=false:=okZ_bad hi (.inl (by rw [hx1];first|omega|(simp at h;omega)));refine Zcl ?_;refine Zq ?_;refine Zg ?_;refine Zbi ?_;refine Zdh ?_;refine sr ?_;refine Zbd ?_;exact ⟨.int .i64 2,R*pt hd (cl (hcs p ba n lv none) 99)*pt lv (mpo .i64 M),res1 rfl rfl,Dr.sat drqz,lv,M,by rw [hbad];rfl,by rw [hbad];exact hs,rfl⟩
    have g25:¬(x<0):=(by first|exact of_decide_eq_false h|(have h2:=h;simp at h2;omega)|simpa using h);refine Ze2 ?_;refine Ze0 ?_;refine tv (o_geq rfl rfl) ?_;refine Zs ?_;refine tl_bool (d:=33) rfl (λ h=> ?_) (λ h=> ?_)
    . have hbad:okZ n zs=false:=okZ_bad hi (.inl (by rw [hx1];first|omega|(simp at h;omega)));refine Zg ?_;refine Zbi ?_;refine Zdh ?_;refine sr ?_;refine Zbd ?_;exact ⟨.int .i64 2,R*pt hd (cl (hcs p ba n lv none) 99)*pt lv (mpo .i64 M),res1 rfl rfl,Dr.sat drqz,lv,M,by rw [hbad];rfl,by rw [hbad];exact hs,rfl⟩
    have g33:0<=x/\ x<(n:Int):=(by first|(simp at h;omega)|(have h9:=of_decide_eq_false h;omega));obtain ⟨q,rfl⟩:=Int.eq_ofNat_of_zero_le g33.1;have hxn:q<n:=(by omega);refine Z0 ?_;refine tv (o_lookup (ik:= .i64) (M:=M2) underlying97 underlying3 z4 rfl rfl hsqz) ?_;refine tl_env (d:=36) (v:= .bool (onZ (zs.take i) q)) (by show (M2.get ((q:Nat):Int)).getD _=_;rw [mapV M2 ((q:Nat):Int) hp1];simp) ?_;refine Zhv ?_;refine tc_cond rfl (λ h=> ?_) (λ h=> ?_)
    . have hbad:okZ n zs=false:=(by first|assumption|(refine okZ_bad hi (.inr ?_);rw [hx1];have h9:=h;unfold onZ at h9;exact of_decide_eq_true h9));refine sr ?_;refine Zbd ?_;exact ⟨.int .i64 2,R*pt hd (cl (hcs p ba n lv none) 99)*pt lv (mpo .i64 M),res1 rfl rfl,Dr.sat drqz,lv,M,by rw [hbad];rfl,by rw [hbad];exact hs,rfl⟩
    have hnt:¬((q:Int)∈zs.take i):=(by have h9:=h;unfold onZ at h9;first|exact of_decide_eq_false h9|simpa using h9);have hok1:okZ n (zs.take (i+1))=true:=okZ_snoc hi hp2 (by rw [hx1];omega) (by rw [hx1];exact hnt);have htk:zs.take (i+1)=zs.take i++[(q:Int)]:=(by rw [List.take_succ_eq_append_getElem hi,hx1]);refine Zc ?_;refine Zc3 ?_;refine tl_u rfl (o_mapUpdate (ik:= .i64) (M:=M2) (v:= .bool true) underlying97 underlying3 rfl upqz rfl rfl rfl) ?_;refine Zfn ?_;exact ⟨_,by omega,i+1,_,by omega,by rw [htk,onZ_snoc];exact sf_put hp1 hxn,hok1,rfl,rfl,rfl,rfl,rfl,rfl,drqz⟩
  obtain rfl:i=m:=by first|omega|(simp at h;omega)
  rw [List.take_of_length_le oqz] at hp1 hp2
  refine Zdp ?_;refine Zf5 ?_;refine tl_u rfl (o_stU (l':=hcs p ba n l2 none) rfl upqz sz97 rfl rfl (by show 3<5;decide) rfl) ?_;refine nq ?_;refine Zdq ?_;exact ⟨.int .i64 0,R*pt hd (cl (hcs p ba n l2 none) 99)*pt l2 (mpo .i64 M2),res1 rfl rfl,(λ g9 w9 h9=>Dr.sat ⟨pt lv (mpo .i64 M),by ac_rfl⟩ g9 w9 h9),l2,M2,by rw [hp2];rfl,by rw [hp2];exact hp1,rfl⟩
end Go.Vl

namespace Go.Vl
open Go Go.Proofs Go.Proofs.Tryz
theorem loadY_no {n:Nat}{T:WkT}{o:Option Bool}{zs:List Int}(h:liveY o=false):loadY n T o zs=(if okZ n zs=true then 0 else 2,{ T with lv:=if okZ n zs=true then onZ zs else T.lv }):=by
  unfold loadY
  rw [if_neg (by rw [h];decide)]
  split<;>rfl
theorem LoadP {R:SP}{h p lg d at_ sz ba n:Nat}{wv:Value}{T:WkT}{o:Option Bool}{s:DevS}(hb:HkB at_ sz ba n s){a:Option Addr}{m c:Nat}{zs:List Int}(hr:Rs R a (ints zs):=by exact rbqz)(hm:zs.length=m)(hml:m<=9223372036854775807:=by omega):Fn Tryz.prog 46 #[pz h,.slice a m c] (R*PLf h p lg d at_ sz ba n wv T o s) (λ r B=>r= .int .i64 (loadY n T o zs).1/\ B=R*PLf h p lg d at_ sz ba n wv (loadY n T o zs).2 o s):=by
  cases o with
  |none=>
    refine fn_pln λ lv M hwv hM=> ?_
    subst hwv;rw [loadY_no rfl]
    refine Fn.weak (LoadH_any (R:=R*pt p (cl (pocs lg d none) 78)*pt lg (cl (lcs11 d at_ sz) 183)*Dev d s) (hd:=h) (p:=p) (ba:=ba) (n:=n) (lv:=lv) (M:=M) (g:=T.lv) (zs:=zs) (by unfold RsA;ac_rfl) hM (by repeat (first|exact hr|apply Rs.left)) hm hb.nb hml) ?_;rintro v B ⟨l2,M2,rfl,h2,rfl⟩;exact ⟨_,λ g9 w9 h9=>pln_back (T:={ T with lv:=if okZ n zs=true then onZ zs else T.lv }) h2 (h9.perm (by unfold RsA;ac_rfl)),rfl,rfl⟩
  |some ov=>
    refine fn_pls λ w t mb lv tk gv hwv=> ?_
    subst hwv
    cases ov with
    |true=>
      rw [loadY_no rfl]
      refine fn_pbo λ lv2 Y hM=> ?_
      refine Fn.weak (LoadH_any (R:=R*pt p (cl (pocs lg d none) 78)*pt lg (cl (lcs11 d at_ sz) 183)*Dev d s*pt w (cl (wcs h t tk gv Y.ls true) 101)) (hd:=h) (p:=p) (ba:=ba) (n:=n) (lv:=lv2) (M:=Y.Ml) (g:=T.lv) (zs:=zs) (by unfold PbO RsA;dsimp only;ac_rfl) hM (by repeat (first|exact hr|apply Rs.left)) hm hb.nb hml) ?_;rintro v B ⟨l2,M2,rfl,h2,rfl⟩;exact ⟨_,λ g9 w9 h9=>pls_back (T:={ T with lv:=if okZ n zs=true then onZ zs else T.lv }) (pbo_back (X:=⟨h,w,t,p,lg,d,mb,lv,tk,gv,at_,sz,ba,n⟩) (lv:=l2) (Y:={ Y with Ml:=M2 }) h2 (h9.perm (by unfold PbO RsA;dsimp only;ac_rfl))),rfl,rfl⟩
    |false=>
      refine fn_pba λ lv2 Y hok=>Fn.weak (LoadH_st (wka_h (X:={ (⟨h,w,t,p,lg,d,mb,lv,tk,gv,at_,sz,ba,n⟩:WkX) with lv:=lv2 }) ct_here)) ?_
      rintro v B ⟨rfl,rfl⟩;exact ⟨_,λ g9 w9 h9=>pls_back (pba_back (X:=⟨h,w,t,p,lg,d,mb,lv,tk,gv,at_,sz,ba,n⟩) hok h9),rfl,rfl⟩
structure StU where
  k:Int
  q:Int
  n:Int
  ea:Option Addr
  ec:Nat
  es:List (Int×Int)
  da:Option Addr
  dc:Nat
  d:List Nat
  ka:Option Addr
  kc:Nat
  kp:List Int
def StU.cells (t:StU):List Value:=[.int .i64 t.k,.int .i64 t.q,.int .i64 t.n,.slice t.ea t.es.length t.ec,.slice t.da t.d.length t.dc,.slice t.ka t.kp.length t.kc]
structure StUW (A:SP) (t:StU):Prop where
  k: -9223372036854775808<=t.k/\ t.k<=9223372036854775807
  q: -9223372036854775808<=t.q/\ t.q<=9223372036854775807
  n: -9223372036854775808<=t.n/\ t.n<=9223372036854775807
  ers:Rs A t.ea (xcl t.es)
  ex:∀x∈t.es,XW x
  dcap:t.d.length<=t.dc
  drs:Rs A t.da (bys t.d)
  dby:∀x∈t.d,x<256
  kcap:t.kp.length<=t.kc
  krs:Rs A t.ka (ints t.kp)
  kb:∀x∈t.kp,-9223372036854775808<=x/\ x<=9223372036854775807
def StU.sz (t:StU):Nat:=t.es.length+t.d.length+t.kp.length+1
theorem StUW.left {A X:SP}{t:StU}(h:StUW A t):StUW (A*X) t:=⟨h.k,h.q,h.n,h.ers.left,h.ex,h.dcap,h.drs.left,h.dby,h.kcap,h.krs.left,h.kb⟩
def xf11 (x:Nat):Nat:=(IntKind.u8.wrap ((BitVec.ofInt IntKind.u8.bits (x:Int)^^^BitVec.ofInt IntKind.u8.bits 255).toNat:Int)).toNat
theorem arm_len (ars:List (Int×List Int))(s:DevS):(armS ars s).2.ls.length=s.ls.length:=by
  unfold armS
  split
  . rfl
  split
  . rfl
  split<;>rfl
structure Op12U where
  k:Int
  p:Int
  n:Int
  ba:Option Addr
  bc:Nat
  X:List Nat
  ka:Option Addr
  kc:Nat
  kp:List Int
def Op12U.cells (t:Op12U):List Value:=op12 t.k t.p t.n t.ba t.X.length t.bc t.ka t.kp.length t.kc
structure Op12W (A:SP) (t:Op12U):Prop where
  k: -9223372036854775808<=t.k/\ t.k<=9223372036854775807
  p: -9223372036854775808<=t.p/\ t.p<=9223372036854775807
  n: -9223372036854775808<=t.n/\ t.n<=9223372036854775807
  bcap:t.X.length<=t.bc
  brs:Rs A t.ba (bys t.X)
  bby:∀x∈t.X,x<256
  kcap:t.kp.length<=t.kc
  krs:Rs A t.ka (ints t.kp)
  kb:∀x∈t.kp,-9223372036854775808<=x/\ x<=9223372036854775807
def Op12U.sz (t:Op12U):Nat:=t.X.length+t.kp.length+1
theorem Op12W.left {A X:SP}{t:Op12U}(h:Op12W A t):Op12W (A*X) t:=⟨h.k,h.p,h.n,h.bcap,h.brs.left,h.bby,h.kcap,h.krs.left,h.kb⟩
attribute [local irreducible] crk crL crc Sl pt ro Dev imgS recS readS recsF rdW rdO rkT Parts rvl recordsS runsL adrF kcl xcl kys runA runsF layF ovF TxA adZ WkA SlB blkS conB imF RDev lineC RLines TxR TxE ldT TxX wasF
theorem rLoadP {R:SP}{hd q r lg at_ sz ba n:Nat}{wv:Value}{T:WkT}{o:Option Bool}{s:DevS}(hb:HkB at_ sz ba n s){a:Option Addr}{m c:Nat}{zs:List Int}(hr:Rs R a (ints zs):=by exact rbqz)(hm:zs.length=m)(hml:m<=9223372036854775807:=by omega):Fn Tryz.prog 66 #[pz hd,.slice a m c] (R*RLf hd q r lg at_ sz ba n wv T o s) (λ rr B=>rr= .int .i64 (loadY n T o zs).1/\ B=R*RLf hd q r lg at_ sz ba n wv (loadY n T o zs).2 o s):=by
  cases o with
  |none=>
    refine fn_rln λ l hwv=> ?_
    subst hwv;rw [loadY_no rfl]
    refine Fn.weak (rLoadH_any (R:=R*pt q (cl [pz r,pz lg,.pointer none] 177)*pt lg (cl [pz r,vn at_,vn sz] 208)*RDev r s) (hd:=hd) (q:=q) (ba:=ba) (n:=n) (l:=l) (o:= .pointer none) (g:=T.lv) (zs:=zs) (by ac_rfl) (rOpen_0 (q:=q) (ba:=ba) (n:=n) (l:=l) (λ g w h=>has_pt g w h.right.left.left.left.left)) (by repeat (first|exact hr|apply Rs.left)) hm hb.nb hml) ?_;rintro v B ⟨l2,rfl,rfl⟩;exact ⟨_,λ g9 w9 h9=>rln_back (T:={ T with lv:=if okZ n zs=true then onZ zs else T.lv }) (h9.perm (by ac_rfl)),rfl,rfl⟩
  |some ov=>
    refine fn_rls λ w t l k1 k2 hwv=> ?_
    subst hwv
    cases ov with
    |true=>
      rw [loadY_no rfl]
      refine Fn.weak (rLoadH_any (R:=R*pt w (cl [pz hd,pz t,.slice (some ⟨k1,0,none⟩) n n,.slice (some ⟨k2,0,none⟩) n n,.bool true] 190)*Sl 1 (.slice (some ⟨k1,0,none⟩) n n) n (bos (wasF n T.tk))*Sl 1 (.slice (some ⟨k2,0,none⟩) n n) n (bos (wasF n T.gv))*TxX t q r lg at_ sz (oF true T.f) s) (hd:=hd) (q:=q) (ba:=ba) (n:=n) (l:=l) (o:=(pz w)) (g:=T.lv) (zs:=zs) (by unfold RbA;dsimp only;ac_rfl) (rOpen_w (X:=⟨hd,w,t,q,r,lg,at_,sz,ba,n,l,k1,k2⟩) (T:=T) (ov:=true) (s:=s) ct_here) (by repeat (first|exact hr|apply Rs.left)) hm hb.nb hml) ?_;rintro v B ⟨l2,rfl,rfl⟩;exact ⟨_,λ g9 w9 h9=>rls_back (w9:=w) (t:=t) (l:=l2) (k1:=k1) (k2:=k2) (T:={ T with lv:=if okZ n zs=true then onZ zs else T.lv }) (h9.perm (by unfold RbA;dsimp only;ac_rfl)),rfl,rfl⟩
    |false=>
      refine Fn.weak (rLoad_st (rOpen_w (X:=⟨hd,w,t,q,r,lg,at_,sz,ba,n,l,k1,k2⟩) (T:=T) (ov:=false) (s:=s) ct_here)) ?_;rintro v B ⟨rfl,rfl⟩;exact ⟨_,λ g9 w9 h9=>rls_back h9,rfl,rfl⟩
end Go.Vl

namespace Go.Vl
open Go Go.Proofs Go.Proofs.Tryz
theorem pl_open {R:SP}{h p lg d at_ sz ba n:Nat}{wv:Value}{T:WkT}{o:Option Bool}{s:DevS}{g:Gh}{w:World}(hs:sat g w (R*PLf h p lg d at_ sz ba n wv T o s)):∃Z,sat g w (R*Dev d s*Z)/\∀ (R':SP) (s2:DevS),s2.ls.length=s.ls.length->∀g w,sat g w (R'*Dev d s2*Z)->sat g w (R'*PLf h p lg d at_ sz ba n wv T o s2):=by
  cases o with
  |none=>
    obtain ⟨_,⟨a,b,hdis,rfl,ha,lv,M,rfl,hM,hb⟩,hx⟩:=hs.hp;have h1:sat g w (R*RsA h p lg d at_ sz ba n lv M s):=⟨hs.os,hs.tape,hs.out,_,⟨a,b,hdis,rfl,ha,hb⟩,hx⟩;exact ⟨pt h (cl (hcs p ba n lv none) 99)*pt lv (mpo .i64 M)*pt p (cl (pocs lg d none) 78)*pt lg (cl (lcs11 d at_ sz) 183),h1.perm (by unfold RsA;ac_rfl),λ R' s2 _ g w h=>pln_back hM (h.perm (by unfold RsA;ac_rfl))⟩
  |some ov=>
    obtain ⟨_,⟨a,b,hdis,rfl,ha,w0,t,mb,lv,tk,gv,rfl,hb⟩,hx⟩:=hs.hp;have h1:sat g w (R*PbA ⟨h,w0,t,p,lg,d,mb,lv,tk,gv,at_,sz,ba,n⟩ T ov s):=⟨hs.os,hs.tape,hs.out,_,⟨a,b,hdis,rfl,ha,hb⟩,hx⟩
    cases ov with
    |true=>
      obtain ⟨lv2,Y,hM,h2⟩:=pbo_open h1;exact ⟨pt h (cl (hcs p ba n lv2 none) 99)*pt lv2 (mpo .i64 Y.Ml)*pt p (cl (pocs lg d none) 78)*pt lg (cl (lcs11 d at_ sz) 183)*pt w0 (cl (wcs h t tk gv Y.ls true) 101),h2.perm (by unfold PbO RsA;dsimp only;ac_rfl),λ R' s2 _ g w h=>pls_back (pbo_back (X:=⟨_,w0,t,_,_,_,mb,lv,tk,gv,_,_,_,_⟩) (lv:=lv2) (Y:=Y) hM (h.perm (by unfold PbO RsA;dsimp only;ac_rfl)))⟩
    |false=>
      obtain ⟨lv2,Y,hok,h2⟩:=pba_open h1;exact ⟨pt h (cl (hcs p ba n lv2 (some w0)) 99)*pt w0 (cl (wcs h t tk gv Y.ls false) 101)*pt lv2 (mpo .i64 Y.Ml)*pt tk (mpo .i64 Y.Mt)*pt gv (mpo .i64 Y.Mg)*pt p (cl (pocs lg d (some t)) 78)*pt lg (cl (lcs11 d at_ sz) 183)*pt t (cl (txcs p mb false) 155)*pt mb (mpo .i64 Y.M),h2.perm (by unfold WkA TxA;dsimp only;simp only [Bool.false_eq_true,if_false];ac_rfl),λ R' s2 e g w h=>pls_back (pba_back (X:=⟨_,w0,t,_,_,_,mb,lv,tk,gv,_,_,_,_⟩) (lv:=lv2) (Y:=Y) (by rw [e];exact hok) (h.perm (by unfold WkA TxA;dsimp only;simp only [Bool.false_eq_true,if_false];ac_rfl)))⟩
theorem rl_open {R:SP}{hd q r lg at_ sz ba n:Nat}{wv:Value}{T:WkT}{o:Option Bool}{s:DevS}{g:Gh}{w:World}(hs:sat g w (R*RLf hd q r lg at_ sz ba n wv T o s)):∃Z,sat g w (R*RDev r s*Z)/\∀ (R':SP) (s2:DevS),s2.ls.length=s.ls.length->∀g w,sat g w (R'*RDev r s2*Z)->sat g w (R'*RLf hd q r lg at_ sz ba n wv T o s2):=by
  cases o with
  |none=>
    obtain ⟨_,⟨a,b,hdis,rfl,ha,l,rfl,hb⟩,hx⟩:=hs.hp;have h1:sat g w (R*(pt hd (cl [pz q,vn ba,vn n,.slice (some ⟨l,0,none⟩) n n,.pointer none] 122)*Sl 1 (.slice (some ⟨l,0,none⟩) n n) n (bos (wasF n T.lv))*pt q (cl [pz r,pz lg,.pointer none] 177)*pt lg (cl [pz r,vn at_,vn sz] 208)*RDev r s)):=⟨hs.os,hs.tape,hs.out,_,⟨a,b,hdis,rfl,ha,hb⟩,hx⟩;exact ⟨pt hd (cl [pz q,vn ba,vn n,.slice (some ⟨l,0,none⟩) n n,.pointer none] 122)*Sl 1 (.slice (some ⟨l,0,none⟩) n n) n (bos (wasF n T.lv))*pt q (cl [pz r,pz lg,.pointer none] 177)*pt lg (cl [pz r,vn at_,vn sz] 208),h1.perm (by ac_rfl),λ R' s2 _ g w h=>rln_back (l:=l) (h.perm (by ac_rfl))⟩
  |some ov=>
    obtain ⟨_,⟨a,b,hdis,rfl,ha,w0,t,l,k1,k2,rfl,hb⟩,hx⟩:=hs.hp;have h1:sat g w (R*RbA ⟨hd,w0,t,q,r,lg,at_,sz,ba,n,l,k1,k2⟩ T ov s):=⟨hs.os,hs.tape,hs.out,_,⟨a,b,hdis,rfl,ha,hb⟩,hx⟩
    cases ov with
    |true=>
      exact ⟨pt hd (cl [pz q,vn ba,vn n,.slice (some ⟨l,0,none⟩) n n,pz w0] 122)*pt w0 (cl [pz hd,pz t,.slice (some ⟨k1,0,none⟩) n n,.slice (some ⟨k2,0,none⟩) n n,.bool true] 190)*Sl 1 (.slice (some ⟨l,0,none⟩) n n) n (bos (wasF n T.lv))*Sl 1 (.slice (some ⟨k1,0,none⟩) n n) n (bos (wasF n T.tk))*Sl 1 (.slice (some ⟨k2,0,none⟩) n n) n (bos (wasF n T.gv))*pt q (cl [pz r,pz lg,.pointer none] 177)*pt lg (cl [pz r,vn at_,vn sz] 208)*pt t (cl [pz q,.slice none 0 0,.bool true] 219),h1.perm (by unfold RbA TxX TxE oF;dsimp only;simp only [if_true];ac_rfl),λ R' s2 _ g w h=>rls_back (w9:=w0) (t:=t) (l:=l) (k1:=k1) (k2:=k2) (ov:=true) (h.perm (by unfold RbA TxX TxE oF;dsimp only;simp only [if_true];ac_rfl))⟩
    |false=>
      obtain ⟨a9,m,c,vs,D,g1,g2,g3,g4⟩:=txr_iff.1 (show sat g w ((R*(pt hd (cl [pz q,vn ba,vn n,.slice (some ⟨l,0,none⟩) n n,pz w0] 122)*pt w0 (cl [pz hd,pz t,.slice (some ⟨k1,0,none⟩) n n,.slice (some ⟨k2,0,none⟩) n n,.bool false] 190)*Sl 1 (.slice (some ⟨l,0,none⟩) n n) n (bos (wasF n T.lv))*Sl 1 (.slice (some ⟨k1,0,none⟩) n n) n (bos (wasF n T.tk))*Sl 1 (.slice (some ⟨k2,0,none⟩) n n) n (bos (wasF n T.gv))))*TxR t q r lg at_ sz T.f s) from h1.perm (by unfold RbA TxX oF;dsimp only;simp only [Bool.false_eq_true,if_false];ac_rfl));exact ⟨pt hd (cl [pz q,vn ba,vn n,.slice (some ⟨l,0,none⟩) n n,pz w0] 122)*pt w0 (cl [pz hd,pz t,.slice (some ⟨k1,0,none⟩) n n,.slice (some ⟨k2,0,none⟩) n n,.bool false] 190)*Sl 1 (.slice (some ⟨l,0,none⟩) n n) n (bos (wasF n T.lv))*Sl 1 (.slice (some ⟨k1,0,none⟩) n n) n (bos (wasF n T.tk))*Sl 1 (.slice (some ⟨k2,0,none⟩) n n) n (bos (wasF n T.gv))*pt q (cl [pz r,pz lg,pz t] 177)*pt lg (cl [pz r,vn at_,vn sz] 208)*pt t (cl [pz q,.slice a9 m c,.bool false] 219)*Sl 1 (.slice a9 m c) m (ptrV vs)*RLines vs D T.f,g4.perm (by ac_rfl),λ R' s2 e g w h=>rls_back (w9:=w0) (t:=t) (l:=l) (k1:=k1) (k2:=k2) (ov:=false) ((txr_back (R:=R'*(pt hd (cl [pz q,vn ba,vn n,.slice (some ⟨l,0,none⟩) n n,pz w0] 122)*pt w0 (cl [pz hd,pz t,.slice (some ⟨k1,0,none⟩) n n,.slice (some ⟨k2,0,none⟩) n n,.bool false] 190)*Sl 1 (.slice (some ⟨l,0,none⟩) n n) n (bos (wasF n T.lv))*Sl 1 (.slice (some ⟨k1,0,none⟩) n n) n (bos (wasF n T.tk))*Sl 1 (.slice (some ⟨k2,0,none⟩) n n) n (bos (wasF n T.gv)))) (t:=t) (q:=q) (r:=r) (lg:=lg) (la:=at_) (lz:=sz) (f:=T.f) (s:=s2) (a:=a9) (m:=m) (c:=c) (vs:=vs) (D:=D) g1 g2 (by rw [e];exact g3) g w (h.perm (by ac_rfl))).perm (by unfold RbA TxX oF;dsimp only;simp only [Bool.false_eq_true,if_false];ac_rfl))⟩
section
variable {P:Program} {fn:FuncId} {args:Array Value} {Q:Value->SP->Prop}
theorem fn_pl_dev {R:SP}{h p lg d at_ sz ba n:Nat}{wv:Value}{T:WkT}{o:Option Bool}{s:DevS}(k:∀Z,(∀ (R':SP) (s2:DevS),s2.ls.length=s.ls.length->∀g w,sat g w (R'*Dev d s2*Z)->sat g w (R'*PLf h p lg d at_ sz ba n wv T o s2))->Fn P fn args (R*Dev d s*Z) Q):Fn P fn args (R*PLf h p lg d at_ sz ba n wv T o s) Q:=λ g w hs=>by
  obtain ⟨Z,h1,h2⟩:=pl_open hs;exact k Z h2 g w h1
theorem fn_rl_dev {R:SP}{hd q r lg at_ sz ba n:Nat}{wv:Value}{T:WkT}{o:Option Bool}{s:DevS}(k:∀Z,(∀ (R':SP) (s2:DevS),s2.ls.length=s.ls.length->∀g w,sat g w (R'*RDev r s2*Z)->sat g w (R'*RLf hd q r lg at_ sz ba n wv T o s2))->Fn P fn args (R*RDev r s*Z) Q):Fn P fn args (R*RLf hd q r lg at_ sz ba n wv T o s) Q:=λ g w hs=>by
  obtain ⟨Z,h1,h2⟩:=rl_open hs;exact k Z h2 g w h1
end
theorem ArmP {R:SP}{h p lg d at_ sz ba n:Nat}{wv:Value}{T:WkT}{o:Option Bool}{s:DevS}{a:Option Addr}{c m:Nat}{kvs:List Value}{ars:List (Int×List Int)}(hr:RdA R a kvs ars)(hm:ars.length=m)(hl:m<=17592186044416)(hk:∀x∈ars,(-9223372036854775808<=x.1/\ x.1<=9223372036854775807)/\ x.2.length<=17592186044416/\∀k∈x.2,k<=9223372036854775807):Fn Tryz.prog 67 #[pz d,.slice a m c] (R*PLf h p lg d at_ sz ba n wv T o s) (λ rr B=>rr= .int .i64 (armS ars s).1/\ B=R*PLf h p lg d at_ sz ba n wv T o (armS ars s).2):=by
  refine fn_pl_dev λ Z hZ=>Fn.weak (Arm_c (hc:=ct_left ct_here) (hr:=hr.left) (hm:=hm) (hl:=hl) (hk:=hk)) ?_
  rintro v B ⟨e,s2,h1,rfl,rfl⟩;rw [h1]
  have:=arm_len ars s;rw [h1] at this
  exact ⟨_,λ g9 w9 h9=>hZ R _ this g9 w9 h9,rfl,rfl⟩
theorem rArmP {R:SP}{hd q r lg at_ sz ba n:Nat}{wv:Value}{T:WkT}{o:Option Bool}{s:DevS}{a:Option Addr}{c m:Nat}{kvs:List Value}{ars:List (Int×List Int)}(hr:RdA R a kvs ars)(hm:ars.length=m)(hl:m<=17592186044416)(hk:∀x∈ars,(-9223372036854775808<=x.1/\ x.1<=9223372036854775807)/\ x.2.length<=17592186044416/\∀k∈x.2,k<=9223372036854775807):Fn Tryz.prog 68 #[pz r,.slice a m c] (R*RLf hd q r lg at_ sz ba n wv T o s) (λ rr B=>rr= .int .i64 (armS ars s).1/\ B=R*RLf hd q r lg at_ sz ba n wv T o (armS ars s).2):=by
  refine fn_rl_dev λ Z hZ=>Fn.weak (rArm_c (hc:=ct_left ct_here) (hr:=hr.left) (hm:=hm) (hl:=hl) (hk:=hk)) ?_
  rintro v B ⟨e,s2,h1,rfl,rfl⟩;rw [h1]
  have:=arm_len ars s;rw [h1] at this
  exact ⟨_,λ g9 w9 h9=>hZ R _ this g9 w9 h9,rfl,rfl⟩
theorem LoadPC {A R:SP}{C:SP->SP}{h p lg d at_ sz ba n:Nat}{wv:Value}{T:WkT}{o:Option Bool}{s:DevS}(hc:Ct A (PLf h p lg d at_ sz ba n wv T o s) R C:=by exact cbqz)(hb:HkB at_ sz ba n s){a:Option Addr}{m c:Nat}{zs:List Int}(hr:Rs R a (ints zs):=by exact rbqz)(hm:zs.length=m)(hml:m<=9223372036854775807:=by omega):Fn Tryz.prog 46 #[pz h,.slice a m c] A (λ r B=>r= .int .i64 (loadY n T o zs).1/\ B=C (PLf h p lg d at_ sz ba n wv (loadY n T o zs).2 o s)):=by
  obtain ⟨rfl,hC⟩:=hc
  simp only [hC]
  exact LoadP (hb:=hb) (hr:=hr) (hm:=hm) (hml:=hml)
theorem rLoadPC {A R:SP}{C:SP->SP}{hd q r lg at_ sz ba n:Nat}{wv:Value}{T:WkT}{o:Option Bool}{s:DevS}(hc:Ct A (RLf hd q r lg at_ sz ba n wv T o s) R C:=by exact cbqz)(hb:HkB at_ sz ba n s){a:Option Addr}{m c:Nat}{zs:List Int}(hr:Rs R a (ints zs):=by exact rbqz)(hm:zs.length=m)(hml:m<=9223372036854775807:=by omega):Fn Tryz.prog 66 #[pz hd,.slice a m c] A (λ rr B=>rr= .int .i64 (loadY n T o zs).1/\ B=C (RLf hd q r lg at_ sz ba n wv (loadY n T o zs).2 o s)):=by
  obtain ⟨rfl,hC⟩:=hc
  simp only [hC]
  exact rLoadP (hb:=hb) (hr:=hr) (hm:=hm) (hml:=hml)
theorem ArmPC {A R:SP}{C:SP->SP}{h p lg d at_ sz ba n:Nat}{wv:Value}{T:WkT}{o:Option Bool}{s:DevS}(hc:Ct A (PLf h p lg d at_ sz ba n wv T o s) R C:=by exact cbqz){a:Option Addr}{c m:Nat}{kvs:List Value}{ars:List (Int×List Int)}(hr:RdA R a kvs ars)(hm:ars.length=m)(hl:m<=17592186044416)(hk:∀x∈ars,(-9223372036854775808<=x.1/\ x.1<=9223372036854775807)/\ x.2.length<=17592186044416/\∀k∈x.2,k<=9223372036854775807):Fn Tryz.prog 67 #[pz d,.slice a m c] A (λ rr B=>rr= .int .i64 (armS ars s).1/\ B=C (PLf h p lg d at_ sz ba n wv T o (armS ars s).2)):=by
  obtain ⟨rfl,hC⟩:=hc
  simp only [hC]
  exact ArmP (hr:=hr) (hm:=hm) (hl:=hl) (hk:=hk)
theorem rArmPC {A R:SP}{C:SP->SP}{hd q r lg at_ sz ba n:Nat}{wv:Value}{T:WkT}{o:Option Bool}{s:DevS}(hc:Ct A (RLf hd q r lg at_ sz ba n wv T o s) R C:=by exact cbqz){a:Option Addr}{c m:Nat}{kvs:List Value}{ars:List (Int×List Int)}(hr:RdA R a kvs ars)(hm:ars.length=m)(hl:m<=17592186044416)(hk:∀x∈ars,(-9223372036854775808<=x.1/\ x.1<=9223372036854775807)/\ x.2.length<=17592186044416/\∀k∈x.2,k<=9223372036854775807):Fn Tryz.prog 68 #[pz r,.slice a m c] A (λ rr B=>rr= .int .i64 (armS ars s).1/\ B=C (RLf hd q r lg at_ sz ba n wv T o (armS ars s).2)):=by
  obtain ⟨rfl,hC⟩:=hc
  simp only [hC]
  exact rArmP (hr:=hr) (hm:=hm) (hl:=hl) (hk:=hk)
attribute [local irreducible] crk crL crc Sl pt ro Dev imgS recS readS recsF rdW rdO rkT Parts rvl recordsS runsL adrF kcl xcl kys runA runsF layF ovF TxA adZ WkA comS rollS fromS im13 s13 rootV
theorem works13_c {A:SP}:
    Fn Tryz.prog 25 #[] A (λ r B=>r= .bool true/\ A=B):=by
  refine fn_enterW func25 rfl ntmps25 (by simp) ?_;refine Zci ?_;refine sr ?_;refine tl_x rfl (o_buildSliceL (k:=1) (vs:=ints [0]) (l:=ints [0]) underlying22 sz3 z3 rfl rfl (by decide) (by decide) (by intro v hv;simp only [ints,i64,List.map_cons,List.map_nil,List.mem_cons,List.not_mem_nil,or_false] at hv;first|(subst hv;rfl)|(rcases hv with rfl|rfl|rfl<;>rfl)) rfl) ?_;rintro _ _ ⟨b13,rfl,rfl⟩;refine tv (o_bS (l:=su5 192 4 0 (.slice (some ⟨b13,0,none⟩) 1 1) (.slice none 0 0)) (pv_cons wqz (pv_cons wqz (pv_cons wqz pv_nil))) underlying25 z25 (pl25 underlying25) rfl) ?_;refine tl_c rfl (o_call bd9 rfl (plain13_c (lg:=192) (n:=4) (fi:=0) (m:=1) (c:=1) (zs:=[0]) (h1:=by decide) (h2:=by decide) (h3:=by decide) (h4:=by decide) (hfi:=by decide) (hr:=show Rs _ _ (ints [0]) from by repeat (first|exact rs_pt rfl|apply Rs.left)) (hm:=rfl) (hnd:=by decide) (hz:=by decide))) ?_;rintro _ _ ⟨d15,h15,p15,l15,lv15,M15,rfl,hM15,rfl⟩;have hcal:=s13_calm (lg:=192) (n:=4) (fi:=0) (by decide) (by decide) (by decide) (by decide);obtain ⟨sd,hsd⟩:∃sd,s13 192 4 0=sd:=⟨_,rfl⟩;rw [hsd] at hcal ⊢
  refine Zd3 ?_;refine tv (o_eqp underlying28 rfl rfl) ?_;refine Zm ?_;intro h;refine Zb8 ?_;refine tl_c rfl (o_call bd12 rfl (Begin13_rest (R:=A*pt b13 (cl (ints [0]) 3)) (h:=h15) (p:=p15) (lg:=l15) (d:=d15) (at_:=128) (sz:=192) (ba:=128+192) (n:=4) (lv:=lv15) (M:=M15) (s:=sd) (hA:=rfl) (hc:=hcal))) ?_;rintro _ _ ⟨w22,t22,mb22,tk22,gv22,rfl,rfl⟩;have hbk:WkB (⟨h15,w22,t22,p15,l15,d15,mb22,lv15,tk22,gv22,128,192,(128+192),4⟩:WkX) sd:=calm_wkb hcal (by show 128<=128+192;decide) (by show 128+192+256*4<=nl13 192 4*64;decide);have hon:=hcal.on;refine Zgv ?_;refine tl_c rfl (o_call bd14 rfl (Take13_ok (X:=(⟨h15,w22,t22,p15,l15,d15,mb22,lv15,tk22,gv22,128,192,(128+192),4⟩:WkX)) (Y:=(⟨M15,⟨[],0⟩,⟨[],0⟩,⟨[],0⟩,0⟩:WkY)) (T:=T0 (onL [0])) (s:=sd) (hok:=wk_new hM15) (hb:=hbk) (b:=1) (hf:=show leastB _ 4=some 1 from by decide) (ho:=hon))) ?_;rintro _ _ ⟨Y27,rfl,hok27,rfl⟩;refine Zgv ?_;refine tl_c rfl (o_call bd14 rfl (Take13_ok (X:=(⟨h15,w22,t22,p15,l15,d15,mb22,lv15,tk22,gv22,128,192,(128+192),4⟩:WkX)) (Y:=Y27) (T:=(T0 (onL [0])).take 1) (s:=sd) (hok:=hok27) (hb:=hbk) (b:=2) (hf:=show leastB _ 4=some 2 from by decide) (ho:=hon))) ?_;rintro _ _ ⟨Y32,rfl,hok32,rfl⟩;refine Zbx ?_;refine Zfe ?_;refine tl_x rfl (o_makeSlice (len:=256) (cap:=256) underlying32 sz5 by5 z5 rfl rfl rfl oqz oqz oqz) ?_;rintro _ _ ⟨b35,rfl,rfl⟩;refine tl_pre (λ _ _ h=>sl_new (k:=1) (n:=256) (cap:=256) (xs:=bys (List.replicate (256) 0)) h oqz (by simp) (by rw [Nat.mul_one,List.take_of_length_le (by simp)];unfold bys;rw [List.map_replicate];rfl)) ?_;refine Z4 ?_;refine tv (o_ixP1 underlying32 sz5 rfl rfl sq1z sq0z) ?_;refine tl_u rfl (o_stP (i:=9) (ys:=bys wkX) sz5 rfl rfl rfl ctqz (by decide) (by exact bys_set _ _ _)) ?_;refine nq ?_;refine Zh ?_;refine Zdf ?_;refine tl_bool (d:=40) rfl dbq (sbq ?_);intro h;refine Zdo ?_;refine Zs ?_;refine tl_bool (d:=44) rfl dbq (sbq ?_);intro h;refine Zdo ?_;refine Zs ?_;refine tl_bool (d:=48) rfl dbq (sbq ?_);intro h;refine Zdo ?_;refine Zs ?_;refine tl_bool (d:=52) rfl dbq (sbq ?_);intro h;refine Zdo ?_;refine Zs ?_;refine tl_bool (d:=56) rfl dbq (sbq ?_);intro h;refine Z0 ?_;refine tl_c rfl (o_call bd18 rfl (Write13_ok (X:=(⟨h15,w22,t22,p15,l15,d15,mb22,lv15,tk22,gv22,128,192,(128+192),4⟩:WkX)) (Y:=Y32) (T:=((T0 (onL [0])).take 1).take 2) (s:=sd) (hok:=hok32) (hb:=hbk) (b:=1) (xs:=wkX) (hu:=by decide) (hr:=rs_sl) (hxl:=by unfold wkX;rw [List.length_set,List.length_replicate]) (hxb:=by decide) (ho:=hon))) ?_;rintro _ _ ⟨Y59,rfl,hok59,rfl⟩;refine Zfx ?_;refine tl_bool (d:=62) rfl dbq (sbq ?_);intro h;refine tlm ?_;refine tl_c rfl (o_call bd21 rfl (SetRoot13_ok (X:=(⟨h15,w22,t22,p15,l15,d15,mb22,lv15,tk22,gv22,128,192,(128+192),4⟩:WkX)) (Y:=Y59) (T:=(((T0 (onL [0])).take 1).take 2).write (128+192) 1 wkX) (s:=sd) (hok:=hok59) (hb:=hbk) (v:=258) (hv:=by decide) (ho:=hon))) ?_;rintro _ _ ⟨Y64,rfl,hok64,rfl⟩;refine Zfx ?_;refine tl_bool (d:=67) rfl dbq (sbq ?_);intro h;refine tlm ?_;refine tl_c rfl (o_call bd22 rfl (Commit13_c (X:=(⟨h15,w22,t22,p15,l15,d15,mb22,lv15,tk22,gv22,128,192,(128+192),4⟩:WkX)) (Y:=Y64) (T:=(((((T0 (onL [0])).take 1).take 2).write (128+192) 1 wkX).root 258)) (s:=sd) (hok:=hok64) (hb:=hbk) (ho:=hon) (hlw:=hcal.lw) (hroom:=hcal.room (by rw [hcal.len];show 2*(nl13 192 4*64)+192+8<=_;decide)))) ?_;rintro _ _ ⟨e69,b69,s69,lv69,M69,hs69,rfl,hM69,rfl⟩;rw [hcal.len] at hs69
  have e64:nl13 192 4*64=1344:=(by decide);obtain ⟨s70,g1,g2,g3⟩:=calm_com (f:=wkF) hcal (by have h9:=hok64.m.out;rw [hcal.len] at h9;exact h9) (λ a c h9=>hok64.m.by_ a c h9) (λ a h9=>by have:=wkF_out a h9;omega) (wkF_need (λ a c h9=>hok64.m.by_ a c h9));obtain ⟨hq9,rfl⟩:=pair_eq g1 hs69
  simp only [Prod.mk.injEq] at hq9
  obtain ⟨rfl,rfl⟩:=hq9;rw [if_pos rfl] at hM69
  refine tv (o_nei rfl rfl) ?_;refine Zc8 ?_;intro h;refine Zb8 ?_;refine tl_c rfl (o_call bd12 rfl (Begin13_rest (R:=A*pt b13 (cl (ints [0]) 3)*Sl 1 (.slice (some ⟨b35,0,none⟩) 256 256) 256 (bys wkX)*pt w22 (cl (wcs h15 t22 tk22 gv22 Y64.ls true) 101)) (h:=h15) (p:=p15) (lg:=l15) (d:=d15) (at_:=128) (sz:=192) (ba:=128+192) (n:=4) (lv:=lv69) (M:=M69) (s:=s70) (hA:=by ac_rfl) (hc:=g2))) ?_;rintro _ _ ⟨w74,t74,mb74,tk74,gv74,rfl,rfl⟩;have hbk1:WkB (⟨h15,w74,t74,p15,l15,d15,mb74,lv69,tk74,gv74,128,192,(128+192),4⟩:WkX) s70:=calm_wkb g2 (by show 128<=128+192;decide) (by show 128+192+256*4<=nl13 192 4*64;decide)
  have hrd:ovF (T0 (usedB (((((T0 (onL [0])).take 1).take 2).write (128+192) 1 wkX).root 258))).f (128+192+256*1) (((imgS s70).drop (128+192+256*1)).take 256)=wkX:=by
    rw [show (T0 (usedB (((((T0 (onL [0])).take 1).take 2).write (128+192) 1 wkX).root 258))).f=tf0 from rfl,ovF_tf0,calm_sub hcal g2 g3 (.inr (by decide)) (by decide)]
    have hl:(((imgS sd).drop (128+192+256*1)).take 256).length=256:=(by rw [List.length_take,List.length_drop,hcal.il];decide)
    unfold wkF
    rw [layF_ou (m:=256) (.inr (by rw [le_length];decide)) (by rw [hl];exact Nat.le_refl _)]
    exact layF_ov (by rw [hl];unfold wkX;rw [List.length_set,List.length_replicate])
  have hro:rootV (T0 (usedB (((((T0 (onL [0])).take 1).take 2).write (128+192) 1 wkX).root 258))) s70=258:=by
    unfold rootV
    rw [show (T0 (usedB (((((T0 (onL [0])).take 1).take 2).write (128+192) 1 wkX).root 258))).f=tf0 from rfl,ovF_tf0,calm_sub hcal g2 g3 (.inl (by decide)) (by decide)]
    unfold wkF
    rw [layF_ov (by rw [List.length_take,List.length_drop,hcal.il,le_length];decide)];decide
  refine Zgv ?_;refine tl_c rfl (o_call bd16 rfl (Read13_ok (X:=(⟨h15,w74,t74,p15,l15,d15,mb74,lv69,tk74,gv74,128,192,(128+192),4⟩:WkX)) (Y:=(⟨M69,⟨[],0⟩,⟨[],0⟩,⟨[],0⟩,0⟩:WkY)) (T:=T0 (usedB (((((T0 (onL [0])).take 1).take 2).write (128+192) 1 wkX).root 258))) (s:=s70) (hok:=wk_new hM69) (hb:=hbk1) (b:=1) (hu:=by decide) (ho:=g2.on))) ?_;rintro _ _ ⟨a79,c79,rfl,hc79,rfl⟩;have hrd9:ovF (T0 (usedB (((((T0 (onL [0])).take 1).take 2).write (128+192) 1 wkX).root 258))).f (((⟨h15,w74,t74,p15,l15,d15,mb74,lv69,tk74,gv74,128,192,(128+192),4⟩:WkX)).ba+256*1) (((imgS s70).drop (((⟨h15,w74,t74,p15,l15,d15,mb74,lv69,tk74,gv74,128,192,(128+192),4⟩:WkX)).ba+256*1)).take 256)=wkX:=hrd;rw [hrd9]
  refine Zgv ?_;refine tl_c rfl (o_call bd20 rfl (Root13_v (X:=(⟨h15,w74,t74,p15,l15,d15,mb74,lv69,tk74,gv74,128,192,(128+192),4⟩:WkX)) (Y:=(⟨M69,⟨[],0⟩,⟨[],0⟩,⟨[],0⟩,0⟩:WkY)) (T:=T0 (usedB (((((T0 (onL [0])).take 1).take 2).write (128+192) 1 wkX).root 258))) (s:=s70) (hok:=wk_new hM69) (hb:=hbk1) (ho:=g2.on))) ?_;rintro _ _ ⟨rfl,rfl⟩;refine tl_env (d:=84) (v:= .tuple #[.int .u64 258,.int .i64 0]) (by show Value.tuple #[.int .u64 ((rootV _ _:Nat):Int),_]=_;rw [hro];rfl) ?_;refine Zgv ?_;refine Zgz ?_;refine tl_bool (d:=89) rfl (sbq ?_) dbq;intro h;refine tlm ?_;refine Zeo ?_;refine tl_bool (d:=93) rfl (sbq ?_) dbq;intro h;refine tlm ?_;refine Zeo ?_;refine tl_bool (d:=97) rfl (sbq ?_) dbq;intro h;refine Zec ?_;refine Zeo ?_;refine tl_bool (d:=102) rfl (sbq ?_) dbq;intro h;refine tlm ?_;refine tv (o_ixP1 (a:=a79) (j:=9) underlying32 sz5 rfl rfl (by decide) (nn_rs (xs:=bys wkX) sq2z (by decide))) ?_;refine tv (o_ldP (a:=a79) (xs:=bys wkX) p5 rfl sq2z (show (bys wkX)[9]? =some (.int .u8 7) from rfl)) ?_;refine Zeo ?_;refine tl_bool (d:=108) rfl (sbq ?_) dbq;intro h;refine tlm ?_;refine Zeo ?_;refine tl_bool (d:=112) rfl (sbq ?_) dbq;intro h;refine tlm ?_;refine tl_c rfl (o_call bd63 rfl (Lives13_c (h:=h15) (lv:=lv69) (M:=M69) (n:=4) (g:=usedB (((((T0 (onL [0])).take 1).take 2).write (128+192) 1 wkX).root 258)) (hh:=by exact wka_h (X:=(⟨h15,w74,t74,p15,l15,d15,mb74,lv69,tk74,gv74,128,192,(128+192),4⟩:WkX)) (Y:=(⟨M69,⟨[],0⟩,⟨[],0⟩,⟨[],0⟩,0⟩:WkY)) (s:=s70) ctqz) (hm:=by exact wka_lv (X:=(⟨h15,w74,t74,p15,l15,d15,mb74,lv69,tk74,gv74,128,192,(128+192),4⟩:WkX)) (Y:=(⟨M69,⟨[],0⟩,⟨[],0⟩,⟨[],0⟩,0⟩:WkY)) (s:=s70) ctqz) (hs:=hM69) (hn:=by decide))) ?_;rintro _ _ ⟨a114,c114,rfl,hc114,rfl⟩;refine tl_x rfl (o_buildSliceL (k:=1) (vs:=ints [0,1,2]) (l:=ints [0,1,2]) underlying22 sz3 z3 rfl rfl (by decide) (by decide) (by intro v hv;simp only [ints,i64,List.map_cons,List.map_nil,List.mem_cons,List.not_mem_nil,or_false] at hv;first|(subst hv;rfl)|(rcases hv with rfl|rfl|rfl<;>rfl)) rfl) ?_;rintro _ _ ⟨b115,rfl,rfl⟩;refine tl_c rfl (o_call bd62 rfl (EqInts_c (xs:=adZ 4 (usedB (((((T0 (onL [0])).take 1).take 2).write (128+192) 1 wkX).root 258))) (ys:=[0,1,2]) (h1:=by repeat (first|with_reducible exact rs_sl|apply Rs.left)) (h2:=by repeat (first|exact rs_pt rfl|apply Rs.left)) (hn:=by rw [wk_adZ];decide) (hx:=rfl) (hy:=rfl))) ?_;rintro _ _ ⟨rfl,rfl⟩;refine tl_env (d:=116) (v:= .bool true) (by show Value.bool (decide _)=_;rw [decide_eq_true wk_adZ]) ?_;refine Zq ?_;refine tl_bool (d:=118) rfl (sbq ?_) dbq;intro h;refine tlm ?_;refine tl_c rfl (o_call bd30 rfl (Room13_c (h:=h15) (lv:=lv69) (M:=M69) (n:=4) (g:=usedB (((((T0 (onL [0])).take 1).take 2).write (128+192) 1 wkX).root 258)) (hh:=by exact wka_h (X:=(⟨h15,w74,t74,p15,l15,d15,mb74,lv69,tk74,gv74,128,192,(128+192),4⟩:WkX)) (Y:=(⟨M69,⟨[],0⟩,⟨[],0⟩,⟨[],0⟩,0⟩:WkY)) (s:=s70) ctqz) (hm:=by exact wka_lv (X:=(⟨h15,w74,t74,p15,l15,d15,mb74,lv69,tk74,gv74,128,192,(128+192),4⟩:WkX)) (Y:=(⟨M69,⟨[],0⟩,⟨[],0⟩,⟨[],0⟩,0⟩:WkY)) (s:=s70) ctqz) (hs:=hM69) (hn:=by decide))) ?_;rintro _ _ ⟨rfl,rfl⟩;refine tv (o_bS (l:=[_,_,_]) (pv_cons wqz (pv_cons wqz (pv_cons wqz pv_nil))) underlying80 z80 (pl80 underlying80) rfl) ?_;refine tv (o_eqst (k:=3) (l:=[((4:Nat):Int),((adS 4 (usedB (((((T0 (onL [0])).take 1).take 2).write (128+192) 1 wkX).root 258))).length:Nat),((4-(adS 4 (usedB (((((T0 (onL [0])).take 1).take 2).write (128+192) 1 wkX).root 258))).length:Nat):Int)]) (m:=[4,3,1]) underlying80 kqz kqz kqz rfl rfl rfl rfl) ?_;refine tl_env (d:=122) (v:= .bool true) (by show Value.bool (decide _)=_;rw [wk_adS];rfl) ?_;refine Zc7 ?_;exact ⟨.bool true,A,res1 rfl rfl,Dr.sat drqz,rfl,rfl⟩
end Go.Vl

namespace Go.Vl
open Go Go.Proofs Go.Proofs.Tryz
def bcs (su:List Value)(d p h w e q g v:Value):List Value:=su++[d,p,h,w,e,q,g,v]
theorem hk13 {lg n:Nat}{s:DevS}(h1:128<=lg)(h2:lg<=32768)(h3:lg%64=0)(h4:n<=64)(hwf:WfD s)(hls:s.ls.length=nl13 lg n):HkB 128 lg (128+lg) n s:=by
  have h64:=nl13_64 (n:=n) h3;refine ⟨by omega,by rw [hls,h64];omega,by rw [hls,h64];omega,hwf,⟨by decide,by decide,h1,h3,by rw [hls,h64];omega⟩⟩
attribute [local irreducible] crk crL crc Sl pt ro Dev imgS recS readS recsF rdW rdO rkT Parts rvl recordsS runsL adrF kcl xcl kys runA runsF layF ovF TxA adZ WkA SlB blkS conB imF RDev lineC RLines TxR TxE ldT TxX wasF
theorem Zfv {p r:Prop}(k:r)(h:Kq r->p:=by intro k;refine tm 6 rfl kqz rfl (o_fieldAddr (o:=0) underlying72 rfl rfl sz25 rfl) ?_;refine tm 7 rfl kqz rfl (o_fieldAddr (o:=0) underlying25 rfl rfl sz3 rfl) ?_;exact k.o):p:=h ⟨k⟩
theorem Zg0 {p r:Prop}(k:r)(h:Kq r->p:=by intro k;refine ⟨by repeat (first|with_reducible exact dr_refl|apply dr_keep|apply dr_drop), ?_⟩;refine tm 10 rfl kqz rfl (o_move wqz) ?_;exact k.o):p:=h ⟨k⟩
theorem Zhe {p r:Prop}(k:r)(h:Kq r->p:=by intro k;refine tm 7 rfl kqz rfl (o_fieldAddr (o:=0) underlying72 rfl rfl sz25 rfl) ?_;refine tm 10 rfl kqz rfl (o_move wqz) ?_;exact k.o):p:=h ⟨k⟩
theorem Zfu {p r:Prop}(k:r)(h:Kq r->p:=by intro k;refine tm 12 rfl kqz rfl (o_fieldAddr (o:=0) underlying72 rfl rfl sz25 rfl) ?_;refine tm 13 rfl kqz rfl (o_fieldAddr (o:=1) underlying25 rfl rfl sz3 rfl) ?_;exact k.o):p:=h ⟨k⟩
theorem Zfo {p r:Prop}(k:r)(h:Kq r->p:=by intro k;refine th_one (i:=14) kqz ?_;refine oh_v rfl rfl rfl (o_load p3 rfl hsqz rfl) ?_;refine th_one (i:=15) kqz ?_;exact k.o):p:=h ⟨k⟩
theorem Zn {p r:Prop}(k:r)(h:Kq r->p:=by intro k;refine tm 17 rfl kqz rfl (o_extract rfl rfl) ?_;refine tm 18 rfl kqz rfl (o_extract rfl rfl) ?_;exact k.o):p:=h ⟨k⟩
theorem Zfk {p r:Prop}(k:r)(h:Kq r->p:=by intro k;refine ⟨by repeat (first|with_reducible exact dr_refl|apply dr_keep|apply dr_drop), ?_⟩;refine tm 16 rfl kqz rfl (o_move wqz) ?_;refine Zn ?_;refine tm 19 rfl kqz rfl (o_nilCheck rfl) ?_;refine tm 20 rfl kqz rfl (o_fieldAddr (o:=7) underlying72 rfl rfl sz29 rfl) ?_;refine th_one (i:=21) kqz ?_;exact k.o):p:=h ⟨k⟩
theorem Z1 {p r:Prop}(k:r)(h:Kq r->p:=by intro k;refine tm 22 rfl kqz rfl (o_assign wqz) ?_;refine th_done kqz ?_;exact k.o):p:=h ⟨k⟩
theorem Zer {p r:Prop}(k:r)(h:Kq r->p:=by intro k;refine oh_v rfl rfl rfl (o_load p3 rfl hsqz rfl) ?_;refine th_one (i:=9) kqz ?_;exact k.o):p:=h ⟨k⟩
theorem Zc1 {p r:Prop}(k:r)(h:Kq r->p:=by intro k;refine Zd ?_;refine th_one (i:=15) kqz ?_;exact k.o):p:=h ⟨k⟩
theorem Zf9 {p r:Prop}(k:r)(h:Kq r->p:=by intro k;refine oh_v rfl rfl rfl (o_load p66 rfl hsqz rfl) ?_;refine th_one (i:=15) kqz ?_;exact k.o):p:=h ⟨k⟩
theorem Ze5 {p r:Prop}(k:r)(h:Kq r->p:=by intro k;refine tm 16 rfl kqz rfl (o_move wqz) ?_;refine Zn ?_;refine tm 19 rfl kqz rfl (o_nilCheck rfl) ?_;refine tm 20 rfl kqz rfl (o_fieldAddr (o:=11) underlying72 rfl rfl sz69 rfl) ?_;refine th_one (i:=21) kqz ?_;exact k.o):p:=h ⟨k⟩
theorem Zga {p r:Prop}(k:r)(h:Kq r->p:=by intro k;refine oh_v rfl rfl rfl (o_load p68 rfl hsqz rfl) ?_;refine th_one (i:=15) kqz ?_;exact k.o):p:=h ⟨k⟩
theorem anew13_c {A R:SP}{xb d r lg n fi:Nat}{lvv ar pv hv wv qv gv vv:Value}{s:DevS}(hA:A=R*pt xb (cl (bcs (su5 (lg:Nat) (n:Nat) (fi:Nat) lvv ar) ((pz d)) pv hv wv ((pz r)) qv gv vv) 72)*Dev d s*RDev r s)(h1:128<=lg)(h2:lg<=32768)(h3:lg%64=0)(h4:n<=64)(hwf:WfD s)(hls:s.ls.length=nl13 lg n):
    Fn Tryz.prog 65 #[pz xb] A (λ rr B=>∃p h l q hd rl,rr= .bool true/\ B=R*pt xb (cl (bcs (su5 (lg:Nat) (n:Nat) (fi:Nat) lvv ar) ((pz d)) ((pz p)) ((pz h)) (.pointer none) ((pz r)) ((pz q)) ((pz hd)) (.pointer none)) 72)*PLf h p l d 128 lg (128+lg) n (.pointer none) (T0 g0) none s*RLf hd q r rl 128 lg (128+lg) n (.pointer none) (T0 g0) none s):=by
  refine fn_enterW func65 rfl ntmps65 (by simp) ?_;subst hA;have h64:=nl13_64 (n:=n) h3;have hk:=hk13 h1 h2 h3 h4 hwf hls;obtain ⟨hk1,hk2,hk3,hk4,hk5⟩:=id hk;have hls64:s.ls.length*64=128+lg+256*n:=(by rw [hls];exact h64);refine Zci ?_;refine Zhs ?_
  show TH _ _ _ _ _ 15 (Array.replicate 15 false) _ _
  refine Zbg ?_;refine tm 2 rfl kqz rfl (o_fieldAddr (o:=5) underlying72 rfl rfl sz28 rfl) ?_;refine tm 3 rfl kqz rfl (o_load p28 rfl hsqz rfl) ?_;refine Zbv ?_;refine Zfv ?_;refine tm 8 rfl kqz rfl (o_load p3 rfl hsqz rfl) ?_;refine th_one (i:=9) kqz ?_;refine oh_c rfl rfl rfl (o_call bd79 rfl (Open_ok (s:=s) (p:=128) (q:=((lg:Nat):Int)) (hok:=by omega))) ?_;rintro _ _ ⟨b17,rfl,rfl⟩;refine Zg0 ?_;refine tm 11 rfl kqz rfl (o_extract rfl rfl) ?_;refine tm 12 rfl kqz rfl (o_extract rfl rfl) ?_;refine tm 13 rfl kqz rfl (o_assign wqz) ?_;refine tm 14 rfl kqz rfl (o_assign wqz) ?_;refine Zbw ?_;refine Zhs ?_
  show TH _ _ _ _ _ 15 (Array.replicate 15 false) _ _
  refine Zbg ?_;refine tm 2 rfl kqz rfl (o_fieldAddr (o:=9) underlying72 rfl rfl sz67 rfl) ?_;refine tm 3 rfl kqz rfl (o_load p67 rfl hsqz rfl) ?_;refine Zbv ?_;refine Zfv ?_;refine tm 8 rfl kqz rfl (o_load p3 rfl hsqz rfl) ?_;refine th_one (i:=9) kqz ?_;refine oh_c rfl rfl rfl (o_call bd128 rfl (rOpen_ok (s:=s) (r:=r) (p:=128) (q:=((lg:Nat):Int)) (hp:=by decide) (hq:=by omega) (hok:=by omega))) ?_;rintro _ _ ⟨b30,rfl,rfl⟩;refine Zg0 ?_;refine tm 11 rfl kqz rfl (o_extract rfl rfl) ?_;refine tm 12 rfl kqz rfl (o_extract rfl rfl) ?_;refine tm 13 rfl kqz rfl (o_assign wqz) ?_;refine tm 14 rfl kqz rfl (o_assign wqz) ?_;refine Zbw ?_;refine Zh ?_;refine Zdf ?_;refine tl_bool (d:=35) rfl dbq (sbq ?_);intro h;refine Zdo ?_;refine Zc8 ?_;intro h;refine Zdc ?_;refine tc_eq (show _=R*pt xb (cl (bcs (su5 (lg:Nat) (n:Nat) (fi:Nat) lvv ar) ((pz d)) pv hv wv ((pz r)) qv gv vv) 72)*Dev d s*RDev r s*pt b17 (cl (lcs11 d 128 lg) 183)*pt b30 (cl [pz r,vn 128,vn lg] 208) from rfl) ?_;refine Zc3 ?_;refine tv (o_nilCheck rfl) ?_;refine tv (o_fieldAddr (o:=5) underlying72 rfl rfl sz28 rfl) ?_;refine tv (o_load p28 rfl hsqz rfl) ?_;refine tlm ?_;refine tl_c rfl (o_call bd80 rfl (New12_c (s:=s) (at_:=128) (sz:=lg) (lg:=b17) (hl:=(by repeat (first|with_reducible exact has_here|with_reducible exact has_pt|apply has_left))) (hlw:=hk5))) ?_;rintro _ _ ⟨p46,rfl,rfl⟩;refine Zbk ?_;refine tv (o_nilCheck rfl) ?_;refine tv (o_fieldAddr (o:=6) underlying72 rfl rfl sz66 rfl) ?_;refine tl_u rfl (o_stU (l':=bcs (su5 (lg:Nat) (n:Nat) (fi:Nat) lvv ar) ((pz d)) ((pz p46)) hv wv ((pz r)) qv gv vv) rfl upqz sz66 rfl rfl (by show 6<13;decide) rfl) ?_;refine Z4 ?_;refine Zbb ?_;refine tv (o_fieldAddr (o:=9) underlying72 rfl rfl sz67 rfl) ?_;refine tv (o_load p67 rfl hsqz rfl) ?_;refine tlm ?_;refine tl_c rfl (o_call bd129 rfl (rNew12_c (r:=r) (lg:=b30))) ?_;rintro _ _ ⟨q58,rfl,rfl⟩;refine Zbk ?_;refine tv (o_nilCheck rfl) ?_;refine tv (o_fieldAddr (o:=10) underlying72 rfl rfl sz68 rfl) ?_;refine tl_u rfl (o_stU (l':=bcs (su5 (lg:Nat) (n:Nat) (fi:Nat) lvv ar) ((pz d)) ((pz p46)) hv wv ((pz r)) ((pz q58)) gv vv) rfl upqz sz68 rfl rfl (by show 10<13;decide) rfl) ?_;refine Zt ?_;refine Zdf ?_;refine tl_bool (d:=65) rfl dbq (sbq ?_);intro h;refine Zdo ?_;refine Zc8 ?_;intro h;refine Zdc ?_;refine tc_cut (λ ρ BB=>∃ (h85:Nat) (lv85:Nat),ρ 4= .int .i64 0/\ ρ 0=(pz xb)/\ Dr BB (R*pt xb (cl (bcs (su5 (lg:Nat) (n:Nat) (fi:Nat) lvv ar) ((pz d)) ((pz p46)) ((pz h85)) wv ((pz r)) ((pz q58)) gv vv) 72)*Dev d s*RDev r s*pt b17 (cl (lcs11 d 128 lg) 183)*pt b30 (cl [pz r,vn 128,vn lg] 208)*pt p46 (cl (pocs b17 d none) 78)*pt q58 (cl [pz r,pz b30,.pointer none] 177)*pt lv85 (mpo .i64 ⟨[],0⟩)*pt h85 (cl (hcs p46 (128+lg) n lv85 none) 99))) ?_ ?_
  . skip
    refine tc_regh (S:=R*Dev d s*RDev r s*pt b17 (cl (lcs11 d 128 lg) 183)*pt b30 (cl [pz r,vn 128,vn lg] 208)*pt p46 (cl (pocs b17 d none) 78)*pt q58 (cl [pz r,pz b30,.pointer none] 177)) mo drqz ?_
    show TH _ _ _ _ _ 23 (Array.replicate 23 false) _ _
    refine Zd8 ?_;refine tm 3 rfl kqz rfl (o_fieldAddr (o:=6) underlying72 rfl rfl sz66 rfl) ?_;refine Zf8 ?_;refine Zhe ?_;refine tm 11 rfl kqz rfl (o_nilCheck rfl) ?_;refine Zfu ?_;refine th_three (i:=4) (j:=8) (k:=14) kqz ?_ ?_ ?_
    . skip
      refine oh_v rfl rfl rfl (o_load p66 rfl hsqz rfl) ?_;refine th_two (i:=8) (j:=14) kqz ?_ ?_
      . skip
        refine oh_v rfl rfl rfl (o_loadN (vs:=(su5 (lg:Nat) (n:Nat) (fi:Nat) lvv ar)) a25 sz25 rfl hsqz (by show 0+5<=13;decide) rfl) ?_;refine th_two (i:=9) (j:=14) kqz ?_ ?_
        . skip
          refine oh_c rfl rfl rfl (o_call bd11 rfl (heap13_c (lg:=lg))) ?_;refine Zd ?_;refine Zfo ?_;refine oh_c rfl rfl rfl (o_call bd28 rfl (NewH_c (s:=s) (p:=p46) (ba:=128+lg) (n:=n) (h64:=by omega) (h1:=by omega) (h2:=hk2) (htop:=hk3) (hpos:=by omega))) ?_;rintro _ _ ⟨lv85,h85,rfl,rfl⟩;refine Zfk ?_;refine oh_u rfl rfl rfl (o_stU (l':=bcs (su5 (lg:Nat) (n:Nat) (fi:Nat) lvv ar) ((pz d)) ((pz p46)) ((pz h85)) wv ((pz r)) ((pz q58)) gv vv) rfl upqz sz29 rfl rfl (by show 7<13;decide) rfl) drqz ?_;refine Z1 ?_;exact ⟨_,_,rfl,rfl,drqz⟩
        . skip
          refine Zer ?_;refine oh_c rfl rfl rfl (o_call bd11 rfl (heap13_c (lg:=lg))) ?_;refine Zc1 ?_;refine oh_c rfl rfl rfl (o_call bd28 rfl (NewH_c (s:=s) (p:=p46) (ba:=128+lg) (n:=n) (h64:=by omega) (h1:=by omega) (h2:=hk2) (htop:=hk3) (hpos:=by omega))) ?_;rintro _ _ ⟨lv85,h85,rfl,rfl⟩;refine Zfk ?_;refine oh_u rfl rfl rfl (o_stU (l':=bcs (su5 (lg:Nat) (n:Nat) (fi:Nat) lvv ar) ((pz d)) ((pz p46)) ((pz h85)) wv ((pz r)) ((pz q58)) gv vv) rfl upqz sz29 rfl rfl (by show 7<13;decide) rfl) drqz ?_;refine Z1 ?_;exact ⟨_,_,rfl,rfl,drqz⟩
      . skip
        refine oh_v rfl rfl rfl (o_load p3 rfl hsqz rfl) ?_;refine th_one (i:=8) kqz ?_;refine oh_v rfl rfl rfl (o_loadN (vs:=(su5 (lg:Nat) (n:Nat) (fi:Nat) lvv ar)) a25 sz25 rfl hsqz (by show 0+5<=13;decide) rfl) ?_;refine th_one (i:=9) kqz ?_;refine oh_c rfl rfl rfl (o_call bd11 rfl (heap13_c (lg:=lg))) ?_;refine Zc1 ?_;refine oh_c rfl rfl rfl (o_call bd28 rfl (NewH_c (s:=s) (p:=p46) (ba:=128+lg) (n:=n) (h64:=by omega) (h1:=by omega) (h2:=hk2) (htop:=hk3) (hpos:=by omega))) ?_;rintro _ _ ⟨lv85,h85,rfl,rfl⟩;refine Zfk ?_;refine oh_u rfl rfl rfl (o_stU (l':=bcs (su5 (lg:Nat) (n:Nat) (fi:Nat) lvv ar) ((pz d)) ((pz p46)) ((pz h85)) wv ((pz r)) ((pz q58)) gv vv) rfl upqz sz29 rfl rfl (by show 7<13;decide) rfl) drqz ?_;refine Z1 ?_;exact ⟨_,_,rfl,rfl,drqz⟩
    . skip
      refine oh_v rfl rfl rfl (o_loadN (vs:=(su5 (lg:Nat) (n:Nat) (fi:Nat) lvv ar)) a25 sz25 rfl hsqz (by show 0+5<=13;decide) rfl) ?_;refine th_three (i:=4) (j:=9) (k:=14) kqz ?_ ?_ ?_
      . skip
        refine oh_v rfl rfl rfl (o_load p66 rfl hsqz rfl) ?_;refine th_two (i:=9) (j:=14) kqz ?_ ?_
        . skip
          refine oh_c rfl rfl rfl (o_call bd11 rfl (heap13_c (lg:=lg))) ?_;refine Zd ?_;refine Zfo ?_;refine oh_c rfl rfl rfl (o_call bd28 rfl (NewH_c (s:=s) (p:=p46) (ba:=128+lg) (n:=n) (h64:=by omega) (h1:=by omega) (h2:=hk2) (htop:=hk3) (hpos:=by omega))) ?_;rintro _ _ ⟨lv85,h85,rfl,rfl⟩;refine Zfk ?_;refine oh_u rfl rfl rfl (o_stU (l':=bcs (su5 (lg:Nat) (n:Nat) (fi:Nat) lvv ar) ((pz d)) ((pz p46)) ((pz h85)) wv ((pz r)) ((pz q58)) gv vv) rfl upqz sz29 rfl rfl (by show 7<13;decide) rfl) drqz ?_;refine Z1 ?_;exact ⟨_,_,rfl,rfl,drqz⟩
        . skip
          refine Zer ?_;refine oh_c rfl rfl rfl (o_call bd11 rfl (heap13_c (lg:=lg))) ?_;refine Zc1 ?_;refine oh_c rfl rfl rfl (o_call bd28 rfl (NewH_c (s:=s) (p:=p46) (ba:=128+lg) (n:=n) (h64:=by omega) (h1:=by omega) (h2:=hk2) (htop:=hk3) (hpos:=by omega))) ?_;rintro _ _ ⟨lv85,h85,rfl,rfl⟩;refine Zfk ?_;refine oh_u rfl rfl rfl (o_stU (l':=bcs (su5 (lg:Nat) (n:Nat) (fi:Nat) lvv ar) ((pz d)) ((pz p46)) ((pz h85)) wv ((pz r)) ((pz q58)) gv vv) rfl upqz sz29 rfl rfl (by show 7<13;decide) rfl) drqz ?_;refine Z1 ?_;exact ⟨_,_,rfl,rfl,drqz⟩
      . skip
        refine oh_c rfl rfl rfl (o_call bd11 rfl (heap13_c (lg:=lg))) ?_;refine Zd ?_;refine th_two (i:=4) (j:=14) kqz ?_ ?_
        . skip
          refine oh_v rfl rfl rfl (o_load p66 rfl hsqz rfl) ?_;refine Zfo ?_;refine oh_c rfl rfl rfl (o_call bd28 rfl (NewH_c (s:=s) (p:=p46) (ba:=128+lg) (n:=n) (h64:=by omega) (h1:=by omega) (h2:=hk2) (htop:=hk3) (hpos:=by omega))) ?_;rintro _ _ ⟨lv85,h85,rfl,rfl⟩;refine Zfk ?_;refine oh_u rfl rfl rfl (o_stU (l':=bcs (su5 (lg:Nat) (n:Nat) (fi:Nat) lvv ar) ((pz d)) ((pz p46)) ((pz h85)) wv ((pz r)) ((pz q58)) gv vv) rfl upqz sz29 rfl rfl (by show 7<13;decide) rfl) drqz ?_;refine Z1 ?_;exact ⟨_,_,rfl,rfl,drqz⟩
        . skip
          refine oh_v rfl rfl rfl (o_load p3 rfl hsqz rfl) ?_;refine th_one (i:=4) kqz ?_;refine Zf9 ?_;refine oh_c rfl rfl rfl (o_call bd28 rfl (NewH_c (s:=s) (p:=p46) (ba:=128+lg) (n:=n) (h64:=by omega) (h1:=by omega) (h2:=hk2) (htop:=hk3) (hpos:=by omega))) ?_;rintro _ _ ⟨lv85,h85,rfl,rfl⟩;refine Zfk ?_;refine oh_u rfl rfl rfl (o_stU (l':=bcs (su5 (lg:Nat) (n:Nat) (fi:Nat) lvv ar) ((pz d)) ((pz p46)) ((pz h85)) wv ((pz r)) ((pz q58)) gv vv) rfl upqz sz29 rfl rfl (by show 7<13;decide) rfl) drqz ?_;refine Z1 ?_;exact ⟨_,_,rfl,rfl,drqz⟩
      . skip
        refine oh_v rfl rfl rfl (o_load p3 rfl hsqz rfl) ?_;refine th_two (i:=4) (j:=9) kqz ?_ ?_
        . skip
          refine oh_v rfl rfl rfl (o_load p66 rfl hsqz rfl) ?_;refine th_one (i:=9) kqz ?_;refine oh_c rfl rfl rfl (o_call bd11 rfl (heap13_c (lg:=lg))) ?_;refine Zc1 ?_;refine oh_c rfl rfl rfl (o_call bd28 rfl (NewH_c (s:=s) (p:=p46) (ba:=128+lg) (n:=n) (h64:=by omega) (h1:=by omega) (h2:=hk2) (htop:=hk3) (hpos:=by omega))) ?_;rintro _ _ ⟨lv85,h85,rfl,rfl⟩;refine Zfk ?_;refine oh_u rfl rfl rfl (o_stU (l':=bcs (su5 (lg:Nat) (n:Nat) (fi:Nat) lvv ar) ((pz d)) ((pz p46)) ((pz h85)) wv ((pz r)) ((pz q58)) gv vv) rfl upqz sz29 rfl rfl (by show 7<13;decide) rfl) drqz ?_;refine Z1 ?_;exact ⟨_,_,rfl,rfl,drqz⟩
        . skip
          refine oh_c rfl rfl rfl (o_call bd11 rfl (heap13_c (lg:=lg))) ?_;refine Zd ?_;refine th_one (i:=4) kqz ?_;refine Zf9 ?_;refine oh_c rfl rfl rfl (o_call bd28 rfl (NewH_c (s:=s) (p:=p46) (ba:=128+lg) (n:=n) (h64:=by omega) (h1:=by omega) (h2:=hk2) (htop:=hk3) (hpos:=by omega))) ?_;rintro _ _ ⟨lv85,h85,rfl,rfl⟩;refine Zfk ?_;refine oh_u rfl rfl rfl (o_stU (l':=bcs (su5 (lg:Nat) (n:Nat) (fi:Nat) lvv ar) ((pz d)) ((pz p46)) ((pz h85)) wv ((pz r)) ((pz q58)) gv vv) rfl upqz sz29 rfl rfl (by show 7<13;decide) rfl) drqz ?_;refine Z1 ?_;exact ⟨_,_,rfl,rfl,drqz⟩
    . skip
      refine oh_v rfl rfl rfl (o_load p3 rfl hsqz rfl) ?_;refine th_two (i:=4) (j:=8) kqz ?_ ?_
      . skip
        refine oh_v rfl rfl rfl (o_load p66 rfl hsqz rfl) ?_;refine th_one (i:=8) kqz ?_;refine oh_v rfl rfl rfl (o_loadN (vs:=(su5 (lg:Nat) (n:Nat) (fi:Nat) lvv ar)) a25 sz25 rfl hsqz (by show 0+5<=13;decide) rfl) ?_;refine th_one (i:=9) kqz ?_;refine oh_c rfl rfl rfl (o_call bd11 rfl (heap13_c (lg:=lg))) ?_;refine Zc1 ?_;refine oh_c rfl rfl rfl (o_call bd28 rfl (NewH_c (s:=s) (p:=p46) (ba:=128+lg) (n:=n) (h64:=by omega) (h1:=by omega) (h2:=hk2) (htop:=hk3) (hpos:=by omega))) ?_;rintro _ _ ⟨lv85,h85,rfl,rfl⟩;refine Zfk ?_;refine oh_u rfl rfl rfl (o_stU (l':=bcs (su5 (lg:Nat) (n:Nat) (fi:Nat) lvv ar) ((pz d)) ((pz p46)) ((pz h85)) wv ((pz r)) ((pz q58)) gv vv) rfl upqz sz29 rfl rfl (by show 7<13;decide) rfl) drqz ?_;refine Z1 ?_;exact ⟨_,_,rfl,rfl,drqz⟩
      . skip
        refine oh_v rfl rfl rfl (o_loadN (vs:=(su5 (lg:Nat) (n:Nat) (fi:Nat) lvv ar)) a25 sz25 rfl hsqz (by show 0+5<=13;decide) rfl) ?_;refine th_two (i:=4) (j:=9) kqz ?_ ?_
        . skip
          refine oh_v rfl rfl rfl (o_load p66 rfl hsqz rfl) ?_;refine th_one (i:=9) kqz ?_;refine oh_c rfl rfl rfl (o_call bd11 rfl (heap13_c (lg:=lg))) ?_;refine Zc1 ?_;refine oh_c rfl rfl rfl (o_call bd28 rfl (NewH_c (s:=s) (p:=p46) (ba:=128+lg) (n:=n) (h64:=by omega) (h1:=by omega) (h2:=hk2) (htop:=hk3) (hpos:=by omega))) ?_;rintro _ _ ⟨lv85,h85,rfl,rfl⟩;refine Zfk ?_;refine oh_u rfl rfl rfl (o_stU (l':=bcs (su5 (lg:Nat) (n:Nat) (fi:Nat) lvv ar) ((pz d)) ((pz p46)) ((pz h85)) wv ((pz r)) ((pz q58)) gv vv) rfl upqz sz29 rfl rfl (by show 7<13;decide) rfl) drqz ?_;refine Z1 ?_;exact ⟨_,_,rfl,rfl,drqz⟩
        . skip
          refine oh_c rfl rfl rfl (o_call bd11 rfl (heap13_c (lg:=lg))) ?_;refine Zd ?_;refine th_one (i:=4) kqz ?_;refine Zf9 ?_;refine oh_c rfl rfl rfl (o_call bd28 rfl (NewH_c (s:=s) (p:=p46) (ba:=128+lg) (n:=n) (h64:=by omega) (h1:=by omega) (h2:=hk2) (htop:=hk3) (hpos:=by omega))) ?_;rintro _ _ ⟨lv85,h85,rfl,rfl⟩;refine Zfk ?_;refine oh_u rfl rfl rfl (o_stU (l':=bcs (su5 (lg:Nat) (n:Nat) (fi:Nat) lvv ar) ((pz d)) ((pz p46)) ((pz h85)) wv ((pz r)) ((pz q58)) gv vv) rfl upqz sz29 rfl rfl (by show 7<13;decide) rfl) drqz ?_;refine Z1 ?_;exact ⟨_,_,rfl,rfl,drqz⟩
  intro ρ B hI;obtain ⟨h85,lv85,hE4,hE0,hBA⟩:=hI;refine q_then_n ?_;refine tc_pre hBA.sat ?_;clear hBA;refine te 4 hE4 ?_;refine te 0 hE0 ?_;refine tc_seq ?_;refine tc_cut (λ ρ BB=>∃ (h106:Nat) (l106:Nat),ρ 6= .int .i64 0/\ ρ 0=(pz xb)/\ ρ 4= .int .i64 0/\ Dr BB (R*pt xb (cl (bcs (su5 (lg:Nat) (n:Nat) (fi:Nat) lvv ar) ((pz d)) ((pz p46)) ((pz h85)) wv ((pz r)) ((pz q58)) ((pz h106)) vv) 72)*Dev d s*RDev r s*pt b17 (cl (lcs11 d 128 lg) 183)*pt b30 (cl [pz r,vn 128,vn lg] 208)*pt p46 (cl (pocs b17 d none) 78)*pt q58 (cl [pz r,pz b30,.pointer none] 177)*pt lv85 (mpo .i64 ⟨[],0⟩)*pt h85 (cl (hcs p46 (128+lg) n lv85 none) 99)*Sl 1 (.slice (some ⟨l106,0,none⟩) n n) n (bos (wasF n g0))*pt h106 (cl [pz q58,vn (128+lg),vn n,.slice (some ⟨l106,0,none⟩) n n,.pointer none] 122))) ?_ ?_
  . skip
    refine tc_regh (S:=R*Dev d s*RDev r s*pt b17 (cl (lcs11 d 128 lg) 183)*pt b30 (cl [pz r,vn 128,vn lg] 208)*pt p46 (cl (pocs b17 d none) 78)*pt q58 (cl [pz r,pz b30,.pointer none] 177)*pt lv85 (mpo .i64 ⟨[],0⟩)*pt h85 (cl (hcs p46 (128+lg) n lv85 none) 99)) mo drqz ?_
    show TH _ _ _ _ _ 23 (Array.replicate 23 false) _ _
    refine Zd8 ?_;refine tm 3 rfl kqz rfl (o_fieldAddr (o:=10) underlying72 rfl rfl sz68 rfl) ?_;refine Zf8 ?_;refine Zhe ?_;refine tm 11 rfl kqz rfl (o_nilCheck rfl) ?_;refine Zfu ?_;refine th_three (i:=4) (j:=8) (k:=14) kqz ?_ ?_ ?_
    . skip
      refine oh_v rfl rfl rfl (o_load p68 rfl hsqz rfl) ?_;refine th_two (i:=8) (j:=14) kqz ?_ ?_
      . skip
        refine oh_v rfl rfl rfl (o_loadN (vs:=(su5 (lg:Nat) (n:Nat) (fi:Nat) lvv ar)) a25 sz25 rfl hsqz (by show 0+5<=13;decide) rfl) ?_;refine th_two (i:=9) (j:=14) kqz ?_ ?_
        . skip
          refine oh_c rfl rfl rfl (o_call bd11 rfl (heap13_c (lg:=lg))) ?_;refine Zd ?_;refine Zfo ?_;refine oh_c rfl rfl rfl (o_call bd29 rfl (rNew13_c (s:=s) (r:=r) (q:=q58) (lg:=b30) (o:= .pointer none) (at_:=128+lg) (n:=n) (h64:=by omega) (h1:=by omega) (h2:=hk2) (htop:=hk3))) ?_;rintro _ _ ⟨l106,h106,rfl,rfl⟩;refine ⟨by repeat (first|with_reducible exact dr_refl|apply dr_keep|apply dr_drop), ?_⟩;rw [show bos (wasL n [])=bos (wasF n g0) by rw [wasL_F,onL_nil]]
          refine Ze5 ?_;refine oh_u rfl rfl rfl (o_stU (l':=bcs (su5 (lg:Nat) (n:Nat) (fi:Nat) lvv ar) ((pz d)) ((pz p46)) ((pz h85)) wv ((pz r)) ((pz q58)) ((pz h106)) vv) rfl upqz sz69 rfl rfl (by show 11<13;decide) rfl) drqz ?_;refine Z1 ?_;exact ⟨_,_,rfl,rfl,rfl,drqz⟩
        . skip
          refine Zer ?_;refine oh_c rfl rfl rfl (o_call bd11 rfl (heap13_c (lg:=lg))) ?_;refine Zc1 ?_;refine oh_c rfl rfl rfl (o_call bd29 rfl (rNew13_c (s:=s) (r:=r) (q:=q58) (lg:=b30) (o:= .pointer none) (at_:=128+lg) (n:=n) (h64:=by omega) (h1:=by omega) (h2:=hk2) (htop:=hk3))) ?_;rintro _ _ ⟨l106,h106,rfl,rfl⟩;refine ⟨by repeat (first|with_reducible exact dr_refl|apply dr_keep|apply dr_drop), ?_⟩;rw [show bos (wasL n [])=bos (wasF n g0) by rw [wasL_F,onL_nil]]
          refine Ze5 ?_;refine oh_u rfl rfl rfl (o_stU (l':=bcs (su5 (lg:Nat) (n:Nat) (fi:Nat) lvv ar) ((pz d)) ((pz p46)) ((pz h85)) wv ((pz r)) ((pz q58)) ((pz h106)) vv) rfl upqz sz69 rfl rfl (by show 11<13;decide) rfl) drqz ?_;refine Z1 ?_;exact ⟨_,_,rfl,rfl,rfl,drqz⟩
      . skip
        refine oh_v rfl rfl rfl (o_load p3 rfl hsqz rfl) ?_;refine th_one (i:=8) kqz ?_;refine oh_v rfl rfl rfl (o_loadN (vs:=(su5 (lg:Nat) (n:Nat) (fi:Nat) lvv ar)) a25 sz25 rfl hsqz (by show 0+5<=13;decide) rfl) ?_;refine th_one (i:=9) kqz ?_;refine oh_c rfl rfl rfl (o_call bd11 rfl (heap13_c (lg:=lg))) ?_;refine Zc1 ?_;refine oh_c rfl rfl rfl (o_call bd29 rfl (rNew13_c (s:=s) (r:=r) (q:=q58) (lg:=b30) (o:= .pointer none) (at_:=128+lg) (n:=n) (h64:=by omega) (h1:=by omega) (h2:=hk2) (htop:=hk3))) ?_;rintro _ _ ⟨l106,h106,rfl,rfl⟩;refine ⟨by repeat (first|with_reducible exact dr_refl|apply dr_keep|apply dr_drop), ?_⟩;rw [show bos (wasL n [])=bos (wasF n g0) by rw [wasL_F,onL_nil]]
        refine Ze5 ?_;refine oh_u rfl rfl rfl (o_stU (l':=bcs (su5 (lg:Nat) (n:Nat) (fi:Nat) lvv ar) ((pz d)) ((pz p46)) ((pz h85)) wv ((pz r)) ((pz q58)) ((pz h106)) vv) rfl upqz sz69 rfl rfl (by show 11<13;decide) rfl) drqz ?_;refine Z1 ?_;exact ⟨_,_,rfl,rfl,rfl,drqz⟩
    . skip
      refine oh_v rfl rfl rfl (o_loadN (vs:=(su5 (lg:Nat) (n:Nat) (fi:Nat) lvv ar)) a25 sz25 rfl hsqz (by show 0+5<=13;decide) rfl) ?_;refine th_three (i:=4) (j:=9) (k:=14) kqz ?_ ?_ ?_
      . skip
        refine oh_v rfl rfl rfl (o_load p68 rfl hsqz rfl) ?_;refine th_two (i:=9) (j:=14) kqz ?_ ?_
        . skip
          refine oh_c rfl rfl rfl (o_call bd11 rfl (heap13_c (lg:=lg))) ?_;refine Zd ?_;refine Zfo ?_;refine oh_c rfl rfl rfl (o_call bd29 rfl (rNew13_c (s:=s) (r:=r) (q:=q58) (lg:=b30) (o:= .pointer none) (at_:=128+lg) (n:=n) (h64:=by omega) (h1:=by omega) (h2:=hk2) (htop:=hk3))) ?_;rintro _ _ ⟨l106,h106,rfl,rfl⟩;refine ⟨by repeat (first|with_reducible exact dr_refl|apply dr_keep|apply dr_drop), ?_⟩;rw [show bos (wasL n [])=bos (wasF n g0) by rw [wasL_F,onL_nil]]
          refine Ze5 ?_;refine oh_u rfl rfl rfl (o_stU (l':=bcs (su5 (lg:Nat) (n:Nat) (fi:Nat) lvv ar) ((pz d)) ((pz p46)) ((pz h85)) wv ((pz r)) ((pz q58)) ((pz h106)) vv) rfl upqz sz69 rfl rfl (by show 11<13;decide) rfl) drqz ?_;refine Z1 ?_;exact ⟨_,_,rfl,rfl,rfl,drqz⟩
        . skip
          refine Zer ?_;refine oh_c rfl rfl rfl (o_call bd11 rfl (heap13_c (lg:=lg))) ?_;refine Zc1 ?_;refine oh_c rfl rfl rfl (o_call bd29 rfl (rNew13_c (s:=s) (r:=r) (q:=q58) (lg:=b30) (o:= .pointer none) (at_:=128+lg) (n:=n) (h64:=by omega) (h1:=by omega) (h2:=hk2) (htop:=hk3))) ?_;rintro _ _ ⟨l106,h106,rfl,rfl⟩;refine ⟨by repeat (first|with_reducible exact dr_refl|apply dr_keep|apply dr_drop), ?_⟩;rw [show bos (wasL n [])=bos (wasF n g0) by rw [wasL_F,onL_nil]]
          refine Ze5 ?_;refine oh_u rfl rfl rfl (o_stU (l':=bcs (su5 (lg:Nat) (n:Nat) (fi:Nat) lvv ar) ((pz d)) ((pz p46)) ((pz h85)) wv ((pz r)) ((pz q58)) ((pz h106)) vv) rfl upqz sz69 rfl rfl (by show 11<13;decide) rfl) drqz ?_;refine Z1 ?_;exact ⟨_,_,rfl,rfl,rfl,drqz⟩
      . skip
        refine oh_c rfl rfl rfl (o_call bd11 rfl (heap13_c (lg:=lg))) ?_;refine Zd ?_;refine th_two (i:=4) (j:=14) kqz ?_ ?_
        . skip
          refine oh_v rfl rfl rfl (o_load p68 rfl hsqz rfl) ?_;refine Zfo ?_;refine oh_c rfl rfl rfl (o_call bd29 rfl (rNew13_c (s:=s) (r:=r) (q:=q58) (lg:=b30) (o:= .pointer none) (at_:=128+lg) (n:=n) (h64:=by omega) (h1:=by omega) (h2:=hk2) (htop:=hk3))) ?_;rintro _ _ ⟨l106,h106,rfl,rfl⟩;refine ⟨by repeat (first|with_reducible exact dr_refl|apply dr_keep|apply dr_drop), ?_⟩;rw [show bos (wasL n [])=bos (wasF n g0) by rw [wasL_F,onL_nil]]
          refine Ze5 ?_;refine oh_u rfl rfl rfl (o_stU (l':=bcs (su5 (lg:Nat) (n:Nat) (fi:Nat) lvv ar) ((pz d)) ((pz p46)) ((pz h85)) wv ((pz r)) ((pz q58)) ((pz h106)) vv) rfl upqz sz69 rfl rfl (by show 11<13;decide) rfl) drqz ?_;refine Z1 ?_;exact ⟨_,_,rfl,rfl,rfl,drqz⟩
        . skip
          refine oh_v rfl rfl rfl (o_load p3 rfl hsqz rfl) ?_;refine th_one (i:=4) kqz ?_;refine Zga ?_;refine oh_c rfl rfl rfl (o_call bd29 rfl (rNew13_c (s:=s) (r:=r) (q:=q58) (lg:=b30) (o:= .pointer none) (at_:=128+lg) (n:=n) (h64:=by omega) (h1:=by omega) (h2:=hk2) (htop:=hk3))) ?_;rintro _ _ ⟨l106,h106,rfl,rfl⟩;refine ⟨by repeat (first|with_reducible exact dr_refl|apply dr_keep|apply dr_drop), ?_⟩;rw [show bos (wasL n [])=bos (wasF n g0) by rw [wasL_F,onL_nil]]
          refine Ze5 ?_;refine oh_u rfl rfl rfl (o_stU (l':=bcs (su5 (lg:Nat) (n:Nat) (fi:Nat) lvv ar) ((pz d)) ((pz p46)) ((pz h85)) wv ((pz r)) ((pz q58)) ((pz h106)) vv) rfl upqz sz69 rfl rfl (by show 11<13;decide) rfl) drqz ?_;refine Z1 ?_;exact ⟨_,_,rfl,rfl,rfl,drqz⟩
      . skip
        refine oh_v rfl rfl rfl (o_load p3 rfl hsqz rfl) ?_;refine th_two (i:=4) (j:=9) kqz ?_ ?_
        . skip
          refine oh_v rfl rfl rfl (o_load p68 rfl hsqz rfl) ?_;refine th_one (i:=9) kqz ?_;refine oh_c rfl rfl rfl (o_call bd11 rfl (heap13_c (lg:=lg))) ?_;refine Zc1 ?_;refine oh_c rfl rfl rfl (o_call bd29 rfl (rNew13_c (s:=s) (r:=r) (q:=q58) (lg:=b30) (o:= .pointer none) (at_:=128+lg) (n:=n) (h64:=by omega) (h1:=by omega) (h2:=hk2) (htop:=hk3))) ?_;rintro _ _ ⟨l106,h106,rfl,rfl⟩;refine ⟨by repeat (first|with_reducible exact dr_refl|apply dr_keep|apply dr_drop), ?_⟩;rw [show bos (wasL n [])=bos (wasF n g0) by rw [wasL_F,onL_nil]]
          refine Ze5 ?_;refine oh_u rfl rfl rfl (o_stU (l':=bcs (su5 (lg:Nat) (n:Nat) (fi:Nat) lvv ar) ((pz d)) ((pz p46)) ((pz h85)) wv ((pz r)) ((pz q58)) ((pz h106)) vv) rfl upqz sz69 rfl rfl (by show 11<13;decide) rfl) drqz ?_;refine Z1 ?_;exact ⟨_,_,rfl,rfl,rfl,drqz⟩
        . skip
          refine oh_c rfl rfl rfl (o_call bd11 rfl (heap13_c (lg:=lg))) ?_;refine Zd ?_;refine th_one (i:=4) kqz ?_;refine Zga ?_;refine oh_c rfl rfl rfl (o_call bd29 rfl (rNew13_c (s:=s) (r:=r) (q:=q58) (lg:=b30) (o:= .pointer none) (at_:=128+lg) (n:=n) (h64:=by omega) (h1:=by omega) (h2:=hk2) (htop:=hk3))) ?_;rintro _ _ ⟨l106,h106,rfl,rfl⟩;refine ⟨by repeat (first|with_reducible exact dr_refl|apply dr_keep|apply dr_drop), ?_⟩;rw [show bos (wasL n [])=bos (wasF n g0) by rw [wasL_F,onL_nil]]
          refine Ze5 ?_;refine oh_u rfl rfl rfl (o_stU (l':=bcs (su5 (lg:Nat) (n:Nat) (fi:Nat) lvv ar) ((pz d)) ((pz p46)) ((pz h85)) wv ((pz r)) ((pz q58)) ((pz h106)) vv) rfl upqz sz69 rfl rfl (by show 11<13;decide) rfl) drqz ?_;refine Z1 ?_;exact ⟨_,_,rfl,rfl,rfl,drqz⟩
    . skip
      refine oh_v rfl rfl rfl (o_load p3 rfl hsqz rfl) ?_;refine th_two (i:=4) (j:=8) kqz ?_ ?_
      . skip
        refine oh_v rfl rfl rfl (o_load p68 rfl hsqz rfl) ?_;refine th_one (i:=8) kqz ?_;refine oh_v rfl rfl rfl (o_loadN (vs:=(su5 (lg:Nat) (n:Nat) (fi:Nat) lvv ar)) a25 sz25 rfl hsqz (by show 0+5<=13;decide) rfl) ?_;refine th_one (i:=9) kqz ?_;refine oh_c rfl rfl rfl (o_call bd11 rfl (heap13_c (lg:=lg))) ?_;refine Zc1 ?_;refine oh_c rfl rfl rfl (o_call bd29 rfl (rNew13_c (s:=s) (r:=r) (q:=q58) (lg:=b30) (o:= .pointer none) (at_:=128+lg) (n:=n) (h64:=by omega) (h1:=by omega) (h2:=hk2) (htop:=hk3))) ?_;rintro _ _ ⟨l106,h106,rfl,rfl⟩;refine ⟨by repeat (first|with_reducible exact dr_refl|apply dr_keep|apply dr_drop), ?_⟩;rw [show bos (wasL n [])=bos (wasF n g0) by rw [wasL_F,onL_nil]]
        refine Ze5 ?_;refine oh_u rfl rfl rfl (o_stU (l':=bcs (su5 (lg:Nat) (n:Nat) (fi:Nat) lvv ar) ((pz d)) ((pz p46)) ((pz h85)) wv ((pz r)) ((pz q58)) ((pz h106)) vv) rfl upqz sz69 rfl rfl (by show 11<13;decide) rfl) drqz ?_;refine Z1 ?_;exact ⟨_,_,rfl,rfl,rfl,drqz⟩
      . skip
        refine oh_v rfl rfl rfl (o_loadN (vs:=(su5 (lg:Nat) (n:Nat) (fi:Nat) lvv ar)) a25 sz25 rfl hsqz (by show 0+5<=13;decide) rfl) ?_;refine th_two (i:=4) (j:=9) kqz ?_ ?_
        . skip
          refine oh_v rfl rfl rfl (o_load p68 rfl hsqz rfl) ?_;refine th_one (i:=9) kqz ?_;refine oh_c rfl rfl rfl (o_call bd11 rfl (heap13_c (lg:=lg))) ?_;refine Zc1 ?_;refine oh_c rfl rfl rfl (o_call bd29 rfl (rNew13_c (s:=s) (r:=r) (q:=q58) (lg:=b30) (o:= .pointer none) (at_:=128+lg) (n:=n) (h64:=by omega) (h1:=by omega) (h2:=hk2) (htop:=hk3))) ?_;rintro _ _ ⟨l106,h106,rfl,rfl⟩;refine ⟨by repeat (first|with_reducible exact dr_refl|apply dr_keep|apply dr_drop), ?_⟩;rw [show bos (wasL n [])=bos (wasF n g0) by rw [wasL_F,onL_nil]]
          refine Ze5 ?_;refine oh_u rfl rfl rfl (o_stU (l':=bcs (su5 (lg:Nat) (n:Nat) (fi:Nat) lvv ar) ((pz d)) ((pz p46)) ((pz h85)) wv ((pz r)) ((pz q58)) ((pz h106)) vv) rfl upqz sz69 rfl rfl (by show 11<13;decide) rfl) drqz ?_;refine Z1 ?_;exact ⟨_,_,rfl,rfl,rfl,drqz⟩
        . skip
          refine oh_c rfl rfl rfl (o_call bd11 rfl (heap13_c (lg:=lg))) ?_;refine Zd ?_;refine th_one (i:=4) kqz ?_;refine Zga ?_;refine oh_c rfl rfl rfl (o_call bd29 rfl (rNew13_c (s:=s) (r:=r) (q:=q58) (lg:=b30) (o:= .pointer none) (at_:=128+lg) (n:=n) (h64:=by omega) (h1:=by omega) (h2:=hk2) (htop:=hk3))) ?_;rintro _ _ ⟨l106,h106,rfl,rfl⟩;refine ⟨by repeat (first|with_reducible exact dr_refl|apply dr_keep|apply dr_drop), ?_⟩;rw [show bos (wasL n [])=bos (wasF n g0) by rw [wasL_F,onL_nil]]
          refine Ze5 ?_;refine oh_u rfl rfl rfl (o_stU (l':=bcs (su5 (lg:Nat) (n:Nat) (fi:Nat) lvv ar) ((pz d)) ((pz p46)) ((pz h85)) wv ((pz r)) ((pz q58)) ((pz h106)) vv) rfl upqz sz69 rfl rfl (by show 11<13;decide) rfl) drqz ?_;refine Z1 ?_;exact ⟨_,_,rfl,rfl,rfl,drqz⟩
  intro ρ B hI;obtain ⟨h106,l106,hE6,hE0,hE4,hBA⟩:=hI;refine q_then_n ?_;refine tc_pre hBA.sat ?_;clear hBA;refine te 6 hE6 ?_;refine te 0 hE0 ?_;refine te 4 hE4 ?_;refine Zr ?_;refine tv (o_fieldAddr (o:=8) underlying72 rfl rfl sz40 rfl) ?_;refine tl_u rfl (o_stU (l':=bcs (su5 (lg:Nat) (n:Nat) (fi:Nat) lvv ar) ((pz d)) ((pz p46)) ((pz h85)) (.pointer none) ((pz r)) ((pz q58)) ((pz h106)) vv) rfl upqz sz40 rfl rfl (by show 8<13;decide) rfl) ?_;refine nq ?_;refine Zr ?_;refine tv (o_fieldAddr (o:=12) underlying72 rfl rfl sz70 rfl) ?_;refine tl_u rfl (o_stU (l':=bcs (su5 (lg:Nat) (n:Nat) (fi:Nat) lvv ar) ((pz d)) ((pz p46)) ((pz h85)) (.pointer none) ((pz r)) ((pz q58)) ((pz h106)) (.pointer none)) rfl upqz sz70 rfl rfl (by show 12<13;decide) rfl) ?_;refine nq ?_;refine Zb ?_;refine Zgz ?_;refine tl_bool (d:=119) rfl (sbq ?_) dbq;intro h;refine tlm ?_;refine tv (o_eqi rfl rfl) ?_;refine Zc7 ?_;exact ⟨.bool true,R*pt xb (cl (bcs (su5 (lg:Nat) (n:Nat) (fi:Nat) lvv ar) ((pz d)) ((pz p46)) ((pz h85)) (.pointer none) ((pz r)) ((pz q58)) ((pz h106)) (.pointer none)) 72)*PLf h85 p46 b17 d 128 lg (128+lg) n (.pointer none) (T0 g0) none s*RLf h106 q58 r b30 128 lg (128+lg) n (.pointer none) (T0 g0) none s,res1 rfl rfl,(λ g9 w9 h9=>(rln_back (R:=R*pt xb (cl (bcs (su5 (lg:Nat) (n:Nat) (fi:Nat) lvv ar) ((pz d)) ((pz p46)) ((pz h85)) (.pointer none) ((pz r)) ((pz q58)) ((pz h106)) (.pointer none)) 72)*PLf h85 p46 b17 d 128 lg (128+lg) n (.pointer none) (T0 g0) none s) (hd:=h106) (q:=q58) (lg:=b30) (T:=T0 g0) (l:=l106) ((pln_back (R:=R*pt xb (cl (bcs (su5 (lg:Nat) (n:Nat) (fi:Nat) lvv ar) ((pz d)) ((pz p46)) ((pz h85)) (.pointer none) ((pz r)) ((pz q58)) ((pz h106)) (.pointer none)) 72)*(Sl 1 (.slice (some ⟨l106,0,none⟩) n n) n (bos (wasF n g0))*pt h106 (cl [pz q58,vn (128+lg),vn n,.slice (some ⟨l106,0,none⟩) n n,.pointer none] 122)*pt q58 (cl [pz r,pz b30,.pointer none] 177)*pt b30 (cl [pz r,vn 128,vn lg] 208)*RDev r s)) (h:=h85) (p:=p46) (lg:=b17) (T:=T0 g0) (M:=⟨[],0⟩) (lv:=lv85) (sf_nil 0 n) (h9.perm (by unfold RsA;ac_rfl))).perm (by unfold T0;dsimp only;ac_rfl))).perm (by ac_rfl)),p46,h85,b17,q58,h106,b30,rfl,rfl⟩
end Go.Vl

namespace Go.Vl
open Go Go.Proofs Go.Proofs.Tryz
theorem wpAnyH_hold {P:Program}{ops:Array Oper}{Q:Exit->Act->World->Prop}{S1 S2:World->Prop}(h12:∀w,S2 w->S1 w):∀ (fuel:Nat) (listed:Array Bool) (a:Act) (w:World),wpAnyH P .any ops Q S2 fuel listed a w->wpAnyH P .any ops Q S1 fuel listed a w
  |0,_,_,_,h=>h
  |fuel+1,_,_,_,h=>⟨h.1,λ i hi=>wpOp_mono (λ a' w' h'=>⟨h12 _ h'.1,wpAnyH_hold h12 fuel _ a' w' h'.2⟩) (h.2 i hi)⟩
theorem th_hold {P:Program}{n:Nat}{ops:Array Oper}{Q:Post}{S:SP}(S2:SP){fuel:Nat}{listed:Array Bool}{ρ:Env}{A:SP}(hd:Dr A S2)(h2:Dr S2 S)(h:TH P n ops Q S2 fuel listed ρ A):TH P n ops Q S fuel listed ρ A:=λ g a w ha hs _=>
  wpAnyH_hold (λ w' h'=>h2.sat _ _ h') fuel listed a w (h g a w ha hs (hd.sat _ _ hs))
def w12 (l:List Op12U)(i:Nat):Nat:=((l.drop i).map λ t=>3300+t.X.length).sum
def o12s (l:List Op12U):List Value:=l.flatMap Op12U.cells
def POp12 (A:SP)(cs:List Value)(ts:List Op12U):Prop:=∃a cap,cs=[.slice a ts.length cap]/\ ts.length<=cap/\ Rs A a (o12s ts)/\∀t∈ts,Op12W A t
attribute [local irreducible] crk crL crc Sl pt ro Dev imgS recS readS recsF rdW rdO rkT Parts rvl recordsS runsL adrF kcl xcl kys runA runsF layF ovF TxA adZ WkA SlB blkS conB imF RDev lineC RLines TxR TxE ldT TxX wasF
theorem laid13_c {A:SP}{lg n fi ml cl_:Nat}{la:Option Addr}{zs:List Int}(h1:128<=lg)(h2:lg<=32768)(h3:lg%64=0)(h4:n<=64)(hfi:fi<256)(hrl:Rs A la (ints zs))(hml:zs.length=ml)(hmb:ml<=9223372036854775807){aa:Option Addr}{ma ca:Nat}{kvs:List Value}{ars:List (Int×List Int)}(hra:RdA A aa kvs ars)(hma:ars.length=ma)(hla:ma<=17592186044416)(hka:∀x∈ars,(-9223372036854775808<=x.1/\ x.1<=9223372036854775807)/\ x.2.length<=17592186044416/\∀k∈x.2,k<=9223372036854775807):
    Fn Tryz.prog 27 #[.agg (su5 (lg:Nat) (n:Nat) (fi:Nat) (.slice la ml cl_) (.slice aa ma ca)).toArray] A (λ rr B=>∃xb p h l d q hd rl r,rr= .tuple #[pz xb,.bool true]/\ B=A*pt xb (cl (bcs (su5 (lg:Nat) (n:Nat) (fi:Nat) (.slice la ml cl_) (.slice aa ma ca)) ((pz d)) ((pz p)) ((pz h)) (.pointer none) ((pz r)) ((pz q)) ((pz hd)) (.pointer none)) 72)*PLf h p l d 128 lg (128+lg) n (.pointer none) (loadY n (T0 g0) none zs).2 none (armS ars (s13 lg n fi)).2*RLf hd q r rl 128 lg (128+lg) n (.pointer none) (loadY n (T0 g0) none zs).2 none (armS ars (s13 lg n fi)).2):=by
  refine fn_enterW func27 rfl ntmps27 (by simp) ?_;have h64:=nl13_64 (n:=n) h3;have hcal:=s13_calm (fi:=fi) h1 h2 h3 h4;have hls:(s13 lg n fi).ls.length=nl13 lg n:=s13_len;have hk:=hk13 h1 h2 h3 h4 hcal.wf hls;have hnl:nl13 lg n<=65536:=(by unfold nl13;omega);have hnp:0<nl13 lg n:=(by unfold nl13;omega);refine Zcf ?_;rintro _ _ ⟨b1,rfl,rfl⟩;refine tla ?_;refine Zfe ?_;refine tv (o_loadN (vs:=(su5 (lg:Nat) (n:Nat) (fi:Nat) (.slice la ml cl_) (.slice aa ma ca))) a25 sz25 rfl hsqz (by exact Nat.le_refl 5) rfl) ?_;refine tv (o_bS (l:=bcs (su5 (lg:Nat) (n:Nat) (fi:Nat) (.slice la ml cl_) (.slice aa ma ca)) (.pointer none) (.pointer none) (.pointer none) (.pointer none) (.pointer none) (.pointer none) (.pointer none) (.pointer none)) (pv_cons wqz pv_nil) underlying72 z72 (pl72 underlying72) rfl) ?_;refine tl_x rfl (o_box rfl (l:=bcs (su5 (lg:Nat) (n:Nat) (fi:Nat) (.slice la ml cl_) (.slice aa ma ca)) (.pointer none) (.pointer none) (.pointer none) (.pointer none) (.pointer none) (.pointer none) (.pointer none) (.pointer none)) rfl) ?_;rintro _ _ ⟨b11,rfl,rfl⟩;refine Zfe ?_;refine tv (o_loadN (vs:=(su5 (lg:Nat) (n:Nat) (fi:Nat) (.slice la ml cl_) (.slice aa ma ca))) a25 sz25 rfl hsqz (by exact Nat.le_refl 5) rfl) ?_;refine tl_c rfl (o_call bd10 rfl (image13_c (lg:=lg) (n:=n) (fi:=fi))) ?_;rintro _ _ ⟨a14,c14,rfl,hc14,rfl⟩;refine tl_c rfl (o_call bd45 rfl (From_c (n:=nl13 lg n) (xs:=im13 (128+lg) n fi) (hr:=rs_sl) (hx:=by first|exact im13_len _ _ _|rw [im13_len,h64]) (hm:=h64.symm) (hb:=im13_lt _ _ _))) ?_;rintro _ _ ⟨d15,rfl,rfl⟩;rw [show fromS (nl13 lg n) (im13 (128+lg) n fi)=s13 lg n fi from rfl]
  refine Zbx ?_;refine Zfe ?_;refine tv (o_loadN (vs:=(su5 (lg:Nat) (n:Nat) (fi:Nat) (.slice la ml cl_) (.slice aa ma ca))) a25 sz25 rfl hsqz (by exact Nat.le_refl 5) rfl) ?_;refine tl_c rfl (o_call bd10 rfl (image13_c (lg:=lg) (n:=n) (fi:=fi))) ?_;rintro _ _ ⟨a20,c20,rfl,hc20,rfl⟩;refine tl_c rfl (o_call bd64 rfl (rFrom_c (n:=nl13 lg n) (xs:=im13 (128+lg) n fi) (hr:=rs_sl) (hx:=by first|exact im13_len _ _ _|rw [im13_len,h64]) (hm:=h64.symm) (hmc:=hc20) (hb:=im13_lt _ _ _))) ?_;rintro _ _ ⟨r21,rfl,rfl⟩;rw [show fromS (nl13 lg n) (im13 (128+lg) n fi)=s13 lg n fi from rfl]
  refine Zd3 ?_;refine Zdf ?_;refine tl_bool (d:=26) rfl dbq (sbq ?_);intro h;refine Zdo ?_;refine Zc8 ?_;intro h;refine Zb8 ?_;refine Zbb ?_;refine tv (o_fieldAddr (o:=5) underlying72 rfl rfl sz28 rfl) ?_;refine tl_u rfl (o_stU (l':=bcs (su5 (lg:Nat) (n:Nat) (fi:Nat) (.slice la ml cl_) (.slice aa ma ca)) ((pz d15)) (.pointer none) (.pointer none) (.pointer none) (.pointer none) (.pointer none) (.pointer none) (.pointer none)) rfl upqz sz28 rfl rfl (by show 5<13;decide) rfl) ?_;refine nq ?_;refine Zb ?_;refine Zbb ?_;refine tv (o_fieldAddr (o:=9) underlying72 rfl rfl sz67 rfl) ?_;refine tl_u rfl (o_stU (l':=bcs (su5 (lg:Nat) (n:Nat) (fi:Nat) (.slice la ml cl_) (.slice aa ma ca)) ((pz d15)) (.pointer none) (.pointer none) (.pointer none) ((pz r21)) (.pointer none) (.pointer none) (.pointer none)) rfl upqz sz67 rfl rfl (by show 9<13;decide) rfl) ?_;refine Zds ?_;refine tc_regh (S:=A*pt b1 (cl (su5 (lg:Nat) (n:Nat) (fi:Nat) (.slice la ml cl_) (.slice aa ma ca)) 25)) mo drqz ?_
  show TH _ _ _ _ _ 39 (Array.replicate 39 false) _ _
  refine Zby ?_;refine th_one (i:=2) kqz ?_;refine oh_c rfl rfl rfl (o_call bd65 rfl (anew13_c (R:=A*pt b1 (cl (su5 (lg:Nat) (n:Nat) (fi:Nat) (.slice la ml cl_) (.slice aa ma ca)) 25)*Sl 1 (.slice a14 (128+lg+256*n) c14) (128+lg+256*n) (bys (im13 (128+lg) n fi))*Sl 1 (.slice a20 (128+lg+256*n) c20) (128+lg+256*n) (bys (im13 (128+lg) n fi))) (xb:=b11) (d:=d15) (r:=r21) (lg:=lg) (n:=n) (fi:=fi) (s:=s13 lg n fi) (hA:=by ac_rfl) (h1:=h1) (h2:=h2) (h3:=h3) (h4:=h4) (hwf:=hcal.wf) (hls:=hls))) ?_;rintro _ _ ⟨p41,h41,l41,q41,hd41,k41,rfl,rfl⟩;refine ⟨by repeat (first|with_reducible exact dr_refl|apply dr_keep|apply dr_drop), ?_⟩;refine th_hold (A*pt b1 (cl (su5 (lg:Nat) (n:Nat) (fi:Nat) (.slice la ml cl_) (.slice aa ma ca)) 25)*pt b11 (cl (bcs (su5 (lg:Nat) (n:Nat) (fi:Nat) (.slice la ml cl_) (.slice aa ma ca)) ((pz d15)) ((pz p41)) ((pz h41)) (.pointer none) ((pz r21)) ((pz q41)) ((pz hd41)) (.pointer none)) 72)) drqz drqz ?_;refine tm 3 rfl kqz rfl (o_move wqz) ?_;refine th_bool (d:=42) rfl (sbq ?_) dbq;intro h;refine Zbv ?_;refine tm 6 rfl kqz rfl (o_fieldAddr (o:=7) underlying72 rfl rfl sz29 rfl) ?_;refine tm 7 rfl kqz rfl (o_load p29 rfl hsqz rfl) ?_;refine tm 8 rfl kqz rfl (o_fieldAddr (o:=3) underlying25 rfl rfl sz22 rfl) ?_;refine tm 9 rfl kqz rfl (o_load p22 rfl hsqz rfl) ?_;refine tm 11 rfl kqz rfl (o_move wqz) ?_;refine tm 12 rfl kqz rfl (o_nilCheck rfl) ?_;refine tm 13 rfl kqz rfl (o_fieldAddr (o:=11) underlying72 rfl rfl sz69 rfl) ?_;refine tm 14 rfl kqz rfl (o_load p69 rfl hsqz rfl) ?_;refine tm 15 rfl kqz rfl (o_fieldAddr (o:=3) underlying25 rfl rfl sz22 rfl) ?_;refine tm 16 rfl kqz rfl (o_load p22 rfl hsqz rfl) ?_;refine th_one (i:=10) kqz ?_;refine oh_c rfl rfl rfl (o_call bd46 rfl (LoadPC (h:=h41) (p:=p41) (lg:=l41) (d:=d15) (at_:=128) (sz:=lg) (ba:=128+lg) (n:=n) (wv:= .pointer none) (T:=T0 g0) (o:=none) (s:=s13 lg n fi) (zs:=zs) (hb:=hk) (hr:=(by repeat (first|exact hrl|apply Rs.left))) (hm:=hml) (hml:=hmb))) ?_;refine Zd ?_;refine th_one (i:=17) kqz ?_;refine oh_c rfl rfl rfl (o_call bd66 rfl (rLoadPC (hd:=hd41) (q:=q41) (r:=r21) (lg:=k41) (at_:=128) (sz:=lg) (ba:=128+lg) (n:=n) (wv:= .pointer none) (T:=T0 g0) (o:=none) (s:=s13 lg n fi) (zs:=zs) (hb:=hk) (hr:=(by repeat (first|exact hrl|apply Rs.left))) (hm:=hml) (hml:=hmb))) ?_;refine Zd ?_;refine tm 18 rfl kqz rfl (o_eqi rfl rfl) ?_;refine th_env (d:=57) (v:= .bool true) (by show Value.bool (decide (_=_))=_;simp) ?_;refine tm 19 rfl kqz rfl (o_pick_t rfl wqz) ?_;refine tm 20 rfl kqz rfl (o_move wqz) ?_;refine th_bool (d:=59) rfl (sbq ?_) dbq;intro h;refine tm 21 rfl kqz rfl (o_move wqz) ?_;refine tm 22 rfl kqz rfl (o_nilCheck rfl) ?_;refine tm 23 rfl kqz rfl (o_fieldAddr (o:=5) underlying72 rfl rfl sz28 rfl) ?_;refine tm 24 rfl kqz rfl (o_load p28 rfl hsqz rfl) ?_;refine tm 25 rfl kqz rfl (o_fieldAddr (o:=4) underlying25 rfl rfl sz23 rfl) ?_;refine tm 26 rfl kqz rfl (o_load p23 rfl hsqz rfl) ?_;refine tm 28 rfl kqz rfl (o_move wqz) ?_;refine tm 29 rfl kqz rfl (o_nilCheck rfl) ?_;refine tm 30 rfl kqz rfl (o_fieldAddr (o:=9) underlying72 rfl rfl sz67 rfl) ?_;refine tm 31 rfl kqz rfl (o_load p67 rfl hsqz rfl) ?_;refine tm 32 rfl kqz rfl (o_fieldAddr (o:=4) underlying25 rfl rfl sz23 rfl) ?_;refine tm 33 rfl kqz rfl (o_load p23 rfl hsqz rfl) ?_;refine th_one (i:=27) kqz ?_;refine oh_c rfl rfl rfl (o_call bd67 rfl (ArmPC (h:=h41) (p:=p41) (lg:=l41) (d:=d15) (at_:=128) (sz:=lg) (ba:=128+lg) (n:=n) (wv:= .pointer none) (T:=(loadY n (T0 g0) none zs).2) (o:=none) (s:=s13 lg n fi) (ars:=ars) (hr:=(by repeat (first|exact hra|apply RdA.left))) (hm:=hma) (hl:=hla) (hk:=hka))) ?_;refine Zd ?_;refine th_one (i:=34) kqz ?_;refine oh_c rfl rfl rfl (o_call bd68 rfl (rArmPC (hd:=hd41) (q:=q41) (r:=r21) (lg:=k41) (at_:=128) (sz:=lg) (ba:=128+lg) (n:=n) (wv:= .pointer none) (T:=(loadY n (T0 g0) none zs).2) (o:=none) (s:=s13 lg n fi) (ars:=ars) (hr:=(by repeat (first|exact hra|apply RdA.left))) (hm:=hma) (hl:=hla) (hk:=hka))) ?_;refine Zd ?_;refine tm 35 rfl kqz rfl (o_eqi rfl rfl) ?_;refine th_env (d:=74) (v:= .bool true) (by show Value.bool (decide (_=_))=_;simp) ?_;refine tm 36 rfl kqz rfl (o_pick_t rfl wqz) ?_;refine tm 37 rfl kqz rfl (o_assign wqz) ?_;refine tm 38 rfl kqz rfl (o_assign wqz) ?_;refine Zg6 ?_;exact ⟨_,A*pt b11 (cl (bcs (su5 (lg:Nat) (n:Nat) (fi:Nat) (.slice la ml cl_) (.slice aa ma ca)) ((pz d15)) ((pz p41)) ((pz h41)) (.pointer none) ((pz r21)) ((pz q41)) ((pz hd41)) (.pointer none)) 72)*PLf h41 p41 l41 d15 128 lg (128+lg) n (.pointer none) (loadY n (T0 g0) none zs).2 none (armS ars (s13 lg n fi)).2*RLf hd41 q41 r21 k41 128 lg (128+lg) n (.pointer none) (loadY n (T0 g0) none zs).2 none (armS ars (s13 lg n fi)).2,res2 rfl rfl rfl,Dr.sat drqz,b11,p41,h41,l41,d15,q41,hd41,k41,r21,rfl,rfl⟩
end Go.Vl

namespace Go.Vl
open Go Go.Proofs Go.Proofs.Tryz
theorem ct_rn {R:SP}{hd q r lg at_ sz ba n l:Nat}{T:WkT}{s:DevS}:Ct (R*(pt hd (cl [pz q,vn ba,vn n,.slice (some ⟨l,0,none⟩) n n,.pointer none] 122)*Sl 1 (.slice (some ⟨l,0,none⟩) n n) n (bos (wasF n T.lv))*pt q (cl [pz r,pz lg,.pointer none] 177)*pt lg (cl [pz r,vn at_,vn sz] 208)*RDev r s)) (RDev r s) (R*(pt hd (cl [pz q,vn ba,vn n,.slice (some ⟨l,0,none⟩) n n,.pointer none] 122)*Sl 1 (.slice (some ⟨l,0,none⟩) n n) n (bos (wasF n T.lv))*pt q (cl [pz r,pz lg,.pointer none] 177)*pt lg (cl [pz r,vn at_,vn sz] 208))) (λ Z=>R*(pt hd (cl [pz q,vn ba,vn n,.slice (some ⟨l,0,none⟩) n n,.pointer none] 122)*Sl 1 (.slice (some ⟨l,0,none⟩) n n) n (bos (wasF n T.lv))*pt q (cl [pz r,pz lg,.pointer none] 177)*pt lg (cl [pz r,vn at_,vn sz] 208))*Z):=⟨by ac_rfl,λ _=>rfl⟩
theorem has_rn {R:SP}{hd q r lg at_ sz ba n l:Nat}{T:WkT}{s:DevS}:Has (R*(pt hd (cl [pz q,vn ba,vn n,.slice (some ⟨l,0,none⟩) n n,.pointer none] 122)*Sl 1 (.slice (some ⟨l,0,none⟩) n n) n (bos (wasF n T.lv))*pt q (cl [pz r,pz lg,.pointer none] 177)*pt lg (cl [pz r,vn at_,vn sz] 208)*RDev r s)) q (cl [pz r,pz lg,.pointer none] 177):=λ g w h=>has_pt g w h.right.left.left.right
theorem rda_nil {A:SP}:RdA A none [] []:=⟨rs_none,rfl,λ i h=>absurd h (by simp)⟩
theorem NewPC {A R:SP}{C:SP->SP}{h p lg d at_ sz ba n:Nat}{T:WkT}{s:DevS}(hc:Ct A (PLf h p lg d at_ sz ba n (.pointer none) T none s) R C:=by exact cbqz)(hb:HkB at_ sz ba n s){b2 n2:Nat}(h64:b2%64=0)(h1:128<=b2)(h2:b2+256*n2<=s.ls.length*64)(hpos:0<s.ls.length):Fn Tryz.prog 28 #[pz p,vn b2,vn n2] A (λ r B=>∃lv2 hd2,r= .tuple #[pz hd2,.int .i64 0]/\ B=C (PLf h p lg d at_ sz ba n (.pointer none) T none s)*(pt lv2 (mpo .i64 ⟨[],0⟩)*pt hd2 (cl (hcs p b2 n2 lv2 none) 99))):=by
  obtain ⟨rfl,hC⟩:=hc;refine fn_pln λ lv M _ hM=>Fn.weak (NewH_c (hc:=rsa_dev ct_here) (hp:=rsa_p ct_here) h64 h1 h2 hb.top hpos) ?_
  rintro v B ⟨lv2,h2',rfl,rfl⟩;exact ⟨R*(PLf h p lg d at_ sz ba n (.pointer none) T none s)*(pt lv2 (mpo .i64 ⟨[],0⟩)*pt h2' (cl (hcs p b2 n2 lv2 none) 99)),λ g9 w9 h9=>(pln_back (R:=R*(pt lv2 (mpo .i64 ⟨[],0⟩)*pt h2' (cl (hcs p b2 n2 lv2 none) 99))) hM (h9.perm (by ac_rfl))).perm (by ac_rfl),lv2,h2',rfl,by rw [hC]⟩
theorem NewPC_no {A R:SP}{C:SP->SP}{h p lg d at_ sz ba n:Nat}{T:WkT}{s:DevS}(hc:Ct A (PLf h p lg d at_ sz ba n (.pointer none) T none s) R C:=by exact cbqz)(hb:HkB at_ sz ba n s){z n2:Int}(hz: -9223372036854775808<=z/\ z<=9223372036854775807)(hn: -9223372036854775808<=n2/\ n2<=9223372036854775807)(hpos:0<s.ls.length)(hne:nwE (s.ls.length*64) z n2≠0):Fn Tryz.prog 28 #[pz p,.int .i64 z,.int .i64 n2] A (λ r B=>r= .tuple #[.pointer none,.int .i64 2]/\ B=C (PLf h p lg d at_ sz ba n (.pointer none) T none s)):=by
  obtain ⟨rfl,hC⟩:=hc;refine fn_pln λ lv M _ hM=>Fn.weak (NewH_no (hc:=rsa_dev ct_here) (hp:=rsa_p ct_here) hz hn hb.top hpos hne) ?_
  rintro v B ⟨rfl,rfl⟩;exact ⟨_,λ g9 w9 h9=>pln_back hM h9,rfl,by rw [hC]⟩
theorem rNewPC {A R:SP}{C:SP->SP}{hd q r lg at_ sz ba n:Nat}{T:WkT}{s:DevS}(hc:Ct A (RLf hd q r lg at_ sz ba n (.pointer none) T none s) R C:=by exact cbqz)(hb:HkB at_ sz ba n s){b2 n2:Nat}(h64:b2%64=0)(h1:128<=b2)(h2:b2+256*n2<=s.ls.length*64)(hpos:0<s.ls.length):Fn Tryz.prog 29 #[pz q,vn b2,vn n2] A (λ rr B=>∃l2 hd2,rr= .tuple #[pz hd2,.int .i64 0]/\ B=C (RLf hd q r lg at_ sz ba n (.pointer none) T none s)*(Sl 1 (.slice (some ⟨l2,0,none⟩) n2 n2) n2 (bos (wasF n2 g0))*pt hd2 (cl [pz q,vn b2,vn n2,.slice (some ⟨l2,0,none⟩) n2 n2,.pointer none] 122))):=by
  obtain ⟨rfl,hC⟩:=hc;refine fn_rln λ l _=>Fn.weak (rNew13_c (hc:=ct_rn) (hq:=has_rn) h64 h1 h2 hb.top) ?_
  rintro v B ⟨l2,h2',rfl,rfl⟩;exact ⟨R*(RLf hd q r lg at_ sz ba n (.pointer none) T none s)*(Sl 1 (.slice (some ⟨l2,0,none⟩) n2 n2) n2 (bos (wasF n2 g0))*pt h2' (cl [pz q,vn b2,vn n2,.slice (some ⟨l2,0,none⟩) n2 n2,.pointer none] 122)),λ g9 w9 h9=>(rln_back (R:=R*(Sl 1 (.slice (some ⟨l2,0,none⟩) n2 n2) n2 (bos (wasF n2 g0))*pt h2' (cl [pz q,vn b2,vn n2,.slice (some ⟨l2,0,none⟩) n2 n2,.pointer none] 122))) (hd:=hd) (q:=q) (r:=r) (lg:=lg) (at_:=at_) (sz:=sz) (ba:=ba) (n:=n) (T:=T) (s:=s) (l:=l) (h9.perm (by rw [show bos (wasF n2 g0)=bos (wasL n2 []) by rw [wasL_F,onL_nil]];ac_rfl))).perm (by ac_rfl),l2,h2',rfl,by rw [hC]⟩
theorem rNewPC_no {A R:SP}{C:SP->SP}{hd q r lg at_ sz ba n:Nat}{T:WkT}{s:DevS}(hc:Ct A (RLf hd q r lg at_ sz ba n (.pointer none) T none s) R C:=by exact cbqz)(hb:HkB at_ sz ba n s){z n2:Int}(hz: -9223372036854775808<=z/\ z<=9223372036854775807)(hn: -9223372036854775808<=n2/\ n2<=9223372036854775807)(hpos:0<s.ls.length)(hne:nwE (s.ls.length*64) z n2≠0):Fn Tryz.prog 29 #[pz q,.int .i64 z,.int .i64 n2] A (λ rr B=>rr= .tuple #[.pointer none,.int .i64 2]/\ B=C (RLf hd q r lg at_ sz ba n (.pointer none) T none s)):=by
  obtain ⟨rfl,hC⟩:=hc;refine fn_rln λ l _=>Fn.weak (rNew13_no (hc:=ct_rn) (hq:=has_rn) hz hn hb.top hpos hne) ?_
  rintro v B ⟨rfl,rfl⟩;exact ⟨_,λ g9 w9 h9=>rln_back h9,rfl,by rw [hC]⟩
attribute [local irreducible] crk crL crc Sl pt ro Dev imgS recS readS recsF rdW rdO rkT Parts rvl recordsS runsL adrF kcl xcl kys runA runsF layF ovF TxA adZ WkA SlB blkS conB imF RDev lineC RLines TxR TxE ldT TxX wasF
theorem madeN_c {A:SP}:
    Fn Tryz.prog 134 #[.pointer none] A (λ r B=>r= .bool false/\ A=B):=by
  refine Zh5 ?_;refine tlm ?_;refine tl_bool (d:=5) rfl dbq (sbq ?_);intro h;refine Zba ?_;refine tk ?_;refine Zgj ?_;exact ⟨.bool false,_,res1 rfl rfl,Dr.sat drqz,rfl,rfl⟩
theorem madeE_c {A:SP}{p:Nat}(hp:Has A p (cl [.pointer none,.pointer none,.pointer none] 78)):
    Fn Tryz.prog 134 #[pz p] A (λ r B=>r= .bool false/\ A=B):=by
  refine Zh5 ?_;refine Zgq ?_;intro h;refine Zbb ?_;refine tv (o_fieldAddr (o:=0) underlying78 rfl rfl sz28 rfl) ?_;refine tv (o_load p28 rfl hp rfl) ?_;refine tv (o_nep underlying28 rfl rfl) ?_;refine Zc7 ?_;exact ⟨.bool false,_,res1 rfl rfl,Dr.sat drqz,rfl,rfl⟩
theorem SizeB_c {A:SP}{v:Value}(hm:Fn Tryz.prog 134 #[v] A (λ r B=>r= .bool false/\ A=B)):
    Fn Tryz.prog 69 #[v] A (λ r B=>r= .int .i64 0/\ A=B):=by
  refine fn_enterW func69 rfl ntmps69 (by simp) ?_;refine Zb0 ?_;refine tl_c rfl (o_call bd134 rfl (hm)) ?_;refine Zbo ?_;refine Zd5 ?_;intro h;refine Zdy ?_;exact ⟨.int .i64 0,_,res1 rfl rfl,Dr.sat drqz,rfl,rfl⟩
theorem NewB_c {A:SP}{v:Value}{z n:Int}(hm:Fn Tryz.prog 134 #[v] A (λ r B=>r= .bool false/\ A=B)):
    Fn Tryz.prog 28 #[v,.int .i64 z,.int .i64 n] A (λ r B=>r= .tuple #[.pointer none,.int .i64 1]/\ A=B):=by
  refine fn_enterW func28 rfl ntmps28 (by simp) ?_;refine Zdn ?_;refine tl_c rfl (o_call bd69 rfl (SizeB_c hm)) ?_;rintro _ _ ⟨rfl,rfl⟩;refine tv (o_eqi rfl rfl) ?_;refine Zd5 ?_;intro h;refine Zev ?_;exact ⟨_,_,res2 rfl rfl rfl,Dr.sat drqz,rfl,rfl⟩
end Go.Vl

namespace Go.Vl
open Go Go.Proofs Go.Proofs.Tryz
theorem arm_nil {s:DevS}(ho:s.off=false)(ha:s.arms=[]):armS [] s=(0,s):=by
  unfold armS
  obtain ⟨ls,ops,arms,cnt,off⟩:=s
  simp only [] at ho ha
  subst ho ha
  simp
attribute [local irreducible] crk crL crc Sl pt ro Dev imgS recS readS recsF rdW rdO rkT Parts rvl recordsS runsL adrF kcl xcl kys runA runsF layF ovF TxA adZ WkA SlB blkS conB imF RDev lineC RLines TxR TxE ldT TxX wasF
theorem Zh7 {p r:Prop}(k:r)(h:Kq r->p:=by intro k;refine tv (o_fieldAddr (o:=10) underlying72 rfl rfl sz68 rfl) ?_;refine tv (o_load p68 rfl hsqz rfl) ?_;exact k.o):p:=h ⟨k⟩
theorem Zf4 {p r:Prop}(k:r)(h:Kq r->p:=by intro k;refine tlm ?_;refine tv (o_eqp underlying29 rfl rfl) ?_;exact k.o):p:=h ⟨k⟩
theorem Zg1 {p r:Prop}(k:r)(h:Kq r->p:=by intro k;refine tl_c rfl (o_call bd25 rfl (works13_c)) ?_;rintro _ _ ⟨rfl,rfl⟩;exact k.o):p:=h ⟨k⟩
theorem made_ok {A:SP}{n:Nat}(hn4:n<=64){b2 n2:Nat}(h1:b2%64=0)(h2:128<=b2)(h3:b2+256*n2<=nl13 128 n*64):
    Fn Tryz.prog 4 #[vn n,vn b2,vn n2] A (λ r B=>r= .bool true/\ B=A):=by
  refine fn_enterW func4 rfl ntmps4 (by simp) ?_;have hcal:=s13_calm (lg:=128) (n:=n) (fi:=0) (by decide) (by decide) (by decide) hn4;have hls:(s13 128 n 0).ls.length=nl13 128 n:=s13_len;have hsa:(armS [] (s13 128 n 0)).2.ls.length=nl13 128 n:=(by rw [arm_len,hls]);have hwa:WfD (armS [] (s13 128 n 0)).2:=(by rw [arm_nil hcal.on hcal.arms];exact hcal.wf);have hk:=hk13 (lg:=128) (n:=n) (by decide) (by decide) (by decide) hn4 hwa hsa;have h64:=nl13_64 (lg:=128) (n:=n) (by decide);refine Zdz ?_;refine tv (o_bS (l:=(su5 128 ((n:Nat):Int) 0 (.slice none 0 0) (.slice none 0 0))) (pv_cons wqz (pv_cons wqz pv_nil)) underlying25 z25 (pl25 underlying25) rfl) ?_;refine tl_x rfl (o_alloc (l:=su5 0 0 0 (.slice none 0 0) (.slice none 0 0)) z25 rfl) ?_;rintro _ _ ⟨b7,rfl,rfl⟩;refine tl_u rfl (o_stUN (l':=(su5 128 ((n:Nat):Int) 0 (.slice none 0 0) (.slice none 0 0))) rfl upqz sz25 rfl rfl rfl (by exact Nat.le_refl 5) rfl) ?_;refine Zds ?_;refine sr ?_;refine tv (o_loadN (vs:=(su5 128 ((n:Nat):Int) 0 (.slice none 0 0) (.slice none 0 0))) a25 sz25 rfl hsqz (by exact Nat.le_refl 5) rfl) ?_;refine tl_c rfl (o_call bd26 rfl (fits13_c (lg:=128) (n:=((n:Nat):Int)))) ?_;rintro _ _ ⟨rfl,rfl⟩;refine tl_env (d:=17) (v:= .bool true) (congrArg Value.bool (decide_eq_true oqz)) ?_;refine tv (o_not rfl) ?_;refine Zm ?_;intro h;refine Zg4 ?_;refine tv (o_loadN (vs:=(su5 128 ((n:Nat):Int) 0 (.slice none 0 0) (.slice none 0 0))) a25 sz25 rfl hsqz (by exact Nat.le_refl 5) rfl) ?_;refine tl_c rfl (o_call bd27 rfl (laid13_c (lg:=128) (n:=n) (fi:=0) (ml:=0) (cl_:=0) (la:=none) (zs:=[]) (aa:=none) (ma:=0) (ca:=0) (kvs:=[]) (ars:=[]) (h1:=by decide) (h2:=by decide) (h3:=by decide) (h4:=hn4) (hfi:=by decide) (hrl:=rs_none) (hml:=rfl) (hmb:=by decide) (hra:=rda_nil) (hma:=rfl) (hla:=by decide) (hka:=λ x hx=>by cases hx))) ?_;rintro _ _ ⟨x22,p22,h22,l22,d22,q22,i22,k22,r22,rfl,rfl⟩;refine Zd3 ?_;refine tv (o_not rfl) ?_;refine Zm ?_;intro h;refine Zd4 ?_;refine tv (o_fieldAddr (o:=6) underlying72 rfl rfl sz66 rfl) ?_;refine tv (o_load p66 rfl hsqz rfl) ?_;refine Z0 ?_;refine tl_c rfl (o_call bd28 rfl (NewPC (h:=h22) (p:=p22) (lg:=l22) (d:=d22) (at_:=128) (sz:=128) (ba:=128+128) (n:=n) (T:=(loadY n (T0 g0) none []).2) (s:=(armS [] (s13 128 n 0)).2) (b2:=b2) (n2:=n2) (hb:=hk) (h64:=h1) (h1:=h2) (h2:=by rw [hsa];exact h3) (hpos:=by rw [hsa];unfold nl13;omega))) ?_;rintro _ _ ⟨lv34,h34,rfl,rfl⟩;refine Zbx ?_;refine Zhq ?_;refine Zh7 ?_;refine Z0 ?_;refine tl_c rfl (o_call bd29 rfl (rNewPC (hd:=i22) (q:=q22) (r:=r22) (lg:=k22) (at_:=128) (sz:=128) (ba:=128+128) (n:=n) (T:=(loadY n (T0 g0) none []).2) (s:=(armS [] (s13 128 n 0)).2) (b2:=b2) (n2:=n2) (hb:=hk) (h64:=h1) (h1:=h2) (h2:=by rw [hsa];exact h3) (hpos:=by rw [hsa];unfold nl13;omega))) ?_;rintro _ _ ⟨l44,h44,rfl,rfl⟩;refine Zd3 ?_;refine Zdo ?_;refine tl_env (d:=49) (v:= .bool false) (rfl) ?_;refine tlm ?_;refine tl_bool (d:=50) rfl dbq (sbq ?_);intro h;refine Zf4 ?_;refine tlm ?_;refine tv (o_eqp underlying69 rfl rfl) ?_;refine tv (o_neb underlying4 rfl rfl) ?_;refine Zc8 ?_;intro h;refine Zgk ?_;refine tl_c rfl (o_call bd28 rfl (NewB_c madeN_c)) ?_;rintro _ _ ⟨rfl,rfl⟩;refine Zbk ?_;refine Zfe ?_;refine tv (o_bS (l:=[.pointer none,.pointer none,.pointer none]) pv_nil underlying78 z78 (pl78 underlying78) rfl) ?_;refine tl_x rfl (o_box rfl (l:=[.pointer none,.pointer none,.pointer none]) rfl) ?_;rintro _ _ ⟨b65,rfl,rfl⟩;refine Z0 ?_;refine tl_c rfl (o_call bd28 rfl (NewB_c (madeE_c (p:=b65) hsqz))) ?_;rintro _ _ ⟨rfl,rfl⟩;refine Zbk ?_;refine Zd2 ?_;refine tc_pre (A':=A*pt lv34 (mpo .i64 ⟨[],0⟩)*pt h34 (cl (hcs p22 b2 n2 lv34 none) 99)*Sl 1 (.slice (some ⟨l44,0,none⟩) n2 n2) n2 (bos (wasF n2 g0))*pt h44 (cl [pz q22,vn b2,vn n2,.slice (some ⟨l44,0,none⟩) n2 n2,.pointer none] 122)) (λ g w h=>(Dr.sat (A':=A*(pt lv34 (mpo .i64 ⟨[],0⟩)*pt h34 (cl (hcs p22 b2 n2 lv34 none) 99))*(Sl 1 (.slice (some ⟨l44,0,none⟩) n2 n2) n2 (bos (wasF n2 g0))*pt h44 (cl [pz q22,vn b2,vn n2,.slice (some ⟨l44,0,none⟩) n2 n2,.pointer none] 122))) drqz g w h).perm (by ac_rfl)) ?_;refine Zck ?_;refine Zgz ?_;refine tl_bool (d:=73) rfl (sbq ?_) dbq;intro h;refine tlm ?_;refine Zeo ?_;refine tl_bool (d:=77) rfl (sbq ?_) dbq;intro h;refine Zf4 ?_;refine tlm ?_;refine tl_bool (d:=80) rfl dbq (sbq ?_);intro h;refine tlm ?_;refine tl_c rfl (o_call bd30 rfl (Room13_c (h:=h34) (p:=p22) (ba:=b2) (n:=n2) (lv:=lv34) (ov:=none) (M:=⟨[],0⟩) (g:=g0) (hh:=(by repeat (first|with_reducible exact has_here|with_reducible exact has_pt|apply has_left))) (hm:=(by repeat (first|with_reducible exact has_here|with_reducible exact has_pt|apply has_left))) (hs:=sf_nil 0 n2) (hn:=by omega))) ?_
  refine Zhd ?_;refine tl_c rfl (o_call bd31 rfl (rRoom13 (hd:=h44) (q:=q22) (ba:=b2) (n:=n2) (l:=l44) (o:= .pointer none) (g:=g0) (hh:=(by repeat (first|with_reducible exact has_here|with_reducible exact has_pt|apply has_left))) (hr:=(by repeat (first|with_reducible exact rs_sl|apply Rs.left))) (hn:=by omega))) ?_;rintro _ _ ⟨rfl,rfl⟩;refine tv (o_eqst (k:=3) (l:=[(n2:Int),((adS n2 g0).length:Nat),((n2-(adS n2 g0).length:Nat):Int)]) (m:=[(n2:Int),((adS n2 g0).length:Nat),((n2-(adS n2 g0).length:Nat):Int)]) underlying80 kqz kqz kqz rfl rfl rfl rfl) ?_;refine tl_env (d:=85) (v:= .bool true) (congrArg Value.bool (decide_eq_true rfl)) ?_;refine tv (o_pick_f rfl wqz) ?_;refine Zq ?_;refine tl_bool (d:=88) rfl (sbq ?_) dbq;intro h;refine Zg1 ?_;refine Zc7 ?_;exact ⟨.bool true,A,res1 rfl rfl,Dr.sat drqz,rfl,rfl⟩
theorem made_no {A:SP}{n:Nat}(hn4:n<=64){z1 z2:Int}(hz1: -9223372036854775808<=z1/\ z1<=9223372036854775807)(hz2: -9223372036854775808<=z2/\ z2<=9223372036854775807)(hne:nwE (nl13 128 n*64) z1 z2≠0):
    Fn Tryz.prog 4 #[vn n,.int .i64 z1,.int .i64 z2] A (λ r B=>r= .bool true/\ B=A):=by
  refine fn_enterW func4 rfl ntmps4 (by simp) ?_;have hcal:=s13_calm (lg:=128) (n:=n) (fi:=0) (by decide) (by decide) (by decide) hn4;have hls:(s13 128 n 0).ls.length=nl13 128 n:=s13_len;have hsa:(armS [] (s13 128 n 0)).2.ls.length=nl13 128 n:=(by rw [arm_len,hls]);have hwa:WfD (armS [] (s13 128 n 0)).2:=(by rw [arm_nil hcal.on hcal.arms];exact hcal.wf);have hk:=hk13 (lg:=128) (n:=n) (by decide) (by decide) (by decide) hn4 hwa hsa;have h64:=nl13_64 (lg:=128) (n:=n) (by decide);refine Zdz ?_;refine tv (o_bS (l:=(su5 128 ((n:Nat):Int) 0 (.slice none 0 0) (.slice none 0 0))) (pv_cons wqz (pv_cons wqz pv_nil)) underlying25 z25 (pl25 underlying25) rfl) ?_;refine tl_x rfl (o_alloc (l:=su5 0 0 0 (.slice none 0 0) (.slice none 0 0)) z25 rfl) ?_;rintro _ _ ⟨b7,rfl,rfl⟩;refine tl_u rfl (o_stUN (l':=(su5 128 ((n:Nat):Int) 0 (.slice none 0 0) (.slice none 0 0))) rfl upqz sz25 rfl rfl rfl (by exact Nat.le_refl 5) rfl) ?_;refine Zds ?_;refine sr ?_;refine tv (o_loadN (vs:=(su5 128 ((n:Nat):Int) 0 (.slice none 0 0) (.slice none 0 0))) a25 sz25 rfl hsqz (by exact Nat.le_refl 5) rfl) ?_;refine tl_c rfl (o_call bd26 rfl (fits13_c (lg:=128) (n:=((n:Nat):Int)))) ?_;rintro _ _ ⟨rfl,rfl⟩;refine tl_env (d:=17) (v:= .bool true) (congrArg Value.bool (decide_eq_true oqz)) ?_;refine tv (o_not rfl) ?_;refine Zm ?_;intro h;refine Zg4 ?_;refine tv (o_loadN (vs:=(su5 128 ((n:Nat):Int) 0 (.slice none 0 0) (.slice none 0 0))) a25 sz25 rfl hsqz (by exact Nat.le_refl 5) rfl) ?_;refine tl_c rfl (o_call bd27 rfl (laid13_c (lg:=128) (n:=n) (fi:=0) (ml:=0) (cl_:=0) (la:=none) (zs:=[]) (aa:=none) (ma:=0) (ca:=0) (kvs:=[]) (ars:=[]) (h1:=by decide) (h2:=by decide) (h3:=by decide) (h4:=hn4) (hfi:=by decide) (hrl:=rs_none) (hml:=rfl) (hmb:=by decide) (hra:=rda_nil) (hma:=rfl) (hla:=by decide) (hka:=λ x hx=>by cases hx))) ?_;rintro _ _ ⟨x22,p22,h22,l22,d22,q22,i22,k22,r22,rfl,rfl⟩;refine Zd3 ?_;refine tv (o_not rfl) ?_;refine Zm ?_;intro h;refine Zd4 ?_;refine tv (o_fieldAddr (o:=6) underlying72 rfl rfl sz66 rfl) ?_;refine tv (o_load p66 rfl hsqz rfl) ?_;refine Z0 ?_;refine tl_c rfl (o_call bd28 rfl (NewPC_no (h:=h22) (p:=p22) (lg:=l22) (d:=d22) (at_:=128) (sz:=128) (ba:=128+128) (n:=n) (T:=(loadY n (T0 g0) none []).2) (s:=(armS [] (s13 128 n 0)).2) (z:=z1) (n2:=z2) (hb:=hk) (hz:=hz1) (hn:=hz2) (hpos:=by rw [hsa];unfold nl13;omega) (hne:=by rw [hsa];exact hne))) ?_;rintro _ _ ⟨rfl,rfl⟩;refine Zbx ?_;refine Zhq ?_;refine Zh7 ?_;refine Z0 ?_;refine tl_c rfl (o_call bd29 rfl (rNewPC_no (hd:=i22) (q:=q22) (r:=r22) (lg:=k22) (at_:=128) (sz:=128) (ba:=128+128) (n:=n) (T:=(loadY n (T0 g0) none []).2) (s:=(armS [] (s13 128 n 0)).2) (z:=z1) (n2:=z2) (hb:=hk) (hz:=hz1) (hn:=hz2) (hpos:=by rw [hsa];unfold nl13;omega) (hne:=by rw [hsa];exact hne))) ?_;rintro _ _ ⟨rfl,rfl⟩;refine Zd3 ?_;refine Zdo ?_;refine tl_env (d:=49) (v:= .bool false) (rfl) ?_;refine tlm ?_;refine tl_bool (d:=50) rfl dbq (sbq ?_);intro h;refine Zf4 ?_;refine tlm ?_;refine tv (o_eqp underlying69 rfl rfl) ?_;refine tv (o_neb underlying4 rfl rfl) ?_;refine Zc8 ?_;intro h;refine Zgk ?_;refine tl_c rfl (o_call bd28 rfl (NewB_c madeN_c)) ?_;rintro _ _ ⟨rfl,rfl⟩;refine Zbk ?_;refine Zfe ?_;refine tv (o_bS (l:=[.pointer none,.pointer none,.pointer none]) pv_nil underlying78 z78 (pl78 underlying78) rfl) ?_;refine tl_x rfl (o_box rfl (l:=[.pointer none,.pointer none,.pointer none]) rfl) ?_;rintro _ _ ⟨b65,rfl,rfl⟩;refine Z0 ?_;refine tl_c rfl (o_call bd28 rfl (NewB_c (madeE_c (p:=b65) hsqz))) ?_;rintro _ _ ⟨rfl,rfl⟩;refine Zbk ?_;refine Z4 ?_;refine Zgz ?_;refine tl_bool (d:=73) rfl (sbq ?_) dbq;intro h;refine tlm ?_;refine Zeo ?_;refine tl_bool (d:=77) rfl (sbq ?_) dbq;intro h;refine Zf4 ?_;refine tlm ?_;refine tl_bool (d:=80) rfl (sbq ?_) dbq;intro h;refine Zhw ?_;refine Zq ?_;refine Zg1 ?_;refine Zc7 ?_;exact ⟨.bool true,A,res1 rfl rfl,Dr.sat drqz,rfl,rfl⟩
theorem made_out {A:SP}{z:Int}(hz:¬(0<=z/\ z<=64)){v1 v2:Value}:
    Fn Tryz.prog 4 #[.int .i64 z,v1,v2] A (λ r B=>r= .bool true/\ B=A):=by
  refine fn_enterW func4 rfl ntmps4 (by simp) ?_;refine Zdz ?_;refine tv (o_bS (l:=(su5 128 z 0 (.slice none 0 0) (.slice none 0 0))) (pv_cons wqz (pv_cons wqz pv_nil)) underlying25 z25 (pl25 underlying25) rfl) ?_;refine tl_x rfl (o_alloc (l:=su5 0 0 0 (.slice none 0 0) (.slice none 0 0)) z25 rfl) ?_;rintro _ _ ⟨b7,rfl,rfl⟩;refine tl_u rfl (o_stUN (l':=(su5 128 z 0 (.slice none 0 0) (.slice none 0 0))) rfl upqz sz25 rfl rfl rfl (by exact Nat.le_refl 5) rfl) ?_;refine Zds ?_;refine sr ?_;refine tv (o_loadN (vs:=(su5 128 z 0 (.slice none 0 0) (.slice none 0 0))) a25 sz25 rfl hsqz (by exact Nat.le_refl 5) rfl) ?_;refine tl_c rfl (o_call bd26 rfl (fits13_c (lg:=128) (n:=z))) ?_;rintro _ _ ⟨rfl,rfl⟩;refine tl_env (d:=17) (v:= .bool false) (congrArg Value.bool (decide_eq_false oqz)) ?_;refine tv (o_not rfl) ?_;refine Zd5 ?_;intro h;refine sr ?_;refine Zg1 ?_;refine Z8 ?_;exact ⟨.bool true,A,res1 rfl rfl,Dr.sat drqz,rfl,rfl⟩
theorem BlocksMade_L (F:SP)(v:Value)(x:Int)(h:PInt .i64 [v] x)(v1:Value)(x1:Int)(h1:PInt .i64 [v1] x1)(v2:Value)(x2:Int)(h2:PInt .i64 [v2] x2):Fn Tryz.prog 4 #[v,v1,v2] F (λ r B=>r= .bool true/\ B=F):=by
  obtain ⟨e,hw⟩:=h;obtain ⟨e1,hw1⟩:=h1;obtain ⟨e2,hw2⟩:=h2
  simp only [List.cons.injEq,and_true] at e e1 e2
  subst e e1 e2
  by_cases hx:0<=x/\ x<=64
  . obtain ⟨n,rfl⟩:=Int.eq_ofNat_of_zero_le hx.1
    by_cases hz:nwE (nl13 128 n*64) x1 x2=0
    . obtain ⟨b,m,rfl,rfl,g1,g2,g3⟩:=nw_ok hz;exact made_ok oqz g1 g2 g3
    exact made_no oqz (i64_wf hw1) (i64_wf hw2) hz
  exact made_out hx
end Go.Vl

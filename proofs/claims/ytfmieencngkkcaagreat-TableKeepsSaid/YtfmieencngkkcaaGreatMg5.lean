/- What the row rests on, part 5: a calculus of assertions, walks of functions over it, and plain laws. Conditions: none. -/
import Derived.Deep.QuietTactic
import Derived.BigQuiet
import Derived.WalkKit
import Derived.Test.YtfmieencngkkcaaGreatProg
import Derived.OrdersHeld
import Derived.Shelf.SortM.SortNone
import Derived.Shelf.SortM.Plain
import Derived.Ground.SlgmProg
import Derived.Shelf.SlIterI.Nil
import Derived.Ground.GgzProg
import Derived.Maps.RangeRun
import Derived.Laws.BytesArg
import Derived.RangeFuncRecord
import Derived.TacticsIn
import Derived.Deep.Slices
import Derived.OpenShut
import Derived.ChangeArms
import Derived.SizedLaws
import Derived.ChangeSame
import Derived.Test.YtfmieencngkkcaaGreatRows
import Derived.Sort.QuietThIn
import Derived.ScopeJumps
import Derived.LaidEqlPtr
import Derived.MapKept
import Derived.Laws.Externs
import Derived.Lib.Builder
import Derived.Lib.UnsafeStr
import Derived.Laws.Strings
import Derived.Test.YtfmieencngkkcaaGreatMg4
set_option linter.unusedVariables false
set_option linter.unusedSimpArgs false
set_option maxRecDepth 100000
set_option maxHeartbeats 4000000
namespace Go.Vl
open Go Go.Proofs Go.Proofs.Tryz
structure RunQ (f:TF) (k:Bool) (l:List Nat) (out:List (Nat×List Nat)):Prop where
  pos:∀r∈out,1<=r.2.length
  top:∀r∈out,∃x∈l,r.1+r.2.length=x+1
  gap:out.Pairwise λ r s=>r.1+r.2.length<s.1
  kind:∀r∈out,∀j,j<r.2.length->isK f k (r.1+j)=true/\ r.2[j]? =some (byF f (r.1+j))
  cov:∀x∈l,∃r∈out,r.1<=x/\ x<r.1+r.2.length
theorem runQ_step {f:TF}{k:Bool}{l:List Nat}{out:List (Nat×List Nat)}{a:Nat}(h:RunQ f k l out)(ha:isK f k a=true)(hl:∀x∈l,x<a):RunQ f k (l++[a]) (runA f out a):=by
  cases hj:adjB out a with
  |true=>
    obtain ⟨O,r,rfl,hadj,hrun⟩:=adj_t (f:=f) hj;rw [hrun]
    have hp:=List.pairwise_append.1 h.gap;refine ⟨λ z hz=> ?_,λ z hz=> ?_,List.pairwise_append.2 ⟨hp.1,List.pairwise_singleton _ _,λ x hx y hy=> ?_⟩,λ z hz j hjl=> ?_,λ x hx=> ?_⟩
    . rcases List.mem_append.1 hz with h1|h1
      . exact h.pos z (List.mem_append_left _ h1)
      rw [List.mem_singleton.1 h1];simp
    . rcases List.mem_append.1 hz with h1|h1
      . obtain ⟨x,hx,e⟩:=h.top z (List.mem_append_left _ h1);exact ⟨x,List.mem_append_left _ hx,e⟩
      rw [List.mem_singleton.1 h1]
      exact ⟨a,by simp,by simp only [List.length_append,List.length_singleton];omega⟩
    . rw [List.mem_singleton.1 hy]
      exact hp.2.2 x hx r (List.mem_singleton.2 rfl)
    . rcases List.mem_append.1 hz with h1|h1
      . exact h.kind z (List.mem_append_left _ h1) j hjl
      rw [List.mem_singleton.1 h1] at hjl ⊢
      simp only [List.length_append,List.length_singleton] at hjl ⊢
      by_cases hjr:j<r.2.length
      . obtain ⟨g1,g2⟩:=h.kind r (by simp) j hjr;exact ⟨g1,by rw [List.getElem?_append_left hjr];exact g2⟩
      obtain rfl:j=r.2.length:=by omega
      rw [hadj]
      exact ⟨ha,by rw [List.getElem?_append_right (Nat.le_refl _),Nat.sub_self];rfl⟩
    rcases List.mem_append.1 hx with h1|h1
    . obtain ⟨z,hz,g1,g2⟩:=h.cov x h1
      rcases List.mem_append.1 hz with h2|h2
      . exact ⟨z,List.mem_append_left _ h2,g1,g2⟩
      rw [List.mem_singleton.1 h2] at g1 g2
      exact ⟨_,List.mem_append_right _ (List.mem_singleton.2 rfl),g1,by simp only [List.length_append,List.length_singleton];omega⟩
    rw [List.mem_singleton.1 h1]
    have:=h.pos r (by simp);exact ⟨_,List.mem_append_right _ (List.mem_singleton.2 rfl),by simp only [];omega,by simp only [List.length_append,List.length_singleton];omega⟩
  |false=>
    rw [adj_f hj]
    have hlt:∀z∈out,z.1+z.2.length<a:=λ z hz=>by
      rcases Nat.eq_zero_or_pos out.length with h0|h0
      . rw [List.eq_nil_of_length_eq_zero h0] at hz;cases hz
      obtain ⟨O,r,rfl⟩:=list_snoc h0;rw [adjB_snoc] at hj
      have hne:=of_decide_eq_false hj;obtain ⟨x,hx,e⟩:=h.top r (by simp);have hxa:=hl x hx
      rcases List.mem_append.1 hz with h1|h1
      . have:=(List.pairwise_append.1 h.gap).2.2 z h1 r (List.mem_singleton.2 rfl)
        omega
      rw [List.mem_singleton.1 h1];omega
    refine ⟨λ z hz=> ?_,λ z hz=> ?_,List.pairwise_append.2 ⟨h.gap,List.pairwise_singleton _ _,λ x hx y hy=> ?_⟩,λ z hz j hjl=> ?_,λ x hx=> ?_⟩
    . rcases List.mem_append.1 hz with h1|h1
      . exact h.pos z h1
      rw [List.mem_singleton.1 h1];simp
    . rcases List.mem_append.1 hz with h1|h1
      . obtain ⟨x,hx,e⟩:=h.top z h1;exact ⟨x,List.mem_append_left _ hx,e⟩
      rw [List.mem_singleton.1 h1];exact ⟨a,by simp,rfl⟩
    . rw [List.mem_singleton.1 hy];exact hlt x hx
    . rcases List.mem_append.1 hz with h1|h1
      . exact h.kind z h1 j hjl
      rw [List.mem_singleton.1 h1] at hjl ⊢
      simp only [List.length_singleton] at hjl
      obtain rfl:j=0:=by omega
      exact ⟨ha,rfl⟩
    rcases List.mem_append.1 hx with h1|h1
    . obtain ⟨z,hz,g1,g2⟩:=h.cov x h1;exact ⟨z,List.mem_append_left _ hz,g1,g2⟩
    rw [List.mem_singleton.1 h1]
    exact ⟨_,List.mem_append_right _ (List.mem_singleton.2 rfl),Nat.le_refl _,by show a<a+1;omega⟩
theorem runQ_all {n:Nat}{k:Bool}{f:TF}:∀i,i<=(adrF n k f).length->RunQ f k ((adrF n k f).take i) (runsL f ((adrF n k f).take i))
  |0,_=>by
    rw [List.take_zero]
    exact ⟨λ r h=>(by cases h),λ r h=>(by cases h),List.Pairwise.nil,λ r h=>(by cases h),λ r h=>(by cases h)⟩
  |i+1,h=>by
    have ih:=runQ_all (n:=n) (k:=k) (f:=f) i oqz;rw [runs_next rfl oqz,List.take_succ_eq_append_getElem oqz]
    refine runQ_step ih ?_ λ x hx=> ?_
    . exact (adr_mem.1 (List.getElem_mem oqz)).2
    obtain ⟨j,hj,rfl⟩:=List.mem_iff_getElem.1 hx;rw [List.length_take] at hj
    rw [List.getElem_take]
    exact List.pairwise_iff_getElem.1 (adr_sorted n k f) j i oqz oqz oqz
theorem runQ_F (n:Nat)(k:Bool)(f:TF):RunQ f k (adrF n k f) (runsF n k f):=by
  have:=runQ_all (n:=n) (k:=k) (f:=f) _ (Nat.le_refl _);rw [List.take_length] at this
  unfold runsF;exact this
theorem kd_one {f:TF}{a:Nat}:kdF f a=1↔isK f false a=true:=by
  unfold kdF isK
  cases f a with
  |none=>simp
  |some c=>obtain ⟨x,b⟩:=c;cases b<;>simp
theorem kd_zero {f:TF}{a:Nat}:kdF f a=0↔f a=none:=by
  unfold kdF
  cases f a with
  |none=>simp
  |some c=>obtain ⟨x,b⟩:=c;cases b<;>simp
theorem kd_nn (f:TF)(a:Nat):0<=kdF f a/\ kdF f a<=2:=by
  unfold kdF
  cases f a with
  |none=>simp
  |some c=>obtain ⟨x,b⟩:=c;cases b<;>simp
def kdT (f:TF)(a:Nat):Int:=match f a with
  |none=>0
  |some c=>if c.2 then 2 else 1
def lineC (f:TF)(d:Nat):List Value:=Value.int .i64 ((d:Nat):Int)::(bys ((List.range 64).map λ j=>byF f (64*d+j))++ints ((List.range 64).map λ j=>kdT f (64*d+j)))
def putB (f:TF)(a x:Nat)(fr:Bool):TF:=λ c=>if c=a then some (x,((f a).map (·.2)).getD fr) else f c
def RLines:List Nat->List Nat->TF->SP
  |v::vs,d::D,f=>RLines vs D f*pt v (cl (lineC f d) 382)
  |_,_,_=>emp
def ptrV (vs:List Nat):List Value:=vs.map λ v=>(pz v)
def posL (n:Nat):List Nat->Nat
  |[]=>0
  |d::D=>if d<n then posL n D+1 else 0
def insD (n:Nat)(D:List Nat):List Nat:=D.take (posL n D)++n::D.drop (posL n D)
def line0 (d:Nat):List Value:=Value.int .i64 ((d:Nat):Int)::(bys (List.replicate 64 0)++ints (List.replicate 64 0))
attribute [local irreducible] crk crL crc Sl pt ro Dev imgS recS readS recsF rdW rdO rkT Parts rvl recordsS runsL adrF kcl xcl kys runA runsF layF ovF TxA adZ WkA SlB blkS conB imF RDev lineC RLines
end Go.Vl

namespace Go.Vl
open Go Go.Proofs Go.Proofs.Tryz
def putsF (f:TF)(p:Nat)(X:List Nat)(fr:Bool):Nat->TF
  |0=>f
  |i+1=>putB (putsF f p X fr i) (p+i) (X.getD i 0) fr
def LnOk (k:Nat)(D:List Nat)(f:TF):Prop:=D.Pairwise (·<·)/\ (∀x,f x≠none->x/64∈D)/\ (∀d∈D,d<k)/\∀d∈D,∃x,f x≠none/\ x/64=d
attribute [local irreducible] crk crL crc Sl pt ro Dev imgS recS readS recsF rdW rdO rkT Parts rvl recordsS runsL adrF kcl xcl kys runA runsF layF ovF TxA adZ WkA SlB blkS conB imF RDev lineC RLines
end Go.Vl

namespace Go.Vl
open Go Go.Proofs Go.Proofs.Tryz
def lnA (kd:Bool)(f:TF)(d j:Nat):List Nat:=((List.range j).map λ k=>64*d+k).filter (isK f kd)
def adL (kd:Bool)(f:TF)(D:List Nat):List Nat:=D.flatMap λ d=>lnA kd f d 64
attribute [local irreducible] crk crL crc Sl pt ro Dev imgS recS readS recsF rdW rdO rkT Parts rvl recordsS runsL adrF kcl xcl kys runA runsF layF ovF TxA adZ WkA SlB blkS conB imF RDev lineC RLines
end Go.Vl

namespace Go.Vl
open Go Go.Proofs Go.Proofs.Tryz
def hasK (kd:Bool)(f:TF)(d:Nat):Bool:=(List.range 64).any λ k=>isK f kd (64*d+k)
attribute [local irreducible] crk crL crc Sl pt ro Dev imgS recS readS recsF rdW rdO rkT Parts rvl recordsS runsL adrF kcl xcl kys runA runsF layF ovF TxA adZ WkA SlB blkS conB imF RDev lineC RLines
end Go.Vl

namespace Go.Vl
open Go Go.Proofs Go.Proofs.Tryz
def runG (L:List (Nat×List Nat)):Prop:=L.Pairwise (λ r s=>r.1+r.2.length<s.1)/\∀r∈L,1<=r.2.length
attribute [local irreducible] crk crL crc Sl pt ro Dev imgS recS readS recsF rdW rdO rkT Parts rvl recordsS runsL adrF kcl xcl kys runA runsF layF ovF TxA adZ WkA SlB blkS conB imF RDev lineC RLines
end Go.Vl

namespace Go.Vl
open Go Go.Proofs Go.Proofs.Tryz
theorem runP_b {n:Nat}{k:Bool}{f:TF}(hb:∀a c,f a=some c->c.1<256):∀i,i<=(adrF n k f).length->RunP n i (runsL f ((adrF n k f).take i))
  |0,_=>⟨rfl,Nat.le_refl _,λ r h=>(by cases h)⟩
  |i+1,h=>by
    rw [runs_next (out:=runsL f ((adrF n k f).take i)) rfl oqz]
    obtain ⟨c,hf,_,hn⟩:=adr_at (n:=n) (k:=k) (f:=f) (i:=i) oqz;exact runP_step (runP_b hb i oqz) hn (by rw [byF_some hf];exact hb _ _ hf)
theorem runP_Fb {n:Nat}{k:Bool}{f:TF}(hb:∀a c,f a=some c->c.1<256):RunP n (adrF n k f).length (runsF n k f):=by
  have:=runP_b (k:=k) (n:=n) hb (adrF n k f).length (Nat.le_refl _);rw [List.take_length] at this;unfold runsF;exact this
attribute [local irreducible] crk crL crc Sl pt ro Dev imgS recS readS recsF rdW rdO rkT Parts rvl recordsS runsL adrF kcl xcl kys runA runsF layF ovF TxA adZ WkA SlB blkS conB imF RDev lineC RLines
end Go.Vl

namespace Go.Vl
open Go Go.Proofs Go.Proofs.Tryz
variable {nl at_ sz:Nat}
structure ByM (nl:Nat) (M:List Nat):Prop where
  len:M.length=(nl*64)
  by_:∀x∈M,x<256
def LogM (nl at_:Nat)(M:List Nat)(sz:Nat)(l:List (Int×Int))(I:List Nat):Prop:=nm ((I.drop at_).take 8)=l.length/\ (I.drop (at_+64)).take (needN l)=recsB M l/\ I.length=(nl*64)/\ Out at_ (at_+sz) I M
def kdO (f:TF)(a:Nat):Option Bool:=(f a).map (·.2)
theorem isK_iff {f:TF}{k:Bool}{a:Nat}:isK f k a=true↔kdO f a=some k:=by unfold isK kdO;simp
theorem kdO_none {f:TF}{a:Nat}:f a=none↔kdO f a=none:=by unfold kdO;cases f a<;>simp
structure PutG (G:List Nat) (f:TF):Prop where
  st:∀a,kdO f a=some false->(∀b,b+1=a->kdO f b≠some false)->a∈G
  en:∀a,kdO f a=some true->kdO f (a+1)=none->a+1∈G
theorem fl1_loss {X:Nat->List Nat->Prop}{q:Nat}{s:DevS}(hw:WfD s)(hO:s.off=false)(hP:Poss X s)(hq:q<s.ls.length):
    ∃e s2,fl1 ((q*64:Nat):Int) s=(e,s2)/\ ((e=0/\ s2.off=false/\ WfD s2/\ s2.ls=flsh 1 q s.ls)∨(e=5/\ Lost X s.ls.length s2)):=by
  obtain ⟨e,s2,g1,g2⟩:=flL_loss (X:=X) 1 q s hw hO hP oqz;have h1:flL 1 q s=if (fl1 ((q*64:Nat):Int) s).1≠0 then fl1 ((q*64:Nat):Int) s else (0,(fl1 ((q*64:Nat):Int) s).2):=rfl;obtain ⟨e1,s1,hf⟩:∃e1 s1,fl1 ((q*64:Nat):Int) s=(e1,s1):=⟨_,_,rfl⟩;rw [hf] at h1
  simp only [] at h1
  have h2:flL 1 q s=(e1,s1):=by
    rw [h1];split
    . rfl
    rename_i h0;rw [Classical.not_not.1 h0]
  rw [h2] at g1
  obtain ⟨rfl,rfl⟩:=pair_eq g1 rfl;exact ⟨_,_,hf,g2⟩
theorem as_flsh {L0:List (Nat×List Nat)}{I:List Nat}{q:Nat}{s s2:DevS}(hA:AS L0 I s)(hw:WfD s2)(h:s2.ls=flsh 1 q s.ls):AS L0 I s2/\ s2.ls.length=s.ls.length/\ imgS s2=imgS s/\ (∀k,Room k s->Room k s2)/\ (∀j,j=q∨Mkd j s->Mkd j s2):=by
  have hlen:s2.ls.length=s.ls.length:=(by rw [h,flsh_len])
  have hget:∀j l',s2.ls[j]? =some l'->∃l,s.ls[j]? =some l/\ l'=if q<=j/\ j<q+1 then flushL l else l:=λ j l' hl=>by
    rw [h] at hl;exact flsh_get hl
  have hst:∀ (j:Nat) (l':LineS),s2.ls[j]? =some l'->∃l:LineS,s.ls[j]? =some l/\ l'.st=l.st:=λ j l' hl=>by
    obtain ⟨l,e1,e2⟩:=hget j l' hl;exact ⟨l,e1,by rw [e2];split<;>rfl⟩
  refine ⟨⟨hw,by rw [hlen];exact hA.len,poss_sub hA.poss λ j l' hl=> ?_,λ j l' hj hl=> ?_⟩,hlen, ?_,λ k hr l' hl=> ?_,λ j hj l' hl=> ?_⟩
  . obtain ⟨l,e1,e2⟩:=hst j l' hl;exact ⟨l,e1,λ σ hσ=>e2▸hσ⟩
  . obtain ⟨l,e1,e2⟩:=hst j l' hl;rw [e2];exact hA.one j l hj e1
  . unfold imgS;rw [h];exact img_seen (flsh_seen _ _ _)
  . obtain ⟨j,hj,rfl⟩:=List.mem_iff_getElem.1 hl;obtain ⟨l,e1,e2⟩:=hst j _ (List.getElem?_eq_getElem hj);rw [e2];exact hr l (List.mem_of_getElem? e1)
  obtain ⟨l,e1,e2⟩:=hget j l' hl
  rcases hj with rfl|hj
  . rw [if_pos oqz] at e2
    rw [e2];rfl
  rw [e2];split
  . rfl
  exact hj l e1
theorem flLs_loss {L0:List (Nat×List Nat)}{I:List Nat}:∀{l:List Nat} {s:DevS},AS L0 I s->s.off=false->(∀q∈l,q<s.ls.length)→
    ∃e s2,flLs l s=(e,s2)/\ s2.ls.length=s.ls.length/\ AS L0 I s2/\ ((e=0/\ s2.off=false/\ imgS s2=imgS s/\ (∀k,Room k s->Room k s2)/\ (∀j,j∈l∨Mkd j s->Mkd j s2))∨(e=5/\ s2.off=true))
  |[],s,hA,hO,_=>⟨0,s,rfl,rfl,hA,.inl ⟨rfl,hO,rfl,λ _ h=>h,λ j h=>h.elim (λ h=>by cases h) id⟩⟩
  |q::l,s,hA,hO,hq=>by
    obtain ⟨e,s1,g1,g2⟩:=fl1_loss (X:=XU L0 I) hA.wf hO hA.poss (hq q (by simp))
    rcases g2 with ⟨rfl,a2,a3,a4⟩|⟨rfl,a2⟩
    . obtain ⟨b1,b2,b3,b4,b5⟩:=as_flsh hA a3 a4;obtain ⟨e,s2,k1,k2,k3,k4⟩:=flLs_loss (l:=l) b1 a2 (λ x hx=>by rw [b2];exact hq x (List.mem_cons_of_mem _ hx));refine ⟨e,s2, ?_,k2.trans b2,k3, ?_⟩
      . rw [flLs_cons,g1,if_neg (by simp)];exact k1
      rcases k4 with ⟨c1,c2,c3,c4,c5⟩|k4
      . refine .inl ⟨c1,c2,c3.trans b3,λ k h=>c4 k (b4 k h),λ j hj=> ?_⟩
        rcases hj with hj|hj
        . rcases List.mem_cons.1 hj with rfl|hj
          . exact c5 j (.inr (b5 j (.inl rfl)))
          exact c5 j (.inl hj)
        exact c5 j (.inr (b5 j (.inr hj)))
      exact .inr k4
    refine ⟨5,s1, ?_,a2.2.2.2.2,as_lost a2 hA.len,.inr ⟨rfl,a2.1⟩⟩;rw [flLs_cons,g1,if_pos (show (5:Int)≠0 by decide)]
def stoI:List (Nat×List Nat)->List Nat->List Nat
  |[],I=>I
  |r::l,I=>stoI l (spl I r.1 r.2)
theorem as_stoL {L0:List (Nat×List Nat)}{I:List Nat}{k:Nat}:∀{R:List (Nat×List Nat)} {s:DevS},AS L0 I s->s.off=false->(∀r∈R,r.1+r.2.length<=s.ls.length*64/\ (∀b∈r.2,b<256)/\∀i,r.1<=i->i<r.1+r.2.length->InX L0 i)->Room (k+sumL R) s→
    ∃e s2,stoL R s=(e,s2)/\ s2.ls.length=s.ls.length/\ AS L0 I s2/\ ((e=0/\ s2.off=false/\ Room k s2/\ imgS s2=stoI R (imgS s))∨(e=5/\ s2.off=true))
  |[],s,hA,hO,_,hr=>⟨0,s,rfl,rfl,hA,.inl ⟨rfl,hO,room_le hr oqz,rfl⟩⟩
  |r::R,s,hA,hO,hR,hr=>by
    obtain ⟨h1,h2,h3⟩:=hR r (by simp);rw [sumL_cons] at hr
    obtain ⟨e,s1,g1,g2⟩:=as_sto (r:=k+sumL R) hA hO h1 h3 h2 (room_le hr oqz)
    rcases g2 with ⟨rfl,a2,a3,a4,a5,a6⟩|⟨rfl,a2,a3,a4⟩
    . obtain ⟨e,s2,k1,k2,k3,k4⟩:=as_stoL (R:=R) a3 a2 (λ x hx=>by rw [a4];exact hR x (List.mem_cons_of_mem _ hx)) a5;refine ⟨e,s2, ?_,k2.trans a4,k3, ?_⟩
      . rw [stoL_cons,g1,if_neg (by simp)];exact k1
      rcases k4 with ⟨c1,c2,c3,c4⟩|k4
      . exact .inl ⟨c1,c2,c3,by rw [c4,a6];rfl⟩
      exact .inr k4
    refine ⟨5,s1, ?_,a4,a3,.inr ⟨rfl,a2⟩⟩;rw [stoL_cons,g1,if_pos (show (5:Int)≠0 by decide)]
theorem fe_law {L0:List (Nat×List Nat)}{I:List Nat}{s:DevS}(hA:AS L0 I s)(hO:s.off=false)(hM:∀i,InX L0 i->Mkd (i/64) s):
    ∃e s2,fe s=(e,s2)/\ s2.ls.length=s.ls.length/\ ((e=0/\ s2.off=false/\ WfD s2/\ Cln s2/\ imgS s2=imgS s)∨(e=5/\ s2.off=true/\ AS L0 I s2)):=by
  have hwf:=fence_wf hA.wf
  have hPf:Poss (XU L0 I) (fenceS s):=poss_sub hA.poss λ q l' hl'=>by
    obtain ⟨l,h1,rfl⟩:=fence_get hl';exact ⟨l,h1,fence_mem⟩
  have hfe:fe s=(doneE (fenceS s),doneS (fenceS s)):=(by unfold fe;rw [if_neg (by rw [hO];decide)]);have hfl:(fenceS s).ls.length=s.ls.length:=(by simp [fenceS])
  rcases done_loss hwf hPf with ⟨b1,b2,b3⟩|⟨b1,b2⟩
  . refine ⟨0,doneS (fenceS s),by rw [hfe,b1],by rw [b2,hfl],.inl ⟨rfl,by rw [b3];exact hO,doneS_wf hwf,λ l' hl'=> ?_, ?_⟩⟩
    . rw [b2] at hl'
      obtain ⟨q,hq,rfl⟩:=List.mem_iff_getElem.1 hl';obtain ⟨l,e1,e2⟩:=fence_get (show (s.ls.map fenceL)[q]? =some _ from List.getElem?_eq_getElem hq);have hwl:=hA.wf.line l (List.mem_of_getElem? e1);have hpl:=List.length_pos_iff.2 hwl.ne;rw [e2]
      by_cases hU:∀i,InX L0 i->i/64≠q
      . have h1:=hA.one q l hU e1
        unfold fenceL;split
        . have:=hwl.hi;simp only [List.length_drop];omega
        exact h1
      have:∃i,InX L0 i/\ i/64=q:=by
        apply Classical.byContradiction
        intro hn;exact hU λ i hi he=>hn ⟨i,hi,he⟩
      obtain ⟨i,hi,rfl⟩:=this;have h1:=hM i hi l e1
      unfold fenceL
      rw [if_pos oqz]
      simp only [List.length_drop];omega
    unfold imgS;rw [b2]
    show img (s.ls.map fenceL)=_
    refine img_seen ?_;rw [List.map_map]
    exact List.map_congr_left λ l hl=>seen_fence (hA.wf.line l hl)
  rw [hfl] at b2
  exact ⟨5,doneS (fenceS s),by rw [hfe,b1],b2.2.2.2.2,.inr ⟨rfl,b2.1,as_lost b2 hA.len⟩⟩
theorem linR_memW:∀{R:List (Nat×List Nat)} {d:Nat},R.Pairwise (λ r s=>r.1+r.2.length<s.1)->(∀r∈R,1<=r.2.length)->∀r∈R,∀q,r.1/64<=q->q<=(r.1+r.2.length-1)/64->q∈linR R d∨q<d
  |[],_,_,_,r,hr,_,_,_=>by cases hr
  |x::R,d,hg,hp,r,hr,q,h1,h2=>by
    obtain ⟨g1,g2⟩:=List.pairwise_cons.1 hg
    have hin:∀q,x.1/64<=q->q<=(x.1+x.2.length-1)/64->q∈linR (x::R) d∨q<d:=λ q h1 h2=>by
      rcases Nat.lt_or_ge q d with hd|hd
      . exact .inr hd
      refine .inl (List.mem_append_left _ (List.mem_map.2 ⟨q-max (x.1/64) d,List.mem_range.2 oqz,by omega⟩))
    rcases List.mem_cons.1 hr with rfl|hr
    . exact hin q h1 h2
    have hx:=g1 r hr;have hx1:=hp x (by simp)
    rcases linR_memW (d:=max d ((x.1+x.2.length-1)/64+1)) g2 (λ y hy=>hp y (List.mem_cons_of_mem _ hy)) r hr q h1 h2 with h|h
    . exact .inl (List.mem_append_right _ h)
    rcases Nat.lt_or_ge q d with hd|hd
    . exact .inr hd
    exact hin q oqz oqz
theorem linR_top:∀{R:List (Nat×List Nat)} {d n:Nat},(∀r∈R,r.1+r.2.length<=n*64/\ 1<=r.2.length)->∀q∈linR R d,q<n
  |[],_,_,_,q,hq=>by cases hq
  |x::R,d,n,h,q,hq=>by
    rcases List.mem_append.1 hq with hq|hq
    . obtain ⟨j,hj,rfl⟩:=List.mem_map.1 hq;have:=List.mem_range.1 hj;have:=h x (by simp)
      omega
    exact linR_top (λ y hy=>h y (List.mem_cons_of_mem _ hy)) q hq
theorem writeT_law {L0:List (Nat×List Nat)}{I:List Nat}{k:Nat}{R:List (Nat×List Nat)}{s:DevS}(hA:AS L0 I s)(hO:s.off=false)(hg:R.Pairwise λ r s=>r.1+r.2.length<s.1)
    (hR:∀r∈R,1<=r.2.length/\ r.1+r.2.length<=s.ls.length*64/\ (∀b∈r.2,b<256)/\∀i,r.1<=i->i<r.1+r.2.length->InX L0 i) (hr:Room (k+sumL R) s):
    ∃e s2,writeT R s=(e,s2)/\ s2.ls.length=s.ls.length/\ AS L0 I s2/\ ((e=0/\ s2.off=false/\ Room k s2/\ imgS s2=stoI R (imgS s)/\ (∀i,InX R i->Mkd (i/64) s2))∨(e=5/\ s2.off=true)):=by
  obtain ⟨e1,s1,g1,g2,g3,g4⟩:=as_stoL (k:=k) hA hO (λ r h=>⟨(hR r h).2.1,(hR r h).2.2.1,(hR r h).2.2.2⟩) hr
  rcases g4 with ⟨rfl,a2,a3,a4⟩|⟨rfl,a2⟩
  . obtain ⟨e2,s2,k1,k2,k3,k4⟩:=flLs_loss (l:=linR R 0) g3 a2 (λ q hq=>by rw [g2];exact linR_top (λ r h=>⟨(hR r h).2.1,(hR r h).1⟩) q hq);refine ⟨e2,s2, ?_,k2.trans g2,k3, ?_⟩
    . unfold writeT;rw [g1,if_neg (by simp)];exact k1
    rcases k4 with ⟨c1,c2,c3,c4,c5⟩|k4
    . refine .inl ⟨c1,c2,c4 k a3,c3.trans a4,λ i hi=>c5 _ (.inl ?_)⟩;obtain ⟨r,hr9,h1,h2⟩:=hi
      rcases linR_memW (d:=0) hg (λ r h=>(hR r h).1) r hr9 (i/64) oqz oqz with h|h
      . exact h
      exact absurd h (Nat.not_lt_zero _)
    exact .inr k4
  refine ⟨5,s1, ?_,g2,g3,.inr ⟨rfl,a2⟩⟩
  unfold writeT;rw [g1,if_pos (show (5:Int)≠0 by decide)]
end Go.Vl

namespace Go.Vl
open Go Go.Proofs Go.Proofs.Tryz
theorem fe_loss {X:Nat->List Nat->Prop}{s:DevS}(hw:WfD s)(hO:s.off=false)(hP:Poss X s)(hM:∀ (q:Nat) (l:LineS),s.ls[q]? =some l->l.st.length=1∨l.mark=(l.st.length:Int)-1):
    ∃e s2,fe s=(e,s2)/\ ((e=0/\ s2.off=false/\ WfD s2/\ Cln s2/\ s2.ls.length=s.ls.length/\ imgS s2=imgS s)∨(e=5/\ Lost X s.ls.length s2)):=by
  have hwf:=fence_wf hw
  have hPf:Poss X (fenceS s):=poss_sub hP λ q l' hl'=>by
    obtain ⟨l,h1,rfl⟩:=fence_get hl';exact ⟨l,h1,fence_mem⟩
  have hfe:fe s=(doneE (fenceS s),doneS (fenceS s)):=(by unfold fe;rw [if_neg (by rw [hO];decide)]);have hfl:(fenceS s).ls.length=s.ls.length:=(by simp [fenceS])
  rcases done_loss hwf hPf with ⟨b1,b2,b3⟩|⟨b1,b2⟩
  . refine ⟨0,doneS (fenceS s),by rw [hfe,b1],.inl ⟨rfl,by rw [b3];exact hO,doneS_wf hwf,λ l' hl'=> ?_,by rw [b2,hfl], ?_⟩⟩
    . rw [b2] at hl'
      obtain ⟨q,hq,rfl⟩:=List.mem_iff_getElem.1 hl';obtain ⟨l,e1,e2⟩:=fence_get (show (s.ls.map fenceL)[q]? =some _ from List.getElem?_eq_getElem hq);have hwl:=hw.line l (List.mem_of_getElem? e1);have hpl:=List.length_pos_iff.2 hwl.ne;rw [e2]
      rcases hM q l e1 with h1|h1
      . unfold fenceL;split
        . have:=hwl.hi;simp only [List.length_drop];omega
        exact h1
      unfold fenceL
      rw [if_pos oqz]
      simp only [List.length_drop];omega
    unfold imgS;rw [b2]
    show img (s.ls.map fenceL)=_
    refine img_seen ?_;rw [List.map_map]
    exact List.map_congr_left λ l hl=>seen_fence (hw.line l hl)
  rw [hfl] at b2
  exact ⟨5,doneS (fenceS s),by rw [hfe,b1],.inr ⟨rfl,b2⟩⟩
theorem flF_via:∀ (k q:Nat) (s:DevS),flF k q s=if (flL k q s).1≠0 then flL k q s else fe (flL k q s).2
  |0,q,s=>by rw [flF_zero];rfl
  |k+1,q,s=>by
    have h1:flL (k+1) q s=if (fl1 ((q*64:Nat):Int) s).1≠0 then fl1 ((q*64:Nat):Int) s else flL k (q+1) (fl1 ((q*64:Nat):Int) s).2:=rfl
    show (if (fl1 ((q*64:Nat):Int) s).1≠0 then fl1 ((q*64:Nat):Int) s else flF k (q+1) (fl1 ((q*64:Nat):Int) s).2)=_
    rw [h1]
    by_cases h:(fl1 ((q*64:Nat):Int) s).1≠0
    . rw [if_pos h,if_pos h,if_pos h]
    rw [if_neg h,if_neg h];exact flF_via k (q+1) _
theorem last_loss2 {X:Nat->List Nat->Prop}{p m:Nat}{s:DevS}(hw:WfD s)(hO:s.off=false)(hP:Poss X s)(h1:1<=m)(hp:p+m<=s.ls.length*64)(hc:∀ (q:Nat) (l:LineS),(q+1)*64<=p∨p+m<=q*64->s.ls[q]? =some l->l.st.length=1∨l.mark=(l.st.length:Int)-1):
    ∃e s2,lastS p m s=(e,s2)/\ ((e=0/\ s2.off=false/\ WfD s2/\ Cln s2/\ s2.ls.length=s.ls.length/\ imgS s2=imgS s)∨(e=5/\ Lost X s.ls.length s2)):=by
  unfold lastS
  rw [flF_via]
  obtain ⟨e,s1,g1,g2⟩:=flL_loss (X:=X) ((p+m-1)/64-p/64+1) (p/64) s hw hO hP oqz;rw [g1]
  rcases g2 with ⟨rfl,a2,a3,a4⟩|⟨rfl,a2⟩
  . rw [if_neg (by simp)]
    have hget:∀ (j:Nat) (l':LineS),s1.ls[j]? =some l'->∃l:LineS,s.ls[j]? =some l/\ l'=if p/64<=j/\ j<p/64+((p+m-1)/64-p/64+1) then flushL l else l:=λ j l' hl=>by
      rw [a4] at hl;exact flsh_get hl
    have hln:s1.ls.length=s.ls.length:=(by rw [a4,flsh_len])
    obtain ⟨e,s2,k1,k2⟩:=fe_loss (X:=X) a3 a2 (poss_sub hP λ j l' hl=>by
      obtain ⟨l,e1,e2⟩:=hget j l' hl;refine ⟨l,e1,λ σ hσ=> ?_⟩
      rw [e2] at hσ;split at hσ<;>exact hσ) (λ j l' hl=>by
      obtain ⟨l,e1,e2⟩:=hget j l' hl
      by_cases hj:p/64<=j/\ j<p/64+((p+m-1)/64-p/64+1)
      . rw [if_pos hj] at e2;right;rw [e2];rfl
      rw [if_neg hj] at e2;rw [e2];exact hc j l oqz e1)
    rw [hln] at k2
    refine ⟨e,s2,k1, ?_⟩
    rcases k2 with ⟨c1,c2,c3,c4,c5,c6⟩|k2
    . exact .inl ⟨c1,c2,c3,c4,c5,by rw [c6];unfold imgS;rw [a4];exact img_seen (flsh_seen _ _ _)⟩
    exact .inr k2
  rw [if_pos (show (5:Int)≠0 by decide)]
  exact ⟨5,s1,rfl,.inr ⟨rfl,a2⟩⟩
def bodyX (at_ sz:Nat):Nat×List Nat:=(at_+64,List.replicate (sz-64) 0)
theorem bodyX_len {at_ sz:Nat}:(bodyX at_ sz).2.length=(sz-64):=by unfold bodyX;rw [List.length_replicate]
theorem bodyX_at {at_ sz:Nat}:(bodyX at_ sz).1=(at_+64):=rfl
theorem inX_body {at_ sz:Nat}(h64:64<=sz){L:List (Nat×List Nat)}{i:Nat}:InX (L++[bodyX at_ sz]) i↔InX L i∨((at_+64)<=i/\ i<(at_+sz)):=by
  constructor
  . rintro ⟨x,hx,h1,h2⟩
    rcases List.mem_append.1 hx with hx|hx
    . exact .inl ⟨x,hx,h1,h2⟩
    rw [List.mem_singleton.1 hx,bodyX_at] at h1
    rw [List.mem_singleton.1 hx,bodyX_at,bodyX_len] at h2
    exact .inr ⟨h1,by omega⟩
  rintro (⟨x,hx,h⟩|h)
  . exact ⟨x,List.mem_append_left _ hx,h⟩
  exact ⟨bodyX at_ sz,List.mem_append_right _ (List.mem_singleton.2 rfl),h.1,by rw [bodyX_at,bodyX_len];omega⟩
theorem as_mono {L L':List (Nat×List Nat)}{I:List Nat}{s:DevS}(h:AS L I s)(hs:∀i,InX L i->InX L' i):AS L' I s:=
  ⟨h.wf,h.len,poss_mono h.poss λ q c _ hc j hj hn=>hc j hj λ hi=>hn (hs _ hi),λ q l hq hl=>h.one q l (λ i hi=>hq i (hs i hi)) hl⟩
theorem as_cln2 {L:List (Nat×List Nat)}{I:List Nat}{s:DevS}(hw:WfD s)(hc:Cln s)(hI:I.length=s.ls.length*64)(h:∀i,¬InX L i->(imgS s)[i]? =I[i]?):AS L I s:=
  ⟨hw,hI,poss_cln hw hc λ q hq j hj hn=>by rw [chunk_at hj];exact h _ hn,λ q l _ hl=>hc l (List.mem_of_getElem? hl)⟩
theorem write_law {nl at_ sz:Nat}(hlw:LogW (nl*64) at_ sz)(htop:nl*64<=4194304){LF:List (Nat×List Nat)}{I0 M:List Nat}{l:List (Int×Int)}{s:DevS}(hA:AS LF I0 s)(hO:s.off=false)(hlen:s.ls.length=nl)(hM:imgS s=M)(hmk:∀i,InX LF i->Mkd (i/64) s)(hLF:∀i,InX LF i->(64<=i/\ i<at_)∨((at_+sz)<=i/\ i<(nl*64)))(h0:nm ((M.drop at_).take 8)=0)(hl:l.all (mayX (nl*64) at_ sz)=true)(hne:l≠[])(hN:needN l<=(sz-64))(hr:Room (needN l+1) s):
    ∃e s2,writeS at_ sz l s=(e,s2)/\ s2.ls.length=nl/\ ((e=0/\ s2.off=false/\ WfD s2/\ Cln s2/\ imgS s2=wrI at_ M l)∨(e=5/\ s2.off=true/\ (AS (LF++[bodyX at_ sz]) I0 s2∨(WfD s2/\ Cln s2/\ imgS s2=wrI at_ M l)))):=by
  have ⟨w1,w2,w3,w4,w5⟩:=hlw;have hw:=hA.wf;have hlw9:LogW (s.ls.length*64) at_ sz:=(by rw [hlen];exact hlw);have hil:M.length=(nl*64):=(by rw [←hM,imgS_len hw,hlen]);have hI0:I0.length=(nl*64):=(by rw [hA.len,hlen]);have hn64:s.ls.length*64=(nl*64):=(by rw [hlen]);have hwd:=word_in (s:=s) (p:=at_) hO oqz (by rw [hn64];omega);have hnd:=need_may (n:=(nl*64)) htop hl oqz;have hrl:=recsB_len hil hl;have hl1:1<=needN l:=Nat.le_trans (List.length_pos_iff.2 hne) (needN_ge l);have hllt:l.length<18446744073709551616:=Nat.lt_of_le_of_lt (needN_ge l) oqz;have hI1l:(wrI1 at_ M l).length=(nl*64):=(by unfold wrI1;rw [spl_length oqz,hil]);have hA2:=as_mono (L':=LF++[bodyX at_ sz]) hA λ i hi=>(inX_body oqz).2 (.inl hi)
  have hMI:∀i,¬InX (LF++[bodyX at_ sz]) i->M[i]? =I0[i]? :=λ i hi=>by rw [←hM];exact hA2.img hi
  have hXo:∀I:List Nat,I.length=s.ls.length*64->Out (at_+64) (at_+sz) I M->∀j,j<s.ls.length->XU (LF++[bodyX at_ sz]) I0 j (chunk j I):=λ I hI hout j hj t ht hn=>by
    rw [chunk_at ht,←hMI _ hn]
    exact hout _ λ h=>hn ((inX_body oqz).2 (.inr ⟨by omega,by omega⟩))
  obtain ⟨e1,s1,g1,g2⟩:=put_loss (X:=XU (LF++[bodyX at_ sz]) I0) (I0:=M) (at_:=at_) (sz:=sz) (l:=l) (q:=at_+64) (r:=1) (s:=s) hw hO hA2.poss hlw9 (by rw [hn64];exact hl) (Nat.le_refl _) oqz (room_le hr oqz) (by rw [hM];exact Out.refl _ _ _) (by rw [hn64];exact hil) hXo
  have hW:writeS at_ sz l s=if (putF (at_+64) l s).1≠0 then putF (at_+64) l s
      else if (rangeP ((at_+64:Nat):Int) (needN l:Nat) (putF (at_+64) l s).2).1≠0 then rangeP ((at_+64:Nat):Int) (needN l:Nat) (putF (at_+64) l s).2
      else pubP (at_:Nat) l.length (rangeP ((at_+64:Nat):Int) (needN l:Nat) (putF (at_+64) l s).2).2:=by
    unfold writeS
    rw [if_neg (by rw [hO];decide),hwd,hM,if_neg (by rw [h0];simp),if_neg (by rw [hn64,hl];decide),hnd,if_neg (by simp only [ne_eq,not_true,false_or];omega),if_neg hne]
  rw [hW,g1]
  simp only []
  rcases g2 with ⟨a1,a2,a3,a4,a5,a6,a7,a8⟩|⟨a1,a2⟩
  . subst a1;rw [if_neg (by simp)]
    have hrg:rangeP ((at_+64:Nat):Int) (needN l:Nat) s1=lastS (at_+64) (needN l) s1:=by
      unfold rangeP
      rw [if_neg (by rw [a2];decide),if_neg oqz,rdy_ok oqz oqz (by rw [a5];omega),if_neg (by decide),Int.toNat_natCast,Int.toNat_natCast]
    obtain ⟨e2,s2,k1,k2⟩:=last_loss2 (p:=at_+64) (m:=needN l) a3 a2 a4 hl1 (by rw [a5];omega) (λ q ln hq hln=>by
      rw [a6 q hq] at hln
      by_cases hU:∀i,InX LF i->i/64≠q
      . exact .inl (hA.one q ln hU hln)
      have:∃i,InX LF i/\ i/64=q:=by
        apply Classical.byContradiction
        intro hn;exact hU λ i hi he=>hn ⟨i,hi,he⟩
      obtain ⟨i,hi,rfl⟩:=this
      exact .inr (hmk i hi ln hln))
    have hrm2:Room 1 s2:=rangeP_room (p:=((at_+64:Nat):Int)) (m:=(needN l:Nat)) (by rw [hrg];exact k1) a3 a7;rw [hrg,k1]
    simp only []
    rw [a5] at k2
    rcases k2 with ⟨b1,b2,b3,b4,b5,b6⟩|⟨b1,b2⟩
    . subst b1;rw [if_neg (by simp)]
      have hi2:imgS s2=wrI1 at_ M l:=(by rw [b6,a8,hM];rfl)
      obtain ⟨e3,s3,c1,c2⟩:=pub_loss (X:=λ q c=>c=chunk q (wrI1 at_ M l)∨c=chunk q (wrI at_ M l)) (p:=at_) (v:=l.length) (s:=s2) b3 b2
        (poss_cln b3 b4 λ q hq=> .inl (by rw [hi2])) (λ q ln _ hln=>b4 ln (List.mem_of_getElem? hln)) oqz (by rw [b5];omega) hllt hrm2 (.inr (by rw [hi2];rfl))
      refine ⟨e3,s3,c1, ?_⟩;rw [b5] at c2
      rcases c2 with ⟨d1,d2,d3,d4,d5,d6⟩|⟨d1,d2,d3,d4,d5,d6⟩
      . exact ⟨by rw [d5,hlen],.inl ⟨d1,d2,d3,d4,by rw [d6,hi2];rfl⟩⟩
      refine ⟨by rw [d6,hlen],.inr ⟨d1,d2, ?_⟩⟩;have hil3:=imgS_len d3;have hI2l:(wrI at_ M l).length=(nl*64):=(by unfold wrI;rw [spl_length (by rw [le_length];omega),hI1l]);have hoth:∀q,q≠at_/64->chunk q (wrI at_ M l)=chunk q (wrI1 at_ M l):=λ q hq=>by unfold wrI;exact chunk_spl (by rw [le_length];omega) (by rw [le_length];omega)
      have hq:∀q,q<s.ls.length->chunk q (imgS s3)=chunk q (wrI1 at_ M l)∨chunk q (imgS s3)=chunk q (wrI at_ M l):=λ q hq=>poss_img d3 d5 (by rw [d6];exact hq)
      rcases hq (at_/64) oqz with h1|h1
      . left
        have e9:imgS s3=wrI1 at_ M l:=img_ext (n:=s.ls.length) (by rw [hil3,d6]) oqz λ q hql=>by
          by_cases e:q=at_/64
          . rw [e];exact h1
          rcases hq q hql with h2|h2
          . exact h2
          rw [h2,hoth q e]
        refine as_cln2 d3 d4 (by rw [d6];omega) λ i hi=> ?_
        rw [←hMI i hi,e9]
        exact (out_spl (a:=(at_+64)) (b:=(at_+sz)) oqz (Nat.le_refl _) oqz) i λ h=>hi ((inX_body oqz).2 (.inr h))
      right
      exact ⟨d3,d4,img_ext (n:=s.ls.length) (by rw [hil3,d6]) oqz λ q hql=>by
        by_cases e:q=at_/64
        . rw [e];exact h1
        rcases hq q hql with h2|h2
        . rw [h2,hoth q e]
        exact h2⟩
    subst b1;rw [if_pos (show (5:Int)≠0 by decide)]
    exact ⟨5,s2,rfl,by rw [b2.2.2.2.2,hlen],.inr ⟨rfl,b2.1,.inl (as_lost b2 (by rw [hlen];exact hI0))⟩⟩
  subst a1;rw [if_pos (show (5:Int)≠0 by decide)]
  exact ⟨5,s1,rfl,by rw [a2.2.2.2.2,hlen],.inr ⟨rfl,a2.1,.inl (as_lost a2 (by rw [hlen];exact hI0))⟩⟩
variable {nl at_ sz:Nat}
theorem clear_law (hlw:LogW (nl*64) at_ sz){K:List Nat}{s:DevS}(hw:WfD s)(hO:s.off=false)(hc:Cln s)(hlen:s.ls.length=nl)(hK:imgS s=K):
    ∃e s2,clearS at_ s=(e,s2)/\ s2.ls.length=nl/\ WfD s2/\ Cln s2/\ ((e=0/\ s2.off=false/\ imgS s2=spl K at_ (le 8 0))∨(e=5/\ s2.off=true/\ (imgS s2=K∨imgS s2=spl K at_ (le 8 0)))):=by
  have ⟨w1,w2,w3,w4,w5⟩:=hlw;have hil:K.length=(nl*64):=(by rw [←hK,imgS_len hw,hlen])
  obtain ⟨e,s2,g1,g2⟩:=pub_loss (X:=λ q c=>c=chunk q K∨c=chunk q (spl K at_ (le 8 0))) (p:=at_) (v:=0) (s:=s) hw hO
    (poss_cln hw hc λ q hq=> .inl (by rw [hK])) (λ q ln _ hln=>hc ln (List.mem_of_getElem? hln)) oqz (by rw [hlen];omega) (by decide) (room_cln hc (by decide)) (.inr (by rw [hK]))
  refine ⟨e,s2,by unfold clearS;rw [if_neg (by rw [hO];decide)];exact g1, ?_⟩
  rcases g2 with ⟨d1,d2,d3,d4,d5,d6⟩|⟨d1,d2,d3,d4,d5,d6⟩
  . exact ⟨by rw [d5,hlen],d3,d4,.inl ⟨d1,d2,by rw [d6,hK]⟩⟩
  refine ⟨by rw [d6,hlen],d3,d4,.inr ⟨d1,d2, ?_⟩⟩;have hil3:=imgS_len d3;have hJl:(spl K at_ (le 8 0)).length=(nl*64):=(by rw [spl_length (by rw [le_length];omega),hil]);have hoth:∀q,q≠at_/64->chunk q (spl K at_ (le 8 0))=chunk q K:=λ q hq=>chunk_spl (by rw [le_length];omega) (by rw [le_length];omega)
  have hq:∀q,q<s.ls.length->chunk q (imgS s2)=chunk q K∨chunk q (imgS s2)=chunk q (spl K at_ (le 8 0)):=λ q hq=>poss_img d3 d5 (by rw [d6];exact hq)
  rcases hq (at_/64) oqz with h1|h1
  . exact .inl (img_ext (n:=s.ls.length) (by rw [hil3,d6]) oqz λ q hql=>by
      by_cases e:q=at_/64
      . rw [e];exact h1
      rcases hq q hql with h2|h2
      . exact h2
      rw [h2,hoth q e])
  exact .inr (img_ext (n:=s.ls.length) (by rw [hil3,d6]) oqz λ q hql=>by
    by_cases e:q=at_/64
    . rw [e];exact h1
    rcases hq q hql with h2|h2
    . rw [h2,hoth q e]
    exact h2)
theorem stoI_len:∀{R:List (Nat×List Nat)} {I:List Nat} {n:Nat},I.length=n->(∀r∈R,r.1+r.2.length<=n)->(stoI R I).length=n
  |[],_,_,h,_=>h
  |r::R,I,n,h,hR=>stoI_len (R:=R) (by rw [spl_length (by have:=hR r (by simp);omega),h]) λ x hx=>hR x (List.mem_cons_of_mem _ hx)
theorem stoI_out:∀{R:List (Nat×List Nat)} {I:List Nat} {n i:Nat},I.length=n->(∀r∈R,r.1+r.2.length<=n)->¬InX R i->(stoI R I)[i]? =I[i]?
  |[],_,_,_,_,_,_=>rfl
  |r::R,I,n,i,h,hR,hi=>by
    have hr:=hR r (by simp);have h1:=stoI_out (R:=R) (I:=spl I r.1 r.2) (n:=n) (i:=i) (by rw [spl_length oqz,h]) (λ x hx=>hR x (List.mem_cons_of_mem _ hx)) λ ⟨x,hx,h2⟩=>hi ⟨x,List.mem_cons_of_mem _ hx,h2⟩
    show (stoI R (spl I r.1 r.2))[i]? =_
    rw [h1,spl_at oqz,if_neg λ hc=>hi ⟨r,by simp,hc⟩]
theorem stoI_in {B:Nat->Nat}:∀{R:List (Nat×List Nat)} {I:List Nat} {n i:Nat},I.length=n->(∀r∈R,r.1+r.2.length<=n/\∀j,j<r.2.length->r.2[j]? =some (B (r.1+j)))->InX R i->(stoI R I)[i]? =some (B i)
  |[],_,_,_,_,_,h=>by obtain ⟨x,hx,_⟩:=h;cases hx
  |r::R,I,n,i,h,hR,hi=>by
    obtain ⟨hr1,hr2⟩:=hR r (by simp)
    show (stoI R (spl I r.1 r.2))[i]? =_
    have hlen:(spl I r.1 r.2).length=n:=(by rw [spl_length oqz,h])
    by_cases hin:InX R i
    . exact stoI_in (R:=R) hlen (λ x hx=>hR x (List.mem_cons_of_mem _ hx)) hin
    rw [stoI_out hlen (λ x hx=>(hR x (List.mem_cons_of_mem _ hx)).1) hin,spl_at oqz]
    obtain ⟨x,hx,h1,h2⟩:=hi
    rcases List.mem_cons.1 hx with rfl|hx
    . rw [if_pos ⟨h1,h2⟩]
      have:=hr2 (i-x.1) oqz;rw [this];congr 2;omega
    exact absurd ⟨x,hx,h1,h2⟩ hin
structure RnOk (nl at_ sz:Nat) (R:List (Nat×List Nat)):Prop where
  gap:R.Pairwise λ r s=>r.1+r.2.length<s.1
  ok:∀r∈R,1<=r.2.length/\ (∀b∈r.2,b<256)/\ ((64<=r.1/\ r.1+r.2.length<=at_/\ r.1+r.2.length<=nl*64)∨(64<=r.1/\ at_+sz<=r.1/\ r.1+r.2.length<=(nl*64)))
theorem RnOk.top {R:List (Nat×List Nat)}(h:RnOk nl at_ sz R):∀r∈R,r.1+r.2.length<=(nl*64):=λ r hr=>by
  rcases (h.ok r hr).2.2 with h|h<;>omega
theorem RnOk.inx {R:List (Nat×List Nat)}(h:RnOk nl at_ sz R){i:Nat}(hi:InX R i):(64<=i/\ i<at_)∨((at_+sz)<=i/\ i<(nl*64)):=by
  obtain ⟨r,hr,h1,h2⟩:=hi
  rcases (h.ok r hr).2.2 with h|h<;>omega
theorem RnOk.may {R:List (Nat×List Nat)}(h:RnOk nl at_ sz R):(extX R).all (mayX (nl*64) at_ sz)=true:=List.all_eq_true.2 λ x hx=>by
  obtain ⟨r,hr,rfl⟩:=List.mem_map.1 hx;obtain ⟨h1,_,h3⟩:=h.ok r hr;refine decide_eq_true ⟨by show (1:Int)<=(r.2.length:Int);omega,by show (64:Int)<=(r.1:Int);omega,by show (r.1:Int)+(r.2.length:Int)<=_;omega, ?_⟩
  show (r.1:Int)+(r.2.length:Int)<=_∨_<=(r.1:Int)
  omega
theorem inX_oldsR {M:List Nat}{R:List (Nat×List Nat)}(h:RnOk nl at_ sz R)(hM:M.length=(nl*64)){i:Nat}:InX (oldsL M (extX R)) i↔InX R i:=by
  have hol:∀r∈R,((M.drop r.1).take r.2.length).length=r.2.length:=λ r hr=>by
    have:=h.top r hr;rw [List.length_take,List.length_drop];omega
  constructor
  . rintro ⟨x,hx,h1,h2⟩;obtain ⟨y,hy,rfl⟩:=olds_mem hx;obtain ⟨r,hr,rfl⟩:=List.mem_map.1 hy
    simp only [Int.toNat_natCast] at h1 h2
    rw [hol r hr] at h2
    exact ⟨r,hr,h1,h2⟩
  rintro ⟨r,hr,h1,h2⟩;refine ⟨(r.1,(M.drop r.1).take r.2.length),List.mem_map.2 ⟨((r.1:Int),(r.2.length:Int)),List.mem_map.2 ⟨r,hr,rfl⟩,by simp only [Int.toNat_natCast]⟩,h1, ?_⟩
  show i<r.1+((M.drop r.1).take r.2.length).length
  rw [hol r hr];exact h2
theorem img_byM {s:DevS}(hw:WfD s)(hlen:s.ls.length=nl):ByM nl (imgS s):=⟨by rw [imgS_len hw,hlen],λ x hx=>img_lt x hx⟩
theorem wr_logM (hlw:LogW (nl*64) at_ sz)(htop:nl*64<=4194304){M:List Nat}{l:List (Int×Int)}(hM:ByM nl M)(hl:l.all (mayX (nl*64) at_ sz)=true)(hN:needN l<=(sz-64)):LogM nl at_ M sz l (wrI at_ M l):=by
  have ⟨w1,w2,w3,w4,w5⟩:=hlw;have hml:=hM.len;have hrl:=recsB_len hml hl;have h1l:(wrI1 at_ M l).length=(nl*64):=(by unfold wrI1;rw [spl_length oqz,hml]);have h2l:(wrI at_ M l).length=(nl*64):=(by unfold wrI;rw [spl_length (by rw [le_length];omega),h1l]);have hll:l.length<18446744073709551616:=Nat.lt_of_le_of_lt (needN_ge l) oqz;refine ⟨?_, ?_,h2l, ?_⟩
  . have:=spl_mid (l:=wrI1 at_ M l) (b:=le 8 l.length) (p:=at_) (by rw [le_length];omega);rw [le_length] at this
    unfold wrI;rw [this,nm_le]
    exact Nat.mod_eq_of_lt (by have : (256 : Nat) ^ 8 = 18446744073709551616 := by decide
                               omega)
  . unfold wrI
    rw [spl_drop_ge (by rw [le_length];omega) (by rw [le_length];omega)]
    have:=spl_mid (l:=M) (b:=recsB M l) (p:=(at_+64)) oqz;rw [hrl] at this;exact this
  have h1l2:(spl M (at_+64) (recsB M l)).length=(nl*64):=h1l
  unfold wrI wrI1
  exact (out_spl (by rw [le_length];omega) (Nat.le_refl _) (by rw [le_length];omega)).trans (out_spl oqz oqz oqz)
end Go.Vl

namespace Go.Vl
open Go Go.Proofs Go.Proofs.Tryz
structure ComK where
  nl:Nat
  at_:Nat
  sz:Nat
  F:List (Nat×List Nat)
  L:List (Nat×List Nat)
  I:List Nat
def ComK.M (c:ComK):List Nat:=stoI c.F c.I
def ComK.J (c:ComK):List Nat:=wrI c.at_ c.M (extX c.L)
def ComK.K (c:ComK):List Nat:=stoI c.L c.J
def ComK.E (c:ComK):List Nat:=if c.L=[] then c.M else spl c.K c.at_ (le 8 0)
structure ComOk (c:ComK):Prop where
  w:LogW (c.nl*64) c.at_ c.sz
  top:c.nl*64<=4194304
  f:RnOk c.nl c.at_ c.sz c.F
  l:RnOk c.nl c.at_ c.sz c.L
  i:ByM c.nl c.I
  dis:∀i,InX c.F i->¬InX c.L i
  need:needN (extX c.L)<=(c.sz-64)
  hd:(c.I.drop c.at_).take 8=List.replicate 8 0
theorem ComOk.mlen {c:ComK}(h:ComOk c):c.M.length=(c.nl*64):=stoI_len h.i.len h.f.top
theorem ComOk.mhd {c:ComK}(h:ComOk c):nm ((c.M.drop c.at_).take 8)=0:=by
  have ⟨w1,w2,w3,w4,w5⟩:=h.w
  have e:(c.M.drop c.at_).take 8=(c.I.drop c.at_).take 8:=by
    apply List.ext_getElem?
    intro i;rw [List.getElem?_take,List.getElem?_take]
    split
    . rw [List.getElem?_drop,List.getElem?_drop]
      exact stoI_out h.i.len h.f.top λ hi=>by have:=h.f.inx hi;omega
    rfl
  rw [e,h.hd];decide
def Old0 (c:ComK)(s:DevS):Prop:=AS (c.F++[bodyX c.at_ c.sz]) c.I s/\ s.ls.length=c.nl
def Mid0 (c:ComK)(s:DevS):Prop:=c.L≠[]/\ ByM c.nl c.M/\ AS (oldsL c.M (extX c.L)) c.J s/\ s.ls.length=c.nl
def New0 (c:ComK)(s:DevS):Prop:=WfD s/\ Cln s/\ s.ls.length=c.nl/\ imgS s=c.E
theorem old_of {c:ComK}{s:DevS}(hc:ComOk c)(h:AS c.F c.I s)(hl:s.ls.length=c.nl):Old0 c s:=⟨as_mono h λ i hi=>(inX_body (by have:=hc.w.s;omega)).2 (.inl hi),hl⟩
theorem com_law {c:ComK}{f:TF}{s:DevS}(hc:ComOk c)(hF:runsF (c.nl*64) true f=c.F)(hL:runsF (c.nl*64) false f=c.L)(hw:WfD s)(hO:s.off=false)(hcl:Cln s)(hlen:s.ls.length=c.nl)(hi:imgS s=c.I)(hsf:sumL c.F<=4194304)(hsl:sumL c.L<=4194304):
    ∃e s2,comS c.at_ c.sz (c.nl*64) f s=((e,true),s2)/\ ((e=0/\ s2.off=false/\ New0 c s2)∨(e=5/\ s2.off=true/\ (Old0 c s2∨Mid0 c s2∨New0 c s2))):=by
  have ⟨w1,w2,w3,w4,w5⟩:=hc.w;have hn64:s.ls.length*64=(c.nl*64):=(by rw [hlen]);have hA:AS c.F c.I s:=as_cln hw hcl hi;obtain ⟨e1,s1,g1,g2,g3,g4⟩:=writeT_law (k:=needN (extX c.L)+1) (R:=c.F) hA hO hc.f.gap (λ r hr=>⟨(hc.f.ok r hr).1,by rw [hn64];exact hc.f.top r hr,(hc.f.ok r hr).2.1,λ i h1 h2=>⟨r,hr,h1,h2⟩⟩) (room_cln hcl (by have:=hc.need;have:=hc.top;omega));rw [←hF] at g1
  rcases g4 with ⟨rfl,a2,a3,a4,a5⟩|⟨rfl,a2⟩
  . have hM:imgS s1=c.M:=(by rw [a4,hi];rfl)
    by_cases hl0:c.L=[]
    . by_cases hf0:c.F=[]
      . refine ⟨0,s1,com_00 g1 (hL.trans hl0) (hF.trans hf0),.inl ⟨rfl,a2,g3.wf,λ l hl=> ?_,g2.trans hlen, ?_⟩⟩
        . obtain ⟨q,hq,rfl⟩:=List.mem_iff_getElem.1 hl;exact g3.one q _ (λ i hi9=>by rw [hf0] at hi9;obtain ⟨x,hx,_⟩:=hi9;cases hx) (List.getElem?_eq_getElem hq)
        unfold ComK.E;rw [if_pos hl0];exact hM
      obtain ⟨e2,s2,k1,k2,k3⟩:=fe_law g3 a2 a5;refine ⟨e2,s2,com_0f g1 (hL.trans hl0) (by rw [hF];exact hf0) k1, ?_⟩
      rcases k3 with ⟨b1,b2,b3,b4,b5⟩|⟨b1,b2,b3⟩
      . exact .inl ⟨b1,b2,b3,b4,k2.trans (g2.trans hlen),by unfold ComK.E;rw [if_pos hl0,b5];exact hM⟩
      exact .inr ⟨b1,b2,.inl (old_of hc b3 (k2.trans (g2.trans hlen)))⟩
    have hne:extX c.L≠[]:=λ e=>hl0 (List.eq_nil_of_length_eq_zero (by rw [←ext_len,e];rfl))
    have hbM:ByM c.nl c.M:=hM▸img_byM g3.wf (g2.trans hlen)
    have hJ:LogM c.nl c.at_ c.M c.sz (extX c.L) c.J:=wr_logM hc.w hc.top hbM hc.l.may hc.need;obtain ⟨e2,s2,k1,k2,k3⟩:=write_law hc.w hc.top g3 a2 (g2.trans hlen) hM a5 (λ i h=>hc.f.inx h) hc.mhd hc.l.may hne hc.need a3;rw [←hL] at k1
    have hLne:runsF (c.nl*64) false f≠[]:=(by rw [hL];exact hl0)
    rcases k3 with ⟨rfl,b2,b3,b4,b5⟩|⟨rfl,b2,b3⟩
    . have hA2:AS (oldsL c.M (extX c.L)) c.J s2:=as_cln b3 b4 b5;have hn2:s2.ls.length*64=(c.nl*64):=(by rw [k2]);obtain ⟨e3,s3,m1,m2,m3,m4⟩:=writeT_law (k:=1) (R:=c.L) hA2 b2 hc.l.gap (λ r hr=>⟨(hc.l.ok r hr).1,by rw [hn2];exact hc.l.top r hr,(hc.l.ok r hr).2.1,λ i h1 h2=>(inX_oldsR hc.l hbM.len).2 ⟨r,hr,h1,h2⟩⟩) (room_cln b4 oqz);rw [←hL] at m1
      rcases m4 with ⟨rfl,c2,c3,c4,c5⟩|⟨rfl,c2⟩
      . have hK:imgS s3=c.K:=(by rw [c4,b5];rfl);obtain ⟨e4,s4,n1,n2,n3⟩:=fe_law m3 c2 λ i hi9=>c5 i ((inX_oldsR hc.l hbM.len).1 hi9)
        rcases n3 with ⟨rfl,d2,d3,d4,d5⟩|⟨rfl,d2,d3⟩
        . obtain ⟨e5,s5,p1,p2,p3,p4,p5⟩:=clear_law hc.w d3 d2 d4 (n2.trans (m2.trans k2)) (d5.trans hK);refine ⟨e5,s5,com_cl g1 hLne k1 m1 n1 p1, ?_⟩
          rcases p5 with ⟨q1,q2,q3⟩|⟨q1,q2,q3⟩
          . exact .inl ⟨q1,q2,p3,p4,p2,by unfold ComK.E;rw [if_neg hl0];exact q3⟩
          refine .inr ⟨q1,q2, ?_⟩
          rcases q3 with q3|q3
          . refine .inr (.inl ⟨hl0,hbM,as_cln2 p3 p4 (by rw [p2];exact hJ.2.2.1) λ i hi9=> ?_,p2⟩);rw [q3]
            exact stoI_out hJ.2.2.1 hc.l.top λ h9=>hi9 ((inX_oldsR hc.l hbM.len).2 h9)
          exact .inr (.inr ⟨p3,p4,p2,by unfold ComK.E;rw [if_neg hl0];exact q3⟩)
        exact ⟨5,s4,com_fe g1 hLne k1 m1 n1 (by decide),.inr ⟨rfl,d2,.inr (.inl ⟨hl0,hbM,d3,n2.trans (m2.trans k2)⟩)⟩⟩
      exact ⟨5,s3,com_w2 g1 hLne k1 m1 (by decide),.inr ⟨rfl,c2,.inr (.inl ⟨hl0,hbM,m3,m2.trans k2⟩)⟩⟩
    have h5:=com_lw (at_:=c.at_) (sz:=c.sz) g1 hLne k1 (show (5:Int)≠0 by decide);refine ⟨5,s2,by rw [h5];rfl,.inr ⟨rfl,b2, ?_⟩⟩
    rcases b3 with b3|⟨b3,b4,b5⟩
    . exact .inl ⟨b3,k2⟩
    exact .inr (.inl ⟨hl0,hbM,as_cln b3 b4 b5,k2⟩)
  exact ⟨5,s1,com_w1 g1 (by decide),.inr ⟨rfl,a2,.inl (old_of hc g3 (g2.trans hlen))⟩⟩
def Rol0 (c:ComK)(s:DevS):Prop:=c.L≠[]/\ ByM c.nl c.M/\ WfD s/\ Cln s/\ s.ls.length=c.nl/\ imgS s=spl c.J c.at_ (le 8 0)
def Set9 (c:ComK)(s:DevS):Prop:=Old0 c s∨New0 c s∨Rol0 c s
def Rec9 (c:ComK)(s:DevS):Prop:=Mid0 c s∨Set9 c s
theorem hd_spl {nl at_ sz:Nat}(hlw:LogW (nl*64) at_ sz){K:List Nat}(h:K.length=nl*64):nm (((spl K at_ (le 8 0)).drop at_).take 8)=0:=by
  have ⟨w1,w2,w3,w4,w5⟩:=hlw;have:=spl_mid (l:=K) (b:=le 8 0) (p:=at_) (by rw [le_length];omega);rw [le_length] at this
  rw [this];decide
theorem ComOk.jlen {c:ComK}(h:ComOk c)(hM:ByM c.nl c.M):LogM c.nl c.at_ c.M c.sz (extX c.L) c.J:=wr_logM h.w h.top hM h.l.may h.need
theorem new_hd {c:ComK}{s:DevS}(h:ComOk c)(hn:New0 c s):nm (((imgS s).drop c.at_).take 8)=0:=by
  have ⟨w1,w2,w3,w4,w5⟩:=h.w;obtain ⟨h1,h2,h3,h4⟩:=hn;rw [h4]
  unfold ComK.E
  split
  . exact h.mhd
  have hl:(spl c.K c.at_ (le 8 0)).length=c.K.length∨True:= .inr trivial;have hKl:c.K.length=(c.nl*64):=stoI_len (by unfold ComK.J wrI wrI1;rw [spl_length,spl_length];exact h.mlen;(rw [recsB_len h.mlen h.l.may,h.mlen];have:=h.need;have:=h.top;omega);(rw [spl_length,le_length,h.mlen];omega;(rw [recsB_len h.mlen h.l.may,h.mlen];have:=h.need;have:=h.top;omega))) h.l.top;exact hd_spl h.w hKl
def TxR (t q r lg la lz:Nat)(f:TF)(s:DevS):SP:=λ h=>∃a m c vs D,vs.length=m/\ D.length=m/\ LnOk s.ls.length D f/\ (pt q (cl [pz r,pz lg,((pz t))] 269)*pt lg (cl [pz r,vn la,vn lz] 267)*RDev r s*pt t (cl [pz q,.slice a m c,.bool false] 328)*Sl 1 (.slice a m c) m (ptrV vs)*RLines vs D f) h
def TxE (t q r lg la lz:Nat)(s:DevS):SP:=(pt q (cl [pz r,pz lg,.pointer none] 269))*(pt lg (cl [pz r,vn la,vn lz] 267))*RDev r s*(pt t (cl [pz q,.slice none 0 0,.bool true] 328))
theorem com_gd {la lz k:Nat}{f:TF}{s s2:DevS}{e:Int}{b:Bool}(hg:Gd s.ls.length (2*(s.ls.length*64)+lz+8+k) s)(hby:∀a c,f a=some c->c.1<256)(htop:s.ls.length*64<=4194304)(hc:comS la lz (s.ls.length*64) f s=((e,b),s2)):Gd s.ls.length k s2:=by
  have hPF:=runP_Fb (n:=s.ls.length*64) (k:=true) hby;have hPL:=runP_Fb (n:=s.ls.length*64) (k:=false) hby;have haf:=adr_len (s.ls.length*64) true f;have hal:=adr_len (s.ls.length*64) false f;have hfs:=hPF.sum;have hls:=hPL.sum;have hll:=hPL.len;obtain ⟨LF,hLF⟩:∃L,runsF (s.ls.length*64) true f=L:=⟨_,rfl⟩;obtain ⟨LL,hLL⟩:∃L,runsF (s.ls.length*64) false f=L:=⟨_,rfl⟩;rw [hLF] at hPF hfs
  rw [hLL] at hPL hls hll
  have g1:Gd s.ls.length (s.ls.length*64+lz+8+k) (writeT LF s).2:=gd_writeT (e:=(writeT LF s).1) rfl hPF.ok (hg.le oqz);have g2:Gd s.ls.length (s.ls.length*64+4+k) (writeS la lz (extX LL) (writeT LF s).2).2:=gd_write (g1.le oqz) (by rw [ext_len];omega);have g3:Gd s.ls.length (4+k) (writeT LL (writeS la lz (extX LL) (writeT LF s).2).2).2:=gd_writeT (e:=(writeT LL (writeS la lz (extX LL) (writeT LF s).2).2).1) rfl hPL.ok (g2.le oqz);have g4:=gd_fe g3;have g5:Gd s.ls.length k (clearS la (fe (writeT LL (writeS la lz (extX LL) (writeT LF s).2).2).2).2).2:=gd_clear (g4.le oqz);have g1f:=gd_fe g1
  unfold comS at hc
  rw [hLF,hLL] at hc
  split at hc
  . obtain rfl:=(Prod.mk.inj hc).2;exact g1.le oqz
  split at hc
  . split at hc
    . obtain rfl:=(Prod.mk.inj hc).2;exact g1.le oqz
    obtain rfl:=(Prod.mk.inj hc).2;exact g1f.le oqz
  split at hc
  . obtain rfl:=(Prod.mk.inj hc).2;exact g2.le oqz
  split at hc
  . obtain rfl:=(Prod.mk.inj hc).2;exact g3.le oqz
  split at hc
  . obtain rfl:=(Prod.mk.inj hc).2;exact g4.le oqz
  obtain rfl:=(Prod.mk.inj hc).2;exact g5
variable {nl at_ sz:Nat}
def comK (nl at_ sz:Nat)(f:TF)(I:List Nat):ComK:=⟨nl,at_,sz,runsF (nl*64) true f,runsF (nl*64) false f,I⟩
theorem inX_runs {f:TF}{k:Bool}(hout:∀a,(nl*64)<=a->f a=none){i:Nat}:InX (runsF (nl*64) k f) i↔kdO f i=some k:=by
  have hQ:=runQ_F (nl*64) k f
  constructor
  . rintro ⟨r,hr,h1,h2⟩;obtain ⟨g,_⟩:=hQ.kind r hr (i-r.1) oqz;rw [show r.1+(i-r.1)=i by omega] at g
    exact isK_iff.1 g
  intro h
  have hi:i<(nl*64):=by
    rcases Nat.lt_or_ge i (nl*64) with h9|h9
    . exact h9
    rw [kdO_none.1 (hout i h9)] at h;cases h
  obtain ⟨r,hr,h1,h2⟩:=hQ.cov i (adr_mem.2 ⟨hi,isK_iff.2 h⟩);exact ⟨r,hr,h1,h2⟩
theorem rnOk_runs (hlw:LogW (nl*64) at_ sz){f:TF}{k:Bool}(hout:∀a,(nl*64)<=a->f a=none)(hby:∀a c,f a=some c->c.1<256)(hin:∀a,f a≠none->(64<=a/\ a<at_)∨((at_+sz)<=a/\ a<(nl*64))):RnOk nl at_ sz (runsF (nl*64) k f):=by
  have ⟨w1,w2,w3,w4,w5⟩:=hlw;have hQ:=runQ_F (nl*64) k f;have hP:=runP_Fb (n:=(nl*64)) (k:=k) hby;refine ⟨hQ.gap,λ r hr=> ?_⟩;obtain ⟨p1,p2,p3⟩:=hP.ok r hr;refine ⟨p1,p3, ?_⟩
  have hne:∀j,j<r.2.length->(64<=r.1+j/\ r.1+j<at_)∨((at_+sz)<=r.1+j/\ r.1+j<(nl*64)):=λ j hj=>by
    refine hin _ λ h9=> ?_
    have:=(isK_iff.1 (hQ.kind r hr j hj).1);rw [kdO_none.1 h9] at this;cases this
  have h0:=hne 0 oqz;have h1:=hne (r.2.length-1) oqz
  by_cases hc:r.1<at_/\ at_<=r.1+r.2.length-1
  . have:=hne (at_-r.1) oqz;omega
  omega
attribute [local irreducible] runsF adrF runsL sumL
theorem comK_ok (hlw:LogW (nl*64) at_ sz)(htop:nl*64<=4194304){f:TF}{I:List Nat}(hout:∀a,nl*64<=a->f a=none)(hby:∀a c,f a=some c->c.1<256)(hin:∀a,f a≠none->(64<=a/\ a<at_)∨(at_+sz<=a/\ a<nl*64))(hneed:needN (extX (runsF (nl*64) false f))<=sz-64)(hI:ByM nl I)(hh:(I.drop at_).take 8=List.replicate 8 0):ComOk (comK nl at_ sz f I):=
  ⟨hlw,htop,rnOk_runs hlw hout hby hin,rnOk_runs hlw hout hby hin,hI,(λ a h1 h2=>by
    have g1:=(inX_runs (k:=true) hout).1 h1;have g2:=(inX_runs (k:=false) hout).1 h2
    rw [g1] at g2;cases g2),hneed,hh⟩
theorem com_sum {f:TF}{I:List Nat}(htop:nl*64<=4194304)(hby:∀a c,f a=some c->c.1<256):sumL (comK nl at_ sz f I).F<=4194304/\ sumL (comK nl at_ sz f I).L<=4194304:=by
  have h1:=(runP_Fb (n:=(nl*64)) (k:=true) hby).sum;have h2:=(runP_Fb (n:=(nl*64)) (k:=false) hby).sum;have h3:=adr_len (nl*64) true f;have h4:=adr_len (nl*64) false f
  show sumL (runsF (nl*64) true f)<=_/\ sumL (runsF (nl*64) false f)<=_
  omega
theorem comK_J {f:TF}{I:List Nat}:(comK nl at_ sz f I).J=wrI at_ (comK nl at_ sz f I).M (extX (comK nl at_ sz f I).L):=rfl
theorem comK_E {f:TF}{I:List Nat}:(comK nl at_ sz f I).E=if (comK nl at_ sz f I).L=[] then (comK nl at_ sz f I).M else spl (comK nl at_ sz f I).K at_ (le 8 0):=rfl
theorem fin_law {f:TF}{I:List Nat}{s:DevS}(hc:ComOk (comK nl at_ sz f I))(hout:∀a,(nl*64)<=a->f a=none)(hin:∀a,f a≠none->(64<=a/\ a<at_)∨((at_+sz)<=a/\ a<(nl*64)))(hs:Set9 (comK nl at_ sz f I) s):
    ∃nw:Bool,(New0 (comK nl at_ sz f I) s->nw=true)/\∀i,i<(nl*64)→
      (kdO f i=none->(i<at_∨(at_+sz)<=i)->(imgS s)[i]? =I[i]?)/\ (kdO f i=some false->(imgS s)[i]? =if nw=true then some (byF f i) else I[i]?)/\ (nw=true->kdO f i≠none->(imgS s)[i]? =some (byF f i)):=by
  have hw9:LogW (nl*64) at_ sz:=hc.w;have ⟨w1,w2,w3,w4,w5⟩:=hw9;have hIl:I.length=nl*64:=hc.i.len;have hMl:(comK nl at_ sz f I).M.length=nl*64:=hc.mlen
  have hU:∀i,kdO f i≠none->(i<at_∨(at_+sz)<=i):=λ i h=>by
    have:=hin i λ h9=>h (kdO_none.1 h9)
    omega
  have hMo:∀i,kdO f i≠some true->(comK nl at_ sz f I).M[i]? =I[i]? :=λ i h=>stoI_out hIl hc.f.top λ h9=>h ((inX_runs hout).1 h9)
  have hMi:∀i,kdO f i=some true->(comK nl at_ sz f I).M[i]? =some (byF f i):=λ i h=>stoI_in hIl (λ r hr=>⟨hc.f.top r hr,λ j hj=>((runQ_F (nl*64) true f).kind r hr j hj).2⟩) ((inX_runs hout).2 h)
  by_cases hN:New0 (comK nl at_ sz f I) s
  . refine ⟨true,λ _=>rfl,λ i hi=> ?_⟩;obtain ⟨y1,y2,y3,y4⟩:=id hN
    have hE:(i<at_∨(at_+sz)<=i)->(imgS s)[i]? =if kdO f i=some false then some (byF f i) else (comK nl at_ sz f I).M[i]? :=λ hlog=>by
      rw [y4]
      rw [comK_E]
      split
      . rename_i hl0
        rw [if_neg λ h=>by
          have h9:=(inX_runs (k:=false) hout).2 h;have e:runsF (nl*64) false f=[]:=hl0;rw [e] at h9
          obtain ⟨x,hx,_⟩:=h9;cases hx]
      have hrl:=recsB_len hMl hc.l.may;have hnd:needN (extX (comK nl at_ sz f I).L)<=sz-64:=hc.need
      have hJl:(comK nl at_ sz f I).J.length=(nl*64):=by
        rw [comK_J];unfold wrI wrI1
        have h1:(spl (comK nl at_ sz f I).M (at_+64) (recsB (comK nl at_ sz f I).M (extX (comK nl at_ sz f I).L))).length=(nl*64):=(by rw [spl_length oqz,hMl]);rw [spl_length (by rw [le_length];omega),h1]
      have hKl:(comK nl at_ sz f I).K.length=(nl*64):=stoI_len hJl hc.l.top;rw [spl_at (by rw [le_length];omega),le_length,if_neg oqz]
      split
      . rename_i h
        exact stoI_in hJl (λ r hr=>⟨hc.l.top r hr,λ j hj=>((runQ_F (nl*64) false f).kind r hr j hj).2⟩) ((inX_runs hout).2 h)
      rename_i h
      rw [show (comK nl at_ sz f I).K=stoI (comK nl at_ sz f I).L (comK nl at_ sz f I).J from rfl,stoI_out hJl hc.l.top λ h9=>h ((inX_runs hout).1 h9)]
      rw [comK_J];unfold wrI wrI1
      have h1:(spl (comK nl at_ sz f I).M (at_+64) (recsB (comK nl at_ sz f I).M (extX (comK nl at_ sz f I).L))).length=(nl*64):=(by rw [spl_length oqz,hMl]);rw [spl_at (by rw [le_length];omega),le_length,if_neg oqz,spl_at oqz,if_neg oqz]
    refine ⟨λ h hlog=> ?_,λ h=> ?_,λ _ h=> ?_⟩
    . rw [hE hlog,if_neg (by rw [h];simp),hMo i (by rw [h];simp)]
    . rw [hE (hU i (by rw [h];simp)),if_pos h,if_pos rfl]
    rw [hE (hU i h)]
    split
    . rfl
    rename_i h9
    refine hMi i ?_
    cases hk:kdO f i with
    |none=>exact absurd hk h
    |some b=>cases b with
      |true=>rfl
      |false=>exact absurd hk h9
  refine ⟨false,λ h=>absurd h hN,λ i hi=> ?_⟩
  have hold:(i<at_∨(at_+sz)<=i)->kdO f i≠some true->(imgS s)[i]? =I[i]? :=λ hlog hk=>by
    rcases hs with ⟨h1,h2⟩|h|⟨h1,h2,h3,h4,h5,h6⟩
    . exact h1.img λ h9=>by
        rcases (inX_body (at_:=at_) (sz:=sz) oqz).1 h9 with h9|h9
        . exact hk ((inX_runs hout).1 h9)
        omega
    . exact absurd h hN
    have hJ:LogM nl at_ (comK nl at_ sz f I).M sz (extX (comK nl at_ sz f I).L) (comK nl at_ sz f I).J:=hc.jlen h2;have h7:imgS s=spl (comK nl at_ sz f I).J at_ (le 8 0):=h6;rw [h7,spl_at (by rw [le_length];have:=hJ.2.2.1;omega),le_length,if_neg oqz,hJ.2.2.2 i oqz,hMo i hk]
  refine ⟨λ h hlog=>hold hlog (by rw [h];simp),λ h=> ?_,λ h=>by cases h⟩;rw [if_neg (by decide)]
  exact hold (hU i (by rw [h];simp)) (by rw [h];simp)
theorem stoL_phi:∀ (l:List (Nat×List Nat)) (s:DevS),phi (stoL l s).2<=phi s
  |[],s=>Nat.le_refl _
  |r::l,s=>by
    have h1:=sto_phi (r.1:Nat) r.2 s
    unfold stoL
    split
    . exact h1
    exact Nat.le_trans (stoL_phi l _) h1
theorem flLs_phi:∀ (l:List Nat) (s:DevS),phi (flLs l s).2<=phi s
  |[],s=>Nat.le_refl _
  |q::l,s=>by
    have h1:=fl1_phi ((q*64:Nat):Int) s
    unfold flLs
    split
    . exact h1
    exact Nat.le_trans (flLs_phi l _) h1
theorem writeT_phi (l:List (Nat×List Nat))(s:DevS):phi (writeT l s).2<=phi s:=by
  unfold writeT
  split
  . exact stoL_phi l s
  exact Nat.le_trans (flLs_phi _ _) (stoL_phi l s)
theorem clear_phi (at_:Nat)(s:DevS):phi (clearS at_ s).2<=phi s:=by
  unfold clearS
  split
  . exact Nat.le_refl _
  exact pubP_phi _ _ _
theorem com_phi {at_ sz n:Nat}{f:TF}{s:DevS}:phi (comS at_ sz n f s).2<=phi s:=by
  have h1:=writeT_phi (runsF n true f) s;have h2:=writeS_phi at_ sz (extX (runsF n false f)) (writeT (runsF n true f) s).2;have h3:=writeT_phi (runsF n false f) (writeS at_ sz (extX (runsF n false f)) (writeT (runsF n true f) s).2).2;have h4:=fe_phi (writeT (runsF n false f) (writeS at_ sz (extX (runsF n false f)) (writeT (runsF n true f) s).2).2).2;have h5:=clear_phi at_ (fe (writeT (runsF n false f) (writeS at_ sz (extX (runsF n false f)) (writeT (runsF n true f) s).2).2).2).2;have h6:=fe_phi (writeT (runsF n true f) s).2
  unfold comS
  repeat' split
  all_goals (dsimp only;omega)
theorem whole_com (htop:nl*64<=4194304)(hsz:sz<=4194304){f:TF}{I:List Nat}{s:DevS}{k:Nat}(hc:ComOk (comK nl at_ sz f I))(hby:∀a c,f a=some c->c.1<256)(hw:WfD s)(hO:s.off=false)(hcl:Cln s)(hlen:s.ls.length=nl)(hi:imgS s=I)(ha:s.arms.length<=1)(hk:k<=1099511627776):
    ∃e s2,comS at_ sz (nl*64) f s=((e,true),s2)/\ s2.arms.length<=1/\ Gd nl k s2/\ ((e=0/\ s2.off=false/\ New0 (comK nl at_ sz f I) s2)∨(e=5/\ s2.off=true/\ s.arms≠[]/\ Rec9 (comK nl at_ sz f I) s2)):=by
  obtain ⟨h1,h2⟩:=com_sum (nl:=nl) (at_:=at_) (sz:=sz) (I:=I) htop hby;have e1:runsF (nl*64) true f=(comK nl at_ sz f I).F:=rfl;have e2:runsF (nl*64) false f=(comK nl at_ sz f I).L:=rfl;obtain ⟨e,s2,g1,g2⟩:=com_law hc (f:=f) e1 e2 hw hO hcl hlen hi h1 h2;have g1:comS at_ sz (nl*64) f s=((e,true),s2):=g1;have hn:s.ls.length*64=nl*64:=(by rw [hlen]);have hph:=com_phi (at_:=at_) (sz:=sz) (n:=nl*64) (f:=f) (s:=s);rw [g1] at hph
  have hp0:phi s=s.arms.length:=(by unfold phi;rw [hO];simp)
  have hgd:Gd nl k s2:=by
    have h0:Gd s.ls.length (2*(s.ls.length*64)+sz+8+k) s:=⟨rfl,room_cln hcl oqz,hw⟩;have:=com_gd h0 hby oqz (la:=at_) (lz:=sz) (e:=e) (b:=true) (s2:=s2) (by rw [hn];exact g1);rw [hlen] at this;exact this
  refine ⟨e,s2,g1, ?_,hgd, ?_⟩
  . have:s2.arms.length<=phi s2:=phi_arms s2;have h9:phi s2<=phi s:=hph
    omega
  rcases g2 with ⟨rfl,a2,a3⟩|⟨rfl,a2,a3⟩
  . exact .inl ⟨rfl,a2,a3⟩
  refine .inr ⟨rfl,a2,λ e9=> ?_, ?_⟩
  . have h9:phi s2<=phi s:=hph;rw [hp0,e9] at h9
    have:phi s2=1+s2.arms.length:=(by unfold phi;rw [a2];simp;omega)
    simp at h9;omega
  rcases a3 with a3|a3|a3
  . exact .inr (.inl a3)
  . exact .inl a3
  exact .inr (.inr (.inl a3))
theorem fin_at {f:TF}{I:List Nat}{s:DevS}(hc:ComOk (comK nl at_ sz f I))(hout:∀a,nl*64<=a->f a=none)(hin:∀a,f a≠none->(64<=a/\ a<at_)∨(at_+sz<=a/\ a<nl*64))(hs:Set9 (comK nl at_ sz f I) s)(hI:(imgS s).length=nl*64):
    ∃nw:Bool,(New0 (comK nl at_ sz f I) s->nw=true)/\∀i,i<nl*64->∃v u,(imgS s)[i]? =some v/\ I[i]? =some u/\ (kdF f i=0->(i<at_∨at_+sz<=i)->v=u)/\ (kdF f i=1->v=if nw=true then byF f i else u)/\ (nw=true->0<kdF f i->v=byF f i):=by
  obtain ⟨nw,h1,h2⟩:=fin_law hc hout hin hs;refine ⟨nw,h1,λ i hi=> ?_⟩;have hIl:=hc.i.len;obtain ⟨v,hv⟩:∃v,(imgS s)[i]? =some v:=⟨_,List.getElem?_eq_getElem oqz⟩;obtain ⟨u,hu⟩:∃u,I[i]? =some u:=⟨_,List.getElem?_eq_getElem (show i<I.length from hIl▸hi)⟩;obtain ⟨g1,g2,g3⟩:=h2 i hi;rw [hv,hu] at g1 g2
  rw [hv] at g3
  refine ⟨v,u,hv,hu,λ hk hl=> ?_,λ hk=> ?_,λ hn hk=> ?_⟩
  . exact Option.some.inj (g1 (kdO_none.1 (kd_zero.1 hk)) hl)
  . have:=g2 (isK_iff.1 (kd_one.1 hk))
    split at this
    . rw [if_pos (by assumption)];exact Option.some.inj this
    rw [if_neg (by assumption)];exact Option.some.inj this
  refine Option.some.inj (g3 hn λ h9=> ?_);have:=kd_zero.2 (kdO_none.2 h9)
  omega
end Go.Vl

namespace Go.Vl
open Go Go.Proofs Go.Proofs.Tryz
structure Calm (nl at_ sz:Nat) (s:DevS):Prop where
  w:LogW (nl*64) at_ sz
  wf:WfD s
  on:s.off=false
  arms:s.arms=[]
  cln:Cln s
  len:s.ls.length=nl
  top:nl*64<=4194304
  hd:((imgS s).drop at_).take 8=List.replicate 8 0
theorem Calm.szl {nl at_ sz:Nat}{s:DevS}(h:Calm nl at_ sz s):sz<=4194304:=by have:=h.w.top;have:=h.top;omega
theorem Calm.room {nl at_ sz k:Nat}{s:DevS}(h:Calm nl at_ sz s)(hk:k<=2199023255551):Room k s:=room_cln h.cln hk
theorem nm_zero:∀{l:List Nat},nm l=0->l=List.replicate l.length 0
  |[],_=>rfl
  |x::l,h=>by
    have h1:x+256*nm l=0:=h;have h2:nm l=0:=(by omega);rw [List.length_cons,List.replicate_succ,←nm_zero h2,show x=0 by omega]
theorem calm_com {nl at_ sz:Nat}{f:TF}{s:DevS}(h:Calm nl at_ sz s)(hout:∀a,nl*64<=a->f a=none)(hby:∀a c,f a=some c->c.1<256)(hin:∀a,f a≠none->(64<=a/\ a<at_)∨(at_+sz<=a/\ a<nl*64))(hneed:needN (extX (runsF (nl*64) false f))<=sz-64):
    ∃s2,comS at_ sz (nl*64) f s=((0,true),s2)/\ Calm nl at_ sz s2/\∀i,i<nl*64->(i<at_∨at_+sz<=i)->(imgS s2)[i]? =if kdF f i=0 then (imgS s)[i]? else some (byF f i):=by
  have hI:ByM nl (imgS s):=img_byM h.wf h.len;have hc:=comK_ok h.w h.top hout hby hin hneed hI h.hd;obtain ⟨e,s2,g1,g2,g3,g4⟩:=whole_com (k:=0) h.top h.szl hc hby h.wf h.on h.cln h.len rfl (by rw [h.arms];exact Nat.zero_le 1) (by decide);have hph:=com_phi (at_:=at_) (sz:=sz) (n:=nl*64) (f:=f) (s:=s);rw [g1] at hph
  have hp0:phi s=0:=(by unfold phi;rw [h.on,h.arms];rfl)
  rcases g4 with ⟨rfl,a2,a3⟩|⟨_,_,a3,_⟩
  . have hset:Set9 (comK nl at_ sz f (imgS s)) s2:= .inr (.inl a3);have hl2:(imgS s2).length=nl*64:=(by rw [imgS_len g3.wf,g3.len]);obtain ⟨nw,q1,q2⟩:=fin_at hc hout hin hset hl2;have hnw:=q1 a3;refine ⟨s2,g1,⟨h.w,g3.wf,a2, ?_,a3.2.1,g3.len,h.top, ?_⟩,λ i hi hl=> ?_⟩
    . have h9:phi s2<=phi s:=hph;have h8:=phi_arms s2;exact List.eq_nil_of_length_eq_zero oqz
    . have h9:nm (((imgS s2).drop at_).take 8)=0:=new_hd hc a3;have h8:=nm_zero h9;have hw:=h.w;rw [h8]
      congr 1
      show (((imgS s2).drop at_).take 8).length=8
      rw [List.length_take,List.length_drop,hl2]
      have:=hw.s;have:=hw.top;omega
    obtain ⟨v,u,k1,k2,k3,k4,k5⟩:=q2 i hi;rw [k1,k2]
    have hkn:=kd_nn f i
    by_cases h0:kdF f i=0
    . rw [if_pos h0,k3 h0 hl]
    rw [if_neg h0,k5 hnw oqz]
  exact absurd h.arms a3
def nl13 (lg n:Nat):Nat:=2+lg/64+4*n
def s13 (lg n fi:Nat):DevS:=fromS (nl13 lg n) (im13 (128+lg) n fi)
def T0 (g:Nat->Bool):WkT:=⟨g,g0,g0,tf0⟩
def wkX:List Nat:=(List.replicate 256 0).set 9 7
def wkF:TF:=layF 64 (le 8 258) false (layF 576 wkX true tf0)
structure GoodF (ba n k:Nat) (f:TF):Prop where
  inn:∀a,f a≠none->(64<=a/\ a<72)∨(ba<=a/\ a<ba+256*n)
  put:∃G:List Nat,G.length<=k/\ PutG G f
theorem GoodF.le {ba n k k':Nat}{f:TF}(h:GoodF ba n k f)(hk:k<=k'):GoodF ba n k' f:=⟨h.inn,let ⟨G,h1,h2⟩:=h.put;⟨G,Nat.le_trans h1 hk,h2⟩⟩
theorem used_take {T:WkT}{b:Nat}:usedB (T.take b)=λ c=>if c=b then true else usedB T c:=by
  funext c
  unfold usedB WkT.take updG
  by_cases h:c=b<;>simp [h]
def fillT (cell:Nat):Nat:=248/cell
def tblS (next cell:Nat)(cs:List (List Nat)):List Nat:=le 4 next++le 2 cs.length++le 2 cell++cs.flatten++List.replicate (248-cs.flatten.length) 0
def cutC (cell:Nat):Nat->List Nat->List (List Nat)
  |0,_=>[]
  |n+1,xs=>xs.take cell::cutC cell n (xs.drop cell)
theorem cutC_len (cell:Nat):∀ (n:Nat) (xs:List Nat),(cutC cell n xs).length=n
  |0,_=>rfl
  |n+1,xs=>by unfold cutC;rw [List.length_cons,cutC_len]
theorem cutC_snoc {cell:Nat}:∀{n:Nat} {xs:List Nat},cutC cell (n+1) xs=cutC cell n xs++[(xs.drop (n*cell)).take cell]
  |0,xs=>by simp [cutC]
  |n+1,xs=>by
    show xs.take cell::cutC cell (n+1) (xs.drop cell)=(xs.take cell::cutC cell n (xs.drop cell))++_
    rw [cutC_snoc,List.drop_drop,List.cons_append,Nat.succ_mul,Nat.add_comm (n*cell)]
theorem cutC_flat {cell:Nat}:∀{cs:List (List Nat)} {ys:List Nat},(∀x∈cs,x.length=cell)->cutC cell cs.length (cs.flatten++ys)=cs
  |[],_,_=>rfl
  |x::cs,ys,h=>by
    have hx:=h x (List.mem_cons_self ..)
    show (List.flatten (x::cs)++ys).take cell::cutC cell cs.length ((List.flatten (x::cs)++ys).drop cell)=_
    rw [List.flatten_cons,List.append_assoc,List.take_left' hx,List.drop_left' hx,cutC_flat λ y hy=>h y (List.mem_cons_of_mem _ hy)]
theorem flat_len {cell:Nat}:∀{cs:List (List Nat)},(∀x∈cs,x.length=cell)->cs.flatten.length=cs.length*cell
  |[],_=>by simp
  |x::cs,h=>by
    rw [List.flatten_cons,List.length_append,h x (List.mem_cons_self ..),flat_len λ y hy=>h y (List.mem_cons_of_mem _ hy),List.length_cons,Nat.succ_mul,Nat.add_comm]
def partsS (u:Nat->Bool)(c:Nat->List Nat)(nb cell:Nat):Nat->Nat->List (Nat×List (List Nat))->Option (List (Nat×List (List Nat)))
  |0,_,_=>none
  |k+1,ref,out=>
    if ref=0 then some out
    else if¬(u (ref-1)=true)∨nb<out.length then none
    else if nm (((c (ref-1)).drop 6).take 2)≠cell∨nm (((c (ref-1)).drop 4).take 2)<1∨fillT cell<nm (((c (ref-1)).drop 4).take 2) then none
    else if ((c (ref-1)).drop (8+nm (((c (ref-1)).drop 4).take 2)*cell)).any (λ x=>decide (x≠0))=true then none
    else if (match out.getLast? with|none=>false|some p=>decide (p.2.length+nm (((c (ref-1)).drop 4).take 2)<=fillT cell))=true then none
    else partsS u c nb cell k (nm ((c (ref-1)).take 4)) (out++[(ref-1,cutC cell (nm (((c (ref-1)).drop 4).take 2)) ((c (ref-1)).drop 8))])
inductive Tbl (u:Nat->Bool) (c:Nat->List Nat) (cell:Nat):Nat->List (Nat×List (List Nat))->Prop
  |nil:Tbl u c cell 0 []
  |cons {b next:Nat} {cs:List (List Nat)} {l:List (Nat×List (List Nat))} (hu:u b=true) (hc:c b=tblS next cell cs) (h1:1<=cs.length) (h2:cs.length<=fillT cell) (hl:∀x∈cs,x.length=cell) (hn:next<4294967296) (hs:∀p,l.head? =some p->fillT cell<cs.length+p.2.length) (h:Tbl u c cell next l):Tbl u c cell (b+1) ((b,cs)::l)
theorem fill_mul (cell n:Nat)(h:n<=fillT cell):n*cell<=248:=by
  unfold fillT at h
  exact Nat.le_trans (Nat.mul_le_mul_right cell h) (Nat.div_mul_le_self 248 cell)
theorem tblS_len {next cell:Nat}{cs:List (List Nat)}(hl:∀x∈cs,x.length=cell)(h:cs.length<=fillT cell):(tblS next cell cs).length=256:=by
  have h1:=flat_len hl;have h2:=fill_mul cell _ h
  unfold tblS;simp only [List.length_append,le_length,List.length_replicate];omega
theorem tblS_next {next cell:Nat}{cs:List (List Nat)}(h:next<4294967296):nm ((tblS next cell cs).take 4)=next:=by
  have:(tblS next cell cs).take 4=le 4 next:=by
    unfold tblS
    rw [List.append_assoc,List.append_assoc,List.append_assoc]
    exact List.take_left' (le_length _ _)
  rw [this,nm_le];exact Nat.mod_eq_of_lt h
theorem tblS_n {next cell:Nat}{cs:List (List Nat)}(h:cs.length<65536):nm (((tblS next cell cs).drop 4).take 2)=cs.length:=by
  have:((tblS next cell cs).drop 4).take 2=le 2 cs.length:=by
    unfold tblS
    rw [List.append_assoc,List.append_assoc,List.append_assoc,List.drop_left' (le_length _ _)]
    exact List.take_left' (le_length _ _)
  rw [this,nm_le];exact Nat.mod_eq_of_lt h
theorem tblS_size {next cell:Nat}{cs:List (List Nat)}(h:cell<65536):nm (((tblS next cell cs).drop 6).take 2)=cell:=by
  have:((tblS next cell cs).drop 6).take 2=le 2 cell:=by
    unfold tblS
    have e:(le 4 next++le 2 cs.length).length=6:=(by rw [List.length_append,le_length,le_length]);rw [List.append_assoc,List.append_assoc,List.drop_left' e]
    exact List.take_left' (le_length _ _)
  rw [this,nm_le];exact Nat.mod_eq_of_lt h
theorem tblS_8 {next cell:Nat}{cs:List (List Nat)}:(tblS next cell cs).drop 8=cs.flatten++List.replicate (248-cs.flatten.length) 0:=by
  unfold tblS
  have e:(le 4 next++le 2 cs.length++le 2 cell).length=8:=(by simp only [List.length_append,le_length]);rw [List.append_assoc,List.drop_left' e]
theorem tbl_parts {u:Nat->Bool}{c:Nat->List Nat}{nb cell ref:Nat}{l:List (Nat×List (List Nat))}(h:Tbl u c cell ref l)(hcell:1<=cell/\ cell<=62):∀ (k:Nat) (out:List (Nat×List (List Nat))),l.length<k->out.length+l.length<=nb+1->(∀p q,out.getLast? =some p->l.head? =some q->fillT cell<p.2.length+q.2.length)->partsS u c nb cell k ref out=some (out++l):=by
  induction h with
  |nil=>
    intro k out hk _ _;obtain ⟨k,rfl⟩:∃k',k=k'+1:=⟨k-1,by simp at hk;omega⟩
    unfold partsS;rw [if_pos rfl,List.append_nil]
  | @cons b next cs l hu hc h1 h2 hl hn hs h ih=>
    intro k out hk hnb hlast;rw [List.length_cons] at hk hnb
    obtain ⟨k,rfl⟩:∃k',k=k'+1:=⟨k-1,by omega⟩;have hf:fillT cell<=248:=Nat.div_le_self ..;have e4:nm (((c b).drop 4).take 2)=cs.length:=(by rw [hc];exact tblS_n oqz);have e6:nm (((c b).drop 6).take 2)=cell:=(by rw [hc];exact tblS_size oqz);have e0:nm ((c b).take 4)=next:=(by rw [hc];exact tblS_next hn);have e8:(c b).drop 8=cs.flatten++List.replicate (248-cs.flatten.length) 0:=(by rw [hc];exact tblS_8)
    have ez:((c b).drop (8+cs.length*cell)).any (λ x=>decide (x≠0))=false:=by
      rw [←List.drop_drop,e8,List.drop_left' (flat_len hl),List.any_eq_false]
      intro x hx
      simp [(List.mem_replicate.1 hx).2]
    unfold partsS
    rw [if_neg oqz,Nat.add_sub_cancel,e4,e6,e0,e8,if_neg (by rw [not_or];exact ⟨λ h9=>h9 hu,by omega⟩),if_neg oqz,if_neg (by rw [ez];decide),if_neg ?_,cutC_flat hl,ih k _ oqz (by rw [List.length_append,List.length_singleton];omega) ?_,List.append_assoc]
    . rfl
    . intro p q hp hq;rw [List.getLast?_append] at hp
      simp at hp
      subst hp;exact hs q hq
    intro h9
    cases ho:out.getLast? with
    |none=>rw [ho] at h9;cases h9
    |some p=>
      rw [ho] at h9
      have:=hlast p (b,cs) ho rfl;have h8:=of_decide_eq_true h9;have h7:p.2.length+cs.length<=fillT cell:=h8;have h6:fillT cell<p.2.length+cs.length:=this
      omega
structure Prt where
  blk:Int
  cells:List (List Nat)
  fresh:Bool
def stpT (fill:Nat)(out:List Prt)(p:Prt):List Prt:=match out.getLast? with
  |some q=>if q.cells.length+p.cells.length<=fill then out.dropLast++[⟨if q.blk= -1 then p.blk else q.blk,q.cells++p.cells,q.fresh⟩] else out++[p]
  |none=>[p]
def settleS (fill:Nat)(l:List Prt):List Prt:=l.foldl (stpT fill) []
def flatP (l:List Prt):List (List Nat):=l.flatMap (·.cells)
def GapP (fill:Nat):List Prt->Prop
  |p::q::l=>fill<p.cells.length+q.cells.length/\ GapP fill (q::l)
  |_=>True
theorem stpT_nil {fill:Nat}{p:Prt}:stpT fill [] p=[p]:=rfl
theorem stpT_snoc {fill:Nat}{out:List Prt}{q p:Prt}:stpT fill (out++[q]) p=if q.cells.length+p.cells.length<=fill then out++[⟨if q.blk= -1 then p.blk else q.blk,q.cells++p.cells,q.fresh⟩] else out++[q]++[p]:=by
  unfold stpT
  rw [List.getLast?_append]
  simp
theorem snoc_cases {α:Type}:∀l:List α,l=[]∨∃k x,l=k++[x]
  |[]=> .inl rfl
  |a::l=> .inr ⟨(a::l).dropLast,(a::l).getLast (List.cons_ne_nil _ _),(List.dropLast_concat_getLast (List.cons_ne_nil _ _)).symm⟩
theorem stpT_flat {fill:Nat}{out:List Prt}{p:Prt}:flatP (stpT fill out p)=flatP out++p.cells:=by
  unfold flatP
  rcases snoc_cases out with rfl|⟨k,q,rfl⟩
  . rw [stpT_nil];simp
  rw [stpT_snoc]
  split<;>simp [List.append_assoc]
theorem settle_flat {fill:Nat}:∀ (l out:List Prt),flatP (l.foldl (stpT fill) out)=flatP out++flatP l
  |[],out=>by simp [flatP]
  |p::l,out=>by
    rw [List.foldl_cons,settle_flat l,stpT_flat]
    simp [flatP,List.append_assoc]
def OkP (fill:Nat)(p:Prt):Prop:=1<=p.cells.length/\ p.cells.length<=fill
theorem stpT_ok {fill:Nat}{out:List Prt}{p:Prt}(ho:∀q∈out,OkP fill q)(hp:OkP fill p):∀q∈stpT fill out p,OkP fill q:=λ x hx=>by
  rcases snoc_cases out with rfl|⟨k,q,rfl⟩
  . rw [stpT_nil,List.mem_singleton] at hx;rw [hx];exact hp
  rw [stpT_snoc] at hx
  have hq:=ho q (by simp)
  split at hx
  . rename_i h
    rcases List.mem_append.1 hx with h1|h1
    . exact ho x (List.mem_append_left _ h1)
    rw [List.mem_singleton] at h1
    subst h1
    unfold OkP at hq hp ⊢
    simp only [List.length_append]
    omega
  rcases List.mem_append.1 hx with h1|h1
  . exact ho x h1
  rw [List.mem_singleton] at h1;rw [h1];exact hp
theorem settle_ok {fill:Nat}:∀ (l out:List Prt),(∀q∈out,OkP fill q)->(∀q∈l,OkP fill q)->∀q∈l.foldl (stpT fill) out,OkP fill q
  |[],out,h,_=>h
  |p::l,out,h,h2=>by
    rw [List.foldl_cons]
    exact settle_ok l _ (stpT_ok h (h2 p (List.mem_cons_self ..))) λ q hq=>h2 q (List.mem_cons_of_mem _ hq)
theorem gap_snoc {fill:Nat}:∀{l:List Prt} {q p:Prt},GapP fill (l++[q])->fill<q.cells.length+p.cells.length->GapP fill (l++[q]++[p])
  |[],q,p,_,h=>⟨h,trivial⟩
  |[a],q,p,h1,h=>⟨h1.1,h,trivial⟩
  |a::b::l,q,p,h1,h=>⟨h1.1,gap_snoc (l:=b::l) h1.2 h⟩
theorem gap_grow {fill:Nat}:∀{l:List Prt} {q q2:Prt},GapP fill (l++[q])->q.cells.length<=q2.cells.length->GapP fill (l++[q2])
  |[],q,q2,_,_=>trivial
  |[a],q,q2,h1,h=>⟨by have:=h1.1;omega,trivial⟩
  |a::b::l,q,q2,h1,h=>⟨h1.1,gap_grow (l:=b::l) h1.2 h⟩
theorem stpT_gap {fill:Nat}{out:List Prt}{p:Prt}(h:GapP fill out):GapP fill (stpT fill out p):=by
  rcases snoc_cases out with rfl|⟨k,q,rfl⟩
  . rw [stpT_nil];trivial
  rw [stpT_snoc]
  split
  . exact gap_grow h (by simp)
  exact gap_snoc h oqz
theorem settle_gap {fill:Nat}:∀ (l out:List Prt),GapP fill out->GapP fill (l.foldl (stpT fill) out)
  |[],out,h=>h
  |p::l,out,h=>by rw [List.foldl_cons];exact settle_gap l _ (stpT_gap h)
theorem gap_most {fill:Nat}:∀{l:List Prt},GapP fill l->(∀q∈l,OkP fill q)->l.length*(fill+1)<=2*(flatP l).length+(fill+1)
  |[],_,_=>by simp
  |[p],_,h=>by simp
  |[p,q],h1,h=>by
    have:=h1.1
    simp [flatP];omega
  |p::q::r::l,h1,h=>by
    have h2:=gap_most (l:=r::l) h1.2.2 λ x hx=>h x (List.mem_cons_of_mem _ (List.mem_cons_of_mem _ hx))
    have h3:=h1.1
    have e:(p::q::r::l).length*(fill+1)=(r::l).length*(fill+1)+(fill+1)+(fill+1):=by
      rw [List.length_cons,List.length_cons,Nat.succ_mul,Nat.succ_mul]
    rw [e]
    have e2:(flatP (p::q::r::l)).length=p.cells.length+(q.cells.length+(flatP (r::l)).length):=(by simp [flatP])
    omega
def blksP (l:List Prt):List Int:=(l.map (·.blk)).filter (λ b=>decide (b≠-1))
theorem stpT_blks {fill:Nat}{out:List Prt}{p:Prt}:(blksP (stpT fill out p)).Sublist (blksP out++blksP [p]):=by
  unfold blksP
  rcases snoc_cases out with rfl|⟨k,q,rfl⟩
  . rw [stpT_nil];simp
  rw [stpT_snoc]
  split
  . simp only [List.map_append,List.filter_append,List.append_assoc]
    refine List.Sublist.append (List.Sublist.refl _) ?_
    by_cases h:q.blk= -1<;>by_cases h2:p.blk= -1<;>simp [h,h2]
  simp only [List.map_append,List.filter_append,List.append_assoc]
  exact List.Sublist.refl _
theorem settle_blks {fill:Nat}:∀ (l out:List Prt),(blksP (l.foldl (stpT fill) out)).Sublist (blksP out++blksP l)
  |[],out=>by simp [blksP]
  |p::l,out=>by
    rw [List.foldl_cons]
    refine (settle_blks l _).trans ?_;have h1:=stpT_blks (fill:=fill) (out:=out) (p:=p);have:blksP (p::l)=blksP [p]++blksP l:=(by unfold blksP;simp [List.filter_cons];split<;>simp);rw [this,←List.append_assoc]
    exact h1.append (List.Sublist.refl _)
theorem settle_len {fill:Nat}:∀ (l out:List Prt),(l.foldl (stpT fill) out).length<=out.length+l.length
  |[],out=>by simp
  |p::l,out=>by
    rw [List.foldl_cons]
    have h1:=settle_len (fill:=fill) l (stpT fill out p)
    have h2:(stpT fill out p).length<=out.length+1:=by
      rcases snoc_cases out with rfl|⟨k,q,rfl⟩
      . rw [stpT_nil];simp
      rw [stpT_snoc];split<;>simp
    rw [List.length_cons];omega
def findT:List Prt->Nat->Option (Nat×Nat)
  |[],_=>none
  |p::l,i=>if i<p.cells.length then some (0,i) else (findT l (i-p.cells.length)).map λ x=>(x.1+1,x.2)
theorem flatP_cons (p:Prt)(l:List Prt):flatP (p::l)=p.cells++flatP l:=by simp [flatP]
theorem flatP_app (k l:List Prt):flatP (k++l)=flatP k++flatP l:=by simp [flatP]
theorem find_some:∀{l:List Prt} {i k n:Nat},findT l i=some (k,n)->∃p,l[k]? =some p/\ n<p.cells.length/\ i=(flatP (l.take k)).length+n
  |[],i,k,n,h=>by cases h
  |p::l,i,k,n,h=>by
    unfold findT at h
    split at h
    . rename_i h1
      simp only [Option.some.injEq,Prod.mk.injEq] at h
      obtain ⟨rfl,rfl⟩:=h;exact ⟨p,rfl,h1,by simp [flatP]⟩
    rename_i h1
    cases hf:findT l (i-p.cells.length) with
    |none=>rw [hf] at h;cases h
    |some x=>
      rw [hf] at h
      simp only [Option.map_some,Option.some.injEq,Prod.mk.injEq] at h
      obtain ⟨rfl,rfl⟩:=h;obtain ⟨q,g1,g2,g3⟩:=find_some (l:=l) (i:=i-p.cells.length) (k:=x.1) (n:=x.2) hf;refine ⟨q,by rw [List.getElem?_cons_succ];exact g1,g2, ?_⟩;rw [List.take_succ_cons,flatP_cons,List.length_append]
      omega
theorem find_none:∀{l:List Prt} {i:Nat},findT l i=none->(flatP l).length<=i
  |[],i,_=>by simp [flatP]
  |p::l,i,h=>by
    unfold findT at h
    split at h
    . cases h
    rename_i h1
    have:=find_none (l:=l) (i:=i-p.cells.length) (by simpa using h);rw [flatP_cons,List.length_append]
    omega
def chunkP (fill:Nat):Nat->Int->List (List Nat)->List Prt
  |0,_,_=>[]
  |k+1,b,cs=>if cs.length=0 then [] else ⟨b,cs.take fill,false⟩::chunkP fill k (-1) (cs.drop fill)
theorem chunk_flat {fill:Nat}(hf:1<=fill):∀{k:Nat} {b:Int} {cs:List (List Nat)},cs.length<=k->flatP (chunkP fill k b cs)=cs
  |0,b,cs,h=>by
    obtain rfl:cs=[]:=List.eq_nil_of_length_eq_zero oqz
    rfl
  |k+1,b,cs,h=>by
    unfold chunkP
    split
    . rename_i h1
      obtain rfl:cs=[]:=List.eq_nil_of_length_eq_zero h1
      rfl
    rw [flatP_cons,chunk_flat hf (by rw [List.length_drop];omega)]
    exact List.take_append_drop fill cs
theorem chunk_ok {fill:Nat}(hf:1<=fill):∀{k:Nat} {b:Int} {cs:List (List Nat)},∀q∈chunkP fill k b cs,OkP fill q/\ q.fresh=false
  |0,b,cs,q,h=>by cases h
  |k+1,b,cs,q,h=>by
    unfold chunkP at h
    split at h
    . cases h
    rcases List.mem_cons.1 h with rfl|h
    . refine ⟨⟨?_, ?_⟩,rfl⟩
      . show 1<=(cs.take fill).length;rw [List.length_take];omega
      show (cs.take fill).length<=fill;rw [List.length_take];omega
    exact chunk_ok hf q h
theorem chunk_none {fill:Nat}:∀{k:Nat} {cs:List (List Nat)},∀q∈chunkP fill k (-1) cs,q.blk= -1
  |0,cs,q,h=>by cases h
  |k+1,cs,q,h=>by
    unfold chunkP at h
    split at h
    . cases h
    rcases List.mem_cons.1 h with rfl|h
    . rfl
    exact chunk_none q h
theorem blks_app (k l:List Prt):blksP (k++l)=blksP k++blksP l:=by simp [blksP]
theorem blks_none {l:List Prt}(h:∀q∈l,q.blk= -1):blksP l=[]:=by
  unfold blksP
  rw [List.filter_eq_nil_iff]
  intro b hb;obtain ⟨q,hq,rfl⟩:=List.mem_map.1 hb
  simp [h q hq]
theorem chunk_blks {fill:Nat}:∀{k:Nat} {b:Int} {cs:List (List Nat)},(blksP (chunkP fill k b cs)).Sublist [b]
  |0,b,cs=>by simp [chunkP,blksP]
  |k+1,b,cs=>by
    unfold chunkP
    split
    . simp [blksP]
    have:blksP (⟨b,cs.take fill,false⟩::chunkP fill k (-1) (cs.drop fill))=blksP [⟨b,cs.take fill,false⟩]++blksP (chunkP fill k (-1) (cs.drop fill)):=blks_app [_] _;rw [this,blks_none chunk_none,List.append_nil]
    unfold blksP
    by_cases h:b= -1<;>simp [h]
def placeT (was:List Prt)(i:Nat):Nat×Nat:=(findT was i).getD (was.length-1,((was[was.length-1]?).map (·.cells.length)).getD 0)
def insP (fill:Nat)(was:List Prt)(i:Nat)(ins:List (List Nat)):List Prt:=match was[(placeT was i).1]? with
  |none=>chunkP fill ins.length (-1) ins
  |some p=>was.take (placeT was i).1++chunkP fill (p.cells.length+ins.length) p.blk (p.cells.take (placeT was i).2++ins++p.cells.drop (placeT was i).2)++was.drop ((placeT was i).1+1)
theorem place_ok {was:List Prt}{i:Nat}(h:was≠[])(hi:i<=(flatP was).length):∃p,was[(placeT was i).1]? =some p/\ (placeT was i).2<=p.cells.length/\ i=(flatP (was.take (placeT was i).1)).length+(placeT was i).2:=by
  unfold placeT
  cases hf:findT was i with
  |some x=>
    obtain ⟨p,h1,h2,h3⟩:=find_some (l:=was) (i:=i) (k:=x.1) (n:=x.2) hf;exact ⟨p,h1,Nat.le_of_lt h2,h3⟩
  |none=>
    have h1:=find_none hf
    rcases snoc_cases was with rfl|⟨k,q,rfl⟩
    . exact absurd rfl h
    have e:(k++[q]).length-1=k.length:=(by simp);have e2:(k++[q])[k.length]? =some q:=(by simp);refine ⟨q, ?_, ?_, ?_⟩
    . show (k++[q])[(k++[q]).length-1]? =some q;rw [e,e2]
    . show ((((k++[q])[(k++[q]).length-1]?).map (·.cells.length)).getD 0)<=_;rw [e,e2];exact Nat.le_refl _
    show i=(flatP ((k++[q]).take ((k++[q]).length-1))).length+((((k++[q])[(k++[q]).length-1]?).map (·.cells.length)).getD 0)
    rw [e,e2,List.take_left' rfl]
    have:(flatP (k++[q])).length=(flatP k).length+q.cells.length:=(by rw [flatP_app,List.length_append];simp [flatP])
    show i=(flatP k).length+q.cells.length
    omega
theorem split_at {was:List Prt}{k:Nat}{p:Prt}(h:was[k]? =some p):was=was.take k++p::was.drop (k+1):=by
  obtain ⟨hk,rfl⟩:=List.getElem?_eq_some_iff.1 h;rw [List.getElem_cons_drop]
  exact (List.take_append_drop k was).symm
theorem take_mid {α:Type}{X Y W:List α}{m:Nat}(h:m<=Y.length):(X++(Y++W)).take (X.length+m)=X++Y.take m:=by
  rw [List.take_append,List.take_of_length_le oqz,Nat.add_sub_cancel_left,List.take_append_of_le_length h]
theorem drop_mid {α:Type}{X Y W:List α}{m:Nat}(h:m<=Y.length):(X++(Y++W)).drop (X.length+m)=Y.drop m++W:=by
  rw [List.drop_append,List.drop_of_length_le oqz,Nat.add_sub_cancel_left,List.drop_append_of_le_length h,List.nil_append]
theorem ins_flat {fill:Nat}(hf:1<=fill){was:List Prt}{i:Nat}{ins:List (List Nat)}(hi:i<=(flatP was).length):flatP (insP fill was i ins)=(flatP was).take i++ins++(flatP was).drop i:=by
  by_cases h:was=[]
  . subst h;have hi0:i=0:=(by simpa [flatP] using hi);subst hi0
    show flatP (chunkP fill ins.length (-1) ins)=_
    rw [chunk_flat hf (Nat.le_refl _)]
    simp [flatP]
  obtain ⟨p,h1,h2,h3⟩:=place_ok h hi
  unfold insP
  rw [h1]
  show flatP (was.take _++chunkP fill _ p.blk _++was.drop _)=_
  have hs:=split_at h1;rw [flatP_app,flatP_app,chunk_flat hf (by simp only [List.length_append,List.length_take,List.length_drop];omega)]
  have e:flatP was=flatP (was.take (placeT was i).1)++(p.cells++flatP (was.drop ((placeT was i).1+1))):=by
    conv=>lhs;rw [hs]
    rw [flatP_app,flatP_cons]
  obtain ⟨X,hX⟩:∃X,flatP (was.take (placeT was i).1)=X:=⟨_,rfl⟩;obtain ⟨W,hW⟩:∃W,flatP (was.drop ((placeT was i).1+1))=W:=⟨_,rfl⟩;obtain ⟨m,hm⟩:∃m,(placeT was i).2=m:=⟨_,rfl⟩;rw [hm,hX] at h3
  rw [hm] at h2
  rw [e,hX,hW,hm,h3,take_mid h2,drop_mid h2]
  simp only [List.append_assoc]
def delP (i n:Nat):List Prt->Nat->List Prt
  |[],_=>[]
  |p::l,at_=>(if 0<(p.cells.take (min (i-at_) p.cells.length)++p.cells.drop (min (i+n-at_) p.cells.length)).length then [⟨p.blk,p.cells.take (min (i-at_) p.cells.length)++p.cells.drop (min (i+n-at_) p.cells.length),false⟩] else [])++delP i n l (at_+p.cells.length)
theorem take_min {α:Type}{X:List α}{a:Nat}:X.take (min a X.length)=X.take a:=by
  rcases Nat.le_total a X.length with h|h
  . rw [Nat.min_eq_left h]
  rw [Nat.min_eq_right h,List.take_of_length_le (Nat.le_refl _),List.take_of_length_le h]
theorem drop_min {α:Type}{X:List α}{a:Nat}:X.drop (min a X.length)=X.drop a:=by
  rcases Nat.le_total a X.length with h|h
  . rw [Nat.min_eq_left h]
  rw [Nat.min_eq_right h,List.drop_of_length_le (Nat.le_refl _),List.drop_of_length_le h]
theorem del_flat {i n:Nat}:∀{l:List Prt} {at_:Nat},flatP (delP i n l at_)=(flatP l).take (i-at_)++(flatP l).drop (i+n-at_)
  |[],at_=>by simp [delP,flatP]
  |p::l,at_=>by
    unfold delP
    rw [flatP_app,flatP_cons,del_flat,take_min,drop_min]
    have e1:flatP (if 0<(p.cells.take (i-at_)++p.cells.drop (i+n-at_)).length then [(⟨p.blk,p.cells.take (i-at_)++p.cells.drop (i+n-at_),false⟩:Prt)] else [])=p.cells.take (i-at_)++p.cells.drop (i+n-at_):=by
      split
      . simp [flatP]
      rename_i h
      have:p.cells.take (i-at_)++p.cells.drop (i+n-at_)=[]:=List.eq_nil_of_length_eq_zero oqz;rw [this];rfl
    rw [e1]
    rw [List.take_append,List.drop_append]
    -- where the cut lies
    by_cases h1:i<=at_+p.cells.length
    . by_cases h2:i+n<=at_+p.cells.length
      . rw [show i-(at_+p.cells.length)=0 by omega,show i+n-(at_+p.cells.length)=0 by omega,show i-at_-p.cells.length=0 by omega,show i+n-at_-p.cells.length=0 by omega]
        simp
      rw [show i-(at_+p.cells.length)=0 by omega,show i-at_-p.cells.length=0 by omega,show i+n-at_-p.cells.length=i+n-(at_+p.cells.length) by omega,List.drop_of_length_le (show p.cells.length<=i+n-at_ by omega)]
      simp
    rw [show i-at_-p.cells.length=i-(at_+p.cells.length) by omega,show i+n-at_-p.cells.length=i+n-(at_+p.cells.length) by omega,List.drop_of_length_le (show p.cells.length<=i+n-at_ by omega)]
    simp
theorem del_ok {i n fill:Nat}:∀{l:List Prt} {at_:Nat},(∀q∈l,OkP fill q)->∀q∈delP i n l at_,OkP fill q/\ q.fresh=false
  |[],at_,_,q,h=>by cases h
  |p::l,at_,hl,q,h=>by
    unfold delP at h
    rcases List.mem_append.1 h with h1|h1
    . split at h1
      . rename_i h2
        rw [List.mem_singleton] at h1
        subst h1;have hp:=hl p (List.mem_cons_self ..)
        unfold OkP at hp ⊢
        refine ⟨⟨h2, ?_⟩,rfl⟩
        show (p.cells.take _++p.cells.drop _).length<=fill
        rw [List.length_append,List.length_take,List.length_drop]
        omega
      cases h1
    exact del_ok (λ x hx=>hl x (List.mem_cons_of_mem _ hx)) q h1
theorem del_blks {i n:Nat}:∀{l:List Prt} {at_:Nat},(blksP (delP i n l at_)).Sublist (blksP l)
  |[],at_=>by simp [delP,blksP]
  |p::l,at_=>by
    unfold delP
    rw [blks_app]
    have e:blksP (p::l)=blksP [p]++blksP l:=blks_app [p] l;rw [e]
    refine List.Sublist.append ?_ del_blks
    split
    . unfold blksP;simp
    simp [blksP]
theorem del_len {i n:Nat}:∀{l:List Prt} {at_:Nat},(delP i n l at_).length<=l.length
  |[],at_=>Nat.zero_le _
  |p::l,at_=>by
    unfold delP
    rw [List.length_append,List.length_cons]
    have:=del_len (i:=i) (n:=n) (l:=l) (at_:=at_+p.cells.length)
    split<;>simp<;>omega
def takeP (n:Nat):List Prt->WkT->List Prt×Int×WkT
  |[],T=>([],0,T)
  |p::l,T=>if p.blk= -1 then (if (takeS n T).2.1=0 then (⟨((takeS n T).1:Nat),p.cells,true⟩::(takeP n l (takeS n T).2.2).1,(takeP n l (takeS n T).2.2).2) else (p::l,(takeS n T).2.1,T)) else (p::(takeP n l T).1,(takeP n l T).2)
def giveP (us:List Int):List Nat->WkT->WkT
  |[],T=>T
  |b::l,T=>giveP us l (if (b:Int)∈us then T else T.give b)
def rowT (cell:Nat)(l:List Prt)(k:Nat):List Nat:=tblS (((l[k+1]?).map (λ p=>p.blk.toNat+1)).getD 0) cell (((l[k]?).map (·.cells)).getD [])
def writeP (ba cell:Nat)(s:DevS)(l:List Prt):Nat->WkT->WkT
  |0,T=>T
  |j+1,T=>match l[l.length-(j+1)]? with
    |none=>T
    |some p=>writeP ba cell s l j (if p.fresh=false/\ conB T s ba p.blk.toNat=rowT cell l (l.length-(j+1)) then T else T.write ba p.blk.toNat (rowT cell l (l.length-(j+1))))
def DjT (T:WkT):Prop:=∀b,T.tk b=true->T.lv b=false
theorem takeS_0 {n:Nat}{T:WkT}(h:(takeS n T).2.1=0):freeB T (takeS n T).1=true/\ (takeS n T).1<n/\ (takeS n T).2.2=T.take (takeS n T).1:=by
  unfold takeS at h ⊢
  cases hl:leastB T n with
  |none=>rw [hl] at h;cases h
  |some b=>
    obtain ⟨h1,h2,_⟩:=leastB_some.1 hl;exact ⟨h2,h1,rfl⟩
theorem free_used {T:WkT}{b:Nat}(h:freeB T b=true):usedB T b=false:=by
  unfold freeB at h;unfold usedB
  cases h1:T.lv b<;>cases h2:T.tk b<;>simp [h1,h2] at h ⊢
theorem dj_take {T:WkT}{b:Nat}(h:DjT T)(hf:freeB T b=true):DjT (T.take b):=λ c hc=>by
  have hc:updG T.tk b true c=true:=hc
  show T.lv c=false
  unfold updG at hc
  split at hc
  . rename_i e;subst e
    unfold freeB at hf
    cases h1:T.lv c<;>simp [h1] at hf ⊢
  exact h c hc
structure TakeOk (n:Nat) (l:List Prt) (T:WkT) (l2:List Prt) (T2:WkT):Prop where
  len:l2.map (·.cells)=l.map (·.cells)
  lv:T2.lv=T.lv
  gv:T2.gv=T.gv
  f:T2.f=T.f
  dj:DjT T2
  at_:∀p∈l2,0<=p.blk/\ usedB T2 p.blk.toNat=true
  us:∀b,usedB T2 b=(usedB T b||decide ((b:Int)∈l2.map (·.blk)))
  nd:(blksP l).Nodup->(l2.map (·.blk)).Nodup
  fr:∀p∈l2,p.fresh=false->p∈l
  or_:∀p∈l2,(p∈l/\ p.blk≠-1)∨usedB T p.blk.toNat=false
theorem takeP_ok {n:Nat}:∀{l:List Prt} {T:WkT} {l2:List Prt} {T2:WkT},DjT T->(∀p∈l,p.blk≠-1->0<=p.blk/\ usedB T p.blk.toNat=true)->takeP n l T=(l2,0,T2)->TakeOk n l T l2 T2
  |[],T,l2,T2,hd,_,h=>by
    unfold takeP at h
    simp only [Prod.mk.injEq] at h
    obtain ⟨rfl,_,rfl⟩:=h;exact ⟨rfl,rfl,rfl,rfl,hd,λ p hp=>(by cases hp),λ b=>by simp,λ _=>List.nodup_nil,λ p hp=>(by cases hp),λ p hp=>(by cases hp)⟩
  |p::l,T,l2,T2,hd,hu,h=>by
    unfold takeP at h
    by_cases hb:p.blk= -1
    . rw [if_pos hb] at h
      by_cases he:(takeS n T).2.1=0
      . rw [if_pos he] at h
        obtain ⟨hf,hn,ht⟩:=takeS_0 he;obtain ⟨b,hbe⟩:∃b,(takeS n T).1=b:=⟨_,rfl⟩;rw [ht,hbe] at h
        rw [hbe] at hf hn
        simp only [Prod.mk.injEq] at h
        obtain ⟨h1,h2⟩:=h;have hut:∀c,usedB (T.take b) c=if c=b then true else usedB T c:=λ c=>by rw [used_take]
        have ih:=takeP_ok (l:=l) (T:=T.take b) (l2:=(takeP n l (T.take b)).1) (T2:=T2) (dj_take hd hf) (λ q hq hq1=>by
          obtain ⟨g1,g2⟩:=hu q (List.mem_cons_of_mem _ hq) hq1
          exact ⟨g1,by rw [hut];split;rfl;exact g2⟩) (by rw [←h2])
        subst h1;refine ⟨?_,ih.lv,ih.gv,ih.f,ih.dj,λ q hq=> ?_,λ c=> ?_,λ hnd=> ?_,λ q hq hq1=> ?_,λ q hq=> ?_⟩
        . rw [List.map_cons,List.map_cons,ih.len]
        . rcases List.mem_cons.1 hq with rfl|hq
          . refine ⟨Int.natCast_nonneg _, ?_⟩
            show usedB T2 (((b:Nat):Int)).toNat=true
            rw [Int.toNat_natCast,ih.us,hut,if_pos rfl];rfl
          exact ih.at_ q hq
        . rw [ih.us,hut,List.map_cons]
          by_cases e:c=b
          . subst e;simp
          rw [if_neg e]
          congr 1
          rw [decide_eq_decide,List.mem_cons]
          constructor
          . exact .inr
          rintro (h9|h9)
          . exact absurd (Int.ofNat.inj h9) e
          exact h9
        . rw [List.map_cons,List.nodup_cons]
          have hbl:blksP (p::l)=blksP l:=(by unfold blksP;simp [hb]);refine ⟨λ h9=> ?_,ih.nd (hbl▸hnd)⟩;obtain ⟨q,hq,hqb⟩:=List.mem_map.1 h9;have hqb:q.blk=((b:Nat):Int):=hqb
          rcases ih.or_ q hq with ⟨g1,g2⟩|g1
          . have:=(hu q (List.mem_cons_of_mem _ g1) g2).2;rw [hqb,Int.toNat_natCast,free_used hf] at this;cases this
          rw [hqb,Int.toNat_natCast,hut,if_pos rfl] at g1;cases g1
        . rcases List.mem_cons.1 hq with rfl|hq
          . cases hq1
          exact List.mem_cons_of_mem _ (ih.fr q hq hq1)
        rcases List.mem_cons.1 hq with rfl|hq
        . refine .inr ?_
          show usedB T (((b:Nat):Int)).toNat=false
          rw [Int.toNat_natCast];exact free_used hf
        rcases ih.or_ q hq with ⟨g1,g2⟩|g1
        . exact .inl ⟨List.mem_cons_of_mem _ g1,g2⟩
        refine .inr ?_;rw [hut] at g1
        split at g1
        . cases g1
        exact g1
      rw [if_neg he] at h
      simp only [Prod.mk.injEq] at h
      exact absurd h.2.1 he
    rw [if_neg hb] at h
    simp only [Prod.mk.injEq] at h
    obtain ⟨h1,h2⟩:=h;have ih:=takeP_ok (l:=l) (T:=T) (l2:=(takeP n l T).1) (T2:=T2) hd (λ q hq hq1=>hu q (List.mem_cons_of_mem _ hq) hq1) (by rw [←h2]);subst h1;obtain ⟨g1,g2⟩:=hu p (List.mem_cons_self ..) hb;refine ⟨?_,ih.lv,ih.gv,ih.f,ih.dj,λ q hq=> ?_,λ c=> ?_,λ hnd=> ?_,λ q hq hq1=> ?_,λ q hq=> ?_⟩
    . rw [List.map_cons,List.map_cons,ih.len]
    . rcases List.mem_cons.1 hq with rfl|hq
      . exact ⟨g1,by rw [ih.us,g2];rfl⟩
      exact ih.at_ q hq
    . rw [ih.us,List.map_cons]
      by_cases e:(c:Int)=p.blk
      . have:c=p.blk.toNat:=(by omega);rw [this,g2];rfl
      congr 1
      rw [decide_eq_decide,List.mem_cons]
      constructor
      . exact .inr
      rintro (h9|h9)
      . exact absurd h9 e
      exact h9
    . have hbl:blksP (p::l)=p.blk::blksP l:=(by unfold blksP;simp [hb]);rw [hbl,List.nodup_cons] at hnd
      rw [List.map_cons,List.nodup_cons]
      refine ⟨λ h9=> ?_,ih.nd hnd.2⟩;obtain ⟨q,hq,hqb⟩:=List.mem_map.1 h9;have hqb:q.blk=p.blk:=hqb
      rcases ih.or_ q hq with ⟨k1,k2⟩|k1
      . refine hnd.1 ?_
        unfold blksP
        rw [List.mem_filter]
        exact ⟨List.mem_map.2 ⟨q,k1,hqb⟩,by simpa using hb⟩
      rw [hqb,g2] at k1;cases k1
    . rcases List.mem_cons.1 hq with rfl|hq
      . exact List.mem_cons_self ..
      exact List.mem_cons_of_mem _ (ih.fr q hq hq1)
    rcases List.mem_cons.1 hq with rfl|hq
    . exact .inl ⟨List.mem_cons_self ..,hb⟩
    rcases ih.or_ q hq with ⟨k1,k2⟩|k1
    . exact .inl ⟨List.mem_cons_of_mem _ k1,k2⟩
    exact .inr k1
theorem used_giveD {T:WkT}{b:Nat}(h:DjT T):usedB (T.give b)=λ c=>if c=b then false else usedB T c:=by
  funext c
  unfold usedB WkT.give
  by_cases ht:T.tk b=true
  . rw [if_pos ht]
    dsimp only
    unfold updG
    by_cases hc:c=b
    . subst hc;rw [if_pos rfl,if_pos rfl,h _ ht];rfl
    rw [if_neg hc,if_neg hc]
  rw [if_neg ht]
  dsimp only
  unfold updG
  by_cases hc:c=b
  . subst hc;rw [if_pos rfl,if_pos rfl];cases h1:T.tk c<;>simp [h1] at ht ⊢
  rw [if_neg hc,if_neg hc]
theorem lv_giveT {T:WkT}{b:Nat}:(T.give b).lv=T.lv:=by unfold WkT.give;split<;>rfl
theorem f_giveT {T:WkT}{b:Nat}:(T.give b).f=T.f:=by unfold WkT.give;split<;>rfl
theorem dj_give {T:WkT}{b:Nat}(h:DjT T):DjT (T.give b):=λ c hc=>by
  rw [lv_giveT]
  unfold WkT.give at hc
  split at hc
  . have hc:updG T.tk b false c=true:=hc
    unfold updG at hc
    split at hc
    . cases hc
    exact h c hc
  exact h c hc
structure GiveOk (us:List Int) (l:List Nat) (T T2:WkT):Prop where
  dj:DjT T2
  lv:T2.lv=T.lv
  f:T2.f=T.f
  us:∀c,usedB T2 c=(usedB T c&& !(decide (c∈l)&& !decide ((c:Int)∈us)))
theorem giveP_ok {us:List Int}:∀{l:List Nat} {T:WkT},DjT T->GiveOk us l T (giveP us l T)
  |[],T,h=>⟨h,rfl,rfl,λ c=>by simp [giveP]⟩
  |b::l,T,h=>by
    unfold giveP
    by_cases hb:(b:Int)∈us
    . rw [if_pos hb]
      have ih:=giveP_ok (us:=us) (l:=l) h;refine ⟨ih.dj,ih.lv,ih.f,λ c=> ?_⟩;rw [ih.us]
      by_cases e:c=b
      . subst e;simp [hb]
      simp [e]
    rw [if_neg hb]
    have ih:=giveP_ok (us:=us) (l:=l) (dj_give (b:=b) h);refine ⟨ih.dj,by rw [ih.lv,lv_giveT],by rw [ih.f,f_giveT],λ c=> ?_⟩;rw [ih.us,used_giveD h]
    by_cases e:c=b
    . subst e;simp [hb]
    simp [e]
theorem writeP_ok {ba cell:Nat}{s:DevS}{l:List Prt}(hnd:(l.map (·.blk)).Nodup)(hin:∀p∈l,0<=p.blk/\ ba+256*p.blk.toNat+256<=(imgS s).length)(hrow:∀k,k<l.length->(rowT cell l k).length=256):∀ (j:Nat) (T:WkT),j<=l.length→
    usedB (writeP ba cell s l j T)=usedB T/\ (writeP ba cell s l j T).lv=T.lv/\ (writeP ba cell s l j T).tk=T.tk/\ (writeP ba cell s l j T).gv=T.gv
  |0,T,_=>⟨rfl,rfl,rfl,rfl⟩
  |j+1,T,hj=>by
    have hk:l.length-(j+1)<l.length:=(by omega)
    unfold writeP
    rw [List.getElem?_eq_getElem hk]
    dsimp only
    split
    . obtain ⟨h1,h2,h3,h4⟩:=writeP_ok hnd hin hrow j T oqz;exact ⟨h1,h2,h3,h4⟩
    obtain ⟨h1,h2,h3,h4⟩:=writeP_ok hnd hin hrow j (T.write ba l[l.length-(j+1)].blk.toNat (rowT cell l (l.length-(j+1)))) oqz;exact ⟨h1,h2,h3,h4⟩
theorem writeP_other {ba cell:Nat}{s:DevS}{l:List Prt}(hin:∀p∈l,0<=p.blk/\ ba+256*p.blk.toNat+256<=(imgS s).length)(hrow:∀k,k<l.length->(rowT cell l k).length=256){b:Nat}:∀ (j:Nat) (T:WkT),j<=l.length->(∀k (h:k<l.length),l.length-j<=k->l[k].blk.toNat≠b)->conB (writeP ba cell s l j T) s ba b=conB T s ba b
  |0,T,_,_=>rfl
  |j+1,T,hj,hb=>by
    have hk:l.length-(j+1)<l.length:=(by omega)
    unfold writeP
    rw [List.getElem?_eq_getElem hk]
    dsimp only
    have hb2:∀k (h:k<l.length),l.length-j<=k->l[k].blk.toNat≠b:=λ k h h1=>hb k h oqz
    split
    . exact writeP_other hin hrow j T oqz hb2
    rw [writeP_other hin hrow j _ oqz hb2]
    rw [con_write (hrow _ hk) (hin _ (List.getElem_mem hk)).2,if_neg λ e=>hb _ hk (Nat.le_refl _) e.symm]
theorem writeP_row {ba cell:Nat}{s:DevS}{l:List Prt}(hnd:(l.map (·.blk)).Nodup)(hin:∀p∈l,0<=p.blk/\ ba+256*p.blk.toNat+256<=(imgS s).length)(hrow:∀k,k<l.length->(rowT cell l k).length=256):∀ (j:Nat) (T:WkT),j<=l.length->∀k (h:k<l.length),l.length-j<=k->conB (writeP ba cell s l j T) s ba l[k].blk.toNat=rowT cell l k
  |0,T,_,k,h,hk=>by omega
  |j+1,T,hj,k,h,hkj=>by
    have hk:l.length-(j+1)<l.length:=(by omega)
    unfold writeP
    rw [List.getElem?_eq_getElem hk]
    dsimp only
    by_cases e:k=l.length-(j+1)
    . subst e
      have hoth:∀k (h:k<l.length),l.length-j<=k->l[k].blk.toNat≠l[l.length-(j+1)].blk.toNat:=λ k h1 h2 h3=>by
        have g1:=(hin _ (List.getElem_mem h1)).1;have g2:=(hin _ (List.getElem_mem hk)).1;have g3:l[k].blk=l[l.length-(j+1)].blk:=(by omega);have:=List.pairwise_iff_getElem.1 hnd (l.length-(j+1)) k (by rw [List.length_map];exact hk) (by rw [List.length_map];exact h1) oqz;rw [List.getElem_map,List.getElem_map] at this
        exact this g3.symm
      split
      . rename_i h9
        rw [writeP_other hin hrow j T oqz hoth]
        exact h9.2
      rw [writeP_other hin hrow j _ oqz hoth,con_write (hrow _ hk) (hin _ (List.getElem_mem hk)).2,if_pos rfl]
    split
    . exact writeP_row hnd hin hrow j T oqz k h oqz
    exact writeP_row hnd hin hrow j _ oqz k h oqz
def refP:List Prt->Nat
  |[]=>0
  |p::_=>p.blk.toNat+1
theorem rowT_drop {cell k:Nat}{l:List Prt}(h:k<l.length):rowT cell l k=tblS (refP (l.drop (k+1))) cell l[k].cells:=by
  unfold rowT
  rw [List.getElem?_eq_getElem h]
  congr 1
  have:l[k+1]? =(l.drop (k+1))[0]? :=(by rw [List.getElem?_drop]);rw [this]
  cases l.drop (k+1)<;>rfl
theorem tbl_of {u:Nat->Bool}{c:Nat->List Nat}{cell:Nat}{l:List Prt}(hok:∀p∈l,OkP (fillT cell) p/\ (∀x∈p.cells,x.length=cell)/\ p.blk.toNat+1<4294967296/\ u p.blk.toNat=true)(hgap:GapP (fillT cell) l)(hrow:∀k (h:k<l.length),c l[k].blk.toNat=rowT cell l k):
    Tbl u c cell (refP l) (l.map λ p=>(p.blk.toNat,p.cells)):=by
  have key:∀m:List Prt,GapP (fillT cell) m->(∀p∈m,p∈l)->(∀k (h:k<m.length),c m[k].blk.toNat=tblS (refP (m.drop (k+1))) cell m[k].cells)->Tbl u c cell (refP m) (m.map λ p=>(p.blk.toNat,p.cells)):=by
    intro m
    induction m with
    |nil=>intro _ _ _;exact .nil
    |cons p m ih=>
      intro hg hm hr;obtain ⟨g1,g2,g3,g4⟩:=hok p (hm p (List.mem_cons_self ..))
      have hn:refP m<4294967296:=by
        cases m with
        |nil=>decide
        |cons q m=>exact (hok q (hm q (by simp))).2.2.1
      refine .cons (next:=refP m) g4 (hr 0 (by simp)) g1.1 g1.2 g2 hn (λ q hq=> ?_) (ih ?_ (λ q hq=>hm q (List.mem_cons_of_mem _ hq)) λ k h=> ?_)
      . cases m with
        |nil=>cases hq
        |cons q2 m=>
          simp only [List.map_cons,List.head?_cons,Option.some.injEq] at hq
          subst hq;exact hg.1
      . cases m with
        |nil=>trivial
        |cons q m=>exact hg.2
      exact hr (k+1) (by simp;omega)
  exact key l hgap (λ p hp=>hp) λ k h=>by rw [hrow k h,rowT_drop h]
def asP (l:List (Nat×List (List Nat))):List Prt:=l.map λ x=>⟨((x.1:Nat):Int),x.2,false⟩
theorem asP_blks (l:List (Nat×List (List Nat))):blksP (asP l)=l.map λ x=>((x.1:Nat):Int):=by
  unfold blksP asP
  rw [List.map_map,List.filter_eq_self.2 λ b hb=>by
    obtain ⟨x,_,rfl⟩:=List.mem_map.1 hb
    show decide (((x.1:Nat):Int)≠-1)=true
    exact decide_eq_true oqz]
  rfl
theorem tbl_facts {u:Nat->Bool}{c:Nat->List Nat}{cell ref:Nat}{l:List (Nat×List (List Nat))}(h:Tbl u c cell ref l):(∀p∈asP l,OkP (fillT cell) p/\ (∀x∈p.cells,x.length=cell)/\ u p.blk.toNat=true/\ 0<=p.blk/\ p.fresh=false)/\ GapP (fillT cell) (asP l)/\ (ref=0↔l=[]):=by
  induction h with
  |nil=>exact ⟨λ p hp=>(by cases hp),trivial,by simp⟩
  | @cons b next cs l hu hc h1 h2 hl hn hs h ih=>
    refine ⟨λ p hp=> ?_, ?_,by simp⟩
    . rcases List.mem_cons.1 hp with rfl|hp
      . exact ⟨⟨h1,h2⟩,hl,hu,Int.natCast_nonneg _,rfl⟩
      exact ih.1 p hp
    cases l with
    |nil=>trivial
    |cons q l=>exact ⟨hs q rfl,ih.2.1⟩
theorem tbl_nodup {u:Nat->Bool}{c:Nat->List Nat}{cell ref:Nat}{l:List (Nat×List (List Nat))}(h:Tbl u c cell ref l):(l.map (·.1)).Nodup:=by
  have uniq:∀{r:Nat} {k m:List (Nat×List (List Nat))},Tbl u c cell r k->Tbl u c cell r m->k.length=m.length:=by
    intro r k m hk
    induction hk generalizing m with
    |nil=>intro hm;cases hm;rfl
    | @cons b next cs k hu hc h1 h2 hl hn hs h ih=>
      intro hm
      cases hm with
      | @cons _ next2 cs2 m hu2 hc2 h12 h22 hl2 hn2 hs2 hm2=>
        have e:next=next2:=by
          have g1:nm ((c b).take 4)=next:=(by rw [hc];exact tblS_next hn);have g2:nm ((c b).take 4)=next2:=(by rw [hc2];exact tblS_next hn2)
          omega
        subst e;rw [List.length_cons,List.length_cons,ih hm2]
  have suf:∀{r:Nat} {k:List (Nat×List (List Nat))},Tbl u c cell r k->∀b∈k.map (·.1),∃m,Tbl u c cell (b+1) m/\ m.length<=k.length:=by
    intro r k hk
    induction hk with
    |nil=>intro b hb;cases hb
    | @cons b0 next cs k hu hc h1 h2 hl hn hs h ih=>
      intro b hb;rw [List.map_cons,List.mem_cons] at hb
      rcases hb with rfl|hb
      . exact ⟨_,.cons hu hc h1 h2 hl hn hs h,Nat.le_refl _⟩
      obtain ⟨m,g1,g2⟩:=ih b hb;exact ⟨m,g1,by rw [List.length_cons];omega⟩
  induction h with
  |nil=>exact List.nodup_nil
  | @cons b next cs l hu hc h1 h2 hl hn hs h ih=>
    rw [List.map_cons,List.nodup_cons]
    refine ⟨λ hb=> ?_,ih⟩;obtain ⟨m,g1,g2⟩:=suf h b hb;have:=uniq g1 (.cons hu hc h1 h2 hl hn hs h);rw [List.length_cons] at this
    omega
def RwOk (Z:SP)(cell:Nat)(vs:List Value)(cs:List (List Nat)):Prop:=vs.length=cs.length/\∀j (h:j<cs.length),∃a c,vs[j]? =some (.slice a cell c)/\ Rs Z a (bys cs[j])
theorem RwOk.left {Z Y:SP}{cell:Nat}{vs:List Value}{cs:List (List Nat)}(h:RwOk Z cell vs cs):RwOk (Z*Y) cell vs cs:=⟨h.1,λ j hj=>let ⟨a,c,h1,h2⟩:=h.2 j hj;⟨a,c,h1,h2.left⟩⟩
theorem rw_nil (Z:SP)(cell:Nat):RwOk Z cell [] []:=⟨rfl,λ j h=>absurd h (Nat.not_lt_zero j)⟩
theorem rw_app {Z:SP}{cell:Nat}{vs ws:List Value}{cs ds:List (List Nat)}(h:RwOk Z cell vs cs)(k:RwOk Z cell ws ds):RwOk Z cell (vs++ws) (cs++ds):=by
  refine ⟨by rw [List.length_append,List.length_append,h.1,k.1],λ j hj=> ?_⟩
  by_cases e:j<cs.length
  . obtain ⟨a,c,h1,h2⟩:=h.2 j e;exact ⟨a,c,by rw [List.getElem?_append_left (by rw [h.1];exact e)];exact h1,by rw [List.getElem_append_left e];exact h2⟩
  have hj2:j-cs.length<ds.length:=(by rw [List.length_append] at hj;omega);obtain ⟨a,c,h1,h2⟩:=k.2 (j-cs.length) hj2;exact ⟨a,c,by rw [List.getElem?_append_right (by rw [h.1];omega),h.1];exact h1,by rw [List.getElem_append_right oqz];exact h2⟩
theorem rw_one {Z:SP}{cell c:Nat}{a:Option Addr}{x:List Nat}(h:Rs Z a (bys x)):RwOk Z cell [.slice a cell c] [x]:=⟨rfl,λ j hj=>by
  obtain rfl:j=0:=by simp at hj;omega
  exact ⟨a,c,rfl,h⟩⟩
theorem rw_take {Z:SP}{cell n:Nat}{vs:List Value}{cs:List (List Nat)}(h:RwOk Z cell vs cs):RwOk Z cell (vs.take n) (cs.take n):=by
  refine ⟨by rw [List.length_take,List.length_take,h.1],λ j hj=> ?_⟩;rw [List.length_take] at hj
  obtain ⟨a,c,h1,h2⟩:=h.2 j oqz;exact ⟨a,c,by rw [List.getElem?_take,if_pos oqz];exact h1,by rw [List.getElem_take];exact h2⟩
theorem rw_drop {Z:SP}{cell n:Nat}{vs:List Value}{cs:List (List Nat)}(h:RwOk Z cell vs cs):RwOk Z cell (vs.drop n) (cs.drop n):=by
  refine ⟨by rw [List.length_drop,List.length_drop,h.1],λ j hj=> ?_⟩;rw [List.length_drop] at hj
  obtain ⟨a,c,h1,h2⟩:=h.2 (n+j) oqz;exact ⟨a,c,by rw [List.getElem?_drop];exact h1,by rw [List.getElem_drop];exact h2⟩
theorem rw_one_all {Z:SP}{cell:Nat}{vs:List Value}{cs:List (List Nat)}(h:RwOk Z cell vs cs):vs.all oneC=true:=List.all_eq_true.2 λ v hv=>by
  obtain ⟨j,hj,rfl⟩:=List.mem_iff_getElem.1 hv;obtain ⟨a,c,h1,_⟩:=h.2 j (by rw [←h.1];exact hj);rw [List.getElem?_eq_getElem hj] at h1
  rw [Option.some.inj h1];rfl
structure PtV where
  a:Option Addr
  c:Nat
  vs:List Value
def PtV.cells (x:PtV)(p:Prt):List Value:=[.int .i64 p.blk,.slice x.a p.cells.length x.c,.bool p.fresh]
structure PtOk (Z:SP) (cell:Nat) (x:PtV) (p:Prt):Prop where
  c:p.cells.length<=x.c
  r:Rs Z x.a x.vs
  w:RwOk Z cell x.vs p.cells
theorem PtOk.left {Z Y:SP}{cell:Nat}{x:PtV}{p:Prt}(h:PtOk Z cell x p):PtOk (Z*Y) cell x p:=⟨h.c,h.r.left,h.w.left⟩
def ptsV (xs:List PtV)(l:List Prt):List Value:=(List.zipWith PtV.cells xs l).flatten
structure PsOk (Z:SP) (cell:Nat) (xs:List PtV) (l:List Prt):Prop where
  len:xs.length=l.length
  ok:∀j (h:j<l.length) (h2:j<xs.length),PtOk Z cell xs[j] l[j]
theorem PsOk.left {Z Y:SP}{cell:Nat}{xs:List PtV}{l:List Prt}(h:PsOk Z cell xs l):PsOk (Z*Y) cell xs l:=⟨h.len,λ j h1 h2=>(h.ok j h1 h2).left⟩
theorem ptsV_len {xs:List PtV}{l:List Prt}(h:xs.length=l.length):(ptsV xs l).length=3*l.length:=by
  unfold ptsV
  induction xs generalizing l with
  |nil=>cases l with|nil=>rfl|cons p l=>simp at h
  |cons x xs ih=>cases l with
    |nil=>simp at h
    |cons p l=>
      rw [List.zipWith_cons_cons,List.flatten_cons,List.length_append,ih (by simpa using h)]
      show 3+_=_
      rw [List.length_cons];omega
theorem ptsV_snoc {xs:List PtV}{l:List Prt}{x:PtV}{p:Prt}(h:xs.length=l.length):ptsV (xs++[x]) (l++[p])=ptsV xs l++x.cells p:=by
  unfold ptsV
  rw [List.zipWith_append h,List.flatten_append]
  simp
theorem ps_snoc {Z:SP}{cell:Nat}{xs:List PtV}{l:List Prt}{x:PtV}{p:Prt}(h:PsOk Z cell xs l)(hp:PtOk Z cell x p):PsOk Z cell (xs++[x]) (l++[p]):=by
  refine ⟨by rw [List.length_append,List.length_append,h.len];rfl,λ j h1 h2=> ?_⟩
  by_cases e:j<l.length
  . rw [List.getElem_append_left (by rw [h.len];exact e),List.getElem_append_left e];exact h.ok j e _
  have e2:j=l.length:=(by simp at h1;omega);subst e2;rw [List.getElem_append_right (by rw [h.len];exact Nat.le_refl _),List.getElem_append_right (Nat.le_refl _)]
  simp [h.len];exact hp
theorem PtV.cells_len (x:PtV)(p:Prt):(x.cells p).length=3:=rfl
theorem ptsV_cons {x:PtV}{xs:List PtV}{p:Prt}{l:List Prt}:ptsV (x::xs) (p::l)=x.cells p++ptsV xs l:=by
  unfold ptsV;rw [List.zipWith_cons_cons,List.flatten_cons]
theorem ptsV_at:∀{xs:List PtV} {l:List Prt} {i:Nat} (h:i<l.length) (h2:i<xs.length),((ptsV xs l).drop (i*3)).take 3=xs[i].cells l[i]
  |x::xs,p::l,0,h,h2=>by
    rw [ptsV_cons,Nat.zero_mul,List.drop_zero]
    exact List.take_left' rfl
  |x::xs,p::l,i+1,h,h2=>by
    rw [ptsV_cons,Nat.succ_mul,Nat.add_comm,List.drop_append,List.drop_of_length_le (by rw [PtV.cells_len];omega),PtV.cells_len,Nat.add_sub_cancel_left,List.nil_append]
    exact ptsV_at (xs:=xs) (l:=l) (i:=i) (by simpa using h) (by simpa using h2)
  |[],_,_,h,h2=>by simp at h2
  |_::_,[],_,h,_=>by simp at h
theorem ptsV_get {xs:List PtV}{l:List Prt}{i j:Nat}(h:i<l.length)(h2:i<xs.length)(hj:j<3):(ptsV xs l)[i*3+j]? =(xs[i].cells l[i])[j]? :=by
  rw [←ptsV_at h h2,List.getElem?_take,if_pos hj,List.getElem?_drop]
theorem ptsV_set:∀{xs:List PtV} {l:List Prt} {i j:Nat} {v:Value} {x:PtV} {p:Prt} (h:i<l.length) (h2:i<xs.length),j<3->(xs[i].cells l[i]).set j v=x.cells p->(ptsV xs l).set (i*3+j) v=ptsV (xs.set i x) (l.set i p)
  |y::xs,q::l,0,j,v,x,p,h,h2,hj,he=>by
    rw [Nat.zero_mul,Nat.zero_add,ptsV_cons,List.set_append_left _ _ (by rw [PtV.cells_len];exact hj)]
    rw [List.set_cons_zero,List.set_cons_zero,ptsV_cons]
    congr 1
  |y::xs,q::l,i+1,j,v,x,p,h,h2,hj,he=>by
    rw [ptsV_cons,List.set_append_right _ _ (by rw [PtV.cells_len];omega),PtV.cells_len,show (i+1)*3+j-3=i*3+j by omega]
    rw [List.set_cons_succ,List.set_cons_succ,ptsV_cons]
    congr 1
    exact ptsV_set (xs:=xs) (l:=l) (by simpa using h) (by simpa using h2) hj he
  |[],_,_,_,_,_,_,h,h2,_,_=>by simp at h2
  |_::_,[],_,_,_,_,_,h,_,_,_=>by simp at h
theorem ps_set {Z:SP}{cell i:Nat}{xs:List PtV}{l:List Prt}{x:PtV}{p:Prt}(h:PsOk Z cell xs l)(hp:PtOk Z cell x p):PsOk Z cell (xs.set i x) (l.set i p):=by
  refine ⟨by rw [List.length_set,List.length_set,h.len],λ j h1 h2=> ?_⟩;rw [List.length_set] at h1 h2
  by_cases e:i=j
  . subst e;rw [List.getElem_set_self,List.getElem_set_self];exact hp
  rw [List.getElem_set_ne e,List.getElem_set_ne e];exact h.ok j h1 h2
theorem ps_app {Z:SP}{cell:Nat}{xs ys:List PtV}{l m:List Prt}(h:PsOk Z cell xs l)(k:PsOk Z cell ys m):PsOk Z cell (xs++ys) (l++m):=by
  refine ⟨by rw [List.length_append,List.length_append,h.len,k.len],λ j h1 h2=> ?_⟩
  by_cases e:j<l.length
  . rw [List.getElem_append_left (by rw [h.len];exact e),List.getElem_append_left e];exact h.ok j e _
  rw [List.getElem_append_right (by rw [h.len];omega),List.getElem_append_right oqz]
  simp only [h.len]
  exact k.ok _ _ _
theorem ptsV_app {xs ys:List PtV}{l m:List Prt}(h:xs.length=l.length):ptsV (xs++ys) (l++m)=ptsV xs l++ptsV ys m:=by
  unfold ptsV
  rw [List.zipWith_append h,List.flatten_append]
theorem ps_nil (Z:SP)(cell:Nat):PsOk Z cell [] []:=⟨rfl,λ j h=>absurd h (Nat.not_lt_zero j)⟩
theorem flat_take {l:List Prt}{i:Nat}(h:i<l.length):(flatP (l.take (i+1))).length=(flatP (l.take i)).length+l[i].cells.length:=by
  rw [List.take_succ_eq_append_getElem h,flatP_app,List.length_append]
  simp [flatP]
theorem flat_take_le (l:List Prt)(i:Nat):(flatP (l.take i)).length<=(flatP l).length:=by
  conv=>rhs;rw [←List.take_append_drop i l,flatP_app,List.length_append]
  omega
theorem find_skip:∀{j:Nat} {l:List Prt} {i:Nat},j<=l.length->(flatP (l.take j)).length<=i->findT l i=(findT (l.drop j) (i-(flatP (l.take j)).length)).map λ x=>(x.1+j,x.2)
  |0,l,i,_,_=>by simp [flatP]
  |j+1,[],i,h,_=>by simp at h
  |j+1,p::l,i,h,hl=>by
    rw [List.take_succ_cons,flatP_cons,List.length_append] at hl ⊢
    rw [List.drop_succ_cons]
    conv=>lhs;unfold findT
    rw [if_neg oqz,find_skip (j:=j) (l:=l) (i:=i-p.cells.length) (by simpa using h) oqz,Option.map_map,show i-p.cells.length-(flatP (l.take j)).length=i-(p.cells.length+(flatP (l.take j)).length) by omega]
    rfl
theorem find_hit {j:Nat}{l:List Prt}{i:Nat}(h:j<l.length)(hl:(flatP (l.take j)).length<=i)(hi:i-(flatP (l.take j)).length<l[j].cells.length):findT l i=some (j,i-(flatP (l.take j)).length):=by
  rw [find_skip (Nat.le_of_lt h) hl,List.drop_eq_getElem_cons h]
  unfold findT
  rw [if_pos hi]
  simp
theorem find_end {l:List Prt}{i:Nat}(h:(flatP l).length<=i):findT l i=none:=by
  rw [find_skip (j:=l.length) (Nat.le_refl _) (by rw [List.take_length];exact h),List.drop_length];rfl
def findR (l:List Prt)(i:Nat):Nat×Nat×Bool:=match findT l i with
  |some (k,n)=>(k,n,true)
  |none=>(0,0,false)
attribute [local irreducible] crk crL crc Sl pt ro Dev imgS recS readS recsF rdW rdO rkT Parts rvl recordsS runsL adrF kcl xcl kys runA runsF layF ovF TxA adZ WkA comS conB rootV ptsV
theorem Fill15_c {A:SP}{cell:Int}(hc: -9223372036854775808<=cell/\ cell<=9223372036854775807):
    Fn Tryz.prog 34 #[.int .i64 cell] A (λ r B=>r= .int .i64 (if 1<=cell/\ cell<=62 then ((fillT cell.toNat:Nat):Int) else 0)/\ A=B):=by
  refine fn_enterW func34 rfl ntmps34 (by simp) ?_;refine Zcb ?_;refine Zcn ?_;refine tl_bool (d:=5) rfl (sbq ?_) (sbq ?_)
  . intro h;refine Zp ?_;refine tv (o_pick_t rfl wqz) ?_;refine nq ?_;refine tc_cond_t rfl ?_;refine Zdy ?_;exact ⟨.int .i64 0,A,res1 rfl rfl,λ _ _ h=>h,by rw [if_neg oqz],rfl⟩
  intro h;refine tlm ?_;refine Z7 ?_;refine nq ?_;refine tc_cond rfl (sbq ?_) (λ h=> ?_)
  . intro h;refine Zdy ?_;exact ⟨.int .i64 0,A,res1 rfl rfl,λ _ _ h=>h,by rw [if_neg oqz],rfl⟩
  have g8:1<=cell/\ cell<=62:=(by first|(simp at h;omega)|omega);obtain ⟨k,rfl⟩:=Int.eq_ofNat_of_zero_le (show 0<=cell by omega);refine Zb2 ?_;refine tv (by first|exact o_quoI rfl rfl oqz|exact o_quo rfl rfl oqz) ?_;refine Zl ?_;exact ⟨.int .i64 ((248:Int)/((k:Nat):Int)),A,res1 rfl rfl,λ _ _ h=>h,by rw [if_pos g8];unfold fillT;rw [Int.toNat_natCast];rfl,rfl⟩
theorem Zdc {p r:Prop}(k:r)(h:Kq r->p:=by intro k;refine tv (o_len underlying198 rfl) ?_;refine Zb6 ?_;exact k.o):p:=h ⟨k⟩
theorem Zby {p r:Prop}(k:r)(h:Kq r->p:=by intro k;refine tv (o_fieldAddr (o:=1) underlying203 rfl rfl sz35 rfl) ?_;refine tv (o_load p35 rfl hsqz rfl) ?_;exact k.o):p:=h ⟨k⟩
theorem count15_c {A:SP}{a:Option Addr}{c:Nat}{xs:List PtV}{l:List Prt}(hl:xs.length=l.length)(hr:Rs A a (ptsV xs l))(hb:l.length<=4194304)(hf:(flatP l).length<=4194304){m:Nat}(hm:l.length=m):
    Fn Tryz.prog 122 #[.slice a m c] A (λ r B=>r= .int .i64 (((flatP l).length:Nat):Int)/\ A=B):=by
  refine fn_enterW func122 rfl ntmps122 (by simp) ?_;subst hm;refine Zbw ?_;refine Zcb ?_;refine Zdc ?_;refine tc_loop (λ kk ρ BB=>∃ (i:Nat),(i<=l.length)/\ kk=l.length-i/\ ρ 3= .int .i64 (((flatP (l.take i)).length:Nat):Int)/\ ρ 8=(vn i)/\ ρ 6= .slice a l.length c/\ ρ 7=(vn l.length)/\ Dr BB (A)) (m:=l.length-(0)) ?_ ?_
  . exact ⟨0,by omega,rfl,rfl,rfl,rfl,rfl,drqz⟩
  intro k ρ B hI;obtain ⟨i,hp0,hkk1,hE3,hE8,hE6,hE7,hBA⟩:=hI;refine tc_pre hBA.sat ?_;clear hBA;refine te 3 hE3 ?_;refine te 8 hE8 ?_;refine te 6 hE6 ?_;refine te 7 hE7 ?_;refine Zb9 ?_;refine tc_cond rfl (λ h=> ?_) (λ h=> ?_)
  . have hi:i<l.length:=(by first|omega|(simp at h;omega));have hi2:i<xs.length:=(by omega);have hft:=flat_take hi;have hfl:=flat_take_le l (i+1);refine Zdt ?_;refine tv (o_ixP underlying198 sz203 rfl rfl oqz (nn_rs (xs:=ptsV xs l) (by repeat (first|exact hr|apply Rs.left)) (λ _=>by rw [ptsV_len hl];omega))) ?_;refine tv (o_ldPN (vs:=xs[i].cells l[i]) a203 sz203 rfl (by repeat (first|exact hr|apply Rs.left)) (ptsV_at hi hi2) rfl (by decide)) ?_;refine tl_x rfl (o_alloc (l:=[.int .i64 0,.slice none 0 0,.bool false]) z203 rfl) ?_;rintro _ _ ⟨b5,rfl,rfl⟩;refine tl_u rfl (o_stUN (l':=xs[i].cells l[i]) rfl upqz sz203 rfl rfl rfl (by exact Nat.le_refl 3) rfl) ?_;refine nq ?_;refine Zbr ?_;refine Zby ?_;refine tv (o_len underlying35 rfl) ?_;refine tv adqz ?_;refine tl_env (d:=16) (v:= .int .i64 (((flatP (l.take (i+1))).length:Nat):Int)) (by rw [hft];first|rfl|exact congrArg (Value.int .i64) oqz) ?_;refine Zeo ?_;exact ⟨_,by omega,i+1,by omega,rfl,by rw [flat_take hi];rfl,rfl,rfl,rfl,drqz⟩
  obtain rfl:i=l.length:=by first|omega|(simp at h;omega)
  rw [List.take_length] at*
  refine Zh6 ?_;exact ⟨.int .i64 (((flatP l).length:Nat):Int),A,res1 rfl (by first|rfl|(rw [List.take_length];rfl)),Dr.sat drqz,rfl,rfl⟩
theorem find15_c {A:SP}{a:Option Addr}{c i0:Nat}{xs:List PtV}{l:List Prt}(hl:xs.length=l.length)(hr:Rs A a (ptsV xs l))(hb:l.length<=4194304)(hi0:i0<=4194304){m:Nat}(hm:l.length=m):
    Fn Tryz.prog 123 #[.slice a m c,vn i0] A (λ r B=>∃k n b,findR l i0=(k,n,b)/\ r= .tuple #[vn k,vn n,.bool b]/\ A=B):=by
  refine fn_enterW func123 rfl ntmps123 (by simp) ?_;subst hm;refine Zcc ?_;refine tla ?_;refine Zy ?_;refine tv (o_lss rfl rfl) ?_;refine Zq ?_;intro h;refine Zcr ?_;refine Zdc ?_;refine tc_loop (λ kk ρ BB=>∃ (i:Nat),(i<=l.length)/\ ((flatP (l.take i)).length<=i0)/\ kk=l.length-i/\ ρ 1= .int .i64 ((i0-(flatP (l.take i)).length:Nat):Int)/\ ρ 13=(vn i)/\ ρ 11= .slice a l.length c/\ ρ 12=(vn l.length)/\ Dr BB (A)) (m:=l.length-(0)) ?_ ?_
  . exact ⟨0,Nat.zero_le _,Nat.zero_le _,rfl,rfl,rfl,rfl,rfl,drqz⟩
  intro k ρ B hI;obtain ⟨i,hp0,hp1,hkk1,hE1,hE13,hE11,hE12,hBA⟩:=hI;refine tc_pre hBA.sat ?_;clear hBA;refine te 1 hE1 ?_;refine te 13 hE13 ?_;refine te 11 hE11 ?_;refine te 12 hE12 ?_;refine Zb9 ?_;refine tc_cond rfl (λ h=> ?_) (λ h=> ?_)
  . have hi:i<l.length:=(by first|omega|(simp at h;omega));have hi2:i<xs.length:=(by omega);have hft:=flat_take hi;refine Zen ?_;refine tv (o_ixP underlying198 sz203 rfl rfl oqz (nn_rs (xs:=ptsV xs l) (by repeat (first|exact hr|apply Rs.left)) (λ _=>by rw [ptsV_len hl];omega))) ?_;refine tv (o_ldPN (vs:=xs[i].cells l[i]) a203 sz203 rfl (by repeat (first|exact hr|apply Rs.left)) (ptsV_at hi hi2) rfl (by decide)) ?_;refine tl_x rfl (o_alloc (l:=[.int .i64 0,.slice none 0 0,.bool false]) z203 rfl) ?_;rintro _ _ ⟨b8,rfl,rfl⟩;refine tla ?_;refine tl_u rfl (o_stUN (l':=xs[i].cells l[i]) rfl upqz sz203 rfl rfl rfl (by exact Nat.le_refl 3) rfl) ?_;refine nq ?_;refine Zm ?_;refine Zby ?_;refine tv (o_len underlying35 rfl) ?_;refine Zx ?_;refine tc_cond rfl (λ h=> ?_) (λ h=> ?_)
    . have g22:i0-(flatP (l.take i)).length<l[i].cells.length:=(by first|(have h9:=of_decide_eq_true h;omega)|(simp at h;omega));refine Zh4 ?_;refine tla ?_;refine Zc6 ?_;exact ⟨.tuple #[vn i,.int .i64 ((i0-(flatP (l.take i)).length:Nat):Int),.bool true],A,res3 rfl rfl rfl rfl,Dr.sat drqz,i,_,true,by unfold findR;rw [find_hit hi hp1 g22],rfl,rfl⟩
    have g22:¬i0-(flatP (l.take i)).length<l[i].cells.length:=(by first|(have h9:=of_decide_eq_false h;omega)|(simp at h;omega));refine Ze ?_;refine Zbr ?_;refine Zby ?_;refine tv (o_len underlying35 rfl) ?_;refine tv (by first|exact o_subI rfl rfl oqz|exact o_sub rfl rfl) ?_;refine Zeo ?_;exact ⟨_,by omega,i+1,by omega,by rw [hft];omega,rfl,by first|rfl|exact congrArg (Value.int .i64) (by rw [hft];omega),rfl,rfl,rfl,drqz⟩
  obtain rfl:i=l.length:=by first|omega|(simp at h;omega)
  rw [List.take_length] at hp1
  refine Zk ?_;refine Zcc ?_;refine Z6 ?_;exact ⟨.tuple #[.int .i64 0,.int .i64 0,.bool false],A,res3 rfl rfl rfl rfl,Dr.sat drqz,0,0,false,by unfold findR;rw [find_end hp1],rfl,rfl⟩
theorem Equal_c {A:SP}{a b:Option Addr}{m k c d:Nat}{xs ys:List Nat}(h1:Rs A a (bys xs))(h2:Rs A b (bys ys))(hx:xs.length=m)(hy:ys.length=k)(hn:m<=4194304)(hm:k<=4194304)(hc1:0<m)(hc2:0<k)(bx:∀x∈xs,x<256)(by_:∀x∈ys,x<256):
    Fn Tryz.prog 159 #[.slice a m c,.slice b k d] A (λ r B=>r= .bool (decide (xs=ys))/\ A=B):=by
  refine fn_enterW func159 rfl ntmps159 (by simp) ?_;refine Zdg ?_;refine tv (o_b2s (xs:=xs) underlying67 underlying5 underlying9 rfl (by repeat (first|exact h1|apply Rs.left)) hx oqz) ?_;refine tlm ?_;refine tv (o_b2s (xs:=ys) underlying67 underlying5 underlying9 rfl (by repeat (first|exact h2|apply Rs.left)) hy oqz) ?_;refine tv (o_eqstr rfl rfl) ?_;refine tl_env (d:=9) (v:= .bool (decide (xs=ys))) (by show Value.bool ((sob xs).toList==(sob ys).toList)=_;rw [show ((sob xs).toList==(sob ys).toList)=decide (xs=ys) from by rw [Bool.eq_iff_iff];simp [sob_inj bx by_]]) ?_;refine Zl ?_;exact ⟨.bool (decide (xs=ys)),A,res1 rfl rfl,Dr.sat drqz,rfl,rfl⟩
end Go.Vl

namespace Go.Vl
open Go Go.Proofs Go.Proofs.Tryz
theorem o_slice3n {P:Program}{n:Nat}{ρ:Env}{A:SP}{dst:Option Tmp}{ty:TypeId}{pos:String}{after:Array Edge}{gd:Option (Nat×Bool)}{t e:TypeId}{x z u:Operand}{a:Option Addr}{len cap h m k:Nat}{k2 k3:IntKind}(hu:P.underlying t=some (.slice e))(hk:szE P e=some k)(hx:ev n ρ x= .slice a len cap)
    (hh:ev n ρ z= .int k2 (h:Nat)) (hm:ev n ρ u= .int k3 (m:Nat)) (h2:h<=m) (h3:m<=cap):
    OpV P n ρ A ⟨dst,.slice t x none (some z) (some u),ty,pos,after,gd⟩ (.slice a h m):=opv_of λ w=>by
  have e0:Value.slice (cutAddr a m 0 k) (h-0) (m-0)= .slice a h m:=by
    unfold cutAddr;cases a<;>simp [Addr.add]
  rw [←e0]
  simp only [execOp,hx,Option.map_some,Option.map_none,hh,hm]
  rw [run_bind (w':=w) (a:= .slice (cutAddr a m 0 k) (h-0) (m-0))]
  . rfl
  unfold Instr.sliceAt
  rw [run_bind (run_und hu)]
  try simp only []
  unfold Instr.slice
  rw [run_bind (run_und hu)]
  try simp only []
  have:(Instr.sliceBounds true len cap none (some (Value.int k2 (h:Nat))) (some (Value.int k3 (m:Nat)))).run P w= .ok (0,h,m) w:=by
    unfold Instr.sliceBounds
    simp only [Option.isSome_some,if_true]
    rw [run_bind (run_bound h3)]
    try simp only []
    rw [run_bind (run_bound h2)]
    rfl
  rw [run_bind this]
  try simp only []
  rw [run_bind (run_size hk)]
  rfl
theorem o_apQ {P:Program}{n:Nat}{ρ:Env}{A:SP}{dst:Option Tmp}{ty:TypeId}{pos:String}{after:Array Edge}{gd:Option (Nat×Bool)}{t t' e e':TypeId}{x y:Operand}{z:Value}{m k q bytes c:Nat}{a a2:Option Addr}{xs ys zs:List Value}
    (hu:P.underlying t=some (.slice e)) (hu':P.underlying t'=some (.slice e')) (hk:szE P e=some k) (hb:bytesE P e=some bytes) (hz:zeroE P e=some z) (hzk:z.cells.size=k) (hk0:0<k) (hb0:0<bytes)
    (hx:ev n ρ x= .slice a q q) (hy:ev n ρ y= .slice a2 m c) (hq:Rs A a xs) (hl:xs.length=q*k) (hr:Rs A a2 ys) (hm:ys.length=m*k) (hm0:0<m) (ho:ys.all oneC=true) (hlim:(q+m)*bytes<=140737488355328) (he:xs++ys=zs):
    OpX P n ρ A ⟨dst,.call { callee:= .builtin .append,args:= #[x,y],argTypes:= #[t,t'] },ty,pos,after,gd⟩ (λ v' B=>∃a' c',v'= .slice a' (q+m) c'/\ q+m<=c'/\ B=A*Sl k (.slice a' (q+m) c') (q+m) zs):=λ g w hs=>by
  subst he
  have key:∀ (r:Value) (w':World),(Builtin.append_ #[t,t'] ty #[.slice a q q,.slice a2 m c]).run P w= .ok r w'→
      (execOp (ev n ρ) ⟨dst,.call { callee:= .builtin .append,args:= #[x,y],argTypes:= #[t,t'] },ty,pos,after,gd⟩).run P w= .ok (.value r) w':=λ r w' h=>by
    simp only [execOp,resolve,List.map_toArray,List.map_cons,List.map_nil,hx,hy]
    rw [run_bind (w':=w) (a:=⟨.builtin .append #[t,t'] ty _,#[.slice a q q,.slice a2 m c]⟩) (by rfl)]
    simp only [invoke,builtin]
    rw [run_bind h];rfl
  obtain ⟨i,hi,hi1,hi2,hi3⟩:=info_of hk hb hz;have hroom:¬q+m<=q:=(by omega);have hbig:q<q+m:=(by omega);have hfit:=growslice_fits hbig hlim;have p48:(2:Nat)^48=281474976710656:=(by decide)
  let cut:=(Question.appendCap (q+m) q e).cut (w.tape w.drawn (.appendCap (q+m) q e))
  have hcut:q+m<=cut:=(by show q+m<=(q+m)+_;omega)
  let wd:World:={ w with drawn:=w.drawn+1 }
  have hsd:sat g wd A:=hs.draw rfl rfl rfl rfl;have hold':(Builtin.firstCells k q (.slice a q q)).run P wd= .ok xs.toArray wd:=run_firstCells (hq.rd hsd) hl hsd;have hn:(Builtin.firstCells k m (.slice a2 m c)).run P wd= .ok ys.toArray wd:=run_firstCells (hr.rd hsd) hm hsd
  let rest:=Builtin.zeroCells z.cells (cut-(q+m))
  have hrest:rest.size=(cut-(q+m))*k:=(by show (Builtin.zeroCells z.cells (cut-(q+m))).size=_;rw [size_zeroCells,hzk])
  let cs:=xs++ys++rest.toList
  have hcs:xs.toArray++ys.toArray++rest=cs.toArray:=(by apply Array.ext';simp [cs])
  have hsl:sat g (wd.alloc (cl cs e)) (A*Sl k (.slice (some ⟨w.heap.size,0,none⟩) (q+m) cut) (q+m) (xs++ys)):=by
    have:=hsd.alloc (cl cs e);refine sl_new this hcut ?_ ?_
    . simp only [cs,List.length_append,Array.length_toList,hrest,hl,hm,←Nat.add_mul]
      rw [Nat.add_sub_cancel' hcut];exact Nat.le_refl _
    have:(q+m)*k=(xs++ys).length:=(by rw [List.length_append,hl,hm,Nat.add_mul]);rw [this]
    show List.take _ ((xs++ys)++_)=_
    rw [List.take_left]
  refine ⟨.slice (some ⟨w.heap.size,0,none⟩) (q+m) cut,wd.alloc (cl cs e),_,key _ _ ?_,hsl,_,_,rfl,hcut,rfl⟩
  have h63:¬(9223372036854775807<((q:Int)+(m:Int))):=by
    have:(q+m)*1<=(q+m)*bytes:=Nat.mul_le_mul_left _ hb0
    omega
  have hfit':¬(281474976710656<Builtin.nextslicecap (q+m) q*i.bytes):=(by rw [hi2];omega);have hwd:w.drew=wd:=rfl;have hcut':(Question.appendCap (q+m) q e).cut (w.tape w.drawn (.appendCap (q+m) q e))=cut:=rfl;have hrow:wd.alloc (.cells (xs.toArray++ys.toArray++Builtin.zeroCells z.cells (cut-(q+m))) e)=wd.alloc (cl cs e):=congrArg (λ c=>wd.alloc (.cells c e)) hcs;have hsz:wd.heap.size=w.heap.size:=rfl;rw [←hrow]
  simp [Builtin.append_,run_underlying hu,run_underlying hu',sizeOf,typeInfo,zeroValue,hi,hi1,hi3,Builtin.lenOf,hroom,h63,hfit',Question.forced,hwd,hold',hn,hcut',newRow,hsz]
  congr 2;apply Array.ext';simp
theorem o_apQ0 {P:Program}{n:Nat}{ρ:Env}{A:SP}{dst:Option Tmp}{ty:TypeId}{pos:String}{after:Array Edge}{gd:Option (Nat×Bool)}{t t' e e':TypeId}{x y:Operand}{z:Value}{m k q bytes c:Nat}{a a2:Option Addr}{xs ys zs:List Value}{Y:SP}(hY:Dr A Y)
    (hu:P.underlying t=some (.slice e)) (hu':P.underlying t'=some (.slice e')) (hk:szE P e=some k) (hb:bytesE P e=some bytes) (hz:zeroE P e=some z) (hzk:z.cells.size=k) (hk0:0<k) (hb0:0<bytes)
    (hx:ev n ρ x= .slice a q q) (hy:ev n ρ y= .slice a2 m c) (hq:Rs Y a xs) (hl:xs.length=q*k) (hr:Rs A a2 ys) (hm:ys.length=m*k) (ho:ys.all oneC=true) (hlim:(q+m)*bytes<=140737488355328) (he:xs++ys=zs):
    OpX P n ρ A ⟨dst,.call { callee:= .builtin .append,args:= #[x,y],argTypes:= #[t,t'] },ty,pos,after,gd⟩ (λ v' B=>∃a' c' Z,v'= .slice a' (q+m) c'/\ (q+m<=c'/\ Rs (Y*Z) a' zs)/\ B=A*Z):=λ g w hs=>by
  by_cases hm0:0<m
  . obtain ⟨v',w',B,h1,h2,a',c',h3,h4,h5⟩:=o_apQ (dst:=dst) (ty:=ty) (pos:=pos) (after:=after) (gd:=gd) hu hu' hk hb hz hzk hk0 hb0 hx hy (hq.dr hY) hl hr hm hm0 ho hlim he g w hs;exact ⟨v',w',B,h1,h2,a',c',_,h3,⟨h4,rs_sl⟩,h5⟩
  obtain rfl:m=0:=by omega
  obtain rfl:ys=[]:=List.eq_nil_of_length_eq_zero oqz;obtain rfl:xs=zs:=by rw [←he,List.append_nil]
  obtain ⟨i,hi,hi1,hi2,hi3⟩:=info_of hk hb hz;have hn:(Builtin.firstCells k 0 (.slice a2 0 c)).run P w= .ok ([]:List Value).toArray w:=run_firstCells (hr.rd hs) hm hs
  have hr1:(Builtin.append_ #[t,t'] ty #[.slice a q q,.slice a2 0 c]).run P w= .ok (.slice a q q) w:=by
    cases a with
    |none=>simp [Builtin.append_,run_underlying hu,run_underlying hu',sizeOf,typeInfo,hi,hi1,Builtin.lenOf,hn]
    |some a=>simp [Builtin.append_,run_underlying hu,run_underlying hu',sizeOf,typeInfo,hi,hi1,Builtin.lenOf,hn,storeCells]
  refine ⟨.slice a q q,w,A*Sl k (.slice none 0 0) 0 [], ?_,sl_nil hs,a,q,_,rfl,⟨Nat.le_refl _,hq.left⟩,rfl⟩
  simp only [execOp,resolve,List.map_toArray,List.map_cons,List.map_nil,hx,hy]
  rw [run_bind (w':=w) (a:=⟨.builtin .append #[t,t'] ty _,#[.slice a q q,.slice a2 0 c]⟩) (by rfl)]
  simp only [invoke,builtin]
  rw [run_bind hr1];rfl
theorem rs_some {A:SP}{a:Option Addr}{xs:List Value}(h:Rs A a xs)(hx:0<xs.length){g:Gh}{w:World}(hs:sat g w A):∃b o,a=some ⟨b,o,none⟩:=by
  obtain ⟨b,o,h1,_⟩:=h g w hs 0 xs[0] (List.getElem?_eq_getElem hx);exact ⟨b,o,h1⟩
attribute [local irreducible] crk crL crc Sl pt ro Dev imgS recS readS recsF rdW rdO rkT Parts rvl recordsS runsL adrF kcl xcl kys runA runsF layF ovF TxA adZ WkA comS conB rootV ptsV
theorem Clone_c {A:SP}{a:Option Addr}{m c:Nat}{xs:List Nat}(hr:Rs A a (bys xs))(hx:xs.length=m)(hn:m<=4194304)(h0:0<m):
    Fn Tryz.prog 121 #[.slice a m c] A (λ r B=>∃a2 c2,r= .slice a2 m c2/\ m<=c2/\ B=A*Sl 1 (.slice a2 m c2) m (bys xs)):=by
  refine fn_enterW func121 rfl ntmps121 (by simp) ?_;refine tc_have (λ _ _ h=>rs_some hr (by rw [bys_length];omega) h) λ hab=> ?_
  obtain ⟨ba,oa,rfl⟩:=hab;refine Zip ?_;refine Zq ?_;intro h;refine Ze ?_;refine sr ?_;refine tl_x rfl (o_buildSlice0 underlying67 sz5 rfl) ?_;rintro _ _ ⟨b5,rfl,rfl⟩;refine tlm ?_;refine tl_x rfl (o_apQ (q:=0) (xs:=[]) (ys:=bys xs) underlying67 underlying67 sz5 by5 z5 rfl (by decide) (by decide) rfl rfl rs_nil rfl (by repeat (first|exact hr|apply Rs.left)) (by rw [bys_length];omega) h0 (bys_all _) oqz (List.nil_append _)) ?_;rintro _ _ ⟨a7,c7,rfl,hc7,rfl⟩;refine Zl ?_;exact ⟨.slice a7 (0+m) c7,A*Sl 1 (.slice a7 (0+m) c7) (0+m) (bys xs),res1 rfl rfl,Dr.sat drqz,a7,c7,by rw [Nat.zero_add],by omega,by rw [Nat.zero_add]⟩
theorem BlocksW {A R:SP}{C:SP->SP}{X:WkX}{Y:WkY}{s:DevS}(hc:Ct A (WkA X Y s) R C:=by exact cbqz):
    Fn Tryz.prog 200 #[.pointer (some ⟨X.w,0,none⟩)] A (λ r B=>r=(vn X.n)/\ A=B):=by
  refine fn_enterW func200 rfl ntmps200 (by simp) ?_;have hw9:=wka_w hc;have hh9:=wka_h hc;refine Zcb ?_;refine tl_c rfl (o_call bd126 rfl (there13_c (hw:=hw9))) ?_;refine Zb1 ?_;refine Zq ?_;intro h;refine Zew ?_;refine tv (o_fieldAddr (o:=0) underlying126 rfl rfl sz45 rfl) ?_;refine tv (o_load p45 rfl hw9 rfl) ?_;refine Zei ?_;refine tv (o_load p3 rfl hh9 rfl) ?_;refine Zl ?_;exact ⟨.int .i64 ((X.n:Nat):Int),A,res1 rfl rfl,Dr.sat drqz,rfl,rfl⟩
end Go.Vl

namespace Go.Vl
open Go Go.Proofs Go.Proofs.Tryz
structure CarryOk (ba cell:Nat) (s:DevS) (T:WkT) (lst:List (Nat×List (List Nat))) (l l2:List Prt) (T4:WkT):Prop where
  tbl:Tbl (usedB T4) (conB T4 s ba) cell (refP l2) (l2.map λ p=>(p.blk.toNat,p.cells))
  cells:flatP l2=flatP l
  us:∀c,usedB T4 c=((usedB T c&& !decide (c∈lst.map (·.1)))||decide ((c:Int)∈l2.map (·.blk)))
  other:∀c:Nat,¬((c:Int)∈l2.map (·.blk))->conB T4 s ba c=conB T s ba c
  lv:T4.lv=T.lv
  dj:DjT T4
theorem flatP_map {l l2:List Prt}(h:l2.map (·.cells)=l.map (·.cells)):flatP l2=flatP l:=by
  unfold flatP
  rw [List.flatMap_def,List.flatMap_def,h]
theorem mem_cells {l l2:List Prt}(h:l2.map (·.cells)=l.map (·.cells)){p:Prt}(hp:p∈l2):∃q∈l,q.cells=p.cells:=by
  have:p.cells∈l2.map (·.cells):=List.mem_map.2 ⟨p,hp,rfl⟩;rw [h] at this
  obtain ⟨q,h1,h2⟩:=List.mem_map.1 this;exact ⟨q,h1,h2⟩
theorem gap_cells {fill:Nat}:∀{l l2:List Prt},l2.map (·.cells)=l.map (·.cells)->GapP fill l->GapP fill l2
  |[],l2,h,_=>by cases l2 with|nil=>trivial|cons p l2=>simp at h
  |[p],l2,h,_=>by
    match l2,h with
    |[q],_=>trivial
    |[],h=>simp at h
    |_::_::_,h=>simp at h
  |p::q::l,l2,h,hg=>by
    match l2,h with
    |[],h=>simp at h
    |[_],h=>simp at h
    |p2::q2::l2,h=>
      simp only [List.map_cons,List.cons.injEq] at h
      refine ⟨by rw [h.1,h.2.1];exact hg.1,gap_cells (l:=q::l) (by simp only [List.map_cons,List.cons.injEq];exact h.2) hg.2⟩
theorem carry_law {ba cell n:Nat}{s:DevS}{T T2:WkT}{ref:Nat}{lst:List (Nat×List (List Nat))}{l l2:List Prt}(hcell:1<=cell/\ cell<=62)(hd:DjT T)(ht:Tbl (usedB T) (conB T s ba) cell ref lst)(hun:∀b,usedB T b=true->b<n)(hin:∀b,b<n->ba+256*b+256<=(imgS s).length)(hn:n<4294967295)
    (hok:∀p∈l,OkP (fillT cell) p/\∀x∈p.cells,x.length=cell) (hgap:GapP (fillT cell) l) (hbl:(blksP l).Sublist (lst.map λ x=>((x.1:Nat):Int))) (hneg:∀p∈l,p.blk≠-1->(p.blk∈blksP l)) (hlt:∀b,usedB T2 b=true->b<n)
    (h:takeP n l T=(l2,0,T2)):CarryOk ba cell s T lst l l2 (writeP ba cell s l2 l2.length (giveP (l2.map (·.blk)) (lst.map (·.1)) T2)):=by
  obtain ⟨hf1,_,_⟩:=tbl_facts ht;have hnd:=tbl_nodup ht
  have hu1:∀x∈lst,usedB T x.1=true:=λ x hx=>by
    have:=(hf1 ⟨((x.1:Nat):Int),x.2,false⟩ (List.mem_map.2 ⟨x,hx,rfl⟩)).2.2.1
    simpa using this
  have hbn:(lst.map λ x=>((x.1:Nat):Int)).Nodup:=by
    have e:(lst.map λ x=>((x.1:Nat):Int))=(lst.map (·.1)).map λ b:Nat=>(b:Int):=(by rw [List.map_map];rfl)
    rw [e]
    exact List.pairwise_map.2 (hnd.imp λ hab h9=>hab (Int.ofNat.inj h9))
  have htk:=takeP_ok hd (λ p hp hp1=>by
    have h1:=hbl.subset (hneg p hp hp1);obtain ⟨x,hx,hxe⟩:=List.mem_map.1 h1;have hxe:((x.1:Nat):Int)=p.blk:=hxe;rw [←hxe]
    exact ⟨Int.natCast_nonneg _,by rw [Int.toNat_natCast];exact hu1 x hx⟩) h
  have hgv:=giveP_ok (us:=l2.map (·.blk)) (l:=lst.map (·.1)) htk.dj;obtain ⟨T3,hT3⟩:∃T3,giveP (l2.map (·.blk)) (lst.map (·.1)) T2=T3:=⟨_,rfl⟩;rw [hT3] at hgv ⊢
  have hnd2:=htk.nd (hbn.sublist hbl)
  have hin2:∀p∈l2,0<=p.blk/\ ba+256*p.blk.toNat+256<=(imgS s).length:=λ p hp=>by
    obtain ⟨g1,g2⟩:=htk.at_ p hp;exact ⟨g1,hin _ (hlt _ g2)⟩
  have hok2:∀p∈l2,OkP (fillT cell) p/\∀x∈p.cells,x.length=cell:=λ p hp=>by
    obtain ⟨q,hq,hqe⟩:=mem_cells htk.len hp;obtain ⟨g1,g2⟩:=hok q hq
    unfold OkP at g1 ⊢
    rw [hqe] at g1 g2
    exact ⟨g1,g2⟩
  have hrow:∀k,k<l2.length->(rowT cell l2 k).length=256:=λ k hk=>by
    rw [rowT_drop hk]
    obtain ⟨g1,g2⟩:=hok2 _ (List.getElem_mem hk);exact tblS_len g2 g1.2
  obtain ⟨w1,w2,w3,w4⟩:=writeP_ok hnd2 hin2 hrow l2.length T3 (Nat.le_refl _)
  have hus:∀c,usedB (writeP ba cell s l2 l2.length T3) c=((usedB T c&& !decide (c∈lst.map (·.1)))||decide ((c:Int)∈l2.map (·.blk))):=λ c=>by
    rw [w1,hgv.us,htk.us]
    by_cases e1:(c:Int)∈l2.map (·.blk)<;>by_cases e2:c∈lst.map (·.1)<;>cases usedB T c<;>simp [e1,e2]
  refine ⟨tbl_of (λ p hp=> ?_) (gap_cells htk.len hgap) (λ k hk=>writeP_row hnd2 hin2 hrow l2.length T3 (Nat.le_refl _) k hk oqz),flatP_map htk.len,hus,λ c hc=> ?_,by rw [w2,hgv.lv,htk.lv],λ c hc=> ?_⟩
  . obtain ⟨g1,g2⟩:=hok2 p hp;obtain ⟨g3,g4⟩:=htk.at_ p hp;refine ⟨g1,g2,by have:=hlt _ g4;omega, ?_⟩;rw [hus]
    have:(((p.blk.toNat:Nat)):Int)=p.blk:=(by omega);rw [this,decide_eq_true (List.mem_map.2 ⟨p,hp,rfl⟩),Bool.or_true]
  . rw [writeP_other hin2 hrow l2.length T3 (Nat.le_refl _) λ k hk _ h9=>hc (List.mem_map.2 ⟨l2[k],List.getElem_mem hk,by have:=(hin2 _ (List.getElem_mem hk)).1;show l2[k].blk=_;omega⟩)]
    unfold conB
    rw [hgv.f,htk.f]
  rw [w2]
  rw [w3] at hc
  exact hgv.dj c hc
theorem blk_mem {l:List Prt}{p:Prt}(hp:p∈l)(h:p.blk≠-1):p.blk∈blksP l:=by
  unfold blksP
  rw [List.mem_filter]
  exact ⟨List.mem_map.2 ⟨p,hp,rfl⟩,by simpa using h⟩
theorem flat_mem {l:List Prt}{p:Prt}{x:List Nat}(hp:p∈l)(hx:x∈p.cells):x∈flatP l:=List.mem_flatMap.2 ⟨p,hp,hx⟩
theorem settle_cells {fill cell:Nat}{l:List Prt}(h:∀x∈flatP l,x.length=cell):∀p∈settleS fill l,∀x∈p.cells,x.length=cell:=λ p hp x hx=>by
  have h1:=flat_mem hp hx
  unfold settleS at h1
  rw [settle_flat] at h1
  exact h x (by simpa [flatP] using h1)
theorem ins_ok {fill:Nat}(hf:1<=fill){was:List Prt}{i:Nat}{ins:List (List Nat)}(hw:∀p∈was,OkP fill p):∀q∈insP fill was i ins,OkP fill q:=λ q hq=>by
  unfold insP at hq
  split at hq
  . exact (chunk_ok hf q hq).1
  rcases List.mem_append.1 hq with h1|h1
  . rcases List.mem_append.1 h1 with h2|h2
    . exact hw q (List.mem_of_mem_take h2)
    exact (chunk_ok hf q h2).1
  exact hw q (List.mem_of_mem_drop h1)
theorem ins_blks {fill:Nat}{was:List Prt}{i:Nat}{ins:List (List Nat)}:(blksP (insP fill was i ins)).Sublist (blksP was):=by
  unfold insP
  split
  . rw [blks_none chunk_none];exact List.nil_sublist _
  rename_i p hp
  have hs:=split_at hp
  conv=>rhs;rw [hs]
  have e:p::was.drop ((placeT was i).1+1)=[p]++was.drop ((placeT was i).1+1):=rfl;rw [e,←List.append_assoc,blks_app,blks_app,blks_app,blks_app]
  refine List.Sublist.append (List.Sublist.append (List.Sublist.refl _) ?_) (List.Sublist.refl _)
  by_cases h:p.blk= -1
  . rw [h,blks_none chunk_none];exact List.nil_sublist _
  have:blksP [p]=[p.blk]:=(by unfold blksP;simp [h]);rw [this];exact chunk_blks
theorem asP_flat (l:List (Nat×List (List Nat))):flatP (asP l)=l.flatMap (·.2):=by unfold flatP asP;rw [List.flatMap_map]
theorem plan_law {ba cell n:Nat}{s:DevS}{T T2:WkT}{ref:Nat}{lst:List (Nat×List (List Nat))}{plan l2:List Prt}(hcell:1<=cell/\ cell<=62)(hd:DjT T)(ht:Tbl (usedB T) (conB T s ba) cell ref lst)(hun:∀b,usedB T b=true->b<n)(hin:∀b,b<n->ba+256*b+256<=(imgS s).length)(hn:n<4294967295)
    (hok:∀p∈plan,OkP (fillT cell) p) (hce:∀x∈flatP plan,x.length=cell) (hbl:(blksP plan).Sublist (blksP (asP lst))) (hlt:∀b,usedB T2 b=true->b<n)
    (h:takeP n (settleS (fillT cell) plan) T=(l2,0,T2)):CarryOk ba cell s T lst (settleS (fillT cell) plan) l2 (writeP ba cell s l2 l2.length (giveP (l2.map (·.blk)) (lst.map (·.1)) T2)):=
  carry_law hcell hd ht hun hin hn (λ p hp=>⟨settle_ok plan [] (λ q hq=>(by cases hq)) hok p hp,settle_cells hce p hp⟩) (settle_gap plan [] trivial) ((settle_blks plan []).trans (show (blksP []++blksP plan).Sublist _ from by rw [←asP_blks];exact hbl)) (λ p hp hp1=>blk_mem hp hp1) hlt h
theorem fill_pos {cell:Nat}(h:1<=cell/\ cell<=62):4<=fillT cell/\ fillT cell<=248:=by
  unfold fillT
  exact ⟨(Nat.le_div_iff_mul_le oqz).2 oqz,Nat.div_le_self ..⟩
theorem RwOk.right {Z Y:SP}{cell:Nat}{vs:List Value}{cs:List (List Nat)}(h:RwOk Z cell vs cs):RwOk (Y*Z) cell vs cs:=⟨h.1,λ j hj=>let ⟨a,c,h1,h2⟩:=h.2 j hj;⟨a,c,h1,h2.right⟩⟩
theorem PtOk.right {Z Y:SP}{cell:Nat}{x:PtV}{p:Prt}(h:PtOk Z cell x p):PtOk (Y*Z) cell x p:=⟨h.c,h.r.right,h.w.right⟩
theorem PsOk.right {Z Y:SP}{cell:Nat}{xs:List PtV}{l:List Prt}(h:PsOk Z cell xs l):PsOk (Y*Z) cell xs l:=⟨h.len,λ j h1 h2=>(h.ok j h1 h2).right⟩
def partsR (u:Nat->Bool)(c:Nat->List Nat)(nb cell ref:Nat):List (Nat×List (List Nat))×Int:=match partsS u c nb cell (nb+3) ref [] with
  |some l=>(l,0)
  |none=>([],150)
def fitsT (fill:Nat)(out:List (Nat×List (List Nat)))(n:Nat):Bool:=match out.getLast? with
  |none=>false
  |some p=>decide (p.2.length+n<=fill)
section
variable {u:Nat->Bool} {c:Nat->List Nat} {nb cell k ref nx dn sz:Nat} {out:List (Nat×List (List Nat))} {bs:List Nat}
theorem parts_bad1 (h0:ref≠0)(h:¬u (ref-1)=true∨nb<out.length):partsS u c nb cell (k+1) ref out=none:=by
  unfold partsS;rw [if_neg h0,if_pos h]
theorem parts_bad2 (h0:ref≠0)(hu:u (ref-1)=true)(hn:¬nb<out.length)(hb:c (ref-1)=bs)(hdn:nm ((bs.drop 4).take 2)=dn)(hsz:nm ((bs.drop 6).take 2)=sz)(h:sz≠cell∨dn<1∨fillT cell<dn):partsS u c nb cell (k+1) ref out=none:=by
  unfold partsS;rw [if_neg h0,if_neg (λ h9=>h9.elim (λ h8=>h8 hu) hn),hb,hdn,hsz,if_pos h]
theorem parts_bad3 (h0:ref≠0)(hu:u (ref-1)=true)(hn:¬nb<out.length)(hb:c (ref-1)=bs)(hdn:nm ((bs.drop 4).take 2)=dn)(hsz:nm ((bs.drop 6).take 2)=sz)(h:¬(sz≠cell∨dn<1∨fillT cell<dn)){x:Nat}(hx:x∈bs.drop (8+dn*cell))(hx0:x≠0):partsS u c nb cell (k+1) ref out=none:=by
  unfold partsS;rw [if_neg h0,if_neg (λ h9=>h9.elim (λ h8=>h8 hu) hn),hb,hdn,hsz,if_neg h,if_pos (List.any_eq_true.2 ⟨x,hx,decide_eq_true hx0⟩)]
theorem parts_bad4 (h0:ref≠0)(hu:u (ref-1)=true)(hn:¬nb<out.length)(hb:c (ref-1)=bs)(hdn:nm ((bs.drop 4).take 2)=dn)(hsz:nm ((bs.drop 6).take 2)=sz)(h:¬(sz≠cell∨dn<1∨fillT cell<dn))(hz:∀x∈bs.drop (8+dn*cell),x=0)(hl:fitsT (fillT cell) out dn=true):partsS u c nb cell (k+1) ref out=none:=by
  unfold partsS;rw [if_neg h0,if_neg (λ h9=>h9.elim (λ h8=>h8 hu) hn),hb,hdn,hsz,if_neg h,if_neg (by rw [Bool.not_eq_true,List.any_eq_false];intro x hx;simp [hz x hx])];exact if_pos hl
theorem parts_go (h0:ref≠0)(hu:u (ref-1)=true)(hn:¬nb<out.length)(hb:c (ref-1)=bs)(hdn:nm ((bs.drop 4).take 2)=dn)(hsz:nm ((bs.drop 6).take 2)=sz)(h:¬(sz≠cell∨dn<1∨fillT cell<dn))(hz:∀x∈bs.drop (8+dn*cell),x=0)(hl:fitsT (fillT cell) out dn=false)(hnx:nm (bs.take 4)=nx):
    partsS u c nb cell (k+1) ref out=partsS u c nb cell k nx (out++[(ref-1,cutC cell dn (bs.drop 8))]):=by
  conv=>lhs;unfold partsS
  rw [if_neg h0,if_neg (λ h9=>h9.elim (λ h8=>h8 hu) hn),hb,hdn,hsz,if_neg h,if_neg (by rw [Bool.not_eq_true,List.any_eq_false];intro x hx;simp [hz x hx]),if_neg (by show¬fitsT _ _ _=true;rw [hl];decide),hnx]
theorem parts_end:partsS u c nb cell (k+1) 0 out=some out:=by unfold partsS;rw [if_pos rfl]
end
theorem asP_snoc (l:List (Nat×List (List Nat)))(b:Nat)(cs:List (List Nat)):asP (l++[(b,cs)])=asP l++[⟨((b:Nat):Int),cs,false⟩]:=by unfold asP;rw [List.map_append];rfl
theorem asP_n (l:List (Nat×List (List Nat))):(asP l).length=l.length:=by unfold asP;rw [List.length_map]
theorem fitsT_at {fill n:Nat}{l:List (Nat×List (List Nat))}(h:0<l.length):fitsT fill l n=decide ((l[l.length-1]'oqz).2.length+n<=fill):=by
  unfold fitsT
  rw [List.getLast?_eq_getElem?,List.getElem?_eq_getElem oqz]
theorem fitsT_nil {fill n:Nat}{l:List (Nat×List (List Nat))}(h:¬0<l.length):fitsT fill l n=false:=by
  obtain rfl:l=[]:=List.eq_nil_of_length_eq_zero oqz
  rfl
theorem dr_to {A B C:SP}(h:Dr A B)(e:B=C):Dr A C:=e▸h
theorem pts_nil:ptsV [] (asP [])=[]:=by unfold ptsV;rfl
theorem rs_slo {k m c:Nat}{a:Option Addr}{xs:List Value}:Rs (Sl k (.slice a m c) m xs) a xs:=by
  have h:=rs_sl (R:=emp) (k:=k) (m:=m) (c:=c) (a:=a) (xs:=xs)
  rwa [star_comm,star_emp] at h
theorem asP_at {l:List (Nat×List (List Nat))}{i:Nat}(h:i<l.length):(asP l)[i]'(by rw [asP_n];exact h)=⟨((l[i].1:Nat):Int),l[i].2,false⟩:=by simp [asP]
theorem pts_cell {xs:List PtV}{l:List (Nat×List (List Nat))}{i:Nat}(h:i<l.length)(h2:i<xs.length):(ptsV xs (asP l))[i*3+1]? =some (.slice xs[i].a l[i].2.length xs[i].c):=by
  rw [ptsV_get (by rw [asP_n];exact h) h2 (by decide)]
  show some (Value.slice _ ((asP l)[i]'(by rw [asP_n];exact h)).cells.length _)=_
  rw [asP_at h]
theorem rw_snoc {Z:SP}{cell c j:Nat}{a:Option Addr}{vs:List Value}{bs:List Nat}(h:RwOk Z cell vs (cutC cell j bs))(hr:Rs Z a (bys (bs.drop (j*cell)))):RwOk Z cell (vs++[.slice a cell c]) (cutC cell (j+1) bs):=by
  rw [cutC_snoc]
  exact rw_app h (rw_one (by
    have:=hr.sub cell
    unfold bys at this ⊢
    rwa [←List.map_take] at this))
theorem rs_cutD {A:SP}{a:Option Addr}{cap l k:Nat}{X:List Nat}(h:Rs A a (bys (X.drop k)))(hx:X.length<=cap+k):Rs A (cutAddr a cap l 1) (bys (X.drop (k+l))):=by
  have:=rs_cutC (l:=l) (cap:=cap) h (by rw [List.length_drop];omega)
  rwa [List.drop_drop] at this
theorem nm2_lt {bs:List Nat}{k:Nat}(h:∀x∈bs,x<256):nm ((bs.drop k).take 2)<65536:=by
  have h1:=nm_lt ((bs.drop k).take 2) λ x hx=>h x (List.mem_of_mem_drop (List.mem_of_mem_take hx))
  have h2:((bs.drop k).take 2).length<=2:=(by rw [List.length_take];omega);exact Nat.lt_of_lt_of_le h1 (Nat.pow_le_pow_right (by decide) h2:256^_<=256^2)
theorem nm4_lt {bs:List Nat}(h:∀x∈bs,x<256):nm (bs.take 4)<4294967296:=by
  have h1:=nm_lt (bs.take 4) λ x hx=>h x (List.mem_of_mem_take hx)
  have h2:(bs.take 4).length<=4:=(by rw [List.length_take];omega);exact Nat.lt_of_lt_of_le h1 (Nat.pow_le_pow_right (by decide) h2:256^_<=256^4)
attribute [local irreducible] crk crL crc Sl pt ro Dev imgS recS readS recsF rdW rdO rkT Parts rvl recordsS runsL adrF kcl xcl kys runA runsF layF ovF TxA adZ WkA comS conB rootV ptsV
theorem Zg1 {p r:Prop}(k:r)(h:Kq r->p:=by intro k;refine Z6 ?_;refine q_then_r (q_block_r (q_then_r (q_block_r (q_then_r ?_))));exact k.o):p:=h ⟨k⟩
theorem Zdj {p r:Prop}(k:r)(h:Kq r->p:=by intro k;refine ⟨by repeat (first|with_reducible exact dr_refl|apply dr_keep|apply dr_drop), ?_⟩;refine tm 8 rfl kqz rfl (o_fieldAddr (o:=1) underlying203 rfl rfl sz35 rfl) ?_;exact k.o):p:=h ⟨k⟩
theorem Zh2 {p r:Prop}(k:r)(h:Kq r->p:=by intro k;refine ql_v rfl (o_len underlying35 rfl) ?_;refine ql_v rfl (o_fieldAddr (o:=1) underlying203 rfl rfl sz35 rfl) ?_;exact k.o):p:=h ⟨k⟩
theorem parts15_c {A R:SP}{C:SP->SP}{X:WkX}{Y:WkY}{T:WkT}{s:DevS}(hc:Ct A (WkA X Y s) R C:=by exact cbqz)(hok:WkOk X Y T (s.ls.length*64))(hb:WkB X s)(ho:s.off=false:=by assumption){ref cell:Nat}(hr1:ref<4294967296)(hcell:1<=cell/\ cell<=62):
    Fn Tryz.prog 120 #[.pointer (some ⟨X.w,0,none⟩),.int .u32 ((ref:Nat):Int),vn cell] A (λ r B=>∃l e a c xs Z,partsR (usedB T) (conB T s X.ba) X.n cell ref=(l,e)/\ r= .tuple #[.slice a l.length c,.int .i64 e]/\ ((l.length<=c/\ l.length<=X.n+1)/\ Rs Z a (ptsV xs (asP l))/\ PsOk Z cell xs (asP l))/\ B=A*Z):=by
  refine fn_enterW func120 rfl ntmps120 (by simp) ?_;obtain ⟨hb1,hb2,hb3⟩:=id hb;have hfp:=fill_pos hcell;refine tc_have (λ _ _ h=>txa_wf (wka_txa hc) _ _ h) λ hwf=> ?_
  refine Zdi ?_;refine tl_c rfl (o_call bd199 rfl (Root13_c (hc:=hc) (hok:=hok) (hb:=hb))) ?_;rintro _ _ ⟨v27,rfl,rfl⟩;refine Zey ?_;refine Zbd ?_;intro h;refine Zb2 ?_;refine tl_c rfl (o_call bd34 rfl (Fill15_c (cell:=((cell:Nat):Int)) (hc:=⟨by omega,by omega⟩))) ?_;rintro _ _ ⟨rfl,rfl⟩;refine tl_env (d:=34) (v:=(vn (fillT cell))) (by show Value.int .i64 (if 1<=((cell:Nat):Int)/\ ((cell:Nat):Int)<=62 then ((fillT ((cell:Nat):Int).toNat:Nat):Int) else 0)=_;rw [if_pos oqz,Int.toNat_natCast]) ?_;refine Zy ?_;refine tv (o_eqi rfl rfl) ?_;refine Zq ?_;intro h;refine Ze ?_;refine Zbw ?_;refine Zu ?_;refine tc_pre (A':=A*Sl 3 (.slice none 0 0) 0 []*Sl 3 (.slice none 0 0) 0 []) (λ _ _ h=>sl_nil (sl_nil h)) ?_;refine tc_loop (λ kk ρ BB=>∃ (q:Nat) (l:List (Nat×List (List Nat))) (a:Option Addr) (c:Nat) (xs:List PtV) (Z:SP),(q<4294967296/\ l.length<=X.n+1/\ l.length<=c)/\ (PsOk Z cell xs (asP l))/\ (partsS (usedB T) (conB T s X.ba) X.n cell (X.n+3-l.length) q l=partsS (usedB T) (conB T s X.ba) X.n cell (X.n+3) ref [])/\ (∀p∈l,p.2.length<=248)/\ kk=X.n+2-l.length/\ ρ 1= .int .u32 ((q:Nat):Int)/\ ρ 11= .slice a l.length c/\ ρ 0= .pointer (some ⟨X.w,0,none⟩)/\ ρ 2=(vn cell)/\ ρ 10=(vn (fillT cell))/\ Dr BB (A*Z*Sl 3 (.slice a l.length c) l.length (ptsV xs (asP l)))) (m:=X.n+2-(([]:List (Nat×List (List Nat)))).length) ?_ ?_
  . exact ⟨ref,([]:List (Nat×List (List Nat))),none,0,([]:List PtV),Sl 3 (.slice none 0 0) 0 [],⟨hr1,Nat.zero_le _,Nat.le_refl _⟩,ps_nil _ _,by rw [List.length_nil,Nat.sub_zero],(λ p hp=>(by cases hp)),rfl,rfl,rfl,rfl,rfl,rfl,by rw [pts_nil];exact dr_refl⟩
  intro k ρ B hI;obtain ⟨q,l,a,c,xs,Z,hp0,hp1,hp2,hp3,hkk1,hE1,hE11,hE0,hE2,hE10,hBA⟩:=hI;refine tc_pre hBA.sat ?_;clear hBA;refine te 1 hE1 ?_;refine te 11 hE11 ?_;refine te 0 hE0 ?_;refine te 2 hE2 ?_;refine te 10 hE10 ?_;refine Zm ?_;refine Z5 ?_;refine tc_cond rfl (λ h=> ?_) (λ h=> ?_)
  . obtain ⟨hqb,hl1,hl2⟩:=hp0;have hq0:q≠0:=(by first|omega|(simp at h;omega));refine Zf4 ?_;refine Zh4 ?_;refine tv (o_convI (a:=((q:Nat):Int)) underlying53 underlying3 rfl (wrap_i64 oqz)) ?_;refine tv (o_subI rfl rfl oqz) ?_;refine tl_env (d:=43) (v:=(vn (q-1))) (congrArg (Value.int .i64) oqz) ?_;refine tl_c rfl (o_call bd148 rfl (Read13_c (hc:=by first|exact ct_left hc|exact ct_left (ct_left hc)) (hok:=hok) (hb:=hb) (b:=((q-1:Nat):Int)))) ?_;rintro _ _ ⟨a44,m44,c44,e44,xs44,rfl,hr44,rfl⟩;rw [usedZ_nat,Int.toNat_natCast] at hr44
    refine Zbq ?_;refine Zfc ?_;refine tc_cut (λ ρ BB=>∃ (bb:Bool),(bb=(decide (e44≠0)||decide (X.n<l.length)))/\ ρ 55= .bool bb/\ ρ 0= .pointer (some ⟨X.w,0,none⟩)/\ ρ 1= .int .u32 ((q:Nat):Int)/\ ρ 2=(vn cell)/\ ρ 10=(vn (fillT cell))/\ ρ 11= .slice a l.length c/\ ρ 12= .slice a44 m44 c44/\ Dr BB (A*Z*Sl 3 (.slice a l.length c) l.length (ptsV xs (asP l))*Sl 1 (.slice a44 m44 c44) m44 (bys xs44))) ?_ ?_
    . skip
      refine Zbr ?_;refine Zdv ?_;refine tl_bool (d:=49) rfl (sbq ?_) (sbq ?_)
      . intro h;refine Zbj ?_;refine tk ?_;refine Zbb ?_;exact ⟨_,by simp_all,rfl,rfl,rfl,rfl,rfl,rfl,rfl,drqz⟩
      intro h;refine tlm ?_;refine tv (o_len underlying198 rfl) ?_;refine tlm ?_;refine tl_c rfl (o_call bd200 rfl (BlocksW (hc:=by first|exact ct_left hc|exact ct_left (ct_left hc)|exact ct_left (ct_left (ct_left hc))))) ?_;rintro _ _ ⟨rfl,rfl⟩;refine Zf3 ?_;exact ⟨_,by simp_all,rfl,rfl,rfl,rfl,rfl,rfl,rfl,drqz⟩
    intro ρ B hI;obtain ⟨bb,hbb0,hE55,hE0,hE1,hE2,hE10,hE11,hE12,hBA⟩:=hI;refine q_then_n ?_;refine tc_pre hBA.sat ?_;clear hBA;refine te 55 hE55 ?_;refine te 0 hE0 ?_;refine te 1 hE1 ?_;refine te 2 hE2 ?_;refine te 10 hE10 ?_;refine te 11 hE11 ?_;refine te 12 hE12 ?_;refine tc_cond rfl (λ h=> ?_) (λ h=> ?_)
    . have hbad:¬usedB T (q-1)=true∨X.n<l.length:=hr44.elim (λ h1=> .inr (by rw [h,h1.2.1] at hbb0;simpa using hbb0.symm)) (λ h1=> .inl (by rw [h1.1];decide));refine sr ?_;refine Zg1 ?_;have hR:partsR (usedB T) (conB T s X.ba) X.n cell ref=([],150):=(by unfold partsR;rw [←hp2,show X.n+3-l.length=(X.n+2-l.length)+1 by omega,parts_bad1 hq0 hbad]);exact ⟨.tuple #[.slice none 0 0,.int .i64 150],A*Z,res2 rfl rfl rfl,Dr.sat drqz,[],150,none,0,[],Z,hR,rfl,⟨⟨Nat.le_refl _,Nat.zero_le _⟩,by rw [pts_nil];exact rs_nil,ps_nil Z cell⟩,rfl⟩
    rw [h] at hbb0
    have hbb1:=hbb0.symm
    simp only [Bool.or_eq_false_iff,decide_eq_false_iff_not] at hbb1
    obtain ⟨hbe,hnl⟩:=hbb1;obtain ⟨hu,rfl,rfl,hc7,hx7⟩|⟨hu,rfl,_,_⟩:=hr44
    rotate_left
    . exact absurd (by decide) hbe
    obtain ⟨bs,hbs⟩:∃bs,conB T s X.ba (q-1)=bs:=⟨_,rfl⟩;obtain rfl:bs=xs44:=(hx7.trans hbs).symm;have hcl:=con_lt (s:=s) (ba:=X.ba) (b:=q-1) hok;rw [hbs] at hcl
    have hun:=used_n hok hu;have hbl:bs.length=256:=(congrArg List.length hbs).symm.trans (con_len (by rw [imgS_len hwf];omega));refine Zdm ?_;obtain ⟨nx,hnx⟩:∃nx,nm (bs.take 4)=nx:=⟨_,rfl⟩;obtain ⟨dn,hdn⟩:∃dn,nm ((bs.drop 4).take 2)=dn:=⟨_,rfl⟩;obtain ⟨sz,hsz⟩:∃sz,nm ((bs.drop 6).take 2)=sz:=⟨_,rfl⟩;have hnb:=nm4_lt hcl;rw [hnx] at hnb
    have hdb:=nm2_lt (k:=4) hcl;rw [hdn] at hdb
    have hsb:=nm2_lt (k:=6) hcl;rw [hsz] at hsb
    refine Zbr ?_;refine tl_c rfl (o_call bd68 rfl (Take32_c (p:=0) (xs:=bs) (m:=256) (hb:=hcl) (hm:=hbl))) ?_;refine Zfw ?_;refine tl_env (d:=59) (v:= .int .u32 ((nx:Nat):Int)) (by show Value.int .u32 ((nm ((bs.drop 0).take 4):Nat):Int)=_;rw [List.drop_zero,hnx]) ?_;refine Ze6 ?_;refine Zz ?_;refine tl_c rfl (o_call bd201 rfl (Take16_c (p:=4) (xs:=bs) (m:=256) (hb:=hcl) (hm:=hbl))) ?_;refine Zfw ?_;refine tl_env (d:=64) (v:= .int .u16 ((dn:Nat):Int)) (by show Value.int .u16 ((nm ((bs.drop 4).take 2):Nat):Int)=_;rw [hdn]) ?_;refine Ze6 ?_;refine Zz ?_;refine tl_c rfl (o_call bd201 rfl (Take16_c (p:=6) (xs:=bs) (m:=256) (hb:=hcl) (hm:=hbl))) ?_;refine Zfw ?_;refine tl_env (d:=69) (v:= .int .u16 ((sz:Nat):Int)) (by show Value.int .u16 ((nm ((bs.drop 6).take 2):Nat):Int)=_;rw [hsz]) ?_;refine Ze6 ?_;refine Zfc ?_;refine tc_cut (λ ρ BB=>∃ (bb2:Bool),(bb2=decide (sz≠cell∨dn<1∨fillT cell<dn))/\ ρ 84= .bool bb2/\ ρ 0= .pointer (some ⟨X.w,0,none⟩)/\ ρ 1= .int .u32 ((q:Nat):Int)/\ ρ 2=(vn cell)/\ ρ 10=(vn (fillT cell))/\ ρ 11= .slice a l.length c/\ ρ 12= .slice a44 256 c44/\ ρ 14= .int .u32 ((nx:Nat):Int)/\ ρ 16= .int .u16 ((dn:Nat):Int)/\ Dr BB (A*Z*Sl 3 (.slice a l.length c) l.length (ptsV xs (asP l))*Sl 1 (.slice a44 256 c44) 256 (bys bs))) ?_ ?_
    . skip
      refine Zbr ?_;refine tv (o_convI (a:=((sz:Nat):Int)) underlying287 underlying3 rfl (wrap_i64 oqz)) ?_;refine tlm ?_;refine Zdv ?_;refine tl_bool (d:=75) rfl (sbq ?_) (sbq ?_)
      . intro h;refine Zp ?_;refine Zeg ?_;refine Zbb ?_;exact ⟨_,by first|exact (decide_eq_true oqz).symm|exact (decide_eq_false oqz).symm|(rw [decide_eq_decide];omega),rfl,rfl,rfl,rfl,rfl,rfl,rfl,rfl,rfl,drqz⟩
      intro h;refine Zhy ?_;refine tl_bool (d:=79) rfl (sbq ?_) (sbq ?_)
      . intro h;refine Zig ?_;exact ⟨_,by first|exact (decide_eq_true oqz).symm|exact (decide_eq_false oqz).symm|(rw [decide_eq_decide];omega),rfl,rfl,rfl,rfl,rfl,rfl,rfl,rfl,rfl,drqz⟩
      intro h;refine tlm ?_;refine tv (o_convI (a:=((dn:Nat):Int)) underlying287 underlying3 rfl (wrap_i64 oqz)) ?_;refine tlm ?_;refine Zf3 ?_;exact ⟨_,by first|exact (decide_eq_true oqz).symm|exact (decide_eq_false oqz).symm|(rw [decide_eq_decide];omega),rfl,rfl,rfl,rfl,rfl,rfl,rfl,rfl,rfl,drqz⟩
    intro ρ B hI;obtain ⟨bb2,hbc0,hE84,hE0,hE1,hE2,hE10,hE11,hE12,hE14,hE16,hBA⟩:=hI;refine q_then_n ?_;refine tc_pre hBA.sat ?_;clear hBA;refine te 84 hE84 ?_;refine te 0 hE0 ?_;refine te 1 hE1 ?_;refine te 2 hE2 ?_;refine te 10 hE10 ?_;refine te 11 hE11 ?_;refine te 12 hE12 ?_;refine te 14 hE14 ?_;refine te 16 hE16 ?_;refine tc_cond rfl (λ h=> ?_) (λ h=> ?_)
    . have hbad2:sz≠cell∨dn<1∨fillT cell<dn:=(by rw [h] at hbc0;exact of_decide_eq_true hbc0.symm);refine sr ?_;refine Zg1 ?_;have hR:partsR (usedB T) (conB T s X.ba) X.n cell ref=([],150):=(by unfold partsR;rw [←hp2,show X.n+3-l.length=(X.n+2-l.length)+1 by omega,parts_bad2 hq0 hu hnl hbs hdn hsz hbad2]);exact ⟨.tuple #[.slice none 0 0,.int .i64 150],A*Z,res2 rfl rfl rfl,Dr.sat drqz,[],150,none,0,[],Z,hR,rfl,⟨⟨Nat.le_refl _,Nat.zero_le _⟩,by rw [pts_nil];exact rs_nil,ps_nil Z cell⟩,rfl⟩
    have hok2:¬(sz≠cell∨dn<1∨fillT cell<dn):=(by rw [h] at hbc0;exact of_decide_eq_false hbc0.symm);have hfm:=fill_mul cell dn oqz;refine Zb2 ?_;refine tv (o_convI (a:=((q:Nat):Int)) underlying53 underlying3 rfl (wrap_i64 oqz)) ?_;refine tv (o_subI rfl rfl oqz) ?_;refine tl_env (d:=87) (v:=(vn (q-1))) (congrArg (Value.int .i64) oqz) ?_;refine tv (o_bS (l:=[_,_,_]) (pv_cons wqz pv_nil) underlying203 z203 (pl203 underlying203) rfl) ?_;refine tl_x rfl (o_alloc (l:=[.int .i64 0,.slice none 0 0,.bool false]) z203 rfl) ?_;rintro _ _ ⟨b20,rfl,rfl⟩;refine tl_u rfl (o_stUN (l':=[vn (q-1),.slice none 0 0,.bool false]) rfl upqz sz203 rfl rfl rfl (by exact Nat.le_refl 3) rfl) ?_;refine Zid ?_;refine tv (o_slice (l:=8) (h:=256) underlying67 sz5 rfl (bnd_nat rfl) bnd_none oqz oqz) ?_;refine tl_env (d:=90) (v:= .slice (cutAddr a44 c44 8 1) 248 (c44-8)) (rfl) ?_;refine Zy ?_;refine Zb6 ?_;refine tc_pre (A':=A*Z*Sl 3 (.slice a l.length c) l.length (ptsV xs (asP l))*Sl 1 (.slice a44 256 c44) 256 (bys bs)*pt b20 (cl [vn (q-1),.slice none 0 0,.bool false] 203)*Sl 1 (.slice none 0 0) 0 []) (λ _ _ h=>sl_nil h) ?_;refine tc_loop (λ kk ρ BB=>∃ (j:Nat) (a2:Option Addr) (c2:Nat) (vs:List Value) (r2:Option Addr) (rc:Nat),(j<=dn/\ j<=c2)/\ (RwOk (Sl 1 (.slice a44 256 c44) 256 (bys bs)) cell vs (cutC cell j (bs.drop 8)))/\ (Rs (Sl 1 (.slice a44 256 c44) 256 (bys bs)) r2 (bys ((bs.drop 8).drop (j*cell)))/\ 248-j*cell<=rc)/\ kk=dn-j/\ ρ 21= .slice r2 (248-j*cell) rc/\ ρ 92= .int .u16 ((j:Nat):Int)/\ ρ 0= .pointer (some ⟨X.w,0,none⟩)/\ ρ 2=(vn cell)/\ ρ 10=(vn (fillT cell))/\ ρ 11= .slice a l.length c/\ ρ 14= .int .u32 ((nx:Nat):Int)/\ ρ 20=(pz b20)/\ ρ 91= .int .u16 ((dn:Nat):Int)/\ Dr BB (A*Z*Sl 3 (.slice a l.length c) l.length (ptsV xs (asP l))*Sl 1 (.slice a44 256 c44) 256 (bys bs)*pt b20 (cl [vn (q-1),.slice a2 j c2,.bool false] 203)*Sl 1 (.slice a2 j c2) j vs)) (m:=dn-(0)) ?_ ?_
    . exact ⟨0,none,0,[],cutAddr a44 c44 8 1,c44-8,⟨Nat.zero_le _,Nat.zero_le _⟩,rw_nil _ _,⟨by rw [Nat.zero_mul,List.drop_zero];exact rs_cutC (l:=8) rs_slo oqz,by omega⟩,rfl,by rw [Nat.zero_mul];rfl,rfl,rfl,rfl,rfl,rfl,rfl,rfl,rfl,drqz⟩
    intro k ρ B hI;obtain ⟨j,a2,c2,vs,r2,rc,hq0,hq1,hq2,hkk2,hE21,hE92,hE0,hE2,hE10,hE11,hE14,hE20,hE91,hBA⟩:=hI;refine tc_pre hBA.sat ?_;clear hBA;refine te 21 hE21 ?_;refine te 92 hE92 ?_;refine te 0 hE0 ?_;refine te 2 hE2 ?_;refine te 10 hE10 ?_;refine te 11 hE11 ?_;refine te 14 hE14 ?_;refine te 20 hE20 ?_;refine te 91 hE91 ?_;refine Zb9 ?_;refine tc_cond rfl (λ h=> ?_) (λ h=> ?_)
    . have hj:j<dn:=(by first|omega|(simp at h;omega));have hjm:(j+1)*cell<=dn*cell:=Nat.mul_le_mul_right _ hj;rw [Nat.succ_mul] at hjm
      obtain ⟨hqj,hqc⟩:=hq0;have hrc:=hq2.2;refine Zbe ?_;refine tc_seq ?_;refine tc_regh (S:=A*Z*Sl 3 (.slice a l.length c) l.length (ptsV xs (asP l))*Sl 1 (.slice a44 256 c44) 256 (bys bs)) mo drqz ?_
      show TH _ _ _ _ _ 10 (Array.replicate 10 false) _ _
      refine tm 0 rfl kqz rfl (o_fieldAddr (o:=1) underlying203 rfl rfl sz35 rfl) ?_;refine Zcy ?_;refine tm 4 rfl kqz rfl (o_move wqz) ?_;refine tm 5 rfl kqz rfl (o_slice3n (h:=cell) (m:=cell) underlying67 sz5 rfl rfl rfl (Nat.le_refl _) oqz) ?_;refine th_two (i:=1) (j:=6) kqz ?_ ?_
      . skip
        refine oh_v rfl rfl rfl (o_load p35 rfl hsqz rfl) ?_;refine th_one (i:=6) kqz ?_;refine oh_x rfl rfl rfl (o_buildSlice1 underlying35 sz67 z67 wqz rfl) ?_;rintro _ _ ⟨b100,rfl,rfl⟩;refine Zco ?_;refine oh_x rfl rfl rfl (o_apB underlying35 underlying35 sz67 by67 z67 rfl (by decide) (by decide) rfl rfl rfl ctqz rfl rfl oqz rfl) ?_;rintro _ _ ⟨a101,c101,rfl,hc101,rfl⟩;refine Zdj ?_;refine th_one (i:=9) kqz ?_;refine oh_u rfl rfl rfl (o_stU (l':=[vn (q-1),.slice a101 (j+1) c101,.bool false]) rfl upqz sz35 rfl rfl (by show 1<3;decide) rfl) drqz ?_;refine Zbv ?_;refine Zb0 ?_;refine tv (o_slice (l:=cell) (h:=248-j*cell) underlying67 sz5 rfl (bnd_nat rfl) bnd_none oqz oqz) ?_;refine tl_env (d:=105) (v:= .slice (cutAddr r2 rc cell 1) (248-(j+1)*cell) (rc-cell)) (by show Value.slice (cutAddr r2 rc cell 1) (248-j*cell-cell) (rc-cell)=_;rw [Nat.succ_mul,←Nat.sub_sub]) ?_;refine Zc3 ?_;refine tv (o_addN rfl rfl rfl (by show j+1<65536;omega)) ?_;refine Zbc ?_;exact ⟨_,by omega,j+1,_,_,vs++[.slice r2 cell cell],cutAddr r2 rc cell 1,rc-cell,⟨by omega,hc101⟩,rw_snoc hq1 hq2.1,⟨by rw [Nat.succ_mul];exact rs_cutD hq2.1 (by rw [List.length_drop];omega),by rw [Nat.succ_mul];omega⟩,rfl,rfl,rfl,rfl,rfl,rfl,rfl,rfl,rfl,rfl,drqz⟩
      . skip
        refine oh_x rfl rfl rfl (o_buildSlice1 underlying35 sz67 z67 wqz rfl) ?_;rintro _ _ ⟨b100,rfl,rfl⟩;refine ⟨by repeat (first|with_reducible exact dr_refl|apply dr_keep|apply dr_drop), ?_⟩;refine th_one (i:=1) kqz ?_;refine oh_v rfl rfl rfl (o_load p35 rfl hsqz rfl) ?_;refine th_one (i:=7) kqz ?_;refine oh_x rfl rfl rfl (o_apB underlying35 underlying35 sz67 by67 z67 rfl (by decide) (by decide) rfl rfl rfl ctqz rfl rfl oqz rfl) ?_;rintro _ _ ⟨a101,c101,rfl,hc101,rfl⟩;refine Zdj ?_;refine th_one (i:=9) kqz ?_;refine oh_u rfl rfl rfl (o_stU (l':=[vn (q-1),.slice a101 (j+1) c101,.bool false]) rfl upqz sz35 rfl rfl (by show 1<3;decide) rfl) drqz ?_;refine Zbv ?_;refine Zb0 ?_;refine tv (o_slice (l:=cell) (h:=248-j*cell) underlying67 sz5 rfl (bnd_nat rfl) bnd_none oqz oqz) ?_;refine tl_env (d:=105) (v:= .slice (cutAddr r2 rc cell 1) (248-(j+1)*cell) (rc-cell)) (by show Value.slice (cutAddr r2 rc cell 1) (248-j*cell-cell) (rc-cell)=_;rw [Nat.succ_mul,←Nat.sub_sub]) ?_;refine Zc3 ?_;refine tv (o_addN rfl rfl rfl (by show j+1<65536;omega)) ?_;refine Zbc ?_;exact ⟨_,by omega,j+1,_,_,vs++[.slice r2 cell cell],cutAddr r2 rc cell 1,rc-cell,⟨by omega,hc101⟩,rw_snoc hq1 hq2.1,⟨by rw [Nat.succ_mul];exact rs_cutD hq2.1 (by rw [List.length_drop];omega),by rw [Nat.succ_mul];omega⟩,rfl,rfl,rfl,rfl,rfl,rfl,rfl,rfl,rfl,rfl,drqz⟩
    obtain ⟨hqj,hqc⟩:=hq0;obtain rfl:dn=j:=by first|omega|(simp at h;omega)
    have hrc:=hq2.2;refine Zk ?_;refine Zm ?_;refine Zes ?_;refine tc_loop (λ kk ρ BB=>∃ (i:Nat),(i<=248-dn*cell)/\ (∀x∈((bs.drop 8).drop (dn*cell)).take i,x=0)/\ kk=248-dn*cell-i/\ ρ 109=(vn i)/\ ρ 0= .pointer (some ⟨X.w,0,none⟩)/\ ρ 2=(vn cell)/\ ρ 10=(vn (fillT cell))/\ ρ 11= .slice a l.length c/\ ρ 14= .int .u32 ((nx:Nat):Int)/\ ρ 20=(pz b20)/\ ρ 107= .slice r2 (248-dn*cell) rc/\ ρ 108=(vn (248-dn*cell))/\ Dr BB (A*Z*Sl 3 (.slice a l.length c) l.length (ptsV xs (asP l))*Sl 1 (.slice a44 256 c44) 256 (bys bs)*pt b20 (cl [vn (q-1),.slice a2 dn c2,.bool false] 203)*Sl 1 (.slice a2 dn c2) dn vs)) (m:=248-dn*cell-(0)) ?_ ?_
    . exact ⟨0,by omega,λ x hx=>by simp at hx,rfl,rfl,rfl,rfl,rfl,rfl,rfl,rfl,rfl,rfl,drqz⟩
    intro k ρ B hI;obtain ⟨i,hr0,hr1,hkk3,hE109,hE0,hE2,hE10,hE11,hE14,hE20,hE107,hE108,hBA⟩:=hI;refine tc_pre hBA.sat ?_;clear hBA;refine te 109 hE109 ?_;refine te 0 hE0 ?_;refine te 2 hE2 ?_;refine te 10 hE10 ?_;refine te 11 hE11 ?_;refine te 14 hE14 ?_;refine te 20 hE20 ?_;refine te 107 hE107 ?_;refine te 108 hE108 ?_;refine Zb9 ?_;refine tc_cond rfl (λ h=> ?_) (λ h=> ?_)
    . have hi:i<248-dn*cell:=(by first|omega|(simp at h;omega));have hi2:i<((bs.drop 8).drop (dn*cell)).length:=(by rw [List.length_drop,List.length_drop];omega);obtain ⟨x,hx⟩:∃x,((bs.drop 8).drop (dn*cell))[i]=x:=⟨_,rfl⟩;refine Zdt ?_;refine tv (o_ixP1 (a:=r2) (j:=i) underlying67 sz5 rfl rfl hi (nn_rs (xs:=bys ((bs.drop 8).drop (dn*cell))) (by repeat (first|exact hq2.1.right|apply Rs.left)) (by rw [bys_length];omega))) ?_;refine tv (o_ldP (a:=r2) (xs:=bys ((bs.drop 8).drop (dn*cell))) p5 rfl (by repeat (first|exact hq2.1.right|apply Rs.left)) (bys_at hi2)) ?_;refine tl_env (d:=112) (v:= .int .u8 ((x:Nat):Int)) (by show Value.int .u8 ((((bs.drop 8).drop (dn*cell))[i]:Nat):Int)=_;rw [hx]) ?_;refine Zg0 ?_;refine tc_cond rfl (λ h=> ?_) (λ h=> ?_)
      . have hx0:x≠0:=(by first|omega|(simp at h;omega));have hxm:x∈bs.drop (8+dn*cell):=(by rw [←List.drop_drop,←hx];exact List.getElem_mem hi2);refine sr ?_;refine Z6 ?_;refine q_block_r (q_then_r (q_then_r (q_block_r (q_then_r (q_block_r (q_then_r (q_block_r (q_then_r ?_))))))));have hR:partsR (usedB T) (conB T s X.ba) X.n cell ref=([],150):=(by unfold partsR;rw [←hp2,show X.n+3-l.length=(X.n+2-l.length)+1 by omega,parts_bad3 hq0 hu hnl hbs hdn hsz hok2 hxm hx0]);exact ⟨.tuple #[.slice none 0 0,.int .i64 150],A*Z,res2 rfl rfl rfl,Dr.sat drqz,[],150,none,0,[],Z,hR,rfl,⟨⟨Nat.le_refl _,Nat.zero_le _⟩,by rw [pts_nil];exact rs_nil,ps_nil Z cell⟩,rfl⟩
      have hx0:x=0:=(by first|omega|(simp at h;omega));refine Zem ?_;refine Zbz ?_;exact ⟨_,by omega,i+1,by omega,λ y hy=>by rw [List.take_succ_eq_append_getElem hi2,List.mem_append,List.mem_singleton,hx] at hy;rcases hy with hy|rfl;exact hr1 y hy;exact hx0,rfl,rfl,rfl,rfl,rfl,rfl,rfl,rfl,rfl,rfl,drqz⟩
    have hzz:∀x∈bs.drop (8+dn*cell),x=0:=λ x hx=>hr1 x (by rw [List.take_of_length_le (by rw [List.length_drop,List.length_drop];first|omega|(simp at h;omega)),List.drop_drop];exact hx)
    refine Zk ?_;refine Zm ?_;refine tv (o_len underlying198 rfl) ?_;refine Zci ?_;refine tc_cut (λ ρ BB=>∃ (bb3:Bool),(bb3=fitsT (fillT cell) l dn)/\ ρ 134= .bool bb3/\ ρ 0= .pointer (some ⟨X.w,0,none⟩)/\ ρ 2=(vn cell)/\ ρ 10=(vn (fillT cell))/\ ρ 11= .slice a l.length c/\ ρ 14= .int .u32 ((nx:Nat):Int)/\ ρ 20=(pz b20)/\ Dr BB (A*Z*Sl 3 (.slice a l.length c) l.length (ptsV xs (asP l))*Sl 1 (.slice a44 256 c44) 256 (bys bs)*pt b20 (cl [vn (q-1),.slice a2 dn c2,.bool false] 203)*Sl 1 (.slice a2 dn c2) dn vs)) ?_ ?_
    . skip
      refine tc_regq mo kqz ?_;refine ql_v rfl (o_move wqz) ?_;refine ql_v rfl (o_gtr rfl rfl) ?_;refine ql_v rfl (o_move wqz) ?_;refine ql_bool (d:=120) rfl (sbq ?_) (sbq ?_)
      . intro h;refine Zb5 ?_;refine ql_v rfl (o_subI rfl rfl oqz) ?_;refine ql_env (d:=123) (v:=(vn (l.length-1))) (congrArg (Value.int .i64) oqz) ?_;refine ql_v rfl (o_ixP (a:=a) (j:=l.length-1) underlying198 sz203 rfl rfl oqz (nn_rs (xs:=ptsV xs (asP l)) sq0z (by rw [ptsV_len hp1.len,asP_n];omega))) ?_;refine ql_v rfl (o_faP (m:=0) (o:=1) underlying203 rfl rfl sz35 rfl (nn_rs (xs:=ptsV xs (asP l)) sq0z (by rw [ptsV_len hp1.len,asP_n];omega))) ?_;refine ql_v rfl (o_ldP (xs:=ptsV xs (asP l)) p35 rfl sq0z (pts_cell (i:=l.length-1) oqz (by rw [hp1.len,asP_n];omega))) ?_;refine Zh2 ?_;refine ql_v rfl (o_load p35 rfl hsqz rfl) ?_;refine ql_v rfl (o_len underlying35 rfl) ?_;refine ql_v rfl (o_addI rfl rfl (by have:=hp3 _ (List.getElem_mem (show l.length-1<l.length by omega));omega)) ?_;refine ql_v rfl (o_move wqz) ?_;refine ql_v rfl (o_leq rfl rfl) ?_;refine Ze2 ?_;exact ⟨_,by first|(rw [fitsT_nil oqz];done)|(rw [fitsT_at oqz,decide_eq_decide];omega),rfl,rfl,rfl,rfl,rfl,rfl,rfl,drqz⟩
      intro h;refine Zhx ?_;refine ql_skip rfl ?_;refine Zg5 ?_;exact ⟨_,by first|(rw [fitsT_nil oqz];done)|(rw [fitsT_at oqz,decide_eq_decide];omega),rfl,rfl,rfl,rfl,rfl,rfl,rfl,drqz⟩
    intro ρ B hI;obtain ⟨bb3,hbd0,hE134,hE0,hE2,hE10,hE11,hE14,hE20,hBA⟩:=hI;refine q_then_n ?_;refine tc_pre hBA.sat ?_;clear hBA;refine te 134 hE134 ?_;refine te 0 hE0 ?_;refine te 2 hE2 ?_;refine te 10 hE10 ?_;refine te 11 hE11 ?_;refine te 14 hE14 ?_;refine te 20 hE20 ?_;refine tc_cond rfl (λ h=> ?_) (λ h=> ?_)
    . have hlast:fitsT (fillT cell) l dn=true:=(by rw [←hbd0];exact h);refine sr ?_;refine Zg1 ?_;have hR:partsR (usedB T) (conB T s X.ba) X.n cell ref=([],150):=(by unfold partsR;rw [←hp2,show X.n+3-l.length=(X.n+2-l.length)+1 by omega,parts_bad4 hq0 hu hnl hbs hdn hsz hok2 hzz hlast]);exact ⟨.tuple #[.slice none 0 0,.int .i64 150],A*Z,res2 rfl rfl rfl,Dr.sat drqz,[],150,none,0,[],Z,hR,rfl,⟨⟨Nat.le_refl _,Nat.zero_le _⟩,by rw [pts_nil];exact rs_nil,ps_nil Z cell⟩,rfl⟩
    have hlast:fitsT (fillT cell) l dn=false:=(by rw [←hbd0];exact h);refine Zb2 ?_;refine tv (o_loadN (vs:=[vn (q-1),.slice a2 dn c2,.bool false]) a203 sz203 rfl hsqz (by exact Nat.le_refl 3) rfl) ?_;refine tl_x rfl (o_buildSliceK (k:=3) (l:=[vn (q-1),.slice a2 dn c2,.bool false]) underlying198 sz203 z203 rfl rfl (by decide)) ?_;rintro _ _ ⟨b137,rfl,rfl⟩;refine tl_x rfl (o_apB underlying198 underlying198 sz203 by203 z203 rfl (by decide) (by decide) rfl rfl rfl ctqz rfl rfl oqz (show _=ptsV (xs++[⟨a2,c2,vs⟩]) (asP (l++[(q-1,cutC cell dn (bs.drop 8))])) by rw [asP_snoc,ptsV_snoc hp1.len];show _=_++[_,Value.slice a2 (cutC cell dn (bs.drop 8)).length c2,_];rw [cutC_len])) ?_;rintro _ _ ⟨a138,c138,rfl,hc138,rfl⟩;refine Za ?_;refine Zbr ?_;refine Zie ?_;exact ⟨_,by rw [List.length_append,List.length_singleton];omega,nx,l++[(q-1,cutC cell dn (bs.drop 8))],_,_,xs++[⟨a2,c2,vs⟩],Z*Sl 1 (.slice a44 256 c44) 256 (bys bs)*Sl 1 (.slice a2 dn c2) dn vs,⟨hnb,by rw [List.length_append,List.length_singleton];omega,by rw [List.length_append,List.length_singleton];omega⟩,by rw [asP_snoc];exact ps_snoc hp1.left.left ⟨by show (cutC cell dn (bs.drop 8)).length<=c2;rw [cutC_len];omega,rs_sl,(hq1.right (Y:=Z)).left⟩,by rw [←hp2,show X.n+3-l.length=(X.n+2-l.length)+1 by omega,parts_go hq0 hu hnl hbs hdn hsz hok2 hzz hlast hnx,List.length_append,List.length_singleton,show X.n+3-(l.length+1)=X.n+2-l.length by omega],(λ p hp=>(by rcases List.mem_append.1 hp with hp|hp;exact hp3 p hp;rw [List.mem_singleton] at hp;subst hp;show (cutC cell dn (bs.drop 8)).length<=248;rw [cutC_len];omega)),rfl,rfl,by rw [List.length_append];rfl,rfl,rfl,rfl,by rw [List.length_append];refine dr_to (B:=A*Z*Sl 3 (.slice a138 (l.length+1) c138) (l.length+1) (ptsV (xs++[⟨a2,c2,vs⟩]) (asP (l++[(q-1,cutC cell dn (bs.drop 8))])))*Sl 1 (.slice a44 256 c44) 256 (bys bs)*Sl 1 (.slice a2 dn c2) dn vs) drqz (by simp only [List.length_singleton];ac_rfl)⟩
  obtain ⟨hqb,hl1,hl2⟩:=hp0;obtain rfl:q=0:=by first|omega|(simp at h;omega)
  have hR:partsR (usedB T) (conB T s X.ba) X.n cell ref=(l,0):=(by unfold partsR;rw [←hp2,show X.n+3-l.length=(X.n+2-l.length)+1 by omega,parts_end]);refine Zhb ?_;exact ⟨.tuple #[.slice a l.length c,.int .i64 0],A*(Z*Sl 3 (.slice a l.length c) l.length (ptsV xs (asP l))),res2 rfl rfl rfl,(λ g w h=>by rw [←star_assoc];exact h),l,0,a,c,xs,Z*Sl 3 (.slice a l.length c) l.length (ptsV xs (asP l)),hR,rfl,⟨⟨hl2,hl1⟩,rs_sl,hp1.left⟩,rfl⟩
end Go.Vl

namespace Go.Vl
open Go Go.Proofs Go.Proofs.Tryz
theorem cutC_rows {cell:Nat}:∀{n:Nat} {xs:List Nat},n*cell<=xs.length->∀x∈cutC cell n xs,x.length=cell/\∀y∈x,y∈xs
  |0,xs,_,x,hx=>by cases hx
  |n+1,xs,h,x,hx=>by
    rw [Nat.succ_mul] at h
    unfold cutC at hx
    rcases List.mem_cons.1 hx with rfl|hx
    . exact ⟨by rw [List.length_take];omega,λ y hy=>List.mem_of_mem_take hy⟩
    obtain ⟨h1,h2⟩:=cutC_rows (n:=n) (xs:=xs.drop cell) (by rw [List.length_drop];omega) x hx;exact ⟨h1,λ y hy=>List.mem_of_mem_drop (h2 y hy)⟩
structure RowG (u:Nat->Bool) (cell:Nat) (p:Nat×List (List Nat)):Prop where
  u:u p.1=true
  lo:1<=p.2.length
  hi:p.2.length<=fillT cell
  rw_:∀x∈p.2,x.length=cell/\∀y∈x,y<256
theorem partsS_eq {u:Nat->Bool}{c:Nat->List Nat}{nb cell k ref:Nat}{out:List (Nat×List (List Nat))}:partsS u c nb cell (k+1) ref out=(if ref=0 then some out
    else if¬(u (ref-1)=true)∨nb<out.length then none
    else if nm (((c (ref-1)).drop 6).take 2)≠cell∨nm (((c (ref-1)).drop 4).take 2)<1∨fillT cell<nm (((c (ref-1)).drop 4).take 2) then none
    else if ((c (ref-1)).drop (8+nm (((c (ref-1)).drop 4).take 2)*cell)).any (λ x=>decide (x≠0))=true then none
    else if fitsT (fillT cell) out (nm (((c (ref-1)).drop 4).take 2))=true then none
    else partsS u c nb cell k (nm ((c (ref-1)).take 4)) (out++[(ref-1,cutC cell (nm (((c (ref-1)).drop 4).take 2)) ((c (ref-1)).drop 8))])):=by
  conv=>lhs;unfold partsS
  rfl
theorem parts_rows {u:Nat->Bool}{c:Nat->List Nat}{nb cell:Nat}(hc:∀b,u b=true->(c b).length=256/\∀x∈c b,x<256):∀{k ref:Nat} {out l:List (Nat×List (List Nat))},partsS u c nb cell k ref out=some l->(∀p∈out,RowG u cell p)->∀p∈l,RowG u cell p
  |0,_,_,_,h,_=>by cases h
  |k+1,ref,out,l,h,ho=>by
    rw [partsS_eq] at h
    by_cases h0:ref=0
    . rw [if_pos h0] at h;obtain rfl:=Option.some.inj h;exact ho
    rw [if_neg h0] at h
    by_cases h1:¬u (ref-1)=true∨nb<out.length
    . rw [if_pos h1] at h;cases h
    rw [if_neg h1] at h
    split at h
    . cases h
    rename_i h2
    split at h
    . cases h
    split at h
    . cases h
    have hu:u (ref-1)=true:=Classical.byContradiction λ h9=>h1 (.inl h9)
    obtain ⟨hc1,hc2⟩:=hc _ hu;refine parts_rows hc h λ p hp=> ?_
    rcases List.mem_append.1 hp with hp|hp
    . exact ho p hp
    rw [List.mem_singleton] at hp
    subst hp;have hm:=fill_mul cell (nm (((c (ref-1)).drop 4).take 2)) oqz;refine ⟨hu,by rw [cutC_len];omega,by rw [cutC_len];omega,λ x hx=> ?_⟩;obtain ⟨g1,g2⟩:=cutC_rows (by rw [List.length_drop];omega) x hx;exact ⟨g1,λ y hy=>hc2 y (List.mem_of_mem_drop (g2 y hy))⟩
theorem partsR_rows {X:WkX}{Y:WkY}{T:WkT}{s:DevS}{cell ref:Nat}{l:List (Nat×List (List Nat))}{e:Int}(hok:WkOk X Y T (s.ls.length*64))(hb:WkB X s)(hwf:WfD s)(h:partsR (usedB T) (conB T s X.ba) X.n cell ref=(l,e)):∀p∈l,RowG (usedB T) cell p:=by
  unfold partsR at h
  cases hp:partsS (usedB T) (conB T s X.ba) X.n cell (X.n+3) ref [] with
  |none=>rw [hp] at h;simp only [Prod.mk.injEq] at h;rw [←h.1];intro p hp;cases hp
  |some l2=>
    rw [hp] at h;simp only [Prod.mk.injEq] at h;rw [←h.1]
    refine parts_rows (λ b hu=> ?_) hp λ p hp=>by cases hp
    have:=used_n hok hu;have:=hb.hi;exact ⟨con_len (by rw [imgS_len hwf];omega),con_lt hok⟩
theorem rowG_flat {u:Nat->Bool}{cell:Nat}{l:List (Nat×List (List Nat))}(h:∀p∈l,RowG u cell p):∀x∈flatP (asP l),x.length=cell/\∀y∈x,y<256:=λ x hx=>by
  rw [asP_flat] at hx
  obtain ⟨p,hp,hx⟩:=List.mem_flatMap.1 hx;exact (h p hp).rw_ x hx
theorem flat_most {u:Nat->Bool}{cell:Nat}:∀{l:List (Nat×List (List Nat))},(∀p∈l,RowG u cell p)->(flatP (asP l)).length<=248*l.length
  |[],_=>Nat.zero_le _
  |p::l,h=>by
    have ih:=flat_most (l:=l) λ q hq=>h q (List.mem_cons_of_mem _ hq)
    have h1:=(h p (List.mem_cons_self ..)).hi;have h2:fillT cell<=248:=Nat.div_le_self ..;have e:(flatP (asP (p::l))).length=p.2.length+(flatP (asP l)).length:=(by unfold asP flatP;rw [List.map_cons,List.flatMap_cons,List.length_append]);rw [e,List.length_cons];omega
theorem natI_sn (zs:List Nat){i:Nat}(h:i<zs.length):ints (natI (zs.take i))++[vn (zs[i])]=ints (natI (zs.take (i+1))):=by
  rw [List.take_succ_eq_append_getElem h,natI_snoc]
attribute [local irreducible] crk crL crc Sl pt ro Dev imgS recS readS recsF rdW rdO rkT Parts rvl recordsS runsL adrF kcl xcl kys runA runsF layF ovF TxA adZ WkA comS conB rootV ptsV
theorem Zbm {p r:Prop}(k:r)(h:Kq r->p:=by intro k;refine tv (o_fieldAddr (o:=0) underlying203 rfl rfl sz3 rfl) ?_;refine tv (o_load p3 rfl hsqz rfl) ?_;exact k.o):p:=h ⟨k⟩
theorem Blocks15_c {A R:SP}{C:SP->SP}{X:WkX}{Y:WkY}{T:WkT}{s:DevS}(hc:Ct A (WkA X Y s) R C:=by exact cbqz)(hok:WkOk X Y T (s.ls.length*64))(hb:WkB X s)(ho:s.off=false:=by assumption){ref cell:Nat}(hr1:ref<4294967296)(hcell:1<=cell/\ cell<=62):
    Fn Tryz.prog 33 #[.pointer (some ⟨X.w,0,none⟩),.int .u32 ((ref:Nat):Int),vn cell] A (λ r B=>∃l e a c,partsR (usedB T) (conB T s X.ba) X.n cell ref=(l,e)/\ r= .tuple #[.slice a l.length c,.int .i64 e]/\ (l.length<=c/\ l.length<=X.n+1)/\ B=A*Sl 1 (.slice a l.length c) l.length (ints (natI (l.map (·.1))))):=by
  refine fn_enterW func33 rfl ntmps33 (by simp) ?_;obtain ⟨hb1,hb2,hb3⟩:=id hb;have hfp:=fill_pos hcell;refine tc_have (λ _ _ h=>txa_wf (wka_txa hc) _ _ h) λ hwf=> ?_
  refine Zcc ?_;refine Zf6 ?_;refine tl_c rfl (o_call bd120 rfl (parts15_c (hc:=hc) (hok:=hok) (hb:=hb) (hr1:=hr1) (hcell:=hcell))) ?_;rintro _ _ ⟨l17,e17,a17,c17,xs17,Z17,hp17,rfl,hq17,rfl⟩;obtain ⟨⟨hlc,hln⟩,hrs,hps⟩:=hq17;have hlm:(l17.map (·.1)).length=l17.length:=List.length_map ..;refine Zbq ?_;refine Za ?_;refine Zcb ?_;refine Zdc ?_;refine tc_pre (A':=A*Z17*Sl 1 (.slice none 0 0) 0 []) (λ _ _ h=>sl_nil h) ?_;refine tc_loop (λ kk ρ BB=>∃ (i:Nat) (a2:Option Addr) (c2:Nat),(i<=l17.length/\ i<=c2)/\ kk=l17.length-i/\ ρ 10= .slice a2 i c2/\ ρ 22=(vn i)/\ ρ 9= .int .i64 e17/\ ρ 20= .slice a17 l17.length c17/\ ρ 21=(vn l17.length)/\ Dr BB (A*Z17*Sl 1 (.slice a2 i c2) i (ints (natI ((l17.map (·.1)).take i))))) (m:=l17.length-(0)) ?_ ?_
  . exact ⟨0,none,0,⟨Nat.zero_le _,Nat.zero_le _⟩,rfl,rfl,rfl,rfl,rfl,rfl,drqz⟩
  intro k ρ B hI;obtain ⟨i,a2,c2,hp0,hkk1,hE10,hE22,hE9,hE20,hE21,hBA⟩:=hI;refine tc_pre hBA.sat ?_;clear hBA;refine te 10 hE10 ?_;refine te 22 hE22 ?_;refine te 9 hE9 ?_;refine te 20 hE20 ?_;refine te 21 hE21 ?_;refine Zb9 ?_;refine tc_cond rfl (λ h=> ?_) (λ h=> ?_)
  . obtain ⟨hp0,hp1⟩:=hp0;have hi:i<l17.length:=(by first|omega|(simp at h;omega));have hi2:i<xs17.length:=(by rw [hps.len,asP_n];exact hi);have hi3:i<(asP l17).length:=(by rw [asP_n];exact hi);refine Zdt ?_;refine tv (o_ixP underlying198 sz203 rfl rfl oqz (nn_rs (xs:=ptsV xs17 (asP l17)) (by repeat (first|exact hrs.right|apply Rs.left)) (λ _=>by rw [ptsV_len hps.len,asP_n];omega))) ?_;refine tv (o_ldPN (vs:=xs17[i].cells (asP l17)[i]) a203 sz203 rfl (by repeat (first|exact hrs.right|apply Rs.left)) (ptsV_at hi3 hi2) rfl (by decide)) ?_;refine tl_x rfl (o_alloc (l:=[.int .i64 0,.slice none 0 0,.bool false]) z203 rfl) ?_;rintro _ _ ⟨b12,rfl,rfl⟩;refine tl_u rfl (o_stUN (l':=xs17[i].cells (asP l17)[i]) rfl upqz sz203 rfl rfl rfl (by exact Nat.le_refl 3) rfl) ?_;refine nq ?_;refine Zbr ?_;refine Zbm ?_;refine tl_env (d:=28) (v:= .int .i64 ((((l17.map (·.1))[i]'(by rw [hlm];exact hi):Nat)):Int)) (by show Value.int .i64 (asP l17)[i].blk=_;rw [asP_at hi,List.getElem_map]) ?_;refine tl_x rfl (o_buildSlice1 underlying34 sz3 z3 wqz rfl) ?_;rintro _ _ ⟨b29,rfl,rfl⟩;refine tl_x rfl (o_apB underlying34 underlying34 sz3 by3 z3 rfl (by decide) (by decide) rfl rfl rfl ctqz rfl rfl oqz (natI_sn _ (by rw [hlm];exact hi))) ?_;rintro _ _ ⟨a30,c30,rfl,hc30,rfl⟩;refine Zeo ?_;exact ⟨_,by omega,i+1,_,_,⟨by omega,hc30⟩,rfl,rfl,rfl,rfl,rfl,rfl,drqz⟩
  obtain ⟨hp0,hp1⟩:=hp0;obtain rfl:i=l17.length:=by first|omega|(simp at h;omega)
  rw [List.take_of_length_le (by rw [hlm];exact Nat.le_refl _)]
  refine Zcs ?_;refine tlm ?_;refine Z6 ?_;exact ⟨_,_,res2 rfl rfl rfl,Dr.sat drqz,l17,e17,a2,c2,hp17,rfl,⟨hp1,hln⟩,rfl⟩
end Go.Vl

namespace Go.Vl
open Go Go.Proofs Go.Proofs.Tryz
inductive ChT (c:Nat->List Nat):Nat->List Nat->Prop
  |nil:ChT c 0 []
  |cons {b:Nat} {l:List Nat} (h:ChT c (nm ((c b).take 4)) l):ChT c (b+1) (b::l)
theorem cht_det {c:Nat->List Nat}:∀{ref:Nat} {l m:List Nat},ChT c ref l->ChT c ref m->l=m
  |_,_,_,.nil,.nil=>rfl
  |_,_,_,.cons h,.cons k=>congrArg _ (cht_det h k)
theorem cht_mem {c:Nat->List Nat}{b:Nat}:∀{ref:Nat} {l:List Nat},ChT c ref l->b∈l->∃m,ChT c (b+1) (b::m)/\ m.length<l.length
  |_,_,.nil,h=>by cases h
  |_,_,.cons (b:=x) (l:=l) k,h=>by
    rcases List.mem_cons.1 h with rfl|h
    . exact ⟨l,.cons k,Nat.lt_succ_self _⟩
    obtain ⟨m,h1,h2⟩:=cht_mem k h;exact ⟨m,h1,Nat.lt_succ_of_lt h2⟩
theorem cht_nodup {c:Nat->List Nat}:∀{ref:Nat} {l:List Nat},ChT c ref l->l.Nodup
  |_,_,.nil=>List.nodup_nil
  |_,_,.cons (b:=x) (l:=l) k=>List.nodup_cons.2 ⟨λ h=>by
      obtain ⟨m,h1,h2⟩:=cht_mem k h;have:=cht_det h1 (.cons k);have h3:m=l:=(List.cons.inj this).2;rw [h3] at h2
      exact Nat.lt_irrefl _ h2,cht_nodup k⟩
theorem parts_cht {u:Nat->Bool}{c:Nat->List Nat}{nb cell:Nat}:∀{k ref:Nat} {out l:List (Nat×List (List Nat))},partsS u c nb cell k ref out=some l->∃m,l=out++m/\ ChT c ref (m.map (·.1))
  |0,_,_,_,h=>by cases h
  |k+1,ref,out,l,h=>by
    rw [partsS_eq] at h
    by_cases h0:ref=0
    . rw [if_pos h0] at h;obtain rfl:=Option.some.inj h;exact ⟨[],by rw [List.append_nil],h0▸ .nil⟩
    rw [if_neg h0] at h
    split at h
    . cases h
    split at h
    . cases h
    split at h
    . cases h
    split at h
    . cases h
    obtain ⟨m,h1,h2⟩:=parts_cht h;refine ⟨_::m,by rw [h1,List.append_assoc];rfl, ?_⟩;obtain ⟨b,rfl⟩:∃b,ref=b+1:=⟨ref-1,by omega⟩;exact .cons h2
theorem partsR_nodup {u:Nat->Bool}{c:Nat->List Nat}{nb cell ref:Nat}{l:List (Nat×List (List Nat))}{e:Int}(h:partsR u c nb cell ref=(l,e)):(l.map (·.1)).Nodup:=by
  unfold partsR at h
  cases hp:partsS u c nb cell (nb+3) ref [] with
  |none=>rw [hp] at h;simp only [Prod.mk.injEq] at h;rw [←h.1];exact List.nodup_nil
  |some l2=>
    rw [hp] at h;simp only [Prod.mk.injEq] at h;rw [←h.1]
    obtain ⟨m,h1,h2⟩:=parts_cht hp;rw [h1];exact cht_nodup h2
theorem flatP_at:∀{l:List Prt} {i j:Nat} (h:i<l.length) (hj:j<l[i].cells.length),(flatP l)[(flatP (l.take i)).length+j]? =some l[i].cells[j]
  |p::l,0,j,h,hj=>by
    rw [List.take_zero,flatP_cons]
    have hj:j<p.cells.length:=hj
    show (p.cells++flatP l)[0+j]? =some (p.cells[j]'hj)
    rw [Nat.zero_add,List.getElem?_append_left hj,List.getElem?_eq_getElem hj]
  |p::l,i+1,j,h,hj=>by
    rw [List.take_succ_cons,flatP_cons,flatP_cons,List.length_append,Nat.add_assoc,List.getElem?_append_right oqz,Nat.add_sub_cancel_left]
    exact flatP_at (l:=l) (by simpa using h) hj
theorem take_more {α:Type}{l:List α}{n:Nat}{x:α}(h:l[n]? =some x):l.take (n+1)=l.take n++[x]:=by
  obtain ⟨hn,rfl⟩:=List.getElem?_eq_some_iff.1 h;exact List.take_succ_eq_append_getElem hn
attribute [local irreducible] crk crL crc Sl pt ro Dev imgS recS readS recsF rdW rdO rkT Parts rvl recordsS runsL adrF kcl xcl kys runA runsF layF ovF TxA adZ WkA comS conB rootV ptsV
theorem Cells15_c {A R:SP}{C:SP->SP}{X:WkX}{Y:WkY}{T:WkT}{s:DevS}(hc:Ct A (WkA X Y s) R C:=by exact cbqz)(hok:WkOk X Y T (s.ls.length*64))(hb:WkB X s)(ho:s.off=false:=by assumption){ref cell:Nat}(hr1:ref<4294967296)(hcell:1<=cell/\ cell<=62):
    Fn Tryz.prog 32 #[.pointer (some ⟨X.w,0,none⟩),.int .u32 ((ref:Nat):Int),vn cell] A (λ r B=>∃l e a c vs Z,partsR (usedB T) (conB T s X.ba) X.n cell ref=(l,e)/\ r= .tuple #[.slice a (flatP (asP l)).length c,.int .i64 e]/\ ((flatP (asP l)).length<=c/\ Rs Z a vs/\ RwOk Z cell vs (flatP (asP l)))/\ B=A*Z):=by
  refine fn_enterW func32 rfl ntmps32 (by simp) ?_;obtain ⟨hb1,hb2,hb3⟩:=id hb;have hfp:=fill_pos hcell;refine tc_have (λ _ _ h=>txa_wf (wka_txa hc) _ _ h) λ hwf=> ?_
  refine Zcc ?_;refine Zf6 ?_;refine tl_c rfl (o_call bd120 rfl (parts15_c (hc:=hc) (hok:=hok) (hb:=hb) (hr1:=hr1) (hcell:=hcell))) ?_;rintro _ _ ⟨l19,e19,a19,c19,xs19,Z19,hp19,rfl,hq19,rfl⟩;obtain ⟨⟨hlc,hln⟩,hrs,hps⟩:=hq19;have hrg:=partsR_rows hok hb hwf hp19;have hrf:=rowG_flat hrg;have hfm:=flat_most hrg;obtain ⟨L,hL⟩:∃L,asP l19=L:=⟨_,rfl⟩;have hLn:L.length=l19.length:=(by rw [←hL,asP_n]);rw [hL] at hrs hps hrf hfm
  refine Zbq ?_;refine Za ?_;refine Zcb ?_;refine Zdc ?_;refine tc_pre (A':=A*Z19*Sl 1 (.slice none 0 0) 0 []*Sl 1 (.slice none 0 0) 0 []) (λ _ _ h=>sl_nil (sl_nil h)) ?_;refine tc_loop (λ kk ρ BB=>∃ (i:Nat) (a2:Option Addr) (c2:Nat) (vs:List Value) (Z2:SP),(i<=l19.length)/\ (vs.length<=c2)/\ (vs.length=(flatP (L.take i)).length)/\ (RwOk Z2 cell vs ((flatP L).take vs.length))/\ kk=l19.length-i/\ ρ 10= .slice a2 vs.length c2/\ ρ 24=(vn i)/\ ρ 9= .int .i64 e19/\ ρ 22= .slice a19 l19.length c19/\ ρ 23=(vn l19.length)/\ Dr BB (A*Z19*Sl 1 (.slice a2 vs.length c2) vs.length vs*Z2)) (m:=l19.length-(0)) ?_ ?_
  . exact ⟨0,none,0,([]:List Value),Sl 1 (.slice none 0 0) 0 [],Nat.zero_le _,Nat.zero_le _,by rw [List.take_zero];rfl,rw_nil _ _,rfl,rfl,rfl,rfl,rfl,rfl,by exact dr_refl⟩
  intro k ρ B hI;obtain ⟨i,a2,c2,vs,Z2,hp0,hp1,hp2,hp3,hkk1,hE10,hE24,hE9,hE22,hE23,hBA⟩:=hI;refine tc_pre hBA.sat ?_;clear hBA;refine te 10 hE10 ?_;refine te 24 hE24 ?_;refine te 9 hE9 ?_;refine te 22 hE22 ?_;refine te 23 hE23 ?_;refine Zb9 ?_;refine tc_cond rfl (λ h=> ?_) (λ h=> ?_)
  . have hi:i<l19.length:=(by first|omega|(simp at h;omega));have hi3:i<L.length:=(by rw [hLn];exact hi);have hi2:i<xs19.length:=(by rw [hps.len];exact hi3);have hpt:=hps.ok i hi3 hi2;have hft:=flat_take hi3;have hfl:=flat_take_le L (i+1);obtain ⟨p,hp⟩:∃p,L[i]=p:=⟨_,rfl⟩;obtain ⟨x,hx⟩:∃x,xs19[i]=x:=⟨_,rfl⟩;rw [hp] at hft
    rw [hp,hx] at hpt
    have hpl:=hpt.w.1;have hpat:((ptsV xs19 L).drop (i*3)).take 3=x.cells p:=(by rw [ptsV_at hi3 hi2,hp,hx]);refine Zdt ?_;refine tv (o_ixP underlying198 sz203 rfl rfl oqz (nn_rs (xs:=ptsV xs19 L) (by repeat (first|exact hrs.right|apply Rs.left)) (λ _=>by rw [ptsV_len hps.len];omega))) ?_;refine tv (o_ldPN (vs:=x.cells p) a203 sz203 rfl (by repeat (first|exact hrs.right|apply Rs.left)) hpat rfl (by decide)) ?_;refine tl_x rfl (o_alloc (l:=[.int .i64 0,.slice none 0 0,.bool false]) z203 rfl) ?_;rintro _ _ ⟨b12,rfl,rfl⟩;refine tl_u rfl (o_stUN (l':=x.cells p) rfl upqz sz203 rfl rfl rfl (by exact Nat.le_refl 3) rfl) ?_;refine nq ?_;refine sr ?_;refine Zby ?_;refine tl_env (d:=29) (v:= .slice x.a p.cells.length x.c) (rfl) ?_;refine tv (o_len underlying35 rfl) ?_;refine Zb6 ?_;refine tc_loop (λ kk ρ BB=>∃ (j:Nat) (a2:Option Addr) (c2:Nat) (vs:List Value) (Z2:SP),(j<=p.cells.length)/\ (vs.length<=c2)/\ (vs.length=(flatP (L.take i)).length+j)/\ (RwOk Z2 cell vs ((flatP L).take vs.length))/\ kk=p.cells.length-j/\ ρ 10= .slice a2 vs.length c2/\ ρ 31=(vn j)/\ ρ 9= .int .i64 e19/\ ρ 22= .slice a19 l19.length c19/\ ρ 23=(vn l19.length)/\ ρ 24=(vn i)/\ ρ 29= .slice x.a p.cells.length x.c/\ ρ 30=(vn p.cells.length)/\ Dr BB (A*Z19*Sl 1 (.slice a2 vs.length c2) vs.length vs*Z2)) (m:=p.cells.length-(0)) ?_ ?_
    . exact ⟨0,a2,c2,vs,Z2,Nat.zero_le _,hp1,hp2,hp3,rfl,rfl,rfl,rfl,rfl,rfl,rfl,rfl,rfl,drqz⟩
    intro k ρ B hI;obtain ⟨j,a2,c2,vs,Z2,hq0,hq1,hq2,hq3,hkk2,hE10,hE31,hE9,hE22,hE23,hE24,hE29,hE30,hBA⟩:=hI;refine tc_pre hBA.sat ?_;clear hBA;refine te 10 hE10 ?_;refine te 31 hE31 ?_;refine te 9 hE9 ?_;refine te 22 hE22 ?_;refine te 23 hE23 ?_;refine te 24 hE24 ?_;refine te 29 hE29 ?_;refine te 30 hE30 ?_;refine Zb9 ?_;refine tc_cond rfl (λ h=> ?_) (λ h=> ?_)
    . have hj:j<p.cells.length:=(by first|omega|(simp at h;omega));obtain ⟨ra,rc,hrv,hrr⟩:=hpt.w.2 j hj;obtain ⟨y,hy⟩:∃y,p.cells[j]=y:=⟨_,rfl⟩;rw [hy] at hrr
      have hfn:(flatP L).take (vs.length+1)=(flatP L).take vs.length++[y]:=take_more (by subst hp;rw [hq2,flatP_at hi3 hj,hy]);have hyl:=(hrf y (by subst hp;exact List.mem_flatMap.2 ⟨L[i],List.getElem_mem hi3,hy▸List.getElem_mem hj⟩)).1;refine Zdt ?_;refine tv (o_ixP1 (a:=x.a) underlying35 sz67 rfl rfl oqz (nn_rs (xs:=x.vs) (by repeat (first|exact hpt.r.right|apply Rs.left)) (λ _=>by rw [hpl];omega))) ?_;refine tv (o_ldP (a:=x.a) (xs:=x.vs) p67 rfl (by repeat (first|exact hpt.r.right|apply Rs.left)) hrv) ?_;refine Zfx ?_;refine tl_c rfl (o_call bd121 rfl (Clone_c (xs:=y) (hr:=(by repeat (first|exact hrr.right|apply Rs.left))) (hx:=hyl) (hn:=by omega) (h0:=by omega))) ?_;rintro _ _ ⟨a37,c37,rfl,hc37,rfl⟩;refine tl_x rfl (o_buildSlice1 underlying35 sz67 z67 wqz rfl) ?_;rintro _ _ ⟨b38,rfl,rfl⟩;refine tl_x rfl (o_apB underlying35 underlying35 sz67 by67 z67 rfl (by decide) (by decide) rfl rfl rfl ctqz rfl rfl oqz rfl) ?_;rintro _ _ ⟨a39,c39,rfl,hc39,rfl⟩;refine Zeo ?_;exact ⟨_,by omega,j+1,_,_,vs++[.slice a37 cell c37],Z2*Sl 1 (.slice a37 cell c37) cell (bys y),by omega,by rw [List.length_append];exact hc39,by rw [List.length_append,List.length_singleton];omega,by rw [List.length_append,List.length_singleton,hfn];exact rw_app hq3.left (rw_one rs_sl),rfl,by rw [List.length_append];rfl,rfl,rfl,rfl,rfl,rfl,rfl,rfl,by rw [List.length_append,←star_assoc];repeat (first|with_reducible exact dr_refl|apply dr_keep|apply dr_drop)⟩
    obtain rfl:j=p.cells.length:=by first|omega|(simp at h;omega)
    refine Zcw ?_;refine Zgo ?_;exact ⟨_,by omega,i+1,a2,c2,vs,Z2,by omega,hq1,by rw [hft];omega,hq3,rfl,rfl,rfl,rfl,rfl,rfl,drqz⟩
  obtain rfl:i=l19.length:=by first|omega|(simp at h;omega)
  rw [List.take_of_length_le oqz] at hp2
  rw [hp2,List.take_length] at hp3
  refine Zcs ?_;refine tlm ?_;refine Z6 ?_;exact ⟨.tuple #[.slice a2 vs.length c2,.int .i64 e19],A*(Sl 1 (.slice a2 vs.length c2) vs.length vs*Z2),res2 rfl rfl rfl,(λ g w h=>by rw [←star_assoc];exact Dr.sat drqz g w h),l19,e19,a2,c2,vs,Sl 1 (.slice a2 vs.length c2) vs.length vs*Z2,hp19,by rw [hL,hp2],⟨by rw [hL,←hp2];exact hp1,(rs_slo).left,by rw [hL];exact hp3.right⟩,rfl⟩
end Go.Vl

namespace Go.Vl
open Go Go.Proofs Go.Proofs.Tryz
theorem partsR_cases (u:Nat->Bool)(c:Nat->List Nat)(nb cell ref:Nat):(partsR u c nb cell ref).2=0∨partsR u c nb cell ref=([],150):=by
  unfold partsR
  cases partsS u c nb cell (nb+3) ref [] with
  |none=>exact .inr rfl
  |some l=>exact .inl rfl
attribute [local irreducible] crk crL crc Sl pt ro Dev imgS recS readS recsF rdW rdO rkT Parts rvl recordsS runsL adrF kcl xcl kys runA runsF layF ovF TxA adZ WkA comS conB rootV ptsV
theorem Drop15_c {A R:SP}{C:SP->SP}{X:WkX}{Y:WkY}{T:WkT}{s:DevS}(hc:Ct A (WkA X Y s) R C:=by exact cbqz)(hok:WkOk X Y T (s.ls.length*64))(hb:WkB X s)(ho:s.off=false:=by assumption){ref cell:Nat}(hr1:ref<4294967296)(hcell:1<=cell/\ cell<=62):
    Fn Tryz.prog 37 #[.pointer (some ⟨X.w,0,none⟩),.int .u32 ((ref:Nat):Int),vn cell] A (λ r B=>∃l e Y2,partsR (usedB T) (conB T s X.ba) X.n cell ref=(l,e)/\ r= .int .i64 e/\ WkOk X Y2 ((l.map (·.1)).foldl WkT.give T) (s.ls.length*64)/\ B=C (WkA X Y2 s)):=by
  refine fn_enterW func37 rfl ntmps37 (by simp) ?_;obtain ⟨hb1,hb2,hb3⟩:=id hb;have hfp:=fill_pos hcell;refine tc_have (λ _ _ h=>txa_wf (wka_txa hc) _ _ h) λ hwf=> ?_
  obtain ⟨rfl,hC⟩:=hc;refine Zdg ?_;refine Zt ?_;refine tl_c rfl (o_call bd33 rfl (Blocks15_c (X:=X) (Y:=Y) (T:=T) (s:=s) (hok:=hok) (hb:=hb) (hr1:=hr1) (hcell:=hcell))) ?_;rintro _ _ ⟨l16,e16,a16,c16,hp16,rfl,hq16,rfl⟩;obtain ⟨hlc,hln⟩:=hq16;have hrg:=partsR_rows hok hb hwf hp16;have hnd:=partsR_nodup hp16;have hcs:=partsR_cases (usedB T) (conB T s X.ba) X.n cell ref;rw [hp16] at hcs
  obtain ⟨L,hL⟩:∃L,l16.map (·.1)=L:=⟨_,rfl⟩;have hLn:l16.length=L.length:=(by rw [←hL,List.length_map]);rw [hLn] at hlc hln
  rw [hL] at hnd
  have hus:∀b∈L,usedB T b=true:=λ b hb=>by rw [←hL] at hb;obtain ⟨p,hp,rfl⟩:=List.mem_map.1 hb;exact (hrg p hp).u
  rw [hLn,hL]
  refine Zdu ?_;refine Z5 ?_;refine tc_cond rfl (λ h=> ?_) (λ h=> ?_)
  . have he0:l16=[]:=(by rcases hcs with h1|h1;exact absurd h1 (by first|exact of_decide_eq_true h|simpa using h);exact (Prod.mk.inj h1).1);refine Zg4 ?_;exact ⟨.int .i64 e16,C (WkA X Y s),res1 rfl rfl,(λ g w h=>by rw [hC];exact Dr.sat (A':=R*WkA X Y s) drqz g w h),l16,e16,Y,hp16,rfl,by rw [he0];exact hok,rfl⟩
  have he0:e16=0:=(by first|(have h9:=of_decide_eq_false h;omega)|(simp at h;omega));refine Zcr ?_;refine Zgt ?_;refine tc_loop (λ kk ρ BB=>∃ (i:Nat) (Yi:WkY),(i<=L.length)/\ (WkOk X Yi ((L.take i).foldl WkT.give T) (s.ls.length*64))/\ (∀b∈L.drop i,usedB ((L.take i).foldl WkT.give T) b=true)/\ kk=L.length-i/\ ρ 24=(vn i)/\ ρ 0= .pointer (some ⟨X.w,0,none⟩)/\ ρ 22= .slice a16 L.length c16/\ ρ 23=(vn L.length)/\ Dr BB (R*WkA X Yi s*Sl 1 (.slice a16 L.length c16) L.length (ints (natI L)))) (m:=L.length-(0)) ?_ ?_
  . exact ⟨0,Y,by omega,by rw [List.take_zero];exact hok,by rw [List.take_zero,List.drop_zero];exact hus,rfl,rfl,rfl,rfl,rfl,drqz⟩
  intro k ρ B hI;obtain ⟨i,Yi,hp0,hp1,hp2,hkk1,hE24,hE0,hE22,hE23,hBA⟩:=hI;refine tc_pre hBA.sat ?_;clear hBA;refine te 24 hE24 ?_;refine te 0 hE0 ?_;refine te 22 hE22 ?_;refine te 23 hE23 ?_;refine Zb9 ?_;refine tc_cond rfl (λ h=> ?_) (λ h=> ?_)
  . have hi:i<L.length:=(by first|omega|(simp at h;omega));obtain ⟨x,hx⟩:∃x,L[i]=x:=⟨_,rfl⟩;have hxu:=hp2 x (by rw [List.drop_eq_getElem_cons hi,hx];exact List.mem_cons_self ..);refine Zdt ?_;refine tv (o_ixP1 (a:=a16) (j:=i) underlying34 sz3 rfl rfl oqz (nn_rs (xs:=ints (natI L)) sq0z (by rw [ints_length,natI_len];omega))) ?_;refine tv (o_ldP (a:=a16) (xs:=ints (natI L)) p3 rfl sq0z (natI_at hi)) ?_;refine tl_env (d:=27) (v:=(vn x)) (by show Value.int .i64 ((L[i]:Nat):Int)=_;rw [hx]) ?_;refine Zhd ?_;refine tl_c rfl (o_call bd105 rfl (Give13_ok (X:=X) (Y:=Yi) (T:=(L.take i).foldl WkT.give T) (s:=s) (b:=x) (hok:=hp1) (hb:=hb) (hu:=hxu))) ?_;rintro _ _ ⟨Y30,rfl,hok30,rfl⟩;refine Zz ?_;refine Zbd ?_;intro h;refine Zem ?_;refine Zbz ?_;exact ⟨_,by omega,i+1,Y30,by omega,by rw [foldl_snoc _ _ _ _ hi,hx];exact hok30,(λ b hb=>(by rw [foldl_snoc _ _ _ _ hi,hx,give_used hp1 hxu,hp2 b (by rw [List.drop_eq_getElem_cons hi];exact List.mem_cons_of_mem _ hb)];have:=mem_drop_ne hnd hi b hb;rw [hx] at this;simp [this])),rfl,rfl,rfl,rfl,rfl,drqz⟩
  obtain rfl:i=L.length:=by first|omega|(simp at h;omega)
  rw [List.take_length] at hp1
  refine Zk ?_;refine Zcd ?_;exact ⟨.int .i64 0,C (WkA X Yi s),res1 rfl rfl,(λ g w h=>by rw [hC];exact Dr.sat (A':=R*WkA X Yi s) drqz g w h),l16,e16,Yi,hp16,by rw [he0],by rw [hL];exact hp1,rfl⟩
end Go.Vl

namespace Go.Vl
open Go Go.Proofs Go.Proofs.Tryz
def wr1 (ba cell:Nat)(s:DevS)(l:List Prt)(k:Nat)(T:WkT):WkT:=match l[k]? with
  |none=>T
  |some p=>if p.fresh=false/\ conB T s ba p.blk.toNat=rowT cell l k then T else T.write ba p.blk.toNat (rowT cell l k)
theorem writeP_step {ba cell:Nat}{s:DevS}{l:List Prt}{j:Nat}{T:WkT}(hj:j+1<=l.length):writeP ba cell s l (j+1) T=writeP ba cell s l j (wr1 ba cell s l (l.length-(j+1)) T):=by
  conv=>lhs;unfold writeP
  unfold wr1
  rw [List.getElem?_eq_getElem (show l.length-(j+1)<l.length by omega)]
theorem tblS_bytes {nx cell:Nat}{cs:List (List Nat)}(h:∀x∈cs,∀y∈x,y<256):∀y∈tblS nx cell cs,y<256:=λ y hy=>by
  unfold tblS at hy
  simp only [List.mem_append,List.mem_flatten,List.mem_replicate] at hy
  rcases hy with (((h1|h1)|h1)|⟨x,h1,h2⟩)|⟨_,rfl⟩
  . exact le_bytes _ _ _ h1
  . exact le_bytes _ _ _ h1
  . exact le_bytes _ _ _ h1
  . exact h x h1 y h2
  decide
theorem flat_take1 {cs:List (List Nat)}{j:Nat}(h:j<cs.length):(cs.take (j+1)).flatten=(cs.take j).flatten++cs[j]:=by
  rw [List.take_succ_eq_append_getElem h,List.flatten_append];simp
attribute [local irreducible] crk crL crc Sl pt ro Dev imgS recS readS recsF rdW rdO rkT Parts rvl recordsS runsL adrF kcl xcl kys runA runsF layF ovF TxA adZ WkA comS conB rootV ptsV
theorem write15_c {A R:SP}{C:SP->SP}{X:WkX}{Y:WkY}{T:WkT}{s:DevS}(hc:Ct A (WkA X Y s) R C:=by exact cbqz)(hok:WkOk X Y T (s.ls.length*64))(hb:WkB X s)(ho:s.off=false:=by assumption){a:Option Addr}{c iq cell:Nat}{xs:List PtV}{l:List Prt}(hcell:1<=cell/\ cell<=62)(hr:Rs R a (ptsV xs l))(hps:PsOk R cell xs l)(hk:iq<l.length)(hfi:l[iq].cells.length<=fillT cell)(hce:∀x∈l[iq].cells,x.length=cell/\∀y∈x,y<256)(hbk:0<=l[iq].blk/\ usedB T l[iq].blk.toNat=true)(hnx:∀p,l[iq+1]? =some p->0<=p.blk/\ p.blk.toNat<X.n)(hll:l.length<=4194304){m:Nat}(hm:l.length=m):
    Fn Tryz.prog 160 #[.pointer (some ⟨X.w,0,none⟩),.slice a m c,vn iq,vn cell] A (λ r B=>∃Y2,r= .int .i64 0/\ WkOk X Y2 (wr1 X.ba cell s l iq T) (s.ls.length*64)/\ B=C (WkA X Y2 s)):=by
  refine fn_enterW func160 rfl ntmps160 (by simp) ?_;obtain ⟨hb1,hb2,hb3⟩:=id hb;have hfp:=fill_pos hcell;refine tc_have (λ _ _ h=>txa_wf (wka_txa hc) _ _ h) λ hwf=> ?_
  obtain ⟨rfl,hC⟩:=hc;have hi2:iq<xs.length:=(by rw [hps.len];exact hk);have hpt:=hps.ok iq hk hi2;obtain ⟨x,hx⟩:∃x,xs[iq]=x:=⟨_,rfl⟩;have hpat:=ptsV_at hk hi2;obtain ⟨p,hp⟩:∃p,l[iq]=p:=⟨_,rfl⟩;rw [hp,hx] at hpt hpat
  rw [hp] at hfi hce hbk
  obtain ⟨hbz,hu⟩:=hbk;obtain ⟨b,hbn⟩:∃b,p.blk.toNat=b:=⟨_,rfl⟩;rw [hbn] at hu
  have hbi:p.blk=((b:Nat):Int):=(by omega);have hun:=used_n hok hu;have hfm:=fill_mul cell p.cells.length hfi;refine sr ?_;refine Zbf ?_
  -- path 
  refine q_then_n ?_;refine Zh4 ?_;refine tv (o_ixP underlying198 sz203 rfl rfl oqz (nn_rs (xs:=ptsV xs l) (by repeat (first|exact hr|apply Rs.left)) (λ _=>by rw [ptsV_len hps.len];omega))) ?_;refine tv (o_ldPN (vs:=x.cells p) a203 sz203 rfl (by repeat (first|exact hr|apply Rs.left)) hpat rfl (by decide)) ?_;refine tl_x rfl (o_alloc (l:=[.int .i64 0,.slice none 0 0,.bool false]) z203 rfl) ?_;rintro _ _ ⟨b9,rfl,rfl⟩;refine tl_u rfl (o_stUN (l':=x.cells p) rfl upqz sz203 rfl rfl rfl (by exact Nat.le_refl 3) rfl) ?_;refine tl_nil ?_
  -- path 
  refine q_then_n ?_;refine sr ?_;refine Zbf ?_
  -- path 
  refine q_then_n ?_;refine Zm ?_;refine tv adqz ?_;refine tlm ?_;refine tv (o_len underlying198 rfl) ?_;refine tv (o_lss rfl rfl) ?_;refine tl_nil ?_
  -- path 
  refine q_then_n ?_;refine tc_cut (λ ρ BB=>∃ (nx:Nat),(nx=((l[iq+1]?).map (λ p=>p.blk.toNat+1)).getD 0)/\ (nx<4294967296)/\ ρ 10= .int .u32 ((nx:Nat):Int)/\ ρ 0= .pointer (some ⟨X.w,0,none⟩)/\ ρ 3=(vn cell)/\ ρ 9=(pz b9)/\ Dr BB (R*WkA X Y s*pt b9 (cl (x.cells p) 203))) ?_ ?_
  . skip
    refine tc_cond rfl (λ h=> ?_) (λ h=> ?_)
    . have hk1:iq+1<l.length:=(by first|omega|(simp at h;omega));obtain ⟨hn1,hn2⟩:=hnx _ (List.getElem?_eq_getElem hk1);have hi4:iq+1<xs.length:=(by rw [hps.len];exact hk1);obtain ⟨nb,hnb⟩:∃nb,l[iq+1].blk.toNat=nb:=⟨_,rfl⟩;rw [hnb] at hn2
      have hnbi:l[iq+1].blk=((nb:Nat):Int):=(by omega);have hnx0:nb+1=((l[iq+1]?).map (λ p=>p.blk.toNat+1)).getD 0:=(by rw [List.getElem?_eq_getElem hk1,Option.map_some,Option.getD_some,hnb]);refine Zb0 ?_;refine tv adqz ?_;refine tl_env (d:=27) (v:=(vn (iq+1))) (by first|rfl|exact congrArg (Value.int .i64) oqz) ?_;refine tv (o_ixP (j:=iq+1) underlying198 sz203 rfl rfl oqz (nn_rs (xs:=ptsV xs l) (by repeat (first|exact hr|apply Rs.left)) (λ _=>by rw [ptsV_len hps.len];omega))) ?_;refine tv (o_faP (m:=0) (o:=0) underlying203 rfl rfl sz3 rfl (nn_rs (xs:=ptsV xs l) (by repeat (first|exact hr|apply Rs.left)) (λ _=>by rw [ptsV_len hps.len];omega))) ?_;refine tv (o_ldP (xs:=ptsV xs l) (v:= .int .i64 l[iq+1].blk) p3 rfl (by repeat (first|exact hr|apply Rs.left)) ((ptsV_get (i:=iq+1) (j:=0) hk1 hi4 (by decide)).trans rfl)) ?_;refine tl_env (d:=30) (v:=(vn nb)) (by show Value.int .i64 l[iq+1].blk=_;rw [hnbi]) ?_;refine tv (o_addI rfl rfl oqz) ?_;refine tl_env (d:=31) (v:=(vn (nb+1))) (by first|rfl|exact congrArg (Value.int .i64) oqz) ?_;refine tv (o_conv32 (a:=nb+1) underlying3 underlying53 rfl) ?_;refine tl_env (d:=32) (v:= .int .u32 ((nb+1:Nat):Int)) (congrArg (λ z:Nat=>Value.int .u32 (z:Int)) (Nat.mod_eq_of_lt oqz)) ?_;refine Zbf ?_
      -- path t
      exact ⟨nb+1,hnx0,by omega,rfl,rfl,rfl,rfl,drqz⟩
    have hnx0:0=((l[iq+1]?).map (λ p=>p.blk.toNat+1)).getD 0:=(by rw [List.getElem?_eq_none (by first|omega|(simp at h;omega))];rfl);refine tc_skip ?_
    -- path f
    exact ⟨0,hnx0,by omega,rfl,rfl,rfl,rfl,drqz⟩
  intro ρ B hI;obtain ⟨nx,hj0,hj1,hE10,hE0,hE3,hE9,hBA⟩:=hI
  -- path j
  refine q_then_n ?_;refine tc_pre hBA.sat ?_;clear hBA;refine te 10 hE10 ?_;refine te 0 hE0 ?_;refine te 3 hE3 ?_;refine te 9 hE9 ?_;refine tc_seq ?_;have hrow:rowT cell l iq=tblS nx cell p.cells:=(by unfold rowT;rw [←hj0,List.getElem?_eq_getElem hk,hp];rfl);refine Zbr ?_;refine tl_c rfl (o_call bd74 rfl (Put32_c (xs:=[]) (v:=nx))) ?_;rintro _ _ ⟨a34,c34,rfl,hc34,rfl⟩;refine tl_env (d:=34) (v:= .slice a34 4 c34) (rfl) ?_;refine Zbf ?_
  -- path j
  refine q_then_n ?_;refine Zb ?_;refine Zby ?_;refine tl_env (d:=37) (v:= .slice x.a p.cells.length x.c) (rfl) ?_;refine tv (o_len underlying35 rfl) ?_;refine tv (o_conv16 (a:=p.cells.length) underlying3 underlying287 rfl) ?_;refine tl_env (d:=39) (v:= .int .u16 ((p.cells.length:Nat):Int)) (congrArg (λ z:Nat=>Value.int .u16 (z:Int)) (Nat.mod_eq_of_lt oqz)) ?_;refine tl_c rfl (o_call bd232 rfl (Put16_c (m:=4) (xs:=[]++le 4 nx) (v:=p.cells.length) (hr:=rs_sl) (hm:=by rw [List.nil_append,le_length]))) ?_;rintro _ _ ⟨a40,c40,rfl,hc40,rfl⟩;refine tl_env (d:=40) (v:= .slice a40 6 c40) (rfl) ?_;refine Zbf ?_
  -- path j
  refine q_then_n ?_;refine Zh4 ?_;refine tv (o_conv16 (a:=cell) underlying3 underlying287 rfl) ?_;refine tl_env (d:=43) (v:= .int .u16 ((cell:Nat):Int)) (congrArg (λ z:Nat=>Value.int .u16 (z:Int)) (Nat.mod_eq_of_lt oqz)) ?_;refine tl_c rfl (o_call bd232 rfl (Put16_c (m:=6) (xs:=[]++le 4 nx++le 2 p.cells.length) (v:=cell) (hr:=rs_sl) (hm:=by simp only [List.nil_append,List.length_append,le_length]))) ?_;rintro _ _ ⟨a44,c44,rfl,hc44,rfl⟩;refine tl_env (d:=44) (v:= .slice a44 8 c44) (rfl) ?_;refine Zbf ?_
  -- path j
  refine q_then_n ?_;refine Ze8 ?_;refine Zby ?_;refine tl_env (d:=46) (v:= .slice x.a p.cells.length x.c) (rfl) ?_;refine tv (o_len underlying35 rfl) ?_;refine tlm ?_;refine tl_nil ?_
  -- path j
  refine q_then_n ?_;refine tc_block ?_;refine tc_pre (A':=R*WkA X Y s*pt b9 (cl (x.cells p) 203)*Sl 1 (.slice a44 8 c44) 8 (bys (le 4 nx++le 2 p.cells.length++le 2 cell++(p.cells.take 0).flatten))) (λ _ _ h=>by rw [List.take_zero,List.flatten_nil,List.append_nil];exact Dr.sat drqz _ _ h) ?_;refine tc_loop (λ kk ρ BB=>∃ (j:Nat) (a3:Option Addr) (m3:Nat) (c3:Nat),(j<=p.cells.length)/\ (m3=8+j*cell/\ m3<=c3)/\ kk=p.cells.length-j/\ ρ 11= .slice a3 m3 c3/\ ρ 48=(vn j)/\ ρ 0= .pointer (some ⟨X.w,0,none⟩)/\ ρ 9=(pz b9)/\ ρ 46= .slice x.a p.cells.length x.c/\ ρ 47=(vn p.cells.length)/\ Dr BB (R*WkA X Y s*pt b9 (cl (x.cells p) 203)*Sl 1 (.slice a3 m3 c3) m3 (bys (le 4 nx++le 2 p.cells.length++le 2 cell++(p.cells.take j).flatten)))) (m:=p.cells.length-(0)) ?_ ?_
  . exact ⟨0,a44,8,c44,Nat.zero_le _,⟨by rw [Nat.zero_mul],hc44⟩,rfl,rfl,rfl,rfl,rfl,rfl,rfl,drqz⟩
  intro k ρ B hI;obtain ⟨j,a3,m3,c3,hp0,hp1,hkk1,hE11,hE48,hE0,hE9,hE46,hE47,hBA⟩:=hI;refine tc_pre hBA.sat ?_;clear hBA;refine te 11 hE11 ?_;refine te 48 hE48 ?_;refine te 0 hE0 ?_;refine te 9 hE9 ?_;refine te 46 hE46 ?_;refine te 47 hE47 ?_;refine sr ?_;refine tv (o_lss rfl rfl) ?_;refine tl_nil ?_
  -- path j
  refine q_then_n ?_;refine tc_seq ?_;refine tc_cond rfl (λ h=> ?_) (λ h=> ?_)
  . have hj:j<p.cells.length:=(by first|omega|(simp at h;omega));obtain ⟨ra,rc,hrv,hrr⟩:=hpt.w.2 j hj;obtain ⟨y,hy⟩:∃y,p.cells[j]=y:=⟨_,rfl⟩;rw [hy] at hrr
    have hyl:=(hce y (hy▸List.getElem_mem hj)).1;have hjm:(j+1)*cell<=p.cells.length*cell:=Nat.mul_le_mul_right _ hj;rw [Nat.succ_mul] at hjm
    have hpl:=hpt.w.1;have hm3:=hp1.1;refine tc_skip ?_
    -- path jt
    refine q_then_n ?_;refine Zu ?_;refine sr ?_;refine tv (o_ixP1 (a:=x.a) underlying35 sz67 rfl rfl oqz (nn_rs (xs:=x.vs) (by repeat (first|exact hpt.r|apply Rs.left)) (λ _=>by rw [hpl];omega))) ?_;refine tv (o_ldP (a:=x.a) (xs:=x.vs) p67 rfl (by repeat (first|exact hpt.r|apply Rs.left)) hrv) ?_;refine Zbf ?_
    -- path jt
    refine q_then_n ?_;refine Zb0 ?_;refine tl_x rfl (o_apR (ys:=bys y) underlying67 underlying67 sz5 by5 z5 rfl (by decide) (by decide) rfl rfl ctqz (by repeat (first|exact hrr|apply Rs.left)) (by rw [bys_length,hyl,Nat.mul_one]) (bys_all _) oqz (show bys _++bys y=bys (le 4 nx++le 2 p.cells.length++le 2 cell++(p.cells.take (j+1)).flatten) by rw [flat_take1 hj,hy,←List.append_assoc];exact (bys_append _ _).symm)) ?_;rintro _ _ ⟨a54,c54,rfl,hc54,rfl⟩;refine Zbf ?_
    -- path jt
    refine Zr ?_;refine tv adqz ?_;refine tlm ?_;refine tl_nil ?_
    -- path jt
    refine q_then_n ?_;exact ⟨_,by omega,j+1,_,m3+cell,_,by omega,⟨by rw [hp1.1,Nat.succ_mul];omega,hc54⟩,rfl,rfl,rfl,rfl,rfl,rfl,rfl,drqz⟩
  obtain rfl:j=p.cells.length:=by first|omega|(simp at h;omega)
  obtain ⟨hm3,hmc⟩:=hp1;have hfl:=flat_len (λ x hx=>(hce x hx).1);rw [List.take_length]
  have htl:=tblS_len (next:=nx) (λ x hx=>(hce x hx).1) hfi;have htb:=tblS_bytes (nx:=nx) (cell:=cell) (λ x hx=>(hce x hx).2);refine tc_exit ?_
  -- path jf
  refine q_then_e (q_then_e (q_block_x (q_then_n ?_)));refine Zb ?_;refine Zde ?_;refine tv (o_subI rfl rfl oqz) ?_;refine tl_x rfl (o_apRZ underlying67 underlying3 sz5 by5 z5 rfl (by decide) (by decide) rfl (show _=Value.int .i64 ((256-m3:Nat):Int) from congrArg (Value.int .i64) oqz) ctqz (zrepB _) (by rw [bys_length,List.length_replicate,Nat.mul_one]) (bys_all _) oqz (show bys _++bys (List.replicate (256-m3) 0)=bys (tblS nx cell p.cells) by unfold tblS;rw [hfl,show 256-m3=248-p.cells.length*cell by omega];exact (bys_append _ _).symm)) ?_;rintro _ _ ⟨a60,c60,rfl,hc60,rfl⟩;rw [show m3+(256-m3)=256 by omega] at*
  refine Zbf ?_
  -- path jf
  refine q_then_n ?_;refine Ze8 ?_;refine tv (o_fieldAddr (o:=2) underlying203 rfl rfl sz4 rfl) ?_;refine tv (o_load p4 rfl hsqz rfl) ?_;refine tl_env (d:=62) (v:= .bool p.fresh) (rfl) ?_;refine tv (o_not rfl) ?_;refine tl_nil ?_
  -- path jf
  refine q_then_n ?_;refine tc_cond rfl (λ h=> ?_) (λ h=> ?_)
  . have hfr:p.fresh=false:=(by simpa using h);refine Zb ?_;refine Zbm ?_;refine tl_env (d:=67) (v:=(vn b)) (by show Value.int .i64 p.blk=_;rw [hbi]) ?_;refine tl_c rfl (o_call bd148 rfl (Read13_c (X:=X) (Y:=Y) (T:=T) (s:=s) (hok:=hok) (hb:=hb) (b:=((b:Nat):Int)))) ?_;rintro _ _ ⟨a68,m68,c68,e68,xs68,rfl,hr68,rfl⟩;rw [usedZ_nat,Int.toNat_natCast] at hr68
    obtain ⟨_,rfl,rfl,hc7,rfl⟩|⟨h9,_⟩:=hr68
    rotate_left
    . exact absurd (hu.symm.trans h9) (by decide)
    have hcl:=con_len (T:=T) (s:=s) (ba:=X.ba) (b:=b) (by rw [imgS_len hwf];omega);refine Zbq ?_;refine Zbf ?_
    -- path jft
    refine q_then_n ?_;refine Zb ?_;refine Zdv ?_;refine tl_bool (d:=73) rfl dbq (sbq ?_);intro h;refine Zt ?_;refine tl_c rfl (o_call bd159 rfl (Equal_c (xs:=conB T s X.ba b) (ys:=tblS nx cell p.cells) (h1:=rs_sl) (h2:=(by repeat (first|with_reducible exact rs_sl|apply Rs.left))) (hx:=hcl) (hy:=htl) (hn:=by decide) (hm:=by decide) (hc1:=by decide) (hc2:=by decide) (bx:=con_lt hok) (by_:=htb))) ?_;rintro _ _ ⟨rfl,rfl⟩;refine Zdn ?_
    -- path jftf
    refine q_then_n ?_;refine tc_cond rfl (λ h=> ?_) (λ h=> ?_)
    . have heq:conB T s X.ba b=tblS nx cell p.cells:=(by first|exact of_decide_eq_true h|simpa using h);refine Zb ?_;refine Zbf ?_
      -- path jftft
      refine q_then_n ?_;refine tc_ret ?_
      -- path jftft
      refine q_then_r ?_;have hR9:wr1 X.ba cell s l iq T=T:=(by unfold wr1;rw [List.getElem?_eq_getElem hk,hp];dsimp only;rw [hbn,hrow];exact if_pos ⟨hfr,heq⟩);exact ⟨.int .i64 0,C (WkA X Y s),res1 rfl rfl,(λ g w h=>by rw [hC];exact Dr.sat (A':=R*WkA X Y s) drqz g w h),Y,rfl,by rw [hR9];first|exact hok|assumption,rfl⟩
    have heq:¬conB T s X.ba b=tblS nx cell p.cells:=(by first|exact of_decide_eq_false h|simpa using h);refine tc_skip ?_
    -- path jftff
    refine q_then_n ?_;refine Zb ?_;refine Zbm ?_;refine tl_env (d:=81) (v:=(vn b)) (by show Value.int .i64 p.blk=_;rw [hbi]) ?_;refine tlm ?_;refine tl_c rfl (o_call bd107 rfl (Write13_ok (X:=X) (Y:=Y) (T:=T) (s:=s) (b:=b) (xs:=tblS nx cell p.cells) (hok:=hok) (hb:=hb) (hu:=hu) (hr:=by repeat (first|with_reducible exact rs_sl|apply Rs.left)) (hxl:=htl) (hxb:=htb))) ?_;rintro _ _ ⟨Y83,rfl,hok83,rfl⟩;refine Zbf ?_
    -- path jftff
    refine q_then_n ?_;refine tc_ret ?_
    -- path jftff
    have hR9:wr1 X.ba cell s l iq T=T.write X.ba b (tblS nx cell p.cells):=(by unfold wr1;rw [List.getElem?_eq_getElem hk,hp];dsimp only;rw [hbn,hrow];exact if_neg (λ h9=>heq h9.2));exact ⟨.int .i64 0,C (WkA X Y83 s),res1 rfl rfl,(λ g w h=>by rw [hC];exact Dr.sat (A':=R*WkA X Y83 s) drqz g w h),Y83,rfl,by rw [hR9];first|exact hok|assumption,rfl⟩
  have hfr:¬p.fresh=false:=(by simpa using h);refine tc_skip ?_
  -- path jff
  refine q_then_n ?_;refine Zb ?_;refine Zbm ?_;refine tl_env (d:=81) (v:=(vn b)) (by show Value.int .i64 p.blk=_;rw [hbi]) ?_;refine tlm ?_;refine tl_c rfl (o_call bd107 rfl (Write13_ok (X:=X) (Y:=Y) (T:=T) (s:=s) (b:=b) (xs:=tblS nx cell p.cells) (hok:=hok) (hb:=hb) (hu:=hu) (hr:=by repeat (first|with_reducible exact rs_sl|apply Rs.left)) (hxl:=htl) (hxb:=htb))) ?_;rintro _ _ ⟨Y83,rfl,hok83,rfl⟩;refine Zbf ?_
  -- path jff
  refine q_then_n ?_;refine tc_ret ?_
  -- path jff
  have hR9:wr1 X.ba cell s l iq T=T.write X.ba b (tblS nx cell p.cells):=(by unfold wr1;rw [List.getElem?_eq_getElem hk,hp];dsimp only;rw [hbn,hrow];exact if_neg (λ h9=>hfr h9.1));exact ⟨.int .i64 0,C (WkA X Y83 s),res1 rfl rfl,(λ g w h=>by rw [hC];exact Dr.sat (A':=R*WkA X Y83 s) drqz g w h),Y83,rfl,by rw [hR9];first|exact hok|assumption,rfl⟩
end Go.Vl

namespace Go.Vl
open Go Go.Proofs Go.Proofs.Tryz
def fitP (fill:Nat)(out:List Prt)(n:Nat):Bool:=match out.getLast? with
  |none=>false
  |some q=>decide (q.cells.length+n<=fill)
theorem fitP_at {fill n:Nat}{l:List Prt}(h:0<l.length):fitP fill l n=decide ((l[l.length-1]'oqz).cells.length+n<=fill):=by
  unfold fitP
  rw [List.getLast?_eq_getElem?,List.getElem?_eq_getElem oqz]
theorem fitP_nil {fill n:Nat}{l:List Prt}(h:¬0<l.length):fitP fill l n=false:=by
  obtain rfl:l=[]:=List.eq_nil_of_length_eq_zero oqz
  rfl
theorem fitP_pos {fill n:Nat}{l:List Prt}(h:fitP fill l n=true):0<l.length:=Classical.byContradiction λ h9=>by rw [fitP_nil h9] at h;cases h
theorem stpT_no {fill:Nat}{l:List Prt}{p:Prt}(h:fitP fill l p.cells.length=false):stpT fill l p=l++[p]:=by
  rcases snoc_cases l with rfl|⟨k,q,rfl⟩
  . rfl
  rw [stpT_snoc,if_neg]
  intro h9;rw [fitP_at (by simp)] at h
  simp at h
  omega
theorem stpT_yes {fill:Nat}{l:List Prt}{p q:Prt}(h:fitP fill l p.cells.length=true)(hq:l[l.length-1]? =some q):stpT fill l p=l.set (l.length-1) ⟨if q.blk= -1 then p.blk else q.blk,q.cells++p.cells,q.fresh⟩:=by
  rcases snoc_cases l with rfl|⟨k,q2,rfl⟩
  . cases h
  have e:(k++[q2]).length-1=k.length:=(by simp);rw [e] at hq ⊢
  obtain rfl:q2=q:=by simpa using hq
  rw [fitP_at (by simp)] at h
  simp at h
  rw [stpT_snoc,if_pos h]
  simp
theorem settle_take {fill i:Nat}{l:List Prt}(h:i<l.length):settleS fill (l.take (i+1))=stpT fill (settleS fill (l.take i)) l[i]:=by
  rw [List.take_succ_eq_append_getElem h]
  unfold settleS
  rw [List.foldl_append];rfl
theorem dr_yz {A Y0 X Z:SP}(h:Dr A Y0):Dr (A*X*Z) (Y0*Z):=dr_keep (dr_drop h)
theorem pts_nil2:ptsV ([]:List PtV) ([]:List Prt)=[]:=by unfold ptsV;rfl
theorem pts_cellP {xs:List PtV}{l:List Prt}{i:Nat}(h:i<l.length)(h2:i<xs.length):(ptsV xs l)[i*3+1]? =some (.slice xs[i].a l[i].cells.length xs[i].c):=(ptsV_get h h2 (by decide)).trans rfl
theorem ptsV_splice:∀{xs:List PtV} {l:List Prt} {i:Nat} {x:PtV} {p:Prt} (h:i<l.length) (h2:i<xs.length),splice (ptsV xs l) (i*3) (x.cells p)=ptsV (xs.set i x) (l.set i p)
  |y::xs,q::l,0,x,p,_,_=>by
    rw [ptsV_cons,Nat.zero_mul,List.set_cons_zero,List.set_cons_zero,ptsV_cons]
    rfl
  |y::xs,q::l,i+1,x,p,h,h2=>by
    have hl:(ptsV xs l).length=(ptsV xs l).length:=rfl;have ih:=ptsV_splice (xs:=xs) (l:=l) (i:=i) (x:=x) (p:=p) (by simpa using h) (by simpa using h2);rw [ptsV_cons,List.set_cons_succ,List.set_cons_succ,ptsV_cons,←ih,Nat.succ_mul]
    show splice (_::_::_::ptsV xs l) (i*3+3) _=_::_::_::splice (ptsV xs l) (i*3) _
    rfl
  |[],_,_,_,_,_,h=>by simp at h
  |_::_,[],_,_,_,h,_=>by simp at h
attribute [local irreducible] crk crL crc Sl pt ro Dev imgS recS readS recsF rdW rdO rkT Parts rvl recordsS runsL adrF kcl xcl kys runA runsF layF ovF TxA adZ WkA comS conB rootV ptsV
theorem Zhl {p r:Prop}(k:r)(h:Kq r->p:=by intro k;refine tm 5 rfl kqz rfl (o_fieldAddr (o:=1) underlying203 rfl rfl sz35 rfl) ?_;refine tm 6 rfl kqz rfl (o_load p35 rfl hsqz rfl) ?_;exact k.o):p:=h ⟨k⟩
theorem settle15_c {A Y0:SP}{a:Option Addr}{c cell fill:Nat}{xs:List PtV}{l:List Prt}(hY:Dr A Y0)(hr:Rs A a (ptsV xs l))(hps:PsOk Y0 cell xs l)(hne:∀p∈l,OkP fill p)(hf:fill<=248)(hll:l.length<=4194304){m:Nat}(hm:l.length=m):
    Fn Tryz.prog 125 #[.slice a m c,vn fill] A (λ r B=>∃a2 c2 xs2 l2 Z,settleS fill l=l2/\ r= .slice a2 l2.length c2/\ (l2.length<=c2/\ l2.length<=l.length/\ PsOk (Y0*Z) cell xs2 l2)/\ B=A*Sl 3 (.slice a2 l2.length c2) l2.length (ptsV xs2 l2)*Z):=by
  refine fn_enterW func125 rfl ntmps125 (by simp) ?_;subst hm;refine Zbw ?_;refine tc_scope (l:=0) (λ ρ BB=>ρ 5= .slice none 0 0/\ ρ 0= .slice a l.length c/\ ρ 1=(vn fill)/\ Dr BB (A)) rfl ?_ ?_
  . intro ρ B hI;obtain ⟨hE5,hE0,hE1,hBA⟩:=hI;refine tc_pre hBA.sat ?_;clear hBA;refine te 5 hE5 ?_;refine te 0 hE0 ?_;refine te 1 hE1 ?_;refine Zm ?_;refine Zdc ?_;refine tc_pre (A':=A*Sl 3 (.slice none 0 0) 0 []*Sl 1 (.slice none 0 0) 0 []) (λ _ _ h=>sl_nil (sl_nil h)) ?_;refine tc_loop (λ kk ρ BB=>∃ (i:Nat) (a2:Option Addr) (c2:Nat) (xs2:List PtV) (l2:List Prt) (Z:SP),(i<=l.length)/\ (l2.length<=c2/\ l2.length<=i)/\ (PsOk (Y0*Z) cell xs2 l2)/\ (l2=settleS fill (l.take i))/\ kk=l.length-i/\ ρ 5= .slice a2 l2.length c2/\ ρ 13=(vn i)/\ ρ 1=(vn fill)/\ ρ 11= .slice a l.length c/\ ρ 12=(vn l.length)/\ Dr BB (A*Sl 3 (.slice a2 l2.length c2) l2.length (ptsV xs2 l2)*Z)) (m:=l.length-(0)) ?_ ?_
    . exact ⟨0,none,0,([]:List PtV),([]:List Prt),Sl 1 (.slice none 0 0) 0 [],Nat.zero_le _,⟨Nat.zero_le _,Nat.zero_le _⟩,ps_nil _ _,by rw [List.take_zero];rfl,rfl,rfl,rfl,rfl,rfl,rfl,by rw [pts_nil2];exact dr_refl⟩
    intro k ρ B hI;obtain ⟨i,a2,c2,xs2,l2,Z,hp0,hp1,hp2,hp3,hkk1,hE5,hE13,hE1,hE11,hE12,hBA⟩:=hI;refine tc_pre hBA.sat ?_;clear hBA;refine te 5 hE5 ?_;refine te 13 hE13 ?_;refine te 1 hE1 ?_;refine te 11 hE11 ?_;refine te 12 hE12 ?_;refine Zb9 ?_;refine tc_cond rfl (λ h=> ?_) (λ h=> ?_)
    . have hi:i<l.length:=(by first|omega|(simp at h;omega));have hi2:i<xs.length:=(by rw [hps.len];exact hi);have hpt:=hps.ok i hi hi2;have hst:=settle_take (fill:=fill) hi;rw [←hp3] at hst
      have hl2k:∀q∈l2,OkP fill q:=λ q hq=>settle_ok (l.take i) [] (λ q hq=>(by cases hq)) (λ q hq=>hne q (List.mem_of_mem_take hq)) q (by rw [hp3] at hq;exact hq)
      have hpk:=hne _ (List.getElem_mem hi);obtain ⟨p,hp⟩:∃p,l[i]=p:=⟨_,rfl⟩;obtain ⟨x,hx⟩:∃x,xs[i]=x:=⟨_,rfl⟩;have hpat:((ptsV xs l).drop (i*3)).take 3=x.cells p:=(by rw [ptsV_at hi hi2,hp,hx]);rw [hp] at hst hpk
      rw [hp,hx] at hpt
      obtain ⟨hpk1,hpk2⟩:=hpk;obtain ⟨hl2c,hl2i⟩:=hp1;have hxl2:=hp2.len;refine Zdt ?_;refine tv (o_ixP underlying198 sz203 rfl rfl oqz (nn_rs (xs:=ptsV xs l) (by repeat (first|exact hr|apply Rs.left)) (λ _=>by rw [ptsV_len hps.len];omega))) ?_;refine tv (o_ldPN (vs:=x.cells p) a203 sz203 rfl (by repeat (first|exact hr|apply Rs.left)) hpat rfl (by decide)) ?_;refine tl_x rfl (o_alloc (l:=[.int .i64 0,.slice none 0 0,.bool false]) z203 rfl) ?_;rintro _ _ ⟨b7,rfl,rfl⟩;refine tl_u rfl (o_stUN (l':=x.cells p) rfl upqz sz203 rfl rfl rfl (by exact Nat.le_refl 3) rfl) ?_;refine nq ?_;refine Zm ?_;refine tv (o_len underlying198 rfl) ?_;refine tv (o_subI rfl rfl oqz) ?_;refine Zci ?_;refine tc_cut (λ ρ BB=>∃ (bb:Bool),(bb=fitP fill l2 p.cells.length)/\ ρ 35= .bool bb/\ ρ 1=(vn fill)/\ ρ 5= .slice a2 l2.length c2/\ ρ 7=(pz b7)/\ ρ 8= .int .i64 ((l2.length:Nat)-1:Int)/\ ρ 11= .slice a l.length c/\ ρ 12=(vn l.length)/\ ρ 13=(vn i)/\ Dr BB (A*Sl 3 (.slice a2 l2.length c2) l2.length (ptsV xs2 l2)*Z*pt b7 (cl (x.cells p) 203))) ?_ ?_
      . skip
        refine tc_regq mo kqz ?_;refine ql_v rfl (o_move wqz) ?_;refine ql_v rfl (o_geq rfl rfl) ?_;refine ql_v rfl (o_move wqz) ?_;refine ql_bool (d:=22) rfl (sbq ?_) (sbq ?_)
        . intro h;refine Zb5 ?_;refine ql_env (d:=24) (v:=(vn (l2.length-1))) (congrArg (Value.int .i64) oqz) ?_;refine ql_v rfl (o_ixP (j:=l2.length-1) underlying198 sz203 rfl rfl oqz (nn_rs (xs:=ptsV xs2 l2) sq0z (λ _=>by rw [ptsV_len hxl2];omega))) ?_;refine ql_v rfl (o_faP (m:=0) (o:=1) underlying203 rfl rfl sz35 rfl (nn_rs (xs:=ptsV xs2 l2) sq0z (λ _=>by rw [ptsV_len hxl2];omega))) ?_;refine ql_v rfl (o_ldP (xs:=ptsV xs2 l2) p35 rfl sq0z (pts_cellP (i:=l2.length-1) oqz oqz)) ?_;refine Zh2 ?_;refine ql_v rfl (o_load p35 rfl hsqz rfl) ?_;refine ql_env (d:=30) (v:= .slice x.a p.cells.length x.c) (rfl) ?_;refine ql_v rfl (o_len underlying35 rfl) ?_;refine ql_v rfl (o_addI rfl rfl (by have:=(hl2k _ (List.getElem_mem (show l2.length-1<l2.length by omega))).2;omega)) ?_;refine ql_v rfl (o_move wqz) ?_;refine ql_v rfl (o_leq rfl rfl) ?_;refine Ze2 ?_;exact ⟨_,by first|(rw [fitP_nil oqz];done)|(rw [fitP_at oqz,decide_eq_decide];omega),rfl,rfl,rfl,rfl,rfl,rfl,rfl,rfl,drqz⟩
        intro h;refine Zhx ?_;refine Zg5 ?_;exact ⟨_,by first|(rw [fitP_nil oqz];done)|(rw [fitP_at oqz,decide_eq_decide];omega),rfl,rfl,rfl,rfl,rfl,rfl,rfl,rfl,drqz⟩
      intro ρ B hI;obtain ⟨bb,hbb0,hE35,hE1,hE5,hE7,hE8,hE11,hE12,hE13,hBA⟩:=hI;refine q_then_n ?_;refine tc_pre hBA.sat ?_;clear hBA;refine te 35 hE35 ?_;refine te 1 hE1 ?_;refine te 5 hE5 ?_;refine te 7 hE7 ?_;refine te 8 hE8 ?_;refine te 11 hE11 ?_;refine te 12 hE12 ?_;refine te 13 hE13 ?_;refine tc_cond rfl (λ h=> ?_) (λ h=> ?_)
      . have hfit:fitP fill l2 p.cells.length=true:=(by rw [←hbb0];exact h);have h0:=fitP_pos hfit;have hj1:l2.length-1<l2.length:=(by omega);have hj2:l2.length-1<xs2.length:=(by omega);obtain ⟨q,hq⟩:∃q,l2[l2.length-1]=q:=⟨_,rfl⟩;obtain ⟨xq,hxq⟩:∃xq,xs2[l2.length-1]=xq:=⟨_,rfl⟩;have hyes:=stpT_yes hfit (by rw [List.getElem?_eq_getElem hj1,hq]);rw [hyes] at hst
        have hqt:=hp2.ok _ hj1 hj2;have hqk:=(hl2k _ (List.getElem_mem hj1)).2;rw [hq] at hqk
        rw [hq,hxq] at hqt
        have hqat:((ptsV xs2 l2).drop ((l2.length-1)*3)).take 3=xq.cells q:=(by rw [ptsV_at hj1 hj2,hq,hxq]);have hqw:=hqt.w.1;have hpw:=hpt.w.1;have hqc:=hqt.c;refine Zh4 ?_;refine tl_env (d:=37) (v:=(vn (l2.length-1))) (congrArg (Value.int .i64) oqz) ?_;refine tv (o_ixP (j:=l2.length-1) underlying198 sz203 rfl rfl oqz (nn_rs (xs:=ptsV xs2 l2) sq0z (λ _=>by rw [ptsV_len hxl2];omega))) ?_;refine tv (o_ldPN (vs:=xq.cells q) a203 sz203 rfl sq0z hqat rfl (by decide)) ?_;refine tl_x rfl (o_alloc (l:=[.int .i64 0,.slice none 0 0,.bool false]) z203 rfl) ?_;rintro _ _ ⟨b9,rfl,rfl⟩;refine tl_u rfl (o_stUN (l':=xq.cells q) rfl upqz sz203 rfl rfl rfl (by exact Nat.le_refl 3) rfl) ?_;refine nq ?_;refine sr ?_;refine Zby ?_;refine tl_env (d:=41) (v:= .slice xq.a q.cells.length xq.c) (rfl) ?_;refine tv (o_len underlying35 rfl) ?_;refine Zci ?_;refine tc_regh (S:=A*Sl 3 (.slice a2 l2.length c2) l2.length (ptsV xs2 l2)*Z*pt b7 (cl (x.cells p) 203)) mo drqz ?_
        show TH _ _ _ _ _ 10 (Array.replicate 10 false) _ _
        refine tm 0 rfl kqz rfl (o_fieldAddr (o:=1) underlying203 rfl rfl sz35 rfl) ?_;refine Zcy ?_;refine Zhl ?_;refine th_env (d:=49) (v:= .slice x.a p.cells.length x.c) (rfl) ?_;refine th_one (i:=1) kqz ?_;refine oh_v rfl rfl rfl (o_load p35 rfl hsqz rfl) ?_;refine th_env (d:=44) (v:= .slice xq.a q.cells.length xq.c) (rfl) ?_;refine tm 4 rfl kqz rfl (o_slice3n (h:=q.cells.length) (m:=q.cells.length) underlying35 sz67 rfl rfl rfl (Nat.le_refl _) hqc) ?_;refine th_one (i:=7) kqz ?_;refine oh_x rfl rfl rfl (o_apQ (q:=q.cells.length) (xs:=xq.vs) (ys:=x.vs) underlying35 underlying35 sz67 by67 z67 rfl (by decide) (by decide) rfl rfl (by repeat (first|exact hqt.r.dr (dr_yz hY)|apply Rs.left)) (by rw [Nat.mul_one];exact hqw) (by repeat (first|exact hpt.r.dr hY|apply Rs.left)) (by rw [Nat.mul_one];exact hpw) oqz (rw_one_all hpt.w) oqz rfl) ?_;rintro _ _ ⟨a50,c50,rfl,hc50,rfl⟩;refine Zdj ?_;refine th_one (i:=9) kqz ?_;refine oh_u rfl rfl rfl (o_stU (l':=[.int .i64 q.blk,.slice a50 (q.cells.length+p.cells.length) c50,.bool q.fresh]) rfl upqz sz35 rfl rfl (by show 1<3;decide) rfl) drqz ?_;refine Zbv ?_;refine Ze8 ?_;refine Zbm ?_;refine tl_env (d:=53) (v:= .int .i64 q.blk) (rfl) ?_;refine Zdd ?_;refine tc_cut (λ ρ BB=>∃ (bq:Int),(bq=if q.blk= -1 then p.blk else q.blk)/\ ρ 1=(vn fill)/\ ρ 5= .slice a2 l2.length c2/\ ρ 8= .int .i64 ((l2.length:Nat)-1:Int)/\ ρ 9=(pz b9)/\ ρ 11= .slice a l.length c/\ ρ 12=(vn l.length)/\ ρ 13=(vn i)/\ Dr BB (A*Sl 3 (.slice a2 l2.length c2) l2.length (ptsV xs2 l2)*Z*pt b7 (cl (x.cells p) 203)*pt b9 (cl [.int .i64 bq,.slice a50 (q.cells.length+p.cells.length) c50,.bool q.fresh] 203)*Sl 1 (.slice a50 (q.cells.length+p.cells.length) c50) (q.cells.length+p.cells.length) (xq.vs++x.vs))) ?_ ?_
        . skip
          refine tc_cond rfl (λ h=> ?_) (λ h=> ?_)
          . have hqb:q.blk= -1:=(by first|exact of_decide_eq_true h|simpa using h);refine tc_reg ?_;refine Zbm ?_;refine tl_env (d:=56) (v:= .int .i64 p.blk) (rfl) ?_;refine tv (o_fieldAddr (o:=0) underlying203 rfl rfl sz3 rfl) ?_;refine tl_u rfl (o_stU (l':=[.int .i64 p.blk,.slice a50 (q.cells.length+p.cells.length) c50,.bool q.fresh]) rfl upqz sz3 rfl rfl (by show 0<3;decide) rfl) ?_;refine tl_nil ?_;exact ⟨p.blk,by first|exact (if_pos hqb).symm|exact (if_neg hqb).symm,rfl,rfl,rfl,rfl,rfl,rfl,rfl,drqz⟩
          have hqb:¬q.blk= -1:=(by first|exact of_decide_eq_false h|simpa using h);refine tc_skip ?_;exact ⟨q.blk,by first|exact (if_pos hqb).symm|exact (if_neg hqb).symm,rfl,rfl,rfl,rfl,rfl,rfl,rfl,drqz⟩
        intro ρ B hI;obtain ⟨bq,hj0,hE1,hE5,hE8,hE9,hE11,hE12,hE13,hBA⟩:=hI;refine q_then_n ?_;refine tc_pre hBA.sat ?_;clear hBA;refine te 1 hE1 ?_;refine te 5 hE5 ?_;refine te 8 hE8 ?_;refine te 9 hE9 ?_;refine te 11 hE11 ?_;refine te 12 hE12 ?_;refine te 13 hE13 ?_;refine Zh4 ?_;refine tl_env (d:=59) (v:=(vn (l2.length-1))) (congrArg (Value.int .i64) oqz) ?_;refine tv (o_loadN (vs:=[.int .i64 bq,.slice a50 (q.cells.length+p.cells.length) c50,.bool q.fresh]) a203 sz203 rfl hsqz (by exact Nat.le_refl 3) rfl) ?_;refine tl_env (d:=60) (v:= .agg ((⟨a50,c50,xq.vs++x.vs⟩:PtV).cells ⟨bq,q.cells++p.cells,q.fresh⟩).toArray) (by show Value.agg #[_,_,_]=Value.agg #[_,Value.slice a50 (q.cells++p.cells).length c50,_];rw [List.length_append]) ?_;refine tv (o_ixP (j:=l2.length-1) underlying198 sz203 rfl rfl oqz (nn_rs (xs:=ptsV xs2 l2) sq0z (λ _=>by rw [ptsV_len hxl2];omega))) ?_;refine tl_u rfl (o_stPN (ys:=ptsV (xs2.set (l2.length-1) ⟨a50,c50,xq.vs++x.vs⟩) (l2.set (l2.length-1) ⟨bq,q.cells++p.cells,q.fresh⟩)) sz203 rfl rfl rfl rfl (by decide) ctqz oqz (ptsV_splice hj1 hj2)) ?_;refine nq ?_;refine tc_exit ?_;refine q_then_e (q_block_x (q_then_n ?_));refine Zgo ?_;exact ⟨_,by omega,i+1,a2,c2,xs2.set (l2.length-1) ⟨a50,c50,xq.vs++x.vs⟩,l2.set (l2.length-1) ⟨bq,q.cells++p.cells,q.fresh⟩,Z*Sl 1 (.slice a50 (q.cells.length+p.cells.length) c50) (q.cells.length+p.cells.length) (xq.vs++x.vs),by omega,⟨by rw [List.length_set];exact hl2c,by rw [List.length_set];omega⟩,(by rw [←star_assoc];exact ps_set hp2.left ⟨by show (q.cells++p.cells).length<=c50;rw [List.length_append];omega,rs_sl,rw_app hqt.w.left hpt.w.left.left⟩),(by rw [hst,hj0]),rfl,(by rw [List.length_set];rfl),rfl,rfl,rfl,rfl,(by rw [List.length_set,←star_assoc];repeat (first|with_reducible exact dr_refl|apply dr_keep|apply dr_drop))⟩
      have hfit:fitP fill l2 p.cells.length=false:=(by rw [←hbb0];exact h);rw [stpT_no hfit] at hst
      refine Ze ?_;refine Zbr ?_;refine tv (o_loadN (vs:=x.cells p) a203 sz203 rfl hsqz (by exact Nat.le_refl 3) rfl) ?_;refine tl_x rfl (o_buildSliceK (k:=3) (l:=x.cells p) underlying198 sz203 z203 rfl rfl (by decide)) ?_;rintro _ _ ⟨b64,rfl,rfl⟩;refine tl_x rfl (o_apB underlying198 underlying198 sz203 by203 z203 rfl (by decide) (by decide) rfl rfl rfl ctqz rfl rfl oqz (show _=ptsV (xs2++[x]) (l2++[p]) by rw [ptsV_snoc hxl2])) ?_;rintro _ _ ⟨a65,c65,rfl,hc65,rfl⟩;refine Zeo ?_;exact ⟨_,by omega,i+1,a65,c65,xs2++[x],l2++[p],Z,by omega,⟨by rw [List.length_append];exact hc65,by rw [List.length_append,List.length_singleton];omega⟩,ps_snoc hp2 hpt.left,hst.symm,rfl,(by rw [List.length_append];rfl),rfl,rfl,rfl,rfl,(by rw [List.length_append];repeat (first|with_reducible exact dr_refl|apply dr_keep|apply dr_drop))⟩
    obtain rfl:i=l.length:=by first|omega|(simp at h;omega)
    rw [List.take_length] at hp3
    refine Zh6 ?_;refine q_sc_r ?_;exact ⟨.slice a2 l2.length c2,A*Sl 3 (.slice a2 l2.length c2) l2.length (ptsV xs2 l2)*Z,res1 rfl rfl,Dr.sat drqz,a2,c2,xs2,l2,Z,hp3.symm,rfl,⟨hp1.1,hp1.2,hp2⟩,rfl⟩
  intro hsc;refine Zbw ?_;refine tc_fall hsc ?_;exact ⟨rfl,rfl,rfl,drqz⟩
end Go.Vl

namespace Go.Vl
open Go Go.Proofs Go.Proofs.Tryz
def carryT (n ba cell:Nat)(s:DevS)(lst:List (Nat×List (List Nat)))(l:List Prt)(T:WkT):Nat×Int×WkT:=
  if (takeP n l T).2.1=0 then
    (refP (takeP n l T).1,0,writeP ba cell s (takeP n l T).1 (takeP n l T).1.length (giveP ((takeP n l T).1.map (·.blk)) (lst.map (·.1)) (takeP n l T).2.2))
  else (0,(takeP n l T).2.1,(takeP n l T).2.2)
theorem takeP_neg {n b:Nat}{e:Int}{p:Prt}{l:List Prt}{T T2:WkT}(hb:p.blk= -1)(ht:takeS n T=(b,e,T2))(he:e≠0):takeP n (p::l) T=(p::l,e,T):=by
  unfold takeP;rw [if_pos hb,ht,if_neg he]
theorem takeP_pos {n b:Nat}{p:Prt}{l:List Prt}{T T2:WkT}(hb:p.blk= -1)(ht:takeS n T=(b,0,T2)):takeP n (p::l) T=(⟨((b:Nat):Int),p.cells,true⟩::(takeP n l T2).1,(takeP n l T2).2):=by
  conv=>lhs;unfold takeP
  rw [if_pos hb,ht,if_pos rfl]
theorem takeP_has {n:Nat}{p:Prt}{l:List Prt}{T:WkT}(hb:p.blk≠-1):takeP n (p::l) T=(p::(takeP n l T).1,(takeP n l T).2):=by
  conv=>lhs;unfold takeP
  rw [if_neg hb]
theorem takeP_nil {n:Nat}{T:WkT}:takeP n [] T=([],0,T):=by unfold takeP;rfl
def UmP (M:MS)(us:List Int):Prop:=∀b:Int,(M.get b).getD (.int .i64 0)= .int .i64 (if b∈us then 1 else 0)
theorem um_nil:UmP ⟨[],0⟩ []:=λ b=>by rw [MS.get_nil];rfl
theorem um_put {M:MS}{us:List Int}{b:Int}(h:UmP M us):UmP (M.put b (.int .i64 1)) (us++[b]):=λ c=>by
  rw [MS.get_put]
  by_cases e:b=c
  . rw [if_pos e,if_pos (by rw [e];simp)];rfl
  rw [if_neg e,h c]
  have:c∈us++[b]↔c∈us:=by
    rw [List.mem_append,List.mem_singleton]
    exact ⟨λ h9=>h9.elim id λ h8=>absurd h8.symm e,.inl⟩
  simp only [this]
theorem giveP_snoc {us:List Int}{b:Nat}:∀{l:List Nat} {T:WkT},giveP us (l++[b]) T=if ((b:Nat):Int)∈us then giveP us l T else (giveP us l T).give b
  |[],T=>by
    show giveP us [b] T=_
    unfold giveP;unfold giveP;split<;>rfl
  |a::l,T=>by
    show giveP us (a::(l++[b])) T=_
    conv=>lhs;unfold giveP
    rw [giveP_snoc]
    conv=>rhs;unfold giveP
theorem pts_set1 {xs:List PtV}{l:List Prt}{i j:Nat}{v:Value}{p:Prt}(h:i<l.length)(h2:i<xs.length)(hj:j<3)(he:(xs[i].cells l[i]).set j v=xs[i].cells p):(ptsV xs l).set (i*3+j) v=ptsV xs (l.set i p):=by
  rw [ptsV_set h h2 hj he,List.set_getElem_self]
theorem pts_blk {xs:List PtV}{l:List Prt}{i:Nat}{p:Prt}(h:i<l.length)(h2:i<xs.length)(hp:l[i]=p):(ptsV xs l)[i*3+0]? =some (.int .i64 p.blk):=by
  subst hp;exact (ptsV_get h h2 (by decide)).trans rfl
theorem ps_same {Z:SP}{cell i:Nat}{xs:List PtV}{l:List Prt}{p:Prt}(h:PsOk Z cell xs l)(hi:i<l.length)(hp:p.cells=l[i].cells):PsOk Z cell xs (l.set i p):=by
  refine ⟨by rw [List.length_set];exact h.len,λ j h1 h2=> ?_⟩;rw [List.length_set] at h1
  by_cases e:i=j
  . subst e;rw [List.getElem_set_self]
    have hk:=h.ok i h1 h2;exact ⟨by rw [hp];exact hk.c,hk.r,by rw [hp];exact hk.w⟩
  rw [List.getElem_set_ne e];exact h.ok j h1 h2
theorem set_take1 {l:List Prt}{i:Nat}{p:Prt}(h:i<l.length):(l.set i p).take (i+1)=l.take i++[p]:=by
  rw [List.take_succ_eq_append_getElem (by rw [List.length_set];exact h),List.getElem_set_self,List.take_set_of_le (Nat.le_refl _)]
theorem set_drop1 {l:List Prt}{i:Nat}{p:Prt}:(l.set i p).drop (i+1)=l.drop (i+1):=List.drop_set_of_lt (Nat.lt_succ_self i)
theorem wr1_used {ba cell k:Nat}{s:DevS}{l:List Prt}{T:WkT}:usedB (wr1 ba cell s l k T)=usedB T:=by
  unfold wr1
  split
  . rfl
  split<;>rfl
theorem nodup_take {l:List Nat}{i:Nat}(h:l.Nodup)(hi:i<l.length):l[i]∉l.take i:=λ hm=>by
  obtain ⟨j,hj,e⟩:=List.mem_iff_getElem.1 hm;rw [List.length_take] at hj
  rw [List.getElem_take] at e
  exact List.pairwise_iff_getElem.1 h j i oqz hi oqz e
attribute [local irreducible] crk crL crc Sl pt ro Dev imgS recS readS recsF rdW rdO rkT Parts rvl recordsS runsL adrF kcl xcl kys runA runsF layF ovF TxA adZ WkA comS conB rootV ptsV
theorem carry15_c {A R:SP}  {X:WkX}{Y:WkY}{T:WkT}{s:DevS}  (hok:WkOk X Y T (s.ls.length*64))(hb:WkB X s)(ho:s.off=false:=by assumption){a aw:Option Addr}{c cw cell:Nat}{xs ys:List PtV}{l:List Prt}{lst:List (Nat×List (List Nat))}(hA:A=R*WkA X Y s*Sl 3 (.slice a l.length c) l.length (ptsV xs l))(hcell:1<=cell/\ cell<=62)(hrw:Rs R aw (ptsV ys (asP lst)))(hys:ys.length=lst.length)(hps:PsOk R cell xs l)(hol:∀p∈l,OkP (fillT cell) p/\ (∀x∈p.cells,x.length=cell/\∀y∈x,y<256)/\ (p.blk≠-1->0<=p.blk/\ usedB T p.blk.toNat=true))(hwu:∀p∈lst,usedB T p.1=true)(hwd:(lst.map (·.1)).Nodup)(hll:l.length<=4194304)(hwl:lst.length<=4194304):
    Fn Tryz.prog 124 #[.pointer (some ⟨X.w,0,none⟩),.slice aw lst.length cw,.slice a l.length c,vn cell] A (λ r B=>∃rf e T2 Y2,carryT X.n X.ba cell s lst l T=(rf,e,T2)/\ r= .tuple #[.int .u32 ((rf:Nat):Int),.int .i64 e]/\ WkOk X Y2 T2 (s.ls.length*64)/\ B=R*WkA X Y2 s):=by
  refine fn_enterW func124 rfl ntmps124 (by simp) ?_;subst hA;obtain ⟨hb1,hb2,hb3⟩:=id hb;have hfp:=fill_pos hcell;refine Zcc ?_;refine Za ?_;refine sr ?_;refine tl_x rfl (o_makeMap (ik:= .i64) underlying290) ?_;rintro _ _ ⟨b19,rfl,rfl⟩;refine Zy ?_;refine Zdc ?_;refine tc_loop (λ kk ρ BB=>∃ (i:Nat) (Yi:WkY) (Ti:WkT) (li:List Prt) (Mi:MS),(i<=l.length)/\ (WkOk X Yi Ti (s.ls.length*64))/\ (li.length=l.length/\ li.drop i=l.drop i)/\ (takeP X.n l T=(li.take i++(takeP X.n (l.drop i) Ti).1,(takeP X.n (l.drop i) Ti).2))/\ (UmP Mi ((li.take i).map (·.blk)))/\ (PsOk R cell xs li)/\ kk=l.length-i/\ ρ 22=(vn i)/\ ρ 0= .pointer (some ⟨X.w,0,none⟩)/\ ρ 1= .slice aw lst.length cw/\ ρ 2= .slice a l.length c/\ ρ 3=(vn cell)/\ ρ 10= .map (some b19)/\ ρ 21=(vn l.length)/\ Dr BB (R*WkA X Yi s*Sl 3 (.slice a l.length c) l.length (ptsV xs li)*pt b19 (mpo .i64 Mi))) (m:=l.length-(0)) ?_ ?_
  . exact ⟨0,Y,T,l,⟨[],0⟩,Nat.zero_le _,hok,⟨rfl,rfl⟩,by rw [List.take_zero,List.drop_zero,List.nil_append],by rw [List.take_zero];exact um_nil,hps,rfl,rfl,rfl,rfl,rfl,rfl,rfl,rfl,drqz⟩
  intro k ρ B hI;obtain ⟨i,Yi,Ti,li,Mi,hp0,hp1,hp2,hp3,hp4,hp5,hkk1,hE22,hE0,hE1,hE2,hE3,hE10,hE21,hBA⟩:=hI;refine tc_pre hBA.sat ?_;clear hBA;refine te 22 hE22 ?_;refine te 0 hE0 ?_;refine te 1 hE1 ?_;refine te 2 hE2 ?_;refine te 3 hE3 ?_;refine te 10 hE10 ?_;refine te 21 hE21 ?_;refine Zb9 ?_;refine tc_cond rfl (λ h=> ?_) (λ h=> ?_)
  . have hi:i<l.length:=(by first|omega|(simp at h;omega));obtain ⟨hlx2,hld⟩:=hp2;have hi2:i<li.length:=(by omega);have hlx:=hp5.len;have hi3:i<xs.length:=(by omega);obtain ⟨p,hp⟩:∃p,l[i]=p:=⟨_,rfl⟩;have hdr:l.drop i=p::l.drop (i+1):=(by rw [List.drop_eq_getElem_cons hi,hp]);have hdl:=hld;rw [hdr,List.drop_eq_getElem_cons hi2] at hdl
    obtain ⟨hli,hdn⟩:=List.cons.inj hdl;have hself:li.set i p=li:=(by rw [←hli,List.set_getElem_self]);refine Zen ?_;refine Zy ?_;refine tlm ?_;refine tv (o_ixP (j:=i) underlying198 sz203 rfl rfl hi (nn_rs (xs:=ptsV xs li) sq0z (λ _=>by rw [ptsV_len hlx];omega))) ?_;refine tv (o_faP (m:=0) (o:=0) underlying203 rfl rfl sz3 rfl (nn_rs (xs:=ptsV xs li) sq0z (λ _=>by rw [ptsV_len hlx];omega))) ?_;refine tv (o_ldP (xs:=ptsV xs li) p3 rfl sq0z (pts_blk hi2 hi3 hli)) ?_;refine Zdd ?_;refine tc_cut (λ ρ BB=>∃ (Yj:WkY) (Tj:WkT) (p2:Prt),(WkOk X Yj Tj (s.ls.length*64))/\ (p2.cells=p.cells)/\ (takeP X.n (p::l.drop (i+1)) Ti=(p2::(takeP X.n (l.drop (i+1)) Tj).1,(takeP X.n (l.drop (i+1)) Tj).2))/\ ρ 0= .pointer (some ⟨X.w,0,none⟩)/\ ρ 1= .slice aw lst.length cw/\ ρ 2= .slice a l.length c/\ ρ 3=(vn cell)/\ ρ 10= .map (some b19)/\ ρ 11=(vn i)/\ ρ 21=(vn l.length)/\ ρ 22=(vn i)/\ Dr BB (R*WkA X Yj s*Sl 3 (.slice a l.length c) l.length (ptsV xs (li.set i p2))*pt b19 (mpo .i64 Mi))) ?_ ?_
    . skip
      refine tc_cond rfl (λ h=> ?_) (λ h=> ?_)
      . have hpb:p.blk= -1:=(by first|exact of_decide_eq_true h|simpa using h);refine Zb ?_;refine tl_c rfl (o_call bd103 rfl (Take13_c (X:=X) (Y:=Yi) (T:=Ti) (s:=s) (hok:=hp1) (hb:=hb))) ?_;rintro _ _ ⟨b33,e33,T33,Y33,ht33,rfl,hok33,rfl⟩;refine Zdu ?_;refine Z5 ?_;refine tc_cond rfl (λ h=> ?_) (λ h=> ?_)
        . have he9:e33≠0:=(by first|exact of_decide_eq_true h|simpa using h);have hstp:=takeP_neg (l:=l.drop (i+1)) hpb ht33 he9;obtain ⟨_,rfl,rfl⟩:=takeS_no ht33 he9;refine Zb ?_;refine Z6 ?_;refine q_then_r (q_then_r (q_block_r (q_then_r (q_then_r (q_block_r (q_then_r ?_))))));have hcr:carryT X.n X.ba cell s lst l T=(0,7,T33):=(by unfold carryT;rw [hp3,hdr,hstp];exact if_neg (show¬(7:Int)=0 by decide));exact ⟨.tuple #[.int .u32 ((0:Nat):Int),.int .i64 (7)],R*WkA X Y33 s,res2 rfl rfl rfl,Dr.sat drqz,0,7,T33,Y33,hcr,rfl,by assumption,rfl⟩
        obtain rfl:e33=0:=by first|(have h9:=of_decide_eq_false h;omega)|(simp at h;omega)
        have hstp:=takeP_pos (l:=l.drop (i+1)) hpb ht33;refine Ze ?_;refine Zb0 ?_;refine Zt ?_;refine tlm ?_;refine tv (o_ixP (j:=i) underlying198 sz203 rfl rfl hi (nn_rs sq0z (λ _=>by rw [ptsV_len (by first|exact hlx|(rw [List.length_set];exact hlx))];first|omega|(rw [List.length_set];omega)))) ?_;refine tv (o_faP (m:=0) (o:=0) underlying203 rfl rfl sz3 rfl (nn_rs sq0z (λ _=>by rw [ptsV_len (by first|exact hlx|(rw [List.length_set];exact hlx))];first|omega|(rw [List.length_set];omega)))) ?_;refine tl_u rfl (o_stP (ys:=ptsV xs (li.set i ⟨((b33:Nat):Int),p.cells,p.fresh⟩)) sz3 rfl rfl rfl ctqz oqz (pts_set1 (j:=0) hi2 hi3 (by decide) (by rw [hli];rfl))) ?_;refine tv (o_ixP (j:=i) underlying198 sz203 rfl rfl hi (nn_rs sq0z (λ _=>by rw [ptsV_len (by first|exact hlx|(rw [List.length_set];exact hlx))];first|omega|(rw [List.length_set];omega)))) ?_;refine tv (o_faP (m:=0) (o:=2) underlying203 rfl rfl sz4 rfl (nn_rs sq0z (λ _=>by rw [ptsV_len (by first|exact hlx|(rw [List.length_set];exact hlx))];first|omega|(rw [List.length_set];omega)))) ?_;refine tl_u rfl (o_stP (ys:=ptsV xs (li.set i ⟨((b33:Nat):Int),p.cells,true⟩)) sz4 rfl rfl rfl ctqz oqz ((pts_set1 (j:=2) (p:=⟨((b33:Nat):Int),p.cells,true⟩) (by rw [List.length_set];exact hi2) hi3 (by decide) (by rw [List.getElem_set_self];rfl)).trans (by rw [List.set_set]))) ?_;refine tl_nil ?_;exact ⟨Y33,T33,⟨((b33:Nat):Int),p.cells,true⟩,by first|exact hok33|exact hp1,rfl,hstp,rfl,rfl,rfl,rfl,rfl,rfl,rfl,rfl,by first|(rw [hself];exact dr_refl)|exact dr_refl⟩
      have hpb:p.blk≠-1:=(by first|exact of_decide_eq_false h|simpa using h);have hstp:=takeP_has (n:=X.n) (l:=l.drop (i+1)) (T:=Ti) hpb;have hpc:p.cells=p.cells:=rfl;refine tc_skip ?_;exact ⟨Yi,Ti,p,by first|exact hok33|exact hp1,rfl,hstp,rfl,rfl,rfl,rfl,rfl,rfl,rfl,rfl,by first|(rw [hself];exact dr_refl)|exact dr_refl⟩
    intro ρ B hI;obtain ⟨Yj,Tj,p2,hj0,hj1,hj2,hE0,hE1,hE2,hE3,hE10,hE11,hE21,hE22,hBA⟩:=hI;refine q_then_n ?_;refine tc_pre hBA.sat ?_;clear hBA;refine te 0 hE0 ?_;refine te 1 hE1 ?_;refine te 2 hE2 ?_;refine te 3 hE3 ?_;refine te 10 hE10 ?_;refine te 11 hE11 ?_;refine te 21 hE21 ?_;refine te 22 hE22 ?_;refine Zb0 ?_;refine tlm ?_;refine tv (o_ixP (j:=i) underlying198 sz203 rfl rfl hi (nn_rs sq0z (λ _=>by rw [ptsV_len (by first|exact hlx|(rw [List.length_set];exact hlx))];first|omega|(rw [List.length_set];omega)))) ?_;refine tv (o_faP (m:=0) (o:=0) underlying203 rfl rfl sz3 rfl (nn_rs sq0z (λ _=>by rw [ptsV_len (by first|exact hlx|(rw [List.length_set];exact hlx))];first|omega|(rw [List.length_set];omega)))) ?_;refine tv (o_ldP (xs:=ptsV xs (li.set i p2)) (v:= .int .i64 p2.blk) p3 rfl sq0z (pts_blk (by rw [List.length_set];exact hi2) hi3 (by rw [List.getElem_set_self]))) ?_;refine tl_u rfl (o_mapUpdate (ik:= .i64) (M:=Mi) (v:= .int .i64 1) underlying290 underlying3 rfl upqz rfl rfl rfl) ?_;refine Zc9 ?_;refine Zbz ?_;exact ⟨_,by omega,i+1,Yj,Tj,li.set i p2,Mi.put p2.blk (.int .i64 1),by omega,hj0,⟨by rw [List.length_set];exact hlx2,by rw [set_drop1];exact hdn⟩,by rw [hp3,hdr,hj2,set_take1 hi2,List.append_assoc];rfl,by rw [set_take1 hi2,List.map_append];exact um_put hp4,ps_same hp5 hi2 (by rw [hj1,hli]),rfl,rfl,rfl,rfl,rfl,rfl,rfl,rfl,drqz⟩
  obtain rfl:i=l.length:=by first|omega|(simp at h;omega)
  obtain ⟨hlx2,hld⟩:=hp2;rw [List.drop_length,takeP_nil] at hp3
  rw [List.take_of_length_le oqz] at hp3 hp4
  replace hp3:takeP X.n l T=(li,0,Ti):=by rw [hp3,List.append_nil]
  have htk:=takeP_ok (λ b hb=>hok.dj b hb) (λ p hp=>(hol p hp).2.2) hp3;obtain ⟨us,hus⟩:∃us,li.map (·.blk)=us:=⟨_,rfl⟩;obtain ⟨LW,hLW⟩:∃LW,lst.map (·.1)=LW:=⟨_,rfl⟩;have hLn:LW.length=lst.length:=(by rw [←hLW,List.length_map]);rw [hus] at hp4
  rw [hLW] at hwd
  have hwu2:∀b∈LW,usedB Ti b=true:=λ b hb=>by rw [←hLW] at hb;obtain ⟨q,hq,rfl⟩:=List.mem_map.1 hb;rw [htk.us,hwu q hq];rfl
  have hlx:=hp5.len;have hdj:DjT Ti:=htk.dj;refine Zk ?_;refine Zm ?_;refine Zdc ?_;refine tc_loop (λ kk ρ BB=>∃ (j:Nat) (Yg:WkY),(j<=lst.length)/\ (WkOk X Yg (giveP us (LW.take j) Ti) (s.ls.length*64))/\ kk=lst.length-j/\ ρ 57=(vn j)/\ ρ 0= .pointer (some ⟨X.w,0,none⟩)/\ ρ 2= .slice a l.length c/\ ρ 3=(vn cell)/\ ρ 10= .map (some b19)/\ ρ 55= .slice aw lst.length cw/\ ρ 56=(vn lst.length)/\ Dr BB (R*WkA X Yg s*Sl 3 (.slice a l.length c) l.length (ptsV xs li)*pt b19 (mpo .i64 Mi))) (m:=lst.length-(0)) ?_ ?_
  . exact ⟨0,Yi,Nat.zero_le _,by rw [List.take_zero];exact hp1,rfl,rfl,rfl,rfl,rfl,rfl,rfl,rfl,drqz⟩
  intro k ρ B hI;obtain ⟨j,Yg,hq0,hq1,hkk2,hE57,hE0,hE2,hE3,hE10,hE55,hE56,hBA⟩:=hI;refine tc_pre hBA.sat ?_;clear hBA;refine te 57 hE57 ?_;refine te 0 hE0 ?_;refine te 2 hE2 ?_;refine te 3 hE3 ?_;refine te 10 hE10 ?_;refine te 55 hE55 ?_;refine te 56 hE56 ?_;refine Zb9 ?_;refine tc_cond rfl (λ h=> ?_) (λ h=> ?_)
  . have hj:j<lst.length:=(by first|omega|(simp at h;omega));have hj2:j<(asP lst).length:=(by rw [asP_n];exact hj);have hj3:j<ys.length:=(by omega);obtain ⟨w,hw⟩:∃w,LW[j]'oqz=w:=⟨_,rfl⟩;have hjL:j<LW.length:=(by omega);have hwm:w∈LW:=hw▸List.getElem_mem hjL
    have hwn:w∉LW.take j:=hw▸nodup_take hwd hjL
    have hgv:=giveP_ok (us:=us) (l:=LW.take j) hdj;have hwus:usedB (giveP us (LW.take j) Ti) w=true:=(by rw [hgv.us,hwu2 w hwm,decide_eq_false hwn];rfl);have hstp:=giveP_snoc (us:=us) (b:=w) (l:=LW.take j) (T:=Ti);rw [show LW.take j++[w]=LW.take (j+1) by rw [List.take_succ_eq_append_getElem hjL,hw]] at hstp
    have hwa:(asP lst)[j].blk=((w:Nat):Int):=(by rw [asP_at hj,←hw];subst hLW;rw [List.getElem_map]);refine Zdt ?_;refine tv (o_ixP (j:=j) underlying198 sz203 rfl rfl hj (nn_rs (xs:=ptsV ys (asP lst)) (by repeat (first|exact hrw|apply Rs.left)) (λ _=>by rw [ptsV_len (by rw [hys,asP_n])];omega))) ?_;refine tv (o_ldPN (vs:=ys[j].cells (asP lst)[j]) a203 sz203 rfl (by repeat (first|exact hrw|apply Rs.left)) (ptsV_at hj2 hj3) rfl (by decide)) ?_;refine tl_x rfl (o_alloc (l:=[.int .i64 0,.slice none 0 0,.bool false]) z203 rfl) ?_;rintro _ _ ⟨b15,rfl,rfl⟩;refine tl_u rfl (o_stUN (l':=ys[j].cells (asP lst)[j]) rfl upqz sz203 rfl rfl rfl (by exact Nat.le_refl 3) rfl) ?_;refine Zid ?_;refine Zbm ?_;refine tl_env (d:=63) (v:=(vn w)) (by show Value.int .i64 (asP lst)[j].blk=_;rw [hwa]) ?_;refine tv (o_lookup (ik:= .i64) (M:=Mi) underlying290 underlying3 z3 rfl rfl hsqz) ?_;refine tl_env (d:=64) (v:= .int .i64 (if ((w:Nat):Int)∈us then 1 else 0)) (hp4 _) ?_;refine Zdd ?_;refine tc_cut (λ ρ BB=>∃ (Yh:WkY),(WkOk X Yh (giveP us (LW.take (j+1)) Ti) (s.ls.length*64))/\ ρ 0= .pointer (some ⟨X.w,0,none⟩)/\ ρ 2= .slice a l.length c/\ ρ 3=(vn cell)/\ ρ 10= .map (some b19)/\ ρ 55= .slice aw lst.length cw/\ ρ 56=(vn lst.length)/\ ρ 57=(vn j)/\ Dr BB (R*WkA X Yh s*Sl 3 (.slice a l.length c) l.length (ptsV xs li)*pt b19 (mpo .i64 Mi))) ?_ ?_
    . skip
      refine tc_cond rfl (λ h=> ?_) (λ h=> ?_)
      . have hnu:¬((w:Nat):Int)∈us:=λ h9=>by rw [if_pos h9] at h;simp at h
        rw [if_neg hnu] at hstp
        refine Zb ?_;refine Zbm ?_;refine tl_env (d:=68) (v:=(vn w)) (by show Value.int .i64 (asP lst)[j].blk=_;rw [hwa]) ?_;refine tl_c rfl (o_call bd105 rfl (Give13_ok (X:=X) (Y:=Yg) (T:=giveP us (LW.take j) Ti) (s:=s) (b:=w) (hok:=hq1) (hb:=hb) (hu:=hwus))) ?_;rintro _ _ ⟨Y69,rfl,hok69,rfl⟩;refine Zz ?_;refine Zbd ?_;intro h;refine tc_skip ?_;exact ⟨Y69,by rw [hstp];first|exact hok69|exact hq1,rfl,rfl,rfl,rfl,rfl,rfl,rfl,drqz⟩
      have hnu:((w:Nat):Int)∈us:=Classical.byContradiction λ h9=>by rw [if_neg h9] at h;simp at h
      rw [if_pos hnu] at hstp
      refine tc_skip ?_;exact ⟨Yg,by rw [hstp];first|exact hok69|exact hq1,rfl,rfl,rfl,rfl,rfl,rfl,rfl,drqz⟩
    intro ρ B hI;obtain ⟨Yh,hg0,hE0,hE2,hE3,hE10,hE55,hE56,hE57,hBA⟩:=hI;refine q_block_n (q_then_n ?_);refine tc_pre hBA.sat ?_;clear hBA;refine te 0 hE0 ?_;refine te 2 hE2 ?_;refine te 3 hE3 ?_;refine te 10 hE10 ?_;refine te 55 hE55 ?_;refine te 56 hE56 ?_;refine te 57 hE57 ?_;refine Zgo ?_;exact ⟨_,by omega,j+1,Yh,by omega,hg0,rfl,rfl,rfl,rfl,rfl,rfl,rfl,rfl,drqz⟩
  obtain rfl:j=lst.length:=by first|omega|(simp at h;omega)
  rw [List.take_of_length_le oqz] at hq1
  have hgv:=giveP_ok (us:=us) (l:=LW) hdj;obtain ⟨Tg,hTg⟩:∃Tg,giveP us LW Ti=Tg:=⟨_,rfl⟩;rw [hTg] at hgv hq1
  have hgu:∀p∈li,usedB Tg p.blk.toNat=true:=λ p hp=>by obtain ⟨g1,g2⟩:=htk.at_ p hp;have g3:((p.blk.toNat:Nat):Int)∈us:=hus▸List.mem_map.2 ⟨p,hp,by omega⟩;rw [hgv.us,g2,decide_eq_true g3];simp
  refine Zk ?_;refine Zm ?_;refine Zdc ?_;refine tc_loop (λ kk ρ BB=>∃ (v:Nat) (Yw:WkY) (Tw:WkT),(v<=l.length)/\ (WkOk X Yw Tw (s.ls.length*64))/\ (writeP X.ba cell s li li.length Tg=writeP X.ba cell s li (li.length-v) Tw)/\ (∀p∈li,usedB Tw p.blk.toNat=true)/\ kk=l.length-v/\ ρ 76=(vn v)/\ ρ 0= .pointer (some ⟨X.w,0,none⟩)/\ ρ 2= .slice a l.length c/\ ρ 3=(vn cell)/\ ρ 75=(vn l.length)/\ Dr BB (R*WkA X Yw s*Sl 3 (.slice a l.length c) l.length (ptsV xs li)*pt b19 (mpo .i64 Mi))) (m:=l.length-(0)) ?_ ?_
  . exact ⟨0,Yg,Tg,Nat.zero_le _,hq1,by rw [Nat.sub_zero],hgu,rfl,rfl,rfl,rfl,rfl,rfl,drqz⟩
  intro k ρ B hI;obtain ⟨v,Yw,Tw,hr0,hr1,hr2,hr3,hkk3,hE76,hE0,hE2,hE3,hE75,hBA⟩:=hI;refine tc_pre hBA.sat ?_;clear hBA;refine te 76 hE76 ?_;refine te 0 hE0 ?_;refine te 2 hE2 ?_;refine te 3 hE3 ?_;refine te 75 hE75 ?_;refine Zb9 ?_;refine tc_cond rfl (λ h=> ?_) (λ h=> ?_)
  . have hv:v<l.length:=(by first|omega|(simp at h;omega));have hv2:v<li.length:=(by omega);have hvm:=List.getElem_mem hv2;obtain ⟨q9,hq9,hqe⟩:=mem_cells htk.len hvm;obtain ⟨ho1,ho2,_⟩:=hol q9 hq9;rw [hqe] at ho2
    have ho3:=ho1.2;rw [hqe] at ho3
    have hnx9:∀p,li[v+1]? =some p->0<=p.blk/\ p.blk.toNat<X.n:=λ p hp=>by have hpm:=List.mem_of_getElem? hp;exact ⟨(htk.at_ p hpm).1,used_n hr1 (hr3 p hpm)⟩
    refine Zen ?_;refine Zf6 ?_;refine tlm ?_;refine tl_c rfl (o_call bd160 rfl (write15_c (X:=X) (Y:=Yw) (T:=Tw) (s:=s) (iq:=v) (xs:=xs) (l:=li) (hok:=hr1) (hb:=hb) (hcell:=hcell) (hr:=(by repeat (first|with_reducible exact rs_sl|apply Rs.left))) (hps:=by exact hp5.left.left) (hk:=hv2) (hfi:=ho3) (hce:=ho2) (hbk:=⟨(htk.at_ _ hvm).1,hr3 _ hvm⟩) (hnx:=hnx9) (hll:=by omega) (hm:=hlx2))) ?_;rintro _ _ ⟨Y83,rfl,hok83,rfl⟩;refine Zz ?_;refine Zbd ?_;intro h;refine Zem ?_;refine Zbz ?_;exact ⟨_,by omega,v+1,Y83,wr1 X.ba cell s li v Tw,by omega,hok83,by rw [hr2,show li.length-v=(li.length-(v+1))+1 by omega,writeP_step oqz,show li.length-(li.length-(v+1)+1)=v by omega],(λ p hp=>(by rw [wr1_used];exact hr3 p hp)),rfl,rfl,rfl,rfl,rfl,rfl,drqz⟩
  obtain rfl:v=l.length:=by first|omega|(simp at h;omega)
  rw [show li.length-l.length=0 by omega] at hr2
  replace hr2:writeP X.ba cell s li li.length Tg=Tw:=hr2
  have hcr0:carryT X.n X.ba cell s lst l T=(refP li,0,Tw):=(by unfold carryT;rw [hp3,if_pos rfl];dsimp only;rw [hus,hLW,hTg,hr2]);refine Zk ?_;refine Zm ?_;refine tv (o_len underlying198 rfl) ?_;refine Zdd ?_;refine tc_cond rfl (λ h=> ?_) (λ h=> ?_)
  . have hl0:l.length=0:=(by have h9:=h;simp at h9;rw [h9];rfl);obtain rfl:li=[]:=List.eq_nil_of_length_eq_zero oqz;refine Zhf ?_;have hcr:carryT X.n X.ba cell s lst l T=(0,0,Tw):=hcr0;exact ⟨.tuple #[.int .u32 ((0:Nat):Int),.int .i64 (0)],R*WkA X Yw s,res2 rfl rfl rfl,Dr.sat drqz,0,0,Tw,Yw,hcr,rfl,by assumption,rfl⟩
  have hl0:¬l.length=0:=(by have h9:=h;simp at h9;intro h8;exact h9 (List.eq_nil_of_length_eq_zero h8));have h0:0<li.length:=(by omega);have h03:0<xs.length:=(by omega);obtain ⟨p0,hp0⟩:∃p0,li[0]=p0:=⟨_,rfl⟩;have hm0:p0∈li:=hp0▸List.getElem_mem h0
  obtain ⟨g1,g2⟩:=htk.at_ p0 hm0;obtain ⟨z0,hz0⟩:∃z0,p0.blk.toNat=z0:=⟨_,rfl⟩;have hzn:=used_n hr1 (hr3 p0 hm0);rw [hz0] at hzn
  have hrf:refP li=z0+1:=(by subst hp0;subst hz0;cases li with|nil=>simp at h0|cons p l=>rfl);have hzi:p0.blk=((z0:Nat):Int):=(by omega);refine Zb2 ?_;refine tv (o_ixP (j:=0) underlying198 sz203 rfl rfl oqz (nn_rs (xs:=ptsV xs li) sq0z (λ _=>by rw [ptsV_len hlx];omega))) ?_;refine tv (o_faP (m:=0) (o:=0) underlying203 rfl rfl sz3 rfl (nn_rs (xs:=ptsV xs li) sq0z (λ _=>by rw [ptsV_len hlx];omega))) ?_;refine tv (o_ldP (xs:=ptsV xs li) p3 rfl sq0z (pts_blk h0 h03 hp0)) ?_;refine tl_env (d:=94) (v:=(vn z0)) (by show Value.int .i64 p0.blk=_;rw [hzi]) ?_;refine tv (o_addI rfl rfl oqz) ?_;refine tl_env (d:=95) (v:=(vn (z0+1))) (by first|rfl|exact congrArg (Value.int .i64) oqz) ?_;refine tv (o_conv32 (a:=z0+1) underlying3 underlying53 rfl) ?_;refine tl_env (d:=96) (v:= .int .u32 ((z0+1:Nat):Int)) (congrArg (λ z:Nat=>Value.int .u32 (z:Int)) (Nat.mod_eq_of_lt oqz)) ?_;refine Z6 ?_;have hcr:carryT X.n X.ba cell s lst l T=(z0+1,0,Tw):=(by rw [hcr0,hrf]);exact ⟨.tuple #[.int .u32 ((z0+1:Nat):Int),.int .i64 (0)],R*WkA X Yw s,res2 rfl rfl rfl,Dr.sat drqz,z0+1,0,Tw,Yw,hcr,rfl,by assumption,rfl⟩
end Go.Vl

namespace Go.Vl
open Go Go.Proofs Go.Proofs.Tryz
def newP (l:List Prt):Nat:=l.countP λ p=>decide (p.blk= -1)
theorem newP_app (l m:List Prt):newP (l++m)=newP l+newP m:=List.countP_append ..
theorem newP_le (l:List Prt):newP l<=l.length:=List.countP_le_length
theorem newP_no {l:List Prt}(h:∀p∈l,p.blk≠-1):newP l=0:=List.countP_eq_zero.2 λ p hp=>by simpa using h p hp
theorem newP_cons (p:Prt)(l:List Prt):newP (p::l)=newP l+(if p.blk= -1 then 1 else 0):=by
  unfold newP;rw [List.countP_cons];by_cases h:p.blk= -1<;>simp [h]
theorem newP_one (p:Prt):newP [p]=if p.blk= -1 then 1 else 0:=by rw [newP_cons];simp [newP]
theorem stpT_new {fill:Nat}{out:List Prt}{p:Prt}:newP (stpT fill out p)<=newP out+newP [p]:=by
  rcases snoc_cases out with rfl|⟨k,q,rfl⟩
  . rw [stpT_nil];simp [newP]
  rw [stpT_snoc]
  split
  . rw [newP_app,newP_app,newP_one,newP_one,newP_one]
    dsimp only
    by_cases h1:q.blk= -1
    . rw [if_pos h1,if_pos h1];omega
    rw [if_neg h1,if_neg h1];exact Nat.le_add_right _ _
  rw [newP_app];exact Nat.le_refl _
theorem settle_new {fill:Nat}:∀ (l out:List Prt),newP (l.foldl (stpT fill) out)<=newP out+newP l
  |[],out=>by simp [newP]
  |p::l,out=>by
    rw [List.foldl_cons]
    have h1:=settle_new (fill:=fill) l (stpT fill out p);have h2:=stpT_new (fill:=fill) (out:=out) (p:=p);rw [newP_one] at h2
    rw [newP_cons]
    omega
theorem chunk_nil {fill k:Nat}{b:Int}:chunkP fill k b []=[]:=by cases k<;>simp [chunkP]
theorem chunk_cnt {fill:Nat}(hf:1<=fill):∀{k:Nat} {b:Int} {cs:List (List Nat)},cs.length<=k->(chunkP fill k b cs).length*fill<=cs.length+(fill-1)
  |0,b,cs,h=>by simp [chunkP]
  |k+1,b,cs,h=>by
    unfold chunkP
    split
    . simp
    rename_i h1
    rw [List.length_cons,Nat.succ_mul]
    by_cases h2:fill<=cs.length
    . have ih:=chunk_cnt hf (k:=k) (b:= -1) (cs:=cs.drop fill) (by rw [List.length_drop];omega);rw [List.length_drop] at ih
      omega
    rw [List.drop_of_length_le oqz,chunk_nil]
    simp;omega
theorem chunk_new {fill k:Nat}{b:Int}{cs:List (List Nat)}(hf:4<=fill)(hb:b≠-1)(h:cs.length<=k)(hc:cs.length<=fill+20):newP (chunkP fill k b cs)<=5/\ (chunkP fill k b cs).length<=6:=by
  have hlen:=chunk_cnt (fill:=fill) oqz (b:=b) h
  have h6:(chunkP fill k b cs).length<=6:=by
    rcases Nat.lt_or_ge 6 (chunkP fill k b cs).length with h7|h7
    . have:=Nat.mul_le_mul_right fill h7
      omega
    exact h7
  refine ⟨?_,h6⟩
  cases k with
  |zero=>simp [chunkP,newP]
  |succ k=>
    unfold chunkP at h6 ⊢
    split at h6
    . rename_i h1;rw [if_pos h1];simp [newP]
    rename_i h1
    rw [if_neg h1,newP_cons,if_neg hb]
    rw [List.length_cons] at h6
    have:=newP_le (chunkP fill k (-1) (cs.drop fill))
    omega
theorem ins_new {fill:Nat}{was:List Prt}{i:Nat}{ins:List (List Nat)}(hf:4<=fill)(hw:∀p∈was,p.cells.length<=fill/\ p.blk≠-1)(hi:ins.length<=20):newP (insP fill was i ins)<=5/\ (insP fill was i ins).length<=was.length+5:=by
  unfold insP
  cases h:was[(placeT was i).1]? with
  |none=>
    dsimp only
    have h1:=chunk_cnt (fill:=fill) oqz (b:= -1) (cs:=ins) (Nat.le_refl _)
    have h5:(chunkP fill ins.length (-1) ins).length<=5:=by
      rcases Nat.lt_or_ge 5 (chunkP fill ins.length (-1) ins).length with h7|h7
      . have:=Nat.mul_le_mul_right fill h7
        omega
      exact h7
    have:=newP_le (chunkP fill ins.length (-1) ins);exact ⟨by omega,by omega⟩
  |some p=>
    dsimp only
    obtain ⟨hk,rfl⟩:=List.getElem?_eq_some_iff.1 h;have hp:=hw _ (List.getElem_mem hk)
    have hle:(was[(placeT was i).1].cells.take (placeT was i).2++ins++was[(placeT was i).1].cells.drop (placeT was i).2).length=was[(placeT was i).1].cells.length+ins.length:=by
      rw [List.length_append,List.length_append]
      have:=congrArg List.length (List.take_append_drop (placeT was i).2 was[(placeT was i).1].cells);rw [List.length_append] at this
      omega
    obtain ⟨h1,h2⟩:=chunk_new (fill:=fill) (k:=was[(placeT was i).1].cells.length+ins.length) (b:=was[(placeT was i).1].blk) (cs:=was[(placeT was i).1].cells.take (placeT was i).2++ins++was[(placeT was i).1].cells.drop (placeT was i).2) hf hp.2 oqz oqz;rw [newP_app,newP_app,newP_no (l:=was.take _) λ q hq=>(hw q (List.mem_of_mem_take hq)).2,newP_no (l:=was.drop _) λ q hq=>(hw q (List.mem_of_mem_drop hq)).2]
    refine ⟨by omega, ?_⟩;rw [List.length_append,List.length_append,List.length_take,List.length_drop]
    omega
theorem del_new {i n:Nat}:∀{l:List Prt} {at_:Nat},(∀p∈l,p.blk≠-1)->newP (delP i n l at_)=0
  |[],_,_=>rfl
  |p::l,at_,h=>by
    unfold delP
    rw [newP_app,del_new λ q hq=>h q (List.mem_cons_of_mem _ hq)]
    split
    . rw [newP_one,if_neg (h p (List.mem_cons_self ..))]
    rfl
def freeN (n:Nat)(T:WkT):Nat:=(List.range n).countP (freeB T)
theorem free_take (T:WkT)(b c:Nat):freeB (T.take b) c=(freeB T c&& !decide (c=b)):=by
  show (!T.lv c&& !(updG T.tk b true c))=(!T.lv c&& !T.tk c&& !decide (c=b))
  unfold updG
  by_cases h:c=b
  . simp [h]
  simp [h]
theorem freeN_take {n b:Nat}{T:WkT}(hb:b<n)(hf:freeB T b=true):freeN n (T.take b)+1=freeN n T:=by
  unfold freeN
  have h1:(List.range n).countP (freeB T)=((List.range n).filter (freeB T)).length:=List.countP_eq_length_filter
  have h2:(List.range n).countP (freeB (T.take b))=(((List.range n).filter (freeB T)).filter λ c=> !decide (c=b)).length:=by
    rw [List.countP_eq_length_filter,List.filter_filter]
    refine congrArg (λ f=>((List.range n).filter f).length) (funext λ c=> ?_);rw [free_take,Bool.and_comm]
  have hm:b∈(List.range n).filter (freeB T):=List.mem_filter.2 ⟨List.mem_range.2 hb,hf⟩;have hnd:((List.range n).filter (freeB T)).Nodup:=(List.nodup_range).sublist List.filter_sublist
  have h3:(((List.range n).filter (freeB T)).filter λ c=> !decide (c=b))=((List.range n).filter (freeB T)).erase b:=by
    rw [hnd.erase_eq_filter]
    refine congrArg (λ f=>((List.range n).filter (freeB T)).filter f) (funext λ c=> ?_)
    by_cases h:c=b<;>simp [h]
  rw [h1,h2,h3,List.length_erase_of_mem hm]
  have:=List.length_pos_of_mem hm
  omega
theorem takeP_room {n:Nat}:∀{l:List Prt} {T:WkT},newP l<=freeN n T->(takeP n l T).2.1=0
  |[],_,_=>rfl
  |p::l,T,h=>by
    rw [newP_cons] at h
    unfold takeP
    by_cases hb:p.blk= -1
    . rw [if_pos hb] at h
      rw [if_pos hb]
      have hs:∃b,b<n/\ freeB T b=true/\ takeS n T=(b,0,T.take b):=by
        unfold takeS
        cases hl:leastB T n with
        |none=>
          exfalso
          have:freeN n T=0:=List.countP_eq_zero.2 λ c hc=>by rw [leastB_none.1 hl c (List.mem_range.1 hc)];decide
          omega
        |some b=>
          obtain ⟨h1,h2,_⟩:=leastB_some.1 hl;exact ⟨b,h1,h2,rfl⟩
      obtain ⟨b,h1,h2,h3⟩:=hs;rw [h3,if_pos rfl]
      have:=freeN_take h1 h2
      show (takeP n l (T.take b)).2.1=0
      exact takeP_room oqz
    rw [if_neg hb] at h
    rw [if_neg hb]
    exact takeP_room oqz
theorem freeN_room {n:Nat}{T:WkT}{L:List Nat}(hl:∀b,T.lv b=false)(h:∀b,usedB T b=true->b∈L):n<=freeN n T+L.length:=by
  unfold freeN
  have h1:(List.range n).countP (freeB T)+(List.range n).countP (λ b=> !freeB T b)=n:=by
    have:=List.length_eq_countP_add_countP (freeB T) (l:=List.range n);rw [List.length_range] at this
    rw [show (List.range n).countP (λ b=> !freeB T b)=(List.range n).countP (λ a=>decide (¬freeB T a=true)) from congrArg (λ f=>(List.range n).countP f) (funext λ a=>by cases freeB T a<;>rfl)]
    omega
  have h2:(List.range n).countP (λ b=> !freeB T b)<=L.length:=by
    rw [List.countP_eq_length_filter]
    refine List.Nodup.length_le_of_subset ((List.nodup_range).sublist List.filter_sublist) λ b hb=>h b ?_
    have h3:=(List.mem_filter.1 hb).2
    unfold freeB at h3
    unfold usedB
    rw [hl b] at h3 ⊢
    cases h4:T.tk b
    . rw [h4] at h3;cases h3
    rfl
  omega
def pln15 (n ba cell:Nat)(s:DevS)(lst:List (Nat×List (List Nat)))(plan:List Prt)(T:WkT):Nat×Int×WkT:=
  if (takeP n (settleS (fillT cell) plan) T).2.1=0 then
    (refP (takeP n (settleS (fillT cell) plan) T).1,0,writeP ba cell s (takeP n (settleS (fillT cell) plan) T).1 (takeP n (settleS (fillT cell) plan) T).1.length (giveP ((takeP n (settleS (fillT cell) plan) T).1.map (·.blk)) (lst.map (·.1)) (takeP n (settleS (fillT cell) plan) T).2.2))
  else (0,(takeP n (settleS (fillT cell) plan) T).2.1,(takeP n (settleS (fillT cell) plan) T).2.2)
def FrT (f:TF):Prop:=∀a v q,f a=some (v,q)->q=true
theorem frT_lay {f:TF}{p:Nat}{xs:List Nat}(h:FrT f):FrT (layF p xs true f):=λ a v q ha=>by
  unfold layF at ha
  split at ha
  . simp only [Option.some.injEq,Prod.mk.injEq] at ha
    cases hf:f a with
    |none=>rw [hf] at ha;exact ha.2.symm
    |some x=>
      obtain ⟨y,z⟩:=x;have:=h a y z hf;rw [hf] at ha
      rw [←ha.2];exact this
  exact h a v q ha
theorem takeP_fr {n:Nat}:∀{l:List Prt} {T:WkT},(takeP n l T).2.2.f=T.f/\ (takeP n l T).2.2.lv=T.lv
  |[],_=>⟨rfl,rfl⟩
  |p::l,T=>by
    have hs:(takeS n T).2.2.f=T.f/\ (takeS n T).2.2.lv=T.lv:=(by unfold takeS;split<;>exact ⟨rfl,rfl⟩)
    unfold takeP
    split
    . split
      . have:=takeP_fr (n:=n) (l:=l) (T:=(takeS n T).2.2);exact ⟨this.1.trans hs.1,this.2.trans hs.2⟩
      exact ⟨rfl,rfl⟩
    exact takeP_fr (n:=n) (l:=l) (T:=T)
theorem takeP_lt {n:Nat}:∀{l:List Prt} {T:WkT},(∀b,usedB T b=true->b<n)->∀b,usedB (takeP n l T).2.2 b=true->b<n
  |[],_,h=>h
  |p::l,T,h=>by
    unfold takeP
    split
    . split
      . rename_i h1
        obtain ⟨h2,h3,h4⟩:=takeS_0 h1;refine takeP_lt (l:=l) λ b hb=> ?_
        rw [h4,used_take] at hb
        by_cases e:b=(takeS n T).1
        . rw [e];exact h3
        exact h b (by simpa [e] using hb)
      exact h
    exact takeP_lt (l:=l) h
theorem writeP_fr {ba cell:Nat}{s:DevS}{l:List Prt}(hu:∀p∈l,∀T:WkT,T.lv=g0->usedB T p.blk.toNat=true->T.tk p.blk.toNat=true):∀ (j:Nat) (T:WkT),T.lv=g0->(∀p∈l,usedB T p.blk.toNat=true)->FrT T.f->FrT (writeP ba cell s l j T).f
  |0,T,_,_,h=>h
  |j+1,T,hl,hus,h=>by
    unfold writeP
    cases hk:l[l.length-(j+1)]? with
    |none=>exact h
    |some p=>
      have hp:=List.mem_of_getElem? hk
      dsimp only
      split
      . exact writeP_fr hu j T hl hus h
      refine writeP_fr hu j _ hl hus ?_
      show FrT (layF _ _ (T.tk p.blk.toNat) T.f)
      rw [hu p hp T hl (hus p hp)]
      exact frT_lay h
def InT (ba n:Nat)(f:TF):Prop:=∀a,f a≠none->ba<=a/\ a<ba+256*n
theorem inT_lay {ba n b:Nat}{xs:List Nat}{fr:Bool}{f:TF}(h:InT ba n f)(hb:b<n)(hx:xs.length=256):InT ba n (layF (ba+256*b) xs fr f):=λ a ha=>by
  unfold layF at ha
  split at ha
  . rename_i h1;rw [hx] at h1;omega
  exact h a ha
theorem writeP_in {ba cell n:Nat}{s:DevS}{l:List Prt}(hn:∀p∈l,p.blk.toNat<n)(hrow:∀k,k<l.length->(rowT cell l k).length=256):∀ (j:Nat) (T:WkT),j<=l.length->InT ba n T.f->InT ba n (writeP ba cell s l j T).f
  |0,T,_,h=>h
  |j+1,T,hj,h=>by
    have hk:l.length-(j+1)<l.length:=(by omega)
    unfold writeP
    rw [List.getElem?_eq_getElem hk]
    dsimp only
    split
    . exact writeP_in hn hrow j T oqz h
    exact writeP_in hn hrow j _ oqz (inT_lay h (hn _ (List.getElem_mem hk)) (hrow _ hk))
structure KpT (n ba cell:Nat) (s:DevS) (T:WkT) (ob ref:Nat) (lst:List (Nat×List (List Nat))):Prop where
  tbl:Tbl (usedB T) (conB T s ba) cell ref lst
  us:∀b,usedB T b=(decide (b∈lst.map (·.1))||decide (b=ob))
  no:ob∉lst.map (·.1)
  lt:∀b,usedB T b=true->b<n
  lv:T.lv=g0
  fr:FrT T.f
  inn:InT ba n T.f
theorem KpT.dj {n ba cell:Nat}{s:DevS}{T:WkT}{ob ref:Nat}{lst:List (Nat×List (List Nat))}(h:KpT n ba cell s T ob ref lst):DjT T:=λ b _=>by rw [h.lv];rfl
theorem tk_of {T:WkT}{b:Nat}(hl:T.lv=g0)(h:usedB T b=true):T.tk b=true:=by
  unfold usedB at h
  rw [hl] at h
  cases h1:T.tk b
  . rw [h1] at h;cases h
  rfl
theorem giveP_f {us:List Int}:∀{l:List Nat} {T:WkT},(giveP us l T).f=T.f
  |[],_=>rfl
  |b::l,T=>by unfold giveP;rw [giveP_f];split;rfl;exact f_giveT
theorem settle_flat_nil {fill:Nat}{l:List Prt}:flatP (settleS fill l)=flatP l:=by
  have:=settle_flat (fill:=fill) l []
  unfold settleS;rw [this];rfl
theorem kp_plan {n ba cell:Nat}{s:DevS}{T:WkT}{ob ref:Nat}{lst:List (Nat×List (List Nat))}{plan:List Prt}(h:KpT n ba cell s T ob ref lst)(hcell:1<=cell/\ cell<=62)(hin:∀b,b<n->ba+256*b+256<=(imgS s).length)(hn:n<4294967295)
    (hok:∀p∈plan,OkP (fillT cell) p) (hce:∀x∈flatP plan,x.length=cell) (hbl:(blksP plan).Sublist (blksP (asP lst))) (hnew:newP plan+lst.length+1<=n):
    ∃l2 T4 lst2,pln15 n ba cell s lst plan T=(refP l2,0,T4)/\ (KpT n ba cell s T4 ob (refP l2) lst2/\ flatP (asP lst2)=flatP plan/\ lst2.length<=plan.length):=by
  have hroom:(takeP n (settleS (fillT cell) plan) T).2.1=0:=by
    refine takeP_room ?_;have h1:=settle_new (fill:=fillT cell) plan []
    have h2:=freeN_room (n:=n) (T:=T) (L:=ob::lst.map (·.1)) (λ b=>by rw [h.lv];rfl) λ b hb=>by
      rw [h.us] at hb
      simp only [Bool.or_eq_true,decide_eq_true_eq] at hb
      rcases hb with hb|hb
      . exact List.mem_cons_of_mem _ hb
      rw [hb];exact List.mem_cons_self ..
    rw [List.length_cons,List.length_map] at h2
    have h3:newP ([]:List Prt)=0:=rfl
    unfold settleS
    omega
  obtain ⟨l2,e,T2,hT⟩:∃l2 e T2,takeP n (settleS (fillT cell) plan) T=(l2,e,T2):=⟨_,_,_,rfl⟩;rw [hT] at hroom
  dsimp only at hroom
  subst hroom
  have hlt2:∀b,usedB T2 b=true->b<n:=by
    have:=takeP_lt (n:=n) (l:=settleS (fillT cell) plan) (T:=T) h.lt;rw [hT] at this;exact this
  have hfr2:=takeP_fr (n:=n) (l:=settleS (fillT cell) plan) (T:=T);rw [hT] at hfr2
  have hc:=plan_law hcell h.dj h.tbl h.lt hin hn hok hce hbl hlt2 hT
  have htk:=takeP_ok h.dj (λ p hp hp1=>by
    have h1:p.blk∈blksP (asP lst):=hbl.subset ((settle_blks plan []).subset (blk_mem hp hp1));rw [asP_blks] at h1
    obtain ⟨x,hx,hxe⟩:=List.mem_map.1 h1;have hxe:((x.1:Nat):Int)=p.blk:=hxe;rw [←hxe]
    refine ⟨Int.natCast_nonneg _, ?_⟩;rw [Int.toNat_natCast,h.us]
    simp only [Bool.or_eq_true,decide_eq_true_eq]
    exact .inl (List.mem_map.2 ⟨x,hx,rfl⟩)) hT
  have hgv:=giveP_ok (us:=l2.map (·.blk)) (l:=lst.map (·.1)) htk.dj;refine ⟨l2,_,l2.map λ p=>(p.blk.toNat,p.cells), ?_,⟨hc.tbl, ?_, ?_, ?_, ?_, ?_, ?_⟩, ?_, ?_⟩
  . unfold pln15;rw [hT,if_pos rfl]
  . intro b;rw [hc.us,h.us,List.map_map]
    by_cases hb:(b:Int)∈l2.map (·.blk)
    . have h1:b∈l2.map ((λ x:Nat×List (List Nat)=>x.1) ∘ λ p=>(p.blk.toNat,p.cells)):=by
        obtain ⟨p,hp,hpe⟩:=List.mem_map.1 hb;exact List.mem_map.2 ⟨p,hp,by show p.blk.toNat=b;omega⟩
      simp [hb,h1]
    have h1:¬b∈l2.map ((λ x:Nat×List (List Nat)=>x.1) ∘ λ p=>(p.blk.toNat,p.cells)):=λ h9=>by
      obtain ⟨p,hp,hpe⟩:=List.mem_map.1 h9;have hpe:p.blk.toNat=b:=hpe;exact hb (List.mem_map.2 ⟨p,hp,by have:=(htk.at_ p hp).1;omega⟩)
    rw [decide_eq_false hb,decide_eq_false h1,Bool.or_false,Bool.false_or]
    by_cases hbl2:b∈lst.map (·.1)
    . have:b≠ob:=λ e=>h.no (e▸hbl2)
      simp [hbl2,this]
    simp [hbl2]
  . intro h9;rw [List.map_map] at h9
    obtain ⟨p,hp,hpe⟩:=List.mem_map.1 h9;have hpe:p.blk.toNat=ob:=hpe
    rcases htk.or_ p hp with ⟨h1,h2⟩|h1
    . have h3:p.blk∈blksP (asP lst):=hbl.subset ((settle_blks plan []).subset (blk_mem h1 h2));rw [asP_blks] at h3
      obtain ⟨x,hx,hxe⟩:=List.mem_map.1 h3;have hxe:((x.1:Nat):Int)=p.blk:=hxe;exact h.no (List.mem_map.2 ⟨x,hx,by omega⟩)
    rw [hpe,h.us] at h1
    simp at h1
  . intro b hb;rw [hc.us] at hb
    simp only [Bool.or_eq_true,Bool.and_eq_true,decide_eq_true_eq] at hb
    rcases hb with hb|hb
    . exact h.lt b hb.1
    obtain ⟨p,hp,hpe⟩:=List.mem_map.1 hb;have:=(htk.at_ p hp).2;rw [hpe,Int.toNat_natCast] at this
    exact hlt2 b this
  . rw [hc.lv];exact h.lv
  . have hgl:(giveP (l2.map (·.blk)) (lst.map (·.1)) T2).lv=g0:=(by rw [hgv.lv,htk.lv];exact h.lv);refine writeP_fr (λ p _ T hl hu=>tk_of hl hu) _ _ hgl (λ p hp=> ?_) ?_
    . rw [hgv.us]
      obtain ⟨h1,h2⟩:=htk.at_ p hp;have h3:((p.blk.toNat:Nat):Int)∈l2.map (·.blk):=List.mem_map.2 ⟨p,hp,by omega⟩;rw [h2,decide_eq_true h3];simp
    rw [giveP_f,hfr2.1];exact h.fr
  . refine writeP_in (λ p hp=>hlt2 _ (htk.at_ p hp).2) (λ k hk=> ?_) _ _ (Nat.le_refl _) (by rw [giveP_f,hfr2.1];exact h.inn)
    unfold rowT
    rw [List.getElem?_eq_getElem hk]
    obtain ⟨q,hq,hqe⟩:=mem_cells htk.len (List.getElem_mem hk);refine tblS_len (λ x hx=> ?_) ?_
    . exact settle_cells hce q hq x (by rw [hqe];exact hx)
    show l2[k].cells.length<=_
    rw [←hqe]
    exact (settle_ok plan [] (λ q hq=>(by cases hq)) hok q hq).2
  . rw [←settle_flat_nil (fill:=fillT cell) (l:=plan),←hc.cells]
    unfold flatP asP
    rw [List.map_map,List.flatMap_map]
    rfl
  rw [List.length_map]
  have h1:=settle_len (fill:=fillT cell) plan [];have h2:=congrArg List.length htk.len;rw [List.length_map,List.length_map] at h2
  unfold settleS at h2
  rw [List.length_nil] at h1
  omega
theorem runs_fr {f:TF}{N:Nat}(h:FrT f):runsF N false f=[]:=by
  have:adrF N false f=[]:=by
    unfold adrF
    rw [List.filter_eq_nil_iff]
    intro a _
    cases hf:f a with
    |none=>simp [isK,hf]
    |some x=>
      obtain ⟨v,q⟩:=x;have:=h a v q hf;subst this
      simp [isK,hf]
  unfold runsF
  rw [this];rfl
def del15 (n ba cell:Nat)(s:DevS)(ref:Nat)(lst:List (Nat×List (List Nat)))(i k:Nat)(T:WkT):Nat×Int×WkT:=if k=0 then (ref,0,T) else pln15 n ba cell s lst (delP i k (asP lst) 0) T
def ins15 (n ba cell:Nat)(s:DevS)(ref:Nat)(lst:List (Nat×List (List Nat)))(i:Nat)(ins:List (List Nat))(T:WkT):Nat×Int×WkT:=if ins.length=0 then (ref,0,T) else pln15 n ba cell s lst (insP (fillT cell) (asP lst) i ins) T
section
variable {n ba cell:Nat} {s:DevS} {T:WkT} {ob ref:Nat} {lst:List (Nat×List (List Nat))}
theorem KpT.cells (h:KpT n ba cell s T ob ref lst):∀x∈flatP (asP lst),x.length=cell:=λ x hx=>by
  obtain ⟨p,hp,hx⟩:=List.mem_flatMap.1 hx;exact ((tbl_facts h.tbl).1 p hp).2.1 x hx
theorem KpT.okp (h:KpT n ba cell s T ob ref lst):∀p∈asP lst,OkP (fillT cell) p:=λ p hp=>((tbl_facts h.tbl).1 p hp).1
theorem asP_len (lst:List (Nat×List (List Nat))):(asP lst).length=lst.length:=by unfold asP;rw [List.length_map]
theorem asP_neg:∀p∈asP lst,p.blk≠-1:=λ p hp=>by
  obtain ⟨x,_,rfl⟩:=List.mem_map.1 hp
  show ((x.1:Nat):Int)≠-1
  omega
theorem kp_del {i k:Nat}(h:KpT n ba cell s T ob ref lst)(hcell:1<=cell/\ cell<=62)(hin:∀b,b<n->ba+256*b+256<=(imgS s).length)(hn:n<4294967295)(hl:lst.length+1<=n)(hi:i+k<=(flatP (asP lst)).length):
    ∃ref2 T4 lst2,del15 n ba cell s ref lst i k T=(ref2,0,T4)/\ KpT n ba cell s T4 ob ref2 lst2/\ flatP (asP lst2)=(flatP (asP lst)).take i++(flatP (asP lst)).drop (i+k)/\ lst2.length<=lst.length:=by
  unfold del15
  by_cases hk:k=0
  . rw [if_pos hk]
    exact ⟨ref,T,lst,rfl,h,by rw [hk,Nat.add_zero,List.take_append_drop],Nat.le_refl _⟩
  rw [if_neg hk]
  have hf:=del_flat (i:=i) (n:=k) (l:=asP lst) (at_:=0);rw [Nat.sub_zero,Nat.sub_zero] at hf
  obtain ⟨l2,T4,lst2,h1,h2,h3,h4⟩:=kp_plan (plan:=delP i k (asP lst) 0) h hcell hin hn (λ p hp=>(del_ok h.okp p hp).1) (λ x hx=>h.cells x (by
    rw [hf] at hx
    rcases List.mem_append.1 hx with hx|hx
    . exact List.mem_of_mem_take hx
    exact List.mem_of_mem_drop hx)) del_blks (by rw [del_new asP_neg];omega)
  refine ⟨_,T4,lst2,h1,h2,by rw [h3,hf],Nat.le_trans h4 (Nat.le_trans del_len (by rw [asP_len];exact Nat.le_refl _))⟩
theorem kp_ins {i:Nat}{ins:List (List Nat)}(h:KpT n ba cell s T ob ref lst)(hcell:1<=cell/\ cell<=62)(hin:∀b,b<n->ba+256*b+256<=(imgS s).length)(hn:n<4294967295)(hl:lst.length+6<=n)(hi:i<=(flatP (asP lst)).length)(hil:ins.length<=20)(hic:∀x∈ins,x.length=cell):
    ∃ref2 T4 lst2,ins15 n ba cell s ref lst i ins T=(ref2,0,T4)/\ KpT n ba cell s T4 ob ref2 lst2/\ flatP (asP lst2)=(flatP (asP lst)).take i++ins++(flatP (asP lst)).drop i/\ lst2.length<=lst.length+5:=by
  have hfp:=fill_pos hcell
  unfold ins15
  by_cases hk:ins.length=0
  . rw [if_pos hk]
    obtain rfl:=List.eq_nil_of_length_eq_zero hk;exact ⟨ref,T,lst,rfl,h,by rw [List.append_nil,List.take_append_drop],by omega⟩
  rw [if_neg hk]
  have hf:=ins_flat (fill:=fillT cell) oqz (was:=asP lst) (ins:=ins) hi;obtain ⟨n1,n2⟩:=ins_new (fill:=fillT cell) (was:=asP lst) (i:=i) (ins:=ins) hfp.1 (λ p hp=>⟨(h.okp p hp).2,asP_neg p hp⟩) hil
  obtain ⟨l2,T4,lst2,h1,h2,h3,h4⟩:=kp_plan (plan:=insP (fillT cell) (asP lst) i ins) h hcell hin hn (ins_ok oqz h.okp) (λ x hx=>by
    rw [hf] at hx
    rcases List.mem_append.1 hx with hx|hx
    . rcases List.mem_append.1 hx with hx|hx
      . exact h.cells x (List.mem_of_mem_take hx)
      exact hic x hx
    exact h.cells x (List.mem_of_mem_drop hx)) ins_blks oqz
  exact ⟨_,T4,lst2,h1,h2,by rw [h3,hf],by rw [asP_len] at n2;omega⟩
theorem kp_most (h:KpT n ba cell s T ob ref lst)(hcell:1<=cell/\ cell<=62):lst.length<=2*(flatP (asP lst)).length/(fillT cell+1)+1:=by
  have h1:=gap_most (tbl_facts h.tbl).2.1 h.okp;rw [asP_len] at h1
  have h2:(lst.length-1)*(fillT cell+1)<=2*(flatP (asP lst)).length:=by
    rw [Nat.sub_mul];omega
  have:=(Nat.le_div_iff_mul_le oqz).2 h2
  omega
theorem kp_zero (h:KpT n ba cell s T ob ref lst):ref=0↔(flatP (asP lst)).length=0:=by
  rw [(tbl_facts h.tbl).2.2]
  constructor
  . rintro rfl;rfl
  intro h0
  cases lst with
  |nil=>rfl
  |cons x l=>
    exfalso
    have h1:=h.okp ⟨((x.1:Nat):Int),x.2,false⟩ (List.mem_cons_self ..)
    have h2:(flatP (asP (x::l))).length=x.2.length+(flatP (asP l)).length:=by
      unfold asP flatP;rw [List.map_cons,List.flatMap_cons,List.length_append]
    have h3:1<=x.2.length:=h1.1
    omega
theorem kp_taken (h:KpT n ba cell s T ob ref lst)(ho:ob<n):(adS n T.tk).length=lst.length+1:=by
  have htk:∀b,T.tk b=usedB T b:=λ b=>by unfold usedB;rw [h.lv];simp [g0]
  have h1:(adS n T.tk).Perm (ob::lst.map (·.1)):=by
    refine (List.perm_ext_iff_of_nodup ((adS_sorted n _).imp λ h=>Nat.ne_of_lt h) (List.nodup_cons.2 ⟨h.no,tbl_nodup h.tbl⟩)).2 λ b=> ?_
    rw [adS_mem,htk,h.us,List.mem_cons]
    simp only [Bool.or_eq_true,decide_eq_true_eq]
    constructor
    . rintro ⟨_,h2|h2⟩
      . exact .inr h2
      exact .inl h2
    intro h2;refine ⟨?_,h2.symm⟩
    rcases h2 with h2|h2
    . rw [h2];exact ho
    exact h.lt b (by rw [h.us];simp [h2])
  rw [h1.length_eq,List.length_cons,List.length_map]
end
end Go.Vl

/- What the row rests on, part 3: a calculus of assertions, walks of functions over it, and plain laws. Conditions: none. -/
import Derived.Deep.QuietTactic
import Derived.BigQuiet
import Derived.WalkKit
import Derived.Test.YtfmieencngkkcaaGreatProg
import Derived.OrdersHeld
import Derived.Shelf.SortM.SortNone
import Derived.Shelf.SortM.Plain
import Derived.Ground.SlgmProg
import Derived.Shelf.SlIterI.Nil
import Derived.Ground.GgzProg
import Derived.Maps.RangeRun
import Derived.Laws.BytesArg
import Derived.RangeFuncRecord
import Derived.TacticsIn
import Derived.Deep.Slices
import Derived.OpenShut
import Derived.ChangeArms
import Derived.SizedLaws
import Derived.ChangeSame
import Derived.Test.YtfmieencngkkcaaGreatRows
import Derived.Sort.QuietThIn
import Derived.ScopeJumps
import Derived.LaidEqlPtr
import Derived.MapKept
import Derived.Laws.Externs
import Derived.Lib.Builder
import Derived.Lib.UnsafeStr
import Derived.Laws.Strings
import Derived.Test.YtfmieencngkkcaaGreatMg2
set_option linter.unusedVariables false
set_option linter.unusedSimpArgs false
set_option maxRecDepth 100000
set_option maxHeartbeats 4000000
namespace Go.Vl
open Go Go.Proofs Go.Proofs.Tryz
def Cln (s:DevS):Prop:=∀l∈s.ls,l.st.length=1
def chunk (q:Nat)(I:List Nat):List Nat:=(I.drop (q*64)).take 64
def Poss (X:Nat->List Nat->Prop)(s:DevS):Prop:=∀ (q:Nat) (l:LineS),s.ls[q]? =some l->∀σ∈l.st,X q (lb σ)
theorem img_chk {s:DevS}(hw:WfD s){q:Nat}(hq:q<s.ls.length):chunk q (imgS s)=lb (seenL s.ls[q]):=by
  have h1:=img_at hw.line hq
  unfold chunk imgS
  rw [h1,←seen8 (hw.line _ (List.getElem_mem hq)),List.take_left]
theorem poss_img {X:Nat->List Nat->Prop}{s:DevS}(hw:WfD s)(h:Poss X s){q:Nat}(hq:q<s.ls.length):X q (chunk q (imgS s)):=by
  rw [img_chk hw hq];exact h q _ (List.getElem?_eq_getElem hq) _ (seenL_mem (hw.line _ (List.getElem_mem hq)))
theorem poss_sub {X:Nat->List Nat->Prop}{s s':DevS}(h:Poss X s)(hs:∀ (q:Nat) (l':LineS),s'.ls[q]? =some l'->∃l:LineS,s.ls[q]? =some l/\∀σ∈l'.st,σ∈l.st):Poss X s':=λ q l' hl' σ hσ=>by
  obtain ⟨l,hl,hsub⟩:=hs _ _ hl';exact h q l hl σ (hsub σ hσ)
theorem poss_mono {X Y:Nat->List Nat->Prop}{s:DevS}(h:Poss X s)(hXY:∀q x,q<s.ls.length->X q x->Y q x):Poss Y s:=λ q l hl σ hσ=>hXY q _ (List.getElem?_eq_some_iff.1 hl).1 (h q l hl σ hσ)
theorem poss_cln {X:Nat->List Nat->Prop}{s:DevS}(hw:WfD s)(hc:Cln s)(h:∀q,q<s.ls.length->X q (chunk q (imgS s))):Poss X s:=λ q l hl σ hσ=>by
  obtain ⟨hq,rfl⟩:=List.getElem?_eq_some_iff.1 hl;have:=h q hq;rw [img_chk hw hq] at this
  have h1:=hc _ (List.getElem_mem hq)
  have e:σ=seenL s.ls[q]:=by
    rw [seenL_eq oqz]
    obtain ⟨k,hk,rfl⟩:=List.mem_iff_getElem.1 hσ
    congr 1;omega
  rw [e];exact this
theorem goes_sub {kp:List Int}{s:DevS}(hw:WfD s)(q:Nat)(l':LineS)(hl':(goesS kp s).ls[q]? =some l'):∃l:LineS,s.ls[q]? =some l/\ (∀σ∈l'.st,σ∈l.st)/\ l'.st.length=1:=by
  simp only [goesS,goPart,List.getElem?_mapIdx] at hl'
  cases e:s.ls[q]? with
  |none=>rw [e] at hl';cases hl'
  |some l=>
    rw [e] at hl'
    simp only [Option.map_some,Option.some.injEq] at hl'
    have hq:=(List.getElem?_eq_some_iff.1 e).1;subst hl';rw [if_pos hq]
    refine ⟨l,rfl,λ σ hσ=> ?_,rfl⟩;have hp:0<l.st.length:=List.length_pos_iff.2 (hw.line l (List.mem_of_getElem? e)).ne;have hk:=kOf_lt (keep:=kp) (i:=q) hp
    simp only [goL,List.mem_singleton] at hσ
    rw [hσ];simp [List.getD,hk]
theorem goes_poss {kp:List Int}{s:DevS}{X:Nat->List Nat->Prop}(hw:WfD s)(h:Poss X s):Poss X (goesS kp s):=poss_sub h λ q l' hl'=>by
  obtain ⟨l,h1,h2,_⟩:=goes_sub hw q l' hl';exact ⟨l,h1,h2⟩
theorem goes_cln {kp:List Int}{s:DevS}(hw:WfD s):Cln (goesS kp s):=λ l hl=>by
  obtain ⟨q,hq,rfl⟩:=List.mem_iff_getElem.1 hl;obtain ⟨_,_,_,h⟩:=goes_sub hw q _ (List.getElem?_eq_getElem hq);exact h
def Lost (X:Nat->List Nat->Prop)(n:Nat)(s:DevS):Prop:=s.off=true/\ WfD s/\ Cln s/\ Poss X s/\ s.ls.length=n
theorem done_loss {X:Nat->List Nat->Prop}{s:DevS}(hw:WfD s)(h:Poss X s):(doneE s=0/\ (doneS s).ls=s.ls/\ (doneS s).off=s.off)∨(doneE s=5/\ Lost X s.ls.length (doneS s)):=by
  have hw':=doneS_wf hw;have hl:=doneS_len s
  unfold Lost doneE doneS at*
  cases e:s.arms with
  |nil=>exact .inl ⟨rfl,rfl,rfl⟩
  |cons a ar=>
    simp only [e] at hw' hl ⊢
    by_cases c:wr64 (s.cnt+1)<a.1
    . rw [if_pos c,if_pos c];exact .inl ⟨rfl,rfl,rfl⟩
    rw [if_neg c] at hw' hl
    rw [if_neg c,if_neg c]
    have hw2:WfD { s with ops:=wr64 (s.ops+1),arms:=ar,cnt:=0 }:=by
      refine ⟨hw.pos,hw.top,hw.line, ?_, ?_, ?_⟩
      . have:=hw.arms;rw [e] at this;simp at this ⊢;omega
      . intro x hx;exact hw.after x (by rw [e];exact List.mem_cons_of_mem _ hx)
      intro x hx;exact hw.keeps x (by rw [e];exact List.mem_cons_of_mem _ hx)
    exact .inr ⟨rfl,rfl,hw',goes_cln hw2,goes_poss hw2 h,hl⟩
theorem chunk_spl {I b:List Nat}{p q:Nat}(hp:p+b.length<=I.length)(h:(q+1)*64<=p∨p+b.length<=q*64):chunk q (spl I p b)=chunk q I:=by
  unfold chunk
  apply List.ext_getElem?
  intro i;rw [List.getElem?_take,List.getElem?_take]
  by_cases hi:i<64
  . rw [if_pos hi,if_pos hi,List.getElem?_drop,List.getElem?_drop,spl_at hp,if_neg oqz]
  rw [if_neg hi,if_neg hi]
theorem poss_lay {X:Nat->List Nat->Prop}{s:DevS}{q v:Nat}(h:Poss X s)(hi:q/64<s.ls.length)(hw:WfD (layS q v s))(hX:X (q/64) (chunk (q/64) (imgS (layS q v s)))):Poss X (layS q v s):=λ j l' hl' σ hσ=>by
  have hl2:=hl';rw [layS_ls hi] at hl'
  by_cases e:j=q/64
  . subst e;have hq':q/64<(layS q v s).ls.length:=(by rw [layS_len'];omega);rw [img_chk hw hq'] at hX
    have e0:(layS q v s).ls[q/64]=l':=(by rw [List.getElem?_eq_getElem hq'] at hl2;exact Option.some.inj hl2);rw [List.getElem?_set_self hi] at hl'
    have e2:=Option.some.inj hl';have hσ':σ∈s.ls[q/64].st++[(seenL s.ls[q/64]).set (q%64/8) v]:=(by rw [←e2] at hσ;exact hσ)
    rcases List.mem_append.1 hσ' with h1|h1
    . exact h _ _ (List.getElem?_eq_getElem hi) σ h1
    rw [List.mem_singleton] at h1
    rw [e0,←e2] at hX
    unfold layL at hX
    rw [seenL_app] at hX
    rw [h1];exact hX
  rw [List.getElem?_set_ne (Ne.symm e)] at hl'
  exact h j _ hl' σ hσ
def Went (X:Nat->List Nat->Prop)(p m:Nat)(s s2:DevS):Prop:=s2.off=false/\ WfD s2/\ Poss X s2/\ s2.ls.length=s.ls.length/\∀q:Nat,(q+1)*64<=p∨p+m<=q*64->s2.ls[q]? =s.ls[q]?
theorem storeF_loss {X:Nat->List Nat->Prop}:∀ (m:Nat) {p r:Nat} {b:List Nat} {s:DevS},b.length=m->WfD s->s.off=false->(∀x∈b,x<256)->Room (r+m) s->p+m<=s.ls.length*64->Poss X s→
    (∀k q,0<k->k<=m->((p+k)%8=0∨k=m)->q<s.ls.length->X q (chunk q (spl (imgS s) p (b.take k))))→
    ∃e s2,storeF b.length p b s=(e,s2)/\ ((e=0/\ Went X p m s s2/\ Room r s2/\ imgS s2=spl (imgS s) p b)∨(e=5/\ Lost X s.ls.length s2)):=by
  intro m
  induction m using Nat.strongRecOn with
  |_ m ih=>
    intro p r b s hm hw hO hb hroom hp hP hX
    by_cases h0:b=[]
    . subst h0;have:m=0:=(by simpa using hm.symm);subst this;exact ⟨0,s,storeF_nil _ _ _,.inl ⟨rfl,⟨hO,hw,hP,rfl,λ _ _=>rfl⟩,λ l hl=>by have:=hroom l hl;omega,(spl_nil _ _).symm⟩⟩
    have hpos:0<b.length:=List.length_pos_iff.2 h0;have hi:p/64<s.ls.length:=(by omega);have hr1:Room 1 s:=λ l hl=>by have:=hroom l hl;omega
    have hwL:=layS_wf (at_:=p-p%8) hw hr1 (stW_nm (p:=p) (s:=s) hb);have himg:=img_stW (p:=p) hw hi hb hr1;have hil:=img_length hw.line;have hlen:(layS (p-p%8) (nm (stW p b s)) s).ls.length=s.ls.length:=layS_len _ _ _;have ht:(b.take (8-p%8)).length=min b.length (8-p%8):=(by rw [List.length_take];omega);have hk:(b.drop (8-p%8)).length=m-min m (8-p%8):=(by rw [List.length_drop];omega);have hqe:(p-p%8)/64=p/64:=(by omega)
    have hP1:Poss X (layS (p-p%8) (nm (stW p b s)) s):=by
      refine poss_lay hP oqz hwL ?_;rw [himg,hqe]
      by_cases hlt:m<=8-p%8
      . have:=hX m (p/64) oqz oqz (.inr rfl) hi;rw [←hm,List.take_length] at this
        rw [List.take_of_length_le oqz];exact this
      exact hX (8-p%8) (p/64) oqz oqz (.inl oqz) hi
    rw [storeF_step h0]
    rcases done_loss hwL hP1 with ⟨h1,h2,h3⟩|⟨h1,h2⟩
    . rw [h1,if_neg (by decide)]
      have hoff:(doneS (layS (p-p%8) (nm (stW p b s)) s)).off=false:=(by rw [h3];unfold layS;rw [(onLine_fields _ _ s).2.2.2.1];exact hO);have hI2:imgS (doneS (layS (p-p%8) (nm (stW p b s)) s))=spl (imgS s) p (b.take (8-p%8)):=(by unfold imgS;rw [h2];exact himg)
      have hroom2:Room (r+(m-min m (8-p%8))) (doneS (layS (p-p%8) (nm (stW p b s)) s)):=λ l hl=>by
        rw [h2] at hl
        have:=onLine_room (r:=r+m-1) (f:=layL ((p-p%8)%64/8) (nm (stW p b s))) (i:=(p-p%8)/64) (λ l hl=>by have:=hroom l hl;omega) (λ l=>by simp [layL]) l hl
        omega
      have hX2:∀k q,0<k->k<=m-min m (8-p%8)->((p+min b.length (8-p%8)+k)%8=0∨k=m-min m (8-p%8))->q<(doneS (layS (p-p%8) (nm (stW p b s)) s)).ls.length→
          X q (chunk q (spl (imgS (doneS (layS (p-p%8) (nm (stW p b s)) s))) (p+min b.length (8-p%8)) ((b.drop (8-p%8)).take k))):=λ k q k0 k1 k2 hq=>by
        rw [hI2,←ht,spl_spl (by rw [ht,List.length_take,List.length_drop];unfold imgS;omega)]
        have e:b.take (8-p%8)++(b.drop (8-p%8)).take k=b.take (8-p%8+k):=(by rw [←List.take_add]);rw [e]
        refine hX _ q oqz oqz oqz (by rw [h2,hlen] at hq;exact hq)
      obtain ⟨e,s2,g1,g2⟩:=ih (m-min m (8-p%8)) oqz (p:=p+min b.length (8-p%8)) (r:=r) (b:=b.drop (8-p%8)) (s:=doneS (layS (p-p%8) (nm (stW p b s)) s))
        hk (doneS_wf hwL) hoff (λ x hx=>hb x (List.mem_of_mem_drop hx)) hroom2 (by rw [h2,hlen];omega) (λ q l hl σ hσ=>by rw [h2] at hl;exact hP1 q l hl σ hσ) hX2
      refine ⟨e,s2,g1, ?_⟩
      rcases g2 with ⟨a1,⟨a2,a3,a4,a5,a6⟩,a7,a8⟩|⟨a1,a2⟩
      . left
        refine ⟨a1,⟨a2,a3,a4,by rw [a5,h2,hlen],λ q hq=> ?_⟩,a7, ?_⟩
        . rw [a6 q oqz,h2,layS_ls oqz]
          exact List.getElem?_set_ne oqz
        rw [a8,hI2,←ht,spl_spl (by rw [ht,List.length_drop];unfold imgS;omega),List.take_append_drop]
      right
      rw [h2,hlen] at a2;exact ⟨a1,a2⟩
    rw [h1,if_pos (by decide)]
    exact ⟨5,_,rfl,.inr ⟨rfl,by rw [hlen] at h2;exact h2⟩⟩
theorem flF_loss {X:Nat->List Nat->Prop}:∀ (k q:Nat) (s:DevS),WfD s->s.off=false->Poss X s->q+k<=s.ls.length→
    ∃e s2,flF k q s=(e,s2)/\ ((e=0/\ s2.off=false/\ WfD s2/\ s2.ls=(flsh k q s.ls).map fenceL)∨(e=5/\ Lost X s.ls.length s2))
  |0,q,s,hw,hO,hP,h=>by
    have hw2:WfD (fenceS s):=⟨by simp [fenceS];exact hw.pos,by simp [fenceS];exact hw.top,λ l hl=>by
      simp only [fenceS,List.mem_map] at hl
      obtain ⟨l0,h0,rfl⟩:=hl
      exact fenceL_wf (hw.line l0 h0),hw.arms,hw.after,hw.keeps⟩
    have hP2:Poss X (fenceS s):=poss_sub hP λ q l' hl'=>by
      obtain ⟨l,h1,rfl⟩:=fence_get hl';exact ⟨l,h1,fence_mem⟩
    rw [flF_zero]
    unfold fe
    rw [if_neg (by rw [hO];decide),flsh_zero]
    rcases done_loss hw2 hP2 with ⟨h1,h2,h3⟩|⟨h1,h2⟩
    . exact ⟨_,_,rfl,.inl ⟨h1,by rw [h3];exact hO,doneS_wf hw2,h2⟩⟩
    exact ⟨_, _, rfl, .inr ⟨h1, by have e : (fenceS s).ls.length = s.ls.length := by simp [fenceS]
                                   rw [e] at h2;exact h2⟩⟩
  |k+1,q,s,hw,hO,hP,h=>by
    have hq:q<s.ls.length:=(by omega)
    have hs:flushS (q*64) s={ s with ls:=s.ls.set q (flushL s.ls[q]) }:=by
      unfold flushS;rw [show q*64/64=q by omega,onLine_at hq]
    have hwF:=flushS_wf (p:=q*64) hw
    have hPF:Poss X (flushS (q*64) s):=poss_sub hP λ j l' hl'=>by
      rw [hs] at hl'
      by_cases e:q=j
      . subst e;rw [List.getElem?_set_self hq] at hl'
        have:=Option.some.inj hl';subst this;exact ⟨_,List.getElem?_eq_getElem hq,λ σ h=>h⟩
      rw [List.getElem?_set_ne e] at hl'
      exact ⟨l',hl',λ σ h=>h⟩
    have hlF:(flushS (q*64) s).ls.length=s.ls.length:=(by rw [hs];simp)
    have hf1:fl1 ((q*64:Nat):Int) s=(doneE (flushS (q*64) s),doneS (flushS (q*64) s)):=by
      unfold fl1
      rw [hO,rdy_ok oqz oqz oqz,if_neg (by simp),Int.toNat_natCast]
    show∃e s2,(if (fl1 ((q*64:Nat):Int) s).1≠0 then fl1 ((q*64:Nat):Int) s else flF k (q+1) (fl1 ((q*64:Nat):Int) s).2)=(e,s2)/\ _
    rw [hf1]
    rcases done_loss hwF hPF with ⟨h1,h2,h3⟩|⟨h1,h2⟩
    . simp only []
      rw [h1,if_neg (by decide)]
      obtain ⟨e,s2,g1,g2⟩:=flF_loss (X:=X) k (q+1) (doneS (flushS (q*64) s)) (doneS_wf hwF) (by rw [h3,hs];exact hO) (λ j l hl σ hσ=>by rw [h2] at hl;exact hPF j l hl σ hσ) (by rw [h2,hlF];omega);refine ⟨e,s2,g1, ?_⟩
      rcases g2 with ⟨a1,a2,a3,a4⟩|⟨a1,a2⟩
      . exact .inl ⟨a1,a2,a3,by rw [a4,h2,hs];simp only [];rw [flsh_step hq]⟩
      exact .inr ⟨a1,by rw [h2,hlF] at a2;exact a2⟩
    simp only []
    rw [h1,if_pos (by decide)]
    exact ⟨5,_,rfl,.inr ⟨rfl,by rw [hlF] at h2;exact h2⟩⟩
theorem lastS_loss {X:Nat->List Nat->Prop}{p m:Nat}{s:DevS}(hw:WfD s)(hO:s.off=false)(hP:Poss X s)(h1:1<=m)(hp:p+m<=s.ls.length*64)(hc:∀ (q:Nat) (l:LineS),(q+1)*64<=p∨p+m<=q*64->s.ls[q]? =some l->l.st.length=1):
    ∃e s2,lastS p m s=(e,s2)/\ ((e=0/\ s2.off=false/\ WfD s2/\ Cln s2/\ s2.ls.length=s.ls.length/\ imgS s2=imgS s)∨(e=5/\ Lost X s.ls.length s2)):=by
  obtain ⟨e,s2,g1,g2⟩:=flF_loss (X:=X) ((p+m-1)/64-p/64+1) (p/64) s hw hO hP oqz;refine ⟨e,s2,g1, ?_⟩
  rcases g2 with ⟨a1,a2,a3,a4⟩|h
  . left
    have hwf:∀l∈flsh ((p+m-1)/64-p/64+1) (p/64) s.ls,WfL l:=flsh_wf hw.line;refine ⟨a1,a2,a3,λ l' hl'=> ?_,by rw [a4,List.length_map,flsh_len], ?_⟩
    . rw [a4] at hl'
      obtain ⟨q,hq,rfl⟩:=List.mem_iff_getElem.1 hl';obtain ⟨l1,e1,e2⟩:=fence_get (List.getElem?_eq_getElem hq);obtain ⟨l,e3,e4⟩:=flsh_get e1;rw [e2]
      have hwl:=hw.line l (List.mem_of_getElem? e3);have hpl:=List.length_pos_iff.2 hwl.ne
      by_cases c:p/64<=q/\ q<p/64+((p+m-1)/64-p/64+1)
      . rw [if_pos c] at e4
        subst e4
        unfold fenceL flushL
        rw [if_pos (by simp only [];omega)]
        simp only [List.length_drop];omega
      rw [if_neg c] at e4
      subst e4;have:=hc q l1 oqz e3
      unfold fenceL
      split
      . rename_i h0
        have:=hwl.hi
        simp only [List.length_drop];omega
      exact this
    unfold imgS
    rw [a4]
    refine img_seen ?_;rw [←flsh_seen ((p+m-1)/64-p/64+1) (p/64) s.ls,List.map_map]
    exact List.map_congr_left λ l hl=>seen_fence (hwf l hl)
  exact .inr h
theorem crL_app:∀{xs ys:List Nat} {r:Nat},crL r (xs++ys)=crL (crL r xs) ys
  |[],_,_=>rfl
  |x::xs,ys,r=>by show crL _ (xs++ys)=crL (crL _ xs) ys;exact crL_app
theorem crc_app {s:Nat}{xs ys:List Nat}:crc s (xs++ys)=crc (crc s xs) ys:=by
  unfold crc;rw [crL_app,Nat.xor_assoc (crL _ xs),Nat.xor_self,Nat.xor_zero]
def pad8 (n:Nat):Nat:=(8-n%8)%8
def up8 (n:Nat):Nat:=n+pad8 n
theorem up8_le (n:Nat):n<=up8 n/\ up8 n<n+8:=by unfold up8 pad8;omega
def recH (p n:Nat):List Nat:=le 8 p++le 8 n
theorem recH_len (p n:Nat):(recH p n).length=16:=by unfold recH;rw [List.length_append,le_length,le_length]
theorem recH_b (p n:Nat):∀x∈recH p n,x<256:=λ x hx=>by
  rcases List.mem_append.1 hx with h|h<;>exact le_bytes _ _ _ h
def recS (p:Nat)(old:List Nat):List Nat:=recH p old.length++le 8 (crc 0 (recH p old.length++old))++old++List.replicate (pad8 old.length) 0
theorem recS_eq (p:Nat)(old:List Nat):recS p old=recH p old.length++le 8 (crc 0 (recH p old.length++old))++old++List.replicate (pad8 old.length) 0:=rfl
theorem recS_len (p:Nat)(old:List Nat):(recS p old).length=24+up8 old.length:=by
  unfold recS up8;simp only [List.length_append,recH_len,le_length,List.length_replicate];omega
theorem recS_b {p:Nat}{old:List Nat}(h:∀x∈old,x<256):∀x∈recS p old,x<256:=λ x hx=>by
  unfold recS at hx
  rcases List.mem_append.1 hx with h1|h1
  . rcases List.mem_append.1 h1 with h2|h2
    . rcases List.mem_append.1 h2 with h3|h3
      . exact recH_b _ _ _ h3
      exact le_bytes _ _ _ h3
    exact h x h2
  rw [(List.mem_replicate.1 h1).2];decide
def needF:List Int->Int->Int×Int
  |[],s=>(s,0)
  |n::l,s=>if n<1 then (0,2) else if 9223372036854775807<n+pad8 n.toNat then (0,2) else if 9223372036854775807-24-s<n+pad8 n.toNat then (0,2) else needF l (s+24+(n+pad8 n.toNat))
def needS (l:List Int):Int×Int:=needF l 0
def mayX (n at_ sz:Nat)(x:Int×Int):Bool:=decide (1<=x.2/\ 64<=x.1/\ x.1+x.2<=n/\ (x.1+x.2<=at_∨(at_+sz:Nat)<=x.1))
structure LogW (n at_ sz:Nat):Prop where
  a:64<=at_
  am:at_%64=0
  s:128<=sz
  sm:sz%64=0
  top:at_+sz<=n
def putF:Nat->List (Int×Int)->DevS->Int×DevS
  |_,[],s=>(0,s)
  |p,x::l,s=>if (sto (p:Nat) (recS x.1.toNat (((imgS s).drop x.1.toNat).take x.2.toNat)) s).1≠0 then sto (p:Nat) (recS x.1.toNat (((imgS s).drop x.1.toNat).take x.2.toNat)) s
    else putF (p+(24+up8 x.2.toNat)) l (sto (p:Nat) (recS x.1.toNat (((imgS s).drop x.1.toNat).take x.2.toNat)) s).2
def lensX (l:List (Int×Int)):List Int:=l.map (·.2)
def writeS (at_ sz:Nat)(l:List (Int×Int))(s:DevS):Int×DevS:=
  if s.off=true then (5,s) else if (wordP (at_:Nat) s).1≠0 then (3,s) else if l.all (mayX (s.ls.length*64) at_ sz)=false then (6,s)
  else if (needS (lensX l)).2≠0∨((sz-64:Nat):Int)<(needS (lensX l)).1 then (111,s) else if l=[] then (0,s)
  else if (putF (at_+64) l s).1≠0 then putF (at_+64) l s
  else if (rangeP ((at_+64:Nat):Int) (needS (lensX l)).1 (putF (at_+64) l s).2).1≠0 then rangeP ((at_+64:Nat):Int) (needS (lensX l)).1 (putF (at_+64) l s).2
  else pubP (at_:Nat) l.length (rangeP ((at_+64:Nat):Int) (needS (lensX l)).1 (putF (at_+64) l s).2).2
def clearS (at_:Nat)(s:DevS):Int×DevS:=if s.off=true then (5,s) else pubP (at_:Nat) 0 s
def readS (n at_ sz:Nat)(room:List Nat)(p:Nat):Option ((Nat×List Nat)×Nat):=
  if room.length<p+24 then none
  else if mayX n at_ sz ((nm ((room.drop p).take 8):Nat),(nm ((room.drop (p+8)).take 8):Nat))=false then none
  else if room.length<p+(24+up8 (nm ((room.drop (p+8)).take 8))) then none
  else if recS (nm ((room.drop p).take 8)) ((room.drop (p+24)).take (nm ((room.drop (p+8)).take 8)))≠(room.drop p).take (24+up8 (nm ((room.drop (p+8)).take 8))) then none
  else some ((nm ((room.drop p).take 8),(room.drop (p+24)).take (nm ((room.drop (p+8)).take 8))),24+up8 (nm ((room.drop (p+8)).take 8)))
def recsF (n at_ sz:Nat)(room:List Nat):Nat->Nat->List (Nat×List Nat)×Int
  |0,_=>([],0)
  |k+1,p=>match readS n at_ sz room p with
    |none=>([],110)
    |some (x,t)=>if (recsF n at_ sz room k (p+t)).2≠0 then ([],110) else (x::(recsF n at_ sz room k (p+t)).1,0)
def roomS (at_ sz:Nat)(s:DevS):List Nat:=((imgS s).drop (at_+64)).take (sz-64)
def recordsS (at_ sz:Nat)(s:DevS):List (Nat×List Nat)×Int:=
  if s.off=true then ([],5) else recsF (s.ls.length*64) at_ sz (roomS at_ sz s) (wordP (at_:Nat) s).1 0
def flL:Nat->Nat->DevS->Int×DevS
  |0,_,s=>(0,s)
  |k+1,q,s=>if (fl1 ((q*64:Nat):Int) s).1≠0 then fl1 ((q*64:Nat):Int) s else flL k (q+1) (fl1 ((q*64:Nat):Int) s).2
def flushX (p m:Nat)(s:DevS):Int×DevS:=flL ((p+m-1)/64-p/64+1) (p/64) s
def backS (x:Nat×List Nat)(s:DevS):Int×DevS:=if (sto (x.1:Nat) x.2 s).1≠0 then sto (x.1:Nat) x.2 s else flushX x.1 x.2.length (sto (x.1:Nat) x.2 s).2
def backF:List (Nat×List Nat)->DevS->Int×DevS
  |[],s=>(0,s)
  |x::l,s=>if (backS x s).1≠0 then backS x s else backF l (backS x s).2
def rollS (at_ sz:Nat)(s:DevS):(Int×Int)×DevS:=
  if (recordsS at_ sz s).2≠0∨(recordsS at_ sz s).1=[] then ((0,(recordsS at_ sz s).2),s)
  else if (backF (recordsS at_ sz s).1.reverse s).1≠0 then ((0,(backF (recordsS at_ sz s).1.reverse s).1),(backF (recordsS at_ sz s).1.reverse s).2)
  else if (fe (backF (recordsS at_ sz s).1.reverse s).2).1≠0 then ((0,(fe (backF (recordsS at_ sz s).1.reverse s).2).1),(fe (backF (recordsS at_ sz s).1.reverse s).2).2)
  else if (pubP (at_:Nat) 0 (fe (backF (recordsS at_ sz s).1.reverse s).2).2).1≠0 then ((0,(pubP (at_:Nat) 0 (fe (backF (recordsS at_ sz s).1.reverse s).2).2).1),(pubP (at_:Nat) 0 (fe (backF (recordsS at_ sz s).1.reverse s).2).2).2)
  else (((recordsS at_ sz s).1.length,0),(pubP (at_:Nat) 0 (fe (backF (recordsS at_ sz s).1.reverse s).2).2).2)
theorem hbqz {p:Prop}(h:p:=by (repeat (first|assumption|with_reducible exact has_here|with_reducible exact has_pt|apply has_left))):p:=h
theorem haqz {p:Prop}(h:p:=by repeat (first|assumption|apply has_left)):p:=h
def lcs11 (d at_ sz:Nat):List Value:=[pz d,vn at_,vn sz]
def xcs (x:Int×Int):List Value:=[.int .i64 x.1,.int .i64 x.2]
structure XW (x:Int×Int):Prop where
  a: -9223372036854775808<=x.1/\ x.1<=9223372036854775807
  l: -9223372036854775808<=x.2/\ x.2<=9223372036854775807
def rndS (n:Nat):Int×Int:=if 9223372036854775807<n+pad8 n then (0,2) else (((up8 n:Nat):Int),0)
theorem wr_i64 {x:Int}(h: -9223372036854775808<=x/\ x<=9223372036854775807):IntKind.i64.wrap x=x:=by simp [IntKind.wrap,IntKind.bits,IntKind.signed];omega
theorem needF_cons {n:Nat}{l:List Int}{s:Int}(h:1<=n):needF ((n:Int)::l) s=if (rndS n).2≠0∨9223372036854775807-24-s<(rndS n).1 then (0,2) else needF l (s+24+(rndS n).1):=by
  have e:needF ((n:Int)::l) s=if (n:Int)<1 then (0,2) else if 9223372036854775807<(n:Int)+pad8 (n:Int).toNat then (0,2) else if 9223372036854775807-24-s<(n:Int)+pad8 (n:Int).toNat then (0,2) else needF l (s+24+((n:Int)+pad8 (n:Int).toNat)):=rfl;rw [e,if_neg oqz,Int.toNat_natCast]
  unfold rndS up8
  by_cases h1:9223372036854775807<n+pad8 n
  . rw [if_pos oqz,if_pos h1,if_pos (.inl (by decide))]
  rw [if_neg oqz,if_neg h1]
  by_cases h2:9223372036854775807-24-s<((n+pad8 n:Nat):Int)
  . rw [if_pos oqz,if_pos (.inr h2)]
  rw [if_neg oqz,if_neg (by simp only [ne_eq,not_true,false_or];exact h2)]
  congr 1
theorem needF_drop {xs:List Int}{i:Nat}(h:i<xs.length)(s:Int):needF (xs.drop i) s=needF (xs[i]::xs.drop (i+1)) s:=by rw [List.drop_eq_getElem_cons h]
theorem needF_bad {n:Int}{l:List Int}{s:Int}(h:n<1):needF (n::l) s=(0,2):=by
  show (if n<1 then _ else _)=_
  rw [if_pos h]
theorem Sum_2 {A:SP}{a a2:Option Addr}{m m2 c c2 b:Nat}{xs ys:List Nat}{E:TypeId}(h1:Rs A a (bys xs))(e1:xs.length=m)(hb:∀x∈xs,x<256)(hl:m<=1099511627776)(k1:Rs A a2 (bys ys))(k2:ys.length=m2)(kb:∀x∈ys,x<256)(kl:m2<=1099511627776):
    Fn Tryz.prog 305 #[.slice (some ⟨b,0,none⟩) 2 2] (A*pt b (cl [.slice a m c,.slice a2 m2 c2] E)) (λ r B=>r= .int .u32 ((crc 0 (xs++ys):Nat):Int)/\ A*pt b (cl [.slice a m c,.slice a2 m2 c2] E)=B):=by
  subst e1 k2;refine fn_rs (xs:=[.slice a xs.length c,.slice a2 ys.length c2]) rs_pt0 λ hr=> ?_
  refine fn_rs h1.left λ h1=> ?_
  refine fn_rs k1.left λ k1=> ?_
  have h:=Sum_c (c:=2) (ls:=[xs,ys]) ⟨_,rfl,hr,λ i hi=>by
    match i,hi with
    |0,_=>exact ⟨a,c,rfl,h1⟩
    |1,_=>exact ⟨a2,c2,rfl,k1⟩⟩ rfl (by intro l hl;simp at hl;rcases hl with rfl|rfl;exact hb;exact kb) (by intro l hm;simp at hm;rcases hm with rfl|rfl;exact hl;exact kl) (by show 2<=_;decide)
  rw [show crcs [xs,ys]=crc 0 (xs++ys) by rw [crc_app];rfl] at h
  exact h
attribute [local irreducible] crk crL crc Sl pt ro Dev imgS recS
theorem Zcn {p r:Prop}(k:r)(h:Kq r->p:=by intro k;refine tv (o_lss rfl rfl) ?_;refine tlm ?_;exact k.o):p:=h ⟨k⟩
theorem Zc8 {p r:Prop}(k:r)(h:Kq r->p:=by intro k;refine tlm ?_;refine tv (o_lss rfl rfl) ?_;exact k.o):p:=h ⟨k⟩
theorem Zdz {p r:Prop}(k:r)(h:Kq r->p:=by intro k;refine tv (o_pick_f rfl wqz) ?_;refine Zq ?_;exact k.o):p:=h ⟨k⟩
theorem Round8_c {A:SP}{n:Nat}(hn:n<=9223372036854775807:=by omega):
    Fn Tryz.prog 304 #[vn n,.int .i64 8] A (λ r B=>r= .tuple #[.int .i64 (rndS n).1,.int .i64 (rndS n).2]/\ A=B):=by
  refine fn_enterW func304 rfl ntmps304 (by simp) ?_;refine Zdi ?_;refine Zcn ?_;refine tl_bool (d:=9) rfl dbq (sbq ?_);intro h;refine Zc8 ?_;refine Zdz ?_;intro h;refine Zh8 ?_;refine tv (o_remN (b:=8) rfl rfl (by decide)) ?_;refine tv (by first|exact o_subI rfl rfl oqz|exact o_sub rfl rfl) ?_;refine tl_env (d:=17) (v:=(vn (8-n%8))) (by show Value.int .i64 ((8:Int)-((n%8:Nat):Int))=_;congr 1;omega) ?_;refine tlm ?_;refine tv (o_remN (b:=8) rfl rfl (by decide)) ?_;refine Zy ?_;refine Zda ?_;refine tl_env (d:=22) (v:=(vn (9223372036854775807-pad8 n))) (by have hp:pad8 n<8:=(by unfold pad8;omega);show Value.int .i64 ((9223372036854775807:Int)-((pad8 n:Nat):Int))=_;congr 1;omega) ?_;refine Zd8 ?_;refine tc_cond rfl (λ h=> ?_) (λ h=> ?_)
  . have hp:pad8 n<8:=(by unfold pad8;omega);have hg:9223372036854775807<n+pad8 n:=(by first|omega|(simp at h;omega));refine Zhf ?_;have e:rndS n=(0,2):=(by unfold rndS;rw [if_pos hg]);rw [e]
    exact ⟨.tuple #[.int .i64 0,.int .i64 2],A,res2 rfl rfl rfl,Dr.sat drqz,rfl,rfl⟩
  have hp:pad8 n<8:=(by unfold pad8;omega);have hg:¬9223372036854775807<n+pad8 n:=(by first|omega|(simp at h;omega));refine Zb2 ?_;refine Zcv ?_;refine tl_env (d:=26) (v:=(vn (up8 n))) (by show Value.int .i64 (IntKind.i64.wrap ((n+pad8 n:Nat):Int))=_;rw [wr_i64 oqz];rfl) ?_;refine Z6 ?_;have e:rndS n=(((up8 n:Nat):Int),0):=(by unfold rndS;rw [if_neg hg]);rw [e]
  exact ⟨.tuple #[vn (up8 n),.int .i64 0],A,res2 rfl rfl rfl,Dr.sat drqz,rfl,rfl⟩
theorem Zgt {p r:Prop}(k:r)(h:Kq r->p:=by intro k;refine tv (o_len underlying34 rfl) ?_;refine Zb6 ?_;exact k.o):p:=h ⟨k⟩
theorem Zc6 {p r:Prop}(k:r)(h:Kq r->p:=by intro k;refine Z6 ?_;refine q_then_r (q_block_r (q_then_r (q_then_r (q_block_r (q_then_r ?_)))));exact k.o):p:=h ⟨k⟩
theorem Zdv {p r:Prop}(k:r)(h:Kq r->p:=by intro k;refine tv (o_nei rfl rfl) ?_;refine tlm ?_;exact k.o):p:=h ⟨k⟩
theorem Zgm {p r:Prop}(k:r)(h:Kq r->p:=by intro k;refine Zt ?_;refine tv (o_subI rfl rfl oqz) ?_;exact k.o):p:=h ⟨k⟩
theorem Z7 {p r:Prop}(k:r)(h:Kq r->p:=by intro k;refine tv (o_gtr rfl rfl) ?_;refine tv (o_pick_f rfl wqz) ?_;exact k.o):p:=h ⟨k⟩
theorem Need_c {A:SP}{a:Option Addr}{c m:Nat}{xs:List Int}(hr:Rs A a (ints xs):=by exact rbqz)(hm:xs.length=m:=by first|assumption|rfl)(hx:∀x∈xs,-9223372036854775808<=x/\ x<=9223372036854775807:=by assumption)(hml:m<=4611686018427387904:=by omega):
    Fn Tryz.prog 268 #[.slice a m c] A (λ r B=>r= .tuple #[.int .i64 (needS xs).1,.int .i64 (needS xs).2]/\ A=B):=by
  refine fn_enterW func268 rfl ntmps268 (by simp) ?_;refine Zcc ?_;refine Za ?_;refine Zcb ?_;refine Zgt ?_;refine tc_loop (λ kk ρ BB=>∃ (i:Nat) (sm:Int),(i<=m)/\ (needF (xs.drop i) sm=needS xs)/\ (0<=sm/\ sm<=9223372036854775807)/\ kk=m-i/\ ρ 4= .int .i64 sm/\ ρ 11=(vn i)/\ ρ 9= .slice a m c/\ ρ 10=(vn m)/\ BB=A) (m:=m-(0)) ?_ ?_
  . exact ⟨0,0,by omega,rfl,by omega,rfl,rfl,rfl,rfl,rfl,rfl⟩
  intro k ρ B hI;obtain ⟨i,sm,hp0,hp1,hp2,hkk1,hE4,hE11,hE9,hE10,hBA⟩:=hI;obtain rfl:=hBA.symm;refine te 4 hE4 ?_;refine te 11 hE11 ?_;refine te 9 hE9 ?_;refine te 10 hE10 ?_;refine Zb9 ?_;refine tc_cond rfl (λ h=> ?_) (λ h=> ?_)
  . have hi:i<xs.length:=(by first|omega|(simp at h;omega));obtain ⟨x,hx1⟩:∃x,xs[i]=x:=⟨_,rfl⟩;have hxb:=hx x (hx1▸List.getElem_mem hi);have hnd:=needF_drop hi sm;rw [hx1] at hnd
    obtain ⟨hsm0,hsm1⟩:=hp2;refine Zdt ?_;refine tv (o_ixP1 underlying34 sz3 rfl rfl oqz (nn_rs hr (by rw [ints_length];omega))) ?_;refine tv (o_ldP p3 rfl hr (ints_at hi)) ?_;refine tl_env (d:=14) (v:= .int .i64 x) (by show Value.int .i64 xs[i]=_;rw [hx1]) ?_;refine Zy ?_;refine Zx ?_;refine tc_cond rfl (λ h=> ?_) (λ h=> ?_)
    . have g16:(x<1):=(by first|exact of_decide_eq_true h|(have h2:=h;simp at h2;omega)|simpa using h);refine sr ?_;refine Zc6 ?_;have e:needS xs=(0,2):=(by rw [←hp1,hnd];first|exact needF_bad g16|rw [needF_cons hq1,if_pos hng]);rw [e]
      exact ⟨.tuple #[.int .i64 0,.int .i64 2],A,res2 rfl rfl rfl,Dr.sat drqz,rfl,rfl⟩
    have g16:¬(x<1):=(by first|exact of_decide_eq_false h|(have h2:=h;simp at h2;omega)|simpa using h);refine Zb2 ?_;obtain ⟨q,rfl⟩:=Int.eq_ofNat_of_zero_le (show 0<=x by omega);have hq1:1<=q:=(by omega);have hqr:(rndS q).1<=9223372036854775807/\ 0<=(rndS q).1:=(by unfold rndS up8;split<;>simp<;>omega);refine tl_c rfl (o_call bd304 rfl (Round8_c (n:=q))) ?_;rintro _ _ ⟨rfl,rfl⟩;refine Zdu ?_;refine Zdv ?_;refine tl_bool (d:=24) rfl (λ h=> ?_) (λ h=> ?_)
    . have hng:(rndS q).2≠0∨9223372036854775807-24-sm<(rndS q).1:= .inl (by first|exact of_decide_eq_true h|(simp at h;omega));refine Zbj ?_;refine tv (o_pick_t rfl wqz) ?_;refine nq ?_;refine tc_cond_t rfl ?_;refine sr ?_;refine Zc6 ?_;have e:needS xs=(0,2):=(by rw [←hp1,hnd];first|exact needF_bad g16|rw [needF_cons hq1,if_pos hng]);rw [e]
      exact ⟨.tuple #[.int .i64 0,.int .i64 2],A,res2 rfl rfl rfl,Dr.sat drqz,rfl,rfl⟩
    have h24:(rndS q).2=0:=(by first|(have h9:=of_decide_eq_false h;omega)|(simp at h;omega));refine Zgm ?_;refine Z7 ?_;refine nq ?_;refine tc_cond rfl (λ h=> ?_) (λ h=> ?_)
    . have hng:(rndS q).2≠0∨9223372036854775807-24-sm<(rndS q).1:=(by first|assumption|exact .inr (by first|omega|(simp at h;omega)));refine sr ?_;refine Zc6 ?_;have e:needS xs=(0,2):=(by rw [←hp1,hnd];first|exact needF_bad g16|rw [needF_cons hq1,if_pos hng]);rw [e]
      exact ⟨.tuple #[.int .i64 0,.int .i64 2],A,res2 rfl rfl rfl,Dr.sat drqz,rfl,rfl⟩
    have hn9:¬9223372036854775807-24-sm<(rndS q).1:=(by first|omega|(simp at h;omega));have hng:¬((rndS q).2≠0∨9223372036854775807-24-sm<(rndS q).1):=(by omega);refine Zb2 ?_;refine tv adqz ?_;refine Zfx ?_;refine tv adqz ?_;refine Zeo ?_;exact ⟨_,by omega,i+1,_,by omega,by rw [←hp1,hnd,needF_cons hq1,if_neg hng],by omega,rfl,rfl,rfl,rfl,rfl,rfl⟩
  obtain rfl:i=m:=by first|omega|(simp at h;omega)
  refine Zhb ?_;have e:needS xs=(sm,0):=(by rw [←hp1,List.drop_eq_nil_of_le oqz];rfl);rw [e]
  exact ⟨.tuple #[.int .i64 sm,.int .i64 0],A,res2 rfl rfl rfl,Dr.sat drqz,rfl,rfl⟩
theorem Zd1 {p r:Prop}(k:r)(h:Kq r->p:=by intro k;refine tv (o_fieldAddr (o:=0) underlying258 rfl rfl sz44 rfl) ?_;refine tv (o_load p44 rfl haqz rfl) ?_;exact k.o):p:=h ⟨k⟩
theorem Zfc {p r:Prop}(k:r)(h:Kq r->p:=by intro k;refine Zci ?_;refine tc_seq ?_;exact k.o):p:=h ⟨k⟩
theorem Zbu {p r:Prop}(k:r)(h:Kq r->p:=by intro k;refine tv (o_fieldAddr (o:=1) underlying365 rfl rfl sz3 rfl) ?_;refine tv (by first|exact o_load p3 rfl hsqz rfl|exact o_loadC p3 rfl (by assumption)) ?_;exact k.o):p:=h ⟨k⟩
theorem Zeg {p r:Prop}(k:r)(h:Kq r->p:=by intro k;refine Z1 ?_;refine Zbj ?_;exact k.o):p:=h ⟨k⟩
theorem Zga {p r:Prop}(k:r)(h:Kq r->p:=by intro k;refine Zc5 ?_;refine Zeg ?_;exact k.o):p:=h ⟨k⟩
theorem Zbb {p r:Prop}(k:r)(h:Kq r->p:=by intro k;refine tv (o_pick_t rfl wqz) ?_;refine tl_nil ?_;exact k.o):p:=h ⟨k⟩
theorem Zbk {p r:Prop}(k:r)(h:Kq r->p:=by intro k;refine tv (o_fieldAddr (o:=0) underlying365 rfl rfl sz3 rfl) ?_;refine tv (by first|exact o_load p3 rfl hsqz rfl|exact o_loadC p3 rfl (by assumption)) ?_;exact k.o):p:=h ⟨k⟩
theorem Zhg {p r:Prop}(k:r)(h:Kq r->p:=by intro k;refine Z7 ?_;refine tlm ?_;exact k.o):p:=h ⟨k⟩
theorem Zf3 {p r:Prop}(k:r)(h:Kq r->p:=by intro k;refine Z7 ?_;refine tl_nil ?_;exact k.o):p:=h ⟨k⟩
theorem Zbh {p r:Prop}(k:r)(h:Kq r->p:=by intro k;refine ql_v rfl (o_fieldAddr (o:=0) underlying365 rfl rfl sz3 rfl) ?_;refine ql_v rfl (by first|exact o_load p3 rfl hsqz rfl|exact o_loadC p3 rfl (by assumption)) ?_;exact k.o):p:=h ⟨k⟩
theorem Zcl {p r:Prop}(k:r)(h:Kq r->p:=by intro k;refine ql_v rfl (o_fieldAddr (o:=1) underlying365 rfl rfl sz3 rfl) ?_;refine ql_v rfl (by first|exact o_load p3 rfl hsqz rfl|exact o_loadC p3 rfl (by assumption)) ?_;exact k.o):p:=h ⟨k⟩
theorem Zbs {p r:Prop}(k:r)(h:Kq r->p:=by intro k;refine ql_v rfl (o_move wqz) ?_;refine ql_v rfl (o_nilCheck rfl) ?_;exact k.o):p:=h ⟨k⟩
theorem Zdp {p r:Prop}(k:r)(h:Kq r->p:=by intro k;refine ql_v rfl (o_fieldAddr (o:=1) underlying258 rfl rfl sz3 rfl) ?_;refine ql_v rfl (o_load p3 rfl haqz rfl) ?_;exact k.o):p:=h ⟨k⟩
theorem Zv {p r:Prop}(k:r)(h:Kq r->p:=by intro k;refine ql_skip rfl ?_;refine ql_skip rfl ?_;exact k.o):p:=h ⟨k⟩
theorem Zc1 {p r:Prop}(k:r)(h:Kq r->p:=by intro k;refine Zv ?_;refine Zv ?_;exact k.o):p:=h ⟨k⟩
theorem Zgb {p r:Prop}(k:r)(h:Kq r->p:=by intro k;refine Zc1 ?_;refine Zc1 ?_;exact k.o):p:=h ⟨k⟩
theorem Zhx {p r:Prop}(k:r)(h:Kq r->p:=by intro k;refine Zgb ?_;refine Zc1 ?_;exact k.o):p:=h ⟨k⟩
theorem Ze0 {p r:Prop}(k:r)(h:Kq r->p:=by intro k;refine ql_v rfl (o_assign wqz) ?_;refine Zdq ?_;exact k.o):p:=h ⟨k⟩
theorem Zhv {p r:Prop}(k:r)(h:Kq r->p:=by intro k;refine ql_v rfl (o_geq rfl rfl) ?_;refine ql_v rfl (o_pick_f rfl wqz) ?_;exact k.o):p:=h ⟨k⟩
theorem may11_c {A R:SP}{C:SP->SP}{d:Nat}{s:DevS}(hc:Ct A (Dev d s) R C:=by exact cbqz){bl at_ sz:Nat}(hl:Has A bl (cl (lcs11 d at_ sz) 258):=by exact hbqz){x:Int×Int}(hx:XW x:=by assumption)(hlw:LogW (s.ls.length*64) at_ sz:=by assumption):
    Fn Tryz.prog 267 #[pz bl,.agg (xcs x).toArray] A (λ r B=>r= .bool (mayX (s.ls.length*64) at_ sz x)/\ A=B):=by
  refine fn_enterW func267 rfl ntmps267 (by simp) ?_;refine tc_have (λ _ _ h=>ct_wf2 hc h) λ hw=> ?_
  have htop:=hw.top;have hpos:=hw.pos;obtain ⟨rfl,hC⟩:=hc;obtain ⟨⟨hx1,hx2⟩,⟨hx3,hx4⟩⟩:=hx;obtain ⟨w1,w2,w3,w4,w5⟩:=hlw;refine Zez ?_;rintro _ _ ⟨b3,rfl,rfl⟩;refine Zfu ?_;refine Zd1 ?_;refine tl_c rfl (o_call bd155 rfl (Size_c (s:=s))) ?_;rintro _ _ ⟨rfl,rfl⟩;refine Zfc ?_;refine tc_cut (λ ρ BB=>∃ (bb:Bool),(bb=decide (¬(1<=x.2/\ 64<=x.1/\ x.1<=(s.ls.length:Int)*64/\ x.2<=(s.ls.length:Int)*64-x.1)))/\ ρ 33= .bool bb/\ ρ 0=(pz bl)/\ ρ 3=(pz b3)/\ BB=R*Dev d s*pt b3 (cl (xcs x) 365)) ?_ ?_
  . skip
    refine tc_reg ?_;refine Zbu ?_;refine Zcn ?_;refine tl_bool (d:=14) rfl (λ h=> ?_) (λ h=> ?_)
    . have g14:(x.2<1):=(by first|exact of_decide_eq_true h|(have h2:=h;simp at h2;omega)|simpa using h);refine Zga ?_;refine Zeg ?_;refine Zc5 ?_;refine Zbb ?_;exact ⟨_,by first|exact (decide_eq_true oqz).symm|exact (decide_eq_false oqz).symm|(rw [decide_eq_decide];omega),rfl,rfl,rfl,rfl⟩
    have g14:¬(x.2<1):=(by first|exact of_decide_eq_false h|(have h2:=h;simp at h2;omega)|simpa using h);refine Zbk ?_;refine tv (o_lss rfl rfl) ?_;refine Zbo ?_;refine tl_bool (d:=19) rfl (λ h=> ?_) (λ h=> ?_)
    . have g19:(x.2<1∨x.1<64):=(by first|exact of_decide_eq_true h|(have h2:=h;simp at h2;omega)|simpa using h);refine Zbj ?_;refine Zeg ?_;refine Zc5 ?_;refine Zbb ?_;exact ⟨_,by first|exact (decide_eq_true oqz).symm|exact (decide_eq_false oqz).symm|(rw [decide_eq_decide];omega),rfl,rfl,rfl,rfl⟩
    have g19:¬(x.2<1∨x.1<64):=(by first|exact of_decide_eq_false h|(have h2:=h;simp at h2;omega)|simpa using h);refine Zbk ?_;refine tlm ?_;refine Zhg ?_;refine tl_bool (d:=25) rfl (λ h=> ?_) (λ h=> ?_)
    . have g25:(x.2<1∨x.1<64∨(s.ls.length:Int)*64<x.1):=(by first|exact of_decide_eq_true h|(have h2:=h;simp at h2;omega)|simpa using h);refine Zbj ?_;refine Zc5 ?_;refine Zbb ?_;exact ⟨_,by first|exact (decide_eq_true oqz).symm|exact (decide_eq_false oqz).symm|(rw [decide_eq_decide];omega),rfl,rfl,rfl,rfl⟩
    have g25:¬(x.2<1∨x.1<64∨(s.ls.length:Int)*64<x.1):=(by first|exact of_decide_eq_false h|(have h2:=h;simp at h2;omega)|simpa using h);refine Zbu ?_;refine tlm ?_;refine Zbk ?_;refine tv (o_subI rfl rfl oqz) ?_;refine Zf3 ?_;exact ⟨_,by first|exact (decide_eq_true oqz).symm|exact (decide_eq_false oqz).symm|(rw [decide_eq_decide];omega),rfl,rfl,rfl,rfl⟩
  intro ρ B hI;obtain ⟨bb,hbb0,hE33,hE0,hE3,rfl⟩:=hI;refine q_then_n ?_;refine te 33 hE33 ?_;refine te 0 hE0 ?_;refine te 3 hE3 ?_;refine tc_cond rfl (λ h=> ?_) (λ h=> ?_)
  . have hf:=of_decide_eq_true (show decide (¬(1<=x.2/\ 64<=x.1/\ x.1<=(s.ls.length:Int)*64/\ x.2<=(s.ls.length:Int)*64-x.1))=true by rw [←hbb0];exact h);refine Zdy ?_;have e:mayX (s.ls.length*64) at_ sz x=false:=decide_eq_false oqz;rw [e]
    exact ⟨.bool false,_,res1 rfl rfl,Dr.sat drqz,rfl,rfl⟩
  have hf:(1<=x.2/\ 64<=x.1/\ x.1<=(s.ls.length:Int)*64/\ x.2<=(s.ls.length:Int)*64-x.1):=(by have h9:=of_decide_eq_false (show decide (¬(1<=x.2/\ 64<=x.1/\ x.1<=(s.ls.length:Int)*64/\ x.2<=(s.ls.length:Int)*64-x.1))=false by rw [←hbb0];exact h);omega);refine Zdm ?_;refine tc_regq mo kqz ?_;refine Zbh ?_;refine Zcl ?_;refine ql_v rfl (o_addI rfl rfl oqz) ?_;refine Zbs ?_;refine Zdp ?_;refine ql_v rfl (o_leq rfl rfl) ?_;refine ql_v rfl (o_move wqz) ?_;refine ql_bool (d:=44) rfl (λ h=> ?_) (λ h=> ?_)
  . have g44:(x.1+x.2<=at_):=(by first|exact of_decide_eq_true h|(have h2:=h;simp at h2;omega)|simpa using h);refine Zhx ?_;refine ql_v rfl (o_pick_t rfl wqz) ?_;refine Ze0 ?_;refine tc_ret ?_;have e:∀b,b=decide (x.1+x.2<=at_∨((at_+sz:Nat):Int)<=x.1)->mayX (s.ls.length*64) at_ sz x=b:=λ b hb=>by rw [hb];unfold mayX;rw [decide_eq_decide];omega
    exact ⟨.bool (mayX (s.ls.length*64) at_ sz x),_,res1 rfl (congrArg Value.bool (e _ (by first|exact (decide_eq_true oqz).symm|exact (decide_eq_false oqz).symm|(rw [decide_eq_decide];omega)))).symm,Dr.sat drqz,rfl,rfl⟩
  have g44:¬(x.1+x.2<=at_):=(by first|exact of_decide_eq_false h|(have h2:=h;simp at h2;omega)|simpa using h);refine Zbh ?_;refine Zbs ?_;refine Zdp ?_;refine Zbs ?_;refine ql_v rfl (o_fieldAddr (o:=2) underlying258 rfl rfl sz3 rfl) ?_;refine ql_v rfl (o_load p3 rfl haqz rfl) ?_;refine ql_v rfl (o_addI rfl rfl oqz) ?_;refine Zhv ?_;refine Ze0 ?_;refine tc_ret ?_;have e:∀b,b=decide (x.1+x.2<=at_∨((at_+sz:Nat):Int)<=x.1)->mayX (s.ls.length*64) at_ sz x=b:=λ b hb=>by rw [hb];unfold mayX;rw [decide_eq_decide];omega
  exact ⟨.bool (mayX (s.ls.length*64) at_ sz x),_,res1 rfl (congrArg Value.bool (e _ (by first|exact (decide_eq_true oqz).symm|exact (decide_eq_false oqz).symm|(rw [decide_eq_decide];omega)))).symm,Dr.sat drqz,rfl,rfl⟩
theorem Zgq {p r:Prop}(k:r)(h:Kq r->p:=by intro k;refine Zdg ?_;refine tv (by first|exact o_conv64 underlying3 underlying141 rfl|exact o_conv underlying3 underlying141 rfl) ?_;exact k.o):p:=h ⟨k⟩
theorem Zgr {p r:Prop}(k:r)(h:Kq r->p:=by intro k;refine Zde ?_;refine tv (by first|exact o_conv64 underlying3 underlying141 rfl|exact o_conv underlying3 underlying141 rfl) ?_;exact k.o):p:=h ⟨k⟩
theorem Zf6 {p r:Prop}(k:r)(h:Kq r->p:=by intro k;refine Zz ?_;refine Zt ?_;exact k.o):p:=h ⟨k⟩
theorem record_c {A:SP}{a:Option Addr}{c m p:Nat}{xs:List Nat}(hr:Rs A a (bys xs):=by exact rbqz)(hm:xs.length=m:=by first|assumption|rfl)(hb:∀x∈xs,x<256:=by assumption)(hp:p<9223372036854775808:=by omega)(hml:m<=1099511627776:=by omega):
    Fn Tryz.prog 269 #[vn p,.slice a m c] A (λ r B=>∃a2 c2,r= .slice a2 (24+up8 m) c2/\ 24+up8 m<=c2/\ B=A*Sl 1 (.slice a2 (24+up8 m) c2) (24+up8 m) (bys (recS p xs))):=by
  refine fn_enterW func269 rfl ntmps269 (by simp) ?_;obtain ⟨Z,hZ⟩:∃Z,crc 0 (recH p m++xs)=Z:=⟨_,rfl⟩;have hZb:∀x∈recH p m++xs,x<256:=λ x hx=>by rcases List.mem_append.1 hx with h1|h1;exact recH_b _ _ x h1;exact hb x h1
  have hZl:Z<4294967296:=hZ▸crc_lt (by decide) hZb
  obtain ⟨Y,hY⟩:∃Y,recH p m++le 8 Z++xs=Y:=⟨_,rfl⟩;have hYl:Y.length=24+m:=(by rw [←hY,List.length_append,List.length_append,recH_len,le_length,hm]);have hYr:recS p xs=Y++List.replicate (pad8 m) 0:=(by rw [←hY,←hZ,←hm];exact recS_eq _ _);refine Zgq ?_;refine tl_env (d:=7) (v:= .int .u64 ((p:Nat):Int)) (congrArg (λ z:Nat=>Value.int .u64 (z:Int)) (Nat.mod_eq_of_lt oqz)) ?_;refine tl_c rfl (o_call bd73 rfl (Put64_c (xs:=[]) (v:=p))) ?_;rintro _ _ ⟨a8,c8,rfl,hc8,rfl⟩;refine Zgr ?_;refine tl_env (d:=11) (v:= .int .u64 ((m:Nat):Int)) (congrArg (λ z:Nat=>Value.int .u64 (z:Int)) (Nat.mod_eq_of_lt oqz)) ?_;refine tl_c rfl (o_call bd73 rfl (Put64_c (m:=8) (xs:=[]++le 8 p) (v:=m) (hr:=rs_sl) (hm:=by rw [List.nil_append,le_length]))) ?_;rintro _ _ ⟨a12,c12,rfl,hc12,rfl⟩;refine Zf6 ?_;refine tl_x rfl (o_buildSliceL (k:=1) (vs:=[.slice a12 (8+8) c12,.slice a m c]) (l:=[.slice a12 (8+8) c12,.slice a m c]) underlying35 sz67 z67 rfl rfl (by decide) (by decide) (by intro v hv;simp at hv;rcases hv with rfl|rfl<;>rfl) rfl) ?_;rintro _ _ ⟨b16,rfl,rfl⟩;refine tl_c rfl (o_call bd305 rfl (Sum_2 (xs:=recH p m) (ys:=xs) rs_sl (recH_len _ _) (recH_b _ _) (by decide) hr.left.left hm hb hml)) ?_;rintro _ _ ⟨rfl,rfl⟩;refine tv (by first|exact o_conv64 underlying53 underlying141 rfl|exact o_conv underlying53 underlying141 rfl) ?_;refine tl_env (d:=18) (v:= .int .u64 ((crc 0 (recH p m++xs):Nat):Int)) (congrArg (λ z:Nat=>Value.int .u64 (z:Int)) (Nat.mod_eq_of_lt oqz)) ?_;refine tl_c rfl (o_call bd73 rfl (Put64_c)) ?_;rintro _ _ ⟨a19,c19,rfl,hc19,rfl⟩;refine Zhd ?_;refine tl_x rfl (o_apR underlying67 underlying67 sz5 by5 z5 rfl (by decide) (by decide) rfl rfl ctqz sq6z sq2z (by first|exact bys_all _|exact ints_all _|exact wds_all _|exact bos_all _|rfl) sq2z (by first|exact bys_sn _ _|exact ints_sn _ _|exact wds_sn _ _|exact bos_sn _ _|exact (bys_append _ _).symm|rfl)) ?_;rintro _ _ ⟨a22,c22,rfl,hc22,rfl⟩;refine Za ?_;refine Zu ?_;refine tc_pre (A':=A*Sl 1 (.slice a22 (24+m+0) c22) (24+m+0) (bys (Y++List.replicate 0 0))) (λ g w h=>by have h2:=Dr.sat (A':=A*Sl 1 (.slice a22 (8+8+8+m) c22) (8+8+8+m) (bys ([]++le 8 p++le 8 m++le 8 (crc 0 (recH p m++xs)))++bys xs)) drqz g w h;rw [hZ,←bys_append,show []++le 8 p++le 8 m++le 8 Z++xs=Y from hY] at h2;rw [show 24+m+0=8+8+8+m by omega,List.replicate_zero,List.append_nil];exact h2) ?_;refine tc_loop (λ kk ρ BB=>∃ (i:Nat) (a5:Option Addr) (c5:Nat),(i<=pad8 m)/\ (24+m+i<=c5)/\ kk=pad8 m-i/\ ρ 5= .slice a5 (24+m+i) c5/\ Dr BB (A*Sl 1 (.slice a5 (24+m+i) c5) (24+m+i) (bys (Y++List.replicate i 0)))) (m:=pad8 m-(0)) ?_ ?_
  . exact ⟨0,a22,c22,by omega,by omega,rfl,by rw [show 24+m+0=8+8+8+m by omega];rfl,drqz⟩
  intro k ρ B hI;obtain ⟨i,a5,c5,hp0,hp1,hkk1,hE5,hBA⟩:=hI;refine tc_pre hBA.sat ?_;clear hBA;refine te 5 hE5 ?_;refine Zm ?_;refine tv (o_len underlying67 rfl) ?_;refine tv (o_remN (b:=8) rfl rfl (by decide)) ?_;refine tl_env (d:=25) (v:= .int .i64 (((24+m+i)%8:Nat):Int)) (by first|rfl|(show Value.int .i64 _=_;congr 1;omega)) ?_;refine Z5 ?_;refine tc_cond rfl (λ h=> ?_) (λ h=> ?_)
  . have hi:i<pad8 m:=(by have h9:(24+m+i)%8≠0:=(by first|omega|(simp at h;omega));unfold pad8 at*;omega);have hi8:i<8:=(by have:pad8 m<8:=(by unfold pad8;omega);omega);refine Zf4 ?_;refine Zbr ?_;refine tl_x rfl (o_buildSliceL (k:=1) (vs:=bys [0]) (l:=bys [0]) underlying67 sz5 z5 rfl rfl (by decide) (by decide) (by intro v hv;simp only [bys,b8,List.map_cons,List.map_nil,List.mem_cons,List.not_mem_nil,or_false] at hv;rcases hv with rfl;rfl) rfl) ?_;rintro _ _ ⟨b28,rfl,rfl⟩;refine tl_x rfl (o_apB underlying67 underlying67 sz5 by5 z5 rfl (by decide) (by decide) rfl rfl rfl ctqz rfl rfl oqz (show _=bys (Y++List.replicate i 0++[0]) by rw [←bys_append])) ?_;rintro _ _ ⟨a29,c29,rfl,hc29,rfl⟩;refine Zie ?_;exact ⟨_,by omega,i+1,a29,c29,by omega,by omega,rfl,rfl,by rw [List.replicate_succ',←List.append_assoc];repeat (first|with_reducible exact dr_refl|apply dr_keep|apply dr_drop)⟩
  obtain rfl:i=pad8 m:=by have h9:(24+m+i)%8=0:=(by first|omega|(simp at h;omega));unfold pad8 at*;omega
  refine Zh6 ?_;rw [hYr,show 24+up8 m=24+m+pad8 m by unfold up8;omega]
  exact ⟨_,_,res1 rfl rfl,λ _ _ h=>h,a5,c5,rfl,hp1,rfl⟩
end Go.Vl

namespace Go.Vl
open Go Go.Proofs Go.Proofs.Tryz
structure RL where
  v:Value
  rows:List (Value×List Nat)
  mark:Int
def RL.l (x:RL):LineS:=⟨x.rows.map Prod.snd,x.mark⟩
def rcl (x:RL):List Value:=[x.v,.int .i64 x.mark]
theorem rcl_len (l:List RL):∀a∈l,(rcl a).length=2:=λ _ _=>rfl
def rowR (p:Value×List Nat):SP:=SlR 1 p.1 64 (bys (lb p.2))
def rlR (x:RL):SP:=Sl 1 x.v x.rows.length (x.rows.map Prod.fst)*Bs rowR x.rows
def rdcs (lv:Value)(s:DevS)(av:Value):List Value:=[vn (s.ls.length*64),lv,.int .i64 s.ops,av,.int .i64 s.cnt,.bool s.off]
def RDevC (r:Nat)(lv:Value)(rls:List RL)(av:Value)(kvs:List Value)(s:DevS):SP:=
  pt r (cl (rdcs lv s av) 194)*Sl 2 lv s.ls.length (rls.flatMap rcl)*Bs rlR rls*ArmsR av kvs s.arms
def RDev (r:Nat)(s:DevS):SP:=λ h=>WfD s/\∃lv rls av kvs,rls.map RL.l=s.ls/\ kvs.length=s.arms.length/\ RDevC r lv rls av kvs s h
theorem rdev_iff {r:Nat}{s:DevS}{R:SP}{g:Gh}{w:World}:sat g w (R*RDev r s)↔WfD s/\∃lv rls av kvs,rls.map RL.l=s.ls/\ kvs.length=s.arms.length/\ sat g w (R*RDevC r lv rls av kvs s):=by
  constructor
  . intro hs;obtain ⟨_,⟨x,y,hd,rfl,ha,hw,lv,rls,av,kvs,h1,h2,h3⟩,hx⟩:=hs.hp;exact ⟨hw,lv,rls,av,kvs,h1,h2,hs.os,hs.tape,hs.out,_,⟨x,y,hd,rfl,ha,h3⟩,hx⟩
  rintro ⟨hw,lv,rls,av,kvs,h1,h2,hs⟩;exact hs.mono λ h ⟨x,y,hd,e,ha,hb⟩=>⟨x,y,hd,e,ha,hw,lv,rls,av,kvs,h1,h2,hb⟩
section
variable {P:Program} {n:Nat} {Q:Post} {ρ:Env} {r:Nat} {s:DevS} {R:SP}
end
theorem rdev_back {r:Nat}{s:DevS}{R:SP}{lv av:Value}{rls:List RL}{kvs:List Value}(hw:WfD s)(h1:rls.map RL.l=s.ls)(h2:kvs.length=s.arms.length):∀g w,sat g w (R*RDevC r lv rls av kvs s)->sat g w (R*RDev r s):=
  λ g w hs=>rdev_iff.2 ⟨hw,lv,rls,av,kvs,h1,h2,hs⟩
section
variable {r:Nat} {s:DevS} {R F:SP} {lv av:Value} {rls:List RL} {kvs:List Value}
structure RdevR (A:SP) (r:Nat) (lv:Value) (rls:List RL) (av:Value) (s:DevS):Prop where
  wf:WfD s
  len:rls.length=s.ls.length
  at_:∀i (h:i<rls.length) (h':i<s.ls.length),rls[i].l=s.ls[i]
  d:Rs A (some ⟨r,0,none⟩) (rdcs lv s av)
  lv:∃b o c,lv= .slice (some ⟨b,o,none⟩) s.ls.length c/\ s.ls.length<=c/\ Rs A (some ⟨b,o,none⟩) (rls.flatMap rcl)
  all:∀i (h:i<rls.length),∃b o c,rls[i].v= .slice (some ⟨b,o,none⟩) rls[i].rows.length c/\ rls[i].rows.length<=c/\ Rs A (some ⟨b,o,none⟩) (rls[i].rows.map Prod.fst)
  row:∀i (h:i<rls.length) j (h':j<rls[i].rows.length),∃b o c,rls[i].rows[j].1= .slice (some ⟨b,o,none⟩) 64 c/\ 64<=c/\ Rs A (some ⟨b,o,none⟩) (bys (lb rls[i].rows[j].2))
theorem rs_in {A X R:SP}{a:Option Addr}{xs:List Value}(e:A=R*X)(h:Rs (R*X) a xs):Rs A a xs:=e▸h
theorem rdevR_of (hw:WfD s)(h1:rls.map RL.l=s.ls){g:Gh}{w:World}(hs:sat g w (F*RDevC r lv rls av kvs s)):RdevR (F*RDevC r lv rls av kvs s) r lv rls av s:=by
  have hlen:rls.length=s.ls.length:=(by rw [←h1,List.length_map])
  have hat:∀i (h:i<rls.length) (h':i<s.ls.length),rls[i].l=s.ls[i]:=λ i h h'=>by
    have:(rls.map RL.l)[i]? =some rls[i].l:=(by simp [h]);rw [h1,List.getElem?_eq_getElem h'] at this
    exact (Option.some.inj this).symm
  have hrne:∀i (h:i<rls.length),0<rls[i].rows.length:=λ i h=>by
    have hl:=hw.line _ (List.getElem_mem (show i<s.ls.length by omega));rw [←hat i h oqz] at hl
    have:=List.length_pos_iff.2 hl.ne
    simpa [RL.l] using this
  refine ⟨hw,hlen,hat, ?_, ?_, ?_, ?_⟩
  . refine rs_in (R:=F*Sl 2 lv s.ls.length (rls.flatMap rcl)*Bs rlR rls*ArmsR av kvs s.arms) (X:=pt r (cl (rdcs lv s av) 194)) (by unfold RDevC;ac_rfl) rs_pt0
  . have e:F*RDevC r lv rls av kvs s=F*pt r (cl (rdcs lv s av) 194)*Bs rlR rls*ArmsR av kvs s.arms*Sl 2 lv s.ls.length (rls.flatMap rcl):=(by unfold RDevC;ac_rfl);have hpos:=hw.pos;obtain ⟨a,c,e1,e2,e3,e4⟩:=sl_have' e hs;obtain ⟨b,o,rfl,hc⟩:=e4.some (by rw [e3];omega);exact ⟨b,o,c,e1,e2,rs_rd (rd_cells hc)⟩
  . intro i h;obtain ⟨R,hR,_⟩:=bs_get (f:=rlR) h;have e:F*RDevC r lv rls av kvs s=F*pt r (cl (rdcs lv s av) 194)*Sl 2 lv s.ls.length (rls.flatMap rcl)*R*Bs rowR rls[i].rows*ArmsR av kvs s.arms*Sl 1 rls[i].v rls[i].rows.length (rls[i].rows.map Prod.fst):=(by unfold RDevC;rw [hR];unfold rlR;ac_rfl);have hpos:=hrne i h;obtain ⟨a,c,e1,e2,e3,e4⟩:=sl_have' e hs;obtain ⟨b,o,rfl,hc⟩:=e4.some (by rw [e3];omega);exact ⟨b,o,c,e1,e2,rs_rd (rd_cells hc)⟩
  intro i h j h';obtain ⟨R,hR,_⟩:=bs_get (f:=rlR) h;obtain ⟨R',hR',_⟩:=bs_get (f:=rowR) h'
  have e:F*RDevC r lv rls av kvs s=F*pt r (cl (rdcs lv s av) 194)*Sl 2 lv s.ls.length (rls.flatMap rcl)*R*Sl 1 rls[i].v rls[i].rows.length (rls[i].rows.map Prod.fst)*R'*ArmsR av kvs s.arms*SlR 1 rls[i].rows[j].1 64 (bys (lb rls[i].rows[j].2)):=by
    unfold RDevC;rw [hR];unfold rlR;rw [hR'];unfold rowR;ac_rfl
  obtain ⟨a,c,e1,e2,e3,e4⟩:=slR_have e hs;obtain ⟨b,o,rfl,hc⟩:=e4.some (by rw [e3];omega);exact ⟨b,o,c,e1,e2,rs_rd (rd_cells hc)⟩
theorem RdevR.left {A X:SP}(h:RdevR A r lv rls av s):RdevR (A*X) r lv rls av s:=
  ⟨h.wf,h.len,h.at_,h.d.left,let ⟨b,o,c,e1,e2,e3⟩:=h.lv;⟨b,o,c,e1,e2,e3.left⟩,λ i hi=>let ⟨b,o,c,e1,e2,e3⟩:=h.all i hi;⟨b,o,c,e1,e2,e3.left⟩,
    λ i hi j hj=>let ⟨b,o,c,e1,e2,e3⟩:=h.row i hi j hj;⟨b,o,c,e1,e2,e3.left⟩⟩
theorem RdevR.rows {A:SP}(h:RdevR A r lv rls av s){i:Nat}(hi:i<rls.length)(hi':i<s.ls.length):rls[i].rows.length=s.ls[i].st.length:=by
  rw [←h.at_ i hi hi'];simp [RL.l]
theorem RdevR.snd {A:SP}(h:RdevR A r lv rls av s){i j:Nat}(hi:i<rls.length)(hi':i<s.ls.length)(hj:j<rls[i].rows.length):rls[i].rows[j].2=s.ls[i].st[j]'(by rw [←h.rows hi hi'];exact hj):=by
  have:=h.at_ i hi hi';have e:s.ls[i].st=rls[i].rows.map Prod.snd:=(by rw [←this];rfl)
  simp only [e,List.getElem_map]
theorem RdevR.mark {A:SP}(h:RdevR A r lv rls av s){i:Nat}(hi:i<rls.length)(hi':i<s.ls.length):rls[i].mark=s.ls[i].mark:=by rw [←h.at_ i hi hi'];rfl
end
theorem fn_rdevR {P:Program}{f:FuncId}{args:Array Value}{F:SP}{r:Nat}{s:DevS}{q:Value->SP->Prop}
    (h:∀A lv rls av,RdevR A r lv rls av s->Fn P f args A λ v B=>∃X,B=A*X/\ q v X):
    Fn P f args (F*RDev r s) λ v B=>∃X,B=F*RDev r s*X/\ q v X:=λ g w hs=>by
  obtain ⟨hw,lv,rls,av,kvs,h1,h2,hs'⟩:=rdev_iff.1 hs;refine (h _ lv rls av (rdevR_of hw h1 hs') g w hs').mono ?_;rintro e w' ⟨v,B,e1,⟨X,rfl,hq⟩,hB⟩;refine ⟨v,_,e1,⟨X,rfl,hq⟩, ?_⟩;have h3:=rdev_back (R:=F*X) hw h1 h2 _ _ (hB.perm (star_swap _ _ _));exact h3.perm (star_swap _ _ _)
theorem rcl_at0 {l:List RL}{i:Nat}(h:i<l.length):(l.flatMap rcl)[i*2+0]? =some l[i].v:=by rw [fm_atj (rcl_len l) h (by decide) rfl];rfl
section
variable {A:SP} {r:Nat} {lv av:Value} {rls:List RL} {s:DevS}
theorem RdevR.pos (h:RdevR A r lv rls av s){i:Nat}(hi:i<rls.length):0<rls[i].rows.length:=by
  have h':i<s.ls.length:=(by rw [←h.len];exact hi);rw [h.rows hi h']
  exact List.length_pos_iff.2 (h.wf.line _ (List.getElem_mem h')).ne
theorem RdevR.small (h:RdevR A r lv rls av s){i:Nat}(hi:i<rls.length):rls[i].rows.length<=2199023255552:=by
  have h':i<s.ls.length:=(by rw [←h.len];exact hi);rw [h.rows hi h']
  exact (h.wf.line _ (List.getElem_mem h')).small
theorem RdevR.top (h:RdevR A r lv rls av s){i:Nat}(hi:i<rls.length)(hi':i<s.ls.length):∃b o c,(rls[i].rows.map Prod.fst)[rls[i].rows.length-1]? =some (.slice (some ⟨b,o,none⟩) 64 c)/\ 64<=c/\ Rs A (some ⟨b,o,none⟩) (bys (lb (seenL s.ls[i]))):=by
  have hp:=h.pos hi;obtain ⟨b,o,c,e1,e2,e3⟩:=h.row i hi (rls[i].rows.length-1) oqz;refine ⟨b,o,c, ?_,e2, ?_⟩
  . rw [List.getElem?_map,List.getElem?_eq_getElem oqz];simp [e1]
  rw [h.snd hi hi' oqz] at e3
  have e:seenL s.ls[i]=s.ls[i].st[rls[i].rows.length-1]'(by rw [←h.rows hi hi'];omega):=by
    unfold seenL;simp only [←h.rows hi hi']
    simp [List.getD,show rls[i].rows.length-1<s.ls[i].st.length by rw [←h.rows hi hi'];omega]
  rw [e];exact e3
theorem RdevR.allC (h:RdevR A r lv rls av s){i:Nat}(hi:i<rls.length):∃b o c,(rls.flatMap rcl)[i*2+0]? =some (.slice (some ⟨b,o,none⟩) rls[i].rows.length c)/\ rls[i].rows.length<=c/\ Rs A (some ⟨b,o,none⟩) (rls[i].rows.map Prod.fst):=by
  obtain ⟨b,o,c,e1,e2,e3⟩:=h.all i hi;exact ⟨b,o,c,by rw [rcl_at0 hi,e1],e2,e3⟩
end
attribute [local irreducible] Sl pt ro imgS
theorem Zdw {p r:Prop}(k:r)(h:Kq r->p:=by intro k;refine tlm ?_;refine tv (by first|exact o_remI rfl rfl oqz|exact o_rem rfl rfl oqz) ?_;exact k.o):p:=h ⟨k⟩
theorem rfits_c {A:SP}{p:Int}:
    Fn Tryz.prog 173 #[.int .i64 p] A (λ r B=>r= .bool (fitsB p)/\ A=B):=by
  refine fn_enterW func173 rfl ntmps173 (by simp) ?_;refine Zdg ?_;refine tv (o_geq rfl rfl) ?_;refine tlm ?_;refine tl_bool (d:=5) rfl (sbq ?_) (sbq ?_)
  . intro h;refine tlm ?_;refine tv (o_leq rfl rfl) ?_;refine Z1 ?_;refine tl_bool (d:=9) rfl (sbq ?_) (sbq ?_)
    . intro h;refine Zdw ?_;refine tv (o_eqi rfl rfl) ?_;refine Zee ?_;refine ⟨.bool (decide (p%64=0)),_,res1 rfl rfl, ?_,by unfold fitsB;congr 1;rw [decide_eq_decide];omega,rfl⟩;exact Dr.sat drqz
    intro h;refine Zc5 ?_;refine Zef ?_;refine ⟨.bool false,_,res1 rfl rfl, ?_,by unfold fitsB;rw [decide_eq_false oqz],rfl⟩;exact Dr.sat drqz
  intro h;refine Zp ?_;refine Zbo ?_;refine Zc5 ?_;refine Zef ?_;refine ⟨.bool false,_,res1 rfl rfl, ?_,by unfold fitsB;rw [decide_eq_false oqz],rfl⟩;exact Dr.sat drqz
theorem Zcf {p r:Prop}(k:r)(h:Kq r->p:=by intro k;refine tv (o_nilCheck rfl) ?_;refine tv (o_fieldAddr (o:=0) underlying194 rfl rfl sz3 rfl) ?_;exact k.o):p:=h ⟨k⟩
theorem rinside_f (A:SP){r:Nat}{lv av:Value}{rls:List RL}{s:DevS}(hR:RdevR A r lv rls av s){p m:Int}(hp: -9223372036854775808<=p/\ p<=9223372036854775807)(hm: -9223372036854775808<=m/\ m<=9223372036854775807):
    Fn Tryz.prog 309 #[pz r,.int .i64 p,.int .i64 m] A (λ v B=>v= .bool (decide (rdy s.ls.length false p m=0))/\ A=B):=by
  refine fn_enterW func309 rfl ntmps309 (by simp) ?_;have htop:=hR.wf.top;refine Zdg ?_;refine tv (o_geq rfl rfl) ?_;refine tlm ?_;refine tl_bool (d:=9) rfl (sbq ?_) (sbq ?_)
  . intro h;refine tlm ?_;refine tv (o_geq rfl rfl) ?_;refine Z1 ?_;refine tl_bool (d:=13) rfl (sbq ?_) (sbq ?_)
    . intro h;refine Zt ?_;refine Zcf ?_;refine tv (o_ldP (a:=some ⟨r,0,none⟩) (i:=0) p3 rfl (by repeat (first|exact hR.d|apply Rs.left)) rfl) ?_;refine tv (o_leq rfl rfl) ?_;refine Z1 ?_;refine tl_bool (d:=21) rfl (sbq ?_) (sbq ?_)
      . intro h;refine Zt ?_;refine Zcf ?_;refine tv (o_ldP (a:=some ⟨r,0,none⟩) (i:=0) p3 rfl (by repeat (first|exact hR.d|apply Rs.left)) rfl) ?_;refine Zda ?_;refine tv (o_leq rfl rfl) ?_;refine Zee ?_;refine ⟨.bool (decide (m<=((s.ls.length*64:Nat):Int)-p)),_,res1 rfl rfl, ?_,(by congr 1;rw [decide_eq_decide];unfold rdy;rw [if_neg (by decide)];split<;>constructor<;>intro _<;>omega),rfl⟩;exact Dr.sat drqz
      intro h;refine Zbj ?_;refine Zbj ?_;refine Zef ?_;refine ⟨.bool false,_,res1 rfl rfl, ?_,(by rw [decide_eq_false];unfold rdy;rw [if_neg (by decide),if_pos oqz];decide),rfl⟩;exact Dr.sat drqz
    intro h;refine Zh7 ?_;refine Zbo ?_;refine Zbj ?_;refine Zbj ?_;refine Zef ?_;refine ⟨.bool false,_,res1 rfl rfl, ?_,(by rw [decide_eq_false];unfold rdy;rw [if_neg (by decide),if_pos oqz];decide),rfl⟩;exact Dr.sat drqz
  intro h;refine Zp ?_;refine Zbo ?_;refine Zh7 ?_;refine Zbo ?_;refine Zbj ?_;refine Zbj ?_;refine Zef ?_;refine ⟨.bool false,_,res1 rfl rfl, ?_,(by rw [decide_eq_false];unfold rdy;rw [if_neg (by decide),if_pos oqz];decide),rfl⟩;exact Dr.sat drqz
theorem Zhh {p r:Prop}(k:r)(h:Kq r->p:=by intro k;refine Zbw ?_;refine Zs ?_;exact k.o):p:=h ⟨k⟩
theorem Zds {p r:Prop}(k:r)(h:Kq r->p:=by intro k;refine tlm ?_;refine tv (o_len underlying35 rfl) ?_;exact k.o):p:=h ⟨k⟩
theorem rseen_f (A:SP){r:Nat}{lv av:Value}{rls:List RL}{s:DevS}(hR:RdevR A r lv rls av s){i b o c:Nat}(hi:i<rls.length)(ht:(rls[i].rows.map Prod.fst)[rls[i].rows.length-1]? =some (.slice (some ⟨b,o,none⟩) 64 c)):
    Fn Tryz.prog 158 #[pz r,vn i] A (λ v B=>v= .slice (some ⟨b,o,none⟩) 64 c/\ A=B):=by
  refine fn_enterW func158 rfl ntmps158 (by simp) ?_;obtain ⟨bl,ol,cl_,rfl,hlc,hlr⟩:=hR.lv;obtain ⟨ba,oa,ca,g1,hca,har⟩:=hR.allC hi;have hlen:=hR.len;have hpos:=hR.pos hi;have hsm:=hR.small hi;refine Zhh ?_;refine tv (o_fieldAddr (o:=1) underlying194 rfl rfl sz191 rfl) ?_;refine tv (o_ldP (a:=some ⟨r,0,none⟩) (i:=1) p191 rfl (by repeat (first|exact hR.d|apply Rs.left)) rfl) ?_;refine tlm ?_;refine tv (o_ixP underlying191 sz265 rfl rfl sq2z sq1z) ?_;refine tv (o_faP (m:=0) (o:=0) underlying265 rfl rfl sz35 rfl sq1z) ?_;refine tv (o_ldP p35 rfl sq6z (by first|assumption|exact bys_at oqz|exact ints_at oqz|exact wds_at oqz|exact bos_at oqz|rfl)) ?_;refine tl_env (d:=13) (v:= .slice (some ⟨ba,oa,none⟩) rls[i].rows.length ca) (rfl) ?_;refine Zz ?_;refine Zds ?_;refine tv (by first|exact o_subI rfl rfl oqz|exact o_sub rfl rfl) ?_;refine tl_env (d:=17) (v:=(vn (rls[i].rows.length-1))) (by show Value.int .i64 _=_;congr 1;omega) ?_;refine tv (o_ixP1 underlying35 sz67 rfl rfl oqz nn_some) ?_;refine tv (o_ldP p67 rfl har ht) ?_;refine Zl ?_;refine ⟨_,_,res1 rfl rfl, ?_,rfl,rfl⟩;exact Dr.sat drqz
end Go.Vl

namespace Go.Vl
open Go Go.Proofs Go.Proofs.Tryz
theorem img_getR {s:DevS}{q:Nat}(hw:WfD s)(hi:q/64<s.ls.length):(imgS s)[q]? =(lb (seenL s.ls[q/64]))[q%64]? :=by
  have hwl:=hw.line _ (List.getElem_mem hi);have h8:=seen8 hwl;have e:=img_at hw.line hi;have h1:(imgS s)[q]? =((imgS s).drop (q/64*64))[q%64]? :=(by rw [List.getElem?_drop];congr 1;omega);rw [h1];unfold imgS;rw [e,List.getElem?_append_left oqz]
theorem fromS_len (n:Nat)(xs:List Nat):(fromS n xs).ls.length=n:=by simp [fromS,newS]
theorem fromS_at {n:Nat}(xs:List Nat){i:Nat}(h:i<n):(fromS n xs).ls[i]'(by rw [fromS_len];exact h)=lineF xs i:=by simp [fromS]
attribute [local irreducible] Sl pt ro
theorem Zhs {p r:Prop}(k:r)(h:Kq r->p:=by intro k;refine Za ?_;refine tc_block ?_;exact k.o):p:=h ⟨k⟩
theorem CopyRows_c {A:SP}{a:Option Addr}{c m:Nat}{vs:List Value}{ls:List (List Nat)}(hr:Rs A a vs)(hv:vs.length=ls.length)(hrow:∀i (h:i<ls.length),∃b c,vs[i]? =some (.slice b ls[i].length c)/\ Rs A b (bys ls[i]))(hm:ls.length=m)(hl:m<=2199023255552)(hll:∀l∈ls,l.length<=140737488351232):
    Fn Tryz.prog 31 #[.slice a m c] A (λ v B=>∃a c vs,v= .slice a m c/\ m<=c/\ B=A*Parts vs ls*Sl 1 (.slice a m c) m vs):=by
  refine fn_enterW func31 rfl ntmps31 (by simp) ?_;refine Zbw ?_;refine Zbw ?_;refine Ze9 ?_;refine tc_pre (A':=A*Parts [] []*Sl 1 (.slice none 0 0) 0 []) (λ _ _ h=>by rw [show Parts [] []=emp from rfl,star_emp];exact sl_nil h) ?_;refine tc_reg ?_;refine Zhs ?_;refine tc_loop (λ kk ρ BB=>∃ (i:Nat) (a3:Option Addr) (c3:Nat) (vs2:List Value),(i<=m)/\ (vs2.length=i)/\ (i<=c3)/\ kk=m-i/\ ρ 3= .slice a3 i c3/\ ρ 4=(vn i)/\ ρ 0= .slice a m c/\ BB=A*Parts vs2 (ls.take i)*Sl 1 (.slice a3 i c3) i vs2) (m:=m-(0)) ?_ ?_
  . exact ⟨0,none,0,[],by omega,rfl,by omega,rfl,rfl,rfl,rfl,rfl⟩
  intro k ρ B hI;obtain ⟨i,a3,c3,vs2,hp0,hp1,hp2,hkk1,hE3,hE4,hE0,rfl⟩:=hI;refine te 3 hE3 ?_;refine te 4 hE4 ?_;refine te 0 hE0 ?_;refine Zm ?_;refine Zds ?_;refine Zx ?_;refine tc_cond rfl (λ h=> ?_) (λ h=> ?_)
  . have hi:i<ls.length:=(by simp at h;omega);obtain ⟨b,cb,g1,hrr⟩:=hrow i hi;have hln:=hll _ (List.getElem_mem hi);refine Zbe ?_;refine Zb0 ?_;refine tlm ?_;refine tv (o_ixP1 underlying35 sz67 rfl rfl oqz (nn_rs hr.left.left (λ _=>by omega))) ?_;refine tv (o_ldP p67 rfl hr.left.left g1) ?_;refine tl_c rfl (o_call bd83 rfl (CopyBytes_c (xs:=ls[i]) (hr:=hrr.left.left))) ?_;rintro _ _ ⟨a16,c16,rfl,hc16,rfl⟩;refine tl_x rfl (o_buildSlice1 underlying35 sz67 z67 wqz rfl) ?_;rintro _ _ ⟨b17,rfl,rfl⟩;refine tl_x rfl (o_apB underlying35 underlying35 sz67 by67 z67 rfl (by decide) (by decide) rfl rfl rfl ctqz rfl (by first|exact bys_all _|exact ints_all _|exact wds_all _|exact bos_all _|rfl) sq2z (by first|exact bys_sn _ _|exact ints_sn _ _|exact wds_sn _ _|exact bos_sn _ _|exact (bys_append _ _).symm|rfl)) ?_;rintro _ _ ⟨a18,c18,rfl,hc18,rfl⟩;refine Zc3 ?_;refine Zfy ?_;exact ⟨_,by omega,i+1,a18,c18,vs2++[.slice a16 ls[i].length c16],by omega,by simp [hp1],hc18,rfl,rfl,rfl,rfl,by rw [List.take_succ_eq_append_getElem hi,parts_snoc (by rw [List.length_take];omega)];ac_rfl⟩
  obtain rfl:i=m:=by simp at h;omega
  rw [List.take_of_length_le oqz]
  refine Zh6 ?_;exact ⟨.slice a3 i c3,_,res1 rfl rfl,Dr.sat drqz,a3,c3,vs2,rfl,hp2,rfl⟩
theorem Zfv {p r:Prop}(k:r)(h:Kq r->p:=by intro k;refine tv (o_nilCheck rfl) ?_;refine tv (o_fieldAddr (o:=5) underlying194 rfl rfl sz4 rfl) ?_;exact k.o):p:=h ⟨k⟩
theorem Zej {p r:Prop}(k:r)(h:Kq r->p:=by intro k;rintro _ _ ⟨rfl,rfl⟩;refine tlm ?_;exact k.o):p:=h ⟨k⟩
theorem rLoad_f (A:SP){r:Nat}{lv av:Value}{rls:List RL}{s:DevS}(hR:RdevR A r lv rls av s){p m:Nat}(hoff:s.off=false)(hpm:p+m<=s.ls.length*64):
    Fn Tryz.prog 276 #[pz r,vn p,vn m] A (λ v B=>∃X,B=A*X/\∃a c,v= .tuple #[.slice a m c,.int .i64 0]/\ m<=c/\ X=Sl 1 (.slice a m c) m (bys (((imgS s).drop p).take m))):=by
  refine fn_enterW func276 rfl ntmps276 (by simp) ?_;obtain ⟨bl,ol,cl_,rfl,hlc,hlr⟩:=hR.lv;have hlen:=hR.len;have htop:=hR.wf.top;have hil:=img_length hR.wf.line;refine Zdi ?_;refine Zfv ?_;refine tv (o_ldP (a:=some ⟨r,0,none⟩) (i:=5) p4 rfl (by repeat (first|exact hR.d|apply Rs.left)) rfl) ?_;refine nq ?_;refine tc_cond rfl (λ h=> ?_) (sbq ?_)
  . exfalso;rw [hoff] at h;cases h
  intro h;refine Zcr ?_;refine Zt ?_;refine tl_c rfl (o_call bd309 rfl (rinside_f _ hR oqz oqz)) ?_;refine Zb1 ?_;refine nq ?_;refine tc_cond rfl (λ h=> ?_) (sbq ?_)
  . exfalso;simp at h;unfold rdy at h;rw [if_neg (by decide),if_neg oqz] at h;exact h rfl
  intro h;refine Ze ?_;refine Zbw ?_;refine Ze9 ?_;refine tc_pre (A':=A*Sl 1 (.slice none 0 0) 0 []) (λ _ _ h=>sl_nil h) ?_;refine Zbr ?_;refine Zhs ?_;refine tc_loop (λ kk ρ BB=>∃ (j:Nat) (a3:Option Addr) (c3:Nat),(j<=m)/\ (j<=c3)/\ kk=m-j/\ ρ 8= .slice a3 j c3/\ ρ 9=(vn (p+j))/\ ρ 0=(pz r)/\ ρ 1=(vn p)/\ ρ 2=(vn m)/\ BB=A*Sl 1 (.slice a3 j c3) j (bys (((imgS s).drop p).take j))) (m:=m-(0)) ?_ ?_
  . exact ⟨0,none,0,by omega,by omega,rfl,rfl,rfl,rfl,rfl,rfl,rfl⟩
  intro k ρ B hI;obtain ⟨j,a3,c3,hp0,hp1,hkk1,hE8,hE9,hE0,hE1,hE2,rfl⟩:=hI;refine te 8 hE8 ?_;refine te 9 hE9 ?_;refine te 0 hE0 ?_;refine te 1 hE1 ?_;refine te 2 hE2 ?_;refine Zm ?_;refine Zt ?_;refine tv adqz ?_;refine Zx ?_;refine tc_cond rfl (λ h=> ?_) (λ h=> ?_)
  . have hj:j<m:=(by simp at h;omega);have hi:(p+j)/64<s.ls.length:=(by omega);have hir:(p+j)/64<rls.length:=(by omega);obtain ⟨br,orr,cr,ht,hcr,hrr⟩:=hR.top hir hi;have hs8:=seen8 (hR.wf.line _ (List.getElem_mem hi));have hjd:j<((imgS s).drop p).length:=(by rw [List.length_drop];unfold imgS;omega)
    have hby:((imgS s).drop p)[j]=(lb (seenL s.ls[(p+j)/64]))[(p+j)%64]'(by omega):=by
      have:=img_getR hR.wf hi;rw [List.getElem?_eq_getElem (show (p+j)%64<(lb (seenL s.ls[(p+j)/64])).length by omega),←List.getElem?_drop,List.getElem?_eq_getElem hjd] at this
      exact Option.some.inj this
    refine Zbe ?_;refine Zb0 ?_;refine tlm ?_;refine tv (o_quoN (b:=64) rfl rfl oqz) ?_;refine tl_c rfl (o_call bd158 rfl (rseen_f _ hR.left (i:=(p+j)/64) hir ht)) ?_;refine Zej ?_;refine tv (o_remN (b:=64) rfl rfl oqz) ?_;refine tv (o_ixP1 underlying67 sz5 rfl rfl sq2z sq1z) ?_;refine tv (o_ldP p5 rfl hrr.left (bys_at oqz)) ?_;refine tl_x rfl (o_buildSlice1 underlying67 sz5 z5 wqz rfl) ?_;rintro _ _ ⟨b36,rfl,rfl⟩;refine tl_x rfl (o_apB underlying67 underlying67 sz5 by5 z5 rfl (by decide) (by decide) rfl rfl rfl ctqz rfl (by first|exact bys_all _|exact ints_all _|exact wds_all _|exact bos_all _|rfl) sq2z (by first|exact bys_sn _ _|exact ints_sn _ _|exact wds_sn _ _|exact bos_sn _ _|exact (bys_append _ _).symm|rfl)) ?_;rintro _ _ ⟨a37,c37,rfl,hc37,rfl⟩;refine Zc3 ?_;refine Zcv ?_;refine tl_env (d:=26) (v:= .int .i64 ((p+(j+1):Nat):Int)) (rfl) ?_;refine Za ?_;exact ⟨_,by omega,j+1,a37,c37,by omega,by omega,rfl,rfl,rfl,rfl,rfl,rfl,by rw [List.take_succ_eq_append_getElem hjd,hby]⟩
  obtain rfl:j=m:=by simp at h;omega
  refine Zhb ?_;exact ⟨.tuple #[.slice a3 j c3,.int .i64 0],_,res2 rfl rfl rfl,λ _ _ h=>h,_,rfl,a3,c3,rfl,hp1,rfl⟩
theorem Zgu {p r:Prop}(k:r)(h:Kq r->p:=by intro k;refine tm 6 rfl kqz rfl (o_move wqz) ?_;refine tm 7 rfl kqz rfl (o_move wqz) ?_;exact k.o):p:=h ⟨k⟩
theorem Zeq {p r:Prop}(k:r)(h:Kq r->p:=by intro k;refine ⟨by repeat (first|with_reducible exact dr_refl|apply dr_keep|apply dr_drop), ?_⟩;refine th_one (i:=11) kqz ?_;exact k.o):p:=h ⟨k⟩
theorem Zcq {p r:Prop}(k:r)(h:Kq r->p:=by intro k;refine ⟨by repeat (first|with_reducible exact dr_refl|apply dr_keep|apply dr_drop), ?_⟩;refine tm 12 rfl kqz rfl (o_bS (l:=[_,_]) (pv_cons wqz (pv_cons wqz pv_nil)) underlying265 z265 (pl265 underlying265) rfl) ?_;exact k.o):p:=h ⟨k⟩
theorem Zer {p r:Prop}(k:r)(h:Kq r->p:=by intro k;refine ⟨by repeat (first|with_reducible exact dr_refl|apply dr_keep|apply dr_drop), ?_⟩;refine th_one (i:=14) kqz ?_;exact k.o):p:=h ⟨k⟩
theorem Z8 {p r:Prop}(k:r)(h:Kq r->p:=by intro k;refine ⟨by repeat (first|with_reducible exact dr_refl|apply dr_keep|apply dr_drop), ?_⟩;refine tm 15 rfl kqz rfl (o_nilCheck rfl) ?_;exact k.o):p:=h ⟨k⟩
theorem Zdr {p r:Prop}(k:r)(h:Kq r->p:=by intro k;refine tm 16 rfl kqz rfl (o_fieldAddr (o:=1) underlying194 rfl rfl sz191 rfl) ?_;refine th_one (i:=17) kqz ?_;exact k.o):p:=h ⟨k⟩
theorem Zht {p r:Prop}(k:r)(h:Kq r->p:=by intro k;refine th_done kqz ?_;refine q_block_n (q_then_n ?_);exact k.o):p:=h ⟨k⟩
theorem rFrom_c {F:SP}{a:Option Addr}{c m:Nat}{xs:List Nat}(n:Nat)(hr:Rs F a (bys xs):=by exact rbqz)(hx:xs.length=m:=by first|assumption|rfl)(hm:m=n*64:=by omega)(hmc:m<=c:=by omega)(hb:∀x∈xs,x<256:=by assumption)(hn:0<n:=by omega)(hn2:n<=65536:=by omega):
    Fn Tryz.prog 89 #[.slice a m c] (F) (λ v B=>∃d,v= .tuple #[pz d,.int .i64 0]/\ B=F*RDev d (fromS n xs)):=by
  refine fn_enterW func89 rfl ntmps89 (by simp) ?_;have hfit:fitsB (m:Int)=true:=(by unfold fitsB;simp;omega);refine Zdi ?_;refine tv (o_len underlying67 rfl) ?_;refine tl_c rfl (o_call bd173 rfl (rfits_c (p:=(m:Nat)))) ?_;refine Zb1 ?_;refine nq ?_;refine tc_cond rfl (λ h=> ?_) (sbq ?_)
  . exfalso;rw [hfit] at h;exact absurd h (by decide)
  intro h;refine Zb2 ?_;refine tv (o_len underlying67 rfl) ?_;refine tv (o_bS (l:=[vn m,.slice none 0 0,.int .i64 0,.slice none 0 0,.int .i64 0,.bool false]) (pv_cons wqz pv_nil) underlying194 z194 (pl194 underlying194) rfl) ?_;refine tl_x rfl (o_box rfl rfl) ?_;rintro _ _ ⟨b13,rfl,rfl⟩;refine tl_pre (A':=F*Bs rlR []*pt b13 (cl ([vn (n*64),.slice none 0 0,.int .i64 0,.slice none 0 0,.int .i64 0,.bool false]) 194)*Sl 2 (.slice none 0 0) 0 []) (λ _ _ h=>sl_nil (by rw [bs_nil,star_emp,←hm];exact h)) ?_;refine Zci ?_;refine Zd7 ?_;refine tc_loop (λ kk ρ BB=>∃ (i:Nat) (aL:Option Addr) (cL:Nat) (rls1:List RL),(i<=n)/\ (rls1.map RL.l=(fromS n xs).ls.take i)/\ kk=n-i/\ ρ 5=(vn (i*64))/\ ρ 0= .slice a m c/\ ρ 4=(pz b13)/\ BB=F*Bs rlR rls1*pt b13 (cl ([vn (n*64),.slice aL i cL,.int .i64 0,.slice none 0 0,.int .i64 0,.bool false]) 194)*Sl 2 (.slice aL i cL) i (rls1.flatMap rcl)) (m:=n-(0)) ?_ ?_
  . exact ⟨0,none,0,[],by omega,rfl,rfl,rfl,rfl,rfl,rfl⟩
  intro k ρ B hI;obtain ⟨i,aL,cL,rls1,hp0,hp1,hkk1,hE5,hE0,hE4,rfl⟩:=hI;refine te 5 hE5 ?_;refine te 0 hE0 ?_;refine te 4 hE4 ?_;refine Zm ?_;refine Zde ?_;refine Zx ?_;refine tc_cond rfl (λ h=> ?_) (λ h=> ?_)
  . have hi:i<n:=(by simp at h;omega);have hrl:rls1.length=i:=(by have:=congrArg List.length hp1;rw [List.length_map,List.length_take,fromS_len] at this;omega);have hxl:((xs.drop (i*64)).take 64).length=64:=(by rw [List.length_take,List.length_drop];omega);have hlf:=lineF_lb hb (show i*64+64<=xs.length by omega);refine Zbe ?_;refine tc_regh (S:=F*Bs rlR rls1) mo drqz ?_
    show TH _ _ _ _ _ 18 (Array.replicate 18 false) _ _
    refine Zea ?_;refine tm 2 rfl kqz rfl (o_nilCheck rfl) ?_;refine tm 3 rfl kqz rfl (o_fieldAddr (o:=1) underlying194 rfl rfl sz191 rfl) ?_;refine tm 5 rfl kqz rfl (o_move wqz) ?_;refine Zgu ?_;refine tm 8 rfl kqz rfl (o_addI rfl rfl oqz) ?_;refine th_env (d:=28) (v:=(vn (i*64+64))) (rfl) ?_;refine tm 9 rfl kqz rfl (o_slice (l:=i*64) (h:=i*64+64) underlying67 sz5 rfl (bnd_nat rfl) (bnd_nat rfl) oqz oqz) ?_;refine th_env (d:=29) (v:= .slice (cutAddr a c (i*64) 1) 64 (c-i*64)) (by show Value.slice _ (i*64+64-i*64) _=_;rw [Nat.add_sub_cancel_left]) ?_;refine th_two (i:=4) (j:=10) kqz ?_ ?_
    . skip
      refine oh_v rfl rfl rfl (o_load p191 rfl hsqz rfl) ?_;refine th_one (i:=10) kqz ?_;refine oh_c rfl rfl rfl (o_call bd83 rfl (CopyBytes_c (xs:=(xs.drop (i*64)).take 64) (hr:=(by repeat (first|exact rs_mid hr oqz|apply Rs.left))) (hm:=hxl))) ?_;rintro _ _ ⟨a30,c30,rfl,hc30,rfl⟩;refine Zeq ?_;refine oh_x rfl rfl rfl (o_buildSlice1 underlying35 sz67 z67 rfl rfl) ?_;rintro _ _ ⟨b31,rfl,rfl⟩;refine Zcq ?_;refine th_one (i:=13) kqz ?_;refine oh_x rfl rfl rfl (o_buildSliceK (k:=2) (l:=[.slice (some ⟨b31,0,none⟩) 1 1,.int .i64 (-1)]) underlying191 sz265 z265 rfl rfl (by decide)) ?_;rintro _ _ ⟨b33,rfl,rfl⟩;refine Zer ?_;refine oh_x rfl rfl rfl (o_apB underlying191 underlying191 sz265 by265 z265 rfl (by decide) (by decide) rfl rfl rfl ctqz rfl rfl oqz (fm_sn rls1 ((⟨.slice (some ⟨b31,0,none⟩) 1 1,[(.slice a30 64 c30,seenL (lineF xs i))],-1⟩:RL)))) ?_;rintro _ _ ⟨a34,c34,rfl,hc34,rfl⟩;refine Z8 ?_;refine Zdr ?_;refine oh_u rfl rfl rfl (o_stU (l':=[vn (n*64),.slice a34 (i+1) c34,.int .i64 0,.slice none 0 0,.int .i64 0,.bool false]) rfl upqz sz191 rfl rfl (by show 1<6;decide) rfl) drqz ?_;refine Zht ?_
      have hnext:(rls1++[(⟨.slice (some ⟨b31,0,none⟩) 1 1,[(.slice a30 64 c30,seenL (lineF xs i))],-1⟩:RL)]).map RL.l=(fromS n xs).ls.take (i+1):=by
        rw [List.map_append,hp1,List.take_succ_eq_append_getElem (by rw [fromS_len];exact hi),fromS_at xs hi];rfl
      refine tc_pre (A':=F*Bs rlR (rls1++[(⟨.slice (some ⟨b31,0,none⟩) 1 1,[(.slice a30 64 c30,seenL (lineF xs i))],-1⟩:RL)])*pt b13 (cl ([vn (n*64),.slice a34 (i+1) c34,.int .i64 0,.slice none 0 0,.int .i64 0,.bool false]) 194)*Sl 2 (.slice a34 (i+1) c34) (i+1) ((rls1++[(⟨.slice (some ⟨b31,0,none⟩) 1 1,[(.slice a30 64 c30,seenL (lineF xs i))],-1⟩:RL)]).flatMap rcl)) (λ _ _ h=> ?_) ?_
      . have e:rlR (⟨.slice (some ⟨b31,0,none⟩) 1 1,[(.slice a30 64 c30,seenL (lineF xs i))],-1⟩:RL)=Sl 1 (.slice (some ⟨b31,0,none⟩) 1 1) 1 [.slice a30 64 c30]*SlR 1 (.slice a30 64 c30) 64 (bys ((xs.drop (i*64)).take 64)):=by
          show Sl 1 _ 1 [_]*Bs rowR [_]=_
          rw [bs_cons,bs_nil,emp_star]
          show _*SlR 1 _ 64 (bys (lb (seenL (lineF xs i))))=_
          rw [hlf]
        rw [bs_snoc,e]
        have h1:=sl_share (h.perm (show _=F*Bs rlR rls1*pt b13 (cl ([vn (n*64),.slice a34 (i+1) c34,.int .i64 0,.slice none 0 0,.int .i64 0,.bool false]) 194)*Sl 2 (.slice a34 (i+1) c34) (i+1) ((rls1++[(⟨.slice (some ⟨b31,0,none⟩) 1 1,[(.slice a30 64 c30,seenL (lineF xs i))],-1⟩:RL)]).flatMap rcl)*pt b31 (cl [.slice a30 64 c30] 67)*Sl 1 (.slice a30 64 c30) 64 (bys ((xs.drop (i*64)).take 64)) by ac_rfl));have h2:=sl_new (k:=1) (n:=1) (cap:=1) (xs:=[.slice a30 64 c30]) (h1.perm (star_swap _ _ _)) (by decide) (Nat.le_refl _) rfl;exact h2.perm (by ac_rfl)
      refine Zhr ?_;refine tl_env (d:=19) (v:= .int .i64 (((i+1)*64:Nat):Int)) (by show Value.int .i64 _=_;congr 1;omega) ?_;refine Za ?_;exact ⟨_,by omega,i+1,a34,c34,rls1++[(⟨.slice (some ⟨b31,0,none⟩) 1 1,[(.slice a30 64 c30,seenL (lineF xs i))],-1⟩:RL)],by omega,hnext,rfl,rfl,rfl,rfl,rfl⟩
    . skip
      refine oh_c rfl rfl rfl (o_call bd83 rfl (CopyBytes_c (xs:=(xs.drop (i*64)).take 64) (hr:=(by repeat (first|exact rs_mid hr oqz|apply Rs.left))) (hm:=hxl))) ?_;rintro _ _ ⟨a30,c30,rfl,hc30,rfl⟩;refine ⟨by repeat (first|with_reducible exact dr_refl|apply dr_keep|apply dr_drop), ?_⟩;refine th_two (i:=4) (j:=11) kqz ?_ ?_
      . skip
        refine oh_v rfl rfl rfl (o_load p191 rfl hsqz rfl) ?_;refine th_one (i:=11) kqz ?_;refine oh_x rfl rfl rfl (o_buildSlice1 underlying35 sz67 z67 rfl rfl) ?_;rintro _ _ ⟨b31,rfl,rfl⟩;refine Zcq ?_;refine th_one (i:=13) kqz ?_;refine oh_x rfl rfl rfl (o_buildSliceK (k:=2) (l:=[.slice (some ⟨b31,0,none⟩) 1 1,.int .i64 (-1)]) underlying191 sz265 z265 rfl rfl (by decide)) ?_;rintro _ _ ⟨b33,rfl,rfl⟩;refine Zer ?_;refine oh_x rfl rfl rfl (o_apB underlying191 underlying191 sz265 by265 z265 rfl (by decide) (by decide) rfl rfl rfl ctqz rfl rfl oqz (fm_sn rls1 ((⟨.slice (some ⟨b31,0,none⟩) 1 1,[(.slice a30 64 c30,seenL (lineF xs i))],-1⟩:RL)))) ?_;rintro _ _ ⟨a34,c34,rfl,hc34,rfl⟩;refine Z8 ?_;refine Zdr ?_;refine oh_u rfl rfl rfl (o_stU (l':=[vn (n*64),.slice a34 (i+1) c34,.int .i64 0,.slice none 0 0,.int .i64 0,.bool false]) rfl upqz sz191 rfl rfl (by show 1<6;decide) rfl) drqz ?_;refine Zht ?_
        have hnext:(rls1++[(⟨.slice (some ⟨b31,0,none⟩) 1 1,[(.slice a30 64 c30,seenL (lineF xs i))],-1⟩:RL)]).map RL.l=(fromS n xs).ls.take (i+1):=by
          rw [List.map_append,hp1,List.take_succ_eq_append_getElem (by rw [fromS_len];exact hi),fromS_at xs hi];rfl
        refine tc_pre (A':=F*Bs rlR (rls1++[(⟨.slice (some ⟨b31,0,none⟩) 1 1,[(.slice a30 64 c30,seenL (lineF xs i))],-1⟩:RL)])*pt b13 (cl ([vn (n*64),.slice a34 (i+1) c34,.int .i64 0,.slice none 0 0,.int .i64 0,.bool false]) 194)*Sl 2 (.slice a34 (i+1) c34) (i+1) ((rls1++[(⟨.slice (some ⟨b31,0,none⟩) 1 1,[(.slice a30 64 c30,seenL (lineF xs i))],-1⟩:RL)]).flatMap rcl)) (λ _ _ h=> ?_) ?_
        . have e:rlR (⟨.slice (some ⟨b31,0,none⟩) 1 1,[(.slice a30 64 c30,seenL (lineF xs i))],-1⟩:RL)=Sl 1 (.slice (some ⟨b31,0,none⟩) 1 1) 1 [.slice a30 64 c30]*SlR 1 (.slice a30 64 c30) 64 (bys ((xs.drop (i*64)).take 64)):=by
            show Sl 1 _ 1 [_]*Bs rowR [_]=_
            rw [bs_cons,bs_nil,emp_star]
            show _*SlR 1 _ 64 (bys (lb (seenL (lineF xs i))))=_
            rw [hlf]
          rw [bs_snoc,e]
          have h1:=sl_share (h.perm (show _=F*Bs rlR rls1*pt b13 (cl ([vn (n*64),.slice a34 (i+1) c34,.int .i64 0,.slice none 0 0,.int .i64 0,.bool false]) 194)*Sl 2 (.slice a34 (i+1) c34) (i+1) ((rls1++[(⟨.slice (some ⟨b31,0,none⟩) 1 1,[(.slice a30 64 c30,seenL (lineF xs i))],-1⟩:RL)]).flatMap rcl)*pt b31 (cl [.slice a30 64 c30] 67)*Sl 1 (.slice a30 64 c30) 64 (bys ((xs.drop (i*64)).take 64)) by ac_rfl));have h2:=sl_new (k:=1) (n:=1) (cap:=1) (xs:=[.slice a30 64 c30]) (h1.perm (star_swap _ _ _)) (by decide) (Nat.le_refl _) rfl;exact h2.perm (by ac_rfl)
        refine Zhr ?_;refine tl_env (d:=19) (v:= .int .i64 (((i+1)*64:Nat):Int)) (by show Value.int .i64 _=_;congr 1;omega) ?_;refine Za ?_;exact ⟨_,by omega,i+1,a34,c34,rls1++[(⟨.slice (some ⟨b31,0,none⟩) 1 1,[(.slice a30 64 c30,seenL (lineF xs i))],-1⟩:RL)],by omega,hnext,rfl,rfl,rfl,rfl,rfl⟩
      . skip
        refine oh_x rfl rfl rfl (o_buildSlice1 underlying35 sz67 z67 rfl rfl) ?_;rintro _ _ ⟨b31,rfl,rfl⟩;refine Zcq ?_;refine th_two (i:=4) (j:=13) kqz ?_ ?_
        . skip
          refine oh_v rfl rfl rfl (o_load p191 rfl hsqz rfl) ?_;refine th_one (i:=13) kqz ?_;refine oh_x rfl rfl rfl (o_buildSliceK (k:=2) (l:=[.slice (some ⟨b31,0,none⟩) 1 1,.int .i64 (-1)]) underlying191 sz265 z265 rfl rfl (by decide)) ?_;rintro _ _ ⟨b33,rfl,rfl⟩;refine Zer ?_;refine oh_x rfl rfl rfl (o_apB underlying191 underlying191 sz265 by265 z265 rfl (by decide) (by decide) rfl rfl rfl ctqz rfl rfl oqz (fm_sn rls1 ((⟨.slice (some ⟨b31,0,none⟩) 1 1,[(.slice a30 64 c30,seenL (lineF xs i))],-1⟩:RL)))) ?_;rintro _ _ ⟨a34,c34,rfl,hc34,rfl⟩;refine Z8 ?_;refine Zdr ?_;refine oh_u rfl rfl rfl (o_stU (l':=[vn (n*64),.slice a34 (i+1) c34,.int .i64 0,.slice none 0 0,.int .i64 0,.bool false]) rfl upqz sz191 rfl rfl (by show 1<6;decide) rfl) drqz ?_;refine Zht ?_
          have hnext:(rls1++[(⟨.slice (some ⟨b31,0,none⟩) 1 1,[(.slice a30 64 c30,seenL (lineF xs i))],-1⟩:RL)]).map RL.l=(fromS n xs).ls.take (i+1):=by
            rw [List.map_append,hp1,List.take_succ_eq_append_getElem (by rw [fromS_len];exact hi),fromS_at xs hi];rfl
          refine tc_pre (A':=F*Bs rlR (rls1++[(⟨.slice (some ⟨b31,0,none⟩) 1 1,[(.slice a30 64 c30,seenL (lineF xs i))],-1⟩:RL)])*pt b13 (cl ([vn (n*64),.slice a34 (i+1) c34,.int .i64 0,.slice none 0 0,.int .i64 0,.bool false]) 194)*Sl 2 (.slice a34 (i+1) c34) (i+1) ((rls1++[(⟨.slice (some ⟨b31,0,none⟩) 1 1,[(.slice a30 64 c30,seenL (lineF xs i))],-1⟩:RL)]).flatMap rcl)) (λ _ _ h=> ?_) ?_
          . have e:rlR (⟨.slice (some ⟨b31,0,none⟩) 1 1,[(.slice a30 64 c30,seenL (lineF xs i))],-1⟩:RL)=Sl 1 (.slice (some ⟨b31,0,none⟩) 1 1) 1 [.slice a30 64 c30]*SlR 1 (.slice a30 64 c30) 64 (bys ((xs.drop (i*64)).take 64)):=by
              show Sl 1 _ 1 [_]*Bs rowR [_]=_
              rw [bs_cons,bs_nil,emp_star]
              show _*SlR 1 _ 64 (bys (lb (seenL (lineF xs i))))=_
              rw [hlf]
            rw [bs_snoc,e]
            have h1:=sl_share (h.perm (show _=F*Bs rlR rls1*pt b13 (cl ([vn (n*64),.slice a34 (i+1) c34,.int .i64 0,.slice none 0 0,.int .i64 0,.bool false]) 194)*Sl 2 (.slice a34 (i+1) c34) (i+1) ((rls1++[(⟨.slice (some ⟨b31,0,none⟩) 1 1,[(.slice a30 64 c30,seenL (lineF xs i))],-1⟩:RL)]).flatMap rcl)*pt b31 (cl [.slice a30 64 c30] 67)*Sl 1 (.slice a30 64 c30) 64 (bys ((xs.drop (i*64)).take 64)) by ac_rfl));have h2:=sl_new (k:=1) (n:=1) (cap:=1) (xs:=[.slice a30 64 c30]) (h1.perm (star_swap _ _ _)) (by decide) (Nat.le_refl _) rfl;exact h2.perm (by ac_rfl)
          refine Zhr ?_;refine tl_env (d:=19) (v:= .int .i64 (((i+1)*64:Nat):Int)) (by show Value.int .i64 _=_;congr 1;omega) ?_;refine Za ?_;exact ⟨_,by omega,i+1,a34,c34,rls1++[(⟨.slice (some ⟨b31,0,none⟩) 1 1,[(.slice a30 64 c30,seenL (lineF xs i))],-1⟩:RL)],by omega,hnext,rfl,rfl,rfl,rfl,rfl⟩
        . skip
          refine oh_x rfl rfl rfl (o_buildSliceK (k:=2) (l:=[.slice (some ⟨b31,0,none⟩) 1 1,.int .i64 (-1)]) underlying191 sz265 z265 rfl rfl (by decide)) ?_;rintro _ _ ⟨b33,rfl,rfl⟩;refine ⟨by repeat (first|with_reducible exact dr_refl|apply dr_keep|apply dr_drop), ?_⟩;refine th_one (i:=4) kqz ?_;refine oh_v rfl rfl rfl (o_load p191 rfl hsqz rfl) ?_;refine th_one (i:=14) kqz ?_;refine oh_x rfl rfl rfl (o_apB underlying191 underlying191 sz265 by265 z265 rfl (by decide) (by decide) rfl rfl rfl ctqz rfl rfl oqz (fm_sn rls1 ((⟨.slice (some ⟨b31,0,none⟩) 1 1,[(.slice a30 64 c30,seenL (lineF xs i))],-1⟩:RL)))) ?_;rintro _ _ ⟨a34,c34,rfl,hc34,rfl⟩;refine Z8 ?_;refine Zdr ?_;refine oh_u rfl rfl rfl (o_stU (l':=[vn (n*64),.slice a34 (i+1) c34,.int .i64 0,.slice none 0 0,.int .i64 0,.bool false]) rfl upqz sz191 rfl rfl (by show 1<6;decide) rfl) drqz ?_;refine Zht ?_
          have hnext:(rls1++[(⟨.slice (some ⟨b31,0,none⟩) 1 1,[(.slice a30 64 c30,seenL (lineF xs i))],-1⟩:RL)]).map RL.l=(fromS n xs).ls.take (i+1):=by
            rw [List.map_append,hp1,List.take_succ_eq_append_getElem (by rw [fromS_len];exact hi),fromS_at xs hi];rfl
          refine tc_pre (A':=F*Bs rlR (rls1++[(⟨.slice (some ⟨b31,0,none⟩) 1 1,[(.slice a30 64 c30,seenL (lineF xs i))],-1⟩:RL)])*pt b13 (cl ([vn (n*64),.slice a34 (i+1) c34,.int .i64 0,.slice none 0 0,.int .i64 0,.bool false]) 194)*Sl 2 (.slice a34 (i+1) c34) (i+1) ((rls1++[(⟨.slice (some ⟨b31,0,none⟩) 1 1,[(.slice a30 64 c30,seenL (lineF xs i))],-1⟩:RL)]).flatMap rcl)) (λ _ _ h=> ?_) ?_
          . have e:rlR (⟨.slice (some ⟨b31,0,none⟩) 1 1,[(.slice a30 64 c30,seenL (lineF xs i))],-1⟩:RL)=Sl 1 (.slice (some ⟨b31,0,none⟩) 1 1) 1 [.slice a30 64 c30]*SlR 1 (.slice a30 64 c30) 64 (bys ((xs.drop (i*64)).take 64)):=by
              show Sl 1 _ 1 [_]*Bs rowR [_]=_
              rw [bs_cons,bs_nil,emp_star]
              show _*SlR 1 _ 64 (bys (lb (seenL (lineF xs i))))=_
              rw [hlf]
            rw [bs_snoc,e]
            have h1:=sl_share (h.perm (show _=F*Bs rlR rls1*pt b13 (cl ([vn (n*64),.slice a34 (i+1) c34,.int .i64 0,.slice none 0 0,.int .i64 0,.bool false]) 194)*Sl 2 (.slice a34 (i+1) c34) (i+1) ((rls1++[(⟨.slice (some ⟨b31,0,none⟩) 1 1,[(.slice a30 64 c30,seenL (lineF xs i))],-1⟩:RL)]).flatMap rcl)*pt b31 (cl [.slice a30 64 c30] 67)*Sl 1 (.slice a30 64 c30) 64 (bys ((xs.drop (i*64)).take 64)) by ac_rfl));have h2:=sl_new (k:=1) (n:=1) (cap:=1) (xs:=[.slice a30 64 c30]) (h1.perm (star_swap _ _ _)) (by decide) (Nat.le_refl _) rfl;exact h2.perm (by ac_rfl)
          refine Zhr ?_;refine tl_env (d:=19) (v:= .int .i64 (((i+1)*64:Nat):Int)) (by show Value.int .i64 _=_;congr 1;omega) ?_;refine Za ?_;exact ⟨_,by omega,i+1,a34,c34,rls1++[(⟨.slice (some ⟨b31,0,none⟩) 1 1,[(.slice a30 64 c30,seenL (lineF xs i))],-1⟩:RL)],by omega,hnext,rfl,rfl,rfl,rfl,rfl⟩
  obtain rfl:i=n:=by simp at h;omega
  rw [List.take_of_length_le (by rw [fromS_len];exact Nat.le_refl _)] at hp1
  refine Zhb ?_;refine ⟨.tuple #[pz b13,.int .i64 0],F*RDev b13 (fromS i xs),res2 rfl rfl rfl,λ _ _ h=> ?_,b13,rfl,rfl⟩;refine rdev_back (lv:= .slice aL i cL) (rls:=rls1) (av:= .slice none 0 0) (kvs:=[]) (fromS_wf hn hn2 hb) hp1 rfl _ _ ?_;have h1:=sl_nil (k:=2) h;refine h1.perm ?_
  unfold RDevC ArmsR rdcs
  rw [fromS_len]
  show _=F*(_*_*_*(Sl 2 (.slice none 0 0) 0 []*emp))
  rw [star_emp]
  rw [show (fromS i xs).ops=0 from rfl,show (fromS i xs).cnt=0 from rfl,show (fromS i xs).off=false from rfl]
  ac_rfl
theorem rLoad_c {A R:SP}{C:SP->SP}{r:Nat}{s:DevS}(hc:Ct A (RDev r s) R C:=by exact cbqz){p m:Nat}(hoff:s.off=false:=by assumption)(hpm:p+m<=s.ls.length*64:=by omega):
    Fn Tryz.prog 276 #[pz r,vn p,vn m] A (λ v B=>∃a c,v= .tuple #[.slice a m c,.int .i64 0]/\ m<=c/\ B=A*Sl 1 (.slice a m c) m (bys (((imgS s).drop p).take m))):=by
  obtain ⟨rfl,hC⟩:=hc;exact (fn_rdevR (q:=λ v X=>∃a c,v= .tuple #[.slice a m c,.int .i64 0]/\ m<=c/\ X=Sl 1 (.slice a m c) m (bys (((imgS s).drop p).take m))) λ A lv rls av hR=>rLoad_f A hR hoff hpm).mono λ v B ⟨X,e,a,c,h1,h2,h3⟩=>⟨a,c,h1,h2,by rw [e,h3]⟩
end Go.Vl

namespace Go.Vl
open Go Go.Proofs Go.Proofs.Tryz
theorem Foc.words {A A':SP}{hvs:List Value}{held:List (List Nat)}(h:Foc A (Words hvs held) (Words hvs held) A')(hl:hvs.length=held.length){g:Gh}{w:World}(hs:sat g w A):
    ∀i (hi:i<held.length),∃a c,hvs[i]? =some (.slice a held[i].length c)/\ Rd A a (wds held[i]):=λ i hi=>by
  obtain ⟨R,hA,_⟩:=h;obtain ⟨S,h1,_⟩:=words_get hl hi;rw [h1,←star_assoc] at hA
  obtain ⟨a,c,e,_,_,hr⟩:=sl_have' hA hs;exact ⟨a,c,by rw [List.getElem?_eq_getElem oqz,e],hr⟩
structure Lasts (P:PlS) (s2:DevS):Prop where
  len:s2.ls.length=P.marks.length
  wf:WfD s2
  wfp:WfD P.s
  seen:∀i (h:i<P.seen.length),nm (((imgS P.s).drop (8*i)).take 8)=P.seen[i]
  held:∀i (h:i<P.held.length),nm (((imgS s2).drop (8*i)).take 8)∈P.held[i]
  last:∀i (h:i<P.sure.length) (h':i<P.last.length),P.sure[i]=true->nm (((imgS s2).drop (8*i)).take 8)=P.last[i]
structure InvL (P:PlS) (w:Nat) (l:LineS):Prop where
  seen:(seenL l).getD (w%8) 0=P.seen.getD w 0
  held:∀σ∈l.st,σ.getD (w%8) 0∈P.held.getD w []
  last:P.sure.getD w false=true->∀σ∈l.st,σ.getD (w%8) 0=P.last.getD w 0
  mark:P.marks.getD (w/8) 0=1->l.mark=(l.st.length:Int)-1
def Inv (P:PlS):Prop:=∀w l,w<P.seen.length->P.s.ls[w/8]? =some l->InvL P w l
instance:Inhabited StepC:=⟨⟨0,0,.bool false,0,.bool false,.bool false,.bool false⟩⟩
theorem wfR_ct {A R:SP}{C:SP->SP}{r:Nat}{s:DevS}(hc:Ct A (RDev r s) R C){g:Gh}{w:World}(hs:sat g w A):WfD s:=by
  obtain ⟨rfl,_⟩:=hc;exact (rdev_iff.1 hs).1
theorem nm_snocr (x:Nat)(l:List Nat):nm (x::l)=x+256*nm l:=rfl
theorem nm_bound {l:List Nat}(h:∀x∈l,x<256)(hl:l.length<=8):nm l<18446744073709551616:=Nat.lt_of_lt_of_le (nm_lt l h) (by calc 256^l.length<=256^8:=Nat.pow_le_pow_right (by decide) hl
  _=18446744073709551616:=by decide)
attribute [local irreducible] Sl pt ro
end Go.Vl

namespace Go.Vl
open Go Go.Proofs Go.Proofs.Tryz
section
variable {P:Program} {n:Nat} {ρ:Env} {dst:Option Nat} {ty:TypeId} {pos:String} {after:Array Edge} {gd:Option (Nat×Bool)} {A:SP}
end
def rdT (n:Nat)(I:List Nat):List Int×Int:=if I.take 64=sbB [n,128,32768,32896,(n-32896)/256,0] then ([(n:Int),((128:Nat):Int),((32768:Nat):Int),((32896:Nat):Int),(((n-32896)/256:Nat):Int)],0) else ([0,0,0,0,0],100)
def wk1:DevS:=(bytesP 60 [1,1,1,1,1,1,1,1] (newS 2)).2
def wk2:DevS:=(pubP 8 258 wk1).2
def wk3:DevS:=(crS [] wk2).2
def wk4:DevS:={ wk3 with off:=false }
def nk1:DevS:=(crS [] (newS 1)).2
def mk (i k:Nat):Nat:=(i*31+k*7+1)%256
def mks (i n:Nat):List Nat:=(List.range n).map (mk i)
def mkL (j:Nat)(l:List Nat):List Nat:=mks j l.length
def PM:Nat->List Value->List Nat->SP
  |j,v::vs,n::ns=>PM (j+1) vs ns*Sl 1 v n (bys (mks j n))
  |_,[],[]=>emp
  |_,_,_=>pure_ False
def GP:Nat->List Value->List Value->List Nat->SP
  |j,v::vs,g::gs,n::ns=>GP (j+1) vs gs ns*Gr v n (bys (mks j n)) g (n+70) (bys (mks j (n+70)))
  |_,[],[],[]=>emp
  |_,_,_,_=>pure_ False
theorem parts_row {vs:List Value}{ls:List (List Nat)}{i:Nat}(h:vs.length=ls.length)(hi:i<ls.length):∃R,(∀A,A*Parts vs ls=A*R*Sl 1 (vs[i]'oqz) ls[i].length (bys ls[i]))/\∀A l,A*R*Sl 1 (vs[i]'oqz) l.length (bys l)=A*Parts vs (ls.set i l):=by
  obtain ⟨R,e1,e2⟩:=parts_get (vs:=vs) (ls:=ls) h hi;refine ⟨R,λ A=>by rw [e1,star_assoc],λ A l=> ?_⟩;have:=e2 (vs[i]'oqz) l;rw [set_getElem oqz] at this
  rw [this,star_assoc]
attribute [local irreducible] Sl SlR pt ro Parts Gr
end Go.Vl

namespace Go.Vl
open Go Go.Proofs Go.Proofs.Tryz
def rdA (s:DevS):List Int×Int:=if s.off=true then ([0,0,0,0,0],5) else if 578<=s.ls.length then rdT (s.ls.length*64) (imgS s) else ([0,0,0,0,0],100)
def rootA (s:DevS):Nat×Int:=if (rdA s).2≠0 then (0,(rdA s).2) else wordP 64 s
theorem old_heap' {W w:World}{g:Gh}(h:sat g w (old W)){k:Nat}(hk:k<W.heap.size):w.heap[k]? =W.heap[k]? :=by
  obtain ⟨x,rfl,hx⟩:=h.hp;have:=Array.getElem?_eq_getElem hk;rw [this];exact hx _ _ true (by simp [this])
theorem cell_old' {W:World}{b off:Nat}{v:Value}(h:W.cell? ⟨b,off,none⟩=some v):Cell (old W) b off v:=λ g w hs=>by
  have hb:b<W.heap.size:=by
    rcases Nat.lt_or_ge b W.heap.size with h1|h1
    . exact h1
    exfalso
    have:W.heap[b]? =none:=Array.getElem?_eq_none h1
    simp [World.cell?,this] at h
  have:=old_heap' hs hb;rw [←h];simp only [World.cell?,this]
theorem rs_old {W:World}{a:Addr}{xs:List Value}(h:∀i v,xs[i]? =some v->W.cell? (a.add i)=some v):Rs (old W) (some a) xs:=by
  cases xs with
  |nil=>exact rs_nil
  |cons x l=>
    obtain ⟨b,off,spot⟩:=a;have h0:=h 0 x rfl;have hspot:spot=none:=(by simpa [Addr.add] using World.cell?_spot h0);subst hspot;refine λ g w hs i v hv=>⟨b,off,rfl, ?_⟩
    have:=h i v hv;rw [WideShapes.add_plain] at this
    exact cell_old' this g w hs
def Rdb {α:Type}(P:Program)(W:World)(t:TypeId)(r:List Value->α->Prop):Prop:=
  ∀ (H:Type) (enc:TypeId×Value->H) (spare:Nat->Bool) (held:Bool) (fuel:Nat) (cs:List Value) (d:DataW H) (pl:List MemPlace),
    DataW.trod enc P W 0 spare held fuel t cs=some (d,pl)->(∀n∈d.weights P t,n<=reachBytes)->∃x,r cs x
theorem Rdb.mono {α β:Type}{P:Program}{W:World}{t:TypeId}{r:List Value->α->Prop}{q:List Value->β->Prop}(h:Rdb P W t r)(k:∀cs x,r cs x->∃y,q cs y):Rdb P W t q:=
  λ H enc sp hd fu cs d pl h1 h2=>by obtain ⟨x,hx⟩:=h H enc sp hd fu cs d pl h1 h2;exact k cs x hx
def PInt (k:IntKind)(cs:List Value)(n:Int):Prop:=cs=[.int k n]/\ (Lit.int k n).wf=true
theorem rdb_int {P:Program}{W:World}{t:TypeId}{k:IntKind}(ht:P.underlying t=some (.int k)):Rdb P W t (PInt k):=λ H enc sp hd fu cs d pl h _=>by
  obtain ⟨n,e,_,hw⟩:=DataW.trod_int ht h;exact ⟨n,e,hw⟩
def PBool (cs:List Value)(b:Bool):Prop:=cs=[.bool b]
def PSl {α:Type}(A:SP)(k b:Nat)(r:List Value->α->Prop)(cs:List Value)(xs:List α):Prop:=
  ∃ (a:Option Addr) (cap:Nat) (Cs:List (List Value)),cs=[.slice a xs.length cap]/\ xs.length<=cap/\ xs.length*b<=reachBytes/\ Cs.length=xs.length/\ (∀i (h:i<xs.length) (h':i<Cs.length),Cs[i].length=k/\ r Cs[i] xs[i])/\ Rs A a Cs.flatten
theorem weightsAll_mem {H:Type}{P:Program}{e:TypeId}:∀{l:List (DataW H)} {d:DataW H},d∈l->∀n∈d.weights P e,n∈DataW.weightsAll P e l
  |x::l,d,h,n,hn=>by
    simp only [DataW.weightsAll,List.mem_append]
    rcases List.mem_cons.1 h with rfl|h
    . exact .inl hn
    exact .inr (weightsAll_mem h n hn)
theorem flat_at {k:Nat}:∀{Cs:List (List Value)} (_:∀c∈Cs,c.length=k) {i j:Nat} (_:j<k) (hi:i<Cs.length),Cs.flatten[i*k+j]? =Cs[i][j]?
  |c::Cs,h,0,j,hj,_=>by
    rw [Nat.zero_mul,Nat.zero_add,List.flatten_cons,List.getElem?_append_left (by rw [h c (by simp)];exact hj)];rfl
  |c::Cs,h,i+1,j,hj,hi=>by
    have hc:=h c (by simp);rw [List.flatten_cons,List.getElem?_append_right (by rw [hc,Nat.add_mul];omega),hc,show (i+1)*k+j-k=i*k+j by rw [Nat.add_mul];omega]
    exact flat_at (λ x hx=>h x (List.mem_cons_of_mem _ hx)) hj (by simpa using hi)
theorem flat_length {k:Nat}:∀{Cs:List (List Value)} (_:∀c∈Cs,c.length=k),Cs.flatten.length=Cs.length*k
  |[],_=>by simp
  |c::Cs,h=>by
    rw [List.flatten_cons,List.length_append,h c (by simp),flat_length (λ x hx=>h x (List.mem_cons_of_mem _ hx)),List.length_cons,Nat.add_mul];omega
theorem rdb_slice {α:Type}{P:Program}{W:World}{t e:TypeId}{k b:Nat}{r:List Value->α->Prop}(ht:P.underlying t=some (.slice e))(hk:P.cellsOf e=k)(hb:P.bytesOf e=b)(hk0:0<k)(hr:Rdb P W e r):Rdb P W t (PSl (old W) k b r):=λ H enc sp hd fu cs d pl h hw=>by
  rcases Deep.open_slice ht h with ⟨rfl,_⟩|⟨a,len,cap,m,n,D,Pl,rfl,_,hl,_,hm,hx,hel⟩
  . exact ⟨[],none,0,[],rfl,Nat.le_refl _,by simp,rfl,λ i h=>by simp at h,rs_nil⟩
  have hlm:len<=m:=(by rw [hm];split<;>omega)
  simp only [Prod.mk.injEq] at hx
  obtain ⟨rfl,_⟩:=hx;have hall:∀n∈DataW.weights P t (DataW.slice ((List.range len).map D) ((List.range (m-len)).map λ j=>D (len+j))),n<=reachBytes:=hw
  have hw1:(len+(m-len))*P.bytesOf e<=reachBytes:=by
    have:=hall ((len+(m-len))*P.bytesOf e) (by simp [DataW.weights,ht]);exact this
  have hex:∀i,i<len->∃p:List Value×α,p.1.length=k/\ r p.1 p.2/\∀j v,p.1[j]? =some v->W.cell? (a.add (i*k+j))=some v:=λ i hi=>by
    obtain ⟨cs',h1,h2⟩:=hel i oqz;rw [hk] at h1
    obtain ⟨_,hlen,h3⟩:=World.cells?_some h1
    obtain ⟨x,hx⟩:=hr H enc sp hd n cs' (D i) (Pl i) h2 (λ n hn=>hall n (by
      simp only [DataW.weights,ht,List.mem_cons,List.mem_append]
      refine .inr (.inl (weightsAll_mem (d:=D i) ?_ n hn))
      exact List.mem_map.2 ⟨i,List.mem_range.2 hi,rfl⟩))
    refine ⟨(cs',x),hlen,hx,λ j v hv=> ?_⟩;have hj:j<k:=(by have h9:j<cs'.length:=lt_at hv;omega);have:=h3 j hj;rw [Deep.add_add] at this
    rw [this,hv]
  rcases Nat.eq_zero_or_pos len with h0|h0
  . subst h0;exact ⟨[],some a,cap,[],rfl,Nat.zero_le _,by simp,rfl,λ i h=>by simp at h,rs_nil⟩
  obtain ⟨p0,_⟩:=hex 0 h0
  haveI:Inhabited (List Value×α):=⟨p0⟩
  obtain ⟨f,hf⟩:=Deep.choose_lt hex;refine ⟨(List.range len).map λ i=>(f i).2,some a,cap,(List.range len).map λ i=>(f i).1,by simp,by simpa using hl, ?_,by simp,λ i h h'=> ?_,rs_old λ i v hv=> ?_⟩
  . simp only [List.length_map,List.length_range,←hb]
    exact Nat.le_trans (Nat.mul_le_mul_right _ oqz) hw1
  . simp only [List.length_map,List.length_range] at h
    simp only [List.getElem_map,List.getElem_range]
    exact ⟨(hf i h).1,(hf i h).2.1⟩
  have hCk:∀c∈(List.range len).map λ i=>(f i).1,c.length=k:=λ c hc=>by
    obtain ⟨i,hi,rfl⟩:=List.mem_map.1 hc;exact (hf i (List.mem_range.1 hi)).1
  have hi:=lt_at hv;rw [flat_length hCk,List.length_map,List.length_range] at hi
  have hq:i/k<len:=Nat.div_lt_of_lt_mul (by rw [Nat.mul_comm];exact hi);have hm2:i%k<k:=Nat.mod_lt _ hk0;have e:i=i/k*k+i%k:=(Nat.div_add_mod' i k).symm;rw [e,flat_at hCk hm2 (by simpa using hq)] at hv
  simp only [List.getElem_map,List.getElem_range] at hv
  rw [e]
  exact (hf (i/k) hq).2.2 _ v hv
theorem rdb_fields {P:Program}{W:World}{t:TypeId}{fs:Array Field}(ht:P.underlying t=some (.struct fs)){H:Type}{enc:TypeId×Value->H}{sp:Nat->Bool}{hd:Bool}{fu:Nat}{cs:List Value}{d:DataW H}{pl:List MemPlace}
    (h:DataW.trod enc P W 0 sp hd fu t cs=some (d,pl)) (hw:∀n∈d.weights P t,n<=reachBytes):cs.length=P.cellsOf t∧
    ∀ (j:Nat) (f:Field),fs[j]? =some f->∀{α:Type} {r:List Value->α->Prop},Rdb P W f.type r->∃x,r ((cs.drop f.offset).take (P.cellsOf f.type)) x:=by
  obtain ⟨xs,n,_,hx,hl,hlen,hf⟩:=DataW.trod_struct ht h;refine ⟨hl,λ j f hj α r hr=> ?_⟩
  simp only [Prod.mk.injEq] at hx
  obtain ⟨rfl,_⟩:=hx
  have hj':j<xs.length:=by
    have h1:j<fs.size:=(Array.getElem?_eq_some_iff.1 hj).1;have h2:xs.length=fs.size:=(by simpa using hlen)
    omega
  have:=hf j f hj;rw [List.getElem?_eq_getElem hj'] at this
  refine hr H enc sp hd n _ xs[j].1 xs[j].2 this (λ m hm=>hw m ?_)
  simp only [DataW.weights,ht]
  exact DataW.weights_mem_each (ts:=fs.toList.map (·.type)) (ds:=xs.map (·.1)) (j:=j) (t:=f.type) (d:=xs[j].1) (by simp [hj]) (by simp [hj']) m hm
theorem flat1 {α:Type}{r:List Value->α->Prop}{f:α->Value}:∀{Cs:List (List Value)} {xs:List α} (_:Cs.length=xs.length) (_:∀i (h:i<xs.length) (h':i<Cs.length),Cs[i]=[f xs[i]]),Cs.flatten=xs.map f
  |[],[],_,_=>rfl
  |c::Cs,x::xs,hl,h=>by
    have h0:=h 0 (by simp) (by simp)
    simp only [List.getElem_cons_zero] at h0
    rw [List.flatten_cons,h0,flat1 (r:=r) (f:=f) (Cs:=Cs) (xs:=xs) (by simpa using hl) (λ i hi hi'=>h (i+1) (by simpa using hi) (by simpa using hi'))];rfl
def PBys (A:SP)(cs:List Value)(xs:List Nat):Prop:=∃a cap,cs=[.slice a xs.length cap]/\ xs.length<=cap/\ xs.length<=140737488351232/\ Rs A a (bys xs)/\∀x∈xs,x<256
def PInts (A:SP)(cs:List Value)(xs:List Int):Prop:=∃a cap,cs=[.slice a xs.length cap]/\ xs.length<=cap/\ xs.length<=17592186043904/\ Rs A a (ints xs)/\∀x∈xs,-9223372036854775808<=x/\ x<=9223372036854775807
theorem i64_wf {x:Int}(h:(Lit.int .i64 x).wf=true): -9223372036854775808<=x/\ x<=9223372036854775807:=Go.bounds_i64 h
theorem rdb_bys {P:Program}{W:World}{t e:TypeId}(ht:P.underlying t=some (.slice e))(he:P.underlying e=some (.int .u8))(hk:P.cellsOf e=1)(hb:P.bytesOf e=1):Rdb P W t (PBys (old W)):=
  (rdb_slice ht hk hb (by decide) (rdb_int he)).mono λ cs zs ⟨a,cap,Cs,e1,hc,hs,hl,hx,hr⟩=>by
    have hz:∀z∈zs,0<=z/\ z<=255:=λ z hz=>by
      obtain ⟨i,hi,rfl⟩:=List.mem_iff_getElem.1 hz;exact Go.bounds_u8 (hx i hi oqz).2.2
    have e2:Cs.flatten=bys (zs.map Int.toNat):=by
      rw [flat1 (r:=PInt .u8) (f:=λ z:Int=> .int .u8 z) hl (λ i h h'=>(hx i h h').2.1),bys,List.map_map]
      refine List.map_congr_left λ z hzm=> ?_
      have:=hz z hzm
      simp only [Function.comp,b8];congr 1;omega
    refine ⟨zs.map Int.toNat,a,cap,by simpa using e1,by simpa using hc, ?_,by rw [←e2];exact hr,λ x hx=> ?_⟩
    . simp only [List.length_map];unfold reachBytes at hs;omega
    obtain ⟨z,hzm,rfl⟩:=List.mem_map.1 hx;have:=hz z hzm;omega
abbrev ub {H:Type}(d:DataW H):Nat:=Go.Proofs.YtfmieencngkkcaaGreat.Rows.uptoBulk d
abbrev ubs {H:Type}(l:List (DataW H)):Nat:=Go.Proofs.YtfmieencngkkcaaGreat.Rows.uptoBulkAll l
def Rdu {α:Type}(P:Program)(W:World)(t:TypeId)(r:List Value->α->Prop)(sz:α->Nat):Prop:=
  ∀ (H:Type) (enc:TypeId×Value->H) (spare:Nat->Bool) (held:Bool) (fuel:Nat) (cs:List Value) (d:DataW H) (pl:List MemPlace),
    DataW.trod enc P W 0 spare held fuel t cs=some (d,pl)->∃x,r cs x/\ sz x<=ub d
theorem Rdu.mono {α β:Type}{P:Program}{W:World}{t:TypeId}{r:List Value->α->Prop}{s:α->Nat}{q:List Value->β->Prop}{z:β->Nat}(h:Rdu P W t r s)(k:∀cs x,r cs x->∃y,q cs y/\ z y<=s x):Rdu P W t q z:=
  λ H enc sp hd fu cs d pl h1=>by
    obtain ⟨x,hx,hs⟩:=h H enc sp hd fu cs d pl h1;obtain ⟨y,hy,hz⟩:=k cs x hx;exact ⟨y,hy,by omega⟩
def PSu {α:Type}(A:SP)(k:Nat)(r:List Value->α->Prop)(cs:List Value)(xs:List α):Prop:=
  ∃ (a:Option Addr) (cap:Nat) (Cs:List (List Value)),cs=[.slice a xs.length cap]/\ xs.length<=cap/\ Cs.length=xs.length/\ (∀i (h:i<xs.length) (h':i<Cs.length),Cs[i].length=k/\ r Cs[i] xs[i])/\ Rs A a Cs.flatten
def szL {α:Type}(sz:α->Nat)(xs:List α):Nat:=(xs.map sz).sum+1
def PByU (A:SP)(cs:List Value)(xs:List Nat):Prop:=∃a cap,cs=[.slice a xs.length cap]/\ xs.length<=cap/\ Rs A a (bys xs)/\∀x∈xs,x<256
def PInU (A:SP)(cs:List Value)(xs:List Int):Prop:=∃a cap,cs=[.slice a xs.length cap]/\ xs.length<=cap/\ Rs A a (ints xs)/\∀x∈xs,-9223372036854775808<=x/\ x<=9223372036854775807
structure Op9 where
  k:Int
  q:Int
  n:Int
  a:Option Addr
  c:Nat
  b:List Nat
  v:Nat
  ka:Option Addr
  kc:Nat
  kp:List Int
def Op9.cells (t:Op9):List Value:=[.int .i64 t.k,.int .i64 t.q,.int .i64 t.n,.slice t.a t.b.length t.c,.int .u64 (t.v:Nat),.slice t.ka t.kp.length t.kc]
structure Op9W (A:SP) (t:Op9):Prop where
  cap:t.b.length<=t.c
  rs:Rs A t.a (bys t.b)
  byt:∀x∈t.b,x<256
  v:t.v<18446744073709551616
  kcap:t.kp.length<=t.kc
  krs:Rs A t.ka (ints t.kp)
  kb:∀x∈t.kp,-9223372036854775808<=x/\ x<=9223372036854775807
  q: -9223372036854775808<=t.q/\ t.q<=9223372036854775807
  n: -9223372036854775808<=t.n/\ t.n<=9223372036854775807
def Op9.sz (t:Op9):Nat:=t.b.length+t.kp.length+1
def ocs (l:List Op9):List Value:=l.flatMap Op9.cells
def POps (A:SP)(cs:List Value)(ops:List Op9):Prop:=∃a cap,cs=[.slice a ops.length cap]/\ ops.length<=cap/\ Rs A a (ocs ops)/\∀t∈ops,Op9W A t
def rawS (t:Op9)(s:DevS):DevS:=if t.k=7 then (sto ((wi t.q 256:Nat):Int) (t.b.take (256-wi t.q 256)) s).2 else if t.k=8 then (fl1 ((wi t.q 256:Nat):Int) s).2 else if t.k=9 then (fe s).2 else s
theorem room_le {a b:Nat}{s:DevS}(h:Room a s)(hab:b<=a):Room b s:=λ l hl=>Nat.le_trans (Nat.add_le_add_left hab _) (h l hl)
def rawL (l:List Op9)(s:DevS):DevS:=l.foldl (λ s t=>rawS t s) s
def rawB (at_ m:Nat)(t:Op9)(s:DevS):DevS:=if t.k=7/\ wi t.q 256<at_+m/\ at_<wi t.q 256+t.b.length then s else rawS t s
def rawLB (at_ m:Nat)(l:List Op9)(s:DevS):DevS:=l.foldl (λ s t=>rawB at_ m t s) s
attribute [local irreducible] Sl pt ro Dev imgS
theorem Within_c {A:SP}{i n:Int}(hn:0<n/\ n<=9223372036854775807:=by omega):
    Fn Tryz.prog 25 #[.int .i64 i,.int .i64 n] A (λ r B=>r= .int .i64 (i%n)/\ A=B):=by
  refine fn_enterW func25 rfl ntmps25 (by simp) ?_;have hb:=tmod_lt' (a:=i) hn.1;refine Zdg ?_;refine tlm ?_;refine tv (o_rem (a:=i) (b:=n) rfl rfl oqz) ?_;refine Zy ?_;refine Zx ?_;refine tc_cond rfl (sbq ?_) (sbq ?_)
  . intro h;refine Zb0 ?_;refine tv (o_addI (a:=i.tmod n) (b:=n) rfl rfl oqz) ?_;refine Zz ?_;refine Zl ?_;exact ⟨.int .i64 (i.tmod n+n),A,res1 rfl rfl,λ _ _ h=>h,by rw [within_neg hn.1 h],rfl⟩
  intro h;refine Zb2 ?_;refine Zl ?_;exact ⟨.int .i64 (i.tmod n),A,res1 rfl rfl,λ _ _ h=>h,by rw [within_pos hn.1 h],rfl⟩
end Go.Vl

namespace Go.Vl
open Go Go.Proofs Go.Proofs.Tryz
theorem done_room {r:Nat}{s:DevS}(hw:WfD s)(h:Room r s):Room r (doneS s):=by
  rcases done_loss (X:=λ _ _=>True) hw (λ _ _ _ _ _=>trivial) with ⟨_,h2,_⟩|⟨_,h1,h2,h3,_,h5⟩
  . unfold Room;rw [h2];exact h
  intro l hl;have hp:=hw.pos;have h0:=h _ (List.getElem_mem hp);have h4:=List.length_pos_iff.2 (hw.line _ (List.getElem_mem hp)).ne;have:=h3 l hl
  omega
theorem storeF_room:∀ (m:Nat) {p r:Nat} {b:List Nat} {s:DevS},b.length=m->WfD s->(∀x∈b,x<256)->Room (r+m) s->Room r (storeF b.length p b s).2/\ WfD (storeF b.length p b s).2:=by
  intro m
  induction m using Nat.strongRecOn with
  |_ m ih=>
    intro p r b s hm hw hb hroom
    by_cases h0:b=[]
    . subst h0;rw [storeF_nil]
      exact ⟨room_le hroom oqz,hw⟩
    have hpos:0<b.length:=List.length_pos_iff.2 h0;have hr1:Room 1 s:=room_le hroom oqz;have hwL:=layS_wf (at_:=p-p%8) hw hr1 (stW_nm (p:=p) (s:=s) hb)
    have hroom2:Room (r+(m-min m (8-p%8))) (layS (p-p%8) (nm (stW p b s)) s):=λ l hl=>by
      have:=onLine_room (r:=r+m-1) (f:=layL ((p-p%8)%64/8) (nm (stW p b s))) (i:=(p-p%8)/64) (λ l hl=>by have:=hroom l hl;omega) (λ l=>by simp [layL]) l hl
      omega
    have hk:(b.drop (8-p%8)).length=m-min m (8-p%8):=(by rw [List.length_drop];omega);rw [storeF_step h0]
    split
    . exact ⟨room_le (done_room hwL hroom2) oqz,doneS_wf hwL⟩
    exact ih (m-min m (8-p%8)) oqz hk (doneS_wf hwL) (λ x hx=>hb x (List.mem_of_mem_drop hx)) (done_room hwL hroom2)
theorem fence_wf {s:DevS}(hw:WfD s):WfD (fenceS s):=⟨by simp [fenceS];exact hw.pos,by simp [fenceS];exact hw.top,λ l hl=>by
  simp only [fenceS,List.mem_map] at hl
  obtain ⟨l0,h0,rfl⟩:=hl
  exact fenceL_wf (hw.line l0 h0),hw.arms,hw.after,hw.keeps⟩
theorem flF_room {r:Nat}:∀ (k q:Nat) (s:DevS),WfD s->Room r s->Room r (flF k q s).2/\ WfD (flF k q s).2
  |0,q,s,hw,h=>by
    rw [flF_zero]
    unfold fe
    split
    . exact ⟨h,hw⟩
    refine ⟨done_room (fence_wf hw) λ l hl=> ?_,doneS_wf (fence_wf hw)⟩
    simp only [fenceS,List.mem_map] at hl
    obtain ⟨l0,h0,rfl⟩:=hl;have h3:(fenceL l0).st.length<=l0.st.length:=(by unfold fenceL;split<;>simp);have:=h l0 h0
    omega
  |k+1,q,s,hw,h=>by
    have hk:Room r (fl1 ((q*64:Nat):Int) s).2/\ WfD (fl1 ((q*64:Nat):Int) s).2:=by
      unfold fl1
      split
      . exact ⟨h,hw⟩
      refine ⟨done_room (flushS_wf hw) λ l hl=> ?_,doneS_wf (flushS_wf hw)⟩
      unfold flushS onLine at hl
      split at hl
      . rcases List.mem_or_eq_of_mem_set hl with h1|h1
        . exact h l h1
        rw [h1]
        rename_i l0 e
        exact h l0 (List.mem_of_getElem? e)
      exact h l hl
    show Room r (if _ then _ else _:Int×DevS).2/\ WfD (if _ then _ else _:Int×DevS).2
    split
    . exact hk
    exact flF_room k (q+1) _ hk.2 hk.1
def fmtF:List (Nat×List Nat)->DevS->Int×DevS
  |[],s=>(0,s)
  |t::l,s=>if (bytesP (t.1:Int) t.2 s).1≠0 then bytesP (t.1:Int) t.2 s else fmtF l (bytesP (t.1:Int) t.2 s).2
def fst4 (n:Nat):List (Nat×List Nat):=[(0,(List.replicate 64 0)),(64,(List.replicate 64 0)),(128,(List.replicate 64 0)),(0,sbB [n,128,32768,32896,(n-32896)/256,0])]
def stC (l:List (Nat×List Nat)):List Value:=l.flatMap λ t=> .int .i64 (t.1:Int)::bys t.2
def fmA (n:Nat)(s:DevS):List Int×Int:=if (fmtF (fst4 n) s).1≠0 then ([0,0,0,0,0],(fmtF (fst4 n) s).1) else ([(n:Int),((128:Nat):Int),((32768:Nat):Int),((32896:Nat):Int),(((n-32896)/256:Nat):Int)],0)
def zz:List Nat:=List.replicate 64 0
theorem cln_from (n:Nat)(xs:List Nat):Cln (fromS n xs):=λ l h=>by
  obtain ⟨j,hj,rfl⟩:=List.mem_iff_getElem.1 h
  simp [fromS,lineF]
def LostI (n:Nat)(xs I:List Nat):Prop:=I.length=n/\ I.drop 192=xs.drop 192/\ (I.take 192=xs.take 192∨I.take 64≠sbB [n,128,32768,32896,(n-32896)/256,0]∨(I.drop 64).take 128=List.replicate 128 0)
def DoneI (n:Nat)(xs I:List Nat):Prop:=I.length=n/\ I.drop 192=xs.drop 192/\ I.take 64=sbB [n,128,32768,32896,(n-32896)/256,0]/\ (I.drop 64).take 128=List.replicate 128 0
def PSteps (A:SP)(cs:List Value)(ss:List StepC):Prop:=∃a cap,cs=[.slice a ss.length cap]/\ ss.length<=cap/\ ss.length<=1353245080300/\ Rs A a (scs ss)/\∀t∈ss,t.v<18446744073709551616
structure ImC where
  sz:Int
  fl:Int
  ha:Option Addr
  hcp:Nat
  hd:List Nat
  rt:Bool
  tn:Int
def ImC.cells (t:ImC):List Value:=[.int .i64 t.sz,.int .u8 t.fl,.slice t.ha t.hd.length t.hcp,.bool t.rt,.int .i64 t.tn]
def PImg (A:SP)(cs:List Value)(t:ImC):Prop:=cs=t.cells/\ Rs A t.ha (bys t.hd)/\ (∀x∈t.hd,x<256)/\ t.hd.length<=t.hcp/\ t.hd.length<=140737488351232/\ (0<=t.fl/\ t.fl<256)/\ (-9223372036854775808<=t.tn/\ t.tn<=9223372036854775807)/\ (-9223372036854775808<=t.sz/\ t.sz<=9223372036854775807)
structure RwF (A:SP) (a:Option Addr) (vs:List Value) (ls:List (List Nat)):Prop where
  len:vs.length=ls.length
  rd:Rs A a vs
  row:∀i (h:i<ls.length),∃b c,vs[i]? =some (.slice b ls[i].length c)/\ Rs A b (bys ls[i])
theorem RwF.left {A X:SP}{a:Option Addr}{vs:List Value}{ls:List (List Nat)}(h:RwF A a vs ls):RwF (A*X) a vs ls:=⟨h.len,h.rd.left,λ i hi=>let ⟨b,c,e,hr⟩:=h.row i hi;⟨b,c,e,hr.left⟩⟩
attribute [local irreducible] Sl pt ro imgS Parts
theorem Zb5 {p r:Prop}(k:r)(h:Kq r->p:=by intro k;refine ql_v rfl (o_move wqz) ?_;refine ql_v rfl (o_move wqz) ?_;exact k.o):p:=h ⟨k⟩
theorem Zgy {p r:Prop}(k:r)(h:Kq r->p:=by intro k;refine Zcd ?_;refine q_block_r (q_then_r (q_then_r (q_block_r (q_then_r ?_))));exact k.o):p:=h ⟨k⟩
theorem EqRows_c {A:SP}{a1 a2:Option Addr}{c1 c2 n m:Nat}{vs ws:List Value}{ls ms:List (List Nat)}(h1:RwF A a1 vs ls)(h2:RwF A a2 ws ms)(hn:ls.length=n)(hm:ms.length=m)(hnl:n<=4611686018427387904)(hml:m<=4611686018427387904)(hl1:∀l∈ls,l.length<=4611686018427387904)(hl2:∀l∈ms,l.length<=4611686018427387904):
    Fn Tryz.prog 35 #[.slice a1 n c1,.slice a2 m c2] A (λ v B=>v= .bool (decide (ls=ms))/\ A=B):=by
  refine fn_enterW func35 rfl ntmps35 (by simp) ?_;refine Zcb ?_;refine tv (o_len underlying35 rfl) ?_;refine Zds ?_;refine Z5 ?_;refine tc_cond rfl (sbq ?_) (sbq ?_)
  . intro h;refine Zdy ?_;refine ⟨.bool false,_,res1 rfl rfl, ?_,(by rw [decide_eq_false];intro e;subst e;omega),rfl⟩;exact Dr.sat drqz
  intro h;refine Zdm ?_;refine Zd7 ?_;refine tc_loop (λ kk ρ BB=>∃ (i:Nat),(i<=n)/\ (ls.take i=ms.take i)/\ kk=n-i/\ ρ 5=(vn i)/\ ρ 0= .slice a1 n c1/\ ρ 1= .slice a2 m c2/\ BB=A) (m:=n-(0)) ?_ ?_
  . exact ⟨0,by omega,rfl,rfl,rfl,rfl,rfl,rfl⟩
  intro k ρ B hI;obtain ⟨i,hp0,hp1,hkk1,hE5,hE0,hE1,hBA⟩:=hI;obtain rfl:=hBA.symm;refine te 5 hE5 ?_;refine te 0 hE0 ?_;refine te 1 hE1 ?_;refine Zm ?_;refine Zds ?_;refine Zx ?_;refine tc_cond rfl (λ h=> ?_) (sbq ?_)
  . have hi:i<ls.length:=(by simp at h;omega);have hj:i<ms.length:=(by omega);obtain ⟨b1,k1,g1,r1⟩:=h1.row i hi;obtain ⟨b2,k2,g2,r2⟩:=h2.row i hj;have q1:=hl1 _ (List.getElem_mem hi);have q2:=hl2 _ (List.getElem_mem hj);have v1:=h1.len;have v2:=h2.len;refine Zbe ?_;refine tc_seq ?_;refine tc_regq mo kqz ?_;refine Zb5 ?_;refine ql_v rfl (o_ixP1 underlying35 sz67 rfl rfl oqz (nn_rs h1.rd (λ _=>by omega))) ?_;refine ql_v rfl (o_ldP p67 rfl h1.rd g1) ?_;refine Zb5 ?_;refine ql_v rfl (o_ixP1 underlying35 sz67 rfl rfl oqz (nn_rs h2.rd (λ _=>by omega))) ?_;refine ql_v rfl (o_ldP p67 rfl h2.rd g2) ?_;refine ql_c rfl (λ w=>exec_call bd54 rfl) (EqBytes_c (xs:=ls[i]) (ys:=ms[i]) (h1:=r1) (h2:=r2)) ?_;refine ql_v rfl (o_not rfl) ?_;refine Zdq ?_;refine tc_cond rfl (sbq ?_) (λ h=> ?_)
    . intro h;refine Zgy ?_;refine ⟨.bool false,_,res1 rfl rfl, ?_,(by rw [decide_eq_false];intro e;subst e;simp at h),rfl⟩;exact Dr.sat drqz
    have heq:ls[i]=ms[i]:=(by simpa using h);refine Zem ?_;refine Zfy ?_;exact ⟨_,by omega,i+1,by omega,by rw [List.take_succ_eq_append_getElem hi,List.take_succ_eq_append_getElem hj,hp1,heq],rfl,rfl,rfl,rfl,rfl⟩
  intro h;refine Zk ?_;refine Zcd ?_;refine ⟨.bool true,_,res1 rfl rfl, ?_,(by rw [decide_eq_true];have e:i=n:=(by simp at h;omega);rw [List.take_of_length_le oqz,List.take_of_length_le oqz] at hp1;exact hp1),rfl⟩;exact Dr.sat drqz
end Go.Vl

namespace Go.Vl
open Go Go.Proofs Go.Proofs.Tryz
def fmX (s:DevS):(List Int×Int)×DevS:=if 578<=s.ls.length then (((fmA (s.ls.length*64) s).1,(fmtF (fst4 (s.ls.length*64)) s).1),(fmtF (fst4 (s.ls.length*64)) s).2) else (([0,0,0,0,0],80),s)
theorem st8_room {r v:Nat}{p e:Int}{s s2:DevS}(h:st8 p v s=(e,s2))(hw:WfD s)(hv:v<18446744073709551616)(hr:Room (r+1) s):Room r s2:=by
  have h0:Room r s:=room_le hr oqz
  unfold st8 at h
  split at h
  . rw [←(Prod.mk.inj h).2];exact h0
  split at h
  . rw [←(Prod.mk.inj h).2];exact h0
  rw [←(Prod.mk.inj h).2]
  exact done_room (layS_wf hw (room_le hr oqz) hv) (onLine_room hr λ l=>by simp [layL])
theorem sto_room {r:Nat}{p e:Int}{b:List Nat}{s s2:DevS}(h:sto p b s=(e,s2))(hw:WfD s)(hb:∀x∈b,x<256)(hr:Room (r+b.length) s):Room r s2:=by
  have h0:Room r s:=room_le hr oqz;have h2:(sto p b s).2=s2:=(by rw [h]);rw [←h2]
  unfold sto
  split
  . exact h0
  exact (storeF_room b.length rfl hw hb hr).1
theorem flushS_room {r p:Nat}{s:DevS}(h:Room r s):Room r (flushS p s):=λ l hl=>by
  unfold flushS onLine at hl
  split at hl
  . rcases List.mem_or_eq_of_mem_set hl with h1|h1
    . exact h l h1
    rw [h1]
    rename_i l0 e
    exact h l0 (List.mem_of_getElem? e)
  exact h l hl
theorem fl1_room {r:Nat}{p e:Int}{s s2:DevS}(h:fl1 p s=(e,s2))(hw:WfD s)(hr:Room r s):Room r s2:=by
  unfold fl1 at h
  split at h
  . rw [←(Prod.mk.inj h).2];exact hr
  rw [←(Prod.mk.inj h).2];exact done_room (flushS_wf hw) (flushS_room hr)
def ctI (p:Int)(s:DevS):List (List Nat):=if p<0 then [] else ctS p.toNat s
def ldB (p m:Int)(s:DevS):List Nat:=if rdy s.ls.length s.off p m=0 then ((imgS s).drop p.toNat).take m.toNat else []
theorem Op9W.left {A X:SP}{t:Op9}(h:Op9W A t):Op9W (A*X) t:=⟨h.cap,h.rs.left,h.byt,h.v,h.kcap,h.krs.left,h.kb,h.q,h.n⟩
structure RgC where
  ba:Option Addr
  bc:Nat
  bef:List Op9
  q:Int
  a:Option Addr
  c:Nat
  b:List Nat
  ha:Option Addr
  hc:Nat
  beh:List Op9
  ka:Option Addr
  kc:Nat
  kp:List Int
def RgC.cells (t:RgC):List Value:=[.slice t.ba t.bef.length t.bc,.int .i64 t.q,.slice t.a t.b.length t.c,.slice t.ha t.beh.length t.hc,.slice t.ka t.kp.length t.kc]
structure RgW (A:SP) (t:RgC):Prop where
  hrb:Rs A t.ba (ocs t.bef)
  hwb:∀x∈t.bef,Op9W A x
  hrh:Rs A t.ha (ocs t.beh)
  hwh:∀x∈t.beh,Op9W A x
  hr:Rs A t.a (bys t.b)
  hb:∀x∈t.b,x<256
  hcap:t.b.length<=t.c
  hrk:Rs A t.ka (ints t.kp)
def xm (i:Nat):Int:=IntKind.u8.wrap (IntKind.i64.wrap ((BitVec.ofInt IntKind.i64.bits 165^^^BitVec.ofInt IntKind.i64.bits (i:Int)).toNat))
def xmN (i:Nat):Nat:=(xm i).toNat
def spm (n:Nat):List Nat:=(List.range 80).map λ j=>xmN (n+j)
def spi (n:Nat):List Int:=(List.range 9).map λ j=>(7700+((n+j:Nat):Int))
theorem int_lists {xs ys:List Int}{i:Nat}(h:xs.take i=ys.take i)(hi:i<xs.length)(hj:i<ys.length)(e:xs[i]=ys[i]):xs.take (i+1)=ys.take (i+1):=by
  rw [List.take_succ_eq_append_getElem hi,List.take_succ_eq_append_getElem hj,h,e]
attribute [local irreducible] Sl pt ro
theorem Zet {p r:Prop}(k:r)(h:Kq r->p:=by intro k;refine tlm ?_;refine tv (o_len underlying34 rfl) ?_;exact k.o):p:=h ⟨k⟩
theorem EqInts_c {A:SP}{a1 a2:Option Addr}{c1 c2 n m:Nat}{xs ys:List Int}(h1:Rs A a1 (ints xs):=by exact rbqz)(h2:Rs A a2 (ints ys):=by exact rbqz)(hx:xs.length=n:=by first|assumption|rfl)(hy:ys.length=m:=by first|assumption|rfl)(hn:n<=4611686018427387904:=by omega)(hm:m<=4611686018427387904:=by omega):
    Fn Tryz.prog 38 #[.slice a1 n c1,.slice a2 m c2] A (λ v B=>v= .bool (decide (xs=ys))/\ A=B):=by
  refine fn_enterW func38 rfl ntmps38 (by simp) ?_;refine Zcb ?_;refine tv (o_len underlying34 rfl) ?_;refine Zet ?_;refine Z5 ?_;refine tc_cond rfl (sbq ?_) (sbq ?_)
  . intro h;refine Zdy ?_;refine ⟨.bool false,_,res1 rfl rfl, ?_,(by rw [decide_eq_false];intro e;subst e;omega),rfl⟩;exact Dr.sat drqz
  intro h;refine Zdm ?_;refine Zd7 ?_;refine tc_loop (λ kk ρ BB=>∃ (i:Nat),(i<=n)/\ (xs.take i=ys.take i)/\ kk=n-i/\ ρ 5=(vn i)/\ ρ 0= .slice a1 n c1/\ ρ 1= .slice a2 m c2/\ BB=A) (m:=n-(0)) ?_ ?_
  . exact ⟨0,by omega,rfl,rfl,rfl,rfl,rfl,rfl⟩
  intro k ρ B hI;obtain ⟨i,hp0,hp1,hkk1,hE5,hE0,hE1,hBA⟩:=hI;obtain rfl:=hBA.symm;refine te 5 hE5 ?_;refine te 0 hE0 ?_;refine te 1 hE1 ?_;refine Zm ?_;refine Zet ?_;refine Zx ?_;refine tc_cond rfl (λ h=> ?_) (sbq ?_)
  . have hi:i<xs.length:=(by simp at h;omega);have hj:i<ys.length:=(by omega);refine Zbe ?_;refine tc_seq ?_;refine tc_regq mo kqz ?_;refine Zb5 ?_;refine ql_v rfl (o_ixP1 underlying34 sz3 rfl rfl oqz (nn_rs h1 (λ _=>by rw [ints_length];omega))) ?_;refine ql_v rfl (o_ldP p3 rfl h1 (ints_at hi)) ?_;refine Zb5 ?_;refine ql_v rfl (o_ixP1 underlying34 sz3 rfl rfl oqz (nn_rs h2 (λ _=>by rw [ints_length];omega))) ?_;refine ql_v rfl (o_ldP p3 rfl h2 (ints_at hj)) ?_;refine ql_v rfl (o_nei rfl rfl) ?_;refine Zdq ?_;refine tc_cond rfl (sbq ?_) (λ h=> ?_)
    . intro h;refine Zgy ?_;refine ⟨.bool false,_,res1 rfl rfl, ?_,(by rw [decide_eq_false];intro e;subst e;simp at h),rfl⟩;exact Dr.sat drqz
    have heq:xs[i]=ys[i]:=(by simpa using h);refine Zem ?_;refine Zfy ?_;exact ⟨_,by omega,i+1,by omega,int_lists hp1 hi hj heq,rfl,rfl,rfl,rfl,rfl⟩
  intro h;refine Zk ?_;refine Zcd ?_;refine ⟨.bool true,_,res1 rfl rfl, ?_,(by rw [decide_eq_true];have e:i=n:=(by simp at h;omega);rw [List.take_of_length_le oqz,List.take_of_length_le oqz] at hp1;exact hp1),rfl⟩;exact Dr.sat drqz
end Go.Vl

namespace Go.Vl
open Go Go.Proofs Go.Proofs.Tryz
theorem rangeP_room {r:Nat}{p m e:Int}{s s2:DevS}(h:rangeP p m s=(e,s2))(hw:WfD s)(hr:Room r s):Room r s2:=by
  have h2:(rangeP p m s).2=s2:=(by rw [h]);rw [←h2]
  unfold rangeP
  split
  . exact hr
  split
  . exact hr
  split
  . exact hr
  exact (flF_room _ _ _ hw hr).1
theorem st8_wf {v:Nat}{p e:Int}{s s2:DevS}(h:st8 p v s=(e,s2))(hw:WfD s)(hv:v<18446744073709551616)(hr:Room 1 s):WfD s2:=by
  unfold st8 at h
  split at h
  . rw [←(Prod.mk.inj h).2];exact hw
  split at h
  . rw [←(Prod.mk.inj h).2];exact hw
  rw [←(Prod.mk.inj h).2];exact doneS_wf (layS_wf hw hr hv)
def wd (n:Int):Nat:=2^wi n 4
theorem done_on {s:DevS}(h:doneE s=0):(doneS s).off=s.off:=by
  unfold doneE at h
  unfold doneS
  cases e:s.arms with
  |nil=>rfl
  |cons a ar=>
    rw [e] at h
    simp only at h ⊢
    split
    . rfl
    rename_i c;rw [if_neg c] at h;exact absurd h (by decide)
theorem storeF_on:∀ (m:Nat) {p:Nat} {b:List Nat} {s s2:DevS},b.length=m->storeF b.length p b s=(0,s2)->s2.off=s.off:=by
  intro m
  induction m using Nat.strongRecOn with
  |_ m ih=>
    intro p b s s2 hm h
    by_cases h0:b=[]
    . subst h0;rw [storeF_nil] at h;simp only [Prod.mk.injEq,true_and] at h;rw [h]
    have hpos:0<b.length:=List.length_pos_iff.2 h0;rw [storeF_step h0] at h
    by_cases hd:doneE (layS (p-p%8) (nm (stW p b s)) s)=0
    . rw [if_neg (by rw [hd];decide)] at h
      have:=ih (b.drop (8-p%8)).length (by rw [List.length_drop];omega) rfl h;rw [this,done_on hd,layS_off]
    rw [if_pos hd] at h
    simp only [Prod.mk.injEq] at h
    exact absurd h.1 hd
theorem sto_on {p:Int}{b:List Nat}{s s2:DevS}(h:sto p b s=(0,s2)):s2.off=s.off:=by
  unfold sto at h
  split at h
  . rename_i hr;simp only [Prod.mk.injEq] at h;exact absurd h.1 hr
  exact storeF_on _ rfl h
def needN (l:List (Int×Int)):Nat:=(l.map λ x=>24+up8 x.2.toNat).sum
theorem needN_cons (x:Int×Int)(l:List (Int×Int)):needN (x::l)=24+up8 x.2.toNat+needN l:=by unfold needN;rw [List.map_cons,List.sum_cons]
theorem needF_ok:∀{l:List (Int×Int)} {s e r:Int},(∀x∈l,1<=x.2)->needF (lensX l) s=(r,e)->e=0->r=s+(needN l:Nat)
  |[],s,e,r,_,h,_=>by
    simp only [lensX,List.map_nil,needF,Prod.mk.injEq] at h
    rw [←h.1];show s=s+((0:Nat):Int);omega
  |x::l,s,e,r,hx,h,he=>by
    have h1:=hx x (by simp);obtain ⟨n,hn⟩:=Int.eq_ofNat_of_zero_le (show 0<=x.2 by omega);have hc:lensX (x::l)=(n:Int)::lensX l:=(by unfold lensX;rw [List.map_cons,hn]);rw [hc,needF_cons oqz] at h
    split at h
    . simp only [Prod.mk.injEq] at h;omega
    rename_i hno
    have h2:=needF_ok (λ x hx'=>hx x (List.mem_cons_of_mem _ hx')) h he;rw [h2,needN_cons,hn,Int.toNat_natCast]
    have:(rndS n).1=((up8 n:Nat):Int):=(by unfold rndS at hno ⊢;split at hno<;>rename_i hh;exact absurd (.inl (by decide)) hno;rw [if_neg hh])
    omega
attribute [local irreducible] crk crL crc Sl pt ro Dev imgS recS
theorem Zep {p r:Prop}(k:r)(h:Kq r->p:=by intro k;refine Za ?_;refine tc_cond rfl dbq (sbq ?_);exact k.o):p:=h ⟨k⟩
theorem Zgp {p r:Prop}(k:r)(h:Kq r->p:=by intro k;refine tv (o_pick_t rfl wqz) ?_;refine Zbf ?_;exact k.o):p:=h ⟨k⟩
theorem Zhi {p r:Prop}(k:r)(h:Kq r->p:=by intro k;refine tv (o_nei rfl rfl) ?_;refine Zbo ?_;exact k.o):p:=h ⟨k⟩
theorem Zhy {p r:Prop}(k:r)(h:Kq r->p:=by intro k;refine Zc8 ?_;refine Zbo ?_;exact k.o):p:=h ⟨k⟩
theorem Zc0 {p r:Prop}(k:r)(h:Kq r->p:=by intro k;refine tlm ?_;refine tv (o_subI rfl rfl oqz) ?_;exact k.o):p:=h ⟨k⟩
theorem Open_ok {A R:SP}{C:SP->SP}{d:Nat}{s:DevS}(hc:Ct A (Dev d s) R C:=by exact cbqz){p q:Int}(hp: -9223372036854775808<=p/\ p<=9223372036854775807:=by omega)(hq: -9223372036854775808<=q/\ q<=9223372036854775807:=by omega)(hok:(64<=p/\ p%64=0/\ 128<=q/\ q%64=0/\ p<=(s.ls.length:Int)*64/\ q<=(s.ls.length:Int)*64-p):=by omega):
    Fn Tryz.prog 84 #[pz d,.int .i64 p,.int .i64 q] A (λ r B=>∃b,r= .tuple #[pz b,.int .i64 0]/\ B=A*pt b (cl [pz d,.int .i64 p,.int .i64 q] 258)):=by
  refine fn_enterW func84 rfl ntmps84 (by simp) ?_;refine tc_have (λ _ _ h=>ct_wf2 hc h) λ hw=> ?_
  have htop:=hw.top;have hpos:=hw.pos;obtain ⟨rfl,hC⟩:=hc;refine Zcc ?_;refine Zz ?_;refine tl_c rfl (o_call bd155 rfl (Size_c (s:=s))) ?_;refine Zh5 ?_;refine Zu ?_;refine Zb ?_;refine tv (o_eqi rfl rfl) ?_;refine Zep ?_;intro h;refine tc_seq ?_;refine tc_cut (λ ρ BB=>∃ (bb:Bool),(bb=decide (¬(64<=p/\ p%64=0/\ 128<=q/\ q%64=0/\ p<=(s.ls.length:Int)*64/\ q<=(s.ls.length:Int)*64-p)))/\ ρ 14= .bool bb/\ ρ 0=(pz d)/\ ρ 1= .int .i64 p/\ ρ 2= .int .i64 q/\ BB=R*Dev d s) ?_ ?_
  . skip
    refine Zbr ?_;refine Zcn ?_;refine tl_bool (d:=17) rfl (λ h=> ?_) (λ h=> ?_)
    . have g17:(p<64):=(by first|exact of_decide_eq_true h|(have h2:=h;simp at h2;omega)|simpa using h);refine Zc5 ?_;refine Z1 ?_;refine Zp ?_;refine Z1 ?_;refine Zc5 ?_;refine Z1 ?_;refine Zga ?_;refine tk ?_;refine Zgp ?_;exact ⟨_,by first|exact (decide_eq_true oqz).symm|exact (decide_eq_false oqz).symm|(rw [decide_eq_decide];omega),rfl,rfl,rfl,rfl,rfl⟩
    have g17:¬(p<64):=(by first|exact of_decide_eq_false h|(have h2:=h;simp at h2;omega)|simpa using h);refine Zdw ?_;refine Zhi ?_;refine tl_bool (d:=22) rfl (λ h=> ?_) (λ h=> ?_)
    . have g22:(p<64∨p%64≠0):=(by first|exact of_decide_eq_true h|(have h2:=h;simp at h2;omega)|simpa using h);refine Zp ?_;refine Z1 ?_;refine Zc5 ?_;refine Z1 ?_;refine Zga ?_;refine tk ?_;refine Zgp ?_;exact ⟨_,by first|exact (decide_eq_true oqz).symm|exact (decide_eq_false oqz).symm|(rw [decide_eq_decide];omega),rfl,rfl,rfl,rfl,rfl⟩
    have g22:¬(p<64∨p%64≠0):=(by first|exact of_decide_eq_false h|(have h2:=h;simp at h2;omega)|simpa using h);refine Zhy ?_;refine tl_bool (d:=26) rfl (λ h=> ?_) (λ h=> ?_)
    . have g26:(p<64∨p%64≠0∨q<128):=(by first|exact of_decide_eq_true h|(have h2:=h;simp at h2;omega)|simpa using h);refine Zc5 ?_;refine Z1 ?_;refine Zga ?_;refine tk ?_;refine Zgp ?_;exact ⟨_,by first|exact (decide_eq_true oqz).symm|exact (decide_eq_false oqz).symm|(rw [decide_eq_decide];omega),rfl,rfl,rfl,rfl,rfl⟩
    have g26:¬(p<64∨p%64≠0∨q<128):=(by first|exact of_decide_eq_false h|(have h2:=h;simp at h2;omega)|simpa using h);refine Zdw ?_;refine Zhi ?_;refine tl_bool (d:=31) rfl (λ h=> ?_) (λ h=> ?_)
    . have g31:(p<64∨p%64≠0∨q<128∨q%64≠0):=(by first|exact of_decide_eq_true h|(have h2:=h;simp at h2;omega)|simpa using h);refine Zga ?_;refine tk ?_;refine Zgp ?_;exact ⟨_,by first|exact (decide_eq_true oqz).symm|exact (decide_eq_false oqz).symm|(rw [decide_eq_decide];omega),rfl,rfl,rfl,rfl,rfl⟩
    have g31:¬(p<64∨p%64≠0∨q<128∨q%64≠0):=(by first|exact of_decide_eq_false h|(have h2:=h;simp at h2;omega)|simpa using h);refine Zt ?_;refine Zhg ?_;refine tl_bool (d:=36) rfl (λ h=> ?_) (λ h=> ?_)
    . have g36:(p<64∨p%64≠0∨q<128∨q%64≠0∨(s.ls.length:Int)*64<p):=(by first|exact of_decide_eq_true h|(have h2:=h;simp at h2;omega)|simpa using h);refine Zbj ?_;refine tk ?_;refine Zgp ?_;exact ⟨_,by first|exact (decide_eq_true oqz).symm|exact (decide_eq_false oqz).symm|(rw [decide_eq_decide];omega),rfl,rfl,rfl,rfl,rfl⟩
    have g36:¬(p<64∨p%64≠0∨q<128∨q%64≠0∨(s.ls.length:Int)*64<p):=(by first|exact of_decide_eq_false h|(have h2:=h;simp at h2;omega)|simpa using h);refine Zt ?_;refine Zc0 ?_;refine Z7 ?_;refine Zbf ?_;exact ⟨_,by first|exact (decide_eq_true oqz).symm|exact (decide_eq_false oqz).symm|(rw [decide_eq_decide];omega),rfl,rfl,rfl,rfl,rfl⟩
  intro ρ B hI;obtain ⟨bb,hbb0,hE14,hE0,hE1,hE2,rfl⟩:=hI;refine q_then_n ?_;refine te 14 hE14 ?_;refine te 0 hE0 ?_;refine te 1 hE1 ?_;refine te 2 hE2 ?_;refine tc_cond rfl (λ h=> ?_) (sbq ?_)
  . exfalso;rw [h] at hbb0;have:=of_decide_eq_true hbb0.symm;omega
  intro h;refine Zfj ?_;refine Zb ?_;refine Zt ?_;refine tv (o_bS (l:=[_,_,_]) (pv_cons wqz (pv_cons wqz (pv_cons wqz pv_nil))) underlying258 z258 (pl258 underlying258) rfl) ?_;refine tl_x rfl (o_box rfl rfl) ?_;rintro _ _ ⟨b47,rfl,rfl⟩;refine Z6 ?_;exact ⟨_,_,res2 rfl rfl rfl,λ _ _ h=>h,b47,rfl,rfl⟩
theorem Zfz {p r:Prop}(k:r)(h:Kq r->p:=by intro k;refine tlm ?_;refine tl_bool (d:=6) rfl dbq (sbq ?_);exact k.o):p:=h ⟨k⟩
theorem Zba {p r:Prop}(k:r)(h:Kq r->p:=by intro k;refine tlm ?_;refine tv (o_nilCheck rfl) ?_;exact k.o):p:=h ⟨k⟩
theorem Zif {p r:Prop}(k:r)(h:Kq r->p:=by intro k;refine Zcd ?_;refine q_block_r (q_then_r ?_);exact k.o):p:=h ⟨k⟩
theorem ready11_c {A R:SP}{C:SP->SP}{d:Nat}{s:DevS}(hc:Ct A (Dev d s) R C:=by exact cbqz){bl at_ sz:Nat}(hl:Has R bl (cl (lcs11 d at_ sz) 258):=by exact hbqz):
    Fn Tryz.prog 245 #[pz bl] A (λ r B=>r= .int .i64 (stE s)/\ A=B):=by
  refine fn_enterW func245 rfl ntmps245 (by simp) ?_;obtain ⟨rfl,hC⟩:=hc;refine Zbw ?_;refine Zu ?_;refine Zb ?_;refine tv (o_eqp underlying160 rfl rfl) ?_;refine Zfz ?_;intro h;refine Zba ?_;refine Zd1 ?_;refine tv (o_eqp underlying44 rfl rfl) ?_;refine tv (o_pick_f rfl wqz) ?_;refine Zep ?_;intro h;refine Zs ?_;refine Zd1 ?_;refine tl_c rfl (o_call bd262 rfl (Off_c (s:=s))) ?_;refine Zh5 ?_;refine tc_cond rfl (λ h=> ?_) (λ h=> ?_)
  . have ho:s.off=true:=(by first|exact h|simpa using h);refine Zif ?_;exact ⟨.int .i64 5,_,res1 rfl rfl,λ _ _ h=>h,by unfold stE;rw [if_pos ho],rfl⟩
  have ho:s.off=false:=(by first|exact h|simpa using h);refine Zfj ?_;refine Zcd ?_;exact ⟨.int .i64 0,_,res1 rfl rfl,λ _ _ h=>h,by unfold stE;rw [if_neg (by rw [ho];decide)],rfl⟩
theorem Zb4 {p r:Prop}(k:r)(h:Kq r->p:=by intro k;refine tm 0 rfl kqz rfl (o_move wqz) ?_;refine tm 1 rfl kqz rfl (o_nilCheck rfl) ?_;exact k.o):p:=h ⟨k⟩
theorem Zcj {p r:Prop}(k:r)(h:Kq r->p:=by intro k;refine tm 2 rfl kqz rfl (o_fieldAddr (o:=0) underlying258 rfl rfl sz44 rfl) ?_;refine tm 3 rfl kqz rfl (o_load p44 rfl haqz rfl) ?_;exact k.o):p:=h ⟨k⟩
theorem Zd4 {p r:Prop}(k:r)(h:Kq r->p:=by intro k;refine tm 4 rfl kqz rfl (o_move wqz) ?_;refine tm 5 rfl kqz rfl (o_nilCheck rfl) ?_;exact k.o):p:=h ⟨k⟩
theorem Zdb {p r:Prop}(k:r)(h:Kq r->p:=by intro k;refine tm 6 rfl kqz rfl (o_fieldAddr (o:=1) underlying258 rfl rfl sz3 rfl) ?_;refine tm 7 rfl kqz rfl (o_load p3 rfl haqz rfl) ?_;exact k.o):p:=h ⟨k⟩
theorem Clear_c {A R:SP}{C:SP->SP}{d:Nat}{s:DevS}(hc:Ct A (Dev d s) R C:=by exact cbqz){bl at_ sz:Nat}(hl:Has R bl (cl (lcs11 d at_ sz) 258):=by exact hbqz)(hlw:LogW (s.ls.length*64) at_ sz:=by assumption)(hroom:Room 1 s:=by assumption):
    Fn Tryz.prog 211 #[pz bl] A (λ r B=>∃e s2,clearS at_ s=(e,s2)/\ r= .int .i64 e/\ B=C (Dev d s2)):=by
  refine fn_enterW func211 rfl ntmps211 (by simp) ?_;refine tc_have (λ _ _ h=>ct_wf2 hc h) λ hw=> ?_
  have htop:=hw.top;have hpos:=hw.pos;obtain ⟨rfl,hC⟩:=hc;have hAC:∀g w,sat g w (R*Dev d s)->sat g w (C (Dev d s)):=λ g w h=>by rw [hC];exact h
  have hlw9:=hlw;obtain ⟨w1,w2,w3,w4,w5⟩:=hlw9;refine Zcb ?_;refine tl_c rfl (o_call bd245 rfl (ready11_c (s:=s) (hl:=hl))) ?_;refine Zhc ?_;refine tc_cond rfl (sbq ?_) (λ h=> ?_)
  . intro h;refine Zg4 ?_;have ho:=stE_off h;exact ⟨.int .i64 (stE s),C (Dev d s),res1 rfl rfl,hAC,stE s,s,by unfold clearS stE;rw [if_pos ho,if_pos ho],rfl,rfl⟩
  have ho:s.off=false:=stE_on (by simpa using h);refine Zdm ?_;refine tc_regh (S:=R) mo drqz ?_
  show TH _ _ _ _ _ 10 (Array.replicate 10 false) _ _
  refine Zb4 ?_;refine Zcj ?_;refine Zd4 ?_;refine Zdb ?_;refine th_one (i:=8) kqz ?_;refine oh_c rfl rfl rfl (o_call bd271 rfl (Publish_c (s:=s) (p:=(at_:Nat)) (v:=0))) ?_;rintro _ _ ⟨e17,s17,hs17,rfl,rfl⟩;refine ⟨by repeat (first|with_reducible exact dr_refl|apply dr_keep|apply dr_drop), ?_⟩;refine tm 9 rfl kqz rfl (o_assign wqz) ?_;refine Zbv ?_;refine tc_ret ?_;exact ⟨.int .i64 e17,C (Dev d s17),res1 rfl rfl,λ _ _ h=>by rw [hC];exact h,e17,s17,by unfold clearS;rw [if_neg (by rw [ho];decide)];exact hs17,rfl,rfl⟩
end Go.Vl

namespace Go.Vl
open Go Go.Proofs Go.Proofs.Tryz
theorem sq4z {p:Prop}(h:p:=by repeat (first|with_reducible exact rs_sl|assumption|apply Rs.left)):p:=h
def xcl (l:List (Int×Int)):List Value:=l.flatMap xcs
theorem xcl_len (l:List (Int×Int)):(xcl l).length=l.length*2:=fm_length (f:=xcs) λ _ _=>rfl
theorem xcl_at {l:List (Int×Int)}{j:Nat}(h:j<l.length):((xcl l).drop (j*2)).take 2=xcs l[j]:=fm_at (f:=xcs) (λ _ _=>rfl) h
theorem lensX_succ {l:List (Int×Int)}{i:Nat}(h:i<l.length):lensX (l.take (i+1))=lensX (l.take i)++[l[i].2]:=by
  rw [List.take_succ_eq_append_getElem h];unfold lensX;rw [List.map_append];rfl
theorem lensX_len (l:List (Int×Int)):(lensX l).length=l.length:=by unfold lensX;rw [List.length_map]
theorem may_nat {n at_ sz:Nat}{x:Int×Int}(h:mayX n at_ sz x=true):∃p m:Nat,x=((p:Int),(m:Int))/\ 64<=p/\ 1<=m/\ p+m<=n/\ (p+m<=at_∨at_+sz<=p):=by
  have h1:=of_decide_eq_true h;obtain ⟨p,hp⟩:=Int.eq_ofNat_of_zero_le (show 0<=x.1 by omega);obtain ⟨m,hm⟩:=Int.eq_ofNat_of_zero_le (show 0<=x.2 by omega);exact ⟨p,m,by cases x;simp only at hp hm;rw [hp,hm],by omega,by omega,by omega,by omega⟩
theorem word_in {p:Nat}{s:DevS}(ho:s.off=false)(hp:p%8=0)(hi:p+8<=s.ls.length*64):wordP (p:Nat) s=(nm (((imgS s).drop p).take 8),0):=by
  unfold wordP loadP
  rw [if_neg (by rw [ho];decide),if_neg oqz,ho,if_neg (by rw [rdy_ok oqz oqz oqz];decide),Int.toNat_natCast]
theorem nm8_lt {l:List Nat}(h:∀x∈l,x<256):nm (l.take 8)<18446744073709551616:=by
  have h1:=nm_lt (l.take 8) λ x hx=>h x (List.mem_of_mem_take hx)
  exact Nat.lt_of_lt_of_le h1 (by calc 256^(l.take 8).length<=256^8:=Nat.pow_le_pow_right (by decide) (List.length_take_le _ _)
    _=18446744073709551616:=by decide)
theorem putF_e {q p m:Nat}{l:List (Int×Int)}{s s2:DevS}{e:Int}(h:sto (q:Nat) (recS p (((imgS s).drop p).take m)) s=(e,s2))(he:e≠0):putF q (((p:Int),(m:Int))::l) s=(e,s2):=by
  show (if (sto (q:Nat) (recS p (((imgS s).drop p).take m)) s).1≠0 then sto (q:Nat) (recS p (((imgS s).drop p).take m)) s else _)=_
  rw [h,if_pos he]
theorem putF_o {q p m:Nat}{l:List (Int×Int)}{s s2:DevS}(h:sto (q:Nat) (recS p (((imgS s).drop p).take m)) s=(0,s2)):putF q (((p:Int),(m:Int))::l) s=putF (q+(24+up8 m)) l s2:=by
  show (if (sto (q:Nat) (recS p (((imgS s).drop p).take m)) s).1≠0 then _ else putF (q+(24+up8 m)) l (sto (q:Nat) (recS p (((imgS s).drop p).take m)) s).2)=_
  rw [h,if_neg (by simp)]
theorem needN_ge:∀ (l:List (Int×Int)),l.length<=needN l
  |[]=>Nat.zero_le _
  |x::l=>by have:=needN_ge l;rw [needN_cons,List.length_cons];omega
theorem all_drop {α:Type}{p:α->Bool}{l:List α}(h:l.all p=true){i:Nat}(hi:i<l.length):p l[i]=true:=List.all_eq_true.1 h _ (List.getElem_mem hi)
theorem all_take {α:Type}{p:α->Bool}{l:List α}{i:Nat}(hi:i<l.length)(h:(l.take i).all p=true)(hp:p l[i]=true):(l.take (i+1)).all p=true:=by
  rw [List.take_succ_eq_append_getElem hi,List.all_append,h];simp [hp]
theorem all_not {α:Type}{p:α->Bool}{l:List α}{i:Nat}(hi:i<l.length)(hp:p l[i]=false):l.all p=false:=by
  rw [List.all_eq_false];exact ⟨_,List.getElem_mem hi,by rw [hp];decide⟩
attribute [local irreducible] crk crL crc Sl pt ro Dev imgS recS
theorem Zh9 {p r:Prop}(k:r)(h:Kq r->p:=by intro k;refine ql_v rfl (o_fieldAddr (o:=0) underlying258 rfl rfl sz44 rfl) ?_;refine ql_v rfl (o_load p44 rfl haqz rfl) ?_;exact k.o):p:=h ⟨k⟩
theorem Zfw {p r:Prop}(k:r)(h:Kq r->p:=by intro k;refine Zej ?_;refine tv (o_extract rfl rfl) ?_;exact k.o):p:=h ⟨k⟩
theorem Zew {p r:Prop}(k:r)(h:Kq r->p:=by intro k;refine Ze ?_;refine Zs ?_;exact k.o):p:=h ⟨k⟩
theorem Zfq {p r:Prop}(k:r)(h:Kq r->p:=by intro k;refine tm 6 rfl kqz rfl (o_fieldAddr (o:=1) underlying365 rfl rfl sz3 rfl) ?_;refine tm 7 rfl kqz rfl (by first|exact o_load p3 rfl hsqz rfl|exact o_loadC p3 rfl (by assumption)) ?_;exact k.o):p:=h ⟨k⟩
theorem Zgh {p r:Prop}(k:r)(h:Kq r->p:=by intro k;refine tm 12 rfl kqz rfl (o_assign wqz) ?_;refine tm 13 rfl kqz rfl (o_assign wqz) ?_;exact k.o):p:=h ⟨k⟩
theorem Zg7 {p r:Prop}(k:r)(h:Kq r->p:=by intro k;refine ⟨by repeat (first|with_reducible exact dr_refl|apply dr_keep|apply dr_drop), ?_⟩;refine tm 12 rfl kqz rfl (o_assign wqz) ?_;exact k.o):p:=h ⟨k⟩
theorem Write_c {A R:SP}{C:SP->SP}{d:Nat}{s:DevS}(hc:Ct A (Dev d s) R C:=by exact cbqz){bl at_ sz:Nat}(hl:Has R bl (cl (lcs11 d at_ sz) 258):=by exact hbqz)(hlw:LogW (s.ls.length*64) at_ sz:=by assumption){a:Option Addr}{c m:Nat}{xs:List (Int×Int)}(hr:Rs R a (xcl xs):=by exact rbqz)(hm:xs.length=m:=by first|assumption|rfl)(hX:∀x∈xs,XW x:=by assumption)(hml:m<=17592186044416:=by omega)(hroom:Room (sz+1) s:=by assumption):
    Fn Tryz.prog 210 #[pz bl,.slice a m c] A (λ r B=>∃e s2,writeS at_ sz xs s=(e,s2)/\ r= .int .i64 e/\ B=C (Dev d s2)):=by
  refine fn_enterW func210 rfl ntmps210 (by simp) ?_;refine tc_have (λ _ _ h=>ct_wf2 hc h) λ hw=> ?_
  have htop:=hw.top;have hpos:=hw.pos;obtain ⟨rfl,hC⟩:=hc;have hAC:∀g w,sat g w (R*Dev d s)->sat g w (C (Dev d s)):=λ g w h=>by rw [hC];exact h
  have hlw9:=hlw;obtain ⟨w1,w2,w3,w4,w5⟩:=hlw9;refine Zcb ?_;refine tl_c rfl (o_call bd245 rfl (ready11_c (s:=s) (hl:=hl))) ?_;refine Zhc ?_;refine tc_cond rfl (sbq ?_) (λ h=> ?_)
  . intro h;refine Zg4 ?_;have ho:=stE_off h;exact ⟨.int .i64 (stE s),C (Dev d s),res1 rfl rfl,λ _ _ h=>by rw [hC];exact (Dr.sat (A':=R*Dev d s) drqz) _ _ h,stE s,s,by unfold writeS stE;rw [if_pos ho,if_pos ho],rfl,rfl⟩
  have ho:s.off=false:=stE_on (by simpa using h);have hw2:=word_in (p:=at_) ho oqz oqz;obtain ⟨v,hv⟩:∃v,(wordP (at_:Nat) s).1=v:=⟨_,rfl⟩;have hvl:v<18446744073709551616:=(by rw [←hv,hw2];exact nm8_lt λ x hx=>img_lt x (List.mem_of_mem_drop hx));refine Zdm ?_;refine tc_seq ?_;refine tc_regq mo kqz ?_;refine Zbs ?_;refine Zh9 ?_;refine Zbs ?_;refine Zdp ?_;refine ql_c rfl (λ w=>exec_call bd246 rfl) (Word_c (s:=s) (p:=(at_:Nat))) ?_;refine ql_v rfl (o_move wqz) ?_;refine ql_v rfl (o_extract rfl rfl) ?_;refine ql_env (d:=36) (v:= .int .u64 (v:Nat)) (by show Value.int .u64 ((wordP (at_:Nat) s).1:Nat)=_;rw [hv]) ?_;refine ql_v rfl (o_extract rfl rfl) ?_;refine ql_env (d:=37) (v:= .int .i64 0) (by show Value.int .i64 (wordP (at_:Nat) s).2=_;rw [hw2]) ?_;refine ql_v rfl (o_assign wqz) ?_;refine Ze0 ?_;refine Zb ?_;refine Zdv ?_;refine tl_bool (d:=40) rfl dbq (sbq ?_);intro h;refine tlm ?_;refine tv (o_nei rfl rfl) ?_;refine tv (o_pick_f rfl wqz) ?_;refine nq ?_;refine tc_cond rfl (λ h=> ?_) (λ h=> ?_)
  . have hv0:v≠0:=(by first|(have h9:=of_decide_eq_true h;omega)|(simp at h;omega));refine Zdy ?_;exact ⟨.int .i64 (3),C (Dev d s),res1 rfl rfl,λ _ _ h=>by rw [hC];exact (Dr.sat (A':=R*Dev d s) drqz) _ _ h,3,s,by unfold writeS;rw [if_neg (by rw [ho];decide),if_pos (by rw [hv];exact hv0)],rfl,rfl⟩
  have hv0:¬v≠0:=(by first|(have h9:=of_decide_eq_false h;omega)|(simp at h;omega));refine Ze ?_;refine Zcb ?_;refine tv (o_len underlying301 rfl) ?_;refine Zb6 ?_;refine tc_pre (A':=R*Dev d s*Sl 1 (.slice none 0 0) 0 (ints (lensX (xs.take 0)))) (λ _ _ h=>sl_nil h) ?_;refine tc_loop (λ kk ρ BB=>∃ (i:Nat) (a8:Option Addr) (c8:Nat),(i<=m)/\ ((xs.take i).all (mayX (s.ls.length*64) at_ sz)=true)/\ (i<=c8)/\ kk=m-i/\ ρ 8= .slice a8 i c8/\ ρ 46=(vn i)/\ ρ 0=(pz bl)/\ ρ 1= .slice a m c/\ ρ 44= .slice a m c/\ ρ 45=(vn m)/\ Dr BB (R*Dev d s*Sl 1 (.slice a8 i c8) i (ints (lensX (xs.take i))))) (m:=m-(0)) ?_ ?_
  . exact ⟨0,none,0,by omega,rfl,by omega,rfl,rfl,rfl,rfl,rfl,rfl,rfl,drqz⟩
  intro k ρ B hI;obtain ⟨i,a8,c8,hp0,hp1,hp2,hkk1,hE8,hE46,hE0,hE1,hE44,hE45,hBA⟩:=hI;refine tc_pre hBA.sat ?_;clear hBA;refine te 8 hE8 ?_;refine te 46 hE46 ?_;refine te 0 hE0 ?_;refine te 1 hE1 ?_;refine te 44 hE44 ?_;refine te 45 hE45 ?_;refine Zb9 ?_;refine tc_cond rfl (λ h=> ?_) (λ h=> ?_)
  . have hi:i<xs.length:=(by first|omega|(simp at h;omega));obtain ⟨x,hx1⟩:∃x,xs[i]=x:=⟨_,rfl⟩;have hxw:XW x:=hX x (hx1▸List.getElem_mem hi);refine Zdt ?_;refine tv (o_ixP (a:=a) underlying301 sz365 rfl rfl oqz (nn_rs sq4z (λ _=>by rw [xcl_len];omega))) ?_;refine tv (o_ldPN (a:=a) (xs:=xcl xs) (vs:=xcs x) a365 sz365 rfl sq4z (by rw [xcl_at oqz,hx1]) rfl (by decide)) ?_;refine tl_x rfl (o_alloc z365 rfl) ?_;rintro _ _ ⟨b10,rfl,rfl⟩;refine tl_u rfl (o_stUN (l':=xcs x) rfl upqz sz365 rfl rfl rfl (by show 2<=2;decide) rfl) ?_;refine nq ?_;refine Zm ?_;refine tv (o_loadN (vs:=xcs x) a365 sz365 rfl hsqz (by show 2<=2;decide) rfl) ?_;refine tl_c rfl (o_call bd267 rfl (may11_c (s:=s) (x:=x) (hl:=has_left (has_left (has_left hl))))) ?_;refine Zb1 ?_;refine nq ?_;refine tc_cond rfl (λ h=> ?_) (λ h=> ?_)
    . have hmy:mayX (s.ls.length*64) at_ sz x=false:=(by simpa using h);refine Zcd ?_;refine q_then_r (q_block_r (q_then_r (q_then_r (q_block_r (q_then_r ?_)))));exact ⟨.int .i64 (6),C (Dev d s),res1 rfl rfl,λ _ _ h=>by rw [hC];exact (Dr.sat (A':=R*Dev d s) drqz) _ _ h,6,s,by unfold writeS;rw [if_neg (by rw [ho];decide),if_neg (by rw [hv];exact hv0),if_pos (all_not hi (by rw [hx1];exact hmy))],rfl,rfl⟩
    have hmy:mayX (s.ls.length*64) at_ sz x=true:=(by simpa using h);refine Ze ?_;refine Zbr ?_;refine Zbu ?_;refine tl_x rfl (o_buildSlice1 underlying34 sz3 z3 wqz rfl) ?_;rintro _ _ ⟨b57,rfl,rfl⟩;refine tl_x rfl (o_apB underlying34 underlying34 sz3 by3 z3 rfl (by decide) (by decide) rfl rfl rfl ctqz rfl (by first|exact bys_all _|exact ints_all _|exact wds_all _|exact bos_all _|rfl) sq2z (by first|exact bys_sn _ _|exact ints_sn _ _|exact wds_sn _ _|exact bos_sn _ _|exact (bys_append _ _).symm|rfl)) ?_;rintro _ _ ⟨a58,c58,rfl,hc58,rfl⟩;refine Zeo ?_;exact ⟨_,by omega,i+1,_,_,by omega,all_take hi hp1 (by rw [hx1];exact hmy),hc58,rfl,rfl,rfl,rfl,rfl,rfl,rfl,by rw [lensX_succ hi,hx1];repeat (first|with_reducible exact dr_refl|apply dr_keep|apply dr_drop)⟩
  obtain rfl:i=m:=by first|omega|(simp at h;omega)
  have htk:xs.take i=xs:=List.take_of_length_le oqz;rw [htk] at hp1
  refine tc_pre (A':=R*Dev d s*Sl 1 (.slice a8 i c8) i (ints (lensX xs))) (λ _ _ h=>by rw [htk] at h;exact h) ?_;obtain ⟨nd,en,hnd⟩:∃nd en,needS (lensX xs)=(nd,en):=⟨_,_,rfl⟩;have hxl:∀x∈lensX xs,-9223372036854775808<=x/\ x<=9223372036854775807:=λ x hx=>by obtain ⟨y,hy,rfl⟩:=List.mem_map.1 hx;exact (hX y hy).l
  have hx1:∀x∈xs,1<=x.2:=λ x hx=>by obtain ⟨p,n,rfl,_,hn,_⟩:=may_nat (List.all_eq_true.1 hp1 x hx);show (1:Int)<=(n:Int);omega
  have hnd2:en=0->nd=(needN xs:Nat):=λ h9=>by have:=needF_ok hx1 hnd h9;omega
  refine Zcs ?_;refine tl_c rfl (o_call bd268 rfl (Need_c (xs:=lensX xs) (hr:=rs_sl) (hm:=(lensX_len xs).trans hm) (hx:=hxl))) ?_;refine Zfw ?_;refine tl_env (d:=63) (v:= .int .i64 nd) (by show Value.int .i64 (needS (lensX xs)).1=_;rw [hnd]) ?_;refine tv (o_extract rfl rfl) ?_;refine tl_env (d:=64) (v:= .int .i64 en) (by show Value.int .i64 (needS (lensX xs)).2=_;rw [hnd]) ?_;refine tla ?_;refine Zfc ?_;refine tc_cut (λ ρ BB=>∃ (bb:Bool),(bb=decide (en≠0∨((sz-64:Nat):Int)<nd))/\ ρ 75= .bool bb/\ ρ 0=(pz bl)/\ ρ 1= .slice a i c/\ ρ 11= .int .i64 nd/\ Dr BB (R*Dev d s)) ?_ ?_
  . skip
    refine Zbr ?_;refine Zdv ?_;refine tl_bool (d:=67) rfl (λ h=> ?_) (λ h=> ?_)
    . have g67:(en≠0):=(by first|exact of_decide_eq_true h|(have h2:=h;simp at h2;omega)|simpa using h);refine Zbj ?_;refine Zc5 ?_;refine Zbb ?_;exact ⟨_,by first|exact (decide_eq_true oqz).symm|exact (decide_eq_false oqz).symm|(rw [decide_eq_decide];omega),rfl,rfl,rfl,rfl,drqz⟩
    have g67:¬(en≠0):=(by first|exact of_decide_eq_false h|(have h2:=h;simp at h2;omega)|simpa using h);refine Zt ?_;refine tv (o_nilCheck rfl) ?_;refine tv (o_fieldAddr (o:=2) underlying258 rfl rfl sz3 rfl) ?_;refine tv (o_load p3 rfl haqz rfl) ?_;refine tv (o_subI rfl rfl oqz) ?_;refine tl_env (d:=73) (v:=(vn (sz-64))) (by show Value.int .i64 ((sz:Int)-64)=_;congr 1;omega) ?_;refine Zf3 ?_;exact ⟨_,by first|exact (decide_eq_true oqz).symm|exact (decide_eq_false oqz).symm|(rw [decide_eq_decide];omega),rfl,rfl,rfl,rfl,drqz⟩
  intro ρ B hI;obtain ⟨bb,hbb0,hE75,hE0,hE1,hE11,hBA⟩:=hI;refine q_then_n ?_;refine tc_pre hBA.sat ?_;clear hBA;refine te 75 hE75 ?_;refine te 0 hE0 ?_;refine te 1 hE1 ?_;refine te 11 hE11 ?_;refine tc_cond rfl (λ h=> ?_) (λ h=> ?_)
  . have hful:=of_decide_eq_true (show decide (en≠0∨((sz-64:Nat):Int)<nd)=true by rw [←hbb0];exact h);refine Zdy ?_;exact ⟨.int .i64 (111),C (Dev d s),res1 rfl rfl,λ _ _ h=>by rw [hC];exact (Dr.sat (A':=R*Dev d s) drqz) _ _ h,111,s,by unfold writeS;rw [if_neg (by rw [ho];decide),if_neg (by rw [hv];exact hv0),if_neg (by rw [hp1];decide),hnd,if_pos hful],rfl,rfl⟩
  have hful:=of_decide_eq_false (show decide (en≠0∨((sz-64:Nat):Int)<nd)=false by rw [←hbb0];exact h);obtain rfl:en=0:=by omega
  obtain rfl:=hnd2 rfl;have hN:needN xs<=sz-64:=(by omega);refine Zcr ?_;refine Zdd ?_;refine tc_cond rfl (λ h=> ?_) (λ h=> ?_)
  . have hx0:xs=[]:=(by have h9:=needN_ge xs;have h8:needN xs=0:=(by first|(have:=of_decide_eq_true h;omega)|(simp at h;omega));exact List.eq_nil_of_length_eq_zero oqz);refine Zdy ?_;exact ⟨.int .i64 (0),C (Dev d s),res1 rfl rfl,λ _ _ h=>by rw [hC];exact (Dr.sat (A':=R*Dev d s) drqz) _ _ h,0,s,by unfold writeS;rw [if_neg (by rw [ho];decide),if_neg (by rw [hv];exact hv0),if_neg (by rw [hp1];decide),hnd,if_neg hful,if_pos hx0],rfl,rfl⟩
  have hx0:xs≠[]:=λ e=>by subst e;first|exact of_decide_eq_false h rfl|exact h rfl|(simp [needN] at h)
  have hxl0:0<xs.length:=List.length_pos_iff.2 hx0;have hN1:=needN_ge xs;refine Zew ?_;refine tv (o_fieldAddr (o:=1) underlying258 rfl rfl sz3 rfl) ?_;refine tv (o_load p3 rfl haqz rfl) ?_;refine tv adqz ?_;refine tl_env (d:=82) (v:=(vn (at_+64))) (by first|rfl|(show Value.int .i64 _=_;congr 1;omega)) ?_;refine Zy ?_;refine tv (o_len underlying301 rfl) ?_;refine Zb6 ?_;refine tc_loop (λ kk ρ BB=>∃ (j:Nat) (q:Nat) (s1:DevS),(j<=i)/\ (putF (at_+64) xs s=putF q (xs.drop j) s1)/\ (s1.off=false)/\ (s1.ls.length=s.ls.length)/\ (q+needN (xs.drop j)=at_+64+needN xs)/\ (Room (needN (xs.drop j)+1) s1)/\ kk=i-j/\ ρ 13=(vn q)/\ ρ 85=(vn j)/\ ρ 0=(pz bl)/\ ρ 1= .slice a i c/\ ρ 11= .int .i64 (needN xs:Nat)/\ ρ 83= .slice a i c/\ ρ 84=(vn i)/\ Dr BB (R*Dev d s1)) (m:=i-(0)) ?_ ?_
  . exact ⟨0,at_+64,s,by omega,rfl,ho,rfl,by rw [List.drop_zero],λ l hl=>by have:=hroom l hl;rw [List.drop_zero];omega,rfl,rfl,rfl,rfl,rfl,rfl,rfl,rfl,drqz⟩
  intro k ρ B hI;obtain ⟨j,q,s1,hq0,hq1,hq2,hq3,hq4,hq5,hkk2,hE13,hE85,hE0,hE1,hE11,hE83,hE84,hBA⟩:=hI;refine tc_pre hBA.sat ?_;clear hBA;refine te 13 hE13 ?_;refine te 85 hE85 ?_;refine te 0 hE0 ?_;refine te 1 hE1 ?_;refine te 11 hE11 ?_;refine te 83 hE83 ?_;refine te 84 hE84 ?_;refine Zb9 ?_;refine tc_cond rfl (λ h=> ?_) (λ h=> ?_)
  . have hj:j<xs.length:=(by first|omega|(simp at h;omega));obtain ⟨x,hx1⟩:∃x,xs[j]=x:=⟨_,rfl⟩;have hmx:=all_drop hp1 hj;have hdr:=List.drop_eq_getElem_cons hj;rw [hx1] at hmx hdr
    obtain ⟨p,n,rfl,y1,y2,y3,y4⟩:=may_nat hmx;rw [hdr,needN_cons] at hq4 hq5
    simp only [Int.toNat_natCast] at hq4 hq5
    refine tc_have (λ _ _ h=>ct_wf2 ctqz h) λ hw1=> ?_
    have hil:=imgS_len hw1;have hol:(((imgS s1).drop p).take n).length=n:=(by rw [List.length_take,List.length_drop,hil,hq3];omega);have hrl:(recS p (((imgS s1).drop p).take n)).length=24+up8 n:=(by rw [recS_len,hol]);have hrb:∀x∈recS p (((imgS s1).drop p).take n),x<256:=recS_b img_sub;have hu8:=up8_le n;refine Zdt ?_;refine tv (o_ixP (a:=a) underlying301 sz365 rfl rfl oqz (nn_rs sq4z (λ _=>by rw [xcl_len];omega))) ?_;refine tv (o_ldPN (a:=a) (xs:=xcl xs) (vs:=xcs ((p:Int),(n:Int))) a365 sz365 rfl sq4z (by rw [xcl_at oqz,hx1]) rfl (by decide)) ?_;refine tl_x rfl (o_alloc z365 rfl) ?_;rintro _ _ ⟨b15,rfl,rfl⟩;refine tl_u rfl (o_stUN (l':=xcs ((p:Int),(n:Int))) rfl upqz sz365 rfl rfl rfl (by show 2<=2;decide) rfl) ?_;refine Zf2 ?_;refine tc_regh (S:=R*pt b15 (cl (xcs ((p:Int),(n:Int))) 365)) mo drqz ?_
    show TH _ _ _ _ _ 14 (Array.replicate 14 false) _ _
    refine Zb4 ?_;refine Zcj ?_;refine tm 4 rfl kqz rfl (o_fieldAddr (o:=0) underlying365 rfl rfl sz3 rfl) ?_;refine tm 5 rfl kqz rfl (by first|exact o_load p3 rfl hsqz rfl|exact o_loadC p3 rfl (by assumption)) ?_;refine Zfq ?_;refine th_one (i:=8) kqz ?_;refine oh_c rfl rfl rfl (o_call bd247 rfl (Load_c (s:=s1) (p:=p) (m:=n))) ?_;rintro _ _ ⟨a98,c98,rfl,hc98,rfl⟩;refine ⟨by repeat (first|with_reducible exact dr_refl|apply dr_keep|apply dr_drop), ?_⟩;refine Zg9 ?_;refine Zgh ?_;refine Zbv ?_;refine Zm ?_;refine Zbd ?_;intro h;refine Ze ?_;refine sr ?_;refine Zbk ?_;refine tlm ?_;refine tl_c rfl (o_call bd269 rfl (record_c (p:=p) (xs:=((imgS s1).drop p).take n) (hr:=rs_sl) (hm:=hol) (hb:=img_sub))) ?_;rintro _ _ ⟨a107,c107,rfl,hc107,rfl⟩;refine Zy ?_;refine tv (o_nilCheck rfl) ?_;refine Zd1 ?_;refine Zt ?_;refine tl_c rfl (o_call bd263 rfl (Store_c (s:=s1) (p:=(q:Nat)) (xs:=recS p (((imgS s1).drop p).take n)) (hm:=hrl) (hb:=hrb) (hroom:=λ _ l hl=>by have:=hq5 l hl;omega))) ?_;rintro _ _ ⟨e114,s114,hs114,rfl,rfl⟩;refine Zg0 ?_;refine tc_cond rfl (λ h=> ?_) (λ h=> ?_)
    . have he0:e114≠0:=(by simpa using h);have hput:putF (at_+64) xs s=(e114,s114):=(by rw [hq1,hdr];exact putF_e hs114 he0);refine Zff ?_;refine q_then_r (q_block_r (q_then_r (q_then_r (q_block_r (q_then_r ?_)))));exact ⟨.int .i64 (e114),C (Dev d s114),res1 rfl rfl,λ _ _ h=>by rw [hC];exact (Dr.sat (A':=R*Dev d s114) drqz) _ _ h,e114,s114,by unfold writeS;rw [if_neg (by rw [ho];decide),if_neg (by rw [hv];exact hv0),if_neg (by rw [hp1];decide),hnd,if_neg hful,if_neg hx0,hput,if_pos he0],rfl,rfl⟩
    obtain rfl:e114=0:=by simpa using h
    refine Ze ?_;refine Zb0 ?_;refine tv (o_len underlying67 rfl) ?_;refine tv adqz ?_;refine tl_env (d:=121) (v:= .int .i64 ((q+(24+up8 n):Nat):Int)) (by first|rfl|(show Value.int .i64 _=_;congr 1;omega)) ?_;refine Zeo ?_;exact ⟨_,by omega,j+1,_,_,by omega,by rw [hq1,hdr];exact putF_o hs114,by rw [sto_on hs114];exact hq2,by have h9:=sto_len (q:Nat) (recS p (((imgS s1).drop p).take n)) s1;rw [hs114] at h9;exact h9.trans hq3,by omega,sto_room hs114 hw1 hrb (λ l hl=>by have:=hq5 l hl;rw [hrl];omega),rfl,rfl,rfl,rfl,rfl,rfl,rfl,rfl,drqz⟩
  obtain rfl:j=i:=by first|omega|(simp at h;omega)
  have hput:putF (at_+64) xs s=(0,s1):=(by rw [hq1,List.drop_eq_nil_of_le oqz];rfl);refine tc_have (λ _ _ h=>ct_wf2 ctqz h) λ hw1=> ?_
  have hr1:Room 1 s1:=λ l hl=>by have:=hq5 l hl;omega
  refine Zk ?_;refine Ze9 ?_;refine tc_regh (S:=R) mo drqz ?_
  show TH _ _ _ _ _ 12 (Array.replicate 12 false) _ _
  refine Zb4 ?_;refine Zcj ?_;refine Zd4 ?_;refine Zdb ?_;refine tm 8 rfl kqz rfl adqz ?_;refine th_env (d:=131) (v:=(vn (at_+64))) (by first|rfl|(show Value.int .i64 _=_;congr 1;omega)) ?_;refine tm 9 rfl kqz rfl (o_move wqz) ?_;refine th_one (i:=10) kqz ?_;refine oh_c rfl rfl rfl (o_call bd270 rfl (Range_c (s:=s1) (p:=((at_+64:Nat):Int)) (m:=(needN xs:Nat)))) ?_;rintro _ _ ⟨e133,s133,hs133,rfl,rfl⟩;refine ⟨by repeat (first|with_reducible exact dr_refl|apply dr_keep|apply dr_drop), ?_⟩;refine tm 11 rfl kqz rfl (o_assign wqz) ?_;refine Zbv ?_;refine Zb ?_;refine Z5 ?_;refine tc_cond rfl (λ h=> ?_) (λ h=> ?_)
  . have he1:e133≠0:=(by simpa using h);refine Zg4 ?_;exact ⟨.int .i64 (e133),C (Dev d s133),res1 rfl rfl,λ _ _ h=>by rw [hC];exact (Dr.sat (A':=R*Dev d s133) drqz) _ _ h,e133,s133,by unfold writeS;rw [if_neg (by rw [ho];decide),if_neg (by rw [hv];exact hv0),if_neg (by rw [hp1];decide),hnd,if_neg hful,if_neg hx0,hput,if_neg (by simp)];simp only [];rw [hs133,if_pos he1],rfl,rfl⟩
  obtain rfl:e133=0:=by simpa using h
  have hr2:=rangeP_room hs133 hw1 hr1;refine Zdm ?_;refine tc_regh (S:=R) mo drqz ?_
  show TH _ _ _ _ _ 13 (Array.replicate 13 false) _ _
  refine Zb4 ?_;refine Zcj ?_;refine Zd4 ?_;refine Zdb ?_;refine tm 8 rfl kqz rfl (o_move wqz) ?_;refine tm 9 rfl kqz rfl (o_len underlying301 rfl) ?_;refine tm 10 rfl kqz rfl (by first|exact o_conv64 underlying3 underlying141 rfl|exact o_conv underlying3 underlying141 rfl) ?_;refine th_env (d:=147) (v:= .int .u64 ((xs.length:Nat):Int)) (by rw [hm];exact congrArg (λ z:Nat=>Value.int .u64 (z:Int)) (Nat.mod_eq_of_lt oqz)) ?_;refine th_one (i:=11) kqz ?_;refine oh_c rfl rfl rfl (o_call bd271 rfl (Publish_c (s:=s133) (p:=(at_:Nat)) (v:=xs.length))) ?_;rintro _ _ ⟨e148,s148,hs148,rfl,rfl⟩;refine Zg7 ?_;refine Zbv ?_;refine tc_ret ?_;exact ⟨.int .i64 (e148),C (Dev d s148),res1 rfl rfl,λ _ _ h=>by rw [hC];exact (Dr.sat (A':=R*Dev d s148) drqz) _ _ h,e148,s148,by unfold writeS;rw [if_neg (by rw [ho];decide),if_neg (by rw [hv];exact hv0),if_neg (by rw [hp1];decide),hnd,if_neg hful,if_neg hx0,hput,if_neg (by simp)];simp only [];rw [hs133,if_neg (by simp)];exact hs148,rfl,rfl⟩
end Go.Vl

namespace Go.Vl
open Go Go.Proofs Go.Proofs.Tryz
def phi (s:DevS):Nat:=s.arms.length+(if s.off=true then 1 else 0)
theorem done_phi (s:DevS):phi (doneS s)<=phi s:=by
  unfold phi doneS
  cases e:s.arms with
  |nil=>simp [e]
  |cons a ar=>
    simp only
    split
    . simp [e]
    simp only [goesS,if_true,List.length_cons];omega
theorem phi_of {s s':DevS}(h1:s'.arms=s.arms)(h2:s'.off=s.off):phi s'=phi s:=by unfold phi;rw [h1,h2]
theorem phi_onLine (f:LineS->LineS)(i:Nat)(s:DevS):phi (onLine f i s)=phi s:=phi_of (onLine_fields f i s).2.1 (onLine_fields f i s).2.2.2.1
theorem lay_phi (q v:Nat)(s:DevS):phi (layS q v s)=phi s:=by unfold layS;exact phi_onLine _ _ _
theorem storeF_phi:∀ (m:Nat) {p:Nat} {b:List Nat} {s:DevS},b.length=m->phi (storeF b.length p b s).2<=phi s:=by
  intro m
  induction m using Nat.strongRecOn with
  |_ m ih=>
    intro p b s hm
    by_cases h0:b=[]
    . subst h0;rw [storeF_nil];exact Nat.le_refl _
    have hpos:0<b.length:=List.length_pos_iff.2 h0;rw [storeF_step h0]
    have h1:=done_phi (layS (p-p%8) (nm (stW p b s)) s);rw [lay_phi] at h1
    split
    . exact h1
    exact Nat.le_trans (ih (b.drop (8-p%8)).length (by rw [List.length_drop];omega) rfl) h1
theorem sto_phi (p:Int)(b:List Nat)(s:DevS):phi (sto p b s).2<=phi s:=by
  unfold sto;split
  . exact Nat.le_refl _
  exact storeF_phi _ rfl
theorem fl1_phi (p:Int)(s:DevS):phi (fl1 p s).2<=phi s:=by
  unfold fl1;split
  . exact Nat.le_refl _
  have h1:=done_phi (flushS p.toNat s);have:phi (flushS p.toNat s)=phi s:=(by unfold flushS;exact phi_onLine _ _ _)
  show phi (doneS (flushS p.toNat s))<=phi s
  omega
theorem fe_phi (s:DevS):phi (fe s).2<=phi s:=by
  unfold fe;split
  . exact Nat.le_refl _
  have h1:=done_phi (fenceS s);have:phi (fenceS s)=phi s:=phi_of rfl rfl
  simp only;omega
theorem flF_phi:∀ (k q:Nat) (s:DevS),phi (flF k q s).2<=phi s
  |0,_,s=>fe_phi s
  |k+1,q,s=>by
    show phi (if (fl1 ((q*64:Nat):Int) s).1≠0 then fl1 ((q*64:Nat):Int) s else flF k (q+1) (fl1 ((q*64:Nat):Int) s).2).2<=_
    have h1:=fl1_phi ((q*64:Nat):Int) s
    split
    . exact h1
    exact Nat.le_trans (flF_phi k _ _) h1
theorem lastS_phi (p m:Nat)(s:DevS):phi (lastS p m s).2<=phi s:=flF_phi _ _ _
theorem st8_phi (p:Int)(v:Nat)(s:DevS):phi (st8 p v s).2<=phi s:=by
  unfold st8;split
  . exact Nat.le_refl _
  split
  . exact Nat.le_refl _
  have h1:=done_phi (layS p.toNat v s);rw [lay_phi] at h1;exact h1
theorem pubP_phi (p:Int)(v:Nat)(s:DevS):phi (pubP p v s).2<=phi s:=by
  unfold pubP
  have h1:=st8_phi p v s
  split
  . exact h1
  exact Nat.le_trans (lastS_phi _ _ _) h1
theorem rangeP_phi (p m:Int)(s:DevS):phi (rangeP p m s).2<=phi s:=by
  unfold rangeP
  split;exact Nat.le_refl _
  split;exact Nat.le_refl _
  split;exact Nat.le_refl _
  exact lastS_phi _ _ _
theorem putF_phi:∀ (l:List (Int×Int)) (q:Nat) (s:DevS),phi (putF q l s).2<=phi s
  |[],_,_=>Nat.le_refl _
  |x::l,q,s=>by
    show phi (if (sto (q:Nat) (recS x.1.toNat (((imgS s).drop x.1.toNat).take x.2.toNat)) s).1≠0 then sto (q:Nat) (recS x.1.toNat (((imgS s).drop x.1.toNat).take x.2.toNat)) s
      else putF (q+(24+up8 x.2.toNat)) l (sto (q:Nat) (recS x.1.toNat (((imgS s).drop x.1.toNat).take x.2.toNat)) s).2).2<=_
    have h1:=sto_phi (q:Nat) (recS x.1.toNat (((imgS s).drop x.1.toNat).take x.2.toNat)) s
    split
    . exact h1
    exact Nat.le_trans (putF_phi l _ _) h1
theorem writeS_phi (at_ sz:Nat)(l:List (Int×Int))(s:DevS):phi (writeS at_ sz l s).2<=phi s:=by
  unfold writeS
  have h1:=putF_phi l (at_+64) s;have h2:=rangeP_phi ((at_+64:Nat):Int) (needS (lensX l)).1 (putF (at_+64) l s).2
  repeat' (split;· first|exact Nat.le_refl _|exact h1|exact Nat.le_trans h2 h1)
  exact Nat.le_trans (pubP_phi _ _ _) (Nat.le_trans h2 h1)
theorem chunk_at {q j:Nat}{I:List Nat}(h:j<64):(chunk q I)[j]? =I[q*64+j]? :=by
  unfold chunk;rw [List.getElem?_take,if_pos h,List.getElem?_drop]
theorem img_ext {n:Nat}{I J:List Nat}(hI:I.length=n*64)(hJ:J.length=n*64)(h:∀q,q<n->chunk q I=chunk q J):I=J:=by
  apply List.ext_getElem?
  intro i
  rcases Nat.lt_or_ge i (n*64) with hi|hi
  . have:=h (i/64) oqz;have h2:=congrArg (λ l=>l[i%64]?) this
    simp only [chunk_at (show i%64<64 by omega),show i/64*64+i%64=i by omega] at h2
    exact h2
  rw [List.getElem?_eq_none oqz,List.getElem?_eq_none oqz]
def Same (I:List Nat)(s:DevS):Prop:=Poss (λ q c=>c=chunk q I) s
theorem pub_loss {X:Nat->List Nat->Prop}{p v:Nat}{s:DevS}(hw:WfD s)(hO:s.off=false)(hc:Poss X s)(hcl:∀ (q:Nat) (l:LineS),q≠p/64->s.ls[q]? =some l->l.st.length=1)(hp8:p%8=0)(hp:p+8<=s.ls.length*64)(hv:v<18446744073709551616)(hroom:Room 1 s)
    (hX1:X (p/64) (chunk (p/64) (spl (imgS s) p (le 8 v)))):
    ∃e s2,pubP (p:Nat) v s=(e,s2)/\ ((e=0/\ s2.off=false/\ WfD s2/\ Cln s2/\ s2.ls.length=s.ls.length/\ imgS s2=spl (imgS s) p (le 8 v))∨(e=5/\ Lost X s.ls.length s2)):=by
  have hi:p/64<s.ls.length:=(by omega);have hwL:=layS_wf (at_:=p) hw hroom hv;have himg:=img_lay hw hp8 hi hv hroom;have hlen:(layS p v s).ls.length=s.ls.length:=layS_len _ _ _;have hP:=poss_lay hc hi hwL (by rw [himg];exact hX1)
  have hst:st8 (p:Nat) v s=(doneE (layS p v s),doneS (layS p v s)):=by
    unfold st8;rw [hO,rdy_ok oqz oqz oqz,if_neg (by decide),if_neg oqz,Int.toNat_natCast]
  unfold pubP
  rw [hst]
  rcases done_loss hwL hP with ⟨h1,h2,h3⟩|⟨h1,h2⟩
  . simp only []
    rw [h1,if_neg (by decide),Int.toNat_natCast]
    obtain ⟨e,s2,g1,g2⟩:=lastS_loss (X:=X) (p:=p) (m:=8) (s:=doneS (layS p v s)) (doneS_wf hwL) (by rw [h3,layS_off];exact hO) (λ q l hl σ hσ=>by rw [h2] at hl;exact hP q l hl σ hσ) (by decide) (by rw [h2,hlen];exact hp) (λ q l hq hl=>by
      rw [h2,layS_ls hi,List.getElem?_set_ne oqz] at hl
      exact hcl q l oqz hl)
    refine ⟨e,s2,g1, ?_⟩;rw [h2,hlen] at g2
    rcases g2 with ⟨a1,a2,a3,a4,a5,a6⟩|g2
    . exact .inl ⟨a1,a2,a3,a4,a5,by rw [a6];unfold imgS;rw [h2];exact himg⟩
    exact .inr g2
  simp only []
  rw [h1,if_pos (by decide)]
  exact ⟨5,_,rfl,.inr ⟨rfl,by rw [hlen] at h2;exact h2⟩⟩
def recsB (I:List Nat)(l:List (Int×Int)):List Nat:=l.flatMap λ x=>recS x.1.toNat ((I.drop x.1.toNat).take x.2.toNat)
theorem recsB_cons (I:List Nat)(x:Int×Int)(l:List (Int×Int)):recsB I (x::l)=recS x.1.toNat ((I.drop x.1.toNat).take x.2.toNat)++recsB I l:=rfl
def Out (a b:Nat)(I J:List Nat):Prop:=∀i,¬(a<=i/\ i<b)->I[i]? =J[i]?
theorem Out.refl (a b:Nat)(I:List Nat):Out a b I I:=λ _ _=>rfl
theorem Out.trans {a b:Nat}{I J K:List Nat}(h1:Out a b I J)(h2:Out a b J K):Out a b I K:=λ i hi=>(h1 i hi).trans (h2 i hi)
theorem out_spl {a b p:Nat}{I c:List Nat}(hp:p+c.length<=I.length)(h1:a<=p)(h2:p+c.length<=b):Out a b (spl I p c) I:=λ i hi=>by rw [spl_at hp,if_neg oqz]
theorem out_sub {a b p m:Nat}{I J:List Nat}(h:Out a b I J)(hd:p+m<=a∨b<=p):(I.drop p).take m=(J.drop p).take m:=by
  apply List.ext_getElem?
  intro i;rw [List.getElem?_take,List.getElem?_take]
  split
  . rw [List.getElem?_drop,List.getElem?_drop];exact h _ oqz
  rfl
theorem recsB_len {n at_ sz:Nat}{I:List Nat}(hI:I.length=n):∀{l:List (Int×Int)},l.all (mayX n at_ sz)=true->(recsB I l).length=needN l
  |[],_=>rfl
  |x::l,hl=>by
    rw [List.all_cons,Bool.and_eq_true] at hl
    obtain ⟨p,m,rfl,y1,y2,y3,y4⟩:=may_nat hl.1;rw [recsB_cons,List.length_append,recsB_len hI hl.2,needN_cons,recS_len]
    simp only [Int.toNat_natCast]
    rw [show ((I.drop p).take m).length=m by rw [List.length_take,List.length_drop];omega]
theorem put_loss {X:Nat->List Nat->Prop}{at_ sz:Nat}{I0:List Nat}:∀{l:List (Int×Int)} {q r:Nat} {s:DevS},WfD s->s.off=false->Poss X s->LogW (s.ls.length*64) at_ sz->l.all (mayX (s.ls.length*64) at_ sz)=true->at_+64<=q->q+needN l<=at_+sz->Room (r+needN l) s->Out (at_+64) (at_+sz) (imgS s) I0->I0.length=s.ls.length*64→
    (∀I:List Nat,I.length=s.ls.length*64->Out (at_+64) (at_+sz) I I0->∀j,j<s.ls.length->X j (chunk j I))→
    ∃e s2,putF q l s=(e,s2)/\ ((e=0/\ s2.off=false/\ WfD s2/\ Poss X s2/\ s2.ls.length=s.ls.length/\ (∀j:Nat,(j+1)*64<=q∨q+needN l<=j*64->s2.ls[j]? =s.ls[j]?)/\ Room r s2/\ imgS s2=spl (imgS s) q (recsB I0 l))∨(e=5/\ Lost X s.ls.length s2))
  |[],q,r,s,hw,hO,hP,_,_,_,_,hr,_,_,_=>⟨0,s,rfl,.inl ⟨rfl,hO,hw,hP,rfl,λ _ _=>rfl,λ l hl=>by have:=hr l hl;omega,(spl_nil _ _).symm⟩⟩
  |x::l,q,r,s,hw,hO,hP,hlw,hl,hq1,hq2,hr,hout,hI0,hX=>by
    rw [List.all_cons,Bool.and_eq_true] at hl
    obtain ⟨p,m,rfl,y1,y2,y3,y4⟩:=may_nat hl.1;rw [needN_cons] at hq2 hr
    simp only [Int.toNat_natCast] at hq2 hr
    have htop:=hlw.top;have hil:=imgS_len hw;have hol:(((imgS s).drop p).take m).length=m:=(by rw [List.length_take,List.length_drop,hil];omega);have hrl:(recS p (((imgS s).drop p).take m)).length=24+up8 m:=(by rw [recS_len,hol]);have hrb:∀b∈recS p (((imgS s).drop p).take m),b<256:=recS_b img_sub;obtain ⟨b,hb⟩:∃b,recS p (((imgS s).drop p).take m)=b:=⟨_,rfl⟩;rw [hb] at hrl hrb
    have hbo:recS p ((I0.drop p).take m)=b:=(by rw [←hb,out_sub hout oqz])
    have hXs:∀k j,0<k->k<=b.length->((q+k)%8=0∨k=b.length)->j<s.ls.length->X j (chunk j (spl (imgS s) q (b.take k))):=λ k j k0 k1 _ hj=>by
      have hkl:(b.take k).length=k:=(by rw [List.length_take];omega);exact hX _ (by rw [spl_length oqz,hil]) ((out_spl oqz hq1 oqz).trans hout) j hj
    obtain ⟨e,s1,g1,g2⟩:=storeF_loss (X:=X) b.length (p:=q) (r:=r+needN l) (s:=s) rfl hw hO hrb (λ l hl=>by have:=hr l hl;omega) oqz hP hXs
    have hst:sto (q:Nat) (recS p (((imgS s).drop p).take m)) s=(e,s1):=by
      rw [hb];unfold sto;rw [hO,rdy_ok oqz oqz oqz,if_neg (by decide),Int.toNat_natCast];exact g1
    rcases g2 with ⟨a1,⟨a2,a3,a4,a5,a6⟩,a7,a8⟩|⟨a1,a2⟩
    . subst a1;rw [putF_o hst]
      have hout1:Out (at_+64) (at_+sz) (imgS s1) I0:=(by rw [a8];exact (out_spl oqz hq1 oqz).trans hout);obtain ⟨e,s2,k1,k2⟩:=put_loss (X:=X) (I0:=I0) (l:=l) (q:=q+(24+up8 m)) (r:=r) (s:=s1) a3 a2 a4 (by rw [a5];exact hlw) (by rw [a5];exact hl.2) oqz oqz a7 hout1 (by rw [a5];exact hI0) (by rw [a5];exact hX);refine ⟨e,s2,k1, ?_⟩;rw [a5] at k2
      rcases k2 with ⟨b1,b2,b3,b4,b5,b6,b7,b8⟩|k2
      . refine .inl ⟨b1,b2,b3,b4,b5,λ j hj=> ?_,b7, ?_⟩
        . rw [needN_cons] at hj
          simp only [Int.toNat_natCast] at hj
          rw [b6 j oqz,a6 j oqz]
        have hrn:=recsB_len (I:=I0) (n:=s.ls.length*64) (at_:=at_) (sz:=sz) (l:=l) hI0 hl.2;rw [b8,a8,recsB_cons]
        simp only [Int.toNat_natCast]
        rw [hbo,show 24+up8 m=b.length from hrl.symm,spl_spl oqz]
      exact .inr k2
    subst a1;exact ⟨5,s1,putF_e hst (by decide),.inr ⟨rfl,a2⟩⟩
attribute [local irreducible] crk crL crc Sl pt ro Dev imgS recS
theorem Zip {p r:Prop}(k:r)(h:Kq r->p:=by intro k;refine Zcb ?_;refine tv (o_eqs underlying67 rfl rfl) ?_;exact k.o):p:=h ⟨k⟩
theorem CloneBN_f {A:SP}{n c:Nat}:
    Fn Tryz.prog 290 #[.slice none n c] A (λ r B=>r= .slice none 0 0/\ A=B):=by
  refine fn_enterW func290 rfl ntmps290 (by simp) ?_;refine Zip ?_;refine nq ?_;refine tc_cond rfl (sbq ?_) dbq;intro h;refine Zdy ?_;exact ⟨_,_,res1 rfl rfl,λ _ _ h=>h,rfl,rfl⟩
theorem CloneBS_f {A:SP}{n c:Nat}{p:Addr}{xs:List Value}(hr:Rs A (some p) xs)(hl:xs.length=n*1)(ho:xs.all oneC=true)(hs:n<=5864062014800):
    Fn Tryz.prog 290 #[.slice (some p) n c] A (λ r B=>∃a2 c2,r= .slice a2 n c2/\ n<=c2/\ B=A*Sl 1 (.slice a2 n c2) n xs):=by
  refine fn_enterW func290 rfl ntmps290 (by simp) ?_;refine Zip ?_;refine Zq ?_;intro h;refine Zdm ?_
  skip
  refine tc_reg ?_;refine tl_x rfl (o_buildSlice0 underlying67 sz5 rfl) ?_;rintro _ _ ⟨b5,rfl,rfl⟩;refine tl_pre (A':=A*Sl 1 (.slice (some ⟨b5,0,none⟩) 0 0) 0 []) (λ _ _ h=>sl_new h (Nat.le_refl _) (by simp) (by simp)) ?_;refine tlm ?_;refine tl_x rfl (o_apR underlying67 underlying67 sz5 by5 z5 rfl (by decide) (by decide) rfl rfl ctqz (hr.left) hl ho oqz (List.nil_append _)) ?_;rintro _ _ ⟨a7,c7,rfl,hc7,rfl⟩;refine Zl ?_;exact ⟨.slice a7 (0+n) c7,A*Sl 1 (.slice a7 (0+n) c7) (0+n) xs,res1 rfl rfl,λ _ _ h=>h,a7,c7,by rw [Nat.zero_add],by rw [Nat.zero_add] at hc7;exact hc7,by rw [Nat.zero_add]⟩
theorem CloneB_c {A:SP}{a:Option Addr}{n c:Nat}{l:List Nat}(hr:Rs A a (bys l):=by exact rbqz)(hm:l.length=n:=by first|assumption|rfl)(hs:n<=5864062014800:=by omega):
    Fn Tryz.prog 290 #[.slice a n c] A (λ r B=>∃a2 c2,r= .slice a2 n c2/\ n<=c2/\ B=A*Sl 1 (.slice a2 n c2) n (bys l)):=by
  have hl:(bys l).length=n*1:=(by rw [bys_length,hm,Nat.mul_one])
  cases a with
  |none=>
    intro g w hs2
    have hx:bys l=[]:=by
      rcases hr.rd hs2 with h|⟨b,o,e,_⟩
      . exact h
      cases e
    have hn:n=0:=(by rw [hx] at hl;simp at hl;omega);subst hn;rw [hx]
    refine (CloneBN_f (n:=0) (c:=c) g w hs2).mono ?_;rintro e w' ⟨v,B,rfl,⟨rfl,rfl⟩,hB⟩;exact ⟨_,_,rfl,⟨none,0,rfl,Nat.le_refl _,rfl⟩,sl_nil hB⟩
  |some p=>exact CloneBS_f hr hl (bys_all l) hs
theorem EqualB_c {A:SP}{a1 a2:Option Addr}{c1 c2 n m:Nat}{xs ys:List Nat}(h1:Rs A a1 (bys xs):=by exact rbqz)(h2:Rs A a2 (bys ys):=by exact rbqz)(hx:xs.length=n:=by first|assumption|rfl)(hy:ys.length=m:=by first|assumption|rfl)(hn:n<=4611686018427387904:=by omega):
    Fn Tryz.prog 291 #[.slice a1 n c1,.slice a2 m c2] A (λ r B=>r= .bool (decide (xs=ys))/\ A=B):=by
  refine fn_enterW func291 rfl ntmps291 (by simp) ?_;refine Zcb ?_;refine tv (o_len underlying67 rfl) ?_;refine Zde ?_;refine Z5 ?_;refine tc_cond rfl (sbq ?_) (λ h=> ?_)
  . intro h;refine Zdy ?_;have e:decide (xs=ys)=false:=decide_eq_false λ e=>by subst e;first|omega|(simp at h;omega)
    rw [e]
    exact ⟨.bool false,A,res1 rfl rfl,Dr.sat drqz,rfl,rfl⟩
  obtain rfl:n=m:=by first|omega|(simp at h;omega)
  refine Zcr ?_;refine Zes ?_;refine tc_loop (λ kk ρ BB=>∃ (i:Nat),(i<=n)/\ (xs.take i=ys.take i)/\ kk=n-i/\ ρ 13=(vn i)/\ ρ 0= .slice a1 n c1/\ ρ 1= .slice a2 n c2/\ ρ 12=(vn n)/\ BB=A) (m:=n-(0)) ?_ ?_
  . exact ⟨0,by omega,rfl,rfl,rfl,rfl,rfl,rfl,rfl⟩
  intro k ρ B hI;obtain ⟨i,hp0,hp1,hkk1,hE13,hE0,hE1,hE12,hBA⟩:=hI;obtain rfl:=hBA.symm;refine te 13 hE13 ?_;refine te 0 hE0 ?_;refine te 1 hE1 ?_;refine te 12 hE12 ?_;refine Zb9 ?_;refine tc_cond rfl (λ h=> ?_) (sbq ?_)
  . have hi:i<xs.length:=(by first|omega|(simp at h;omega));have hi2:i<ys.length:=(by omega);refine Zen ?_;refine Zci ?_;refine tc_regq mo kqz ?_;refine Zb5 ?_;refine ql_v rfl (o_ixP1 underlying67 sz5 rfl rfl oqz (nn_rs h1 (by rw [bys_length];omega))) ?_;refine ql_v rfl (o_ldP p5 rfl h1 (bys_at hi)) ?_;refine Zb5 ?_;refine ql_v rfl (o_ixP1 underlying67 sz5 rfl rfl oqz (nn_rs h2 (by rw [bys_length];omega))) ?_;refine ql_v rfl (o_ldP p5 rfl h2 (bys_at hi2)) ?_;refine ql_v rfl (o_nei rfl rfl) ?_;refine Zdq ?_;refine tc_cond rfl (λ h=> ?_) (λ h=> ?_)
    . have hne:xs[i]≠ys[i]:=λ e=>by rw [e] at h;simp at h
      refine Zgy ?_;have e:decide (xs=ys)=false:=decide_eq_false λ e=>by subst e;exact hne rfl
      rw [e]
      exact ⟨.bool false,A,res1 rfl rfl,Dr.sat drqz,rfl,rfl⟩
    have heq:((xs[i]:Nat):Int)=((ys[i]:Nat):Int):=(by first|omega|(simpa using h));refine Zem ?_;refine Zbz ?_;exact ⟨_,by omega,i+1,by omega,take_succ_eq hp1 oqz oqz oqz,rfl,rfl,rfl,rfl,rfl,rfl⟩
  intro h;refine Zk ?_;refine Zcd ?_;have e:decide (xs=ys)=true:=decide_eq_true (take_all hp1 oqz oqz);rw [e]
  exact ⟨.bool true,A,res1 rfl rfl,Dr.sat drqz,rfl,rfl⟩
theorem field_c {A:SP}{a:Option Addr}{c m p w:Nat}{xs:List Nat}(q:Nat)(hq:q=p+w*8:=by omega)(hr:Rs A a (bys xs):=by exact rbqz)(hm:xs.length=m:=by first|assumption|rfl)(hb:∀x∈xs,x<256:=by assumption)(h8:q+8<=m:=by omega)(hl:m<=1099511627776:=by omega):
    Fn Tryz.prog 289 #[.slice a m c,vn p,vn w] A (λ r B=>r= .int .u64 ((nm ((xs.drop q).take 8):Nat):Int)/\ A=B):=by
  refine fn_enterW func289 rfl ntmps289 (by simp) ?_;subst hq;refine Zdg ?_;refine Zt ?_;refine tv (by first|exact o_mulI rfl rfl oqz|exact o_mul rfl rfl) ?_;refine tl_env (d:=13) (v:=(vn (w*8))) (by first|rfl|(show Value.int .i64 (IntKind.i64.wrap ((w*8:Nat):Int))=_;rw [wr_i64 oqz])) ?_;refine tv adqz ?_;refine tl_env (d:=14) (v:=(vn (p+w*8))) (by first|rfl|(show Value.int .i64 _=_;congr 1;omega)) ?_;refine tl_c rfl (o_call bd67 rfl (Take64_c (p:=p+w*8) (xs:=xs))) ?_;rintro _ _ ⟨rfl,rfl⟩;refine Zey ?_;refine Zl ?_;exact ⟨_,A,res1 rfl rfl,Dr.sat drqz,rfl,rfl⟩
def rdW (o:Option ((Nat×List Nat)×Nat)):Nat:=match o with|none=>0|some x=>x.1.1
def rdO (o:Option ((Nat×List Nat)×Nat)):List Nat:=match o with|none=>[]|some x=>x.1.2
def rkT (o:Option ((Nat×List Nat)×Nat)):Nat:=match o with|none=>0|some x=>x.2
theorem read_short {n at_ sz p:Nat}{room:List Nat}(h:room.length<p+24):readS n at_ sz room p=none:=by unfold readS;rw [if_pos h]
theorem read_may {n at_ sz p:Nat}{room:List Nat}(h:mayX n at_ sz ((nm ((room.drop p).take 8):Nat),(nm ((room.drop (p+8)).take 8):Nat))=false):readS n at_ sz room p=none:=by
  unfold readS
  by_cases h0:room.length<p+24
  . rw [if_pos h0]
  rw [if_neg h0,if_pos h]
theorem read_need {n at_ sz p:Nat}{room:List Nat}(h:room.length<p+(24+up8 (nm ((room.drop (p+8)).take 8)))):readS n at_ sz room p=none:=by
  unfold readS
  by_cases h0:room.length<p+24
  . rw [if_pos h0]
  rw [if_neg h0]
  by_cases h1:mayX n at_ sz ((nm ((room.drop p).take 8):Nat),(nm ((room.drop (p+8)).take 8):Nat))=false
  . rw [if_pos h1]
  rw [if_neg h1,if_pos h]
theorem read_bad {n at_ sz p w m:Nat}{room:List Nat}(hw:nm ((room.drop p).take 8)=w)(hm:nm ((room.drop (p+8)).take 8)=m)(h:recS w ((room.drop (p+24)).take m)≠(room.drop p).take (24+up8 m)):readS n at_ sz room p=none:=by
  subst hw hm;unfold readS
  by_cases h0:room.length<p+24
  . rw [if_pos h0]
  rw [if_neg h0]
  by_cases h1:mayX n at_ sz ((nm ((room.drop p).take 8):Nat),(nm ((room.drop (p+8)).take 8):Nat))=false
  . rw [if_pos h1]
  rw [if_neg h1]
  by_cases h2:room.length<p+(24+up8 (nm ((room.drop (p+8)).take 8)))
  . rw [if_pos h2]
  rw [if_neg h2,if_pos h]
theorem read_good {n at_ sz p w m:Nat}{room:List Nat}(hw:nm ((room.drop p).take 8)=w)(hm:nm ((room.drop (p+8)).take 8)=m)(h1:¬room.length<p+24)(h2:mayX n at_ sz ((w:Int),(m:Int))=true)(h3:¬room.length<p+(24+up8 m))(h:recS w ((room.drop (p+24)).take m)=(room.drop p).take (24+up8 m)):readS n at_ sz room p=some ((w,(room.drop (p+24)).take m),24+up8 m):=by
  subst hw hm;unfold readS;rw [if_neg h1,if_neg (by rw [h2];decide),if_neg h3,if_neg (by rw [h];simp)]
theorem may_big {n at_ sz w m:Nat}(hn:n<=4194304)(h:4194304<w∨4194304<m):mayX n at_ sz ((w:Int),(m:Int))=false:=decide_eq_false (by show¬((1:Int)<=(m:Int)/\ (64:Int)<=(w:Int)/\ (w:Int)+(m:Int)<=(n:Int)/\ _);omega)
theorem may_zero1 {n at_ sz w m:Nat}(h:m<1):mayX n at_ sz ((w:Int),(m:Int))=false:=decide_eq_false (by show¬((1:Int)<=(m:Int)/\ (64:Int)<=(w:Int)/\ (w:Int)+(m:Int)<=(n:Int)/\ _);omega)
theorem need_one {m:Nat}(h:1<=m)(h2:m<=4194304):needS [(m:Int)]=(((24+up8 m:Nat):Int),0):=by
  have:=up8_le m
  unfold needS
  rw [needF_cons h]
  have e:rndS m=(((up8 m:Nat):Int),0):=(by unfold rndS;have:pad8 m<8:=(by unfold pad8;omega);rw [if_neg oqz]);rw [e,if_neg (by simp only [ne_eq,not_true,false_or];omega)]
  show ((0:Int)+24+((up8 m:Nat):Int),(0:Int))=_
  congr 1
theorem need_zero:needS [((0:Nat):Int)]=(0,2):=needF_bad (by decide)
theorem Zhk {p r:Prop}(k:r)(h:Kq r->p:=by intro k;refine sr ?_;refine tv (o_bS (l:=[_,_]) pv_nil underlying336 z336 (pl336 underlying336) rfl) ?_;refine tl_u rfl (o_stUN rfl upqz sz336 rfl rfl rfl (by first|decide|simp|omega) rfl) ?_;refine Zce ?_;exact k.o):p:=h ⟨k⟩
theorem Zg8 {p r:Prop}(k:r)(h:Kq r->p:=by intro k;refine tlm ?_;refine tv (o_conv underlying141 underlying3 rfl) ?_;exact k.o):p:=h ⟨k⟩
theorem Zge {p r:Prop}(k:r)(h:Kq r->p:=by intro k;refine tv (o_bS (l:=[_,_]) (pv_cons wqz (pv_cons wqz pv_nil)) underlying365 z365 (pl365 underlying365) rfl) ?_;refine tl_x rfl (o_alloc z365 rfl) ?_;exact k.o):p:=h ⟨k⟩
theorem Zeb {p r:Prop}(k:r)(h:Kq r->p:=by intro k;refine tm 4 rfl kqz rfl (o_move wqz) ?_;refine tm 5 rfl kqz rfl (o_move wqz) ?_;exact k.o):p:=h ⟨k⟩
theorem Zhn {p r:Prop}(k:r)(h:Kq r->p:=by intro k;refine tlm ?_;refine tv (o_bS (l:=[_,_]) (pv_cons wqz (pv_cons wqz pv_nil)) underlying336 z336 (pl336 underlying336) rfl) ?_;exact k.o):p:=h ⟨k⟩
theorem read_c {A R:SP}{C:SP->SP}{d:Nat}{s:DevS}(hc:Ct A (Dev d s) R C:=by exact cbqz){bl at_ sz:Nat}(hl:Has R bl (cl (lcs11 d at_ sz) 258):=by exact hbqz)(hlw:LogW (s.ls.length*64) at_ sz:=by assumption){a:Option Addr}{c rm p:Nat}{room:List Nat}(hr:Rs R a (bys room):=by exact rbqz)(hm:room.length=rm:=by first|assumption|rfl)(hmc:rm<=c:=by omega)(hb:∀x∈room,x<256:=by assumption)(hrm:rm<=4194304:=by omega)(hp:p<=rm:=by omega):
    Fn Tryz.prog 248 #[pz bl,.slice a rm c,vn p] A (λ r B=>∃a2 c2,r= .tuple #[.agg #[.int .i64 ((rdW (readS (s.ls.length*64) at_ sz room p):Nat):Int),.slice a2 (rdO (readS (s.ls.length*64) at_ sz room p)).length c2],.int .i64 ((rkT (readS (s.ls.length*64) at_ sz room p):Nat):Int),.bool (readS (s.ls.length*64) at_ sz room p).isSome]/\ (rdO (readS (s.ls.length*64) at_ sz room p)).length<=c2/\ B=C (Dev d s)*Sl 1 (.slice a2 (rdO (readS (s.ls.length*64) at_ sz room p)).length c2) (rdO (readS (s.ls.length*64) at_ sz room p)).length (bys (rdO (readS (s.ls.length*64) at_ sz room p)))):=by
  refine fn_enterW func248 rfl ntmps248 (by simp) ?_;refine tc_have (λ _ _ h=>ct_wf2 hc h) λ hw=> ?_
  have htop:=hw.top;have hpos:=hw.pos;obtain ⟨rfl,hC⟩:=hc;rw [hC]
  have hlw9:=hlw;obtain ⟨w1,w2,w3,w4,w5⟩:=hlw9;obtain ⟨w,hwq⟩:∃w,(nm ((room.drop p).take 8))=w:=⟨_,rfl⟩;obtain ⟨m,hmq⟩:∃m,(nm ((room.drop (p+8)).take 8))=m:=⟨_,rfl⟩;have hw8:w<18446744073709551616:=hwq▸nm8_lt λ x hx=>hb x (List.mem_of_mem_drop hx)
  have hm8:m<18446744073709551616:=hmq▸nm8_lt λ x hx=>hb x (List.mem_of_mem_drop hx)
  refine sr ?_;refine tl_x rfl (o_alloc z336 rfl) ?_;rintro _ _ ⟨b6,rfl,rfl⟩;refine tla ?_;refine Zy ?_;refine tv (o_len underlying67 rfl) ?_;refine Zc0 ?_;refine Zx ?_;refine tc_cond rfl (λ h=> ?_) (λ h=> ?_)
  . have hsh:room.length<p+24:=(by first|omega|(simp at h;omega));refine Zhk ?_;have e0:(readS (s.ls.length*64) at_ sz room p)=none:=(by exact read_short hsh);rw [e0]
    exact ⟨.tuple #[.agg #[.int .i64 0,.slice none 0 0],.int .i64 0,.bool false],R*Dev d s*Sl 1 (.slice none 0 0) 0 [],resA3 rfl (rv_cell a336 sz336 rfl hsqz (by show 2<=2;decide) rfl) (rv_tmp rfl) (rv_tmp rfl),λ _ _ h=>sl_nil (Dr.sat drqz _ _ h),none,0,rfl,Nat.le_refl _,rfl⟩
  have hsh:¬room.length<p+24:=(by first|omega|(simp at h;omega));refine Zfm ?_;refine tl_c rfl (o_call bd289 rfl (field_c (q:=p) (w:=0) (xs:=room))) ?_;rintro _ _ ⟨rfl,rfl⟩;refine tl_env (d:=23) (v:= .int .u64 (w:Nat)) (by show Value.int .u64 (((nm ((room.drop p).take 8)):Nat):Int)=_;rw [hwq]) ?_;refine Zt ?_;refine tl_c rfl (o_call bd289 rfl (field_c (q:=p+8) (w:=1) (xs:=room))) ?_;rintro _ _ ⟨rfl,rfl⟩;refine tl_env (d:=26) (v:= .int .u64 (m:Nat)) (by show Value.int .u64 (((nm ((room.drop (p+8)).take 8)):Nat):Int)=_;rw [hmq]) ?_;refine tla ?_;refine Zfc ?_;refine tc_cut (λ ρ BB=>∃ (bb:Bool),(bb=decide (4194304<w∨4194304<m))/\ ρ 32= .bool bb/\ ρ 0=(pz bl)/\ ρ 1= .slice a rm c/\ ρ 2=(vn p)/\ ρ 6=(pz b6)/\ ρ 9= .int .u64 (w:Nat)/\ ρ 10= .int .u64 (m:Nat)/\ BB=R*Dev d s*pt b6 (cl [.int .i64 0,.slice none 0 0] 336)) ?_ ?_
  . skip
    refine Zbr ?_;refine tv (o_gtr rfl rfl) ?_;refine tlm ?_;refine tl_bool (d:=29) rfl (λ h=> ?_) (λ h=> ?_)
    . have g29:(4194304<w):=(by first|exact of_decide_eq_true h|(have h2:=h;simp at h2;omega)|simpa using h);refine Zp ?_;refine Zbb ?_;exact ⟨_,by first|exact (decide_eq_true oqz).symm|exact (decide_eq_false oqz).symm|(rw [decide_eq_decide];omega),rfl,rfl,rfl,rfl,rfl,rfl,rfl,rfl⟩
    have g29:¬(4194304<w):=(by first|exact of_decide_eq_false h|(have h2:=h;simp at h2;omega)|simpa using h);refine tlm ?_;refine Zf3 ?_;exact ⟨_,by first|exact (decide_eq_true oqz).symm|exact (decide_eq_false oqz).symm|(rw [decide_eq_decide];omega),rfl,rfl,rfl,rfl,rfl,rfl,rfl,rfl⟩
  intro ρ B hI;obtain ⟨bb,hbb0,hE32,hE0,hE1,hE2,hE6,hE9,hE10,rfl⟩:=hI;refine q_then_n ?_;refine te 32 hE32 ?_;refine te 0 hE0 ?_;refine te 1 hE1 ?_;refine te 2 hE2 ?_;refine te 6 hE6 ?_;refine te 9 hE9 ?_;refine te 10 hE10 ?_;refine tc_cond rfl (λ h=> ?_) (λ h=> ?_)
  . have hbig:=of_decide_eq_true (show decide (4194304<w∨4194304<m)=true by rw [←hbb0];exact h);refine Zhk ?_;have e0:(readS (s.ls.length*64) at_ sz room p)=none:=(by exact read_may (by rw [hwq,hmq];exact may_big oqz hbig));rw [e0]
    exact ⟨.tuple #[.agg #[.int .i64 0,.slice none 0 0],.int .i64 0,.bool false],R*Dev d s*Sl 1 (.slice none 0 0) 0 [],resA3 rfl (rv_cell a336 sz336 rfl hsqz (by show 2<=2;decide) rfl) (rv_tmp rfl) (rv_tmp rfl),λ _ _ h=>sl_nil (Dr.sat drqz _ _ h),none,0,rfl,Nat.le_refl _,rfl⟩
  have hbig:=of_decide_eq_false (show decide (4194304<w∨4194304<m)=false by rw [←hbb0];exact h);refine Zb2 ?_;refine tv (o_conv underlying141 underlying3 rfl) ?_;refine tl_env (d:=35) (v:=(vn w)) (by show Value.int .i64 (IntKind.i64.wrap _)=_;rw [wr_i64 oqz]) ?_;refine Zg8 ?_;refine tl_env (d:=37) (v:=(vn m)) (by show Value.int .i64 (IntKind.i64.wrap _)=_;rw [wr_i64 oqz]) ?_;refine Zge ?_;rintro _ _ ⟨b11,rfl,rfl⟩;refine tl_u rfl (o_stUN (l':=xcs ((w:Int),(m:Int))) rfl upqz sz365 rfl rfl rfl (by show 2<=2;decide) rfl) ?_;refine Zf2 ?_;obtain ⟨nd,en,hnd⟩:∃nd en,needS [(m:Int)]=(nd,en):=⟨_,_,rfl⟩;refine tc_reg ?_;refine Zbu ?_;refine tl_x rfl (o_buildSlice1 underlying34 sz3 z3 wqz rfl) ?_;rintro _ _ ⟨b42,rfl,rfl⟩;refine tl_c rfl (o_call bd268 rfl (Need_c (xs:=[(m:Int)]) (hr:=show Rs _ _ [Value.int .i64 (m:Int)] from rs_pt rfl) (hx:=by intro x hx;simp at hx;omega))) ?_;refine Zfw ?_;refine tl_env (d:=44) (v:= .int .i64 nd) (by show Value.int .i64 (needS [(m:Int)]).1=_;rw [hnd]) ?_;refine tv (o_extract rfl rfl) ?_;refine tl_env (d:=45) (v:= .int .i64 en) (by show Value.int .i64 (needS [(m:Int)]).2=_;rw [hnd]) ?_;refine tla ?_;refine Zfc ?_;refine tc_cut (λ ρ BB=>∃ (bb:Bool),(bb=decide (mayX (s.ls.length*64) at_ sz ((w:Int),(m:Int))=false∨room.length<p+(24+up8 m)))/\ ρ 61= .bool bb/\ ρ 1= .slice a rm c/\ ρ 2=(vn p)/\ ρ 6=(pz b6)/\ ρ 11=(pz b11)/\ ρ 12= .int .i64 nd/\ Dr BB (R*Dev d s*pt b6 (cl [.int .i64 0,.slice none 0 0] 336)*pt b11 (cl (xcs ((w:Int),(m:Int))) 365))) ?_ ?_
  . skip
    refine Zbr ?_;refine Zdv ?_;refine tl_bool (d:=48) rfl (λ h=> ?_) (λ h=> ?_)
    . have hen:en≠0:=(by first|exact of_decide_eq_true h|simpa using h);have hm0:m<1:=(by rcases Nat.lt_or_ge m 1 with h9|h9;exact h9;rw [need_one h9 oqz] at hnd;simp at hnd;omega);have hmy0:=may_zero1 (n:=s.ls.length*64) (at_:=at_) (sz:=sz) (w:=w) hm0;refine Zbj ?_;refine Zeg ?_;refine Zp ?_;refine Zbb ?_;exact ⟨_,by first|exact (decide_eq_true (.inl (by assumption))).symm|(rw [decide_eq_decide];simp only [hmy1,Bool.true_eq_false,false_or];omega),rfl,rfl,rfl,rfl,rfl,rfl,drqz⟩
    have hen:en=0:=(by first|(have h9:=of_decide_eq_false h;omega)|(simp at h;omega));have hm1:1<=m:=(by rcases Nat.lt_or_ge m 1 with h9|h9;have h8:m=0:=(by omega);subst h8;rw [need_zero] at hnd;simp at hnd;omega;exact h9);have hnd1:nd=((24+up8 m:Nat):Int):=(by rw [need_one hm1 oqz] at hnd;simp only [Prod.mk.injEq] at hnd;exact hnd.1.symm);have hxw:XW ((w:Int),(m:Int)):=⟨by show-9223372036854775808<=(w:Int)/\ (w:Int)<=9223372036854775807;omega,by show-9223372036854775808<=(m:Int)/\ (m:Int)<=9223372036854775807;omega⟩;refine tlm ?_;refine tv (o_loadN (vs:=xcs ((w:Int),(m:Int))) a365 sz365 rfl hsqz (by show 2<=2;decide) rfl) ?_;refine tl_c rfl (o_call bd267 rfl (may11_c (s:=s) (x:=((w:Int),(m:Int))) (hl:=by repeat (first|assumption|apply has_left)))) ?_;refine Zb1 ?_;refine Zbo ?_;refine tl_bool (d:=54) rfl (λ h=> ?_) (λ h=> ?_)
    . have hmy:mayX (s.ls.length*64) at_ sz ((w:Int),(m:Int))=false:=(by first|assumption|simpa using h);refine Zh7 ?_;refine Zbb ?_;exact ⟨_,by first|exact (decide_eq_true (.inl (by assumption))).symm|(rw [decide_eq_decide];simp only [hmy1,Bool.true_eq_false,false_or];omega),rfl,rfl,rfl,rfl,rfl,rfl,drqz⟩
    have hmy1:mayX (s.ls.length*64) at_ sz ((w:Int),(m:Int))=true:=(by simpa using h);refine Zgz ?_;refine Zc0 ?_;refine Zf3 ?_;exact ⟨_,by first|exact (decide_eq_true (.inl (by assumption))).symm|(rw [decide_eq_decide];simp only [hmy1,Bool.true_eq_false,false_or];omega),rfl,rfl,rfl,rfl,rfl,rfl,drqz⟩
  intro ρ B hI;obtain ⟨bb,hbc0,hE61,hE1,hE2,hE6,hE11,hE12,hBA⟩:=hI;refine q_then_n ?_;refine tc_pre hBA.sat ?_;clear hBA;refine te 61 hE61 ?_;refine te 1 hE1 ?_;refine te 2 hE2 ?_;refine te 6 hE6 ?_;refine te 11 hE11 ?_;refine te 12 hE12 ?_;refine tc_cond rfl (λ h=> ?_) (λ h=> ?_)
  . have hor:=of_decide_eq_true (show decide (mayX (s.ls.length*64) at_ sz ((w:Int),(m:Int))=false∨room.length<p+(24+up8 m))=true by rw [←hbc0];exact h);refine Zhk ?_;have e0:(readS (s.ls.length*64) at_ sz room p)=none:=(by rcases hor with h9|h9;exact read_may (by rw [hwq,hmq];exact h9);exact read_need (by rw [hmq];exact h9));rw [e0]
    exact ⟨.tuple #[.agg #[.int .i64 0,.slice none 0 0],.int .i64 0,.bool false],R*Dev d s*Sl 1 (.slice none 0 0) 0 [],resA3 rfl (rv_cell a336 sz336 rfl hsqz (by show 2<=2;decide) rfl) (rv_tmp rfl) (rv_tmp rfl),λ _ _ h=>sl_nil (Dr.sat drqz _ _ h),none,0,rfl,Nat.le_refl _,rfl⟩
  have hor:=of_decide_eq_false (show decide (mayX (s.ls.length*64) at_ sz ((w:Int),(m:Int))=false∨room.length<p+(24+up8 m))=false by rw [←hbc0];exact h);have hmy:mayX (s.ls.length*64) at_ sz ((w:Int),(m:Int))=true:=(by rcases hb9:mayX (s.ls.length*64) at_ sz ((w:Int),(m:Int)) with _|_;exact absurd (.inl hb9) hor;rfl);have hnr:¬room.length<p+(24+up8 m):=λ h9=>hor (.inr h9)
  have hm1:1<=m:=(by rcases Nat.lt_or_ge m 1 with h9|h9;rw [may_zero1 h9] at hmy;exact absurd hmy (by decide);exact h9);have hup:=up8_le m;rw [need_one hm1 oqz] at hnd
  obtain ⟨rfl,rfl⟩:((24+up8 m:Nat):Int)=nd/\ (0:Int)=en:=by simpa using hnd
  obtain ⟨old,hold⟩:∃old,((room.drop (p+24)).take m)=old:=⟨_,rfl⟩;have holl:old.length=m:=(by rw [←hold,List.length_take,List.length_drop];omega);have hob:∀x∈old,x<256:=λ x hx=>hb x (List.mem_of_mem_drop (List.mem_of_mem_take (hold.symm▸hx)))
  refine Zb2 ?_;refine Zcv ?_;refine tl_env (d:=65) (v:=(vn (p+24))) (by first|rfl|(show Value.int .i64 _=_;congr 1;omega)) ?_;refine Zcv ?_;refine tl_env (d:=67) (v:=(vn (p+24))) (by first|rfl|(show Value.int .i64 _=_;congr 1;omega)) ?_;refine Zbu ?_;refine tv adqz ?_;refine tl_env (d:=70) (v:=(vn (p+24+m))) (by first|rfl|(show Value.int .i64 _=_;congr 1;omega)) ?_;refine tv (o_slice (l:=p+24) (h:=p+24+m) underlying67 sz5 rfl (bnd_nat rfl) (bnd_nat rfl) oqz oqz) ?_;refine tl_env (d:=71) (v:= .slice (cutAddr a c (p+24) 1) m (c-(p+24))) (by show Value.slice (cutAddr a c (p+24) 1) (p+24+m-(p+24)) (c-(p+24))=_;rw [show p+24+m-(p+24)=m by omega]) ?_;refine tl_c rfl (o_call bd290 rfl (CloneB_c (l:=old) (n:=m) (hr:=by rw [←hold];exact (rs_mid (l:=p+24) (m:=m) hr oqz).left.left.left))) ?_;rintro _ _ ⟨a72,c72,rfl,hc72,rfl⟩;refine Zfc ?_;refine tc_regh (S:=R*Dev d s*pt b6 (cl [.int .i64 0,.slice none 0 0] 336)*pt b11 (cl (xcs ((w:Int),(m:Int))) 365)*Sl 1 (.slice a72 m c72) m (bys old)) mo drqz ?_
  show TH _ _ _ _ _ 12 (Array.replicate 12 false) _ _
  refine tm 0 rfl kqz rfl (o_fieldAddr (o:=0) underlying365 rfl rfl sz3 rfl) ?_;refine tm 1 rfl kqz rfl (by first|exact o_load p3 rfl hsqz rfl|exact o_loadC p3 rfl (by assumption)) ?_;refine tm 2 rfl kqz rfl (o_move wqz) ?_;refine Zeb ?_;refine Zgu ?_;refine tm 8 rfl kqz rfl adqz ?_;refine th_env (d:=81) (v:= .int .i64 ((p+(24+up8 m):Nat):Int)) (by first|rfl|(show Value.int .i64 _=_;congr 1;omega)) ?_;refine tm 9 rfl kqz rfl (o_slice (l:=p) (h:=p+(24+up8 m)) underlying67 sz5 rfl (bnd_nat rfl) (bnd_nat rfl) oqz oqz) ?_;refine th_env (d:=82) (v:= .slice (cutAddr a c p 1) (24+up8 m) (c-p)) (by show Value.slice (cutAddr a c p 1) (p+(24+up8 m)-p) (c-p)=_;rw [show p+(24+up8 m)-p=24+up8 m by omega]) ?_;refine th_one (i:=3) kqz ?_;refine oh_c rfl rfl rfl (o_call bd269 rfl (record_c (p:=w) (m:=m) (xs:=old) (hm:=holl))) ?_;rintro _ _ ⟨a76,c76,rfl,hc76,rfl⟩;refine ⟨by repeat (first|with_reducible exact dr_refl|apply dr_keep|apply dr_drop), ?_⟩;refine th_one (i:=10) kqz ?_;refine oh_c rfl rfl rfl (o_call bd291 rfl (EqualB_c (xs:=recS w old) (ys:=(room.drop p).take (24+up8 m)) (hx:=by rw [recS_len,holl]) (hy:=by rw [List.length_take,List.length_drop];omega) (h2:=(rs_mid (l:=p) (m:=24+up8 m) hr oqz).left.left.left.left.left))) ?_;refine Zcp ?_;refine tm 11 rfl kqz rfl (o_not rfl) ?_;refine Zbv ?_;refine tc_cond rfl (λ h=> ?_) (λ h=> ?_)
  . have hne:recS w old≠(room.drop p).take (24+up8 m):=λ e=>by rw [e] at h;simp at h
    refine Zhk ?_;have e0:(readS (s.ls.length*64) at_ sz room p)=none:=(by exact read_bad hwq hmq (by rw [hold];exact hne));rw [e0]
    exact ⟨.tuple #[.agg #[.int .i64 0,.slice none 0 0],.int .i64 0,.bool false],R*Dev d s*Sl 1 (.slice none 0 0) 0 [],resA3 rfl (rv_cell a336 sz336 rfl hsqz (by show 2<=2;decide) rfl) (rv_tmp rfl) (rv_tmp rfl),λ _ _ h=>sl_nil (Dr.sat drqz _ _ h),none,0,rfl,Nat.le_refl _,rfl⟩
  have heq:recS w old=(room.drop p).take (24+up8 m):=(by simpa using h);refine Ze ?_;refine sr ?_;refine Zbk ?_;refine Zhn ?_;refine tlm ?_;refine tl_u rfl (o_stUN (l':=[.int .i64 (w:Int),.slice a72 m c72]) rfl upqz sz336 rfl rfl rfl (by show 2<=2;decide) rfl) ?_;refine Z6 ?_;have e0:(readS (s.ls.length*64) at_ sz room p)=some ((w,old),24+up8 m):=(by rw [←hold];exact read_good hwq hmq hsh hmy hnr (by rw [hold];exact heq));rw [e0]
  exact ⟨.tuple #[.agg #[.int .i64 (w:Int),.slice a72 m c72],vn (24+up8 m),.bool true],R*Dev d s*Sl 1 (.slice a72 m c72) m (bys old),resA3 rfl (rv_cell a336 sz336 rfl hsqz (by show 2<=2;decide) rfl) (rv_tmp rfl) (rv_tmp rfl),Dr.sat drqz,a72,c72,by show _=Value.tuple #[.agg #[.int .i64 (w:Int),.slice a72 old.length c72],_,_];rw [holl];rfl,by show old.length<=c72;rw [holl];exact hc72,by show _=R*Dev d s*Sl 1 (.slice a72 old.length c72) old.length (bys old);rw [holl]⟩
end Go.Vl

namespace Go.Vl
open Go Go.Proofs Go.Proofs.Tryz
def kcl:List (Nat×List Nat)->List Value->List Value
  |x::l,v::vs=>(vn x.1)::v::kcl l vs
  |_,_=>[]
theorem kcl_len:∀{l:List (Nat×List Nat)} {vs:List Value},vs.length=l.length->(kcl l vs).length=l.length*2
  |[],[],_=>rfl
  |x::l,v::vs,h=>by
    show (kcl l vs).length+1+1=_
    rw [kcl_len (by simpa using h),List.length_cons];omega
theorem kcl_snoc:∀{l:List (Nat×List Nat)} {vs:List Value} {x:Nat×List Nat} {v:Value},vs.length=l.length->kcl (l++[x]) (vs++[v])=kcl l vs++[vn x.1,v]
  |[],[],_,_,_=>rfl
  |y::l,u::vs,x,v,h=>by
    show _::u::kcl (l++[x]) (vs++[v])=_
    rw [kcl_snoc (by simpa using h)];rfl
theorem wr_u64 {j:Nat}(h:j<18446744073709551616):IntKind.u64.wrap (j:Int)=(j:Int):=by simp [IntKind.wrap,IntKind.bits,IntKind.signed];omega
theorem rd_some {o:Option ((Nat×List Nat)×Nat)}(h:o.isSome=true):o=some ((rdW o,rdO o),rkT o):=by
  cases o with
  |none=>cases h
  |some x=>rfl
def cat (D:List (Nat×List Nat))(x:List (Nat×List Nat)×Int):List (Nat×List Nat)×Int:=if x.2≠0 then ([],110) else (D++x.1,0)
theorem recs_none {n at_ sz k p:Nat}{room:List Nat}{D:List (Nat×List Nat)}(h:readS n at_ sz room p=none)(hk:0<k):cat D (recsF n at_ sz room k p)=([],110):=by
  obtain ⟨k,rfl⟩:∃j,k=j+1:=⟨k-1,by omega⟩
  unfold recsF;rw [h];rfl
theorem recs_some {n at_ sz k p:Nat}{room:List Nat}{D:List (Nat×List Nat)}{x:Nat×List Nat}{t:Nat}(h:readS n at_ sz room p=some (x,t))(hk:0<k):cat D (recsF n at_ sz room k p)=cat (D++[x]) (recsF n at_ sz room (k-1) (p+t)):=by
  obtain ⟨k,rfl⟩:∃j,k=j+1:=⟨k-1,by omega⟩;rw [show k+1-1=k by omega]
  have e:recsF n at_ sz room (k+1) p=if (recsF n at_ sz room k (p+t)).2≠0 then ([],110) else (x::(recsF n at_ sz room k (p+t)).1,0):=by
    rw [show recsF n at_ sz room (k+1) p=match readS n at_ sz room p with
      |none=>([],110)
      |some (x,t)=>if (recsF n at_ sz room k (p+t)).2≠0 then ([],110) else (x::(recsF n at_ sz room k (p+t)).1,0) from rfl,h]
  rw [e]
  unfold cat
  by_cases h2:(recsF n at_ sz room k (p+t)).2≠0
  . rw [if_pos h2,if_pos h2,if_pos (by decide)]
  rw [if_neg h2,if_neg h2,if_neg (by simp),List.append_assoc];rfl
theorem recs_err {n at_ sz:Nat}{room:List Nat}:∀{k p:Nat},(recsF n at_ sz room k p).2≠0->recsF n at_ sz room k p=([],110)
  |0,p,h=>absurd rfl h
  |k+1,p,h=>by
    have e:recsF n at_ sz room (k+1) p=match readS n at_ sz room p with
      |none=>([],110)
      |some (x,t)=>if (recsF n at_ sz room k (p+t)).2≠0 then ([],110) else (x::(recsF n at_ sz room k (p+t)).1,0):=rfl
    rw [e] at h ⊢
    cases hr:readS n at_ sz room p with
    |none=>rfl
    |some y=>
      rw [hr] at h
      simp only at h ⊢
      by_cases h2:(recsF n at_ sz room k (p+y.2)).2≠0
      . rw [if_pos h2]
      rw [if_neg h2] at h;exact absurd rfl h
theorem cat_nil {n at_ sz k p:Nat}{room:List Nat}:cat [] (recsF n at_ sz room k p)=recsF n at_ sz room k p:=by
  unfold cat
  by_cases h:(recsF n at_ sz room k p).2≠0
  . rw [if_pos h,recs_err h]
  rw [if_neg h];exact Prod.ext rfl (by simp only;omega)
theorem read_room {n at_ sz p:Nat}{room:List Nat}{x:Nat×List Nat}{t:Nat}(h:readS n at_ sz room p=some (x,t)):p+t<=room.length/\ 24<=t:=by
  unfold readS at h
  split at h;cases h
  split at h;cases h
  split at h;cases h
  rename_i h3
  split at h;cases h
  simp only [Option.some.injEq,Prod.mk.injEq] at h
  omega
attribute [local irreducible] crk crL crc Sl pt ro Dev imgS recS readS recsF rdW rdO rkT Parts
theorem Zic {p r:Prop}(k:r)(h:Kq r->p:=by intro k;refine Zy ?_;refine tv (o_not rfl) ?_;exact k.o):p:=h ⟨k⟩
theorem Records_c {A R:SP}{C:SP->SP}{d:Nat}{s:DevS}(hc:Ct A (Dev d s) R C:=by exact cbqz){bl at_ sz:Nat}(hl:Has R bl (cl (lcs11 d at_ sz) 258):=by exact hbqz)(hlw:LogW (s.ls.length*64) at_ sz:=by assumption):
    Fn Tryz.prog 170 #[pz bl] A (λ r B=>∃a2 c2 vs,r= .tuple #[.slice a2 (recordsS at_ sz s).1.length c2,.int .i64 (recordsS at_ sz s).2]/\ (recordsS at_ sz s).1.length<=c2/\ vs.length=(recordsS at_ sz s).1.length/\ B=C (Dev d s)*Parts vs ((recordsS at_ sz s).1.map (·.2))*Sl 2 (.slice a2 (recordsS at_ sz s).1.length c2) (recordsS at_ sz s).1.length (kcl (recordsS at_ sz s).1 vs)):=by
  refine fn_enterW func170 rfl ntmps170 (by simp) ?_;refine tc_have (λ _ _ h=>ct_wf2 hc h) λ hw=> ?_
  have htop:=hw.top;have hpos:=hw.pos;obtain ⟨rfl,hC⟩:=hc;have hAC:∀g w,sat g w (R*Dev d s)->sat g w (C (Dev d s)):=λ g w h=>by rw [hC];exact h
  have hlw9:=hlw;obtain ⟨w1,w2,w3,w4,w5⟩:=hlw9;refine Zdi ?_;refine tl_c rfl (o_call bd245 rfl (ready11_c (s:=s) (hl:=hl))) ?_;refine Zhc ?_;refine tc_cond rfl (sbq ?_) (λ h=> ?_)
  . intro h;refine Zhe ?_;have ho:=stE_off h;have es:stE s=5:=(by unfold stE;rw [if_pos ho]);rw [es]
    have e0:recordsS at_ sz s=([],5):=(by unfold recordsS;rw [if_pos ho]);rw [e0]
    exact ⟨.tuple #[.slice none 0 0,.int .i64 (5)],C (Dev d s)*Parts [] []*Sl 2 (.slice none 0 0) 0 [],res2 rfl rfl rfl,λ _ _ h=>sl_nil (show sat _ _ (C (Dev d s)*Parts [] []) by rw [hC,show Parts [] []=emp by unfold Parts;rfl,star_emp];exact Dr.sat (A':=R*Dev d s) drqz _ _ h),none,0,[],rfl,Nat.le_refl _,rfl,rfl⟩
  have ho:s.off=false:=stE_on (by simpa using h);have hw2:=word_in (p:=at_) ho oqz oqz;obtain ⟨v,hv⟩:∃v,(wordP (at_:Nat) s).1=v:=⟨_,rfl⟩;have hvl:v<18446744073709551616:=(by rw [←hv,hw2];exact nm8_lt λ x hx=>img_lt x (List.mem_of_mem_drop hx));obtain ⟨room,hroom⟩:∃room,roomS at_ sz s=room:=⟨_,rfl⟩;have hil:=imgS_len hw;have hrl:room.length=sz-64:=(by rw [←hroom];unfold roomS;rw [List.length_take,List.length_drop,hil];omega);have hrb:∀x∈room,x<256:=λ x hx=>by rw [←hroom] at hx;exact img_sub x hx
  have hrec:recordsS at_ sz s=recsF (s.ls.length*64) at_ sz room v 0:=(by unfold recordsS;rw [if_neg (by rw [ho];decide),hv,hroom]);refine Zdm ?_;refine tc_regq mo kqz ?_;refine Zbs ?_;refine Zh9 ?_;refine Zbs ?_;refine Zdp ?_;refine ql_c rfl (λ w=>exec_call bd246 rfl) (Word_c (s:=s) (p:=(at_:Nat))) ?_;refine ql_v rfl (o_move wqz) ?_;refine ql_v rfl (o_extract rfl rfl) ?_;refine ql_env (d:=28) (v:= .int .u64 (v:Nat)) (by show Value.int .u64 ((wordP (at_:Nat) s).1:Nat)=_;rw [hv]) ?_;refine ql_v rfl (o_extract rfl rfl) ?_;refine ql_env (d:=29) (v:= .int .i64 0) (by show Value.int .i64 (wordP (at_:Nat) s).2=_;rw [hw2]) ?_;refine ql_v rfl (o_assign wqz) ?_;refine Ze0 ?_;refine Zm ?_;refine Zbd ?_;intro h;refine Zcr ?_;refine Zdd ?_;refine tc_cond rfl (λ h=> ?_) (λ h=> ?_)
  . have hv0:v=0:=(by first|(have h9:=of_decide_eq_true h;omega)|(simp at h;omega));refine Zhf ?_;have e0:recordsS at_ sz s=([],0):=(by rw [hrec,hv0];unfold recsF;rfl);rw [e0]
    exact ⟨.tuple #[.slice none 0 0,.int .i64 (0)],C (Dev d s)*Parts [] []*Sl 2 (.slice none 0 0) 0 [],res2 rfl rfl rfl,λ _ _ h=>sl_nil (show sat _ _ (C (Dev d s)*Parts [] []) by rw [hC,show Parts [] []=emp by unfold Parts;rfl,star_emp];exact Dr.sat (A':=R*Dev d s) drqz _ _ h),none,0,[],rfl,Nat.le_refl _,rfl,rfl⟩
  have hv0:v≠0:=(by first|(have h9:=of_decide_eq_false h;omega)|(simp at h;omega));refine Zdm ?_;refine tc_regh (S:=R) mo drqz ?_
  show TH _ _ _ _ _ 20 (Array.replicate 20 false) _ _
  refine Zb4 ?_;refine Zcj ?_;refine Zd4 ?_;refine Zdb ?_;refine tm 8 rfl kqz rfl adqz ?_;refine th_env (d:=44) (v:=(vn (at_+64))) (by first|rfl|(show Value.int .i64 _=_;congr 1;omega)) ?_;refine tm 9 rfl kqz rfl (o_move wqz) ?_;refine tm 10 rfl kqz rfl (o_nilCheck rfl) ?_;refine tm 11 rfl kqz rfl (o_fieldAddr (o:=2) underlying258 rfl rfl sz3 rfl) ?_;refine tm 12 rfl kqz rfl (o_load p3 rfl haqz rfl) ?_;refine tm 13 rfl kqz rfl (o_subI rfl rfl oqz) ?_;refine th_env (d:=49) (v:=(vn (sz-64))) (by show Value.int .i64 ((sz:Int)-64)=_;congr 1;omega) ?_;refine th_one (i:=14) kqz ?_;refine oh_c rfl rfl rfl (o_call bd247 rfl (Load_c (s:=s) (p:=at_+64) (m:=sz-64))) ?_;rintro _ _ ⟨a50,c50,rfl,hc50,rfl⟩;refine ⟨by repeat (first|with_reducible exact dr_refl|apply dr_keep|apply dr_drop), ?_⟩;refine tm 15 rfl kqz rfl (o_move wqz) ?_;refine tm 16 rfl kqz rfl (o_extract rfl rfl) ?_;refine tm 17 rfl kqz rfl (o_extract rfl rfl) ?_;refine tm 18 rfl kqz rfl (o_assign wqz) ?_;refine tm 19 rfl kqz rfl (o_assign wqz) ?_;refine Zbv ?_;refine Zm ?_;refine Zbd ?_;intro h;refine Ze ?_;refine Zbw ?_;refine Zbw ?_;refine Zu ?_;refine tc_pre (A':=R*Dev d s*Sl 1 (.slice a50 (sz-64) c50) (sz-64) (bys room)*Parts [] []*Sl 2 (.slice none 0 0) 0 []) (λ _ _ h=>sl_nil (show sat _ _ (R*Dev d s*Sl 1 (.slice a50 (sz-64) c50) (sz-64) (bys room)*Parts [] []) by rw [show Parts [] []=emp by unfold Parts;rfl,star_emp];rw [←hroom];exact h)) ?_;refine tc_loop (λ kk ρ BB=>∃ (j:Nat) (p:Nat) (n:Nat) (D:List (Nat×List Nat)) (vs:List Value) (a8:Option Addr) (c8:Nat),(cat D (recsF (s.ls.length*64) at_ sz room j p)=recordsS at_ sz s)/\ (p<=sz-64)/\ (D.length=n)/\ (vs.length=n)/\ (n<=c8)/\ (j<18446744073709551616)/\ (24*n<=p)/\ kk=j/\ ρ 5= .int .u64 (j:Nat)/\ ρ 8= .slice a8 n c8/\ ρ 9=(vn p)/\ ρ 0=(pz bl)/\ ρ 7= .slice a50 (sz-64) c50/\ Dr BB (R*Dev d s*Sl 1 (.slice a50 (sz-64) c50) (sz-64) (bys room)*Parts vs (D.map (·.2))*Sl 2 (.slice a8 n c8) n (kcl D vs))) (m:=(v)) ?_ ?_
  . exact ⟨v,0,0,[],[],none,0,by rw [hrec,cat_nil],by omega,rfl,rfl,by omega,hvl,by omega,rfl,rfl,rfl,rfl,rfl,rfl,drqz⟩
  intro k ρ B hI;obtain ⟨j,p,n,D,vs,a8,c8,hp0,hp1,hp2,hp3,hp4,hp5,hp6,hkk1,hE5,hE8,hE9,hE0,hE7,hBA⟩:=hI;refine tc_pre hBA.sat ?_;clear hBA;refine te 5 hE5 ?_;refine te 8 hE8 ?_;refine te 9 hE9 ?_;refine te 0 hE0 ?_;refine te 7 hE7 ?_;refine Zm ?_;refine Zd8 ?_;refine tc_cond rfl (λ h=> ?_) (λ h=> ?_)
  . have hj:0<j:=(by first|omega|(simp at h;omega));refine Zen ?_;refine Zt ?_;refine tl_c rfl (o_call bd248 rfl (read_c (s:=s) (p:=p) (room:=room))) ?_;rintro _ _ ⟨a64,c64,rfl,hc64,rfl⟩;refine Zbn ?_;refine tv (o_extract rfl rfl) ?_;refine tl_x rfl (o_alloc z336 rfl) ?_;rintro _ _ ⟨b10,rfl,rfl⟩;refine tl_u rfl (o_stUN (l':=[.int .i64 ((rdW (readS (s.ls.length*64) at_ sz room p):Nat):Int),(.slice a64 (rdO (readS (s.ls.length*64) at_ sz room p)).length c64)]) rfl upqz sz336 rfl rfl rfl (by show 2<=2;decide) rfl) ?_;refine tla ?_;refine Zic ?_;refine nq ?_;refine tc_cond rfl (λ h=> ?_) (λ h=> ?_)
    . have hrd:(readS (s.ls.length*64) at_ sz room p)=none:=(by rcases hq9:(readS (s.ls.length*64) at_ sz room p) with _|x;rfl;rw [hq9] at h;simp at h);refine sr ?_;refine Zc6 ?_;have e0:recordsS at_ sz s=([],110):=(by rw [←hp0,recs_none hrd hj]);rw [e0]
      exact ⟨.tuple #[.slice none 0 0,.int .i64 (110)],C (Dev d s)*Parts [] []*Sl 2 (.slice none 0 0) 0 [],res2 rfl rfl rfl,λ _ _ h=>sl_nil (show sat _ _ (C (Dev d s)*Parts [] []) by rw [hC,show Parts [] []=emp by unfold Parts;rfl,star_emp];exact Dr.sat (A':=R*Dev d s) drqz _ _ h),none,0,[],rfl,Nat.le_refl _,rfl,rfl⟩
    have hrd:=rd_some (o:=(readS (s.ls.length*64) at_ sz room p)) (by simpa using h);have hrm:=read_room hrd;refine Zb2 ?_;refine tv (o_loadN (vs:=[.int .i64 ((rdW (readS (s.ls.length*64) at_ sz room p):Nat):Int),(.slice a64 (rdO (readS (s.ls.length*64) at_ sz room p)).length c64)]) a336 sz336 rfl hsqz (by show 2<=2;decide) rfl) ?_;refine tl_x rfl (o_buildSliceK (k:=2) (l:=[.int .i64 ((rdW (readS (s.ls.length*64) at_ sz room p):Nat):Int),(.slice a64 (rdO (readS (s.ls.length*64) at_ sz room p)).length c64)]) underlying259 sz336 z336 rfl rfl (by decide)) ?_;rintro _ _ ⟨b72,rfl,rfl⟩;refine tl_x rfl (o_apB underlying259 underlying259 sz336 by336 z336 rfl (by decide) (by decide) rfl rfl rfl ctqz rfl rfl oqz (show _=kcl (D++[(rdW (readS (s.ls.length*64) at_ sz room p),rdO (readS (s.ls.length*64) at_ sz room p))]) (vs++[(.slice a64 (rdO (readS (s.ls.length*64) at_ sz room p)).length c64)]) by rw [kcl_snoc oqz])) ?_;rintro _ _ ⟨a73,c73,rfl,hc73,rfl⟩;have hps:Parts (vs++[(.slice a64 (rdO (readS (s.ls.length*64) at_ sz room p)).length c64)]) ((D++[(rdW (readS (s.ls.length*64) at_ sz room p),rdO (readS (s.ls.length*64) at_ sz room p))]).map (·.2))=Parts vs (D.map (·.2))*Sl 1 (.slice a64 (rdO (readS (s.ls.length*64) at_ sz room p)).length c64) (rdO (readS (s.ls.length*64) at_ sz room p)).length (bys (rdO (readS (s.ls.length*64) at_ sz room p))):=(by rw [List.map_append];exact parts_snoc (by rw [List.length_map];omega));refine tl_eq (show _=R*Dev d s*Sl 1 (.slice a50 (sz-64) c50) (sz-64) (bys room)*Parts (vs++[(.slice a64 (rdO (readS (s.ls.length*64) at_ sz room p)).length c64)]) ((D++[(rdW (readS (s.ls.length*64) at_ sz room p),rdO (readS (s.ls.length*64) at_ sz room p))]).map (·.2))*Sl 2 (.slice a73 (n+1) c73) (n+1) (kcl (D++[(rdW (readS (s.ls.length*64) at_ sz room p),rdO (readS (s.ls.length*64) at_ sz room p))]) (vs++[(.slice a64 (rdO (readS (s.ls.length*64) at_ sz room p)).length c64)]))*pt b10 (cl ([.int .i64 ((rdW (readS (s.ls.length*64) at_ sz room p):Nat):Int),(.slice a64 (rdO (readS (s.ls.length*64) at_ sz room p)).length c64)]:List Value) 336) by rw [hps];ac_rfl) ?_;refine Zfx ?_;refine tv adqz ?_;refine tl_env (d:=76) (v:= .int .i64 ((p+rkT (readS (s.ls.length*64) at_ sz room p):Nat):Int)) (by first|rfl|(show Value.int .i64 _=_;congr 1;omega)) ?_;refine Zc3 ?_;refine tlm ?_;refine tv (o_sub rfl rfl) ?_;refine tl_env (d:=59) (v:= .int .u64 ((j-1:Nat):Int)) (by show Value.int .u64 (IntKind.u64.wrap ((j:Int)-1))=_;rw [show (j:Int)-1=((j-1:Nat):Int) by omega,wr_u64 oqz]) ?_;refine Za ?_;exact ⟨_,by omega,j-1,_,n+1,D++[(rdW (readS (s.ls.length*64) at_ sz room p),rdO (readS (s.ls.length*64) at_ sz room p))],vs++[(.slice a64 (rdO (readS (s.ls.length*64) at_ sz room p)).length c64)],a73,c73,by rw [←recs_some hrd hj];exact hp0,by omega,by rw [List.length_append,hp2];rfl,by rw [List.length_append,hp3];rfl,hc73,by omega,by omega,rfl,rfl,rfl,rfl,rfl,rfl,drqz⟩
  obtain rfl:j=0:=by first|omega|(simp at h;omega)
  refine Zhb ?_;have e0:recordsS at_ sz s=(D,0):=(by rw [←hp0];unfold recsF cat;rw [if_neg (by simp),List.append_nil]);rw [e0]
  exact ⟨.tuple #[.slice a8 n c8,.int .i64 0],R*Dev d s*Parts vs (D.map (·.2))*Sl 2 (.slice a8 n c8) n (kcl D vs),res2 rfl rfl rfl,Dr.sat drqz,a8,c8,vs,by rw [hp2],by rw [hp2];exact hp4,by rw [hp3];exact hp2.symm,by rw [hC];simp only [];rw [hp2]⟩
end Go.Vl

namespace Go.Vl
open Go Go.Proofs Go.Proofs.Tryz
namespace Rg
section
variable {P:Program} {n:Nat} {ops:Array Oper} {A:SP} {ρ:Env} {o:Oper} {rest:List Oper} {Q:Post}
def QL (P:Program)(n:Nat)(ops:Array Oper)(A:SP)(K:Env->Prop)(l:List Oper)(ρ:Env):Prop:=
  ∀g a,Agr n ρ a->wpQuietIn (Fc ⟨none⟩) 0 P ops (λ w=>sat g w A) (λ a'=>∃ρ',Agr n ρ' a'/\ K ρ') l a
theorem ql_nil {K:Env->Prop}(h:K ρ):QL P n ops A K [] ρ:=λ g a ha=>wpQuietIn_nil ⟨ρ,ha,h⟩
theorem ql_skip {K:Env->Prop}(hw:wantE n ops ρ o=false)(k:QL P n ops A K rest (put n ρ o.dst undef)):QL P n ops A K (o::rest) ρ:=λ g a ha=>by
  unfold wpQuietIn
  rw [want_eq ha,hw]
  exact ⟨λ _ _ _ _=>trivial,k g _ (ha.put _ _)⟩
theorem ql_v {K:Env->Prop}{v:Value}(hw:wantE n ops ρ o=true)(h:OpV P n ρ A o v)(k:QL P n ops A K rest (put n ρ o.dst v)):QL P n ops A K (o::rest) ρ:=λ g a ha=>by
  unfold wpQuietIn
  rw [want_eq ha,hw,if_pos rfl]
  refine ⟨λ _ _ _ _=>trivial,v,λ w hs=> ?_,k g _ (ha.put _ _)⟩
  unfold Oper.quietAtIn
  rw [ha.eval,h g w hs]
  exact ⟨rfl,rfl⟩
theorem ql_env {K:Env->Prop}{l:List Oper}{d:Nat}{v:Value}(h:ρ d=v)(k:QL P n ops A K l (upd ρ d v)):QL P n ops A K l ρ:=by
  rw [←env_set h] at k;exact k
theorem ql_bool {K:Env->Prop}{l:List Oper}{d:Nat}{b:Bool}(hv:ρ d= .bool b)(ht:b=true->QL P n ops A K l (upd ρ d (.bool true)))(hf:b=false->QL P n ops A K l (upd ρ d (.bool false))):QL P n ops A K l ρ:=by
  cases b with
  |true=>exact ql_env hv (ht rfl)
  |false=>exact ql_env hv (hf rfl)
theorem tc_regq {id:Nat}{l:List Oper}(hm:P.follows .mixedOrders=true)(hB:Region.lexB .any l.toArray=true)(h:QL P n l.toArray A (λ ρ'=>Q .normal ρ' A) l ρ):
    @TC ⟨none⟩ P n (.region id l.toArray true) Q ρ A:=λ g a w ha hs=>by
  refine wpIn_region_quiet (C:=λ w=>sat g w A) rfl hm hB (hs.draw rfl rfl rfl rfl) ?_;have hh:=h g a ha;have he:l.toArray.toList=l:=(by simp);rw [he]
  have mono:∀ (l':List Oper) (a:Act),wpQuietIn (Fc ⟨none⟩) 0 P l.toArray (λ w=>sat g w A) (λ a'=>∃ρ',Agr n ρ' a'/\ Q .normal ρ' A) l' a→
      wpQuietIn (Fc ⟨none⟩) 0 P l.toArray (λ w=>sat g w A) (λ a'=>∀w',sat g w' A->lift g n Q .normal a' w') l' a:=by
    intro l'
    induction l' with
    |nil=>intro a ⟨ρ',h1,h2⟩ w' hw';exact ⟨rfl,ρ',A,h1,hw',h2⟩
    |cons o l' ih=>
      intro a h
      unfold wpQuietIn at h ⊢
      refine ⟨h.1, ?_⟩;have h2:=h.2
      split
      . rename_i hw
        rw [if_pos hw] at h2
        exact Oper.quietIn_mono (λ a=>ih a) h2
      rename_i hw
      rw [if_neg hw] at h2
      exact ih _ h2
  exact mono l a hh
end
end Rg
namespace Rg
section
variable {P:Program} {m:Nat} {ops:Array Oper} {μ:Rm}
def nodB (l:List Oper):Bool:=l.all λ o=>match o.op with| .defer _=>false|_=>true
theorem nod_of {l:List Oper}(h:nodB l=true):∀ (i:Nat) (o:Oper),l.toArray[i]? =some o->∀c,o.op≠ .defer c:=λ i o hi c e=>by
  have h1:=List.all_eq_true.1 h o (List.mem_of_getElem? (by simpa using hi))
  simp [e] at h1
theorem upon_tr {o:Oper}{a:Act}{K:Act->World->Prop}{Q:Exit->Act->World->Prop}{r:Result Next}:Oper.uponIn (Fc ⟨none⟩) m P o a K Q r=Oper.uponIn (Fc μ) m P o a K Q r:=by
  cases r with
  |ok x w=>cases x<;>rfl
  |halt x w=>cases x<;>rfl
theorem op_tr {i:Nat}{K:Act->World->Prop}{Q:Exit->Act->World->Prop}{a:Act}{w:World}(hnd:∀ (i:Nat) (o:Oper),ops[i]? =some o->∀c,o.op≠ .defer c)(h:wpOpIn (Fc ⟨none⟩) m P ops Q i K a w):wpOpIn (Fc μ) m P ops Q i K a w:=by
  unfold wpOpIn at*
  cases hi:ops[i]? with
  |none=>simpa [hi] using h
  |some o=>
    simp only [hi] at h ⊢
    split
    . rename_i hw
      simp only [hw,if_true] at h
      unfold Oper.wpIn at*
      rw [Oper.semAt_eq _ _ _ (hnd i o hi)] at h ⊢
      rw [←upon_tr]
      exact h
    rename_i hw
    simp only [hw] at h
    exact h
theorem any_tr {Q:Exit->Act->World->Prop}(hnd:∀ (i:Nat) (o:Oper),ops[i]? =some o->∀c,o.op≠ .defer c):∀ (fuel:Nat) (listed:Array Bool) (a:Act) (w:World),wpAnyIn (Fc ⟨none⟩) m P .any ops Q fuel listed a w->wpAnyIn (Fc μ) m P .any ops Q fuel listed a w
  |0,_,_,_,h=>h
  |fuel+1,_,_,_,h=>⟨h.1,λ i hi=>op_tr hnd (wpOpIn_mono (λ a w=>any_tr hnd fuel _ a w) (h.2 i hi))⟩
theorem tc_regt {n:Nat}{Q:Post}{ρ:Env}{A:SP}{id:Nat}{l:List Oper}(hm:P.follows .mixedOrders=true)(hd:nodB l=true)
    (h:∀g a w,Agr n ρ a->sat g w A->wpAnyIn (Fc ⟨none⟩) 0 P .any l.toArray (lift g n Q) l.length (Array.replicate l.length false) a w): @TC μ P n (.region id l.toArray true) Q ρ A:=λ g a w ha hs=>
  wpIn_region_any hm (by
    have h1:=h g a { w with drawn:=w.drawn+1 } ha (hs.draw rfl rfl rfl rfl);have h2:=any_tr (μ:=μ) (nod_of hd) _ _ _ _ h1
    simpa using h2)
end
end Rg
namespace Rg
section
variable {P:Program} {n:Nat} {ops:Array Oper} {A S:SP} {ρ:Env} {o:Oper} {Q:Post}
def notCall (o:Oper):Bool:=match o.op with| .call _=>false|_=>true
theorem about_none {o:Oper}(h:notCall o=true)(w:World)(e:Operand->Value):o.about P w e=none:=by
  unfold notCall at h
  unfold Oper.about
  cases ho:o.op<;>first|rfl|(simp [ho] at h)
def TH (P:Program)(n:Nat)(ops:Array Oper)(Q:Post)(S:SP)(fuel:Nat)(listed:Array Bool)(ρ:Env)(A:SP):Prop:=
  ∀g a w,Agr n ρ a->sat g w A->wpAnyIn (Fc ⟨none⟩) 0 P .any ops (lift g n Q) fuel listed a w
theorem tc_regh {μ:Rm}{id:Nat}{l:List Oper}(hm:P.follows .mixedOrders=true)(hd:Dr A S)(h:TH P n l.toArray Q S l.length (Array.replicate l.length false) ρ A)(hn:nodB l=true:=by kernel_rfl): @TC μ P n (.region id l.toArray true) Q ρ A:=
  tc_regt hm hn h
theorem th_done {fuel:Nat}{listed:Array Bool}(hr:Region.ready .any ops listed=[])(h:Q .normal ρ A):TH P n ops Q S fuel listed ρ A:=λ g a w ha hs=>
  wpAnyIn_done hr ⟨rfl,ρ,A,ha,hs,h⟩ fuel
theorem th_take {fuel i:Nat}{listed listed':Array Bool}{v:Value}(hi:ops[i]? =some o)(hs':Region.noSelect ops=true)(hf:Region.free .any ops listed i=true)(hr:(Region.ready .any ops listed).contains i=true)
    (hl:listed.setIfInBounds i true=listed') (hw:wantE n ops ρ o=true) (hv:OpV P n ρ emp o v) (k:TH P n ops Q S fuel listed' (put n ρ o.dst v) A) (hc:notCall o=true:=by rfl):TH P n ops Q S (fuel+1) listed ρ A:=λ g a w ha hs=>
  wpAnyIn_take rfl hi hs' hf hr (λ c a w h=>absurd h.1 (by simp [okE])) ⟨.inl ⟨by rw [want_eq ha,hw],λ w'=>by
    rw [ha.eval]
    exact hv ⟨w'.os,w'.tape,w'.output⟩ w' ⟨rfl,rfl,rfl,_,rfl,λ _ _ _ h=>by cases h⟩⟩,λ w'=>about_none hc w' _⟩ (by rw [hl];exact k g _ w (ha.put _ _) hs)
def OH (P:Program)(n:Nat)(ops:Array Oper)(Q:Post)(S:SP)(fuel i:Nat)(listed:Array Bool)(ρ:Env)(A:SP):Prop:=
  ∀g a w,Agr n ρ a->sat g w A->wpOpIn (Fc ⟨none⟩) 0 P ops (lift g n Q) i (wpAnyIn (Fc ⟨none⟩) 0 P .any ops (lift g n Q) fuel (listed.setIfInBounds i true)) a w
theorem th_all {fuel:Nat}{listed:Array Bool}{rs:List Nat}(hr:Region.ready .any ops listed=rs)(hne:rs≠[])(h:∀i∈rs,OH P n ops Q S fuel i listed ρ A):TH P n ops Q S (fuel+1) listed ρ A:=λ g a w ha hs=>
  wpAnyIn_all hr hne λ i hi=>h i hi g a w ha hs
theorem th_one {fuel i:Nat}{listed:Array Bool}(hr:Region.ready .any ops listed=[i])(h:OH P n ops Q S fuel i listed ρ A):TH P n ops Q S (fuel+1) listed ρ A:=th_all hr (by simp) (by simpa using h)
theorem th_two {fuel i j:Nat}{listed:Array Bool}(hr:Region.ready .any ops listed=[i,j])(h:OH P n ops Q S fuel i listed ρ A)(h':OH P n ops Q S fuel j listed ρ A):TH P n ops Q S (fuel+1) listed ρ A:=
  th_all hr (by simp) (by simpa using ⟨h,h'⟩)
section
variable {fuel i:Nat} {listed listed':Array Bool}
theorem oh_v {v:Value}(hi:ops[i]? =some o)(hl:listed.setIfInBounds i true=listed')(hw:wantE n ops ρ o=true)(h:OpV P n ρ A o v)(k:TH P n ops Q S fuel listed' (put n ρ o.dst v) A):OH P n ops Q S fuel i listed ρ A:=λ g a w ha hs=>by
  subst hl
  unfold wpOpIn
  simp only [hi,want_eq ha,hw,if_true]
  refine ⟨λ _ _=>trivial, ?_⟩;rw [ha.eval,sem_eq (h g w hs) (by simp)]
  exact k g _ w (ha.put _ _) hs
theorem oh_x {R:Value->SP->Prop}(hi:ops[i]? =some o)(hl:listed.setIfInBounds i true=listed')(hw:wantE n ops ρ o=true)(h:OpX P n ρ A o R)(k:∀v B,R v B->Dr B S/\ TH P n ops Q S fuel listed' (put n ρ o.dst v) B):OH P n ops Q S fuel i listed ρ A:=λ g a w ha hs=>by
  subst hl
  unfold wpOpIn
  simp only [hi,want_eq ha,hw,if_true]
  refine ⟨λ _ _=>trivial, ?_⟩;obtain ⟨v,w',B,hr,hb,hR⟩:=h g w hs;rw [ha.eval,sem_eq hr (by simp)]
  exact (k v B hR).2 g _ w' (ha.put _ _) hb
theorem oh_c {R:Value->SP->Prop}(hi:ops[i]? =some o)(hl:listed.setIfInBounds i true=listed')(hw:wantE n ops ρ o=true)(h:OpC P n ρ A o R)(k:∀v B,R v B->Dr B S/\ TH P n ops Q S fuel listed' (put n ρ o.dst v) B):OH P n ops Q S fuel i listed ρ A:=λ g a w ha hs=>by
  subst hl
  unfold wpOpIn
  simp only [hi,want_eq ha,hw,if_true]
  refine ⟨λ _ _=>trivial, ?_⟩;obtain ⟨f,args,w',hr,hc⟩:=h g w hs;rw [ha.eval,sem_eq hr (by simp)]
  refine ⟨λ h=>(by cases h), ?_⟩;have hc':CallsIn Fence.wide (0-1) P f args w' λ e w''=>∃v B,e= .returned v/\ R v B/\ sat g w'' B:=callsIn_wide.2 hc
  refine CallsIn.mono (show CallsIn (Fc ⟨none⟩) (0-1) P f args w' _ from hc') λ e w'' ⟨v,B,he,hR,hb⟩=> ?_
  subst he;exact (k v B hR).2 g _ w'' (ha.put _ _) hb
theorem oh_u {B:SP}(hi:ops[i]? =some o)(hl:listed.setIfInBounds i true=listed')(hw:wantE n ops ρ o=true)(h:OpU P n ρ A o B)(hd:Dr B S)(k:TH P n ops Q S fuel listed' (put n ρ o.dst undef) B):OH P n ops Q S fuel i listed ρ A:=λ g a w ha hs=>by
  subst hl
  unfold wpOpIn
  simp only [hi,want_eq ha,hw,if_true]
  refine ⟨λ _ _=>trivial, ?_⟩;obtain ⟨w',hr,hb⟩:=h g w hs;rw [ha.eval,sem_eq hr (by simp)]
  exact k g _ w' (ha.put _ _) hb
end
theorem th_env {fuel:Nat}{listed:Array Bool}{d:Nat}{v:Value}(h:ρ d=v)(k:TH P n ops Q S fuel listed (upd ρ d v) A):TH P n ops Q S fuel listed ρ A:=by
  rw [←env_set h] at k;exact k
end
end Rg
def rvl (L:List (Nat×List Nat))(vs:List Value)(k:Nat):Value:= .agg #[.int .i64 ((L.getD k (0,[])).1:Nat),vs.getD k (.slice none 0 0)]
theorem kcl_at:∀{L:List (Nat×List Nat)} {vs:List Value} {k:Nat},vs.length=L.length->k<L.length->((kcl L vs).drop (k*2)).take 2=[.int .i64 ((L.getD k (0,[])).1:Nat),vs.getD k (.slice none 0 0)]
  |[],[],_,_,h=>by simp at h
  |x::l,v::vs,0,_,_=>rfl
  |x::l,v::vs,k+1,h,hk=>by
    rw [show (k+1)*2=k*2+1+1 by omega]
    show ((kcl l vs).drop (k*2)).take 2=_
    rw [kcl_at (by simpa using h) (by simpa using hk)];rfl
section
variable {at_ sz:Nat} {s s1 s2 s3:DevS} {L:List (Nat×List Nat)} {e:Int}
end
def sumL (L:List (Nat×List Nat)):Nat:=(L.map λ x=>x.2.length).sum
theorem sumL_cons (x:Nat×List Nat)(L:List (Nat×List Nat)):sumL (x::L)=x.2.length+sumL L:=by unfold sumL;rw [List.map_cons,List.sum_cons]
def RecOk (n at_ sz:Nat)(x:Nat×List Nat):Prop:=mayX n at_ sz ((x.1:Int),((x.2.length:Nat):Int))=true/\∀b∈x.2,b<256
theorem parts_rs:∀{vs:List Value} {ls:List (List Nat)} {k:Nat} (_:vs.length=ls.length) (h:k<ls.length) {b:Option Addr} {c:Nat},vs.getD k (.slice none 0 0)= .slice b (ls[k]).length c->∀A:SP,Rs (A*Parts vs ls) b (bys ls[k])
  |v::vs,x::ls,0,_,_,b,c,he,A=>by
    have e:Parts (v::vs) (x::ls)=Parts vs ls*Sl 1 v x.length (bys x):=rfl;have e2:v= .slice b x.length c:=he;rw [e,e2,←star_assoc];exact rs_sl
  |v::vs,x::ls,k+1,h,hk,b,c,he,A=>by
    have e:Parts (v::vs) (x::ls)=Parts vs ls*Sl 1 v x.length (bys x):=rfl;rw [e,←star_assoc]
    exact (parts_rs (vs:=vs) (ls:=ls) (k:=k) (by simpa using h) (by simpa using hk) he A).left
  |[],x::ls,_,h,_,_,_,_,_=>by simp at h
  |_,[],_,_,h,_,_,_,_=>by simp at h
theorem parts_getD:∀{vs:List Value} {L:List (Nat×List Nat)} {X:SP} {g:Gh} {w:World},vs.length=L.length->sat g w (X*Parts vs (L.map (·.2)))->∀k,k<L.length->∃b c,vs.getD k (.slice none 0 0)= .slice b (L.getD k (0,[])).2.length c/\ (L.getD k (0,[])).2.length<=c
  |[],[],_,_,_,_,_=>λ k hk=>by simp at hk
  |v::vs,x::L,X,g,w,hl,h=>by
    have e:Parts (v::vs) ((x::L).map (·.2))=Parts vs (L.map (·.2))*Sl 1 v x.2.length (bys x.2):=rfl;rw [e,←star_assoc] at h
    intro k hk
    cases k with
    |zero=>
      obtain ⟨a,cap,h1,h2,_⟩:=sl_have h;exact ⟨a,cap,h1,h2⟩
    |succ k=>exact parts_getD (by simpa using hl) h.left k (by simpa using hk)
theorem parts_rsL {vs:List Value}{L:List (Nat×List Nat)}{k:Nat}(h:vs.length=L.length)(hk:k<L.length){b:Option Addr}{c:Nat}(he:vs.getD k (.slice none 0 0)= .slice b (L.getD k (0,[])).2.length c)(A:SP):Rs (A*Parts vs (L.map (·.2))) b (bys (L.getD k (0,[])).2):=by
  have e1:L.getD k (0,[])=L[k]:=(by rw [List.getD_eq_getElem?_getD,List.getElem?_eq_getElem hk];rfl);have e2:(L.map (·.2))[k]'(by rw [List.length_map];exact hk)=L[k].2:=(by rw [List.getElem_map]);rw [e1] at he ⊢
  rw [←e2] at he ⊢
  exact parts_rs (by rw [List.length_map];exact h) (by rw [List.length_map];exact hk) he A
theorem getD_mem {L:List (Nat×List Nat)}{k:Nat}(hk:k<L.length):L.getD k (0,[])∈L:=by
  rw [List.getD_eq_getElem?_getD,List.getElem?_eq_getElem hk];exact List.getElem_mem hk
theorem fl1_wf {p:Int}{s:DevS}(hw:WfD s):WfD (fl1 p s).2:=by
  unfold fl1
  split
  . exact hw
  exact doneS_wf (flushS_wf hw)
theorem sto_wf {p:Int}{b:List Nat}{s:DevS}(hw:WfD s)(hb:∀x∈b,x<256)(hr:Room b.length s):WfD (sto p b s).2:=by
  unfold sto
  split
  . exact hw
  exact (storeF_room b.length (r:=0) rfl hw hb (λ l hl=>by have:=hr l hl;omega)).2
theorem Records_w {A R:SP}{C:SP->SP}{d:Nat}{s:DevS}(hc:Ct A (Dev d s) R C:=by exact cbqz){bl at_ sz:Nat}(hl:Has R bl (cl (lcs11 d at_ sz) 258):=by exact hbqz)(hlw:LogW (s.ls.length*64) at_ sz:=by assumption){L:List (Nat×List Nat)}{e:Int}(hX:recordsS at_ sz s=(L,e)):Fn Tryz.prog 170 #[pz bl] A (λ r B=>∃a2 c2 vs,r= .tuple #[.slice a2 L.length c2,.int .i64 e]/\ L.length<=c2/\ vs.length=L.length/\ B=C (Dev d s)*Parts vs (L.map (·.2))*Sl 2 (.slice a2 L.length c2) L.length (kcl L vs)):=by
  have h:=Records_c hc hl hlw;rw [hX] at h
  exact h
theorem need_val:∀{l:List (Int×Int)} {s:Int},(∀x∈l,1<=x.2/\ x.2<=4194304)->0<=s->s+(needN l:Nat)<=4611686018427387904->needF (lensX l) s=(s+(needN l:Nat),0)
  |[],s,_,_,_=>by
    show (s,(0:Int))=(s+((0:Nat):Int),0)
    rw [show s+((0:Nat):Int)=s by omega]
  |x::l,s,hx,h0,hs=>by
    have h1:=hx x (by simp);obtain ⟨n,hn⟩:=Int.eq_ofNat_of_zero_le (show 0<=x.2 by omega);have hc:lensX (x::l)=(n:Int)::lensX l:=(by unfold lensX;rw [List.map_cons,hn]);have hu:=up8_le n;have e:rndS n=(((up8 n:Nat):Int),0):=(by unfold rndS;have:pad8 n<8:=(by unfold pad8;omega);rw [if_neg oqz]);rw [needN_cons,hn,Int.toNat_natCast] at hs ⊢
    rw [hc,needF_cons oqz,e,if_neg (by simp only [ne_eq,not_true,false_or];omega)]
    simp only
    rw [need_val (λ x hx'=>hx x (List.mem_cons_of_mem _ hx')) oqz oqz]
    congr 1;omega
theorem need_may {n at_ sz:Nat}{l:List (Int×Int)}(hn:n<=4194304)(hl:l.all (mayX n at_ sz)=true)(hN:needN l<=4194304):needS (lensX l)=(((needN l:Nat):Int),0):=by
  unfold needS
  rw [need_val (λ x hx=>by obtain ⟨p,m,rfl,_,h1,h2,_⟩:=may_nat (List.all_eq_true.1 hl x hx);exact ⟨by show (1:Int)<=(m:Int);omega,by show (m:Int)<=4194304;omega⟩) (by decide) oqz]
  congr 1;omega
def oldsL (I:List Nat)(l:List (Int×Int)):List (Nat×List Nat):=l.map λ x=>(x.1.toNat,(I.drop x.1.toNat).take x.2.toNat)
theorem records_none {at_ sz:Nat}{s:DevS}(hO:s.off=false)(hlw:LogW (s.ls.length*64) at_ sz)(h1:nm (((imgS s).drop at_).take 8)=0):recordsS at_ sz s=([],0):=by
  have ht:=hlw.top;have hsz:=hlw.s;have ham:=hlw.am
  unfold recordsS
  rw [if_neg (by rw [hO];decide),word_in hO oqz oqz,h1];rfl
def wrI1 (at_:Nat)(I:List Nat)(l:List (Int×Int)):List Nat:=spl I (at_+64) (recsB I l)
def wrI (at_:Nat)(I:List Nat)(l:List (Int×Int)):List Nat:=spl (wrI1 at_ I l) at_ (le 8 l.length)
theorem flL_loss {X:Nat->List Nat->Prop}:∀ (k q:Nat) (s:DevS),WfD s->s.off=false->Poss X s->q+k<=s.ls.length→
    ∃e s2,flL k q s=(e,s2)/\ ((e=0/\ s2.off=false/\ WfD s2/\ s2.ls=flsh k q s.ls)∨(e=5/\ Lost X s.ls.length s2))
  |0,q,s,hw,hO,hP,h=>⟨0,s,rfl,.inl ⟨rfl,hO,hw,(flsh_zero q s.ls).symm⟩⟩
  |k+1,q,s,hw,hO,hP,h=>by
    have hq:q<s.ls.length:=(by omega)
    have hs:flushS (q*64) s={ s with ls:=s.ls.set q (flushL s.ls[q]) }:=by
      unfold flushS;rw [show q*64/64=q by omega,onLine_at hq]
    have hwF:=flushS_wf (p:=q*64) hw
    have hPF:Poss X (flushS (q*64) s):=poss_sub hP λ j l' hl'=>by
      rw [hs] at hl'
      by_cases e:q=j
      . subst e;rw [List.getElem?_set_self hq] at hl'
        have:=Option.some.inj hl';subst this;exact ⟨_,List.getElem?_eq_getElem hq,λ σ h=>h⟩
      rw [List.getElem?_set_ne e] at hl'
      exact ⟨l',hl',λ σ h=>h⟩
    have hlF:(flushS (q*64) s).ls.length=s.ls.length:=(by rw [hs];simp)
    have hf1:fl1 ((q*64:Nat):Int) s=(doneE (flushS (q*64) s),doneS (flushS (q*64) s)):=by
      unfold fl1
      rw [hO,rdy_ok oqz oqz oqz,if_neg (by simp),Int.toNat_natCast]
    show∃e s2,(if (fl1 ((q*64:Nat):Int) s).1≠0 then fl1 ((q*64:Nat):Int) s else flL k (q+1) (fl1 ((q*64:Nat):Int) s).2)=(e,s2)/\ _
    rw [hf1]
    rcases done_loss hwF hPF with ⟨h1,h2,h3⟩|⟨h1,h2⟩
    . simp only []
      rw [h1,if_neg (by decide)]
      obtain ⟨e,s2,g1,g2⟩:=flL_loss (X:=X) k (q+1) (doneS (flushS (q*64) s)) (doneS_wf hwF) (by rw [h3,hs];exact hO) (λ j l hl σ hσ=>by rw [h2] at hl;exact hPF j l hl σ hσ) (by rw [h2,hlF];omega);refine ⟨e,s2,g1, ?_⟩
      rcases g2 with ⟨a1,a2,a3,a4⟩|⟨a1,a2⟩
      . exact .inl ⟨a1,a2,a3,by rw [a4,h2,hs];simp only [];rw [flsh_step hq]⟩
      exact .inr ⟨a1,by rw [h2,hlF] at a2;exact a2⟩
    simp only []
    rw [h1,if_pos (by decide)]
    exact ⟨5,_,rfl,.inr ⟨rfl,by rw [hlF] at h2;exact h2⟩⟩
def Mkd (j:Nat)(s:DevS):Prop:=∀l,s.ls[j]? =some l->l.mark=(l.st.length:Int)-1
def InX (L:List (Nat×List Nat))(i:Nat):Prop:=∃x∈L,x.1<=i/\ i<x.1+x.2.length
def XU (L:List (Nat×List Nat))(I:List Nat)(q:Nat)(c:List Nat):Prop:=∀j,j<64->¬InX L (q*64+j)->c[j]? =I[q*64+j]?
structure AS (L:List (Nat×List Nat)) (I:List Nat) (s:DevS):Prop where
  wf:WfD s
  len:I.length=s.ls.length*64
  poss:Poss (XU L I) s
  one:∀ (q:Nat) (l:LineS),(∀i,InX L i->i/64≠q)->s.ls[q]? =some l->l.st.length=1
theorem AS.img {L:List (Nat×List Nat)}{I:List Nat}{s:DevS}(h:AS L I s){i:Nat}(hi:¬InX L i):(imgS s)[i]? =I[i]? :=by
  have hil:=imgS_len h.wf;have hl:=h.len
  rcases Nat.lt_or_ge i (s.ls.length*64) with h1|h1
  . have:=poss_img h.wf h.poss (q:=i/64) oqz (i%64) oqz (by rw [show i/64*64+i%64=i by omega];exact hi);rw [chunk_at oqz,show i/64*64+i%64=i by omega] at this
    exact this
  rw [List.getElem?_eq_none oqz,List.getElem?_eq_none oqz]
theorem AS.sub {L:List (Nat×List Nat)}{I:List Nat}{s:DevS}(h:AS L I s){p m:Nat}(hd:∀i,p<=i->i<p+m->¬InX L i):((imgS s).drop p).take m=(I.drop p).take m:=by
  apply List.ext_getElem?
  intro i;rw [List.getElem?_take,List.getElem?_take]
  split
  . rw [List.getElem?_drop,List.getElem?_drop];exact h.img (hd _ oqz oqz)
  rfl
theorem as_lost {L:List (Nat×List Nat)}{I:List Nat}{n:Nat}{s:DevS}(h:Lost (XU L I) n s)(hI:I.length=n*64):AS L I s:=by
  obtain ⟨_,h2,h3,h4,h5⟩:=h;exact ⟨h2,by rw [h5];exact hI,h4,λ q l _ hl=>h3 l (List.mem_of_getElem? hl)⟩
theorem as_cln {L:List (Nat×List Nat)}{I:List Nat}{s:DevS}(hw:WfD s)(hc:Cln s)(hI:imgS s=I):AS L I s:=
  ⟨hw,by rw [←hI];exact imgS_len hw,poss_cln hw hc λ q hq j hj _=>by rw [chunk_at hj,hI],λ q l _ hl=>hc l (List.mem_of_getElem? hl)⟩
theorem xu_spl {L:List (Nat×List Nat)}{I:List Nat}{s:DevS}(h:AS L I s){p:Nat}{b:List Nat}(hp:p+b.length<=s.ls.length*64)(hin:∀i,p<=i->i<p+b.length->InX L i):∀k j,0<k->k<=b.length->j<s.ls.length->XU L I j (chunk j (spl (imgS s) p (b.take k))):=λ k j _ k1 hj i hi hn=>by
  have hil:=imgS_len h.wf;have hkl:(b.take k).length=k:=(by rw [List.length_take];omega);rw [chunk_at hi,spl_at oqz,if_neg (λ hc=>hn (hin _ hc.1 oqz))]
  exact h.img hn
structure Got (D:List (Nat×List Nat)) (I:List Nat) (s:DevS):Prop where
  img:∀i,InX D i->(imgS s)[i]? =I[i]?
  mkd:∀i,InX D i->Mkd (i/64) s
def armP (after:Int)(keep:List Int)(Q:PlS):PlS:={ Q with s:={ Q.s with arms:=[(after,keep)],cnt:=Q.s.ops } }
structure ArmStep (after:Int) (keep:List Int) (P':Bool×PlS) (Q:PlS) (Q':Bool×PlS):Prop where
  ok:Q'.1=true
  ops:P'.2.s.ops=Q'.2.s.ops
  near:Q'.2.s.ops=Q.s.ops∨Q'.2.s.ops=Q.s.ops+1
  on:Q'.2.s.ops≠after->P'=(true,armP after keep Q'.2)
  gone:Q'.2.s.ops=after->P'.1=false/\ P'.2.s.off=true/\ P'.2.s.arms=[]/\ P'.2.s.ls=(goesS keep Q'.2.s).ls
theorem WfP.mono {r r':Nat}{P:PlS}(h:WfP r P)(hr:r'<=r):WfP r' P:=⟨h.pos,h.top,h.ls,h.seen,h.held,h.last,h.sure,λ l hl=>by have:=h.room l hl;omega,λ l hl=>by have:=h.hroom l hl;omega⟩
theorem spl_drop_ge {α:Type}{l b:List α}{p k:Nat}(h:p+b.length<=l.length)(hk:p+b.length<=k):(spl l p b).drop k=l.drop k:=by
  apply List.ext_getElem?
  intro i;rw [List.getElem?_drop,List.getElem?_drop,spl_at h,if_neg oqz]
def rise (n:Nat):List Nat:=(List.range n).map λ i=>i%256
def mdK (k:Nat):List Nat:=spl (rise 1024) 128 (List.replicate k 0)
def mdI:List Nat:=mdK 8
def mds:DevS:=fromS 16 mdI
theorem room_cln {s:DevS}(h:Cln s){k:Nat}(hk:k<=2199023255551):Room k s:=λ l hl=>by rw [h l hl];omega
def LogI (sz:Nat)(l:List (Int×Int))(I:List Nat):Prop:=nm ((I.drop 128).take 8)=l.length/\ (I.drop 192).take (needN l)=recsB mdI l/\ I.length=1024/\ Out 128 (128+sz) I mdI
theorem as_sto {L:List (Nat×List Nat)}{I:List Nat}{p r:Nat}{b:List Nat}{s:DevS}(hA:AS L I s)(hO:s.off=false)(hp:p+b.length<=s.ls.length*64)(hin:∀i,p<=i->i<p+b.length->InX L i)(hb:∀x∈b,x<256)(hr:Room (r+b.length) s):
    ∃e s2,sto (p:Nat) b s=(e,s2)/\ ((e=0/\ s2.off=false/\ AS L I s2/\ s2.ls.length=s.ls.length/\ Room r s2/\ imgS s2=spl (imgS s) p b)∨(e=5/\ s2.off=true/\ AS L I s2/\ s2.ls.length=s.ls.length)):=by
  by_cases hb0:b=[]
  . subst hb0;refine ⟨0,s, ?_,.inl ⟨rfl,hO,hA,rfl,λ l hl=>by have:=hr l hl;omega,(spl_nil _ _).symm⟩⟩
    simp only [List.length_nil] at hp
    unfold sto;rw [hO,rdy_ok oqz (by simp) (by simp only [List.length_nil];omega),if_neg (by decide)];exact storeF_nil _ _ _
  have hbl:0<b.length:=List.length_pos_iff.2 hb0;obtain ⟨e,s1,g1,g2⟩:=storeF_loss (X:=XU L I) b.length (p:=p) (r:=r) rfl hA.wf hO hb hr hp hA.poss (λ k j k0 k1 _ hj=>xu_spl hA hp hin k j k0 k1 hj)
  have hst:sto (p:Nat) b s=(e,s1):=by
    unfold sto;rw [hO,rdy_ok oqz oqz oqz,if_neg (by decide),Int.toNat_natCast];exact g1
  refine ⟨e,s1,hst, ?_⟩
  rcases g2 with ⟨a1,⟨a2,a3,a4,a5,a6⟩,a7,a8⟩|⟨a1,a2⟩
  . refine .inl ⟨a1,a2,⟨a3,by rw [a5];exact hA.len,a4,λ q ln hq hln=> ?_⟩,a5,a7,a8⟩
    by_cases hj:(q+1)*64<=p∨p+b.length<=q*64
    . rw [a6 q hj] at hln;exact hA.one q ln hq hln
    exact absurd (show max p (q*64)/64=q by omega) (hq (max p (q*64)) (hin _ oqz oqz))
  exact .inr ⟨a1,a2.1,as_lost a2 hA.len,a2.2.2.2.2⟩
theorem olds_mem {I:List Nat}{l:List (Int×Int)}{x:Nat×List Nat}(h:x∈oldsL I l):∃y∈l,x=(y.1.toNat,(I.drop y.1.toNat).take y.2.toNat):=by
  obtain ⟨y,hy,rfl⟩:=List.mem_map.1 h;exact ⟨y,hy,rfl⟩
theorem pair_eq {α β:Type}{x:α×β}{a c:α}{b d:β}(h1:x=(a,b))(h2:x=(c,d)):a=c/\ b=d:=by
  rw [h1] at h2;simpa using h2
def NoL (A:SP)(v:Value):Prop:=v= .pointer none∨∃b,v=(pz b)/\ Has A b (cl [.pointer none,.int .i64 0,.int .i64 0] 258)
theorem NoL.left {A X:SP}{v:Value}(h:NoL A v):NoL (A*X) v:=h.imp id λ ⟨b,e,hc⟩=>⟨b,e,has_left hc⟩
attribute [local irreducible] crk crL crc Sl pt ro Dev imgS recS readS recsF rdW rdO rkT Parts rvl recordsS mdI mdK rise mds writeS rollS
end Go.Vl

namespace Go.Vl
open Go Go.Proofs Go.Proofs.Tryz
def lst (xs:List Int)(i:Nat):List (Int×Int):=(xs.take i).map λ x=>((600:Int),1+x%90)
theorem xcl_nil:xcl []=[]:=rfl
def brN (x:Int×Int):Int:=1+(IntKind.i64.wrap (x.2-1))%40
def brX (x:Int×Int):Int×Int:=(if 256<=x.1∨x.1<0 then 512+x.1%(512-brN x+1) else 64+x.1%(64-brN x+1),brN x)
def brL (es:List (Int×Int))(i:Nat):List (Int×Int):=(es.take i).map brX
def fiveX (k:Nat):List (Int×Int):=(List.range k).map λ i:Nat=>((64:Int),1+(i:Int))
def PsR (A:SP)(L:List (Nat×List Nat))(vs:List Value):Prop:=∀k,k<L.length->∃b c,vs.getD k (.slice none 0 0)= .slice b (L.getD k (0,[])).2.length c/\ Rs A b (bys (L.getD k (0,[])).2)/\ (L.getD k (0,[])).2.length<=4294967296
theorem psr_of {A:SP}{L:List (Nat×List Nat)}{vs:List Value}(h1:vs.length=L.length)(h2:∀k,k<L.length->∃b c,vs.getD k (.slice none 0 0)= .slice b (L.getD k (0,[])).2.length c/\ (L.getD k (0,[])).2.length<=c)(h3:∀x∈L,x.2.length<=4294967296):PsR (A*Parts vs (L.map (·.2))) L vs:=λ k hk=>by
  obtain ⟨b,c,e,_⟩:=h2 k hk;exact ⟨b,c,e,parts_rsL h1 hk e A,h3 _ (getD_mem hk)⟩
theorem PsR.left {A X:SP}{L:List (Nat×List Nat)}{vs:List Value}(h:PsR A L vs):PsR (A*X) L vs:=λ k hk=>by
  obtain ⟨b,c,e,hr,hl⟩:=h k hk;exact ⟨b,c,e,hr.left,hl⟩
theorem kcl_nil:kcl [] []=[]:=rfl
def kpR (kp:List Int)(i:Nat):List Int:=(kp.take i).map λ x=>x%1000
theorem flatG {α:Type}{f:α->List Value}:∀{Cs:List (List Value)} {xs:List α} (_:Cs.length=xs.length) (_:∀i (h:i<xs.length) (h':i<Cs.length),Cs[i]=f xs[i]),Cs.flatten=xs.flatMap f
  |[],[],_,_=>rfl
  |c::Cs,x::xs,hl,h=>by
    have h0:=h 0 (by simp) (by simp)
    simp only [List.getElem_cons_zero] at h0
    rw [List.flatten_cons,h0,flatG (f:=f) (Cs:=Cs) (xs:=xs) (by simpa using hl) (λ i hi hi'=>h (i+1) (by simpa using hi) (by simpa using hi')),List.flatMap_cons]
def PXts (A:SP)(cs:List Value)(es:List (Int×Int)):Prop:=∃a c,cs=[.slice a es.length c]/\ es.length<=c/\ es.length<=8796093022208/\ Rs A a (xcl es)/\∀x∈es,XW x
structure Ar1 where
  af:Int
  a:Option Addr
  c:Nat
  kp:List Int
def Ar1.cells (x:Ar1):List Value:=[.int .i64 x.af,.slice x.a x.kp.length x.c]
def PArs (A:SP)(cs:List Value)(p:List Value×List (Int×List Int)):Prop:=∃a c,cs=[.slice a p.2.length c]/\ p.2.length<=c/\ p.2.length<=4398046511104/\ RdA A a p.1 p.2/\∀x∈p.2,(-9223372036854775808<=x.1/\ x.1<=9223372036854775807)/\ x.2.length<=17592186043904/\∀k∈x.2,-9223372036854775808<=k/\ k<=9223372036854775807
structure Chg where
  q:Int
  p:Int
  a:Option Addr
  c:Nat
  b:List Nat
  fl:Bool
  fe:Bool
def Chg.cells (x:Chg):List Value:=[.int .i64 x.q,.int .i64 x.p,.slice x.a x.b.length x.c,.bool x.fl,.bool x.fe]
structure ChgW (A:SP) (x:Chg):Prop where
  q:(-9223372036854775808<=x.q/\ x.q<=9223372036854775807)
  p:(-9223372036854775808<=x.p/\ x.p<=9223372036854775807)
  cap:x.b.length<=x.c
  len:x.b.length<=140737488351232
  rs:Rs A x.a (bys x.b)
  by_:∀y∈x.b,y<256
theorem ChgW.left {A X:SP}{x:Chg}(h:ChgW A x):ChgW (A*X) x:=⟨h.q,h.p,h.cap,h.len,h.rs.left,h.by_⟩
def chl (l:List Chg):List Value:=l.flatMap Chg.cells
def PChs (A:SP)(cs:List Value)(l:List Chg):Prop:=∃a c,cs=[.slice a l.length c]/\ l.length<=c/\ l.length<=2932031007403/\ Rs A a (chl l)/\∀x∈l,ChgW A x
structure Stx where
  es:List (Int×Int)
  ch:List Chg
  kvs:List Value
  ars:List (Int×List Int)
  lg:Bool
def PSto (A:SP)(cs:List Value)(t:Stx):Prop:=∃v1 v2 v3,cs=[v1,v2,v3,.bool t.lg]/\ PXts A [v1] t.es/\ PChs A [v2] t.ch/\ PArs A [v3] (t.kvs,t.ars)
def XIn (x:Int×Int):Prop:=1<=x.2/\ x.2<=40/\ ((64<=x.1/\ x.1+x.2<=128)∨(512<=x.1/\ x.1+x.2<=1024))
structure CSt (X:List (Int×Int)) (I:List Nat) (r:Nat) (s:DevS):Prop where
  ast:AS (oldsL mdI X) I s
  len:s.ls.length=16
  room:Room r s
structure Clr (I:List Nat) (s:DevS):Prop where
  wf:WfD s
  cln:Cln s
  img:imgS s=spl I 128 (le 8 0)
  len:s.ls.length=16
structure Trn (X:List (Int×Int)) (I:List Nat) (s:DevS):Prop where
  room:Room 385 s
  ast:(X≠[]/\ AS (oldsL mdI X) I s/\ s.ls.length=16)∨Clr I s
def Ar1.pr (x:Ar1):Int×List Int:=(x.af,x.kp)
def ownR (x:Ar1):SP:=Sl 1 (.slice x.a x.kp.length x.c) x.kp.length (ints x.kp)
def brA (x:Int×List Int):Int×List Int:=(1+x.1%60,x.2.map λ k=>k%1000)
structure ArP (xs:List Ar1) (ars:List (Int×List Int)):Prop where
  mp:xs.map Ar1.pr=ars.map brA
  cp:∀x∈xs,x.kp.length<=x.c
def ArB (a:Option Addr)(c n:Nat)(xs:List Ar1):SP:=Sl 2 (.slice a n c) n (xs.flatMap Ar1.cells)*Bs ownR xs
structure ChgV (A:SP) (x:Chg):Prop where
  q: -9223372036854775808<=x.q/\ x.q<=9223372036854775807
  p: -9223372036854775808<=x.p/\ x.p<=9223372036854775807
  cap:x.b.length<=x.c
  rs:Rs A x.a (bys x.b)
  by_:∀y∈x.b,y<256
theorem ChgV.left {A X:SP}{x:Chg}(h:ChgV A x):ChgV (A*X) x:=⟨h.q,h.p,h.cap,h.rs.left,h.by_⟩
def ArOk (ars:List (Int×List Int)):Prop:=∀x∈ars,(-9223372036854775808<=x.1/\ x.1<=9223372036854775807)/\ x.2.length<=1099511627776/\∀k∈x.2,-9223372036854775808<=k/\ k<=9223372036854775807
theorem phi_arms (s:DevS):s.arms.length<=phi s:=Nat.le_add_right _ _
def PXtU (A:SP)(cs:List Value)(es:List (Int×Int)):Prop:=∃a c,cs=[.slice a es.length c]/\ es.length<=c/\ Rs A a (xcl es)/\∀x∈es,XW x
def PArU (A:SP)(cs:List Value)(p:List Value×List (Int×List Int)):Prop:=∃a c,cs=[.slice a p.2.length c]/\ p.2.length<=c/\ RdA A a p.1 p.2/\∀x∈p.2,(-9223372036854775808<=x.1/\ x.1<=9223372036854775807)/\∀k∈x.2,-9223372036854775808<=k/\ k<=9223372036854775807
def PChU (A:SP)(cs:List Value)(l:List Chg):Prop:=∃a c,cs=[.slice a l.length c]/\ l.length<=c/\ Rs A a (chl l)/\∀x∈l,ChgV A x
def PStU (A:SP)(cs:List Value)(t:Stx):Prop:=∃v1 v2 v3,cs=[v1,v2,v3,.bool t.lg]/\ PXtU A [v1] t.es/\ PChU A [v2] t.ch/\ PArU A [v3] (t.kvs,t.ars)
def Stx.sz (t:Stx):Nat:=t.es.length+(t.ch.map λ x=>x.b.length+1).sum+(t.ars.map λ x=>x.2.length+1).sum
def GrK (k:Nat)(v:Value)(n:Nat)(xs:List Value)(v':Value)(m:Nat)(ys:List Value):SP:=λ h=>
  (∃a c,v= .slice a n c/\ v'= .slice a m c/\ n<=m/\ xs=ys.take (n*k)/\ Sl k v' m ys h)∨(Sl k v n xs*Sl k v' m ys) h
def ilv {α:Type}:List α->List α->List α
  |x::xs,y::ys=>x::y::ilv xs ys
  |_,_=>[]
def pc (x:Int×Value):List Value:=[.int .i64 x.1,x.2]
def pcl (l:List (Int×Value)):List Value:=l.flatMap pc
def rpl (n:Nat)(k:Int):List (Int×Value):=List.replicate n (k,.slice none 0 0)
def kz:List (Nat×List Nat)->List Value->List (Int×Value)
  |x::l,v::vs=>((x.1:Nat),v)::kz l vs
  |_,_=>[]
attribute [local irreducible] crk crL crc Sl pt ro Dev imgS recS readS recsF rdW rdO rkT Parts rvl recordsS mdI mdK rise mds writeS rollS clearS oldsL kcl xcl RDev
theorem rRound8_c {A:SP}{n:Nat}(hn:n<=9223372036854775807:=by omega):
    Fn Tryz.prog 339 #[vn n,.int .i64 8] A (λ r B=>r= .tuple #[.int .i64 (rndS n).1,.int .i64 (rndS n).2]/\ A=B):=by
  refine fn_enterW func339 rfl ntmps339 (by simp) ?_;have hp8:pad8 n<8:=(by unfold pad8;omega);refine Zdi ?_;refine Zcn ?_;refine tl_bool (d:=9) rfl dbq (sbq ?_);intro h;refine Zc8 ?_;refine Zdz ?_;intro h;refine Zfm ?_;refine tv (o_remN (b:=8) rfl rfl (by decide)) ?_;refine tl_env (d:=15) (v:=(vn (n%8))) (rfl) ?_;refine Zy ?_;refine Zdd ?_;refine tc_cond rfl (λ h=> ?_) (λ h=> ?_)
  . have g17:n%8=0:=(by first|(have h9:=of_decide_eq_true h;omega)|(simp at h;omega));refine Zhe ?_;have e:rndS n=((n:Int),0):=(by unfold rndS up8;have:pad8 n=0:=(by unfold pad8;omega);rw [this,if_neg oqz];rfl);rw [e]
    exact ⟨.tuple #[vn n,.int .i64 0],A,res2 rfl rfl rfl,Dr.sat drqz,rfl,rfl⟩
  have g17:¬n%8=0:=(by first|(have h9:=of_decide_eq_false h;omega)|(simp at h;omega));have hpp:pad8 n=8-n%8:=(by unfold pad8;omega);refine Zcr ?_;refine Zgm ?_;refine tv (o_subI rfl rfl oqz) ?_;refine Zd8 ?_;refine tc_cond rfl (λ h=> ?_) (λ h=> ?_)
  . have g24:9223372036854775807<n+pad8 n:=(by first|(have h9:=of_decide_eq_true h;omega)|(simp at h;omega));refine Zhf ?_;have e:rndS n=(0,2):=(by unfold rndS;rw [if_pos g24]);rw [e]
    exact ⟨.tuple #[.int .i64 0,.int .i64 2],A,res2 rfl rfl rfl,Dr.sat drqz,rfl,rfl⟩
  have g24:¬9223372036854775807<n+pad8 n:=(by first|(have h9:=of_decide_eq_false h;omega)|(simp at h;omega));refine Zb2 ?_;refine Zgm ?_;refine tv (o_addI rfl rfl oqz) ?_;refine tl_env (d:=29) (v:=(vn (up8 n))) (by show Value.int .i64 ((n:Int)+(8-((n%8:Nat):Int)))=_;congr 1;unfold up8;omega) ?_;refine Z6 ?_;have e:rndS n=(((up8 n:Nat):Int),0):=(by unfold rndS;rw [if_neg g24]);rw [e]
  exact ⟨.tuple #[vn (up8 n),.int .i64 0],A,res2 rfl rfl rfl,Dr.sat drqz,rfl,rfl⟩
theorem Zig {p r:Prop}(k:r)(h:Kq r->p:=by intro k;refine Zbj ?_;refine Zbb ?_;exact k.o):p:=h ⟨k⟩
theorem rOpen_okf (A:SP){r:Nat}{lv av:Value}{rls:List RL}{s:DevS}(hR:RdevR A r lv rls av s){p q:Int}(hp: -9223372036854775808<=p/\ p<=9223372036854775807)(hq: -9223372036854775808<=q/\ q<=9223372036854775807)(hok:(64<=p/\ p%64=0/\ 128<=q/\ q%64=0/\ p<=(s.ls.length:Int)*64/\ q<=(s.ls.length:Int)*64-p)):
    Fn Tryz.prog 90 #[pz r,.int .i64 p,.int .i64 q] A (λ v B=>∃X,B=A*X/\∃b,v= .tuple #[pz b,.int .i64 0]/\ X=pt b (cl [pz r,.int .i64 p,.int .i64 q] 267)):=by
  refine fn_enterW func90 rfl ntmps90 (by simp) ?_;have htop:=hR.wf.top;refine Zdi ?_;refine tv (o_eqp underlying47 rfl rfl) ?_;refine Zq ?_;intro h;refine Zdm ?_;refine tc_seq ?_;refine tc_cut (λ ρ BB=>∃ (bb:Bool),(bb=decide (¬(64<=p/\ p%64=0/\ 128<=q/\ q%64=0/\ p<=(s.ls.length:Int)*64/\ q<=(s.ls.length:Int)*64-p)))/\ ρ 43= .bool bb/\ ρ 0=(pz r)/\ ρ 1= .int .i64 p/\ ρ 2= .int .i64 q/\ BB=A) ?_ ?_
  . skip
    refine Zbr ?_;refine Zcn ?_;refine tl_bool (d:=12) rfl (λ h=> ?_) (λ h=> ?_)
    . have g12:(p<64):=(by first|exact of_decide_eq_true h|(have h2:=h;simp at h2;omega)|simpa using h);refine Zc5 ?_;refine Z1 ?_;refine Zp ?_;refine Z1 ?_;refine Zga ?_;refine Zp ?_;refine Zeg ?_;refine Zig ?_;exact ⟨_,by first|exact (decide_eq_true oqz).symm|exact (decide_eq_false oqz).symm|(rw [decide_eq_decide];omega),rfl,rfl,rfl,rfl,rfl⟩
    have g12:¬(p<64):=(by first|exact of_decide_eq_false h|(have h2:=h;simp at h2;omega)|simpa using h);refine Zdw ?_;refine Zhi ?_;refine tl_bool (d:=17) rfl (λ h=> ?_) (λ h=> ?_)
    . have g17:(p<64∨p%64≠0):=(by first|exact of_decide_eq_true h|(have h2:=h;simp at h2;omega)|simpa using h);refine Zp ?_;refine Z1 ?_;refine Zga ?_;refine Zp ?_;refine Zeg ?_;refine Zig ?_;exact ⟨_,by first|exact (decide_eq_true oqz).symm|exact (decide_eq_false oqz).symm|(rw [decide_eq_decide];omega),rfl,rfl,rfl,rfl,rfl⟩
    have g17:¬(p<64∨p%64≠0):=(by first|exact of_decide_eq_false h|(have h2:=h;simp at h2;omega)|simpa using h);refine Zhy ?_;refine tl_bool (d:=21) rfl (λ h=> ?_) (λ h=> ?_)
    . have g21:(p<64∨p%64≠0∨q<128):=(by first|exact of_decide_eq_true h|(have h2:=h;simp at h2;omega)|simpa using h);refine Zga ?_;refine Zp ?_;refine Zeg ?_;refine Zig ?_;exact ⟨_,by first|exact (decide_eq_true oqz).symm|exact (decide_eq_false oqz).symm|(rw [decide_eq_decide];omega),rfl,rfl,rfl,rfl,rfl⟩
    have g21:¬(p<64∨p%64≠0∨q<128):=(by first|exact of_decide_eq_false h|(have h2:=h;simp at h2;omega)|simpa using h);refine Zdw ?_;refine Zhi ?_;refine tl_bool (d:=26) rfl (λ h=> ?_) (λ h=> ?_)
    . have g26:(p<64∨p%64≠0∨q<128∨q%64≠0):=(by first|exact of_decide_eq_true h|(have h2:=h;simp at h2;omega)|simpa using h);refine Zh7 ?_;refine Zeg ?_;refine Zig ?_;exact ⟨_,by first|exact (decide_eq_true oqz).symm|exact (decide_eq_false oqz).symm|(rw [decide_eq_decide];omega),rfl,rfl,rfl,rfl,rfl⟩
    have g26:¬(p<64∨p%64≠0∨q<128∨q%64≠0):=(by first|exact of_decide_eq_false h|(have h2:=h;simp at h2;omega)|simpa using h);refine Zt ?_;refine Zcf ?_;refine tv (o_ldP (a:=some ⟨r,0,none⟩) (i:=0) p3 rfl (by repeat (first|exact hR.d|apply Rs.left)) rfl) ?_;refine tl_env (d:=31) (v:= .int .i64 ((s.ls.length:Int)*64)) (by show Value.int .i64 ((s.ls.length*64:Nat):Int)=_;congr 1) ?_;refine Zhg ?_;refine tl_bool (d:=34) rfl (λ h=> ?_) (λ h=> ?_)
    . have g34:(p<64∨p%64≠0∨q<128∨q%64≠0∨(s.ls.length:Int)*64<p):=(by first|exact of_decide_eq_true h|(have h2:=h;simp at h2;omega)|simpa using h);refine Zbj ?_;refine Zig ?_;exact ⟨_,by first|exact (decide_eq_true oqz).symm|exact (decide_eq_false oqz).symm|(rw [decide_eq_decide];omega),rfl,rfl,rfl,rfl,rfl⟩
    have g34:¬(p<64∨p%64≠0∨q<128∨q%64≠0∨(s.ls.length:Int)*64<p):=(by first|exact of_decide_eq_false h|(have h2:=h;simp at h2;omega)|simpa using h);refine Zt ?_;refine Zcf ?_;refine tv (o_ldP (a:=some ⟨r,0,none⟩) (i:=0) p3 rfl (by repeat (first|exact hR.d|apply Rs.left)) rfl) ?_;refine tl_env (d:=39) (v:= .int .i64 ((s.ls.length:Int)*64)) (by show Value.int .i64 ((s.ls.length*64:Nat):Int)=_;congr 1) ?_;refine Zc0 ?_;refine Zf3 ?_;exact ⟨_,by first|exact (decide_eq_true oqz).symm|exact (decide_eq_false oqz).symm|(rw [decide_eq_decide];omega),rfl,rfl,rfl,rfl,rfl⟩
  intro ρ B hI;obtain ⟨bb,hbb0,hE43,hE0,hE1,hE2,hBA⟩:=hI;obtain rfl:=hBA.symm;refine q_then_n ?_;refine te 43 hE43 ?_;refine te 0 hE0 ?_;refine te 1 hE1 ?_;refine te 2 hE2 ?_;refine tc_cond rfl (λ h=> ?_) (sbq ?_)
  . exfalso;rw [h] at hbb0;have:=of_decide_eq_true hbb0.symm;omega
  intro h;refine Zh8 ?_;refine tv (o_bS (l:=[_,_,_]) (pv_cons wqz (pv_cons wqz (pv_cons wqz pv_nil))) underlying267 z267 (pl267 underlying267) rfl) ?_;refine tl_x rfl (o_box rfl rfl) ?_;rintro _ _ ⟨b48,rfl,rfl⟩;refine Z6 ?_;exact ⟨_,_,res2 rfl rfl rfl,λ _ _ h=>h,_,rfl,b48,rfl,rfl⟩
theorem rOpen_ok {A R:SP}{C:SP->SP}{r:Nat}{s:DevS}(hc:Ct A (RDev r s) R C:=by exact cbqz){p q:Int}(hp: -9223372036854775808<=p/\ p<=9223372036854775807)(hq: -9223372036854775808<=q/\ q<=9223372036854775807)(hok:(64<=p/\ p%64=0/\ 128<=q/\ q%64=0/\ p<=(s.ls.length:Int)*64/\ q<=(s.ls.length:Int)*64-p):=by omega):Fn Tryz.prog 90 #[pz r,.int .i64 p,.int .i64 q] A (λ v B=>∃b,v= .tuple #[pz b,.int .i64 0]/\ B=A*pt b (cl [pz r,.int .i64 p,.int .i64 q] 267)):=by
  obtain ⟨rfl,_⟩:=hc;intro g w hs;refine (fn_rdevR (λ A lv rls av hR=>rOpen_okf A hR hp hq hok) g w hs).mono ?_;rintro e w' ⟨v,B,e1,⟨X,rfl,b,rfl,rfl⟩,hB⟩;exact ⟨_,_,e1,⟨b,rfl,rfl⟩,hB⟩
end Go.Vl

namespace Go.Vl
open Go Go.Proofs Go.Proofs.Tryz
theorem cellR0 {R:SP}{r:Nat}{s:DevS}:Cell (R*RDev r s) r 0 ((vn (s.ls.length*64))):=λ g w hs=>by
  obtain ⟨hw,lv,rls,av,kvs,h1,h2,hs'⟩:=rdev_iff.1 hs;obtain ⟨b,o,e,h⟩:=(rdevR_of hw h1 hs').d g w hs' 0 _ rfl
  simp only [Option.some.injEq,Addr.mk.injEq,and_true] at e
  obtain ⟨rfl,rfl⟩:=e;exact h
theorem cellR5 {R:SP}{r:Nat}{s:DevS}:Cell (R*RDev r s) r 5 (.bool s.off):=λ g w hs=>by
  obtain ⟨hw,lv,rls,av,kvs,h1,h2,hs'⟩:=rdev_iff.1 hs;obtain ⟨b,o,e,h⟩:=(rdevR_of hw h1 hs').d g w hs' 5 _ rfl
  simp only [Option.some.injEq,Addr.mk.injEq,and_true] at e
  obtain ⟨rfl,rfl⟩:=e;exact h
def lnK (q k:Nat):List Int:=(List.range k).map λ j=>((q+j:Nat):Int)
attribute [local irreducible] crk crL crc Sl pt ro Dev RDev imgS recS
theorem Zfi {p r:Prop}(k:r)(h:Kq r->p:=by intro k;refine tv (o_ixP1 underlying67 sz5 rfl rfl sq2z sq1z) ?_;refine tv (o_ldP p5 rfl sq6z (by first|assumption|exact bys_at oqz|exact ints_at oqz|exact wds_at oqz|exact bos_at oqz|rfl)) ?_;exact k.o):p:=h ⟨k⟩
theorem Take8R_c {A:SP}{a:Option Addr}{c:Nat}{xs:List Nat}(hr:Rs A a (bys xs):=by exact rbqz)(hm:xs.length=8:=by first|assumption|rfl)(hb:∀x∈xs,x<256:=by assumption):
    Fn Tryz.prog 338 #[.slice a 8 c,.int .i64 0,.int .i64 8] A (λ v B=>v= .tuple #[.int .u64 ((nm xs:Nat):Int),.int .i64 0]/\ A=B):=by
  refine fn_enterW func338 rfl ntmps338 (by simp) ?_;refine Zdi ?_;refine Zcn ?_;refine tl_bool (d:=12) rfl dbq (sbq ?_);intro h;refine Zgz ?_;refine Zhg ?_;refine tl_bool (d:=18) rfl dbq (sbq ?_);intro h;refine Zde ?_;refine Zda ?_;refine Zc8 ?_;refine Zdz ?_;intro h;refine Ze ?_;refine Zcb ?_;refine tv (by first|exact o_subI rfl rfl oqz|exact o_sub rfl rfl) ?_;refine Zhs ?_;refine tc_loop (λ kk ρ BB=>∃ (i:Nat),(i<=8)/\ kk=i/\ ρ 8= .int .u64 ((nm (xs.drop i):Nat):Int)/\ ρ 9= .int .i64 ((i:Int)-1)/\ ρ 0= .slice a 8 c/\ ρ 1= .int .i64 0/\ BB=A) (m:=(8)) ?_ ?_
  . exact ⟨8,by omega,rfl,by rw [List.drop_of_length_le oqz];rfl,rfl,rfl,rfl,rfl⟩
  intro k ρ B hI;obtain ⟨i,hp0,hkk1,hE8,hE9,hE0,hE1,hBA⟩:=hI;obtain rfl:=hBA.symm;refine te 8 hE8 ?_;refine te 9 hE9 ?_;refine te 0 hE0 ?_;refine te 1 hE1 ?_;refine Zm ?_;refine Zhu ?_;refine tc_cond rfl (λ h=> ?_) (sbq ?_)
  . have hi:1<=i:=(by simp at h;omega);have hi2:i-1<xs.length:=(by omega);have e1:xs.drop (i-1)=xs[i-1]::xs.drop i:=(by rw [List.drop_eq_getElem_cons hi2,show i-1+1=i by omega]);have hbb:=nm_bound (λ x hx=>hb x (List.mem_of_mem_drop hx)) (show (xs.drop (i-1)).length<=8 by rw [List.length_drop];omega);rw [e1,nm_snocr] at hbb
    have hx:=hb _ (List.getElem_mem hi2);refine Zbe ?_;refine Zbr ?_;refine tv (o_mulN (b:=256) rfl rfl rfl rfl (by show _<18446744073709551616;omega)) ?_;refine Zt ?_;refine Zcv ?_;refine tl_env (d:=37) (v:=(vn (i-1))) (by show Value.int .i64 _=Value.int .i64 _;congr 1;omega) ?_;refine Zfi ?_;refine tv (by first|exact o_conv64 underlying5 underlying141 rfl|exact o_conv underlying5 underlying141 rfl) ?_;refine tl_env (d:=40) (v:= .int .u64 ((xs[i-1]:Nat):Int)) (congrArg (λ z:Nat=>Value.int .u64 (z:Int)) (Nat.mod_eq_of_lt oqz)) ?_;refine tv (o_addN rfl rfl rfl (by show _<18446744073709551616;omega)) ?_;refine Zc3 ?_;refine Zda ?_;refine Za ?_;exact ⟨_,by omega,i-1,by omega,rfl,by show Value.int .u64 _=Value.int .u64 _;rw [e1,nm_snocr];congr 1;omega,by show Value.int .i64 _=_;congr 1;omega,rfl,rfl,rfl⟩
  intro h;refine Zhb ?_;obtain rfl:i=0:=by simp at h;omega
  exact ⟨.tuple #[.int .u64 ((nm (xs.drop 0):Nat):Int),.int .i64 0],A,res2 rfl rfl rfl,Dr.sat drqz,by rw [List.drop_zero],rfl⟩
theorem Zc4 {p r:Prop}(k:r)(h:Kq r->p:=by intro k;refine tv (o_fieldAddr (o:=0) underlying267 rfl rfl sz47 rfl) ?_;refine tv (o_load p47 rfl haqz rfl) ?_;exact k.o):p:=h ⟨k⟩
theorem rnum_c {A R:SP}{C:SP->SP}{r:Nat}{s:DevS}(hc:Ct A (RDev r s) R C:=by exact cbqz){bk at_ sz:Nat}(hl:Has R bk (cl (lcs11 r at_ sz) 267):=by exact hbqz){q:Nat}(ho:s.off=false:=by assumption)(hq:q+8<=s.ls.length*64:=by omega):
    Fn Tryz.prog 315 #[pz bk,vn q] A (λ v B=>v= .int .u64 ((nm (((imgS s).drop q).take 8):Nat):Int)/\ A=B):=by
  refine fn_enterW func315 rfl ntmps315 (by simp) ?_;refine tc_have (λ _ _ h=>wfR_ct hc h) λ hw=> ?_
  have htop:=hw.top;have hpos:=hw.pos;obtain ⟨rfl,hC⟩:=hc;have hAC:∀g w,sat g w (R*RDev r s)->sat g w (C (RDev r s)):=λ g w h=>by rw [hC];exact h
  have hil:=imgS_len hw;have hol:(((imgS s).drop q).take 8).length=8:=(by rw [List.length_take,List.length_drop,hil];omega);have hob:∀x∈((imgS s).drop q).take 8,x<256:=img_sub;refine Zhh ?_;refine Zc4 ?_;refine tlm ?_;refine tl_c rfl (o_call bd276 rfl (rLoad_c (s:=s) (p:=q) (m:=8))) ?_;rintro _ _ ⟨a15,c15,rfl,hc15,rfl⟩;refine Zey ?_;refine tl_c rfl (o_call bd338 rfl (Take8R_c (xs:=((imgS s).drop q).take 8))) ?_;rintro _ _ ⟨rfl,rfl⟩;refine Zey ?_;refine Zl ?_;exact ⟨_,_,res1 rfl rfl,Dr.sat drqz,rfl,rfl⟩
theorem Zhz {p r:Prop}(k:r)(h:Kq r->p:=by intro k;refine ql_v rfl (o_pick_t rfl wqz) ?_;refine ql_v rfl (o_move wqz) ?_;exact k.o):p:=h ⟨k⟩
theorem Ze2 {p r:Prop}(k:r)(h:Kq r->p:=by intro k;refine ql_v rfl (o_pick_t rfl wqz) ?_;refine ql_nil ?_;exact k.o):p:=h ⟨k⟩
theorem Zia {p r:Prop}(k:r)(h:Kq r->p:=by intro k;refine ql_v rfl (o_fieldAddr (o:=0) underlying267 rfl rfl sz47 rfl) ?_;refine ql_v rfl (o_load p47 rfl haqz rfl) ?_;exact k.o):p:=h ⟨k⟩
theorem Zih {p r:Prop}(k:r)(h:Kq r->p:=by intro k;refine ql_v rfl (o_nilCheck rfl) ?_;refine ql_v rfl (o_fieldAddr (o:=0) underlying194 rfl rfl sz3 rfl) ?_;exact k.o):p:=h ⟨k⟩
theorem Zg5 {p r:Prop}(k:r)(h:Kq r->p:=by intro k;refine ql_v rfl (o_pick_f rfl wqz) ?_;refine ql_nil ?_;exact k.o):p:=h ⟨k⟩
theorem Ze3 {p r:Prop}(k:r)(h:Kq r->p:=by intro k;refine ql_v rfl (o_fieldAddr (o:=1) underlying267 rfl rfl sz3 rfl) ?_;refine ql_v rfl (o_load p3 rfl haqz rfl) ?_;exact k.o):p:=h ⟨k⟩
theorem Zib {p r:Prop}(k:r)(h:Kq r->p:=by intro k;refine ql_v rfl (o_fieldAddr (o:=2) underlying267 rfl rfl sz3 rfl) ?_;refine ql_v rfl (o_load p3 rfl haqz rfl) ?_;exact k.o):p:=h ⟨k⟩
theorem rMay11_c {A R:SP}{C:SP->SP}{r:Nat}{s:DevS}(hc:Ct A (RDev r s) R C:=by exact cbqz){bk at_ sz:Nat}(hl:Has A bk (cl (lcs11 r at_ sz) 267):=by exact hbqz){x:Int×Int}(hx:XW x:=by assumption)(hlw:LogW (s.ls.length*64) at_ sz:=by assumption):
    Fn Tryz.prog 316 #[pz bk,.agg (xcs x).toArray] A (λ r_ B=>r_= .bool (mayX (s.ls.length*64) at_ sz x)/\ A=B):=by
  refine fn_enterW func316 rfl ntmps316 (by simp) ?_;refine tc_have (λ _ _ h=>wfR_ct hc h) λ hw=> ?_
  have htop:=hw.top;have hpos:=hw.pos;obtain ⟨rfl,hC⟩:=hc;obtain ⟨⟨hx1,hx2⟩,⟨hx3,hx4⟩⟩:=hx;obtain ⟨w1,w2,w3,w4,w5⟩:=hlw;refine Zez ?_;rintro _ _ ⟨b3,rfl,rfl⟩;refine Zfc ?_;refine tc_cut (λ ρ BB=>∃ (bb:Bool),(bb=decide (¬(1<=x.2/\ 64<=x.1/\ x.1<=(s.ls.length:Int)*64/\ x.2<=(s.ls.length:Int)*64-x.1)))/\ ρ 39= .bool bb/\ ρ 0=(pz bk)/\ ρ 3=(pz b3)/\ BB=R*RDev r s*pt b3 (cl (xcs x) 365)) ?_ ?_
  . skip
    refine tc_regq mo kqz ?_;refine Zcl ?_;refine ql_v rfl (o_lss rfl rfl) ?_;refine ql_v rfl (o_move wqz) ?_;refine ql_bool (d:=8) rfl (λ h=> ?_) (λ h=> ?_)
    . have g8:(x.2<1):=(by first|exact of_decide_eq_true h|(have h2:=h;simp at h2;omega)|simpa using h);refine Zv ?_;refine ql_skip rfl ?_;refine Zhz ?_;refine Zgb ?_;refine Zv ?_;refine Zhz ?_;refine Zhx ?_;refine ql_skip rfl ?_;refine Ze2 ?_;exact ⟨_,by first|exact (decide_eq_true oqz).symm|exact (decide_eq_false oqz).symm|(rw [decide_eq_decide];omega),rfl,rfl,rfl,rfl⟩
    have g8:¬(x.2<1):=(by first|exact of_decide_eq_false h|(have h2:=h;simp at h2;omega)|simpa using h);refine Zbh ?_;refine ql_v rfl (o_lss rfl rfl) ?_;refine ql_v rfl (o_pick_f rfl wqz) ?_;refine ql_v rfl (o_move wqz) ?_;refine ql_bool (d:=13) rfl (λ h=> ?_) (λ h=> ?_)
    . have g13:(x.2<1∨x.1<64):=(by first|exact of_decide_eq_true h|(have h2:=h;simp at h2;omega)|simpa using h);refine Zgb ?_;refine Zv ?_;refine Zhz ?_;refine Zhx ?_;refine ql_skip rfl ?_;refine Ze2 ?_;exact ⟨_,by first|exact (decide_eq_true oqz).symm|exact (decide_eq_false oqz).symm|(rw [decide_eq_decide];omega),rfl,rfl,rfl,rfl⟩
    have g13:¬(x.2<1∨x.1<64):=(by first|exact of_decide_eq_false h|(have h2:=h;simp at h2;omega)|simpa using h);refine Zbh ?_;refine Zbs ?_;refine Zia ?_;refine Zih ?_;refine ql_v rfl (o_loadC (b:=r) p3 rfl (by repeat (first|exact cellR0|apply Cell.left))) ?_;refine ql_v rfl (o_gtr rfl rfl) ?_;refine ql_v rfl (o_pick_f rfl wqz) ?_;refine ql_v rfl (o_move wqz) ?_;refine ql_bool (d:=25) rfl (λ h=> ?_) (λ h=> ?_)
    . have g25:(x.2<1∨x.1<64∨(s.ls.length:Int)*64<x.1):=(by first|exact of_decide_eq_true h|(have h2:=h;simp at h2;omega)|simpa using h);refine Zhx ?_;refine ql_skip rfl ?_;refine Ze2 ?_;exact ⟨_,by first|exact (decide_eq_true oqz).symm|exact (decide_eq_false oqz).symm|(rw [decide_eq_decide];omega),rfl,rfl,rfl,rfl⟩
    have g25:¬(x.2<1∨x.1<64∨(s.ls.length:Int)*64<x.1):=(by first|exact of_decide_eq_false h|(have h2:=h;simp at h2;omega)|simpa using h);refine Zcl ?_;refine Zbs ?_;refine Zia ?_;refine Zih ?_;refine ql_v rfl (o_loadC (b:=r) p3 rfl (by repeat (first|exact cellR0|apply Cell.left))) ?_;refine Zbh ?_;refine ql_v rfl (o_subI rfl rfl oqz) ?_;refine ql_v rfl (o_gtr rfl rfl) ?_;refine Zg5 ?_;exact ⟨_,by first|exact (decide_eq_true oqz).symm|exact (decide_eq_false oqz).symm|(rw [decide_eq_decide];omega),rfl,rfl,rfl,rfl⟩
  intro ρ B hI;obtain ⟨bb,hbb0,hE39,hE0,hE3,rfl⟩:=hI;refine q_then_n ?_;refine te 39 hE39 ?_;refine te 0 hE0 ?_;refine te 3 hE3 ?_;refine tc_cond rfl (λ h=> ?_) (λ h=> ?_)
  . have hf:=of_decide_eq_true (show decide (¬(1<=x.2/\ 64<=x.1/\ x.1<=(s.ls.length:Int)*64/\ x.2<=(s.ls.length:Int)*64-x.1))=true by rw [←hbb0];exact h);refine Zdy ?_;have e:mayX (s.ls.length*64) at_ sz x=false:=decide_eq_false oqz;rw [e]
    exact ⟨.bool false,_,res1 rfl rfl,Dr.sat drqz,rfl,rfl⟩
  have hf:(1<=x.2/\ 64<=x.1/\ x.1<=(s.ls.length:Int)*64/\ x.2<=(s.ls.length:Int)*64-x.1):=(by have h9:=of_decide_eq_false (show decide (¬(1<=x.2/\ 64<=x.1/\ x.1<=(s.ls.length:Int)*64/\ x.2<=(s.ls.length:Int)*64-x.1))=false by rw [←hbb0];exact h);omega);refine Zdm ?_;refine tc_regq mo kqz ?_;refine Zbh ?_;refine Zcl ?_;refine ql_v rfl (o_addI rfl rfl oqz) ?_;refine Zbs ?_;refine Ze3 ?_;refine ql_v rfl (o_leq rfl rfl) ?_;refine ql_v rfl (o_move wqz) ?_;refine ql_bool (d:=50) rfl (λ h=> ?_) (λ h=> ?_)
  . have g50:(x.1+x.2<=at_):=(by first|exact of_decide_eq_true h|(have h2:=h;simp at h2;omega)|simpa using h);refine Zhx ?_;refine ql_v rfl (o_pick_t rfl wqz) ?_;refine Ze0 ?_;refine tc_ret ?_;have e:∀b,b=decide (x.1+x.2<=at_∨((at_+sz:Nat):Int)<=x.1)->mayX (s.ls.length*64) at_ sz x=b:=λ b hb=>by rw [hb];unfold mayX;rw [decide_eq_decide];omega
    exact ⟨.bool (mayX (s.ls.length*64) at_ sz x),_,res1 rfl (congrArg Value.bool (e _ (by first|exact (decide_eq_true oqz).symm|exact (decide_eq_false oqz).symm|(rw [decide_eq_decide];omega)))).symm,Dr.sat drqz,rfl,rfl⟩
  have g50:¬(x.1+x.2<=at_):=(by first|exact of_decide_eq_false h|(have h2:=h;simp at h2;omega)|simpa using h);refine Zbh ?_;refine Zbs ?_;refine Ze3 ?_;refine Zbs ?_;refine Zib ?_;refine ql_v rfl (o_addI rfl rfl oqz) ?_;refine Zhv ?_;refine Ze0 ?_;refine tc_ret ?_;have e:∀b,b=decide (x.1+x.2<=at_∨((at_+sz:Nat):Int)<=x.1)->mayX (s.ls.length*64) at_ sz x=b:=λ b hb=>by rw [hb];unfold mayX;rw [decide_eq_decide];omega
  exact ⟨.bool (mayX (s.ls.length*64) at_ sz x),_,res1 rfl (congrArg Value.bool (e _ (by first|exact (decide_eq_true oqz).symm|exact (decide_eq_false oqz).symm|(rw [decide_eq_decide];omega)))).symm,Dr.sat drqz,rfl,rfl⟩
end Go.Vl

namespace Go.Vl
open Go Go.Proofs Go.Proofs.Tryz
theorem Three_j {A:SP}{a1 a2 a3:Option Addr}{m1 m2 m3 c1 c2 c3 b:Nat}{xs ys zs:List Nat}{E:TypeId}(h1:Rs A a1 (bys xs))(h2:Rs A a2 (bys ys))(h3:Rs A a3 (bys zs))(e1:xs.length=m1)(e2:ys.length=m2)(e3:zs.length=m3)(hl:m1+m2+m3<=17592186044416):
    Fn Tryz.prog 75 #[.slice (some ⟨b,0,none⟩) 3 3] (A*pt b (cl [.slice a1 m1 c1,.slice a2 m2 c2,.slice a3 m3 c3] E)) (λ r B=>∃a c,r= .slice a (m1+m2+m3) c/\ m1+m2+m3<=c/\ B=A*pt b (cl [.slice a1 m1 c1,.slice a2 m2 c2,.slice a3 m3 c3] E)*Sl 1 (.slice a (m1+m2+m3) c) (m1+m2+m3) (bys (xs++ys++zs))):=by
  subst e1 e2 e3;refine fn_rs (xs:=[.slice a1 xs.length c1,.slice a2 ys.length c2,.slice a3 zs.length c3]) rs_pt0 λ hr=> ?_
  refine fn_rs h1.left λ h1=>fn_rs h2.left λ h2=>fn_rs h3.left λ h3=> ?_
  have key:=JoinN_f (A*pt b (cl [.slice a1 xs.length c1,.slice a2 ys.length c2,.slice a3 zs.length c3] E)) (some ⟨b,0,none⟩) 3 3 [xs,ys,zs] ⟨_,rfl,hr,λ i hi=>by
    match i,hi with
    |0,_=>exact ⟨a1,c1,rfl,h1⟩
    |1,_=>exact ⟨a2,c2,rfl,h2⟩
    |2,_=>exact ⟨a3,c3,rfl,h3⟩⟩ (by simp;omega) (by simp) rfl
  have e:([xs,ys,zs]:List (List Nat)).flatten=xs++ys++zs:=(by simp);rw [e] at key
  have e3:(xs++ys++zs).length=xs.length+ys.length+zs.length:=(by simp [Nat.add_assoc]);rw [e3] at key
  exact fn_sl key
theorem room_sub {at_ sz p k:Nat}{s:DevS}{room:List Nat}(hroom:roomS at_ sz s=room)(h:p+k<=sz-64):((imgS s).drop (at_+64+p)).take k=(room.drop p).take k:=by
  rw [←hroom];unfold roomS
  rw [List.drop_take,List.drop_drop,List.take_take,Nat.min_eq_left oqz]
theorem may_big2 {n at_ sz w m:Nat}(h:n<w∨n<m):mayX n at_ sz ((w:Int),(m:Int))=false:=decide_eq_false (by show¬((1:Int)<=(m:Int)/\ (64:Int)<=(w:Int)/\ (w:Int)+(m:Int)<=(n:Int)/\ _);omega)
theorem rnd_small {m:Nat}(h:m<=4194304):rndS m=(((up8 m:Nat):Int),0):=by
  unfold rndS;have:pad8 m<8:=(by unfold pad8;omega);rw [if_neg oqz]
attribute [local irreducible] crk crL crc Sl pt ro Dev RDev imgS recS
theorem rRec_c {A:SP}{a:Option Addr}{c m p:Nat}{xs:List Nat}(hr:Rs A a (bys xs):=by exact rbqz)(hm:xs.length=m:=by first|assumption|rfl)(hb:∀x∈xs,x<256:=by assumption)(hp:p<9223372036854775808:=by omega)(hml:m<=549755813888:=by omega):
    Fn Tryz.prog 318 #[vn p,.slice a m c] A (λ r B=>∃a2 c2,r= .slice a2 (24+up8 m) c2/\ 24+up8 m<=c2/\ B=A*Sl 1 (.slice a2 (24+up8 m) c2) (24+up8 m) (bys (recS p xs))):=by
  refine fn_enterW func318 rfl ntmps318 (by simp) ?_;obtain ⟨Z,hZ⟩:∃Z,crc 0 (recH p m++xs)=Z:=⟨_,rfl⟩;have hZb:∀x∈recH p m++xs,x<256:=λ x hx=>by rcases List.mem_append.1 hx with h1|h1;exact recH_b _ _ x h1;exact hb x h1
  have hZl:Z<4294967296:=hZ▸crc_lt (by decide) hZb
  obtain ⟨Y,hY⟩:∃Y,recH p m++le 8 Z++xs=Y:=⟨_,rfl⟩;have hYl:Y.length=24+m:=(by rw [←hY,List.length_append,List.length_append,recH_len,le_length,hm]);have hYr:recS p xs=Y++List.replicate (pad8 m) 0:=(by rw [←hY,←hZ,←hm];exact recS_eq _ _);refine Zgq ?_;refine tl_env (d:=9) (v:= .int .u64 ((p:Nat):Int)) (congrArg (λ z:Nat=>Value.int .u64 (z:Int)) (Nat.mod_eq_of_lt oqz)) ?_;refine tl_c rfl (o_call bd76 rfl (Little_c (v:=p) (n:=8))) ?_;rintro _ _ ⟨a10,c10,rfl,hc10,rfl⟩;refine Zgr ?_;refine tl_env (d:=13) (v:= .int .u64 ((m:Nat):Int)) (congrArg (λ z:Nat=>Value.int .u64 (z:Int)) (Nat.mod_eq_of_lt oqz)) ?_;refine tl_c rfl (o_call bd76 rfl (Little_c (v:=m) (n:=8))) ?_;rintro _ _ ⟨a14,c14,rfl,hc14,rfl⟩;refine tl_c rfl (o_call bd340 rfl (Two_c (xs:=le 8 p) (ys:=le 8 m) (h1:=(by repeat (first|with_reducible exact rs_sl|assumption|apply Rs.left))) (h2:=(by repeat (first|with_reducible exact rs_sl|assumption|apply Rs.left))) (e1:=le_length 8 p) (e2:=le_length 8 m))) ?_;rintro _ _ ⟨a15,c15,rfl,hc15,rfl⟩;refine Zhd ?_;refine tl_c rfl (o_call bd340 rfl (Two_c (xs:=le 8 p++le 8 m) (ys:=xs) (h1:=(by repeat (first|with_reducible exact rs_sl|assumption|apply Rs.left))) (h2:=(by repeat (first|with_reducible exact rs_sl|assumption|apply Rs.left))) (e1:=by rw [List.length_append,le_length,le_length]) (e2:=hm))) ?_;rintro _ _ ⟨a18,c18,rfl,hc18,rfl⟩;refine tl_c rfl (o_call bd341 rfl (SumR_c (xs:=le 8 p++le 8 m++xs) (hr:=(by repeat (first|with_reducible exact rs_sl|assumption|apply Rs.left))) (hm:=by rw [List.length_append,List.length_append,le_length,le_length,hm]) (hb:=hZb))) ?_;rintro _ _ ⟨rfl,rfl⟩;refine tl_env (d:=19) (v:= .int .u32 ((Z:Nat):Int)) (by show Value.int .u32 ((crc 0 (recH p m++xs):Nat):Int)=_;rw [hZ]) ?_;refine Zhd ?_;refine tv (by first|exact o_conv64 underlying53 underlying141 rfl|exact o_conv underlying53 underlying141 rfl) ?_;refine tl_env (d:=22) (v:= .int .u64 ((Z:Nat):Int)) (congrArg (λ z:Nat=>Value.int .u64 (z:Int)) (Nat.mod_eq_of_lt oqz)) ?_;refine tl_c rfl (o_call bd76 rfl (Little_c (v:=Z) (n:=8))) ?_;rintro _ _ ⟨a23,c23,rfl,hc23,rfl⟩;refine tlm ?_;refine tl_x rfl (o_buildSliceL (k:=1) (vs:=[.slice a15 (8+8) c15,.slice a23 8 c23,.slice a m c]) (l:=[.slice a15 (8+8) c15,.slice a23 8 c23,.slice a m c]) underlying35 sz67 z67 rfl rfl (by decide) (by decide) (by intro v hv;simp at hv;rcases hv with rfl|rfl|rfl<;>rfl) rfl) ?_;rintro _ _ ⟨b25,rfl,rfl⟩;refine tl_c rfl (o_call bd75 rfl (Three_j (xs:=le 8 p++le 8 m) (ys:=le 8 Z) (zs:=xs) (h1:=(by repeat (first|with_reducible exact rs_sl|assumption|apply Rs.left))) (h2:=(by repeat (first|with_reducible exact rs_sl|assumption|apply Rs.left))) (h3:=(by repeat (first|with_reducible exact rs_sl|assumption|apply Rs.left))) (e1:=by rw [List.length_append,le_length,le_length]) (e2:=le_length 8 Z) (e3:=hm) (hl:=by omega))) ?_;rintro _ _ ⟨a26,c26,rfl,hc26,rfl⟩;refine Za ?_;refine Zu ?_;refine tc_pre (A':=A*Sl 1 (.slice a26 (24+m+0) c26) (24+m+0) (bys (Y++List.replicate 0 0))) (λ g w h=>by have h2:=Dr.sat (A':=A*Sl 1 (.slice a26 (8+8+8+m) c26) (8+8+8+m) (bys (le 8 p++le 8 m++le 8 Z++xs))) drqz g w h;rw [show le 8 p++le 8 m++le 8 Z++xs=Y from hY] at h2;rw [show 24+m+0=8+8+8+m by omega,List.replicate_zero,List.append_nil];exact h2) ?_;refine tc_loop (λ kk ρ BB=>∃ (i:Nat) (a5:Option Addr) (c5:Nat),(i<=pad8 m)/\ (24+m+i<=c5)/\ kk=pad8 m-i/\ ρ 7= .slice a5 (24+m+i) c5/\ Dr BB (A*Sl 1 (.slice a5 (24+m+i) c5) (24+m+i) (bys (Y++List.replicate i 0)))) (m:=pad8 m-(0)) ?_ ?_
  . exact ⟨0,a26,c26,by omega,by omega,rfl,by rw [show 24+m+0=8+8+8+m by omega];rfl,drqz⟩
  intro k ρ B hI;obtain ⟨i,a5,c5,hp0,hp1,hkk1,hE7,hBA⟩:=hI;refine tc_pre hBA.sat ?_;clear hBA;refine te 7 hE7 ?_;refine Zm ?_;refine tv (o_len underlying67 rfl) ?_;refine tv (o_remN (b:=8) rfl rfl (by decide)) ?_;refine tl_env (d:=29) (v:= .int .i64 (((24+m+i)%8:Nat):Int)) (by first|rfl|(show Value.int .i64 _=_;congr 1;omega)) ?_;refine Z5 ?_;refine tc_cond rfl (λ h=> ?_) (λ h=> ?_)
  . have hi:i<pad8 m:=(by have h9:(24+m+i)%8≠0:=(by first|omega|(simp at h;omega));unfold pad8 at*;omega);have hi8:i<8:=(by have:pad8 m<8:=(by unfold pad8;omega);omega);refine Zf4 ?_;refine Zbr ?_;refine tl_x rfl (o_buildSliceL (k:=1) (vs:=bys [0]) (l:=bys [0]) underlying67 sz5 z5 rfl rfl (by decide) (by decide) (by intro v hv;simp only [bys,b8,List.map_cons,List.map_nil,List.mem_cons,List.not_mem_nil,or_false] at hv;rcases hv with rfl;rfl) rfl) ?_;rintro _ _ ⟨b32,rfl,rfl⟩;refine tl_x rfl (o_apB underlying67 underlying67 sz5 by5 z5 rfl (by decide) (by decide) rfl rfl rfl ctqz rfl rfl oqz (show _=bys (Y++List.replicate i 0++[0]) by rw [←bys_append])) ?_;rintro _ _ ⟨a33,c33,rfl,hc33,rfl⟩;refine Zie ?_;exact ⟨_,by omega,i+1,a33,c33,by omega,by omega,rfl,rfl,by rw [List.replicate_succ',←List.append_assoc];repeat (first|with_reducible exact dr_refl|apply dr_keep|apply dr_drop)⟩
  obtain rfl:i=pad8 m:=by have h9:(24+m+i)%8=0:=(by first|omega|(simp at h;omega));unfold pad8 at*;omega
  refine Zh6 ?_;rw [hYr,show 24+up8 m=24+m+pad8 m by unfold up8;omega]
  exact ⟨_,_,res1 rfl rfl,Dr.sat drqz,a5,c5,rfl,hp1,rfl⟩
theorem Ze6 {p r:Prop}(k:r)(h:Kq r->p:=by intro k;refine tv (o_extract rfl rfl) ?_;refine tla ?_;exact k.o):p:=h ⟨k⟩
theorem rread_c {A R:SP}{C:SP->SP}{r:Nat}{s:DevS}(hc:Ct A (RDev r s) R C:=by exact cbqz){bk at_ sz:Nat}(hl:Has R bk (cl (lcs11 r at_ sz) 267):=by exact hbqz)(hlw:LogW (s.ls.length*64) at_ sz:=by assumption){q p:Nat}{room:List Nat}(ho:s.off=false:=by assumption)(hroom:roomS at_ sz s=room:=by assumption)(hq:q=at_+64+p:=by omega)(hp:p<=sz-64:=by omega):
    Fn Tryz.prog 344 #[pz bk,vn q] A (λ r_ B=>∃a2 c2,r_= .tuple #[.agg #[.int .i64 ((rdW (readS (s.ls.length*64) at_ sz room p):Nat):Int),.slice a2 (rdO (readS (s.ls.length*64) at_ sz room p)).length c2],.int .i64 ((rkT (readS (s.ls.length*64) at_ sz room p):Nat):Int),.bool (readS (s.ls.length*64) at_ sz room p).isSome]/\ (rdO (readS (s.ls.length*64) at_ sz room p)).length<=c2/\ B=C (RDev r s)*Sl 1 (.slice a2 (rdO (readS (s.ls.length*64) at_ sz room p)).length c2) (rdO (readS (s.ls.length*64) at_ sz room p)).length (bys (rdO (readS (s.ls.length*64) at_ sz room p)))):=by
  refine fn_enterW func344 rfl ntmps344 (by simp) ?_;refine tc_have (λ _ _ h=>wfR_ct hc h) λ hw=> ?_
  have htop:=hw.top;have hpos:=hw.pos;obtain ⟨rfl,hC⟩:=hc;rw [hC]
  have hlw9:=hlw;obtain ⟨w1,w2,w3,w4,w5⟩:=hlw9;have hil:=imgS_len hw;have hrl:room.length=sz-64:=(by rw [←hroom];unfold roomS;rw [List.length_take,List.length_drop,hil];omega);have hb:∀x∈room,x<256:=λ x hx=>by rw [←hroom] at hx;exact img_sub x hx
  obtain ⟨w,hwq⟩:∃w,(nm ((room.drop p).take 8))=w:=⟨_,rfl⟩;obtain ⟨m,hmq⟩:∃m,(nm ((room.drop (p+8)).take 8))=m:=⟨_,rfl⟩;have hw8:w<18446744073709551616:=hwq▸nm8_lt λ x hx=>hb x (List.mem_of_mem_drop hx)
  have hm8:m<18446744073709551616:=hmq▸nm8_lt λ x hx=>hb x (List.mem_of_mem_drop hx)
  refine sr ?_;refine tl_x rfl (o_alloc z336 rfl) ?_;rintro _ _ ⟨b4,rfl,rfl⟩;refine tla ?_;refine Zci ?_;refine tc_regq mo kqz ?_;refine Zbs ?_;refine Ze3 ?_;refine Zbs ?_;refine Zib ?_;refine ql_v rfl adqz ?_;refine ql_env (d:=25) (v:=(vn (at_+sz))) (by first|rfl|(show Value.int .i64 _=_;congr 1;omega)) ?_;refine Ze0 ?_;refine Zm ?_;refine Zc0 ?_;refine Zx ?_;refine tc_cond rfl (λ h=> ?_) (λ h=> ?_)
  . have hsh:room.length<p+24:=(by first|omega|(simp at h;omega));refine Zhk ?_;have e0:(readS (s.ls.length*64) at_ sz room p)=none:=(by exact read_short hsh);rw [e0]
    exact ⟨.tuple #[.agg #[.int .i64 0,.slice none 0 0],.int .i64 0,.bool false],R*RDev r s*Sl 1 (.slice none 0 0) 0 [],resA3 rfl (rv_cell a336 sz336 rfl hsqz (by show 2<=2;decide) rfl) (rv_tmp rfl) (rv_tmp rfl),λ _ _ h=>sl_nil (Dr.sat drqz _ _ h),none,0,rfl,Nat.le_refl _,rfl⟩
  have hsh:¬room.length<p+24:=(by first|omega|(simp at h;omega));have hwq2:nm (((imgS s).drop q).take 8)=w:=(by rw [hq,room_sub hroom oqz];exact hwq);have hmq2:nm (((imgS s).drop (q+8)).take 8)=m:=(by rw [hq,show at_+64+p+8=at_+64+(p+8) by omega,room_sub hroom oqz];exact hmq);refine Zfm ?_;refine tl_c rfl (o_call bd315 rfl (rnum_c (s:=s) (q:=q))) ?_;rintro _ _ ⟨rfl,rfl⟩;refine tl_env (d:=33) (v:= .int .u64 (w:Nat)) (by show Value.int .u64 ((nm (((imgS s).drop q).take 8):Nat):Int)=_;rw [hwq2]) ?_;refine Zz ?_;refine Zcv ?_;refine tl_env (d:=36) (v:=(vn (q+8))) (by first|rfl|(show Value.int .i64 _=_;congr 1;omega)) ?_;refine tl_c rfl (o_call bd315 rfl (rnum_c (s:=s) (q:=q+8))) ?_;rintro _ _ ⟨rfl,rfl⟩;refine tl_env (d:=37) (v:= .int .u64 (m:Nat)) (by show Value.int .u64 ((nm (((imgS s).drop (q+8)).take 8):Nat):Int)=_;rw [hmq2]) ?_;refine Zfc ?_;refine tc_cut (λ ρ BB=>∃ (bb:Bool),(bb=decide (s.ls.length*64<w∨s.ls.length*64<m))/\ ρ 59= .bool bb/\ ρ 0=(pz bk)/\ ρ 1=(vn q)/\ ρ 4=(pz b4)/\ ρ 7=(vn (at_+sz))/\ ρ 8= .int .u64 (w:Nat)/\ ρ 9= .int .u64 (m:Nat)/\ BB=R*RDev r s*pt b4 (cl [.int .i64 0,.slice none 0 0] 336)) ?_ ?_
  . skip
    refine Zb0 ?_;refine tv (o_nilCheck rfl) ?_;refine Zc4 ?_;refine Zcf ?_;refine tv (o_loadC (b:=r) p3 rfl (by repeat (first|exact cellR0|apply Cell.left))) ?_;refine tv (by first|exact o_conv64 underlying3 underlying141 rfl|exact o_conv underlying3 underlying141 rfl) ?_;refine tl_env (d:=46) (v:= .int .u64 ((s.ls.length*64:Nat):Int)) (congrArg (λ z:Nat=>Value.int .u64 (z:Int)) (Nat.mod_eq_of_lt oqz)) ?_;refine tv (o_gtr rfl rfl) ?_;refine tlm ?_;refine tl_bool (d:=48) rfl (λ h=> ?_) (λ h=> ?_)
    . have g48:(s.ls.length*64<w):=(by first|exact of_decide_eq_true h|(have h2:=h;simp at h2;omega)|simpa using h);refine Zbj ?_;refine Zh7 ?_;refine Zbb ?_;exact ⟨_,by first|exact (decide_eq_true oqz).symm|exact (decide_eq_false oqz).symm|(rw [decide_eq_decide];omega),rfl,rfl,rfl,rfl,rfl,rfl,rfl,rfl⟩
    have g48:¬(s.ls.length*64<w):=(by first|exact of_decide_eq_false h|(have h2:=h;simp at h2;omega)|simpa using h);refine Zt ?_;refine tv (o_nilCheck rfl) ?_;refine Zc4 ?_;refine Zcf ?_;refine tv (o_loadC (b:=r) p3 rfl (by repeat (first|exact cellR0|apply Cell.left))) ?_;refine tv (by first|exact o_conv64 underlying3 underlying141 rfl|exact o_conv underlying3 underlying141 rfl) ?_;refine tl_env (d:=57) (v:= .int .u64 ((s.ls.length*64:Nat):Int)) (congrArg (λ z:Nat=>Value.int .u64 (z:Int)) (Nat.mod_eq_of_lt oqz)) ?_;refine Zf3 ?_;exact ⟨_,by first|exact (decide_eq_true oqz).symm|exact (decide_eq_false oqz).symm|(rw [decide_eq_decide];omega),rfl,rfl,rfl,rfl,rfl,rfl,rfl,rfl⟩
  intro ρ B hI;obtain ⟨bb,hbb0,hE59,hE0,hE1,hE4,hE7,hE8,hE9,rfl⟩:=hI;refine q_then_n ?_;refine te 59 hE59 ?_;refine te 0 hE0 ?_;refine te 1 hE1 ?_;refine te 4 hE4 ?_;refine te 7 hE7 ?_;refine te 8 hE8 ?_;refine te 9 hE9 ?_;refine tc_cond rfl (λ h=> ?_) (λ h=> ?_)
  . have hbig:=of_decide_eq_true (show decide (s.ls.length*64<w∨s.ls.length*64<m)=true by rw [←hbb0];exact h);refine Zhk ?_;have e0:(readS (s.ls.length*64) at_ sz room p)=none:=(by exact read_may (by rw [hwq,hmq];exact may_big2 hbig));rw [e0]
    exact ⟨.tuple #[.agg #[.int .i64 0,.slice none 0 0],.int .i64 0,.bool false],R*RDev r s*Sl 1 (.slice none 0 0) 0 [],resA3 rfl (rv_cell a336 sz336 rfl hsqz (by show 2<=2;decide) rfl) (rv_tmp rfl) (rv_tmp rfl),λ _ _ h=>sl_nil (Dr.sat drqz _ _ h),none,0,rfl,Nat.le_refl _,rfl⟩
  have hbig:=of_decide_eq_false (show decide (s.ls.length*64<w∨s.ls.length*64<m)=false by rw [←hbb0];exact h);have hxw:XW ((w:Int),(m:Int)):=⟨by show-9223372036854775808<=(w:Int)/\ (w:Int)<=9223372036854775807;omega,by show-9223372036854775808<=(m:Int)/\ (m:Int)<=9223372036854775807;omega⟩;refine Zb2 ?_;refine tv (o_conv underlying141 underlying3 rfl) ?_;refine tl_env (d:=62) (v:=(vn w)) (by show Value.int .i64 (IntKind.i64.wrap _)=_;rw [wr_i64 oqz]) ?_;refine Zg8 ?_;refine tl_env (d:=64) (v:=(vn m)) (by show Value.int .i64 (IntKind.i64.wrap _)=_;rw [wr_i64 oqz]) ?_;refine Zge ?_;rintro _ _ ⟨b10,rfl,rfl⟩;refine tl_u rfl (o_stUN (l':=xcs ((w:Int),(m:Int))) rfl upqz sz365 rfl rfl rfl (by show 2<=2;decide) rfl) ?_;refine nq ?_;refine Zm ?_;refine tv (o_loadN (vs:=xcs ((w:Int),(m:Int))) a365 sz365 rfl hsqz (by show 2<=2;decide) rfl) ?_;refine tl_c rfl (o_call bd316 rfl (rMay11_c (s:=s) (x:=((w:Int),(m:Int))) (hl:=by repeat (first|assumption|apply has_left)))) ?_;refine Zb1 ?_;refine nq ?_;refine tc_cond rfl (λ h=> ?_) (λ h=> ?_)
  . have hmy:mayX (s.ls.length*64) at_ sz ((w:Int),(m:Int))=false:=(by simpa using h);refine Zhk ?_;have e0:(readS (s.ls.length*64) at_ sz room p)=none:=(by exact read_may (by rw [hwq,hmq];exact hmy));rw [e0]
    exact ⟨.tuple #[.agg #[.int .i64 0,.slice none 0 0],.int .i64 0,.bool false],R*RDev r s*Sl 1 (.slice none 0 0) 0 [],resA3 rfl (rv_cell a336 sz336 rfl hsqz (by show 2<=2;decide) rfl) (rv_tmp rfl) (rv_tmp rfl),λ _ _ h=>sl_nil (Dr.sat drqz _ _ h),none,0,rfl,Nat.le_refl _,rfl⟩
  have hmy:mayX (s.ls.length*64) at_ sz ((w:Int),(m:Int))=true:=(by simpa using h);have hm1:1<=m:=(by rcases Nat.lt_or_ge m 1 with h9|h9;rw [may_zero1 h9] at hmy;exact absurd hmy (by decide);exact h9);have hup:=up8_le m;refine Ze ?_;refine sr ?_;refine Zbu ?_;refine tl_c rfl (o_call bd339 rfl (rRound8_c (n:=m))) ?_;refine Zfw ?_;refine tl_env (d:=75) (v:=(vn (up8 m))) (by show Value.int .i64 (rndS m).1=_;rw [rnd_small oqz]) ?_;refine Ze6 ?_;refine Zy ?_;refine Zgm ?_;refine tv (o_subI rfl rfl oqz) ?_;refine Zd8 ?_;refine tc_cond rfl (λ h=> ?_) (λ h=> ?_)
  . have hnr:room.length<p+(24+up8 m):=(by first|omega|(simp at h;omega));refine Zhk ?_;have e0:(readS (s.ls.length*64) at_ sz room p)=none:=(by exact read_need (by rw [hmq];exact hnr));rw [e0]
    exact ⟨.tuple #[.agg #[.int .i64 0,.slice none 0 0],.int .i64 0,.bool false],R*RDev r s*Sl 1 (.slice none 0 0) 0 [],resA3 rfl (rv_cell a336 sz336 rfl hsqz (by show 2<=2;decide) rfl) (rv_tmp rfl) (rv_tmp rfl),λ _ _ h=>sl_nil (Dr.sat drqz _ _ h),none,0,rfl,Nat.le_refl _,rfl⟩
  have hnr:¬room.length<p+(24+up8 m):=(by first|omega|(simp at h;omega));obtain ⟨old,hold⟩:∃old,((room.drop (p+24)).take m)=old:=⟨_,rfl⟩;have holl:old.length=m:=(by rw [←hold,List.length_take,List.length_drop];omega);have hob:∀x∈old,x<256:=λ x hx=>hb x (List.mem_of_mem_drop (List.mem_of_mem_take (hold.symm▸hx)))
  have hold2:((imgS s).drop (q+24)).take m=old:=(by rw [hq,show at_+64+p+24=at_+64+(p+24) by omega,room_sub hroom oqz];exact hold);have htk2:((imgS s).drop q).take (24+up8 m)=(room.drop p).take (24+up8 m):=(by rw [hq,room_sub hroom oqz]);refine Zdm ?_;refine tc_regh (S:=R*pt b4 (cl [.int .i64 0,.slice none 0 0] 336)*pt b10 (cl (xcs ((w:Int),(m:Int))) 365)) mo drqz ?_
  show TH _ _ _ _ _ 14 (Array.replicate 14 false) _ _
  refine Zb4 ?_;refine tm 2 rfl kqz rfl (o_fieldAddr (o:=0) underlying267 rfl rfl sz47 rfl) ?_;refine tm 3 rfl kqz rfl (o_load p47 rfl haqz rfl) ?_;refine tm 4 rfl kqz rfl (o_move wqz) ?_;refine tm 5 rfl kqz rfl adqz ?_;refine th_env (d:=90) (v:=(vn (q+24))) (by first|rfl|(show Value.int .i64 _=_;congr 1;omega)) ?_;refine Zfq ?_;refine th_one (i:=8) kqz ?_;refine oh_c rfl rfl rfl (o_call bd276 rfl (rLoad_c (s:=s) (p:=q+24) (m:=m))) ?_;rintro _ _ ⟨a93,c93,rfl,hc93,rfl⟩;refine ⟨by repeat (first|with_reducible exact dr_refl|apply dr_keep|apply dr_drop), ?_⟩;rw [hold2]
  refine Zg9 ?_;refine Zgh ?_;refine Zbv ?_;refine Zs ?_;refine Zc4 ?_;refine Zt ?_;refine tv adqz ?_;refine tl_env (d:=103) (v:=(vn (24+up8 m))) (by first|rfl|(show Value.int .i64 _=_;congr 1;omega)) ?_;refine tl_c rfl (o_call bd276 rfl (rLoad_c (s:=s) (p:=q) (m:=24+up8 m))) ?_;rintro _ _ ⟨a104,c104,rfl,hc104,rfl⟩;rw [htk2]
  refine Zdu ?_;refine Zbk ?_;refine tlm ?_;refine tl_c rfl (o_call bd318 rfl (rRec_c (p:=w) (m:=m) (xs:=old) (hr:=(by repeat (first|with_reducible exact rs_sl|assumption|apply Rs.left))) (hm:=holl))) ?_;rintro _ _ ⟨a111,c111,rfl,hc111,rfl⟩;refine tl_c rfl (o_call bd54 rfl (EqBytes_c (xs:=(room.drop p).take (24+up8 m)) (ys:=recS w old) (h1:=(by repeat (first|with_reducible exact rs_sl|assumption|apply Rs.left))) (h2:=(by repeat (first|with_reducible exact rs_sl|assumption|apply Rs.left))) (hx:=by rw [List.length_take,List.length_drop];omega) (hy:=by rw [recS_len,holl]))) ?_;refine Zb1 ?_;refine nq ?_;refine tc_cond rfl (λ h=> ?_) (λ h=> ?_)
  . have hne:recS w old≠(room.drop p).take (24+up8 m):=λ e=>by rw [e] at h;simp at h
    refine Zhk ?_;have e0:(readS (s.ls.length*64) at_ sz room p)=none:=(by exact read_bad hwq hmq (by rw [hold];exact hne));rw [e0]
    exact ⟨.tuple #[.agg #[.int .i64 0,.slice none 0 0],.int .i64 0,.bool false],R*RDev r s*Sl 1 (.slice none 0 0) 0 [],resA3 rfl (rv_cell a336 sz336 rfl hsqz (by show 2<=2;decide) rfl) (rv_tmp rfl) (rv_tmp rfl),λ _ _ h=>sl_nil (Dr.sat drqz _ _ h),none,0,rfl,Nat.le_refl _,rfl⟩
  have heq:recS w old=(room.drop p).take (24+up8 m):=(show (room.drop p).take (24+up8 m)=recS w old by simpa using h).symm;refine Ze ?_;refine sr ?_;refine Zbk ?_;refine Zhn ?_;refine Zcv ?_;refine tl_env (d:=120) (v:=(vn (24+up8 m))) (by first|rfl|(show Value.int .i64 _=_;congr 1;omega)) ?_;refine tl_u rfl (o_stUN (l':=[.int .i64 (w:Int),.slice a93 m c93]) rfl upqz sz336 rfl rfl rfl (by show 2<=2;decide) rfl) ?_;refine Z6 ?_;have e0:(readS (s.ls.length*64) at_ sz room p)=some ((w,old),24+up8 m):=(by rw [←hold];exact read_good hwq hmq hsh hmy hnr (by rw [hold];exact heq));rw [e0]
  exact ⟨.tuple #[.agg #[.int .i64 (w:Int),.slice a93 m c93],vn (24+up8 m),.bool true],R*RDev r s*Sl 1 (.slice a93 m c93) m (bys old),resA3 rfl (rv_cell a336 sz336 rfl hsqz (by show 2<=2;decide) rfl) (rv_tmp rfl) (rv_tmp rfl),Dr.sat drqz,a93,c93,by show _=Value.tuple #[.agg #[.int .i64 (w:Int),.slice a93 old.length c93],_,_];rw [holl];rfl,by show old.length<=c93;rw [holl];exact hc93,by show _=R*RDev r s*Sl 1 (.slice a93 old.length c93) old.length (bys old);rw [holl]⟩
end Go.Vl
